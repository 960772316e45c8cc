import Derived.Test.YtpagmogboinlpaaZX8
import Derived.ProofKit
import Derived.ChangeOld
import Derived.Deep.Slices
import Derived.OpenShut
import Derived.Below
import Derived.Carry
import Derived.WideShapes
namespace Go.Proofs.Ytpagmogboinlpaa.En
section
open Go
inductive Sh where
 |int (k:IntKind)|bl|str|ro (t:Ty)|own (r:Nat) (t:Ty)|ptr (n j:Nat)|em|dead|pro (t:Ty)|fc (g:Nat)|sub (r:Nat) (t:Ty)
abbrev Sh.D:Sh->Type
 | .int _=>Int| .bl=>Bool| .str=>ByteArray| .ro t=>List t.D| .pro t=>t.D| .sub _ _=>Nat×Nat| _=>Unit
abbrev iC.D:List Sh->Type
 | [] =>Unit
 |s::l=>s.D×iC.D l
inductive jB where
 |cl (s:Sh)|agg (l:List Sh)|st (n:Sn)|fn (f:FuncId) (l:List Sh)
abbrev jB.D:jB->Type
 | .cl s=>s.D| .agg l=>iC.D l| .st n=>n.D| .fn _ l=>iC.D l
abbrev mi.D:List (Nat×jB)->Type
 | [] =>Unit
 |x::l=>x.2.D×mi.D l
abbrev ml.D:List (List Sh)->Type
 | [] =>Unit
 |x::l=>iC.D x×ml.D l
abbrev gg.D:List Ty->Type
 | [] =>Unit
 |t::l=>List t.D×gg.D l
structure kL where
 env:List (Nat×jB)
 bx:List (List Sh)
 gh:List Ty
 fz:Nat
 nt:Nat
abbrev kL.D (L:kL):Type:=mi.D L.env×ml.D L.bx×gg.D L.gh
def vD (G:List (Option de)) (r:Nat):Nat:=match ga G r with |some (some tr)=>tr.l.length| _=>0
def Sh.mk (G:List (Option de)): (s:Sh)->s.D->Cl
 | .int k,n=> .c (.sc (.int k n))| .bl,v=> .c (.sc (.bool v))| .str,v=> .c (.sc (.string v))| .ro t,l=> .c (.ls t l)
 | .own r t,_=> .own ⟨r,[]⟩ t.width 0 (vD G r) true| .ptr n j,_=> .ptrB n j| .em,_=> .em| .dead,_=> .dead| .pro t,x=> .pro (t.flat x)| .fc g,_=> .c (.sc (.func (.func g) #[] #[]))| .sub r t,x=> .own ⟨r,[]⟩ t.width x.1 x.2 false
def iC.mk (G:List (Option de)): (l:List Sh)->iC.D l->List Cl
 | [],_=> []
 |s::l,x=>s.mk G x.1::iC.mk G l x.2
def jB.mk (G:List (Option de)): (v:jB)->v.D->V
 | .cl s,x=> .v (.cl (s.mk G x))| .agg l,x=> .v (.agg (iC.mk G l x))| .st n,x=> .v (.agg ((n.flat x).map .c))| .fn f l,x=> .v (.fn f (iC.mk G l x))
def mi.mk (G:List (Option de)): (l:List (Nat×jB))->mi.D l->List (Nat×V)
 | [],_=> []
 |x::l,d=>(x.1,x.2.mk G d.1)::mi.mk G l d.2
def ml.mk (G:List (Option de)): (l:List (List Sh))->ml.D l->List (List Cl)
 | [],_=> []
 |x::l,d=>iC.mk G x d.1::ml.mk G l d.2
def gg.mk: (l:List Ty)->gg.D l->List (Option de)
 | [],_=> []
 |t::l,d=>some ⟨t,d.1,none⟩::gg.mk l d.2
def kL.mk' (L:kL) (d:L.D):TS:= { env:=mi.mk (gg.mk L.gh d.2.2) L.env d.1,bx:=ml.mk (gg.mk L.gh d.2.2) L.bx d.2.1,gh:=gg.mk L.gh d.2.2,fz:=L.fz,nt:=L.nt }
section
variable {ρ:Type}
def Sh.un: (s:Sh)->Cl->(s.D->Option ρ)->Option ρ
 | .int k, .c (.sc (.int k' n)),κ=>bif decide (k'=k) then κ n else none
 | .bl, .c (.sc (.bool v)),κ=>κ v
 | .str, .c (.sc (.string v)),κ=>κ v
 | .ro t, .c (.ls t' l),κ=>match jo t' t l with |some l=>κ l|none=>none
 | .own r t, .own p sz _ _ w,κ=>match p.l with | [] =>(bif w&&Nat.beq p.r r&&Nat.beq sz t.width then κ () else none)| _=>none
 | .ptr n i, .ptrB m j,κ=>bif Nat.beq m n&&Nat.beq j i then κ () else none
 | .em, .em,κ=>κ ()
 | .dead, .dead,κ=>κ ()
 | .pro t, .pro xs,κ=>(match t.unflat xs with |some x=>κ x|none=>none)
 | .fc g, .c (.sc (.func (.func g') cs ts)),κ=>bif Nat.beq g' g&&Nat.beq cs.size 0&&Nat.beq ts.size 0 then κ () else none
 | .sub r t, .own p sz lo len w,κ=>match p.l with | [] =>(bif !w&&Nat.beq p.r r&&Nat.beq sz t.width then κ (lo,len) else none)| _=>none
 | _,_,_=>none
def iC.un: (l:List Sh)->List Cl->(iC.D l->Option ρ)->Option ρ
 | [],[],κ=>κ ()
 |s::l,c::cs,κ=>s.un c fun x=>iC.un l cs fun y=>κ (x,y)
 | _,_,_=>none
def jB.un: (v:jB)->V->(v.D->Option ρ)->Option ρ
 | .cl s, .v (.cl c),κ=>s.un c κ
 | .agg l, .v (.agg cs),κ=>iC.un l cs κ
 | .st n, .v (.agg cs),κ=>match nx cs with |some xs=>(match n.unflat xs with |some x=>κ x|none=>none)|none=>none
 | .fn f l, .v (.fn g cs),κ=>bif Nat.beq f g then iC.un l cs κ else none
 | _,_,_=>none
def mi.un: (l:List (Nat×jB))->List (Nat×V)->(mi.D l->Option ρ)->Option ρ
 | [],[],κ=>κ ()
 |x::l,y::m,κ=>bif Nat.beq x.1 y.1 then x.2.un y.2 fun a=>mi.un l m fun b=>κ (a,b) else none
 | _,_,_=>none
def ml.un: (l:List (List Sh))->List (List Cl)->(ml.D l->Option ρ)->Option ρ
 | [],[],κ=>κ ()
 |x::l,y::m,κ=>iC.un x y fun a=>ml.un l m fun b=>κ (a,b)
 | _,_,_=>none
def gg.un: (l:List Ty)->List (Option de)->(gg.D l->Option ρ)->Option ρ
 | [],[],κ=>κ ()
 |t::l,some tr::m,κ=>match tr.hole with
  |none=>(match jo tr.t t tr.l with |some a=>gg.un l m fun b=>κ (a,b)|none=>none)
  |some _=>none
 | _,_,_=>none
def kL.un (L:kL) (S:TS) (κ:L.D->Option ρ):Option ρ:=gg.un L.gh S.gh fun g=>mi.un L.env S.env fun e=>ml.un L.bx S.bx fun b=>bif Nat.beq S.fz L.fz&&Nat.beq S.nt L.nt then κ (e,b,g) else none
theorem Sh.un_some {G:List (Option de)} (hG: ∀r,r<G.length-> ∃tr,ga G r=some (some tr)): ∀ {s:Sh} {c:Cl} {κ:s.D->Option ρ} {r:ρ},c.ok G->s.un c κ=some r-> ∃x,c=s.mk G x/\κ x=some r:=by
 intro s c κ r hc h;cases s with
 |int k=>
  cases c with
  |c y=>cases y with
   |sc v=>cases v with
    |int k' n=>simp only[Sh.un] at h;obtain⟨h1,h⟩:=cX h;have:=of_decide_eq_true h1;subst this;exact⟨n,rfl,h⟩
    | _=>simp[Sh.un] at h
   |ls t l=>simp[Sh.un] at h
  | _=>simp[Sh.un] at h
 |bl=>
  cases c with
  |c y=>cases y with
   |sc v=>cases v with
    |bool v=>exact⟨v,rfl,h⟩
    | _=>simp[Sh.un] at h
   |ls t l=>simp[Sh.un] at h
  | _=>simp[Sh.un] at h
 |str=>
  cases c with
  |c y=>cases y with
   |sc v=>cases v with
    |string v=>exact⟨v,rfl,h⟩
    | _=>simp[Sh.un] at h
   |ls t l=>simp[Sh.un] at h
  | _=>simp[Sh.un] at h
 |ro t=>
  cases c with
  |c y=>cases y with
   |sc v=>simp[Sh.un] at h
   |ls t' l=>
    simp only[Sh.un] at h;split at h
    ·rename_i l' hl;obtain⟨e,hl⟩:=dJ hl;subst e;simp only at hl;subst hl;exact⟨l,rfl,h⟩
    ·cases h
  | _=>simp[Sh.un] at h
 |own q t=>
  cases c with
  |own p sz lo len w=>
   obtain⟨pr,pl⟩:=p;cases pl with
   |cons a l=>simp[Sh.un] at h
   |nil=>simp only[Sh.un] at h;obtain⟨h1,h'⟩:=cX h;clear h;simp only[al] at h1;obtain⟨⟨h0,h2⟩,h3⟩:=h1;have h2:pr=q:=ao h2;have h3:sz=t.width:=ao h3;subst h0 h2 h3;obtain⟨k1,k2⟩:=hc;obtain⟨_,k3,k4⟩:=k2 rfl;obtain⟨tr,htr⟩:=hG _ k1;have k5:=k4 tr (de.look htr);refine⟨(),?_,h'⟩;simp only[Sh.mk,vD,k3,k5,htr]
  |c y=>cases y<;>simp[Sh.un] at h
  | _=>simp[Sh.un] at h
 |sub q t=>
  cases c with
  |own p sz lo len w=>
   obtain⟨pr,pl⟩:=p;cases pl with
   |cons a l=>simp[Sh.un] at h
   |nil=>simp only[Sh.un] at h;obtain⟨h1,h'⟩:=cX h;clear h;simp only[al,bR] at h1;obtain⟨⟨h0,h2⟩,h3⟩:=h1;have h2:pr=q:=ao h2;have h3:sz=t.width:=ao h3;subst h0 h2 h3;exact⟨(lo,len),rfl,h'⟩
  |c y=>cases y<;>simp[Sh.un] at h
  | _=>simp[Sh.un] at h
 |ptr n i=>
  cases c with
  |ptrB m j=>simp only[Sh.un] at h;obtain⟨h1,h'⟩:=cX h;clear h;simp only[al] at h1;have h2:=ao h1.1;have h3:=ao h1.2;subst h2 h3;exact⟨(),rfl,h'⟩
  |c y=>cases y<;>simp[Sh.un] at h
  | _=>simp[Sh.un] at h
 |em=>
  cases c with
  |em=>exact⟨(),rfl,h⟩
  |c y=>cases y<;>simp[Sh.un] at h
  | _=>simp[Sh.un] at h
 |dead=>
  cases c with
  |dead=>exact⟨(),rfl,h⟩
  |c y=>cases y<;>simp[Sh.un] at h
  | _=>simp[Sh.un] at h
 |pro t=>
  cases c with
  |pro xs=>
   simp only[Sh.un] at h;split at h
   ·rename_i x hx;exact⟨x,by simp only[Sh.mk]; rw[t.unflat_some _ _ hx],h⟩
   ·cases h
  |c y=>cases y<;>simp[Sh.un] at h
  | _=>simp[Sh.un] at h
 |fc g=>
  unfold Sh.un at h;split at h
  all_goals first | (rename_i hh; cases hh; done)|skip
  all_goals try (rename_i hh _; cases hh; done)
  ·rename_i e;cases e;obtain⟨h1,h'⟩:=cX h;simp only[al] at h1;obtain⟨⟨h1,h2⟩,h3⟩:=h1;have h1:=ao h1;have h2:=b9 (ao h2);have h3:=b9 (ao h3);exact⟨(),by rw[h1,h2,h3]; rfl,h'⟩
  ·cases h
theorem iC.un_some {G:List (Option de)} (hG: ∀r,r<G.length-> ∃tr,ga G r=some (some tr)): ∀ {l:List Sh} {cs:List Cl} {κ:iC.D l->Option ρ} {r:ρ},(∀c∈cs,c.ok G)->iC.un l cs κ=some r-> ∃x,cs=iC.mk G l x/\κ x=some r
 | [],[],κ,r,_,h=>⟨(),rfl,h⟩
 |s::l,c::cs,κ,r,hc,h=>by unfold iC.un at h;obtain⟨x,h1,h⟩:=Sh.un_some hG (hc c aE) h;obtain⟨y,h2,h⟩:=iC.un_some hG (fun z hz=>hc z (az _ hz)) h;exact⟨(x,y),by rw[h1,h2]; rfl,h⟩
 | [],c::cs,κ,r,_,h=>by simp[iC.un] at h
 |s::l,[],κ,r,_,h=>by simp[iC.un] at h
theorem jZ: ∀ {cs:List Cl} {xs:List C},nx cs=some xs->cs=xs.map .c
 | [],xs,h=>by simp only[nx,ae] at h; subst h; rfl
 |c::cs,xs,h=>by
  cases c with
  |c y=>
   simp only[nx] at h;split at h
   ·rename_i r hr;simp only[ae] at h;subst h;rw[jZ hr];rfl
   ·cases h
  | _=>simp[nx] at h
theorem jB.un_some {G:List (Option de)} (hG: ∀r,r<G.length-> ∃tr,ga G r=some (some tr)) {s:jB} {v:V} {κ:s.D->Option ρ} {r:ρ} (hv:v.ok G) (h:s.un v κ=some r): ∃x,v=s.mk G x/\κ x=some r:=by
 cases v with
 |tup l=>cases s<;>simp[jB.un] at h
 |v y=>
  cases s with
  |cl s=>cases y with
   |cl c=>obtain⟨x,h1,h⟩:=Sh.un_some hG hv h;exact⟨x,by rw[h1]; rfl,h⟩
   | _=>simp[jB.un] at h
  |agg l=>cases y with
   |agg cs=>obtain⟨x,h1,h⟩:=iC.un_some hG hv h;exact⟨x,by rw[h1]; rfl,h⟩
   | _=>simp[jB.un] at h
  |st n=>cases y with
   |agg cs=>
    simp only[jB.un] at h;split at h
    ·rename_i xs hxs;split at h
     ·rename_i x hx;exact⟨x,by rw[jZ hxs]; simp only[jB.mk]; rw[n.unflat_some _ _ hx],h⟩
     ·cases h
    ·cases h
   | _=>simp[jB.un] at h
  |fn f l=>cases y with
   |fn g cs=>simp only[jB.un] at h;obtain⟨h0,h'⟩:=cX h;clear h;have h0:=ao h0;subst h0;obtain⟨x,h1,h⟩:=iC.un_some hG hv h';exact⟨x,by rw[h1]; rfl,h⟩
   | _=>simp[jB.un] at h
theorem mi.un_some {G:List (Option de)} (hG: ∀r,r<G.length-> ∃tr,ga G r=some (some tr)): ∀ {l:List (Nat×jB)} {m:List (Nat×V)} {κ:mi.D l->Option ρ} {r:ρ},(∀x∈m,x.2.ok G)->mi.un l m κ=some r-> ∃x,m=mi.mk G l x/\κ x=some r
 | [],[],κ,r,_,h=>⟨(),rfl,h⟩
 |s::l,c::cs,κ,r,hc,h=>by unfold mi.un at h;obtain⟨h0,h⟩:=cX h;have h0:=ao h0;obtain⟨x,h1,h⟩:=jB.un_some hG (hc c aE) h;obtain⟨y,h2,h⟩:=mi.un_some hG (fun z hz=>hc z (az _ hz)) h;refine⟨(x,y),?_,h⟩;rw[h2];obtain⟨c1,c2⟩:=c;simp only at h0 h1;rw[h1,<-h0];rfl
 | [],c::cs,κ,r,_,h=>by simp[mi.un] at h
 |s::l,[],κ,r,_,h=>by simp[mi.un] at h
theorem ml.un_some {G:List (Option de)} (hG: ∀r,r<G.length-> ∃tr,ga G r=some (some tr)): ∀ {l:List (List Sh)} {m:List (List Cl)} {κ:ml.D l->Option ρ} {r:ρ},(∀cs∈m,∀c∈cs,c.ok G)->ml.un l m κ=some r-> ∃x,m=ml.mk G l x/\κ x=some r
 | [],[],κ,r,_,h=>⟨(),rfl,h⟩
 |s::l,c::cs,κ,r,hc,h=>by unfold ml.un at h;obtain⟨x,h1,h⟩:=iC.un_some hG (hc c aE) h;obtain⟨y,h2,h⟩:=ml.un_some hG (fun z hz=>hc z (az _ hz)) h;exact⟨(x,y),by rw[h1,h2]; rfl,h⟩
 | [],c::cs,κ,r,_,h=>by simp[ml.un] at h
 |s::l,[],κ,r,_,h=>by simp[ml.un] at h
theorem gg.un_some: ∀ {l:List Ty} {m:List (Option de)} {κ:gg.D l->Option ρ} {r:ρ},gg.un l m κ=some r-> ∃x,m=gg.mk l x/\κ x=some r
 | [],[],κ,r,h=>⟨(),rfl,h⟩
 |t::l,some tr::m,κ,r,h=>by
  unfold gg.un at h;split at h
  ·rename_i hh;split at h
   ·rename_i a ha;obtain⟨e,hl⟩:=dJ ha;obtain⟨y,h2,h⟩:=gg.un_some h;obtain⟨t',l',hole⟩:=tr;simp only at hh e hl ha;subst hh e;simp only at hl;subst hl;exact⟨(l',y),by rw[h2]; rfl,h⟩
   ·cases h
  ·cases h
 | [],c::cs,κ,r,h=>by simp[gg.un] at h
 |t::l,[],κ,r,h=>by simp[gg.un] at h
 |t::l,none::m,κ,r,h=>by simp[gg.un] at h
theorem gg.mk_some: ∀ (l:List Ty) (d:gg.D l) (r:Nat),r< (gg.mk l d).length-> ∃tr,ga (gg.mk l d) r=some (some tr)
 | [],d,r,h=>by simp[gg.mk] at h
 |t::l,d,0,h=>⟨_,rfl⟩
 |t::l,d,r+1,h=>by obtain⟨tr,htr⟩:=gg.mk_some l d.2 r (by simpa [gg.mk] using h);exact⟨tr,htr⟩
theorem kL.un_some {L:kL} {S:TS} (hS:S.ok) {κ:L.D->Option ρ} {r:ρ} (h:L.un S κ=some r): ∃d,S=L.mk' d/\κ d=some r:=by
 unfold kL.un at h;obtain⟨g,h1,h⟩:=gg.un_some h;have hG: ∀r,r<S.gh.length-> ∃tr,ga S.gh r=some (some tr):=by rw[h1]; exact gg.mk_some _ _
 obtain⟨e,h2,h⟩:=mi.un_some hG hS.env h;obtain⟨b,h3,h⟩:=ml.un_some hG hS.bx h;obtain⟨h4,h⟩:=cX h;simp only[al] at h4;have h5:=ao h4.1;have h6:=ao h4.2;refine⟨(e,b,g),?_,h⟩;obtain⟨env,bx,gh,fz,nt⟩:=S;simp only at h1 h2 h3 h5 h6;subst h5 h6;unfold kL.mk';simp only;rw[<-h1,<-h2,<-h3]
end
end
section
open Go
inductive wZ where
 |t (x:Nat) (t:Ty)
 |b (n j:Nat) (t:Ty)
section
variable {P:Program} {Θ:fp} {Y:kI} {Λ:iL}
end
end
section
open Go
abbrev iH.D:List Ty->Type
 | [] =>Unit
 |t::l=>t.D×iH.D l
def iM: (l:List Ty)->iH.D l->List ((t:Ty)×t.D)
 | [],_=> []
 |t::l,x=>⟨t,x.1⟩::iM l x.2
def qC (P:Program) (f:FuncId) (e:tW):Prop:= ∀args ρ κ r,e args ρ κ=some r-> ∃res out,qt P f args res out/\res.ok (out.map some)/\κ res out=some r
theorem uz (P:Program):fy P (sD []):=fun _ _ _ _ _ h=>by cases h
theorem s9 {P:Program} {f:FuncId} {e:tW} {l:List (Nat×tW)} (h:qC P f e) (hl:fy P (sD l)):fy P (sD ((f,e)::l)):=by
 intro g args ρ κ r hr;have hr: (bif Nat.beq f g then e args ρ κ else vy l g args ρ κ)=some r:=hr;cases hb:Nat.beq f g with
 |true=>rw[hb] at hr;have:=ao hb;subst this;exact h args ρ κ r hr
 |false=>rw[hb] at hr;exact hl g args ρ κ r hr
def rI (as bs:List AV):Prop:=as.length=bs.length/\ ∀ (k:Nat) (a b:AV),as[k]? =some a->bs[k]? =some b->a=b\/(a= .em/\ ∃s,b= .ro s [])
theorem rI.refl (as:List AV):rI as as:=⟨rfl,fun k a b h1 h2=>by rw[h1] at h2; cases h2; exact .inl rfl⟩
theorem rI.cons {a b:AV} {as bs:List AV} (h:a=b\/(a= .em/\ ∃s,b= .ro s [])) (hn:rI as bs):rI (a::as) (b::bs):=
 ⟨by simp[hn.1],fun k x y h1 h2=>by
  cases k with
  |zero=>simp only[aB,ae] at h1 h2; subst h1 h2; exact h
  |succ k=>exact hn.2 k x y (by simpa using h1) (by simpa using h2)⟩
theorem rI.VR {as bs:List AV} (hn:rI as bs) {w:World} {bt:Bt} {vals:List Value} (h: ∀ (k:Nat) (v:AV) (u:Value),as[k]? =some v->vals[k]? =some u->VR w bt v u) (k:Nat) (v:AV) (u:Value) (hv:bs[k]? =some v) (hu:vals[k]? =some u):VR w bt v u:=by
 have hk:k<as.length:=by rw[hn.1]; exact (af.1 hv).1
 have ha:=ai hk;have hx:=h k _ u ha hu;rcases hn.2 k _ v ha hv with e| ⟨e,s,rfl⟩
 ·rw[<-e]; exact hx
 ·rw[e] at hx;cases hx with
  |em b=>exact .ro (.em _ _ _)
theorem fM.norm {P:Program} {f:FuncId} {as bs:List AV} {gs:List T} {res:AV} {out:List T} (hn:rI as bs) (h:fM P f bs gs res out):fM P f as gs res out:=
 fun w W bt0 vals hI hl hv=>h w W bt0 vals hI (hl.trans hn.1) (hn.VR hv)
theorem f8.norm {P:Program} {f:FuncId} {as bs:List AV} {gs:List T} {m:Nat} {res:AV} {out:List T} (hn:rI as bs) (h:f8 P f bs gs m res out):f8 P f as gs m res out:=
 fun w W bt0 vals hI hl hv=>h w W bt0 vals hI (hl.trans hn.1) (hn.VR hv)
theorem un_some {ρ:Type} {t:Ty} {a:V1} {κ:t.D->Option ρ} {r:ρ} (h:un t a κ=some r): ∃x,a=ny t x/\κ x=some r:=by
 unfold un at h;split at h
 ·rename_i cs;obtain⟨h1,h⟩:=cX h;split at h
  ·rename_i xs hxs;split at h
   ·rename_i x hx;refine⟨x,?_,h⟩;unfold ny;rw[h1,t.unflat_some _ _ hx,jZ hxs];rfl
   ·cases h
  ·cases h
 ·rename_i y;cases hag:t.ag with
  |true=>rw[hag] at h; cases h
  |false=>
   rw[hag] at h;simp only[cond_false] at h;split at h
   ·rename_i x hx;refine⟨x,?_,h⟩;unfold ny;rw[hag,t.unflat_some _ _ hx];rfl
   ·cases h
 ·cases h
theorem vE (t:Ty) (x:t.D): (ny t x).ok [] :=by
 unfold ny;cases t.ag with
 |true=>intro c hc;obtain⟨y,_,rfl⟩:=aI.1 hc;trivial
 |false=>
  simp only[cond_false];split
  ·rename_i c hc;have :c∈(t.flat x).map Cl.c:=by rw[hc]; exact aA.2 rfl
   obtain⟨y,_,rfl⟩:=aI.1 this;trivial
  ·trivial
theorem nE (jC suf:List de): ∀ (cs:List C) (mid:List de),∀c∈i5 cs (jC.length+mid.length),c.ok ((jC++mid++fD cs++suf).map some)
 | [],mid,c,h=>by cases h
 | .sc v::cs,mid,c,h=>by
   rcases aV.1 h with rfl|h
   ·trivial
   ·exact nE jC suf cs mid c h
 | .ls t l::cs,mid,c,h=>by
   rcases aV.1 h with rfl|h
   ·refine⟨by simp[fD],fun _=>⟨rfl,rfl,fun tr htr=> ?_⟩⟩
    have :du ((jC++mid++fD (.ls t l::cs)++suf).map some) (jC.length+mid.length)=some ⟨t,l,none⟩:=by unfold du;rw[dE,an,aN,aL (by simp)];simp[fD]
    have htr':du ((jC++mid++fD (.ls t l::cs)++suf).map some) (jC.length+mid.length)=some tr:=htr;rw[this] at htr';cases htr';rfl
   ·have:=nE jC suf cs (mid++ [⟨t,l,none⟩]) c (by rw[bk,<-cI]; exact h);simp only[fD];simpa using this
theorem uA (t:Ty) (x:t.D) (jC suf:List de): (rk t x jC.length).ok ((jC++fD (t.flat x)++suf).map some):=by
 have eI:=nE jC suf (t.flat x) [];simp only[bS,bU,bm] at eI;unfold rk;cases t.ag with
 |true=>exact eI
 |false=>
  simp only[cond_false];split
  ·rename_i c hc;exact eI c (by rw[hc]; exact aA.2 rfl)
  ·trivial
theorem o6: ∀ (l:List ((t:Ty)×t.D)) (jC:List de),∀v∈mB jC.length l,v.ok ((jC++jr l).map some)
 | [],jC,v,h=>by cases h
 | ⟨t,x⟩::l,jC,v,h=>by
   rcases aV.1 h with rfl|h
   ·have:=uA t x jC (jr l);simpa [jr] using this
   ·have:=o6 l (jC++fD (t.flat x)) v (by rw[bk]; exact h);simpa [jr] using this
theorem tc (l:List ((t:Ty)×t.D)): (pV (mB 0 l)).ok ((jr l).map some):=by
 have h:=o6 l [];simp only[bS,bG] at h
 match mB 0 l,h with
 | [],_=>exact fun x hx=>by cases hx
 | [v],h=>exact h v aE
 |v::u::vs,h=>exact h
end
section
open Go
def Sh.fit (n:Nat):Sh->Bool| .own r _=>Nat.blt r n| .sub r _=>Nat.blt r n| _=>true
def jB.fit (n:Nat):jB->Bool| .cl s=>s.fit n| .agg l=>l.all (Sh.fit n)| .st _=>true| .fn _ l=>l.all (Sh.fit n)
def kL.fit (L:kL):Bool:=L.env.all (fun x=>x.2.fit L.gh.length)&&L.bx.all (fun l=>l.all (Sh.fit L.gh.length))
theorem gg.mk_length: ∀ (l:List Ty) (d:gg.D l),(gg.mk l d).length=l.length
 | [],_=>rfl
 |t::l,d=>by simp[gg.mk,gg.mk_length l d.2]
theorem Sh.mk_ok {G:List (Option de)} {s:Sh} (h:s.fit G.length=true) (x:s.D): (s.mk G x).ok G:=by
 cases s with
 |own r t=>
  refine⟨aw h,fun _=>⟨rfl,rfl,fun tr htr=> ?_⟩⟩;unfold du at htr;unfold vD;have htr': (ga G r).getD none=some tr:=htr;cases hn:ga G r with
  |none=>rw[hn] at htr'; cases htr'
  |some y=>rw[hn] at htr'; simp only[aD] at htr'; subst htr'; rfl
 |sub r t=>exact⟨aw h,fun e=>by cases e⟩
 | _=>trivial
theorem iC.mk_ok {G:List (Option de)}: ∀ {l:List Sh},l.all (Sh.fit G.length)=true-> ∀ (x:iC.D l),∀c∈iC.mk G l x,c.ok G
 | [],_,x,c,hc=>by cases hc
 |s::l,h,x,c,hc=>by
  simp only[bN,al] at h;rcases aV.1 hc with rfl|hc
  ·exact Sh.mk_ok h.1 x.1
  ·exact iC.mk_ok h.2 x.2 c hc
theorem jB.mk_ok {G:List (Option de)} {v:jB} (h:v.fit G.length=true) (x:v.D): (v.mk G x).ok G:=by
 cases v with
 |cl s=>exact Sh.mk_ok h x
 |agg l=>exact iC.mk_ok h x
 |st n=>intro c hc;obtain⟨y,_,rfl⟩:=aI.1 hc;trivial
 |fn f l=>exact iC.mk_ok h x
theorem kL.mk'_ok {L:kL} (h:L.fit=true) (d:L.D): (L.mk' d).ok:=by
 unfold kL.fit at h;simp only[al] at h;have hlen: (gg.mk L.gh d.2.2).length=L.gh.length:=gg.mk_length _ _;rw[<-hlen] at h
 have env: ∀ {l:List (Nat×jB)},l.all (fun x=>x.2.fit (gg.mk L.gh d.2.2).length)=true-> ∀ (e:mi.D l),∀x∈mi.mk (gg.mk L.gh d.2.2) l e,x.2.ok (gg.mk L.gh d.2.2):=by
  intro l
  induction l with
  |nil=>intro _ e x hx; cases hx
  |cons y l ih=>
   intro h e x hx;simp only[bN,al] at h;rcases aV.1 hx with rfl|hx
   ·exact jB.mk_ok h.1 e.1
   ·exact ih h.2 e.2 x hx
 have bxs: ∀ {l:List (List Sh)},l.all (fun l=>l.all (Sh.fit (gg.mk L.gh d.2.2).length))=true-> ∀ (e:ml.D l),∀cs∈ml.mk (gg.mk L.gh d.2.2) l e,∀c∈cs,c.ok (gg.mk L.gh d.2.2):=by
  intro l
  induction l with
  |nil=>intro _ e x hx; cases hx
  |cons y l ih=>
   intro h e x hx;simp only[bN,al] at h;rcases aV.1 hx with rfl|hx
   ·exact iC.mk_ok h.1 e.1
   ·exact ih h.2 e.2 x hx
 exact⟨env h.1 d.1,bxs h.2 d.2.1⟩
abbrev rx.D:List (X×kL)->Type
 | [] =>Empty
 | [x] =>x.2.D
 |x::y::l=>x.2.D⊕rx.D (y::l)
def rx.k {R:Type}: (l:List (X×kL))->rx.D l->(X->TS->R)->R
 | [],e,_=>e.elim
 | [x],d,κ=>κ x.1 (x.2.mk' d)
 |x::y::l,e,κ=>Sum.elim (fun d=>κ x.1 (x.2.mk' d)) (fun e=>rx.k (y::l) e κ) e
def rx.e (l:List (X×kL)) (d:rx.D l):X×TS:=rx.k l d Prod.mk
def w2 (x:X×kL):Bool:=(match x.1 with | .nor=>false| _=>true)&&x.2.fit
theorem rx.ok: ∀ (l:List (X×kL)) (d:rx.D l),l.all w2=true->(rx.e l d).1≠ .nor/\(rx.e l d).2.ok
 | [],e,_=>e.elim
 | [x],d,h=>by simp only[bN,al,w2] at h;refine⟨fun e=> ?_,kL.mk'_ok h.1.2 d⟩;have e:x.1= .nor:=e;rw[e] at h;cases h.1.1
 |x::_::_, .inl d,h=>by simp only[bN,al,w2] at h;refine⟨fun e=> ?_,kL.mk'_ok h.1.2 d⟩;have e:x.1= .nor:=e;rw[e] at h;cases h.1.1
 | _::y::l, .inr e,h=>rx.ok (y::l) e (by simp only[bN,al] at h ⊢;exact h.2)
abbrev qD:=TS->(ρ:Type)->(X->TS->Option ρ)->Option ρ
def ry:List (Nat×qD)->iL
 | [],_,_,_,_=>none
 | (q,e)::l,n,S,ρ,κ=>bif Nat.beq q n then e S ρ κ else ry l n S ρ κ
section
variable {P:Program} {Θ:fp} {Y:kI} {Λ:iL}
def vF (P:Program) (c:Code) (e:qD):Prop:= ∀ (S:TS) (ρ:Type) (κ:X->TS->Option ρ) (r:ρ),S.ok->e S ρ κ=some r->gG P (.loop c) S.st (fun x S'=> ∃S1:TS,S'=S1.st/\S1.ok/\κ x S1=some r)
end
end
section
open Go
def uB (P:Program) (e:TypeId->List Value->Bool):List Field->Nat->List Value->Bool
 | [],_,[] =>true
 | [],_,_::_=>false
 |f::fs,off,zs=>f.name != "_" &&Nat.beq f.offset off&&Nat.blt 0 (P.cellsOf f.type)&&Nat.ble (P.cellsOf f.type) zs.length&&(P.info? f.type).isSome&&e f.type (zs.take (P.cellsOf f.type))&&uB P e fs (off+P.cellsOf f.type) (zs.drop (P.cellsOf f.type))
def o7 (P:Program):Nat->TypeId->List Value->Bool
 | 0,_,_=>false
 |n+1,t,zs=>match P.underlying t with
  |some .bool=>(match zs with | [.bool _] =>true| _=>false)
  |some (.int _)=>(match zs with | [.int _ _] =>true| _=>false)
  |some (.struct fs)=> !P.stoodInHeld t&&uB P (o7 P n) fs.toList 0 zs
  | _=>false
def mm (P:Program) (t:TypeId) (xs:List Value):Value:=match P.underlying t with
 |some (.struct _)=> .agg xs.toArray
 | _=>xs.headD (.bool false)
def ei:List Value->List Value->Bool
 | [],[] =>true
 | .int k _::zs, .int k' _::cs=>bif decide (k=k') then ei zs cs else false
 | .bool _::zs, .bool _::cs=>ei zs cs
 | _,_=>false
def ex:List Value->List Value->Option Bool
 | [],[] =>some true
 |a::l,b::m=>match oF a b,ex l m with
  |some x,some y=>some (x&&y)
  | _,_=>none
 | _,_=>none
theorem lQ: ∀ {zs xs:List Value},ej zs (xs.map fun x=> .c (.sc x))=true->ei zs xs=true:=by
 intro zs
 induction zs with
 |nil=>intro xs h; cases xs with
  |nil=>rfl
  |cons=>simp[ej] at h
 |cons z zs ih=>
  intro xs h;cases xs with
  |nil=>cases z<;>simp[ej] at h
  |cons x xs=>
   cases z<;>cases x<;>simp only[aJ,ej,ei,cond_eq_ite,aM] at h ⊢
   ·exact ih h
   ·split at h
    ·rename_i hk;rw[if_pos hk];exact ih h
    ·cases h
theorem rz: ∀ {xs ys:List Value},it (xs.map fun x=> .c (.sc x)) (ys.map fun x=> .c (.sc x))=ex xs ys:=by
 intro xs
 induction xs with
 |nil=>intro ys; cases ys<;>rfl
 |cons x xs ih=>
  intro ys;cases ys with
  |nil=>rfl
  |cons y ys=>simp only[aJ,it,ex,ih];cases oF x y<;>cases ex xs ys<;>rfl
theorem fE: ∀ {zs xs:List Value},ei zs xs=true->xs.length=zs.length:=by
 intro zs
 induction zs with
 |nil=>intro xs h; cases xs with
  |nil=>rfl
  |cons=>simp[ei] at h
 |cons z zs ih=>
  intro xs h;cases xs with
  |nil=>cases z<;>simp[ei] at h
  |cons x xs=>
   cases z<;>cases x<;>simp only[ei,cond_eq_ite,aM] at h
   ·simp[ih h]
   ·split at h
    ·simp[ih h]
    ·cases h
theorem gM: ∀ {zs xs:List Value} (n:Nat),ei zs xs=true->ei (zs.take n) (xs.take n)=true/\ei (zs.drop n) (xs.drop n)=true:=by
 intro zs
 induction zs with
 |nil=>intro xs n h; cases xs with
  |nil=>simp[ei]
  |cons=>simp[ei] at h
 |cons z zs ih=>
  intro xs n h;cases xs with
  |nil=>cases z<;>simp[ei] at h
  |cons x xs=>
   cases n with
   |zero=>exact⟨rfl,h⟩
   |succ n=>
    cases z<;>cases x<;>simp only[ei,cond_eq_ite,aM] at h
    ·exact ih n h
    ·split at h
     ·rename_i hk;refine⟨?_,(ih n h).2⟩;simp only[List.take_succ_cons,ei,cond_eq_ite];rw[if_pos (by simpa using hk)];exact (ih n h).1
     ·cases h
theorem nF: ∀ {xs ys:List Value} (n:Nat) {r:Bool},ex xs ys=some r-> ∃a b,ex (xs.take n) (ys.take n)=some a/\ex (xs.drop n) (ys.drop n)=some b/\r=(a&&b):=by
 intro xs
 induction xs with
 |nil=>intro ys n r h; cases ys with
  |nil=>cases h; exact⟨true,true,by simp[ex],by simp[ex],rfl⟩
  |cons=>simp[ex] at h
 |cons x xs ih=>
  intro ys n r h;cases ys with
  |nil=>simp[ex] at h
  |cons y ys=>
   cases n with
   |zero=>exact⟨true,r,rfl,h,rfl⟩
   |succ n=>
    simp only[ex] at h;split at h
    ·rename_i p q hp hq;cases h;obtain⟨a,b,h1,h2,rfl⟩:=ih n hq;exact⟨p&&a,b,by simp[ex,hp,h1],h2,by cases p<;>rfl⟩
    ·cases h
theorem nG {P:Program} {t:TypeId} {i:TypeInfo} (h:P.info? t=some i):c7 P (typeInfo t)=some i:=by simp only[typeInfo,c5,program,c7,ak,h];rfl
theorem o8 {P:Program} {t:TypeId} {i:TypeInfo} (hi:P.info? t=some i) {d:TypeDesc} (hd:P.underlying t=some d) (hs: ∀n e,d≠ .array n e) {xs:List Value} {off:Nat} {c:Value} (hc:xs[off]? =some c):
  c7 P (part t xs.toArray off)=some (mm P t ((xs.drop off).take (P.cellsOf t)))\/P.cellsOf t=0:=by
 by_cases h0:P.cellsOf t=0
 ·exact .inr h0
 refine .inl ?_;have hcell:P.cellsOf t=i.size:=by simp[Program.cellsOf,hi]
 cases hst: (match d with | .struct _=>true| _=>false) with
 |true=>
  have hag:c7 P (isAgg t)=some true:=by simp only[isAgg,c5,dl hd,ak];cases d<;>simp at hst;rfl
  simp only[part,sizeOf,c5,hag,ak,if_true,nG hi,c6,mm,hd];cases d<;>simp at hst;simp[hcell,Nat.add_sub_cancel_left]
 |false=>
  have hag:c7 P (isAgg t)=some false:=by
   simp only[isAgg,c5,dl hd,ak];cases d<;>simp at hst
   all_goals first |rfl|exact absurd rfl (hs _ _)
  have hv:mm P t ((xs.drop off).take (P.cellsOf t))=c:=by
   have : ((xs.drop off).take (P.cellsOf t)).headD (.bool false)=c:=by
    obtain⟨n,hn⟩: ∃n,P.cellsOf t=n+1:=⟨P.cellsOf t-1,by omega⟩
    have h1:off<xs.length:=(af.1 hc).1;rw[hn,ci h1,List.take_succ_cons];exact (af.1 hc).2
   unfold mm;rw[hd];cases d<;>first |exact this|simp at hst
  rw[hv];simp only[part,c5,hag,ak,aM,if_false];have :xs.toArray[off]? =some c:=by simpa using hc
  rw[this];rfl
theorem qE (P:Program): ∀ (n:Nat) {t:TypeId} {zs xs ys:List Value} {r:Bool} (d:Nat),o7 P n t zs=true->ei zs xs=true->ei zs ys=true->ex xs ys=some r->c7 P (Op.equalIn (n+d) t (mm P t xs) (mm P t ys))=some r
 | 0,t,zs,xs,ys,r,d,h,_,_,_=>by cases h
 |n+1,t,zs,xs,ys,r,d,h,hx,hy,he=>by
  have hn:n+1+d=(n+d)+1:=by omega
  rw[hn];unfold o7 at h;cases hu:P.underlying t with
  |none=>rw[hu] at h; cases h
  |some D=>
   rw[hu] at h;cases D<;>simp only[aM] at h
   case bool=>
    split at h
    case h_2=>cases h
    obtain⟨x,rfl⟩: ∃x,xs= [.bool x] :=by
     match xs,hx with
     | [.bool x],_=>exact⟨x,rfl⟩
    obtain⟨y,rfl⟩: ∃y,ys= [.bool y] :=by
     match ys,hy with
     | [.bool y],_=>exact⟨y,rfl⟩
    simp only[ex,oF,cJ,ae] at he;subst he;simp only[mm,hu,List.headD_cons];rw[Op.equalIn];simp only[c5,dl hu,ak,c6]
   case int k=>
    split at h
    case h_2=>cases h
    rename_i k0 _
    obtain⟨x,rfl⟩: ∃x,xs= [.int k0 x] :=by
     match xs,hx with
     | [.int k1 x],hx=>
       simp only[ei,cond_eq_ite] at hx;split at hx
       ·rename_i hk; simp at hk; subst hk; exact⟨x,rfl⟩
       ·cases hx
     | .int _ _::_::_,hx=>simp[ei] at hx
    obtain⟨y,rfl⟩: ∃y,ys= [.int k0 y] :=by
     match ys,hy with
     | [.int k1 x],hx=>
       simp only[ei,cond_eq_ite] at hx;split at hx
       ·rename_i hk; simp at hk; subst hk; exact⟨x,rfl⟩
       ·cases hx
     | .int _ _::_::_,hx=>simp[ei] at hx
    simp only[ex,oF,cJ,ae] at he;subst he;simp only[mm,hu,List.headD_cons];rw[Op.equalIn];simp only[c5,dl hu,ak,c6,if_true]
   case struct fs=>
    simp only[al,bR] at h;obtain⟨hst,h⟩:=h;simp only[mm,hu]
    have eI: ∀ (fs:List Field) (off:Nat) (zs:List Value) (r:Bool),uB P (o7 P n) fs off zs=true->ei zs (xs.drop off)=true->ei zs (ys.drop off)=true->ex (xs.drop off) (ys.drop off)=some r->
      c7 P (Op.eqFields (n+d) xs.toArray ys.toArray fs)=some r:=by
     intro fs
     induction fs with
     |nil=>
      intro off zs r h hx hy he;cases zs with
      |nil=>have h1:=fE hx;have h2:=fE hy;simp only[bS,cF] at h1 h2;rw[h1,h2] at he;cases he;rfl
      |cons=>cases h
     |cons f fs ih=>
      intro off zs r h hx hy he;simp only[uB,al,bne_iff_ne,ne_eq] at h;obtain⟨⟨⟨⟨⟨⟨hname,hoff⟩,hpos⟩,hle⟩,hi⟩,h1⟩,h2⟩:=h;have hoff:=ao hoff;have hpos:0<P.cellsOf f.type:=aw hpos;have hle:P.cellsOf f.type<=zs.length:=aw hle;have hlx:=fE hx;have hly:=fE hy;rw[ca] at hlx hly;obtain⟨i,hi⟩:=bc.1 hi
      have hu': ∃D,P.underlying f.type=some D/\ ∀n e,D≠ .array n e:=by
       cases hun:P.underlying f.type with
       |none=>cases n<;>simp[o7,hun] at h1
       |some D=>refine⟨D,rfl,fun k e he=> ?_⟩; subst he; cases n<;>simp[o7,hun] at h1
      obtain⟨D,hD,hDa⟩:=hu';have px:=o8 hi hD hDa (xs:=xs) (off:=off) (ai (by omega));have py:=o8 hi hD hDa (xs:=ys) (off:=off) (ai (by omega));have px:=px.resolve_right (by omega);have py:=py.resolve_right (by omega);obtain⟨a,b,ha,hb,rfl⟩:=nF (P.cellsOf f.type) he;have hA:=qE P n d h1 (gM _ hx).1 (gM _ hy).1 ha;rw[Op.eqFields,if_pos hname];simp only[hoff,c5,px,py,ak,hA];cases a with
      |false=>rfl
      |true=>
       simp only[cz,aM,if_false,Bool.true_and];simp only[bQ] at hb;refine ih _ _ _ h2 ?_ ?_ hb
       ·have:=(gM (P.cellsOf f.type) hx).2; rw[bQ] at this; exact this
       ·have:=(gM (P.cellsOf f.type) hy).2; rw[bQ] at this; exact this
    have:=eI fs.toList 0 zs r h (by simpa using hx) (by simpa using hy) (by simpa using he);rw[<-this];rw[Op.equalIn];simp only[c5,dl hu,ak,program,c7,hst,aM,if_false];rw[<-Array.forIn_toList];generalize fs.toList=fs;clear this eI h hu hst hn
    induction fs with
    |nil=>rfl
    |cons f fs ih=>
     simp only[List.forIn_cons,Op.eqFields];split
     ·simp only[c5];cases c7 P (part f.type xs.toArray f.offset) with
      |none=>rfl
      |some a=>
       cases c7 P (part f.type ys.toArray f.offset) with
       |none=>rfl
       |some b=>
        simp only[ak];cases c7 P (Op.equalIn (n+d) f.type a b) with
        |none=>rfl
        |some q=>
         cases q
         ·rfl
         ·simp only[ak,cz,aM,if_false,c6];simpa only[c5,Option.bind_assoc] using ih
     ·simp only[c5,c6,ak];simpa only[c5,Option.bind_assoc] using ih
theorem v8 {P:Program} {t:TypeId} {zs:List Value} {fs:Array Field} (hu:P.underlying t=some (.struct fs)) (h:o7 P 8 t zs=true) (a b:List Cl) (r:Bool) (xs ys:List Value) (ha:ej zs a=true) (hb:ej zs b=true) (he:it a b=some r) (hx:a=xs.map (fun x=> .c (.sc x))) (hy:b=ys.map (fun x=> .c (.sc x))):
  c7 P (Op.equal t (.agg xs.toArray) (.agg ys.toArray))=some r:=by
 subst hx hy;have:=qE P 8 9992 h (lQ ha) (lQ hb) (by rw[<-rz]; exact he);unfold mm at this;rw[hu] at this;exact this
end
section
open Go
def wR (P:Program):List Field->Option (List (Nat×Nat×Bool))
 | [] =>some []
 |f::fs=>match lZ P f.type,wR P fs with
  |some ag,some l=>some ((f.offset,P.cellsOf f.type,ag)::l)
  | _,_=>none
def w3 (P:Program) (t:TypeId):Option (List (Nat×Nat×Bool)):=match P.underlying t with |some (.struct fs)=>wR P fs.toList| _=>none
theorem qF {P:Program}: ∀ {fs:List Field} {l:List (Nat×Nat×Bool)},wR P fs=some l-> ∀k,(fs[k]?).bind (fun f=>(lZ P f.type).map fun ag=>(f.offset,P.cellsOf f.type,ag))=ga l k
 | [],l,h,k=>by cases h; rfl
 |f::fs,l,h,k=>by
  unfold wR at h;split at h
  ·rename_i ag l' h1 h2;cases h;cases k with
   |zero=>simp[h1,ga]
   |succ k=>show _=ga l' (k+1-1);rw[cb,<-qF h2 k,cG]
  ·cases h
theorem uC {P:Program} {t:TypeId} {l:List (Nat×Nat×Bool)} (h:w3 P t=some l) (k:Nat):rH P t k=ga l k:=by
 unfold w3 at h;unfold rH;split at h
 ·rename_i fs hu;simp only[hu];rw[<-qF h k,b6]
 ·cases h
theorem uD (P:Program):dA P [] :=fun _ _ h=>by cases h
theorem dj {P:Program} {t:Nat} {ti:TI} {l:fp} (h:ti.ok P t) (hl:dA P l):dA P ((t,ti)::l):=by
 intro u ui hu;unfold eH at hu;cases hb:Nat.beq t u with
 |true=>rw[hb] at hu;have:=ao hb;subst this;cases hu;exact h
 |false=>rw[hb] at hu;exact hl u ui hu
def v9 (P:Program) (t:TypeId):Bool:=match P.underlying t with |some (.struct _)=>true| _=>false
section
variable {P:Program} {t:TypeId}
theorem ii {n:Sn} {fds:List (Nat×Nat×Bool)} {by':Nat} (h1:v9 P t=true) (h2:P.cellsOf t=(Ty.st n).width) (h3:ff P 9 t=(Ty.st n).shs) (h4:jA P t=some (Ty.st n).zvs) (h5:w3 P t=some fds)
  (h6:vR P t=some (fds.map fun x=>(x.1,x.2.1))) (h7: ((Ty.st n).flatB=true->P.eqGuardType P.depth t=false/\o7 P 8 t (Ty.st n).zvs=true)) (hz: (Ty.st n).flatB=false-> ∀xs:List Value,ej (Ty.st n).zvs (xs.map fun x=> .c (.sc x))=false):TI.ok P t ⟨.st n,0,fds,by'⟩:=by
 unfold v9 at h1;split at h1
 case h_2=>cases h1
 rename_i fs hu;refine⟨?_,h2,h3,h4,uC h5,fun _=>h6,fun e he=>(by cases he),fun hb=>(by cases hb),fun _ hf=>(h7 hf).1,fun _ a b r xs ys ha hb he hx hy=> ?_,?_,fun k hk=>(by cases hk)⟩
 ·simp[lZ,hu,Ty.ag]
 ·cases hf: (Ty.st n).flatB with
  |true=>exact v8 hu (h7 hf).2 a b r xs ys ha hb he hx hy
  |false=>subst hx;have:=hz hf xs;rw[show ej (Ty.st n).zvs _=true from ha] at this;cases this
 ·simp[mQ,hu]
theorem mL {e:Ty} {el:Nat} {by':Nat} {u:TypeId} (h1:iG P t=some u) (h2:P.cellsOf t=1) (h4:jA P t=some [.slice none 0 0]) (h5:P.cellsOf u=e.width) (h6:P.bytesOf u=el) (h7:Nat.blt 0 el=true) (h8:ff P 9 u=e.shs) (h9:jA P u=some e.zvs):TI.ok P t ⟨.ls e,el,[],by'⟩:=by
 have hu:P.underlying t=some (.slice u):=by
  unfold iG at h1;split at h1
  ·rename_i e hu; cases h1; exact hu
  ·cases h1
 refine⟨?_,h2,?_,h4,fun k=> ?_,fun h=>(by cases h),fun e' he=> ?_,fun hb=>(by cases hb),fun h=>(by cases h),fun h=>(by cases h),?_,fun k hk=>(by cases hk)⟩
 ·simp[lZ,hu,Ty.ag]
 ·simp[ff,hu,Ty.shs,Ty.csh,h5]
 ·simp[rH,hu,ga]
 ·cases he;exact⟨u,h1,h5,h6,aw h7,h8,h9⟩
 ·simp[mQ,hu]
def xg (P:Program) (t:TypeId) (y:Ty):Bool:=match P.underlying t,y with
 |some (.int k), .i k'=>decide (k=k')
 |some .bool, .b=>true
 |some .string, .s=>true
 | _,_=>false
theorem jy {y:Ty} {by':Nat} (h1:xg P t y=true) (h2:P.cellsOf t=1) (h4:jA P t=some y.zvs):TI.ok P t ⟨y,0,[],by'⟩:=by
 unfold xg at h1;split at h1
 ·rename_i k k' hu;refine⟨(by simp[lZ,hu,Ty.ag]),h2,(by simp[ff,hu,Ty.shs,Ty.csh]),h4,fun k=>(by simp[rH,hu,ga]),fun h=>(by cases h),fun e' he=>(by cases he),fun hb=>(by cases hb),fun h=>(by cases h),fun h=>(by cases h),by simp[mQ,hu],fun q hq=>(by cases hq; rw[hu]; simp only[decide_eq_true_eq] at h1; rw[h1])⟩
 ·rename_i hu;refine⟨(by simp[lZ,hu,Ty.ag]),h2,(by simp[ff,hu,Ty.shs,Ty.csh]),h4,fun k=>(by simp[rH,hu,ga]),fun h=>(by cases h),fun e' he=>(by cases he),fun hb=>hu,fun h=>(by cases h),fun h=>(by cases h),by simp[mQ,hu],fun q hq=>(by cases hq)⟩
 ·rename_i hu;refine⟨(by simp[lZ,hu,Ty.ag]),h2,(by simp[ff,hu,Ty.shs,Ty.csh]),h4,fun k=>(by simp[rH,hu,ga]),fun h=>(by cases h),fun e' he=>(by cases he),fun hb=>(by cases hb),fun h=>(by cases h),fun h=>(by cases h),by simp[mQ,hu],fun q hq=>(by cases hq)⟩
 ·cases h1
end
theorem i9: ∀ {zs:List Value} (xs:List Value),zs.any (fun z=>match z with | .int _ _=>false| .bool _=>false| _=>true)=true->ej zs (xs.map fun x=> .c (.sc x))=false
 | [],xs,h=>by cases h
 |z::zs,xs,h=>by
  cases hb:ej (z::zs) (xs.map fun x=> .c (.sc x)) with
  |false=>rfl
  |true=>
   exfalso;cases xs with
   |nil=>cases z<;>simp[ej] at hb
   |cons x xs=>
    cases z<;>simp only[ej,aJ,aM] at hb
    all_goals cases x<;>simp only[ej,cond_eq_ite,aM] at hb
    ·rw[i9 xs (by simpa using h)] at hb; cases hb
    ·split at hb
     ·rw[i9 xs (by simpa using h)] at hb; cases hb
     ·cases hb
end
section
open Go
section
variable {σ ε:Type}
end
inductive kC where
 |ty (t:Ty)|pr (t:Ty)|fc (g:Nat)|fn (g:Nat) (caps:List Ty)|nl
abbrev kC.D:kC->Type
 | .ty t=>t.D
 | .pr t=>t.D
 | .fc _=>Unit
 | .fn _ caps=>iH.D caps
 | .nl=>Unit
abbrev gV.D:List kC->Type
 | [] =>Unit
 |p::l=>p.D×gV.D l
def nH: (l:List Ty)->iH.D l->List Cl
 | [],_=> []
 |t::l,x=> .pro (t.flat x.1)::nH l x.2
def kC.v1: (p:kC)->p.D->V1
 | .ty t,x=>ny t x
 | .pr t,x=> .cl (.pro (t.flat x))
 | .fc g,_=> .cl (.c (.sc (.func (.func g) #[] #[])))
 | .fn g caps,x=> .fn g (nH caps x)
 | .nl,_=> .cl .em
def fb: (l:List kC)->gV.D l->List V1
 | [],_=> []
 |p::l,x=>p.v1 x.1::fb l x.2
def uE {ρ:Type} (t:Ty) (c:Cl) (κ:t.D->Option ρ):Option ρ:=match c with
 | .pro xs=>(match t.unflat xs with |some x=>κ x|none=>none)
 | _=>none
def j3 {ρ:Type}: (l:List Ty)->List Cl->(iH.D l->Option ρ)->Option ρ
 | [],[],κ=>κ ()
 |t::l,c::cs,κ=>uE t c fun x=>j3 l cs fun y=>κ (x,y)
 | _,_,_=>none
def wb {ρ:Type}: (t:Ty)->V1->(t.D->Option ρ)->Option ρ
 | .ls _, .cl .em,κ=>κ []
 |t,a,κ=>un t a κ
def wS {ρ:Type}: (p:kC)->V1->(p.D->Option ρ)->Option ρ
 | .ty t,a,κ=>wb t a κ
 | .pr t, .cl c,κ=>uE t c κ
 | .fc g, .cl (.c (.sc (.func (.func g') cs ts))),κ=>bif Nat.beq g' g&&Nat.beq cs.size 0&&Nat.beq ts.size 0 then κ () else none
 | .fn g caps, .fn g' cs,κ=>bif Nat.beq g' g then j3 caps cs κ else none
 | .nl, .cl .em,κ=>κ ()
 | _,_,_=>none
def nI {ρ:Type}: (l:List kC)->List V1->(gV.D l->Option ρ)->Option ρ
 | [],[],κ=>κ ()
 |p::l,a::as,κ=>wS p a fun x=>nI l as fun y=>κ (x,y)
 | _,_,_=>none
def p9 (ps:List kC) (rs:List Ty) (G:gV.D ps->Option (iH.D rs)):tW:=fun args _ κ=>nI ps args fun x=>(G x).bind fun y=>ret (iM rs y) κ
theorem mM {ρ:Type} {t:Ty} {c:Cl} {κ:t.D->Option ρ} {r:ρ} (h:uE t c κ=some r): ∃x,c= .pro (t.flat x)/\κ x=some r:=by
 unfold uE at h;split at h
 ·split at h
  ·rename_i x hx;exact⟨x,by rw[t.unflat_some _ _ hx],h⟩
  ·cases h
 ·cases h
theorem kr {ρ:Type}: ∀ {l:List Ty} {cs:List Cl} {κ:iH.D l->Option ρ} {r:ρ},j3 l cs κ=some r-> ∃x,cs=nH l x/\κ x=some r
 | [],[],κ,r,h=>⟨(),rfl,h⟩
 |t::l,c::cs,κ,r,h=>by unfold j3 at h;obtain⟨x,h1,h⟩:=mM h;obtain⟨y,h2,h⟩:=kr h;exact⟨(x,y),by rw[h1,h2]; rfl,h⟩
 | [],_::_,κ,r,h=>by simp[j3] at h
 | _::_,[],κ,r,h=>by simp[j3] at h
theorem td {ρ:Type} {t:Ty} {a:V1} {κ:t.D->Option ρ} {r:ρ} (h:wb t a κ=some r): ∃x,(a.av=(ny t x).av\/(a.av= .em/\ ∃s,(ny t x).av= .ro s []))/\κ x=some r:=by
 unfold wb at h;split at h
 ·exact⟨[], .inr ⟨rfl,_,rfl⟩,h⟩
 ·obtain⟨x,e,h'⟩:=un_some h;exact⟨x, .inl (by rw[e]),h'⟩
theorem te {ρ:Type} {p:kC} {a:V1} {κ:p.D->Option ρ} {r:ρ} (h:wS p a κ=some r): ∃x,(a.av=(p.v1 x).av\/(a.av= .em/\ ∃s,(p.v1 x).av= .ro s []))/\κ x=some r:=by
 unfold wS at h;split at h
 ·exact td h
 ·obtain⟨x,h1,h⟩:=mM h;exact⟨x, .inl (by rw[h1]; rfl),h⟩
 ·obtain⟨h1,h⟩:=cX h;simp only[al] at h1;obtain⟨⟨h1,h2⟩,h3⟩:=h1;have h1:=ao h1;have h2:=b9 (ao h2);have h3:=b9 (ao h3);exact⟨(), .inl (by rw[h1,h2,h3]; rfl),h⟩
 ·obtain⟨h1,h⟩:=cX h;obtain⟨x,h2,h⟩:=kr h;exact⟨x, .inl (by rw[ao h1,h2]; rfl),h⟩
 ·exact⟨(), .inl rfl,h⟩
 ·cases h
theorem j6 {ρ:Type}: ∀ {l:List kC} {as:List V1} {κ:gV.D l->Option ρ} {r:ρ},nI l as κ=some r-> ∃x,rI (as.map V1.av) ((fb l x).map V1.av)/\κ x=some r
 | [],[],κ,r,h=>⟨(),rI.refl _,h⟩
 |p::l,a::as,κ,r,h=>by unfold nI at h;obtain⟨x,h1,h⟩:=te h;obtain⟨y,h2,h⟩:=j6 h;exact⟨(x,y),rI.cons h1 h2,h⟩
 | [],_::_,κ,r,h=>by simp[nI] at h
 | _::_,[],κ,r,h=>by simp[nI] at h
theorem mN (G:List (Option de)): ∀ (l:List Ty) (x:iH.D l),∀c∈nH l x,c.ok G
 | [],x,c,h=>by cases h
 |t::l,x,c,h=>by
  rcases aV.1 h with rfl|h
  ·trivial
  ·exact mN G l x.2 c h
theorem kC.ok (p:kC) (x:p.D): (p.v1 x).ok [] :=by
 cases p with
 |ty t=>exact vE t x
 |pr t=>trivial
 |fc g=>trivial
 |fn g caps=>exact mN [] caps x
 |nl=>trivial
theorem mO: ∀ (l:List kC) (x:gV.D l),∀a∈fb l x,a.ok []
 | [],x,a,h=>by cases h
 |p::l,x,a,h=>by
  rcases aV.1 h with rfl|h
  ·exact p.ok x.1
  ·exact mO l x.2 a h
theorem uF {P:Program} {Θ:fp} {Y:kI} {Λ:iL} (hΘ:dA P Θ) (hY:fy P Y) (hm:P.follows .mixedOrders=true) {f:FuncId} {fn:Func} (hf:uT P f=some fn) (hL: ∀c,fn.body=some c->eO P Λ (dT c)) {ps:List kC} {rs:List Ty} {G:gV.D ps->Option (iH.D rs)} (hk:Nat.blt f 1048576=true)
  (F:gV.D ps->Option (iH.D rs)) (hF: ∀x,wP Θ Y Λ fn (fb ps x) (fun v g=>some (v,g))=(F x).bind fun y=>ret (iM rs y) (fun v g=>some (v,g))) (hG: ∀x y,G x=some y->F x=some y):qC P f (p9 ps rs G):=by
 intro args ρ κ r hr;unfold p9 at hr;obtain⟨x,hn,hr2⟩:=j6 hr;obtain⟨y,h1,hr3⟩:=ah.1 hr2;exact⟨_,_, .of_fn (fM.norm hn (vC hΘ hY hm hf hL (mO ps x) (by rw[hF,hG x y h1]; rfl))) (aw hk),tc _,hr3⟩
def lR (fn:Func):Code:=match fn.body with |some c=>c|none=> .skip
theorem wc {P:Program} {Λ:iL} {fn:Func} {cs:List Code} (h:dT (lR fn)=cs) (H:eO P Λ cs) (c:Code) (hc:fn.body=some c):eO P Λ (dT c):=by
 have :lR fn=c:=by unfold lR; rw[hc]
 rw[<-this,h];exact H
end
section
open Go
inductive Kc where|i (k:IntKind)|b|s|ls (t:Ty)
 deriving DecidableEq
def tf:List (Option Ty)->List Value->List Kc
 |some t::l,_::m=> .ls t::tf l m
 |none::l, .int k _::m=> .i k::tf l m
 |none::l, .bool _::m=> .b::tf l m
 |none::l,_::m=> .s::tf l m
 | _,_=> []
def Ty.kc (t:Ty):List Kc:=tf t.csh t.zvs
def gy:List Kc->List C->Prop
 | [],[] =>True
 | .i k::l,c::m=>(∃n,c= .sc (.int k n))/\gy l m
 | .b::l,c::m=>(∃v,c= .sc (.bool v))/\gy l m
 | .s::l,c::m=>(∃v,c= .sc (.string v))/\gy l m
 | .ls t::l,c::m=>(∃v,c= .ls t v)/\gy l m
 | _,_=>False
theorem jz {cs:List C} (h:gy [] cs):cs= [] :=by cases cs with |nil=>rfl|cons=>exact h.elim
theorem uZ {k:IntKind} {l:List Kc} {cs:List C} (h:gy (.i k::l) cs): ∃n r,cs= .sc (.int k n)::r/\gy l r:=by
 cases cs with
 |nil=>exact h.elim
 |cons c r=>obtain⟨⟨n,rfl⟩,h⟩:=h; exact⟨n,r,rfl,h⟩
theorem u7 {l:List Kc} {cs:List C} (h:gy (.b::l) cs): ∃n r,cs= .sc (.bool n)::r/\gy l r:=by
 cases cs with
 |nil=>exact h.elim
 |cons c r=>obtain⟨⟨n,rfl⟩,h⟩:=h; exact⟨n,r,rfl,h⟩
theorem u9 {l:List Kc} {cs:List C} (h:gy (.s::l) cs): ∃n r,cs= .sc (.string n)::r/\gy l r:=by
 cases cs with
 |nil=>exact h.elim
 |cons c r=>obtain⟨⟨n,rfl⟩,h⟩:=h; exact⟨n,r,rfl,h⟩
theorem va {t:Ty} {l:List Kc} {cs:List C} (h:gy (.ls t::l) cs): ∃n r,cs= .ls t n::r/\gy l r:=by
 cases cs with
 |nil=>exact h.elim
 |cons c r=>obtain⟨⟨n,rfl⟩,h⟩:=h; exact⟨n,r,rfl,h⟩
theorem mP (t:Ty) {cs:List C} (h:gy t.kc cs): ∃x,t.flat x=cs:=by
 have : (t.unflat cs).isSome=true:=by
  cases t with
  |st n=>
   cases n
   all_goals
    repeat ((first |replace h:=uZ h|replace h:=u7 h|replace h:=va h|replace h:=u9 h); obtain⟨_,_,rfl,h⟩:=h)
    cases jz h;rfl
  |i k=>replace h:=uZ h; obtain⟨_,_,rfl,h⟩:=h; cases jz h; simp[Ty.unflat,gI,gN]
  |b=>replace h:=u7 h; obtain⟨_,_,rfl,h⟩:=h; cases jz h; rfl
  |s=>replace h:=u9 h; obtain⟨_,_,rfl,h⟩:=h; cases jz h; rfl
  |ls u=>replace h:=va h; obtain⟨_,_,rfl,h⟩:=h; cases jz h; simp[Ty.unflat,gL,gN]
 obtain⟨x,hx⟩:=bc.1 this;exact⟨x,t.unflat_some _ _ hx⟩
inductive T.bd:T->Prop where
 |int {k:IntKind} {n:Int} (h:k.min<=n/\n<=k.max):T.bd (.sc (.int k n))
 |bool (v:Bool):T.bd (.sc (.bool v))
 |str (v:ByteArray):T.bd (.sc (.string v))
 |sl {sz:Nat} {rows:List (List T)} (hl:rows.length<=maxLen) (h: ∀r∈rows,∀x∈r,T.bd x):T.bd (.sl sz rows)
def w4 (t:Ty) (x:t.D):Prop:= ∀y∈t.row x,T.bd y
def nJ (P:Program) (e:TypeId->List Kc->Bool):List Field->Nat->List Kc->Bool
 | [],_,[] =>true
 | [],_,_::_=>false
 |f::fs,off,ks=>Nat.beq f.offset off&&Nat.ble (P.cellsOf f.type) ks.length&&e f.type (ks.take (P.cellsOf f.type))&&nJ P e fs (off+P.cellsOf f.type) (ks.drop (P.cellsOf f.type))
def kt (P:Program) (Θ:fp):Nat->TypeId->List Kc->Bool
 | 0,_,_=>false
 |d+1,t,ks=>match P.underlying t with
  |some (.int k)=>decide (ks= [.i k])
  |some .bool=>decide (ks= [.b])
  |some (.slice e)=>(match eH Θ e with
   |some ti=>decide (ks= [.ls ti.ty])&&kt P Θ d e ti.ty.kc&&Nat.beq (P.cellsOf e) ti.ty.width&&Nat.blt 0 ti.ty.width
   |none=>false)
  |some (.struct fs)=>nJ P (kt P Θ d) fs.toList 0 ks&&Nat.beq (P.cellsOf t) ks.length
  | _=>false
theorem o9: ∀ {k l:List Kc} {cs ds:List C},gy k cs->gy l ds->gy (k++l) (cs++ds)
 | [],l,[],ds,_,h=>h
 | [],_,_::_,_,h,_=>h.elim
 |a::k,_,[],_,h,_=>by cases a<;>exact h.elim
 |a::k,l,c::cs,ds,h,h2=>by cases a<;>exact⟨h.1,o9 h.2 h2⟩
theorem ku: ∀ {k:List Kc} {cs:List C},gy k cs->cs.length=k.length
 | [],[],_=>rfl
 | [],_::_,h=>h.elim
 |a::k,[],h=>by cases a<;>exact h.elim
 |a::k,c::cs,h=>by cases a<;>simp[ku h.2]
section
variable {H:Type} {enc:TypeId×Value->H} {P:Program} {w:World} {base:Nat} {sp:Nat->Bool} {held:Bool} {Θ:fp}
structure Cs (w:World) (cs:List Value) (Xs:List C):Prop where
 len:Xs.length=cs.length
 one: ∀u∈cs,u.oneCell'=true
 ro: ∀ (k:Nat) (c:C) (u:Value),Xs[k]? =some c->cs[k]? =some u->RO w (fun b=>b<w.heap.size) c.tree u
 bd: ∀c∈Xs,T.bd c.tree
theorem Cs.nil:Cs w [] [] :=⟨rfl,fun _ h=>(by cases h),fun _ _ _ h=>(by cases h),fun _ h=>(by cases h)⟩
theorem Cs.one_mk {u:Value} {c:C} (h1:u.oneCell'=true) (h2:RO w (fun b=>b<w.heap.size) c.tree u) (h3:T.bd c.tree):Cs w [u] [c] :=by
 refine⟨rfl,fun v hv=> ?_,fun k c' u' hk hu=> ?_,fun c' hc=> ?_⟩
 ·rw[aA.1 hv]; exact h1
 ·cases k with
  |zero=>cases hk; cases hu; exact h2
  |succ k=>simp at hk
 ·rw[aA.1 hc]; exact h3
theorem Cs.app {cs ds:List Value} {Xs Ys:List C} (h:Cs w cs Xs) (k:Cs w ds Ys):Cs w (cs++ds) (Xs++Ys):=by
 refine⟨by rw[bk,bk,h.len,k.len],fun u hu=> ?_,fun j c u hj hu=> ?_,fun c hc=> ?_⟩
 ·rcases bD.1 hu with hu|hu
  ·exact h.one u hu
  ·exact k.one u hu
 ·by_cases hlt:j<Xs.length
  ·rw[aF hlt] at hj;rw[aF (by rw[<-h.len]; exact hlt)] at hu;exact h.ro j c u hj hu
  ·rw[aL (by omega)] at hj;rw[aL (by rw[<-h.len]; omega),<-h.len] at hu;exact k.ro _ c u hj hu
 ·rcases bD.1 hc with hc|hc
  ·exact h.bd c hc
  ·exact k.bd c hc
theorem nK (hΘ:dA P Θ): ∀ (d:Nat) {t:TypeId} {ks:List Kc} {n:Nat} {cs:List Value} {y:DataW H×List MemPlace},kt P Θ d t ks=true->DataW.trod enc P w base sp held n t cs=some y-> ∃Xs:List C,gy ks Xs/\Cs w cs Xs
 | 0,t,ks,n,cs,y,hb,_=>by cases hb
 |d+1,t,ks,n,cs,y,hb,h=>by
  unfold kt at hb;split at hb
  ·rename_i k hu;have:=of_decide_eq_true hb;subst this;obtain⟨v,rfl,_,hw⟩:=DataW.trod_int hu h;simp only[Lit.wf,al,decide_eq_true_eq] at hw;exact⟨[.sc (.int k v)],⟨⟨v,rfl⟩,trivial⟩,Cs.one_mk rfl (.sc rfl) (.int hw)⟩
  ·rename_i hu;have:=of_decide_eq_true hb;subst this;obtain⟨v,rfl,_⟩:=DataW.trod_bool hu h;exact⟨[.sc (.bool v)],⟨⟨v,rfl⟩,trivial⟩,Cs.one_mk rfl (.sc rfl) (.bool v)⟩
  ·rename_i e hu;split at hb
   ·rename_i ti hti;simp only[al,decide_eq_true_eq] at hb;obtain⟨⟨⟨rfl,hb⟩,hw⟩,hpos⟩:=hb;have hw:=ao hw;have hpos:0<ti.ty.width:=aw hpos;rcases Go.Deep.open_slice hu h with ⟨rfl,_⟩| ⟨ad,len,cap,m,n',D,Pl,rfl,_,hl,hm,hmm,_,hx⟩
    ·exact⟨[.ls ti.ty []],⟨⟨[],rfl⟩,trivial⟩,Cs.one_mk rfl (.em _ _ _) (.sl (cr _) fun r hr=>by cases hr)⟩
    ·have hlm:len<=m:=by rw[hmm]; split<;>omega
     have each: ∀i:Fin len,∃z:ti.ty.D,∃cs',w.cells? base (ad.add (i.1*P.cellsOf e)) (P.cellsOf e)=some cs'/\Cs w cs' (ti.ty.flat z):=by intro i;obtain⟨cs',h1,h2⟩:=hx i.1 (by have:=i.2; omega);obtain⟨Xs,h3,h4⟩:=nK hΘ d hb h2;obtain⟨z,rfl⟩:=mP _ h3;exact⟨z,cs',h1,h4⟩
     let l:List ti.ty.D:=List.ofFn fun i=>(each i).choose
     have hll:l.length=len:=by simp[l]
     have row: ∀ (i:Nat) (r:List T),(l.map ti.ty.row)[i]? =some r-> ∃hi:i<len,∃cs',w.cells? base (ad.add (i*P.cellsOf e)) (P.cellsOf e)=some cs'/\ ∃z,r=(ti.ty.flat z).map C.tree/\Cs w cs' (ti.ty.flat z):=by
      intro i r hr;rw[an,aj] at hr;obtain⟨z,hz,rfl⟩:=hr;obtain⟨h1,h2⟩:=af.1 hz;have hi:i<len:=by rw[hll] at h1; exact h1
      refine⟨hi,(each ⟨i,hi⟩).choose_spec.choose,(each ⟨i,hi⟩).choose_spec.choose_spec.1,z,ti.ty.row_flat z,?_⟩;have e1:z=(each ⟨i,hi⟩).choose:=by rw[<-h2]; simp[l]
      rw[e1];exact (each ⟨i,hi⟩).choose_spec.choose_spec.2
     refine⟨[.ls ti.ty l],⟨⟨l,rfl⟩,trivial⟩,Cs.one_mk rfl ?_ ?_⟩
     ·show RO w _ (.sl ti.ty.width (l.map ti.ty.row)) _;by_cases h0:len=0
      ·have :l= [] :=cF.1 (by rw[hll,h0]);rw[this,h0];exact .em _ _ _
      ·have hlr: (l.map ti.ty.row).length=len:=by rw[ay,hll]
       have hlen: ∀ (i:Nat) (r:List T),(l.map ti.ty.row)[i]? =some r->r.length=ti.ty.width:=by intro i r hr;obtain⟨hi,cs',h1,z,rfl,h2⟩:=row i r hr;obtain⟨_,h3,_⟩:=World.cells?_some h1;rw[ay,h2.len,h3,hw]
       have hcell: ∀ (i:Nat) (r:List T) (j:Nat) (x:T),(l.map ti.ty.row)[i]? =some r->r[j]? =some x-> ∃u,w.cell? (ad.add (i*ti.ty.width+j))=some u/\RO w (fun b=>b<w.heap.size) x u:=by
        intro i r j x hr hx;obtain⟨hi,cs',h1,z,rfl,h2⟩:=row i r hr;obtain⟨_,h3,h4⟩:=World.cells?_some h1;rw[an,aj] at hx;obtain⟨c,hc,rfl⟩:=hx;have hj:j<cs'.length:=by rw[<-h2.len]; exact (af.1 hc).1
        refine⟨cs'[j],?_,h2.ro j c _ hc (ai hj)⟩;rw[<-Go.Deep.add_add,<-hw,h4 j (by omega),ai hj]
       have hne: ∃u,w.cell? ad=some u:=by
        obtain⟨r,hr⟩: ∃r,(l.map ti.ty.row)[0]? =some r:=⟨_,ai (by omega)⟩
        have h5:=hlen 0 r hr;obtain⟨x,hx⟩: ∃x,r[0]? =some x:=⟨_,ai (by omega)⟩
        obtain⟨u,hu',_⟩:=hcell 0 r 0 x hr hx;simp only[b7,aP,Addr.add,if_true] at hu';exact⟨u,hu'⟩
       obtain⟨u0,hu0⟩:=hne;rw[<-hlr];refine .sl (fun i j=>((w.cell? (ad.add (i*ti.ty.width+j))).getD undef)) (by omega) ?_ (World.block_lt_of_cell? w _ hu0) hlen ?_ ?_
       ·cases hsp:ad.spot with
        |none=>rfl
        |some s=>
         unfold World.cell? at hu0;rw[hsp] at hu0;split at hu0
         ·simp at hu0
         ·cases hu0
       ·intro i r j x hr hx;obtain⟨u,h1,_⟩:=hcell i r j x hr hx;rw[h1];rfl
       ·intro i r j x hr hx;obtain⟨u,h1,h2⟩:=hcell i r j x hr hx;rw[h1];exact h2
     ·refine .sl (by rw[ay,hll]; unfold maxLen at hm ⊢; omega) fun r hr x hx=> ?_;obtain⟨i,hi⟩:=List.getElem?_of_mem hr;obtain⟨_,cs',_,z,rfl,h2⟩:=row i r hi;obtain⟨c,hc,rfl⟩:=aI.1 hx;exact h2.bd c hc
   ·cases hb
  ·rename_i fs hu;simp only[al] at hb;obtain⟨hb,hkl0⟩:=hb;have hkl0:=ao hkl0;obtain⟨xs,m,_,_,hl,hlen,hf⟩:=DataW.trod_struct hu h
   have eI: ∀ (gs:List Field) (off i0:Nat) (ks:List Kc),nJ P (kt P Θ d) gs off ks=true->(∀ (i:Nat) (f:Field),gs[i]? =some f->fs[i0+i]? =some f)-> ∃Xs:List C,gy ks Xs/\Cs w ((cs.drop off).take ks.length) Xs/\off+ks.length<=max off cs.length:=by
    intro gs
    induction gs with
    |nil=>
     intro off i0 ks hk _;cases ks with
     |nil=>exact⟨[],trivial,by simpa using Cs.nil,by simp; omega⟩
     |cons=>cases hk
    |cons f gs ih=>
     intro off i0 ks hk hg;simp only[nJ,al] at hk;obtain⟨⟨⟨ho,hle⟩,h1⟩,h2⟩:=hk;have ho:=ao ho;have hle:P.cellsOf f.type<=ks.length:=aw hle;have hfi:fs[i0]? =some f:=by have:=hg 0 f rfl; simpa using this
     have hi0:i0<xs.length:=by rw[hlen]; exact (aH.1 hfi).1
     have h3:=hf i0 f hfi;rw[ai hi0,ho] at h3;obtain⟨Xs,k1,k2⟩:=nK hΘ d h1 h3;obtain⟨Ys,k3,k4,k5⟩:=ih (off+P.cellsOf f.type) (i0+1) _ h2 (fun i g hgi=>by have:=hg (i+1) g hgi; rw[show i0+1+i=i0+(i+1) by omega]; exact this);have hkl:=ku k1;have hcl:=k2.len;rw[cj,ca,hkl,cj] at hcl;have hq:P.cellsOf f.type<=cs.length-off:=by omega
     refine⟨Xs++Ys,?_,?_,?_⟩
     ·have:=o9 k1 k3
      rwa [List.take_append_drop] at this
     ·have hsplit: (cs.drop off).take ks.length=((cs.drop off).take (P.cellsOf f.type))++((cs.drop (off+P.cellsOf f.type)).take (ks.drop (P.cellsOf f.type)).length):=by
       rw[ca,<-bQ];have :ks.length=P.cellsOf f.type+(ks.length-P.cellsOf f.type):=by omega
       conv=>lhs; rw[this]
       exact List.take_add
      rw[hsplit];exact k2.app k4
     ·rw[ca] at k5;omega
   obtain⟨Xs,k1,k2,k3⟩:=eI fs.toList 0 0 ks hb (fun i f hi=>by rw[b6] at hi; simpa using hi);refine⟨Xs,k1,?_⟩
   have hfull: (cs.drop 0).take ks.length=cs:=by rw[bP];exact bW (by omega)
   rwa [hfull] at k2
  ·cases hb
end
end
section
open Go Go.ChangeShapes Go.WideShapes Go.RowKit
theorem kv (t:Ty) (x:t.D):t.unflat (t.flat x)=some x:=by
 cases t with
 |st n=>cases n<;>rfl
 |i k=>simp[Ty.unflat,Ty.flat,gI,gN]
 |b=>rfl
 |s=>rfl
 |ls u=>simp[Ty.unflat,Ty.flat,gL,gN]
theorem tg (l:List C):nx (l.map Cl.c)=some l:=by
 induction l with
 |nil=>rfl
 |cons a l ih=>simp[nx,ih]
theorem vG {ρ:Type} (t:Ty) (x:t.D) (κ:t.D->Option ρ):un t (ny t x) κ=κ x:=by
 unfold ny;cases hag:t.ag with
 |true=>simp only[cond_true,un,hag,tg,kv]
 |false=>
  simp only[cond_false];have h1: ∃c,t.flat x= [c] :=by cases t<;>first |exact⟨_,rfl⟩| (simp[Ty.ag] at hag)
  obtain⟨c,hc⟩:=h1;rw[hc];have:=kv t x;rw[hc] at this;simp only[aJ,bM,un,hag,cond_false,this]
theorem uG {ρ:Type} (t:Ty) (x:t.D) (κ:t.D->Option ρ):wb t (ny t x) κ=κ x:=by
 rw[<-vG t x κ];cases t with
 |st n=>cases n<;>rfl
 | _=>rfl
theorem qG {ρ:Type}: ∀ (l:List Ty) (x:gV.D (l.map .ty)) (κ:gV.D (l.map .ty)->Option ρ),nI (l.map .ty) (fb (l.map .ty) x) κ=κ x
 | [],x,κ=>rfl
 |t::l,x,κ=>by show (wS (.ty t) (ny t x.1) fun a=>nI (l.map .ty) (fb (l.map .ty) x.2) fun b=>κ (a,b))=κ x;show (wb t (ny t x.1) fun a=>nI (l.map .ty) (fb (l.map .ty) x.2) fun b=>κ (a,b))=κ x;rw[uG,qG l x.2];rfl
def w5: (l:List Ty)->gV.D (l.map .ty)->Prop
 | [],_=>True
 |t::l,x=>w4 t x.1/\w5 l x.2
def uH (P:Program) (Θ:fp) (t:TypeId) (τ:Ty):Bool:=kt P Θ 9 t τ.kc&&(match eH Θ t with |some ti=>decide (ti.ty=τ)|none=>false)&&P.readableRec t&&Nat.blt t P.types.size
def lS (P:Program) (Θ:fp):List TypeId->List Ty->Bool
 | [],[] =>true
 |t::ts,τ::τs=>uH P Θ t τ&&lS P Θ ts τs
 | _,_=>false
section
variable {H:Type} {enc:TypeId×Value->H} {P:Program} {W:World} {Θ:fp} {base:Nat}
theorem C.VR {c:C} {u:Value} {bt:Bt} (hA:bt.A=fun b=>b<W.heap.size) (h:RO W (fun b=>b<W.heap.size) c.tree u) (hg:c.good=true):En.VR W bt c.av u:=by
 cases c with
 |sc v=>
  cases h with
  |sc h=>exact .sc h
 |ls t l=>exact .ro (by rw[hA]; exact h)
theorem vH (hΘ:dA P Θ) {bt:Bt} (hA:bt.A=fun b=>b<W.heap.size) {t:TypeId} {τ:Ty} {v:Value} {d:DataW H} {p:List MemPlace} (hp:uH P Θ t τ=true) (hv:Value.okWide P W .any base t v) (h:DataW.Trod enc P W 0 (fun _=>true) true t v d p):
  ∃x:τ.D,VR W bt (ny τ x).av v/\w4 τ x:=by
 unfold uH at hp;simp only[al] at hp;obtain⟨⟨⟨h1,h2⟩,h3⟩,h4⟩:=hp;split at h2
 case h_2=>cases h2
 rename_i ti hti;have h2:=of_decide_eq_true h2;subst h2;have hok:=hΘ t ti hti;obtain⟨n,hn⟩:=h;obtain⟨Xs,k1,k2⟩:=nK hΘ 9 h1 hn;obtain⟨x,rfl⟩:=mP _ k1
 have bd:w4 ti.ty x:=by intro y hy;rw[Ty.row_flat] at hy;obtain⟨c,hc,rfl⟩:=aI.1 hy;exact k2.bd c hc
 have good: ∀c∈ti.ty.flat x,c.good=true:=by
  intro c hc;have:=k2.bd c hc;cases c with
  |sc v=>cases this<;>rfl
  |ls t l=>rfl
 refine⟨x,?_,bd⟩;have hag:=hok.ag;unfold ny;cases ha:ti.ty.ag with
 |true=>
  rw[ha] at hag
  have hst: ∃fs,P.underlying t=some (.struct fs):=by
   have hpl:=hok.pl ha;unfold kt at h1;split at h1
   ·rename_i hu; simp[lZ,hu] at hag
   ·rename_i hu; simp[lZ,hu] at hag
   ·rename_i hu; simp[lZ,hu] at hag
   ·rename_i fs hu; exact⟨fs,hu⟩
   ·cases h1
  obtain⟨fs,hu⟩:=hst;obtain⟨us,rfl,_⟩:=okWide_struct hu hv;simp only[cond_true,V1.av];have : (Value.agg us)= .agg us.toList.toArray:=by simp
  rw[this];have hus: (Value.agg us).cells.toList=us.toList:=rfl;rw[hus] at k2;refine .agg (by simp[k2.len]) k2.one fun k c u hk hu=> ?_;simp only[aU,an,aj] at hk;obtain⟨c',hc,rfl⟩:=hk;exact C.VR hA (k2.ro k c' u hc hu) (good c' (aq hc))
 |false=>
  rw[ha] at hag
  have hcells:v.cells.toList= [v] :=by
   unfold kt at h1;split at h1
   ·rename_i hu; obtain⟨_,rfl⟩:=okWide_int hu hv; rfl
   ·rename_i hu; obtain⟨_,rfl⟩:=okWide_bool hu hv; rfl
   ·rename_i hu; obtain⟨_,_,_,rfl⟩:=okWide_slice hu hv; rfl
   ·rename_i fs hu; simp[lZ,hu] at hag
   ·cases h1
  rw[hcells] at k2;have hl:=k2.len;obtain⟨c,hc⟩:=List.length_eq_one_iff.1 hl;simp only[cond_false,hc,aJ,bM,V1.av];exact C.VR hA (k2.ro 0 c v (by rw[hc]; rfl) rfl) (good c (by rw[hc]; exact aA.2 rfl))
theorem qH (hΘ:dA P Θ) {bt:Bt} (hA:bt.A=fun b=>b<W.heap.size): ∀ {ts:List TypeId} {τs:List Ty} {vs:List Value} {ds:List (DataW H)} {p:List MemPlace},lS P Θ ts τs=true->(∀ (j:Nat) t v,ts[j]? =some t->vs[j]? =some v->Value.okWide P W .any base t v)->DataW.TrodAll enc P W 0 (fun _=>true) true ts vs ds p->
  ∃x:gV.D (τs.map .ty),vs.length=τs.length/\(∀ (k:Nat) (v:AV) (u:Value),((fb (τs.map .ty) x).map V1.av)[k]? =some v->vs[k]? =some u->VR W bt v u)/\w5 τs x
 | [],[],vs,ds,p,_,_,h=>by obtain⟨rfl,_,_⟩:=trodAll_nil h;exact⟨(),rfl,fun k v u hk hu=>(by cases hu),trivial⟩
 |t::ts,τ::τs,vs,ds,p,hb,hv,h=>by
  obtain⟨v,vs',d,ds',q,q',rfl,rfl,rfl,h1,h2⟩:=trodAll_cons h;unfold lS at hb;simp only[al] at hb;obtain⟨x,k1,k2⟩:=vH hΘ hA hb.1 (hv 0 t v rfl rfl) h1;obtain⟨y,k3,k4,k5⟩:=qH hΘ hA hb.2 (fun j t' v' ht hv'=>hv (j+1) t' v' ht hv') h2;refine⟨(x,y),by simp[k3],fun k v' u hk hu=> ?_,k2,k5⟩;cases k with
  |zero=>have hk:some (ny τ x).av=some v':=hk;cases hk;cases hu;exact k1
  |succ k=>exact k4 k v' u hk hu
 | [],_::_,_,_,_,hb,_,_=>by cases hb
 | _::_,[],_,_,_,hb,_,_=>by cases hb
theorem iO {W':World} (hl:laidOutB P=true) (hb:Below W.heap.size W W'): ∀ {ts:List TypeId} {τs:List Ty} {vs:List Value} {ds:List (DataW H)} {p:List MemPlace},lS P Θ ts τs=true->DataW.TrodAll enc P W 0 (fun _=>true) true ts vs ds p->DataW.TrodAll enc P W' 0 (fun b=>decide (b<W.heap.size)) true ts vs ds p
 | [],[],vs,ds,p,_,h=>by obtain⟨rfl,rfl,rfl⟩:=trodAll_nil h;exact rfl
 |t::ts,τ::τs,vs,ds,p,hp,h=>by obtain⟨v,vs',d,ds',q,q',rfl,rfl,rfl,h1,h2⟩:=trodAll_cons h;unfold lS uH at hp;simp only[al] at hp;obtain⟨⟨⟨_,hr⟩,hs⟩,hrest⟩:=hp;refine trodAll_cons_mk (Below.trod hl hr (aw hs) h1 hb ?_) (iO hl hb hrest h2);intro x hx;obtain⟨m,hm⟩:=h1;exact DataW.trod_lt m _ _ _ hm x hx
 | [],_::_,_,_,_,hb,_=>by cases hb
 | _::_,[],_,_,_,hb,_=>by cases hb
theorem rA (hΘ:dA P Θ) {f:FuncId} {τs:List Ty} {G:gV.D (τs.map .ty)->Option (iH.D [.b])} (he:qC P f (p9 (τs.map .ty) [.b] G)) (hG: ∀x,w5 τs x->G x=some (true,()))
  {ts:List TypeId} {vs:List Value} {ds:List (DataW H)} {p:List MemPlace} (hp:lS P Θ ts τs=true) (hv: ∀ (j:Nat) t v,ts[j]? =some t->vs[j]? =some v->Value.okWide P W .any base t v) (h:DataW.TrodAll enc P W 0 (fun _=>true) true ts vs ds p) (hk:Nat.blt f 1048576=true:=by rfl):
  Calls P f vs.toArray W fun e W'=>e= .returned (.bool true)/\Below W.heap.size W W':=by
 let bt:Bt:=⟨fun _=>0,fun _=>0,fun _=>0,0,0,fun b=>b<W.heap.size⟩
 obtain⟨x,h1,h2,h3⟩:=qH (bt:=bt) hΘ rfl hp hv h;have hg:=hG x h3
 obtain⟨res,out,k1,k2,k3⟩:=he (fb (τs.map .ty) x) (V×List de) (fun v g=>some (v,g)) (.v (.cl (.c (.sc (.bool true)))),[]) (by unfold p9;rw[qG,hg];rfl)
 cases k3
 have:=k1.fn (aw hk) W (fun _=>False) bt vs (qe W bt fun b hb=>hb) (by
  rw[h1,ay];clear h1 h2 h3 hg k1 hG he
  have : ∀ (l:List Ty) (x:gV.D (l.map .ty)),l.length=(fb (l.map .ty) x).length:=by
   intro l
   induction l with
   |nil=>intro x; rfl
   |cons t l ih=>intro x; show l.length+1=(fb (l.map .ty) x.2).length+1; rw[ih x.2]
  exact this τs x) h2
 refine this.2.mono fun e W' hx=> ?_;obtain⟨v,btn,rfl,hI,_,_,hvr⟩:=hx;refine⟨?_,jg hI⟩;cases hvr with
 |sc=>rfl
end
end
section
open Go
section
variable {α β σ ε:Type}
theorem qI (x y:α):br true x y=x:=rfl
theorem pa (x y:α):br false x y=y:=rfl
theorem th (p:Prop) [Decidable p] (x y:α):br (decide p) x y=if p then x else y:=by unfold br; by_cases h:p<;>simp[h]
end
end
section
open Go
section
variable {σ ε σ1 ε1 σ2 ε2 α β:Type}
def vb (x y:Option (β×Unit)):Prop:= ∃b,x=some (b,())/\y=some (b,())
end
end
section
open Go
structure wd (P:Program) where
 n:Nat
 e:tW
 ok:qC P n e
structure vQ (P:Program) where
 c:Code
 e:qD
 ok:vF P c e
structure LX where
 L:kL
 x:List (X×kL)
 g:List wZ
 k:List Nat
 kx:List Nat
abbrev LX.S (m:LX):Type:=m.L.D
abbrev LX.R (m:LX):Type:=Option (m.L.D⊕rx.D m.x)
theorem tm: (∀ (α β:Type) (b:Bool) (x y:Option α) (f:α->Option β),(br b x y).bind f=br b (x.bind f) (y.bind f))/\(∀ (α β:Type) (c:Prop) (_:Decidable c) (x y:Option α) (f:α->Option β),(eD c x y).bind f=eD c (x.bind f) (y.bind f))/\(∀ (α β:Type) (f:α->Option β),(none:Option α).bind f=none)/\(∀ (α β:Type) (a:α) (f:α->Option β),(some a).bind f=f a)/\(∀ (α β γ:Type) (x:Option α) (f:α->Option β) (g:β->Option γ),(x.bind f).bind g=x.bind fun a=>(f a).bind g)/\(∀ (α β γ δ:Type) (x:α⊕β) (f:α->Option γ) (g:β->Option γ) (h:γ->Option δ),(Sum.elim f g x).bind h=Sum.elim (fun a=>(f a).bind h) (fun a=>(g a).bind h) x)/\(∀ (α β γ:Type) (f:α->γ) (g:β->γ) (a:α),Sum.elim f g (.inl a)=f a)/\ ∀ (α β γ:Type) (f:α->γ) (g:β->γ) (b:β),Sum.elim f g (.inr b)=g b:=
 ⟨fun _ _ b _ _ _=>by cases b<;>rfl,fun _ _ c _ _ _ _=>by unfold eD; split<;>rfl,fun _ _ _=>rfl,fun _ _ _ _=>rfl,fun _ _ _ x _ _=>by cases x<;>rfl,fun _ _ _ _ x _ _ _=>by cases x<;>rfl,fun _ _ _ _ _ _=>rfl,fun _ _ _ _ _ _=>rfl⟩
section
variable {P:Program} {Θ:fp}
def vI:List (wd P)->List (Nat×tW)
 | [] => []
 |k::l=>(k.n,k.e)::vI l
theorem qJ: ∀l:List (wd P),fy P (sD (vI l))
 | [] =>uz P
 |k::l=>s9 k.ok (qJ l)
def rB:List (vQ P)->List (Nat×qD)
 | [] => []
 |q::l=>(eI q.c,q.e)::rB l
def iP:List (vQ P)->List Code
 | [] => []
 |q::l=>q.c::iP l
def rC:List Code->Bool
 | [] =>true
 |c::l=>l.all (fun d=> !Nat.beq (eI c) (eI d))&&rC l
theorem qK: ∀l:List (vQ P),rC (iP l)=true->eO P (ry (rB l)) (iP l)
 | [],_=>fun c hc=>by cases hc
 |q::l,h=>by
  simp only[iP,rC,al,au] at h;intro c hc S ρ κ r hS hr;have hr: (bif Nat.beq (eI q.c) (eI c) then q.e S ρ κ else ry (rB l) (eI c) S ρ κ)=some r:=hr;rcases aV.1 hc with rfl|hc
  ·rw[cc] at hr;exact q.ok S ρ κ r hS hr
  ·have hb:Nat.beq (eI q.c) (eI c)=false:=by simpa using h.1 c hc
   rw[hb] at hr;exact qK l h.2 c hc S ρ κ r hS hr
theorem tj {Λ:List (vQ P)} {cs:List Code} (h:cs=iP Λ) (hn:rC (iP Λ)=true):eO P (ry (rB Λ)) cs:=by rw[h]; exact qK Λ hn
theorem qa {α β:Type} {a a':α} {b b':β} (h: (a,b)=(a',b')):a=a'/\b=b':=by cases h; exact⟨rfl,rfl⟩
theorem we {a b:Bool} (h: (a&&b)=true):a=true/\b=true:=by simpa using h
variable (hΘ:dA P Θ) (hm:P.follows .mixedOrders=true)
theorem w6 {f:FuncId} {fn:Func} {Λ:List (vQ P)} (h: (uT P f,dT (lR fn),Nat.blt f 1048576&&rC (iP Λ))=(some fn,iP Λ,true)):uT P f=some fn/\(∀c,fn.body=some c->eO P (ry (rB Λ)) (dT c))/\Nat.blt f 1048576=true:=
 have h2:=qa (qa h).2
 ⟨(qa h).1,wc h2.1 (tj rfl (we h2.2).2),(we h2.2).1⟩
noncomputable def xj (f:FuncId) (fn:Func) (ps:List kC) (rs:List Ty) (F:gV.D ps->Option (iH.D rs)) (Y:List (wd P)) (Λ:List (vQ P)) (h: (uT P f,dT (lR fn),Nat.blt f 1048576&&rC (iP Λ))=(some fn,iP Λ,true))
  (hF: ∀x,(F x).bind (fun y=>ret (iM rs y) fun v g=>some (v,g))=wP Θ (sD (vI Y)) (ry (rB Λ)) fn (fb ps x) fun v g=>some (v,g)):wd P:=
 ⟨f,p9 ps rs F,uF hΘ (qJ Y) hm (w6 h).1 (w6 h).2.1 (w6 h).2.2 F (fun x=>(hF x).symm) fun _ _ h=>h⟩
end
end
end Go.Proofs.Ytpagmogboinlpaa.En
