import Derived.Test.YtjnleglhcppgcaaGreatZX6
namespace Go.Proofs.YtjnleglhcppgcaaGreat.En
section
open Go
theorem gR {α:Type}: ∀ (l:List α) (n:Nat),qz l n=l[n]?
 | [],n=>by simp[qz]
 |a::l,0=>by simp[qz]
 |a::l,n+1=>by show qz l n=_; rw[gR l]; simp
theorem jb {α:Type}: ∀ (l:List α) (n:Nat) (x:α),gq l n x=l.set n x
 | [],n,x=>by simp[gq]
 |a::l,0,x=>by simp[gq]
 |a::l,n+1,x=>by show a::gq l n x=_; rw[jb l]; simp
theorem Kw: ∀ {l:List (Nat×V)} {t:Nat},kj l t=V.dead\/(t,kj l t)∈l
 | [],t=> .inl rfl
 | (u,v)::l,t=>by
   simp only[kj];cases h:Nat.beq u t with
   |true=>have :u=t:=au h;subst this;exact .inr (aG)
   |false=>
    rcases Kw (l:=l) (t:=t) with h'|h'
    ·exact .inl h'
    ·exact .inr (aF _ h')
def Cl.ok (G:List (Option fr)):Cl->Prop
 | .own p _ lo len w=>p.r<G.length/\(w=true->p.l= [] /\lo=0/\ ∀tr,gx G p.r=some tr->len=tr.l.length)
 | .ptrT p _ _ _=>p.r<G.length
 | _=>True
def V1.ok (G:List (Option fr)):V1->Prop
 | .cl c=>c.ok G
 | .agg cs=> ∀c∈cs,c.ok G
 | .fn _ cs=> ∀c∈cs,c.ok G
def V.ok (G:List (Option fr)):V->Prop
 | .v x=>x.ok G
 | .tup l=> ∀x∈l,x.ok G
structure TS.ok (S:TS):Prop where
 env: ∀x∈S.env,x.2.ok S.gh
 bx: ∀cs∈S.bx,∀c∈cs,c.ok S.gh
def jV (G G':List (Option fr)):Prop:=G.length<=G'.length/\ ∀r tr',r<G.length->gx G' r=some tr'-> ∃tr,gx G r=some tr/\tr.l.length=tr'.l.length
theorem jV.refl (G:List (Option fr)):jV G G:=⟨ay _,fun _ tr _ h=>⟨tr,h,rfl⟩⟩
theorem jV.trans {G H K:List (Option fr)} (h:jV G H) (k:jV H K):jV G K:=⟨bF h.1 k.1,fun r tr hr hK=>by obtain⟨t1,h1,h2⟩:=k.2 r tr (bf hr h.1) hK;obtain⟨t2,h3,h4⟩:=h.2 r t1 hr h1;exact⟨t2,h3,h4.trans h2⟩⟩
theorem Cl.ok_mono {G G':List (Option fr)} (h:jV G G') {c:Cl} (hc:c.ok G):c.ok G':=by
 cases c with
 |own p sz lo len w=>obtain⟨h1,h2⟩:=hc;refine⟨bf h1 h.1,fun hw=> ?_⟩;obtain⟨a,b,c⟩:=h2 hw;refine⟨a,b,fun tr htr=> ?_⟩;obtain⟨tr0,k1,k2⟩:=h.2 _ tr h1 htr;rw[c tr0 k1,k2]
 |ptrT p sz i j=>exact bf hc h.1
 | _=>trivial
theorem V1.ok_mono {G G':List (Option fr)} (h:jV G G') {v:V1} (hv:v.ok G):v.ok G':=by
 cases v with
 |cl c=>exact Cl.ok_mono h hv
 |agg cs=>exact fun c hc=>Cl.ok_mono h (hv c hc)
 |fn f cs=>exact fun c hc=>Cl.ok_mono h (hv c hc)
theorem V.ok_mono {G G':List (Option fr)} (h:jV G G') {v:V} (hv:v.ok G):v.ok G':=by
 cases v with
 |v x=>exact V1.ok_mono h hv
 |tup l=>exact fun x hx=>V1.ok_mono h (hv x hx)
theorem V.ok_dead (G:List (Option fr)):V.dead.ok G:=trivial
theorem V.ok_sc (G:List (Option fr)) (v:Value): (V.sc v).ok G:=trivial
theorem D3 {S:TS} (hS:S.ok) (t:Nat): (kj S.env t).ok S.gh:=by
 rcases Kw (l:=S.env) (t:=t) with h|h
 ·rw[h]; trivial
 ·exact hS.env _ h
theorem sK (v:Value): (cC v).av=DX v:=by
 unfold cC DX;cases h:qI v with
 |true=>rfl
 |false=>
  simp only[cond_false,bg,if_false];split
  ·rfl
  ·split
   ·exact absurd rfl ‹_›
   ·rfl
theorem Vh (v:Value): (cV v).av=F6 v:=by
 cases v with
 |agg cs=>
  simp only[cV,F6];cases h:cs.toList.all Value.oneCell' with
  |true=>
   simp only[cond_true,if_true];simp only[V.av,V1.av,bE]
   congr 1
   exact aL fun x _=>sK x
  |false=>rfl
 |bool b=>exact sK (.bool b)
 |int k n=>exact sK (.int k n)
 |float k n=>exact sK (.float k n)
 |complex k n m=>exact sK (.complex k n m)
 |string x=>exact sK (.string x)
 |pointer x=>exact sK (.pointer x)
 |slice x y z=>exact sK (.slice x y z)
 |map x=>exact sK (.map x)
 |chan x=>exact sK (.chan x)
 |func x y z=>exact sK (.func x y z)
 |nilFunc=>exact sK .nilFunc
 |iface x y=>exact sK (.iface x y)
 |nilIface=>exact sK .nilIface
 |tuple x=>exact sK (.tuple x)
theorem NC (G:List (Option fr)) (v:Value): (cC v).ok G:=by
 unfold cC;cases qI v with
 |true=>trivial
 |false=>simp only[cond_false]; split<;>trivial
theorem Vi (G:List (Option fr)) (v:Value): (cV v).ok G:=by
 unfold cV;split
 ·rename_i cs;cases cs.toList.all Value.oneCell' with
  |true=>intro c hc; simp only[aM] at hc; obtain⟨x,_,rfl⟩:=hc; exact NC _ _
  |false=>trivial
 ·exact NC _ _
theorem eI {S:TS} (x:Operand):opd S.st x=(S.opd x).av:=by
 cases x with
 |tmp t=>rfl
 |const v=>exact (Vh v).symm
 |func f=>rfl
 |global g=>rfl
theorem nI {S:TS} (hS:S.ok) (x:Operand): (S.opd x).ok S.gh:=by
 cases x with
 |tmp t=>exact D3 hS t
 |const v=>exact Vi _ _
 |func f=>trivial
 |global g=>trivial
section
variable {ρ:Type}
theorem Sk {α:Type} {b:Bool} {x y:Option α} {r:α} (h:br b x y=some r): (b=true/\x=some r)\/(b=false/\y=some r):=by
 cases b with
 |true=>exact .inl ⟨rfl,h⟩
 |false=>exact .inr ⟨rfl,h⟩
theorem fR {α:Type} {c:Prop} [Decidable c] {x:Option α} {r:α} (h:eh c x none=some r):c/\x=some r:=by
 unfold eh at h;split at h
 ·exact⟨‹_›,h⟩
 ·cases h
theorem Cb {α:Type} {c:Prop} [Decidable c] {x:Option α} {r:α} (h:eh c none x=some r): ¬c/\x=some r:=by
 unfold eh at h;split at h
 ·cases h
 ·exact⟨‹_›,h⟩
theorem eC {α:Type} {c:Bool} {x:Option α} {r:α} (h: (bif c then x else none)=some r):c=true/\x=some r:=by
 cases c with
 |true=>exact⟨rfl,h⟩
 |false=>cases h
theorem Kx {S:TS} {t:Nat} {b:Bool} (h:kj S.env t=V.sc (.bool b)): ({ S with env:=(t,V.sc (.bool b))::S.env }:TS).st=S.st:=by
 unfold TS.st;simp only
 congr 1
 funext u
 simp only[kj];cases hb:Nat.beq t u with
 |true=>have :t=u:=au hb;subst this;rw[h];rfl
 |false=>rfl
theorem Ky {S:TS} (hS:S.ok) (t:Nat) (b:Bool): ({ S with env:=(t,V.sc (.bool b))::S.env }:TS).ok:=
 ⟨fun x hx=>by
  simp only[aW] at hx;rcases hx with rfl|hx
  ·trivial
  ·exact hS.env x hx,hS.bx⟩
theorem EV {S:TS} (hS:S.ok) {x:Operand} {κ:Bool->TS->Option ρ} {r:ρ} (h:Kn S x κ=some r):
  ∃b S',opd S.st x= .sc (.bool b)/\S'.st=S.st/\S'.ok/\S'.gh=S.gh/\κ b S'=some r:=by
 unfold Kn at h;split at h
 ·rename_i t;split at h
  ·rename_i b hb;rcases Sk h with ⟨rfl,h⟩| ⟨rfl,h⟩
   ·exact⟨true,_,by show (kj S.env t).av=_; rw[hb]; rfl,Kx hb,Ky hS _ _,rfl,h⟩
   ·exact⟨false,_,by show (kj S.env t).av=_; rw[hb]; rfl,Kx hb,Ky hS _ _,rfl,h⟩
  ·cases h
 ·rename_i b;exact⟨b,S,rfl,rfl,hS,rfl,h⟩
 ·cases h
theorem Bf {v:V} {κ:Int->Option ρ} {r:ρ} (h:Mj v κ=some r): ∃n,Ec v.av=some n/\κ n=some r:=by
 unfold Mj at h;split at h
 ·exact⟨_,rfl,h⟩
 ·cases h
theorem fr.look {G:List (Option fr)} {r:Nat} {tr:fr} (h:qz G r=some (some tr)):gx G r=some tr:=by unfold gx;rw[h];rfl
theorem jd {S:TS} {p:fj} {κ: (t:Ty)->List t.D->Option ρ} {r:ρ} (h:vG S p κ=some r):
  ∃ (t:Ty) (l:List t.D),S.st.look p= .sl t.width (l.map t.row)/\(p.l= [] ->gx S.gh p.r=some ⟨t,l,none⟩)/\κ t l=some r:=by
 unfold vG at h;split at h
 ·rename_i tr htr;have hg:=fr.look htr;split at h
  ·rename_i hh;obtain⟨t,l,hole⟩:=tr;simp only at hh;subst hh;split at h
   ·rename_i hp;refine⟨t,l,?_,fun _=>hg,h⟩;unfold St.look;have :S.st.gh p.r=some (.sl t.width (l.map t.row)):=by show (gx S.gh p.r).map fr.tree=_; rw[hg]; rfl
    rw[this,hp];rfl
   ·rename_i i j hp;simp only[aj] at h;obtain⟨x,hx,h⟩:=h;split at h
    ·rename_i t' l' hj;refine⟨t',l',?_,(fun h0=>by rw[hp] at h0; cases h0),h⟩;unfold St.look;have :S.st.gh p.r=some (.sl t.width (l.map t.row)):=by show (gx S.gh p.r).map fr.tree=_; rw[hg]; rfl
     rw[this,hp];simp only[T.go,T.cell];have e1: (l.map t.row).getD i [] =t.row x:=by simp[aw,hx]
     rw[e1,t.row_flat];rw[gR] at hj;simp[aw,hj,C.tree]
    ·cases h
   ·cases h
  ·cases h
 ·cases h
end
end
section
open Go
def Ty.shs (t:Ty):List Nat:=t.csh.map fun |some e=>e.width|none=>0
structure TI.ok (P:Program) (t:TypeId) (ti:TI):Prop where
 ag:F5 P t=some ti.ty.ag
 cells:P.cellsOf t=ti.ty.width
 sh:pP P 9 t=ti.ty.shs
 ze:BP P t=some ti.ty.zvs
 fd: ∀k,Py P t k=qz ti.fds k
 pl:ti.ty.ag=true->U6 P t=some (ti.fds.map fun x=>(x.1,x.2.1))
 el: ∀e,ti.ty= .ls e-> ∃el,yH P t=some el/\P.cellsOf el=e.width/\P.bytesOf el=ti.el/\0<ti.el/\pP P 9 el=e.shs/\BP P el=some e.zvs
 bool:ti.ty= .b->P.underlying t=some .bool
 gu:ti.ty.ag=true->ti.ty.flatB=true->P.eqGuardType P.depth t=false
 eq:ti.ty.ag=true-> ∀ (a b:List Cl) (r:Bool) (xs ys:List Value),nB ti.ty.zvs a=true->nB ti.ty.zvs b=true->yQ a b=some r->a=xs.map (fun x=> .c (.sc x))->b=ys.map (fun x=> .c (.sc x))->eU P (Op.equal t (.agg xs.toArray) (.agg ys.toArray))=some r
 str:HV P t=(match ti.ty with | .s=>true| _=>false)
 int: ∀k,ti.ty= .i k->P.underlying t=some (.int k)
def iq (P:Program) (Θ:qG):Prop:= ∀t ti,oA Θ t=some ti->ti.ok P t
theorem Ty.width_pos (t:Ty):0<t.width:=by
 cases t with
 |st n=>cases n<;>decide
 | _=>exact Nat.one_pos
theorem C.ro_tree (c:C):T.ro c.tree=c.av:=by cases c<;>rfl
theorem C.own_tree (p:fj) (i m:Nat) (c:C):PA p i m c.tree=(Ml p i m c).av:=by
 cases c with
 |sc v=>rfl
 |ls t l=>simp[PA,C.tree,Ml,Cl.av]
theorem Cc {α β:Type} (f:Nat->α->β): ∀ (j:Nat) (l:List α) (k:Nat),(B7 f j l)[k]? =(l[k]?).map (f (j+k))
 |j,[],k=>by simp[B7]
 |j,a::l,0=>by simp[B7]
 |j,a::l,k+1=>by simp only[B7,ch]; rw[Cc f (j+1) l k]; congr 2; omega
section
variable {ρ:Type} {P:Program} {Θ:qG} {S:TS}
theorem nw {p:fj} {sz:Nat} {rows:List (List T)} (h:S.st.look p= .sl sz rows):S.st.rows p sz=some rows:=by unfold St.rows;rw[h];simp
theorem OI (hS:S.ok) {n:Nat} {v:Cl} (hv:v.ok S.gh) {κ:List Cl->Option ρ} {r:ρ} (h:Mm S n v κ=some r):
  ∃cs:List Cl,fO S.st n v.av=some (cs.map Cl.av)/\(∀c∈cs,c.ok S.gh)/\κ cs=some r:=by
 unfold Mm at h;split at h
 ·rename_i b j;split at h
  ·rename_i cs hcs;obtain⟨h1,h⟩:=eC h;have h1:j+n<=cs.length:=aA h1;refine⟨_,?_,fun c hc=> ?_,h⟩
   ·simp only[Cl.av,fO,TS.st,hcs,aB,ae,aD];rw[if_pos h1];simp[bW,cf]
   ·rw[gR] at hcs;exact hS.bx cs (ao hcs) c (bG (b8 hc))
  ·cases h
 ·rename_i cells;obtain⟨h1,h⟩:=eC h;have h1:n<=cells.length:=aA h1;refine⟨_,?_,fun c hc=> ?_,h⟩
  ·simp only[Cl.av,fO,aD];rw[if_pos h1]
   congr 1
   rw[<-bW,bE,bE];exact aL fun c _=>C.ro_tree c
  ·obtain⟨x,_,rfl⟩:=aM.1 hc;trivial
 ·rename_i p sz i j;obtain⟨t,l,h1,_,h5⟩:=jd h;obtain⟨h2,h6⟩:=eC h5;clear h h5;simp only[aq] at h2;have h3:t.width=sz:=au h2.1;have h4:j+n<=sz:=aA h2.2;subst h3;obtain⟨x,hx,h⟩:=aj.1 h6;have hil:i<l.length:=(ai.1 hx).1;have hfl: (t.flat x).length=t.width:=t.flat_length x;refine⟨_,?_,fun c hc=> ?_,h⟩
  ·have e1: (l.map t.row).getD i [] =t.row x:=by simp[aw,hx]
   simp only[Cl.av,fO,nw h1];rw[e1,if_pos ⟨by simpa using hil,by rw[t.row_length]; exact h4⟩]
   congr 1
   apply bU;intro k;rw[ar,ar,Cc];by_cases hk:k<n
   ·have hjk:j+k< (t.flat x).length:=by omega
    rw[List.getElem?_range hk,bi,if_pos hk,aX,ah hjk];simp only[aB];rw[t.row_flat,aw,ar,ah hjk];simp only[aB,aP];rw[C.own_tree]
   ·rw[bi,if_neg hk,bR (by simp; omega)];rfl
  ·obtain⟨k,hk⟩:=List.getElem?_of_mem hc;rw[Cc] at hk;simp only[ak] at hk;obtain⟨y,_,rfl⟩:=hk;cases y with
   |sc v=>trivial
   |ls t' l'=>exact⟨hv,fun h=>by cases h⟩
 ·cases h
theorem Qf {G:List (Option fr)} {ag:Bool} {cs:List Cl} (hcs: ∀c∈cs,c.ok G) {κ:V->Option ρ} {r:ρ} (h:V9 ag cs κ=some r): ∃v,TG ag (cs.map Cl.av)=some v.av/\v.ok G/\κ v=some r:=by
 unfold V9 at h;cases ag with
 |true=>refine⟨_,rfl,?_,h⟩; exact hcs
 |false=>
  simp only[cond_false] at h;split at h
  ·rename_i c;refine⟨_,rfl,?_,h⟩; exact hcs c (by simp)
  ·cases h
theorem Kz (hΘ:iq P Θ) (hS:S.ok) {t:TypeId} {v:V} (hv:v.ok S.gh) {κ:V->Option ρ} {r:ρ} (h:Ko Θ S t v κ=some r):
  ∃u,load P S.st t v.av=some u.av/\u.ok S.gh/\κ u=some r:=by
 unfold Ko at h;split at h
 ·rename_i ti hti;have hok:=hΘ _ _ hti;split at h
  ·rename_i a;obtain⟨cs,h1,h2,h⟩:=OI hS hv h;obtain⟨u,h3,h4,h⟩:=Qf h2 h;refine⟨u,?_,h4,h⟩;unfold load;rw[hok.ag,hok.cells];simp only[ae,V.av,V1.av,h1];exact h3
  ·cases h
 ·cases h
theorem Qg {p:fj} {κ:Int->Option ρ} {r:ρ} (h:P6 S p κ=some r): ∃tr,gx S.gh p.r=some tr/\κ tr.l.length=some r:=by
 unfold P6 at h;split at h
 ·split at h
  ·rename_i tr htr;exact⟨tr,fr.look htr,h⟩
  ·cases h
 ·cases h
theorem Sl {n:Nat} {i:Int} {v:Cl} (hv:v.ok S.gh) {κ:Cl->Option ρ} {r:ρ} (h:Uf n i S v κ=some r): ∃c,A1 n i v.av=some c.av/\c.ok S.gh/\κ c=some r:=by
 unfold Uf at h;split at h
 ·rename_i t l;obtain⟨h1,h⟩:=eC h;have h1:t.width=n:=au h1;obtain⟨h2,h⟩:=fR h;obtain⟨x,hx,h⟩:=aj.1 h;have hil:=(ai.1 hx).1;refine⟨_,?_,?_,h⟩
  rotate_left
  ·trivial
  simp only[Cl.av,C.av,A1,aD];rw[if_pos ⟨h2,by omega,h1⟩]
  congr 1
  simp[aw,hx,t.row_flat]
 ·rename_i p sz lo len;obtain⟨h1,h⟩:=eC h;have h1:sz=n:=au h1;obtain⟨tr,h3,h⟩:=Qg h;obtain⟨h4,h⟩:=fR h;obtain⟨h5,h6⟩:=hv;obtain⟨h7,h8,h9⟩:=h6 rfl;have h10:=h9 _ h3;refine⟨_,?_,?_,h⟩
  rotate_left
  ·exact h5
  simp only[Cl.av,A1];rw[if_pos ⟨h4.1,by omega,h1⟩,h8,aU]
 ·rename_i p sz lo len;obtain⟨h1,h⟩:=eC h;have h1:sz=n:=au h1;obtain⟨h4,h⟩:=fR h;refine⟨_,?_,?_,h⟩
  rotate_left
  ·exact hv.1
  simp only[Cl.av,A1];rw[if_pos ⟨h4.1,h4.2,h1⟩]
 ·cases h
theorem ND {v:Cl} (hv:v.ok S.gh) {κ:Int->Option ρ} {r:ρ} (h:Sd S v κ=some r): ∃n,wT v.av=some n/\κ n=some r:=by
 unfold Sd at h;split at h
 ·exact⟨_,by simp[Cl.av,C.av,wT],h⟩
 ·obtain⟨t,l,h2,h3,h⟩:=jd h;obtain⟨h5,h6⟩:=hv;obtain⟨h7,h8,h9⟩:=h6 rfl;have h10:=h9 _ (h3 h7);simp only at h10;exact⟨_,by simp[Cl.av,wT,h10],h⟩
 ·exact⟨_,rfl,h⟩
 ·exact⟨_,rfl,h⟩
 ·cases h
theorem So {n:Nat} {lo hi:Int} {v:Cl} (hv:v.ok S.gh) {κ:Cl->Option ρ} {r:ρ} (h:Ug n lo hi v κ=some r): ∃c,TH n lo hi v.av=some c.av/\c.ok S.gh/\κ c=some r:=by
 unfold Ug at h;split at h
 ·obtain⟨h1,h⟩:=fR h;exact⟨.em,by simp[Cl.av,TH,h1],trivial,h⟩
 ·rename_i t l;obtain⟨h1,h⟩:=eC h;have h1:t.width=n:=au h1;obtain⟨h2,h⟩:=fR h;refine⟨_,?_,?_,h⟩
  rotate_left
  ·trivial
  simp only[Cl.av,C.av,TH,aD];rw[if_pos ⟨h1,h2⟩];simp[bW,cf]
 ·rename_i p sz l len w;obtain⟨h1,h⟩:=eC h;have h1:sz=n:=au h1;obtain⟨h2,h⟩:=fR h;refine⟨_,?_,?_,h⟩
  rotate_left
  ·exact⟨hv.1,fun h=>by cases h⟩
  simp only[Cl.av,TH];rw[if_pos ⟨h1,h2⟩]
 ·cases h
theorem Hv {d:Int} {x:Option Operand} {κ:Int->Option ρ} {r:ρ} (h:Iq S d x κ=some r): ∃n,nv S.st d x=some n/\κ n=some r:=by
 unfold Iq at h;split at h
 ·exact⟨_,rfl,h⟩
 ·obtain⟨n,h1,h⟩:=Bf h;exact⟨n,by simp only[nv,eI]; exact h1,h⟩
theorem Sq {G:List (Option fr)}: ∀ (parts:List (Nat×V)) (pl:List (Nat×Nat×Bool)) (cs cs':List Cl),(∀c∈cs,c.ok G)->(∀x∈parts,x.2.ok G)->OF pl cs parts=some cs'->
  RR (pl.map fun x=>(x.1,x.2.1)) (cs.map Cl.av) (parts.map fun x=>(x.1,x.2.av))=some (cs'.map Cl.av)/\ ∀c∈cs',c.ok G:=by
 intro parts
 induction parts with
 |nil=>intro pl cs cs' hcs _ h;simp only[OF,af] at h;subst h;exact⟨rfl,hcs⟩
 |cons x parts ih=>
  intro pl cs cs' hcs hp h;obtain⟨k,v⟩:=x;simp only[OF] at h;split at h
  ·rename_i off n ag hk;split at h
   ·rename_i x;have hx:x.ok G:=hp (k, .v x) (by simp)
    have gE: ∀ (hd: (V.v x).av.isDead=false) (hcell: (V.v x).av.cells=x.cells.map Cl.av) (hcok: ∀c∈x.cells,c.ok G)
      (h: (bif Nat.beq x.cells.length n&&Nat.ble (off+n) cs.length then OF pl (cs.take off++x.cells++cs.drop (off+n)) parts else none)=some cs'),
      RR (pl.map fun x=>(x.1,x.2.1)) (cs.map Cl.av) (((k,V.v x)::parts).map fun x=>(x.1,x.2.av))=some (cs'.map Cl.av)/\ ∀c∈cs',c.ok G:=by
     intro hd hcell hcok h;obtain⟨h1,h⟩:=eC h;simp only[aq] at h1;have h2:x.cells.length=n:=au h1.1;have h3:off+n<=cs.length:=aA h1.2
     obtain⟨g1,g2⟩:=ih pl _ cs' (fun c hc=>by
      simp only[bc] at hc;rcases hc with (hc|hc)|hc
      ·exact hcs c (b8 hc)
      ·exact hcok c hc
      ·exact hcs c (bG hc)) (fun y hy=>hp y (aF _ hy)) h
     refine⟨?_,g2⟩;rw[gR] at hk;simp only[aZ,RR,ar,hk,aB];rw[if_pos ⟨hd,by rw[hcell]; simpa using h2,by simpa using h3⟩,<-g1,hcell];simp[bW,cf]
    cases x with
    |cl c=>cases c with
     |dead=>cases h
     |c y=>cases y<;>exact gE rfl rfl (fun c hc=>by simp only[V1.cells,az] at hc; subst hc; exact hx) h
     |em=>exact gE rfl rfl (fun c hc=>by simp only[V1.cells,az] at hc; subst hc; exact hx) h
     |own p sz lo len w=>exact gE rfl rfl (fun c hc=>by simp only[V1.cells,az] at hc; subst hc; exact hx) h
     |pro cs=>exact gE rfl rfl (fun c hc=>by simp only[V1.cells,az] at hc; subst hc; exact hx) h
     |ptrB n j=>exact gE rfl rfl (fun c hc=>by simp only[V1.cells,az] at hc; subst hc; exact hx) h
     |ptrT p sz i j=>exact gE rfl rfl (fun c hc=>by simp only[V1.cells,az] at hc; subst hc; exact hx) h
    |agg cs2=>exact gE rfl rfl hx h
    |fn f cs2=>cases h
   ·cases h
  ·cases h
end
end
section
open Go
theorem eK {α β:Type} {P:Program} (s:Sem α) (f:α->Sem β):eU P (s >>=f)=(eU P s).bind fun a=>eU P (f a):=by
 show eU P (s.bind f)=_
 induction s with
 |pure a=>rfl
 |program k ih=>exact ih P
 | _=>rfl
theorem eR {α:Type} {P:Program} (a:α):eU P (pure a)=some a:=rfl
theorem yT: ∀ {zs:List Value} {a:List Cl},nB zs a=true-> ∃xs:List Value,a=xs.map (fun x=>Cl.c (.sc x))
 | [],[],_=>⟨[],rfl⟩
 | .int k n::zs,a,h=>by
   unfold nB at h;split at h
   ·rename_i heq;cases heq
   ·rename_i k1 n1 zs1 k2 n2 cs h1;have hd:=h;cases hk:decide (k1=k2) with
    |false=>rw[hk] at h; cases h
    |true=>rw[hk] at h;obtain⟨xs,hx⟩:=yT (zs:=zs1) (a:=cs) h;exact⟨.int k2 n2::xs,by rw[hx]; rfl⟩
   ·rename_i b1 zs1 b2 cs h1;cases h1
   ·cases h
 | .bool b::zs,a,h=>by
   unfold nB at h;split at h
   ·rename_i heq;cases heq
   ·rename_i h1;cases h1
   ·rename_i b1 zs1 b2 cs h1;obtain⟨xs,hx⟩:=yT (zs:=zs1) (a:=cs) h;exact⟨.bool b2::xs,by rw[hx]; rfl⟩
   ·cases h
 | .float _ _::_,_,h=>by simp[nB] at h
 | .complex _ _ _::_,_,h=>by simp[nB] at h
 | .string _::_,_,h=>by simp[nB] at h
 | .pointer _::_,_,h=>by simp[nB] at h
 | .slice _ _ _::_,_,h=>by simp[nB] at h
 | .map _::_,_,h=>by simp[nB] at h
 | .chan _::_,_,h=>by simp[nB] at h
 | .func _ _ _::_,_,h=>by simp[nB] at h
 | .nilFunc::_,_,h=>by simp[nB] at h
 | .iface _ _::_,_,h=>by simp[nB] at h
 | .nilIface::_,_,h=>by simp[nB] at h
 | .agg _::_,_,h=>by simp[nB] at h
 | .tuple _::_,_,h=>by simp[nB] at h
 | [],_::_,h=>by simp[nB] at h
theorem NE (f:AV->Option Value) (hf: ∀v,f (.sc v)=some v): ∀xs:List Value,((xs.map fun x=>Cl.c (.sc x)).map Cl.av).mapM f=some xs
 | [] =>rfl
 |x::xs=>by simp only[aZ,dw,NE f hf xs];show (f (.sc x)).bind _=_;rw[hf];rfl
theorem NF (xs:List Value):vy (V.v (.agg (xs.map fun x=>Cl.c (.sc x)))).av=some (.agg xs.toArray):=by simp only[V.av,V1.av,vy];rw[NE _ (fun _=>rfl)];rfl
theorem gy {P:Program} {t:TypeId} {d:TypeDesc} (h:P.underlying t=some d):eU P (underlying t)=some d:=by simp only[underlying,eK,program,eU,ae,h];rfl
section
variable {ρ:Type} {P:Program} {Θ:qG} {S:TS}
theorem Qh (hΘ:iq P Θ) {t:TypeId} {x y:V} {κ:Bool->Option ρ} {r:ρ} (h:U4 Θ t x y κ=some r):
  ∃b,κ b=some r/\((∃k a c,x.av= .sc (.int k a)/\y.av= .sc (.int k c)/\b=(a==c))\/
   ((∀k a k' c,¬ (x.av= .sc (.int k a)/\y.av= .sc (.int k' c)))/\ ∃xv yv,vy x.av=some xv/\vy y.av=some yv/\(∀op xo yo,eU P (eqGuard op t xo yo xv yv)=some ())/\eU P (binOp .eql t xv yv)=some (.bool b)/\eU P (binOp .neq t xv yv)=some (.bool (!b)))):=by
 unfold U4 at h;split at h
 ·rename_i k a k' c;split at h
  ·rename_i hk;subst hk;exact⟨_,h, .inl ⟨k,a,c,rfl,rfl,rfl⟩⟩
  ·cases h
 ·rename_i a c;split at h
  ·rename_i ti hti;split at h
   ·rename_i hb;have hu:=(hΘ _ _ hti).bool hb
    have hE:eU P (Op.equal t (.bool a) (.bool c))=some (a==c):=by show eU P (Op.equalIn (9999+1) t (.bool a) (.bool c))=_;rw[Op.equalIn];simp only[eK,gy hu,ae,eR]
    refine⟨_,h, .inr ⟨fun k a k' c hc=>by simp[V.av,V1.av,Cl.av,C.av] at hc, .bool a, .bool c,rfl,rfl,fun op xo yo=> ?_,?_,?_⟩⟩
    ·cases op<;>simp[eqGuard,eR]<;>rfl
    ·simp only[binOp,eK,hE,ae,eR]
    ·simp only[binOp,eK,hE,ae,eR]
   ·cases h
  ·cases h
 ·rename_i a c;refine⟨_,h, .inr ⟨fun k a k' c hc=>by simp[V.av,V1.av,Cl.av,C.av] at hc, .string a, .string c,rfl,rfl,fun op xo yo=> ?_,?_,?_⟩⟩
  ·cases op<;>simp[eqGuard,eR]<;>rfl
  ·simp only[binOp,Op.stringOp,eR];rfl
  ·simp only[binOp,Op.stringOp,eR];rfl
 ·rename_i a c;split at h
  ·rename_i ti hti;obtain⟨h1,h'⟩:=eC h;simp only[aq] at h1;obtain⟨⟨⟨h1,hfl⟩,h2⟩,h3⟩:=h1;split at h'
   ·rename_i b hb;obtain⟨xs,hx⟩:=yT h2;obtain⟨ys,hy⟩:=yT h3;have hok:=hΘ _ _ hti;have hE:=hok.eq h1 a c b xs ys h2 h3 hb hx hy;have hg:=hok.gu h1 hfl;refine⟨_,h', .inr ⟨fun k a k' c hc=>by simp[V.av,V1.av] at hc, .agg xs.toArray, .agg ys.toArray,by rw[hx]; exact NF xs,by rw[hy]; exact NF ys,fun op xo yo=> ?_,?_,?_⟩⟩
    ·cases op<;>simp[eqGuard,eK,eR,program,eU,hg]
    ·simp only[binOp,eK,hE,ae,eR]
    ·simp only[binOp,eK,hE,ae,eR]
   ·cases h'
  ·cases h
 ·cases h
theorem pT {f:IntKind->Int->Int->Option ρ} {x y:V} {r:ρ} (h:V.ints f x y=some r): ∃k a b,x.av= .sc (.int k a)/\y.av= .sc (.int k b)/\f k a b=some r:=by
 unfold V.ints at h;split at h
 ·split at h
  ·rename_i k a k' b hk;subst hk;exact⟨k,a,b,rfl,rfl,h⟩
  ·cases h
 ·cases h
theorem Sr (hΘ:iq P Θ) {D:tD} {op:BinOp} {t t':TypeId} {x y:Operand} {κ:V->Option ρ} {r:ρ} (h:Ui Θ op t (S.opd x) (S.opd y) κ=some r) {dst:Option Tmp} {ty:TypeId} {pos:String} {aft:Array Edge} {gd:Option (Nat×Bool)}:
  ∃v:V,eD D P S.st ⟨dst, .binOp op t x y t',ty,pos,aft,gd⟩=some v.av/\(∀G,v.ok G)/\κ v=some r:=by
 have eqs: ∀ (b:Bool) (xv yv:Value),vy (opd S.st x)=some xv->vy (opd S.st y)=some yv->eU P (eqGuard op t x y xv yv)=some ()->eU P (binOp op t xv yv)=some (.bool b)->
   fh P S.st ⟨dst, .binOp op t x y t',ty,pos,aft,gd⟩=some (.sc (.bool b)):=by
  intro b xv yv h1 h2 h3 h4;unfold fh;rw[if_pos (by simp[Op.operands,h1,h2])];simp only[execOp,h1,h2,aP,eK,h3,h4,ae,eR,U7,qI,if_true]
 cases op with
 |lss=>obtain⟨k,a,b,h1,h2,h3⟩:=pT h; exact⟨_,by simp only[eD,eI,h1,h2,if_true]; rfl,fun G=>V.ok_sc G _,h3⟩
 |leq=>obtain⟨k,a,b,h1,h2,h3⟩:=pT h; exact⟨_,by simp only[eD,eI,h1,h2,if_true]; rfl,fun G=>V.ok_sc G _,h3⟩
 |gtr=>obtain⟨k,a,b,h1,h2,h3⟩:=pT h; exact⟨_,by simp only[eD,eI,h1,h2,if_true]; rfl,fun G=>V.ok_sc G _,h3⟩
 |geq=>obtain⟨k,a,b,h1,h2,h3⟩:=pT h; exact⟨_,by simp only[eD,eI,h1,h2,if_true]; rfl,fun G=>V.ok_sc G _,h3⟩
 |add=>
  have h:Uh (S.opd x) (S.opd y) κ=some r:=h;unfold Uh at h;split at h
  ·rename_i a b g1 g2;obtain⟨h0,h⟩:=fR h;have hx:vy (opd S.st x)=some (.string a):=by rw[eI,g1]; rfl
   have hy:vy (opd S.st y)=some (.string b):=by rw[eI,g2]; rfl
   refine⟨_,?_,fun G=>V.ok_sc G _,h⟩;simp only[eD,eI,g1,g2];show fh P S.st ⟨dst, .binOp .add t x y t',ty,pos,aft,gd⟩=_
   have hz: ¬ ((a.size+b.size:Nat):Int)>IntKind.i64.max:=by have :IntKind.i64.max=9223372036854775807:=rfl;omega
   have e:eU P (binOp .add t (.string a) (.string b))=some (.string (a++b)):=by simp only[binOp,Op.stringOp,if_neg hz,eR]
   have g:eU P (eqGuard .add t x y (.string a) (.string b))=some ():=rfl;unfold fh;rw[if_pos (by simp[Op.operands,hx,hy])];simp only[execOp,hx,hy,aP,eK,g,e,ae,eR,U7,qI,if_true];rfl
  ·obtain⟨k,a,b,h1,h2,h3⟩:=pT h; exact⟨_,by simp only[eD,eI,h1,h2,if_true]; rfl,fun G=>V.ok_sc G _,h3⟩
 |sub=>obtain⟨k,a,b,h1,h2,h3⟩:=pT h; exact⟨_,by simp only[eD,eI,h1,h2,if_true]; rfl,fun G=>V.ok_sc G _,h3⟩
 |mul=>obtain⟨k,a,b,h1,h2,h3⟩:=pT h; exact⟨_,by simp only[eD,eI,h1,h2,if_true]; rfl,fun G=>V.ok_sc G _,h3⟩
 |eql=>
  have h':U4 Θ t (S.opd x) (S.opd y) (fun r=>κ (V.sc (.bool r)))=some r:=h;obtain⟨b,h1,h2⟩:=Qh hΘ h';refine⟨_,?_,fun G=>V.ok_sc G _,h1⟩;rcases h2 with ⟨k,a,c,e1,e2,rfl⟩| ⟨hn,xv,yv,e1,e2,e3,e4,e5⟩
  ·simp only[eD,eI,e1,e2,if_true]; rfl
  ·simp only[eD];split
   ·rename_i k a k' c g1 g2;exact absurd ⟨by rw[<-eI]; exact g1,by rw[<-eI]; exact g2⟩ (hn k a k' c)
   ·exact eqs b xv yv (by rw[eI]; exact e1) (by rw[eI]; exact e2) (e3 _ _ _) e4
 |neq=>
  have h':U4 Θ t (S.opd x) (S.opd y) (fun r=>κ (V.sc (.bool (!r))))=some r:=h;obtain⟨b,h1,h2⟩:=Qh hΘ h';refine⟨_,?_,fun G=>V.ok_sc G _,h1⟩;rcases h2 with ⟨k,a,c,e1,e2,rfl⟩| ⟨hn,xv,yv,e1,e2,e3,e4,e5⟩
  ·simp only[eD,eI,e1,e2,if_true]; rfl
  ·simp only[eD];split
   ·rename_i k a k' c g1 g2;exact absurd ⟨by rw[<-eI]; exact g1,by rw[<-eI]; exact g2⟩ (hn k a k' c)
   ·exact eqs (!b) xv yv (by rw[eI]; exact e1) (by rw[eI]; exact e2) (e3 _ _ _) e5
 |quo=>
  have h':V.ints (fun k a b=>if b=0 then none else κ (V.sc (.int k (k.wrap (a.tdiv b))))) (S.opd x) (S.opd y)=some r:=h;obtain⟨k,a,b,h1,h2,h3⟩:=pT h';split at h3
  ·cases h3
  ·rename_i hb;refine⟨_,?_,fun G=>V.ok_sc G _,h3⟩;have hx:vy (opd S.st x)=some (.int k a):=by rw[eI,h1]; rfl
   have hy:vy (opd S.st y)=some (.int k b):=by rw[eI,h2]; rfl
   simp only[eD];unfold fh;rw[if_pos (by simp[Op.operands,hx,hy])]
   have e:eU P (binOp .quo t (.int k a) (.int k b))=some (.int k (k.wrap (a.tdiv b))):=by simp only[binOp,ne_eq,not_true,if_false,Op.intDiv,if_neg hb,eR]
   have e2:eU P (execOp (fun x=>(vy (opd S.st x)).getD undef) ⟨dst, .binOp .quo t x y t',ty,pos,aft,gd⟩)=some (.value (.int k (k.wrap (a.tdiv b)))):=by show eU P (do pure (Next.value (<-(do eqGuard .quo t x y ((vy (opd S.st x)).getD undef) ((vy (opd S.st y)).getD undef); binOp .quo t ((vy (opd S.st x)).getD undef) ((vy (opd S.st y)).getD undef)))))=_;rw[hx,hy];have g:eU P (eqGuard .quo t x y (.int k a) (.int k b))=some ():=rfl;simp only[eK,aP,g,e,ae,eR]
   rw[e2];rfl
 |rem=>
  have h':V.ints (fun k a b=>if b=0 then none else κ (V.sc (.int k (a.tmod b)))) (S.opd x) (S.opd y)=some r:=h;obtain⟨k,a,b,h1,h2,h3⟩:=pT h';split at h3
  ·cases h3
  ·rename_i hb;refine⟨_,?_,fun G=>V.ok_sc G _,h3⟩;have hx:vy (opd S.st x)=some (.int k a):=by rw[eI,h1]; rfl
   have hy:vy (opd S.st y)=some (.int k b):=by rw[eI,h2]; rfl
   simp only[eD];unfold fh;rw[if_pos (by simp[Op.operands,hx,hy])]
   have e:eU P (binOp .rem t (.int k a) (.int k b))=some (.int k (a.tmod b)):=by simp only[binOp,ne_eq,not_true,if_false,Op.intDiv,if_neg hb,eR]
   have e2:eU P (execOp (fun x=>(vy (opd S.st x)).getD undef) ⟨dst, .binOp .rem t x y t',ty,pos,aft,gd⟩)=some (.value (.int k (a.tmod b))):=by show eU P (do pure (Next.value (<-(do eqGuard .rem t x y ((vy (opd S.st x)).getD undef) ((vy (opd S.st y)).getD undef); binOp .rem t ((vy (opd S.st x)).getD undef) ((vy (opd S.st y)).getD undef)))))=_;rw[hx,hy];have g:eU P (eqGuard .rem t x y (.int k a) (.int k b))=some ():=rfl;simp only[eK,aP,g,e,ae,eR]
   rw[e2];rfl
 | _=>simp[Ui] at h
end
end
section
open Go
theorem KA {G:List (Option fr)}: ∀ (l:List V) (cs:List Cl),(∀v∈l,v.ok G)->Kq l=some cs->l.map V.av=cs.map Cl.av/\ ∀c∈cs,c.ok G
 | [],cs,_,h=>by simp only[Kq,af] at h;subst h;exact⟨rfl,fun c hc=>by cases hc⟩
 |v::l,cs,hl,h=>by
  unfold Kq at h;split at h
  ·rename_i heq; cases heq
  ·rename_i c l' heq;cases heq;split at h
   ·rename_i r hr;simp only[af] at h;subst h;obtain⟨h1,h2⟩:=KA l r (fun v hv=>hl v (aF _ hv)) hr;refine⟨by simp only[aZ,h1]; rfl,fun x hx=> ?_⟩;rcases aW.1 hx with rfl|hx
    ·exact hl _ aG
    ·exact h2 x hx
   ·cases h
  ·cases h
section
variable {ρ:Type} {P:Program} {Θ:qG} {S:TS} {D:tD}
theorem Cd (hΘ:iq P Θ) (hS:S.ok) {o:Oper} {κ:V->TS->Option ρ} {r:ρ} (h:B8 Θ S o κ=some r):
  ∃v S',eD D P S.st o=some v.av/\S'.st=S.st/\S'.ok/\S'.gh=S.gh/\v.ok S.gh/\κ v S'=some r:=by
 have ok: ∀x,(S.opd x).ok S.gh:=fun x=>nI hS x;have done: ∀ {v:V},eD D P S.st o=some v.av->v.ok S.gh->κ v S=some r-> ∃v S',eD D P S.st o=some v.av/\S'.st=S.st/\S'.ok/\S'.gh=S.gh/\v.ok S.gh/\κ v S'=some r:=fun h1 h2 h3=>⟨_,S,h1,rfl,hS,rfl,h2,h3⟩
 obtain⟨dst,op,ty,pos,aft,gd⟩:=o;unfold B8 at h;cases op with
 |move x=>exact done (by simp only[eD,eI]) (ok x) h
 |assign x=>exact done (by simp only[eD,eI]) (ok x) h
 |pick c a b=>
  simp only at h;obtain⟨t,S1,h1,h2,h3,h4,h⟩:=EV hS h;cases t with
  |true=>exact⟨_,S1,by simp only[eD,h1,if_true]; rw[<-h2,eI],h2,h3,h4,by rw[<-h4]; exact nI h3 _,h⟩
  |false=>exact⟨_,S1,by simp only[eD,h1,bg,if_false]; rw[<-h2,eI],h2,h3,h4,by rw[<-h4]; exact nI h3 _,h⟩
 |load t a=>simp only at h;obtain⟨u,h1,h2,h⟩:=Kz hΘ hS (ok a) h;exact done (by simp only[eD,eI]; exact h1) h2 h
 |nilCheck x=>
  simp only at h;split at h<;>rename_i hx
  ·exact done (by simp only[eD,eI,hx]; rfl) (by rw[<-hx]; exact ok x) h
  ·exact done (by simp only[eD,eI,hx]; rfl) (by rw[<-hx]; exact ok x) h
  ·exact done (by simp only[eD,eI,hx]; rfl) (by rw[<-hx]; exact ok x) h
  ·exact done (by simp only[eD,eI,hx]; rfl) (by rw[<-hx]; exact ok x) h
  ·exact done (by simp only[eD,eI,hx]; rfl) (by rw[<-hx]; exact ok x) h
  ·cases h
 |fieldAddr t x k=>
  simp only at h;split at h
  ·rename_i ti hti;split at h
   ·rename_i off n ag hk;have hfd:=(hΘ _ _ hti).fd k;rw[hk] at hfd;cases hn:Nat.beq n 0 with
    |true=>rw[hn] at h; cases h
    |false=>
     rw[hn] at h;have hn': ¬n=0:=by intro h0; subst h0; cases hn
     simp only[cond_false] at h;split at h<;>rename_i hx
     ·refine done ?_ ?_ h
      ·simp only[eD,hfd,ae,eI,hx];rw[if_neg hn'];rfl
      ·trivial
     ·refine done ?_ ?_ h
      ·simp only[eD,hfd,ae,eI,hx];rw[if_neg hn'];rfl
      ·have:=ok x;rw[hx] at this;exact this
     ·refine done ?_ ?_ h
      ·simp only[eD,hfd,ae,eI,hx];rw[if_neg hn'];simp[V.av,V1.av,Cl.av,cf]
      ·trivial
     ·cases h
   ·cases h
  ·cases h
 |field t x k=>
  simp only at h;split at h
  ·rename_i ti hti;split at h
   ·rename_i off n ag hk;have hfd:=(hΘ _ _ hti).fd k;rw[hk] at hfd;split at h
    ·rename_i cs hx;obtain⟨h1,h⟩:=eC h;simp only[aq] at h1;have h2:off+n<=cs.length:=aA h1.1;have h3:0<n:=aA h1.2;have hcs:=ok x;rw[hx] at hcs;obtain⟨v,h4,h5,h⟩:=Qf (G:=S.gh) (fun c hc=>hcs c (bG (b8 hc))) h;refine done ?_ h5 h;simp only[eD,hfd,ae,eI,hx,V.av,V1.av,aD];rw[if_pos ⟨h2,h3⟩,<-cf,<-bW];exact h4
    ·cases h
   ·cases h
  ·cases h
 |indexAddr t x ix=>
  simp only at h;split at h
  ·rename_i ti hti;split at h
   ·rename_i e he;obtain⟨el,g1,g2,_⟩:=(hΘ _ _ hti).el e he;obtain⟨i,h1,h⟩:=Bf h;split at h
    ·rename_i a hx;have ha:=ok x;rw[hx] at ha;obtain⟨c,h2,h3,h⟩:=Sl ha h;refine done ?_ ?_ h
     ·simp only[eD,g1,ae,eI,h1,hx,g2];exact h2
     ·exact h3
    ·cases h
   ·cases h
  ·cases h
 |build t parts=>
  simp only at h;split at h
  ·rename_i ti hti;obtain⟨h1,h⟩:=eC h;split at h
   ·rename_i cs hcs;have hok:=hΘ _ _ hti
    obtain⟨g1,g2⟩:=Sq (G:=S.gh) _ _ _ _ (fun c hc=>by
     obtain⟨v,_,rfl⟩:=aM.1 hc;exact NC _ _) (fun y hy=>by
     obtain⟨z,_,rfl⟩:=aM.1 hy;exact ok z.2) hcs
    refine done ?_ ?_ h
    ·simp only[eD,hok.pl h1,hok.ze,ae]
     have e1:ti.ty.zvs.map DX=(ti.ty.zvs.map cC).map Cl.av:=by rw[bE];exact aL fun v _=>(sK v).symm
     have e2:parts.toList.map (fun x=>(x.1,opd S.st x.2))=(parts.toList.map fun x=>(x.1,S.opd x.2)).map fun x=>(x.1,x.2.av):=by rw[bE];exact aL fun x _=>by simp[eI]
     rw[e1,e2,g1];rfl
    ·exact g2
   ·cases h
  ·cases h
 |slice t x lo hi mx=>
  cases mx with
  |some m=>simp at h
  |none=>
   simp only at h;split at h
   ·rename_i ti hti;split at h
    ·rename_i e he;obtain⟨el,g1,g2,_⟩:=(hΘ _ _ hti).el e he;split at h
     ·rename_i a hx;have ha:=ok x;rw[hx] at ha;obtain⟨n,h1,h⟩:=ND ha h;obtain⟨l,h2,h⟩:=Hv h;obtain⟨m,h3,h⟩:=Hv h;obtain⟨c,h4,h5,h⟩:=So ha h;refine done ?_ ?_ h
      ·simp only[eD,eI,hx];split
       ·rename_i s hs;have hs':a.av= .sc (.string s):=hs;rw[hs'] at h1;cases h1
       ·show (yH P t).bind _=_;rw[g1];simp only[ae];show (wT a.av).bind _=_;rw[h1];simp only[ae,h2,h3,g2];exact h4
      ·exact h5
     ·cases h
    ·cases h
   ·cases h
 |extract x k=>
  simp only at h;split at h
  ·rename_i vs hx;split at h
   ·rename_i v hv;have hvs:=ok x;rw[hx] at hvs;rw[gR] at hv;refine done ?_ ?_ h
    ·simp only[eD,eI,hx,V.av,ar,hv,aB]
    ·exact hvs v (ao hv)
   ·cases h
  ·cases h
 |makeFunc fn first caps=>
  cases fn with
  |func f=>
   simp only at h;obtain⟨h1,h⟩:=eC h;split at h
   ·rename_i cs hcs
    obtain⟨g1,g2⟩:=KA (G:=S.gh) _ _ (fun v hv=>by obtain⟨y,_,rfl⟩:=aM.1 hv;exact ok y) hcs
    refine done ?_ ?_ h
    ·simp only[eD,h1,if_true]
     have e:caps.toList.map (opd S.st)=(caps.toList.map S.opd).map V.av:=by rw[bE];exact aL fun x _=>eI x
     rw[e,g1];rfl
    ·exact g2
   ·cases h
  | _=>simp at h
 |unOp op t x=>
  cases op with
  |not=>
   simp only at h;split at h
   ·rename_i b hx;refine done ?_ ?_ h
    ·simp only[eD,eI,hx]; rfl
    ·trivial
   ·cases h
  | _=>simp at h
 |binOp op t x y t'=>simp only at h;obtain⟨v,h1,h2,h⟩:=Sr (D:=D) (t':=t') (dst:=dst) (ty:=ty) (pos:=pos) (aft:=aft) (gd:=gd) hΘ h;exact done h1 (h2 _) h
 |call c=>
  obtain⟨cl,as,ts⟩:=c;cases cl with
  |value f=>simp at h
  |invoke a b=>simp at h
  |builtin b=>
   cases b with
   |cap=>
    simp only at h;split at h
    ·rename_i x t e1 e2;split at h
     ·rename_i ti hti;split at h
      ·rename_i e he;obtain⟨el,g1,g2,_⟩:=(hΘ _ _ hti).el e he;split at h
       ·rename_i hx;refine done ?_ ?_ h
        ·simp only[eD,e1,e2,g1,Option.isSome_some,if_true,eI,hx];rfl
        ·trivial
       ·cases h
      ·cases h
     ·cases h
    ·cases h
   |len=>
    simp only at h;split at h
    ·rename_i x t e1 e2;split at h
     ·rename_i ti hti;split at h
      ·rename_i e he;obtain⟨el,g1,g2,_⟩:=(hΘ _ _ hti).el e he;split at h
       ·rename_i a hx;have ha:=ok x;rw[hx] at ha;obtain⟨n,h1,h⟩:=ND ha h;refine done ?_ ?_ h
        ·simp only[eD,e1,e2,g1,Option.isSome_some,if_true,eI,hx];show (wT a.av).map _=_;rw[h1];rfl
        ·trivial
       ·cases h
      ·cases h
     ·cases h
    ·cases h
   |max=>
    simp only at h;split at h
    ·rename_i x y e1;obtain⟨k,a,b,h1,h2,h⟩:=pT h;refine done ?_ (V.ok_sc _ _) h;simp only[eD,e1,aZ,ct,eI,h1,h2];rfl
    ·cases h
   |min=>
    simp only at h;split at h
    ·rename_i x y e1;obtain⟨k,a,b,h1,h2,h⟩:=pT h;refine done ?_ (V.ok_sc _ _) h;simp only[eD,e1,aZ,ct,eI,h1,h2];rfl
    ·cases h
   | _=>simp at h
 |convert s d x=>
  simp only at h;split at h
  ·rename_i si di hs hd;split at h
   ·rename_i k' hk;split at h
    ·rename_i k n hx;refine done ?_ (V.ok_sc _ _) h;have hud:=(hΘ _ _ hd).int _ hk
     obtain⟨ds,hus⟩: ∃ds,P.underlying s=some ds:=by
      have:=(hΘ _ _ hs).ag;unfold F5 at this;cases hu:P.underlying s with
      |none=>rw[hu] at this; cases this
      |some ds=>exact⟨ds,rfl⟩
     have hxv:vy (opd S.st x)=some (.int k n):=by rw[eI,hx]; rfl
     simp only[eD];unfold fh;rw[if_pos (by simp[Op.operands,hxv])]
     have e:eU P (Go.convert s d (.int k n))=some (.int k' (k'.wrap n)):=by unfold Go.convert;simp only[eK,gy hus,gy hud,ae];cases ds<;>rfl
     have e2:eU P (execOp (fun x=>(vy (opd S.st x)).getD undef) ⟨dst, .convert s d x,ty,pos,aft,gd⟩)=some (.value (.int k' (k'.wrap n))):=by show eU P (do pure (Next.value (<-Go.convert s d ((vy (opd S.st x)).getD undef))))=_;rw[hxv];simp only[eK,aP,e,ae,eR]
     rw[e2];rfl
    ·cases h
   ·cases h
  ·cases h
 |index t x ix=>
  simp only at h;split at h
  ·rename_i ti hti;split at h
   ·rename_i hs;split at h
    ·rename_i s k i hx hi;unfold eh at h;split at h
     ·rename_i h0;obtain⟨b,hb,h⟩:=aj.1 h;refine done ?_ (V.ok_sc _ _) h
      have hus:P.underlying t=some .string:=by
       have:=(hΘ _ _ hti).str;rw[hs] at this;unfold HV at this;split at this
       ·assumption
       ·cases this
      have hxv:vy (opd S.st x)=some (.string s):=by rw[eI,hx]; rfl
      have hiv:vy (opd S.st ix)=some (.int k i):=by rw[eI,hi]; rfl
      have hxa:opd S.st x= .sc (.string s):=by rw[eI,hx]; rfl
      simp only[eD,hxa];unfold fh;rw[if_pos (by simp[Op.operands,hxv,hiv])]
      have e:eU P (Instr.index t (.string s) (.int k i))=some (.int .u8 b.toNat):=by unfold Instr.index;simp only[eK,asIntOf,eR,ae,gy hus];rw[if_pos h0,hb];rfl
      have e2:eU P (execOp (fun x=>(vy (opd S.st x)).getD undef) ⟨dst, .index t x ix,ty,pos,aft,gd⟩)=some (.value (.int .u8 b.toNat)):=by show eU P (do pure (Next.value (<-Instr.index t ((vy (opd S.st x)).getD undef) ((vy (opd S.st ix)).getD undef))))=_;rw[hxv,hiv];simp only[eK,aP,e,ae,eR]
      rw[e2];rfl
     ·cases h
    ·cases h
   ·cases h
  ·cases h
 | _=>simp at h
end
end
section
open Go
theorem nJ {G:List (Option fr)} {x:Option fr} (r:Nat):gx (G++ [x]) r=if r=G.length then x else gx G r:=by
 unfold gx;rw[gR,gR];by_cases h:r=G.length
 ·subst h; simp
 ·rw[if_neg h];rcases cm r G.length with h'|h'
  ·rw[aH h']
  ·rw[bR (by simp; omega),bR h']
theorem Ce {G:List (Option fr)} (l:List fr) (r:Nat):gx (G++l.map some) r=if G.length<=r then l[r-G.length]? else gx G r:=by
 unfold gx;rw[gR,gR];by_cases h:G.length<=r
 ·rw[if_pos h,aN h,ar];cases l[r-G.length]?<;>rfl
 ·rw[if_neg h,aH (by omega)]
theorem yU {G:List (Option fr)} {r:Nat} (h:G.length<=r):gx G r=none:=by unfold gx;rw[gR,bR h];rfl
theorem yV {G:List (Option fr)} {r:Nat} {tr:fr} (h:gx G r=some tr):r<G.length:=by
 rcases cm r G.length with h'|h'
 ·exact h'
 ·rw[yU h'] at h; cases h
theorem rE {G:List (Option fr)} {x:Option fr} (q r:Nat) (hq:q<G.length\/x=none):gx (gq G q x) r=if r=q then x else gx G r:=by
 unfold gx;rw[gR,gR,jb,bP];by_cases h:q=r
 ·subst h;simp only[if_true];rcases hq with hq|rfl
  ·rw[if_pos hq]; rfl
  ·split<;>rfl
 ·rw[if_neg h,if_neg (fun e=>h e.symm)]
theorem jV.app (G:List (Option fr)) (x:Option fr):jV G (G++ [x]):=⟨by simp,fun r tr hr h=>by rw[nJ,if_neg (by omega)] at h;exact⟨tr,h,rfl⟩⟩
theorem jV.apps (G:List (Option fr)) (l:List fr):jV G (G++l.map some):=⟨by simp,fun r tr hr h=>by rw[Ce,if_neg (by omega)] at h;exact⟨tr,h,rfl⟩⟩
theorem jV.gone (G:List (Option fr)) (q:Nat):jV G (gq G q none):=⟨by rw[jb]; simp,fun r tr hr h=>by
 rw[rE q r (.inr rfl)] at h;split at h
 ·cases h
 ·exact⟨tr,h,rfl⟩⟩
theorem jV.put {G:List (Option fr)} {q:Nat} {tr tr':fr} (h:gx G q=some tr) (hl:tr'.l.length=tr.l.length):jV G (gq G q (some tr')):=⟨by rw[jb]; simp,fun r t hr h'=>by
 rw[rE q r (.inl (yV h))] at h';split at h'
 ·rename_i hq;subst hq;cases h';exact⟨tr,h,hl.symm⟩
 ·exact⟨t,h',rfl⟩⟩
theorem TS.ok_gh {S:TS} (hS:S.ok) {G:List (Option fr)} (hG:jV S.gh G): ({ S with gh:=G }:TS).ok:=
 ⟨fun x hx=>V.ok_mono hG (hS.env x hx),fun cs hcs c hc=>Cl.ok_mono hG (hS.bx cs hcs c hc)⟩
theorem EW (S:TS) (x:fr): ({ S with gh:=S.gh++ [some x] }:TS).st= { S.st with gh:=fo S.st.gh S.gh.length (some x.tree),ng:=S.gh.length+1 } :=by
 unfold TS.st;simp only[aQ,bX]
 congr 1
 funext r
 rw[nJ];unfold fo;split<;>rfl
theorem Bg (S:TS) (q:Nat): ({ S with gh:=gq S.gh q none }:TS).st= { S.st with gh:=fo S.st.gh q none } :=by
 unfold TS.st;simp only;have : (gq S.gh q none).length=S.gh.length:=by rw[jb]; simp
 rw[this]
 congr 1
 funext r
 rw[rE q r (.inr rfl)];unfold fo;split<;>rfl
theorem Cf (S:TS) {q:Nat} (x:fr) (hq:q<S.gh.length): ({ S with gh:=gq S.gh q (some x) }:TS).st= { S.st with gh:=fo S.st.gh q (some x.tree) } :=by
 unfold TS.st;simp only;have : (gq S.gh q (some x)).length=S.gh.length:=by rw[jb]; simp
 rw[this]
 congr 1
 funext r
 rw[rE q r (.inl hq)];unfold fo;split<;>rfl
theorem Ms (S:TS) (cs:List Cl): ({ S with bx:=S.bx++ [cs] }:TS).st= { S.st with bx:=fo S.st.bx S.bx.length (some (cs.map Cl.av)),nb:=S.bx.length+1 } :=by
 unfold TS.st;simp only[aQ,bX]
 congr 1
 funext n
 unfold fo;simp only[gR];by_cases h:n=S.bx.length
 ·subst h; simp
 ·rw[if_neg h];rcases cm n S.bx.length with h'|h'
  ·rw[aH h']
  ·rw[bR (by simp; omega),bR h']
theorem OJ (S:TS) {b:Nat} (cs:List Cl) (hb:b<S.bx.length): ({ S with bx:=gq S.bx b cs }:TS).st= { S.st with bx:=fo S.st.bx b (some (cs.map Cl.av)) } :=by
 unfold TS.st;have : (gq S.bx b cs).length=S.bx.length:=by rw[jb]; simp
 simp only;rw[this]
 congr 1
 funext n
 unfold fo;simp only[gR];rw[jb,bP];by_cases h:b=n
 ·subst h; simp[hb]
 ·rw[if_neg h,if_neg (fun e=>h e.symm)]
theorem Qi (t:Ty): (t.zvs.map cC).map Cl.av=t.zvs.map F6:=by
 cases t with
 |st n=>cases n<;>rfl
 | _=>rfl
theorem Qj (G:List (Option fr)) (t:Ty): ∀c∈t.zvs.map cC,c.ok G:=fun c hc=>by obtain⟨v,_,rfl⟩:=aM.1 hc;exact NC _ _
def xI (P:Program) (g:FuncId) (args:List V1) (b:Bool) (res:V) (out:List fr):Prop:=
 ∃ (t:Ty) (x:t.D) (as:List V1),args=Kv t x::as/\oz P g ((Sj t x 0).av::as.map V1.av) ((vh (t.flat x)).map fr.tree) (bif b then (vh (t.flat x)).length else 0) res.av (out.map fr.tree)
structure C2 (P:Program) (f:Nat) (args:List V1) (res:V) (out:List fr):Prop where
 fn:f<kB->va P f (args.map V1.av) [] res.av (out.map fr.tree)
 io: ∀g,f=EO g->g<kB->xI P g args true res out
 mv: ∀g,f=Ir g->xI P g args false res out
theorem Qk (g:Nat): ¬EO g<kB:=Nat.not_lt.2 (dU kB g)
theorem NG (g:Nat): ¬Ir g<kB:=Nat.not_lt.2 (bF (dU kB kB) (dU Ht g))
theorem Ql {g g':Nat} (hg:g<kB):EO g≠Ir g':=fun h=>by have h1:EO g<Ht:=Nat.add_lt_add_right hg kB;rw[h] at h1;exact Nat.not_lt.2 (dU Ht g') h1
theorem C2.of_fn {P:Program} {f:Nat} {args:List V1} {res:V} {out:List fr} (h:va P f (args.map V1.av) [] res.av (out.map fr.tree)) (hf:f<kB):C2 P f args res out:=
 ⟨fun _=>h,fun g e _=>absurd (e ▸ hf) (Qk g),fun g e=>absurd (e ▸ hf) (NG g)⟩
theorem C2.of_io {P:Program} {g:Nat} {args:List V1} {res:V} {out:List fr} (h:xI P g args true res out) (hg:g<kB):C2 P (EO g) args res out:=
 ⟨fun h'=>absurd h' (Qk g),fun g' e _=>by rw[<-Nat.add_right_cancel (e:g+kB=g'+kB)]; exact h,fun g' e=>absurd e (Ql hg)⟩
theorem C2.of_mv {P:Program} {g:Nat} {args:List V1} {res:V} {out:List fr} (h:xI P g args false res out):C2 P (Ir g) args res out:=
 ⟨fun h'=>absurd h' (NG g),fun g' e hg=>absurd e.symm (Ql hg),fun g' e=>by rw[<-Nat.add_right_cancel (e:g+Ht=g'+Ht)]; exact h⟩
theorem xI.get {P:Program} {g:FuncId} {el:Ty} {l:List el.D} {as:List V1} {b:Bool} {res:V} {out:List fr} (h:xI P g (.cl (.c (.ls el l))::as) b res out):oz P g (.own ⟨0,[]⟩ el.width 0 l.length::as.map V1.av) [.sl el.width (l.map el.row)] (bif b then 1 else 0) res.av (out.map fr.tree):=by
 obtain⟨t,x,as',he,h⟩:=h;simp only[bM] at he;obtain⟨he,rfl⟩:=he;cases t with
 |ls el'=>have he':V1.cl (.c (.ls el l))= .cl (.c (.ls el' x)):=he;cases he';exact h
 |st n=>cases n<;>cases he
 | _=>cases he
theorem xI.getA {P:Program} {g:FuncId} {ys:List C} {as:List V1} {res:V} {out:List fr} (h:xI P g (.agg (ys.map .c)::as) true res out):oz P g (.agg ((Av ys 0).map Cl.av)::as.map V1.av) ((vh ys).map fr.tree) (vh ys).length res.av (out.map fr.tree):=by
 obtain⟨t,x,as',he,h⟩:=h;simp only[bM] at he;obtain⟨he,rfl⟩:=he;cases t with
 |st n=>
  have he':V1.agg (ys.map Cl.c)= .agg ((n.flat x).map Cl.c):=he;simp only[V1.agg.injEq] at he'
  have :ys=n.flat x:=by
   have hi: ∀ (l m:List C),l.map Cl.c=m.map Cl.c->l=m:=by
    intro l
    induction l with
    |nil=>intro m hm; cases m with |nil=>rfl|cons a m=>cases hm
    |cons a l ih=>
     intro m hm;cases m with
     |nil=>cases hm
     |cons b m=>simp only[aZ,bM,Cl.c.injEq] at hm;rw[hm.1,ih m hm.2]
   exact hi _ _ he'
  subst this;exact h
 | _=>cases he
def ou (P:Program) (Y:BQ):Prop:= ∀f args ρ κ r,Y f args ρ κ=some r-> ∃res out,C2 P f args res out/\res.ok (out.map some)/\κ res out=some r
section
variable {ρ:Type} {P:Program} {Θ:qG} {S:TS}
theorem Iz {α β:Type} {f:α->(β->Option ρ)->Option ρ} {R:α->β->Prop} (hf: ∀a κ r,f a κ=some r-> ∃b,R a b/\κ b=some r):
  ∀ (l:List α) (κ:List β->Option ρ) (r:ρ),EP f l κ=some r-> ∃bs,l.length=bs.length/\(∀ (k:Nat) (a:α) (b:β),l[k]? =some a->bs[k]? =some b->R a b)/\κ bs=some r:=by
 intro l
 induction l with
 |nil=>intro κ r h; exact⟨[],rfl,fun k a b ha=>by simp at ha,h⟩
 |cons a l ih=>
  intro κ r h;obtain⟨b,h1,h⟩:=hf a _ r h;obtain⟨bs,h2,h3,h⟩:=ih _ r h;refine⟨b::bs,by simp[h2],fun k x y hx hy=> ?_,h⟩;cases k with
  |zero=>simp at hx hy; subst hx hy; exact h1
  |succ k=>exact h3 k x y (by simpa using hx) (by simpa using hy)
theorem Qm {α β γ:Type} {f:α->γ} {g:β->γ} {l:List α} {bs:List β} (h1:l.length=bs.length) (h2: ∀ (k:Nat) (a:α) (b:β),l[k]? =some a->bs[k]? =some b->f a=g b):l.map f=bs.map g:=by
 apply bU;intro k;rw[ar,ar];cases ha:l[k]? with
 |none=>rw[List.getElem?_eq_none_iff] at ha;rw[bR (by omega)];rfl
 |some a=>have:=(ai.1 ha).1;rw[ah (by omega:k<bs.length)];simp only[aB];rw[h2 k a _ ha (ah (by omega))]
theorem xJ {p:fj} {sz lo len:Nat} {t:Ty} {l:List t.D} (hc: (Cl.own p sz lo len true).ok S.gh) (h:p.l= [] ->gx S.gh p.r=some ⟨t,l,none⟩):p.l= [] /\lo=0/\len=l.length:=by obtain⟨_,h2⟩:=hc;obtain⟨a,b,c⟩:=h2 rfl;exact⟨a,b,c _ (h a)⟩
theorem EX (hS:S.ok) {et:Option Ty} {c:Cl} (hc:c.ok S.gh) {κ:Cl->Option ρ} {r:ρ} (h:OG S et c κ=some r): ∃c',(∀sz,(∀t,et=some t->sz=t.width)->gO S.st sz c.av=c'.av)/\κ c'=some r:=by
 unfold OG at h;split at h
 ·rename_i x;exact⟨_,fun sz _=>by cases x<;>rfl,h⟩
 ·split at h
  ·rename_i t;exact⟨_,fun sz hsz=>by rw[hsz t rfl]; rfl,h⟩
  ·cases h
 ·rename_i p sz lo len;obtain⟨t,l,h1,h2,h⟩:=jd h;obtain⟨h3,h⟩:=eC h;have h3:t.width=sz:=au h3;obtain⟨h4,h5,h6⟩:=xJ hc h2;refine⟨_,fun sz' _=> ?_,h⟩;simp only[Cl.av,gO,<-h3,nw h1,h5,h6,aU,aD,ay,if_true,bJ,C.av];rw[bh (by simp)]
 ·rename_i p sz lo len;obtain⟨t,l,h1,h2,h⟩:=jd h;obtain⟨h3,h⟩:=eC h;have h3:t.width=sz:=au h3;obtain⟨h4,h⟩:=fR h;refine⟨_,fun sz' _=> ?_,h⟩;simp only[Cl.av,gO,<-h3,nw h1,aD,h4,if_true,C.av];simp[bW,cf]
 ·exact⟨_,fun _ _=>rfl,h⟩
 ·rename_i p sz i j;obtain⟨t,l,h1,h2,h⟩:=jd h;obtain⟨h3,h⟩:=eC h;have h3:t.width=sz:=au h3;obtain⟨x,hx,h⟩:=aj.1 h;refine⟨_,fun sz' _=> ?_,h⟩;simp only[Cl.av,gO,<-h3,nw h1];have e1: (l.map t.row).getD i [] =t.row x:=by simp[aw,hx]
  rw[e1,t.row_flat,cf]
 ·rename_i b j;split at h
  ·rename_i cs hcs
   obtain⟨bs,h1,h2,h⟩:=Iz (R:=fun (c:Cl) (x:C)=>c.ok S.gh->T.ofAV S.st 0 c.av=x.tree) (fun c κ r h=>by
    split at h
    ·rename_i x;exact⟨x,fun _=>by cases x<;>rfl,h⟩
    ·rename_i p sz lo len;obtain⟨t,l,h1,h2,h⟩:=jd h;obtain⟨h3,h⟩:=eC h;have h3:t.width=sz:=au h3;refine⟨_,fun hc=> ?_,h⟩;obtain⟨h4,h5,h6⟩:=xJ hc h2;simp only[Cl.av,T.ofAV,<-h3,nw h1,h5,h6,aU,aD,ay,if_true,bJ,C.tree];rw[bh (by simp)]
    ·cases h) _ _ _ h
   refine⟨_,fun sz _=> ?_,h⟩;simp only[Cl.av,gO,TS.st,hcs,aB];rw[<-cf,bE]
   congr 1
   refine Qm h1 (fun k a b ha hb=>h2 k a b ha hb ?_);rw[gR] at hcs;exact hS.bx cs (ao hcs) a (bG (ao ha))
  ·cases h
 ·exact⟨_,fun _ _=>rfl,h⟩
theorem Ss (hS:S.ok): ∀ (ets:List (Option Ty)) (cs:List Cl) (κ:List Cl->Option ρ) (r:ρ),(∀c∈cs,c.ok S.gh)->Se S ets cs κ=some r->
  ∃cs',ets.length=cs.length/\List.zipWith (gO S.st) (ets.map fun |some e=>e.width|none=>0) (cs.map Cl.av)=cs'.map Cl.av/\κ cs'=some r:=by
 intro ets
 induction ets with
 |nil=>
  intro cs κ r hcs h;cases cs with
  |nil=>exact⟨[],rfl,rfl,h⟩
  |cons c cs=>cases h
 |cons et ets ih=>
  intro cs κ r hcs h;cases cs with
  |nil=>cases h
  |cons c cs=>unfold Se at h;obtain⟨c',h1,h⟩:=EX hS (hcs c aG) h;obtain⟨cs',h2,h3,h⟩:=ih cs _ r (fun x hx=>hcs x (aF _ hx)) h;refine⟨c'::cs',by simp[h2],?_,h⟩;simp only[aZ,List.zipWith_cons_cons,h3];rw[h1];intro t ht;subst ht;rfl
theorem Qn (hΘ:iq P Θ) (hS:S.ok) {t:TypeId} {v:V} (hv:v.ok S.gh) {κ:V1->Option ρ} {r:ρ} (h:Wl Θ S t v κ=some r): ∃v1:V1,lN S.st (pP P 9 t) v.av=v1.av/\κ v1=some r:=by
 unfold Wl at h;split at h
 ·cases h
 ·rename_i f cs
  obtain⟨bs,h1,h2,h⟩:=Iz (R:=fun (c c':Cl)=>c.ok S.gh->gO S.st 0 c.av=c'.av) (fun c κ r h=>by
   by_cases hc:c.ok S.gh
   ·obtain⟨c',h1,h⟩:=EX hS hc h;exact⟨c',fun _=>h1 0 (fun t ht=>by cases ht),h⟩
   ·have : ∃c',κ c'=some r:=by
     unfold OG at h;split at h
     ·exact⟨_,h⟩
     ·cases h
     ·obtain⟨t,l,_,_,h⟩:=jd h; exact⟨_,(eC h).2⟩
     ·obtain⟨t,l,_,_,h⟩:=jd h; exact⟨_,(fR (eC h).2).2⟩
     ·exact⟨_,h⟩
     ·obtain⟨t,l,_,_,h⟩:=jd h; obtain⟨x,_,h⟩:=aj.1 (eC h).2; exact⟨_,h⟩
     ·split at h
      ·obtain⟨bs,_,_,h⟩:=Iz (R:=fun _ _=>True) (fun c κ r h=>by
        split at h
        ·exact⟨_,trivial,h⟩
        ·obtain⟨t,l,_,_,h⟩:=jd h; exact⟨_,trivial,(eC h).2⟩
        ·cases h) _ _ _ h
       exact⟨_,h⟩
      ·cases h
     ·exact⟨_,h⟩
    obtain⟨c',h⟩:=this;exact⟨c',fun hc'=>absurd hc' hc,h⟩) _ _ _ h
  refine⟨_,?_,h⟩;simp only[V.av,V1.av,lN,bE]
  congr 1
  exact Qm h1 (fun k a b ha hb=>h2 k a b ha hb (hv a (ao ha)))
 ·rename_i cs;split at h
  ·rename_i ti hti;obtain⟨cs',h1,h2,h⟩:=Ss hS _ _ _ _ hv h;refine⟨_,?_,h⟩;have e: (ti.ty.csh.map fun |some e=>e.width|none=>0)=ti.ty.shs:=rfl;simp only[V.av,V1.av,lN,(hΘ _ _ hti).sh];rw[if_pos (by rw[<-e]; simpa using h1),<-e,h2]
  ·cases h
 ·exact⟨_,rfl,h⟩
 ·rename_i c hne
  have gE: ∀ (szs:List Nat),lN S.st szs (V.v (.cl c)).av=gO S.st (szs.headD 0) c.av:=by
   intro szs;cases c with
   |c x=>cases x<;>rfl
   |em=>exact absurd rfl hne
   | _=>rfl
  split at h
  ·rename_i ti hti;obtain⟨c',h1,h⟩:=EX hS hv h;refine⟨_,?_,h⟩;rw[gE];refine h1 _ (fun t ht=> ?_);rw[(hΘ _ _ hti).sh];unfold Ty.shs;cases hc:ti.ty.csh with
   |nil=>rw[hc] at ht; cases ht
   |cons a l=>rw[hc] at ht;simp only[List.headD_cons] at ht;subst ht;rfl
  ·obtain⟨c',h1,h⟩:=EX hS hv h;exact⟨_,by rw[gE]; exact h1 _ (fun t ht=>by cases ht),h⟩
theorem vJ (hΘ:iq P Θ) (hS:S.ok): ∀ (ts:List TypeId) (as:List Operand) (κ:List V1->Option ρ) (r:ρ),vH Θ S ts as κ=some r->
  ∃vs:List V1,List.zipWith (fun t a=>lN S.st (pP P 9 t) (opd S.st a)) ts as=vs.map V1.av/\κ vs=some r:=by
 intro ts
 induction ts with
 |nil=>
  intro as κ r h;cases as with
  |nil=>exact⟨[],rfl,h⟩
  |cons a as=>cases h
 |cons t ts ih=>
  intro as κ r h;cases as with
  |nil=>cases h
  |cons a as=>unfold vH at h;obtain⟨v,h1,h⟩:=Qn hΘ hS (nI hS a) h;obtain⟨vs,h2,h⟩:=ih as _ r h;exact⟨v::vs,by rw[List.zipWith_cons_cons,h2,eI,h1,aZ],h⟩
end
end
section
open Go
open Classical in
noncomputable def OK (d:Option Tmp) (g:FuncId) (args:List AV) (res:AV×List T):tD:=fun d' g' a' gs'=>if d'=d/\g'=g/\a'=args/\gs'= [] then some res else none
theorem EY {P:Program} {d:Option Tmp} {g:FuncId} {args:List AV} {res:AV} {out:List T} (h:va P g args [] res out):oF P (OK d g args (res,out)):=by
 intro d' g' a' gs' r' o' h';unfold OK at h';split at h'
 ·rename_i hc;obtain⟨rfl,rfl,rfl,rfl⟩:=hc;simp only[af,an] at h';obtain⟨rfl,rfl⟩:=h';exact h
 ·cases h'
theorem NH (d:Option Tmp) (g:FuncId) (args:List AV) (res:AV×List T):OK d g args res d g args [] =some res:=by unfold OK;rw[if_pos ⟨rfl,rfl,rfl,rfl⟩]
def JI:tD:=fun _ _ _ _=>none
theorem kG {P:Program}:oF P JI:=fun _ _ _ _ _ _ h=>by cases h
theorem OL (n:Nat) (c:Cl): (It n c).av=qJ n c.av:=by
 cases c with
 |c x=>cases x<;>rfl
 | _=>rfl
theorem EZ (n:Nat) (v:V1): (yR n v).av=ox n v.av:=by
 cases v with
 |cl c=>cases c with
  |c x=>cases x<;>rfl
  | _=>rfl
 |agg cs=>
  simp only[yR,V1.av,ox,bE]
  congr 1
  exact aL fun c _=>OL n c
 |fn f cs=>rfl
theorem Cg (n:Nat) (v:V): (ww n v).av=shift n v.av:=by
 cases v with
 |v x=>
  have :shift n x.av=ox n x.av:=by
   cases x with
   |cl c=>cases c with
    |c x=>cases x<;>rfl
    | _=>rfl
   | _=>rfl
  show (yR n x).av=shift n x.av;rw[this,EZ]
 |tup l=>
  simp only[ww,V.av,shift,bE]
  congr 1
  exact aL fun c _=>EZ n c
theorem Hw {G:List (Option fr)} {out:List fr} {c:Cl} (h:c.ok (out.map some)): (It G.length c).ok (G++out.map some):=by
 cases c with
 |own p sz lo len w=>obtain⟨h1,h2⟩:=h;refine⟨by simp at h1 ⊢; omega,fun hw=> ?_⟩;obtain⟨a,b,c⟩:=h2 hw;refine⟨a,b,fun tr htr=>c tr ?_⟩;rw[Ce,if_pos (by simp)] at htr;simp only[cF] at htr;unfold gx;rw[gR,ar,htr];rfl
 |c x=>cases x<;>trivial
 | _=>trivial
theorem E0 {G:List (Option fr)} {out:List fr} {v:V1} (h:v.ok (out.map some)): (yR G.length v).ok (G++out.map some):=by
 cases v with
 |cl c=>exact Hw h
 |agg cs=>intro c hc;obtain⟨x,hx,rfl⟩:=aM.1 hc;exact Hw (h x hx)
 |fn f cs=>trivial
theorem Ch {G:List (Option fr)} {out:List fr} {v:V} (h:v.ok (out.map some)): (ww G.length v).ok (G++out.map some):=by
 cases v with
 |v x=>exact E0 h
 |tup l=>intro c hc;obtain⟨x,hx,rfl⟩:=aM.1 hc;exact E0 (h x hx)
theorem Aw (S:TS) (v:AV) (out:List fr): ({ S with gh:=S.gh++out.map some }:TS).st=(pQ S.st (v,out.map fr.tree)).2:=by
 unfold TS.st pQ;simp only[aQ,aD]
 congr 1
 funext r
 rw[Ce];by_cases h:S.gh.length<=r
 ·rw[if_pos h];by_cases h2:r<S.gh.length+out.length
  ·rw[if_pos ⟨h,h2⟩,ar]
  ·rw[if_neg (fun hh=>h2 hh.2),bR (by omega),yU h]
 ·rw[if_neg h,if_neg (fun hh=>h hh.1)]
section
variable {ρ:Type} {P:Program} {Θ:qG} {S:TS} {Y:BQ}
theorem Bh (hS:S.ok): ∀ (caps:List Cl) (κ':List Cl->Option ρ) (r:ρ),(∀c∈caps,c.ok S.gh)->EP (OG S none) caps κ'=some r-> ∃cs,(caps.map Cl.av).map (gO S.st 0)=cs.map Cl.av/\κ' cs=some r:=by
 intro caps
 induction caps with
 |nil=>intro κ' r _ h; exact⟨[],rfl,h⟩
 |cons c caps ih=>intro κ' r hc h;unfold EP at h;obtain⟨c',g1,h⟩:=EX hS (hc c aG) h;obtain⟨cs,g2,h⟩:=ih _ r (fun x hx=>hc x (aF _ hx)) h;exact⟨c'::cs,by rw[aZ,aZ,g2,g1 0 (fun t ht=>by cases ht),aZ],h⟩
theorem Qo (hΘ:iq P Θ) (hY:ou P Y) (hS:S.ok) {f:Operand} {ts:Array TypeId} {as:Array Operand} {κ:V->TS->Option ρ} {r:ρ} (h:Nx Θ Y S f ts.toList as.toList κ=some r) {dst:Option Tmp} {ty:TypeId} {pos:String} {aft:Array Edge} {gd:Option (Nat×Bool)}:
  ∃D v S',oF P D/\iJ D P S.st ⟨dst, .call { callee:= .value f,args:=as,argTypes:=ts },ty,pos,aft,gd⟩=some (V.av v,TS.st S')/\S'.ok/\v.ok S'.gh/\κ v S'=some r:=by
 have fin: ∀ (g:FuncId) (caps:List AV) (vs:List V1),g<kB->callee S.st f=some (g,caps)->args P S.st ts as caps=vs.map V1.av->Y g vs ρ (fun res out=>κ (ww S.gh.length res) { S with gh:=S.gh++out.map some })=some r->
   ∃D v S',oF P D/\iJ D P S.st ⟨dst, .call { callee:= .value f,args:=as,argTypes:=ts },ty,pos,aft,gd⟩=some (V.av v,TS.st S')/\S'.ok/\v.ok S'.gh/\κ v S'=some r:=by
  intro g caps vs hg h1 h2 h3;obtain⟨res,out,h4,h5,h6⟩:=hY _ _ _ _ _ h3;have h4:=h4.fn hg;refine⟨OK dst g (vs.map V1.av) (res.av,out.map fr.tree),_,_,EY h4,?_,TS.ok_gh hS (jV.apps _ _),Ch h5,h6⟩;simp only[iJ,h1,ae,h2];rw[NH];simp only[aB];rw[Aw S res.av out,Cg];rfl
 unfold Nx at h;split at h
 ·rename_i g x y hf;obtain⟨hg,h⟩:=eC h;have hg:g<kB:=aA hg;obtain⟨vs,h1,h⟩:=vJ hΘ hS _ _ _ _ h;refine fin g [] vs hg ?_ ?_ h
  ·unfold callee;rw[eI,hf];rfl
  ·unfold args;simp only[ct,bH];exact h1
 ·rename_i g caps hf;obtain⟨hg,h⟩:=eC h;have hg:g<kB:=aA hg;obtain⟨vs,h1,h⟩:=vJ hΘ hS _ _ _ _ h
  have hcaps: ∀c∈caps,c.ok S.gh:=by have:=nI hS f;rw[hf] at this;exact this
  obtain⟨cs,h2,h⟩:=Bh hS _ _ _ hcaps h;refine fin g (caps.map Cl.av) (vs++cs.map .cl) hg ?_ ?_ h
  ·unfold callee;rw[eI,hf];rfl
  ·unfold args;rw[h1,h2,cg,bE];rfl
 ·cases h
theorem iK {t t':Ty} {l:List t.D} {l':List t'.D} (h:xG t t' l=some l'): ∃e:t=t',e ▸ l=l':=by
 unfold xG at h;split at h
 ·rename_i e;exact⟨e,Option.some.inj h⟩
 ·cases h
theorem OM {t:Ty} (h:t.flatB=true) (x:t.D): (t.row x).all T.flat=true:=by
 cases t with
 |st n=>cases n<;>first |rfl|cases h
 |ls t=>cases h
 | _=>rfl
theorem Ci (t:Ty): (t.shs.all (· ==0))=t.flatB:=by
 cases t with
 |st n=>cases n<;>rfl
 |ls t=>
  show ((t.width==0)&&true)=false;have:=t.width_pos;cases hw:t.width with
  |zero=>omega
  |succ n=>rfl
 | _=>rfl
theorem yW {t:Ty} (h:t.flatB=true) (l:List t.D): (l.map t.row).all (fun r=>r.all T.flat)=true:=by rw[ax];intro x hx;obtain⟨y,_,rfl⟩:=aM.1 hx;exact OM h y
theorem Su (hS:S.ok) {el:Ty} {v:Cl} (hv:v.ok S.gh) {κ:List el.D->TS->Option ρ} {r:ρ} (h:P7 S el v κ=some r):
  ∃more S',kE S.st el.width el.flatB v.av=some (more.map el.row,S'.st)/\S'.ok/\jV S.gh S'.gh/\S'.gh.length=S.gh.length/\S'.fz=S.fz/\κ more S'=some r:=by
 unfold P7 at h;split at h
 ·exact⟨[],S,rfl,hS,jV.refl _,rfl,rfl,h⟩
 ·rename_i t l;obtain⟨h1,h⟩:=eC h;split at h
  ·rename_i l' hl;obtain⟨e,hl⟩:=iK hl;subst e;simp only at hl;subst hl;refine⟨l,S,?_,hS,jV.refl _,rfl,rfl,h⟩;simp only[Cl.av,C.av,kE];rw[if_pos ⟨trivial,yW h1 l⟩]
  ·cases h
 ·rename_i p sz lo len w;obtain⟨h0,h⟩:=eC h;have h0:el.width=sz:=au h0;cases hfl:el.flatB with
  |true=>
   rw[hfl] at h;simp only[cond_true] at h;obtain⟨t,l,h1,h2,h⟩:=jd h;split at h
   ·rename_i l' hl;obtain⟨e,hl⟩:=iK hl;subst e;simp only at hl;subst hl
    have src: ∀ (lo len:Nat),lo+len<=l.length->kE S.st t.width true (.own p sz lo len)=some (((l.drop lo).take len).map t.row,S.st):=by intro lo len hle;simp only[kE];rw[if_pos h0.symm,nw h1];simp only[ae,Bool.true_eq_false,false_and,if_false,aD];rw[if_pos ⟨hle,by rw[<-cf,<-bW]; exact yW hfl _⟩];simp[bW,cf]
    cases w with
    |true=>obtain⟨e1,e2,e3⟩:=xJ hv h2;refine⟨l,S,?_,hS,jV.refl _,rfl,rfl,h⟩;have:=src lo len (by omega);rw[e2,e3,bJ,be] at this;simp only[Cl.av];rw[e2,e3];exact this
    |false=>simp only[cond_false] at h;obtain⟨h3,h⟩:=fR h;exact⟨_,S,src lo len h3,hS,jV.refl _,rfl,rfl,h⟩
   ·cases h
  |false=>
   rw[hfl] at h;simp only[cond_false] at h;split at h
   ·rename_i hp;obtain⟨h3,h6⟩:=eC h;clear h;simp only[aq] at h3;obtain⟨hw,h4⟩:=h3;have h4:S.fz<=p.r:=aA h4;subst hw;obtain⟨t,l,h1,h2,h⟩:=jd h6;split at h
    ·rename_i l' hl;obtain⟨e,hl⟩:=iK hl;subst e;simp only at hl;subst hl;obtain⟨e1,e2,e3⟩:=xJ hv h2;refine⟨l,_,?_,TS.ok_gh hS (jV.gone _ _),jV.gone _ _,by simp[jb],rfl,h⟩;simp only[Cl.av,kE];rw[if_pos h0.symm,nw h1];simp only[ae,aD];rw[if_pos ⟨trivial,hp,e2,e3,h4⟩,Bg]
    ·cases h
   ·cases h
 ·cases h
end
end
section
open Go
theorem Mt (t:Ty):t.zvs.length=t.width:=by
 cases t with
 |st n=>cases n<;>rfl
 | _=>rfl
theorem Ax (t:Ty):t.shs.length=t.width:=by
 cases t with
 |st n=>cases n<;>rfl
 | _=>rfl
theorem D4 {P:Program} {el:TypeId} {e:Ty} (h1:P.cellsOf el=e.width) (h2:pP P 9 el=e.shs) (h3:BP P el=some e.zvs):Dr P el=some (List.zipWith zc e.shs e.zvs):=by unfold Dr;rw[h3];simp only[ae];rw[if_pos ⟨by rw[h1,Mt],by rw[h2,h1,Ax]⟩,h2]
section
variable {ρ:Type} {P:Program} {Θ:qG} {S:TS}
theorem Qp (hS:S.ok) {el:Ty} {v:Cl} (hv:v.ok S.gh) {more:List el.D} {κ:List el.D->TS->Option ρ} {r:ρ} (h:Kr S el v more κ=some r):
  ∃l S',jO S.st v.av el.width (more.map el.row)=some (.own ⟨S.gh.length,[]⟩ el.width 0 l.length,{ S'.st with gh:=fo S'.st.gh S.gh.length (some (.sl el.width (l.map el.row))),ng:=S.gh.length+1 })/\
   S'.ok/\jV S.gh S'.gh/\S'.gh.length=S.gh.length/\κ l S'=some r:=by
 unfold Kr at h;split at h
 ·refine⟨more,S,?_,hS,jV.refl _,rfl,h⟩;simp only[Cl.av,jO,aD];rfl
 ·rename_i p sz lo len w;obtain⟨h0,h'⟩:=eC h;clear h;simp only[aq] at h0;have hfz:S.fz<=p.r:=aA h0.1;have hsz:el.width=sz:=au h0.2;split at h'
  ·rename_i hp;obtain⟨t,l,h1,h2,h⟩:=jd h';split at h
   ·rename_i l' hl;obtain⟨e,hl⟩:=iK hl;subst e;simp only at hl;subst hl
    have fin: ∀ (len:Nat),¬l.length<len->jO S.st (.own p sz 0 len) t.width (more.map t.row)=some (.own ⟨S.gh.length,[]⟩ t.width 0 (l.take len++more).length,{ ({ S with gh:=gq S.gh p.r none }:TS).st with gh:=fo ({ S with gh:=gq S.gh p.r none }:TS).st.gh S.gh.length (some (.sl t.width ((l.take len++more).map t.row))),ng:=S.gh.length+1 }):=by
     intro len hlen;simp only[jO];rw[if_pos ⟨hsz.symm,trivial,hfz⟩,nw h1];simp only[ae,aD];rw[if_neg hlen,if_pos hp,Bg];have e1: (l.take len++more).length=len+more.length:=by simp; omega
     rw[e1,cg,bW];rfl
    cases w with
    |true=>obtain⟨e1,e2,e3⟩:=xJ hv h2;refine⟨_,_,?_,TS.ok_gh hS (jV.gone _ _),jV.gone _ _,by simp[jb],h⟩;have:=fin l.length (by omega);rw[be] at this;simp only[Cl.av];rw[e2,e3];exact this
    |false=>simp only[cond_false] at h;obtain⟨h3,h⟩:=fR h;obtain⟨h4,h⟩:=Cb h;refine⟨_,_,?_,TS.ok_gh hS (jV.gone _ _),jV.gone _ _,by simp[jb],h⟩;simp only[Cl.av];rw[h3];exact fin len h4
   ·cases h
  ·rename_i i j hp;split at h'
   ·rename_i tr htr;split at h'
    ·rename_i hh;obtain⟨t,l,h1,h2,h⟩:=jd h';split at h
     ·rename_i l' hl;obtain⟨e,hl⟩:=iK hl;subst e;simp only at hl;subst hl;obtain⟨h3,h⟩:=fR h;obtain⟨h4,h⟩:=Cb h;have hg:=fr.look htr;have hput:jV S.gh (gq S.gh p.r (some (fr.mk tr.t tr.l (some (i,j))))):=jV.put hg rfl;refine⟨_,{ S with gh:=gq S.gh p.r (some (fr.mk tr.t tr.l (some (i,j)))) },?_,TS.ok_gh hS hput,hput,by simp[jb],h⟩;simp only[Cl.av,jO];rw[if_pos ⟨hsz.symm,h3,hfz⟩,nw h1];simp only[ae,aD];rw[if_neg h4,if_neg (by rw[hp]; simp),Cf _ _ (yV hg)];have e1: (l.take len++more).length=len+more.length:=by simp; omega
      rw[e1,cg,bW]
      have e2:S.st.setAt p .dd= { S.st with gh:=fo S.st.gh p.r (some (fr.tree ⟨tr.t,tr.l,some (i,j)⟩)) } :=by
       unfold St.setAt
       congr 2
       show ((gx S.gh p.r).map fr.tree).map _=_;rw[hg,hp];obtain⟨t0,l0,hole⟩:=tr;simp only at hh;subst hh;rfl
      rw[e2];rfl
     ·cases h
    ·cases h'
   ·cases h'
  ·cases h'
 ·cases h
theorem Sv (hΘ:iq P Θ) (hS:S.ok) {t:TypeId} {s x:Operand} {κ:V->TS->Option ρ} {r:ρ} (h:Sf Θ S t (S.opd s) (S.opd x) κ=some r) {dst:Option Tmp} {ty:TypeId} {pos:String} {aft:Array Edge} {gd:Option (Nat×Bool)} {D:tD}:
  ∃v S',iJ D P S.st ⟨dst, .call { callee:= .builtin .append,args:= #[s,x],argTypes:= #[t,t] },ty,pos,aft,gd⟩=some (V.av v,TS.st S')/\S'.ok/\v.ok S'.gh/\κ v S'=some r:=by
 unfold Sf at h;split at h
 ·rename_i ti hti;split at h
  ·rename_i el sv xv he hs hx;obtain⟨elT',g1,g2,g3,g4,g5,g6⟩:=(hΘ _ _ hti).el el he;have hsv:=nI hS s;rw[hs] at hsv;have hxv:=nI hS x;rw[hx] at hxv;obtain⟨more,S1,h1,k1,k2,k3,k4,h⟩:=Su hS (show xv.ok S.gh from hxv) h;obtain⟨l,S2,h2,m1,m2,m3,h⟩:=Qp k1 (Cl.ok_mono k2 (show sv.ok S.gh from hsv)) h;obtain⟨hb,h⟩:=fR h;have hgl:jV S1.gh (S2.gh++ [some ⟨el,l,none⟩]):=m2.trans (jV.app _ _);refine⟨_,_,?_,TS.ok_gh m1 (jV.app _ _),?_,h⟩
   ·simp only[iJ];rw[if_pos trivial,g1];simp only[ae,g2,g5,Ci,eI,hs,hx];show (kE S.st el.width el.flatB xv.av).bind _=_;rw[h1];simp only[ae];show (jO S1.st sv.av el.width _).bind _=_;rw[h2];simp only[ae];have hlen:l.length<=2 ^ 40:=bF (dI _ g4) hb;rw[if_pos ⟨by rw[g3]; exact hb,hlen,el.width_pos,by rw[D4 g2 g5 g6]; rfl⟩];rw[EW,m3];rfl
   ·refine⟨by simp,fun _=>⟨rfl,rfl,fun tr htr=> ?_⟩⟩;rw[nJ,if_pos rfl] at htr;cases htr;rfl
  ·cases h
 ·cases h
end
end
section
open Go
theorem Sw (a b:Nat): (a==b)=Nat.beq a b:=by rw[ce,beq_iff_eq];exact⟨fun h=>by rw[h]; exact cI _,fun h=>au h⟩
theorem Qq (a b:Nat): (a==b)=Nat.beq b a:=by rw[ce,beq_iff_eq];exact⟨fun h=>by rw[h]; exact cI _,fun h=>(au h).symm⟩
theorem E3 (r i j pr i' j':Nat) (l:List (Nat×Nat)):under ⟨r,[(i,j)]⟩ ⟨pr,(i',j')::l⟩=(Nat.beq pr r&&Nat.beq j j'):=by simp only[under,BS,dC];rw[Qq,Sw]
theorem E4 (r i j pr:Nat):under ⟨r,[(i,j)]⟩ ⟨pr,[]⟩=false:=by simp[under,BS]
theorem Bi (r i j:Nat) (c:Cl): (sI r j c).av=sF ⟨r,[(i,j)]⟩ c.av:=by
 cases c with
 |own p sz lo len w=>
  obtain⟨pr,pl⟩:=p;cases pl with
  |nil=>simp only[sI,Cl.av,sF,E4]; rfl
  |cons a l=>obtain⟨i',j'⟩:=a;simp only[sI,Cl.av,sF,E3];cases (Nat.beq pr r&&Nat.beq j j')<;>rfl
 |ptrT p sz a b=>
  obtain⟨pr,pl⟩:=p;cases pl with
  |nil=>simp only[sI,Cl.av,sF,E4]; rfl
  |cons a' l=>obtain⟨i',j'⟩:=a';simp only[sI,Cl.av,sF,E3];cases (Nat.beq pr r&&Nat.beq j j')<;>rfl
 |c x=>cases x<;>rfl
 | _=>rfl
theorem Hx (r i j:Nat) (v:V1): (vf r j v).av=vz ⟨r,[(i,j)]⟩ v.av:=by
 cases v with
 |cl c=>
  have :vz ⟨r,[(i,j)]⟩ (V1.cl c).av=sF ⟨r,[(i,j)]⟩ c.av:=by
   cases c with
   |c x=>cases x<;>rfl
   | _=>rfl
  rw[this];exact Bi r i j c
 |agg cs=>
  simp only[vf,V1.av,vz,bE]
  congr 1
  exact aL fun c _=>Bi r i j c
 |fn f cs=>
  simp only[vf,V1.av,vz,bE]
  congr 1
  exact aL fun c _=>Bi r i j c
theorem Qr (r i j:Nat) (v:V): (Hu r j v).av=kill ⟨r,[(i,j)]⟩ v.av:=by
 cases v with
 |v x=>
  have :kill ⟨r,[(i,j)]⟩ (V.v x).av=vz ⟨r,[(i,j)]⟩ x.av:=by
   cases x with
   |cl c=>cases c with
    |c x=>cases x<;>rfl
    | _=>rfl
   | _=>rfl
  rw[this];exact Hx r i j x
 |tup l=>
  simp only[Hu,V.av,kill,bE]
  congr 1
  exact aL fun c _=>Hx r i j c
theorem KB (f:V->V) (hf:f V.dead=V.dead): ∀ (l:List (Nat×V)) (t:Nat),kj (l.map fun x=>(x.1,f x.2)) t=f (kj l t)
 | [],t=>hf.symm
 | (u,v)::l,t=>by
   simp only[aZ,kj];cases Nat.beq u t with
   |true=>rfl
   |false=>exact KB f hf l t
theorem Sx (S:TS) (r i j:Nat): (S.kill r j).st=S.st.killU ⟨r,[(i,j)]⟩:=by
 unfold TS.kill TS.st St.killU;simp only[aD]
 congr 1
 ·funext t
  rw[KB _ rfl];exact Qr r i j _
 ·funext n
  rw[gR,gR,ar];cases S.bx[n]? with
  |none=>rfl
  |some cs=>
   simp only[aB,bE]
   congr 1
   exact aL fun c _=>Bi r i j c
theorem Bk {G:List (Option fr)} {r j:Nat} {c:Cl} (h:c.ok G): (sI r j c).ok G:=by
 cases c with
 |own p sz lo len w=>
  simp only[sI];split
  ·cases (Nat.beq p.r r&&Nat.beq j _)<;>first |exact h|trivial
  ·exact h
 |ptrT p sz a b=>
  simp only[sI];split
  ·cases (Nat.beq p.r r&&Nat.beq j _)<;>first |exact h|trivial
  ·exact h
 | _=>exact h
theorem Hy {G:List (Option fr)} {r j:Nat} {v:V1} (h:v.ok G): (vf r j v).ok G:=by
 cases v with
 |cl c=>exact Bk h
 |agg cs=>intro c hc;obtain⟨x,hx,rfl⟩:=aM.1 hc;exact Bk (h x hx)
 |fn f cs=>intro c hc;obtain⟨x,hx,rfl⟩:=aM.1 hc;exact Bk (h x hx)
theorem NI {S:TS} (hS:S.ok) (r j:Nat): (S.kill r j).ok:=by
 refine⟨fun x hx=> ?_,fun cs hcs c hc=> ?_⟩
 ·obtain⟨y,hy,rfl⟩:=aM.1 hx;have:=hS.env y hy;obtain⟨t,v⟩:=y;cases v with
  |v x=>exact Hy this
  |tup l=>intro c hc;obtain⟨z,hz,rfl⟩:=aM.1 hc;exact Hy (this z hz)
 ·obtain⟨y,hy,rfl⟩:=aM.1 hcs;obtain⟨z,hz,rfl⟩:=aM.1 hc;exact Bk (hS.bx y hy z hz)
def TS.with (S:TS) (no N w:Nat) (R:List (List T)):St:= { S.st with gh:=fo S.st.gh no (some (.sl w R)),ng:=N }
theorem Hz (S:TS) (r i j no N w:Nat) (R:List (List T)): (S.with no N w R).killU ⟨r,[(i,j)]⟩=(S.kill r j).with no N w R:=by
 unfold TS.with
 rw[Sx S r i j];rfl
theorem NJ {α:Type} (f:Nat->α) (t:Nat) (x y:α):fo (fo f t x) t y=fo f t y:=by
 funext u
 unfold fo;split<;>rfl
theorem KC {α:Type} (f:Nat->α) (t:Nat) (x:α):fo f t x t=x:=by unfold fo; rw[if_pos rfl]
theorem Qs {α:Type} (f:Nat->α) {t u:Nat} (h:t≠u) (x y:α):fo (fo f t x) u y=fo (fo f u y) t x:=by
 funext v
 unfold fo;by_cases h1:v=u
 ·subst h1; rw[if_pos rfl,if_neg (fun e=>h e.symm)]; rw[if_pos rfl]
 ·rw[if_neg h1];by_cases h2:v=t
  ·rw[if_pos h2,if_pos h2]
  ·rw[if_neg h2,if_neg h2,if_neg h1]
structure Sy (S S1:TS) (no:Nat):Prop where
 ok:S1.ok
 gle:jV S.gh S1.gh
 len:S1.gh.length=S.gh.length
 fz:S1.fz=S.fz
 nt:S1.nt=S.nt
 no:gx S1.gh no=gx S.gh no
def E5:Option Ty->Nat|some e=>e.width|none=>0
def Wb (X:St) (no i j:Nat) (c:AV):Option Ty->Option St
 |none=>some X
 |some t=>sG X ⟨no,[]⟩ i j t.width c
def Qt (R:List (List T)) (i j:Nat) (x:C):Option Ty->List (List T)
 |none=>R
 |some _=>R.set i ((R.getD i []).set j x.tree)
theorem Qu {S S1:TS} (hS:S.ok) {no j:Nat} (i N w:Nat) {et:Option Ty} {c:Cl} {x:C} (hc:c.ok S.gh) (h:kC S no j et c=some (x,S1)) (R:List (List T)):
  Sy S S1 no/\c≠ .dead/\(et=none->T.ofSc c.av=x.tree)/\Wb (S.with no N w R) no i j c.av et=some (S1.with no N w (Qt R i j x et)):=by
 cases c with
 |c y=>
  cases y with
  |sc v=>
   cases et with
   |none=>simp only[kC,af,an] at h;obtain⟨rfl,rfl⟩:=h;exact⟨⟨hS,jV.refl _,rfl,rfl,rfl,rfl⟩,(fun h=>by cases h),fun _=>rfl,rfl⟩
   |some t=>simp[kC] at h
  |ls t l=>cases et<;>simp[kC] at h
 |em=>
  cases et with
  |none=>simp[kC] at h
  |some t=>
   simp only[kC,af,an] at h;obtain⟨rfl,rfl⟩:=h;refine⟨⟨NI hS _ _,jV.refl _,rfl,rfl,rfl,rfl⟩,(fun h=>by cases h),(fun h=>by cases h),?_⟩;simp only[Wb,Cl.av,sG,fj.sub,bo,Hz,Qt]
   congr 1
   unfold St.setAt TS.with
   simp only;rw[KC,NJ];rfl
 |own p sz lo len wh=>
  obtain⟨pr,pl⟩:=p;cases wh with
  |false=>cases et<;>simp[kC] at h
  |true=>
   cases et with
   |none=>simp[kC] at h
   |some t=>
    cases pl with
    |cons a l=>simp[kC] at h
    |nil=>
     simp only[kC] at h;obtain⟨h1,h⟩:=eC h;simp only[aq,bV] at h1;obtain⟨⟨h1,h2⟩,h3⟩:=h1;have h1:t.width=sz:=au h1;have h2:S.fz<=pr:=aA h2;have h3:pr≠no:=by intro e; rw[e,cI] at h3; cases h3
     split at h
     ·rename_i tr htr;split at h
      ·rename_i hh;obtain⟨h4,h⟩:=eC h;have h4':tr.t.width=sz:=au h4;simp only[af,an] at h;obtain⟨rfl,rfl⟩:=h;have hg:=fr.look htr;obtain⟨tt,l,hole⟩:=tr;simp only at hh h4';subst hh;obtain⟨e1,e2,e3⟩:=xJ hc (fun _=>hg);refine⟨⟨NI (TS.ok_gh hS (jV.gone _ _)) _ _,jV.gone _ _,by simp[TS.kill,jb],rfl,rfl,?_⟩,(fun h=>by cases h),(fun h=>by cases h),?_⟩
       ·show gx (gq S.gh pr none) no=_;rw[rE _ _ (.inr rfl),if_neg (fun e=>h3 e.symm)]
       ·simp only[Wb,Qt,Cl.av,sG]
        have hrows: (S.with no N w R).rows ⟨pr,[]⟩ sz=some (l.map tt.row):=by
         have : (S.with no N w R).look ⟨pr,[]⟩= .sl tt.width (l.map tt.row):=by
          unfold St.look TS.with
          simp only[fo];rw[if_neg h3];show (match (gx S.gh pr).map fr.tree with |some t=>t.go [] |none=> .dd)=_;rw[hg];rfl
         unfold St.rows;rw[this];simp[h4']
        rw[if_pos ⟨trivial,h1.symm,e2,h2,h3⟩,hrows];simp only[ae,aD];rw[if_pos (by omega),e3]
        congr 1
        have e4: (l.map tt.row).take l.length=l.map tt.row:=bh (by simp);rw[e4];simp only[fj.sub,bo,Hz];unfold TS.with
        simp only;rw[KC,Qs _ (fun e=>h3 e.symm),NJ];have e5: ({ S with gh:=gq S.gh pr none }:TS).kill no j= { S.kill no j with gh:=gq (S.kill no j).gh pr none } :=rfl;rw[e5,Bg];simp only[C.tree,h4'];rfl
      ·cases h
     ·cases h
 |pro cs=>cases et<;>simp[kC] at h
 |ptrB n j=>cases et<;>simp[kC] at h
 |ptrT p sz a b=>cases et<;>simp[kC] at h
 |dead=>cases et<;>simp[kC] at h
theorem Up (X:St) (no i j:Nat) (c:AV) (et:Option Ty): (if E5 et=0 then some X else sG X ⟨no,[]⟩ i j (E5 et) c)=Wb X no i j c et:=by
 cases et with
 |none=>rfl
 |some t=>exact if_neg (by show ¬t.width=0; have:=t.width_pos; omega)
theorem Qv {R:List (List T)} {i j:Nat} {x:C} {et:Option Ty} {row:List T} (hr:R[i]? =some row) (hj:j<row.length) (h:et=none->row[j]? =some x.tree):Qt R i j x et=R.set i (row.set j x.tree):=by
 cases et with
 |none=>
  have h:=h rfl
  have e1:row.set j x.tree=row:=by
   apply bU;intro k;rw[bP];split
   ·rename_i hk; subst hk; first |rw[if_pos hj,h] |rw[h]
   ·rfl
  rw[e1];apply bU;intro k;show R[k]? =_;rw[bP];split
  ·rename_i hk; subst hk; rw[if_pos (ai.1 hr).1,hr]
  ·rfl
 |some t=>simp only[Qt];rw[aw,hr];rfl
theorem E6 (no i N w:Nat): ∀ (ets:List (Option Ty)) (cs:List Cl) (j:Nat) (S S1:TS) (xs:List C) (R:List (List T)) (row:List T),S.ok->(∀c∈cs,c.ok S.gh)->sJ no j S ets cs=some (xs,S1)->R[i]? =some row->
  j+cs.length<=row.length->(∀ (k:Nat) (c:Cl),cs[k]? =some c->row[j+k]? =some (T.ofSc c.av))->
  Sy S S1 no/\ets.length=cs.length/\xs.length=cs.length/\(∀c∈cs,c≠ .dead)/\
   ga (S.with no N w R) ⟨no,[]⟩ i j (ets.map E5) (cs.map Cl.av)=some (S1.with no N w (R.set i (row.take j++xs.map C.tree++row.drop (j+cs.length)))):=by
 intro ets
 induction ets with
 |nil=>
  intro cs j S S1 xs R row hS hcs h hr hl ho;cases cs with
  |cons c cs=>simp[sJ] at h
  |nil=>
   simp only[sJ,af,an] at h;obtain⟨rfl,rfl⟩:=h;refine⟨⟨hS,jV.refl _,rfl,rfl,rfl,rfl⟩,rfl,rfl,(fun c hc=>by cases hc),?_⟩;simp only[ct,ga,bH,ck,cy,cX]
   congr 2
   apply bU;intro k;rw[bP];split
   ·rename_i hk; subst hk; rw[if_pos (ai.1 hr).1,hr]
   ·rfl
 |cons et ets ih=>
  intro cs j S S1 xs R row hS hcs h hr hl ho;cases cs with
  |nil=>simp[sJ] at h
  |cons c cs=>
   simp only[sJ] at h;split at h
   ·rename_i x S2 hx;split at h
    ·rename_i xs' S3 hxs;simp only[af,an] at h;obtain⟨rfl,rfl⟩:=h;obtain⟨k1,k2,k3,k4⟩:=Qu hS i N w (hcs c aG) hx R;have hj:j<row.length:=by simp at hl; omega
     have hput:=Qv (et:=et) hr hj (x:=x) (fun he=>by rw[<-k3 he]; exact ho 0 c rfl);rw[hput] at k4;have hi:i<R.length:=(ai.1 hr).1
     obtain⟨m1,m2,m3,m4,m5⟩:=ih cs (j+1) S2 S3 xs' (R.set i (row.set j x.tree)) (row.set j x.tree) k1.ok (fun y hy=>Cl.ok_mono k1.gle (hcs y (aF _ hy))) hxs (by simp[hi]) (by simp at hl ⊢; omega) (fun k y hy=>by rw[cJ (by omega),show j+1+k=j+(k+1) by omega];exact ho (k+1) y (by simpa using hy))
     refine⟨⟨m1.ok,k1.gle.trans m1.gle,m1.len.trans k1.len,m1.fz.trans k1.fz,m1.nt.trans k1.nt,m1.no.trans k1.no⟩,by simp[m2],by simp[m3],fun y hy=> ?_,?_⟩
     ·rcases aW.1 hy with rfl|hy
      ·exact k2
      ·exact m4 y hy
     ·simp only[aZ,ga];rw[Up,k4];simp only[ae];rw[m5,dV]
      congr 3
      have e2: (row.set j x.tree).take (j+1)=row.take j++ [x.tree] :=by
       rw[List.take_set,bK,ah hj];rw[eb];have hlen: (row.take j).length=j:=by simp; omega
       rw[dP _ _ (by omega),hlen,dE];rfl
      have e3: (row.set j x.tree).drop (j+1+cs.length)=row.drop (j+(cs.length+1)):=by rw[dg (by omega),show j+1+cs.length=j+(cs.length+1) by omega]
      rw[e2,e3];simp
    ·cases h
   ·cases h
end
section
open Go
theorem KD: ∀ {cs:List Cl} {vs:List C},Uj cs=some vs->cs.map (fun c=>T.ofSc c.av)=vs.map C.tree/\vs.length=cs.length
 | [],vs,h=>by simp only[Uj,af] at h; subst h; exact⟨rfl,rfl⟩
 |c::cs,vs,h=>by
  cases c with
  |c y=>cases y with
   |sc v=>
    simp only[Uj] at h;split at h
    ·rename_i r hr;simp only[af] at h;subst h;obtain⟨h1,h2⟩:=KD hr;exact⟨by simp only[aZ,h1]; rfl,by simp[h2]⟩
    ·cases h
   |ls t l=>simp[Uj] at h
  | _=>simp[Uj] at h
theorem E7 {x:V1} (h1:x≠ .cl .dead) (h2: ∀f cs,x≠ .fn f cs): (V.v x).av.cells=x.cells.map Cl.av/\(V.v x).av.isDead=false:=by
 cases x with
 |cl c=>cases c with
  |c y=>cases y<;>exact⟨rfl,rfl⟩
  |dead=>exact absurd rfl h1
  | _=>exact⟨rfl,rfl⟩
 |agg cs=>exact⟨rfl,rfl⟩
 |fn f cs=>exact absurd rfl (h2 f cs)
section
variable {ρ:Type} {P:Program} {Θ:qG} {S:TS}
theorem NK (tr:fr) {i j n:Nat} {y:tr.t.D} (hy:tr.l[i]? =some y) (hh:tr.hole=none\/(tr.hole=some (i,j)/\n=1)) (hn:j+n<=tr.t.width):
  ∃Rh rowh,tr.tree= .sl tr.t.width Rh/\Rh[i]? =some rowh/\Rh.length=tr.l.length/\rowh.length=tr.t.width/\rowh.take j=(tr.t.row y).take j/\rowh.drop (j+n)=(tr.t.row y).drop (j+n)/\ ∀X,Rh.set i X=(tr.l.map tr.t.row).set i X:=by
 obtain⟨t,l,hole⟩:=tr;simp only at hy hh hn y;have hi:=(ai.1 hy).1;rcases hh with hh| ⟨hh,rfl⟩
 ·subst hh;exact⟨l.map t.row,t.row y,rfl,by rw[ar,hy]; rfl,by simp,t.row_length y,rfl,rfl,fun _=>rfl⟩
 ·subst hh;have e1: (l.map t.row).getD i [] =t.row y:=by simp[aw,hy]
  refine⟨(l.map t.row).set i ((t.row y).set j .dd),(t.row y).set j .dd,by simp only[fr.tree,e1],by simp[hi],by simp,by simp[t.row_length],?_,?_,fun X=>by rw[dV]⟩
  ·rw[List.take_set,List.set_eq_of_length_le (by simp; omega)]
  ·rw[dg (by omega)]
theorem Qw (hΘ:iq P Θ) (hS:S.ok) {t:TypeId} {a v:V} (ha:a.ok S.gh) (hv:v.ok S.gh) {κ:TS->Option ρ} {r:ρ} (h:Mn Θ S t a v κ=some r): ∃S',store P S.st t a.av v.av=some (TS.st S')/\S'.ok/\jV S.gh S'.gh/\κ S'=some r:=by
 unfold Mn at h;split at h
 ·cases h
 ·rename_i ti hti;have hok:=hΘ _ _ hti;split at h
  ·cases h
  ·cases h
  ·cases h
  ·rename_i x hx1 hx2;obtain⟨hc1,hc2⟩:=E7 (x:=x) (fun e=>hx1 (by rw[e])) (fun f cs e=>hx2 f cs (by rw[e]));obtain⟨h1,h'⟩:=eC h;clear h;have h:=h';clear h';have hlen:x.cells.length=ti.ty.width:=au h1
   have hcok: ∀c∈x.cells,c.ok S.gh:=by
    cases x with
    |cl c=>intro c' hc'; simp only[V1.cells,az] at hc'; subst hc'; exact hv
    |agg cs=>exact hv
    |fn f cs=>exact absurd rfl (hx2 f cs)
   have hfst: ¬ ((V.v x).av.cells.length≠P.cellsOf t\/(V.v x).av.isDead=true):=by rw[hc1,hc2,hok.cells];simp[hlen]
   split at h
   ·rename_i b j;split at h
    ·rename_i cs hcs;obtain⟨h2,h⟩:=eC h;have h2:j+x.cells.length<=cs.length:=aA h2;have hcs':S.bx[b]? =some cs:=by rw[<-gR]; exact hcs
     have hb:b<S.bx.length:=(ai.1 hcs').1;refine⟨{ S with bx:=gq S.bx b (cs.take j++x.cells++cs.drop (j+x.cells.length)) },?_,⟨hS.env,fun cs' hcs'' c hc=> ?_⟩,jV.refl _,h⟩
     ·have e0:store P S.st t (V.v (.cl (.ptrB b j))).av (V.v x).av=(S.st.bx b).bind fun cs=>if j+(V.v x).av.cells.length<=cs.length then some { S.st with bx:=fo S.st.bx b (some (cs.take j++(V.v x).av.cells++cs.drop (j+(V.v x).av.cells.length))) } else none:=by
       unfold store;simp only;rw[if_neg hfst];rfl
      have e1:S.st.bx b=some (cs.map Cl.av):=by show (qz S.bx b).map _=_; rw[hcs]; rfl
      rw[e0,e1,hc1];simp only[ae,aD];rw[if_pos h2,OJ _ _ hb];simp[bW,cf]
     ·rw[jb] at hcs'';rcases cx hcs'' with h3|h3
      ·exact hS.bx _ h3 c hc
      ·subst h3;simp only[bc] at hc;have hm:=ao hcs';rcases hc with (hc|hc)|hc
       ·exact hS.bx _ hm c (b8 hc)
       ·exact hcok c hc
       ·exact hS.bx _ hm c (bG hc)
    ·cases h
   ·rename_i p sz i j;obtain⟨pr,pl⟩:=p;cases pl with
    |cons a l=>cases h
    |nil=>
     simp only at h;split at h
     ·rename_i tr htr;have hg:=fr.look htr;obtain⟨h2,h⟩:=eC h;simp only[aq] at h2;have h3:tr.t.width=sz:=au h2.1.1;have h4:j+ti.ty.width<=sz:=aA h2.1.2;have hgst:S.st.gh pr=some tr.tree:=by show (gx S.gh pr).map _=_; rw[hg]; rfl
      have e2: (V1.av x).cells=x.cells.map Cl.av:=hc1
      have put: ∀ (y:tr.t.D) (hy:tr.l[i]? =some y) (Rh:List (List T)) (rowh:List T),tr.tree= .sl tr.t.width Rh->Rh[i]? =some rowh->rowh.length=tr.t.width->
        store P S.st t (V.v (.cl (.ptrT ⟨pr,[]⟩ sz i j))).av (V.v x).av=(if ti.ty.flatB then some (S.with pr S.gh.length sz (Rh.set i (rowh.take j++x.cells.map (fun c=>T.ofSc c.av)++rowh.drop (j+ti.ty.width)))) else
         if S.fz<=pr then ga (S.with pr S.gh.length sz (Rh.set i (rowh.take j++x.cells.map (fun c=>T.ofSc c.av)++rowh.drop (j+ti.ty.width)))) ⟨pr,[]⟩ i j (ti.ty.csh.map E5) (x.cells.map Cl.av) else none):=by
       intro y hy Rh rowh g1 g2 g3;have hi:i<Rh.length:=(ai.1 g2).1
       have e0:store P S.st t (V.v (.cl (.ptrT ⟨pr,[]⟩ sz i j))).av (V.v x).av=(rq S.st ⟨pr,[]⟩ sz i j ((V.v x).av.cells.map T.ofSc)).bind fun S'=>if (pP P 9 t).all (· ==0) then some S' else if S.st.fz<=pr then ga S' ⟨pr,[]⟩ i j (pP P 9 t) (V.v x).av.cells else none:=by unfold store;simp only;rw[if_neg hfst];rfl
       rw[e0,hc1]
       have hrows:S.st.rows ⟨pr,[]⟩ sz=some Rh:=by unfold St.rows St.look;simp only[hgst,g1,T.go,h3,if_true]
       unfold rq;rw[hrows];simp only[aD];have hgd:Rh.getD i [] =rowh:=by simp[aw,g2]
       rw[hgd,if_pos ⟨hi,by rw[g3,hlen,h3]; exact h4⟩];simp only[ae,hok.sh,Ci]
       have hset:S.st.setAt ⟨pr,[]⟩ (.sl sz (Rh.set i (rowh.take j++(x.cells.map Cl.av).map T.ofSc++rowh.drop (j+x.cells.length))))=S.with pr S.gh.length sz (Rh.set i (rowh.take j++x.cells.map (fun c=>T.ofSc c.av)++rowh.drop (j+ti.ty.width))):=by
        unfold St.setAt TS.with
        simp only[hgst,aB,T.put,bE,hlen];rfl
       rw[hset];rfl
      have fin: ∀ (S1:TS) (y z:tr.t.D) (vs:List C) (Rh:List (List T)) (rowh:List T),Sy S S1 pr->tr.l[i]? =some y->tr.t.flat z=(tr.t.flat y).take j++vs++(tr.t.flat y).drop (j+ti.ty.width)->
        rowh.take j=(tr.t.row y).take j->rowh.drop (j+ti.ty.width)=(tr.t.row y).drop (j+ti.ty.width)->(∀X,Rh.set i X=(tr.l.map tr.t.row).set i X)->
        S1.with pr S.gh.length sz (Rh.set i (rowh.take j++vs.map C.tree++rowh.drop (j+ti.ty.width)))=({ S1 with gh:=gq S1.gh pr (some ⟨tr.t,tr.l.set i z,none⟩) }:TS).st/\
        ({ S1 with gh:=gq S1.gh pr (some ⟨tr.t,tr.l.set i z,none⟩) }:TS).ok/\jV S.gh (gq S1.gh pr (some ⟨tr.t,tr.l.set i z,none⟩)):=by
       intro S1 y z vs Rh rowh hT hy hz q1 q2 q3;have hg1:gx S1.gh pr=some tr:=hT.no.trans hg;have hgle:jV S1.gh (gq S1.gh pr (some ⟨tr.t,tr.l.set i z,none⟩)):=jV.put hg1 (by simp);refine⟨?_,TS.ok_gh hT.ok hgle,hT.gle.trans hgle⟩;rw[Cf _ _ (yV hg1)];unfold TS.with
       rw[q1,q2,q3]
       have hrow:tr.t.row z=(tr.t.row y).take j++vs.map C.tree++(tr.t.row y).drop (j+ti.ty.width):=by rw[tr.t.row_flat,hz,tr.t.row_flat];simp[bW,cf]
       have hng:S.gh.length=S1.st.ng:=hT.len.symm;rw[hng]
       congr 3
       simp only[fr.tree,h3];rw[<-hrow,List.map_set]
      cases hfl:ti.ty.flatB with
      |true=>
       rw[hfl] at h;simp only[cond_true] at h;split at h
       ·rename_i vs hh hvs;obtain⟨y,hy,h⟩:=aj.1 h;split at h
        ·rename_i z hz;obtain⟨k1,k2⟩:=KD hvs;obtain⟨Rh,rowh,g1,g2,g3,g4,g5,g6,g7⟩:=NK tr hy (.inl hh) (by rw[h3]; exact h4);obtain⟨f1,f2,f3⟩:=fin S y z vs Rh rowh ⟨hS,jV.refl _,rfl,rfl,rfl,rfl⟩ hy (Ty.unflat_some _ _ _ hz) g5 g6 g7;refine⟨_,?_,f2,f3,h⟩;rw[put y hy Rh rowh g1 g2 g4,hfl,if_pos rfl,k1,f1]
        ·cases h
       ·cases h
      |false=>
       rw[hfl] at h;simp only[cond_false] at h;obtain⟨h5,h⟩:=eC h;have h5:S.fz<=pr:=aA h5;split at h
       ·rename_i vs S1 hvs;obtain⟨y,hy,h⟩:=aj.1 h;split at h
        ·rename_i z hz
         have main: (tr.hole=none\/(tr.hole=some (i,j)/\ti.ty.width=1))->κ { S1 with gh:=gq S1.gh pr (some ⟨tr.t,tr.l.set i z,none⟩) } =some r-> ∃S',store P S.st t (V.v (.cl (.ptrT ⟨pr,[]⟩ sz i j))).av (V.v x).av=some (TS.st S')/\S'.ok/\jV S.gh S'.gh/\κ S'=some r:=by
          intro hh hk;obtain⟨Rh,rowh,g1,g2,g3,g4,g5,g6,g7⟩:=NK tr hy hh (by rw[h3]; exact h4);have hi:i<Rh.length:=(ai.1 g2).1;have htk: (rowh.take j).length=j:=by simp; omega
          have hcl: (x.cells.map fun c=>T.ofSc c.av).length=x.cells.length:=by simp
          obtain⟨m1,m2,m3,m4,m5⟩:=E6 pr i S.gh.length sz ti.ty.csh x.cells j S S1 vs (Rh.set i (rowh.take j++x.cells.map (fun c=>T.ofSc c.av)++rowh.drop (j+ti.ty.width))) (rowh.take j++x.cells.map (fun c=>T.ofSc c.av)++rowh.drop (j+ti.ty.width)) hS hcok hvs (by simp[hi]) (by simp; omega) (fun k c hc=>by have hk:=(ai.1 hc).1;rw[aR,aN (by omega),htk,Nat.add_sub_cancel_left,aH (by omega),ar,hc];rfl)
          obtain⟨f1,f2,f3⟩:=fin S1 y z vs Rh rowh m1 hy (Ty.unflat_some _ _ _ hz) g5 g6 g7;refine⟨_,?_,f2,f3,hk⟩;rw[put y hy Rh rowh g1 g2 g4,hfl,if_neg (by simp),if_pos h5,m5,<-f1]
          congr 2
          rw[dV]
          congr 1
          rw[aR,aR,cO (by omega),dY,dS,<-aR]
          congr 1
          rw[<-aR,List.drop_append,aQ,htk,hcl,hlen,dE,bJ,cu (by simp; omega),bo]
         split at h
         ·rename_i hh;exact main (.inl hh) h
         ·rename_i i0 j0 hh;obtain⟨h6,h⟩:=eC h;simp only[aq] at h6;obtain⟨h7,h⟩:=fR h;have h8:j=j0:=au h6.1;have h9:ti.ty.width=1:=au h6.2;exact main (.inr ⟨by rw[hh,h7,h8],h9⟩) h
        ·cases h
       ·cases h
     ·cases h
   ·cases h
end
end
end Go.Proofs.YtjnleglhcppgcaaGreat.En
