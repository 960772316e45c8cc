import Derived.Test.YtjnleglhcppgcaaGreatZX6
namespace Go.Proofs.YtjnleglhcppgcaaGreat.En
section
open Go
theorem PI (a b:Nat): (a==b)=Nat.beq a b:=by rw[b9,beq_iff_eq];exact⟨fun h=>by rw[h]; exact cE _,fun h=>au h⟩
theorem NT (a b:Nat): (a==b)=Nat.beq b a:=by rw[b9,beq_iff_eq];exact⟨fun h=>by rw[h]; exact cE _,fun h=>(au h).symm⟩
theorem Dc (r i j pr i' j':Nat) (l:List (Nat×Nat)):under ⟨r,[(i,j)]⟩ ⟨pr,(i',j')::l⟩=(Nat.beq pr r&&Nat.beq j j'):=by simp only[under,zQ,dk];rw[NT,PI]
theorem Dd (r i j pr:Nat):under ⟨r,[(i,j)]⟩ ⟨pr,[]⟩=false:=by simp[under,zQ]
theorem zd (r i j:Nat) (c:Cl): (qM r j c).av=qK ⟨r,[(i,j)]⟩ c.av:=by
 cases c with
 |own p sz lo len w=>
  obtain⟨pr,pl⟩:=p;cases pl with
  |nil=>simp only[qM,Cl.av,qK,Dd]; rfl
  |cons a l=>obtain⟨i',j'⟩:=a;simp only[qM,Cl.av,qK,Dc];cases (Nat.beq pr r&&Nat.beq j j')<;>rfl
 |ptrT p sz a b=>
  obtain⟨pr,pl⟩:=p;cases pl with
  |nil=>simp only[qM,Cl.av,qK,Dd]; rfl
  |cons a' l=>obtain⟨i',j'⟩:=a';simp only[qM,Cl.av,qK,Dc];cases (Nat.beq pr r&&Nat.beq j j')<;>rfl
 |c x=>cases x<;>rfl
 | _=>rfl
theorem FL (r i j:Nat) (v:V1): (tc r j v).av=tA ⟨r,[(i,j)]⟩ v.av:=by
 cases v with
 |cl c=>
  have :tA ⟨r,[(i,j)]⟩ (V1.cl c).av=qK ⟨r,[(i,j)]⟩ c.av:=by
   cases c with
   |c x=>cases x<;>rfl
   | _=>rfl
  rw[this];exact zd r i j c
 |agg cs=>
  simp only[tc,V1.av,tA,bu]
  congr 1
  exact aJ fun c _=>zd r i j c
 |fn f cs=>
  simp only[tc,V1.av,tA,bu]
  congr 1
  exact aJ fun c _=>zd r i j c
theorem NU (r i j:Nat) (v:V): (FH r j v).av=kill ⟨r,[(i,j)]⟩ v.av:=by
 cases v with
 |v x=>
  have :kill ⟨r,[(i,j)]⟩ (V.v x).av=tA ⟨r,[(i,j)]⟩ x.av:=by
   cases x with
   |cl c=>cases c with
    |c x=>cases x<;>rfl
    | _=>rfl
   | _=>rfl
  rw[this];exact FL r i j x
 |tup l=>
  simp only[FH,V.av,kill,bu]
  congr 1
  exact aJ fun c _=>FL r i j c
theorem Iw (f:V->V) (hf:f V.dead=V.dead): ∀ (l:List (Nat×V)) (t:Nat),jr (l.map fun x=>(x.1,f x.2)) t=f (jr l t)
 | [],t=>hf.symm
 | (u,v)::l,t=>by
   simp only[aQ,jr];cases Nat.beq u t with
   |true=>rfl
   |false=>exact Iw f hf l t
theorem PJ (S:TS) (r i j:Nat): (S.kill r j).st=S.st.killU ⟨r,[(i,j)]⟩:=by
 unfold TS.kill TS.st St.killU;simp only[aD]
 congr 1
 ·funext t
  rw[Iw _ rfl];exact NU r i j _
 ·funext n
  rw[fZ,fZ,ap];cases S.bx[n]? with
  |none=>rfl
  |some cs=>
   simp only[aB,bu]
   congr 1
   exact aJ fun c _=>zd r i j c
theorem zf {G:List (Option eL)} {r j:Nat} {c:Cl} (h:c.ok G): (qM r j c).ok G:=by
 cases c with
 |own p sz lo len w=>
  simp only[qM];split
  ·cases (Nat.beq p.r r&&Nat.beq j _)<;>first |exact h|trivial
  ·exact h
 |ptrT p sz a b=>
  simp only[qM];split
  ·cases (Nat.beq p.r r&&Nat.beq j _)<;>first |exact h|trivial
  ·exact h
 | _=>exact h
theorem FM {G:List (Option eL)} {r j:Nat} {v:V1} (h:v.ok G): (tc r j v).ok G:=by
 cases v with
 |cl c=>exact zf h
 |agg cs=>intro c hc;obtain⟨x,hx,rfl⟩:=aL.1 hc;exact zf (h x hx)
 |fn f cs=>intro c hc;obtain⟨x,hx,rfl⟩:=aL.1 hc;exact zf (h x hx)
theorem Lt {S:TS} (hS:S.ok) (r j:Nat): (S.kill r j).ok:=by
 refine⟨fun x hx=> ?_,fun cs hcs c hc=> ?_⟩
 ·obtain⟨y,hy,rfl⟩:=aL.1 hx;have:=hS.env y hy;obtain⟨t,v⟩:=y;cases v with
  |v x=>exact FM this
  |tup l=>intro c hc;obtain⟨z,hz,rfl⟩:=aL.1 hc;exact FM (this z hz)
 ·obtain⟨y,hy,rfl⟩:=aL.1 hcs;obtain⟨z,hz,rfl⟩:=aL.1 hc;exact zf (hS.bx y hy z hz)
def TS.with (S:TS) (no N w:Nat) (R:List (List T)):St:= { S.st with gh:=eV S.st.gh no (some (.sl w R)),ng:=N }
theorem FN (S:TS) (r i j no N w:Nat) (R:List (List T)): (S.with no N w R).killU ⟨r,[(i,j)]⟩=(S.kill r j).with no N w R:=by
 unfold TS.with
 rw[PJ S r i j];rfl
theorem Lu {α:Type} (f:Nat->α) (t:Nat) (x y:α):eV (eV f t x) t y=eV f t y:=by
 funext u
 unfold eV;split<;>rfl
theorem Ix {α:Type} (f:Nat->α) (t:Nat) (x:α):eV f t x t=x:=by unfold eV; rw[if_pos rfl]
theorem NV {α:Type} (f:Nat->α) {t u:Nat} (h:t≠u) (x y:α):eV (eV f t x) u y=eV (eV f u y) t x:=by
 funext v
 unfold eV;by_cases h1:v=u
 ·subst h1; rw[if_pos rfl,if_neg (fun e=>h e.symm)]; rw[if_pos rfl]
 ·rw[if_neg h1];by_cases h2:v=t
  ·rw[if_pos h2,if_pos h2]
  ·rw[if_neg h2,if_neg h2,if_neg h1]
structure PK (S S1:TS) (no:Nat):Prop where
 ok:S1.ok
 gle:jd S.gh S1.gh
 len:S1.gh.length=S.gh.length
 fz:S1.fz=S.fz
 nt:S1.nt=S.nt
 no:fA S1.gh no=fA S.gh no
def De:Option Ty->Nat|some e=>e.width|none=>0
def Tl (X:St) (no i j:Nat) (c:AV):Option Ty->Option St
 |none=>some X
 |some t=>qL X ⟨no,[]⟩ i j t.width c
def NW (R:List (List T)) (i j:Nat) (x:C):Option Ty->List (List T)
 |none=>R
 |some _=>R.set i ((R.getD i []).set j x.tree)
theorem NX {S S1:TS} (hS:S.ok) {no j:Nat} (i N w:Nat) {et:Option Ty} {c:Cl} {x:C} (hc:c.ok S.gh) (h:jF S no j et c=some (x,S1)) (R:List (List T)):
  PK S S1 no/\c≠ .dead/\(et=none->T.ofSc c.av=x.tree)/\Tl (S.with no N w R) no i j c.av et=some (S1.with no N w (NW R i j x et)):=by
 cases c with
 |c y=>
  cases y with
  |sc v=>
   cases et with
   |none=>simp only[jF,af,an] at h;obtain⟨rfl,rfl⟩:=h;exact⟨⟨hS,jd.refl _,rfl,rfl,rfl,rfl⟩,(fun h=>by cases h),fun _=>rfl,rfl⟩
   |some t=>simp[jF] at h
  |ls t l=>cases et<;>simp[jF] at h
 |em=>
  cases et with
  |none=>simp[jF] at h
  |some t=>
   simp only[jF,af,an] at h;obtain⟨rfl,rfl⟩:=h;refine⟨⟨Lt hS _ _,jd.refl _,rfl,rfl,rfl,rfl⟩,(fun h=>by cases h),(fun h=>by cases h),?_⟩;simp only[Tl,Cl.av,qL,eT.sub,bi,FN,NW]
   congr 1
   unfold St.setAt TS.with
   simp only;rw[Ix,Lu];rfl
 |own p sz lo len wh=>
  obtain⟨pr,pl⟩:=p;cases wh with
  |false=>cases et<;>simp[jF] at h
  |true=>
   cases et with
   |none=>simp[jF] at h
   |some t=>
    cases pl with
    |cons a l=>simp[jF] at h
    |nil=>
     simp only[jF] at h;obtain⟨h1,h⟩:=ef h;simp only[ar,b7] at h1;obtain⟨⟨h1,h2⟩,h3⟩:=h1;have h1:t.width=sz:=au h1;have h2:S.fz<=pr:=az h2;have h3:pr≠no:=by intro e; rw[e,cE] at h3; cases h3
     split at h
     ·rename_i tr htr;split at h
      ·rename_i hh;obtain⟨h4,h⟩:=ef h;have h4':tr.t.width=sz:=au h4;simp only[af,an] at h;obtain⟨rfl,rfl⟩:=h;have hg:=eL.look htr;obtain⟨tt,l,hole⟩:=tr;simp only at hh h4';subst hh;obtain⟨e1,e2,e3⟩:=vy hc (fun _=>hg);refine⟨⟨Lt (TS.ok_gh hS (jd.gone _ _)) _ _,jd.gone _ _,by simp[TS.kill,it],rfl,rfl,?_⟩,(fun h=>by cases h),(fun h=>by cases h),?_⟩
       ·show fA (fK S.gh pr none) no=_;rw[qi _ _ (.inr rfl),if_neg (fun e=>h3 e.symm)]
       ·simp only[Tl,NW,Cl.av,qL]
        have hrows: (S.with no N w R).rows ⟨pr,[]⟩ sz=some (l.map tt.row):=by
         have : (S.with no N w R).look ⟨pr,[]⟩= .sl tt.width (l.map tt.row):=by
          unfold St.look TS.with
          simp only[eV];rw[if_neg h3];show (match (fA S.gh pr).map eL.tree with |some t=>t.go [] |none=> .dd)=_;rw[hg];rfl
         unfold St.rows;rw[this];simp[h4']
        rw[if_pos ⟨trivial,h1.symm,e2,h2,h3⟩,hrows];simp only[ae,aD];rw[if_pos (by omega),e3]
        congr 1
        have e4: (l.map tt.row).take l.length=l.map tt.row:=bf (by simp);rw[e4];simp only[eT.sub,bi,FN];unfold TS.with
        simp only;rw[Ix,NV _ (fun e=>h3 e.symm),Lu];have e5: ({ S with gh:=fK S.gh pr none }:TS).kill no j= { S.kill no j with gh:=fK (S.kill no j).gh pr none } :=rfl;rw[e5,za];simp only[C.tree,h4'];rfl
      ·cases h
     ·cases h
 |pro cs=>cases et<;>simp[jF] at h
 |ptrB n j=>cases et<;>simp[jF] at h
 |ptrT p sz a b=>cases et<;>simp[jF] at h
 |dead=>cases et<;>simp[jF] at h
theorem Rg (X:St) (no i j:Nat) (c:AV) (et:Option Ty): (if De et=0 then some X else qL X ⟨no,[]⟩ i j (De et) c)=Tl X no i j c et:=by
 cases et with
 |none=>rfl
 |some t=>exact if_neg (by show ¬t.width=0; have:=t.width_pos; omega)
theorem NY {R:List (List T)} {i j:Nat} {x:C} {et:Option Ty} {row:List T} (hr:R[i]? =some row) (hj:j<row.length) (h:et=none->row[j]? =some x.tree):NW R i j x et=R.set i (row.set j x.tree):=by
 cases et with
 |none=>
  have h:=h rfl
  have e1:row.set j x.tree=row:=by
   apply bN;intro k;rw[bG];split
   ·rename_i hk; subst hk; first |rw[if_pos hj,h] |rw[h]
   ·rfl
  rw[e1];apply bN;intro k;show R[k]? =_;rw[bG];split
  ·rename_i hk; subst hk; rw[if_pos (ai.1 hr).1,hr]
  ·rfl
 |some t=>simp only[NW];rw[aw,hr];rfl
theorem Df (no i N w:Nat): ∀ (ets:List (Option Ty)) (cs:List Cl) (j:Nat) (S S1:TS) (xs:List C) (R:List (List T)) (row:List T),S.ok->(∀c∈cs,c.ok S.gh)->qN no j S ets cs=some (xs,S1)->R[i]? =some row->
  j+cs.length<=row.length->(∀ (k:Nat) (c:Cl),cs[k]? =some c->row[j+k]? =some (T.ofSc c.av))->
  PK S S1 no/\ets.length=cs.length/\xs.length=cs.length/\(∀c∈cs,c≠ .dead)/\
   fw (S.with no N w R) ⟨no,[]⟩ i j (ets.map De) (cs.map Cl.av)=some (S1.with no N w (R.set i (row.take j++xs.map C.tree++row.drop (j+cs.length)))):=by
 intro ets
 induction ets with
 |nil=>
  intro cs j S S1 xs R row hS hcs h hr hl ho;cases cs with
  |cons c cs=>simp[qN] at h
  |nil=>
   simp only[qN,af,an] at h;obtain⟨rfl,rfl⟩:=h;refine⟨⟨hS,jd.refl _,rfl,rfl,rfl,rfl⟩,rfl,rfl,(fun c hc=>by cases hc),?_⟩;simp only[ck,fw,bw,bX,cd,cA]
   congr 2
   apply bN;intro k;rw[bG];split
   ·rename_i hk; subst hk; rw[if_pos (ai.1 hr).1,hr]
   ·rfl
 |cons et ets ih=>
  intro cs j S S1 xs R row hS hcs h hr hl ho;cases cs with
  |nil=>simp[qN] at h
  |cons c cs=>
   simp only[qN] at h;split at h
   ·rename_i x S2 hx;split at h
    ·rename_i xs' S3 hxs;simp only[af,an] at h;obtain⟨rfl,rfl⟩:=h;obtain⟨k1,k2,k3,k4⟩:=NX hS i N w (hcs c aI) hx R;have hj:j<row.length:=by simp at hl; omega
     have hput:=NY (et:=et) hr hj (x:=x) (fun he=>by rw[<-k3 he]; exact ho 0 c rfl);rw[hput] at k4;have hi:i<R.length:=(ai.1 hr).1
     obtain⟨m1,m2,m3,m4,m5⟩:=ih cs (j+1) S2 S3 xs' (R.set i (row.set j x.tree)) (row.set j x.tree) k1.ok (fun y hy=>Cl.ok_mono k1.gle (hcs y (aE _ hy))) hxs (by simp[hi]) (by simp at hl ⊢; omega) (fun k y hy=>by rw[dH (by omega),show j+1+k=j+(k+1) by omega];exact ho (k+1) y (by simpa using hy))
     refine⟨⟨m1.ok,k1.gle.trans m1.gle,m1.len.trans k1.len,m1.fz.trans k1.fz,m1.nt.trans k1.nt,m1.no.trans k1.no⟩,by simp[m2],by simp[m3],fun y hy=> ?_,?_⟩
     ·rcases aR.1 hy with rfl|hy
      ·exact k2
      ·exact m4 y hy
     ·simp only[aQ,fw];rw[Rg,k4];simp only[ae];rw[m5,de]
      congr 3
      have e2: (row.set j x.tree).take (j+1)=row.take j++ [x.tree] :=by
       rw[List.take_set,bn,ah hj];rw[dQ];have hlen: (row.take j).length=j:=by simp; omega
       rw[dE _ _ (by omega),hlen,cJ];rfl
      have e3: (row.set j x.tree).drop (j+1+cs.length)=row.drop (j+(cs.length+1)):=by rw[cW (by omega),show j+1+cs.length=j+(cs.length+1) by omega]
      rw[e2,e3];simp
    ·cases h
   ·cases h
end
section
open Go
theorem Iy: ∀ {cs:List Cl} {vs:List C},Ra cs=some vs->cs.map (fun c=>T.ofSc c.av)=vs.map C.tree/\vs.length=cs.length
 | [],vs,h=>by simp only[Ra,af] at h; subst h; exact⟨rfl,rfl⟩
 |c::cs,vs,h=>by
  cases c with
  |c y=>cases y with
   |sc v=>
    simp only[Ra] at h;split at h
    ·rename_i r hr;simp only[af] at h;subst h;obtain⟨h1,h2⟩:=Iy hr;exact⟨by simp only[aQ,h1]; rfl,by simp[h2]⟩
    ·cases h
   |ls t l=>simp[Ra] at h
  | _=>simp[Ra] at h
theorem Dg {x:V1} (h1:x≠ .cl .dead) (h2: ∀f cs,x≠ .fn f cs): (V.v x).av.cells=x.cells.map Cl.av/\(V.v x).av.isDead=false:=by
 cases x with
 |cl c=>cases c with
  |c y=>cases y<;>exact⟨rfl,rfl⟩
  |dead=>exact absurd rfl h1
  | _=>exact⟨rfl,rfl⟩
 |agg cs=>exact⟨rfl,rfl⟩
 |fn f cs=>exact absurd rfl (h2 f cs)
section
variable {ρ:Type} {P:Program} {Θ:pp} {S:TS}
theorem Lw (tr:eL) {i j n:Nat} {y:tr.t.D} (hy:tr.l[i]? =some y) (hh:tr.hole=none\/(tr.hole=some (i,j)/\n=1)) (hn:j+n<=tr.t.width):
  ∃Rh rowh,tr.tree= .sl tr.t.width Rh/\Rh[i]? =some rowh/\Rh.length=tr.l.length/\rowh.length=tr.t.width/\rowh.take j=(tr.t.row y).take j/\rowh.drop (j+n)=(tr.t.row y).drop (j+n)/\ ∀X,Rh.set i X=(tr.l.map tr.t.row).set i X:=by
 obtain⟨t,l,hole⟩:=tr;simp only at hy hh hn y;have hi:=(ai.1 hy).1;rcases hh with hh| ⟨hh,rfl⟩
 ·subst hh;exact⟨l.map t.row,t.row y,rfl,by rw[ap,hy]; rfl,by simp,t.row_length y,rfl,rfl,fun _=>rfl⟩
 ·subst hh;have e1: (l.map t.row).getD i [] =t.row y:=by simp[aw,hy]
  refine⟨(l.map t.row).set i ((t.row y).set j .dd),(t.row y).set j .dd,by simp only[eL.tree,e1],by simp[hi],by simp,by simp[t.row_length],?_,?_,fun X=>by rw[de]⟩
  ·rw[List.take_set,List.set_eq_of_length_le (by simp; omega)]
  ·rw[cW (by omega)]
theorem NZ (hΘ:gC P Θ) (hS:S.ok) {t:TypeId} {a v:V} (ha:a.ok S.gh) (hv:v.ok S.gh) {κ:TS->Option ρ} {r:ρ} (h:Kd Θ S t a v κ=some r): ∃S',store P S.st t a.av v.av=some (TS.st S')/\S'.ok/\jd S.gh S'.gh/\κ S'=some r:=by
 unfold Kd at h;split at h
 ·cases h
 ·rename_i ti hti;have hok:=hΘ _ _ hti;split at h
  ·cases h
  ·cases h
  ·cases h
  ·rename_i x hx1 hx2;obtain⟨hc1,hc2⟩:=Dg (x:=x) (fun e=>hx1 (by rw[e])) (fun f cs e=>hx2 f cs (by rw[e]));obtain⟨h1,h'⟩:=ef h;clear h;have h:=h';clear h';have hlen:x.cells.length=ti.ty.width:=au h1
   have hcok: ∀c∈x.cells,c.ok S.gh:=by
    cases x with
    |cl c=>intro c' hc'; simp only[V1.cells,ax] at hc'; subst hc'; exact hv
    |agg cs=>exact hv
    |fn f cs=>exact absurd rfl (hx2 f cs)
   have hfst: ¬ ((V.v x).av.cells.length≠P.cellsOf t\/(V.v x).av.isDead=true):=by rw[hc1,hc2,hok.cells];simp[hlen]
   split at h
   ·rename_i b j;split at h
    ·rename_i cs hcs;obtain⟨h2,h⟩:=ef h;have h2:j+x.cells.length<=cs.length:=az h2;have hcs':S.bx[b]? =some cs:=by rw[<-fZ]; exact hcs
     have hb:b<S.bx.length:=(ai.1 hcs').1;refine⟨{ S with bx:=fK S.bx b (cs.take j++x.cells++cs.drop (j+x.cells.length)) },?_,⟨hS.env,fun cs' hcs'' c hc=> ?_⟩,jd.refl _,h⟩
     ·have e0:store P S.st t (V.v (.cl (.ptrB b j))).av (V.v x).av=(S.st.bx b).bind fun cs=>if j+(V.v x).av.cells.length<=cs.length then some { S.st with bx:=eV S.st.bx b (some (cs.take j++(V.v x).av.cells++cs.drop (j+(V.v x).av.cells.length))) } else none:=by
       unfold store;simp only;rw[if_neg hfst];rfl
      have e1:S.st.bx b=some (cs.map Cl.av):=by show (pq S.bx b).map _=_; rw[hcs]; rfl
      rw[e0,e1,hc1];simp only[ae,aD];rw[if_pos h2,Ml _ _ hb];simp[bO,bR]
     ·rw[it] at hcs'';rcases cS hcs'' with h3|h3
      ·exact hS.bx _ h3 c hc
      ·subst h3;simp only[bq] at hc;have hm:=aq hcs';rcases hc with (hc|hc)|hc
       ·exact hS.bx _ hm c (cn hc)
       ·exact hcok c hc
       ·exact hS.bx _ hm c (bV hc)
    ·cases h
   ·rename_i p sz i j;obtain⟨pr,pl⟩:=p;cases pl with
    |cons a l=>cases h
    |nil=>
     simp only at h;split at h
     ·rename_i tr htr;have hg:=eL.look htr;obtain⟨h2,h⟩:=ef h;simp only[ar] at h2;have h3:tr.t.width=sz:=au h2.1.1;have h4:j+ti.ty.width<=sz:=az h2.1.2;have hgst:S.st.gh pr=some tr.tree:=by show (fA S.gh pr).map _=_; rw[hg]; rfl
      have e2: (V1.av x).cells=x.cells.map Cl.av:=hc1
      have put: ∀ (y:tr.t.D) (hy:tr.l[i]? =some y) (Rh:List (List T)) (rowh:List T),tr.tree= .sl tr.t.width Rh->Rh[i]? =some rowh->rowh.length=tr.t.width->
        store P S.st t (V.v (.cl (.ptrT ⟨pr,[]⟩ sz i j))).av (V.v x).av=(if ti.ty.flatB then some (S.with pr S.gh.length sz (Rh.set i (rowh.take j++x.cells.map (fun c=>T.ofSc c.av)++rowh.drop (j+ti.ty.width)))) else
         if S.fz<=pr then fw (S.with pr S.gh.length sz (Rh.set i (rowh.take j++x.cells.map (fun c=>T.ofSc c.av)++rowh.drop (j+ti.ty.width)))) ⟨pr,[]⟩ i j (ti.ty.csh.map De) (x.cells.map Cl.av) else none):=by
       intro y hy Rh rowh g1 g2 g3;have hi:i<Rh.length:=(ai.1 g2).1
       have e0:store P S.st t (V.v (.cl (.ptrT ⟨pr,[]⟩ sz i j))).av (V.v x).av=(pY S.st ⟨pr,[]⟩ sz i j ((V.v x).av.cells.map T.ofSc)).bind fun S'=>if (pn P 9 t).all (· ==0) then some S' else if S.st.fz<=pr then fw S' ⟨pr,[]⟩ i j (pn P 9 t) (V.v x).av.cells else none:=by unfold store;simp only;rw[if_neg hfst];rfl
       rw[e0,hc1]
       have hrows:S.st.rows ⟨pr,[]⟩ sz=some Rh:=by unfold St.rows St.look;simp only[hgst,g1,T.go,h3,if_true]
       unfold pY;rw[hrows];simp only[aD];have hgd:Rh.getD i [] =rowh:=by simp[aw,g2]
       rw[hgd,if_pos ⟨hi,by rw[g3,hlen,h3]; exact h4⟩];simp only[ae,hok.sh,Al]
       have hset:S.st.setAt ⟨pr,[]⟩ (.sl sz (Rh.set i (rowh.take j++(x.cells.map Cl.av).map T.ofSc++rowh.drop (j+x.cells.length))))=S.with pr S.gh.length sz (Rh.set i (rowh.take j++x.cells.map (fun c=>T.ofSc c.av)++rowh.drop (j+ti.ty.width))):=by
        unfold St.setAt TS.with
        simp only[hgst,aB,T.put,bu,hlen];rfl
       rw[hset];rfl
      have fin: ∀ (S1:TS) (y z:tr.t.D) (vs:List C) (Rh:List (List T)) (rowh:List T),PK S S1 pr->tr.l[i]? =some y->tr.t.flat z=(tr.t.flat y).take j++vs++(tr.t.flat y).drop (j+ti.ty.width)->
        rowh.take j=(tr.t.row y).take j->rowh.drop (j+ti.ty.width)=(tr.t.row y).drop (j+ti.ty.width)->(∀X,Rh.set i X=(tr.l.map tr.t.row).set i X)->
        S1.with pr S.gh.length sz (Rh.set i (rowh.take j++vs.map C.tree++rowh.drop (j+ti.ty.width)))=({ S1 with gh:=fK S1.gh pr (some ⟨tr.t,tr.l.set i z,none⟩) }:TS).st/\
        ({ S1 with gh:=fK S1.gh pr (some ⟨tr.t,tr.l.set i z,none⟩) }:TS).ok/\jd S.gh (fK S1.gh pr (some ⟨tr.t,tr.l.set i z,none⟩)):=by
       intro S1 y z vs Rh rowh hT hy hz q1 q2 q3;have hg1:fA S1.gh pr=some tr:=hT.no.trans hg;have hgle:jd S1.gh (fK S1.gh pr (some ⟨tr.t,tr.l.set i z,none⟩)):=jd.put hg1 (by simp);refine⟨?_,TS.ok_gh hT.ok hgle,hT.gle.trans hgle⟩;rw[Ai _ _ (uu hg1)];unfold TS.with
       rw[q1,q2,q3]
       have hrow:tr.t.row z=(tr.t.row y).take j++vs.map C.tree++(tr.t.row y).drop (j+ti.ty.width):=by rw[tr.t.row_flat,hz,tr.t.row_flat];simp[bO,bR]
       have hng:S.gh.length=S1.st.ng:=hT.len.symm;rw[hng]
       congr 3
       simp only[eL.tree,h3];rw[<-hrow,List.map_set]
      cases hfl:ti.ty.flatB with
      |true=>
       rw[hfl] at h;simp only[cond_true] at h;split at h
       ·rename_i vs hh hvs;obtain⟨y,hy,h⟩:=aj.1 h;split at h
        ·rename_i z hz;obtain⟨k1,k2⟩:=Iy hvs;obtain⟨Rh,rowh,g1,g2,g3,g4,g5,g6,g7⟩:=Lw tr hy (.inl hh) (by rw[h3]; exact h4);obtain⟨f1,f2,f3⟩:=fin S y z vs Rh rowh ⟨hS,jd.refl _,rfl,rfl,rfl,rfl⟩ hy (Ty.unflat_some _ _ _ hz) g5 g6 g7;refine⟨_,?_,f2,f3,h⟩;rw[put y hy Rh rowh g1 g2 g4,hfl,if_pos rfl,k1,f1]
        ·cases h
       ·cases h
      |false=>
       rw[hfl] at h;simp only[cond_false] at h;obtain⟨h5,h⟩:=ef h;have h5:S.fz<=pr:=az h5;split at h
       ·rename_i vs S1 hvs;obtain⟨y,hy,h⟩:=aj.1 h;split at h
        ·rename_i z hz
         have main: (tr.hole=none\/(tr.hole=some (i,j)/\ti.ty.width=1))->κ { S1 with gh:=fK S1.gh pr (some ⟨tr.t,tr.l.set i z,none⟩) } =some r-> ∃S',store P S.st t (V.v (.cl (.ptrT ⟨pr,[]⟩ sz i j))).av (V.v x).av=some (TS.st S')/\S'.ok/\jd S.gh S'.gh/\κ S'=some r:=by
          intro hh hk;obtain⟨Rh,rowh,g1,g2,g3,g4,g5,g6,g7⟩:=Lw tr hy hh (by rw[h3]; exact h4);have hi:i<Rh.length:=(ai.1 g2).1;have htk: (rowh.take j).length=j:=by simp; omega
          have hcl: (x.cells.map fun c=>T.ofSc c.av).length=x.cells.length:=by simp
          obtain⟨m1,m2,m3,m4,m5⟩:=Df pr i S.gh.length sz ti.ty.csh x.cells j S S1 vs (Rh.set i (rowh.take j++x.cells.map (fun c=>T.ofSc c.av)++rowh.drop (j+ti.ty.width))) (rowh.take j++x.cells.map (fun c=>T.ofSc c.av)++rowh.drop (j+ti.ty.width)) hS hcok hvs (by simp[hi]) (by simp; omega) (fun k c hc=>by have hk:=(ai.1 hc).1;rw[aU,aN (by omega),htk,Nat.add_sub_cancel_left,aK (by omega),ap,hc];rfl)
          obtain⟨f1,f2,f3⟩:=fin S1 y z vs Rh rowh m1 hy (Ty.unflat_some _ _ _ hz) g5 g6 g7;refine⟨_,?_,f2,f3,hk⟩;rw[put y hy Rh rowh g1 g2 g4,hfl,if_neg (by simp),if_pos h5,m5,<-f1]
          congr 2
          rw[de]
          congr 1
          rw[aU,aU,cH (by omega),dL,Nat.min_self,<-aU]
          congr 1
          rw[<-aU,List.drop_append,be,htk,hcl,hlen,cJ,bJ,cf (by simp; omega),bi]
         split at h
         ·rename_i hh;exact main (.inl hh) h
         ·rename_i i0 j0 hh;obtain⟨h6,h⟩:=ef h;simp only[ar] at h6;obtain⟨h7,h⟩:=fO h;have h8:j=j0:=au h6.1;have h9:ti.ty.width=1:=au h6.2;exact main (.inr ⟨by rw[hh,h7,h8],h9⟩) h
        ·cases h
       ·cases h
     ·cases h
   ·cases h
end
end
section
open Go
theorem ED (X:St) (p:eT) (i:Nat): ∀ (ss:List Nat) (vs:List AV) (j:Nat),ss.all (· ==0)=true->fw X p i j ss vs=some X:=by
 intro ss
 induction ss with
 |nil=>intro vs j _; cases vs<;>rfl
 |cons s ss ih=>
  intro vs j h;simp only[cQ,ar,beq_iff_eq] at h;cases vs with
  |nil=>rfl
  |cons v vs=>simp only[fw];rw[if_pos h.1];exact ih vs (j+1) h.2
def vz (no:Nat) (ss:List Nat):Nat->List V->St->Option St
 | _,[],X=>some X
 |k,v::vs,X=>(fw X ⟨no,[]⟩ k 0 ss v.av.cells).bind (vz no ss (k+1) vs)
theorem Mp (el:Ty) (no N:Nat): ∀ (vs:List V) (k:Nat) (S S1:TS) (l:List el.D) (R:List (List T)),S.ok->S.gh.length=no->(∀v∈vs,v.ok S.gh)->td el S vs=some (l,S1)->R.length=k+vs.length->
  (∀ (m:Nat) (v:V),vs[m]? =some v->R[k+m]? =some (v.av.cells.map T.ofSc))->
  PK S S1 no/\l.length=vs.length/\(∀v∈vs,v.av.cells.length=el.width/\v.av.isDead=false)/\vz no el.shs k vs (S.with no N el.width R)=some (S1.with no N el.width (R.take k++l.map el.row)):=by
 intro vs
 induction vs with
 |nil=>intro k S S1 l R hS hno hvs h hl ho;simp only[td,af,an] at h;obtain⟨rfl,rfl⟩:=h;refine⟨⟨hS,jd.refl _,rfl,rfl,rfl,rfl⟩,rfl,(fun v hv=>by cases hv),?_⟩;simp only[vz,ck,bw];rw[bf (by simp at hl; omega)]
 |cons v vs ih=>
  intro k S S1 l R hS hno hvs h hl ho;cases v with
  |tup x=>simp[td] at h
  |v x=>
   simp only[td] at h;split at h
   ·rename_i ws S2 hw;split at h
    ·rename_i y ys S3 hy hys;simp only[af,an] at h;obtain⟨rfl,rfl⟩:=h;have hv:=hvs _ aI;have hrow:=ho 0 _ rfl;rw[cd] at hrow;have hk:k<R.length:=(ai.1 hrow).1
     have hcok: ∀c∈x.cells,c.ok S.gh:=by
      cases x with
      |cl c=>intro c' hc'; simp only[V1.cells,ax] at hc'; subst hc'; exact hv
      |agg cs=>exact hv
      |fn f cs=>intro c' hc'; simp only[V1.cells,ax] at hc'; subst hc'; trivial
     rw[hno] at hw
     have hx:x≠ .cl .dead/\(∀f cs,x≠ .fn f cs):=by
      have nd: ∀ (cs:List Cl),cs= [.dead] ->qN no 0 S el.csh cs=some (ws,S2)->False:=by
       intro cs hcs h;subst hcs;cases hc:el.csh with
       |nil=>rw[hc] at h; simp[qN] at h
       |cons e es=>rw[hc] at h;cases e<;>simp[qN,jF] at h
      constructor
      ·intro e; subst e; exact nd _ rfl hw
      ·intro f cs e; subst e; exact nd _ rfl hw
     obtain⟨hc1,hc2⟩:=Dg hx.1 hx.2
     obtain⟨m1,m2,m3,m4,m5⟩:=Df no k N el.width el.csh x.cells 0 S S2 ws R ((V.v x).av.cells.map T.ofSc) hS hcok hw hrow (by rw[hc1]; simp) (fun m c hm=>by rw[hc1,aV,ap,ap,hm];rfl)
     have hwid:x.cells.length=el.width:=by
      rw[<-m2];cases el with
      |st n=>cases n<;>rfl
      | _=>rfl
     obtain⟨g1,g2,g3,g4⟩:=ih (k+1) S2 S3 ys (R.set k (el.row y)) m1.ok (m1.len.trans hno) (fun v hv=>V.ok_mono m1.gle (hvs v (aE _ hv))) hys (by simp at hl ⊢; omega) (fun m v hm=>by rw[dH (by omega),show k+1+m=k+(m+1) by omega];exact ho (m+1) v (by simpa using hm))
     refine⟨⟨g1.ok,m1.gle.trans g1.gle,g1.len.trans m1.len,g1.fz.trans m1.fz,g1.nt.trans m1.nt,g1.no.trans m1.no⟩,by simp[g2],fun v hv=> ?_,?_⟩
     ·rcases aR.1 hv with rfl|hv
      ·exact⟨by rw[hc1]; simpa using hwid,hc2⟩
      ·exact g3 v hv
     ·simp only[vz];have e1:el.shs=el.csh.map De:=rfl;rw[hc1,e1,m5];simp only[ae]
      have e2: ((V.v x).av.cells.map T.ofSc).take 0++ws.map C.tree++((V.v x).av.cells.map T.ofSc).drop (0+x.cells.length)=el.row y:=by rw[hc1,dv,bi,cf (by simp),bw,el.row_flat,Ty.unflat_some _ _ _ hy]
      rw[e2,<-e1,g4]
      congr 2
      have e3: (R.set k (el.row y)).take (k+1)=R.take k++ [el.row y] :=by
       rw[List.take_set,bn,ah hk,dQ];have hlen: (R.take k).length=k:=by simp; omega
       rw[dE _ _ (by omega),hlen,cJ];rfl
      rw[e3];simp
    ·cases h
   ·cases h
theorem Iz (t:Ty):t.zcs.map C.tree=List.zipWith zc t.shs t.zvs:=by
 cases t with
 |st n=>cases n<;>rfl
 | _=>rfl
theorem Gy: ∀ {a b:List Nat},Sc a b=true->a=b
 | [],[],_=>rfl
 |a::l,b::m,h=>by
  simp only[Sc] at h;cases hb:Nat.beq a b with
  |true=>rw[hb] at h;rw[au hb,Gy h]
  |false=>rw[hb] at h; cases h
 | [],_::_,h=>by cases h
 | _::_,[],h=>by cases h
theorem IA (no:Nat) (ss:List Nat) (e:Operand->AV): ∀ (ps:List (Nat×Operand)) (vs:List V) (k:Nat) (X:St),ps.map (·.1)=List.range' k ps.length->ps.map (fun x=>e x.2)=vs.map V.av->
  ps.foldlM (fun S' x=>fw S' ⟨no,[]⟩ x.1 0 ss (e x.2).cells) X=vz no ss k vs X:=by
 intro ps
 induction ps with
 |nil=>
  intro vs k X _ h;cases vs with
  |nil=>rfl
  |cons v vs=>cases h
 |cons p ps ih=>
  intro vs k X h1 h2;cases vs with
  |nil=>cases h2
  |cons v vs=>
   simp only[aQ,bB] at h2;simp only[aQ,ba,cj,bB] at h1;simp only[List.foldlM_cons,vz,h1.1,h2.1];cases fw X ⟨no,[]⟩ k 0 ss v.av.cells with
   |none=>rfl
   |some X'=>exact ih vs (k+1) X' h1.2 h2.2
section
variable {ρ:Type} {P:Program} {Θ:pp} {S:TS} {Y:yX}
theorem PL {a:AV} {n:Int} (h:Cu a=some n): ∃k,a= .sc (.int k n):=by
 unfold Cu at h;split at h
 ·rename_i k m;simp only[af] at h;subst h;exact⟨k,rfl⟩
 ·cases h
theorem PM (c:Cl):JM c.av=Ke c:=by
 cases c with
 |c x=>cases x<;>rfl
 | _=>rfl
theorem Gz (cs:List Cl): (cs.map Cl.av).any JM=cs.any Ke:=by
 rw[List.any_map]
 congr 1
 funext c
 exact PM c
theorem Ba (c:Cl): (V.v (.cl c)).av.cells= [c.av] :=by
 cases c with
 |c x=>cases x<;>rfl
 | _=>rfl
theorem N0 {v:V} (h:C2 v=true):v.av.cells.any JM=true:=by
 cases v with
 |tup l=>cases h
 |v x=>
  cases x with
  |cl c=>rw[Ba];have h: [c].any Ke=true:=h;rw[<-Gz] at h;exact h
  |agg cs=>have h:cs.any Ke=true:=h;rw[<-Gz] at h;exact h
  |fn f cs=>cases h
theorem N1 {v:V} (h:v.av.cells.any JM=true):C2 v=true:=by
 cases v with
 |tup l=>cases h
 |v x=>
  cases x with
  |cl c=>rw[Ba] at h;show [c].any Ke=true;rw[<-Gz];exact h
  |agg cs=>show cs.any Ke=true;rw[<-Gz];exact h
  |fn f cs=>cases h
theorem Dh: ∀ (ets:List (Option Ty)) (cs:List Cl) (xs:List C),nB ets cs=some xs->cs.length=ets.length/\Eo (ets.map fun |some e=>e.width|none=>0) (cs.map Cl.av)=some (xs.map C.tree)
 | [],[],xs,h=>by simp only[nB,af] at h; subst h; exact⟨rfl,rfl⟩
 |et::ets, .c x::cs,xs,h=>by
  have h: (match nB ets cs with |some r=>some (x::r)|none=>none)=some xs:=by cases et<;>exact h
  split at h
  ·rename_i r hr;simp only[af] at h;subst h;obtain⟨h1,h2⟩:=Dh ets cs r hr;refine⟨by simp[h1],?_⟩;simp only[aQ,Eo];have : ∀s,R8 s (Cl.av (.c x))=some x.tree:=fun s=>by cases x<;>rfl
   rw[this,h2];rfl
  ·cases h
 |some t::ets, .em::cs,xs,h=>by
  simp only[nB] at h;split at h
  ·rename_i r hr;simp only[af] at h;subst h;obtain⟨h1,h2⟩:=Dh ets cs r hr;refine⟨by simp[h1],?_⟩;simp only[aQ,Eo,h2];rfl
  ·cases h
 | [],_::_,xs,h=>by simp[nB] at h
 | _::_,[],xs,h=>by simp[nB] at h
 |none::ets, .em::cs,xs,h=>by simp[nB] at h
 | _::ets, .own _ _ _ _ _::cs,xs,h=>by simp[nB] at h
 | _::ets, .pro _::cs,xs,h=>by simp[nB] at h
 | _::ets, .ptrB _ _::cs,xs,h=>by simp[nB] at h
 | _::ets, .ptrT _ _ _ _::cs,xs,h=>by simp[nB] at h
 | _::ets, .dead::cs,xs,h=>by simp[nB] at h
theorem Bb (el:Ty): ∀ (vs:List V) (l:List el.D),tI el vs=some l->l.length=vs.length/\vm el.shs (vs.map fun v=>v.av.cells)=some (l.map el.row)/\ ∀v∈vs,v.av.cells.length=el.width/\v.av.isDead=false
 | [],l,h=>by simp only[tI,af] at h; subst h; exact⟨rfl,rfl,fun v hv=>by cases hv⟩
 | .v x::vs,l,h=>by
   simp only[tI] at h;split at h
   ·rename_i xs hx;split at h
    ·rename_i y ys hy hys;simp only[af] at h;subst h;obtain⟨h1,h2,h3⟩:=Bb el vs ys hys;obtain⟨g1,g2⟩:=Dh _ _ _ hx
     have n1:x≠ .cl .dead:=fun e=>by
      subst e;have hx:nB el.csh [Cl.dead] =some xs:=hx;cases hc:el.csh with
      |nil=>rw[hc] at hx; simp[nB] at hx
      |cons a b=>rw[hc] at hx; simp[nB] at hx
     have n2: ∀f cs,x≠ .fn f cs:=fun f cs e=>by
      subst e;have hx:nB el.csh [Cl.dead] =some xs:=hx;cases hc:el.csh with
      |nil=>rw[hc] at hx; simp[nB] at hx
      |cons a b=>rw[hc] at hx; simp[nB] at hx
     obtain⟨hc,hd⟩:=Dg n1 n2
     have hw:el.csh.length=el.width:=by have:=yd el;unfold Ty.shs at this;simpa using this
     refine⟨by simp[h1],?_,fun v hv=> ?_⟩
     ·simp only[aQ,vm,hc];rw[show el.shs=el.csh.map fun |some e=>e.width|none=>0 from rfl,g2];simp only[ae];rw[show (el.csh.map fun |some e=>e.width|none=>0)=el.shs from rfl,h2,el.row_flat,Ty.unflat_some _ _ _ hy];rfl
     ·rcases aR.1 hv with rfl|hv
      ·exact⟨by rw[hc,aD,g1,hw],hd⟩
      ·exact h3 v hv
    ·cases h
   ·cases h
 | .tup _::vs,l,h=>by simp[tI] at h
theorem IB (hΘ:gC P Θ) (hY:mJ P Y) (hS:S.ok) {o:Oper} {κ:V->TS->Option ρ} {r:ρ} (h:yY Θ Y S o κ=some r):
  ∃D v S',oL P D/\jg D P S.st o=some (V.av v,TS.st S')/\S'.ok/\v.ok S'.gh/\κ v S'=some r:=by
 have ok: ∀x,(S.opd x).ok S.gh:=fun x=>mG hS x
 have vals:C0 Θ S o κ=some r->(∀D:sE,jg D P S.st o=(eh D P S.st o).map fun v=>(v,S.st))-> ∃D v S',oL P D/\jg D P S.st o=some (V.av v,TS.st S')/\S'.ok/\v.ok S'.gh/\κ v S'=some r:=by intro h he;obtain⟨v,S1,h1,h2,h3,h4,h5,h6⟩:=FJ (D:=HC) hΘ hS h;exact⟨HC,v,S1,jI,by rw[he,h1,aB,h2],h3,by rw[h4]; exact h5,h6⟩
 obtain⟨dst,op,ty,pos,aft,gd⟩:=o;unfold yY at h;cases op with
 |alloc t=>
  simp only at h;split at h
  ·rename_i ti hti;refine⟨HC,_,{ S with bx:=S.bx++ [ti.ty.zvs.map cC] },jI,?_,⟨hS.env,fun cs hcs c hc=> ?_⟩,?_,h⟩
   ·simp only[jg,(hΘ _ _ hti).ze,aB];rw[Kj,NK];rfl
   ·rcases bq.1 hcs with h1|h1
    ·exact hS.bx cs h1 c hc
    ·simp only[ax] at h1;subst h1;exact NL _ _ c hc
   ·trivial
  ·cases h
 |box t x=>
  have fin: ∀ (cs:List Cl),(∀c∈cs,c.ok S.gh)->jg HC P S.st ⟨dst, .box t x,ty,pos,aft,gd⟩=some (.ptrB S.bx.length 0,{ S.st with bx:=eV S.st.bx S.bx.length (some (cs.map Cl.av)),nb:=S.bx.length+1 })->κ (.v (.cl (.ptrB S.bx.length 0))) { S with bx:=S.bx++ [cs] } =some r->
    ∃D v S',oL P D/\jg D P S.st ⟨dst, .box t x,ty,pos,aft,gd⟩=some (V.av v,TS.st S')/\S'.ok/\v.ok S'.gh/\κ v S'=some r:=by
   intro cs hcs h1 h2;refine⟨HC, .v (.cl (.ptrB S.bx.length 0)),{ S with bx:=S.bx++ [cs] },jI,?_,⟨hS.env,fun cs' hcs' c hc=> ?_⟩,trivial,h2⟩
   ·rw[h1,Kj]; rfl
   ·rcases bq.1 hcs' with h3|h3
    ·exact hS.bx cs' h3 c hc
    ·simp only[ax] at h3;subst h3;exact hcs c hc
  simp only at h;split at h
  ·cases h
  ·rename_i c hnd hx;have hc:=ok x;rw[hx] at hc;refine fin [c] (fun c' hc'=>by simp only[ax] at hc'; subst hc'; exact hc) ?_ h;simp only[jg,eu,hx];cases c with
   |dead=>exact absurd rfl hnd
   |c y=>cases y<;>rfl
   | _=>rfl
  ·rename_i cs hx;have hc:=ok x;rw[hx] at hc;refine fin cs hc ?_ h;simp only[jg,eu,hx];rfl
  ·cases h
 |store t a x=>simp only at h;obtain⟨S1,h1,h2,h3,h⟩:=NZ hΘ hS (ok a) (ok x) h;refine⟨HC,_,S1,jI,?_,h2,V.ok_dead _,h⟩;simp only[jg,eu,h1,aB];rfl
 |makeSlice t l c=>
  simp only at h;split at h
  ·rename_i ti hti;split at h
   ·rename_i el he;obtain⟨elT',g1,g2,g3,g4,g5,g6⟩:=(hΘ _ _ hti).el el he;obtain⟨n,h1,h⟩:=yZ h;obtain⟨m,h2,h⟩:=yZ h;split at h
    ·rename_i z hz;obtain⟨hb,h⟩:=fO h;have hz':=Ty.unflat_some _ _ _ hz
     have hzr:el.row z=List.zipWith zc el.shs el.zvs:=by rw[el.row_flat,hz',Iz]
     refine⟨HC,_,{ S with gh:=S.gh++ [some ⟨el,List.replicate n.toNat z,none⟩] },jI,?_,TS.ok_gh hS (jd.app _ _),?_,h⟩
     ·simp only[jg,g1,ae,eu,h1,h2];rw[Cm g2 g5 g6];simp only[ae]
      have hn:n<=n*(ti.el:Int):=by
       have h1e: (1:Int)<=ti.el:=by omega
       have:=Int.mul_le_mul_of_nonneg_left h1e hb.1
       rwa [Int.mul_one] at this
      rw[if_pos ⟨hb.1,hb.2.1,by rw[g3,dI]; exact hb.2.2,Int.le_trans hn hb.2.2⟩];rw[C7,g2];simp only[eL.tree,dR,hzr];rfl
     ·refine⟨by simp,fun _=>⟨rfl,rfl,fun tr htr=> ?_⟩⟩;rw[mH,if_pos rfl] at htr;cases htr;simp
    ·cases h
   ·cases h
  ·cases h
 |buildSlice t len parts=>
  simp only at h;split at h
  ·rename_i ti hti;split at h
   ·rename_i el he;obtain⟨elT',g1,g2,g3,g4,g5,g6⟩:=(hΘ _ _ hti).el el he;obtain⟨hb,h⟩:=ef h;simp only[ar] at hb;have hb1:len*el.width<=1048576:=az hb.1;have hb2:=Gy hb.2
    have hpl:parts.toList.length=len:=by have:=congrArg List.length hb2;simpa using this
    cases hro: (parts.toList.map fun x=>S.opd x.2).any C2 with
    |true=>
     rw[hro] at h;simp only[cond_true] at h;split at h
     ·rename_i l hl;obtain⟨m1,m2,m3⟩:=Bb el _ l hl;refine⟨HC, .v (.cl (.c (.ls el l))),S,jI,?_,hS,trivial,h⟩;simp only[jg,g1,ae]
      rw[if_pos ⟨by rw[g2]; exact hb1,hb2,by rw[g2]; exact el.width_pos,by rw[g6]; rfl,by rw[aA];intro y hy;obtain⟨q1,q2⟩:=m3 (S.opd y.2) (aL.2 ⟨y,hy,rfl⟩);simp only[eu,q1,q2,g2];rfl⟩]
      have e1: (parts.toList.any fun x=>(opd S.st x.2).cells.any JM)=true:=by rw[cc] at hro ⊢;obtain⟨v,hv,hr⟩:=hro;obtain⟨x,hx,rfl⟩:=aL.1 hv;exact⟨x,hx,by rw[eu]; exact N0 hr⟩
      have e2: (parts.toList.map fun x=>(opd S.st x.2).cells)=(parts.toList.map fun x=>S.opd x.2).map fun v=>v.av.cells:=by rw[bu];exact aJ fun x _=>by simp only[Function.comp,eu]
      rw[if_pos e1,e2,g5,m2,g2];rfl
     ·cases h
    |false=>
    rw[hro] at h;simp only[cond_false] at h;split at h
    ·rename_i l S1 hp
     have hvok: ∀v∈parts.toList.map (fun x=>S.opd x.2),v.ok S.gh:=fun v hv=>by obtain⟨y,_,rfl⟩:=aL.1 hv;exact ok _
     have hR: ∀ (m:Nat) (v:V),(parts.toList.map fun x=>S.opd x.2)[m]? =some v->(parts.toList.map fun x=>(opd S.st x.2).cells.map T.ofSc)[0+m]? =some (v.av.cells.map T.ofSc):=by intro m v hm;rw[aV,ap];rw[ap] at hm;simp only[ak] at hm;obtain⟨y,hy,rfl⟩:=hm;rw[hy];simp only[aB,eu]
     obtain⟨m1,m2,m3,m4⟩:=Mp el S.gh.length (S.gh.length+1) _ 0 S S1 l _ hS rfl hvok hp (by simp) hR;have hlen:l.length=len:=by rw[m2]; simp[hpl]
     refine⟨HC,_,{ S1 with gh:=S1.gh++ [some ⟨el,l,none⟩] },jI,?_,TS.ok_gh m1.ok (jd.app _ _),?_,h⟩
     ·simp only[jg,g1,ae]
      rw[if_pos ⟨by rw[g2]; exact hb1,hb2,by rw[g2]; exact el.width_pos,by rw[g6]; rfl,by rw[aA];intro y hy;obtain⟨q1,q2⟩:=m3 (S.opd y.2) (aL.2 ⟨y,hy,rfl⟩);simp only[eu,q1,q2,g2];rfl⟩]
      have hfold:=IA S.gh.length el.shs (opd S.st) parts.toList (parts.toList.map fun x=>S.opd x.2) 0 (S.with S.gh.length (S.gh.length+1) el.width (parts.toList.map fun x=>(opd S.st x.2).cells.map T.ofSc)) (by rw[hb2,hpl,co]) (by rw[bu];exact aJ fun y _=>eu _)
      have e0: (parts.toList.any fun x=>(opd S.st x.2).cells.any JM)=false:=by rw[List.any_eq_false] at hro ⊢;intro x hx;have:=hro (S.opd x.2) (aL.2 ⟨x,hx,rfl⟩);rw[eu];exact fun hc=>this (N1 hc)
      rw[if_neg (by rw[e0]; decide)]
      have hX: ({ S.st with gh:=eV S.st.gh S.st.ng (some (.sl (P.cellsOf elT') (parts.toList.map fun x=>(opd S.st x.2).cells.map T.ofSc))),ng:=S.st.ng+1 }:St)=S.with S.gh.length (S.gh.length+1) el.width (parts.toList.map fun x=>(opd S.st x.2).cells.map T.ofSc):=by rw[g2]; rfl
      rw[hX,g5];have hng:S.st.ng=S.gh.length:=rfl;rw[hng]
      have hres: (if (el.shs.all (· ==0))=true then some (S.with S.gh.length (S.gh.length+1) el.width (parts.toList.map fun x=>(opd S.st x.2).cells.map T.ofSc)) else
        parts.toList.foldlM (fun S' x=>fw S' ⟨S.gh.length,[]⟩ x.1 0 el.shs (opd S.st x.2).cells) (S.with S.gh.length (S.gh.length+1) el.width (parts.toList.map fun x=>(opd S.st x.2).cells.map T.ofSc)))=some (S1.with S.gh.length (S.gh.length+1) el.width (l.map el.row)):=by
       rw[hfold];simp only[dv,bi] at m4;rw[m4];split
       ·rename_i hfl
        have : ∀ (vs:List V) (k:Nat) (X:St),vz S.gh.length el.shs k vs X=some X:=by
         intro vs
         induction vs with
         |nil=>intro k X; rfl
         |cons v vs ih=>intro k X; simp only[vz]; rw[ED _ _ _ _ _ _ hfl]; exact ih _ _
        rw[this] at m4;exact m4
       ·rfl
      rw[hres];simp only[aB];rw[C7,m1.len,g2];simp only[V.av,V1.av,Cl.av,hlen];rfl
     ·refine⟨by simp,fun _=>⟨rfl,rfl,fun tr htr=> ?_⟩⟩;rw[mH,if_pos rfl] at htr;cases htr;rfl
    ·cases h
   ·cases h
  ·cases h
 |call c=>
  obtain⟨cl,as,ts⟩:=c;cases cl with
  |value f=>simp only at h;exact NR hΘ hY hS h
  |invoke a b=>exact vals h (fun D=>rfl)
  |builtin b=>
   cases b with
   |append=>
    simp only at h;split at h
    ·rename_i s x t t' e1 e2;cases htb:Nat.beq t t' with
     |false=>
      rw[htb] at h;simp only[cond_false] at h;have hne: ¬t=t':=fun e=>by rw[e,cE] at htb; cases htb
      unfold QK at h;split at h
      ·rename_i ti hti;split at h
       ·rename_i el he hs;obtain⟨elT',g1,g2,g3,g4,g5,g6⟩:=(hΘ _ _ hti).el el he;obtain⟨n,h1,h⟩:=yZ h;split at h
        ·rename_i z hz;obtain⟨hb,h⟩:=fO h;have hz':=Ty.unflat_some _ _ _ hz
         have hzr:el.row z=List.zipWith zc el.shs el.zvs:=by rw[el.row_flat,hz',Iz]
         obtain⟨kk,hkk⟩:=PL h1;refine⟨HC,_,{ S with gh:=S.gh++ [some ⟨el,List.replicate n.toNat z,none⟩] },jI,?_,TS.ok_gh hS (jd.app _ _),?_,h⟩
         ·simp only[jg,e1,e2,if_neg hne,g1,ae];rw[Cm g2 g5 g6];simp only[ae,eu,hs,hkk]
          have hn:n<=n*(ti.el:Int):=by
           have h1e: (1:Int)<=ti.el:=by omega
           have:=Int.mul_le_mul_of_nonneg_left h1e (dF hb.1)
           rwa [Int.mul_one] at this
          show (if 0<n/\_ then _ else _)=_;rw[if_pos ⟨hb.1,by rw[g3,dI]; exact hb.2,Int.le_trans hn hb.2,by rw[g2]; exact el.width_pos⟩];rw[C7,g2];simp only[eL.tree,dR,hzr];rfl
         ·refine⟨by simp,fun _=>⟨rfl,rfl,fun tr htr=> ?_⟩⟩;rw[mH,if_pos rfl] at htr;cases htr;simp
        ·cases h
       ·cases h
      ·cases h
     |true=>
     rw[htb] at h;simp only[cond_true] at h;have h':=h;have ht:t=t':=au htb;clear h;subst ht;have e1:as= #[s,x] :=by apply Array.ext'; simpa using e1
     have e2:ts= #[t,t] :=by apply Array.ext'; simpa using e2
     subst e1 e2;obtain⟨v,S1,h1,h2,h3,h4⟩:=PH (D:=HC) (dst:=dst) (ty:=ty) (pos:=pos) (aft:=aft) (gd:=gd) hΘ hS h';exact⟨HC,v,S1,jI,h1,h2,h3,h4⟩
    ·cases h
   | _=>exact vals h (fun D=>rfl)
 | _=>exact vals h (fun D=>rfl)
end
end
section
open Go
section
variable {ρ:Type} {P:Program} {Θ:pp} {S:TS} {Y:yX}
theorem IC (hS:S.ok) {ops:Array Oper} {o:Oper} {κ:Bool->TS->Option ρ} {r:ρ} (h:Lk S ops.toList o κ=some r): ∃b S1,ny S.st ops o=some b/\S1.st=S.st/\S1.ok/\S1.gh=S.gh/\κ b S1=some r:=by
 unfold Lk at h;split at h
 ·rename_i hg;exact⟨true,S,by unfold ny; rw[hg],rfl,hS,rfl,h⟩
 ·rename_i j want hg;split at h
  ·rename_i oj hj;split at h
   ·rename_i d hd;rw[fZ,cx] at hj;split at h
    ·rename_i he;refine⟨_,S,?_,rfl,hS,rfl,h⟩;unfold ny;rw[hg];simp only[hj,ae,hd];have :S.st.env d= .tup [] :=by show (jr S.env d).av=_; rw[he]; rfl
     rw[this]
    ·obtain⟨b,S1,h1,h2,h3,h4,h5⟩:=C6 hS h;refine⟨_,S1,?_,h2,h3,h4,h5⟩;unfold ny;rw[hg];simp only[hj,ae,hd];have :S.st.env d= .sc (.bool b):=h1;rw[this]
   ·cases h
  ·cases h
theorem nZ (hS:S.ok) {d:Option Tmp} {v:V} (hv:v.ok S.gh) {κ:TS->Option ρ} {r:ρ} (h:tJ S d v κ=some r): ∃S1,S.st.put d v.av=some (TS.st S1)/\S1.ok/\S1.gh=S.gh/\κ S1=some r:=by
 unfold tJ at h;split at h
 ·rename_i t;obtain⟨h1,h⟩:=ef h;have h1:t<S.nt:=az h1;refine⟨{ S with env:=(t,v)::S.env },?_,⟨fun x hx=> ?_,hS.bx⟩,rfl,h⟩
  ·simp only[St.put];rw[if_pos (show t<S.st.nt from h1)]
   congr 1
   unfold TS.st
   congr 1
   funext u
   unfold eV;simp only[jr];cases hb:Nat.beq t u with
   |true=>have :t=u:=au hb;subst this;simp
   |false=>
    have : ¬u=t:=by intro e; subst e; rw[cE] at hb; cases hb
    rw[if_neg this];rfl
  ·rcases aR.1 hx with rfl|hx
   ·exact hv
   ·exact hS.env x hx
 ·exact⟨S,rfl,hS,rfl,h⟩
theorem N2 {α:Type} {x y:Option α} {r:α} (h:Px x y none=some r):x=some r/\y=some r:=by
 unfold Px at h;split at h
 ·rename_i e;exact⟨h,by rw[<-e]; exact h⟩
 ·cases h
theorem N3 {α:Type} (x z:α):Px x x z=x:=by unfold Px; rw[if_pos rfl]
theorem GA {o:Oper} {t:TypeId} {x:Operand} (h:Cj o=some (t,x)): (∃t',o.op= .binOp .eql t x (.const (.slice none 0 0)) t')/\o.guard=none:=by
 unfold Cj at h;split at h
 ·rename_i t1 x1 t' ho;split at h
  ·rename_i hg;simp only[af,an] at h;obtain⟨rfl,rfl⟩:=h;exact⟨⟨t',ho⟩,hg⟩
  ·cases h
 ·cases h
theorem Kl {o:Oper} {k:Nat} {g:FuncId} {caps:List Cl} {r sz:Nat} {us:List TypeId} {xs:List Operand} (h:Il Y S o=some (k,g,caps,r,sz,us,xs)):
  ∃f as ts x t lo len,o.op= .call { callee:= .value f,args:=as,argTypes:=ts } /\o.guard=none/\as.toList=x::xs/\ts.toList=t::us/\S.opd x= .v (.cl (.own ⟨r,[]⟩ sz lo len true))/\g<jE/\
   ((∃a b,S.opd f= .v (.cl (.c (.sc (.func (.func g) a b))))/\caps= [])\/S.opd f= .v (.fn g caps)):=by
 unfold Il at h;split at h
 ·rename_i f as ts hop;split at h
  ·cases h
  ·rename_i hg;split at h
   ·rename_i x xs' t us' e1 e2;split at h
    ·rename_i r' sz' lo len hx;split at h
     ·rename_i g' a b hf;obtain⟨h2,h⟩:=ef h;simp only[ar] at h2;simp only[af,an] at h;obtain⟨rfl,rfl,rfl,rfl,rfl,rfl,rfl⟩:=h;exact⟨f,as,ts,x,t,lo,len,hop,hg,e1,e2,hx,az h2.1, .inl ⟨a,b,hf,rfl⟩⟩
     ·rename_i g' caps' hf;obtain⟨h2,h⟩:=ef h;simp only[ar] at h2;simp only[af,an] at h;obtain⟨rfl,rfl,rfl,rfl,rfl,rfl,rfl⟩:=h;exact⟨f,as,ts,x,t,lo,len,hop,hg,e1,e2,hx,az h2.1, .inr hf⟩
     ·cases h
    ·cases h
   ·cases h
 ·cases h
theorem Am (hΘ:gC P Θ) (hS:S.ok): ∀ (ts:List TypeId) (as:List Operand) (κ:List V1->Option ρ) (r:ρ),tH Θ S ts as κ=some r->ts.length=as.length
 | [],[],_,_,_=>rfl
 | [],_::_,_,_,h=>by simp[tH] at h
 | _::_,[],_,_,h=>by simp[tH] at h
 |t::ts,a::as,κ,r,h=>by unfold tH at h;obtain⟨v,_,h⟩:=NQ hΘ hS (mG hS a) h;rw[ba,ba,Am hΘ hS ts as _ r h]
theorem N4 (hΘ:gC P Θ) (hY:mJ P Y) (hS:S.ok) {ops:Array Oper} {o:Oper} {os:List Oper} {Post:St->Prop} {k:Nat} {g:FuncId} {caps:List Cl} {q sz:Nat} {us:List TypeId} {xs:List Operand} (ht:Il Y S o=some (k,g,caps,q,sz,us,xs)) {κ:TS->Option ρ} {r:ρ}
  (ih: ∀S3:TS,S3.ok->κ S3=some r->tF P ops os S3.st Post) (h:NC Θ Y S k g caps q sz us xs o.dst κ=some r):tF P ops (o::os) S.st Post:=by
 obtain⟨f,as,ts,x,t,lo,len,hop,hgd,has,hts,hx,hgk,hf⟩:=Kl ht;unfold NC at h;split at h
 ·rename_i el l hq;obtain⟨hsz0,h0⟩:=ef h;have hsz:sz=el.width:=au hsz0;clear h hsz0;subst hsz;have h:=h0;clear h0
  have hql:q<S.gh.length:=by
   rcases ce q S.gh.length with h'|h'
   ·exact h'
   ·rw[wK h'] at hq; cases hq
  have hS0: ({ S with gh:=fK S.gh q none }:TS).ok:=TS.ok_gh hS (jd.gone _ _);have hst0: ({ S with gh:=fK S.gh q none }:TS).st= { S.st with gh:=eV S.st.gh q none } :=za S q;have hlen:=Am hΘ hS0 _ _ _ _ h;obtain⟨vs,h1,h⟩:=tL hΘ hS0 _ _ _ _ h
  have hcaps: ∀c∈caps,c.ok (fK S.gh q none):=by
   intro c hc;rcases hf with ⟨_,_,_,rfl⟩|hf
   ·cases hc
   ·have:=mG hS f;rw[hf] at this;exact Cl.ok_mono (jd.gone _ _) (this c hc)
  obtain⟨cs,h2,h⟩:=zb hS0 _ _ _ hcaps h
  have hargs:uP P { S.st with gh:=eV S.st.gh q none } us xs (caps.map Cl.av)=(vs++cs.map V1.cl).map V1.av:=by unfold uP;rw[<-hst0,h1,h2,bS,bu];rfl
  have hcal:callee S.st f=some (g,caps.map Cl.av):=by unfold callee;rw[eu];rcases hf with ⟨_,_,hf,rfl⟩|hf<;>(rw[hf]; rfl)
  have hxo:=mG hS x;rw[hx] at hxo;obtain⟨_,hxo⟩:=hxo;obtain⟨_,hlo,hln⟩:=hxo rfl;have hln:=hln _ hq;subst hlo hln;have hxv:opd S.st x= .own ⟨q,[]⟩ el.width 0 l.length:=by rw[eu,hx]; rfl
  have htr:S.st.gh q=some (.sl el.width (l.map el.row)):=by show (fA S.gh q).map eL.tree=_;rw[hq];rfl
  cases hk:Nat.beq k 1 with
  |true=>
   rw[hk] at h;simp only[cond_true] at h;obtain⟨res,out,g1,g2,h⟩:=hY _ _ _ _ _ h;have g1:=(g1.io g rfl hgk).get;split at h
   ·rename_i t' l' _;obtain⟨hc,h⟩:=ef h;simp only[ar,decide_eq_true_eq] at hc;obtain⟨rfl,hns⟩:=hc;unfold dU at h;split at h
    ·rename_i hll;have hG:jd S.gh (fK S.gh q (some ⟨t',l',none⟩)):=jd.put hq hll
     have hrp:res.av.plain=true:=by unfold Kf at hns;split at hns<;>first |rfl|cases hns
     have hro:res.ok (fK S.gh q (some ⟨t',l',none⟩)):=by
      unfold Kf at hns;split at hns
      ·trivial
      ·intro x hx; cases hx
      ·cases hns
     obtain⟨S3,k1,k2,_,h⟩:=nZ (S:= { S with gh:=fK S.gh q (some ⟨t',l',none⟩) }) (TS.ok_gh hS hG) hro h;rw[Ai S _ hql] at k1;refine tF.hand hop hgd has hlen hcal hxv htr (m:=1) (by rw[hargs]; exact g1) (.inr ⟨rfl,_,rfl,hrp,S3.st,k1,ih S3 k2 h⟩)
    ·cases h
   ·cases h
  |false=>
   rw[hk] at h;simp only[cond_false] at h;obtain⟨hfz0,h⟩:=ef h;have hfz:S.st.fz<=q:=az hfz0;obtain⟨res,out,g1,g2,h⟩:=hY _ _ _ _ _ h;have g1:=(g1.mv g rfl).get;have hl0: (fK S.gh q none).length=S.gh.length:=by rw[it]; simp
   have hro: (ut S.gh.length res).ok (fK S.gh q none++out.map some):=by
    have:=Ak (G:=fK S.gh q none) g2
    rwa [hl0] at this
   obtain⟨S3,k1,k2,_,h⟩:=nZ (S:= { S with gh:=fK S.gh q none++out.map some }) (TS.ok_gh hS0 (jd.apps _ _)) hro h;rw[show ({ S with gh:=fK S.gh q none++out.map some }:TS).st=_ from yc { S with gh:=fK S.gh q none } res.av out,hst0,Aj] at k1;exact tF.hand hop hgd has hlen hcal hxv htr (m:=0) (by rw[hargs]; exact g1) (.inl ⟨hfz,S3.st,k1,ih S3 k2 h⟩)
 ·cases h
structure sJ (S S1:TS) (L:List Nat):Prop where
 env:S1.env=S.env
 bx:S1.bx=S.bx
 fz:S1.fz=S.fz
 nt:S1.nt=S.nt
 len:S1.gh.length=S.gh.length
 gh: ∀r,fA S1.gh r=if L.contains r then none else fA S.gh r
 was: ∀q∈L,∃tr,fA S.gh q=some tr
theorem sJ.refl (S:TS):sJ S S [] :=⟨rfl,rfl,rfl,rfl,rfl,fun _=>by simp,fun _ h=>by cases h⟩
theorem sJ.one {q:Nat} {tr:eL} (h:fA S.gh q=some tr):sJ S { S with gh:=fK S.gh q none } [q] :=
 ⟨rfl,rfl,rfl,rfl,by simp[it],fun r=>by
  show fA (fK S.gh q none) r=_;rw[qi q r (.inr rfl)];by_cases hr:r=q
  ·subst hr; simp
  ·rw[if_neg hr,if_neg (by simpa using hr)],fun r hr=>by rw[ax.1 hr]; exact⟨tr,h⟩⟩
theorem sJ.trans {S1 S2:TS} {L L':List Nat} (h:sJ S S1 L) (k:sJ S1 S2 L'):sJ S S2 (L++L'):=
 ⟨k.env.trans h.env,k.bx.trans h.bx,k.fz.trans h.fz,k.nt.trans h.nt,k.len.trans h.len,fun r=>by
  rw[k.gh,h.gh]
  have e: (L++L').contains r=(L.contains r||L'.contains r):=by rw[b9];simp
  rw[e];cases L.contains r<;>cases L'.contains r<;>rfl,fun q hq=>by
  rcases bq.1 hq with hq|hq
  ·exact h.was q hq
  ·obtain⟨tr,ht⟩:=k.was q hq;rw[h.gh] at ht;split at ht
   ·cases ht
   ·exact⟨tr,ht⟩⟩
theorem sJ.apart {S1 S2:TS} {L L':List Nat} (h:sJ S S1 L) (k:sJ S1 S2 L') (h1:L.Nodup) (h2:L'.Nodup): (L++L').Nodup:=by rw[List.nodup_append];refine⟨h1,h2,fun a ha b hb e=> ?_⟩;subst e;obtain⟨tr,ht⟩:=k.was a hb;rw[h.gh,if_pos (by simpa using ha)] at ht;cases ht
theorem sJ.le {S1:TS} {L:List Nat} (h:sJ S S1 L):jd S.gh S1.gh:=⟨by rw[h.len]; exact ay _,fun r tr _ ht=>by
 rw[h.gh] at ht;split at ht
 ·cases ht
 ·exact⟨tr,ht,rfl⟩⟩
theorem sJ.ok {S1:TS} {L:List Nat} (h:sJ S S1 L) (hS:S.ok):S1.ok:=
 ⟨fun x hx=>V.ok_mono h.le (hS.env x (by rw[<-h.env]; exact hx)),fun cs hcs c hc=>Cl.ok_mono h.le (hS.bx cs (by rw[<-h.bx]; exact hcs) c hc)⟩
theorem sJ.st {S1:TS} {L:List Nat} (h:sJ S S1 L):S1.st=dropL S.st L:=by
 unfold TS.st dropL;rw[h.env,h.bx,h.fz,h.nt,h.len];simp only
 congr 1
 funext r
 rw[h.gh];cases L.contains r<;>rfl
theorem IE {o:Oper} {g:FuncId} {caps:List Cl} {a:Kg} {us:List TypeId} {xs:List Operand} (h:C3 Y S o=some (g,caps,a,us,xs)):
  ∃f as ts x t,o.op= .call { callee:= .value f,args:=as,argTypes:=ts } /\o.guard=none/\as.toList=x::xs/\ts.toList=t::us/\Gt (S.opd x)=some a/\g<jE/\
   ((∃a b,S.opd f= .v (.cl (.c (.sc (.func (.func g) a b))))/\caps= [])\/S.opd f= .v (.fn g caps)):=by
 unfold C3 at h;split at h
 ·rename_i f as ts hop;split at h
  ·cases h
  ·rename_i hg;split at h
   ·rename_i x xs' t us' e1 e2;split at h
    ·rename_i a' hx;split at h
     ·rename_i g' a b hf;obtain⟨h2,h⟩:=ef h;simp only[ar] at h2;simp only[af,an] at h;obtain⟨rfl,rfl,rfl,rfl,rfl⟩:=h;exact⟨f,as,ts,x,t,hop,hg,e1,e2,hx,az h2.1, .inl ⟨a,b,hf,rfl⟩⟩
     ·rename_i g' caps' hf;obtain⟨h2,h⟩:=ef h;simp only[ar] at h2;simp only[af,an] at h;obtain⟨rfl,rfl,rfl,rfl,rfl⟩:=h;exact⟨f,as,ts,x,t,hop,hg,e1,e2,hx,az h2.1, .inr hf⟩
     ·cases h
    ·cases h
   ·cases h
 ·cases h
theorem FO: ∀ (L:List Nat) (S:TS),L.Nodup->(∀r∈L,∃tr,fA S.gh r=some tr)->sJ S { S with gh:=ND S.gh L } L
 | [],S,_,_=>sJ.refl S
 |r::L,S,hnd,h=>by
  obtain⟨tr,htr⟩:=h r aI;rw[List.nodup_cons] at hnd;have h1:=sJ.one htr
  have h2:=FO L { S with gh:=fK S.gh r none } hnd.2 (fun r' hr'=>by
   obtain⟨tr',htr'⟩:=h r' (aE _ hr');refine⟨tr',?_⟩;rw[h1.gh,if_neg]
   ·exact htr'
   ·intro hc;rw[bP,ax] at hc;subst hc;exact hnd.1 hr')
  exact h1.trans h2
theorem ye: ∀ (cs:List Cl) (ys:List C) (L:List Nat),wH S cs=some (ys,L)->(∀c∈cs,c.ok S.gh)->ys.length=cs.length/\(nw ys).length=L.length/\
  (∀ (k r:Nat),L[k]? =some r-> ∃el l,(nw ys)[k]? =some ⟨el,l,none⟩/\fA S.gh r=some ⟨el,l,none⟩)/\
  ∀ (w:World) (bt bt':Bt) (m:Nat),(∀ (k r:Nat),L[k]? =some r->bt'.β ⟨m+k,[]⟩=bt.β ⟨r,[]⟩/\bt'.κ ⟨m+k,[]⟩=bt.κ ⟨r,[]⟩/\m+k<bt'.ng)->
    ∀ (j:Nat) (c c':Cl) (u:Value),cs[j]? =some c->(vk ys m)[j]? =some c'->VR w bt c.av u->VR w bt' c'.av u
 | [],ys,L,h,_=>by simp only[wH,af,an] at h;obtain⟨rfl,rfl⟩:=h;exact⟨rfl,rfl,fun k r hk=>by simp at hk,fun w bt bt' m _ j c c' u hj=>by simp at hj⟩
 |c0::cs,ys,L,h,hok=>by
  unfold wH at h;split at h
  ·cases ‹_= []›
  ·rename_i v cs' e;simp only[bB] at e;obtain⟨rfl,rfl⟩:=e;split at h
   ·rename_i ys' L' hr;simp only[af,an] at h;obtain⟨rfl,rfl⟩:=h;obtain⟨h1,h2,h3,h4⟩:=ye cs ys' L' hr (fun c hc=>hok c (aE _ hc));refine⟨by simp[h1],h2,h3,fun w bt bt' m hm j c c' u hj hj' hv=> ?_⟩;cases j with
    |zero=>
     simp only[vk,aG,af] at hj hj';subst hj hj';cases hv with
     |sc h=>exact .sc h
    |succ j=>exact h4 w bt bt' m hm j c c' u (by simpa using hj) (by simpa [vk] using hj') hv
   ·cases h
  ·rename_i r sz lo len cs' e;simp only[bB] at e;obtain⟨rfl,rfl⟩:=e;split at h
   ·rename_i el l hg;obtain⟨hsz,h0⟩:=ef h;have hsz:sz=el.width:=au hsz;clear h;split at h0
    ·rename_i ys' L' hr;simp only[af,an] at h0;obtain⟨rfl,rfl⟩:=h0;obtain⟨h1,h2,h3,h4⟩:=ye cs ys' L' hr (fun c hc=>hok c (aE _ hc));obtain⟨_,hlo⟩:=hok (.own ⟨r,[]⟩ sz lo len true) aI;obtain⟨_,hlo,hln⟩:=hlo rfl;have hln:=hln _ hg;simp only at hln;refine⟨by simp[h1],by simp[nw,h2],fun k r' hk=> ?_,fun w bt bt' m hm j c c' u hj hj' hv=> ?_⟩
     ·cases k with
      |zero=>simp only[aG,af] at hk;subst hk;exact⟨el,l,rfl,hg⟩
      |succ k=>exact h3 k r' (by simpa using hk)
     ·cases j with
      |zero=>
       simp only[vk,aG,af] at hj hj';subst hj hj' hsz hlo hln;obtain⟨e1,e2,e3⟩:=hm 0 r rfl;rw[cd] at e1 e2 e3;cases hv with
       |own hp hc hk ha=>exact .own e3 hc (by rw[e2]; exact hk) (by rw[e1]; exact ha)
      |succ j=>exact h4 w bt bt' (m+1) (fun k r' hk=>by
        have:=hm (k+1) r' (by simpa using hk)
        rwa [show m+(k+1)=m+1+k by omega] at this) j c c' u (by simpa using hj) (by simpa [vk] using hj') hv
    ·cases h0
   ·cases h
  ·cases h
theorem sK: ∀ (ys:List C) (m:Nat),(vk ys m).length=ys.length
 | [],_=>rfl
 | .sc v::r,m=>by simp[vk,sK r m]
 | .ls t l::r,m=>by simp[vk,sK r (m+1)]
theorem IG: ∀ (L:List Nat) (S:TS) (out:List eL) (κ:TS->Option ρ) (r:ρ),L.Nodup->C4 S L out κ=some r->
  ∃Sp:TS,Sp.env=S.env/\Sp.bx=S.bx/\Sp.fz=S.fz/\Sp.nt=S.nt/\Sp.gh.length=S.gh.length/\out.length=L.length/\(∀ (k q:Nat),L[k]? =some q->fA Sp.gh q=out[k]?)/\(∀q,q∉L->fA Sp.gh q=fA S.gh q)/\jd S.gh Sp.gh/\κ Sp=some r
 | [],S,out,κ,r,_,h=>by
   cases out with
   |nil=>exact⟨S,rfl,rfl,rfl,rfl,rfl,rfl,fun k q hk=>by simp at hk,fun _ _=>rfl,jd.refl _,h⟩
   |cons x out=>simp[C4] at h
 |q::L,S,out,κ,r,hnd,h=>by
  rw[List.nodup_cons] at hnd;cases out with
  |nil=>simp[C4] at h
  |cons x out=>
   obtain⟨t,l',hole⟩:=x;cases hole with
   |some y=>simp[C4] at h
   |none=>
    simp only[C4] at h;split at h
    ·rename_i el l hg;obtain⟨ht,h⟩:=ef h;have ht:t=el:=by simpa using ht
     subst ht;obtain⟨hl,h⟩:=fO h;obtain⟨Sp,a1,a2,a3,a4,a5,a6,a7,a8,a9,h⟩:=IG L { S with gh:=fK S.gh q (some ⟨t,l',none⟩) } out κ r hnd.2 h;have hql:=uu hg;have hG:jd S.gh (fK S.gh q (some ⟨t,l',none⟩)):=jd.put hg hl;refine⟨Sp,a1,a2,a3,a4,by rw[a5]; simp[it],by simp[a6],fun k q' hk=> ?_,fun q' hq'=> ?_,hG.trans a9,h⟩
     ·cases k with
      |zero=>simp only[aG,af] at hk;subst hk;rw[a8 q hnd.1];show fA (fK S.gh q _) q=_;rw[qi q q (.inl hql),if_pos rfl];rfl
      |succ k=>rw[a7 k q' (by simpa using hk)];simp
     ·rw[a8 q' (fun hm=>hq' (aE _ hm))];show fA (fK S.gh q _) q'=_;rw[qi q q' (.inl hql),if_neg (fun e=>hq' (by rw[e]; exact aI))]
    ·cases h
theorem Di {res:V} (h:Kf res=true):res.av.plain=true/\ ∀G,res.ok G:=by
 unfold Kf at h;split at h
 ·exact⟨rfl,fun _=>trivial⟩
 ·exact⟨rfl,fun _ x hx=>by cases hx⟩
 ·cases h
theorem Mq (hΘ:gC P Θ) (hY:mJ P Y) (hS:S.ok) {ops:Array Oper} {o:Oper} {os:List Oper} {Post:St->Prop} {g:FuncId} {caps:List Cl} {a:Kg} {us:List TypeId} {xs:List Operand} (ht:C3 Y S o=some (g,caps,a,us,xs)) {κ:TS->Option ρ} {r:ρ}
  (ih: ∀S3:TS,S3.ok->κ S3=some r->tF P ops os S3.st Post) (h:Gu Θ Y S g caps a us xs o.dst κ=some r):tF P ops (o::os) S.st Post:=by
 obtain⟨f,as,ts,x,t0,hop,hgd,has,hts,hx,hgk,hf⟩:=IE ht
 have hcal:callee S.st f=some (g,caps.map Cl.av):=by unfold callee;rw[eu];rcases hf with ⟨_,_,hf,rfl⟩|hf<;>(rw[hf]; rfl)
 have others: ∀ {S0:TS} (hS0:S0.ok) (hG:jd S.gh S0.gh) {K:List V1->List Cl->Option ρ},(tH Θ S0 us xs fun vs=>C1 (Mh S0 none) caps fun ks=>K vs ks)=some r->
   ∃vs ks,us.length=xs.length/\uP P S0.st us xs (caps.map Cl.av)=(vs++ks.map V1.cl).map V1.av/\K vs ks=some r:=by
  intro S0 hS0 hG K h;have hlen:=Am hΘ hS0 _ _ _ _ h;obtain⟨vs,h1,h⟩:=tL hΘ hS0 _ _ _ _ h
  have hcaps: ∀c∈caps,c.ok S0.gh:=by
   intro c hc;rcases hf with ⟨_,_,_,rfl⟩|hf
   ·cases hc
   ·have:=mG hS f;rw[hf] at this;exact Cl.ok_mono hG (this c hc)
  obtain⟨ks,h2,h⟩:=zb hS0 _ _ _ hcaps h;refine⟨vs,ks,hlen,?_,h⟩;unfold uP;rw[h1,h2,bS,bu];rfl
 have hxo:=mG hS x;cases a with
 |agg cs=>
  have hxv:S.opd x= .v (.agg cs):=by
   unfold Gt at hx;split at hx
   ·cases hx
   ·rename_i e;simp only[af,Kg.agg.injEq] at hx;rw[e,hx]
   ·cases hx
  rw[hxv] at hxo;unfold Gu at h;simp only at h;split at h
  ·rename_i ys L hga;obtain⟨hnd,h0⟩:=ef h;clear h;have hnd:L.Nodup:=Cf.1 hnd;obtain⟨g1,g2,g3,g4⟩:=ye cs ys L hga hxo
   have hd:=FO L S hnd (fun q hq=>by obtain⟨k,hk,hkq⟩:=aH hq;obtain⟨el,l,_,e⟩:=g3 k q (by rw[<-hkq]; exact ah hk);exact⟨_,e⟩)
   obtain⟨vs,ks,hlen,hargs,h⟩:=others (hd.ok hS) hd.le h0;obtain⟨res,out,k1,k2,h⟩:=hY _ _ _ _ _ h;have k1:=(k1.io g rfl hgk).getA;obtain⟨hns,h⟩:=ef h;obtain⟨hpl,hrok⟩:=Di hns;obtain⟨Sp,a1,a2,a3,a4,a5,a6,a7,a8,a9,h⟩:=IG L S out _ r hnd h;have hSp:Sp.ok:=⟨fun x hx=>V.ok_mono a9 (hS.env x (by rw[<-a1]; exact hx)),fun cs hcs c hc=>Cl.ok_mono a9 (hS.bx cs (by rw[<-a2]; exact hcs) c hc)⟩
   obtain⟨S3,m1,m2,_,h⟩:=nZ hSp (hrok _) h
   have hGave:CX S.st (L.map fun r=>⟨r,[]⟩) ((nw ys).map eL.tree):=J4 (by simp[g2]) hnd (fun k q hk=>by obtain⟨el,l,e1,e2⟩:=g3 k q hk;refine⟨el.width,l.map el.row,by rw[ap,e1]; rfl,?_⟩;show (fA S.gh q).map eL.tree=_;rw[e2];rfl)
   have hps: (L.map fun r=>(⟨r,[]⟩:eT)).length=(nw ys).length:=by rw[aD,g2]
   have hout: (out.map eL.tree).length=L.length:=by rw[aD,a6]
   refine tF.handG hop hgd has hlen hcal (J5 L) (fun w0 W bt w hI=>hI.dropL L) hGave (av0:= .agg ((vk ys 0).map Cl.av)) (fun w bt u hv=> ?_) (res:=res.av) (out:=out.map eL.tree) (by rw[<-hd.st,hargs,hps]; exact k1)
    (J6 hGave hout (by unfold TS.st; simp only[a1]) (by unfold TS.st; simp only[a2]) (by unfold TS.st; simp only[a2]) (by unfold TS.st; simp only[a5]) a3 a4 (fun k q hk=>by
      show (fA Sp.gh q).map eL.tree=_;rw[a7 k q hk,ap]) (fun q hq=>by
      show (fA Sp.gh q).map eL.tree=(fA S.gh q).map eL.tree;rw[a8 q hq])) hpl ⟨S3.st,m1,ih S3 m2 h⟩
   rw[eu,hxv] at hv;have hv:VR w bt (.agg (cs.map Cl.av)) u:=hv;cases hv with
   |agg hl ho hr=>
    rename_i us0;refine .agg (by rw[aD,sK,g1]; simpa using hl) ho (fun k c u hk hu=> ?_);rw[ap] at hk;simp only[ak] at hk;obtain⟨c',hc',rfl⟩:=hk
    have hkl:k<cs.length:=by have:=(ai.1 hc').1;rw[sK,g1] at this;exact this
    refine g4 w bt _ 0 (fun i q hi=> ?_) k cs[k] c' u (ah hkl) hc' (hr k _ u (by rw[ap,ah hkl]; rfl) hu)
    have hpi: (L.map fun r=>(⟨r,[]⟩:eT))[(⟨0+i,[]⟩:eT).r]? =some ⟨q,[]⟩:=by rw[ap];show (L[0+i]?).map _=_;rw[aV,hi];rfl
    have hpl2:=Aa hpi;refine⟨?_,?_,?_⟩
    ·show bt.β (HB _ _)=_;rw[hpl2];rfl
    ·show bt.κ (HB _ _)=_;rw[hpl2];rfl
    ·show 0+i< (L.map fun r=>(⟨r,[]⟩:eT)).length;rw[aD,aV];exact (ai.1 hi).1
  ·cases h
 |nest q i j sz lo len=>
  obtain⟨w0,hxv⟩: ∃w,S.opd x= .v (.cl (.own ⟨q,[(i,j)]⟩ sz lo len w)):=by
   unfold Gt at hx;split at hx
   ·rename_i w e;simp only[af,Kg.nest.injEq] at hx;obtain⟨rfl,rfl,rfl,rfl,rfl,rfl⟩:=hx;exact⟨_,e⟩
   ·cases hx
   ·cases hx
  rw[hxv] at hxo;unfold Gu at h;simp only at h;split at h
  ·rename_i t l hq;obtain⟨y,hy,h⟩:=aj.1 h;split at h
   ·rename_i el v hv;obtain⟨hsz,h0⟩:=ef h;have hsz:sz=el.width:=au hsz;clear h;subst hsz;obtain⟨hll,h1⟩:=fO h0;clear h0;obtain⟨rfl,rfl⟩:=hll;have hql:=uu hq;have hhole:jd S.gh (fK S.gh q (some ⟨t,l,some (i,j)⟩)):=jd.put hq rfl;obtain⟨vs,ks,hlen,hargs,h⟩:=others (S0:= { S with gh:=fK S.gh q (some ⟨t,l,some (i,j)⟩) }) (TS.ok_gh hS hhole) hhole h1;clear h1;obtain⟨res,out,k1,k2,h⟩:=hY _ _ _ _ _ h;have k1:=(k1.io g rfl hgk).get;split at h
    ·rename_i t' v' _;obtain⟨hc,h⟩:=ef h;simp only[ar,decide_eq_true_eq] at hc;obtain⟨rfl,hns⟩:=hc;obtain⟨hpl,hrok⟩:=Di hns;obtain⟨hvl,h⟩:=fO h;split at h
     ·rename_i z hz;have hG:jd S.gh (fK S.gh q (some ⟨t,l.set i z,none⟩)):=jd.put hq (by simp);obtain⟨S3,m1,m2,_,h⟩:=nZ (S:= { S with gh:=fK S.gh q (some ⟨t,l.set i z,none⟩) }) (TS.ok_gh hS hG) (hrok _) h
      have hrowy: (l.map t.row)[i]? =some ((t.flat y).map C.tree):=by rw[ap,hy];simp only[aB,t.row_flat]
      have hcell: ((t.flat y).map C.tree)[j]? =some (.sl t'.width (v.map t'.row)):=by rw[fZ] at hv;rw[ap,hv];rfl
      have hgq:S.st.gh q=some (.sl t.width (l.map t.row)):=by show (fA S.gh q).map eL.tree=_;rw[hq];rfl
      have hlook:S.st.look ⟨q,[(i,j)]⟩= .sl t'.width (v.map t'.row):=by unfold St.look;simp only[hgq,T.go,T.cell,aw,hrowy,aM,hcell]
      have hforget: ∀ (w0:World) (W:Nat->Prop) (bt:Bt) (w:World),fV w0 W bt S.st w->_:=fun w0 W bt w hI=>hI.forget hlook
      have hSm: ({ S with gh:=fK S.gh q (some ⟨t,l,some (i,j)⟩) }:TS).st=S.st.setAt ⟨q,[(i,j)]⟩ .dd:=by rw[Ai S _ hql];unfold St.setAt;simp only[hgq,aB];rfl
      have hSp: ({ S with gh:=fK S.gh q (some ⟨t,l.set i z,none⟩) }:TS).st=S.st.setAt ⟨q,[(i,j)]⟩ (.sl t'.width (v'.map t'.row)):=by
       rw[Ai S _ hql];unfold St.setAt;simp only[hgq,aB,T.put]
       congr 3
       show T.sl t.width ((l.set i z).map t.row)=_;rw[List.map_set,t.row_flat z,t.unflat_some _ _ hz,it,List.map_set];simp only[aw,hrowy,aM];rfl
      rw[hSp] at m1;refine tF.handG hop hgd has hlen hcal (Sm:=S.st.setAt ⟨q,[(i,j)]⟩ .dd) (ps:= [⟨q,[(i,j)]⟩]) ?_ (fun w0 W bt w hI=>(hforget w0 W bt w hI).1) (Nu hlook) (av0:= .own ⟨0,[]⟩ t'.width 0 v.length) (fun w bt u hv=> ?_) (res:=res.av) (out:= [.sl t'.width (v'.map t'.row)]) (by rw[<-hSm,hargs]; exact k1) (Nv hlook (by simpa using hvl)) hpl ⟨S3.st,m1,ih S3 m2 h⟩
      ·refine⟨rfl,rfl,rfl,fun p s rs hp=> ?_⟩;rw[rx] at hp;by_cases hpr:p.r=q
       ·rw[if_pos hpr,hgq] at hp;simp only at hp
        rcases T.put_spec .dd [(i,j)] (.sl t.width (l.map t.row)) (.inl (by have:=hlook;unfold St.look at this;simp only[hgq] at this;rw[this];simp)) p.l s rs hp with ⟨m',hm,hgo⟩| ⟨rs0,e1,e2,e3,e4⟩
        ·rw[T.dd_go] at hgo; cases hgo
        ·refine⟨fun p' hp' hu=> ?_,rs0,by unfold St.look; rw[hpr,hgq]; exact e1⟩;rw[ax.1 hp'] at hu;obtain⟨_,m,b⟩:=hu;exact e3 m b.symm
       ·rw[if_neg hpr] at hp;refine⟨fun p' hp' hu=> ?_,rs,hp⟩;rw[ax.1 hp'] at hu;exact hpr hu.1
      ·rw[eu,hxv] at hv;have hv:VR w bt (.own ⟨q,[(i,j)]⟩ t'.width 0 v.length) u:=hv;cases hv with
       |own hp hc hk ha=>exact .own da hc hk ha
     ·cases h
    ·cases h
   ·cases h
  ·cases h
theorem N5 {el:Ty} (hw:el.width=1) (hf:el.flatB=true) {z:el.D} (hz:el.unflat el.zcs=some z): ∃zv,el.zvs= [zv] /\qT zv=true/\el.row z= [.sc zv] :=by
 have hr:el.row z=el.zcs.map C.tree:=by rw[el.row_flat,el.unflat_some _ _ hz]
 rw[hr];clear hr hz z;cases el with
 |i k=>exact⟨_,rfl,rfl,rfl⟩
 |b=>exact⟨_,rfl,rfl,rfl⟩
 |s=>exact⟨_,rfl,rfl,rfl⟩
 |st n=>cases n<;>first |exact⟨_,rfl,rfl,rfl⟩| (exfalso; revert hw; decide)| (exfalso; revert hf; decide)
 |ls t=>cases hf
theorem Mr (hΘ:gC P Θ) (hS:S.ok) {ops:Array Oper} {o:Oper} {os:List Oper} {Post:St->Prop} {t:TypeId} {q sz lo len:Nat} (ht:Gv S o=some (t,q,sz,lo,len)) {κ:TS->Option ρ} {r:ρ}
  (ih: ∀S3:TS,S3.ok->κ S3=some r->tF P ops os S3.st Post) (h:Kh Θ S t q sz lo len o.dst κ=some r):tF P ops (o::os) S.st Post:=by
 unfold Gv at ht;split at ht
 ·rename_i as ts hop;split at ht
  ·cases ht
  ·rename_i hgd;split at ht
   ·rename_i x t' e1 e2;split at ht
    ·rename_i r' sz' lo' len' w hx;simp only[af,an] at ht;obtain⟨rfl,rfl,rfl,rfl,rfl⟩:=ht;have e1:as= #[x] :=by apply Array.ext'; simpa using e1
     have e2:ts= #[t'] :=by apply Array.ext'; simpa using e2
     subst e1 e2;unfold Kh at h;split at h
     ·rename_i ti hti;split at h
      ·rename_i el l hq;obtain⟨hc,h0⟩:=ef h;simp only[ar,decide_eq_true_eq] at hc;obtain⟨⟨⟨hty,hw⟩,hsz⟩,hfl⟩:=hc;have hw:el.width=1:=au hw;have hsz:sz'=1:=au hsz;split at h0
       ·rename_i z hz;unfold dU at h0;split at h0
        ·rename_i hle;obtain⟨elT',g1,g2,g3,g4,g5,g6⟩:=(hΘ _ _ hti).el el hty
         have hql:r'<S.gh.length:=by
          rcases ce r' S.gh.length with h'|h'
          ·exact h'
          ·rw[wK h'] at hq; cases hq
         have hG:jd S.gh (fK S.gh r' (some ⟨el,l.take lo'++List.replicate len' z++l.drop (lo'+len'),none⟩)):=jd.put hq (by simp; omega);obtain⟨S3,k1,k2,_,h⟩:=nZ (v:= .tup []) (TS.ok_gh hS hG) (fun x hx=>by cases hx) h0;rw[Ai S _ hql] at k1;obtain⟨zv,hzv,hsc,hrow⟩:=N5 hw hfl hz
         have htr:S.st.gh r'=some (.sl 1 (l.map el.row)):=by show (fA S.gh r').map eL.tree=_;rw[hq];show some (T.sl el.width (l.map el.row))=_;rw[hw]
         have hxv:opd S.st x= .own ⟨r',[]⟩ 1 lo' len':=by rw[eu,hx,<-hsz]; rfl
         refine tF.clear hop hgd g1 (by rw[g6,hzv]) hsc hxv htr (by simpa using hle) ⟨S3.st,?_,ih S3 k2 h⟩;rw[<-k1]
         congr 1
         show _=({ S.st with gh:=eV S.st.gh r' (some (T.sl el.width ((l.take lo'++List.replicate len' z++l.drop (lo'+len')).map el.row))) }:St);rw[hw];simp only[bS,bO,bR,dR,hrow]
        ·cases h0
       ·cases h0
      ·cases h
     ·cases h
    ·cases ht
   ·cases ht
 ·cases ht
theorem PN (hΘ:gC P Θ) (hY:mJ P Y) {ops:Array Oper}: ∀ (os:List Oper) (S:TS) (κ:TS->Option ρ) (r:ρ),(∀o∈os,rB P o=true)->S.ok->BB Θ Y ops.toList os S κ=some r->
  tF P ops os S.st (fun S'=> ∃S1:TS,S'=S1.st/\S1.ok/\κ S1=some r):=by
 intro os
 induction os with
 |nil=>intro S κ r _ hS h; exact tF.nil ⟨S,rfl,hS,h⟩
 |cons o os ih=>
  intro S κ r hok hS h;unfold BB at h;cases hn:Cj o with
  |some tx=>
   obtain⟨t,x⟩:=tx;rw[hn] at h;simp only at h;obtain⟨hs,h⟩:=ef h;obtain⟨⟨t',ho⟩,hg⟩:=GA hn;unfold Sd at hs;split at hs
   ·rename_i ti hti;split at hs
    ·rename_i e he;obtain⟨el,hel,_⟩:=(hΘ t ti hti).el e he;split at h
     ·rename_i t1 l hx
      have way: ∀ (b:Bool),(tJ S o.dst (Im b) fun S3=>BB Θ Y ops.toList os S3 κ)=some r-> ∃S1,S.st.put o.dst (.sc (.bool b))=some S1/\tF P ops os S1 (fun S'=> ∃S1:TS,S'=S1.st/\S1.ok/\κ S1=some r):=by intro b hb;obtain⟨S3,g5,g6,_,h⟩:=nZ (v:=Im b) hS trivial hb;exact⟨S3.st,g5,ih S3 κ r (fun x hx=>hok x (aE _ hx)) g6 h⟩
      have hxv:opd S.st x= .ro t1.width (l.map t1.row):=by rw[eu,hx]; rfl
      cases l with
      |nil=>obtain⟨a1,a2⟩:=N2 (show Px _ _ none=some r from h);exact tF.eqnil hel ho hg hxv (fun _=>way true a1) (way false a2)
      |cons y l=>exact tF.eqnil hel ho hg hxv (fun h=>by cases h) (way false h)
     ·cases h
    ·cases hs
   ·cases hs
  |none=>
  rw[hn] at h;simp only at h;cases hcl:Gv S o with
  |some z=>obtain⟨t,q,sz,lo,len⟩:=z;rw[hcl] at h;exact Mr hΘ hS hcl (fun S3 hS3 h3=>ih S3 κ r (fun x hx=>hok x (aE _ hx)) hS3 h3) h
  |none=>
  rw[hcl] at h;simp only at h;cases hh:Il Y S o with
  |some z=>obtain⟨k,g,caps,q,sz,us,xs⟩:=z;rw[hh] at h;exact N4 hΘ hY hS hh (fun S3 hS3 h3=>ih S3 κ r (fun x hx=>hok x (aE _ hx)) hS3 h3) h
  |none=>
  rw[hh] at h;simp only at h;cases hh':C3 Y S o with
  |some z=>obtain⟨g,caps,a,us,xs⟩:=z;rw[hh'] at h;exact Mq hΘ hY hS hh' (fun S3 hS3 h3=>ih S3 κ r (fun x hx=>hok x (aE _ hx)) hS3 h3) h
  |none=>
  rw[hh'] at h;simp only at h;obtain⟨b,S1,h1,h2,h3,h4,h⟩:=IC hS h;refine tF.cons (b:=b) (hok o aI) h1 ?_;cases b with
  |true=>simp only[cond_true] at h;obtain⟨D,v,S2,g1,g2,g3,g4,h⟩:=IB hΘ hY h3 h;obtain⟨S3,g5,g6,_,h⟩:=nZ g3 g4 h;rw[if_pos rfl];refine⟨D,S3.st,g1,?_,ih S3 κ r (fun x hx=>hok x (aE _ hx)) g6 h⟩;unfold one;rw[<-h2,g2];exact g5
  |false=>simp only[cond_false] at h;obtain⟨S3,g5,g6,_,h⟩:=nZ (v:= .tup []) h3 (fun x hx=>by cases hx) h;rw[if_neg (by simp)];exact⟨S3.st,by rw[<-h2]; exact g5,ih S3 κ r (fun x hx=>hok x (aE _ hx)) g6 h⟩
theorem PO {D D':sE} {X:St} {o:Oper} (h:D o.dst=D' o.dst):eh D P X o=eh D' P X o:=by
 obtain⟨dst,op,ty,pos,aft,gd⟩:=o;cases op with
 |call c=>
  obtain⟨cl,as,ts⟩:=c;cases cl with
  |value f=>simp only[eh]; simp only at h; rw[h]
  |invoke a b=>rfl
  |builtin b=>cases b<;>rfl
 |unOp op t x=>cases op<;>rfl
 |binOp op t x y t'=>cases op<;>rfl
 |makeFunc fn first caps=>cases fn<;>rfl
 |slice t x lo hi mx=>cases mx<;>rfl
 | _=>rfl
theorem Lx {D D':sE} {X:St} {o:Oper} (h:D o.dst=D' o.dst):gO D P X o=gO D' P X o:=by
 obtain⟨dst,op,ty,pos,aft,gd⟩:=o;cases op with
 |call c=>
  obtain⟨cl,as,ts⟩:=c;cases cl with
  |value f=>simp only[gO]; simp only at h; rw[h]
  |invoke a b=>rfl
  |builtin b=>cases b<;>rfl
 | _=>rfl
theorem Sk {D D':sE} {ops:Array Oper}: ∀ (os:List Oper) (X:St),(∀o∈os,D o.dst=D' o.dst)->Cv D P ops os X=Cv D' P ops os X:=by
 intro os
 induction os with
 |nil=>intro X _; rfl
 |cons o os ih=>intro X h;have h1:=h o aI;have h2: ∀X,Cv D P ops os X=Cv D' P ops os X:=fun X=>ih X (fun x hx=>h x (aE _ hx));simp only[Cv,h2,PO h1,Lx h1]
theorem Dj: ∀ (l m:List (Option eL)) (n:Nat),gone n l (l++m)= []
 | [],m,n=>by cases m<;>rfl
 |x::l,m,n=>by
  cases x with
  |none=>exact Dj l m (n+1)
  |some y=>exact Dj l m (n+1)
theorem Km (l:List eL):NE (l.map some)=l.map eL.tree:=by unfold NE;rw[bu];rfl
theorem PP (S:TS) (out:List eL):S.st.make ⟨S.st.ng,out.map eL.tree,[]⟩=({ S with gh:=S.gh++out.map some }:TS).st:=by
 rw[yc S .dead out];unfold St.make oJ;simp only[aD]
 congr 1
theorem sJ.make {S1:TS} {L:List Nat} (h:sJ S S1 L) (x:eL):S.st.make ⟨S.st.ng,[x.tree],ns L⟩=({ S1 with gh:=S1.gh++ [some x] }:TS).st:=by
 rw[C7,h.st,h.len];unfold St.make dropL;simp only[ch,nY]
 congr 1
 funext r
 unfold eV;by_cases hr:r=S.gh.length
 ·subst hr;rw[if_pos rfl,if_pos ⟨ay _,cU _⟩];simp[TS.st]
 ·rw[if_neg hr,if_neg (by show ¬ (S.gh.length<=r/\r<S.gh.length+1); omega)]
theorem Ly: ∀ (l m x:List (Option eL)) (n:Nat) (L:List Nat),m.length=l.length->(∀k,k<l.length->(((∃y,l[k]? =some (some y))/\m[k]? =some none)↔(n+k)∈L))->gone n l (m++x)=(List.range' n l.length).filter fun r=>L.contains r
 | [],m,x,n,L,hl,_=>by have :m= [] :=bz hl;subst this;cases x<;>rfl
 |a::l,[],x,n,L,hl,_=>by cases hl
 |a::l,b::m,x,n,L,hl,h=>by
  have h0:=h 0 (Nat.zero_lt_succ _)
  have ih:=Ly l m x (n+1) L (by simpa using hl) (fun k hk=>by have:=h (k+1) (by simpa using hk);simp only[ca] at this;rw[this,show n+1+k=n+(k+1) by omega])
  simp only[aG,af,cd] at h0;rw[ba,cj,List.filter_cons];cases a with
  |none=>
   have : ¬n∈L:=fun hn=>by obtain⟨⟨y,hy⟩,_⟩:=h0.2 hn;cases hy
   rw[if_neg (by simpa using this),<-ih];cases b<;>rfl
  |some y=>
   cases b with
   |none=>have :n∈L:=h0.1 ⟨⟨y,rfl⟩,rfl⟩;rw[if_pos (by simpa using this),<-ih];rfl
   |some z=>
    have : ¬n∈L:=fun hn=>by have:=(h0.2 hn).2;cases this
    rw[if_neg (by simpa using this),<-ih];rfl
theorem GB {L:List Nat} {N:Nat} (h: ∀r∈L,r<N):ns L=(List.range N).filter fun r=>L.contains r:=by
 have top:F5 L<=N:=by
  induction L with
  |nil=>exact aF _
  |cons a l ih=>unfold F5;have h1:=h a aI;have h2:=ih (fun r hr=>h r (aE _ hr));omega
 unfold ns;obtain⟨k,rfl⟩: ∃k,N=F5 L+k:=⟨N-F5 L,by omega⟩
 rw[co,co,<-List.range'_append_1,bL]
 have : (List.range' (0+F5 L) k).filter (fun r=>L.contains r)= [] :=by rw[List.filter_eq_nil_iff];intro r hr hc;have h1:=Gh (l:=L) (r:=r) (by simpa using hc);have h2:=(List.mem_range'_1.1 hr).1;omega
 rw[this,bw]
theorem sJ.gone {S1:TS} {L:List Nat} (h:sJ S S1 L) (x:List (Option eL)):gone 0 S.gh (S1.gh++x)=ns L:=by
 rw[GB (N:=S.gh.length) (fun r hr=>by obtain⟨tr,ht⟩:=h.was r hr;exact uu ht),co]
 refine Ly _ _ _ _ _ h.len (fun k hk=> ?_);rw[aV];have g:=h.gh k;unfold fA at g;rw[fZ,fZ] at g;have hk1:k<S1.gh.length:=by rw[h.len]; exact hk
 rw[ah hk,ah hk1] at g ⊢;simp only[aM,af] at g ⊢;constructor
 ·rintro⟨⟨y,hy⟩,hn⟩
  rw[hn,hy] at g;split at g
  ·rename_i hc;simpa using hc
  ·cases g
 ·intro hL;obtain⟨tr,ht⟩:=h.was k hL;unfold fA at ht;rw[fZ,ah hk] at ht;simp only[aM] at ht;rw[if_pos (by simpa using hL)] at g;exact⟨⟨tr,ht⟩,g⟩
theorem wM {G:List (Option eL)} {r j:Nat} {c:Cl} (h:c.ok G) (hr:G.length<=r):qM r j c=c:=by
 have hb: ∀p:eT,p.r<G.length->Nat.beq p.r r=false:=fun p hp=>by
  cases hx:Nat.beq p.r r with
  |false=>rfl
  |true=>have:=au hx;omega
 cases c with
 |own p sz lo len w=>simp only[qM];rw[hb p h.1];split<;>rfl
 |ptrT p sz a b=>simp only[qM];rw[hb p h];split<;>rfl
 | _=>rfl
theorem rE {α:Type} {f:α->α}: ∀ {l:List α},(∀x∈l,f x=x)->l.map f=l
 | [],_=>rfl
 |a::l,h=>by rw[aQ,h a aI,rE fun x hx=>h x (aE _ hx)]
theorem IH (hS:S.ok) {r j:Nat} (hr:S.gh.length<=r):S.kill r j=S:=by
 have v1: ∀v:V1,v.ok S.gh->tc r j v=v:=by
  intro v hv;cases v with
  |cl c=>simp only[tc]; rw[wM hv hr]
  |agg cs=>simp only[tc]; rw[rE fun c hc=>wM (hv c hc) hr]
  |fn f cs=>simp only[tc]; rw[rE fun c hc=>wM (hv c hc) hr]
 have e1:S.env.map (fun x=>(x.1,FH r j x.2))=S.env:=by
  refine rE (fun x hx=> ?_);have hx:=hS.env x hx;obtain⟨t,v⟩:=x;cases v with
  |v x=>simp only[FH]; rw[v1 x hx]
  |tup l=>simp only[FH]; rw[rE fun c hc=>v1 c (hx c hc)]
 have e2:S.bx.map (fun cs=>cs.map (qM r j))=S.bx:=by exact rE (fun cs hcs=>rE (fun c hc=>wM (hS.bx cs hcs c hc) hr))
 unfold TS.kill;rw[e1,e2]
theorem PQ (hS:S.ok) {S1:TS} {no j:Nat} (hno:S.gh.length<=no) {et:Option Ty} {c:Cl} {x:C} (hc:c.ok S.gh) (h:jF S no j et c=some (x,S1)):
  ∃L,sJ S S1 L/\L.Nodup/\my S.st (De et) c.av=some (x.tree,L):=by
 have wp: ∀t:Ty,¬De (some t)=0:=fun t e=>by have:=t.width_pos;have e':t.width=0:=e;omega
 cases c with
 |c y=>
  cases y with
  |sc v=>
   cases et with
   |none=>simp only[jF,af,an] at h;obtain⟨rfl,rfl⟩:=h;exact⟨[],sJ.refl _,dM,rfl⟩
   |some t=>simp[jF] at h
  |ls t l=>cases et<;>simp[jF] at h
 |em=>
  cases et with
  |none=>simp[jF] at h
  |some t=>simp only[jF,af,an] at h;obtain⟨rfl,rfl⟩:=h;rw[IH hS hno];refine⟨[],sJ.refl _,dM,?_⟩;unfold my;rw[if_neg (wp t)];rfl
 |own p sz lo len wh=>
  obtain⟨pr,pl⟩:=p;cases wh with
  |false=>cases et<;>simp[jF] at h
  |true=>
   cases et with
   |none=>simp[jF] at h
   |some t=>
    cases pl with
    |cons a l=>simp[jF] at h
    |nil=>
     simp only[jF] at h;obtain⟨h1,h⟩:=ef h;simp only[ar,b7] at h1;obtain⟨⟨h1,h2⟩,h3⟩:=h1;have h1:t.width=sz:=au h1;have h2:S.fz<=pr:=az h2;split at h
     ·rename_i tr htr;split at h
      ·rename_i hh;obtain⟨h4,h⟩:=ef h;have h4':tr.t.width=sz:=au h4;simp only[af,an] at h;obtain⟨rfl,rfl⟩:=h;have hg:=eL.look htr;obtain⟨tt,l,hole⟩:=tr;simp only at hh h4';subst hh;obtain⟨e1,e2,e3⟩:=vy hc (fun _=>hg);have hd:=sJ.one hg;rw[IH (hd.ok hS) (by rw[hd.len]; exact hno)];refine⟨[pr],hd,by simp,?_⟩;unfold my;rw[if_neg (wp t)];simp only[Cl.av]
       have hrows:S.st.rows ⟨pr,[]⟩ sz=some (l.map tt.row):=by rw[<-h4'];refine mn ?_;unfold St.look;show (match (fA S.gh pr).map eL.tree with |some t=>t.go [] |none=> .dd)=_;rw[hg];rfl
       rw[if_pos ⟨trivial,h1.symm,e2,h2⟩,hrows];simp only[ae,aD];rw[if_pos (by omega),e3];have e4: (l.map tt.row).take l.length=l.map tt.row:=bf (by simp);rw[e4];simp only[C.tree,h4']
      ·cases h
     ·cases h
 |pro cs=>cases et<;>simp[jF] at h
 |ptrB n j=>cases et<;>simp[jF] at h
 |ptrT p sz a b=>cases et<;>simp[jF] at h
 |dead=>cases et<;>simp[jF] at h
theorem Kn {X Y:St} (hfz:Y.fz=X.fz) (hg: ∀r t,Y.gh r=some t->X.gh r=some t) {s:Nat} {v:AV} {y:T×List Nat} (h:my Y s v=some y):my X s v=some y:=by
 unfold my at h ⊢;split at h
 ·rename_i h0; rw[if_pos h0]; exact h
 ·rename_i h0;rw[if_neg h0];split at h
  ·exact h
  ·rename_i q s' lo len;split at h
   ·rename_i hc;rw[hfz] at hc;rw[if_pos hc];simp only[aj] at h ⊢;obtain⟨rows,hr,h⟩:=h;refine⟨rows,?_,h⟩;have hl:=kH hr;unfold St.rows
    have :X.look q= .sl s' rows:=by
     unfold St.look at hl ⊢;cases hq:Y.gh q.r with
     |none=>rw[hq] at hl; cases hl
     |some t=>rw[hq] at hl; rw[hg _ _ hq]; exact hl
    rw[this];simp
   ·cases h
  ·cases h
theorem vA {X Y:St} (hfz:Y.fz=X.fz) (hg: ∀r t,Y.gh r=some t->X.gh r=some t): ∀ {ss:List Nat} {vs:List AV} {y:List T×List Nat},jo Y ss vs=some y->jo X ss vs=some y
 |s::ss,v::vs,y,h=>by unfold jo at h ⊢;simp only[aj,ak] at h ⊢;obtain⟨a,h1,b,h2,h3⟩:=h;exact⟨a,Kn hfz hg h1,b,vA hfz hg h2,h3⟩
 | [],[],_,h=>h
 | [],_::_,_,h=>h
 | _::_,[],_,h=>h
theorem Bc {X Y:St} (hfz:Y.fz=X.fz) (hg: ∀r t,Y.gh r=some t->X.gh r=some t) {ss:List Nat}: ∀ {vss:List (List AV)} {y:List (List T)×List Nat},ii Y ss vss=some y->ii X ss vss=some y
 | [],_,h=>h
 |vs::vss,y,h=>by unfold ii at h ⊢;simp only[aj,ak] at h ⊢;obtain⟨a,h1,b,h2,h3⟩:=h;exact⟨a,vA hfz hg h1,b,Bc hfz hg h2,h3⟩
theorem sJ.less {S1:TS} {L:List Nat} (h:sJ S S1 L): ∀r t,S1.st.gh r=some t->S.st.gh r=some t:=by
 intro r t ht;rw[h.st] at ht;unfold dropL at ht;simp only at ht;split at ht
 ·cases ht
 ·exact ht
theorem PR (no:Nat): ∀ (ets:List (Option Ty)) (cs:List Cl) (j:Nat) (S S1:TS) (xs:List C),S.ok->S.gh.length<=no->(∀c∈cs,c.ok S.gh)->qN no j S ets cs=some (xs,S1)->
  ∃L,sJ S S1 L/\L.Nodup/\jo S.st (ets.map De) (cs.map Cl.av)=some (xs.map C.tree,L):=by
 intro ets
 induction ets with
 |nil=>
  intro cs j S S1 xs hS hno hcs h;cases cs with
  |nil=>simp only[qN,af,an] at h;obtain⟨rfl,rfl⟩:=h;exact⟨[],sJ.refl _,dM,rfl⟩
  |cons c cs=>simp[qN] at h
 |cons et ets ih=>
  intro cs j S S1 xs hS hno hcs h;cases cs with
  |nil=>simp[qN] at h
  |cons c cs=>
   simp only[qN] at h;split at h
   ·rename_i x S2 hx;obtain⟨L1,d1,n1,e1⟩:=PQ hS hno (hcs c aI) hx;split at h
    ·rename_i xs' S3 hxs;simp only[af,an] at h;obtain⟨rfl,rfl⟩:=h;obtain⟨L2,d2,n2,e2⟩:=ih cs (j+1) S2 S3 xs' (d1.ok hS) (by rw[d1.len]; exact hno) (fun y hy=>Cl.ok_mono d1.le (hcs y (aE _ hy))) hxs;refine⟨L1++L2,d1.trans d2,d1.apart d2 n1 n2,?_⟩;simp only[aQ,jo];rw[e1];simp only[ae];rw[vA (X:=S.st) (Y:=S2.st) d1.fz d1.less e2];rfl
    ·cases h
   ·cases h
theorem N6 (el:Ty): ∀ (vs:List V) (S S1:TS) (l:List el.D),S.ok->(∀v∈vs,v.ok S.gh)->td el S vs=some (l,S1)->
  ∃L,sJ S S1 L/\L.Nodup/\ii S.st el.shs (vs.map fun v=>v.av.cells)=some (l.map el.row,L)/\l.length=vs.length/\ ∀v∈vs,v.av.cells.length=el.width/\v.av.isDead=false:=by
 intro vs
 induction vs with
 |nil=>intro S S1 l hS hv h;simp only[td,af,an] at h;obtain⟨rfl,rfl⟩:=h;exact⟨[],sJ.refl _,dM,rfl,rfl,fun v hv=>by cases hv⟩
 |cons v vs ih=>
  intro S S1 l hS hv h;cases v with
  |tup x=>simp[td] at h
  |v x=>
   have hx:=hv (.v x) aI;simp only[td] at h;split at h
   ·rename_i ws S2 hw
    have hcells: ∀c∈x.cells,c.ok S.gh:=by
     intro c hc;cases x with
     |cl y=>rw[ax.1 hc]; exact hx
     |agg cs=>exact hx c hc
     |fn f cs=>rw[ax.1 hc]; trivial
    obtain⟨L1,d1,n1,e1⟩:=PR _ _ _ _ _ _ _ hS (ay _) hcells hw
    have hw':el.csh.length=x.cells.length/\ ∀c∈x.cells,c≠ .dead:=by obtain⟨_,m2,_,m4,_⟩:=Df S.gh.length 0 0 0 el.csh x.cells 0 S S2 ws [x.cells.map fun c=>T.ofSc c.av] (x.cells.map fun c=>T.ofSc c.av) hS hcells hw rfl (by simp) (fun k c hk=>by rw[aV,ap,hk]; rfl);exact⟨m2,m4⟩
    split at h
    ·rename_i y ys S3 hy hys;simp only[af,an] at h;obtain⟨rfl,rfl⟩:=h;obtain⟨L2,d2,n2,e2,e3,e4⟩:=ih S2 S3 ys (d1.ok hS) (fun u hu=>V.ok_mono d1.le (hv u (aE _ hu))) hys
     have hsh:el.shs=el.csh.map De:=by unfold Ty.shs;refine aJ fun c _=> ?_;cases c<;>rfl
     have hav: (V.v x).av.cells=x.cells.map Cl.av:=by
      cases x with
      |cl c=>
       simp only[V.av,V1.av,V1.cells,aQ,ck];cases c with
       |c y=>cases y<;>rfl
       | _=>rfl
      |agg cs=>rfl
      |fn f cs=>exact absurd rfl (hw'.2 .dead (ax.2 rfl))
     refine⟨L1++L2,d1.trans d2,d1.apart d2 n1 n2,?_,by simp[e3],fun u hu=> ?_⟩
     ·simp only[aQ,ii];rw[hav,hsh,e1];simp only[ae];rw[<-hsh,Bc (X:=S.st) (Y:=S2.st) d1.fz d1.less e2];simp only[aB];rw[el.row_flat,el.unflat_some _ _ hy]
     ·rcases aR.1 hu with rfl|hu
      ·refine⟨?_,?_⟩
       ·rw[hav,aD,<-hw'.1];have:=yd el;unfold Ty.shs at this;simpa using this
       ·cases x with
        |cl c=>
         have:=hw'.2 c (ax.2 rfl);cases c with
         |c y=>cases y<;>rfl
         |dead=>exact absurd rfl this
         | _=>rfl
        |agg cs=>rfl
        |fn f cs=>rfl
      ·exact e4 u hu
    ·cases h
   ·cases h
theorem N7 (hΘ:gC P Θ) {t:TypeId} (h:Tj Θ t=true): ∃ti el elT',nv Θ t=some ti/\ti.ty= .ls el/\w6 P t=some elT'/\P.cellsOf elT'=el.width/\P.bytesOf elT'=ti.el/\0<ti.el/\pn P 9 elT'=el.shs/\zO P elT'=some el.zvs:=by
 unfold Tj at h;split at h
 ·rename_i ti hti;split at h
  ·rename_i el he;obtain⟨elT',g⟩:=(hΘ _ _ hti).el el he;exact⟨ti,el,elT',hti,he,g⟩
  ·cases h
 ·cases h
theorem PS {el:Ty} {v:Cl} (hv:v.ok S.gh) {κ:List el.D->TS->Option ρ} {r:ρ} (h:NB S el v κ=some r):
  ∃more L S1,sJ S S1 L/\iH S.st el.width el.flatB v.av=some (more.map el.row,L)/\κ more S1=some r:=by
 unfold NB at h;split at h
 ·exact⟨[],[],S,sJ.refl _,rfl,h⟩
 ·rename_i t l;obtain⟨h1,h⟩:=ef h;split at h
  ·rename_i l' hl;obtain⟨e,hl⟩:=iu hl;subst e;simp only at hl;subst hl;refine⟨l,[],S,sJ.refl _,?_,h⟩;simp only[Cl.av,C.av,iH];rw[if_pos ⟨trivial,wL h1 l⟩]
  ·cases h
 ·rename_i p sz lo len w;obtain⟨h0,h⟩:=ef h;have h0:el.width=sz:=au h0;cases hfl:el.flatB with
  |true=>
   rw[hfl] at h;simp only[cond_true] at h;obtain⟨t,l,h1,h2,h⟩:=gY h;split at h
   ·rename_i l' hl;obtain⟨e,hl⟩:=iu hl;subst e;simp only at hl;subst hl
    have src: ∀ (lo len:Nat),lo+len<=l.length->iH S.st t.width true (.own p sz lo len)=some (((l.drop lo).take len).map t.row,[]):=by intro lo len hle;simp only[iH];rw[if_pos h0.symm,mn h1];simp only[ae,aD];rw[if_neg (by simp),if_pos ⟨hle,by rw[<-bR,<-bO]; exact wL hfl _⟩];simp[bO,bR]
    cases w with
    |true=>obtain⟨e1,e2,e3⟩:=vy hv h2;refine⟨l,[],S,sJ.refl _,?_,h⟩;have:=src lo len (by omega);rw[e2,e3,bJ,aX] at this;simp only[Cl.av];rw[e2,e3];exact this
    |false=>simp only[cond_false] at h;obtain⟨h3,h⟩:=fO h;exact⟨_,[],S,sJ.refl _,src lo len h3,h⟩
   ·cases h
  |false=>
   rw[hfl] at h;simp only[cond_false] at h;split at h
   ·rename_i hpl;obtain⟨h1,h'⟩:=ef h;clear h;simp only[ar] at h1;obtain⟨rfl,hfz⟩:=h1;have hfz:S.fz<=p.r:=az hfz;obtain⟨t,l,g1,g2,h⟩:=gY h';split at h
    ·rename_i l' hl;obtain⟨e,hl⟩:=iu hl;subst e;simp only at hl;subst hl;obtain⟨e1,e2,e3⟩:=vy hv g2;refine⟨l,[p.r],_,sJ.one (g2 e1),?_,h⟩;simp only[Cl.av,iH];rw[if_pos h0.symm,mn g1];simp only[ae,aD];rw[if_pos ⟨trivial,e1,e2,e3,hfz⟩]
    ·cases h
   ·cases h
 ·cases h
theorem N8 {el:Ty} {v:Cl} (hv:v.ok S.gh) (hroot:Ll (.v (.cl v))=true) {more:List el.D} {κ:List el.D->TS->Option ρ} {r:ρ} (h:Ik S el v more κ=some r):
  ∃ (l0:List el.D) (cons:List Nat) (S':TS),oq S.st el.width v.av=some (l0.map el.row,cons)/\sJ S S' cons/\κ (l0++more) S'=some r:=by
 unfold Ik at h;split at h
 ·exact⟨[],[],S,rfl,sJ.refl _,h⟩
 ·rename_i p sz lo len w;obtain⟨pr,pl⟩:=p;cases pl with
  |cons a l=>cases hroot
  |nil=>
   obtain⟨h0,h'⟩:=ef h;clear h;simp only[ar] at h0;have hfz:S.fz<=pr:=az h0.1;have hsz:el.width=sz:=au h0.2;simp only at h';obtain⟨t,l,h1,h2,h⟩:=gY h';split at h
   ·rename_i l' hl;obtain⟨e,hl⟩:=iu hl;subst e;simp only at hl;subst hl
    have base: ∀ (len:Nat),¬l.length<len->oq S.st t.width (.own ⟨pr,[]⟩ sz 0 len)=some ((l.take len).map t.row,[pr]):=by intro len hlen;simp only[oq];rw[if_pos ⟨hsz.symm,trivial,trivial,hfz⟩,mn h1];simp only[ae,aD];rw[if_neg hlen,bO]
    cases w with
    |true=>obtain⟨e1,e2,e3⟩:=vy hv h2;refine⟨l,[pr],_,?_,sJ.one (h2 rfl),h⟩;have:=base l.length (by omega);rw[aX] at this;simp only[Cl.av];rw[e2,e3];exact this
    |false=>simp only[cond_false] at h;obtain⟨h3,h⟩:=fO h;obtain⟨h4,h⟩:=Af h;refine⟨l.take len,[pr],_,?_,sJ.one (h2 rfl),h⟩;simp only[Cl.av];rw[h3];exact base len h4
   ·cases h
 ·cases h
theorem PT (hΘ:gC P Θ) (hY:mJ P Y) (hS:S.ok) {o:Oper} (hn:ku o=true) (hf:Sf Θ o=true) (hb:QM S o=true) {κ:V->TS->Option ρ} {r:ρ} (h:yY Θ Y S o κ=some r):
  ∃D v0 v adds cons S',oL P D/\gO D P S.st o=some (v0,adds,cons)/\oo S.st.ng v0=V.av v/\S.st.make ⟨S.st.ng,adds,cons⟩=TS.st S'/\Ae S S'=⟨S.st.ng,adds,cons⟩/\S'.ok/\v.ok S'.gh/\κ v S'=some r:=by
 obtain⟨dst,op,ty,pos,aft,gd⟩:=o;cases op with
 |buildSlice t len parts=>
  obtain⟨ti,el,elT',hti,he,g1,g2,g3,g4,g5,g6⟩:=N7 hΘ hf;unfold yY at h;simp only[hti,he] at h;obtain⟨hb',h'⟩:=ef h;clear h
  have hnr: ((parts.toList.map fun x=>S.opd x.2).any C2)=false:=by have hb: (!(parts.toList.map fun x=>S.opd x.2).any C2)=true:=hb;simpa using hb
  rw[hnr] at h';simp only[cond_false] at h';split at h'
  ·rename_i l S1 hp
   have hvok: ∀v∈parts.toList.map (fun x=>S.opd x.2),v.ok S.gh:=fun v hv=>by obtain⟨y,_,rfl⟩:=aL.1 hv;exact mG hS _
   obtain⟨L,d,hnd,m1,m2,m3⟩:=N6 el _ S S1 l hS hvok hp;simp only[ar] at hb';have hb1:len*el.width<=1048576:=az hb'.1;have hb2:=Gy hb'.2
   have hlen:l.length=len:=by rw[m2];have:=congrArg List.length hb2;simpa using this
   refine⟨HC, .own ⟨0,[]⟩ el.width 0 len,_,[.sl el.width (l.map el.row)],ns L,{ S1 with gh:=S1.gh++ [some ⟨el,l,none⟩] },jI,?_,?_,d.make ⟨el,l,none⟩,?_,TS.ok_gh (d.ok hS) (jd.app _ _),?_,h'⟩
   ·simp only[gO,g1,ae]
    rw[if_pos ⟨by rw[g2]; exact hb1,hb2,by rw[g2]; exact el.width_pos,by rw[g6]; rfl,by rw[aA];intro y hy;obtain⟨q1,q2⟩:=m3 (S.opd y.2) (aL.2 ⟨y,hy,rfl⟩);simp only[eu,q1,q2,g2];rfl⟩]
    have e: (parts.toList.map fun x=>(opd S.st x.2).cells)=(parts.toList.map fun x=>S.opd x.2).map fun v=>v.av.cells:=by rw[bu];exact aJ fun x _=>by simp only[eu,Function.comp]
    rw[e,g5,m1];simp only[ae];rw[if_pos (Cf.2 hnd),g2]
   ·simp only[oo,nq,pD,V.av,V1.av,Cl.av,aV,hlen];rw[d.len];rfl
   ·unfold Ae;simp only;rw[d.gone,db (by rw[d.len]; exact ay _),cf (by rw[d.len]; exact ay _)];rfl
   ·refine⟨by simp,fun _=>⟨rfl,rfl,fun tr htr=> ?_⟩⟩;rw[mH,if_pos rfl] at htr;cases htr;rfl
  ·cases h'
 |call c=>
  obtain⟨cl,as,ts⟩:=c;cases cl with
  |invoke a b=>cases hn
  |value f=>
   unfold yY at h;simp only at h
   have fin: ∀ (g:FuncId) (caps:List AV) (vs:List V1),g<jE->callee S.st f=some (g,caps)->args P S.st ts as caps=vs.map V1.av->Y g vs ρ (fun res out=>κ (ut S.gh.length res) { S with gh:=S.gh++out.map some })=some r->
     ∃D v0 v adds cons S',oL P D/\gO D P S.st ⟨dst, .call { callee:= .value f,args:=as,argTypes:=ts },ty,pos,aft,gd⟩=some (v0,adds,cons)/\oo S.st.ng v0=V.av v/\S.st.make ⟨S.st.ng,adds,cons⟩=TS.st S'/\Ae S S'=⟨S.st.ng,adds,cons⟩/\S'.ok/\v.ok S'.gh/\κ v S'=some r:=by
    intro g caps vs hg h1 h2 h3;obtain⟨res,out,h4,h5,h6⟩:=hY _ _ _ _ _ h3;have h4:=h4.fn hg;refine⟨Mm dst g (vs.map V1.av) (res.av,out.map eL.tree),res.av,_,out.map eL.tree,[],_,C9 h4,?_,?_,PP S out,?_,TS.ok_gh hS (jd.apps _ _),Ak h5,h6⟩
    ·simp only[gO,h1,ae,h2];rw[Ls];rfl
    ·rw[Aj]; rfl
    ·unfold Ae;simp only[Dj,db (ay _),List.drop_length,bi,Km];rfl
   unfold Lj at h;split at h
   ·rename_i g x y hf';obtain⟨hg,h⟩:=ef h;have hg:g<jE:=az hg;obtain⟨vs,h1,h⟩:=tL hΘ hS _ _ _ _ h;refine fin g [] vs hg ?_ ?_ h
    ·unfold callee;rw[eu,hf'];rfl
    ·unfold args;simp only[ck,bw];exact h1
   ·rename_i g caps hf';obtain⟨hg,h⟩:=ef h;have hg:g<jE:=az hg;obtain⟨vs,h1,h⟩:=tL hΘ hS _ _ _ _ h
    have hcaps: ∀c∈caps,c.ok S.gh:=by have:=mG hS f;rw[hf'] at this;exact this
    obtain⟨cs,h2,h⟩:=zb hS _ _ _ hcaps h;refine fin g (caps.map Cl.av) (vs++cs.map .cl) hg ?_ ?_ h
    ·unfold callee;rw[eu,hf'];rfl
    ·unfold args;rw[h1,h2,bS,bu];rfl
   ·cases h
  |builtin b=>
   cases b with
   |append=>
    unfold yY at h;simp only at h;split at h
    ·rename_i s x t t' e1 e2;have hbb: ((match ts.toList with | [t,t'] =>Nat.beq t t'| _=>true)&&(match as.toList with |s::_=>Ll (S.opd s)| [] =>true))=true:=hb;rw[e1,e2] at hbb;simp only[ar] at hbb;rw[hbb.1] at h;simp only[cond_true] at h;have h':=h;have ht:t=t':=au hbb.1;clear h;have e1:as= #[s,x] :=by apply Array.ext'; simpa using e1
     have e2:ts= #[t,t'] :=by apply Array.ext'; simpa using e2
     subst e1 e2;subst ht;obtain⟨ti,el,elT',hti,he,g1,g2,g3,g4,g5,g6⟩:=N7 hΘ hf;unfold Pw at h';simp only[hti] at h';split at h'
     ·rename_i el' sv xv he' hs hx;rw[he] at he';cases he';have hsv:=mG hS s;rw[hs] at hsv;have hxv:=mG hS x;rw[hx] at hxv;obtain⟨more,L,S1,d1,q1,h⟩:=PS (show xv.ok S.gh from hxv) h';have hroot:Ll (.v (.cl sv))=true:=by rw[<-hs]; exact hbb.2
      obtain⟨l0,cons,S2,q2,d2,h⟩:=N8 (show sv.ok S1.gh from Cl.ok_mono d1.le hsv) hroot h;obtain⟨hbd,h⟩:=fO h;have hlen: (l0++more).length<=2 ^ 40:=bI (Nat.le_mul_of_pos_right _ g4) hbd;have hll: (l0++more).length=l0.length+more.length:=by simp
      have d:=d1.trans d2;refine⟨HC, .own ⟨0,[]⟩ el.width 0 (l0.length+more.length),_,[.sl el.width ((l0++more).map el.row)],ns (L++cons),{ S2 with gh:=S2.gh++ [some ⟨el,l0++more,none⟩] },jI,?_,?_,d.make ⟨el,l0++more,none⟩,?_,TS.ok_gh (d.ok hS) (jd.app _ _),?_,h⟩
      ·simp only[gO];rw[if_pos trivial,g1];simp only[ae,g2,g5,Al,eu,hs,hx];show (iH S.st el.width el.flatB xv.av).bind _=_;rw[q1];simp only[ae];show (oq (dropL S.st L) el.width sv.av).bind _=_;rw[<-d1.st,q2];simp only[ae,aD];rw[if_pos ⟨by rw[g3,<-hll]; exact hbd,by rw[<-hll]; exact hlen,el.width_pos,by rw[Cm g2 g5 g6]; rfl⟩,bS]
      ·simp only[oo,nq,pD,V.av,V1.av,Cl.av,aV,hll];rw[d.len];rfl
      ·unfold Ae;simp only;rw[d.gone,db (by rw[d.len]; exact ay _),cf (by rw[d.len]; exact ay _)];rfl
      ·refine⟨by simp,fun _=>⟨rfl,rfl,fun tr htr=> ?_⟩⟩;rw[mH,if_pos rfl] at htr;cases htr;rfl
     ·cases h'
    ·cases h
   | _=>cases hn
 | _=>cases hn
end
end
end Go.Proofs.YtjnleglhcppgcaaGreat.En
