import Derived.Test.YtkcgfceffffmoaaGreatZX6
namespace Go.Proofs.YtkcgfceffffmoaaGreat.En
open Go
theorem aaT (a b:Nat): (a==b)=Nat.beq a b:=by
 rw [Bool.eq_iff_iff,beq_iff_eq]
 exact⟨fun h=>by rw [h]; exact Nat.beq_refl _,fun h=>Nat.eq_of_beq_eq_true h⟩
theorem Zi (a b:Nat): (a==b)=Nat.beq b a:=by
 rw [Bool.eq_iff_iff,beq_iff_eq]
 exact⟨fun h=>by rw [h]; exact Nat.beq_refl _,fun h=>(Nat.eq_of_beq_eq_true h).symm⟩
theorem L6 (r i j pr i' j':Nat) (l:List (Nat×Nat)):under ⟨r,[(i,j)]⟩ ⟨pr,(i',j')::l⟩=(Nat.beq pr r&&Nat.beq j j'):=by
 simp only [under,G2,Bool.and_true]
 rw [Zi,aaT]
theorem L7 (r i j pr:Nat):under ⟨r,[(i,j)]⟩ ⟨pr,[]⟩=false:=by simp [under,G2]
theorem Fj (r i j:Nat) (c:Cl): (uI r j c).av=uG ⟨r,[(i,j)]⟩ c.av:=by
 cases c with
 | own p sz lo len w=>
   obtain⟨pr,pl⟩:=p
   cases pl with
   | nil=>simp only [uI,Cl.av,uG,L7]; rfl
   | cons a l=>
     obtain⟨i',j'⟩:=a
     simp only [uI,Cl.av,uG,L6]
     cases (Nat.beq pr r&&Nat.beq j j') <;> rfl
 | ptrT p sz a b=>
   obtain⟨pr,pl⟩:=p
   cases pl with
   | nil=>simp only [uI,Cl.av,uG,L7]; rfl
   | cons a' l=>
     obtain⟨i',j'⟩:=a'
     simp only [uI,Cl.av,uG,L6]
     cases (Nat.beq pr r&&Nat.beq j j') <;> rfl
 | c x=>cases x <;> rfl
 | _=>rfl
theorem PR (r i j:Nat) (v:V1): (xb r j v).av=xw ⟨r,[(i,j)]⟩ v.av:=by
 cases v with
 | cl c=>
   have :xw ⟨r,[(i,j)]⟩ (V1.cl c).av=uG ⟨r,[(i,j)]⟩ c.av:=by
    cases c with
    | c x=>cases x <;> rfl
    | _=>rfl
   rw [this]
   exact Fj r i j c
 | agg cs=>
   simp only [xb,V1.av,xw,List.map_map]
   congr 1
   exact List.map_congr_left fun c _=>Fj r i j c
 | fn f cs=>
   simp only [xb,V1.av,xw,List.map_map]
   congr 1
   exact List.map_congr_left fun c _=>Fj r i j c
theorem Zj (r i j:Nat) (v:V): (PN r j v).av=kill ⟨r,[(i,j)]⟩ v.av:=by
 cases v with
 | v x=>
   have :kill ⟨r,[(i,j)]⟩ (V.v x).av=xw ⟨r,[(i,j)]⟩ x.av:=by
    cases x with
    | cl c=>cases c with
      | c x=>cases x <;> rfl
      | _=>rfl
    | _=>rfl
   rw [this]
   exact PR r i j x
 | tup l=>
   simp only [PN,V.av,kill,List.map_map]
   congr 1
   exact List.map_congr_left fun c _=>PR r i j c
theorem Ti (f:V→V) (hf:f V.dead=V.dead): ∀ (l:List (Nat×V)) (t:Nat),ki (l.map fun x=>(x.1,f x.2)) t=f (ki l t)
 | [],t=>hf.symm
 | (u,v)::l,t=>by
   simp only [List.map_cons,ki]
   cases Nat.beq u t with
   | true=>rfl
   | false=>exact Ti f hf l t
theorem aaU (S:TS) (r i j:Nat): (S.kill r j).st=S.st.killU ⟨r,[(i,j)]⟩:=by
 unfold TS.kill TS.st St.killU
 simp only [List.length_map]
 congr 1
 ·funext t
  rw [Ti _ rfl]
  exact Zj r i j _
 ·funext n
  rw [ej,ej,List.getElem?_map]
  cases S.bx[n]? with
  | none=>rfl
  | some cs=>
    simp only [Option.map_some,List.map_map]
    congr 1
    exact List.map_congr_left fun c _=>Fj r i j c
theorem Fk {G:List (Option cc)} {r j:Nat} {c:Cl} (h:c.ok G): (uI r j c).ok G:=by
 cases c with
 | own p sz lo len w=>
   simp only [uI]
   split
   ·cases (Nat.beq p.r r&&Nat.beq j _) <;> first | exact h | trivial
   ·exact h
 | ptrT p sz a b=>
   simp only [uI]
   split
   ·cases (Nat.beq p.r r&&Nat.beq j _) <;> first | exact h | trivial
   ·exact h
 | _=>exact h
theorem PS {G:List (Option cc)} {r j:Nat} {v:V1} (h:v.ok G): (xb r j v).ok G:=by
 cases v with
 | cl c=>exact Fk h
 | agg cs=>
   intro c hc
   obtain⟨x,hx,rfl⟩:=List.mem_map.1 hc
   exact Fk (h x hx)
 | fn f cs=>
   intro c hc
   obtain⟨x,hx,rfl⟩:=List.mem_map.1 hc
   exact Fk (h x hx)
theorem WO {S:TS} (hS:S.ok) (r j:Nat): (S.kill r j).ok:=by
 refine⟨fun x hx=> ?_,fun cs hcs c hc=> ?_⟩
 ·obtain⟨y,hy,rfl⟩:=List.mem_map.1 hx
  have:=hS.env y hy
  obtain⟨t,v⟩:=y
  cases v with
  | v x=>exact PS this
  | tup l=>
    intro c hc
    obtain⟨z,hz,rfl⟩:=List.mem_map.1 hc
    exact PS (this z hz)
 ·obtain⟨y,hy,rfl⟩:=List.mem_map.1 hcs
  obtain⟨z,hz,rfl⟩:=List.mem_map.1 hc
  exact Fk (hS.bx y hy z hz)
def TS.with (S:TS) (no N w:Nat) (R:List (List T)):St:= { S.st with gh:=cm S.st.gh no (some (.sl w R)),ng:=N }
theorem PT (S:TS) (r i j no N w:Nat) (R:List (List T)): (S.with no N w R).killU ⟨r,[(i,j)]⟩=(S.kill r j).with no N w R:=by
 unfold TS.with
 rw [aaU S r i j]
 rfl
theorem WP {α:Type} (f:Nat→α) (t:Nat) (x y:α):cm (cm f t x) t y=cm f t y:=by
 funext u
 unfold cm
 split <;> rfl
theorem Tj {α:Type} (f:Nat→α) (t:Nat) (x:α):cm f t x t=x:=by unfold cm; rw [if_pos rfl]
theorem Zk {α:Type} (f:Nat→α) {t u:Nat} (h:t≠u) (x y:α):cm (cm f t x) u y=cm (cm f u y) t x:=by
 funext v
 unfold cm
 by_cases h1:v=u
 ·subst h1; rw [if_pos rfl,if_neg (fun e=>h e.symm)]; rw [if_pos rfl]
 ·rw [if_neg h1]
  by_cases h2:v=t
  ·rw [if_pos h2,if_pos h2]
  ·rw [if_neg h2,if_neg h2,if_neg h1]
structure aaV (S S1:TS) (no:Nat):Prop where
 ok:S1.ok
 gle:jL S.gh S1.gh
 len:S1.gh.length=S.gh.length
 fz:S1.fz=S.fz
 nt:S1.nt=S.nt
 no:dG S1.gh no=dG S.gh no
def U2:Option Ty→Nat | some e=>e.width | none=>0
def gr1 (X:St) (no i j:Nat) (c:AV):Option Ty→Option St
 | none=>some X
 | some t=>uH X ⟨no,[]⟩ i j t.width c
def Zl (R:List (List T)) (i j:Nat) (x:C):Option Ty→List (List T)
 | none=>R
 | some _=>R.set i ((R.getD i []).set j x.tree)
theorem Zm {S S1:TS} (hS:S.ok) {no j:Nat} (i N w:Nat) {et:Option Ty} {c:Cl} {x:C} (hc:c.ok S.gh) (h:kR S no j et c=some (x,S1)) (R:List (List T)):
  aaV S S1 no∧c≠ .dead∧(et=none→T.ofSc c.av=x.tree)∧gr1 (S.with no N w R) no i j c.av et=some (S1.with no N w (Zl R i j x et)):=by
 cases c with
 | c y=>
   cases y with
   | sc v=>
     cases et with
     | none=>
       simp only [kR,Option.some.injEq,Prod.mk.injEq] at h
       obtain⟨rfl,rfl⟩:=h
       exact⟨⟨hS,jL.refl _,rfl,rfl,rfl,rfl⟩,(fun h=>by cases h),fun _=>rfl,rfl⟩
     | some t=>simp [kR] at h
   | ls t l=>cases et <;> simp [kR] at h
 | em=>
   cases et with
   | none=>simp [kR] at h
   | some t=>
     simp only [kR,Option.some.injEq,Prod.mk.injEq] at h
     obtain⟨rfl,rfl⟩:=h
     refine⟨⟨WO hS _ _,jL.refl _,rfl,rfl,rfl,rfl⟩,(fun h=>by cases h),(fun h=>by cases h),?_⟩
     simp only [gr1,Cl.av,uH,ci.sub,List.nil_append,PT,Zl]
     congr 1
     unfold St.setAt TS.with
     simp only
     rw [Tj,WP]
     rfl
 | own p sz lo len wh=>
   obtain⟨pr,pl⟩:=p
   cases wh with
   | false=>cases et <;> simp [kR] at h
   | true=>
     cases et with
     | none=>simp [kR] at h
     | some t=>
       cases pl with
       | cons a l=>simp [kR] at h
       | nil=>
         simp only [kR] at h
         obtain⟨h1,h⟩:=aB h
         simp only [Bool.and_eq_true,Bool.not_eq_true'] at h1
         obtain⟨⟨h1,h2⟩,h3⟩:=h1
         have h1:t.width=sz:=Nat.eq_of_beq_eq_true h1
         have h2:S.fz≤pr:=Nat.le_of_ble_eq_true h2
         have h3:pr≠no:=by intro e; rw [e,Nat.beq_refl] at h3; cases h3
         split at h
         ·rename_i tr htr
          split at h
          ·rename_i hh
           obtain⟨h4,h⟩:=aB h
           have h4':tr.t.width=sz:=Nat.eq_of_beq_eq_true h4
           simp only [Option.some.injEq,Prod.mk.injEq] at h
           obtain⟨rfl,rfl⟩:=h
           have hg:=cc.look htr
           obtain⟨tt,l,hole⟩:=tr
           simp only at hh h4'
           subst hh
           obtain⟨e1,e2,e3⟩:=AQ hc (fun _=>hg)
           refine⟨⟨WO (TS.ok_gh hS (jL.gone _ _)) _ _,jL.gone _ _,by simp [TS.kill,hO],rfl,rfl,?_⟩,(fun h=>by cases h),(fun h=>by cases h),?_⟩
           ·show dG (dS S.gh pr none) no=_
            rw [t8 _ _ (.inr rfl),if_neg (fun e=>h3 e.symm)]
           ·simp only [gr1,Zl,Cl.av,uH]
            have hrows: (S.with no N w R).rows ⟨pr,[]⟩ sz=some (l.map tt.row):=by
             have : (S.with no N w R).look ⟨pr,[]⟩= .sl tt.width (l.map tt.row):=by
              unfold St.look TS.with
              simp only [cm]
              rw [if_neg h3]
              show (match (dG S.gh pr).map cc.tree with | some t=>t.go [] | none=> .dd)=_
              rw [hg]
              rfl
             unfold St.rows
             rw [this]
             simp [h4']
            rw [if_pos ⟨trivial,h1.symm,e2,h2,h3⟩,hrows]
            simp only [Option.bind_some,List.length_map]
            rw [if_pos (by omega),e3]
            congr 1
            have e4: (l.map tt.row).take l.length=l.map tt.row:=List.take_of_length_le (by simp)
            rw [e4]
            simp only [ci.sub,List.nil_append,PT]
            unfold TS.with
            simp only
            rw [Tj,Zk _ (fun e=>h3 e.symm),WP]
            have e5: ({ S with gh:=dS S.gh pr none }:TS).kill no j= { S.kill no j with gh:=dS (S.kill no j).gh pr none } :=rfl
            rw [e5,Fh]
            simp only [C.tree,h4']
            rfl
          ·cases h
         ·cases h
 | pro cs=>cases et <;> simp [kR] at h
 | ptrB n j=>cases et <;> simp [kR] at h
 | ptrT p sz a b=>cases et <;> simp [kR] at h
 | dead=>cases et <;> simp [kR] at h
theorem acq (X:St) (no i j:Nat) (c:AV) (et:Option Ty): (if U2 et=0 then some X else uH X ⟨no,[]⟩ i j (U2 et) c)=gr1 X no i j c et:=by
 cases et with
 | none=>rfl
 | some t=>exact if_neg (by show ¬ t.width=0; have:=t.width_pos; omega)
theorem Zn {R:List (List T)} {i j:Nat} {x:C} {et:Option Ty} {row:List T} (hr:R[i]? =some row) (hj:j < row.length) (h:et=none→row[j]? =some x.tree):Zl R i j x et=R.set i (row.set j x.tree):=by
 cases et with
 | none=>
   have h:=h rfl
   have e1:row.set j x.tree=row:=by
    apply List.ext_getElem?
    intro k
    rw [List.getElem?_set]
    split
    ·rename_i hk; subst hk; first | rw [if_pos hj,h] | rw [h]
    ·rfl
   rw [e1]
   apply List.ext_getElem?
   intro k
   show R[k]? =_
   rw [List.getElem?_set]
   split
   ·rename_i hk; subst hk; rw [if_pos (List.getElem?_eq_some_iff.1 hr).1,hr]
   ·rfl
 | some t=>
   simp only [Zl]
   rw [List.getD_eq_getElem?_getD,hr]
   rfl
theorem L8 (no i N w:Nat): ∀ (ets:List (Option Ty)) (cs:List Cl) (j:Nat) (S S1:TS) (xs:List C) (R:List (List T)) (row:List T),S.ok→(∀ c∈cs,c.ok S.gh)→uJ no j S ets cs=some (xs,S1)→R[i]? =some row→
  j+cs.length≤row.length→(∀ (k:Nat) (c:Cl),cs[k]? =some c→row[j+k]? =some (T.ofSc c.av))→
  aaV S S1 no∧ets.length=cs.length∧xs.length=cs.length∧(∀ c∈cs,c≠ .dead)∧
   dC (S.with no N w R) ⟨no,[]⟩ i j (ets.map U2) (cs.map Cl.av)=some (S1.with no N w (R.set i (row.take j++xs.map C.tree++row.drop (j+cs.length)))):=by
 intro ets
 induction ets with
 | nil=>
   intro cs j S S1 xs R row hS hcs h hr hl ho
   cases cs with
   | cons c cs=>simp [uJ] at h
   | nil=>
     simp only [uJ,Option.some.injEq,Prod.mk.injEq] at h
     obtain⟨rfl,rfl⟩:=h
     refine⟨⟨hS,jL.refl _,rfl,rfl,rfl,rfl⟩,rfl,rfl,(fun c hc=>by cases hc),?_⟩
     simp only [List.map_nil,dC,List.append_nil,List.length_nil,Nat.add_zero,List.take_append_drop]
     congr 2
     apply List.ext_getElem?
     intro k
     rw [List.getElem?_set]
     split
     ·rename_i hk; subst hk; rw [if_pos (List.getElem?_eq_some_iff.1 hr).1,hr]
     ·rfl
 | cons et ets ih=>
   intro cs j S S1 xs R row hS hcs h hr hl ho
   cases cs with
   | nil=>simp [uJ] at h
   | cons c cs=>
     simp only [uJ] at h
     split at h
     ·rename_i x S2 hx
      split at h
      ·rename_i xs' S3 hxs
       simp only [Option.some.injEq,Prod.mk.injEq] at h
       obtain⟨rfl,rfl⟩:=h
       obtain⟨k1,k2,k3,k4⟩:=Zm hS i N w (hcs c List.mem_cons_self) hx R
       have hj:j < row.length:=by simp at hl; omega
       have hput:=Zn (et:=et) hr hj (x:=x) (fun he=>by rw [←k3 he]; exact ho 0 c rfl)
       rw [hput] at k4
       have hi:i < R.length:=(List.getElem?_eq_some_iff.1 hr).1
       obtain⟨m1,m2,m3,m4,m5⟩:=ih cs (j+1) S2 S3 xs' (R.set i (row.set j x.tree)) (row.set j x.tree) k1.ok (fun y hy=>Cl.ok_mono k1.gle (hcs y (List.mem_cons_of_mem _ hy))) hxs (by simp [hi]) (by simp at hl ⊢; omega) (fun k y hy=>by
        rw [List.getElem?_set_ne (by omega),show j+1+k=j+(k+1) by omega]
        exact ho (k+1) y (by simpa using hy))
       refine⟨⟨m1.ok,k1.gle.trans m1.gle,m1.len.trans k1.len,m1.fz.trans k1.fz,m1.nt.trans k1.nt,m1.no.trans k1.no⟩,by simp [m2],by simp [m3],fun y hy=> ?_,?_⟩
       ·rcases List.mem_cons.1 hy with rfl | hy
        ·exact k2
        ·exact m4 y hy
       ·simp only [List.map_cons,dC]
        rw [acq,k4]
        simp only [Option.bind_some]
        rw [m5,List.set_set]
        congr 3
        have e2: (row.set j x.tree).take (j+1)=row.take j++ [x.tree] :=by
         rw [List.take_set,List.take_add_one,List.getElem?_eq_getElem hj]
         rw [Option.toList_some]
         have hlen: (row.take j).length=j:=by simp; omega
         rw [List.set_append_right _ _ (by omega),hlen,Nat.sub_self]
         rfl
        have e3: (row.set j x.tree).drop (j+1+cs.length)=row.drop (j+(cs.length+1)):=by
         rw [List.drop_set_of_lt (by omega),show j+1+cs.length=j+(cs.length+1) by omega]
        rw [e2,e3]
        simp
      ·cases h
     ·cases h
end Go.Proofs.YtkcgfceffffmoaaGreat.En
namespace Go.Proofs.YtkcgfceffffmoaaGreat.En
open Go
theorem Tl: ∀ {cs:List Cl} {vs:List C},scs cs=some vs→cs.map (fun c=>T.ofSc c.av)=vs.map C.tree∧vs.length=cs.length
 | [],vs,h=>by simp only [scs,Option.some.injEq] at h; subst h; exact⟨rfl,rfl⟩
 | c::cs,vs,h=>by
   cases c with
   | c y=>cases y with
     | sc v=>
       simp only [scs] at h
       split at h
       ·rename_i r hr
        simp only [Option.some.injEq] at h
        subst h
        obtain⟨h1,h2⟩:=Tl hr
        exact⟨by simp only [List.map_cons,h1]; rfl,by simp [h2]⟩
       ·cases h
     | ls t l=>simp [scs] at h
   | _=>simp [scs] at h
theorem L9 {x:V1} (h1:x≠ .cl .dead) (h2: ∀ f cs,x≠ .fn f cs): (V.v x).av.cells=x.cells.map Cl.av∧(V.v x).av.isDead=false:=by
 cases x with
 | cl c=>cases c with
   | c y=>cases y <;> exact⟨rfl,rfl⟩
   | dead=>exact absurd rfl h1
   | _=>exact⟨rfl,rfl⟩
 | agg cs=>exact⟨rfl,rfl⟩
 | fn f cs=>exact absurd rfl (h2 f cs)
section
variable {ρ:Type} {P:Program} {Θ:to} {S:TS}
theorem WQ (tr:cc) {i j n:Nat} {y:tr.t.D} (hy:tr.l[i]? =some y) (hh:tr.hole=none∨(tr.hole=some (i,j)∧n=1)) (hn:j+n≤tr.t.width):
  ∃ Rh rowh,tr.tree= .sl tr.t.width Rh∧Rh[i]? =some rowh∧Rh.length=tr.l.length∧rowh.length=tr.t.width∧rowh.take j=(tr.t.row y).take j∧rowh.drop (j+n)=(tr.t.row y).drop (j+n)∧ ∀ X,Rh.set i X=(tr.l.map tr.t.row).set i X:=by
 obtain⟨t,l,hole⟩:=tr
 simp only at hy hh hn y
 have hi:=(List.getElem?_eq_some_iff.1 hy).1
 rcases hh with hh | ⟨hh,rfl⟩
 ·subst hh
  exact⟨l.map t.row,t.row y,rfl,by rw [List.getElem?_map,hy]; rfl,by simp,t.row_length y,rfl,rfl,fun _=>rfl⟩
 ·subst hh
  have e1: (l.map t.row).getD i [] =t.row y:=by simp [List.getD_eq_getElem?_getD,hy]
  refine⟨(l.map t.row).set i ((t.row y).set j .dd),(t.row y).set j .dd,by simp only [cc.tree,e1],by simp [hi],by simp,by simp [t.row_length],?_,?_,fun X=>by rw [List.set_set]⟩
  ·rw [List.take_set,List.set_eq_of_length_le (by simp; omega)]
  ·rw [List.drop_set_of_lt (by omega)]
theorem Zo (hΘ:fk P Θ) (hS:S.ok) {t:TypeId} {a v:V} (ha:a.ok S.gh) (hv:v.ok S.gh) {κ:TS→Option ρ} {r:ρ} (h:Vu Θ S t a v κ=some r): ∃ S',store P S.st t a.av v.av=some (TS.st S')∧S'.ok∧jL S.gh S'.gh∧κ S'=some r:=by
 unfold Vu at h
 split at h
 ·cases h
 ·rename_i ti hti
  have hok:=hΘ _ _ hti
  split at h
  ·cases h
  ·cases h
  ·cases h
  ·rename_i x hx1 hx2
   obtain⟨hc1,hc2⟩:=L9 (x:=x) (fun e=>hx1 (by rw [e])) (fun f cs e=>hx2 f cs (by rw [e]))
   obtain⟨h1,h'⟩:=aB h
   clear h
   have h:=h'
   clear h'
   have hlen:x.cells.length=ti.ty.width:=Nat.eq_of_beq_eq_true h1
   have hcok: ∀ c∈x.cells,c.ok S.gh:=by
    cases x with
    | cl c=>intro c' hc'; simp only [V1.cells,List.mem_singleton] at hc'; subst hc'; exact hv
    | agg cs=>exact hv
    | fn f cs=>exact absurd rfl (hx2 f cs)
   have hfst: ¬ ((V.v x).av.cells.length≠P.cellsOf t∨(V.v x).av.isDead=true):=by
    rw [hc1,hc2,hok.cells]
    simp [hlen]
   split at h
   ·rename_i b j
    split at h
    ·rename_i cs hcs
     obtain⟨h2,h⟩:=aB h
     have h2:j+x.cells.length≤cs.length:=Nat.le_of_ble_eq_true h2
     have hcs':S.bx[b]? =some cs:=by rw [←ej]; exact hcs
     have hb:b < S.bx.length:=(List.getElem?_eq_some_iff.1 hcs').1
     refine⟨{ S with bx:=dS S.bx b (cs.take j++x.cells++cs.drop (j+x.cells.length)) },?_,⟨hS.env,fun cs' hcs'' c hc=> ?_⟩,jL.refl _,h⟩
     ·have e0:store P S.st t (V.v (.cl (.ptrB b j))).av (V.v x).av=(S.st.bx b).bind fun cs=>if j+(V.v x).av.cells.length≤cs.length then some { S.st with bx:=cm S.st.bx b (some (cs.take j++(V.v x).av.cells++cs.drop (j+(V.v x).av.cells.length))) } else none:=by
       unfold store
       simp only
       rw [if_neg hfst]
       rfl
      have e1:S.st.bx b=some (cs.map Cl.av):=by show (tp S.bx b).map _=_; rw [hcs]; rfl
      rw [e0,e1,hc1]
      simp only [Option.bind_some,List.length_map]
      rw [if_pos h2,XA _ _ hb]
      simp [List.map_take,List.map_drop]
     ·rw [hO] at hcs''
      rcases List.mem_or_eq_of_mem_set hcs'' with h3 | h3
      ·exact hS.bx _ h3 c hc
      ·subst h3
       simp only [List.mem_append] at hc
       have hm:=List.mem_of_getElem? hcs'
       rcases hc with (hc | hc) | hc
       ·exact hS.bx _ hm c (List.mem_of_mem_take hc)
       ·exact hcok c hc
       ·exact hS.bx _ hm c (List.mem_of_mem_drop hc)
    ·cases h
   ·rename_i p sz i j
    obtain⟨pr,pl⟩:=p
    cases pl with
    | cons a l=>cases h
    | nil=>
      simp only at h
      split at h
      ·rename_i tr htr
       have hg:=cc.look htr
       obtain⟨h2,h⟩:=aB h
       simp only [Bool.and_eq_true] at h2
       have h3:tr.t.width=sz:=Nat.eq_of_beq_eq_true h2.1.1
       have h4:j+ti.ty.width≤sz:=Nat.le_of_ble_eq_true h2.1.2
       have hgst:S.st.gh pr=some tr.tree:=by show (dG S.gh pr).map _=_; rw [hg]; rfl
       have e2: (V1.av x).cells=x.cells.map Cl.av:=hc1
       have put: ∀ (y:tr.t.D) (hy:tr.l[i]? =some y) (Rh:List (List T)) (rowh:List T),tr.tree= .sl tr.t.width Rh→Rh[i]? =some rowh→rowh.length=tr.t.width→
         store P S.st t (V.v (.cl (.ptrT ⟨pr,[]⟩ sz i j))).av (V.v x).av=(if ti.ty.flatB then some (S.with pr S.gh.length sz (Rh.set i (rowh.take j++x.cells.map (fun c=>T.ofSc c.av)++rowh.drop (j+ti.ty.width)))) else
          if S.fz≤pr then dC (S.with pr S.gh.length sz (Rh.set i (rowh.take j++x.cells.map (fun c=>T.ofSc c.av)++rowh.drop (j+ti.ty.width)))) ⟨pr,[]⟩ i j (ti.ty.csh.map U2) (x.cells.map Cl.av) else none):=by
        intro y hy Rh rowh g1 g2 g3
        have hi:i < Rh.length:=(List.getElem?_eq_some_iff.1 g2).1
        have e0:store P S.st t (V.v (.cl (.ptrT ⟨pr,[]⟩ sz i j))).av (V.v x).av=(tR S.st ⟨pr,[]⟩ sz i j ((V.v x).av.cells.map T.ofSc)).bind fun S'=>if (th P 9 t).all (· ==0) then some S' else if S.st.fz≤pr then dC S' ⟨pr,[]⟩ i j (th P 9 t) (V.v x).av.cells else none:=by
         unfold store
         simp only
         rw [if_neg hfst]
         rfl
        rw [e0,hc1]
        have hrows:S.st.rows ⟨pr,[]⟩ sz=some Rh:=by
         unfold St.rows St.look
         simp only [hgst,g1,T.go,h3,if_true]
        unfold tR
        rw [hrows]
        simp only [List.length_map]
        have hgd:Rh.getD i [] =rowh:=by simp [List.getD_eq_getElem?_getD,g2]
        rw [hgd,if_pos ⟨hi,by rw [g3,hlen,h3]; exact h4⟩]
        simp only [Option.bind_some,hok.sh,Hl]
        have hset:S.st.setAt ⟨pr,[]⟩ (.sl sz (Rh.set i (rowh.take j++(x.cells.map Cl.av).map T.ofSc++rowh.drop (j+x.cells.length))))=S.with pr S.gh.length sz (Rh.set i (rowh.take j++x.cells.map (fun c=>T.ofSc c.av)++rowh.drop (j+ti.ty.width))):=by
         unfold St.setAt TS.with
         simp only [hgst,Option.map_some,T.put,List.map_map,hlen]
         rfl
        rw [hset]
        rfl
       have fin: ∀ (S1:TS) (y z:tr.t.D) (vs:List C) (Rh:List (List T)) (rowh:List T),aaV S S1 pr→tr.l[i]? =some y→tr.t.flat z=(tr.t.flat y).take j++vs++(tr.t.flat y).drop (j+ti.ty.width)→
         rowh.take j=(tr.t.row y).take j→rowh.drop (j+ti.ty.width)=(tr.t.row y).drop (j+ti.ty.width)→(∀ X,Rh.set i X=(tr.l.map tr.t.row).set i X)→
         S1.with pr S.gh.length sz (Rh.set i (rowh.take j++vs.map C.tree++rowh.drop (j+ti.ty.width)))=({ S1 with gh:=dS S1.gh pr (some ⟨tr.t,tr.l.set i z,none⟩) }:TS).st∧
         ({ S1 with gh:=dS S1.gh pr (some ⟨tr.t,tr.l.set i z,none⟩) }:TS).ok∧jL S.gh (dS S1.gh pr (some ⟨tr.t,tr.l.set i z,none⟩)):=by
        intro S1 y z vs Rh rowh hT hy hz q1 q2 q3
        have hg1:dG S1.gh pr=some tr:=hT.no.trans hg
        have hgle:jL S1.gh (dS S1.gh pr (some ⟨tr.t,tr.l.set i z,none⟩)):=jL.put hg1 (by simp)
        refine⟨?_,TS.ok_gh hT.ok hgle,hT.gle.trans hgle⟩
        rw [Hi _ _ (yH hg1)]
        unfold TS.with
        rw [q1,q2,q3]
        have hrow:tr.t.row z=(tr.t.row y).take j++vs.map C.tree++(tr.t.row y).drop (j+ti.ty.width):=by
         rw [tr.t.row_flat,hz,tr.t.row_flat]
         simp [List.map_take,List.map_drop]
        have hng:S.gh.length=S1.st.ng:=hT.len.symm
        rw [hng]
        congr 3
        simp only [cc.tree,h3]
        rw [←hrow,List.map_set]
       cases hfl:ti.ty.flatB with
       | true=>
         rw [hfl] at h
         simp only [cond_true] at h
         split at h
         ·rename_i vs hh hvs
          obtain⟨y,hy,h⟩:=Option.bind_eq_some_iff.1 h
          split at h
          ·rename_i z hz
           obtain⟨k1,k2⟩:=Tl hvs
           obtain⟨Rh,rowh,g1,g2,g3,g4,g5,g6,g7⟩:=WQ tr hy (.inl hh) (by rw [h3]; exact h4)
           obtain⟨f1,f2,f3⟩:=fin S y z vs Rh rowh ⟨hS,jL.refl _,rfl,rfl,rfl,rfl⟩ hy (Ty.unflat_some _ _ _ hz) g5 g6 g7
           refine⟨_,?_,f2,f3,h⟩
           rw [put y hy Rh rowh g1 g2 g4,hfl,if_pos rfl,k1,f1]
          ·cases h
         ·cases h
       | false=>
         rw [hfl] at h
         simp only [cond_false] at h
         obtain⟨h5,h⟩:=aB h
         have h5:S.fz≤pr:=Nat.le_of_ble_eq_true h5
         split at h
         ·rename_i vs S1 hvs
          obtain⟨y,hy,h⟩:=Option.bind_eq_some_iff.1 h
          split at h
          ·rename_i z hz
           have main: (tr.hole=none∨(tr.hole=some (i,j)∧ti.ty.width=1))→κ { S1 with gh:=dS S1.gh pr (some ⟨tr.t,tr.l.set i z,none⟩) } =some r→ ∃ S',store P S.st t (V.v (.cl (.ptrT ⟨pr,[]⟩ sz i j))).av (V.v x).av=some (TS.st S')∧S'.ok∧jL S.gh S'.gh∧κ S'=some r:=by
            intro hh hk
            obtain⟨Rh,rowh,g1,g2,g3,g4,g5,g6,g7⟩:=WQ tr hy hh (by rw [h3]; exact h4)
            have hi:i < Rh.length:=(List.getElem?_eq_some_iff.1 g2).1
            have htk: (rowh.take j).length=j:=by simp; omega
            have hcl: (x.cells.map fun c=>T.ofSc c.av).length=x.cells.length:=by simp
            obtain⟨m1,m2,m3,m4,m5⟩:=L8 pr i S.gh.length sz ti.ty.csh x.cells j S S1 vs (Rh.set i (rowh.take j++x.cells.map (fun c=>T.ofSc c.av)++rowh.drop (j+ti.ty.width))) (rowh.take j++x.cells.map (fun c=>T.ofSc c.av)++rowh.drop (j+ti.ty.width)) hS hcok hvs (by simp [hi]) (by simp; omega) (fun k c hc=>by
             have hk:=(List.getElem?_eq_some_iff.1 hc).1
             rw [List.append_assoc,List.getElem?_append_right (by omega),htk,Nat.add_sub_cancel_left,List.getElem?_append_left (by omega),List.getElem?_map,hc]
             rfl)
            obtain⟨f1,f2,f3⟩:=fin S1 y z vs Rh rowh m1 hy (Ty.unflat_some _ _ _ hz) g5 g6 g7
            refine⟨_,?_,f2,f3,hk⟩
            rw [put y hy Rh rowh g1 g2 g4,hfl,if_neg (by simp),if_pos h5,m5,←f1]
            congr 2
            rw [List.set_set]
            congr 1
            rw [List.append_assoc,List.append_assoc,List.take_append_of_le_length (by omega),List.take_take,Nat.min_self,←List.append_assoc]
            congr 1
            rw [←List.append_assoc,List.drop_append,List.length_append,htk,hcl,hlen,Nat.sub_self,List.drop_zero,List.drop_eq_nil_of_le (by simp; omega),List.nil_append]
           split at h
           ·rename_i hh
            exact main (.inl hh) h
           ·rename_i i0 j0 hh
            obtain⟨h6,h⟩:=aB h
            simp only [Bool.and_eq_true] at h6
            obtain⟨h7,h⟩:=dT h
            have h8:j=j0:=Nat.eq_of_beq_eq_true h6.1
            have h9:ti.ty.width=1:=Nat.eq_of_beq_eq_true h6.2
            exact main (.inr ⟨by rw [hh,h7,h8],h9⟩) h
          ·cases h
         ·cases h
      ·cases h
   ·cases h
end
end Go.Proofs.YtkcgfceffffmoaaGreat.En
namespace Go.Proofs.YtkcgfceffffmoaaGreat.En
open Go
theorem Ob (X:St) (p:ci) (i:Nat): ∀ (ss:List Nat) (vs:List AV) (j:Nat),ss.all (· ==0)=true→dC X p i j ss vs=some X:=by
 intro ss
 induction ss with
 | nil=>intro vs j _; cases vs <;> rfl
 | cons s ss ih=>
   intro vs j h
   simp only [List.all_cons,Bool.and_eq_true,beq_iff_eq] at h
   cases vs with
   | nil=>rfl
   | cons v vs=>
     simp only [dC]
     rw [if_pos h.1]
     exact ih vs (j+1) h.2
def AR (no:Nat) (ss:List Nat):Nat→List V→St→Option St
 | _,[],X=>some X
 | k,v::vs,X=>(dC X ⟨no,[]⟩ k 0 ss v.av.cells).bind (AR no ss (k+1) vs)
theorem XE (el:Ty) (no N:Nat): ∀ (vs:List V) (k:Nat) (S S1:TS) (l:List el.D) (R:List (List T)),S.ok→S.gh.length=no→(∀ v∈vs,v.ok S.gh)→xd el S vs=some (l,S1)→R.length=k+vs.length→
  (∀ (m:Nat) (v:V),vs[m]? =some v→R[k+m]? =some (v.av.cells.map T.ofSc))→
  aaV S S1 no∧l.length=vs.length∧(∀ v∈vs,v.av.cells.length=el.width∧v.av.isDead=false)∧AR no el.shs k vs (S.with no N el.width R)=some (S1.with no N el.width (R.take k++l.map el.row)):=by
 intro vs
 induction vs with
 | nil=>
   intro k S S1 l R hS hno hvs h hl ho
   simp only [xd,Option.some.injEq,Prod.mk.injEq] at h
   obtain⟨rfl,rfl⟩:=h
   refine⟨⟨hS,jL.refl _,rfl,rfl,rfl,rfl⟩,rfl,(fun v hv=>by cases hv),?_⟩
   simp only [AR,List.map_nil,List.append_nil]
   rw [List.take_of_length_le (by simp at hl; omega)]
 | cons v vs ih=>
   intro k S S1 l R hS hno hvs h hl ho
   cases v with
   | tup x=>simp [xd] at h
   | v x=>
     simp only [xd] at h
     split at h
     ·rename_i ws S2 hw
      split at h
      ·rename_i y ys S3 hy hys
       simp only [Option.some.injEq,Prod.mk.injEq] at h
       obtain⟨rfl,rfl⟩:=h
       have hv:=hvs _ List.mem_cons_self
       have hrow:=ho 0 _ rfl
       rw [Nat.add_zero] at hrow
       have hk:k < R.length:=(List.getElem?_eq_some_iff.1 hrow).1
       have hcok: ∀ c∈x.cells,c.ok S.gh:=by
        cases x with
        | cl c=>intro c' hc'; simp only [V1.cells,List.mem_singleton] at hc'; subst hc'; exact hv
        | agg cs=>exact hv
        | fn f cs=>intro c' hc'; simp only [V1.cells,List.mem_singleton] at hc'; subst hc'; trivial
       rw [hno] at hw
       have hx:x≠ .cl .dead∧(∀ f cs,x≠ .fn f cs):=by
        have nd: ∀ (cs:List Cl),cs= [.dead] →uJ no 0 S el.csh cs=some (ws,S2)→False:=by
         intro cs hcs h
         subst hcs
         cases hc:el.csh with
         | nil=>rw [hc] at h; simp [uJ] at h
         | cons e es=>
           rw [hc] at h
           cases e <;> simp [uJ,kR] at h
        constructor
        ·intro e; subst e; exact nd _ rfl hw
        ·intro f cs e; subst e; exact nd _ rfl hw
       obtain⟨hc1,hc2⟩:=L9 hx.1 hx.2
       obtain⟨m1,m2,m3,m4,m5⟩:=L8 no k N el.width el.csh x.cells 0 S S2 ws R ((V.v x).av.cells.map T.ofSc) hS hcok hw hrow (by rw [hc1]; simp) (fun m c hm=>by
        rw [hc1,Nat.zero_add,List.getElem?_map,List.getElem?_map,hm]
        rfl)
       have hwid:x.cells.length=el.width:=by
        rw [←m2]
        cases el with
        | st n=>cases n <;> rfl
        | _=>rfl
       obtain⟨g1,g2,g3,g4⟩:=ih (k+1) S2 S3 ys (R.set k (el.row y)) m1.ok (m1.len.trans hno) (fun v hv=>V.ok_mono m1.gle (hvs v (List.mem_cons_of_mem _ hv))) hys (by simp at hl ⊢; omega) (fun m v hm=>by
        rw [List.getElem?_set_ne (by omega),show k+1+m=k+(m+1) by omega]
        exact ho (m+1) v (by simpa using hm))
       refine⟨⟨g1.ok,m1.gle.trans g1.gle,g1.len.trans m1.len,g1.fz.trans m1.fz,g1.nt.trans m1.nt,g1.no.trans m1.no⟩,by simp [g2],fun v hv=> ?_,?_⟩
       ·rcases List.mem_cons.1 hv with rfl | hv
        ·exact⟨by rw [hc1]; simpa using hwid,hc2⟩
        ·exact g3 v hv
       ·simp only [AR]
        have e1:el.shs=el.csh.map U2:=rfl
        rw [hc1,e1,m5]
        simp only [Option.bind_some]
        have e2: ((V.v x).av.cells.map T.ofSc).take 0++ws.map C.tree++((V.v x).av.cells.map T.ofSc).drop (0+x.cells.length)=el.row y:=by
         rw [hc1,List.take_zero,List.nil_append,List.drop_eq_nil_of_le (by simp),List.append_nil,el.row_flat,Ty.unflat_some _ _ _ hy]
        rw [e2,←e1,g4]
        congr 2
        have e3: (R.set k (el.row y)).take (k+1)=R.take k++ [el.row y] :=by
         rw [List.take_set,List.take_add_one,List.getElem?_eq_getElem hk,Option.toList_some]
         have hlen: (R.take k).length=k:=by simp; omega
         rw [List.set_append_right _ _ (by omega),hlen,Nat.sub_self]
         rfl
        rw [e3]
        simp
      ·cases h
     ·cases h
theorem Tm (t:Ty):t.zcs.map C.tree=List.zipWith zc t.shs t.zvs:=by
 cases t with
 | st n=>cases n <;> rfl
 | _=>rfl
theorem QR: ∀ {a b:List Nat},eqN a b=true→a=b
 | [],[],_=>rfl
 | a::l,b::m,h=>by
   simp only [eqN] at h
   cases hb:Nat.beq a b with
   | true=>
     rw [hb] at h
     rw [Nat.eq_of_beq_eq_true hb,QR h]
   | false=>rw [hb] at h; cases h
 | [],_::_,h=>by cases h
 | _::_,[],h=>by cases h
theorem Tn (no:Nat) (ss:List Nat) (e:Operand→AV): ∀ (ps:List (Nat×Operand)) (vs:List V) (k:Nat) (X:St),ps.map (·.1)=List.range' k ps.length→ps.map (fun x=>e x.2)=vs.map V.av→
  ps.foldlM (fun S' x=>dC S' ⟨no,[]⟩ x.1 0 ss (e x.2).cells) X=AR no ss k vs X:=by
 intro ps
 induction ps with
 | nil=>
   intro vs k X _ h
   cases vs with
   | nil=>rfl
   | cons v vs=>cases h
 | cons p ps ih=>
   intro vs k X h1 h2
   cases vs with
   | nil=>cases h2
   | cons v vs=>
     simp only [List.map_cons,List.cons.injEq] at h2
     simp only [List.map_cons,List.length_cons,List.range'_succ,List.cons.injEq] at h1
     simp only [List.foldlM_cons,AR,h1.1,h2.1]
     cases dC X ⟨no,[]⟩ k 0 ss v.av.cells with
     | none=>rfl
     | some X'=>exact ih vs (k+1) X' h1.2 h2.2
section
variable {ρ:Type} {P:Program} {Θ:to} {S:TS} {Y:Fe}
theorem aaW {a:AV} {n:Int} (h:Lj a=some n): ∃ k,a= .sc (.int k n):=by
 unfold Lj at h
 split at h
 ·rename_i k m
  simp only [Option.some.injEq] at h
  subst h
  exact⟨k,rfl⟩
 ·cases h
theorem aaX (c:Cl):U4 c.av=Vv c:=by
 cases c with
 | c x=>cases x <;> rfl
 | _=>rfl
theorem QS (cs:List Cl): (cs.map Cl.av).any U4=cs.any Vv:=by
 rw [List.any_map]
 congr 1
 funext c
 exact aaX c
theorem IW (c:Cl): (V.v (.cl c)).av.cells= [c.av] :=by
 cases c with
 | c x=>cases x <;> rfl
 | _=>rfl
theorem Zp {v:V} (h:LU v=true):v.av.cells.any U4=true:=by
 cases v with
 | tup l=>cases h
 | v x=>
   cases x with
   | cl c=>
     rw [IW]
     have h: [c].any Vv=true:=h
     rw [←QS] at h
     exact h
   | agg cs=>
     have h:cs.any Vv=true:=h
     rw [←QS] at h
     exact h
   | fn f cs=>cases h
theorem Zq {v:V} (h:v.av.cells.any U4=true):LU v=true:=by
 cases v with
 | tup l=>cases h
 | v x=>
   cases x with
   | cl c=>
     rw [IW] at h
     show [c].any Vv=true
     rw [←QS]
     exact h
   | agg cs=>
     show cs.any Vv=true
     rw [←QS]
     exact h
   | fn f cs=>cases h
theorem Ma: ∀ (ets:List (Option Ty)) (cs:List Cl) (xs:List C),qE ets cs=some xs→cs.length=ets.length∧N0 (ets.map fun | some e=>e.width | none=>0) (cs.map Cl.av)=some (xs.map C.tree)
 | [],[],xs,h=>by simp only [qE,Option.some.injEq] at h; subst h; exact⟨rfl,rfl⟩
 | et::ets, .c x::cs,xs,h=>by
   have h: (match qE ets cs with | some r=>some (x::r) | none=>none)=some xs:=by cases et <;> exact h
   split at h
   ·rename_i r hr
    simp only [Option.some.injEq] at h
    subst h
    obtain⟨h1,h2⟩:=Ma ets cs r hr
    refine⟨by simp [h1],?_⟩
    simp only [List.map_cons,N0]
    have : ∀ s,roC s (Cl.av (.c x))=some x.tree:=fun s=>by cases x <;> rfl
    rw [this,h2]
    rfl
   ·cases h
 | some t::ets, .em::cs,xs,h=>by
   simp only [qE] at h
   split at h
   ·rename_i r hr
    simp only [Option.some.injEq] at h
    subst h
    obtain⟨h1,h2⟩:=Ma ets cs r hr
    refine⟨by simp [h1],?_⟩
    simp only [List.map_cons,N0,h2]
    rfl
   ·cases h
 | [],_::_,xs,h=>by simp [qE] at h
 | _::_,[],xs,h=>by simp [qE] at h
 | none::ets, .em::cs,xs,h=>by simp [qE] at h
 | _::ets, .own _ _ _ _ _::cs,xs,h=>by simp [qE] at h
 | _::ets, .pro _::cs,xs,h=>by simp [qE] at h
 | _::ets, .ptrB _ _::cs,xs,h=>by simp [qE] at h
 | _::ets, .ptrT _ _ _ _::cs,xs,h=>by simp [qE] at h
 | _::ets, .dead::cs,xs,h=>by simp [qE] at h
theorem IX (el:Ty): ∀ (vs:List V) (l:List el.D),xE el vs=some l→l.length=vs.length∧AF el.shs (vs.map fun v=>v.av.cells)=some (l.map el.row)∧ ∀ v∈vs,v.av.cells.length=el.width∧v.av.isDead=false
 | [],l,h=>by simp only [xE,Option.some.injEq] at h; subst h; exact⟨rfl,rfl,fun v hv=>by cases hv⟩
 | .v x::vs,l,h=>by
   simp only [xE] at h
   split at h
   ·rename_i xs hx
    split at h
    ·rename_i y ys hy hys
     simp only [Option.some.injEq] at h
     subst h
     obtain⟨h1,h2,h3⟩:=IX el vs ys hys
     obtain⟨g1,g2⟩:=Ma _ _ _ hx
     have n1:x≠ .cl .dead:=fun e=>by
      subst e
      have hx:qE el.csh [Cl.dead] =some xs:=hx
      cases hc:el.csh with
      | nil=>rw [hc] at hx; simp [qE] at hx
      | cons a b=>rw [hc] at hx; simp [qE] at hx
     have n2: ∀ f cs,x≠ .fn f cs:=fun f cs e=>by
      subst e
      have hx:qE el.csh [Cl.dead] =some xs:=hx
      cases hc:el.csh with
      | nil=>rw [hc] at hx; simp [qE] at hx
      | cons a b=>rw [hc] at hx; simp [qE] at hx
     obtain⟨hc,hd⟩:=L9 n1 n2
     have hw:el.csh.length=el.width:=by
      have:=DP el
      unfold Ty.shs at this
      simpa using this
     refine⟨by simp [h1],?_,fun v hv=> ?_⟩
     ·simp only [List.map_cons,AF,hc]
      rw [show el.shs=el.csh.map fun | some e=>e.width | none=>0 from rfl,g2]
      simp only [Option.bind_some]
      rw [show (el.csh.map fun | some e=>e.width | none=>0)=el.shs from rfl,h2,el.row_flat,Ty.unflat_some _ _ _ hy]
      rfl
     ·rcases List.mem_cons.1 hv with rfl | hv
      ·exact⟨by rw [hc,List.length_map,g1,hw],hd⟩
      ·exact h3 v hv
    ·cases h
   ·cases h
 | .tup _::vs,l,h=>by simp [xE] at h
theorem To (hΘ:fk P Θ) (hY:au P Y) (hS:S.ok) {o:Oper} {κ:V→TS→Option ρ} {r:ρ} (h:Ff Θ Y S o κ=some r):
  ∃ D v S',sn P D∧j5 D P S.st o=some (V.av v,TS.st S')∧S'.ok∧v.ok S'.gh∧κ v S'=some r:=by
 have ok: ∀ x,(S.opd x).ok S.gh:=fun x=>oU hS x
 have vals:LQ Θ S o κ=some r→(∀ D:wj,j5 D P S.st o=(aH D P S.st o).map fun v=>(v,S.st))→ ∃ D v S',sn P D∧j5 D P S.st o=some (V.av v,TS.st S')∧S'.ok∧v.ok S'.gh∧κ v S'=some r:=by
  intro h he
  obtain⟨v,S1,h1,h2,h3,h4,h5,h6⟩:=PP (D:=Sk) hΘ hS h
  exact⟨Sk,v,S1,kU,by rw [he,h1,Option.map_some,h2],h3,by rw [h4]; exact h5,h6⟩
 obtain⟨dst,op,ty,pos,aft,gd⟩:=o
 unfold Ff at h
 cases op with
 | alloc t=>
   simp only at h
   split at h
   ·rename_i ti hti
    refine⟨Sk,_,{ S with bx:=S.bx++ [ti.ty.zvs.map cC] },kU,?_,⟨hS.env,fun cs hcs c hc=> ?_⟩,?_,h⟩
    ·simp only [j5,(hΘ _ _ hti).ze,Option.map_some]
     rw [Vz,Za]
     rfl
    ·rcases List.mem_append.1 hcs with h1 | h1
     ·exact hS.bx cs h1 c hc
     ·simp only [List.mem_singleton] at h1
      subst h1
      exact Zb _ _ c hc
    ·trivial
   ·cases h
 | box t x=>
   have fin: ∀ (cs:List Cl),(∀ c∈cs,c.ok S.gh)→j5 Sk P S.st ⟨dst, .box t x,ty,pos,aft,gd⟩=some (.ptrB S.bx.length 0,{ S.st with bx:=cm S.st.bx S.bx.length (some (cs.map Cl.av)),nb:=S.bx.length+1 })→κ (.v (.cl (.ptrB S.bx.length 0))) { S with bx:=S.bx++ [cs] } =some r→
     ∃ D v S',sn P D∧j5 D P S.st ⟨dst, .box t x,ty,pos,aft,gd⟩=some (V.av v,TS.st S')∧S'.ok∧v.ok S'.gh∧κ v S'=some r:=by
    intro cs hcs h1 h2
    refine⟨Sk, .v (.cl (.ptrB S.bx.length 0)),{ S with bx:=S.bx++ [cs] },kU,?_,⟨hS.env,fun cs' hcs' c hc=> ?_⟩,trivial,h2⟩
    ·rw [h1,Vz]; rfl
    ·rcases List.mem_append.1 hcs' with h3 | h3
     ·exact hS.bx cs' h3 c hc
     ·simp only [List.mem_singleton] at h3
      subst h3
      exact hcs c hc
   simp only at h
   split at h
   ·cases h
   ·rename_i c hnd hx
    have hc:=ok x
    rw [hx] at hc
    refine fin [c] (fun c' hc'=>by simp only [List.mem_singleton] at hc'; subst hc'; exact hc) ?_ h
    simp only [j5,bk,hx]
    cases c with
    | dead=>exact absurd rfl hnd
    | c y=>cases y <;> rfl
    | _=>rfl
   ·rename_i cs hx
    have hc:=ok x
    rw [hx] at hc
    refine fin cs hc ?_ h
    simp only [j5,bk,hx]
    rfl
   ·cases h
 | store t a x=>
   simp only at h
   obtain⟨S1,h1,h2,h3,h⟩:=Zo hΘ hS (ok a) (ok x) h
   refine⟨Sk,_,S1,kU,?_,h2,V.ok_dead _,h⟩
   simp only [j5,bk,h1,Option.map_some]
   rfl
 | makeSlice t l c=>
   simp only at h
   split at h
   ·rename_i ti hti
    split at h
    ·rename_i el he
     obtain⟨elT',g1,g2,g3,g4,g5,g6⟩:=(hΘ _ _ hti).el el he
     obtain⟨n,h1,h⟩:=Fg h
     obtain⟨m,h2,h⟩:=Fg h
     split at h
     ·rename_i z hz
      obtain⟨hb,h⟩:=dT h
      have hz':=Ty.unflat_some _ _ _ hz
      have hzr:el.row z=List.zipWith zc el.shs el.zvs:=by
       rw [el.row_flat,hz',Tm]
      refine⟨Sk,_,{ S with gh:=S.gh++ [some ⟨el,List.replicate n.toNat z,none⟩] },kU,?_,TS.ok_gh hS (jL.app _ _),?_,h⟩
      ·simp only [j5,g1,Option.bind_some,bk,h1,h2]
       rw [K8 g2 g5 g6]
       simp only [Option.bind_some]
       have hn:n≤n*(ti.el:Int):=by
        have h1e: (1:Int)≤ti.el:=by omega
        have:=Int.mul_le_mul_of_nonneg_left h1e hb.1
        rwa [Int.mul_one] at this
       rw [if_pos ⟨hb.1,hb.2.1,by rw [g3,Int.mul_comm]; exact hb.2.2,Int.le_trans hn hb.2.2⟩]
       rw [LZ,g2]
       simp only [cc.tree,List.map_replicate,hzr]
       rfl
      ·refine⟨by simp,fun _=>⟨rfl,rfl,fun tr htr=> ?_⟩⟩
       rw [oV,if_pos rfl] at htr
       cases htr
       simp
     ·cases h
    ·cases h
   ·cases h
 | buildSlice t len parts=>
   simp only at h
   split at h
   ·rename_i ti hti
    split at h
    ·rename_i el he
     obtain⟨elT',g1,g2,g3,g4,g5,g6⟩:=(hΘ _ _ hti).el el he
     obtain⟨hb,h⟩:=aB h
     simp only [Bool.and_eq_true] at hb
     have hb1:len*el.width≤1048576:=Nat.le_of_ble_eq_true hb.1
     have hb2:=QR hb.2
     have hpl:parts.toList.length=len:=by
      have:=congrArg List.length hb2
      simpa using this
     cases hro: (parts.toList.map fun x=>S.opd x.2).any LU with
     | true=>
       rw [hro] at h
       simp only [cond_true] at h
       split at h
       ·rename_i l hl
        obtain⟨m1,m2,m3⟩:=IX el _ l hl
        refine⟨Sk, .v (.cl (.c (.ls el l))),S,kU,?_,hS,trivial,h⟩
        simp only [j5,g1,Option.bind_some]
        rw [if_pos ⟨by rw [g2]; exact hb1,hb2,by rw [g2]; exact el.width_pos,by rw [g6]; rfl,by
         rw [List.all_eq_true]
         intro y hy
         obtain⟨q1,q2⟩:=m3 (S.opd y.2) (List.mem_map.2 ⟨y,hy,rfl⟩)
         simp only [bk,q1,q2,g2]
         rfl⟩]
        have e1: (parts.toList.any fun x=>(opd S.st x.2).cells.any U4)=true:=by
         rw [List.any_eq_true] at hro ⊢
         obtain⟨v,hv,hr⟩:=hro
         obtain⟨x,hx,rfl⟩:=List.mem_map.1 hv
         exact⟨x,hx,by rw [bk]; exact Zp hr⟩
        have e2: (parts.toList.map fun x=>(opd S.st x.2).cells)=(parts.toList.map fun x=>S.opd x.2).map fun v=>v.av.cells:=by
         rw [List.map_map]
         exact List.map_congr_left fun x _=>by simp only [Function.comp,bk]
        rw [if_pos e1,e2,g5,m2,g2]
        rfl
       ·cases h
     | false=>
     rw [hro] at h
     simp only [cond_false] at h
     split at h
     ·rename_i l S1 hp
      have hvok: ∀ v∈parts.toList.map (fun x=>S.opd x.2),v.ok S.gh:=fun v hv=>by
       obtain⟨y,_,rfl⟩:=List.mem_map.1 hv
       exact ok _
      have hR: ∀ (m:Nat) (v:V),(parts.toList.map fun x=>S.opd x.2)[m]? =some v→(parts.toList.map fun x=>(opd S.st x.2).cells.map T.ofSc)[0+m]? =some (v.av.cells.map T.ofSc):=by
       intro m v hm
       rw [Nat.zero_add,List.getElem?_map]
       rw [List.getElem?_map] at hm
       simp only [Option.map_eq_some_iff] at hm
       obtain⟨y,hy,rfl⟩:=hm
       rw [hy]
       simp only [Option.map_some,bk]
      obtain⟨m1,m2,m3,m4⟩:=XE el S.gh.length (S.gh.length+1) _ 0 S S1 l _ hS rfl hvok hp (by simp) hR
      have hlen:l.length=len:=by rw [m2]; simp [hpl]
      refine⟨Sk,_,{ S1 with gh:=S1.gh++ [some ⟨el,l,none⟩] },kU,?_,TS.ok_gh m1.ok (jL.app _ _),?_,h⟩
      ·simp only [j5,g1,Option.bind_some]
       rw [if_pos ⟨by rw [g2]; exact hb1,hb2,by rw [g2]; exact el.width_pos,by rw [g6]; rfl,by
        rw [List.all_eq_true]
        intro y hy
        obtain⟨q1,q2⟩:=m3 (S.opd y.2) (List.mem_map.2 ⟨y,hy,rfl⟩)
        simp only [bk,q1,q2,g2]
        rfl⟩]
       have hfold:=Tn S.gh.length el.shs (opd S.st) parts.toList (parts.toList.map fun x=>S.opd x.2) 0 (S.with S.gh.length (S.gh.length+1) el.width (parts.toList.map fun x=>(opd S.st x.2).cells.map T.ofSc)) (by rw [hb2,hpl,List.range_eq_range']) (by
        rw [List.map_map]
        exact List.map_congr_left fun y _=>bk _)
       have e0: (parts.toList.any fun x=>(opd S.st x.2).cells.any U4)=false:=by
        rw [List.any_eq_false] at hro ⊢
        intro x hx
        have:=hro (S.opd x.2) (List.mem_map.2 ⟨x,hx,rfl⟩)
        rw [bk]
        exact fun hc=>this (Zq hc)
       rw [if_neg (by rw [e0]; decide)]
       have hX: ({ S.st with gh:=cm S.st.gh S.st.ng (some (.sl (P.cellsOf elT') (parts.toList.map fun x=>(opd S.st x.2).cells.map T.ofSc))),ng:=S.st.ng+1 }:St)=S.with S.gh.length (S.gh.length+1) el.width (parts.toList.map fun x=>(opd S.st x.2).cells.map T.ofSc):=by
        rw [g2]; rfl
       rw [hX,g5]
       have hng:S.st.ng=S.gh.length:=rfl
       rw [hng]
       have hres: (if (el.shs.all (· ==0))=true then some (S.with S.gh.length (S.gh.length+1) el.width (parts.toList.map fun x=>(opd S.st x.2).cells.map T.ofSc)) else
         parts.toList.foldlM (fun S' x=>dC S' ⟨S.gh.length,[]⟩ x.1 0 el.shs (opd S.st x.2).cells) (S.with S.gh.length (S.gh.length+1) el.width (parts.toList.map fun x=>(opd S.st x.2).cells.map T.ofSc)))=some (S1.with S.gh.length (S.gh.length+1) el.width (l.map el.row)):=by
        rw [hfold]
        simp only [List.take_zero,List.nil_append] at m4
        rw [m4]
        split
        ·rename_i hfl
         have : ∀ (vs:List V) (k:Nat) (X:St),AR S.gh.length el.shs k vs X=some X:=by
          intro vs
          induction vs with
          | nil=>intro k X; rfl
          | cons v vs ih=>intro k X; simp only [AR]; rw [Ob _ _ _ _ _ _ hfl]; exact ih _ _
         rw [this] at m4
         exact m4
        ·rfl
       rw [hres]
       simp only [Option.map_some]
       rw [LZ,m1.len,g2]
       simp only [V.av,V1.av,Cl.av,hlen]
       rfl
      ·refine⟨by simp,fun _=>⟨rfl,rfl,fun tr htr=> ?_⟩⟩
       rw [oV,if_pos rfl] at htr
       cases htr
       rfl
     ·cases h
    ·cases h
   ·cases h
 | call c=>
   obtain⟨cl,as,ts⟩:=c
   cases cl with
   | value f=>
     simp only at h
     exact Zg hΘ hY hS h
   | invoke a b=>exact vals h (fun D=>rfl)
   | builtin b=>
     cases b with
     | append=>
       simp only at h
       split at h
       ·rename_i s x t t' e1 e2
        cases htb:Nat.beq t t' with
        | false=>
          rw [htb] at h
          simp only [cond_false] at h
          have hne: ¬ t=t':=fun e=>by rw [e,Nat.beq_refl] at htb; cases htb
          unfold abT at h
          split at h
          ·rename_i ti hti
           split at h
           ·rename_i el he hs
            obtain⟨elT',g1,g2,g3,g4,g5,g6⟩:=(hΘ _ _ hti).el el he
            obtain⟨n,h1,h⟩:=Fg h
            split at h
            ·rename_i z hz
             obtain⟨hb,h⟩:=dT h
             have hz':=Ty.unflat_some _ _ _ hz
             have hzr:el.row z=List.zipWith zc el.shs el.zvs:=by
              rw [el.row_flat,hz',Tm]
             obtain⟨kk,hkk⟩:=aaW h1
             refine⟨Sk,_,{ S with gh:=S.gh++ [some ⟨el,List.replicate n.toNat z,none⟩] },kU,?_,TS.ok_gh hS (jL.app _ _),?_,h⟩
             ·simp only [j5,e1,e2,if_neg hne,g1,Option.bind_some]
              rw [K8 g2 g5 g6]
              simp only [Option.bind_some,bk,hs,hkk]
              have hn:n≤n*(ti.el:Int):=by
               have h1e: (1:Int)≤ti.el:=by omega
               have:=Int.mul_le_mul_of_nonneg_left h1e (Int.le_of_lt hb.1)
               rwa [Int.mul_one] at this
              show (if 0 < n∧_ then _ else _)=_
              rw [if_pos ⟨hb.1,by rw [g3,Int.mul_comm]; exact hb.2,Int.le_trans hn hb.2,by rw [g2]; exact el.width_pos⟩]
              rw [LZ,g2]
              simp only [cc.tree,List.map_replicate,hzr]
              rfl
             ·refine⟨by simp,fun _=>⟨rfl,rfl,fun tr htr=> ?_⟩⟩
              rw [oV,if_pos rfl] at htr
              cases htr
              simp
            ·cases h
           ·cases h
          ·cases h
        | true=>
        rw [htb] at h
        simp only [cond_true] at h
        have h':=h
        have ht:t=t':=Nat.eq_of_beq_eq_true htb
        clear h
        subst ht
        have e1:as= #[s,x] :=by apply Array.ext'; simpa using e1
        have e2:ts= #[t,t] :=by apply Array.ext'; simpa using e2
        subst e1 e2
        obtain⟨v,S1,h1,h2,h3,h4⟩:=aaS (D:=Sk) (dst:=dst) (ty:=ty) (pos:=pos) (aft:=aft) (gd:=gd) hΘ hS h'
        exact⟨Sk,v,S1,kU,h1,h2,h3,h4⟩
       ·cases h
     | _=>exact vals h (fun D=>rfl)
 | _=>exact vals h (fun D=>rfl)
end
end Go.Proofs.YtkcgfceffffmoaaGreat.En
namespace Go.Proofs.YtkcgfceffffmoaaGreat.En
open Go
section
variable {ρ:Type} {P:Program} {Θ:to} {S:TS} {Y:Fe}
theorem Tp (hS:S.ok) {ops:Array Oper} {o:Oper} {κ:Bool→TS→Option ρ} {r:ρ} (h:WF S ops.toList o κ=some r): ∃ b S1,qC S.st ops o=some b∧S1.st=S.st∧S1.ok∧S1.gh=S.gh∧κ b S1=some r:=by
 unfold WF at h
 split at h
 ·rename_i hg
  exact⟨true,S,by unfold qC; rw [hg],rfl,hS,rfl,h⟩
 ·rename_i j want hg
  split at h
  ·rename_i oj hj
   split at h
   ·rename_i d hd
    rw [ej,Array.getElem?_toList] at hj
    split at h
    ·rename_i he
     refine⟨_,S,?_,rfl,hS,rfl,h⟩
     unfold qC
     rw [hg]
     simp only [hj,Option.bind_some,hd]
     have :S.st.env d= .tup [] :=by show (ki S.env d).av=_; rw [he]; rfl
     rw [this]
    ·obtain⟨b,S1,h1,h2,h3,h4,h5⟩:=LY hS h
     refine⟨_,S1,?_,h2,h3,h4,h5⟩
     unfold qC
     rw [hg]
     simp only [hj,Option.bind_some,hd]
     have :S.st.env d= .sc (.bool b):=h1
     rw [this]
   ·cases h
  ·cases h
theorem rn (hS:S.ok) {d:Option Tmp} {v:V} (hv:v.ok S.gh) {κ:TS→Option ρ} {r:ρ} (h:xF S d v κ=some r): ∃ S1,S.st.put d v.av=some (TS.st S1)∧S1.ok∧S1.gh=S.gh∧κ S1=some r:=by
 unfold xF at h
 split at h
 ·rename_i t
  obtain⟨h1,h⟩:=aB h
  have h1:t < S.nt:=Nat.le_of_ble_eq_true h1
  refine⟨{ S with env:=(t,v)::S.env },?_,⟨fun x hx=> ?_,hS.bx⟩,rfl,h⟩
  ·simp only [St.put]
   rw [if_pos (show t < S.st.nt from h1)]
   congr 1
   unfold TS.st
   congr 1
   funext u
   unfold cm
   simp only [ki]
   cases hb:Nat.beq t u with
   | true=>
     have :t=u:=Nat.eq_of_beq_eq_true hb
     subst this
     simp
   | false=>
     have : ¬ u=t:=by intro e; subst e; rw [Nat.beq_refl] at hb; cases hb
     rw [if_neg this]
     rfl
  ·rcases List.mem_cons.1 hx with rfl | hx
   ·exact hv
   ·exact hS.env x hx
 ·exact⟨S,rfl,hS,rfl,h⟩
theorem Zr {α:Type} {x y:Option α} {r:α} (h:Y0 x y none=some r):x=some r∧y=some r:=by
 unfold Y0 at h
 split at h
 ·rename_i e
  exact⟨h,by rw [←e]; exact h⟩
 ·cases h
theorem Zs {α:Type} (x z:α):Y0 x x z=x:=by unfold Y0; rw [if_pos rfl]
theorem QT {o:Oper} {t:TypeId} {x:Operand} (h:K6 o=some (t,x)): (∃ t',o.op= .binOp .eql t x (.const (.slice none 0 0)) t')∧o.guard=none:=by
 unfold K6 at h
 split at h
 ·rename_i t1 x1 t' ho
  split at h
  ·rename_i hg
   simp only [Option.some.injEq,Prod.mk.injEq] at h
   obtain⟨rfl,rfl⟩:=h
   exact⟨⟨t',ho⟩,hg⟩
  ·cases h
 ·cases h
theorem VB {o:Oper} {k:Nat} {g:FuncId} {caps:List Cl} {r sz:Nat} {us:List TypeId} {xs:List Operand} (h:S9 Y S o=some (k,g,caps,r,sz,us,xs)):
  ∃ f as ts x t lo len,o.op= .call { callee:= .value f,args:=as,argTypes:=ts } ∧o.guard=none∧as.toList=x::xs∧ts.toList=t::us∧S.opd x= .v (.cl (.own ⟨r,[]⟩ sz lo len true))∧g < kQ∧
    ((∃ a b,S.opd f= .v (.cl (.c (.sc (.func (.func g) a b))))∧caps= [])∨S.opd f= .v (.fn g caps)):=by
 unfold S9 at h
 split at h
 ·rename_i f as ts hop
  split at h
  ·cases h
  ·rename_i hg
   split at h
   ·rename_i x xs' t us' e1 e2
    split at h
    ·rename_i r' sz' lo len hx
     split at h
     ·rename_i g' a b hf
      obtain⟨h2,h⟩:=aB h
      simp only [Bool.and_eq_true] at h2
      simp only [Option.some.injEq,Prod.mk.injEq] at h
      obtain⟨rfl,rfl,rfl,rfl,rfl,rfl,rfl⟩:=h
      exact⟨f,as,ts,x,t,lo,len,hop,hg,e1,e2,hx,Nat.le_of_ble_eq_true h2.1, .inl ⟨a,b,hf,rfl⟩⟩
     ·rename_i g' caps' hf
      obtain⟨h2,h⟩:=aB h
      simp only [Bool.and_eq_true] at h2
      simp only [Option.some.injEq,Prod.mk.injEq] at h
      obtain⟨rfl,rfl,rfl,rfl,rfl,rfl,rfl⟩:=h
      exact⟨f,as,ts,x,t,lo,len,hop,hg,e1,e2,hx,Nat.le_of_ble_eq_true h2.1, .inr hf⟩
     ·cases h
    ·cases h
   ·cases h
 ·cases h
theorem Hm (hΘ:fk P Θ) (hS:S.ok): ∀ (ts:List TypeId) (as:List Operand) (κ:List V1→Option ρ) (r:ρ),xD Θ S ts as κ=some r→ts.length=as.length
 | [],[],_,_,_=>rfl
 | [],_::_,_,_,h=>by simp [xD] at h
 | _::_,[],_,_,h=>by simp [xD] at h
 | t::ts,a::as,κ,r,h=>by
   unfold xD at h
   obtain⟨v,_,h⟩:=Zf hΘ hS (oU hS a) h
   rw [List.length_cons,List.length_cons,Hm hΘ hS ts as _ r h]
theorem Zt (hΘ:fk P Θ) (hY:au P Y) (hS:S.ok) {ops:Array Oper} {o:Oper} {os:List Oper} {Post:St→Prop} {k:Nat} {g:FuncId} {caps:List Cl} {q sz:Nat} {us:List TypeId} {xs:List Operand} (ht:S9 Y S o=some (k,g,caps,q,sz,us,xs)) {κ:TS→Option ρ} {r:ρ}
  (ih: ∀ S3:TS,S3.ok→κ S3=some r→xB P ops os S3.st Post) (h:Y2 Θ Y S k g caps q sz us xs o.dst κ=some r):xB P ops (o::os) S.st Post:=by
 obtain⟨f,as,ts,x,t,lo,len,hop,hgd,has,hts,hx,hgk,hf⟩:=VB ht
 unfold Y2 at h
 split at h
 ·rename_i el l hq
  obtain⟨hsz0,h0⟩:=aB h
  have hsz:sz=el.width:=Nat.eq_of_beq_eq_true hsz0
  clear h hsz0
  subst hsz
  have h:=h0
  clear h0
  have hql:q < S.gh.length:=by
   rcases Nat.lt_or_ge q S.gh.length with h' | h'
   ·exact h'
   ·rw [Cf h'] at hq; cases hq
  have hS0: ({ S with gh:=dS S.gh q none }:TS).ok:=TS.ok_gh hS (jL.gone _ _)
  have hst0: ({ S with gh:=dS S.gh q none }:TS).st= { S.st with gh:=cm S.st.gh q none } :=Fh S q
  have hlen:=Hm hΘ hS0 _ _ _ _ h
  obtain⟨vs,h1,h⟩:=xH hΘ hS0 _ _ _ _ h
  have hcaps: ∀ c∈caps,c.ok (dS S.gh q none):=by
   intro c hc
   rcases hf with ⟨_,_,_,rfl⟩ | hf
   ·cases hc
   ·have:=oU hS f
    rw [hf] at this
    exact Cl.ok_mono (jL.gone _ _) (this c hc)
  obtain⟨cs,h2,h⟩:=Fi hS0 _ _ _ hcaps h
  have hargs:zw P { S.st with gh:=cm S.st.gh q none } us xs (caps.map Cl.av)=(vs++cs.map V1.cl).map V1.av:=by
   unfold zw
   rw [←hst0,h1,h2,List.map_append,List.map_map]
   rfl
  have hcal:callee S.st f=some (g,caps.map Cl.av):=by
   unfold callee
   rw [bk]
   rcases hf with ⟨_,_,hf,rfl⟩ | hf <;> (rw [hf]; rfl)
  have hxo:=oU hS x
  rw [hx] at hxo
  obtain⟨_,hxo⟩:=hxo
  obtain⟨_,hlo,hln⟩:=hxo rfl
  have hln:=hln _ hq
  subst hlo hln
  have hxv:opd S.st x= .own ⟨q,[]⟩ el.width 0 l.length:=by rw [bk,hx]; rfl
  have htr:S.st.gh q=some (.sl el.width (l.map el.row)):=by
   show (dG S.gh q).map cc.tree=_
   rw [hq]
   rfl
  cases hk:Nat.beq k 1 with
  | true=>
    rw [hk] at h
    simp only [cond_true] at h
    obtain⟨res,out,g1,g2,h⟩:=hY _ _ _ _ _ h
    have g1:=(g1.io g rfl hgk).get
    split at h
    ·rename_i t' l' _
     obtain⟨hc,h⟩:=aB h
     simp only [Bool.and_eq_true,decide_eq_true_eq] at hc
     obtain⟨rfl,hns⟩:=hc
     unfold aq at h
     split at h
     ·rename_i hll
      have hG:jL S.gh (dS S.gh q (some ⟨t',l',none⟩)):=jL.put hq hll
      have hrp:res.av.plain=true:=by
       unfold Vw at hns
       split at hns <;> first | rfl | cases hns
      have hro:res.ok (dS S.gh q (some ⟨t',l',none⟩)):=by
       unfold Vw at hns
       split at hns
       ·trivial
       ·intro x hx; cases hx
       ·cases hns
      obtain⟨S3,k1,k2,_,h⟩:=rn (S:= { S with gh:=dS S.gh q (some ⟨t',l',none⟩) }) (TS.ok_gh hS hG) hro h
      rw [Hi S _ hql] at k1
      refine xB.hand hop hgd has hlen hcal hxv htr (m:=1) (by rw [hargs]; exact g1) (.inr ⟨rfl,_,rfl,hrp,S3.st,k1,ih S3 k2 h⟩)
     ·cases h
    ·cases h
  | false=>
    rw [hk] at h
    simp only [cond_false] at h
    obtain⟨hfz0,h⟩:=aB h
    have hfz:S.st.fz≤q:=Nat.le_of_ble_eq_true hfz0
    obtain⟨res,out,g1,g2,h⟩:=hY _ _ _ _ _ h
    have g1:=(g1.mv g rfl).get
    have hl0: (dS S.gh q none).length=S.gh.length:=by rw [hO]; simp
    have hro: (yG S.gh.length res).ok (dS S.gh q none++out.map some):=by
     have:=Hk (G:=dS S.gh q none) g2
     rwa [hl0] at this
    obtain⟨S3,k1,k2,_,h⟩:=rn (S:= { S with gh:=dS S.gh q none++out.map some }) (TS.ok_gh hS0 (jL.apps _ _)) hro h
    rw [show ({ S with gh:=dS S.gh q none++out.map some }:TS).st=_ from DN { S with gh:=dS S.gh q none } res.av out,hst0,Hj] at k1
    exact xB.hand hop hgd has hlen hcal hxv htr (m:=0) (by rw [hargs]; exact g1) (.inl ⟨hfz,S3.st,k1,ih S3 k2 h⟩)
 ·cases h
structure wo (S S1:TS) (L:List Nat):Prop where
 env:S1.env=S.env
 bx:S1.bx=S.bx
 fz:S1.fz=S.fz
 nt:S1.nt=S.nt
 len:S1.gh.length=S.gh.length
 gh: ∀ r,dG S1.gh r=if L.contains r then none else dG S.gh r
 was: ∀ q∈L,∃ tr,dG S.gh q=some tr
theorem wo.refl (S:TS):wo S S [] :=⟨rfl,rfl,rfl,rfl,rfl,fun _=>by simp,fun _ h=>by cases h⟩
theorem wo.one {q:Nat} {tr:cc} (h:dG S.gh q=some tr):wo S { S with gh:=dS S.gh q none } [q] :=
 ⟨rfl,rfl,rfl,rfl,by simp [hO],fun r=>by
  show dG (dS S.gh q none) r=_
  rw [t8 q r (.inr rfl)]
  by_cases hr:r=q
  ·subst hr; simp
  ·rw [if_neg hr,if_neg (by simpa using hr)],fun r hr=>by rw [List.mem_singleton.1 hr]; exact⟨tr,h⟩⟩
theorem wo.trans {S1 S2:TS} {L L':List Nat} (h:wo S S1 L) (k:wo S1 S2 L'):wo S S2 (L++L'):=
 ⟨k.env.trans h.env,k.bx.trans h.bx,k.fz.trans h.fz,k.nt.trans h.nt,k.len.trans h.len,fun r=>by
  rw [k.gh,h.gh]
  have e: (L++L').contains r=(L.contains r||L'.contains r):=by
   rw [Bool.eq_iff_iff]
   simp
  rw [e]
  cases L.contains r <;> cases L'.contains r <;> rfl,fun q hq=>by
  rcases List.mem_append.1 hq with hq | hq
  ·exact h.was q hq
  ·obtain⟨tr,ht⟩:=k.was q hq
   rw [h.gh] at ht
   split at ht
   ·cases ht
   ·exact⟨tr,ht⟩⟩
theorem wo.apart {S1 S2:TS} {L L':List Nat} (h:wo S S1 L) (k:wo S1 S2 L') (h1:L.Nodup) (h2:L'.Nodup): (L++L').Nodup:=by
 rw [List.nodup_append]
 refine⟨h1,h2,fun a ha b hb e=> ?_⟩
 subst e
 obtain⟨tr,ht⟩:=k.was a hb
 rw [h.gh,if_pos (by simpa using ha)] at ht
 cases ht
theorem wo.le {S1:TS} {L:List Nat} (h:wo S S1 L):jL S.gh S1.gh:=⟨by rw [h.len]; exact Nat.le_refl _,fun r tr _ ht=>by
 rw [h.gh] at ht
 split at ht
 ·cases ht
 ·exact⟨tr,ht,rfl⟩⟩
theorem wo.ok {S1:TS} {L:List Nat} (h:wo S S1 L) (hS:S.ok):S1.ok:=
 ⟨fun x hx=>V.ok_mono h.le (hS.env x (by rw [←h.env]; exact hx)),fun cs hcs c hc=>Cl.ok_mono h.le (hS.bx cs (by rw [←h.bx]; exact hcs) c hc)⟩
theorem wo.st {S1:TS} {L:List Nat} (h:wo S S1 L):S1.st=dropL S.st L:=by
 unfold TS.st dropL
 rw [h.env,h.bx,h.fz,h.nt,h.len]
 simp only
 congr 1
 funext r
 rw [h.gh]
 cases L.contains r <;> rfl
theorem Tq {o:Oper} {g:FuncId} {caps:List Cl} {a:Vx} {us:List TypeId} {xs:List Operand} (h:LV Y S o=some (g,caps,a,us,xs)):
  ∃ f as ts x t,o.op= .call { callee:= .value f,args:=as,argTypes:=ts } ∧o.guard=none∧as.toList=x::xs∧ts.toList=t::us∧QM (S.opd x)=some a∧g < kQ∧
    ((∃ a b,S.opd f= .v (.cl (.c (.sc (.func (.func g) a b))))∧caps= [])∨S.opd f= .v (.fn g caps)):=by
 unfold LV at h
 split at h
 ·rename_i f as ts hop
  split at h
  ·cases h
  ·rename_i hg
   split at h
   ·rename_i x xs' t us' e1 e2
    split at h
    ·rename_i a' hx
     split at h
     ·rename_i g' a b hf
      obtain⟨h2,h⟩:=aB h
      simp only [Bool.and_eq_true] at h2
      simp only [Option.some.injEq,Prod.mk.injEq] at h
      obtain⟨rfl,rfl,rfl,rfl,rfl⟩:=h
      exact⟨f,as,ts,x,t,hop,hg,e1,e2,hx,Nat.le_of_ble_eq_true h2.1, .inl ⟨a,b,hf,rfl⟩⟩
     ·rename_i g' caps' hf
      obtain⟨h2,h⟩:=aB h
      simp only [Bool.and_eq_true] at h2
      simp only [Option.some.injEq,Prod.mk.injEq] at h
      obtain⟨rfl,rfl,rfl,rfl,rfl⟩:=h
      exact⟨f,as,ts,x,t,hop,hg,e1,e2,hx,Nat.le_of_ble_eq_true h2.1, .inr hf⟩
     ·cases h
    ·cases h
   ·cases h
 ·cases h
theorem PU: ∀ (L:List Nat) (S:TS),L.Nodup→(∀ r∈L,∃ tr,dG S.gh r=some tr)→wo S { S with gh:=Y3 S.gh L } L
 | [],S,_,_=>wo.refl S
 | r::L,S,hnd,h=>by
   obtain⟨tr,htr⟩:=h r List.mem_cons_self
   rw [List.nodup_cons] at hnd
   have h1:=wo.one htr
   have h2:=PU L { S with gh:=dS S.gh r none } hnd.2 (fun r' hr'=>by
    obtain⟨tr',htr'⟩:=h r' (List.mem_cons_of_mem _ hr')
    refine⟨tr',?_⟩
    rw [h1.gh,if_neg]
    ·exact htr'
    ·intro hc
     rw [List.contains_iff_mem,List.mem_singleton] at hc
     subst hc
     exact hnd.1 hr')
   exact h1.trans h2
theorem DQ: ∀ (cs:List Cl) (ys:List C) (L:List Nat),Cc S cs=some (ys,L)→(∀ c∈cs,c.ok S.gh)→ys.length=cs.length∧(qy ys).length=L.length∧
  (∀ (k r:Nat),L[k]? =some r→ ∃ el l,(qy ys)[k]? =some ⟨el,l,none⟩∧dG S.gh r=some ⟨el,l,none⟩)∧
  ∀ (w:World) (bt bt':Bt) (m:Nat),(∀ (k r:Nat),L[k]? =some r→bt'.β ⟨m+k,[]⟩=bt.β ⟨r,[]⟩∧bt'.κ ⟨m+k,[]⟩=bt.κ ⟨r,[]⟩∧m+k < bt'.ng)→
    ∀ (j:Nat) (c c':Cl) (u:Value),cs[j]? =some c→(Aj ys m)[j]? =some c'→VR w bt c.av u→VR w bt' c'.av u
 | [],ys,L,h,_=>by
   simp only [Cc,Option.some.injEq,Prod.mk.injEq] at h
   obtain⟨rfl,rfl⟩:=h
   exact⟨rfl,rfl,fun k r hk=>by simp at hk,fun w bt bt' m _ j c c' u hj=>by simp at hj⟩
 | c0::cs,ys,L,h,hok=>by
   unfold Cc at h
   split at h
   ·cases ‹_= []›
   ·rename_i v cs' e
    simp only [List.cons.injEq] at e
    obtain⟨rfl,rfl⟩:=e
    split at h
    ·rename_i ys' L' hr
     simp only [Option.some.injEq,Prod.mk.injEq] at h
     obtain⟨rfl,rfl⟩:=h
     obtain⟨h1,h2,h3,h4⟩:=DQ cs ys' L' hr (fun c hc=>hok c (List.mem_cons_of_mem _ hc))
     refine⟨by simp [h1],h2,h3,fun w bt bt' m hm j c c' u hj hj' hv=> ?_⟩
     cases j with
     | zero=>
       simp only [Aj,List.getElem?_cons_zero,Option.some.injEq] at hj hj'
       subst hj hj'
       cases hv with
       | sc h=>exact .sc h
     | succ j=>exact h4 w bt bt' m hm j c c' u (by simpa using hj) (by simpa [Aj] using hj') hv
    ·cases h
   ·rename_i r sz lo len cs' e
    simp only [List.cons.injEq] at e
    obtain⟨rfl,rfl⟩:=e
    split at h
    ·rename_i el l hg
     obtain⟨hsz,h0⟩:=aB h
     have hsz:sz=el.width:=Nat.eq_of_beq_eq_true hsz
     clear h
     split at h0
     ·rename_i ys' L' hr
      simp only [Option.some.injEq,Prod.mk.injEq] at h0
      obtain⟨rfl,rfl⟩:=h0
      obtain⟨h1,h2,h3,h4⟩:=DQ cs ys' L' hr (fun c hc=>hok c (List.mem_cons_of_mem _ hc))
      obtain⟨_,hlo⟩:=hok (.own ⟨r,[]⟩ sz lo len true) List.mem_cons_self
      obtain⟨_,hlo,hln⟩:=hlo rfl
      have hln:=hln _ hg
      simp only at hln
      refine⟨by simp [h1],by simp [qy,h2],fun k r' hk=> ?_,fun w bt bt' m hm j c c' u hj hj' hv=> ?_⟩
      ·cases k with
       | zero=>
         simp only [List.getElem?_cons_zero,Option.some.injEq] at hk
         subst hk
         exact⟨el,l,rfl,hg⟩
       | succ k=>exact h3 k r' (by simpa using hk)
      ·cases j with
       | zero=>
         simp only [Aj,List.getElem?_cons_zero,Option.some.injEq] at hj hj'
         subst hj hj' hsz hlo hln
         obtain⟨e1,e2,e3⟩:=hm 0 r rfl
         rw [Nat.add_zero] at e1 e2 e3
         cases hv with
         | own hp hc hk ha=>exact .own e3 hc (by rw [e2]; exact hk) (by rw [e1]; exact ha)
       | succ j=>exact h4 w bt bt' (m+1) (fun k r' hk=>by
         have:=hm (k+1) r' (by simpa using hk)
         rwa [show m+(k+1)=m+1+k by omega] at this) j c c' u (by simpa using hj) (by simpa [Aj] using hj') hv
     ·cases h0
    ·cases h
   ·cases h
theorem wq: ∀ (ys:List C) (m:Nat),(Aj ys m).length=ys.length
 | [],_=>rfl
 | .sc v::r,m=>by simp [Aj,wq r m]
 | .ls t l::r,m=>by simp [Aj,wq r (m+1)]
theorem Ts: ∀ (L:List Nat) (S:TS) (out:List cc) (κ:TS→Option ρ) (r:ρ),L.Nodup→LW S L out κ=some r→
  ∃ Sp:TS,Sp.env=S.env∧Sp.bx=S.bx∧Sp.fz=S.fz∧Sp.nt=S.nt∧Sp.gh.length=S.gh.length∧out.length=L.length∧(∀ (k q:Nat),L[k]? =some q→dG Sp.gh q=out[k]?)∧(∀ q,q∉L→dG Sp.gh q=dG S.gh q)∧jL S.gh Sp.gh∧κ Sp=some r
 | [],S,out,κ,r,_,h=>by
   cases out with
   | nil=>exact⟨S,rfl,rfl,rfl,rfl,rfl,rfl,fun k q hk=>by simp at hk,fun _ _=>rfl,jL.refl _,h⟩
   | cons x out=>simp [LW] at h
 | q::L,S,out,κ,r,hnd,h=>by
   rw [List.nodup_cons] at hnd
   cases out with
   | nil=>simp [LW] at h
   | cons x out=>
     obtain⟨t,l',hole⟩:=x
     cases hole with
     | some y=>simp [LW] at h
     | none=>
       simp only [LW] at h
       split at h
       ·rename_i el l hg
        obtain⟨ht,h⟩:=aB h
        have ht:t=el:=by simpa using ht
        subst ht
        obtain⟨hl,h⟩:=dT h
        obtain⟨Sp,a1,a2,a3,a4,a5,a6,a7,a8,a9,h⟩:=Ts L { S with gh:=dS S.gh q (some ⟨t,l',none⟩) } out κ r hnd.2 h
        have hql:=yH hg
        have hG:jL S.gh (dS S.gh q (some ⟨t,l',none⟩)):=jL.put hg hl
        refine⟨Sp,a1,a2,a3,a4,by rw [a5]; simp [hO],by simp [a6],fun k q' hk=> ?_,fun q' hq'=> ?_,hG.trans a9,h⟩
        ·cases k with
         | zero=>
           simp only [List.getElem?_cons_zero,Option.some.injEq] at hk
           subst hk
           rw [a8 q hnd.1]
           show dG (dS S.gh q _) q=_
           rw [t8 q q (.inl hql),if_pos rfl]
           rfl
         | succ k=>
           rw [a7 k q' (by simpa using hk)]
           simp
        ·rw [a8 q' (fun hm=>hq' (List.mem_cons_of_mem _ hm))]
         show dG (dS S.gh q _) q'=_
         rw [t8 q q' (.inl hql),if_neg (fun e=>hq' (by rw [e]; exact List.mem_cons_self))]
       ·cases h
theorem Mb {res:V} (h:Vw res=true):res.av.plain=true∧ ∀ G,res.ok G:=by
 unfold Vw at h
 split at h
 ·exact⟨rfl,fun _=>trivial⟩
 ·exact⟨rfl,fun _ x hx=>by cases hx⟩
 ·cases h
theorem XF (hΘ:fk P Θ) (hY:au P Y) (hS:S.ok) {ops:Array Oper} {o:Oper} {os:List Oper} {Post:St→Prop} {g:FuncId} {caps:List Cl} {a:Vx} {us:List TypeId} {xs:List Operand} (ht:LV Y S o=some (g,caps,a,us,xs)) {κ:TS→Option ρ} {r:ρ}
  (ih: ∀ S3:TS,S3.ok→κ S3=some r→xB P ops os S3.st Post) (h:QN Θ Y S g caps a us xs o.dst κ=some r):xB P ops (o::os) S.st Post:=by
 obtain⟨f,as,ts,x,t0,hop,hgd,has,hts,hx,hgk,hf⟩:=Tq ht
 have hcal:callee S.st f=some (g,caps.map Cl.av):=by
  unfold callee
  rw [bk]
  rcases hf with ⟨_,_,hf,rfl⟩ | hf <;> (rw [hf]; rfl)
 have others: ∀ {S0:TS} (hS0:S0.ok) (hG:jL S.gh S0.gh) {K:List V1→List Cl→Option ρ},(xD Θ S0 us xs fun vs=>LS (Xy S0 none) caps fun ks=>K vs ks)=some r→
   ∃ vs ks,us.length=xs.length∧zw P S0.st us xs (caps.map Cl.av)=(vs++ks.map V1.cl).map V1.av∧K vs ks=some r:=by
  intro S0 hS0 hG K h
  have hlen:=Hm hΘ hS0 _ _ _ _ h
  obtain⟨vs,h1,h⟩:=xH hΘ hS0 _ _ _ _ h
  have hcaps: ∀ c∈caps,c.ok S0.gh:=by
   intro c hc
   rcases hf with ⟨_,_,_,rfl⟩ | hf
   ·cases hc
   ·have:=oU hS f
    rw [hf] at this
    exact Cl.ok_mono hG (this c hc)
  obtain⟨ks,h2,h⟩:=Fi hS0 _ _ _ hcaps h
  refine⟨vs,ks,hlen,?_,h⟩
  unfold zw
  rw [h1,h2,List.map_append,List.map_map]
  rfl
 have hxo:=oU hS x
 cases a with
 | agg cs=>
   have hxv:S.opd x= .v (.agg cs):=by
    unfold QM at hx
    split at hx
    ·cases hx
    ·rename_i e
     simp only [Option.some.injEq,Vx.agg.injEq] at hx
     rw [e,hx]
    ·cases hx
   rw [hxv] at hxo
   unfold QN at h
   simp only at h
   split at h
   ·rename_i ys L hga
    obtain⟨hnd,h0⟩:=aB h
    clear h
    have hnd:L.Nodup:=K2.1 hnd
    obtain⟨g1,g2,g3,g4⟩:=DQ cs ys L hga hxo
    have hd:=PU L S hnd (fun q hq=>by
     obtain⟨k,hk,hkq⟩:=List.getElem_of_mem hq
     obtain⟨el,l,_,e⟩:=g3 k q (by rw [←hkq]; exact List.getElem?_eq_getElem hk)
     exact⟨_,e⟩)
    obtain⟨vs,ks,hlen,hargs,h⟩:=others (hd.ok hS) hd.le h0
    obtain⟨res,out,k1,k2,h⟩:=hY _ _ _ _ _ h
    have k1:=(k1.io g rfl hgk).getA
    obtain⟨hns,h⟩:=aB h
    obtain⟨hpl,hrok⟩:=Mb hns
    obtain⟨Sp,a1,a2,a3,a4,a5,a6,a7,a8,a9,h⟩:=Ts L S out _ r hnd h
    have hSp:Sp.ok:=⟨fun x hx=>V.ok_mono a9 (hS.env x (by rw [←a1]; exact hx)),fun cs hcs c hc=>Cl.ok_mono a9 (hS.bx cs (by rw [←a2]; exact hcs) c hc)⟩
    obtain⟨S3,m1,m2,_,h⟩:=rn hSp (hrok _) h
    have hGave:LN S.st (L.map fun r=>⟨r,[]⟩) ((qy ys).map cc.tree):=Vm (by simp [g2]) hnd (fun k q hk=>by
     obtain⟨el,l,e1,e2⟩:=g3 k q hk
     refine⟨el.width,l.map el.row,by rw [List.getElem?_map,e1]; rfl,?_⟩
     show (dG S.gh q).map cc.tree=_
     rw [e2]
     rfl)
    have hps: (L.map fun r=>(⟨r,[]⟩:ci)).length=(qy ys).length:=by rw [List.length_map,g2]
    have hout: (out.map cc.tree).length=L.length:=by rw [List.length_map,a6]
    refine xB.handG hop hgd has hlen hcal (Vn L) (fun w0 W bt w hI=>hI.dropL L) hGave (av0:= .agg ((Aj ys 0).map Cl.av)) (fun w bt u hv=> ?_) (res:=res.av) (out:=out.map cc.tree) (by rw [←hd.st,hargs,hps]; exact k1)
     (Vo hGave hout (by unfold TS.st; simp only [a1]) (by unfold TS.st; simp only [a2]) (by unfold TS.st; simp only [a2]) (by unfold TS.st; simp only [a5]) a3 a4 (fun k q hk=>by
       show (dG Sp.gh q).map cc.tree=_
       rw [a7 k q hk,List.getElem?_map]) (fun q hq=>by
       show (dG Sp.gh q).map cc.tree=(dG S.gh q).map cc.tree
       rw [a8 q hq])) hpl ⟨S3.st,m1,ih S3 m2 h⟩
    rw [bk,hxv] at hv
    have hv:VR w bt (.agg (cs.map Cl.av)) u:=hv
    cases hv with
    | agg hl ho hr=>
      rename_i us0
      refine .agg (by rw [List.length_map,wq,g1]; simpa using hl) ho (fun k c u hk hu=> ?_)
      rw [List.getElem?_map] at hk
      simp only [Option.map_eq_some_iff] at hk
      obtain⟨c',hc',rfl⟩:=hk
      have hkl:k < cs.length:=by
       have:=(List.getElem?_eq_some_iff.1 hc').1
       rw [wq,g1] at this
       exact this
      refine g4 w bt _ 0 (fun i q hi=> ?_) k cs[k] c' u (List.getElem?_eq_getElem hkl) hc' (hr k _ u (by rw [List.getElem?_map,List.getElem?_eq_getElem hkl]; rfl) hu)
      have hpi: (L.map fun r=>(⟨r,[]⟩:ci))[(⟨0+i,[]⟩:ci).r]? =some ⟨q,[]⟩:=by
       rw [List.getElem?_map]
       show (L[0+i]?).map _=_
       rw [Nat.zero_add,hi]
       rfl
      have hpl2:=Hc hpi
      refine⟨?_,?_,?_⟩
      ·show bt.β (Sj _ _)=_
       rw [hpl2]
       rfl
      ·show bt.κ (Sj _ _)=_
       rw [hpl2]
       rfl
      ·show 0+i < (L.map fun r=>(⟨r,[]⟩:ci)).length
       rw [List.length_map,Nat.zero_add]
       exact (List.getElem?_eq_some_iff.1 hi).1
   ·cases h
 | nest q i j sz lo len=>
   obtain⟨w0,hxv⟩: ∃ w,S.opd x= .v (.cl (.own ⟨q,[(i,j)]⟩ sz lo len w)):=by
    unfold QM at hx
    split at hx
    ·rename_i w e
     simp only [Option.some.injEq,Vx.nest.injEq] at hx
     obtain⟨rfl,rfl,rfl,rfl,rfl,rfl⟩:=hx
     exact⟨_,e⟩
    ·cases hx
    ·cases hx
   rw [hxv] at hxo
   unfold QN at h
   simp only at h
   split at h
   ·rename_i t l hq
    obtain⟨y,hy,h⟩:=Option.bind_eq_some_iff.1 h
    split at h
    ·rename_i el v hv
     obtain⟨hsz,h0⟩:=aB h
     have hsz:sz=el.width:=Nat.eq_of_beq_eq_true hsz
     clear h
     subst hsz
     obtain⟨hll,h1⟩:=dT h0
     clear h0
     obtain⟨rfl,rfl⟩:=hll
     have hql:=yH hq
     have hhole:jL S.gh (dS S.gh q (some ⟨t,l,some (i,j)⟩)):=jL.put hq rfl
     obtain⟨vs,ks,hlen,hargs,h⟩:=others (S0:= { S with gh:=dS S.gh q (some ⟨t,l,some (i,j)⟩) }) (TS.ok_gh hS hhole) hhole h1
     clear h1
     obtain⟨res,out,k1,k2,h⟩:=hY _ _ _ _ _ h
     have k1:=(k1.io g rfl hgk).get
     split at h
     ·rename_i t' v' _
      obtain⟨hc,h⟩:=aB h
      simp only [Bool.and_eq_true,decide_eq_true_eq] at hc
      obtain⟨rfl,hns⟩:=hc
      obtain⟨hpl,hrok⟩:=Mb hns
      obtain⟨hvl,h⟩:=dT h
      split at h
      ·rename_i z hz
       have hG:jL S.gh (dS S.gh q (some ⟨t,l.set i z,none⟩)):=jL.put hq (by simp)
       obtain⟨S3,m1,m2,_,h⟩:=rn (S:= { S with gh:=dS S.gh q (some ⟨t,l.set i z,none⟩) }) (TS.ok_gh hS hG) (hrok _) h
       have hrowy: (l.map t.row)[i]? =some ((t.flat y).map C.tree):=by
        rw [List.getElem?_map,hy]
        simp only [Option.map_some,t.row_flat]
       have hcell: ((t.flat y).map C.tree)[j]? =some (.sl t'.width (v.map t'.row)):=by
        rw [ej] at hv
        rw [List.getElem?_map,hv]
        rfl
       have hgq:S.st.gh q=some (.sl t.width (l.map t.row)):=by
        show (dG S.gh q).map cc.tree=_
        rw [hq]
        rfl
       have hlook:S.st.look ⟨q,[(i,j)]⟩= .sl t'.width (v.map t'.row):=by
        unfold St.look
        simp only [hgq,T.go,T.cell,List.getD_eq_getElem?_getD,hrowy,Option.getD_some,hcell]
       have hforget: ∀ (w0:World) (W:Nat→Prop) (bt:Bt) (w:World),ed w0 W bt S.st w→_:=fun w0 W bt w hI=>hI.forget hlook
       have hSm: ({ S with gh:=dS S.gh q (some ⟨t,l,some (i,j)⟩) }:TS).st=S.st.setAt ⟨q,[(i,j)]⟩ .dd:=by
        rw [Hi S _ hql]
        unfold St.setAt
        simp only [hgq,Option.map_some]
        rfl
       have hSp: ({ S with gh:=dS S.gh q (some ⟨t,l.set i z,none⟩) }:TS).st=S.st.setAt ⟨q,[(i,j)]⟩ (.sl t'.width (v'.map t'.row)):=by
        rw [Hi S _ hql]
        unfold St.setAt
        simp only [hgq,Option.map_some,T.put]
        congr 3
        show T.sl t.width ((l.set i z).map t.row)=_
        rw [List.map_set,t.row_flat z,t.unflat_some _ _ hz,hO,List.map_set]
        simp only [List.getD_eq_getElem?_getD,hrowy,Option.getD_some]
        rfl
       rw [hSp] at m1
       refine xB.handG hop hgd has hlen hcal (Sm:=S.st.setAt ⟨q,[(i,j)]⟩ .dd) (ps:= [⟨q,[(i,j)]⟩]) ?_ (fun w0 W bt w hI=>(hforget w0 W bt w hI).1) (YS hlook) (av0:= .own ⟨0,[]⟩ t'.width 0 v.length) (fun w bt u hv=> ?_) (res:=res.av) (out:= [.sl t'.width (v'.map t'.row)]) (by rw [←hSm,hargs]; exact k1) (YT hlook (by simpa using hvl)) hpl ⟨S3.st,m1,ih S3 m2 h⟩
       ·refine⟨rfl,rfl,rfl,fun p s rs hp=> ?_⟩
        rw [vl] at hp
        by_cases hpr:p.r=q
        ·rw [if_pos hpr,hgq] at hp
         simp only at hp
         rcases T.put_spec .dd [(i,j)] (.sl t.width (l.map t.row)) (.inl (by
          have:=hlook
          unfold St.look at this
          simp only [hgq] at this
          rw [this]
          simp)) p.l s rs hp with ⟨m',hm,hgo⟩ | ⟨rs0,e1,e2,e3,e4⟩
         ·rw [T.dd_go] at hgo; cases hgo
         ·refine⟨fun p' hp' hu=> ?_,rs0,by unfold St.look; rw [hpr,hgq]; exact e1⟩
          rw [List.mem_singleton.1 hp'] at hu
          obtain⟨_,m,b⟩:=hu
          exact e3 m b.symm
        ·rw [if_neg hpr] at hp
         refine⟨fun p' hp' hu=> ?_,rs,hp⟩
         rw [List.mem_singleton.1 hp'] at hu
         exact hpr hu.1
       ·rw [bk,hxv] at hv
        have hv:VR w bt (.own ⟨q,[(i,j)]⟩ t'.width 0 v.length) u:=hv
        cases hv with
        | own hp hc hk ha=>exact .own Nat.zero_lt_one hc hk ha
      ·cases h
     ·cases h
    ·cases h
   ·cases h
theorem Zu {el:Ty} (hw:el.width=1) (hf:el.flatB=true) {z:el.D} (hz:el.unflat el.zcs=some z): ∃ zv,el.zvs= [zv] ∧uU zv=true∧el.row z= [.sc zv] :=by
 have hr:el.row z=el.zcs.map C.tree:=by
  rw [el.row_flat,el.unflat_some _ _ hz]
 rw [hr]
 clear hr hz z
 cases el with
 | i k=>exact⟨_,rfl,rfl,rfl⟩
 | b=>exact⟨_,rfl,rfl,rfl⟩
 | s=>exact⟨_,rfl,rfl,rfl⟩
 | st n=>cases n <;> first | exact⟨_,rfl,rfl,rfl⟩ | (exfalso; revert hw; decide) | (exfalso; revert hf; decide)
 | ls t=>cases hf
theorem XG (hΘ:fk P Θ) (hS:S.ok) {ops:Array Oper} {o:Oper} {os:List Oper} {Post:St→Prop} {t:TypeId} {q sz lo len:Nat} (ht:QO S o=some (t,q,sz,lo,len)) {κ:TS→Option ρ} {r:ρ}
  (ih: ∀ S3:TS,S3.ok→κ S3=some r→xB P ops os S3.st Post) (h:Vy Θ S t q sz lo len o.dst κ=some r):xB P ops (o::os) S.st Post:=by
 unfold QO at ht
 split at ht
 ·rename_i as ts hop
  split at ht
  ·cases ht
  ·rename_i hgd
   split at ht
   ·rename_i x t' e1 e2
    split at ht
    ·rename_i r' sz' lo' len' w hx
     simp only [Option.some.injEq,Prod.mk.injEq] at ht
     obtain⟨rfl,rfl,rfl,rfl,rfl⟩:=ht
     have e1:as= #[x] :=by apply Array.ext'; simpa using e1
     have e2:ts= #[t'] :=by apply Array.ext'; simpa using e2
     subst e1 e2
     unfold Vy at h
     split at h
     ·rename_i ti hti
      split at h
      ·rename_i el l hq
       obtain⟨hc,h0⟩:=aB h
       simp only [Bool.and_eq_true,decide_eq_true_eq] at hc
       obtain⟨⟨⟨hty,hw⟩,hsz⟩,hfl⟩:=hc
       have hw:el.width=1:=Nat.eq_of_beq_eq_true hw
       have hsz:sz'=1:=Nat.eq_of_beq_eq_true hsz
       split at h0
       ·rename_i z hz
        unfold aq at h0
        split at h0
        ·rename_i hle
         obtain⟨elT',g1,g2,g3,g4,g5,g6⟩:=(hΘ _ _ hti).el el hty
         have hql:r' < S.gh.length:=by
          rcases Nat.lt_or_ge r' S.gh.length with h' | h'
          ·exact h'
          ·rw [Cf h'] at hq; cases hq
         have hG:jL S.gh (dS S.gh r' (some ⟨el,l.take lo'++List.replicate len' z++l.drop (lo'+len'),none⟩)):=jL.put hq (by simp; omega)
         obtain⟨S3,k1,k2,_,h⟩:=rn (v:= .tup []) (TS.ok_gh hS hG) (fun x hx=>by cases hx) h0
         rw [Hi S _ hql] at k1
         obtain⟨zv,hzv,hsc,hrow⟩:=Zu hw hfl hz
         have htr:S.st.gh r'=some (.sl 1 (l.map el.row)):=by
          show (dG S.gh r').map cc.tree=_
          rw [hq]
          show some (T.sl el.width (l.map el.row))=_
          rw [hw]
         have hxv:opd S.st x= .own ⟨r',[]⟩ 1 lo' len':=by rw [bk,hx,←hsz]; rfl
         refine xB.clear hop hgd g1 (by rw [g6,hzv]) hsc hxv htr (by simpa using hle) ⟨S3.st,?_,ih S3 k2 h⟩
         rw [←k1]
         congr 1
         show _=({ S.st with gh:=cm S.st.gh r' (some (T.sl el.width ((l.take lo'++List.replicate len' z++l.drop (lo'+len')).map el.row))) }:St)
         rw [hw]
         simp only [List.map_append,List.map_take,List.map_drop,List.map_replicate,hrow]
        ·cases h0
       ·cases h0
      ·cases h
     ·cases h
    ·cases ht
   ·cases ht
 ·cases ht
theorem aaY (hΘ:fk P Θ) (hY:au P Y) {ops:Array Oper}: ∀ (os:List Oper) (S:TS) (κ:TS→Option ρ) (r:ρ),(∀ o∈os,vp P o=true)→S.ok→JD Θ Y ops.toList os S κ=some r→
  xB P ops os S.st (fun S'=> ∃ S1:TS,S'=S1.st∧S1.ok∧κ S1=some r):=by
 intro os
 induction os with
 | nil=>intro S κ r _ hS h; exact xB.nil ⟨S,rfl,hS,h⟩
 | cons o os ih=>
   intro S κ r hok hS h
   unfold JD at h
   cases hn:K6 o with
   | some tx=>
     obtain⟨t,x⟩:=tx
     rw [hn] at h
     simp only at h
     obtain⟨hs,h⟩:=aB h
     obtain⟨⟨t',ho⟩,hg⟩:=QT hn
     unfold adb at hs
     split at hs
     ·rename_i ti hti
      split at hs
      ·rename_i e he
       obtain⟨el,hel,_⟩:=(hΘ t ti hti).el e he
       split at h
       ·rename_i t1 l hx
        have way: ∀ (b:Bool),(xF S o.dst (Ta b) fun S3=>JD Θ Y ops.toList os S3 κ)=some r→ ∃ S1,S.st.put o.dst (.sc (.bool b))=some S1∧xB P ops os S1 (fun S'=> ∃ S1:TS,S'=S1.st∧S1.ok∧κ S1=some r):=by
         intro b hb
         obtain⟨S3,g5,g6,_,h⟩:=rn (v:=Ta b) hS trivial hb
         exact⟨S3.st,g5,ih S3 κ r (fun x hx=>hok x (List.mem_cons_of_mem _ hx)) g6 h⟩
        have hxv:opd S.st x= .ro t1.width (l.map t1.row):=by rw [bk,hx]; rfl
        cases l with
        | nil=>
          obtain⟨a1,a2⟩:=Zr (show Y0 _ _ none=some r from h)
          exact xB.eqnil hel ho hg hxv (fun _=>way true a1) (way false a2)
        | cons y l=>exact xB.eqnil hel ho hg hxv (fun h=>by cases h) (way false h)
       ·cases h
      ·cases hs
     ·cases hs
   | none=>
   rw [hn] at h
   simp only at h
   cases hcl:QO S o with
   | some z=>
     obtain⟨t,q,sz,lo,len⟩:=z
     rw [hcl] at h
     exact XG hΘ hS hcl (fun S3 hS3 h3=>ih S3 κ r (fun x hx=>hok x (List.mem_cons_of_mem _ hx)) hS3 h3) h
   | none=>
   rw [hcl] at h
   simp only at h
   cases hh:S9 Y S o with
   | some z=>
     obtain⟨k,g,caps,q,sz,us,xs⟩:=z
     rw [hh] at h
     exact Zt hΘ hY hS hh (fun S3 hS3 h3=>ih S3 κ r (fun x hx=>hok x (List.mem_cons_of_mem _ hx)) hS3 h3) h
   | none=>
   rw [hh] at h
   simp only at h
   cases hh':LV Y S o with
   | some z=>
     obtain⟨g,caps,a,us,xs⟩:=z
     rw [hh'] at h
     exact XF hΘ hY hS hh' (fun S3 hS3 h3=>ih S3 κ r (fun x hx=>hok x (List.mem_cons_of_mem _ hx)) hS3 h3) h
   | none=>
   rw [hh'] at h
   simp only at h
   obtain⟨b,S1,h1,h2,h3,h4,h⟩:=Tp hS h
   refine xB.cons (b:=b) (hok o List.mem_cons_self) h1 ?_
   cases b with
   | true=>
     simp only [cond_true] at h
     obtain⟨D,v,S2,g1,g2,g3,g4,h⟩:=To hΘ hY h3 h
     obtain⟨S3,g5,g6,_,h⟩:=rn g3 g4 h
     rw [if_pos rfl]
     refine⟨D,S3.st,g1,?_,ih S3 κ r (fun x hx=>hok x (List.mem_cons_of_mem _ hx)) g6 h⟩
     unfold one
     rw [←h2,g2]
     exact g5
   | false=>
     simp only [cond_false] at h
     obtain⟨S3,g5,g6,_,h⟩:=rn (v:= .tup []) h3 (fun x hx=>by cases hx) h
     rw [if_neg (by simp)]
     exact⟨S3.st,by rw [←h2]; exact g5,ih S3 κ r (fun x hx=>hok x (List.mem_cons_of_mem _ hx)) g6 h⟩
theorem aaZ {D D':wj} {X:St} {o:Oper} (h:D o.dst=D' o.dst):aH D P X o=aH D' P X o:=by
 obtain⟨dst,op,ty,pos,aft,gd⟩:=o
 cases op with
 | call c=>
   obtain⟨cl,as,ts⟩:=c
   cases cl with
   | value f=>simp only [aH]; simp only at h; rw [h]
   | invoke a b=>rfl
   | builtin b=>cases b <;> rfl
 | unOp op t x=>cases op <;> rfl
 | binOp op t x y t'=>cases op <;> rfl
 | makeFunc fn first caps=>cases fn <;> rfl
 | slice t x lo hi mx=>cases mx <;> rfl
 | _=>rfl
theorem WR {D D':wj} {X:St} {o:Oper} (h:D o.dst=D' o.dst):fO D P X o=fO D' P X o:=by
 obtain⟨dst,op,ty,pos,aft,gd⟩:=o
 cases op with
 | call c=>
   obtain⟨cl,as,ts⟩:=c
   cases cl with
   | value f=>simp only [fO]; simp only at h; rw [h]
   | invoke a b=>rfl
   | builtin b=>cases b <;> rfl
 | _=>rfl
theorem adh {D D':wj} {ops:Array Oper}: ∀ (os:List Oper) (X:St),(∀ o∈os,D o.dst=D' o.dst)→Lk D P ops os X=Lk D' P ops os X:=by
 intro os
 induction os with
 | nil=>intro X _; rfl
 | cons o os ih=>
   intro X h
   have h1:=h o List.mem_cons_self
   have h2: ∀ X,Lk D P ops os X=Lk D' P ops os X:=fun X=>ih X (fun x hx=>h x (List.mem_cons_of_mem _ hx))
   simp only [Lk,h2,aaZ h1,WR h1]
theorem Mc: ∀ (l m:List (Option cc)) (n:Nat),gone n l (l++m)= []
 | [],m,n=>by cases m <;> rfl
 | x::l,m,n=>by
   cases x with
   | none=>exact Mc l m (n+1)
   | some y=>exact Mc l m (n+1)
theorem VD (l:List cc):Y4 (l.map some)=l.map cc.tree:=by
 unfold Y4
 rw [List.map_map]
 rfl
theorem aa0 (S:TS) (out:List cc):S.st.make ⟨S.st.ng,out.map cc.tree,[]⟩=({ S with gh:=S.gh++out.map some }:TS).st:=by
 rw [DN S .dead out]
 unfold St.make sj
 simp only [List.length_map]
 congr 1
theorem wo.make {S1:TS} {L:List Nat} (h:wo S S1 L) (x:cc):S.st.make ⟨S.st.ng,[x.tree],qu L⟩=({ S1 with gh:=S1.gh++ [some x] }:TS).st:=by
 rw [LZ,h.st,h.len]
 unfold St.make dropL
 simp only [List.length_singleton,rm]
 congr 1
 funext r
 unfold cm
 by_cases hr:r=S.gh.length
 ·subst hr
  rw [if_pos rfl,if_pos ⟨Nat.le_refl _,Nat.lt_succ_self _⟩]
  simp [TS.st]
 ·rw [if_neg hr,if_neg (by show ¬ (S.gh.length≤r∧r < S.gh.length+1); omega)]
theorem WS: ∀ (l m x:List (Option cc)) (n:Nat) (L:List Nat),m.length=l.length→(∀ k,k < l.length→(((∃ y,l[k]? =some (some y))∧m[k]? =some none)↔(n+k)∈L))→gone n l (m++x)=(List.range' n l.length).filter fun r=>L.contains r
 | [],m,x,n,L,hl,_=>by
   have :m= [] :=List.eq_nil_of_length_eq_zero hl
   subst this
   cases x <;> rfl
 | a::l,[],x,n,L,hl,_=>by cases hl
 | a::l,b::m,x,n,L,hl,h=>by
   have h0:=h 0 (Nat.zero_lt_succ _)
   have ih:=WS l m x (n+1) L (by simpa using hl) (fun k hk=>by
    have:=h (k+1) (by simpa using hk)
    simp only [List.getElem?_cons_succ] at this
    rw [this,show n+1+k=n+(k+1) by omega])
   simp only [List.getElem?_cons_zero,Option.some.injEq,Nat.add_zero] at h0
   rw [List.length_cons,List.range'_succ,List.filter_cons]
   cases a with
   | none=>
     have : ¬ n∈L:=fun hn=>by
      obtain⟨⟨y,hy⟩,_⟩:=h0.2 hn
      cases hy
     rw [if_neg (by simpa using this),←ih]
     cases b <;> rfl
   | some y=>
     cases b with
     | none=>
       have :n∈L:=h0.1 ⟨⟨y,rfl⟩,rfl⟩
       rw [if_pos (by simpa using this),←ih]
       rfl
     | some z=>
       have : ¬ n∈L:=fun hn=>by
        have:=(h0.2 hn).2
        cases this
       rw [if_neg (by simpa using this),←ih]
       rfl
theorem QU {L:List Nat} {N:Nat} (h: ∀ r∈L,r < N):qu L=(List.range N).filter fun r=>L.contains r:=by
 have top:Qp L≤N:=by
  induction L with
  | nil=>exact Nat.zero_le _
  | cons a l ih=>
    unfold Qp
    have h1:=h a List.mem_cons_self
    have h2:=ih (fun r hr=>h r (List.mem_cons_of_mem _ hr))
    omega
 unfold qu
 obtain⟨k,rfl⟩: ∃ k,N=Qp L+k:=⟨N - Qp L,by omega⟩
 rw [List.range_eq_range',List.range_eq_range',←List.range'_append_1,List.filter_append]
 have : (List.range' (0+Qp L) k).filter (fun r=>L.contains r)= [] :=by
  rw [List.filter_eq_nil_iff]
  intro r hr hc
  have h1:=QB (l:=L) (r:=r) (by simpa using hc)
  have h2:=(List.mem_range'_1.1 hr).1
  omega
 rw [this,List.append_nil]
theorem wo.gone {S1:TS} {L:List Nat} (h:wo S S1 L) (x:List (Option cc)):gone 0 S.gh (S1.gh++x)=qu L:=by
 rw [QU (N:=S.gh.length) (fun r hr=>by
  obtain⟨tr,ht⟩:=h.was r hr
  exact yH ht),List.range_eq_range']
 refine WS _ _ _ _ _ h.len (fun k hk=> ?_)
 rw [Nat.zero_add]
 have g:=h.gh k
 unfold dG at g
 rw [ej,ej] at g
 have hk1:k < S1.gh.length:=by rw [h.len]; exact hk
 rw [List.getElem?_eq_getElem hk,List.getElem?_eq_getElem hk1] at g ⊢
 simp only [Option.getD_some,Option.some.injEq] at g ⊢
 constructor
 ·rintro⟨⟨y,hy⟩,hn⟩
  rw [hn,hy] at g
  split at g
  ·rename_i hc
   simpa using hc
  ·cases g
 ·intro hL
  obtain⟨tr,ht⟩:=h.was k hL
  unfold dG at ht
  rw [ej,List.getElem?_eq_getElem hk] at ht
  simp only [Option.getD_some] at ht
  rw [if_pos (by simpa using hL)] at g
  exact⟨⟨tr,ht⟩,g⟩
theorem Ch {G:List (Option cc)} {r j:Nat} {c:Cl} (h:c.ok G) (hr:G.length≤r):uI r j c=c:=by
 have hb: ∀ p:ci,p.r < G.length→Nat.beq p.r r=false:=fun p hp=>by
  cases hx:Nat.beq p.r r with
  | false=>rfl
  | true=>
    have:=Nat.eq_of_beq_eq_true hx
    omega
 cases c with
 | own p sz lo len w=>
   simp only [uI]
   rw [hb p h.1]
   split <;> rfl
 | ptrT p sz a b=>
   simp only [uI]
   rw [hb p h]
   split <;> rfl
 | _=>rfl
theorem vt {α:Type} {f:α→α}: ∀ {l:List α},(∀ x∈l,f x=x)→l.map f=l
 | [],_=>rfl
 | a::l,h=>by
   rw [List.map_cons,h a List.mem_cons_self,vt fun x hx=>h x (List.mem_cons_of_mem _ hx)]
theorem Tt (hS:S.ok) {r j:Nat} (hr:S.gh.length≤r):S.kill r j=S:=by
 have v1: ∀ v:V1,v.ok S.gh→xb r j v=v:=by
  intro v hv
  cases v with
  | cl c=>simp only [xb]; rw [Ch hv hr]
  | agg cs=>simp only [xb]; rw [vt fun c hc=>Ch (hv c hc) hr]
  | fn f cs=>simp only [xb]; rw [vt fun c hc=>Ch (hv c hc) hr]
 have e1:S.env.map (fun x=>(x.1,PN r j x.2))=S.env:=by
  refine vt (fun x hx=> ?_)
  have hx:=hS.env x hx
  obtain⟨t,v⟩:=x
  cases v with
  | v x=>simp only [PN]; rw [v1 x hx]
  | tup l=>simp only [PN]; rw [vt fun c hc=>v1 c (hx c hc)]
 have e2:S.bx.map (fun cs=>cs.map (uI r j))=S.bx:=by
  exact vt (fun cs hcs=>vt (fun c hc=>Ch (hS.bx cs hcs c hc) hr))
 unfold TS.kill
 rw [e1,e2]
theorem aa1 (hS:S.ok) {S1:TS} {no j:Nat} (hno:S.gh.length≤no) {et:Option Ty} {c:Cl} {x:C} (hc:c.ok S.gh) (h:kR S no j et c=some (x,S1)):
  ∃ L,wo S S1 L∧L.Nodup∧oL S.st (U2 et) c.av=some (x.tree,L):=by
 have wp: ∀ t:Ty,¬ U2 (some t)=0:=fun t e=>by
  have:=t.width_pos
  have e':t.width=0:=e
  omega
 cases c with
 | c y=>
   cases y with
   | sc v=>
     cases et with
     | none=>
       simp only [kR,Option.some.injEq,Prod.mk.injEq] at h
       obtain⟨rfl,rfl⟩:=h
       exact⟨[],wo.refl _,List.nodup_nil,rfl⟩
     | some t=>simp [kR] at h
   | ls t l=>cases et <;> simp [kR] at h
 | em=>
   cases et with
   | none=>simp [kR] at h
   | some t=>
     simp only [kR,Option.some.injEq,Prod.mk.injEq] at h
     obtain⟨rfl,rfl⟩:=h
     rw [Tt hS hno]
     refine⟨[],wo.refl _,List.nodup_nil,?_⟩
     unfold oL
     rw [if_neg (wp t)]
     rfl
 | own p sz lo len wh=>
   obtain⟨pr,pl⟩:=p
   cases wh with
   | false=>cases et <;> simp [kR] at h
   | true=>
     cases et with
     | none=>simp [kR] at h
     | some t=>
       cases pl with
       | cons a l=>simp [kR] at h
       | nil=>
         simp only [kR] at h
         obtain⟨h1,h⟩:=aB h
         simp only [Bool.and_eq_true,Bool.not_eq_true'] at h1
         obtain⟨⟨h1,h2⟩,h3⟩:=h1
         have h1:t.width=sz:=Nat.eq_of_beq_eq_true h1
         have h2:S.fz≤pr:=Nat.le_of_ble_eq_true h2
         split at h
         ·rename_i tr htr
          split at h
          ·rename_i hh
           obtain⟨h4,h⟩:=aB h
           have h4':tr.t.width=sz:=Nat.eq_of_beq_eq_true h4
           simp only [Option.some.injEq,Prod.mk.injEq] at h
           obtain⟨rfl,rfl⟩:=h
           have hg:=cc.look htr
           obtain⟨tt,l,hole⟩:=tr
           simp only at hh h4'
           subst hh
           obtain⟨e1,e2,e3⟩:=AQ hc (fun _=>hg)
           have hd:=wo.one hg
           rw [Tt (hd.ok hS) (by rw [hd.len]; exact hno)]
           refine⟨[pr],hd,by simp,?_⟩
           unfold oL
           rw [if_neg (wp t)]
           simp only [Cl.av]
           have hrows:S.st.rows ⟨pr,[]⟩ sz=some (l.map tt.row):=by
            rw [←h4']
            refine oz ?_
            unfold St.look
            show (match (dG S.gh pr).map cc.tree with | some t=>t.go [] | none=> .dd)=_
            rw [hg]
            rfl
           rw [if_pos ⟨trivial,h1.symm,e2,h2⟩,hrows]
           simp only [Option.bind_some,List.length_map]
           rw [if_pos (by omega),e3]
           have e4: (l.map tt.row).take l.length=l.map tt.row:=List.take_of_length_le (by simp)
           rw [e4]
           simp only [C.tree,h4']
          ·cases h
         ·cases h
 | pro cs=>cases et <;> simp [kR] at h
 | ptrB n j=>cases et <;> simp [kR] at h
 | ptrT p sz a b=>cases et <;> simp [kR] at h
 | dead=>cases et <;> simp [kR] at h
theorem VE {X Y:St} (hfz:Y.fz=X.fz) (hg: ∀ r t,Y.gh r=some t→X.gh r=some t) {s:Nat} {v:AV} {y:T×List Nat} (h:oL Y s v=some y):oL X s v=some y:=by
 unfold oL at h ⊢
 split at h
 ·rename_i h0; rw [if_pos h0]; exact h
 ·rename_i h0
  rw [if_neg h0]
  split at h
  ·exact h
  ·rename_i q s' lo len
   split at h
   ·rename_i hc
    rw [hfz] at hc
    rw [if_pos hc]
    simp only [Option.bind_eq_some_iff] at h ⊢
    obtain⟨rows,hr,h⟩:=h
    refine⟨rows,?_,h⟩
    have hl:=mo hr
    unfold St.rows
    have :X.look q= .sl s' rows:=by
     unfold St.look at hl ⊢
     cases hq:Y.gh q.r with
     | none=>rw [hq] at hl; cases hl
     | some t=>rw [hq] at hl; rw [hg _ _ hq]; exact hl
    rw [this]
    simp
   ·cases h
  ·cases h
theorem AU {X Y:St} (hfz:Y.fz=X.fz) (hg: ∀ r t,Y.gh r=some t→X.gh r=some t): ∀ {ss:List Nat} {vs:List AV} {y:List T×List Nat},kg Y ss vs=some y→kg X ss vs=some y
 | s::ss,v::vs,y,h=>by
   unfold kg at h ⊢
   simp only [Option.bind_eq_some_iff,Option.map_eq_some_iff] at h ⊢
   obtain⟨a,h1,b,h2,h3⟩:=h
   exact⟨a,VE hfz hg h1,b,AU hfz hg h2,h3⟩
 | [],[],_,h=>h
 | [],_::_,_,h=>h
 | _::_,[],_,h=>h
theorem IY {X Y:St} (hfz:Y.fz=X.fz) (hg: ∀ r t,Y.gh r=some t→X.gh r=some t) {ss:List Nat}: ∀ {vss:List (List AV)} {y:List (List T)×List Nat},gY Y ss vss=some y→gY X ss vss=some y
 | [],_,h=>h
 | vs::vss,y,h=>by
   unfold gY at h ⊢
   simp only [Option.bind_eq_some_iff,Option.map_eq_some_iff] at h ⊢
   obtain⟨a,h1,b,h2,h3⟩:=h
   exact⟨a,AU hfz hg h1,b,IY hfz hg h2,h3⟩
theorem wo.less {S1:TS} {L:List Nat} (h:wo S S1 L): ∀ r t,S1.st.gh r=some t→S.st.gh r=some t:=by
 intro r t ht
 rw [h.st] at ht
 unfold dropL at ht
 simp only at ht
 split at ht
 ·cases ht
 ·exact ht
theorem aa2 (no:Nat): ∀ (ets:List (Option Ty)) (cs:List Cl) (j:Nat) (S S1:TS) (xs:List C),S.ok→S.gh.length≤no→(∀ c∈cs,c.ok S.gh)→uJ no j S ets cs=some (xs,S1)→
  ∃ L,wo S S1 L∧L.Nodup∧kg S.st (ets.map U2) (cs.map Cl.av)=some (xs.map C.tree,L):=by
 intro ets
 induction ets with
 | nil=>
   intro cs j S S1 xs hS hno hcs h
   cases cs with
   | nil=>
     simp only [uJ,Option.some.injEq,Prod.mk.injEq] at h
     obtain⟨rfl,rfl⟩:=h
     exact⟨[],wo.refl _,List.nodup_nil,rfl⟩
   | cons c cs=>simp [uJ] at h
 | cons et ets ih=>
   intro cs j S S1 xs hS hno hcs h
   cases cs with
   | nil=>simp [uJ] at h
   | cons c cs=>
     simp only [uJ] at h
     split at h
     ·rename_i x S2 hx
      obtain⟨L1,d1,n1,e1⟩:=aa1 hS hno (hcs c List.mem_cons_self) hx
      split at h
      ·rename_i xs' S3 hxs
       simp only [Option.some.injEq,Prod.mk.injEq] at h
       obtain⟨rfl,rfl⟩:=h
       obtain⟨L2,d2,n2,e2⟩:=ih cs (j+1) S2 S3 xs' (d1.ok hS) (by rw [d1.len]; exact hno) (fun y hy=>Cl.ok_mono d1.le (hcs y (List.mem_cons_of_mem _ hy))) hxs
       refine⟨L1++L2,d1.trans d2,d1.apart d2 n1 n2,?_⟩
       simp only [List.map_cons,kg]
       rw [e1]
       simp only [Option.bind_some]
       rw [AU (X:=S.st) (Y:=S2.st) d1.fz d1.less e2]
       rfl
      ·cases h
     ·cases h
theorem Zv (el:Ty): ∀ (vs:List V) (S S1:TS) (l:List el.D),S.ok→(∀ v∈vs,v.ok S.gh)→xd el S vs=some (l,S1)→
  ∃ L,wo S S1 L∧L.Nodup∧gY S.st el.shs (vs.map fun v=>v.av.cells)=some (l.map el.row,L)∧l.length=vs.length∧ ∀ v∈vs,v.av.cells.length=el.width∧v.av.isDead=false:=by
 intro vs
 induction vs with
 | nil=>
   intro S S1 l hS hv h
   simp only [xd,Option.some.injEq,Prod.mk.injEq] at h
   obtain⟨rfl,rfl⟩:=h
   exact⟨[],wo.refl _,List.nodup_nil,rfl,rfl,fun v hv=>by cases hv⟩
 | cons v vs ih=>
   intro S S1 l hS hv h
   cases v with
   | tup x=>simp [xd] at h
   | v x=>
     have hx:=hv (.v x) List.mem_cons_self
     simp only [xd] at h
     split at h
     ·rename_i ws S2 hw
      have hcells: ∀ c∈x.cells,c.ok S.gh:=by
       intro c hc
       cases x with
       | cl y=>rw [List.mem_singleton.1 hc]; exact hx
       | agg cs=>exact hx c hc
       | fn f cs=>rw [List.mem_singleton.1 hc]; trivial
      obtain⟨L1,d1,n1,e1⟩:=aa2 _ _ _ _ _ _ _ hS (Nat.le_refl _) hcells hw
      have hw':el.csh.length=x.cells.length∧ ∀ c∈x.cells,c≠ .dead:=by
       obtain⟨_,m2,_,m4,_⟩:=L8 S.gh.length 0 0 0 el.csh x.cells 0 S S2 ws [x.cells.map fun c=>T.ofSc c.av] (x.cells.map fun c=>T.ofSc c.av) hS hcells hw rfl (by simp) (fun k c hk=>by rw [Nat.zero_add,List.getElem?_map,hk]; rfl)
       exact⟨m2,m4⟩
      split at h
      ·rename_i y ys S3 hy hys
       simp only [Option.some.injEq,Prod.mk.injEq] at h
       obtain⟨rfl,rfl⟩:=h
       obtain⟨L2,d2,n2,e2,e3,e4⟩:=ih S2 S3 ys (d1.ok hS) (fun u hu=>V.ok_mono d1.le (hv u (List.mem_cons_of_mem _ hu))) hys
       have hsh:el.shs=el.csh.map U2:=by
        unfold Ty.shs
        refine List.map_congr_left fun c _=> ?_
        cases c <;> rfl
       have hav: (V.v x).av.cells=x.cells.map Cl.av:=by
        cases x with
        | cl c=>
          simp only [V.av,V1.av,V1.cells,List.map_cons,List.map_nil]
          cases c with
          | c y=>cases y <;> rfl
          | _=>rfl
        | agg cs=>rfl
        | fn f cs=>exact absurd rfl (hw'.2 .dead (List.mem_singleton.2 rfl))
       refine⟨L1++L2,d1.trans d2,d1.apart d2 n1 n2,?_,by simp [e3],fun u hu=> ?_⟩
       ·simp only [List.map_cons,gY]
        rw [hav,hsh,e1]
        simp only [Option.bind_some]
        rw [←hsh,IY (X:=S.st) (Y:=S2.st) d1.fz d1.less e2]
        simp only [Option.map_some]
        rw [el.row_flat,el.unflat_some _ _ hy]
       ·rcases List.mem_cons.1 hu with rfl | hu
        ·refine⟨?_,?_⟩
         ·rw [hav,List.length_map,←hw'.1]
          have:=DP el
          unfold Ty.shs at this
          simpa using this
         ·cases x with
          | cl c=>
            have:=hw'.2 c (List.mem_singleton.2 rfl)
            cases c with
            | c y=>cases y <;> rfl
            | dead=>exact absurd rfl this
            | _=>rfl
          | agg cs=>rfl
          | fn f cs=>rfl
        ·exact e4 u hu
      ·cases h
     ·cases h
theorem Zw (hΘ:fk P Θ) {t:TypeId} (h:lsT Θ t=true): ∃ ti el elT',qw Θ t=some ti∧ti.ty= .ls el∧Cx P t=some elT'∧P.cellsOf elT'=el.width∧P.bytesOf elT'=ti.el∧0 < ti.el∧th P 9 elT'=el.shs∧G0 P elT'=some el.zvs:=by
 unfold lsT at h
 split at h
 ·rename_i ti hti
  split at h
  ·rename_i el he
   obtain⟨elT',g⟩:=(hΘ _ _ hti).el el he
   exact⟨ti,el,elT',hti,he,g⟩
  ·cases h
 ·cases h
theorem aa3 {el:Ty} {v:Cl} (hv:v.ok S.gh) {κ:List el.D→TS→Option ρ} {r:ρ} (h:YZ S el v κ=some r):
  ∃ more L S1,wo S S1 L∧iB S.st el.width el.flatB v.av=some (more.map el.row,L)∧κ more S1=some r:=by
 unfold YZ at h
 split at h
 ·exact⟨[],[],S,wo.refl _,rfl,h⟩
 ·rename_i t l
  obtain⟨h1,h⟩:=aB h
  split at h
  ·rename_i l' hl
   obtain⟨e,hl⟩:=hZ hl
   subst e
   simp only at hl
   subst hl
   refine⟨l,[],S,wo.refl _,?_,h⟩
   simp only [Cl.av,C.av,iB]
   rw [if_pos ⟨trivial,Cg h1 l⟩]
  ·cases h
 ·rename_i p sz lo len w
  obtain⟨h0,h⟩:=aB h
  have h0:el.width=sz:=Nat.eq_of_beq_eq_true h0
  cases hfl:el.flatB with
  | true=>
    rw [hfl] at h
    simp only [cond_true] at h
    obtain⟨t,l,h1,h2,h⟩:=gm h
    split at h
    ·rename_i l' hl
     obtain⟨e,hl⟩:=hZ hl
     subst e
     simp only at hl
     subst hl
     have src: ∀ (lo len:Nat),lo+len≤l.length→iB S.st t.width true (.own p sz lo len)=some (((l.drop lo).take len).map t.row,[]):=by
      intro lo len hle
      simp only [iB]
      rw [if_pos h0.symm,oz h1]
      simp only [Option.bind_some,List.length_map]
      rw [if_neg (by simp),if_pos ⟨hle,by rw [←List.map_drop,←List.map_take]; exact Cg hfl _⟩]
      simp [List.map_take,List.map_drop]
     cases w with
     | true=>
       obtain⟨e1,e2,e3⟩:=AQ hv h2
       refine⟨l,[],S,wo.refl _,?_,h⟩
       have:=src lo len (by omega)
       rw [e2,e3,List.drop_zero,List.take_length] at this
       simp only [Cl.av]
       rw [e2,e3]
       exact this
     | false=>
       simp only [cond_false] at h
       obtain⟨h3,h⟩:=dT h
       exact⟨_,[],S,wo.refl _,src lo len h3,h⟩
    ·cases h
  | false=>
    rw [hfl] at h
    simp only [cond_false] at h
    split at h
    ·rename_i hpl
     obtain⟨h1,h'⟩:=aB h
     clear h
     simp only [Bool.and_eq_true] at h1
     obtain⟨rfl,hfz⟩:=h1
     have hfz:S.fz≤p.r:=Nat.le_of_ble_eq_true hfz
     obtain⟨t,l,g1,g2,h⟩:=gm h'
     split at h
     ·rename_i l' hl
      obtain⟨e,hl⟩:=hZ hl
      subst e
      simp only at hl
      subst hl
      obtain⟨e1,e2,e3⟩:=AQ hv g2
      refine⟨l,[p.r],_,wo.one (g2 e1),?_,h⟩
      simp only [Cl.av,iB]
      rw [if_pos h0.symm,oz g1]
      simp only [Option.bind_some,List.length_map]
      rw [if_pos ⟨trivial,e1,e2,e3,hfz⟩]
     ·cases h
    ·cases h
 ·cases h
theorem Zx {el:Ty} {v:Cl} (hv:v.ok S.gh) (hroot:WG (.v (.cl v))=true) {more:List el.D} {κ:List el.D→TS→Option ρ} {r:ρ} (h:S8 S el v more κ=some r):
  ∃ (l0:List el.D) (cons:List Nat) (S':TS),rR S.st el.width v.av=some (l0.map el.row,cons)∧wo S S' cons∧κ (l0++more) S'=some r:=by
 unfold S8 at h
 split at h
 ·exact⟨[],[],S,rfl,wo.refl _,h⟩
 ·rename_i p sz lo len w
  obtain⟨pr,pl⟩:=p
  cases pl with
  | cons a l=>cases hroot
  | nil=>
    obtain⟨h0,h'⟩:=aB h
    clear h
    simp only [Bool.and_eq_true] at h0
    have hfz:S.fz≤pr:=Nat.le_of_ble_eq_true h0.1
    have hsz:el.width=sz:=Nat.eq_of_beq_eq_true h0.2
    simp only at h'
    obtain⟨t,l,h1,h2,h⟩:=gm h'
    split at h
    ·rename_i l' hl
     obtain⟨e,hl⟩:=hZ hl
     subst e
     simp only at hl
     subst hl
     have base: ∀ (len:Nat),¬ l.length < len→rR S.st t.width (.own ⟨pr,[]⟩ sz 0 len)=some ((l.take len).map t.row,[pr]):=by
      intro len hlen
      simp only [rR]
      rw [if_pos ⟨hsz.symm,trivial,trivial,hfz⟩,oz h1]
      simp only [Option.bind_some,List.length_map]
      rw [if_neg hlen,List.map_take]
     cases w with
     | true=>
       obtain⟨e1,e2,e3⟩:=AQ hv h2
       refine⟨l,[pr],_,?_,wo.one (h2 rfl),h⟩
       have:=base l.length (by omega)
       rw [List.take_length] at this
       simp only [Cl.av]
       rw [e2,e3]
       exact this
     | false=>
       simp only [cond_false] at h
       obtain⟨h3,h⟩:=dT h
       obtain⟨h4,h⟩:=Hf h
       refine⟨l.take len,[pr],_,?_,wo.one (h2 rfl),h⟩
       simp only [Cl.av]
       rw [h3]
       exact base len h4
    ·cases h
 ·cases h
theorem aa4 (hΘ:fk P Θ) (hY:au P Y) (hS:S.ok) {o:Oper} (hn:md o=true) (hf:ade Θ o=true) (hb:abV S o=true) {κ:V→TS→Option ρ} {r:ρ} (h:Ff Θ Y S o κ=some r):
  ∃ D v0 v adds cons S',sn P D∧fO D P S.st o=some (v0,adds,cons)∧rQ S.st.ng v0=V.av v∧S.st.make ⟨S.st.ng,adds,cons⟩=TS.st S'∧He S S'=⟨S.st.ng,adds,cons⟩∧S'.ok∧v.ok S'.gh∧κ v S'=some r:=by
 obtain⟨dst,op,ty,pos,aft,gd⟩:=o
 cases op with
 | buildSlice t len parts=>
   obtain⟨ti,el,elT',hti,he,g1,g2,g3,g4,g5,g6⟩:=Zw hΘ hf
   unfold Ff at h
   simp only [hti,he] at h
   obtain⟨hb',h'⟩:=aB h
   clear h
   have hnr: ((parts.toList.map fun x=>S.opd x.2).any LU)=false:=by
    have hb: (!(parts.toList.map fun x=>S.opd x.2).any LU)=true:=hb
    simpa using hb
   rw [hnr] at h'
   simp only [cond_false] at h'
   split at h'
   ·rename_i l S1 hp
    have hvok: ∀ v∈parts.toList.map (fun x=>S.opd x.2),v.ok S.gh:=fun v hv=>by
     obtain⟨y,_,rfl⟩:=List.mem_map.1 hv
     exact oU hS _
    obtain⟨L,d,hnd,m1,m2,m3⟩:=Zv el _ S S1 l hS hvok hp
    simp only [Bool.and_eq_true] at hb'
    have hb1:len*el.width≤1048576:=Nat.le_of_ble_eq_true hb'.1
    have hb2:=QR hb'.2
    have hlen:l.length=len:=by
     rw [m2]
     have:=congrArg List.length hb2
     simpa using this
    refine⟨Sk, .own ⟨0,[]⟩ el.width 0 len,_,[.sl el.width (l.map el.row)],qu L,{ S1 with gh:=S1.gh++ [some ⟨el,l,none⟩] },kU,?_,?_,d.make ⟨el,l,none⟩,?_,TS.ok_gh (d.ok hS) (jL.app _ _),?_,h'⟩
    ·simp only [fO,g1,Option.bind_some]
     rw [if_pos ⟨by rw [g2]; exact hb1,hb2,by rw [g2]; exact el.width_pos,by rw [g6]; rfl,by
      rw [List.all_eq_true]
      intro y hy
      obtain⟨q1,q2⟩:=m3 (S.opd y.2) (List.mem_map.2 ⟨y,hy,rfl⟩)
      simp only [bk,q1,q2,g2]
      rfl⟩]
     have e: (parts.toList.map fun x=>(opd S.st x.2).cells)=(parts.toList.map fun x=>S.opd x.2).map fun v=>v.av.cells:=by
      rw [List.map_map]
      exact List.map_congr_left fun x _=>by simp only [bk,Function.comp]
     rw [e,g5,m1]
     simp only [Option.bind_some]
     rw [if_pos (K2.2 hnd),g2]
    ·simp only [rQ,qs,tA,V.av,V1.av,Cl.av,Nat.zero_add,hlen]
     rw [d.len]
     rfl
    ·unfold He
     simp only
     rw [d.gone,List.drop_append_of_le_length (by rw [d.len]; exact Nat.le_refl _),List.drop_eq_nil_of_le (by rw [d.len]; exact Nat.le_refl _)]
     rfl
    ·refine⟨by simp,fun _=>⟨rfl,rfl,fun tr htr=> ?_⟩⟩
     rw [oV,if_pos rfl] at htr
     cases htr
     rfl
   ·cases h'
 | call c=>
   obtain⟨cl,as,ts⟩:=c
   cases cl with
   | invoke a b=>cases hn
   | value f=>
     unfold Ff at h
     simp only at h
     have fin: ∀ (g:FuncId) (caps:List AV) (vs:List V1),g < kQ→callee S.st f=some (g,caps)→args P S.st ts as caps=vs.map V1.av→Y g vs ρ (fun res out=>κ (yG S.gh.length res) { S with gh:=S.gh++out.map some })=some r→
       ∃ D v0 v adds cons S',sn P D∧fO D P S.st ⟨dst, .call { callee:= .value f,args:=as,argTypes:=ts },ty,pos,aft,gd⟩=some (v0,adds,cons)∧rQ S.st.ng v0=V.av v∧S.st.make ⟨S.st.ng,adds,cons⟩=TS.st S'∧He S S'=⟨S.st.ng,adds,cons⟩∧S'.ok∧v.ok S'.gh∧κ v S'=some r:=by
      intro g caps vs hg h1 h2 h3
      obtain⟨res,out,h4,h5,h6⟩:=hY _ _ _ _ _ h3
      have h4:=h4.fn hg
      refine⟨XB dst g (vs.map V1.av) (res.av,out.map cc.tree),res.av,_,out.map cc.tree,[],_,L3 h4,?_,?_,aa0 S out,?_,TS.ok_gh hS (jL.apps _ _),Hk h5,h6⟩
      ·simp only [fO,h1,Option.bind_some,h2]
       rw [WN]
       rfl
      ·rw [Hj]; rfl
      ·unfold He
       simp only [Mc,List.drop_append_of_le_length (Nat.le_refl _),List.drop_length,List.nil_append,VD]
       rfl
     unfold WE at h
     split at h
     ·rename_i g x y hf'
      obtain⟨hg,h⟩:=aB h
      have hg:g < kQ:=Nat.le_of_ble_eq_true hg
      obtain⟨vs,h1,h⟩:=xH hΘ hS _ _ _ _ h
      refine fin g [] vs hg ?_ ?_ h
      ·unfold callee
       rw [bk,hf']
       rfl
      ·unfold args
       simp only [List.map_nil,List.append_nil]
       exact h1
     ·rename_i g caps hf'
      obtain⟨hg,h⟩:=aB h
      have hg:g < kQ:=Nat.le_of_ble_eq_true hg
      obtain⟨vs,h1,h⟩:=xH hΘ hS _ _ _ _ h
      have hcaps: ∀ c∈caps,c.ok S.gh:=by
       have:=oU hS f
       rw [hf'] at this
       exact this
      obtain⟨cs,h2,h⟩:=Fi hS _ _ _ hcaps h
      refine fin g (caps.map Cl.av) (vs++cs.map .cl) hg ?_ ?_ h
      ·unfold callee
       rw [bk,hf']
       rfl
      ·unfold args
       rw [h1,h2,List.map_append,List.map_map]
       rfl
     ·cases h
   | builtin b=>
     cases b with
     | append=>
       unfold Ff at h
       simp only at h
       split at h
       ·rename_i s x t t' e1 e2
        have hbb: ((match ts.toList with | [t,t'] =>Nat.beq t t' | _=>true)&&(match as.toList with | s::_=>WG (S.opd s) | [] =>true))=true:=hb
        rw [e1,e2] at hbb
        simp only [Bool.and_eq_true] at hbb
        rw [hbb.1] at h
        simp only [cond_true] at h
        have h':=h
        have ht:t=t':=Nat.eq_of_beq_eq_true hbb.1
        clear h
        have e1:as= #[s,x] :=by apply Array.ext'; simpa using e1
        have e2:ts= #[t,t'] :=by apply Array.ext'; simpa using e2
        subst e1 e2
        subst ht
        obtain⟨ti,el,elT',hti,he,g1,g2,g3,g4,g5,g6⟩:=Zw hΘ hf
        unfold aaI at h'
        simp only [hti] at h'
        split at h'
        ·rename_i el' sv xv he' hs hx
         rw [he] at he'
         cases he'
         have hsv:=oU hS s
         rw [hs] at hsv
         have hxv:=oU hS x
         rw [hx] at hxv
         obtain⟨more,L,S1,d1,q1,h⟩:=aa3 (show xv.ok S.gh from hxv) h'
         have hroot:WG (.v (.cl sv))=true:=by rw [←hs]; exact hbb.2
         obtain⟨l0,cons,S2,q2,d2,h⟩:=Zx (show sv.ok S1.gh from Cl.ok_mono d1.le hsv) hroot h
         obtain⟨hbd,h⟩:=dT h
         have hlen: (l0++more).length≤2 ^ 40:=Nat.le_trans (Nat.le_mul_of_pos_right _ g4) hbd
         have hll: (l0++more).length=l0.length+more.length:=by simp
         have d:=d1.trans d2
         refine⟨Sk, .own ⟨0,[]⟩ el.width 0 (l0.length+more.length),_,[.sl el.width ((l0++more).map el.row)],qu (L++cons),{ S2 with gh:=S2.gh++ [some ⟨el,l0++more,none⟩] },kU,?_,?_,d.make ⟨el,l0++more,none⟩,?_,TS.ok_gh (d.ok hS) (jL.app _ _),?_,h⟩
         ·simp only [fO]
          rw [if_pos trivial,g1]
          simp only [Option.bind_some,g2,g5,Hl,bk,hs,hx]
          show (iB S.st el.width el.flatB xv.av).bind _=_
          rw [q1]
          simp only [Option.bind_some]
          show (rR (dropL S.st L) el.width sv.av).bind _=_
          rw [←d1.st,q2]
          simp only [Option.bind_some,List.length_map]
          rw [if_pos ⟨by rw [g3,←hll]; exact hbd,by rw [←hll]; exact hlen,el.width_pos,by rw [K8 g2 g5 g6]; rfl⟩,List.map_append]
         ·simp only [rQ,qs,tA,V.av,V1.av,Cl.av,Nat.zero_add,hll]
          rw [d.len]
          rfl
         ·unfold He
          simp only
          rw [d.gone,List.drop_append_of_le_length (by rw [d.len]; exact Nat.le_refl _),List.drop_eq_nil_of_le (by rw [d.len]; exact Nat.le_refl _)]
          rfl
         ·refine⟨by simp,fun _=>⟨rfl,rfl,fun tr htr=> ?_⟩⟩
          rw [oV,if_pos rfl] at htr
          cases htr
          rfl
        ·cases h'
       ·cases h
     | _=>cases hn
 | _=>cases hn
end
end Go.Proofs.YtkcgfceffffmoaaGreat.En
