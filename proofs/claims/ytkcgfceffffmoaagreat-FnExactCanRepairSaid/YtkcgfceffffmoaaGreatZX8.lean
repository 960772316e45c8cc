import Derived.Test.YtkcgfceffffmoaaGreatZX7
namespace Go.Proofs.YtkcgfceffffmoaaGreat.En
open Go
section
variable {ρ:Type} {P:Program} {Θ:oI} {S:TS} {Y:xZ}
theorem LI (hS:S.ok) {gs:List bU} {et:Option Ty} {c:Cl} (hc:c.ok S.gh) {κ:Cl→List bU→TS→Option ρ} {r:ρ} (h:Py S gs et c κ=some r):
  ∃ c' gs' S',Am S.st (gs.map bU.tree) (J4 et) c.av=some (Cl.av c',gs'.map bU.tree,TS.st S')∧S'.ok∧fV S.gh S'.gh∧fV (gs.map some) (gs'.map some)∧c'.ok (gs'.map some)∧κ c' gs' S'=some r:=by
 have new: ∀ (t:Ty) (l:List t.D) (n:Nat),n=l.length→(Cl.own ⟨gs.length,[]⟩ t.width 0 n true).ok ((gs++ [(⟨t,l,none⟩:bU)]).map some):=by
  intro t l n hn
  refine⟨by simp,fun _=>⟨rfl,rfl,fun tr htr=> ?_⟩⟩
  rw [List.map_append] at htr
  have e:=lD (G:=gs.map some) (x:=some (⟨t,l,none⟩:bU)) gs.length
  simp only [List.length_map,if_true] at e
  have htr':cY (gs.map some++ [some (⟨t,l,none⟩:bU)]) gs.length=some tr:=htr
  rw [e] at htr'
  cases htr'
  exact hn
 have grow: ∀ (x:bU),fV (gs.map some) ((gs++ [x]).map some):=fun x=>by rw [List.map_append]; exact fV.app _ _
 unfold Py at h
 split at h
 ·refine⟨_,_,_,rfl,hS,fV.refl _,fV.refl _,?_,h⟩
  trivial
 ·rename_i t
  refine⟨_,_,S,?_,hS,fV.refl _,grow _,new t [] 0 rfl,h⟩
  simp only [Cl.av,Am,J4,List.length_map,List.map_append,List.map_cons,List.map_nil]
  rfl
 ·rename_i p sz lo len w t'
  obtain⟨pr,pl⟩:=p
  cases pl with
  | cons a l=>cases h
  | nil=>
    simp only at h
    obtain⟨h1,h'⟩:=am h
    clear h
    simp only [Bool.and_eq_true] at h1
    have h2:S.fz≤pr:=Nat.le_of_ble_eq_true h1.1
    have h3:t'.width=sz:=Nat.eq_of_beq_eq_true h1.2
    obtain⟨t,l,k1,k2,h⟩:=ek h'
    obtain⟨k3,h⟩:=am h
    have k3:t.width=sz:=Nat.eq_of_beq_eq_true k3
    have fin: ∀ (len:Nat),len≤l.length→Am S.st (gs.map bU.tree) (J4 (some t')) (.own ⟨pr,[]⟩ sz 0 len)=some (.own ⟨gs.length,[]⟩ sz 0 len,(gs++ [(⟨t,l.take len,none⟩:bU)]).map bU.tree,({ S with gh:=cS S.gh pr none }:TS).st):=by
     intro len hlen
     simp only [Am]
     have hrows:S.st.rows ⟨pr,[]⟩ sz=some (l.map t.row):=by rw [←k3]; exact j8 k1
     rw [if_pos ⟨trivial,by show sz=t'.width; exact h3.symm,trivial,h2⟩,hrows]
     simp only [Option.bind_some,List.length_map]
     rw [if_pos hlen,wE]
     simp only [J4,h3,List.map_append,List.map_cons,List.map_nil,bU.tree,List.map_take,k3]
    cases w with
    | true=>
      obtain⟨e1,e2,e3⟩:=tj hc k2
      refine⟨_,_,_,?_,TS.ok_gh hS (fV.gone _ _),fV.gone _ _,grow _,by rw [←k3]; exact new t l _ rfl,h⟩
      have:=fin l.length (Nat.le_refl _)
      rw [List.take_length] at this
      simp only [Cl.av]
      rw [e2,e3]
      exact this
    | false=>
      simp only [cond_false] at h
      obtain⟨h4,h⟩:=c8 h
      refine⟨_,_,_,?_,TS.ok_gh hS (fV.gone _ _),fV.gone _ _,grow _,by rw [←k3]; exact new t (l.take len) _ rfl,h⟩
      have hl: (l.take len).length=len:=by simp; omega
      simp only [Cl.av]
      rw [h4.1,hl]
      exact fin len h4.2
 ·cases h
theorem Oq: ∀ (ets:List (Option Ty)) (cs:List Cl) (S:TS) (gs:List bU) (κ:List Cl→List bU→TS→Option ρ) (r:ρ),S.ok→(∀ c∈cs,c.ok S.gh)→Lt S gs ets cs κ=some r→
  ∃ cs' gs' S',rM S.st (gs.map bU.tree) (ets.map J4) (cs.map Cl.av)=some (cs'.map Cl.av,gs'.map bU.tree,TS.st S')∧S'.ok∧fV S.gh S'.gh∧fV (gs.map some) (gs'.map some)∧(∀ c∈cs',c.ok (gs'.map some))∧κ cs' gs' S'=some r:=by
 intro ets
 induction ets with
 | nil=>
   intro cs S gs κ r hS hcs h
   cases cs with
   | nil=>exact⟨[],gs,S,rfl,hS,fV.refl _,fV.refl _,(fun c hc=>by cases hc),h⟩
   | cons c cs=>cases h
 | cons et ets ih=>
   intro cs S gs κ r hS hcs h
   cases cs with
   | nil=>cases h
   | cons c cs=>
     unfold Lt at h
     obtain⟨c',g1,S1,h1,h2,h3,h4,h5,h⟩:=LI hS (hcs c List.mem_cons_self) h
     obtain⟨cs',g2,S2,k1,k2,k3,k4,k5,h⟩:=ih cs S1 g1 _ r h2 (fun x hx=>Cl.ok_mono h3 (hcs x (List.mem_cons_of_mem _ hx))) h
     refine⟨c'::cs',g2,S2,?_,k2,h3.trans k3,h4.trans k4,fun x hx=> ?_,h⟩
     ·simp only [List.map_cons,rM,h1,Option.bind_some,k1,Option.map_some]
     ·rcases List.mem_cons.1 hx with rfl | hx
      ·exact Cl.ok_mono k4 h5
      ·exact k5 x hx
theorem PY (hΘ:eb P Θ) (hS:S.ok) {gs:List bU} {t:TypeId} {v:V} (hv:v.ok S.gh) {κ:V1→List bU→TS→Option ρ} {r:ρ} (h:QW Θ S gs t v κ=some r):
  ∃ v' gs' S',L7 P S.st (gs.map bU.tree) t v.av=some (V1.av v',gs'.map bU.tree,TS.st S')∧S'.ok∧fV S.gh S'.gh∧fV (gs.map some) (gs'.map some)∧v'.ok (gs'.map some)∧κ v' gs' S'=some r:=by
 unfold QW at h
 split at h
 ·cases h
 ·rename_i ti hti
  have hsh:=(hΘ _ _ hti).sh
  split at h
  ·rename_i cs
   obtain⟨cs',g1,S1,h1,h2,h3,h4,h5,h⟩:=Oq _ _ _ _ _ _ hS hv h
   refine⟨.agg cs',g1,S1,?_,h2,h3,h4,h5,h⟩
   simp only [V.av,V1.av,L7,hsh]
   rw [show ti.ty.shs=ti.ty.csh.map J4 from rfl,h1]
   rfl
  ·rename_i c
   obtain⟨c',g1,S1,h1,h2,h3,h4,h5,h⟩:=LI hS hv h
   refine⟨.cl c',g1,S1,?_,h2,h3,h4,h5,h⟩
   have e:L7 P S.st (gs.map bU.tree) t (V.v (.cl c)).av=Am S.st (gs.map bU.tree) ((n0 P 9 t).headD 0) c.av:=by
    cases c with
    | c x=>cases x <;> rfl
    | _=>rfl
   rw [e,hsh]
   have e2:ti.ty.shs.headD 0=J4 (ti.ty.csh.headD none):=by
    unfold Ty.shs
    cases ti.ty.csh with
    | nil=>rfl
    | cons a l=>cases a <;> rfl
   rw [e2]
   exact h1
  ·cases h
theorem II (hΘ:eb P Θ): ∀ (rs:List (TypeId×V)) (S:TS) (gs:List bU) (κ:List V1→List bU→Option ρ) (r:ρ),S.ok→(∀ x∈rs,x.2.ok S.gh)→tg Θ S gs rs κ=some r→
  ∃ vs gs',HC P S.st (gs.map bU.tree) (rs.map fun x=>(x.1,x.2.av))=some (vs.map V1.av,gs'.map bU.tree)∧fV (gs.map some) (gs'.map some)∧(∀ v∈vs,v.ok (gs'.map some))∧vs.length=rs.length∧κ vs gs'=some r:=by
 intro rs
 induction rs with
 | nil=>intro S gs κ r hS hrs h; exact⟨[],gs,rfl,fV.refl _,(fun v hv=>by cases hv),rfl,h⟩
 | cons x rs ih=>
   intro S gs κ r hS hrs h
   obtain⟨t,v⟩:=x
   unfold tg at h
   obtain⟨v',g1,S1,h1,h2,h3,h4,h5,h⟩:=PY hΘ hS (hrs _ List.mem_cons_self) h
   obtain⟨vs,g2,k1,k2,k3,k4,h⟩:=ih S1 g1 _ r h2 (fun x hx=>V.ok_mono h3 (hrs x (List.mem_cons_of_mem _ hx))) h
   refine⟨v'::vs,g2,?_,h4.trans k2,fun y hy=> ?_,by simp [k4],h⟩
   ·simp only [List.map_cons,HC,h1,Option.bind_some,k1,Option.map_some]
   ·rcases List.mem_cons.1 hy with rfl | hy
    ·exact V1.ok_mono k2 h5
    ·exact k3 y hy
theorem LJ (hΘ:eb P Θ) (hS:S.ok): ∀ (rs:List ResultVar) (ts:List TypeId) (κ:List (TypeId×V)→Option ρ) (r:ρ),DW Θ S rs ts κ=some r→
  ∃ l:List (TypeId×V),rs.mapM (wB P S.st)=some (l.map fun x=>x.2.av)∧l.map (·.1)=ts∧(∀ x∈l,x.2.ok S.gh)∧κ l=some r:=by
 intro rs
 induction rs with
 | nil=>
   intro ts κ r h
   cases ts with
   | nil=>exact⟨[],rfl,rfl,(fun x hx=>by cases hx),h⟩
   | cons t ts=>cases h
 | cons a rs ih=>
   intro ts κ r h
   cases ts with
   | nil=>cases a <;> cases h
   | cons t ts=>
     cases a with
     | tmp a=>
       unfold DW at h
       obtain⟨l,h1,h2,h3,h⟩:=ih ts _ r h
       refine⟨(t,f7 S.env a)::l,?_,by simp [h2],fun x hx=> ?_,h⟩
       ·simp only [List.mapM_cons,h1,wB]
        rfl
       ·rcases List.mem_cons.1 hx with rfl | hx
        ·exact Bq hS a
        ·exact h3 x hx
     | cell a t'=>
       unfold DW at h
       have hw:0 < P.cellsOf t':=by
        have h':=h
        unfold Ig at h'
        split at h'
        ·rename_i ti hti
         rw [(hΘ _ _ hti).cells]
         exact Ty.width_pos _
        ·cases h'
       obtain⟨u,g1,g2,h⟩:=Ir hΘ hS (Bq hS a) h
       obtain⟨l,h1,h2,h3,h⟩:=ih ts _ r h
       refine⟨(t,u)::l,?_,by simp [h2],fun x hx=> ?_,h⟩
       ·simp only [List.mapM_cons,h1,wB]
        rw [if_pos hw]
        have :load P S.st t' (S.st.env a)=some u.av:=g1
        rw [this]
        rfl
       ·rcases List.mem_cons.1 hx with rfl | hx
        ·exact g2
        ·exact h3 x hx
theorem Gi {α β γ:Type} (f:α×β→γ): ∀ l:List (α×β),(l.map (·.1)).zip (l.map f)=l.map fun x=>(x.1,f x)
 | [] =>rfl
 | a::l=>by simp only [List.map_cons,List.zip_cons_cons,Gi f l]
theorem LK (vs:List V1): (x9 vs).av=RD (vs.map V1.av):=by
 match vs with
 | [] =>rfl
 | [v] =>rfl
 | v::u::vs=>rfl
theorem vC: ∀ (args:List V1) (n t:Nat),(f7 (nh n args) (n+t)).av=(args.map V1.av).getD t .dead
 | [],n,t=>by simp [nh,f7]; rfl
 | a::l,n,0=>by simp [nh,f7]; rfl
 | a::l,n,t+1=>by
   have :Nat.beq n (n+(t+1))=false:=by
    cases h:Nat.beq n (n+(t+1)) with
    | false=>rfl
    | true=>have:=Nat.eq_of_beq_eq_true h; omega
   simp only [nh,f7,this,cond_false]
   rw [show n+(t+1)=(n+1)+t by omega,vC l (n+1) t]
   simp
theorem vD: ∀ (args:List V1) (n:Nat) (x:Nat×V),x∈nh n args→ ∃ a∈args,x.2= .v a
 | [],n,x,h=>by cases h
 | a::l,n,x,h=>by
   simp only [nh,List.mem_cons] at h
   rcases h with rfl | h
   ·exact⟨a,List.mem_cons_self,rfl⟩
   ·obtain⟨b,hb,he⟩:=vD l (n+1) x h
    exact⟨b,List.mem_cons_of_mem _ hb,he⟩
theorem Q0 (hΘ:eb P Θ) (hY:aw P Y) (hm:P.follows .mixedOrders=true) {Λ:pQ} {f:FuncId} {fn:Func} (hf:NC P f=some fn) (hL: ∀ c,fn.body=some c→fE P Λ (eL c)) {args:List V1} (ha: ∀ a∈args,a.ok []) {res:V} {out:List bU}
  (h:Sz Θ Y Λ fn args (fun v g=>some (v,g))=some (res,out)):xR P f (args.map V1.av) [] res.av (out.map bU.tree):=by
 unfold Sz at h
 split at h
 ·cases h
 ·rename_i c hc
  have hcok:ly P c=true:=by
   unfold NC at hf
   simp only [Option.bind_eq_some_iff] at hf
   obtain⟨fn',g1,g2⟩:=hf
   split at g2
   ·cases g2
   ·rename_i c' hc'
    split at g2
    ·cases g2
    ·rename_i hn
     simp only [Option.some.injEq] at g2
     subst g2
     rw [hc] at hc'
     simp only [Option.some.injEq] at hc'
     subst hc'
     simp only [Bool.or_eq_true,not_or,Bool.not_eq_true,Bool.not_eq_false'] at hn
     exact hn.2
  have hS0: ({ env:=nh 0 args,bx:= [],gh:= [],fz:=0,nt:=args.length+(fn.ntmps - args.length) }:TS).ok:=
   ⟨fun x hx=>by obtain⟨a,h1,h2⟩:=vD _ _ _ hx; rw [h2]; exact ha a h1,fun cs hcs=>by cases hcs⟩
  have hbeg: ({ env:=nh 0 args,bx:= [],gh:= [],fz:=0,nt:=args.length+(fn.ntmps - args.length) }:TS).st=DV fn.ntmps (args.map V1.av) [] :=by
   unfold TS.st DV
   simp only [List.length_map,List.length_nil]
   congr 1
   funext t
   have:=vC args 0 t
   rw [Nat.zero_add] at this
   exact this
  have hW:=Bs hΘ hY hm c _ _ _ hcok (hL c hc) hS0 h
  rw [hbeg] at hW
  have cd: ∀ (x:X) (S1:TS),S1.ok→(match x with | .ext _=>none | _=>DW Θ S1 fn.results.toList fn.resultTypes.toList fun rs=>tg Θ S1 [] rs fun vs gs=>some (x9 vs,gs))=some (res,out)→
    (match x with | .ext _=>False | _=>Ap P fn.results.toList fn.resultTypes.toList 0 S1.st=some (res.av,out.map bU.tree)):=by
   intro x S1 hS1 h
   have main: (DW Θ S1 fn.results.toList fn.resultTypes.toList fun rs=>tg Θ S1 [] rs fun vs gs=>some (x9 vs,gs))=some (res,out)→Ap P fn.results.toList fn.resultTypes.toList 0 S1.st=some (res.av,out.map bU.tree):=by
    intro h
    obtain⟨l,h1,h2,h3,h⟩:=LJ (P:=P) hΘ hS1 _ _ _ _ h
    obtain⟨vs,gs',k1,k2,k3,k4,h⟩:=II (P:=P) hΘ _ _ _ _ _ hS1 h3 h
    simp only [Option.some.injEq,Prod.mk.injEq] at h
    obtain⟨rfl,rfl⟩:=h
    unfold Ap
    rw [h1]
    simp only [Option.bind_some,List.length_map]
    have hz: (fn.resultTypes.toList.zip (l.map fun x=>x.2.av))=l.map fun x=>(x.1,x.2.av):=by
     rw [←h2]
     exact Gi _ l
    rw [if_pos (by rw [←h2]; simp),hz]
    have k1':HC P S1.st [] (l.map fun x=>(x.1,x.2.av))=some (vs.map V1.av,gs'.map bU.tree):=k1
    simp only [List.range_zero,List.map_nil,k1',Option.map_some,LK]
   cases x with
   | ext i=>cases h
   | nor=>exact main h
   | ret=>exact main h
  refine H6 hf hc (hW.mono (fun x S' hx=>⟨S',n8.refl,?_⟩))
  obtain⟨S1,rfl,h1,h2⟩:=hx
  have:=cd x S1 h1 h2
  cases x <;> exact this
theorem IJ (a:List V1) (t:Nat): (f7 (nh 0 a) t).av=(a.map V1.av).getD t .dead:=by
 have:=vC a 0 t
 rwa [Nat.zero_add] at this
theorem LL (hΘ:eb P Θ) (hY:aw P Y) (hm:P.follows .mixedOrders=true) {Λ:pQ} {f:FuncId} {fn:Func} (hf:NC P f=some fn) (hL: ∀ c,fn.body=some c→fE P Λ (eL c)) {m:Nat} (hm1:m≤1) {el:Ty} {l:List el.D} {args:List V1} (ha: ∀ a∈args,a.ok []) {res:V} {out:List bU}
  (h:PA Θ Y Λ fn m el l args (fun v g=>some (v,g))=some (res,out)):rT P f (.own ⟨0,[]⟩ el.width 0 l.length::args.map V1.av) [.sl el.width (l.map el.row)] m res.av (out.map bU.tree):=by
 unfold PA at h
 split at h
 ·cases h
 ·rename_i c hc
  have hcok:ly P c=true:=by
   unfold NC at hf
   simp only [Option.bind_eq_some_iff] at hf
   obtain⟨fn',g1,g2⟩:=hf
   split at g2
   ·cases g2
   ·rename_i c' hc'
    split at g2
    ·cases g2
    ·rename_i hn
     simp only [Option.some.injEq] at g2
     subst g2
     rw [hc] at hc'
     simp only [Option.some.injEq] at hc'
     subst hc'
     simp only [Bool.or_eq_true,not_or,Bool.not_eq_true,Bool.not_eq_false'] at hn
     exact hn.2
  have hS0: ({ env:=nh 0 (.cl (.own ⟨0,[]⟩ el.width 0 l.length true)::args),bx:= [],gh:= [some ⟨el,l,none⟩],fz:=m,nt:=(args.length+1)+(fn.ntmps - (args.length+1)) }:TS).ok:=
   ⟨fun x hx=>by
    obtain⟨a,h1,h2⟩:=vD _ _ _ hx
    rw [h2]
    rcases List.mem_cons.1 h1 with rfl | h1
    ·refine⟨Nat.zero_lt_one,fun _=>⟨rfl,rfl,fun tr htr=> ?_⟩⟩
     have htr:some (⟨el,l,none⟩:bU)=some tr:=htr
     cases htr
     rfl
    ·exact V1.ok_mono (G:= []) ⟨Nat.zero_le _,fun r tr hr=>by cases hr⟩ (ha a h1),fun cs hcs=>by cases hcs⟩
  have hbeg: ({ env:=nh 0 (.cl (.own ⟨0,[]⟩ el.width 0 l.length true)::args),bx:= [],gh:= [some ⟨el,l,none⟩],fz:=m,nt:=(args.length+1)+(fn.ntmps - (args.length+1)) }:TS).st=Mm fn.ntmps (.own ⟨0,[]⟩ el.width 0 l.length::args.map V1.av) [.sl el.width (l.map el.row)] m:=by
   unfold TS.st Mm DV
   simp only [List.length_map,List.length_cons,List.length_nil]
   congr 1
   ·funext t
    exact IJ _ t
   ·funext r
    show (cY [some ⟨el,l,none⟩] r).map bU.tree= [T.sl el.width (l.map el.row)][r]?
    unfold cY
    rw [dj]
    cases r <;> rfl
  have hW:=Bs hΘ hY hm c _ _ _ hcok (hL c hc) hS0 h
  rw [hbeg] at hW
  have fin: ∀ (S1:TS),S1.ok→ ∀ gs:List bU,((List.range m).map fun r=>(S1.st.gh r).getD .dd)=gs.map bU.tree→ ∀ l,(fn.results.toList.mapM (wB P S1.st))=some (l.map fun x:TypeId×V=>x.2.av)→l.map (·.1)=fn.resultTypes.toList→(∀ x∈l,x.2.ok S1.gh)→
    (tg Θ S1 gs l fun vs gs=>some (x9 vs,gs))=some (res,out)→Ap P fn.results.toList fn.resultTypes.toList m S1.st=some (res.av,out.map bU.tree):=by
   intro S1 hS1 gs hgs l h1 h2 h3 h
   obtain⟨vs,gs',k1,k2,k3,k4,h⟩:=II (P:=P) hΘ _ _ _ _ _ hS1 h3 h
   simp only [Option.some.injEq,Prod.mk.injEq] at h
   obtain⟨rfl,rfl⟩:=h
   unfold Ap
   rw [h1]
   simp only [Option.bind_some,List.length_map]
   have hz: (fn.resultTypes.toList.zip (l.map fun x=>x.2.av))=l.map fun x=>(x.1,x.2.av):=by
    rw [←h2]
    exact Gi _ l
   rw [if_pos (by rw [←h2]; simp),hz,hgs,k1]
   simp only [Option.map_some,LK]
  have main: ∀ (S1:TS),S1.ok→(DW Θ S1 fn.results.toList fn.resultTypes.toList fun rs=>bif Nat.beq m 0 then tg Θ S1 [] rs fun vs gs=>some (x9 vs,gs) else match cY S1.gh 0 with
    | some ⟨t,l',none⟩=>tg Θ S1 [⟨t,l',none⟩] rs fun vs gs=>some (x9 vs,gs)
    | _=>none)=some (res,out)→Ap P fn.results.toList fn.resultTypes.toList m S1.st=some (res.av,out.map bU.tree):=by
   intro S1 hS1 h0
   obtain⟨l,h1,h2,h3,h⟩:=LJ (P:=P) hΘ hS1 _ _ _ _ h0
   clear h0
   cases hm0:Nat.beq m 0 with
   | true=>
     rw [hm0] at h
     have e:m=0:=Nat.eq_of_beq_eq_true hm0
     exact fin S1 hS1 [] (by rw [e]; rfl) l h1 h2 h3 h
   | false=>
     rw [hm0] at h
     simp only [cond_false] at h
     have e:m=1:=by
      have :m≠0:=fun e=>by rw [e] at hm0; cases hm0
      omega
     split at h
     ·rename_i t l' hg
      exact fin S1 hS1 [⟨t,l',none⟩] (by
       rw [e]
       show [(S1.st.gh 0).getD .dd] =_
       have :S1.st.gh 0=some (bU.tree ⟨t,l',none⟩):=by
        show (cY S1.gh 0).map bU.tree=_
        rw [hg]
        rfl
       rw [this]
       rfl) l h1 h2 h3 h
     ·cases h
  refine H9 hf hc (by simpa using hm1) (hW.mono (fun x S' hx=>⟨S',n8.refl,?_⟩))
  obtain⟨S1,rfl,h1,h2⟩:=hx
  cases x with
  | ext i=>cases h2
  | nor=>exact main S1 h1 h2
  | ret=>exact main S1 h1 h2
end
end Go.Proofs.YtkcgfceffffmoaaGreat.En
namespace Go.Proofs.YtkcgfceffffmoaaGreat.En
open Go
def Ar:List Nat→Nat→Nat→Option Nat
 | [],_,_=>none
 | a::l,x,n=>bif Nat.beq a x then some n else Ar l x (n+1)
def vE (bs ls:List Nat):Cl→Cl
 | .own p sz lo len w=>match Ar ls p.r 0 with | some k=> .own ⟨k,p.l⟩ sz lo len w | none=> .dead
 | .ptrT p sz i j=>match Ar ls p.r 0 with | some k=> .ptrT ⟨k,p.l⟩ sz i j | none=> .dead
 | .ptrB n j=>match Ar bs n 0 with | some k=> .ptrB k j | none=> .dead
 | c=>c
def Ot (bs ls:List Nat):V1→V1
 | .cl c=> .cl (vE bs ls c)
 | .agg cs=> .agg (cs.map (vE bs ls))
 | .fn f cs=> .fn f (cs.map (vE bs ls))
def Ou (bs ls:List Nat):V→V
 | .v x=> .v (Ot bs ls x)
 | .tup _=>V.dead
def LM:List Nat→List Nat→List Nat
 | [],acc=>acc
 | a::l,acc=>match Ar acc a 0 with | some _=>LM l acc | none=>LM l (acc++ [a])
def Co:List Nat→Bool
 | [] =>true
 | a::l=>(match Ar l a 0 with | some _=>false | none=>true)&&Co l
def SA:Cl→List Nat | .ptrB n _=> [n] | _=> []
def RM:Cl→List Nat | .own p _ _ _ _=> [p.r] | .ptrT p _ _ _=> [p.r] | _=> []
def V1.all:V1→List Cl | .cl c=> [c] | .agg cs=>cs | .fn _ cs=>cs
def V.all:V→List Cl | .v x=>x.all | .tup _=> []
def LN (S:TS) (keep:List Nat):List Nat:=LM (keep.flatMap fun t=>(f7 S.env t).all.flatMap SA) []
def Qx (S:TS) (keep bs:List Nat):List Nat:=LM (List.range S.fz++(keep.flatMap fun t=>(f7 S.env t).all.flatMap RM)++bs.flatMap fun b=>((nZ S.bx b).getD []).flatMap RM) []
def f8 (S:TS) (keep bs ls:List Nat):TS where
 env:=keep.map fun t=>(t,Ou bs ls (f7 S.env t))
 bx:=bs.map fun b=>((nZ S.bx b).getD []).map (vE bs ls)
 gh:=ls.map fun r=>cY S.gh r
 fz:=S.fz
 nt:=S.nt
def Gj (S:TS) (bs ls:List Nat):Bool:=Co bs&&Co ls&&bs.all (fun b=>Nat.blt b S.bx.length)&&RF (ls.take S.fz) (List.range S.fz)&&ls.all (fun r=>Nat.blt r S.gh.length)
def MC (G:List (Option bU)):Cl→Cl
 | .own p sz lo len true=> .own p sz lo (match nZ G p.r with | some (some tr)=>tr.l.length | _=>len) true
 | c=>c
def Ov (G:List (Option bU)):V1→V1
 | .cl c=> .cl (MC G c)
 | .agg cs=> .agg (cs.map (MC G))
 | .fn f cs=> .fn f (cs.map (MC G))
def RN (G:List (Option bU)):V→V
 | .v x=> .v (Ov G x)
 | .tup l=> .tup (l.map (Ov G))
def Q1 (S:TS):TS:= { S with env:=S.env.map (fun x=>(x.1,RN S.gh x.2)),bx:=S.bx.map (fun cs=>cs.map (MC S.gh)) }
def yi {ρ:Type} (keep:List Nat) (S:TS) (κ:TS→Option ρ):Option ρ:=bif Gj S (LN S keep) (Qx S keep (LN S keep)) then κ (Q1 (f8 S keep (LN S keep) (Qx S keep (LN S keep)))) else none
theorem yj: ∀ {l:List Nat} {x n k:Nat},Ar l x n=some k→n≤k∧l[k - n]? =some x
 | [],x,n,k,h=>by cases h
 | a::l,x,n,k,h=>by
   simp only [Ar] at h
   cases hb:Nat.beq a x with
   | true=>
     rw [hb] at h
     simp only [cond_true,Option.some.injEq] at h
     subst h
     exact⟨Nat.le_refl _,by simp [Nat.eq_of_beq_eq_true hb]⟩
   | false=>
     rw [hb] at h
     obtain⟨h1,h2⟩:=yj (l:=l) h
     refine⟨by omega,?_⟩
     rw [show k - n=(k - (n+1))+1 by omega,List.getElem?_cons_succ]
     exact h2
theorem Fj: ∀ {l:List Nat} {x n:Nat},Ar l x n=none→x∉l
 | [],x,n,_=>by simp
 | a::l,x,n,h=>by
   simp only [Ar] at h
   cases hb:Nat.beq a x with
   | true=>rw [hb] at h; cases h
   | false=>
     rw [hb] at h
     have:=Fj (l:=l) h
     intro hm
     rcases List.mem_cons.1 hm with rfl | hm
     ·rw [Nat.beq_refl] at hb; cases hb
     ·exact this hm
theorem vF: ∀ {l:List Nat},Co l=true→ ∀ (i j x:Nat),l[i]? =some x→l[j]? =some x→i=j
 | [],_,i,j,x,hi,_=>by simp at hi
 | a::l,h,i,j,x,hi,hj=>by
   simp only [Co,Bool.and_eq_true] at h
   have hna:a∉l:=by
    have h1:=h.1
    split at h1
    ·cases h1
    ·rename_i hp; exact Fj hp
   cases i with
   | zero=>
     simp only [List.getElem?_cons_zero,Option.some.injEq] at hi
     subst hi
     cases j with
     | zero=>rfl
     | succ j=>simp only [List.getElem?_cons_succ] at hj; exact absurd (List.mem_of_getElem? hj) hna
   | succ i=>
     simp only [List.getElem?_cons_succ] at hi
     cases j with
     | zero=>
       simp only [List.getElem?_cons_zero,Option.some.injEq] at hj
       subst hj
       exact absurd (List.mem_of_getElem? hi) hna
     | succ j=>
       simp only [List.getElem?_cons_succ] at hj
       rw [vF h.2 i j x hi hj]
def Bt.ren (bt:Bt) (bs ls:List Nat):Bt where
 β:=fun p=>bt.β ⟨ls.getD p.r 0,p.l⟩
 κ:=fun p=>bt.κ ⟨ls.getD p.r 0,p.l⟩
 bb:=fun n=>bt.bb (bs.getD n 0)
 nb:=bs.length
 ng:=ls.length
 A:=bt.A
theorem Gk {w:World} {bt:Bt} {bs ls:List Nat} {c:Cl} {u:Value} (h:VR w bt c.av u):VR w (bt.ren bs ls) (vE bs ls c).av u:=by
 have lt: ∀ {l:List Nat} {x k:Nat},Ar l x 0=some k→k < l.length∧l.getD k 0=x:=by
  intro l x k hk
  obtain⟨_,h2⟩:=yj hk
  rw [Nat.sub_zero] at h2
  exact⟨(List.getElem?_eq_some_iff.1 h2).1,by simp [List.getD_eq_getElem?_getD,h2]⟩
 cases c with
 | c x=>
   cases x with
   | sc v=>cases h with | sc h=>exact .sc h
   | ls t l=>cases h with | ro h=>exact .ro h
 | em=>cases h with | em a=>exact .em a
 | own p sz lo len wh=>
   simp only [vE]
   split
   ·rename_i k hk
    obtain⟨h1,h2⟩:=lt hk
    have hp: (⟨ls.getD k 0,p.l⟩:bS)=p:=by rw [h2]
    have e1: (bt.ren bs ls).κ ⟨k,p.l⟩=bt.κ p:=by
     have e: (bt.ren bs ls).κ ⟨k,p.l⟩=bt.κ (bS.mk (ls.getD k 0) p.l):=rfl
     rw [e,hp]
    have e2: (bt.ren bs ls).β ⟨k,p.l⟩=bt.β p:=by
     have e: (bt.ren bs ls).β ⟨k,p.l⟩=bt.β (bS.mk (ls.getD k 0) p.l):=rfl
     rw [e,hp]
    cases h with
    | own hp' hc hkk ha=>exact .own h1 hc (by rw [e1]; exact hkk) (by rw [e2]; exact ha)
   ·exact .dead _
 | pro cs=>cases h with | pro cs hs hA hr ht=>exact .pro cs hs hA hr ht
 | ptrB n j=>
   simp only [vE]
   split
   ·rename_i k hk
    obtain⟨h1,h2⟩:=lt hk
    cases h with
    | ptrB j hn=>
      have :bt.bb n=(bt.ren bs ls).bb k:=by show bt.bb n=bt.bb (bs.getD k 0); rw [h2]
      rw [this]
      exact .ptrB j h1
   ·exact .dead _
 | ptrT p sz i j=>
   simp only [vE]
   split
   ·rename_i k hk
    obtain⟨h1,h2⟩:=lt hk
    have hp: (⟨ls.getD k 0,p.l⟩:bS)=p:=by rw [h2]
    cases h with
    | ptrT sz i j hp' hkk=>
      have e1:bt.β p=(bt.ren bs ls).β ⟨k,p.l⟩:=by show bt.β p=bt.β ⟨ls.getD k 0,p.l⟩; rw [hp]
      rw [e1]
      exact .ptrT sz i j h1 (by show _ < bt.κ ⟨ls.getD k 0,p.l⟩; rw [hp]; exact hkk)
   ·exact .dead _
 | dead=>exact .dead _
theorem Ow {w:World} {bt:Bt} {bs ls:List Nat} {v:V1} {u:Value} (h:VR w bt v.av u):VR w (bt.ren bs ls) (Ot bs ls v).av u:=by
 have cells: ∀ (cs:List Cl) (us:List Value),us.length=cs.length→(∀ (k:Nat) (c:AV) (u:Value),(cs.map Cl.av)[k]? =some c→us[k]? =some u→VR w bt c u)→ ∀ (k:Nat) (c:AV) (u:Value),((cs.map (vE bs ls)).map Cl.av)[k]? =some c→us[k]? =some u→VR w (bt.ren bs ls) c u:=by
  intro cs us _ hr k c u hk hu
  rw [List.getElem?_map,List.getElem?_map] at hk
  simp only [Option.map_eq_some_iff] at hk
  obtain⟨c1,⟨c0,hc0,rfl⟩,rfl⟩:=hk
  exact Gk (hr k c0.av u (by rw [List.getElem?_map,hc0]; rfl) hu)
 cases v with
 | cl c=>exact Gk h
 | agg cs=>
   simp only [V1.av] at h
   cases h with
   | agg hl ho hr=>
     exact .agg (by simpa using hl) ho (cells cs _ (by simpa using hl) hr)
 | fn f cs=>
   simp only [V1.av] at h
   cases h with
   | fn f hl hr=>
     exact .fn f (by simpa using hl) (cells cs _ (by simpa using hl) hr)
theorem PZ {w:World} {bt:Bt} {bs ls:List Nat} {v:V} {u:Value} (h:VR w bt v.av u):VR w (bt.ren bs ls) (Ou bs ls v).av u:=by
 cases v with
 | v x=>exact Ow h
 | tup l=>exact .dead _
theorem Fk (S:TS) (f:V→V): ∀ (keep:List Nat) (t:Nat),f7 (keep.map fun t=>(t,f (f7 S.env t))) t=V.dead∨f7 (keep.map fun t=>(t,f (f7 S.env t))) t=f (f7 S.env t)
 | [],t=> .inl rfl
 | u::l,t=>by
   simp only [List.map_cons,f7]
   cases hb:Nat.beq u t with
   | true=>rw [Nat.eq_of_beq_eq_true hb]; exact .inr rfl
   | false=>exact Fk S f l t
theorem ux (S:TS) (keep bs ls:List Nat) (r:Nat):cY (f8 S keep bs ls).gh r=(ls[r]?).bind fun q=>cY S.gh q:=by
 show (nZ (ls.map fun r=>cY S.gh r) r).getD none=_
 rw [dj,List.getElem?_map]
 cases ls[r]? <;> rfl
theorem IK {S:TS} {keep bs ls:List Nat} (h:Gj S bs ls=true):n8 S.st (f8 S keep bs ls).st:=by
 unfold Gj at h
 simp only [Bool.and_eq_true] at h
 obtain⟨⟨⟨⟨hnb,hnl⟩,hbs⟩,hfz⟩,hlt⟩:=h
 have hfz:=Gf hfz
 intro w0 W btI SI bt a w hl
 have inv:=hl.inv
 have hls: ∀ (k:Nat),k < S.fz→ls[k]? =some k:=by
  intro k hk
  have : (ls.take S.fz)[k]? =(List.range S.fz)[k]? :=by rw [hfz]
  rw [List.getElem?_take,if_pos hk,List.getElem?_range hk] at this
  exact this
 have look: ∀ p s rs,(f8 S keep bs ls).st.look p= .sl s rs→ ∃ q,ls[p.r]? =some q∧S.st.look ⟨q,p.l⟩= .sl s rs∧ls.getD p.r 0=q:=by
  intro p s rs hp
  unfold St.look at hp
  have e: (f8 S keep bs ls).st.gh p.r=((ls[p.r]?).bind fun q=>cY S.gh q).map bU.tree:=by
   show (cY _ _).map bU.tree=_
   rw [ux]
  rw [e] at hp
  cases hq:ls[p.r]? with
  | none=>rw [hq] at hp; cases hp
  | some q=>
    refine⟨q,rfl,?_,by simp [List.getD_eq_getElem?_getD,hq]⟩
    rw [hq] at hp
    exact hp
 have box: ∀ n cells,(f8 S keep bs ls).st.bx n=some cells→ ∃ b cs,bs[n]? =some b∧S.bx[b]? =some cs∧cells=(cs.map (vE bs ls)).map Cl.av∧bs.getD n 0=b:=by
  intro n cells hn
  have hn': (nZ (bs.map fun b=>((nZ S.bx b).getD []).map (vE bs ls)) n).map (fun cs=>cs.map Cl.av)=some cells:=hn
  rw [dj,List.getElem?_map] at hn'
  simp only [Option.map_eq_some_iff] at hn'
  obtain⟨x,⟨b,hb,rfl⟩,rfl⟩:=hn'
  have hlt':b < S.bx.length:=Nat.le_of_ble_eq_true (List.all_eq_true.1 hbs b (List.mem_of_getElem? hb))
  refine⟨b,S.bx[b],hb,List.getElem?_eq_getElem hlt',?_,by simp [List.getD_eq_getElem?_getD,hb]⟩
  rw [dj,List.getElem?_eq_getElem hlt']
  rfl
 have bxS: ∀ {b:Nat} {cs:List Cl},S.bx[b]? =some cs→S.st.bx b=some (cs.map Cl.av):=by
  intro b cs hb
  show (nZ S.bx b).map _=_
  rw [dj,hb]
  rfl
 refine⟨bt.ren bs ls,?_⟩
 refine⟨{ os:=inv.os,tape:=inv.tape,output:=inv.output,size:=inv.size,keep:=inv.keep
          nb:=by show bs.length=_; simp [TS.st,f8]
          ng:=by show ls.length=_; simp [TS.st,f8]
          bx:=fun n cells hn=> ?_
          gh:=fun r t hr=> ?_
          tr:=fun p sz rows hp=> ?_
          inj:=fun p q s rs s' rs' hp hq hk hk' he=> ?_
          bbinj:=fun n m cs cs' hn hm he=> ?_
          bbtr:=fun n cs p s rs hn hp hk=> ?_
          alt:=inv.alt
          atr:=fun p s rs hp hk=> ?_
          abb:=fun n cs hn=> ?_ },⟨hl.er.1,fun t=> ?_⟩,hl.defers,hl.fz,?_,fun p hp=> ?_,fun r hr hn=> ?_⟩
 ·obtain⟨b,cs,h1,h2,rfl,h4⟩:=box n cells hn
  obtain⟨g1,g2,arr,e,g3,g4,g5⟩:=inv.bx b _ (bxS h2)
  refine⟨by show n < _; have:=(List.getElem?_eq_some_iff.1 h1).1; simpa [TS.st,f8] using this,by show _≤bt.bb (bs.getD n 0); rw [h4]; exact g2,arr,e,by show w.heap[bt.bb (bs.getD n 0)]? =_; rw [h4]; exact g3,by simpa using g4,fun j v hj=> ?_⟩
  rw [List.getElem?_map,List.getElem?_map] at hj
  simp only [Option.map_eq_some_iff] at hj
  obtain⟨c1,⟨c0,hc0,rfl⟩,rfl⟩:=hj
  obtain⟨c,k1,k2,k3⟩:=g5 j c0.av (by rw [List.getElem?_map,hc0]; rfl)
  exact⟨c,k1,Gk k2,k3⟩
 ·have hr': (cY (f8 S keep bs ls).gh r).map bU.tree=some t:=hr
  rw [ux] at hr'
  show r < _
  cases hq:ls[r]? with
  | none=>rw [hq] at hr'; cases hr'
  | some q=>
    have:=(List.getElem?_eq_some_iff.1 hq).1
    simpa [TS.st,f8] using this
 ·obtain⟨q,h1,h2,h3⟩:=look p sz rows hp
  obtain⟨g1,g2⟩:=inv.tr _ _ _ h2
  have eκ: (bt.ren bs ls).κ p=bt.κ ⟨q,p.l⟩:=by show bt.κ ⟨ls.getD p.r 0,p.l⟩=_; rw [h3]
  have eβ: (bt.ren bs ls).β p=bt.β ⟨q,p.l⟩:=by show bt.β ⟨ls.getD p.r 0,p.l⟩=_; rw [h3]
  rw [eκ,eβ]
  refine⟨g1,fun hk=>⟨(g2 hk).1,?_⟩⟩
  obtain⟨_,cs,e,k1,k2,k3,k4⟩:=g2 hk
  refine⟨cs,e,by rw [eβ]; exact k1,by rw [eκ]; exact k2,k3,fun i r hi=> ?_⟩
  obtain⟨m1,m2⟩:=k4 i r hi
  refine⟨m1,fun j x hj=> ?_⟩
  obtain⟨c,n1,n2⟩:=m2 j x hj
  refine⟨c,n1,?_⟩
  have f1: (bt.ren bs ls).κ (p.sub i j)=bt.κ (bS.sub ⟨q,p.l⟩ i j):=by show bt.κ ⟨ls.getD p.r 0,p.l++ [(i,j)]⟩=bt.κ ⟨q,p.l++ [(i,j)]⟩; rw [h3]
  have f2: (bt.ren bs ls).β (p.sub i j)=bt.β (bS.sub ⟨q,p.l⟩ i j):=by show bt.β ⟨ls.getD p.r 0,p.l++ [(i,j)]⟩=bt.β ⟨q,p.l++ [(i,j)]⟩; rw [h3]
  cases n2 with
  | sc h=>exact .sc h
  | dd u=>exact .dd _
  | sl q1 q2 q3=>exact .sl q1 (by rw [f1]; exact q2) (by rw [f2]; exact q3)
 ·obtain⟨p',h1,h2,h3⟩:=look p s rs hp
  obtain⟨q',g1,g2,g3⟩:=look q s' rs' hq
  have:=inv.inj ⟨p',p.l⟩ ⟨q',q.l⟩ _ _ _ _ h2 g2 (by rw [←h3]; exact hk) (by rw [←g3]; exact hk') (by rw [←h3,←g3]; exact he)
  simp only [bS.mk.injEq] at this
  obtain⟨e1,e2⟩:=this
  subst e1
  have e3:=vF hnl _ _ _ h1 g1
  cases p; cases q
  simp only at e3 e2
  rw [e3,e2]
 ·obtain⟨b,c,h1,h2,_,h4⟩:=box n cs hn
  obtain⟨b',c',g1,g2,_,g4⟩:=box m cs' hm
  have:=inv.bbinj b b' _ _ (bxS h2) (bxS g2) (by
   have he':bt.bb (bs.getD n 0)=bt.bb (bs.getD m 0):=he
   rw [h4,g4] at he'
   exact he')
  subst this
  exact vF hnb _ _ _ h1 g1
 ·obtain⟨b,c,h1,h2,_,h4⟩:=box n cs hn
  obtain⟨q,g1,g2,g3⟩:=look p s rs hp
  have hk':0 < bt.κ ⟨ls.getD p.r 0,p.l⟩:=hk
  rw [g3] at hk'
  show bt.bb (bs.getD n 0)≠bt.β ⟨ls.getD p.r 0,p.l⟩
  rw [h4,g3]
  exact inv.bbtr _ _ _ _ _ (bxS h2) g2 hk'
 ·obtain⟨q,g1,g2,g3⟩:=look p s rs hp
  have hk':0 < bt.κ ⟨ls.getD p.r 0,p.l⟩:=hk
  rw [g3] at hk'
  show ¬ bt.A (bt.β ⟨ls.getD p.r 0,p.l⟩)
  rw [g3]
  exact inv.atr _ _ _ g2 hk'
 ·obtain⟨b,c,h1,h2,_,h4⟩:=box n cs hn
  show ¬ bt.A (bt.bb (bs.getD n 0))
  rw [h4]
  exact inv.abb _ _ (bxS h2)
 ·show VR w _ (f7 (f8 S keep bs ls).env t).av _
  rcases Fk S (Ou bs ls) keep t with h1 | h1
  ·have :f7 (f8 S keep bs ls).env t=V.dead:=h1
   rw [this]
   exact .dead _
  ·have :f7 (f8 S keep bs ls).env t=Ou bs ls (f7 S.env t):=h1
   rw [this]
   exact PZ (hl.er.2 t)
 ·show S.fz≤(f8 S keep bs ls).gh.length
  rcases Nat.eq_zero_or_pos S.fz with h0 | h0
  ·omega
  ·have:=(List.getElem?_eq_some_iff.1 (hls (S.fz - 1) (by omega))).1
   simp [f8]
   omega
 ·have hp':p.r < S.fz:=by have:=hl.fz; have e:S.st.fz=S.fz:=rfl; omega
  have h3:ls.getD p.r 0=p.r:=by simp [List.getD_eq_getElem?_getD,hls p.r hp']
  have:=hl.keep p hp
  show bt.β ⟨ls.getD p.r 0,p.l⟩=_∧bt.κ ⟨ls.getD p.r 0,p.l⟩=_
  rw [h3]
  exact this
 ·have hr':r < S.fz:=by have:=hl.fz; have e:S.st.fz=S.fz:=rfl; omega
  refine hl.gone r hr ?_
  have hn': (cY (f8 S keep bs ls).gh r).map bU.tree=none:=hn
  rw [ux,hls r hr'] at hn'
  exact hn'
theorem Bu {S:TS} {bs ls:List Nat} {keep:List Nat} {c:Cl} (h:c.ok S.gh): (vE bs ls c).ok (f8 S keep bs ls).gh:=by
 have lt: ∀ {x k:Nat},Ar ls x 0=some k→k < (f8 S keep bs ls).gh.length∧ls[k]? =some x:=by
  intro x k hk
  obtain⟨_,h2⟩:=yj hk
  rw [Nat.sub_zero] at h2
  exact⟨by have:=(List.getElem?_eq_some_iff.1 h2).1; simpa [f8] using this,h2⟩
 cases c with
 | own p sz lo len w=>
   simp only [vE]
   split
   ·rename_i k hk
    obtain⟨h1,h2⟩:=lt hk
    refine⟨h1,fun hw=> ?_⟩
    obtain⟨a,b,c⟩:=h.2 hw
    refine⟨a,b,fun tr htr=>c tr ?_⟩
    rw [ux,h2] at htr
    exact htr
   ·trivial
 | ptrT p sz i j=>
   simp only [vE]
   split
   ·rename_i k hk; exact (lt hk).1
   ·trivial
 | ptrB n j=>simp only [vE]; split <;> trivial
 | _=>trivial
theorem P0 {S:TS} {bs ls:List Nat} {keep:List Nat} {v:V} (h:v.ok S.gh): (Ou bs ls v).ok (f8 S keep bs ls).gh:=by
 have one: ∀ {v:V1},v.ok S.gh→(Ot bs ls v).ok (f8 S keep bs ls).gh:=by
  intro v h
  cases v with
  | cl c=>exact Bu h
  | agg cs=>intro c hc; obtain⟨x,hx,rfl⟩:=List.mem_map.1 hc; exact Bu (h x hx)
  | fn f cs=>intro c hc; obtain⟨x,hx,rfl⟩:=List.mem_map.1 hc; exact Bu (h x hx)
 cases v with
 | v x=>exact one h
 | tup l=>trivial
theorem Fl {S:TS} (hS:S.ok) (keep bs ls:List Nat): (f8 S keep bs ls).ok:=by
 refine⟨fun x hx=> ?_,fun cs hcs c hc=> ?_⟩
 ·obtain⟨t,_,rfl⟩:=List.mem_map.1 hx
  exact P0 (Bq hS t)
 ·obtain⟨b,_,rfl⟩:=List.mem_map.1 hcs
  obtain⟨x,hx,rfl⟩:=List.mem_map.1 hc
  cases hb:nZ S.bx b with
  | none=>rw [hb] at hx; cases hx
  | some cs=>
    rw [hb] at hx
    rw [dj] at hb
    exact Bu (hS.bx cs (List.mem_of_getElem? hb) x hx)
theorem Bv {G:List (Option bU)} {c:Cl} (h:c.ok G):MC G c=c:=by
 unfold MC
 split
 ·rename_i p sz lo len
  split
  ·rename_i tr htr
   rw [(h.2 rfl).2.2 tr (by unfold cY; rw [htr]; rfl)]
  ·rfl
 ·rfl
theorem IL {G:List (Option bU)} {v:V1} (h:v.ok G):Ov G v=v:=by
 cases v with
 | cl c=>exact congrArg V1.cl (Bv h)
 | agg cs=>exact congrArg V1.agg ((List.map_congr_left fun c hc=>Bv (h c hc)).trans (List.map_id' cs))
 | fn f cs=>exact congrArg (V1.fn f) ((List.map_congr_left fun c hc=>Bv (h c hc)).trans (List.map_id' cs))
theorem P1 {G:List (Option bU)} {v:V} (h:v.ok G):RN G v=v:=by
 cases v with
 | v x=>exact congrArg V.v (IL h)
 | tup l=>exact congrArg V.tup ((List.map_congr_left fun c hc=>IL (h c hc)).trans (List.map_id' l))
theorem P2 {S:TS} (h:S.ok):Q1 S=S:=by
 unfold Q1
 rw [List.map_congr_left (g:=id) (fun x hx=>by rw [P1 (h.env x hx)]; rfl),List.map_congr_left (g:=id) (l:=S.bx) (fun cs hcs=>(List.map_congr_left fun c hc=>Bv (h.bx cs hcs c hc)).trans (List.map_id' cs)),List.map_id,List.map_id]
theorem rk {ρ:Type} {S:TS} (hS:S.ok) {keep:List Nat} {κ:TS→Option ρ} {r:ρ} (h:yi keep S κ=some r): ∃ S1:TS,n8 S.st S1.st∧S1.ok∧κ S1=some r:=by
 unfold yi at h
 obtain⟨h1,h⟩:=am h
 rw [P2 (Fl hS _ _ _)] at h
 exact⟨_,IK h1,Fl hS _ _ _,h⟩
end Go.Proofs.YtkcgfceffffmoaaGreat.En
namespace Go.Proofs.YtkcgfceffffmoaaGreat.En
open Go
inductive Sh where
 | int (k:IntKind) | bl | str | ro (t:Ty) | own (r:Nat) (t:Ty) | ptr (n j:Nat) | em | dead | pro (t:Ty) | fc (g:Nat)
abbrev Sh.D:Sh→Type
 | .int _=>Int | .bl=>Bool | .str=>ByteArray | .ro t=>List t.D | .pro t=>t.D | _=>Unit
abbrev uy.D:List Sh→Type
 | [] =>Unit
 | s::l=>s.D×uy.D l
inductive xM where
 | cl (s:Sh) | agg (l:List Sh) | st (n:Sn) | fn (f:FuncId) (l:List Sh)
abbrev xM.D:xM→Type
 | .cl s=>s.D | .agg l=>uy.D l | .st n=>n.D | .fn _ l=>uy.D l
abbrev DY.D:List (Nat×xM)→Type
 | [] =>Unit
 | x::l=>x.2.D×DY.D l
abbrev DZ.D:List (List Sh)→Type
 | [] =>Unit
 | x::l=>uy.D x×DZ.D l
abbrev qQ.D:List Ty→Type
 | [] =>Unit
 | t::l=>List t.D×qQ.D l
structure eJ where
 env:List (Nat×xM)
 bx:List (List Sh)
 gh:List Ty
 fz:Nat
 nt:Nat
abbrev eJ.D (L:eJ):Type:=DY.D L.env×DZ.D L.bx×qQ.D L.gh
def Q2 (G:List (Option bU)) (r:Nat):Nat:=match nZ G r with | some (some tr)=>tr.l.length | _=>0
def Sh.mk (G:List (Option bU)): (s:Sh)→s.D→Cl
 | .int k,n=> .c (.sc (.int k n)) | .bl,v=> .c (.sc (.bool v)) | .str,v=> .c (.sc (.string v)) | .ro t,l=> .c (.ls t l)
 | .own r t,_=> .own ⟨r,[]⟩ t.width 0 (Q2 G r) true | .ptr n j,_=> .ptrB n j | .em,_=> .em | .dead,_=> .dead | .pro t,x=> .pro (t.flat x) | .fc g,_=> .c (.sc (.func (.func g) #[] #[]))
def uy.mk (G:List (Option bU)): (l:List Sh)→uy.D l→List Cl
 | [],_=> []
 | s::l,x=>s.mk G x.1::uy.mk G l x.2
def xM.mk (G:List (Option bU)): (v:xM)→v.D→V
 | .cl s,x=> .v (.cl (s.mk G x)) | .agg l,x=> .v (.agg (uy.mk G l x)) | .st n,x=> .v (.agg ((n.flat x).map .c)) | .fn f l,x=> .v (.fn f (uy.mk G l x))
def DY.mk (G:List (Option bU)): (l:List (Nat×xM))→DY.D l→List (Nat×V)
 | [],_=> []
 | x::l,d=>(x.1,x.2.mk G d.1)::DY.mk G l d.2
def DZ.mk (G:List (Option bU)): (l:List (List Sh))→DZ.D l→List (List Cl)
 | [],_=> []
 | x::l,d=>uy.mk G x d.1::DZ.mk G l d.2
def qQ.mk: (l:List Ty)→qQ.D l→List (Option bU)
 | [],_=> []
 | t::l,d=>some ⟨t,d.1,none⟩::qQ.mk l d.2
def eJ.mk' (L:eJ) (d:L.D):TS:= { env:=DY.mk (qQ.mk L.gh d.2.2) L.env d.1,bx:=DZ.mk (qQ.mk L.gh d.2.2) L.bx d.2.1,gh:=qQ.mk L.gh d.2.2,fz:=L.fz,nt:=L.nt }
section
variable {ρ:Type}
def Sh.un: (s:Sh)→Cl→(s.D→Option ρ)→Option ρ
 | .int k, .c (.sc (.int k' n)),κ=>bif decide (k'=k) then κ n else none
 | .bl, .c (.sc (.bool v)),κ=>κ v
 | .str, .c (.sc (.string v)),κ=>κ v
 | .ro t, .c (.ls t' l),κ=>match te t' t l with | some l=>κ l | none=>none
 | .own r t, .own p sz _ _ w,κ=>match p.l with | [] =>(bif w&&Nat.beq p.r r&&Nat.beq sz t.width then κ () else none) | _=>none
 | .ptr n i, .ptrB m j,κ=>bif Nat.beq m n&&Nat.beq j i then κ () else none
 | .em, .em,κ=>κ ()
 | .dead, .dead,κ=>κ ()
 | .pro t, .pro xs,κ=>(match t.unflat xs with | some x=>κ x | none=>none)
 | .fc g, .c (.sc (.func (.func g') cs ts)),κ=>bif Nat.beq g' g&&Nat.beq cs.size 0&&Nat.beq ts.size 0 then κ () else none
 | _,_,_=>none
def uy.un: (l:List Sh)→List Cl→(uy.D l→Option ρ)→Option ρ
 | [],[],κ=>κ ()
 | s::l,c::cs,κ=>s.un c fun x=>uy.un l cs fun y=>κ (x,y)
 | _,_,_=>none
def xM.un: (v:xM)→V→(v.D→Option ρ)→Option ρ
 | .cl s, .v (.cl c),κ=>s.un c κ
 | .agg l, .v (.agg cs),κ=>uy.un l cs κ
 | .st n, .v (.agg cs),κ=>match Gb cs with | some xs=>(match n.unflat xs with | some x=>κ x | none=>none) | none=>none
 | .fn f l, .v (.fn g cs),κ=>bif Nat.beq f g then uy.un l cs κ else none
 | _,_,_=>none
def DY.un: (l:List (Nat×xM))→List (Nat×V)→(DY.D l→Option ρ)→Option ρ
 | [],[],κ=>κ ()
 | x::l,y::m,κ=>bif Nat.beq x.1 y.1 then x.2.un y.2 fun a=>DY.un l m fun b=>κ (a,b) else none
 | _,_,_=>none
def DZ.un: (l:List (List Sh))→List (List Cl)→(DZ.D l→Option ρ)→Option ρ
 | [],[],κ=>κ ()
 | x::l,y::m,κ=>uy.un x y fun a=>DZ.un l m fun b=>κ (a,b)
 | _,_,_=>none
def qQ.un: (l:List Ty)→List (Option bU)→(qQ.D l→Option ρ)→Option ρ
 | [],[],κ=>κ ()
 | t::l,some tr::m,κ=>match tr.hole with
   | none=>(match te tr.t t tr.l with | some a=>qQ.un l m fun b=>κ (a,b) | none=>none)
   | some _=>none
 | _,_,_=>none
def eJ.un (L:eJ) (S:TS) (κ:L.D→Option ρ):Option ρ:=qQ.un L.gh S.gh fun g=>DY.un L.env S.env fun e=>DZ.un L.bx S.bx fun b=>bif Nat.beq S.fz L.fz&&Nat.beq S.nt L.nt then κ (e,b,g) else none
theorem Sh.un_some {G:List (Option bU)} (hG: ∀ r,r < G.length→ ∃ tr,nZ G r=some (some tr)): ∀ {s:Sh} {c:Cl} {κ:s.D→Option ρ} {r:ρ},c.ok G→s.un c κ=some r→ ∃ x,c=s.mk G x∧κ x=some r:=by
 intro s c κ r hc h
 cases s with
 | int k=>
   cases c with
   | c y=>cases y with
     | sc v=>cases v with
       | int k' n=>
         simp only [Sh.un] at h
         obtain⟨h1,h⟩:=am h
         have:=of_decide_eq_true h1
         subst this
         exact⟨n,rfl,h⟩
       | _=>simp [Sh.un] at h
     | ls t l=>simp [Sh.un] at h
   | _=>simp [Sh.un] at h
 | bl=>
   cases c with
   | c y=>cases y with
     | sc v=>cases v with
       | bool v=>exact⟨v,rfl,h⟩
       | _=>simp [Sh.un] at h
     | ls t l=>simp [Sh.un] at h
   | _=>simp [Sh.un] at h
 | str=>
   cases c with
   | c y=>cases y with
     | sc v=>cases v with
       | string v=>exact⟨v,rfl,h⟩
       | _=>simp [Sh.un] at h
     | ls t l=>simp [Sh.un] at h
   | _=>simp [Sh.un] at h
 | ro t=>
   cases c with
   | c y=>cases y with
     | sc v=>simp [Sh.un] at h
     | ls t' l=>
       simp only [Sh.un] at h
       split at h
       ·rename_i l' hl
        obtain⟨e,hl⟩:=eN hl
        subst e
        simp only at hl
        subst hl
        exact⟨l,rfl,h⟩
       ·cases h
   | _=>simp [Sh.un] at h
 | own q t=>
   cases c with
   | own p sz lo len w=>
     obtain⟨pr,pl⟩:=p
     cases pl with
     | cons a l=>simp [Sh.un] at h
     | nil=>
       simp only [Sh.un] at h
       obtain⟨h1,h'⟩:=am h
       clear h
       simp only [Bool.and_eq_true] at h1
       obtain⟨⟨h0,h2⟩,h3⟩:=h1
       have h2:pr=q:=Nat.eq_of_beq_eq_true h2
       have h3:sz=t.width:=Nat.eq_of_beq_eq_true h3
       subst h0 h2 h3
       obtain⟨k1,k2⟩:=hc
       obtain⟨_,k3,k4⟩:=k2 rfl
       obtain⟨tr,htr⟩:=hG _ k1
       have k5:=k4 tr (bU.look htr)
       refine⟨(),?_,h'⟩
       simp only [Sh.mk,Q2,k3,k5,htr]
   | c y=>cases y <;> simp [Sh.un] at h
   | _=>simp [Sh.un] at h
 | ptr n i=>
   cases c with
   | ptrB m j=>
     simp only [Sh.un] at h
     obtain⟨h1,h'⟩:=am h
     clear h
     simp only [Bool.and_eq_true] at h1
     have h2:=Nat.eq_of_beq_eq_true h1.1
     have h3:=Nat.eq_of_beq_eq_true h1.2
     subst h2 h3
     exact⟨(),rfl,h'⟩
   | c y=>cases y <;> simp [Sh.un] at h
   | _=>simp [Sh.un] at h
 | em=>
   cases c with
   | em=>exact⟨(),rfl,h⟩
   | c y=>cases y <;> simp [Sh.un] at h
   | _=>simp [Sh.un] at h
 | dead=>
   cases c with
   | dead=>exact⟨(),rfl,h⟩
   | c y=>cases y <;> simp [Sh.un] at h
   | _=>simp [Sh.un] at h
 | pro t=>
   cases c with
   | pro xs=>
     simp only [Sh.un] at h
     split at h
     ·rename_i x hx
      exact⟨x,by simp only [Sh.mk]; rw [t.unflat_some _ _ hx],h⟩
     ·cases h
   | c y=>cases y <;> simp [Sh.un] at h
   | _=>simp [Sh.un] at h
 | fc g=>
   unfold Sh.un at h
   split at h
   all_goals first | (rename_i hh; cases hh; done) | skip
   all_goals try (rename_i hh _; cases hh; done)
   ·rename_i e
    cases e
    obtain⟨h1,h'⟩:=am h
    simp only [Bool.and_eq_true] at h1
    obtain⟨⟨h1,h2⟩,h3⟩:=h1
    have h1:=Nat.eq_of_beq_eq_true h1
    have h2:=Array.eq_empty_of_size_eq_zero (Nat.eq_of_beq_eq_true h2)
    have h3:=Array.eq_empty_of_size_eq_zero (Nat.eq_of_beq_eq_true h3)
    exact⟨(),by rw [h1,h2,h3]; rfl,h'⟩
   ·cases h
theorem uy.un_some {G:List (Option bU)} (hG: ∀ r,r < G.length→ ∃ tr,nZ G r=some (some tr)): ∀ {l:List Sh} {cs:List Cl} {κ:uy.D l→Option ρ} {r:ρ},(∀ c∈cs,c.ok G)→uy.un l cs κ=some r→ ∃ x,cs=uy.mk G l x∧κ x=some r
 | [],[],κ,r,_,h=>⟨(),rfl,h⟩
 | s::l,c::cs,κ,r,hc,h=>by
   unfold uy.un at h
   obtain⟨x,h1,h⟩:=Sh.un_some hG (hc c List.mem_cons_self) h
   obtain⟨y,h2,h⟩:=uy.un_some hG (fun z hz=>hc z (List.mem_cons_of_mem _ hz)) h
   exact⟨(x,y),by rw [h1,h2]; rfl,h⟩
 | [],c::cs,κ,r,_,h=>by simp [uy.un] at h
 | s::l,[],κ,r,_,h=>by simp [uy.un] at h
theorem yk: ∀ {cs:List Cl} {xs:List C},Gb cs=some xs→cs=xs.map .c
 | [],xs,h=>by simp only [Gb,Option.some.injEq] at h; subst h; rfl
 | c::cs,xs,h=>by
   cases c with
   | c y=>
     simp only [Gb] at h
     split at h
     ·rename_i r hr
      simp only [Option.some.injEq] at h
      subst h
      rw [yk hr]
      rfl
     ·cases h
   | _=>simp [Gb] at h
theorem xM.un_some {G:List (Option bU)} (hG: ∀ r,r < G.length→ ∃ tr,nZ G r=some (some tr)) {s:xM} {v:V} {κ:s.D→Option ρ} {r:ρ} (hv:v.ok G) (h:s.un v κ=some r): ∃ x,v=s.mk G x∧κ x=some r:=by
 cases v with
 | tup l=>cases s <;> simp [xM.un] at h
 | v y=>
   cases s with
   | cl s=>cases y with
     | cl c=>
       obtain⟨x,h1,h⟩:=Sh.un_some hG hv h
       exact⟨x,by rw [h1]; rfl,h⟩
     | _=>simp [xM.un] at h
   | agg l=>cases y with
     | agg cs=>
       obtain⟨x,h1,h⟩:=uy.un_some hG hv h
       exact⟨x,by rw [h1]; rfl,h⟩
     | _=>simp [xM.un] at h
   | st n=>cases y with
     | agg cs=>
       simp only [xM.un] at h
       split at h
       ·rename_i xs hxs
        split at h
        ·rename_i x hx
         exact⟨x,by rw [yk hxs]; simp only [xM.mk]; rw [n.unflat_some _ _ hx],h⟩
        ·cases h
       ·cases h
     | _=>simp [xM.un] at h
   | fn f l=>cases y with
     | fn g cs=>
       simp only [xM.un] at h
       obtain⟨h0,h'⟩:=am h
       clear h
       have h0:=Nat.eq_of_beq_eq_true h0
       subst h0
       obtain⟨x,h1,h⟩:=uy.un_some hG hv h'
       exact⟨x,by rw [h1]; rfl,h⟩
     | _=>simp [xM.un] at h
theorem DY.un_some {G:List (Option bU)} (hG: ∀ r,r < G.length→ ∃ tr,nZ G r=some (some tr)): ∀ {l:List (Nat×xM)} {m:List (Nat×V)} {κ:DY.D l→Option ρ} {r:ρ},(∀ x∈m,x.2.ok G)→DY.un l m κ=some r→ ∃ x,m=DY.mk G l x∧κ x=some r
 | [],[],κ,r,_,h=>⟨(),rfl,h⟩
 | s::l,c::cs,κ,r,hc,h=>by
   unfold DY.un at h
   obtain⟨h0,h⟩:=am h
   have h0:=Nat.eq_of_beq_eq_true h0
   obtain⟨x,h1,h⟩:=xM.un_some hG (hc c List.mem_cons_self) h
   obtain⟨y,h2,h⟩:=DY.un_some hG (fun z hz=>hc z (List.mem_cons_of_mem _ hz)) h
   refine⟨(x,y),?_,h⟩
   rw [h2]
   obtain⟨c1,c2⟩:=c
   simp only at h0 h1
   rw [h1,←h0]
   rfl
 | [],c::cs,κ,r,_,h=>by simp [DY.un] at h
 | s::l,[],κ,r,_,h=>by simp [DY.un] at h
theorem DZ.un_some {G:List (Option bU)} (hG: ∀ r,r < G.length→ ∃ tr,nZ G r=some (some tr)): ∀ {l:List (List Sh)} {m:List (List Cl)} {κ:DZ.D l→Option ρ} {r:ρ},(∀ cs∈m,∀ c∈cs,c.ok G)→DZ.un l m κ=some r→ ∃ x,m=DZ.mk G l x∧κ x=some r
 | [],[],κ,r,_,h=>⟨(),rfl,h⟩
 | s::l,c::cs,κ,r,hc,h=>by
   unfold DZ.un at h
   obtain⟨x,h1,h⟩:=uy.un_some hG (hc c List.mem_cons_self) h
   obtain⟨y,h2,h⟩:=DZ.un_some hG (fun z hz=>hc z (List.mem_cons_of_mem _ hz)) h
   exact⟨(x,y),by rw [h1,h2]; rfl,h⟩
 | [],c::cs,κ,r,_,h=>by simp [DZ.un] at h
 | s::l,[],κ,r,_,h=>by simp [DZ.un] at h
theorem qQ.un_some: ∀ {l:List Ty} {m:List (Option bU)} {κ:qQ.D l→Option ρ} {r:ρ},qQ.un l m κ=some r→ ∃ x,m=qQ.mk l x∧κ x=some r
 | [],[],κ,r,h=>⟨(),rfl,h⟩
 | t::l,some tr::m,κ,r,h=>by
   unfold qQ.un at h
   split at h
   ·rename_i hh
    split at h
    ·rename_i a ha
     obtain⟨e,hl⟩:=eN ha
     obtain⟨y,h2,h⟩:=qQ.un_some h
     obtain⟨t',l',hole⟩:=tr
     simp only at hh e hl ha
     subst hh e
     simp only at hl
     subst hl
     exact⟨(l',y),by rw [h2]; rfl,h⟩
    ·cases h
   ·cases h
 | [],c::cs,κ,r,h=>by simp [qQ.un] at h
 | t::l,[],κ,r,h=>by simp [qQ.un] at h
 | t::l,none::m,κ,r,h=>by simp [qQ.un] at h
theorem qQ.mk_some: ∀ (l:List Ty) (d:qQ.D l) (r:Nat),r < (qQ.mk l d).length→ ∃ tr,nZ (qQ.mk l d) r=some (some tr)
 | [],d,r,h=>by simp [qQ.mk] at h
 | t::l,d,0,h=>⟨_,rfl⟩
 | t::l,d,r+1,h=>by
   obtain⟨tr,htr⟩:=qQ.mk_some l d.2 r (by simpa [qQ.mk] using h)
   exact⟨tr,htr⟩
theorem eJ.un_some {L:eJ} {S:TS} (hS:S.ok) {κ:L.D→Option ρ} {r:ρ} (h:L.un S κ=some r): ∃ d,S=L.mk' d∧κ d=some r:=by
 unfold eJ.un at h
 obtain⟨g,h1,h⟩:=qQ.un_some h
 have hG: ∀ r,r < S.gh.length→ ∃ tr,nZ S.gh r=some (some tr):=by rw [h1]; exact qQ.mk_some _ _
 obtain⟨e,h2,h⟩:=DY.un_some hG hS.env h
 obtain⟨b,h3,h⟩:=DZ.un_some hG hS.bx h
 obtain⟨h4,h⟩:=am h
 simp only [Bool.and_eq_true] at h4
 have h5:=Nat.eq_of_beq_eq_true h4.1
 have h6:=Nat.eq_of_beq_eq_true h4.2
 refine⟨(e,b,g),?_,h⟩
 obtain⟨env,bx,gh,fz,nt⟩:=S
 simp only at h1 h2 h3 h5 h6
 subst h5 h6
 unfold eJ.mk'
 simp only
 rw [←h1,←h2,←h3]
end
end Go.Proofs.YtkcgfceffffmoaaGreat.En
namespace Go.Proofs.YtkcgfceffffmoaaGreat.En
open Go
def LO (S:TS) (t:Ty):Cl:= .own ⟨S.gh.length,[]⟩ t.width 0 0 true
def LP (n j:Nat) (t:Ty) (S:TS):TS:=match nZ S.bx n with
 | some cs=>(match nZ cs j with
   | some .em=> { S with bx:=cS S.bx n (cS cs j (LO S t)),gh:=S.gh++ [some ⟨t,[],none⟩] }
   | _=>S)
 | none=>S
def LQ (x:Nat) (t:Ty) (S:TS):TS:=match f7 S.env x with
 | .v (.cl .em)=> { S with env:=(x, .v (.cl (LO S t)))::S.env,gh:=S.gh++ [some ⟨t,[],none⟩] }
 | _=>S
theorem Qy: ∀ (l:List (Nat×Nat)),T.go .dd l= .dd
 | [] =>rfl
 | (_,_)::l=>Qy l
theorem Q3 (w:Nat) {l:List (Nat×Nat)} {s:Nat} {rs:List (List T)} (h:T.go (.sl w []) l= .sl s rs):rs= [] :=by
 cases l with
 | nil=>cases h; rfl
 | cons a l=>
   obtain⟨i,j⟩:=a
   simp only [T.go,T.cell,List.getD_nil,Qy] at h
   cases h
theorem Fm {S S':TS} (t:Ty) (henv: ∀ u,(f7 S'.env u).av=(f7 S.env u).av∨((f7 S.env u).av= .em∧(f7 S'.env u).av= .own ⟨S.gh.length,[]⟩ t.width 0 0))
  (hbx: ∀ k cs',S'.st.bx k=some cs'→ ∃ cs,S.st.bx k=some cs∧cs'.length=cs.length∧ ∀ (j:Nat) (v:AV),cs'[j]? =some v→cs[j]? =some v∨(cs[j]? =some .em∧v= .own ⟨S.gh.length,[]⟩ t.width 0 0))
  (hgh:S'.gh=S.gh++ [some ⟨t,[],none⟩]) (hfz:S'.fz=S.fz) (hnt:S'.nt=S.nt) (hbl:S'.bx.length=S.bx.length):n8 S.st S'.st:=by
 intro w0 W btI SI bt a w hl0
 have hl:=hl0.widen (N:=S.gh.length+1) (Nat.le_succ _)
 have inv:=hl.inv
 have hng:S'.st.ng=S.gh.length+1:=by show S'.gh.length=_; rw [hgh]; simp
 have ghS: ∀ r,S'.st.gh r=if r=S.gh.length then some (.sl t.width []) else S.st.gh r:=by
  intro r
  show (cY S'.gh r).map bU.tree=_
  rw [hgh,lD]
  split <;> rfl
 have κ0: ∀ l,(bt.widen S.st.ng (S.gh.length+1)).κ ⟨S.gh.length,l⟩=0:=by
  intro l
  show (if S.gh.length < S.gh.length then _ else 0)=0
  rw [if_neg (Nat.lt_irrefl _)]
 have look: ∀ p s rs,S'.st.look p= .sl s rs→(p.r=S.gh.length∧rs= [] ∧(bt.widen S.st.ng (S.gh.length+1)).κ p=0)∨(p.r≠S.gh.length∧S.st.look p= .sl s rs):=by
  intro p s rs hp
  unfold St.look at hp
  rw [ghS] at hp
  by_cases hr:p.r=S.gh.length
  ·rw [if_pos hr] at hp
   left
   refine⟨hr,Q3 _ hp,?_⟩
   obtain⟨pr,pl⟩:=p
   simp only at hr
   subst hr
   exact κ0 pl
  ·rw [if_neg hr] at hp
   exact .inr ⟨hr,hp⟩
 have own0: ∀ {u:Value},VR w (bt.widen S.st.ng (S.gh.length+1)) .em u→VR w (bt.widen S.st.ng (S.gh.length+1)) (.own ⟨S.gh.length,[]⟩ t.width 0 0) u:=by
  intro u hu
  cases hu with
  | em ad=>exact .own (Nat.lt_succ_self _) (Nat.le_refl _) (Nat.zero_le _) (fun h=>absurd h (Nat.lt_irrefl _))
 refine⟨bt.widen S.st.ng (S.gh.length+1),?_⟩
 refine⟨{ os:=inv.os,tape:=inv.tape,output:=inv.output,size:=inv.size,keep:=inv.keep
          nb:=by show _=S'.bx.length; rw [hbl]; exact inv.nb
          ng:=by rw [hng]; exact inv.ng
          bx:=fun n cells hn=> ?_
          gh:=fun r x hr=> ?_
          tr:=fun p sz rows hp=> ?_
          inj:=fun p q s rs s' rs' hp hq hk hk' he=> ?_
          bbinj:=fun n m cs cs' hn hm he=> ?_
          bbtr:=fun n cs p s rs hn hp hk=> ?_
          alt:=inv.alt
          atr:=fun p s rs hp hk=> ?_
          abb:=fun n cs hn=> ?_ },⟨?_,fun u=> ?_⟩,hl.defers,?_,?_,hl.keep,fun r hr hn=> ?_⟩
 ·obtain⟨cs,h1,h2,h3⟩:=hbx n cells hn
  obtain⟨g1,g2,arr,e,g3,g4,g5⟩:=inv.bx n cs h1
  refine⟨by show n < S'.bx.length; rw [hbl]; exact g1,g2,arr,e,g3,by rw [h2]; exact g4,fun j v hj=> ?_⟩
  rcases h3 j v hj with h4 | ⟨h4,rfl⟩
  ·exact g5 j v h4
  ·obtain⟨c,k1,k2,k3⟩:=g5 j .em h4
   exact⟨c,k1,own0 k2,k3⟩
 ·rw [hng]
  rw [ghS] at hr
  split at hr
  ·omega
  ·have:=inv.gh r x hr
   exact this
 ·rcases look p sz rows hp with ⟨h1,rfl,h3⟩ | ⟨h1,h2⟩
  ·exact⟨Nat.zero_le _,fun hk=>by omega⟩
  ·exact inv.tr p sz rows h2
 ·rcases look p s rs hp with ⟨h1,_,h3⟩ | ⟨h1,h2⟩
  ·omega
  ·rcases look q s' rs' hq with ⟨g1,_,g3⟩ | ⟨g1,g2⟩
   ·omega
   ·exact inv.inj _ _ _ _ _ _ h2 g2 hk hk' he
 ·obtain⟨c,h1,_,_⟩:=hbx n cs hn
  obtain⟨c',g1,_,_⟩:=hbx m cs' hm
  exact inv.bbinj _ _ _ _ h1 g1 he
 ·obtain⟨c,h1,_,_⟩:=hbx n cs hn
  rcases look p s rs hp with ⟨_,_,h3⟩ | ⟨_,h2⟩
  ·omega
  ·exact inv.bbtr _ _ _ _ _ h1 h2 hk
 ·rcases look p s rs hp with ⟨_,_,h3⟩ | ⟨_,h2⟩
  ·omega
  ·exact inv.atr _ _ _ h2 hk
 ·obtain⟨c,h1,_,_⟩:=hbx n cs hn
  exact inv.abb _ _ h1
 ·have:=hl.er.1
  show _=S'.nt
  rw [hnt]
  exact this
 ·have h1:=hl.er.2 u
  show VR w _ (f7 S'.env u).av _
  rcases henv u with h2 | ⟨h2,h3⟩
  ·rw [h2]; exact h1
  ·rw [h3]
   have h1':VR w (bt.widen S.st.ng (S.gh.length+1)) (f7 S.env u).av (a.tmps.getD u undef):=h1
   rw [h2] at h1'
   exact own0 h1'
 ·show S'.fz=_
  rw [hfz]
  exact hl.fz
 ·show S'.fz≤S'.gh.length
  have:=hl.fzng
  have e:S.fz≤S.gh.length+1:=this
  have e2:S.st.fz≤S.st.ng:=hl0.fzng
  have e3:S.fz≤S.gh.length:=e2
  rw [hfz,hgh]
  simp
  omega
 ·refine hl.gone r hr ?_
  rw [ghS] at hn
  split at hn
  ·cases hn
  ·exact hn
theorem IM (S:TS) (t:Ty): (LO S t).ok (S.gh++ [some ⟨t,[],none⟩]):=by
 refine⟨by simp,fun _=>⟨rfl,rfl,fun tr htr=> ?_⟩⟩
 rw [lD,if_pos rfl] at htr
 cases htr
 rfl
theorem Ox {S:TS} (hS:S.ok) (x:Nat) (t:Ty):n8 S.st (LQ x t S).st∧(LQ x t S).ok:=by
 unfold LQ
 split
 ·rename_i hx
  refine⟨Fm t (fun u=> ?_) (fun k cs' h=>⟨cs',h,rfl,fun j v hv=> .inl hv⟩) rfl rfl rfl rfl,⟨fun y hy=> ?_,fun cs hcs c hc=>Cl.ok_mono (fV.app _ _) (hS.bx cs hcs c hc)⟩⟩
  ·simp only [f7]
   cases hb:Nat.beq x u with
   | true=>
     have :x=u:=Nat.eq_of_beq_eq_true hb
     subst this
     right
     rw [hx]
     exact⟨rfl,rfl⟩
   | false=>exact .inl rfl
  ·rcases List.mem_cons.1 hy with rfl | hy
   ·exact IM S t
   ·exact V.ok_mono (fV.app _ _) (hS.env y hy)
 ·exact⟨n8.refl,hS⟩
theorem Oy {S:TS} (hS:S.ok) (n j:Nat) (t:Ty):n8 S.st (LP n j t S).st∧(LP n j t S).ok:=by
 unfold LP
 split
 ·rename_i cs hcs
  split
  ·rename_i hj
   rw [dj] at hcs hj
   have hn:=(List.getElem?_eq_some_iff.1 hcs).1
   refine⟨Fm t (fun u=> .inl rfl) (fun k cs' h=> ?_) rfl rfl rfl (by simp [eK]),⟨fun y hy=>V.ok_mono (fV.app _ _) (hS.env y hy),fun cs' hcs' c hc=> ?_⟩⟩
   ·have h': (nZ (cS S.bx n (cS cs j (LO S t))) k).map (fun cs=>cs.map Cl.av)=some cs':=h
    rw [dj,eK,eK,List.getElem?_set] at h'
    by_cases hk:n=k
    ·subst hk
     rw [if_pos rfl,if_pos hn] at h'
     simp only [Option.map_some,Option.some.injEq] at h'
     subst h'
     refine⟨cs.map Cl.av,by show (nZ S.bx n).map _=_; rw [dj,hcs]; rfl,by simp,fun i v hv=> ?_⟩
     rw [List.getElem?_map,List.getElem?_set] at hv
     by_cases hi:j=i
     ·subst hi
      rw [if_pos rfl,if_pos (List.getElem?_eq_some_iff.1 hj).1] at hv
      right
      rw [List.getElem?_map,hj]
      simp only [Option.map_some,Option.some.injEq] at hv
      exact⟨rfl,hv.symm⟩
     ·rw [if_neg hi] at hv
      left
      rw [List.getElem?_map]
      exact hv
    ·rw [if_neg hk] at h'
     exact⟨cs',by show (nZ S.bx k).map _=_; rw [dj]; exact h',rfl,fun i v hv=> .inl hv⟩
   ·simp only [eK] at hcs'
    rcases List.mem_or_eq_of_mem_set hcs' with h1 | h1
    ·exact Cl.ok_mono (fV.app _ _) (hS.bx _ h1 c hc)
    ·subst h1
     rcases List.mem_or_eq_of_mem_set hc with h2 | h2
     ·exact Cl.ok_mono (fV.app _ _) (hS.bx _ (List.mem_of_getElem? hcs) c h2)
     ·subst h2
      exact IM S t
  ·exact⟨n8.refl,hS⟩
 ·exact⟨n8.refl,hS⟩
theorem al {α β:Type} (b:Bool) (x y:Option α) (f:α→Option β): (br b x y).bind f=br b (x.bind f) (y.bind f):=by cases b <;> rfl
theorem ap {α β:Type} (c:Prop) [Decidable c] (x y:Option α) (f:α→Option β): (aL c x y).bind f=aL c (x.bind f) (y.bind f):=by unfold aL; split <;> rfl
inductive MD where
 | t (x:Nat) (t:Ty)
 | b (n j:Nat) (t:Ty)
def uz:List MD→TS→TS
 | [],S=>S
 | .t x t::l,S=>uz l (LQ x t S)
 | .b n j t::l,S=>uz l (LP n j t S)
theorem vG: ∀ (l:List MD) {S:TS},S.ok→n8 S.st (uz l S).st∧(uz l S).ok
 | [],S,hS=>⟨n8.refl,hS⟩
 | .t x t::l,S,hS=>by
   obtain⟨h1,h2⟩:=Ox hS x t
   obtain⟨h3,h4⟩:=vG l h2
   exact⟨h1.trans h3,h4⟩
 | .b n j t::l,S,hS=>by
   obtain⟨h1,h2⟩:=Oy hS n j t
   obtain⟨h3,h4⟩:=vG l h2
   exact⟨h1.trans h3,h4⟩
section
variable {P:Program} {Θ:oI} {Y:xZ} {Λ:pQ}
def dy {ρ:Type} (keepN keepX:List Nat) (κ:X→TS→Option ρ) (x:X) (S:TS):Option ρ:=match x with
 | .nor=>yi keepN S (κ .nor)
 | x=>yi keepX S (κ x)
def Oz {σ ε:Type} (G:σ→Option ε) (μ:σ→Nat) (s:σ) (e:ε):Option (σ⊕ε)→Prop
 | some (.inl s')=>μ s' < μ s∧G s'=some e
 | some (.inr e')=>e'=e
 | none=>False
theorem P3 (hΘ:eb P Θ) (hY:aw P Y) (hm:P.follows .mixedOrders=true) {c:Code} (hc:ly P c=true) (hL:fE P Λ (eL c)) {σ ε:Type} {H:σ→TS} {E:ε→X×TS} {B:σ→Option (σ⊕ε)} {keepN keepX:List Nat}
  (hH: ∀ s,(H s).ok) (hstep: ∀ s,eM Θ Y Λ c (H s) (dy keepN keepX fun x S=>some (x,S))=(B s).bind (Sum.elim (fun s'=>some (.nor,H s')) fun e=>some (E e)))
  (hE: ∀ e,(E e).1≠ .nor) {G:σ→Option ε} {μ:σ→Nat} (hG: ∀ s e,G s=some e→Oz G μ s e (B s))
  {s:σ} {e:ε} (hs:G s=some e):pG P (.loop c) (H s).st (fun x S'=>x=(E e).1∧S'=(E e).2.st):=by
 refine pG.loop (fun n X=> ∃ s,X=(H s).st∧G s=some e∧μ s=n) (fun n X hX=> ?_) (n:=μ s) ⟨s,rfl,hs,rfl⟩
 obtain⟨s,rfl,hs,rfl⟩:=hX
 have hg:=hG s e hs
 have hst:=hstep s
 cases hB:B s with
 | none=>rw [hB] at hg; exact hg.elim
 | some l=>
   rw [hB] at hg hst
   cases l with
   | inl s'=>
     simp only [Option.bind_some,Sum.elim_inl] at hst
     refine (Bs hΘ hY hm c _ _ _ hc hL (hH s) hst).mono (fun x S' hx=> ?_)
     obtain⟨S1,rfl,h1,h2⟩:=hx
     have cd: ∃ S2:TS,n8 S1.st S2.st∧x= .nor∧S2=H s':=by
      unfold dy at h2
      split at h2
      ·obtain⟨S2,k1,_,k2⟩:=rk h1 h2
       simp only [Option.some.injEq,Prod.mk.injEq] at k2
       exact⟨S2,k1,rfl,k2.2⟩
      ·obtain⟨S2,k1,_,k2⟩:=rk h1 h2
       simp only [Option.some.injEq,Prod.mk.injEq] at k2
       exact⟨S2,k1,k2.1,k2.2⟩
     obtain⟨S2,k1,rfl,rfl⟩:=cd
     exact⟨_,k1,μ s',hg.1,s',rfl,hg.2,rfl⟩
   | inr e'=>
     simp only [Option.bind_some,Sum.elim_inr] at hst
     have hg:e'=e:=hg
     subst hg
     refine (Bs hΘ hY hm c _ _ _ hc hL (hH s) hst).mono (fun x S' hx=> ?_)
     obtain⟨S1,rfl,h1,h2⟩:=hx
     have cd: ∃ S2:TS,n8 S1.st S2.st∧(x,S2)=E e':=by
      unfold dy at h2
      split at h2
      ·obtain⟨S2,k1,_,k2⟩:=rk h1 h2
       exact⟨S2,k1,Option.some.inj k2⟩
      ·obtain⟨S2,k1,_,k2⟩:=rk h1 h2
       exact⟨S2,k1,Option.some.inj k2⟩
     obtain⟨S2,k1,k2⟩:=cd
     refine⟨S2.st,k1,?_⟩
     have hx:x=(E e').1:=congrArg Prod.fst k2
     have hS2:S2=(E e').2:=congrArg Prod.snd k2
     have hne:=hE e'
     rw [←hx] at hne
     cases x with
     | nor=>exact absurd rfl hne
     | ret=>exact⟨hx,by rw [hS2]⟩
     | ext i=>exact⟨hx,by rw [hS2]⟩
def OA (grow:List MD) (keep:List Nat) (L:eJ) {ε:Type} (E:ε→X×TS) (G:L.D→Option ε):TS→(ρ:Type)→(X→TS→Option ρ)→Option ρ:=
 fun S _ κ=>yi keep (uz grow S) fun S1=>L.un S1 fun s=>(G s).bind fun e=>κ (E e).1 (E e).2
theorem OB {c:Code} {grow:List MD} {keep:List Nat} {L:eJ} {ε:Type} {E:ε→X×TS} {G:L.D→Option ε} (hE: ∀ e,(E e).2.ok)
  (h: ∀ s e,G s=some e→pG P (.loop c) (L.mk' s).st (fun x S'=>x=(E e).1∧S'=(E e).2.st)) {S:TS} {ρ:Type} {κ:X→TS→Option ρ} {r:ρ} (hS:S.ok) (hk:OA grow keep L E G S ρ κ=some r):
  pG P (.loop c) S.st (fun x S'=> ∃ S1:TS,S'=S1.st∧S1.ok∧κ x S1=some r):=by
 unfold OA at hk
 obtain⟨h1,h2⟩:=vG grow hS
 obtain⟨S1,h3,h4,hk⟩:=rk h2 hk
 obtain⟨s,rfl,hk2⟩:=eJ.un_some h4 hk
 obtain⟨e,h5,hk3⟩:=Option.bind_eq_some_iff.1 hk2
 refine pG.weak (h1.trans h3) ((h s e h5).mono (fun x S' hx=> ?_))
 obtain⟨rfl,rfl⟩:=hx
 exact⟨_,n8.refl,_,rfl,hE e,hk3⟩
end
end Go.Proofs.YtkcgfceffffmoaaGreat.En
namespace Go.Proofs.YtkcgfceffffmoaaGreat.En
open Go
abbrev sW.D:List Ty→Type
 | [] =>Unit
 | t::l=>t.D×sW.D l
def aA: (l:List Ty)→sW.D l→List ((t:Ty)×t.D)
 | [],_=> []
 | t::l,x=>⟨t,x.1⟩::aA l x.2
def aB (P:Program) (f:FuncId) (e:bw):Prop:= ∀ args ρ κ r,e args ρ κ=some r→ ∃ res out,zG P f args res out∧res.ok (out.map some)∧κ res out=some r
theorem aj (P:Program):aw P (aP []):=fun _ _ _ _ _ h=>by cases h
theorem ae {P:Program} {f:FuncId} {e:bw} {l:List (Nat×bw)} (h:aB P f e) (hl:aw P (aP l)):aw P (aP ((f,e)::l)):=by
 intro g args ρ κ r hr
 have hr: (bif Nat.beq f g then e args ρ κ else QX l g args ρ κ)=some r:=hr
 cases hb:Nat.beq f g with
 | true=>
   rw [hb] at hr
   have:=Nat.eq_of_beq_eq_true hb
   subst this
   exact h args ρ κ r hr
 | false=>
   rw [hb] at hr
   exact hl g args ρ κ r hr
theorem un_some {ρ:Type} {t:Ty} {a:V1} {κ:t.D→Option ρ} {r:ρ} (h:un t a κ=some r): ∃ x,a=Lu t x∧κ x=some r:=by
 unfold un at h
 split at h
 ·rename_i cs
  obtain⟨h1,h⟩:=am h
  split at h
  ·rename_i xs hxs
   split at h
   ·rename_i x hx
    refine⟨x,?_,h⟩
    unfold Lu
    rw [h1,t.unflat_some _ _ hx,yk hxs]
    rfl
   ·cases h
  ·cases h
 ·rename_i y
  cases hag:t.ag with
  | true=>rw [hag] at h; cases h
  | false=>
    rw [hag] at h
    simp only [cond_false] at h
    split at h
    ·rename_i x hx
     refine⟨x,?_,h⟩
     unfold Lu
     rw [hag,t.unflat_some _ _ hx]
     rfl
    ·cases h
 ·cases h
theorem Q4 (t:Ty) (x:t.D): (Lu t x).ok [] :=by
 unfold Lu
 cases t.ag with
 | true=>
   intro c hc
   obtain⟨y,_,rfl⟩:=List.mem_map.1 hc
   trivial
 | false=>
   simp only [cond_false]
   split
   ·rename_i c hc
    have :c∈(t.flat x).map Cl.c:=by rw [hc]; exact List.mem_singleton.2 rfl
    obtain⟨y,_,rfl⟩:=List.mem_map.1 this
    trivial
   ·trivial
theorem Gl (zt suf:List bU): ∀ (cs:List C) (mid:List bU),∀ c∈vz cs (zt.length+mid.length),c.ok ((zt++mid++qP cs++suf).map some)
 | [],mid,c,h=>by cases h
 | .sc v::cs,mid,c,h=>by
   rcases List.mem_cons.1 h with rfl | h
   ·trivial
   ·exact Gl zt suf cs mid c h
 | .ls t l::cs,mid,c,h=>by
   rcases List.mem_cons.1 h with rfl | h
   ·refine⟨by simp [qP],fun _=>⟨rfl,rfl,fun tr htr=> ?_⟩⟩
    have :cY ((zt++mid++qP (.ls t l::cs)++suf).map some) (zt.length+mid.length)=some ⟨t,l,none⟩:=by
     unfold cY
     rw [dj,List.getElem?_map,List.append_assoc,List.getElem?_append_right (by simp)]
     simp [qP]
    have htr':cY ((zt++mid++qP (.ls t l::cs)++suf).map some) (zt.length+mid.length)=some tr:=htr
    rw [this] at htr'
    cases htr'
    rfl
   ·have:=Gl zt suf cs (mid++ [⟨t,l,none⟩]) c (by rw [List.length_append,←Nat.add_assoc]; exact h)
    simp only [qP]
    simpa using this
theorem P4 (t:Ty) (x:t.D) (zt suf:List bU): (Pz t x zt.length).ok ((zt++qP (t.flat x)++suf).map some):=by
 have cd:=Gl zt suf (t.flat x) []
 simp only [List.length_nil,Nat.add_zero,List.append_nil] at cd
 unfold Pz
 cases t.ag with
 | true=>exact cd
 | false=>
   simp only [cond_false]
   split
   ·rename_i c hc
    exact cd c (by rw [hc]; exact List.mem_singleton.2 rfl)
   ·trivial
theorem Cp: ∀ (l:List ((t:Ty)×t.D)) (zt:List bU),∀ v∈zF zt.length l,v.ok ((zt++wD l).map some)
 | [],zt,v,h=>by cases h
 | ⟨t,x⟩::l,zt,v,h=>by
   rcases List.mem_cons.1 h with rfl | h
   ·have:=P4 t x zt (wD l)
    simpa [wD] using this
   ·have:=Cp l (zt++qP (t.flat x)) v (by rw [List.length_append]; exact h)
    simpa [wD] using this
theorem OC (l:List ((t:Ty)×t.D)): (x9 (zF 0 l)).ok ((wD l).map some):=by
 have h:=Cp l []
 simp only [List.length_nil,List.nil_append] at h
 match zF 0 l,h with
 | [],_=>exact fun x hx=>by cases hx
 | [v],h=>exact h v List.mem_cons_self
 | v::u::vs,h=>exact h
end Go.Proofs.YtkcgfceffffmoaaGreat.En
namespace Go.Proofs.YtkcgfceffffmoaaGreat.En
open Go
def Sh.fit (n:Nat):Sh→Bool | .own r _=>Nat.blt r n | _=>true
def xM.fit (n:Nat):xM→Bool | .cl s=>s.fit n | .agg l=>l.all (Sh.fit n) | .st _=>true | .fn _ l=>l.all (Sh.fit n)
def eJ.fit (L:eJ):Bool:=L.env.all (fun x=>x.2.fit L.gh.length)&&L.bx.all (fun l=>l.all (Sh.fit L.gh.length))
theorem qQ.mk_length: ∀ (l:List Ty) (d:qQ.D l),(qQ.mk l d).length=l.length
 | [],_=>rfl
 | t::l,d=>by simp [qQ.mk,qQ.mk_length l d.2]
theorem Sh.mk_ok {G:List (Option bU)} {s:Sh} (h:s.fit G.length=true) (x:s.D): (s.mk G x).ok G:=by
 cases s with
 | own r t=>
   refine⟨Nat.le_of_ble_eq_true h,fun _=>⟨rfl,rfl,fun tr htr=> ?_⟩⟩
   unfold cY at htr
   unfold Q2
   have htr': (nZ G r).getD none=some tr:=htr
   cases hn:nZ G r with
   | none=>rw [hn] at htr'; cases htr'
   | some y=>rw [hn] at htr'; simp only [Option.getD_some] at htr'; subst htr'; rfl
 | _=>trivial
theorem uy.mk_ok {G:List (Option bU)}: ∀ {l:List Sh},l.all (Sh.fit G.length)=true→ ∀ (x:uy.D l),∀ c∈uy.mk G l x,c.ok G
 | [],_,x,c,hc=>by cases hc
 | s::l,h,x,c,hc=>by
   simp only [List.all_cons,Bool.and_eq_true] at h
   rcases List.mem_cons.1 hc with rfl | hc
   ·exact Sh.mk_ok h.1 x.1
   ·exact uy.mk_ok h.2 x.2 c hc
theorem xM.mk_ok {G:List (Option bU)} {v:xM} (h:v.fit G.length=true) (x:v.D): (v.mk G x).ok G:=by
 cases v with
 | cl s=>exact Sh.mk_ok h x
 | agg l=>exact uy.mk_ok h x
 | st n=>
   intro c hc
   obtain⟨y,_,rfl⟩:=List.mem_map.1 hc
   trivial
 | fn f l=>exact uy.mk_ok h x
theorem eJ.mk'_ok {L:eJ} (h:L.fit=true) (d:L.D): (L.mk' d).ok:=by
 unfold eJ.fit at h
 simp only [Bool.and_eq_true] at h
 have hlen: (qQ.mk L.gh d.2.2).length=L.gh.length:=qQ.mk_length _ _
 rw [←hlen] at h
 have env: ∀ {l:List (Nat×xM)},l.all (fun x=>x.2.fit (qQ.mk L.gh d.2.2).length)=true→ ∀ (e:DY.D l),∀ x∈DY.mk (qQ.mk L.gh d.2.2) l e,x.2.ok (qQ.mk L.gh d.2.2):=by
  intro l
  induction l with
  | nil=>intro _ e x hx; cases hx
  | cons y l ih=>
    intro h e x hx
    simp only [List.all_cons,Bool.and_eq_true] at h
    rcases List.mem_cons.1 hx with rfl | hx
    ·exact xM.mk_ok h.1 e.1
    ·exact ih h.2 e.2 x hx
 have bxs: ∀ {l:List (List Sh)},l.all (fun l=>l.all (Sh.fit (qQ.mk L.gh d.2.2).length))=true→ ∀ (e:DZ.D l),∀ cs∈DZ.mk (qQ.mk L.gh d.2.2) l e,∀ c∈cs,c.ok (qQ.mk L.gh d.2.2):=by
  intro l
  induction l with
  | nil=>intro _ e x hx; cases hx
  | cons y l ih=>
    intro h e x hx
    simp only [List.all_cons,Bool.and_eq_true] at h
    rcases List.mem_cons.1 hx with rfl | hx
    ·exact uy.mk_ok h.1 e.1
    ·exact ih h.2 e.2 x hx
 exact⟨env h.1 d.1,bxs h.2 d.2.1⟩
abbrev bD.D:List (X×eJ)→Type
 | [] =>Empty
 | [x] =>x.2.D
 | x::y::l=>x.2.D⊕bD.D (y::l)
def bD.k {R:Type}: (l:List (X×eJ))→bD.D l→(X→TS→R)→R
 | [],e,_=>e.elim
 | [x],d,κ=>κ x.1 (x.2.mk' d)
 | x::y::l,e,κ=>Sum.elim (fun d=>κ x.1 (x.2.mk' d)) (fun e=>bD.k (y::l) e κ) e
def bD.e (l:List (X×eJ)) (d:bD.D l):X×TS:=bD.k l d Prod.mk
theorem bD.k_eq {R:Type}: ∀ (l:List (X×eJ)) (d:bD.D l) (κ:X→TS→R),bD.k l d κ=κ (bD.e l d).1 (bD.e l d).2
 | [],e,_=>e.elim
 | [_],_,_=>rfl
 | _::_::_, .inl _,_=>rfl
 | _::y::l, .inr e,κ=>bD.k_eq (y::l) e κ
def Sq (x:X×eJ):Bool:=(match x.1 with | .nor=>false | _=>true)&&x.2.fit
theorem bD.ok: ∀ (l:List (X×eJ)) (d:bD.D l),l.all Sq=true→(bD.e l d).1≠ .nor∧(bD.e l d).2.ok
 | [],e,_=>e.elim
 | [x],d,h=>by
   simp only [List.all_cons,Bool.and_eq_true,Sq] at h
   refine⟨fun e=> ?_,eJ.mk'_ok h.1.2 d⟩
   have e:x.1= .nor:=e
   rw [e] at h
   cases h.1.1
 | x::_::_, .inl d,h=>by
   simp only [List.all_cons,Bool.and_eq_true,Sq] at h
   refine⟨fun e=> ?_,eJ.mk'_ok h.1.2 d⟩
   have e:x.1= .nor:=e
   rw [e] at h
   cases h.1.1
 | _::y::l, .inr e,h=>bD.ok (y::l) e (by
   simp only [List.all_cons,Bool.and_eq_true] at h ⊢
   exact h.2)
def dD (grow:List MD) (keep:List Nat) (L:eJ) (exs:List (X×eJ)) (G:L.D→Option (bD.D exs)):TS→(ρ:Type)→(X→TS→Option ρ)→Option ρ:=
 fun S _ κ=>yi keep (uz grow S) fun S1=>L.un S1 fun s=>(G s).bind fun e=>bD.k exs e κ
abbrev dk:=TS→(ρ:Type)→(X→TS→Option ρ)→Option ρ
def aM:List (Nat×dk)→pQ
 | [],_,_,_,_=>none
 | (q,e)::l,n,S,ρ,κ=>bif Nat.beq q n then e S ρ κ else aM l n S ρ κ
section
variable {P:Program} {Θ:oI} {Y:xZ} {Λ:pQ}
def cy (P:Program) (c:Code) (e:dk):Prop:= ∀ (S:TS) (ρ:Type) (κ:X→TS→Option ρ) (r:ρ),S.ok→e S ρ κ=some r→pG P (.loop c) S.st (fun x S'=> ∃ S1:TS,S'=S1.st∧S1.ok∧κ x S1=some r)
theorem ah:fE P Λ [] :=fun c hc=>by cases hc
theorem aW {l:List (Nat×dk)} {c:Code} {q:Nat} {e:dk} (hq:cd c=q) (h:cy P c e) (hl: ∀ (S:TS) (ρ:Type) (κ:X→TS→Option ρ),aM l q S ρ κ=e S ρ κ):fE P (aM l) [c] :=by
 intro c' hc' S ρ κ r hS hr
 rw [List.mem_singleton] at hc'
 subst hc'
 rw [hq,hl] at hr
 exact h S ρ κ r hS hr
theorem OD {l:List (Nat×dk)} {c:Code} {q:Nat} (hq:cd c=q) (hl: ∀ (S:TS) (ρ:Type) (κ:X→TS→Option ρ),aM l q S ρ κ=none):fE P (aM l) [c] :=by
 intro c' hc' S ρ κ r hS hr
 rw [List.mem_singleton] at hc'
 subst hc'
 rw [hq,hl] at hr
 cases hr
theorem bm (hΘ:eb P Θ) (hY:aw P Y) (hm:P.follows .mixedOrders=true) {c:Code} (hc:ly P c=true) (hL:fE P Λ (eL c)) (grow:List MD) (keep keepX:List Nat) (L:eJ) (exs:List (X×eJ)) (hf: (L.fit&&exs.all Sq)=true)
  (B:L.D→Option (L.D⊕bD.D exs)) (hB: ∀ s,eM Θ Y Λ c (L.mk' s) (dy keep keepX fun x S=>some (x,S))=(B s).bind (Sum.elim (fun s'=>some (.nor,L.mk' s')) fun e=>some (bD.e exs e)))
  (G:L.D→Option (bD.D exs)) (μ:L.D→Nat) (hG: ∀ s e,G s=some e→Oz G μ s e (B s)):cy P c (dD grow keep L exs G):=by
 simp only [Bool.and_eq_true] at hf
 intro S ρ κ r hS hk
 refine OB (E:=bD.e exs) (fun e=>(bD.ok exs e hf.2).2) (fun s e hs=>P3 hΘ hY hm hc hL (fun s=>eJ.mk'_ok hf.1 s) hB (fun e=>(bD.ok exs e hf.2).1) hG hs) hS ?_ (grow:=grow) (keep:=keep)
 rw [←hk]
 unfold OA dD
 simp only [bD.k_eq]
end
end Go.Proofs.YtkcgfceffffmoaaGreat.En
namespace Go.Proofs.YtkcgfceffffmoaaGreat.En
open Go
def P5 (P:Program) (e:TypeId→List Value→Bool):List Field→Nat→List Value→Bool
 | [],_,[] =>true
 | [],_,_::_=>false
 | f::fs,off,zs=>f.name != "_" &&Nat.beq f.offset off&&Nat.blt 0 (P.cellsOf f.type)&&Nat.ble (P.cellsOf f.type) zs.length&&(P.info? f.type).isSome&&e f.type (zs.take (P.cellsOf f.type))&&P5 P e fs (off+P.cellsOf f.type) (zs.drop (P.cellsOf f.type))
def IP (P:Program):Nat→TypeId→List Value→Bool
 | 0,_,_=>false
 | n+1,t,zs=>match P.underlying t with
   | some .bool=>(match zs with | [.bool _] =>true | _=>false)
   | some (.int _)=>(match zs with | [.int _ _] =>true | _=>false)
   | some (.struct fs)=> !P.stoodInHeld t&&P5 P (IP P n) fs.toList 0 zs
   | _=>false
def D0 (P:Program) (t:TypeId) (xs:List Value):Value:=match P.underlying t with
 | some (.struct _)=> .agg xs.toArray
 | _=>xs.headD (.bool false)
def j9:List Value→List Value→Bool
 | [],[] =>true
 | .int k _::zs, .int k' _::cs=>bif decide (k=k') then j9 zs cs else false
 | .bool _::zs, .bool _::cs=>j9 zs cs
 | _,_=>false
def kp:List Value→List Value→Option Bool
 | [],[] =>some true
 | a::l,b::m=>match Ih a b,kp l m with
   | some x,some y=>some (x&&y)
   | _,_=>none
 | _,_=>none
theorem Cq: ∀ {zs xs:List Value},kf zs (xs.map fun x=> .c (.sc x))=true→j9 zs xs=true:=by
 intro zs
 induction zs with
 | nil=>intro xs h; cases xs with
   | nil=>rfl
   | cons=>simp [kf] at h
 | cons z zs ih=>
   intro xs h
   cases xs with
   | nil=>cases z <;> simp [kf] at h
   | cons x xs=>
     cases z <;> cases x <;> simp only [List.map_cons,kf,j9,cond_eq_ite,Bool.false_eq_true] at h ⊢
     ·exact ih h
     ·split at h
      ·rename_i hk
       rw [if_pos hk]
       exact ih h
      ·cases h
theorem ME: ∀ {xs ys:List Value},um (xs.map fun x=> .c (.sc x)) (ys.map fun x=> .c (.sc x))=kp xs ys:=by
 intro xs
 induction xs with
 | nil=>intro ys; cases ys <;> rfl
 | cons x xs ih=>
   intro ys
   cases ys with
   | nil=>rfl
   | cons y ys=>
     simp only [List.map_cons,um,kp,ih]
     cases Ih x y <;> cases kp xs ys <;> rfl
theorem pq: ∀ {zs xs:List Value},j9 zs xs=true→xs.length=zs.length:=by
 intro zs
 induction zs with
 | nil=>intro xs h; cases xs with
   | nil=>rfl
   | cons=>simp [j9] at h
 | cons z zs ih=>
   intro xs h
   cases xs with
   | nil=>cases z <;> simp [j9] at h
   | cons x xs=>
     cases z <;> cases x <;> simp only [j9,cond_eq_ite,Bool.false_eq_true] at h
     ·simp [ih h]
     ·split at h
      ·simp [ih h]
      ·cases h
theorem rX: ∀ {zs xs:List Value} (n:Nat),j9 zs xs=true→j9 (zs.take n) (xs.take n)=true∧j9 (zs.drop n) (xs.drop n)=true:=by
 intro zs
 induction zs with
 | nil=>intro xs n h; cases xs with
   | nil=>simp [j9]
   | cons=>simp [j9] at h
 | cons z zs ih=>
   intro xs n h
   cases xs with
   | nil=>cases z <;> simp [j9] at h
   | cons x xs=>
     cases n with
     | zero=>exact⟨rfl,h⟩
     | succ n=>
       cases z <;> cases x <;> simp only [j9,cond_eq_ite,Bool.false_eq_true] at h
       ·exact ih n h
       ·split at h
        ·rename_i hk
         refine⟨?_,(ih n h).2⟩
         simp only [List.take_succ_cons,j9,cond_eq_ite]
         rw [if_pos (by simpa using hk)]
         exact (ih n h).1
        ·cases h
theorem Gm: ∀ {xs ys:List Value} (n:Nat) {r:Bool},kp xs ys=some r→ ∃ a b,kp (xs.take n) (ys.take n)=some a∧kp (xs.drop n) (ys.drop n)=some b∧r=(a&&b):=by
 intro xs
 induction xs with
 | nil=>intro ys n r h; cases ys with
   | nil=>cases h; exact⟨true,true,by simp [kp],by simp [kp],rfl⟩
   | cons=>simp [kp] at h
 | cons x xs ih=>
   intro ys n r h
   cases ys with
   | nil=>simp [kp] at h
   | cons y ys=>
     cases n with
     | zero=>exact⟨true,r,rfl,h,rfl⟩
     | succ n=>
       simp only [kp] at h
       split at h
       ·rename_i p q hp hq
        cases h
        obtain⟨a,b,h1,h2,rfl⟩:=ih n hq
        exact⟨p&&a,b,by simp [kp,hp,h1],h2,by cases p <;> rfl⟩
       ·cases h
theorem Gn {P:Program} {t:TypeId} {i:TypeInfo} (h:P.info? t=some i):bz P (typeInfo t)=some i:=by
 simp only [typeInfo,bf,program,bz,Option.bind_some,h]
 rfl
theorem IQ {P:Program} {t:TypeId} {i:TypeInfo} (hi:P.info? t=some i) {d:TypeDesc} (hd:P.underlying t=some d) (hs: ∀ n e,d≠ .array n e) {xs:List Value} {off:Nat} {c:Value} (hc:xs[off]? =some c):
  bz P (part t xs.toArray off)=some (D0 P t ((xs.drop off).take (P.cellsOf t)))∨P.cellsOf t=0:=by
 by_cases h0:P.cellsOf t=0
 ·exact .inr h0
 refine .inl ?_
 have hcell:P.cellsOf t=i.size:=by simp [Program.cellsOf,hi]
 cases hst: (match d with | .struct _=>true | _=>false) with
 | true=>
   have hag:bz P (isAgg t)=some true:=by
    simp only [isAgg,bf,cX hd,Option.bind_some]
    cases d <;> simp at hst
    rfl
   simp only [part,sizeOf,bf,hag,Option.bind_some,if_true,Gn hi,bW,D0,hd]
   cases d <;> simp at hst
   simp [hcell,Nat.add_sub_cancel_left]
 | false=>
   have hag:bz P (isAgg t)=some false:=by
    simp only [isAgg,bf,cX hd,Option.bind_some]
    cases d <;> simp at hst
    all_goals first | rfl | exact absurd rfl (hs _ _)
   have hv:D0 P t ((xs.drop off).take (P.cellsOf t))=c:=by
    have : ((xs.drop off).take (P.cellsOf t)).headD (.bool false)=c:=by
     obtain⟨n,hn⟩: ∃ n,P.cellsOf t=n+1:=⟨P.cellsOf t - 1,by omega⟩
     have h1:off < xs.length:=(List.getElem?_eq_some_iff.1 hc).1
     rw [hn,List.drop_eq_getElem_cons h1,List.take_succ_cons]
     exact (List.getElem?_eq_some_iff.1 hc).2
    unfold D0
    rw [hd]
    cases d <;> first | exact this | simp at hst
   rw [hv]
   simp only [part,bf,hag,Option.bind_some,Bool.false_eq_true,if_false]
   have :xs.toArray[off]? =some c:=by simpa using hc
   rw [this]
   rfl
theorem LR (P:Program): ∀ (n:Nat) {t:TypeId} {zs xs ys:List Value} {r:Bool} (d:Nat),IP P n t zs=true→j9 zs xs=true→j9 zs ys=true→kp xs ys=some r→bz P (Op.equalIn (n+d) t (D0 P t xs) (D0 P t ys))=some r
 | 0,t,zs,xs,ys,r,d,h,_,_,_=>by cases h
 | n+1,t,zs,xs,ys,r,d,h,hx,hy,he=>by
   have hn:n+1+d=(n+d)+1:=by omega
   rw [hn]
   unfold IP at h
   cases hu:P.underlying t with
   | none=>rw [hu] at h; cases h
   | some D=>
     rw [hu] at h
     cases D <;> simp only [Bool.false_eq_true] at h
     case bool=>
      split at h
      case h_2=>cases h
      obtain⟨x,rfl⟩: ∃ x,xs= [.bool x] :=by
       match xs,hx with
       | [.bool x],_=>exact⟨x,rfl⟩
      obtain⟨y,rfl⟩: ∃ y,ys= [.bool y] :=by
       match ys,hy with
       | [.bool y],_=>exact⟨y,rfl⟩
      simp only [kp,Ih,Bool.and_true,Option.some.injEq] at he
      subst he
      simp only [D0,hu,List.headD_cons]
      rw [Op.equalIn]
      simp only [bf,cX hu,Option.bind_some,bW]
     case int k=>
      split at h
      case h_2=>cases h
      rename_i k0 _
      obtain⟨x,rfl⟩: ∃ x,xs= [.int k0 x] :=by
       match xs,hx with
       | [.int k1 x],hx=>
         simp only [j9,cond_eq_ite] at hx
         split at hx
         ·rename_i hk; simp at hk; subst hk; exact⟨x,rfl⟩
         ·cases hx
       | .int _ _::_::_,hx=>simp [j9] at hx
      obtain⟨y,rfl⟩: ∃ y,ys= [.int k0 y] :=by
       match ys,hy with
       | [.int k1 x],hx=>
         simp only [j9,cond_eq_ite] at hx
         split at hx
         ·rename_i hk; simp at hk; subst hk; exact⟨x,rfl⟩
         ·cases hx
       | .int _ _::_::_,hx=>simp [j9] at hx
      simp only [kp,Ih,Bool.and_true,Option.some.injEq] at he
      subst he
      simp only [D0,hu,List.headD_cons]
      rw [Op.equalIn]
      simp only [bf,cX hu,Option.bind_some,bW,if_true]
     case struct fs=>
      simp only [Bool.and_eq_true,Bool.not_eq_true'] at h
      obtain⟨hst,h⟩:=h
      simp only [D0,hu]
      have cd: ∀ (fs:List Field) (off:Nat) (zs:List Value) (r:Bool),P5 P (IP P n) fs off zs=true→j9 zs (xs.drop off)=true→j9 zs (ys.drop off)=true→kp (xs.drop off) (ys.drop off)=some r→
        bz P (Op.eqFields (n+d) xs.toArray ys.toArray fs)=some r:=by
       intro fs
       induction fs with
       | nil=>
         intro off zs r h hx hy he
         cases zs with
         | nil=>
           have h1:=pq hx
           have h2:=pq hy
           simp only [List.length_nil,List.length_eq_zero_iff] at h1 h2
           rw [h1,h2] at he
           cases he
           rfl
         | cons=>cases h
       | cons f fs ih=>
         intro off zs r h hx hy he
         simp only [P5,Bool.and_eq_true,bne_iff_ne,ne_eq] at h
         obtain⟨⟨⟨⟨⟨⟨hname,hoff⟩,hpos⟩,hle⟩,hi⟩,h1⟩,h2⟩:=h
         have hoff:=Nat.eq_of_beq_eq_true hoff
         have hpos:0 < P.cellsOf f.type:=Nat.le_of_ble_eq_true hpos
         have hle:P.cellsOf f.type≤zs.length:=Nat.le_of_ble_eq_true hle
         have hlx:=pq hx
         have hly:=pq hy
         rw [List.length_drop] at hlx hly
         obtain⟨i,hi⟩:=Option.isSome_iff_exists.1 hi
         have hu': ∃ D,P.underlying f.type=some D∧ ∀ n e,D≠ .array n e:=by
          cases hun:P.underlying f.type with
          | none=>cases n <;> simp [IP,hun] at h1
          | some D=>refine⟨D,rfl,fun k e he=> ?_⟩; subst he; cases n <;> simp [IP,hun] at h1
         obtain⟨D,hD,hDa⟩:=hu'
         have px:=IQ hi hD hDa (xs:=xs) (off:=off) (List.getElem?_eq_getElem (by omega))
         have py:=IQ hi hD hDa (xs:=ys) (off:=off) (List.getElem?_eq_getElem (by omega))
         have px:=px.resolve_right (by omega)
         have py:=py.resolve_right (by omega)
         obtain⟨a,b,ha,hb,rfl⟩:=Gm (P.cellsOf f.type) he
         have hA:=LR P n d h1 (rX _ hx).1 (rX _ hy).1 ha
         rw [Op.eqFields,if_pos hname]
         simp only [hoff,bf,px,py,Option.bind_some,hA]
         cases a with
         | false=>rfl
         | true=>
           simp only [Bool.not_true,Bool.false_eq_true,if_false,Bool.true_and]
           simp only [List.drop_drop] at hb
           refine ih _ _ _ h2 ?_ ?_ hb
           ·have:=(rX (P.cellsOf f.type) hx).2; rw [List.drop_drop] at this; exact this
           ·have:=(rX (P.cellsOf f.type) hy).2; rw [List.drop_drop] at this; exact this
      have:=cd fs.toList 0 zs r h (by simpa using hx) (by simpa using hy) (by simpa using he)
      rw [←this]
      rw [Op.equalIn]
      simp only [bf,cX hu,Option.bind_some,program,bz,hst,Bool.false_eq_true,if_false]
      rw [←Array.forIn_toList]
      generalize fs.toList=fs
      clear this cd h hu hst hn
      induction fs with
      | nil=>rfl
      | cons f fs ih=>
        simp only [List.forIn_cons,Op.eqFields]
        split
        ·simp only [bf]
         cases bz P (part f.type xs.toArray f.offset) with
         | none=>rfl
         | some a=>
           cases bz P (part f.type ys.toArray f.offset) with
           | none=>rfl
           | some b=>
             simp only [Option.bind_some]
             cases bz P (Op.equalIn (n+d) f.type a b) with
             | none=>rfl
             | some q=>
               cases q
               ·rfl
               ·simp only [Option.bind_some,Bool.not_true,Bool.false_eq_true,if_false,bW]
                simpa only [bf,Option.bind_assoc] using ih
        ·simp only [bf,bW,Option.bind_some]
         simpa only [bf,Option.bind_assoc] using ih
theorem RP {P:Program} {t:TypeId} {zs:List Value} {fs:Array Field} (hu:P.underlying t=some (.struct fs)) (h:IP P 8 t zs=true) (a b:List Cl) (r:Bool) (xs ys:List Value) (ha:kf zs a=true) (hb:kf zs b=true) (he:um a b=some r) (hx:a=xs.map (fun x=> .c (.sc x))) (hy:b=ys.map (fun x=> .c (.sc x))):
  bz P (Op.equal t (.agg xs.toArray) (.agg ys.toArray))=some r:=by
 subst hx hy
 have:=LR P 8 9992 h (Cq ha) (Cq hb) (by rw [←ME]; exact he)
 unfold D0 at this
 rw [hu] at this
 exact this
end Go.Proofs.YtkcgfceffffmoaaGreat.En
namespace Go.Proofs.YtkcgfceffffmoaaGreat.En
open Go
def Sr (P:Program):List Field→Option (List (Nat×Nat×Bool))
 | [] =>some []
 | f::fs=>match DL P f.type,Sr P fs with
   | some ag,some l=>some ((f.offset,P.cellsOf f.type,ag)::l)
   | _,_=>none
def SB (P:Program) (t:TypeId):Option (List (Nat×Nat×Bool)):=match P.underlying t with | some (.struct fs)=>Sr P fs.toList | _=>none
theorem LS {P:Program}: ∀ {fs:List Field} {l:List (Nat×Nat×Bool)},Sr P fs=some l→ ∀ k,(fs[k]?).bind (fun f=>(DL P f.type).map fun ag=>(f.offset,P.cellsOf f.type,ag))=nZ l k
 | [],l,h,k=>by cases h; rfl
 | f::fs,l,h,k=>by
   unfold Sr at h
   split at h
   ·rename_i ag l' h1 h2
    cases h
    cases k with
    | zero=>simp [h1,nZ]
    | succ k=>
      show _=nZ l' (k+1 - 1)
      rw [Nat.add_sub_cancel,←LS h2 k,List.getElem?_cons_succ]
   ·cases h
theorem P6 {P:Program} {t:TypeId} {l:List (Nat×Nat×Bool)} (h:SB P t=some l) (k:Nat):Nm P t k=nZ l k:=by
 unfold SB at h
 unfold Nm
 split at h
 ·rename_i fs hu
  simp only [hu]
  rw [←LS h k,Array.getElem?_toList]
 ·cases h
theorem P7 (P:Program):eb P [] :=fun _ _ h=>by cases h
theorem bn {P:Program} {t:Nat} {ti:TI} {l:oI} (h:ti.ok P t) (hl:eb P l):eb P ((t,ti)::l):=by
 intro u ui hu
 unfold mo at hu
 cases hb:Nat.beq t u with
 | true=>
   rw [hb] at hu
   have:=Nat.eq_of_beq_eq_true hb
   subst this
   cases hu
   exact h
 | false=>
   rw [hb] at hu
   exact hl u ui hu
def RQ (P:Program) (t:TypeId):Bool:=match P.underlying t with | some (.struct _)=>true | _=>false
section
variable {P:Program} {t:TypeId}
theorem mN {n:Sn} {fds:List (Nat×Nat×Bool)} {by':Nat} (h1:RQ P t=true) (h2:P.cellsOf t=(Ty.st n).width) (h3:n0 P 9 t=(Ty.st n).shs) (h4:xN P t=some (Ty.st n).zvs) (h5:SB P t=some fds)
  (h6:Rz P t=some (fds.map fun x=>(x.1,x.2.1))) (h7: ((Ty.st n).flatB=true→P.eqGuardType P.depth t=false∧IP P 8 t (Ty.st n).zvs=true)) (hz: (Ty.st n).flatB=false→ ∀ xs:List Value,kf (Ty.st n).zvs (xs.map fun x=> .c (.sc x))=false):TI.ok P t ⟨.st n,0,fds,by'⟩:=by
 unfold RQ at h1
 split at h1
 case h_2=>cases h1
 rename_i fs hu
 refine⟨?_,h2,h3,h4,P6 h5,fun _=>h6,fun e he=>(by cases he),fun hb=>(by cases hb),fun _ hf=>(h7 hf).1,fun _ a b r xs ys ha hb he hx hy=> ?_,?_,fun k hk=>(by cases hk)⟩
 ·simp [DL,hu,Ty.ag]
 ·cases hf: (Ty.st n).flatB with
  | true=>exact RP hu (h7 hf).2 a b r xs ys ha hb he hx hy
  | false=>
    subst hx
    have:=hz hf xs
    rw [show kf (Ty.st n).zvs _=true from ha] at this
    cases this
 ·simp [FI,hu]
theorem sC {e:Ty} {el:Nat} {by':Nat} {u:TypeId} (h1:wo P t=some u) (h2:P.cellsOf t=1) (h4:xN P t=some [.slice none 0 0]) (h5:P.cellsOf u=e.width) (h6:P.bytesOf u=el) (h7:Nat.blt 0 el=true) (h8:n0 P 9 u=e.shs) (h9:xN P u=some e.zvs):TI.ok P t ⟨.ls e,el,[],by'⟩:=by
 have hu:P.underlying t=some (.slice u):=by
  unfold wo at h1
  split at h1
  ·rename_i e hu; cases h1; exact hu
  ·cases h1
 refine⟨?_,h2,?_,h4,fun k=> ?_,fun h=>(by cases h),fun e' he=> ?_,fun hb=>(by cases hb),fun h=>(by cases h),fun h=>(by cases h),?_,fun k hk=>(by cases hk)⟩
 ·simp [DL,hu,Ty.ag]
 ·simp [n0,hu,Ty.shs,Ty.csh,h5]
 ·simp [Nm,hu,nZ]
 ·cases he
  exact⟨u,h1,h5,h6,Nat.le_of_ble_eq_true h7,h8,h9⟩
 ·simp [FI,hu]
def SL (P:Program) (t:TypeId) (y:Ty):Bool:=match P.underlying t,y with
 | some (.int k), .i k'=>decide (k=k')
 | some .bool, .b=>true
 | some .string, .s=>true
 | _,_=>false
theorem uT {y:Ty} {by':Nat} (h1:SL P t y=true) (h2:P.cellsOf t=1) (h4:xN P t=some y.zvs):TI.ok P t ⟨y,0,[],by'⟩:=by
 unfold SL at h1
 split at h1
 ·rename_i k k' hu
  refine⟨(by simp [DL,hu,Ty.ag]),h2,(by simp [n0,hu,Ty.shs,Ty.csh]),h4,fun k=>(by simp [Nm,hu,nZ]),fun h=>(by cases h),fun e' he=>(by cases he),fun hb=>(by cases hb),fun h=>(by cases h),fun h=>(by cases h),by simp [FI,hu],fun q hq=>(by cases hq; rw [hu]; simp only [decide_eq_true_eq] at h1; rw [h1])⟩
 ·rename_i hu
  refine⟨(by simp [DL,hu,Ty.ag]),h2,(by simp [n0,hu,Ty.shs,Ty.csh]),h4,fun k=>(by simp [Nm,hu,nZ]),fun h=>(by cases h),fun e' he=>(by cases he),fun hb=>hu,fun h=>(by cases h),fun h=>(by cases h),by simp [FI,hu],fun q hq=>(by cases hq)⟩
 ·rename_i hu
  refine⟨(by simp [DL,hu,Ty.ag]),h2,(by simp [n0,hu,Ty.shs,Ty.csh]),h4,fun k=>(by simp [Nm,hu,nZ]),fun h=>(by cases h),fun e' he=>(by cases he),fun hb=>(by cases hb),fun h=>(by cases h),fun h=>(by cases h),by simp [FI,hu],fun q hq=>(by cases hq)⟩
 ·cases h1
end
theorem f9: ∀ {zs:List Value} (xs:List Value),zs.any (fun z=>match z with | .int _ _=>false | .bool _=>false | _=>true)=true→kf zs (xs.map fun x=> .c (.sc x))=false
 | [],xs,h=>by cases h
 | z::zs,xs,h=>by
   cases hb:kf (z::zs) (xs.map fun x=> .c (.sc x)) with
   | false=>rfl
   | true=>
     exfalso
     cases xs with
     | nil=>cases z <;> simp [kf] at hb
     | cons x xs=>
       cases z <;> simp only [kf,List.map_cons,Bool.false_eq_true] at hb
       all_goals cases x <;> simp only [kf,cond_eq_ite,Bool.false_eq_true] at hb
       ·rw [f9 xs (by simpa using h)] at hb; cases hb
       ·split at hb
        ·rw [f9 xs (by simpa using h)] at hb; cases hb
        ·cases hb
end Go.Proofs.YtkcgfceffffmoaaGreat.En
namespace Go.Proofs.YtkcgfceffffmoaaGreat.En
open Go
section
variable {σ ε:Type}
def vH (B:σ→Option (σ⊕ε)):Nat→σ→Option ε
 | 0,_=>none
 | n+1,s=>(B s).bind (Sum.elim (vH B n) some)
theorem yl (B:σ→Option (σ⊕ε)): ∀ {n m:Nat} {s:σ} {e:ε},n≤m→vH B n s=some e→vH B m s=some e
 | 0,_,_,_,_,h=>by cases h
 | n+1,0,_,_,hm,_=>by omega
 | n+1,m+1,s,e,hm,h=>by
   unfold vH at h ⊢
   cases hB:B s with
   | none=>rw [hB] at h; cases h
   | some x=>
     rw [hB] at h
     cases x with
     | inl s'=>exact yl B (by omega) h
     | inr e'=>exact h
theorem Gp {p:Nat→Prop} (h: ∃ n,p n): ∃ n,p n∧ ∀ m,p m→n≤m:=by
 obtain⟨n,hn⟩:=h
 induction n using Nat.strongRecOn with
 | _ n ih=>
   by_cases hx: ∃ m,m < n∧p m
   ·obtain⟨m,hm,hp⟩:=hx
    exact ih m hm hp
   ·exact⟨n,hn,fun m hm=>Nat.le_of_not_lt fun hlt=>hx ⟨m,hlt,hm⟩⟩
noncomputable def j4 (B:σ→Option (σ⊕ε)) (s:σ):Option ε:=open Classical in if h: ∃ n,(vH B n s).isSome=true then vH B (Classical.choose h) s else none
noncomputable def gT (B:σ→Option (σ⊕ε)) (s:σ):Nat:=open Classical in if h: ∃ n,(vH B n s).isSome=true then Classical.choose (Gp h) else 0
theorem to {B:σ→Option (σ⊕ε)} {s:σ} {e:ε}:j4 B s=some e↔ ∃ n,vH B n s=some e:=by
 classical
 constructor
 ·intro h
  unfold j4 at h
  split at h
  ·rename_i hx
   exact⟨_,h⟩
  ·cases h
 ·rintro⟨n,h⟩
  have hx: ∃ n,(vH B n s).isSome=true:=⟨n,by rw [h]; rfl⟩
  unfold j4
  rw [dif_pos hx]
  obtain⟨e',he⟩:=Option.isSome_iff_exists.1 (Classical.choose_spec hx)
  have h1:=yl B (Nat.le_max_left (Classical.choose hx) n) he
  have h2:=yl B (Nat.le_max_right (Classical.choose hx) n) h
  rw [h1] at h2
  cases h2
  exact he
theorem tp (B:σ→Option (σ⊕ε)) (s:σ):j4 B s=(B s).bind (Sum.elim (j4 B) some):=by
 apply Option.ext
 intro e
 rw [to]
 constructor
 ·rintro⟨n,h⟩
  cases n with
  | zero=>cases h
  | succ n=>
    unfold vH at h
    cases hB:B s with
    | none=>rw [hB] at h; cases h
    | some x=>
      rw [hB] at h
      cases x with
      | inl s'=>exact to.2 ⟨n,h⟩
      | inr e'=>exact h
 ·intro h
  cases hB:B s with
  | none=>rw [hB] at h; cases h
  | some x=>
    rw [hB] at h
    cases x with
    | inl s'=>
      obtain⟨n,h⟩:=to.1 (show j4 B s'=some e from h)
      exact⟨n+1,by unfold vH; rw [hB]; exact h⟩
    | inr e'=>exact⟨1,by unfold vH; rw [hB]; exact h⟩
theorem aX (B:σ→Option (σ⊕ε)) (s:σ) (e:ε) (h:j4 B s=some e):Oz (j4 B) (gT B) s e (B s):=by
 classical
 have h0:=h
 rw [tp] at h
 cases hB:B s with
 | none=>rw [hB] at h; cases h
 | some x=>
   rw [hB] at h
   cases x with
   | inl s'=>
     refine⟨?_,h⟩
     have hx: ∃ n,(vH B n s).isSome=true:=by
      obtain⟨n,hn⟩:=to.1 h0
      exact⟨n,by rw [hn]; rfl⟩
     have hx': ∃ n,(vH B n s').isSome=true:=by
      obtain⟨n,hn⟩:=to.1 (show j4 B s'=some e from h)
      exact⟨n,by rw [hn]; rfl⟩
     unfold gT
     rw [dif_pos hx,dif_pos hx']
     have:=(Classical.choose_spec (Gp hx)).1
     cases hn:Classical.choose (Gp hx) with
     | zero=>rw [hn] at this; cases this
     | succ n=>
       rw [hn] at this
       unfold vH at this
       rw [hB] at this
       exact Nat.lt_succ_of_le ((Classical.choose_spec (Gp hx')).2 n this)
   | inr e'=>exact (Option.some.inj h)
end
theorem cf {α β γ δ:Type} (x:α⊕β) (f:α→Option γ) (g:β→Option γ) (h:γ→Option δ): (Sum.elim f g x).bind h=Sum.elim (fun a=>(f a).bind h) (fun a=>(g a).bind h) x:=by cases x <;> rfl
inductive Gq where
 | ty (t:Ty) | pr (t:Ty) | fc (g:Nat) | fn (g:Nat) (caps:List Ty)
abbrev Gq.D:Gq→Type
 | .ty t=>t.D
 | .pr t=>t.D
 | .fc _=>Unit
 | .fn _ caps=>sW.D caps
abbrev rl.D:List Gq→Type
 | [] =>Unit
 | p::l=>p.D×rl.D l
def Gr: (l:List Ty)→sW.D l→List Cl
 | [],_=> []
 | t::l,x=> .pro (t.flat x.1)::Gr l x.2
def Gq.v1: (p:Gq)→p.D→V1
 | .ty t,x=>Lu t x
 | .pr t,x=> .cl (.pro (t.flat x))
 | .fc g,_=> .cl (.c (.sc (.func (.func g) #[] #[])))
 | .fn g caps,x=> .fn g (Gr caps x)
def n9: (l:List Gq)→rl.D l→List V1
 | [],_=> []
 | p::l,x=>p.v1 x.1::n9 l x.2
def P8 {ρ:Type} (t:Ty) (c:Cl) (κ:t.D→Option ρ):Option ρ:=match c with
 | .pro xs=>(match t.unflat xs with | some x=>κ x | none=>none)
 | _=>none
def ym {ρ:Type}: (l:List Ty)→List Cl→(sW.D l→Option ρ)→Option ρ
 | [],[],κ=>κ ()
 | t::l,c::cs,κ=>P8 t c fun x=>ym l cs fun y=>κ (x,y)
 | _,_,_=>none
def Ss {ρ:Type}: (p:Gq)→V1→(p.D→Option ρ)→Option ρ
 | .ty t,a,κ=>un t a κ
 | .pr t, .cl c,κ=>P8 t c κ
 | .fc g, .cl (.c (.sc (.func (.func g') cs ts))),κ=>bif Nat.beq g' g&&Nat.beq cs.size 0&&Nat.beq ts.size 0 then κ () else none
 | .fn g caps, .fn g' cs,κ=>bif Nat.beq g' g then ym caps cs κ else none
 | _,_,_=>none
def Cr {ρ:Type}: (l:List Gq)→List V1→(rl.D l→Option ρ)→Option ρ
 | [],[],κ=>κ ()
 | p::l,a::as,κ=>Ss p a fun x=>Cr l as fun y=>κ (x,y)
 | _,_,_=>none
def bE (ps:List Gq) (rs:List Ty) (G:rl.D ps→Option (sW.D rs)):bw:=fun args _ κ=>Cr ps args fun x=>(G x).bind fun y=>ret (aA rs y) κ
theorem Fn {ρ:Type} {t:Ty} {c:Cl} {κ:t.D→Option ρ} {r:ρ} (h:P8 t c κ=some r): ∃ x,c= .pro (t.flat x)∧κ x=some r:=by
 unfold P8 at h
 split at h
 ·split at h
  ·rename_i x hx
   exact⟨x,by rw [t.unflat_some _ _ hx],h⟩
  ·cases h
 ·cases h
theorem zI {ρ:Type}: ∀ {l:List Ty} {cs:List Cl} {κ:sW.D l→Option ρ} {r:ρ},ym l cs κ=some r→ ∃ x,cs=Gr l x∧κ x=some r
 | [],[],κ,r,h=>⟨(),rfl,h⟩
 | t::l,c::cs,κ,r,h=>by
   unfold ym at h
   obtain⟨x,h1,h⟩:=Fn h
   obtain⟨y,h2,h⟩:=zI h
   exact⟨(x,y),by rw [h1,h2]; rfl,h⟩
 | [],_::_,κ,r,h=>by simp [ym] at h
 | _::_,[],κ,r,h=>by simp [ym] at h
theorem OE {ρ:Type} {p:Gq} {a:V1} {κ:p.D→Option ρ} {r:ρ} (h:Ss p a κ=some r): ∃ x,a=p.v1 x∧κ x=some r:=by
 unfold Ss at h
 split at h
 ·exact un_some h
 ·obtain⟨x,h1,h⟩:=Fn h
  exact⟨x,by rw [h1]; rfl,h⟩
 ·obtain⟨h1,h⟩:=am h
  simp only [Bool.and_eq_true] at h1
  obtain⟨⟨h1,h2⟩,h3⟩:=h1
  have h1:=Nat.eq_of_beq_eq_true h1
  have h2:=Array.eq_empty_of_size_eq_zero (Nat.eq_of_beq_eq_true h2)
  have h3:=Array.eq_empty_of_size_eq_zero (Nat.eq_of_beq_eq_true h3)
  exact⟨(),by rw [h1,h2,h3]; rfl,h⟩
 ·obtain⟨h1,h⟩:=am h
  obtain⟨x,h2,h⟩:=zI h
  exact⟨x,by rw [Nat.eq_of_beq_eq_true h1,h2]; rfl,h⟩
 ·cases h
theorem uA {ρ:Type}: ∀ {l:List Gq} {as:List V1} {κ:rl.D l→Option ρ} {r:ρ},Cr l as κ=some r→ ∃ x,as=n9 l x∧κ x=some r
 | [],[],κ,r,h=>⟨(),rfl,h⟩
 | p::l,a::as,κ,r,h=>by
   unfold Cr at h
   obtain⟨x,h1,h⟩:=OE h
   obtain⟨y,h2,h⟩:=uA h
   exact⟨(x,y),by rw [h1,h2]; rfl,h⟩
 | [],_::_,κ,r,h=>by simp [Cr] at h
 | _::_,[],κ,r,h=>by simp [Cr] at h
theorem Fo (G:List (Option bU)): ∀ (l:List Ty) (x:sW.D l),∀ c∈Gr l x,c.ok G
 | [],x,c,h=>by cases h
 | t::l,x,c,h=>by
   rcases List.mem_cons.1 h with rfl | h
   ·trivial
   ·exact Fo G l x.2 c h
theorem Gq.ok (p:Gq) (x:p.D): (p.v1 x).ok [] :=by
 cases p with
 | ty t=>exact Q4 t x
 | pr t=>trivial
 | fc g=>trivial
 | fn g caps=>exact Fo [] caps x
theorem uB: ∀ (l:List Gq) (x:rl.D l),∀ a∈n9 l x,a.ok []
 | [],x,a,h=>by cases h
 | p::l,x,a,h=>by
   rcases List.mem_cons.1 h with rfl | h
   ·exact p.ok x.1
   ·exact uB l x.2 a h
theorem ak {P:Program} {Θ:oI} {Y:xZ} {Λ:pQ} (hΘ:eb P Θ) (hY:aw P Y) (hm:P.follows .mixedOrders=true) {f:FuncId} {fn:Func} (hf:NC P f=some fn) (hL: ∀ c,fn.body=some c→fE P Λ (eL c)) {ps:List Gq} {rs:List Ty} {G:rl.D ps→Option (sW.D rs)} (hk:Nat.blt f 1048576=true)
  (F:rl.D ps→Option (sW.D rs)) (hF: ∀ x,Sz Θ Y Λ fn (n9 ps x) (fun v g=>some (v,g))=(F x).bind fun y=>ret (aA rs y) (fun v g=>some (v,g))) (hG: ∀ x y,G x=some y→F x=some y):aB P f (bE ps rs G):=by
 intro args ρ κ r hr
 unfold bE at hr
 obtain⟨x,rfl,hr2⟩:=uA hr
 obtain⟨y,h1,hr3⟩:=Option.bind_eq_some_iff.1 hr2
 exact⟨_,_, .of_fn (Q0 hΘ hY hm hf hL (uB ps x) (by rw [hF,hG x y h1]; rfl)) (Nat.le_of_ble_eq_true hk),OC _,hr3⟩
def P9 (el:Ty) (ps:List Gq) (rs:List Ty) (G:List el.D→rl.D ps→Option (sW.D rs)):bw:=fun args _ κ=>match args with
 | .cl (.c (.ls t l))::as=>(match te t el l with
   | some l=>Cr ps as fun x=>(G l x).bind fun y=>ret (aA rs y) κ
   | none=>none)
 | _=>none
def OF {ρ:Type} (el:Ty) (rs:List Ty) (y:List el.D×sW.D rs) (κ:V→List bU→Option ρ):Option ρ:=κ (x9 (zF 1 (aA rs y.2))) (⟨el,y.1,none⟩::wD (aA rs y.2))
def OG (el:Ty) (ps:List Gq) (rs:List Ty) (G:List el.D→rl.D ps→Option (List el.D×sW.D rs)):bw:=fun args _ κ=>match args with
 | .cl (.c (.ls t l))::as=>(match te t el l with
   | some l=>Cr ps as fun x=>(G l x).bind fun y=>OF el rs y κ
   | none=>none)
 | _=>none
theorem LU {P:Program} {Θ:oI} {Y:xZ} {Λ:pQ} (hΘ:eb P Θ) (hY:aw P Y) (hm:P.follows .mixedOrders=true) {f:FuncId} {fn:Func} (hf:NC P f=some fn) (hL: ∀ c,fn.body=some c→fE P Λ (eL c)) {el:Ty} {ps:List Gq} {rs:List Ty} {G:List el.D→rl.D ps→Option (sW.D rs)}
  (F:List el.D→rl.D ps→Option (sW.D rs)) (hF: ∀ l x,PA Θ Y Λ fn 0 el l (n9 ps x) (fun v g=>some (v,g))=(F l x).bind fun y=>ret (aA rs y) (fun v g=>some (v,g))) (hG: ∀ l x y,G l x=some y→F l x=some y):aB P (B8 f) (P9 el ps rs G):=by
 intro args ρ κ r hr
 unfold P9 at hr
 split at hr
 ·rename_i t l as
  split at hr
  ·rename_i l' hl
   obtain⟨e,hl⟩:=eN hl
   subst e
   have hl:l=l':=hl
   subst hl
   obtain⟨x,rfl,hr2⟩:=uA hr
   obtain⟨y,h1,hr3⟩:=Option.bind_eq_some_iff.1 hr2
   exact⟨_,_, .of_mv ⟨.ls _,l,_,rfl,LL hΘ hY hm hf hL (Nat.zero_le 1) (uB ps x) (by rw [hF,hG l x y h1]; rfl)⟩,OC _,hr3⟩
  ·cases hr
 ·cases hr
theorem Qa (el:Ty) (l:List el.D) (ys:List ((t:Ty)×t.D)): (x9 (zF 1 ys)).ok ((⟨el,l,none⟩::wD ys).map some):=by
 have h:=Cp ys [⟨el,l,none⟩]
 simp only [List.length_singleton,List.singleton_append] at h
 match zF 1 ys,h with
 | [],_=>exact fun x hx=>by cases hx
 | [v],h=>exact h v List.mem_cons_self
 | v::u::vs,h=>exact h
theorem Gs {P:Program} {Θ:oI} {Y:xZ} {Λ:pQ} (hΘ:eb P Θ) (hY:aw P Y) (hm:P.follows .mixedOrders=true) {f:FuncId} {fn:Func} (hf:NC P f=some fn) (hL: ∀ c,fn.body=some c→fE P Λ (eL c)) {el:Ty} {ps:List Gq} {rs:List Ty} {G:List el.D→rl.D ps→Option (List el.D×sW.D rs)} (hk:Nat.blt f 1048576=true)
  (F:List el.D→rl.D ps→Option (List el.D×sW.D rs)) (hF: ∀ l x,PA Θ Y Λ fn 1 el l (n9 ps x) (fun v g=>some (v,g))=(F l x).bind fun y=>OF el rs y (fun v g=>some (v,g))) (hG: ∀ l x y,G l x=some y→F l x=some y):aB P (uI f) (OG el ps rs G):=by
 intro args ρ κ r hr
 unfold OG at hr
 split at hr
 ·rename_i t l as
  split at hr
  ·rename_i l' hl
   obtain⟨e,hl⟩:=eN hl
   subst e
   have hl:l=l':=hl
   subst hl
   obtain⟨x,rfl,hr2⟩:=uA hr
   obtain⟨y,h1,hr3⟩:=Option.bind_eq_some_iff.1 hr2
   exact⟨_,_, .of_io ⟨.ls _,l,_,rfl,LL hΘ hY hm hf hL (Nat.le_refl 1) (uB ps x) (by rw [hF,hG l x y h1]; rfl)⟩ (Nat.le_of_ble_eq_true hk),Qa _ _ (aA rs y.2),hr3⟩
  ·cases hr
 ·cases hr
def cz (fn:Func):Code:=match fn.body with | some c=>c | none=> .skip
def cG (c:Code) (n:Nat):Code:=(nZ (eL c) n).getD .skip
theorem aI {P:Program} {Λ:pQ} {fn:Func} {cs:List Code} (h:eL (cz fn)=cs) (H:fE P Λ cs) (c:Code) (hc:fn.body=some c):fE P Λ (eL c):=by
 have :cz fn=c:=by unfold cz; rw [hc]
 rw [←this,h]
 exact H
theorem dX {P:Program} {Λ:pQ} {c:Code} {cs:List Code} (h:eL c=cs) (H:fE P Λ cs):fE P Λ (eL c):=by rw [h]; exact H
end Go.Proofs.YtkcgfceffffmoaaGreat.En
