import Derived.Test.YtkcgfceffffmoaaGreatZX7
namespace Go.Proofs.YtkcgfceffffmoaaGreat.En
open Go
section
variable {ρ:Type} {P:Program} {Θ:pc} {S:TS} {Y:zm}
theorem O1 (hS:S.ok) {gs:List bJ} {et:Option Ty} {c:Cl} (hc:c.ok S.gh) {κ:Cl→List bJ→TS→Option ρ} {r:ρ} (h:SX S gs et c κ=some r):
  ∃ c' gs' S',Db S.st (gs.map bJ.tree) (Nc et) c.av=some (Cl.av c',gs'.map bJ.tree,TS.st S')∧S'.ok∧gK S.gh S'.gh∧gK (gs.map some) (gs'.map some)∧c'.ok (gs'.map some)∧κ c' gs' S'=some r:=by
 have new: ∀ (t:Ty) (l:List t.D) (n:Nat),n=l.length→(Cl.own ⟨gs.length,[]⟩ t.width 0 n true).ok ((gs++ [(⟨t,l,none⟩:bJ)]).map some):=by
  intro t l n hn
  refine⟨by simp,fun _=>⟨rfl,rfl,fun tr htr=> ?_⟩⟩
  rw [List.map_append] at htr
  have e:=mJ (G:=gs.map some) (x:=some (⟨t,l,none⟩:bJ)) gs.length
  simp only [List.length_map,if_true] at e
  have htr':cJ (gs.map some++ [some (⟨t,l,none⟩:bJ)]) gs.length=some tr:=htr
  rw [e] at htr'
  cases htr'
  exact hn
 have grow: ∀ (x:bJ),gK (gs.map some) ((gs++ [x]).map some):=fun x=>by rw [List.map_append]; exact gK.app _ _
 unfold SX at h
 split at h
 ·refine⟨_,_,_,rfl,hS,gK.refl _,gK.refl _,?_,h⟩
  trivial
 ·rename_i t
  refine⟨_,_,S,?_,hS,gK.refl _,grow _,new t [] 0 rfl,h⟩
  simp only [Cl.av,Db,Nc,List.length_map,List.map_append,List.map_cons,List.map_nil]
  rfl
 ·rename_i p sz lo len w t'
  obtain⟨pr,pl⟩:=p
  cases pl with
  | cons a l=>cases h
  | nil=>
    simp only at h
    obtain⟨h1,h'⟩:=ar h
    clear h
    simp only [Bool.and_eq_true] at h1
    have h2:S.fz≤pr:=Nat.le_of_ble_eq_true h1.1
    have h3:t'.width=sz:=Nat.eq_of_beq_eq_true h1.2
    obtain⟨t,l,k1,k2,h⟩:=eC h'
    obtain⟨k3,h⟩:=ar h
    have k3:t.width=sz:=Nat.eq_of_beq_eq_true k3
    have fin: ∀ (len:Nat),len≤l.length→Db S.st (gs.map bJ.tree) (Nc (some t')) (.own ⟨pr,[]⟩ sz 0 len)=some (.own ⟨gs.length,[]⟩ sz 0 len,(gs++ [(⟨t,l.take len,none⟩:bJ)]).map bJ.tree,({ S with gh:=cS S.gh pr none }:TS).st):=by
     intro len hlen
     simp only [Db]
     have hrows:S.st.rows ⟨pr,[]⟩ sz=some (l.map t.row):=by rw [←k3]; exact kX k1
     rw [if_pos ⟨trivial,by show sz=t'.width; exact h3.symm,trivial,h2⟩,hrows]
     simp only [Option.bind_some,List.length_map]
     rw [if_pos hlen,zo]
     simp only [Nc,h3,List.map_append,List.map_cons,List.map_nil,bJ.tree,List.map_take,k3]
    cases w with
    | true=>
      obtain⟨e1,e2,e3⟩:=vk hc k2
      refine⟨_,_,_,?_,TS.ok_gh hS (gK.gone _ _),gK.gone _ _,grow _,by rw [←k3]; exact new t l _ rfl,h⟩
      have:=fin l.length (Nat.le_refl _)
      rw [List.take_length] at this
      simp only [Cl.av]
      rw [e2,e3]
      exact this
    | false=>
      simp only [cond_false] at h
      obtain⟨h4,h⟩:=da h
      refine⟨_,_,_,?_,TS.ok_gh hS (gK.gone _ _),gK.gone _ _,grow _,by rw [←k3]; exact new t (l.take len) _ rfl,h⟩
      have hl: (l.take len).length=len:=by simp; omega
      simp only [Cl.av]
      rw [h4.1,hl]
      exact fin len h4.2
 ·cases h
theorem RI: ∀ (ets:List (Option Ty)) (cs:List Cl) (S:TS) (gs:List bJ) (κ:List Cl→List bJ→TS→Option ρ) (r:ρ),S.ok→(∀ c∈cs,c.ok S.gh)→OM S gs ets cs κ=some r→
  ∃ cs' gs' S',tH S.st (gs.map bJ.tree) (ets.map Nc) (cs.map Cl.av)=some (cs'.map Cl.av,gs'.map bJ.tree,TS.st S')∧S'.ok∧gK S.gh S'.gh∧gK (gs.map some) (gs'.map some)∧(∀ c∈cs',c.ok (gs'.map some))∧κ cs' gs' S'=some r:=by
 intro ets
 induction ets with
 | nil=>
   intro cs S gs κ r hS hcs h
   cases cs with
   | nil=>exact⟨[],gs,S,rfl,hS,gK.refl _,gK.refl _,(fun c hc=>by cases hc),h⟩
   | cons c cs=>cases h
 | cons et ets ih=>
   intro cs S gs κ r hS hcs h
   cases cs with
   | nil=>cases h
   | cons c cs=>
     unfold OM at h
     obtain⟨c',g1,S1,h1,h2,h3,h4,h5,h⟩:=O1 hS (hcs c List.mem_cons_self) h
     obtain⟨cs',g2,S2,k1,k2,k3,k4,k5,h⟩:=ih cs S1 g1 _ r h2 (fun x hx=>Cl.ok_mono h3 (hcs x (List.mem_cons_of_mem _ hx))) h
     refine⟨c'::cs',g2,S2,?_,k2,h3.trans k3,h4.trans k4,fun x hx=> ?_,h⟩
     ·simp only [List.map_cons,tH,h1,Option.bind_some,k1,Option.map_some]
     ·rcases List.mem_cons.1 hx with rfl | hx
      ·exact Cl.ok_mono k4 h5
      ·exact k5 x hx
theorem Ts (hΘ:dM P Θ) (hS:S.ok) {gs:List bJ} {t:TypeId} {v:V} (hv:v.ok S.gh) {κ:V1→List bJ→TS→Option ρ} {r:ρ} (h:Uv Θ S gs t v κ=some r):
  ∃ v' gs' S',Ps P S.st (gs.map bJ.tree) t v.av=some (V1.av v',gs'.map bJ.tree,TS.st S')∧S'.ok∧gK S.gh S'.gh∧gK (gs.map some) (gs'.map some)∧v'.ok (gs'.map some)∧κ v' gs' S'=some r:=by
 unfold Uv at h
 split at h
 ·cases h
 ·rename_i ti hti
  have hsh:=(hΘ _ _ hti).sh
  split at h
  ·rename_i cs
   obtain⟨cs',g1,S1,h1,h2,h3,h4,h5,h⟩:=RI _ _ _ _ _ _ hS hv h
   refine⟨.agg cs',g1,S1,?_,h2,h3,h4,h5,h⟩
   simp only [V.av,V1.av,Ps,hsh]
   rw [show ti.ty.shs=ti.ty.csh.map Nc from rfl,h1]
   rfl
  ·rename_i c
   obtain⟨c',g1,S1,h1,h2,h3,h4,h5,h⟩:=O1 hS hv h
   refine⟨.cl c',g1,S1,?_,h2,h3,h4,h5,h⟩
   have e:Ps P S.st (gs.map bJ.tree) t (V.v (.cl c)).av=Db S.st (gs.map bJ.tree) ((o8 P 9 t).headD 0) c.av:=by
    cases c with
    | c x=>cases x <;> rfl
    | _=>rfl
   rw [e,hsh]
   have e2:ti.ty.shs.headD 0=Nc (ti.ty.csh.headD none):=by
    unfold Ty.shs
    cases ti.ty.csh with
    | nil=>rfl
    | cons a l=>cases a <;> rfl
   rw [e2]
   exact h1
  ·cases h
theorem Fm (hΘ:dM P Θ): ∀ (rs:List (TypeId×V)) (S:TS) (gs:List bJ) (κ:List V1→List bJ→Option ρ) (r:ρ),S.ok→(∀ x∈rs,x.2.ok S.gh)→sU Θ S gs rs κ=some r→
  ∃ vs gs',KI P S.st (gs.map bJ.tree) (rs.map fun x=>(x.1,x.2.av))=some (vs.map V1.av,gs'.map bJ.tree)∧gK (gs.map some) (gs'.map some)∧(∀ v∈vs,v.ok (gs'.map some))∧vs.length=rs.length∧κ vs gs'=some r:=by
 intro rs
 induction rs with
 | nil=>intro S gs κ r hS hrs h; exact⟨[],gs,rfl,gK.refl _,(fun v hv=>by cases hv),rfl,h⟩
 | cons x rs ih=>
   intro S gs κ r hS hrs h
   obtain⟨t,v⟩:=x
   unfold sU at h
   obtain⟨v',g1,S1,h1,h2,h3,h4,h5,h⟩:=Ts hΘ hS (hrs _ List.mem_cons_self) h
   obtain⟨vs,g2,k1,k2,k3,k4,h⟩:=ih S1 g1 _ r h2 (fun x hx=>V.ok_mono h3 (hrs x (List.mem_cons_of_mem _ hx))) h
   refine⟨v'::vs,g2,?_,h4.trans k2,fun y hy=> ?_,by simp [k4],h⟩
   ·simp only [List.map_cons,KI,h1,Option.bind_some,k1,Option.map_some]
   ·rcases List.mem_cons.1 hy with rfl | hy
    ·exact V1.ok_mono k2 h5
    ·exact k3 y hy
theorem Jx (hΘ:dM P Θ) (hS:S.ok): ∀ (rs:List ResultVar) (ts:List TypeId) (κ:List (TypeId×V)→Option ρ) (r:ρ),Df Θ S rs ts κ=some r→
  ∃ l:List (TypeId×V),rs.mapM (zk P S.st)=some (l.map fun x=>x.2.av)∧l.map (·.1)=ts∧(∀ x∈l,x.2.ok S.gh)∧κ l=some r:=by
 intro rs
 induction rs with
 | nil=>
   intro ts κ r h
   cases ts with
   | nil=>exact⟨[],rfl,rfl,(fun x hx=>by cases hx),h⟩
   | cons t ts=>cases h
 | cons a rs ih=>
   intro ts κ r h
   cases ts with
   | nil=>cases a <;> cases h
   | cons t ts=>
     cases a with
     | tmp a=>
       unfold Df at h
       obtain⟨l,h1,h2,h3,h⟩:=ih ts _ r h
       refine⟨(t,gX S.env a)::l,?_,by simp [h2],fun x hx=> ?_,h⟩
       ·simp only [List.mapM_cons,h1,zk]
        rfl
       ·rcases List.mem_cons.1 hx with rfl | hx
        ·exact Eo hS a
        ·exact h3 x hx
     | cell a t'=>
       unfold Df at h
       have hw:0 < P.cellsOf t':=by
        have h':=h
        unfold Lj at h'
        split at h'
        ·rename_i ti hti
         rw [(hΘ _ _ hti).cells]
         exact Ty.width_pos _
        ·cases h'
       obtain⟨u,g1,g2,h⟩:=Lt hΘ hS (Eo hS a) h
       obtain⟨l,h1,h2,h3,h⟩:=ih ts _ r h
       refine⟨(t,u)::l,?_,by simp [h2],fun x hx=> ?_,h⟩
       ·simp only [List.mapM_cons,h1,zk]
        rw [if_pos hw]
        have :load P S.st t' (S.st.env a)=some u.av:=g1
        rw [this]
        rfl
       ·rcases List.mem_cons.1 hx with rfl | hx
        ·exact g2
        ·exact h3 x hx
theorem Er {α β γ:Type} (f:α×β→γ): ∀ l:List (α×β),(l.map (·.1)).zip (l.map f)=l.map fun x=>(x.1,f x)
 | [] =>rfl
 | a::l=>by simp only [List.map_cons,List.zip_cons_cons,Er f l]
theorem Jy (vs:List V1): (wU vs).av=Ve (vs.map V1.av):=by
 match vs with
 | [] =>rfl
 | [v] =>rfl
 | v::u::vs=>rfl
theorem yd: ∀ (args:List V1) (n t:Nat),(gX (ln n args) (n+t)).av=(args.map V1.av).getD t .dead
 | [],n,t=>by simp [ln,gX]; rfl
 | a::l,n,0=>by simp [ln,gX]; rfl
 | a::l,n,t+1=>by
   have :Nat.beq n (n+(t+1))=false:=by
    cases h:Nat.beq n (n+(t+1)) with
    | false=>rfl
    | true=>have:=Nat.eq_of_beq_eq_true h; omega
   simp only [ln,gX,this,cond_false]
   rw [show n+(t+1)=(n+1)+t by omega,yd l (n+1) t]
   simp
theorem tR: ∀ (args:List V1) (n:Nat) (x:Nat×V),x∈ln n args→ ∃ a∈args,x.2= .v a
 | [],n,x,h=>by cases h
 | a::l,n,x,h=>by
   simp only [ln,List.mem_cons] at h
   rcases h with rfl | h
   ·exact⟨a,List.mem_cons_self,rfl⟩
   ·obtain⟨b,hb,he⟩:=tR l (n+1) x h
    exact⟨b,List.mem_cons_of_mem _ hb,he⟩
theorem UA (hΘ:dM P Θ) (hY:aw P Y) (hm:P.follows .mixedOrders=true) {Λ:o7} {f:FuncId} {fn:Func} (hf:OJ P f=some fn) (hL: ∀ c,fn.body=some c→fD P Λ (ey c)) {args:List V1} (ha: ∀ a∈args,a.ok []) {res:V} {out:List bJ}
  (h:Wd Θ Y Λ fn args (fun v g=>some (v,g))=some (res,out)):A3 P f (args.map V1.av) [] res.av (out.map bJ.tree):=by
 unfold Wd at h
 split at h
 ·cases h
 ·rename_i c hc
  have hcok:lm P c=true:=by
   unfold OJ at hf
   simp only [Option.bind_eq_some_iff] at hf
   obtain⟨fn',g1,g2⟩:=hf
   split at g2
   ·cases g2
   ·rename_i c' hc'
    split at g2
    ·cases g2
    ·rename_i hn
     simp only [Option.some.injEq] at g2
     subst g2
     rw [hc] at hc'
     simp only [Option.some.injEq] at hc'
     subst hc'
     simp only [Bool.or_eq_true,not_or,Bool.not_eq_true,Bool.not_eq_false'] at hn
     exact hn.2
  have hS0: ({ env:=ln 0 args,bx:= [],gh:= [],fz:=0,nt:=args.length+(fn.ntmps - args.length) }:TS).ok:=
   ⟨fun x hx=>by obtain⟨a,h1,h2⟩:=tR _ _ _ hx; rw [h2]; exact ha a h1,fun cs hcs=>by cases hcs⟩
  have hbeg: ({ env:=ln 0 args,bx:= [],gh:= [],fz:=0,nt:=args.length+(fn.ntmps - args.length) }:TS).st=E0 fn.ntmps (args.map V1.av) [] :=by
   unfold TS.st E0
   simp only [List.length_map,List.length_nil]
   congr 1
   funext t
   have:=yd args 0 t
   rw [Nat.zero_add] at this
   exact this
  have hW:=zw hΘ hY hm c _ _ _ hcok (hL c hc) hS0 h
  rw [hbeg] at hW
  have ca: ∀ (x:X) (S1:TS),S1.ok→(match x with | .ext _=>none | _=>Df Θ S1 fn.results.toList fn.resultTypes.toList fun rs=>sU Θ S1 [] rs fun vs gs=>some (wU vs,gs))=some (res,out)→
    (match x with | .ext _=>False | _=>zl P fn.results.toList fn.resultTypes.toList 0 S1.st=some (res.av,out.map bJ.tree)):=by
   intro x S1 hS1 h
   have main: (Df Θ S1 fn.results.toList fn.resultTypes.toList fun rs=>sU Θ S1 [] rs fun vs gs=>some (wU vs,gs))=some (res,out)→zl P fn.results.toList fn.resultTypes.toList 0 S1.st=some (res.av,out.map bJ.tree):=by
    intro h
    obtain⟨l,h1,h2,h3,h⟩:=Jx (P:=P) hΘ hS1 _ _ _ _ h
    obtain⟨vs,gs',k1,k2,k3,k4,h⟩:=Fm (P:=P) hΘ _ _ _ _ _ hS1 h3 h
    simp only [Option.some.injEq,Prod.mk.injEq] at h
    obtain⟨rfl,rfl⟩:=h
    unfold zl
    rw [h1]
    simp only [Option.bind_some,List.length_map]
    have hz: (fn.resultTypes.toList.zip (l.map fun x=>x.2.av))=l.map fun x=>(x.1,x.2.av):=by
     rw [←h2]
     exact Er _ l
    rw [if_pos (by rw [←h2]; simp),hz]
    have k1':KI P S1.st [] (l.map fun x=>(x.1,x.2.av))=some (vs.map V1.av,gs'.map bJ.tree):=k1
    simp only [List.range_zero,List.map_nil,k1',Option.map_some,Jy]
   cases x with
   | ext i=>cases h
   | nor=>exact main h
   | ret=>exact main h
  refine Lb hf hc (hW.mono (fun x S' hx=>⟨S',o4.refl,?_⟩))
  obtain⟨S1,rfl,h1,h2⟩:=hx
  have:=ca x S1 h1 h2
  cases x <;> exact this
theorem CA (a:List V1) (t:Nat): (gX (ln 0 a) t).av=(a.map V1.av).getD t .dead:=by
 have:=yd a 0 t
 rwa [Nat.zero_add] at this
theorem O2 (hΘ:dM P Θ) (hY:aw P Y) (hm:P.follows .mixedOrders=true) {Λ:o7} {f:FuncId} {fn:Func} (hf:OJ P f=some fn) (hL: ∀ c,fn.body=some c→fD P Λ (ey c)) {m:Nat} (hm1:m≤1) {el:Ty} {l:List el.D} {args:List V1} (ha: ∀ a∈args,a.ok []) {res:V} {out:List bJ}
  (h:SY Θ Y Λ fn m el l args (fun v g=>some (v,g))=some (res,out)):sq P f (.own ⟨0,[]⟩ el.width 0 l.length::args.map V1.av) [.sl el.width (l.map el.row)] m res.av (out.map bJ.tree):=by
 unfold SY at h
 split at h
 ·cases h
 ·rename_i c hc
  have hcok:lm P c=true:=by
   unfold OJ at hf
   simp only [Option.bind_eq_some_iff] at hf
   obtain⟨fn',g1,g2⟩:=hf
   split at g2
   ·cases g2
   ·rename_i c' hc'
    split at g2
    ·cases g2
    ·rename_i hn
     simp only [Option.some.injEq] at g2
     subst g2
     rw [hc] at hc'
     simp only [Option.some.injEq] at hc'
     subst hc'
     simp only [Bool.or_eq_true,not_or,Bool.not_eq_true,Bool.not_eq_false'] at hn
     exact hn.2
  have hS0: ({ env:=ln 0 (.cl (.own ⟨0,[]⟩ el.width 0 l.length true)::args),bx:= [],gh:= [some ⟨el,l,none⟩],fz:=m,nt:=(args.length+1)+(fn.ntmps - (args.length+1)) }:TS).ok:=
   ⟨fun x hx=>by
    obtain⟨a,h1,h2⟩:=tR _ _ _ hx
    rw [h2]
    rcases List.mem_cons.1 h1 with rfl | h1
    ·refine⟨Nat.zero_lt_one,fun _=>⟨rfl,rfl,fun tr htr=> ?_⟩⟩
     have htr:some (⟨el,l,none⟩:bJ)=some tr:=htr
     cases htr
     rfl
    ·exact V1.ok_mono (G:= []) ⟨Nat.zero_le _,fun r tr hr=>by cases hr⟩ (ha a h1),fun cs hcs=>by cases hcs⟩
  have hbeg: ({ env:=ln 0 (.cl (.own ⟨0,[]⟩ el.width 0 l.length true)::args),bx:= [],gh:= [some ⟨el,l,none⟩],fz:=m,nt:=(args.length+1)+(fn.ntmps - (args.length+1)) }:TS).st=Le fn.ntmps (.own ⟨0,[]⟩ el.width 0 l.length::args.map V1.av) [.sl el.width (l.map el.row)] m:=by
   unfold TS.st Le E0
   simp only [List.length_map,List.length_cons,List.length_nil]
   congr 1
   ·funext t
    exact CA _ t
   ·funext r
    show (cJ [some ⟨el,l,none⟩] r).map bJ.tree= [T.sl el.width (l.map el.row)][r]?
    unfold cJ
    rw [dk]
    cases r <;> rfl
  have hW:=zw hΘ hY hm c _ _ _ hcok (hL c hc) hS0 h
  rw [hbeg] at hW
  have fin: ∀ (S1:TS),S1.ok→ ∀ gs:List bJ,((List.range m).map fun r=>(S1.st.gh r).getD .dd)=gs.map bJ.tree→ ∀ l,(fn.results.toList.mapM (zk P S1.st))=some (l.map fun x:TypeId×V=>x.2.av)→l.map (·.1)=fn.resultTypes.toList→(∀ x∈l,x.2.ok S1.gh)→
    (sU Θ S1 gs l fun vs gs=>some (wU vs,gs))=some (res,out)→zl P fn.results.toList fn.resultTypes.toList m S1.st=some (res.av,out.map bJ.tree):=by
   intro S1 hS1 gs hgs l h1 h2 h3 h
   obtain⟨vs,gs',k1,k2,k3,k4,h⟩:=Fm (P:=P) hΘ _ _ _ _ _ hS1 h3 h
   simp only [Option.some.injEq,Prod.mk.injEq] at h
   obtain⟨rfl,rfl⟩:=h
   unfold zl
   rw [h1]
   simp only [Option.bind_some,List.length_map]
   have hz: (fn.resultTypes.toList.zip (l.map fun x=>x.2.av))=l.map fun x=>(x.1,x.2.av):=by
    rw [←h2]
    exact Er _ l
   rw [if_pos (by rw [←h2]; simp),hz,hgs,k1]
   simp only [Option.map_some,Jy]
  have main: ∀ (S1:TS),S1.ok→(Df Θ S1 fn.results.toList fn.resultTypes.toList fun rs=>bif Nat.beq m 0 then sU Θ S1 [] rs fun vs gs=>some (wU vs,gs) else match cJ S1.gh 0 with
    | some ⟨t,l',none⟩=>sU Θ S1 [⟨t,l',none⟩] rs fun vs gs=>some (wU vs,gs)
    | _=>none)=some (res,out)→zl P fn.results.toList fn.resultTypes.toList m S1.st=some (res.av,out.map bJ.tree):=by
   intro S1 hS1 h0
   obtain⟨l,h1,h2,h3,h⟩:=Jx (P:=P) hΘ hS1 _ _ _ _ h0
   clear h0
   cases hm0:Nat.beq m 0 with
   | true=>
     rw [hm0] at h
     have e:m=0:=Nat.eq_of_beq_eq_true hm0
     exact fin S1 hS1 [] (by rw [e]; rfl) l h1 h2 h3 h
   | false=>
     rw [hm0] at h
     simp only [cond_false] at h
     have e:m=1:=by
      have :m≠0:=fun e=>by rw [e] at hm0; cases hm0
      omega
     split at h
     ·rename_i t l' hg
      exact fin S1 hS1 [⟨t,l',none⟩] (by
       rw [e]
       show [(S1.st.gh 0).getD .dd] =_
       have :S1.st.gh 0=some (bJ.tree ⟨t,l',none⟩):=by
        show (cJ S1.gh 0).map bJ.tree=_
        rw [hg]
        rfl
       rw [this]
       rfl) l h1 h2 h3 h
     ·cases h
  refine Cx hf hc (by simpa using hm1) (hW.mono (fun x S' hx=>⟨S',o4.refl,?_⟩))
  obtain⟨S1,rfl,h1,h2⟩:=hx
  cases x with
  | ext i=>cases h2
  | nor=>exact main S1 h1 h2
  | ret=>exact main S1 h1 h2
theorem NN (P:Program) (S:TS): ∀ (n r:Nat) (gs:List bJ),wD S r n=some gs→((List.range' r n).map fun r=>(S.st.gh r).getD .dd)=gs.map bJ.tree:=by
 intro n
 induction n with
 | zero=>
   intro r gs h
   simp only [wD,Option.some.injEq] at h
   subst h
   rfl
 | succ n ih=>
   intro r gs h
   simp only [wD] at h
   split at h
   ·rename_i t l hg
    split at h
    ·rename_i ts hts
     simp only [Option.some.injEq] at h
     subst h
     rw [List.range'_succ,List.map_cons,List.map_cons,ih _ _ hts]
     congr 1
     show ((cJ S.gh r).map bJ.tree).getD .dd=_
     rw [hg]
     rfl
    ·cases h
   ·cases h
theorem zx: ∀ (cs:List C) (n:Nat) (G:List (Option bJ)),(∀ k t,(mD cs)[k]? =some t→cJ G (n+k)=some t)→ ∀ c∈uV cs n,c.ok G
 | [],n,G,h,c,hc=>by cases hc
 | .sc v::r,n,G,h,c,hc=>by
   simp only [uV,List.mem_cons] at hc
   rcases hc with rfl | hc
   ·trivial
   ·exact zx r n G h c hc
 | .ls t l::r,n,G,h,c,hc=>by
   simp only [uV,List.mem_cons] at hc
   have h0:=h 0 ⟨t,l,none⟩ rfl
   rw [Nat.add_zero] at h0
   rcases hc with rfl | hc
   ·refine⟨tQ h0,fun _=>⟨rfl,rfl,fun tr htr=> ?_⟩⟩
    have e:some (⟨t,l,none⟩:bJ)=some tr:=h0.symm.trans htr
    cases e
    rfl
   ·exact zx r (n+1) G (fun k t' hk=>by
     have:=h (k+1) t' (by simpa [mD] using hk)
     rwa [show n+(k+1)=n+1+k by omega] at this) c hc
theorem Tt (hΘ:dM P Θ) (hY:aw P Y) (hm:P.follows .mixedOrders=true) {Λ:o7} {f:FuncId} {fn:Func} (hf:OJ P f=some fn) (hL: ∀ c,fn.body=some c→fD P Λ (ey c)) {t:Ty} {x:t.D} {args:List V1} (ha: ∀ a∈args,a.ok []) {res:V} {out:List bJ}
  (h:Uy Θ Y Λ fn t x args (fun v g=>some (v,g))=some (res,out)):sq P f ((Fa t x 0).av::args.map V1.av) ((mD (t.flat x)).map bJ.tree) (bif true then (mD (t.flat x)).length else 0) res.av (out.map bJ.tree):=by
 unfold Uy at h
 split at h
 ·cases h
 ·rename_i c hc
  have hcok:lm P c=true:=by
   unfold OJ at hf
   simp only [Option.bind_eq_some_iff] at hf
   obtain⟨fn',g1,g2⟩:=hf
   split at g2
   ·cases g2
   ·rename_i c' hc'
    split at g2
    ·cases g2
    ·rename_i hn
     simp only [Option.some.injEq] at g2
     subst g2
     rw [hc] at hc'
     simp only [Option.some.injEq] at hc'
     subst hc'
     simp only [Bool.or_eq_true,not_or,Bool.not_eq_true,Bool.not_eq_false'] at hn
     exact hn.2
  generalize hgs:mD (t.flat x)=gs0 at*
  have hgh0: ∀ k t',gs0[k]? =some t'→cJ (gs0.map some) (0+k)=some t':=by
   intro k t' hk
   unfold cJ
   rw [dk,Nat.zero_add,List.getElem?_map,hk]
   rfl
  have h1ok: (Fa t x 0).ok (gs0.map some):=by
   unfold Fa
   cases t.ag with
   | true=>
     intro c hc
     exact zx (t.flat x) 0 _ (by rw [hgs]; exact hgh0) c hc
   | false=>
     simp only [cond_false]
     split
     ·rename_i c hc
      exact zx (t.flat x) 0 _ (by rw [hgs]; exact hgh0) c (by rw [hc]; exact List.mem_singleton.2 rfl)
     ·trivial
  have hS0: ({ env:=ln 0 (Fa t x 0::args),bx:= [],gh:=gs0.map some,fz:=gs0.length,nt:=(args.length+1)+(fn.ntmps - (args.length+1)) }:TS).ok:=
   ⟨fun x hx=>by
    obtain⟨a,h1,h2⟩:=tR _ _ _ hx
    rw [h2]
    rcases List.mem_cons.1 h1 with rfl | h1
    ·exact h1ok
    ·exact V1.ok_mono (G:= []) ⟨Nat.zero_le _,fun r tr hr=>by cases hr⟩ (ha a h1),fun cs hcs=>by cases hcs⟩
  have hbeg: ({ env:=ln 0 (Fa t x 0::args),bx:= [],gh:=gs0.map some,fz:=gs0.length,nt:=(args.length+1)+(fn.ntmps - (args.length+1)) }:TS).st=Le fn.ntmps ((Fa t x 0).av::args.map V1.av) (gs0.map bJ.tree) gs0.length:=by
   unfold TS.st Le E0
   simp only [List.length_map,List.length_cons]
   congr 1
   ·funext t
    exact CA _ t
   ·funext r
    show (cJ (gs0.map some) r).map bJ.tree=(gs0.map bJ.tree)[r]?
    unfold cJ
    rw [dk,List.getElem?_map,List.getElem?_map]
    cases gs0[r]? <;> rfl
  have hW:=zw hΘ hY hm c _ _ _ hcok (hL c hc) hS0 h
  rw [hbeg] at hW
  have main: ∀ (S1:TS),S1.ok→(Df Θ S1 fn.results.toList fn.resultTypes.toList fun rs=>match wD S1 0 gs0.length with
    | some gs=>sU Θ S1 gs rs fun vs gs'=>some (wU vs,gs')
    | none=>none)=some (res,out)→zl P fn.results.toList fn.resultTypes.toList gs0.length S1.st=some (res.av,out.map bJ.tree):=by
   intro S1 hS1 h0
   obtain⟨l,h1,h2,h3,h⟩:=Jx (P:=P) hΘ hS1 _ _ _ _ h0
   clear h0
   split at h
   ·rename_i gs hgs'
    have hgs2:=NN P S1 _ _ _ hgs'
    rw [←List.range_eq_range'] at hgs2
    obtain⟨vs,gs',k1,k2,k3,k4,h⟩:=Fm (P:=P) hΘ _ _ _ _ _ hS1 h3 h
    simp only [Option.some.injEq,Prod.mk.injEq] at h
    obtain⟨rfl,rfl⟩:=h
    unfold zl
    rw [h1]
    simp only [Option.bind_some,List.length_map]
    have hz: (fn.resultTypes.toList.zip (l.map fun x=>x.2.av))=l.map fun x=>(x.1,x.2.av):=by
     rw [←h2]
     exact Er _ l
    rw [if_pos (by rw [←h2]; simp),hz,hgs2,k1]
    simp only [Option.map_some,Jy]
   ·cases h
  refine Cx hf hc (by simp) (hW.mono (fun x S' hx=>⟨S',o4.refl,?_⟩))
  obtain⟨S1,rfl,h1,h2⟩:=hx
  cases x with
  | ext i=>cases h2
  | nor=>exact main S1 h1 h2
  | ret=>exact main S1 h1 h2
end
end Go.Proofs.YtkcgfceffffmoaaGreat.En
namespace Go.Proofs.YtkcgfceffffmoaaGreat.En
open Go
def Dg:List Nat→Nat→Nat→Option Nat
 | [],_,_=>none
 | a::l,x,n=>bif Nat.beq a x then some n else Dg l x (n+1)
def ye (bs ls:List Nat):Cl→Cl
 | .own p sz lo len w=>match Dg ls p.r 0 with | some k=> .own ⟨k,p.l⟩ sz lo len w | none=> .dead
 | .ptrT p sz i j=>match Dg ls p.r 0 with | some k=> .ptrT ⟨k,p.l⟩ sz i j | none=> .dead
 | .ptrB n j=>match Dg bs n 0 with | some k=> .ptrB k j | none=> .dead
 | c=>c
def RJ (bs ls:List Nat):V1→V1
 | .cl c=> .cl (ye bs ls c)
 | .agg cs=> .agg (cs.map (ye bs ls))
 | .fn f cs=> .fn f (cs.map (ye bs ls))
def RK (bs ls:List Nat):V→V
 | .v x=> .v (RJ bs ls x)
 | .tup _=>V.dead
def O3:List Nat→List Nat→List Nat
 | [],acc=>acc
 | a::l,acc=>match Dg acc a 0 with | some _=>O3 l acc | none=>O3 l (acc++ [a])
def Fn:List Nat→Bool
 | [] =>true
 | a::l=>(match Dg l a 0 with | some _=>false | none=>true)&&Fn l
def We:Cl→List Nat | .ptrB n _=> [n] | _=> []
def Vn:Cl→List Nat | .own p _ _ _ _=> [p.r] | .ptrT p _ _ _=> [p.r] | _=> []
def V1.all:V1→List Cl | .cl c=> [c] | .agg cs=>cs | .fn _ cs=>cs
def V.all:V→List Cl | .v x=>x.all | .tup _=> []
def O4 (S:TS) (keep:List Nat):List Nat:=O3 (keep.flatMap fun t=>(gX S.env t).all.flatMap We) []
def T8 (S:TS) (keep bs:List Nat):List Nat:=O3 (List.range S.fz++(keep.flatMap fun t=>(gX S.env t).all.flatMap Vn)++bs.flatMap fun b=>((o6 S.bx b).getD []).flatMap Vn) []
def gY (S:TS) (keep bs ls:List Nat):TS where
 env:=keep.map fun t=>(t,RK bs ls (gX S.env t))
 bx:=bs.map fun b=>((o6 S.bx b).getD []).map (ye bs ls)
 gh:=ls.map fun r=>cJ S.gh r
 fz:=S.fz
 nt:=S.nt
def Jz (S:TS) (bs ls:List Nat):Bool:=Fn bs&&Fn ls&&bs.all (fun b=>Nat.blt b S.bx.length)&&Vg (ls.take S.fz) (List.range S.fz)&&ls.all (fun r=>Nat.blt r S.gh.length)
def PV (G:List (Option bJ)):Cl→Cl
 | .own p sz lo len true=> .own p sz lo (match o6 G p.r with | some (some tr)=>tr.l.length | _=>len) true
 | c=>c
def RL (G:List (Option bJ)):V1→V1
 | .cl c=> .cl (PV G c)
 | .agg cs=> .agg (cs.map (PV G))
 | .fn f cs=> .fn f (cs.map (PV G))
def Vo (G:List (Option bJ)):V→V
 | .v x=> .v (RL G x)
 | .tup l=> .tup (l.map (RL G))
def UB (S:TS):TS:= { S with env:=S.env.map (fun x=>(x.1,Vo S.gh x.2)),bx:=S.bx.map (fun cs=>cs.map (PV S.gh)) }
def Bl {ρ:Type} (keep:List Nat) (S:TS) (κ:TS→Option ρ):Option ρ:=bif Jz S (O4 S keep) (T8 S keep (O4 S keep)) then κ (UB (gY S keep (O4 S keep) (T8 S keep (O4 S keep)))) else none
theorem Bm: ∀ {l:List Nat} {x n k:Nat},Dg l x n=some k→n≤k∧l[k - n]? =some x
 | [],x,n,k,h=>by cases h
 | a::l,x,n,k,h=>by
   simp only [Dg] at h
   cases hb:Nat.beq a x with
   | true=>
     rw [hb] at h
     simp only [cond_true,Option.some.injEq] at h
     subst h
     exact⟨Nat.le_refl _,by simp [Nat.eq_of_beq_eq_true hb]⟩
   | false=>
     rw [hb] at h
     obtain⟨h1,h2⟩:=Bm (l:=l) h
     refine⟨by omega,?_⟩
     rw [show k - n=(k - (n+1))+1 by omega,List.getElem?_cons_succ]
     exact h2
theorem Io: ∀ {l:List Nat} {x n:Nat},Dg l x n=none→x∉l
 | [],x,n,_=>by simp
 | a::l,x,n,h=>by
   simp only [Dg] at h
   cases hb:Nat.beq a x with
   | true=>rw [hb] at h; cases h
   | false=>
     rw [hb] at h
     have:=Io (l:=l) h
     intro hm
     rcases List.mem_cons.1 hm with rfl | hm
     ·rw [Nat.beq_refl] at hb; cases hb
     ·exact this hm
theorem yf: ∀ {l:List Nat},Fn l=true→ ∀ (i j x:Nat),l[i]? =some x→l[j]? =some x→i=j
 | [],_,i,j,x,hi,_=>by simp at hi
 | a::l,h,i,j,x,hi,hj=>by
   simp only [Fn,Bool.and_eq_true] at h
   have hna:a∉l:=by
    have h1:=h.1
    split at h1
    ·cases h1
    ·rename_i hp; exact Io hp
   cases i with
   | zero=>
     simp only [List.getElem?_cons_zero,Option.some.injEq] at hi
     subst hi
     cases j with
     | zero=>rfl
     | succ j=>simp only [List.getElem?_cons_succ] at hj; exact absurd (List.mem_of_getElem? hj) hna
   | succ i=>
     simp only [List.getElem?_cons_succ] at hi
     cases j with
     | zero=>
       simp only [List.getElem?_cons_zero,Option.some.injEq] at hj
       subst hj
       exact absurd (List.mem_of_getElem? hi) hna
     | succ j=>
       simp only [List.getElem?_cons_succ] at hj
       rw [yf h.2 i j x hi hj]
def Bt.ren (bt:Bt) (bs ls:List Nat):Bt where
 β:=fun p=>bt.β ⟨ls.getD p.r 0,p.l⟩
 κ:=fun p=>bt.κ ⟨ls.getD p.r 0,p.l⟩
 bb:=fun n=>bt.bb (bs.getD n 0)
 nb:=bs.length
 ng:=ls.length
 A:=bt.A
theorem JA {w:World} {bt:Bt} {bs ls:List Nat} {c:Cl} {u:Value} (h:VR w bt c.av u):VR w (bt.ren bs ls) (ye bs ls c).av u:=by
 have lt: ∀ {l:List Nat} {x k:Nat},Dg l x 0=some k→k < l.length∧l.getD k 0=x:=by
  intro l x k hk
  obtain⟨_,h2⟩:=Bm hk
  rw [Nat.sub_zero] at h2
  exact⟨(List.getElem?_eq_some_iff.1 h2).1,by simp [List.getD_eq_getElem?_getD,h2]⟩
 cases c with
 | c x=>
   cases x with
   | sc v=>cases h with | sc h=>exact .sc h
   | ls t l=>cases h with | ro h=>exact .ro h
 | em=>cases h with | em a=>exact .em a
 | own p sz lo len wh=>
   simp only [ye]
   split
   ·rename_i k hk
    obtain⟨h1,h2⟩:=lt hk
    have hp: (⟨ls.getD k 0,p.l⟩:bQ)=p:=by rw [h2]
    have e1: (bt.ren bs ls).κ ⟨k,p.l⟩=bt.κ p:=by
     have e: (bt.ren bs ls).κ ⟨k,p.l⟩=bt.κ (bQ.mk (ls.getD k 0) p.l):=rfl
     rw [e,hp]
    have e2: (bt.ren bs ls).β ⟨k,p.l⟩=bt.β p:=by
     have e: (bt.ren bs ls).β ⟨k,p.l⟩=bt.β (bQ.mk (ls.getD k 0) p.l):=rfl
     rw [e,hp]
    cases h with
    | own hp' hc hkk ha=>exact .own h1 hc (by rw [e1]; exact hkk) (by rw [e2]; exact ha)
   ·exact .dead _
 | pro cs=>cases h with | pro cs hs hA hr ht=>exact .pro cs hs hA hr ht
 | ptrB n j=>
   simp only [ye]
   split
   ·rename_i k hk
    obtain⟨h1,h2⟩:=lt hk
    cases h with
    | ptrB j hn=>
      have :bt.bb n=(bt.ren bs ls).bb k:=by show bt.bb n=bt.bb (bs.getD k 0); rw [h2]
      rw [this]
      exact .ptrB j h1
   ·exact .dead _
 | ptrT p sz i j=>
   simp only [ye]
   split
   ·rename_i k hk
    obtain⟨h1,h2⟩:=lt hk
    have hp: (⟨ls.getD k 0,p.l⟩:bQ)=p:=by rw [h2]
    cases h with
    | ptrT sz i j hp' hkk=>
      have e1:bt.β p=(bt.ren bs ls).β ⟨k,p.l⟩:=by show bt.β p=bt.β ⟨ls.getD k 0,p.l⟩; rw [hp]
      rw [e1]
      exact .ptrT sz i j h1 (by show _ < bt.κ ⟨ls.getD k 0,p.l⟩; rw [hp]; exact hkk)
   ·exact .dead _
 | dead=>exact .dead _
theorem RM {w:World} {bt:Bt} {bs ls:List Nat} {v:V1} {u:Value} (h:VR w bt v.av u):VR w (bt.ren bs ls) (RJ bs ls v).av u:=by
 have cells: ∀ (cs:List Cl) (us:List Value),us.length=cs.length→(∀ (k:Nat) (c:AV) (u:Value),(cs.map Cl.av)[k]? =some c→us[k]? =some u→VR w bt c u)→ ∀ (k:Nat) (c:AV) (u:Value),((cs.map (ye bs ls)).map Cl.av)[k]? =some c→us[k]? =some u→VR w (bt.ren bs ls) c u:=by
  intro cs us _ hr k c u hk hu
  rw [List.getElem?_map,List.getElem?_map] at hk
  simp only [Option.map_eq_some_iff] at hk
  obtain⟨c1,⟨c0,hc0,rfl⟩,rfl⟩:=hk
  exact JA (hr k c0.av u (by rw [List.getElem?_map,hc0]; rfl) hu)
 cases v with
 | cl c=>exact JA h
 | agg cs=>
   simp only [V1.av] at h
   cases h with
   | agg hl ho hr=>
     exact .agg (by simpa using hl) ho (cells cs _ (by simpa using hl) hr)
 | fn f cs=>
   simp only [V1.av] at h
   cases h with
   | fn f hl hr=>
     exact .fn f (by simpa using hl) (cells cs _ (by simpa using hl) hr)
theorem Tu {w:World} {bt:Bt} {bs ls:List Nat} {v:V} {u:Value} (h:VR w bt v.av u):VR w (bt.ren bs ls) (RK bs ls v).av u:=by
 cases v with
 | v x=>exact RM h
 | tup l=>exact .dead _
theorem Ip (S:TS) (f:V→V): ∀ (keep:List Nat) (t:Nat),gX (keep.map fun t=>(t,f (gX S.env t))) t=V.dead∨gX (keep.map fun t=>(t,f (gX S.env t))) t=f (gX S.env t)
 | [],t=> .inl rfl
 | u::l,t=>by
   simp only [List.map_cons,gX]
   cases hb:Nat.beq u t with
   | true=>rw [Nat.eq_of_beq_eq_true hb]; exact .inr rfl
   | false=>exact Ip S f l t
theorem wI (S:TS) (keep bs ls:List Nat) (r:Nat):cJ (gY S keep bs ls).gh r=(ls[r]?).bind fun q=>cJ S.gh q:=by
 show (o6 (ls.map fun r=>cJ S.gh r) r).getD none=_
 rw [dk,List.getElem?_map]
 cases ls[r]? <;> rfl
theorem LJ {S:TS} {keep bs ls:List Nat} (h:Jz S bs ls=true):o4 S.st (gY S keep bs ls).st:=by
 unfold Jz at h
 simp only [Bool.and_eq_true] at h
 obtain⟨⟨⟨⟨hnb,hnl⟩,hbs⟩,hfz⟩,hlt⟩:=h
 have hfz:=Ju hfz
 intro w0 W btI SI bt a w hl
 have inv:=hl.inv
 have hls: ∀ (k:Nat),k < S.fz→ls[k]? =some k:=by
  intro k hk
  have : (ls.take S.fz)[k]? =(List.range S.fz)[k]? :=by rw [hfz]
  rw [List.getElem?_take,if_pos hk,List.getElem?_range hk] at this
  exact this
 have look: ∀ p s rs,(gY S keep bs ls).st.look p= .sl s rs→ ∃ q,ls[p.r]? =some q∧S.st.look ⟨q,p.l⟩= .sl s rs∧ls.getD p.r 0=q:=by
  intro p s rs hp
  unfold St.look at hp
  have e: (gY S keep bs ls).st.gh p.r=((ls[p.r]?).bind fun q=>cJ S.gh q).map bJ.tree:=by
   show (cJ _ _).map bJ.tree=_
   rw [wI]
  rw [e] at hp
  cases hq:ls[p.r]? with
  | none=>rw [hq] at hp; cases hp
  | some q=>
    refine⟨q,rfl,?_,by simp [List.getD_eq_getElem?_getD,hq]⟩
    rw [hq] at hp
    exact hp
 have box: ∀ n cells,(gY S keep bs ls).st.bx n=some cells→ ∃ b cs,bs[n]? =some b∧S.bx[b]? =some cs∧cells=(cs.map (ye bs ls)).map Cl.av∧bs.getD n 0=b:=by
  intro n cells hn
  have hn': (o6 (bs.map fun b=>((o6 S.bx b).getD []).map (ye bs ls)) n).map (fun cs=>cs.map Cl.av)=some cells:=hn
  rw [dk,List.getElem?_map] at hn'
  simp only [Option.map_eq_some_iff] at hn'
  obtain⟨x,⟨b,hb,rfl⟩,rfl⟩:=hn'
  have hlt':b < S.bx.length:=Nat.le_of_ble_eq_true (List.all_eq_true.1 hbs b (List.mem_of_getElem? hb))
  refine⟨b,S.bx[b],hb,List.getElem?_eq_getElem hlt',?_,by simp [List.getD_eq_getElem?_getD,hb]⟩
  rw [dk,List.getElem?_eq_getElem hlt']
  rfl
 have bxS: ∀ {b:Nat} {cs:List Cl},S.bx[b]? =some cs→S.st.bx b=some (cs.map Cl.av):=by
  intro b cs hb
  show (o6 S.bx b).map _=_
  rw [dk,hb]
  rfl
 refine⟨bt.ren bs ls,?_⟩
 refine⟨{ os:=inv.os,tape:=inv.tape,output:=inv.output,size:=inv.size,keep:=inv.keep
          nb:=by show bs.length=_; simp [TS.st,gY]
          ng:=by show ls.length=_; simp [TS.st,gY]
          bx:=fun n cells hn=> ?_
          gh:=fun r t hr=> ?_
          tr:=fun p sz rows hp=> ?_
          inj:=fun p q s rs s' rs' hp hq hk hk' he=> ?_
          bbinj:=fun n m cs cs' hn hm he=> ?_
          bbtr:=fun n cs p s rs hn hp hk=> ?_
          alt:=inv.alt
          atr:=fun p s rs hp hk=> ?_
          abb:=fun n cs hn=> ?_ },⟨hl.er.1,fun t=> ?_⟩,hl.defers,hl.fz,?_,fun p hp=> ?_,fun r hr hn=> ?_⟩
 ·obtain⟨b,cs,h1,h2,rfl,h4⟩:=box n cells hn
  obtain⟨g1,g2,arr,e,g3,g4,g5⟩:=inv.bx b _ (bxS h2)
  refine⟨by show n < _; have:=(List.getElem?_eq_some_iff.1 h1).1; simpa [TS.st,gY] using this,by show _≤bt.bb (bs.getD n 0); rw [h4]; exact g2,arr,e,by show w.heap[bt.bb (bs.getD n 0)]? =_; rw [h4]; exact g3,by simpa using g4,fun j v hj=> ?_⟩
  rw [List.getElem?_map,List.getElem?_map] at hj
  simp only [Option.map_eq_some_iff] at hj
  obtain⟨c1,⟨c0,hc0,rfl⟩,rfl⟩:=hj
  obtain⟨c,k1,k2,k3⟩:=g5 j c0.av (by rw [List.getElem?_map,hc0]; rfl)
  exact⟨c,k1,JA k2,k3⟩
 ·have hr': (cJ (gY S keep bs ls).gh r).map bJ.tree=some t:=hr
  rw [wI] at hr'
  show r < _
  cases hq:ls[r]? with
  | none=>rw [hq] at hr'; cases hr'
  | some q=>
    have:=(List.getElem?_eq_some_iff.1 hq).1
    simpa [TS.st,gY] using this
 ·obtain⟨q,h1,h2,h3⟩:=look p sz rows hp
  obtain⟨g1,g2⟩:=inv.tr _ _ _ h2
  have eκ: (bt.ren bs ls).κ p=bt.κ ⟨q,p.l⟩:=by show bt.κ ⟨ls.getD p.r 0,p.l⟩=_; rw [h3]
  have eβ: (bt.ren bs ls).β p=bt.β ⟨q,p.l⟩:=by show bt.β ⟨ls.getD p.r 0,p.l⟩=_; rw [h3]
  rw [eκ,eβ]
  refine⟨g1,fun hk=>⟨(g2 hk).1,?_⟩⟩
  obtain⟨_,cs,e,k1,k2,k3,k4⟩:=g2 hk
  refine⟨cs,e,by rw [eβ]; exact k1,by rw [eκ]; exact k2,k3,fun i r hi=> ?_⟩
  obtain⟨m1,m2⟩:=k4 i r hi
  refine⟨m1,fun j x hj=> ?_⟩
  obtain⟨c,n1,n2⟩:=m2 j x hj
  refine⟨c,n1,?_⟩
  have f1: (bt.ren bs ls).κ (p.sub i j)=bt.κ (bQ.sub ⟨q,p.l⟩ i j):=by show bt.κ ⟨ls.getD p.r 0,p.l++ [(i,j)]⟩=bt.κ ⟨q,p.l++ [(i,j)]⟩; rw [h3]
  have f2: (bt.ren bs ls).β (p.sub i j)=bt.β (bQ.sub ⟨q,p.l⟩ i j):=by show bt.β ⟨ls.getD p.r 0,p.l++ [(i,j)]⟩=bt.β ⟨q,p.l++ [(i,j)]⟩; rw [h3]
  cases n2 with
  | sc h=>exact .sc h
  | dd u=>exact .dd _
  | sl q1 q2 q3=>exact .sl q1 (by rw [f1]; exact q2) (by rw [f2]; exact q3)
 ·obtain⟨p',h1,h2,h3⟩:=look p s rs hp
  obtain⟨q',g1,g2,g3⟩:=look q s' rs' hq
  have:=inv.inj ⟨p',p.l⟩ ⟨q',q.l⟩ _ _ _ _ h2 g2 (by rw [←h3]; exact hk) (by rw [←g3]; exact hk') (by rw [←h3,←g3]; exact he)
  simp only [bQ.mk.injEq] at this
  obtain⟨e1,e2⟩:=this
  subst e1
  have e3:=yf hnl _ _ _ h1 g1
  cases p; cases q
  simp only at e3 e2
  rw [e3,e2]
 ·obtain⟨b,c,h1,h2,_,h4⟩:=box n cs hn
  obtain⟨b',c',g1,g2,_,g4⟩:=box m cs' hm
  have:=inv.bbinj b b' _ _ (bxS h2) (bxS g2) (by
   have he':bt.bb (bs.getD n 0)=bt.bb (bs.getD m 0):=he
   rw [h4,g4] at he'
   exact he')
  subst this
  exact yf hnb _ _ _ h1 g1
 ·obtain⟨b,c,h1,h2,_,h4⟩:=box n cs hn
  obtain⟨q,g1,g2,g3⟩:=look p s rs hp
  have hk':0 < bt.κ ⟨ls.getD p.r 0,p.l⟩:=hk
  rw [g3] at hk'
  show bt.bb (bs.getD n 0)≠bt.β ⟨ls.getD p.r 0,p.l⟩
  rw [h4,g3]
  exact inv.bbtr _ _ _ _ _ (bxS h2) g2 hk'
 ·obtain⟨q,g1,g2,g3⟩:=look p s rs hp
  have hk':0 < bt.κ ⟨ls.getD p.r 0,p.l⟩:=hk
  rw [g3] at hk'
  show ¬ bt.A (bt.β ⟨ls.getD p.r 0,p.l⟩)
  rw [g3]
  exact inv.atr _ _ _ g2 hk'
 ·obtain⟨b,c,h1,h2,_,h4⟩:=box n cs hn
  show ¬ bt.A (bt.bb (bs.getD n 0))
  rw [h4]
  exact inv.abb _ _ (bxS h2)
 ·show VR w _ (gX (gY S keep bs ls).env t).av _
  rcases Ip S (RK bs ls) keep t with h1 | h1
  ·have :gX (gY S keep bs ls).env t=V.dead:=h1
   rw [this]
   exact .dead _
  ·have :gX (gY S keep bs ls).env t=RK bs ls (gX S.env t):=h1
   rw [this]
   exact Tu (hl.er.2 t)
 ·show S.fz≤(gY S keep bs ls).gh.length
  rcases Nat.eq_zero_or_pos S.fz with h0 | h0
  ·omega
  ·have:=(List.getElem?_eq_some_iff.1 (hls (S.fz - 1) (by omega))).1
   simp [gY]
   omega
 ·have hp':p.r < S.fz:=by have:=hl.fz; have e:S.st.fz=S.fz:=rfl; omega
  have h3:ls.getD p.r 0=p.r:=by simp [List.getD_eq_getElem?_getD,hls p.r hp']
  have:=hl.keep p hp
  show bt.β ⟨ls.getD p.r 0,p.l⟩=_∧bt.κ ⟨ls.getD p.r 0,p.l⟩=_
  rw [h3]
  exact this
 ·have hr':r < S.fz:=by have:=hl.fz; have e:S.st.fz=S.fz:=rfl; omega
  refine hl.gone r hr ?_
  have hn': (cJ (gY S keep bs ls).gh r).map bJ.tree=none:=hn
  rw [wI,hls r hr'] at hn'
  exact hn'
theorem Es {S:TS} {bs ls:List Nat} {keep:List Nat} {c:Cl} (h:c.ok S.gh): (ye bs ls c).ok (gY S keep bs ls).gh:=by
 have lt: ∀ {x k:Nat},Dg ls x 0=some k→k < (gY S keep bs ls).gh.length∧ls[k]? =some x:=by
  intro x k hk
  obtain⟨_,h2⟩:=Bm hk
  rw [Nat.sub_zero] at h2
  exact⟨by have:=(List.getElem?_eq_some_iff.1 h2).1; simpa [gY] using this,h2⟩
 cases c with
 | own p sz lo len w=>
   simp only [ye]
   split
   ·rename_i k hk
    obtain⟨h1,h2⟩:=lt hk
    refine⟨h1,fun hw=> ?_⟩
    obtain⟨a,b,c⟩:=h.2 hw
    refine⟨a,b,fun tr htr=>c tr ?_⟩
    rw [wI,h2] at htr
    exact htr
   ·trivial
 | ptrT p sz i j=>
   simp only [ye]
   split
   ·rename_i k hk; exact (lt hk).1
   ·trivial
 | ptrB n j=>simp only [ye]; split <;> trivial
 | _=>trivial
theorem Tv {S:TS} {bs ls:List Nat} {keep:List Nat} {v:V} (h:v.ok S.gh): (RK bs ls v).ok (gY S keep bs ls).gh:=by
 have one: ∀ {v:V1},v.ok S.gh→(RJ bs ls v).ok (gY S keep bs ls).gh:=by
  intro v h
  cases v with
  | cl c=>exact Es h
  | agg cs=>intro c hc; obtain⟨x,hx,rfl⟩:=List.mem_map.1 hc; exact Es (h x hx)
  | fn f cs=>intro c hc; obtain⟨x,hx,rfl⟩:=List.mem_map.1 hc; exact Es (h x hx)
 cases v with
 | v x=>exact one h
 | tup l=>trivial
theorem Iq {S:TS} (hS:S.ok) (keep bs ls:List Nat): (gY S keep bs ls).ok:=by
 refine⟨fun x hx=> ?_,fun cs hcs c hc=> ?_⟩
 ·obtain⟨t,_,rfl⟩:=List.mem_map.1 hx
  exact Tv (Eo hS t)
 ·obtain⟨b,_,rfl⟩:=List.mem_map.1 hcs
  obtain⟨x,hx,rfl⟩:=List.mem_map.1 hc
  cases hb:o6 S.bx b with
  | none=>rw [hb] at hx; cases hx
  | some cs=>
    rw [hb] at hx
    rw [dk] at hb
    exact Es (hS.bx cs (List.mem_of_getElem? hb) x hx)
theorem Et {G:List (Option bJ)} {c:Cl} (h:c.ok G):PV G c=c:=by
 unfold PV
 split
 ·rename_i p sz lo len
  split
  ·rename_i tr htr
   rw [(h.2 rfl).2.2 tr (by unfold cJ; rw [htr]; rfl)]
  ·rfl
 ·rfl
theorem LK {G:List (Option bJ)} {v:V1} (h:v.ok G):RL G v=v:=by
 cases v with
 | cl c=>exact congrArg V1.cl (Et h)
 | agg cs=>exact congrArg V1.agg ((List.map_congr_left fun c hc=>Et (h c hc)).trans (List.map_id' cs))
 | fn f cs=>exact congrArg (V1.fn f) ((List.map_congr_left fun c hc=>Et (h c hc)).trans (List.map_id' cs))
theorem Tw {G:List (Option bJ)} {v:V} (h:v.ok G):Vo G v=v:=by
 cases v with
 | v x=>exact congrArg V.v (LK h)
 | tup l=>exact congrArg V.tup ((List.map_congr_left fun c hc=>LK (h c hc)).trans (List.map_id' l))
theorem Tx {S:TS} (h:S.ok):UB S=S:=by
 unfold UB
 rw [List.map_congr_left (g:=id) (fun x hx=>by rw [Tw (h.env x hx)]; rfl),List.map_congr_left (g:=id) (l:=S.bx) (fun cs hcs=>(List.map_congr_left fun c hc=>Et (h.bx cs hcs c hc)).trans (List.map_id' cs)),List.map_id,List.map_id]
theorem sW {ρ:Type} {S:TS} (hS:S.ok) {keep:List Nat} {κ:TS→Option ρ} {r:ρ} (h:Bl keep S κ=some r): ∃ S1:TS,o4 S.st S1.st∧S1.ok∧κ S1=some r:=by
 unfold Bl at h
 obtain⟨h1,h⟩:=ar h
 rw [Tx (Iq hS _ _ _)] at h
 exact⟨_,LJ h1,Iq hS _ _ _,h⟩
end Go.Proofs.YtkcgfceffffmoaaGreat.En
namespace Go.Proofs.YtkcgfceffffmoaaGreat.En
open Go
inductive Sh where
 | int (k:IntKind) | bl | str | ro (t:Ty) | own (r:Nat) (t:Ty) | ptr (n j:Nat) | em | dead | pro (t:Ty) | fc (g:Nat)
abbrev Sh.D:Sh→Type
 | .int _=>Int | .bl=>Bool | .str=>ByteArray | .ro t=>List t.D | .pro t=>t.D | _=>Unit
abbrev wJ.D:List Sh→Type
 | [] =>Unit
 | s::l=>s.D×wJ.D l
inductive AY where
 | cl (s:Sh) | agg (l:List Sh) | st (n:Sn) | fn (f:FuncId) (l:List Sh)
abbrev AY.D:AY→Type
 | .cl s=>s.D | .agg l=>wJ.D l | .st n=>n.D | .fn _ l=>wJ.D l
abbrev G2.D:List (Nat×AY)→Type
 | [] =>Unit
 | x::l=>x.2.D×G2.D l
abbrev G3.D:List (List Sh)→Type
 | [] =>Unit
 | x::l=>wJ.D x×G3.D l
abbrev sx.D:List Ty→Type
 | [] =>Unit
 | t::l=>List t.D×sx.D l
structure dN where
 env:List (Nat×AY)
 bx:List (List Sh)
 gh:List Ty
 fz:Nat
 nt:Nat
abbrev dN.D (L:dN):Type:=G2.D L.env×G3.D L.bx×sx.D L.gh
def UC (G:List (Option bJ)) (r:Nat):Nat:=match o6 G r with | some (some tr)=>tr.l.length | _=>0
def Sh.mk (G:List (Option bJ)): (s:Sh)→s.D→Cl
 | .int k,n=> .c (.sc (.int k n)) | .bl,v=> .c (.sc (.bool v)) | .str,v=> .c (.sc (.string v)) | .ro t,l=> .c (.ls t l)
 | .own r t,_=> .own ⟨r,[]⟩ t.width 0 (UC G r) true | .ptr n j,_=> .ptrB n j | .em,_=> .em | .dead,_=> .dead | .pro t,x=> .pro (t.flat x) | .fc g,_=> .c (.sc (.func (.func g) #[] #[]))
def wJ.mk (G:List (Option bJ)): (l:List Sh)→wJ.D l→List Cl
 | [],_=> []
 | s::l,x=>s.mk G x.1::wJ.mk G l x.2
def AY.mk (G:List (Option bJ)): (v:AY)→v.D→V
 | .cl s,x=> .v (.cl (s.mk G x)) | .agg l,x=> .v (.agg (wJ.mk G l x)) | .st n,x=> .v (.agg ((n.flat x).map .c)) | .fn f l,x=> .v (.fn f (wJ.mk G l x))
def G2.mk (G:List (Option bJ)): (l:List (Nat×AY))→G2.D l→List (Nat×V)
 | [],_=> []
 | x::l,d=>(x.1,x.2.mk G d.1)::G2.mk G l d.2
def G3.mk (G:List (Option bJ)): (l:List (List Sh))→G3.D l→List (List Cl)
 | [],_=> []
 | x::l,d=>wJ.mk G x d.1::G3.mk G l d.2
def sx.mk: (l:List Ty)→sx.D l→List (Option bJ)
 | [],_=> []
 | t::l,d=>some ⟨t,d.1,none⟩::sx.mk l d.2
def dN.mk' (L:dN) (d:L.D):TS:= { env:=G2.mk (sx.mk L.gh d.2.2) L.env d.1,bx:=G3.mk (sx.mk L.gh d.2.2) L.bx d.2.1,gh:=sx.mk L.gh d.2.2,fz:=L.fz,nt:=L.nt }
section
variable {ρ:Type}
def Sh.un: (s:Sh)→Cl→(s.D→Option ρ)→Option ρ
 | .int k, .c (.sc (.int k' n)),κ=>bif decide (k'=k) then κ n else none
 | .bl, .c (.sc (.bool v)),κ=>κ v
 | .str, .c (.sc (.string v)),κ=>κ v
 | .ro t, .c (.ls t' l),κ=>match vh t' t l with | some l=>κ l | none=>none
 | .own r t, .own p sz _ _ w,κ=>match p.l with | [] =>(bif w&&Nat.beq p.r r&&Nat.beq sz t.width then κ () else none) | _=>none
 | .ptr n i, .ptrB m j,κ=>bif Nat.beq m n&&Nat.beq j i then κ () else none
 | .em, .em,κ=>κ ()
 | .dead, .dead,κ=>κ ()
 | .pro t, .pro xs,κ=>(match t.unflat xs with | some x=>κ x | none=>none)
 | .fc g, .c (.sc (.func (.func g') cs ts)),κ=>bif Nat.beq g' g&&Nat.beq cs.size 0&&Nat.beq ts.size 0 then κ () else none
 | _,_,_=>none
def wJ.un: (l:List Sh)→List Cl→(wJ.D l→Option ρ)→Option ρ
 | [],[],κ=>κ ()
 | s::l,c::cs,κ=>s.un c fun x=>wJ.un l cs fun y=>κ (x,y)
 | _,_,_=>none
def AY.un: (v:AY)→V→(v.D→Option ρ)→Option ρ
 | .cl s, .v (.cl c),κ=>s.un c κ
 | .agg l, .v (.agg cs),κ=>wJ.un l cs κ
 | .st n, .v (.agg cs),κ=>match Jq cs with | some xs=>(match n.unflat xs with | some x=>κ x | none=>none) | none=>none
 | .fn f l, .v (.fn g cs),κ=>bif Nat.beq f g then wJ.un l cs κ else none
 | _,_,_=>none
def G2.un: (l:List (Nat×AY))→List (Nat×V)→(G2.D l→Option ρ)→Option ρ
 | [],[],κ=>κ ()
 | x::l,y::m,κ=>bif Nat.beq x.1 y.1 then x.2.un y.2 fun a=>G2.un l m fun b=>κ (a,b) else none
 | _,_,_=>none
def G3.un: (l:List (List Sh))→List (List Cl)→(G3.D l→Option ρ)→Option ρ
 | [],[],κ=>κ ()
 | x::l,y::m,κ=>wJ.un x y fun a=>G3.un l m fun b=>κ (a,b)
 | _,_,_=>none
def sx.un: (l:List Ty)→List (Option bJ)→(sx.D l→Option ρ)→Option ρ
 | [],[],κ=>κ ()
 | t::l,some tr::m,κ=>match tr.hole with
   | none=>(match vh tr.t t tr.l with | some a=>sx.un l m fun b=>κ (a,b) | none=>none)
   | some _=>none
 | _,_,_=>none
def dN.un (L:dN) (S:TS) (κ:L.D→Option ρ):Option ρ:=sx.un L.gh S.gh fun g=>G2.un L.env S.env fun e=>G3.un L.bx S.bx fun b=>bif Nat.beq S.fz L.fz&&Nat.beq S.nt L.nt then κ (e,b,g) else none
theorem Sh.un_some {G:List (Option bJ)} (hG: ∀ r,r < G.length→ ∃ tr,o6 G r=some (some tr)): ∀ {s:Sh} {c:Cl} {κ:s.D→Option ρ} {r:ρ},c.ok G→s.un c κ=some r→ ∃ x,c=s.mk G x∧κ x=some r:=by
 intro s c κ r hc h
 cases s with
 | int k=>
   cases c with
   | c y=>cases y with
     | sc v=>cases v with
       | int k' n=>
         simp only [Sh.un] at h
         obtain⟨h1,h⟩:=ar h
         have:=of_decide_eq_true h1
         subst this
         exact⟨n,rfl,h⟩
       | _=>simp [Sh.un] at h
     | ls t l=>simp [Sh.un] at h
   | _=>simp [Sh.un] at h
 | bl=>
   cases c with
   | c y=>cases y with
     | sc v=>cases v with
       | bool v=>exact⟨v,rfl,h⟩
       | _=>simp [Sh.un] at h
     | ls t l=>simp [Sh.un] at h
   | _=>simp [Sh.un] at h
 | str=>
   cases c with
   | c y=>cases y with
     | sc v=>cases v with
       | string v=>exact⟨v,rfl,h⟩
       | _=>simp [Sh.un] at h
     | ls t l=>simp [Sh.un] at h
   | _=>simp [Sh.un] at h
 | ro t=>
   cases c with
   | c y=>cases y with
     | sc v=>simp [Sh.un] at h
     | ls t' l=>
       simp only [Sh.un] at h
       split at h
       ·rename_i l' hl
        obtain⟨e,hl⟩:=fk hl
        subst e
        simp only at hl
        subst hl
        exact⟨l,rfl,h⟩
       ·cases h
   | _=>simp [Sh.un] at h
 | own q t=>
   cases c with
   | own p sz lo len w=>
     obtain⟨pr,pl⟩:=p
     cases pl with
     | cons a l=>simp [Sh.un] at h
     | nil=>
       simp only [Sh.un] at h
       obtain⟨h1,h'⟩:=ar h
       clear h
       simp only [Bool.and_eq_true] at h1
       obtain⟨⟨h0,h2⟩,h3⟩:=h1
       have h2:pr=q:=Nat.eq_of_beq_eq_true h2
       have h3:sz=t.width:=Nat.eq_of_beq_eq_true h3
       subst h0 h2 h3
       obtain⟨k1,k2⟩:=hc
       obtain⟨_,k3,k4⟩:=k2 rfl
       obtain⟨tr,htr⟩:=hG _ k1
       have k5:=k4 tr (bJ.look htr)
       refine⟨(),?_,h'⟩
       simp only [Sh.mk,UC,k3,k5,htr]
   | c y=>cases y <;> simp [Sh.un] at h
   | _=>simp [Sh.un] at h
 | ptr n i=>
   cases c with
   | ptrB m j=>
     simp only [Sh.un] at h
     obtain⟨h1,h'⟩:=ar h
     clear h
     simp only [Bool.and_eq_true] at h1
     have h2:=Nat.eq_of_beq_eq_true h1.1
     have h3:=Nat.eq_of_beq_eq_true h1.2
     subst h2 h3
     exact⟨(),rfl,h'⟩
   | c y=>cases y <;> simp [Sh.un] at h
   | _=>simp [Sh.un] at h
 | em=>
   cases c with
   | em=>exact⟨(),rfl,h⟩
   | c y=>cases y <;> simp [Sh.un] at h
   | _=>simp [Sh.un] at h
 | dead=>
   cases c with
   | dead=>exact⟨(),rfl,h⟩
   | c y=>cases y <;> simp [Sh.un] at h
   | _=>simp [Sh.un] at h
 | pro t=>
   cases c with
   | pro xs=>
     simp only [Sh.un] at h
     split at h
     ·rename_i x hx
      exact⟨x,by simp only [Sh.mk]; rw [t.unflat_some _ _ hx],h⟩
     ·cases h
   | c y=>cases y <;> simp [Sh.un] at h
   | _=>simp [Sh.un] at h
 | fc g=>
   unfold Sh.un at h
   split at h
   all_goals first | (rename_i hh; cases hh; done) | skip
   all_goals try (rename_i hh _; cases hh; done)
   ·rename_i e
    cases e
    obtain⟨h1,h'⟩:=ar h
    simp only [Bool.and_eq_true] at h1
    obtain⟨⟨h1,h2⟩,h3⟩:=h1
    have h1:=Nat.eq_of_beq_eq_true h1
    have h2:=Array.eq_empty_of_size_eq_zero (Nat.eq_of_beq_eq_true h2)
    have h3:=Array.eq_empty_of_size_eq_zero (Nat.eq_of_beq_eq_true h3)
    exact⟨(),by rw [h1,h2,h3]; rfl,h'⟩
   ·cases h
theorem wJ.un_some {G:List (Option bJ)} (hG: ∀ r,r < G.length→ ∃ tr,o6 G r=some (some tr)): ∀ {l:List Sh} {cs:List Cl} {κ:wJ.D l→Option ρ} {r:ρ},(∀ c∈cs,c.ok G)→wJ.un l cs κ=some r→ ∃ x,cs=wJ.mk G l x∧κ x=some r
 | [],[],κ,r,_,h=>⟨(),rfl,h⟩
 | s::l,c::cs,κ,r,hc,h=>by
   unfold wJ.un at h
   obtain⟨x,h1,h⟩:=Sh.un_some hG (hc c List.mem_cons_self) h
   obtain⟨y,h2,h⟩:=wJ.un_some hG (fun z hz=>hc z (List.mem_cons_of_mem _ hz)) h
   exact⟨(x,y),by rw [h1,h2]; rfl,h⟩
 | [],c::cs,κ,r,_,h=>by simp [wJ.un] at h
 | s::l,[],κ,r,_,h=>by simp [wJ.un] at h
theorem Bn: ∀ {cs:List Cl} {xs:List C},Jq cs=some xs→cs=xs.map .c
 | [],xs,h=>by simp only [Jq,Option.some.injEq] at h; subst h; rfl
 | c::cs,xs,h=>by
   cases c with
   | c y=>
     simp only [Jq] at h
     split at h
     ·rename_i r hr
      simp only [Option.some.injEq] at h
      subst h
      rw [Bn hr]
      rfl
     ·cases h
   | _=>simp [Jq] at h
theorem AY.un_some {G:List (Option bJ)} (hG: ∀ r,r < G.length→ ∃ tr,o6 G r=some (some tr)) {s:AY} {v:V} {κ:s.D→Option ρ} {r:ρ} (hv:v.ok G) (h:s.un v κ=some r): ∃ x,v=s.mk G x∧κ x=some r:=by
 cases v with
 | tup l=>cases s <;> simp [AY.un] at h
 | v y=>
   cases s with
   | cl s=>cases y with
     | cl c=>
       obtain⟨x,h1,h⟩:=Sh.un_some hG hv h
       exact⟨x,by rw [h1]; rfl,h⟩
     | _=>simp [AY.un] at h
   | agg l=>cases y with
     | agg cs=>
       obtain⟨x,h1,h⟩:=wJ.un_some hG hv h
       exact⟨x,by rw [h1]; rfl,h⟩
     | _=>simp [AY.un] at h
   | st n=>cases y with
     | agg cs=>
       simp only [AY.un] at h
       split at h
       ·rename_i xs hxs
        split at h
        ·rename_i x hx
         exact⟨x,by rw [Bn hxs]; simp only [AY.mk]; rw [n.unflat_some _ _ hx],h⟩
        ·cases h
       ·cases h
     | _=>simp [AY.un] at h
   | fn f l=>cases y with
     | fn g cs=>
       simp only [AY.un] at h
       obtain⟨h0,h'⟩:=ar h
       clear h
       have h0:=Nat.eq_of_beq_eq_true h0
       subst h0
       obtain⟨x,h1,h⟩:=wJ.un_some hG hv h'
       exact⟨x,by rw [h1]; rfl,h⟩
     | _=>simp [AY.un] at h
theorem G2.un_some {G:List (Option bJ)} (hG: ∀ r,r < G.length→ ∃ tr,o6 G r=some (some tr)): ∀ {l:List (Nat×AY)} {m:List (Nat×V)} {κ:G2.D l→Option ρ} {r:ρ},(∀ x∈m,x.2.ok G)→G2.un l m κ=some r→ ∃ x,m=G2.mk G l x∧κ x=some r
 | [],[],κ,r,_,h=>⟨(),rfl,h⟩
 | s::l,c::cs,κ,r,hc,h=>by
   unfold G2.un at h
   obtain⟨h0,h⟩:=ar h
   have h0:=Nat.eq_of_beq_eq_true h0
   obtain⟨x,h1,h⟩:=AY.un_some hG (hc c List.mem_cons_self) h
   obtain⟨y,h2,h⟩:=G2.un_some hG (fun z hz=>hc z (List.mem_cons_of_mem _ hz)) h
   refine⟨(x,y),?_,h⟩
   rw [h2]
   obtain⟨c1,c2⟩:=c
   simp only at h0 h1
   rw [h1,←h0]
   rfl
 | [],c::cs,κ,r,_,h=>by simp [G2.un] at h
 | s::l,[],κ,r,_,h=>by simp [G2.un] at h
theorem G3.un_some {G:List (Option bJ)} (hG: ∀ r,r < G.length→ ∃ tr,o6 G r=some (some tr)): ∀ {l:List (List Sh)} {m:List (List Cl)} {κ:G3.D l→Option ρ} {r:ρ},(∀ cs∈m,∀ c∈cs,c.ok G)→G3.un l m κ=some r→ ∃ x,m=G3.mk G l x∧κ x=some r
 | [],[],κ,r,_,h=>⟨(),rfl,h⟩
 | s::l,c::cs,κ,r,hc,h=>by
   unfold G3.un at h
   obtain⟨x,h1,h⟩:=wJ.un_some hG (hc c List.mem_cons_self) h
   obtain⟨y,h2,h⟩:=G3.un_some hG (fun z hz=>hc z (List.mem_cons_of_mem _ hz)) h
   exact⟨(x,y),by rw [h1,h2]; rfl,h⟩
 | [],c::cs,κ,r,_,h=>by simp [G3.un] at h
 | s::l,[],κ,r,_,h=>by simp [G3.un] at h
theorem sx.un_some: ∀ {l:List Ty} {m:List (Option bJ)} {κ:sx.D l→Option ρ} {r:ρ},sx.un l m κ=some r→ ∃ x,m=sx.mk l x∧κ x=some r
 | [],[],κ,r,h=>⟨(),rfl,h⟩
 | t::l,some tr::m,κ,r,h=>by
   unfold sx.un at h
   split at h
   ·rename_i hh
    split at h
    ·rename_i a ha
     obtain⟨e,hl⟩:=fk ha
     obtain⟨y,h2,h⟩:=sx.un_some h
     obtain⟨t',l',hole⟩:=tr
     simp only at hh e hl ha
     subst hh e
     simp only at hl
     subst hl
     exact⟨(l',y),by rw [h2]; rfl,h⟩
    ·cases h
   ·cases h
 | [],c::cs,κ,r,h=>by simp [sx.un] at h
 | t::l,[],κ,r,h=>by simp [sx.un] at h
 | t::l,none::m,κ,r,h=>by simp [sx.un] at h
theorem sx.mk_some: ∀ (l:List Ty) (d:sx.D l) (r:Nat),r < (sx.mk l d).length→ ∃ tr,o6 (sx.mk l d) r=some (some tr)
 | [],d,r,h=>by simp [sx.mk] at h
 | t::l,d,0,h=>⟨_,rfl⟩
 | t::l,d,r+1,h=>by
   obtain⟨tr,htr⟩:=sx.mk_some l d.2 r (by simpa [sx.mk] using h)
   exact⟨tr,htr⟩
theorem dN.un_some {L:dN} {S:TS} (hS:S.ok) {κ:L.D→Option ρ} {r:ρ} (h:L.un S κ=some r): ∃ d,S=L.mk' d∧κ d=some r:=by
 unfold dN.un at h
 obtain⟨g,h1,h⟩:=sx.un_some h
 have hG: ∀ r,r < S.gh.length→ ∃ tr,o6 S.gh r=some (some tr):=by rw [h1]; exact sx.mk_some _ _
 obtain⟨e,h2,h⟩:=G2.un_some hG hS.env h
 obtain⟨b,h3,h⟩:=G3.un_some hG hS.bx h
 obtain⟨h4,h⟩:=ar h
 simp only [Bool.and_eq_true] at h4
 have h5:=Nat.eq_of_beq_eq_true h4.1
 have h6:=Nat.eq_of_beq_eq_true h4.2
 refine⟨(e,b,g),?_,h⟩
 obtain⟨env,bx,gh,fz,nt⟩:=S
 simp only at h1 h2 h3 h5 h6
 subst h5 h6
 unfold dN.mk'
 simp only
 rw [←h1,←h2,←h3]
end
end Go.Proofs.YtkcgfceffffmoaaGreat.En
namespace Go.Proofs.YtkcgfceffffmoaaGreat.En
open Go
def O5 (S:TS) (t:Ty):Cl:= .own ⟨S.gh.length,[]⟩ t.width 0 0 true
def O6 (n j:Nat) (t:Ty) (S:TS):TS:=match o6 S.bx n with
 | some cs=>(match o6 cs j with
   | some .em=> { S with bx:=cS S.bx n (cS cs j (O5 S t)),gh:=S.gh++ [some ⟨t,[],none⟩] }
   | _=>S)
 | none=>S
def O7 (x:Nat) (t:Ty) (S:TS):TS:=match gX S.env x with
 | .v (.cl .em)=> { S with env:=(x, .v (.cl (O5 S t)))::S.env,gh:=S.gh++ [some ⟨t,[],none⟩] }
 | _=>S
theorem T9: ∀ (l:List (Nat×Nat)),T.go .dd l= .dd
 | [] =>rfl
 | (_,_)::l=>T9 l
theorem UD (w:Nat) {l:List (Nat×Nat)} {s:Nat} {rs:List (List T)} (h:T.go (.sl w []) l= .sl s rs):rs= [] :=by
 cases l with
 | nil=>cases h; rfl
 | cons a l=>
   obtain⟨i,j⟩:=a
   simp only [T.go,T.cell,List.getD_nil,T9] at h
   cases h
theorem Ir {S S':TS} (t:Ty) (henv: ∀ u,(gX S'.env u).av=(gX S.env u).av∨((gX S.env u).av= .em∧(gX S'.env u).av= .own ⟨S.gh.length,[]⟩ t.width 0 0))
  (hbx: ∀ k cs',S'.st.bx k=some cs'→ ∃ cs,S.st.bx k=some cs∧cs'.length=cs.length∧ ∀ (j:Nat) (v:AV),cs'[j]? =some v→cs[j]? =some v∨(cs[j]? =some .em∧v= .own ⟨S.gh.length,[]⟩ t.width 0 0))
  (hgh:S'.gh=S.gh++ [some ⟨t,[],none⟩]) (hfz:S'.fz=S.fz) (hnt:S'.nt=S.nt) (hbl:S'.bx.length=S.bx.length):o4 S.st S'.st:=by
 intro w0 W btI SI bt a w hl0
 have hl:=hl0.widen (N:=S.gh.length+1) (Nat.le_succ _)
 have inv:=hl.inv
 have hng:S'.st.ng=S.gh.length+1:=by show S'.gh.length=_; rw [hgh]; simp
 have ghS: ∀ r,S'.st.gh r=if r=S.gh.length then some (.sl t.width []) else S.st.gh r:=by
  intro r
  show (cJ S'.gh r).map bJ.tree=_
  rw [hgh,mJ]
  split <;> rfl
 have κ0: ∀ l,(bt.widen S.st.ng (S.gh.length+1)).κ ⟨S.gh.length,l⟩=0:=by
  intro l
  show (if S.gh.length < S.gh.length then _ else 0)=0
  rw [if_neg (Nat.lt_irrefl _)]
 have look: ∀ p s rs,S'.st.look p= .sl s rs→(p.r=S.gh.length∧rs= [] ∧(bt.widen S.st.ng (S.gh.length+1)).κ p=0)∨(p.r≠S.gh.length∧S.st.look p= .sl s rs):=by
  intro p s rs hp
  unfold St.look at hp
  rw [ghS] at hp
  by_cases hr:p.r=S.gh.length
  ·rw [if_pos hr] at hp
   left
   refine⟨hr,UD _ hp,?_⟩
   obtain⟨pr,pl⟩:=p
   simp only at hr
   subst hr
   exact κ0 pl
  ·rw [if_neg hr] at hp
   exact .inr ⟨hr,hp⟩
 have own0: ∀ {u:Value},VR w (bt.widen S.st.ng (S.gh.length+1)) .em u→VR w (bt.widen S.st.ng (S.gh.length+1)) (.own ⟨S.gh.length,[]⟩ t.width 0 0) u:=by
  intro u hu
  cases hu with
  | em ad=>exact .own (Nat.lt_succ_self _) (Nat.le_refl _) (Nat.zero_le _) (fun h=>absurd h (Nat.lt_irrefl _))
 refine⟨bt.widen S.st.ng (S.gh.length+1),?_⟩
 refine⟨{ os:=inv.os,tape:=inv.tape,output:=inv.output,size:=inv.size,keep:=inv.keep
          nb:=by show _=S'.bx.length; rw [hbl]; exact inv.nb
          ng:=by rw [hng]; exact inv.ng
          bx:=fun n cells hn=> ?_
          gh:=fun r x hr=> ?_
          tr:=fun p sz rows hp=> ?_
          inj:=fun p q s rs s' rs' hp hq hk hk' he=> ?_
          bbinj:=fun n m cs cs' hn hm he=> ?_
          bbtr:=fun n cs p s rs hn hp hk=> ?_
          alt:=inv.alt
          atr:=fun p s rs hp hk=> ?_
          abb:=fun n cs hn=> ?_ },⟨?_,fun u=> ?_⟩,hl.defers,?_,?_,hl.keep,fun r hr hn=> ?_⟩
 ·obtain⟨cs,h1,h2,h3⟩:=hbx n cells hn
  obtain⟨g1,g2,arr,e,g3,g4,g5⟩:=inv.bx n cs h1
  refine⟨by show n < S'.bx.length; rw [hbl]; exact g1,g2,arr,e,g3,by rw [h2]; exact g4,fun j v hj=> ?_⟩
  rcases h3 j v hj with h4 | ⟨h4,rfl⟩
  ·exact g5 j v h4
  ·obtain⟨c,k1,k2,k3⟩:=g5 j .em h4
   exact⟨c,k1,own0 k2,k3⟩
 ·rw [hng]
  rw [ghS] at hr
  split at hr
  ·omega
  ·have:=inv.gh r x hr
   exact this
 ·rcases look p sz rows hp with ⟨h1,rfl,h3⟩ | ⟨h1,h2⟩
  ·exact⟨Nat.zero_le _,fun hk=>by omega⟩
  ·exact inv.tr p sz rows h2
 ·rcases look p s rs hp with ⟨h1,_,h3⟩ | ⟨h1,h2⟩
  ·omega
  ·rcases look q s' rs' hq with ⟨g1,_,g3⟩ | ⟨g1,g2⟩
   ·omega
   ·exact inv.inj _ _ _ _ _ _ h2 g2 hk hk' he
 ·obtain⟨c,h1,_,_⟩:=hbx n cs hn
  obtain⟨c',g1,_,_⟩:=hbx m cs' hm
  exact inv.bbinj _ _ _ _ h1 g1 he
 ·obtain⟨c,h1,_,_⟩:=hbx n cs hn
  rcases look p s rs hp with ⟨_,_,h3⟩ | ⟨_,h2⟩
  ·omega
  ·exact inv.bbtr _ _ _ _ _ h1 h2 hk
 ·rcases look p s rs hp with ⟨_,_,h3⟩ | ⟨_,h2⟩
  ·omega
  ·exact inv.atr _ _ _ h2 hk
 ·obtain⟨c,h1,_,_⟩:=hbx n cs hn
  exact inv.abb _ _ h1
 ·have:=hl.er.1
  show _=S'.nt
  rw [hnt]
  exact this
 ·have h1:=hl.er.2 u
  show VR w _ (gX S'.env u).av _
  rcases henv u with h2 | ⟨h2,h3⟩
  ·rw [h2]; exact h1
  ·rw [h3]
   have h1':VR w (bt.widen S.st.ng (S.gh.length+1)) (gX S.env u).av (a.tmps.getD u undef):=h1
   rw [h2] at h1'
   exact own0 h1'
 ·show S'.fz=_
  rw [hfz]
  exact hl.fz
 ·show S'.fz≤S'.gh.length
  have:=hl.fzng
  have e:S.fz≤S.gh.length+1:=this
  have e2:S.st.fz≤S.st.ng:=hl0.fzng
  have e3:S.fz≤S.gh.length:=e2
  rw [hfz,hgh]
  simp
  omega
 ·refine hl.gone r hr ?_
  rw [ghS] at hn
  split at hn
  ·cases hn
  ·exact hn
theorem LL (S:TS) (t:Ty): (O5 S t).ok (S.gh++ [some ⟨t,[],none⟩]):=by
 refine⟨by simp,fun _=>⟨rfl,rfl,fun tr htr=> ?_⟩⟩
 rw [mJ,if_pos rfl] at htr
 cases htr
 rfl
theorem RN {S:TS} (hS:S.ok) (x:Nat) (t:Ty):o4 S.st (O7 x t S).st∧(O7 x t S).ok:=by
 unfold O7
 split
 ·rename_i hx
  refine⟨Ir t (fun u=> ?_) (fun k cs' h=>⟨cs',h,rfl,fun j v hv=> .inl hv⟩) rfl rfl rfl rfl,⟨fun y hy=> ?_,fun cs hcs c hc=>Cl.ok_mono (gK.app _ _) (hS.bx cs hcs c hc)⟩⟩
  ·simp only [gX]
   cases hb:Nat.beq x u with
   | true=>
     have :x=u:=Nat.eq_of_beq_eq_true hb
     subst this
     right
     rw [hx]
     exact⟨rfl,rfl⟩
   | false=>exact .inl rfl
  ·rcases List.mem_cons.1 hy with rfl | hy
   ·exact LL S t
   ·exact V.ok_mono (gK.app _ _) (hS.env y hy)
 ·exact⟨o4.refl,hS⟩
theorem RP {S:TS} (hS:S.ok) (n j:Nat) (t:Ty):o4 S.st (O6 n j t S).st∧(O6 n j t S).ok:=by
 unfold O6
 split
 ·rename_i cs hcs
  split
  ·rename_i hj
   rw [dk] at hcs hj
   have hn:=(List.getElem?_eq_some_iff.1 hcs).1
   refine⟨Ir t (fun u=> .inl rfl) (fun k cs' h=> ?_) rfl rfl rfl (by simp [fi]),⟨fun y hy=>V.ok_mono (gK.app _ _) (hS.env y hy),fun cs' hcs' c hc=> ?_⟩⟩
   ·have h': (o6 (cS S.bx n (cS cs j (O5 S t))) k).map (fun cs=>cs.map Cl.av)=some cs':=h
    rw [dk,fi,fi,List.getElem?_set] at h'
    by_cases hk:n=k
    ·subst hk
     rw [if_pos rfl,if_pos hn] at h'
     simp only [Option.map_some,Option.some.injEq] at h'
     subst h'
     refine⟨cs.map Cl.av,by show (o6 S.bx n).map _=_; rw [dk,hcs]; rfl,by simp,fun i v hv=> ?_⟩
     rw [List.getElem?_map,List.getElem?_set] at hv
     by_cases hi:j=i
     ·subst hi
      rw [if_pos rfl,if_pos (List.getElem?_eq_some_iff.1 hj).1] at hv
      right
      rw [List.getElem?_map,hj]
      simp only [Option.map_some,Option.some.injEq] at hv
      exact⟨rfl,hv.symm⟩
     ·rw [if_neg hi] at hv
      left
      rw [List.getElem?_map]
      exact hv
    ·rw [if_neg hk] at h'
     exact⟨cs',by show (o6 S.bx k).map _=_; rw [dk]; exact h',rfl,fun i v hv=> .inl hv⟩
   ·simp only [fi] at hcs'
    rcases List.mem_or_eq_of_mem_set hcs' with h1 | h1
    ·exact Cl.ok_mono (gK.app _ _) (hS.bx _ h1 c hc)
    ·subst h1
     rcases List.mem_or_eq_of_mem_set hc with h2 | h2
     ·exact Cl.ok_mono (gK.app _ _) (hS.bx _ (List.mem_of_getElem? hcs) c h2)
     ·subst h2
      exact LL S t
  ·exact⟨o4.refl,hS⟩
 ·exact⟨o4.refl,hS⟩
theorem am {α β:Type} (b:Bool) (x y:Option α) (f:α→Option β): (br b x y).bind f=br b (x.bind f) (y.bind f):=by cases b <;> rfl
theorem aq {α β:Type} (c:Prop) [Decidable c] (x y:Option α) (f:α→Option β): (ap c x y).bind f=ap c (x.bind f) (y.bind f):=by unfold ap; split <;> rfl
inductive PW where
 | t (x:Nat) (t:Ty)
 | b (n j:Nat) (t:Ty)
def wK:List PW→TS→TS
 | [],S=>S
 | .t x t::l,S=>wK l (O7 x t S)
 | .b n j t::l,S=>wK l (O6 n j t S)
theorem yg: ∀ (l:List PW) {S:TS},S.ok→o4 S.st (wK l S).st∧(wK l S).ok
 | [],S,hS=>⟨o4.refl,hS⟩
 | .t x t::l,S,hS=>by
   obtain⟨h1,h2⟩:=RN hS x t
   obtain⟨h3,h4⟩:=yg l h2
   exact⟨h1.trans h3,h4⟩
 | .b n j t::l,S,hS=>by
   obtain⟨h1,h2⟩:=RP hS n j t
   obtain⟨h3,h4⟩:=yg l h2
   exact⟨h1.trans h3,h4⟩
section
variable {P:Program} {Θ:pc} {Y:zm} {Λ:o7}
def cO {ρ:Type} (keepN keepX:List Nat) (κ:X→TS→Option ρ) (x:X) (S:TS):Option ρ:=match x with
 | .nor=>Bl keepN S (κ .nor)
 | x=>Bl keepX S (κ x)
def RQ {σ ε:Type} (G:σ→Option ε) (μ:σ→Nat) (s:σ) (e:ε):Option (σ⊕ε)→Prop
 | some (.inl s')=>μ s' < μ s∧G s'=some e
 | some (.inr e')=>e'=e
 | none=>False
theorem Tz (hΘ:dM P Θ) (hY:aw P Y) (hm:P.follows .mixedOrders=true) {c:Code} (hc:lm P c=true) (hL:fD P Λ (ey c)) {σ ε:Type} {H:σ→TS} {E:ε→X×TS} {B:σ→Option (σ⊕ε)} {keepN keepX:List Nat}
  (hH: ∀ s,(H s).ok) (hstep: ∀ s,ei Θ Y Λ c (H s) (cO keepN keepX fun x S=>some (x,S))=(B s).bind (Sum.elim (fun s'=>some (.nor,H s')) fun e=>some (E e)))
  (hE: ∀ e,(E e).1≠ .nor) {G:σ→Option ε} {μ:σ→Nat} (hG: ∀ s e,G s=some e→RQ G μ s e (B s))
  {s:σ} {e:ε} (hs:G s=some e):qH P (.loop c) (H s).st (fun x S'=>x=(E e).1∧S'=(E e).2.st):=by
 refine qH.loop (fun n X=> ∃ s,X=(H s).st∧G s=some e∧μ s=n) (fun n X hX=> ?_) (n:=μ s) ⟨s,rfl,hs,rfl⟩
 obtain⟨s,rfl,hs,rfl⟩:=hX
 have hg:=hG s e hs
 have hst:=hstep s
 cases hB:B s with
 | none=>rw [hB] at hg; exact hg.elim
 | some l=>
   rw [hB] at hg hst
   cases l with
   | inl s'=>
     simp only [Option.bind_some,Sum.elim_inl] at hst
     refine (zw hΘ hY hm c _ _ _ hc hL (hH s) hst).mono (fun x S' hx=> ?_)
     obtain⟨S1,rfl,h1,h2⟩:=hx
     have ca: ∃ S2:TS,o4 S1.st S2.st∧x= .nor∧S2=H s':=by
      unfold cO at h2
      split at h2
      ·obtain⟨S2,k1,_,k2⟩:=sW h1 h2
       simp only [Option.some.injEq,Prod.mk.injEq] at k2
       exact⟨S2,k1,rfl,k2.2⟩
      ·obtain⟨S2,k1,_,k2⟩:=sW h1 h2
       simp only [Option.some.injEq,Prod.mk.injEq] at k2
       exact⟨S2,k1,k2.1,k2.2⟩
     obtain⟨S2,k1,rfl,rfl⟩:=ca
     exact⟨_,k1,μ s',hg.1,s',rfl,hg.2,rfl⟩
   | inr e'=>
     simp only [Option.bind_some,Sum.elim_inr] at hst
     have hg:e'=e:=hg
     subst hg
     refine (zw hΘ hY hm c _ _ _ hc hL (hH s) hst).mono (fun x S' hx=> ?_)
     obtain⟨S1,rfl,h1,h2⟩:=hx
     have ca: ∃ S2:TS,o4 S1.st S2.st∧(x,S2)=E e':=by
      unfold cO at h2
      split at h2
      ·obtain⟨S2,k1,_,k2⟩:=sW h1 h2
       exact⟨S2,k1,Option.some.inj k2⟩
      ·obtain⟨S2,k1,_,k2⟩:=sW h1 h2
       exact⟨S2,k1,Option.some.inj k2⟩
     obtain⟨S2,k1,k2⟩:=ca
     refine⟨S2.st,k1,?_⟩
     have hx:x=(E e').1:=congrArg Prod.fst k2
     have hS2:S2=(E e').2:=congrArg Prod.snd k2
     have hne:=hE e'
     rw [←hx] at hne
     cases x with
     | nor=>exact absurd rfl hne
     | ret=>exact⟨hx,by rw [hS2]⟩
     | ext i=>exact⟨hx,by rw [hS2]⟩
def RR (grow:List PW) (keep:List Nat) (L:dN) {ε:Type} (E:ε→X×TS) (G:L.D→Option ε):TS→(ρ:Type)→(X→TS→Option ρ)→Option ρ:=
 fun S _ κ=>Bl keep (wK grow S) fun S1=>L.un S1 fun s=>(G s).bind fun e=>κ (E e).1 (E e).2
theorem RS {c:Code} {grow:List PW} {keep:List Nat} {L:dN} {ε:Type} {E:ε→X×TS} {G:L.D→Option ε} (hE: ∀ e,(E e).2.ok)
  (h: ∀ s e,G s=some e→qH P (.loop c) (L.mk' s).st (fun x S'=>x=(E e).1∧S'=(E e).2.st)) {S:TS} {ρ:Type} {κ:X→TS→Option ρ} {r:ρ} (hS:S.ok) (hk:RR grow keep L E G S ρ κ=some r):
  qH P (.loop c) S.st (fun x S'=> ∃ S1:TS,S'=S1.st∧S1.ok∧κ x S1=some r):=by
 unfold RR at hk
 obtain⟨h1,h2⟩:=yg grow hS
 obtain⟨S1,h3,h4,hk⟩:=sW h2 hk
 obtain⟨s,rfl,hk2⟩:=dN.un_some h4 hk
 obtain⟨e,h5,hk3⟩:=Option.bind_eq_some_iff.1 hk2
 refine qH.weak (h1.trans h3) ((h s e h5).mono (fun x S' hx=> ?_))
 obtain⟨rfl,rfl⟩:=hx
 exact⟨_,o4.refl,_,rfl,hE e,hk3⟩
end
end Go.Proofs.YtkcgfceffffmoaaGreat.En
namespace Go.Proofs.YtkcgfceffffmoaaGreat.En
open Go
abbrev rC.D:List Ty→Type
 | [] =>Unit
 | t::l=>t.D×rC.D l
def aE: (l:List Ty)→rC.D l→List ((t:Ty)×t.D)
 | [],_=> []
 | t::l,x=>⟨t,x.1⟩::aE l x.2
def aD (P:Program) (f:FuncId) (e:bn):Prop:= ∀ args ρ κ r,e args ρ κ=some r→ ∃ res out,Cy P f args res out∧res.ok (out.map some)∧κ res out=some r
theorem aj (P:Program):aw P (aJ []):=fun _ _ _ _ _ h=>by cases h
theorem ae {P:Program} {f:FuncId} {e:bn} {l:List (Nat×bn)} (h:aD P f e) (hl:aw P (aJ l)):aw P (aJ ((f,e)::l)):=by
 intro g args ρ κ r hr
 have hr: (bif Nat.beq f g then e args ρ κ else Uw l g args ρ κ)=some r:=hr
 cases hb:Nat.beq f g with
 | true=>
   rw [hb] at hr
   have:=Nat.eq_of_beq_eq_true hb
   subst this
   exact h args ρ κ r hr
 | false=>
   rw [hb] at hr
   exact hl g args ρ κ r hr
theorem un_some {ρ:Type} {t:Ty} {a:V1} {κ:t.D→Option ρ} {r:ρ} (h:un t a κ=some r): ∃ x,a=OO t x∧κ x=some r:=by
 unfold un at h
 split at h
 ·rename_i cs
  obtain⟨h1,h⟩:=ar h
  split at h
  ·rename_i xs hxs
   split at h
   ·rename_i x hx
    refine⟨x,?_,h⟩
    unfold OO
    rw [h1,t.unflat_some _ _ hx,Bn hxs]
    rfl
   ·cases h
  ·cases h
 ·rename_i y
  cases hag:t.ag with
  | true=>rw [hag] at h; cases h
  | false=>
    rw [hag] at h
    simp only [cond_false] at h
    split at h
    ·rename_i x hx
     refine⟨x,?_,h⟩
     unfold OO
     rw [hag,t.unflat_some _ _ hx]
     rfl
    ·cases h
 ·cases h
theorem UE (t:Ty) (x:t.D): (OO t x).ok [] :=by
 unfold OO
 cases t.ag with
 | true=>
   intro c hc
   obtain⟨y,_,rfl⟩:=List.mem_map.1 hc
   trivial
 | false=>
   simp only [cond_false]
   split
   ·rename_i c hc
    have :c∈(t.flat x).map Cl.c:=by rw [hc]; exact List.mem_singleton.2 rfl
    obtain⟨y,_,rfl⟩:=List.mem_map.1 this
    trivial
   ·trivial
theorem JB (Ck suf:List bJ): ∀ (cs:List C) (mid:List bJ),∀ c∈uV cs (Ck.length+mid.length),c.ok ((Ck++mid++mD cs++suf).map some)
 | [],mid,c,h=>by cases h
 | .sc v::cs,mid,c,h=>by
   rcases List.mem_cons.1 h with rfl | h
   ·trivial
   ·exact JB Ck suf cs mid c h
 | .ls t l::cs,mid,c,h=>by
   rcases List.mem_cons.1 h with rfl | h
   ·refine⟨by simp [mD],fun _=>⟨rfl,rfl,fun tr htr=> ?_⟩⟩
    have :cJ ((Ck++mid++mD (.ls t l::cs)++suf).map some) (Ck.length+mid.length)=some ⟨t,l,none⟩:=by
     unfold cJ
     rw [dk,List.getElem?_map,List.append_assoc,List.getElem?_append_right (by simp)]
     simp [mD]
    have htr':cJ ((Ck++mid++mD (.ls t l::cs)++suf).map some) (Ck.length+mid.length)=some tr:=htr
    rw [this] at htr'
    cases htr'
    rfl
   ·have:=JB Ck suf cs (mid++ [⟨t,l,none⟩]) c (by rw [List.length_append,←Nat.add_assoc]; exact h)
    simp only [mD]
    simpa using this
theorem TA (t:Ty) (x:t.D) (Ck suf:List bJ): (Fa t x Ck.length).ok ((Ck++mD (t.flat x)++suf).map some):=by
 have ca:=JB Ck suf (t.flat x) []
 simp only [List.length_nil,Nat.add_zero,List.append_nil] at ca
 unfold Fa
 cases t.ag with
 | true=>exact ca
 | false=>
   simp only [cond_false]
   split
   ·rename_i c hc
    exact ca c (by rw [hc]; exact List.mem_singleton.2 rfl)
   ·trivial
theorem zy: ∀ (l:List ((t:Ty)×t.D)) (Ck:List bJ),∀ v∈xb Ck.length l,v.ok ((Ck++xd l).map some)
 | [],Ck,v,h=>by cases h
 | ⟨t,x⟩::l,Ck,v,h=>by
   rcases List.mem_cons.1 h with rfl | h
   ·have:=TA t x Ck (xd l)
    simpa [xd] using this
   ·have:=zy l (Ck++mD (t.flat x)) v (by rw [List.length_append]; exact h)
    simpa [xd] using this
theorem RT (l:List ((t:Ty)×t.D)): (wU (xb 0 l)).ok ((xd l).map some):=by
 have h:=zy l []
 simp only [List.length_nil,List.nil_append] at h
 match xb 0 l,h with
 | [],_=>exact fun x hx=>by cases hx
 | [v],h=>exact h v List.mem_cons_self
 | v::u::vs,h=>exact h
end Go.Proofs.YtkcgfceffffmoaaGreat.En
namespace Go.Proofs.YtkcgfceffffmoaaGreat.En
open Go
def Sh.fit (n:Nat):Sh→Bool | .own r _=>Nat.blt r n | _=>true
def AY.fit (n:Nat):AY→Bool | .cl s=>s.fit n | .agg l=>l.all (Sh.fit n) | .st _=>true | .fn _ l=>l.all (Sh.fit n)
def dN.fit (L:dN):Bool:=L.env.all (fun x=>x.2.fit L.gh.length)&&L.bx.all (fun l=>l.all (Sh.fit L.gh.length))
theorem sx.mk_length: ∀ (l:List Ty) (d:sx.D l),(sx.mk l d).length=l.length
 | [],_=>rfl
 | t::l,d=>by simp [sx.mk,sx.mk_length l d.2]
theorem Sh.mk_ok {G:List (Option bJ)} {s:Sh} (h:s.fit G.length=true) (x:s.D): (s.mk G x).ok G:=by
 cases s with
 | own r t=>
   refine⟨Nat.le_of_ble_eq_true h,fun _=>⟨rfl,rfl,fun tr htr=> ?_⟩⟩
   unfold cJ at htr
   unfold UC
   have htr': (o6 G r).getD none=some tr:=htr
   cases hn:o6 G r with
   | none=>rw [hn] at htr'; cases htr'
   | some y=>rw [hn] at htr'; simp only [Option.getD_some] at htr'; subst htr'; rfl
 | _=>trivial
theorem wJ.mk_ok {G:List (Option bJ)}: ∀ {l:List Sh},l.all (Sh.fit G.length)=true→ ∀ (x:wJ.D l),∀ c∈wJ.mk G l x,c.ok G
 | [],_,x,c,hc=>by cases hc
 | s::l,h,x,c,hc=>by
   simp only [List.all_cons,Bool.and_eq_true] at h
   rcases List.mem_cons.1 hc with rfl | hc
   ·exact Sh.mk_ok h.1 x.1
   ·exact wJ.mk_ok h.2 x.2 c hc
theorem AY.mk_ok {G:List (Option bJ)} {v:AY} (h:v.fit G.length=true) (x:v.D): (v.mk G x).ok G:=by
 cases v with
 | cl s=>exact Sh.mk_ok h x
 | agg l=>exact wJ.mk_ok h x
 | st n=>
   intro c hc
   obtain⟨y,_,rfl⟩:=List.mem_map.1 hc
   trivial
 | fn f l=>exact wJ.mk_ok h x
theorem dN.mk'_ok {L:dN} (h:L.fit=true) (d:L.D): (L.mk' d).ok:=by
 unfold dN.fit at h
 simp only [Bool.and_eq_true] at h
 have hlen: (sx.mk L.gh d.2.2).length=L.gh.length:=sx.mk_length _ _
 rw [←hlen] at h
 have env: ∀ {l:List (Nat×AY)},l.all (fun x=>x.2.fit (sx.mk L.gh d.2.2).length)=true→ ∀ (e:G2.D l),∀ x∈G2.mk (sx.mk L.gh d.2.2) l e,x.2.ok (sx.mk L.gh d.2.2):=by
  intro l
  induction l with
  | nil=>intro _ e x hx; cases hx
  | cons y l ih=>
    intro h e x hx
    simp only [List.all_cons,Bool.and_eq_true] at h
    rcases List.mem_cons.1 hx with rfl | hx
    ·exact AY.mk_ok h.1 e.1
    ·exact ih h.2 e.2 x hx
 have bxs: ∀ {l:List (List Sh)},l.all (fun l=>l.all (Sh.fit (sx.mk L.gh d.2.2).length))=true→ ∀ (e:G3.D l),∀ cs∈G3.mk (sx.mk L.gh d.2.2) l e,∀ c∈cs,c.ok (sx.mk L.gh d.2.2):=by
  intro l
  induction l with
  | nil=>intro _ e x hx; cases hx
  | cons y l ih=>
    intro h e x hx
    simp only [List.all_cons,Bool.and_eq_true] at h
    rcases List.mem_cons.1 hx with rfl | hx
    ·exact wJ.mk_ok h.1 e.1
    ·exact ih h.2 e.2 x hx
 exact⟨env h.1 d.1,bxs h.2 d.2.1⟩
abbrev bk.D:List (X×dN)→Type
 | [] =>Empty
 | [x] =>x.2.D
 | x::y::l=>x.2.D⊕bk.D (y::l)
def bk.k {R:Type}: (l:List (X×dN))→bk.D l→(X→TS→R)→R
 | [],e,_=>e.elim
 | [x],d,κ=>κ x.1 (x.2.mk' d)
 | x::y::l,e,κ=>Sum.elim (fun d=>κ x.1 (x.2.mk' d)) (fun e=>bk.k (y::l) e κ) e
def bk.e (l:List (X×dN)) (d:bk.D l):X×TS:=bk.k l d Prod.mk
theorem bk.k_eq {R:Type}: ∀ (l:List (X×dN)) (d:bk.D l) (κ:X→TS→R),bk.k l d κ=κ (bk.e l d).1 (bk.e l d).2
 | [],e,_=>e.elim
 | [_],_,_=>rfl
 | _::_::_, .inl _,_=>rfl
 | _::y::l, .inr e,κ=>bk.k_eq (y::l) e κ
def V2 (x:X×dN):Bool:=(match x.1 with | .nor=>false | _=>true)&&x.2.fit
theorem bk.ok: ∀ (l:List (X×dN)) (d:bk.D l),l.all V2=true→(bk.e l d).1≠ .nor∧(bk.e l d).2.ok
 | [],e,_=>e.elim
 | [x],d,h=>by
   simp only [List.all_cons,Bool.and_eq_true,V2] at h
   refine⟨fun e=> ?_,dN.mk'_ok h.1.2 d⟩
   have e:x.1= .nor:=e
   rw [e] at h
   cases h.1.1
 | x::_::_, .inl d,h=>by
   simp only [List.all_cons,Bool.and_eq_true,V2] at h
   refine⟨fun e=> ?_,dN.mk'_ok h.1.2 d⟩
   have e:x.1= .nor:=e
   rw [e] at h
   cases h.1.1
 | _::y::l, .inr e,h=>bk.ok (y::l) e (by
   simp only [List.all_cons,Bool.and_eq_true] at h ⊢
   exact h.2)
def cX (grow:List PW) (keep:List Nat) (L:dN) (exs:List (X×dN)) (G:L.D→Option (bk.D exs)):TS→(ρ:Type)→(X→TS→Option ρ)→Option ρ:=
 fun S _ κ=>Bl keep (wK grow S) fun S1=>L.un S1 fun s=>(G s).bind fun e=>bk.k exs e κ
abbrev cL:=TS→(ρ:Type)→(X→TS→Option ρ)→Option ρ
def aI:List (Nat×cL)→o7
 | [],_,_,_,_=>none
 | (q,e)::l,n,S,ρ,κ=>bif Nat.beq q n then e S ρ κ else aI l n S ρ κ
section
variable {P:Program} {Θ:pc} {Y:zm} {Λ:o7}
def bS (P:Program) (c:Code) (e:cL):Prop:= ∀ (S:TS) (ρ:Type) (κ:X→TS→Option ρ) (r:ρ),S.ok→e S ρ κ=some r→qH P (.loop c) S.st (fun x S'=> ∃ S1:TS,S'=S1.st∧S1.ok∧κ x S1=some r)
theorem ah:fD P Λ [] :=fun c hc=>by cases hc
theorem aP {l:List (Nat×cL)} {c:Code} {q:Nat} {e:cL} (hq:ca c=q) (h:bS P c e) (hl: ∀ (S:TS) (ρ:Type) (κ:X→TS→Option ρ),aI l q S ρ κ=e S ρ κ):fD P (aI l) [c] :=by
 intro c' hc' S ρ κ r hS hr
 rw [List.mem_singleton] at hc'
 subst hc'
 rw [hq,hl] at hr
 exact h S ρ κ r hS hr
theorem RU {l:List (Nat×cL)} {c:Code} {q:Nat} (hq:ca c=q) (hl: ∀ (S:TS) (ρ:Type) (κ:X→TS→Option ρ),aI l q S ρ κ=none):fD P (aI l) [c] :=by
 intro c' hc' S ρ κ r hS hr
 rw [List.mem_singleton] at hc'
 subst hc'
 rw [hq,hl] at hr
 cases hr
theorem aZ (hΘ:dM P Θ) (hY:aw P Y) (hm:P.follows .mixedOrders=true) {c:Code} (hc:lm P c=true) (hL:fD P Λ (ey c)) (grow:List PW) (keep keepX:List Nat) (L:dN) (exs:List (X×dN)) (hf: (L.fit&&exs.all V2)=true)
  (B:L.D→Option (L.D⊕bk.D exs)) (hB: ∀ s,ei Θ Y Λ c (L.mk' s) (cO keep keepX fun x S=>some (x,S))=(B s).bind (Sum.elim (fun s'=>some (.nor,L.mk' s')) fun e=>some (bk.e exs e)))
  (G:L.D→Option (bk.D exs)) (μ:L.D→Nat) (hG: ∀ s e,G s=some e→RQ G μ s e (B s)):bS P c (cX grow keep L exs G):=by
 simp only [Bool.and_eq_true] at hf
 intro S ρ κ r hS hk
 refine RS (E:=bk.e exs) (fun e=>(bk.ok exs e hf.2).2) (fun s e hs=>Tz hΘ hY hm hc hL (fun s=>dN.mk'_ok hf.1 s) hB (fun e=>(bk.ok exs e hf.2).1) hG hs) hS ?_ (grow:=grow) (keep:=keep)
 rw [←hk]
 unfold RR cX
 simp only [bk.k_eq]
end
end Go.Proofs.YtkcgfceffffmoaaGreat.En
namespace Go.Proofs.YtkcgfceffffmoaaGreat.En
open Go
def TB (P:Program) (e:TypeId→List Value→Bool):List Field→Nat→List Value→Bool
 | [],_,[] =>true
 | [],_,_::_=>false
 | f::fs,off,zs=>f.name != "_" &&Nat.beq f.offset off&&Nat.blt 0 (P.cellsOf f.type)&&Nat.ble (P.cellsOf f.type) zs.length&&(P.info? f.type).isSome&&e f.type (zs.take (P.cellsOf f.type))&&TB P e fs (off+P.cellsOf f.type) (zs.drop (P.cellsOf f.type))
def LM (P:Program):Nat→TypeId→List Value→Bool
 | 0,_,_=>false
 | n+1,t,zs=>match P.underlying t with
   | some .bool=>(match zs with | [.bool _] =>true | _=>false)
   | some (.int _)=>(match zs with | [.int _ _] =>true | _=>false)
   | some (.struct fs)=> !P.stoodInHeld t&&TB P (LM P n) fs.toList 0 zs
   | _=>false
def G4 (P:Program) (t:TypeId) (xs:List Value):Value:=match P.underlying t with
 | some (.struct _)=> .agg xs.toArray
 | _=>xs.headD (.bool false)
def kY:List Value→List Value→Bool
 | [],[] =>true
 | .int k _::zs, .int k' _::cs=>bif decide (k=k') then kY zs cs else false
 | .bool _::zs, .bool _::cs=>kY zs cs
 | _,_=>false
def lq:List Value→List Value→Option Bool
 | [],[] =>some true
 | a::l,b::m=>match Lk a b,lq l m with
   | some x,some y=>some (x&&y)
   | _,_=>none
 | _,_=>none
theorem Fo: ∀ {zs xs:List Value},lc zs (xs.map fun x=> .c (.sc x))=true→kY zs xs=true:=by
 intro zs
 induction zs with
 | nil=>intro xs h; cases xs with
   | nil=>rfl
   | cons=>simp [lc] at h
 | cons z zs ih=>
   intro xs h
   cases xs with
   | nil=>cases z <;> simp [lc] at h
   | cons x xs=>
     cases z <;> cases x <;> simp only [List.map_cons,lc,kY,cond_eq_ite,Bool.false_eq_true] at h ⊢
     ·exact ih h
     ·split at h
      ·rename_i hk
       rw [if_pos hk]
       exact ih h
      ·cases h
theorem PX: ∀ {xs ys:List Value},wz (xs.map fun x=> .c (.sc x)) (ys.map fun x=> .c (.sc x))=lq xs ys:=by
 intro xs
 induction xs with
 | nil=>intro ys; cases ys <;> rfl
 | cons x xs ih=>
   intro ys
   cases ys with
   | nil=>rfl
   | cons y ys=>
     simp only [List.map_cons,wz,lq,ih]
     cases Lk x y <;> cases lq xs ys <;> rfl
theorem qt: ∀ {zs xs:List Value},kY zs xs=true→xs.length=zs.length:=by
 intro zs
 induction zs with
 | nil=>intro xs h; cases xs with
   | nil=>rfl
   | cons=>simp [kY] at h
 | cons z zs ih=>
   intro xs h
   cases xs with
   | nil=>cases z <;> simp [kY] at h
   | cons x xs=>
     cases z <;> cases x <;> simp only [kY,cond_eq_ite,Bool.false_eq_true] at h
     ·simp [ih h]
     ·split at h
      ·simp [ih h]
      ·cases h
theorem tS: ∀ {zs xs:List Value} (n:Nat),kY zs xs=true→kY (zs.take n) (xs.take n)=true∧kY (zs.drop n) (xs.drop n)=true:=by
 intro zs
 induction zs with
 | nil=>intro xs n h; cases xs with
   | nil=>simp [kY]
   | cons=>simp [kY] at h
 | cons z zs ih=>
   intro xs n h
   cases xs with
   | nil=>cases z <;> simp [kY] at h
   | cons x xs=>
     cases n with
     | zero=>exact⟨rfl,h⟩
     | succ n=>
       cases z <;> cases x <;> simp only [kY,cond_eq_ite,Bool.false_eq_true] at h
       ·exact ih n h
       ·split at h
        ·rename_i hk
         refine⟨?_,(ih n h).2⟩
         simp only [List.take_succ_cons,kY,cond_eq_ite]
         rw [if_pos (by simpa using hk)]
         exact (ih n h).1
        ·cases h
theorem JC: ∀ {xs ys:List Value} (n:Nat) {r:Bool},lq xs ys=some r→ ∃ a b,lq (xs.take n) (ys.take n)=some a∧lq (xs.drop n) (ys.drop n)=some b∧r=(a&&b):=by
 intro xs
 induction xs with
 | nil=>intro ys n r h; cases ys with
   | nil=>cases h; exact⟨true,true,by simp [lq],by simp [lq],rfl⟩
   | cons=>simp [lq] at h
 | cons x xs ih=>
   intro ys n r h
   cases ys with
   | nil=>simp [lq] at h
   | cons y ys=>
     cases n with
     | zero=>exact⟨true,r,rfl,h,rfl⟩
     | succ n=>
       simp only [lq] at h
       split at h
       ·rename_i p q hp hq
        cases h
        obtain⟨a,b,h1,h2,rfl⟩:=ih n hq
        exact⟨p&&a,b,by simp [lq,hp,h1],h2,by cases p <;> rfl⟩
       ·cases h
theorem JD {P:Program} {t:TypeId} {i:TypeInfo} (h:P.info? t=some i):bz P (typeInfo t)=some i:=by
 simp only [typeInfo,bg,program,bz,Option.bind_some,h]
 rfl
theorem LN {P:Program} {t:TypeId} {i:TypeInfo} (hi:P.info? t=some i) {d:TypeDesc} (hd:P.underlying t=some d) (hs: ∀ n e,d≠ .array n e) {xs:List Value} {off:Nat} {c:Value} (hc:xs[off]? =some c):
  bz P (part t xs.toArray off)=some (G4 P t ((xs.drop off).take (P.cellsOf t)))∨P.cellsOf t=0:=by
 by_cases h0:P.cellsOf t=0
 ·exact .inr h0
 refine .inl ?_
 have hcell:P.cellsOf t=i.size:=by simp [Program.cellsOf,hi]
 cases hst: (match d with | .struct _=>true | _=>false) with
 | true=>
   have hag:bz P (isAgg t)=some true:=by
    simp only [isAgg,bg,cW hd,Option.bind_some]
    cases d <;> simp at hst
    rfl
   simp only [part,sizeOf,bg,hag,Option.bind_some,if_true,JD hi,bV,G4,hd]
   cases d <;> simp at hst
   simp [hcell,Nat.add_sub_cancel_left]
 | false=>
   have hag:bz P (isAgg t)=some false:=by
    simp only [isAgg,bg,cW hd,Option.bind_some]
    cases d <;> simp at hst
    all_goals first | rfl | exact absurd rfl (hs _ _)
   have hv:G4 P t ((xs.drop off).take (P.cellsOf t))=c:=by
    have : ((xs.drop off).take (P.cellsOf t)).headD (.bool false)=c:=by
     obtain⟨n,hn⟩: ∃ n,P.cellsOf t=n+1:=⟨P.cellsOf t - 1,by omega⟩
     have h1:off < xs.length:=(List.getElem?_eq_some_iff.1 hc).1
     rw [hn,List.drop_eq_getElem_cons h1,List.take_succ_cons]
     exact (List.getElem?_eq_some_iff.1 hc).2
    unfold G4
    rw [hd]
    cases d <;> first | exact this | simp at hst
   rw [hv]
   simp only [part,bg,hag,Option.bind_some,Bool.false_eq_true,if_false]
   have :xs.toArray[off]? =some c:=by simpa using hc
   rw [this]
   rfl
theorem O8 (P:Program): ∀ (n:Nat) {t:TypeId} {zs xs ys:List Value} {r:Bool} (d:Nat),LM P n t zs=true→kY zs xs=true→kY zs ys=true→lq xs ys=some r→bz P (Op.equalIn (n+d) t (G4 P t xs) (G4 P t ys))=some r
 | 0,t,zs,xs,ys,r,d,h,_,_,_=>by cases h
 | n+1,t,zs,xs,ys,r,d,h,hx,hy,he=>by
   have hn:n+1+d=(n+d)+1:=by omega
   rw [hn]
   unfold LM at h
   cases hu:P.underlying t with
   | none=>rw [hu] at h; cases h
   | some D=>
     rw [hu] at h
     cases D <;> simp only [Bool.false_eq_true] at h
     case bool=>
      split at h
      case h_2=>cases h
      obtain⟨x,rfl⟩: ∃ x,xs= [.bool x] :=by
       match xs,hx with
       | [.bool x],_=>exact⟨x,rfl⟩
      obtain⟨y,rfl⟩: ∃ y,ys= [.bool y] :=by
       match ys,hy with
       | [.bool y],_=>exact⟨y,rfl⟩
      simp only [lq,Lk,Bool.and_true,Option.some.injEq] at he
      subst he
      simp only [G4,hu,List.headD_cons]
      rw [Op.equalIn]
      simp only [bg,cW hu,Option.bind_some,bV]
     case int k=>
      split at h
      case h_2=>cases h
      rename_i k0 _
      obtain⟨x,rfl⟩: ∃ x,xs= [.int k0 x] :=by
       match xs,hx with
       | [.int k1 x],hx=>
         simp only [kY,cond_eq_ite] at hx
         split at hx
         ·rename_i hk; simp at hk; subst hk; exact⟨x,rfl⟩
         ·cases hx
       | .int _ _::_::_,hx=>simp [kY] at hx
      obtain⟨y,rfl⟩: ∃ y,ys= [.int k0 y] :=by
       match ys,hy with
       | [.int k1 x],hx=>
         simp only [kY,cond_eq_ite] at hx
         split at hx
         ·rename_i hk; simp at hk; subst hk; exact⟨x,rfl⟩
         ·cases hx
       | .int _ _::_::_,hx=>simp [kY] at hx
      simp only [lq,Lk,Bool.and_true,Option.some.injEq] at he
      subst he
      simp only [G4,hu,List.headD_cons]
      rw [Op.equalIn]
      simp only [bg,cW hu,Option.bind_some,bV,if_true]
     case struct fs=>
      simp only [Bool.and_eq_true,Bool.not_eq_true'] at h
      obtain⟨hst,h⟩:=h
      simp only [G4,hu]
      have ca: ∀ (fs:List Field) (off:Nat) (zs:List Value) (r:Bool),TB P (LM P n) fs off zs=true→kY zs (xs.drop off)=true→kY zs (ys.drop off)=true→lq (xs.drop off) (ys.drop off)=some r→
        bz P (Op.eqFields (n+d) xs.toArray ys.toArray fs)=some r:=by
       intro fs
       induction fs with
       | nil=>
         intro off zs r h hx hy he
         cases zs with
         | nil=>
           have h1:=qt hx
           have h2:=qt hy
           simp only [List.length_nil,List.length_eq_zero_iff] at h1 h2
           rw [h1,h2] at he
           cases he
           rfl
         | cons=>cases h
       | cons f fs ih=>
         intro off zs r h hx hy he
         simp only [TB,Bool.and_eq_true,bne_iff_ne,ne_eq] at h
         obtain⟨⟨⟨⟨⟨⟨hname,hoff⟩,hpos⟩,hle⟩,hi⟩,h1⟩,h2⟩:=h
         have hoff:=Nat.eq_of_beq_eq_true hoff
         have hpos:0 < P.cellsOf f.type:=Nat.le_of_ble_eq_true hpos
         have hle:P.cellsOf f.type≤zs.length:=Nat.le_of_ble_eq_true hle
         have hlx:=qt hx
         have hly:=qt hy
         rw [List.length_drop] at hlx hly
         obtain⟨i,hi⟩:=Option.isSome_iff_exists.1 hi
         have hu': ∃ D,P.underlying f.type=some D∧ ∀ n e,D≠ .array n e:=by
          cases hun:P.underlying f.type with
          | none=>cases n <;> simp [LM,hun] at h1
          | some D=>refine⟨D,rfl,fun k e he=> ?_⟩; subst he; cases n <;> simp [LM,hun] at h1
         obtain⟨D,hD,hDa⟩:=hu'
         have px:=LN hi hD hDa (xs:=xs) (off:=off) (List.getElem?_eq_getElem (by omega))
         have py:=LN hi hD hDa (xs:=ys) (off:=off) (List.getElem?_eq_getElem (by omega))
         have px:=px.resolve_right (by omega)
         have py:=py.resolve_right (by omega)
         obtain⟨a,b,ha,hb,rfl⟩:=JC (P.cellsOf f.type) he
         have hA:=O8 P n d h1 (tS _ hx).1 (tS _ hy).1 ha
         rw [Op.eqFields,if_pos hname]
         simp only [hoff,bg,px,py,Option.bind_some,hA]
         cases a with
         | false=>rfl
         | true=>
           simp only [Bool.not_true,Bool.false_eq_true,if_false,Bool.true_and]
           simp only [List.drop_drop] at hb
           refine ih _ _ _ h2 ?_ ?_ hb
           ·have:=(tS (P.cellsOf f.type) hx).2; rw [List.drop_drop] at this; exact this
           ·have:=(tS (P.cellsOf f.type) hy).2; rw [List.drop_drop] at this; exact this
      have:=ca fs.toList 0 zs r h (by simpa using hx) (by simpa using hy) (by simpa using he)
      rw [←this]
      rw [Op.equalIn]
      simp only [bg,cW hu,Option.bind_some,program,bz,hst,Bool.false_eq_true,if_false]
      rw [←Array.forIn_toList]
      generalize fs.toList=fs
      clear this ca h hu hst hn
      induction fs with
      | nil=>rfl
      | cons f fs ih=>
        simp only [List.forIn_cons,Op.eqFields]
        split
        ·simp only [bg]
         cases bz P (part f.type xs.toArray f.offset) with
         | none=>rfl
         | some a=>
           cases bz P (part f.type ys.toArray f.offset) with
           | none=>rfl
           | some b=>
             simp only [Option.bind_some]
             cases bz P (Op.equalIn (n+d) f.type a b) with
             | none=>rfl
             | some q=>
               cases q
               ·rfl
               ·simp only [Option.bind_some,Bool.not_true,Bool.false_eq_true,if_false,bV]
                simpa only [bg,Option.bind_assoc] using ih
        ·simp only [bg,bV,Option.bind_some]
         simpa only [bg,Option.bind_assoc] using ih
theorem Vp {P:Program} {t:TypeId} {zs:List Value} {fs:Array Field} (hu:P.underlying t=some (.struct fs)) (h:LM P 8 t zs=true) (a b:List Cl) (r:Bool) (xs ys:List Value) (ha:lc zs a=true) (hb:lc zs b=true) (he:wz a b=some r) (hx:a=xs.map (fun x=> .c (.sc x))) (hy:b=ys.map (fun x=> .c (.sc x))):
  bz P (Op.equal t (.agg xs.toArray) (.agg ys.toArray))=some r:=by
 subst hx hy
 have:=O8 P 8 9992 h (Fo ha) (Fo hb) (by rw [←PX]; exact he)
 unfold G4 at this
 rw [hu] at this
 exact this
end Go.Proofs.YtkcgfceffffmoaaGreat.En
namespace Go.Proofs.YtkcgfceffffmoaaGreat.En
open Go
def V3 (P:Program):List Field→Option (List (Nat×Nat×Bool))
 | [] =>some []
 | f::fs=>match GR P f.type,V3 P fs with
   | some ag,some l=>some ((f.offset,P.cellsOf f.type,ag)::l)
   | _,_=>none
def Wf (P:Program) (t:TypeId):Option (List (Nat×Nat×Bool)):=match P.underlying t with | some (.struct fs)=>V3 P fs.toList | _=>none
theorem O9 {P:Program}: ∀ {fs:List Field} {l:List (Nat×Nat×Bool)},V3 P fs=some l→ ∀ k,(fs[k]?).bind (fun f=>(GR P f.type).map fun ag=>(f.offset,P.cellsOf f.type,ag))=o6 l k
 | [],l,h,k=>by cases h; rfl
 | f::fs,l,h,k=>by
   unfold V3 at h
   split at h
   ·rename_i ag l' h1 h2
    cases h
    cases k with
    | zero=>simp [h1,o6]
    | succ k=>
      show _=o6 l' (k+1 - 1)
      rw [Nat.add_sub_cancel,←O9 h2 k,List.getElem?_cons_succ]
   ·cases h
theorem TC {P:Program} {t:TypeId} {l:List (Nat×Nat×Bool)} (h:Wf P t=some l) (k:Nat):QD P t k=o6 l k:=by
 unfold Wf at h
 unfold QD
 split at h
 ·rename_i fs hu
  simp only [hu]
  rw [←O9 h k,Array.getElem?_toList]
 ·cases h
theorem TD (P:Program):dM P [] :=fun _ _ h=>by cases h
theorem bo {P:Program} {t:Nat} {ti:TI} {l:pc} (h:ti.ok P t) (hl:dM P l):dM P ((t,ti)::l):=by
 intro u ui hu
 unfold nx at hu
 cases hb:Nat.beq t u with
 | true=>
   rw [hb] at hu
   have:=Nat.eq_of_beq_eq_true hb
   subst this
   cases hu
   exact h
 | false=>
   rw [hb] at hu
   exact hl u ui hu
def Vq (P:Program) (t:TypeId):Bool:=match P.underlying t with | some (.struct _)=>true | _=>false
section
variable {P:Program} {t:TypeId}
theorem nS {n:Sn} {fds:List (Nat×Nat×Bool)} {by':Nat} (h1:Vq P t=true) (h2:P.cellsOf t=(Ty.st n).width) (h3:o8 P 9 t=(Ty.st n).shs) (h4:AZ P t=some (Ty.st n).zvs) (h5:Wf P t=some fds)
  (h6:Va P t=some (fds.map fun x=>(x.1,x.2.1))) (h7: ((Ty.st n).flatB=true→P.eqGuardType P.depth t=false∧LM P 8 t (Ty.st n).zvs=true)) (hz: (Ty.st n).flatB=false→ ∀ xs:List Value,lc (Ty.st n).zvs (xs.map fun x=> .c (.sc x))=false):TI.ok P t ⟨.st n,0,fds,by'⟩:=by
 unfold Vq at h1
 split at h1
 case h_2=>cases h1
 rename_i fs hu
 refine⟨?_,h2,h3,h4,TC h5,fun _=>h6,fun e he=>(by cases he),fun hb=>(by cases hb),fun _ hf=>(h7 hf).1,fun _ a b r xs ys ha hb he hx hy=> ?_,?_,fun k hk=>(by cases hk)⟩
 ·simp [GR,hu,Ty.ag]
 ·cases hf: (Ty.st n).flatB with
  | true=>exact Vp hu (h7 hf).2 a b r xs ys ha hb he hx hy
  | false=>
    subst hx
    have:=hz hf xs
    rw [show lc (Ty.st n).zvs _=true from ha] at this
    cases this
 ·simp [IX,hu]
theorem uo {e:Ty} {el:Nat} {by':Nat} {u:TypeId} (h1:yX P t=some u) (h2:P.cellsOf t=1) (h4:AZ P t=some [.slice none 0 0]) (h5:P.cellsOf u=e.width) (h6:P.bytesOf u=el) (h7:Nat.blt 0 el=true) (h8:o8 P 9 u=e.shs) (h9:AZ P u=some e.zvs):TI.ok P t ⟨.ls e,el,[],by'⟩:=by
 have hu:P.underlying t=some (.slice u):=by
  unfold yX at h1
  split at h1
  ·rename_i e hu; cases h1; exact hu
  ·cases h1
 refine⟨?_,h2,?_,h4,fun k=> ?_,fun h=>(by cases h),fun e' he=> ?_,fun hb=>(by cases hb),fun h=>(by cases h),fun h=>(by cases h),?_,fun k hk=>(by cases hk)⟩
 ·simp [GR,hu,Ty.ag]
 ·simp [o8,hu,Ty.shs,Ty.csh,h5]
 ·simp [QD,hu,o6]
 ·cases he
  exact⟨u,h1,h5,h6,Nat.le_of_ble_eq_true h7,h8,h9⟩
 ·simp [IX,hu]
def Wo (P:Program) (t:TypeId) (y:Ty):Bool:=match P.underlying t,y with
 | some (.int k), .i k'=>decide (k=k')
 | some .bool, .b=>true
 | some .string, .s=>true
 | _,_=>false
theorem xe {y:Ty} {by':Nat} (h1:Wo P t y=true) (h2:P.cellsOf t=1) (h4:AZ P t=some y.zvs):TI.ok P t ⟨y,0,[],by'⟩:=by
 unfold Wo at h1
 split at h1
 ·rename_i k k' hu
  refine⟨(by simp [GR,hu,Ty.ag]),h2,(by simp [o8,hu,Ty.shs,Ty.csh]),h4,fun k=>(by simp [QD,hu,o6]),fun h=>(by cases h),fun e' he=>(by cases he),fun hb=>(by cases hb),fun h=>(by cases h),fun h=>(by cases h),by simp [IX,hu],fun q hq=>(by cases hq; rw [hu]; simp only [decide_eq_true_eq] at h1; rw [h1])⟩
 ·rename_i hu
  refine⟨(by simp [GR,hu,Ty.ag]),h2,(by simp [o8,hu,Ty.shs,Ty.csh]),h4,fun k=>(by simp [QD,hu,o6]),fun h=>(by cases h),fun e' he=>(by cases he),fun hb=>hu,fun h=>(by cases h),fun h=>(by cases h),by simp [IX,hu],fun q hq=>(by cases hq)⟩
 ·rename_i hu
  refine⟨(by simp [GR,hu,Ty.ag]),h2,(by simp [o8,hu,Ty.shs,Ty.csh]),h4,fun k=>(by simp [QD,hu,o6]),fun h=>(by cases h),fun e' he=>(by cases he),fun hb=>(by cases hb),fun h=>(by cases h),fun h=>(by cases h),by simp [IX,hu],fun q hq=>(by cases hq)⟩
 ·cases h1
end
theorem gZ: ∀ {zs:List Value} (xs:List Value),zs.any (fun z=>match z with | .int _ _=>false | .bool _=>false | _=>true)=true→lc zs (xs.map fun x=> .c (.sc x))=false
 | [],xs,h=>by cases h
 | z::zs,xs,h=>by
   cases hb:lc (z::zs) (xs.map fun x=> .c (.sc x)) with
   | false=>rfl
   | true=>
     exfalso
     cases xs with
     | nil=>cases z <;> simp [lc] at hb
     | cons x xs=>
       cases z <;> simp only [lc,List.map_cons,Bool.false_eq_true] at hb
       all_goals cases x <;> simp only [lc,cond_eq_ite,Bool.false_eq_true] at hb
       ·rw [gZ xs (by simpa using h)] at hb; cases hb
       ·split at hb
        ·rw [gZ xs (by simpa using h)] at hb; cases hb
        ·cases hb
end Go.Proofs.YtkcgfceffffmoaaGreat.En
namespace Go.Proofs.YtkcgfceffffmoaaGreat.En
open Go
section
variable {σ ε:Type}
def yh (B:σ→Option (σ⊕ε)):Nat→σ→Option ε
 | 0,_=>none
 | n+1,s=>(B s).bind (Sum.elim (yh B n) some)
theorem Bo (B:σ→Option (σ⊕ε)): ∀ {n m:Nat} {s:σ} {e:ε},n≤m→yh B n s=some e→yh B m s=some e
 | 0,_,_,_,_,h=>by cases h
 | n+1,0,_,_,hm,_=>by omega
 | n+1,m+1,s,e,hm,h=>by
   unfold yh at h ⊢
   cases hB:B s with
   | none=>rw [hB] at h; cases h
   | some x=>
     rw [hB] at h
     cases x with
     | inl s'=>exact Bo B (by omega) h
     | inr e'=>exact h
theorem JE {p:Nat→Prop} (h: ∃ n,p n): ∃ n,p n∧ ∀ m,p m→n≤m:=by
 obtain⟨n,hn⟩:=h
 induction n using Nat.strongRecOn with
 | _ n ih=>
   by_cases hx: ∃ m,m < n∧p m
   ·obtain⟨m,hm,hp⟩:=hx
    exact ih m hm hp
   ·exact⟨n,hn,fun m hm=>Nat.le_of_not_lt fun hlt=>hx ⟨m,hlt,hm⟩⟩
noncomputable def jr (B:σ→Option (σ⊕ε)) (s:σ):Option ε:=open Classical in if h: ∃ n,(yh B n s).isSome=true then yh B (Classical.choose h) s else none
noncomputable def fT (B:σ→Option (σ⊕ε)) (s:σ):Nat:=open Classical in if h: ∃ n,(yh B n s).isSome=true then Classical.choose (JE h) else 0
theorem vn {B:σ→Option (σ⊕ε)} {s:σ} {e:ε}:jr B s=some e↔ ∃ n,yh B n s=some e:=by
 classical
 constructor
 ·intro h
  unfold jr at h
  split at h
  ·rename_i hx
   exact⟨_,h⟩
  ·cases h
 ·rintro⟨n,h⟩
  have hx: ∃ n,(yh B n s).isSome=true:=⟨n,by rw [h]; rfl⟩
  unfold jr
  rw [dif_pos hx]
  obtain⟨e',he⟩:=Option.isSome_iff_exists.1 (Classical.choose_spec hx)
  have h1:=Bo B (Nat.le_max_left (Classical.choose hx) n) he
  have h2:=Bo B (Nat.le_max_right (Classical.choose hx) n) h
  rw [h1] at h2
  cases h2
  exact he
theorem vo (B:σ→Option (σ⊕ε)) (s:σ):jr B s=(B s).bind (Sum.elim (jr B) some):=by
 apply Option.ext
 intro e
 rw [vn]
 constructor
 ·rintro⟨n,h⟩
  cases n with
  | zero=>cases h
  | succ n=>
    unfold yh at h
    cases hB:B s with
    | none=>rw [hB] at h; cases h
    | some x=>
      rw [hB] at h
      cases x with
      | inl s'=>exact vn.2 ⟨n,h⟩
      | inr e'=>exact h
 ·intro h
  cases hB:B s with
  | none=>rw [hB] at h; cases h
  | some x=>
    rw [hB] at h
    cases x with
    | inl s'=>
      obtain⟨n,h⟩:=vn.1 (show jr B s'=some e from h)
      exact⟨n+1,by unfold yh; rw [hB]; exact h⟩
    | inr e'=>exact⟨1,by unfold yh; rw [hB]; exact h⟩
theorem aQ (B:σ→Option (σ⊕ε)) (s:σ) (e:ε) (h:jr B s=some e):RQ (jr B) (fT B) s e (B s):=by
 classical
 have h0:=h
 rw [vo] at h
 cases hB:B s with
 | none=>rw [hB] at h; cases h
 | some x=>
   rw [hB] at h
   cases x with
   | inl s'=>
     refine⟨?_,h⟩
     have hx: ∃ n,(yh B n s).isSome=true:=by
      obtain⟨n,hn⟩:=vn.1 h0
      exact⟨n,by rw [hn]; rfl⟩
     have hx': ∃ n,(yh B n s').isSome=true:=by
      obtain⟨n,hn⟩:=vn.1 (show jr B s'=some e from h)
      exact⟨n,by rw [hn]; rfl⟩
     unfold fT
     rw [dif_pos hx,dif_pos hx']
     have:=(Classical.choose_spec (JE hx)).1
     cases hn:Classical.choose (JE hx) with
     | zero=>rw [hn] at this; cases this
     | succ n=>
       rw [hn] at this
       unfold yh at this
       rw [hB] at this
       exact Nat.lt_succ_of_le ((Classical.choose_spec (JE hx')).2 n this)
   | inr e'=>exact (Option.some.inj h)
end
theorem bW {α β γ δ:Type} (x:α⊕β) (f:α→Option γ) (g:β→Option γ) (h:γ→Option δ): (Sum.elim f g x).bind h=Sum.elim (fun a=>(f a).bind h) (fun a=>(g a).bind h) x:=by cases x <;> rfl
inductive G5 where
 | ty (t:Ty) | pr (t:Ty) | fc (g:Nat) | fn (g:Nat) (caps:List Ty)
abbrev G5.D:G5→Type
 | .ty t=>t.D
 | .pr t=>t.D
 | .fc _=>Unit
 | .fn _ caps=>rC.D caps
abbrev qS.D:List G5→Type
 | [] =>Unit
 | p::l=>p.D×qS.D l
def JF: (l:List Ty)→rC.D l→List Cl
 | [],_=> []
 | t::l,x=> .pro (t.flat x.1)::JF l x.2
def G5.v1: (p:G5)→p.D→V1
 | .ty t,x=>OO t x
 | .pr t,x=> .cl (.pro (t.flat x))
 | .fc g,_=> .cl (.c (.sc (.func (.func g) #[] #[])))
 | .fn g caps,x=> .fn g (JF caps x)
def oe: (l:List G5)→qS.D l→List V1
 | [],_=> []
 | p::l,x=>p.v1 x.1::oe l x.2
def TE {ρ:Type} (t:Ty) (c:Cl) (κ:t.D→Option ρ):Option ρ:=match c with
 | .pro xs=>(match t.unflat xs with | some x=>κ x | none=>none)
 | _=>none
def Bp {ρ:Type}: (l:List Ty)→List Cl→(rC.D l→Option ρ)→Option ρ
 | [],[],κ=>κ ()
 | t::l,c::cs,κ=>TE t c fun x=>Bp l cs fun y=>κ (x,y)
 | _,_,_=>none
def V4 {ρ:Type}: (p:G5)→V1→(p.D→Option ρ)→Option ρ
 | .ty t,a,κ=>un t a κ
 | .pr t, .cl c,κ=>TE t c κ
 | .fc g, .cl (.c (.sc (.func (.func g') cs ts))),κ=>bif Nat.beq g' g&&Nat.beq cs.size 0&&Nat.beq ts.size 0 then κ () else none
 | .fn g caps, .fn g' cs,κ=>bif Nat.beq g' g then Bp caps cs κ else none
 | _,_,_=>none
def Dh {ρ:Type}: (l:List G5)→List V1→(qS.D l→Option ρ)→Option ρ
 | [],[],κ=>κ ()
 | p::l,a::as,κ=>V4 p a fun x=>Dh l as fun y=>κ (x,y)
 | _,_,_=>none
def bA (ps:List G5) (rs:List Ty) (G:qS.D ps→Option (rC.D rs)):bn:=fun args _ κ=>Dh ps args fun x=>(G x).bind fun y=>ret (aE rs y) κ
theorem It {ρ:Type} {t:Ty} {c:Cl} {κ:t.D→Option ρ} {r:ρ} (h:TE t c κ=some r): ∃ x,c= .pro (t.flat x)∧κ x=some r:=by
 unfold TE at h
 split at h
 ·split at h
  ·rename_i x hx
   exact⟨x,by rw [t.unflat_some _ _ hx],h⟩
  ·cases h
 ·cases h
theorem CB {ρ:Type}: ∀ {l:List Ty} {cs:List Cl} {κ:rC.D l→Option ρ} {r:ρ},Bp l cs κ=some r→ ∃ x,cs=JF l x∧κ x=some r
 | [],[],κ,r,h=>⟨(),rfl,h⟩
 | t::l,c::cs,κ,r,h=>by
   unfold Bp at h
   obtain⟨x,h1,h⟩:=It h
   obtain⟨y,h2,h⟩:=CB h
   exact⟨(x,y),by rw [h1,h2]; rfl,h⟩
 | [],_::_,κ,r,h=>by simp [Bp] at h
 | _::_,[],κ,r,h=>by simp [Bp] at h
theorem RV {ρ:Type} {p:G5} {a:V1} {κ:p.D→Option ρ} {r:ρ} (h:V4 p a κ=some r): ∃ x,a=p.v1 x∧κ x=some r:=by
 unfold V4 at h
 split at h
 ·exact un_some h
 ·obtain⟨x,h1,h⟩:=It h
  exact⟨x,by rw [h1]; rfl,h⟩
 ·obtain⟨h1,h⟩:=ar h
  simp only [Bool.and_eq_true] at h1
  obtain⟨⟨h1,h2⟩,h3⟩:=h1
  have h1:=Nat.eq_of_beq_eq_true h1
  have h2:=Array.eq_empty_of_size_eq_zero (Nat.eq_of_beq_eq_true h2)
  have h3:=Array.eq_empty_of_size_eq_zero (Nat.eq_of_beq_eq_true h3)
  exact⟨(),by rw [h1,h2,h3]; rfl,h⟩
 ·obtain⟨h1,h⟩:=ar h
  obtain⟨x,h2,h⟩:=CB h
  exact⟨x,by rw [Nat.eq_of_beq_eq_true h1,h2]; rfl,h⟩
 ·cases h
theorem sX {ρ:Type}: ∀ {l:List G5} {as:List V1} {κ:qS.D l→Option ρ} {r:ρ},Dh l as κ=some r→ ∃ x,as=oe l x∧κ x=some r
 | [],[],κ,r,h=>⟨(),rfl,h⟩
 | p::l,a::as,κ,r,h=>by
   unfold Dh at h
   obtain⟨x,h1,h⟩:=RV h
   obtain⟨y,h2,h⟩:=sX h
   exact⟨(x,y),by rw [h1,h2]; rfl,h⟩
 | [],_::_,κ,r,h=>by simp [Dh] at h
 | _::_,[],κ,r,h=>by simp [Dh] at h
theorem Iu (G:List (Option bJ)): ∀ (l:List Ty) (x:rC.D l),∀ c∈JF l x,c.ok G
 | [],x,c,h=>by cases h
 | t::l,x,c,h=>by
   rcases List.mem_cons.1 h with rfl | h
   ·trivial
   ·exact Iu G l x.2 c h
theorem G5.ok (p:G5) (x:p.D): (p.v1 x).ok [] :=by
 cases p with
 | ty t=>exact UE t x
 | pr t=>trivial
 | fc g=>trivial
 | fn g caps=>exact Iu [] caps x
theorem sY: ∀ (l:List G5) (x:qS.D l),∀ a∈oe l x,a.ok []
 | [],x,a,h=>by cases h
 | p::l,x,a,h=>by
   rcases List.mem_cons.1 h with rfl | h
   ·exact p.ok x.1
   ·exact sY l x.2 a h
theorem al {P:Program} {Θ:pc} {Y:zm} {Λ:o7} (hΘ:dM P Θ) (hY:aw P Y) (hm:P.follows .mixedOrders=true) {f:FuncId} {fn:Func} (hf:OJ P f=some fn) (hL: ∀ c,fn.body=some c→fD P Λ (ey c)) {ps:List G5} {rs:List Ty} {G:qS.D ps→Option (rC.D rs)} (hk:Nat.blt f 1048576=true)
  (F:qS.D ps→Option (rC.D rs)) (hF: ∀ x,Wd Θ Y Λ fn (oe ps x) (fun v g=>some (v,g))=(F x).bind fun y=>ret (aE rs y) (fun v g=>some (v,g))) (hG: ∀ x y,G x=some y→F x=some y):aD P f (bA ps rs G):=by
 intro args ρ κ r hr
 unfold bA at hr
 obtain⟨x,rfl,hr2⟩:=sX hr
 obtain⟨y,h1,hr3⟩:=Option.bind_eq_some_iff.1 hr2
 exact⟨_,_, .of_fn (UA hΘ hY hm hf hL (sY ps x) (by rw [hF,hG x y h1]; rfl)) (Nat.le_of_ble_eq_true hk),RT _,hr3⟩
def TF (el:Ty) (ps:List G5) (rs:List Ty) (G:List el.D→qS.D ps→Option (rC.D rs)):bn:=fun args _ κ=>match args with
 | .cl (.c (.ls t l))::as=>(match vh t el l with
   | some l=>Dh ps as fun x=>(G l x).bind fun y=>ret (aE rs y) κ
   | none=>none)
 | _=>none
def G6 {ρ:Type} (el:Ty) (rs:List Ty) (y:List el.D×rC.D rs) (κ:V→List bJ→Option ρ):Option ρ:=κ (wU (xb 1 (aE rs y.2))) (⟨el,y.1,none⟩::xd (aE rs y.2))
def G7 (el:Ty) (ps:List G5) (rs:List Ty) (G:List el.D→qS.D ps→Option (List el.D×rC.D rs)):bn:=fun args _ κ=>match args with
 | .cl (.c (.ls t l))::as=>(match vh t el l with
   | some l=>Dh ps as fun x=>(G l x).bind fun y=>G6 el rs y κ
   | none=>none)
 | _=>none
theorem Pa {P:Program} {Θ:pc} {Y:zm} {Λ:o7} (hΘ:dM P Θ) (hY:aw P Y) (hm:P.follows .mixedOrders=true) {f:FuncId} {fn:Func} (hf:OJ P f=some fn) (hL: ∀ c,fn.body=some c→fD P Λ (ey c)) {el:Ty} {ps:List G5} {rs:List Ty} {G:List el.D→qS.D ps→Option (rC.D rs)}
  (F:List el.D→qS.D ps→Option (rC.D rs)) (hF: ∀ l x,SY Θ Y Λ fn 0 el l (oe ps x) (fun v g=>some (v,g))=(F l x).bind fun y=>ret (aE rs y) (fun v g=>some (v,g))) (hG: ∀ l x y,G l x=some y→F l x=some y):aD P (E6 f) (TF el ps rs G):=by
 intro args ρ κ r hr
 unfold TF at hr
 split at hr
 ·rename_i t l as
  split at hr
  ·rename_i l' hl
   obtain⟨e,hl⟩:=fk hl
   subst e
   have hl:l=l':=hl
   subst hl
   obtain⟨x,rfl,hr2⟩:=sX hr
   obtain⟨y,h1,hr3⟩:=Option.bind_eq_some_iff.1 hr2
   exact⟨_,_, .of_mv ⟨.ls _,l,_,rfl,O2 hΘ hY hm hf hL (Nat.zero_le 1) (sY ps x) (by rw [hF,hG l x y h1]; rfl)⟩,RT _,hr3⟩
  ·cases hr
 ·cases hr
theorem TG (el:Ty) (l:List el.D) (ys:List ((t:Ty)×t.D)): (wU (xb 1 ys)).ok ((⟨el,l,none⟩::xd ys).map some):=by
 have h:=zy ys [⟨el,l,none⟩]
 simp only [List.length_singleton,List.singleton_append] at h
 match xb 1 ys,h with
 | [],_=>exact fun x hx=>by cases hx
 | [v],h=>exact h v List.mem_cons_self
 | v::u::vs,h=>exact h
theorem rL {P:Program} {Θ:pc} {Y:zm} {Λ:o7} (hΘ:dM P Θ) (hY:aw P Y) (hm:P.follows .mixedOrders=true) {f:FuncId} {fn:Func} (hf:OJ P f=some fn) (hL: ∀ c,fn.body=some c→fD P Λ (ey c)) {el:Ty} {ps:List G5} {rs:List Ty} {G:List el.D→qS.D ps→Option (List el.D×rC.D rs)} (hk:Nat.blt f 1048576=true)
  (F:List el.D→qS.D ps→Option (List el.D×rC.D rs)) (hF: ∀ l x,SY Θ Y Λ fn 1 el l (oe ps x) (fun v g=>some (v,g))=(F l x).bind fun y=>G6 el rs y (fun v g=>some (v,g))) (hG: ∀ l x y,G l x=some y→F l x=some y):aD P (mB f) (G7 el ps rs G):=by
 intro args ρ κ r hr
 unfold G7 at hr
 split at hr
 ·rename_i t l as
  split at hr
  ·rename_i l' hl
   obtain⟨e,hl⟩:=fk hl
   subst e
   have hl:l=l':=hl
   subst hl
   obtain⟨x,rfl,hr2⟩:=sX hr
   obtain⟨y,h1,hr3⟩:=Option.bind_eq_some_iff.1 hr2
   exact⟨_,_, .of_io ⟨.ls _,l,_,rfl,O2 hΘ hY hm hf hL (Nat.le_refl 1) (sY ps x) (by rw [hF,hG l x y h1]; rfl)⟩ (Nat.le_of_ble_eq_true hk),TG _ _ (aE rs y.2),hr3⟩
  ·cases hr
 ·cases hr
def TH {ρ:Type} (t:Ty) (rs:List Ty) (y:t.D×rC.D rs) (κ:V→List bJ→Option ρ):Option ρ:=κ (wU (xb (mD (t.flat y.1)).length (aE rs y.2))) (mD (t.flat y.1)++xd (aE rs y.2))
def TJ (t:Ty) (ps:List G5) (rs:List Ty) (G:t.D→qS.D ps→Option (t.D×rC.D rs)):bn:=fun args _ κ=>match args with
 | a::as=>un t a fun x=>Dh ps as fun p=>(G x p).bind fun y=>TH t rs y κ
 | [] =>none
theorem Pb {P:Program} {Θ:pc} {Y:zm} {Λ:o7} (hΘ:dM P Θ) (hY:aw P Y) (hm:P.follows .mixedOrders=true) {f:FuncId} {fn:Func} (hf:OJ P f=some fn) (hL: ∀ c,fn.body=some c→fD P Λ (ey c)) {t:Ty} {ps:List G5} {rs:List Ty} {G:t.D→qS.D ps→Option (t.D×rC.D rs)} (hk:Nat.blt f 1048576=true)
  (F:t.D→qS.D ps→Option (t.D×rC.D rs)) (hF: ∀ l x,Uy Θ Y Λ fn t l (oe ps x) (fun v g=>some (v,g))=(F l x).bind fun y=>TH t rs y (fun v g=>some (v,g))) (hG: ∀ l x y,G l x=some y→F l x=some y):aD P (mB f) (TJ t ps rs G):=by
 intro args ρ κ r hr
 unfold TJ at hr
 split at hr
 ·rename_i a as
  obtain⟨l,rfl,hr1⟩:=un_some hr
  obtain⟨x,rfl,hr2⟩:=sX hr1
  obtain⟨y,h1,hr3⟩:=Option.bind_eq_some_iff.1 hr2
  refine⟨_,_, .of_io ⟨t,l,_,rfl,Tt hΘ hY hm hf hL (sY ps x) (by rw [hF,hG l x y h1]; rfl)⟩ (Nat.le_of_ble_eq_true hk),?_,hr3⟩
  have h:=zy (aE rs y.2) (mD (t.flat y.1))
  match xb (mD (t.flat y.1)).length (aE rs y.2),h with
  | [],_=>exact fun x hx=>by cases hx
  | [v],h=>exact h v List.mem_cons_self
  | v::u::vs,h=>exact h
 ·cases hr
def bT (fn:Func):Code:=match fn.body with | some c=>c | none=> .skip
def b9 (c:Code) (n:Nat):Code:=(o6 (ey c) n).getD .skip
theorem aF {P:Program} {Λ:o7} {fn:Func} {cs:List Code} (h:ey (bT fn)=cs) (H:fD P Λ cs) (c:Code) (hc:fn.body=some c):fD P Λ (ey c):=by
 have :bT fn=c:=by unfold bT; rw [hc]
 rw [←this,h]
 exact H
theorem df {P:Program} {Λ:o7} {c:Code} {cs:List Code} (h:ey c=cs) (H:fD P Λ cs):fD P Λ (ey c):=by rw [h]; exact H
end Go.Proofs.YtkcgfceffffmoaaGreat.En
