import Derived.Test.YtkcgfceffffmoaaGreatZX7
namespace Go.Proofs.YtkcgfceffffmoaaGreat.En
open Go
section
variable {ρ:Type} {P:Program} {Θ:qO} {S:TS} {Y:Bu}
theorem Rb (hS:S.ok) {gs:List b6} {et:Option Ty} {c:Cl} (hc:c.ok S.gh) {κ:Cl→List b6→TS→Option ρ} {r:ρ} (h:Vf S gs et c κ=some r):
  ∃ c' gs' S',Fp S.st (gs.map b6.tree) (Pw et) c.av=some (Cl.av c',gs'.map b6.tree,TS.st S')∧S'.ok∧iR S.gh S'.gh∧iR (gs.map some) (gs'.map some)∧c'.ok (gs'.map some)∧κ c' gs' S'=some r:=by
 have new: ∀ (t:Ty) (l:List t.D) (n:Nat),n=l.length→(Cl.own ⟨gs.length,[]⟩ t.width 0 n true).ok ((gs++ [(⟨t,l,none⟩:b6)]).map some):=by
  intro t l n hn
  refine⟨by simp,fun _=>⟨rfl,rfl,fun tr htr=> ?_⟩⟩
  rw [List.map_append] at htr
  have e:=ow (G:=gs.map some) (x:=some (⟨t,l,none⟩:b6)) gs.length
  simp only [List.length_map,if_true] at e
  have htr':dg (gs.map some++ [some (⟨t,l,none⟩:b6)]) gs.length=some tr:=htr
  rw [e] at htr'
  cases htr'
  exact hn
 have grow: ∀ (x:b6),iR (gs.map some) ((gs++ [x]).map some):=fun x=>by rw [List.map_append]; exact iR.app _ _
 unfold Vf at h
 split at h
 ·refine⟨_,_,_,rfl,hS,iR.refl _,iR.refl _,?_,h⟩
  trivial
 ·rename_i t
  refine⟨_,_,S,?_,hS,iR.refl _,grow _,new t [] 0 rfl,h⟩
  simp only [Cl.av,Fp,Pw,List.length_map,List.map_append,List.map_cons,List.map_nil]
  rfl
 ·rename_i p sz lo len w t'
  obtain⟨pr,pl⟩:=p
  cases pl with
  | cons a l=>cases h
  | nil=>
    simp only at h
    obtain⟨h1,h'⟩:=au h
    clear h
    simp only [Bool.and_eq_true] at h1
    have h2:S.fz≤pr:=Nat.le_of_ble_eq_true h1.1
    have h3:t'.width=sz:=Nat.eq_of_beq_eq_true h1.2
    obtain⟨t,l,k1,k2,h⟩:=fu h'
    obtain⟨k3,h⟩:=au h
    have k3:t.width=sz:=Nat.eq_of_beq_eq_true k3
    have fin: ∀ (len:Nat),len≤l.length→Fp S.st (gs.map b6.tree) (Pw (some t')) (.own ⟨pr,[]⟩ sz 0 len)=some (.own ⟨gs.length,[]⟩ sz 0 len,(gs++ [(⟨t,l.take len,none⟩:b6)]).map b6.tree,({ S with gh:=dv S.gh pr none }:TS).st):=by
     intro len hlen
     simp only [Fp]
     have hrows:S.st.rows ⟨pr,[]⟩ sz=some (l.map t.row):=by rw [←k3]; exact my k1
     rw [if_pos ⟨trivial,by show sz=t'.width; exact h3.symm,trivial,h2⟩,hrows]
     simp only [Option.bind_some,List.length_map]
     rw [if_pos hlen,Bw]
     simp only [Pw,h3,List.map_append,List.map_cons,List.map_nil,b6.tree,List.map_take,k3]
    cases w with
    | true=>
      obtain⟨e1,e2,e3⟩:=xi hc k2
      refine⟨_,_,_,?_,TS.ok_gh hS (iR.gone _ _),iR.gone _ _,grow _,by rw [←k3]; exact new t l _ rfl,h⟩
      have:=fin l.length (Nat.le_refl _)
      rw [List.take_length] at this
      simp only [Cl.av]
      rw [e2,e3]
      exact this
    | false=>
      simp only [cond_false] at h
      obtain⟨h4,h⟩:=dF h
      refine⟨_,_,_,?_,TS.ok_gh hS (iR.gone _ _),iR.gone _ _,grow _,by rw [←k3]; exact new t (l.take len) _ rfl,h⟩
      have hl: (l.take len).length=len:=by simp; omega
      simp only [Cl.av]
      rw [h4.1,hl]
      exact fin len h4.2
 ·cases h
theorem Ua: ∀ (ets:List (Option Ty)) (cs:List Cl) (S:TS) (gs:List b6) (κ:List Cl→List b6→TS→Option ρ) (r:ρ),S.ok→(∀ c∈cs,c.ok S.gh)→QY S gs ets cs κ=some r→
  ∃ cs' gs' S',vw S.st (gs.map b6.tree) (ets.map Pw) (cs.map Cl.av)=some (cs'.map Cl.av,gs'.map b6.tree,TS.st S')∧S'.ok∧iR S.gh S'.gh∧iR (gs.map some) (gs'.map some)∧(∀ c∈cs',c.ok (gs'.map some))∧κ cs' gs' S'=some r:=by
 intro ets
 induction ets with
 | nil=>
   intro cs S gs κ r hS hcs h
   cases cs with
   | nil=>exact⟨[],gs,S,rfl,hS,iR.refl _,iR.refl _,(fun c hc=>by cases hc),h⟩
   | cons c cs=>cases h
 | cons et ets ih=>
   intro cs S gs κ r hS hcs h
   cases cs with
   | nil=>cases h
   | cons c cs=>
     unfold QY at h
     obtain⟨c',g1,S1,h1,h2,h3,h4,h5,h⟩:=Rb hS (hcs c List.mem_cons_self) h
     obtain⟨cs',g2,S2,k1,k2,k3,k4,k5,h⟩:=ih cs S1 g1 _ r h2 (fun x hx=>Cl.ok_mono h3 (hcs x (List.mem_cons_of_mem _ hx))) h
     refine⟨c'::cs',g2,S2,?_,k2,h3.trans k3,h4.trans k4,fun x hx=> ?_,h⟩
     ·simp only [List.map_cons,vw,h1,Option.bind_some,k1,Option.map_some]
     ·rcases List.mem_cons.1 hx with rfl | hx
      ·exact Cl.ok_mono k4 h5
      ·exact k5 x hx
theorem VF (hΘ:eC P Θ) (hS:S.ok) {gs:List b6} {t:TypeId} {v:V} (hv:v.ok S.gh) {κ:V1→List b6→TS→Option ρ} {r:ρ} (h:WH Θ S gs t v κ=some r):
  ∃ v' gs' S',RD P S.st (gs.map b6.tree) t v.av=some (V1.av v',gs'.map b6.tree,TS.st S')∧S'.ok∧iR S.gh S'.gh∧iR (gs.map some) (gs'.map some)∧v'.ok (gs'.map some)∧κ v' gs' S'=some r:=by
 unfold WH at h
 split at h
 ·cases h
 ·rename_i ti hti
  have hsh:=(hΘ _ _ hti).sh
  split at h
  ·rename_i cs
   obtain⟨cs',g1,S1,h1,h2,h3,h4,h5,h⟩:=Ua _ _ _ _ _ _ hS hv h
   refine⟨.agg cs',g1,S1,?_,h2,h3,h4,h5,h⟩
   simp only [V.av,V1.av,RD,hsh]
   rw [show ti.ty.shs=ti.ty.csh.map Pw from rfl,h1]
   rfl
  ·rename_i c
   obtain⟨c',g1,S1,h1,h2,h3,h4,h5,h⟩:=Rb hS hv h
   refine⟨.cl c',g1,S1,?_,h2,h3,h4,h5,h⟩
   have e:RD P S.st (gs.map b6.tree) t (V.v (.cl c)).av=Fp S.st (gs.map b6.tree) ((qK P 9 t).headD 0) c.av:=by
    cases c with
    | c x=>cases x <;> rfl
    | _=>rfl
   rw [e,hsh]
   have e2:ti.ty.shs.headD 0=Pw (ti.ty.csh.headD none):=by
    unfold Ty.shs
    cases ti.ty.csh with
    | nil=>rfl
    | cons a l=>cases a <;> rfl
   rw [e2]
   exact h1
  ·cases h
theorem Ht (hΘ:eC P Θ): ∀ (rs:List (TypeId×V)) (S:TS) (gs:List b6) (κ:List V1→List b6→Option ρ) (r:ρ),S.ok→(∀ x∈rs,x.2.ok S.gh)→uO Θ S gs rs κ=some r→
  ∃ vs gs',MZ P S.st (gs.map b6.tree) (rs.map fun x=>(x.1,x.2.av))=some (vs.map V1.av,gs'.map b6.tree)∧iR (gs.map some) (gs'.map some)∧(∀ v∈vs,v.ok (gs'.map some))∧vs.length=rs.length∧κ vs gs'=some r:=by
 intro rs
 induction rs with
 | nil=>intro S gs κ r hS hrs h; exact⟨[],gs,rfl,iR.refl _,(fun v hv=>by cases hv),rfl,h⟩
 | cons x rs ih=>
   intro S gs κ r hS hrs h
   obtain⟨t,v⟩:=x
   unfold uO at h
   obtain⟨v',g1,S1,h1,h2,h3,h4,h5,h⟩:=VF hΘ hS (hrs _ List.mem_cons_self) h
   obtain⟨vs,g2,k1,k2,k3,k4,h⟩:=ih S1 g1 _ r h2 (fun x hx=>V.ok_mono h3 (hrs x (List.mem_cons_of_mem _ hx))) h
   refine⟨v'::vs,g2,?_,h4.trans k2,fun y hy=> ?_,by simp [k4],h⟩
   ·simp only [List.map_cons,MZ,h1,Option.bind_some,k1,Option.map_some]
   ·rcases List.mem_cons.1 hy with rfl | hy
    ·exact V1.ok_mono k2 h5
    ·exact k3 y hy
theorem LL (hΘ:eC P Θ) (hS:S.ok): ∀ (rs:List ResultVar) (ts:List TypeId) (κ:List (TypeId×V)→Option ρ) (r:ρ),Ft Θ S rs ts κ=some r→
  ∃ l:List (TypeId×V),rs.mapM (Br P S.st)=some (l.map fun x=>x.2.av)∧l.map (·.1)=ts∧(∀ x∈l,x.2.ok S.gh)∧κ l=some r:=by
 intro rs
 induction rs with
 | nil=>
   intro ts κ r h
   cases ts with
   | nil=>exact⟨[],rfl,rfl,(fun x hx=>by cases hx),h⟩
   | cons t ts=>cases h
 | cons a rs ih=>
   intro ts κ r h
   cases ts with
   | nil=>cases a <;> cases h
   | cons t ts=>
     cases a with
     | tmp a=>
       unfold Ft at h
       obtain⟨l,h1,h2,h3,h⟩:=ih ts _ r h
       refine⟨(t,i6 S.env a)::l,?_,by simp [h2],fun x hx=> ?_,h⟩
       ·simp only [List.mapM_cons,h1,Br]
        rfl
       ·rcases List.mem_cons.1 hx with rfl | hx
        ·exact Gx hS a
        ·exact h3 x hx
     | cell a t'=>
       unfold Ft at h
       have hw:0 < P.cellsOf t':=by
        have h':=h
        unfold NC at h'
        split at h'
        ·rename_i ti hti
         rw [(hΘ _ _ hti).cells]
         exact Ty.width_pos _
        ·cases h'
       obtain⟨u,g1,g2,h⟩:=NM hΘ hS (Gx hS a) h
       obtain⟨l,h1,h2,h3,h⟩:=ih ts _ r h
       refine⟨(t,u)::l,?_,by simp [h2],fun x hx=> ?_,h⟩
       ·simp only [List.mapM_cons,h1,Br]
        rw [if_pos hw]
        have :load P S.st t' (S.st.env a)=some u.av:=g1
        rw [this]
        rfl
       ·rcases List.mem_cons.1 hx with rfl | hx
        ·exact g2
        ·exact h3 x hx
theorem Gz {α β γ:Type} (f:α×β→γ): ∀ l:List (α×β),(l.map (·.1)).zip (l.map f)=l.map fun x=>(x.1,f x)
 | [] =>rfl
 | a::l=>by simp only [List.map_cons,List.zip_cons_cons,Gz f l]
theorem LM (vs:List V1): (yZ vs).av=Xq (vs.map V1.av):=by
 match vs with
 | [] =>rfl
 | [v] =>rfl
 | v::u::vs=>rfl
theorem Av: ∀ (args:List V1) (n t:Nat),(i6 (mW n args) (n+t)).av=(args.map V1.av).getD t .dead
 | [],n,t=>by simp [mW,i6]; rfl
 | a::l,n,0=>by simp [mW,i6]; rfl
 | a::l,n,t+1=>by
   have :Nat.beq n (n+(t+1))=false:=by
    cases h:Nat.beq n (n+(t+1)) with
    | false=>rfl
    | true=>have:=Nat.eq_of_beq_eq_true h; omega
   simp only [mW,i6,this,cond_false]
   rw [show n+(t+1)=(n+1)+t by omega,Av l (n+1) t]
   simp
theorem vG: ∀ (args:List V1) (n:Nat) (x:Nat×V),x∈mW n args→ ∃ a∈args,x.2= .v a
 | [],n,x,h=>by cases h
 | a::l,n,x,h=>by
   simp only [mW,List.mem_cons] at h
   rcases h with rfl | h
   ·exact⟨a,List.mem_cons_self,rfl⟩
   ·obtain⟨b,hb,he⟩:=vG l (n+1) x h
    exact⟨b,List.mem_cons_of_mem _ hb,he⟩
theorem WM (hΘ:eC P Θ) (hY:ar P Y) (hm:P.follows .mixedOrders=true) {Λ:qJ} {f:FuncId} {fn:Func} (hf:QV P f=some fn) (hL: ∀ c,fn.body=some c→gE P Λ (fo c)) {args:List V1} (ha: ∀ a∈args,a.ok []) {res:V} {out:List b6}
  (h:Yn Θ Y Λ fn args (fun v g=>some (v,g))=some (res,out)):C9 P f (args.map V1.av) [] res.av (out.map b6.tree):=by
 unfold Yn at h
 split at h
 ·cases h
 ·rename_i c hc
  have hcok:mU P c=true:=by
   unfold QV at hf
   simp only [Option.bind_eq_some_iff] at hf
   obtain⟨fn',g1,g2⟩:=hf
   split at g2
   ·cases g2
   ·rename_i c' hc'
    split at g2
    ·cases g2
    ·rename_i hn
     simp only [Option.some.injEq] at g2
     subst g2
     rw [hc] at hc'
     simp only [Option.some.injEq] at hc'
     subst hc'
     simp only [Bool.or_eq_true,not_or,Bool.not_eq_true,Bool.not_eq_false'] at hn
     exact hn.2
  have hS0: ({ env:=mW 0 args,bx:= [],gh:= [],fz:=0,nt:=args.length+(fn.ntmps - args.length) }:TS).ok:=
   ⟨fun x hx=>by obtain⟨a,h1,h2⟩:=vG _ _ _ hx; rw [h2]; exact ha a h1,fun cs hcs=>by cases hcs⟩
  have hbeg: ({ env:=mW 0 args,bx:= [],gh:= [],fz:=0,nt:=args.length+(fn.ntmps - args.length) }:TS).st=G7 fn.ntmps (args.map V1.av) [] :=by
   unfold TS.st G7
   simp only [List.length_map,List.length_nil]
   congr 1
   funext t
   have:=Av args 0 t
   rw [Nat.zero_add] at this
   exact this
  have hW:=BC hΘ hY hm c _ _ _ hcok (hL c hc) hS0 h
  rw [hbeg] at hW
  have ce: ∀ (x:X) (S1:TS),S1.ok→(match x with | .ext _=>none | _=>Ft Θ S1 fn.results.toList fn.resultTypes.toList fun rs=>uO Θ S1 [] rs fun vs gs=>some (yZ vs,gs))=some (res,out)→
    (match x with | .ext _=>False | _=>Bs P fn.results.toList fn.resultTypes.toList 0 S1.st=some (res.av,out.map b6.tree)):=by
   intro x S1 hS1 h
   have main: (Ft Θ S1 fn.results.toList fn.resultTypes.toList fun rs=>uO Θ S1 [] rs fun vs gs=>some (yZ vs,gs))=some (res,out)→Bs P fn.results.toList fn.resultTypes.toList 0 S1.st=some (res.av,out.map b6.tree):=by
    intro h
    obtain⟨l,h1,h2,h3,h⟩:=LL (P:=P) hΘ hS1 _ _ _ _ h
    obtain⟨vs,gs',k1,k2,k3,k4,h⟩:=Ht (P:=P) hΘ _ _ _ _ _ hS1 h3 h
    simp only [Option.some.injEq,Prod.mk.injEq] at h
    obtain⟨rfl,rfl⟩:=h
    unfold Bs
    rw [h1]
    simp only [Option.bind_some,List.length_map]
    have hz: (fn.resultTypes.toList.zip (l.map fun x=>x.2.av))=l.map fun x=>(x.1,x.2.av):=by
     rw [←h2]
     exact Gz _ l
    rw [if_pos (by rw [←h2]; simp),hz]
    have k1':MZ P S1.st [] (l.map fun x=>(x.1,x.2.av))=some (vs.map V1.av,gs'.map b6.tree):=k1
    simp only [List.range_zero,List.map_nil,k1',Option.map_some,LM]
   cases x with
   | ext i=>cases h
   | nor=>exact main h
   | ret=>exact main h
  refine Nu hf hc (hW.mono (fun x S' hx=>⟨S',qG.refl,?_⟩))
  obtain⟨S1,rfl,h1,h2⟩:=hx
  have:=ce x S1 h1 h2
  cases x <;> exact this
theorem EM (a:List V1) (t:Nat): (i6 (mW 0 a) t).av=(a.map V1.av).getD t .dead:=by
 have:=Av a 0 t
 rwa [Nat.zero_add] at this
theorem Rc (hΘ:eC P Θ) (hY:ar P Y) (hm:P.follows .mixedOrders=true) {Λ:qJ} {f:FuncId} {fn:Func} (hf:QV P f=some fn) (hL: ∀ c,fn.body=some c→gE P Λ (fo c)) {m:Nat} (hm1:m≤1) {el:Ty} {l:List el.D} {args:List V1} (ha: ∀ a∈args,a.ok []) {res:V} {out:List b6}
  (h:Vg Θ Y Λ fn m el l args (fun v g=>some (v,g))=some (res,out)):uj P f (.own ⟨0,[]⟩ el.width 0 l.length::args.map V1.av) [.sl el.width (l.map el.row)] m res.av (out.map b6.tree):=by
 unfold Vg at h
 split at h
 ·cases h
 ·rename_i c hc
  have hcok:mU P c=true:=by
   unfold QV at hf
   simp only [Option.bind_eq_some_iff] at hf
   obtain⟨fn',g1,g2⟩:=hf
   split at g2
   ·cases g2
   ·rename_i c' hc'
    split at g2
    ·cases g2
    ·rename_i hn
     simp only [Option.some.injEq] at g2
     subst g2
     rw [hc] at hc'
     simp only [Option.some.injEq] at hc'
     subst hc'
     simp only [Bool.or_eq_true,not_or,Bool.not_eq_true,Bool.not_eq_false'] at hn
     exact hn.2
  have hS0: ({ env:=mW 0 (.cl (.own ⟨0,[]⟩ el.width 0 l.length true)::args),bx:= [],gh:= [some ⟨el,l,none⟩],fz:=m,nt:=(args.length+1)+(fn.ntmps - (args.length+1)) }:TS).ok:=
   ⟨fun x hx=>by
    obtain⟨a,h1,h2⟩:=vG _ _ _ hx
    rw [h2]
    rcases List.mem_cons.1 h1 with rfl | h1
    ·refine⟨Nat.zero_lt_one,fun _=>⟨rfl,rfl,fun tr htr=> ?_⟩⟩
     have htr:some (⟨el,l,none⟩:b6)=some tr:=htr
     cases htr
     rfl
    ·exact V1.ok_mono (G:= []) ⟨Nat.zero_le _,fun r tr hr=>by cases hr⟩ (ha a h1),fun cs hcs=>by cases hcs⟩
  have hbeg: ({ env:=mW 0 (.cl (.own ⟨0,[]⟩ el.width 0 l.length true)::args),bx:= [],gh:= [some ⟨el,l,none⟩],fz:=m,nt:=(args.length+1)+(fn.ntmps - (args.length+1)) }:TS).st=Nx fn.ntmps (.own ⟨0,[]⟩ el.width 0 l.length::args.map V1.av) [.sl el.width (l.map el.row)] m:=by
   unfold TS.st Nx G7
   simp only [List.length_map,List.length_cons,List.length_nil]
   congr 1
   ·funext t
    exact EM _ t
   ·funext r
    show (dg [some ⟨el,l,none⟩] r).map b6.tree= [T.sl el.width (l.map el.row)][r]?
    unfold dg
    rw [dN]
    cases r <;> rfl
  have hW:=BC hΘ hY hm c _ _ _ hcok (hL c hc) hS0 h
  rw [hbeg] at hW
  have fin: ∀ (S1:TS),S1.ok→ ∀ gs:List b6,((List.range m).map fun r=>(S1.st.gh r).getD .dd)=gs.map b6.tree→ ∀ l,(fn.results.toList.mapM (Br P S1.st))=some (l.map fun x:TypeId×V=>x.2.av)→l.map (·.1)=fn.resultTypes.toList→(∀ x∈l,x.2.ok S1.gh)→
    (uO Θ S1 gs l fun vs gs=>some (yZ vs,gs))=some (res,out)→Bs P fn.results.toList fn.resultTypes.toList m S1.st=some (res.av,out.map b6.tree):=by
   intro S1 hS1 gs hgs l h1 h2 h3 h
   obtain⟨vs,gs',k1,k2,k3,k4,h⟩:=Ht (P:=P) hΘ _ _ _ _ _ hS1 h3 h
   simp only [Option.some.injEq,Prod.mk.injEq] at h
   obtain⟨rfl,rfl⟩:=h
   unfold Bs
   rw [h1]
   simp only [Option.bind_some,List.length_map]
   have hz: (fn.resultTypes.toList.zip (l.map fun x=>x.2.av))=l.map fun x=>(x.1,x.2.av):=by
    rw [←h2]
    exact Gz _ l
   rw [if_pos (by rw [←h2]; simp),hz,hgs,k1]
   simp only [Option.map_some,LM]
  have main: ∀ (S1:TS),S1.ok→(Ft Θ S1 fn.results.toList fn.resultTypes.toList fun rs=>bif Nat.beq m 0 then uO Θ S1 [] rs fun vs gs=>some (yZ vs,gs) else match dg S1.gh 0 with
    | some ⟨t,l',none⟩=>uO Θ S1 [⟨t,l',none⟩] rs fun vs gs=>some (yZ vs,gs)
    | _=>none)=some (res,out)→Bs P fn.results.toList fn.resultTypes.toList m S1.st=some (res.av,out.map b6.tree):=by
   intro S1 hS1 h0
   obtain⟨l,h1,h2,h3,h⟩:=LL (P:=P) hΘ hS1 _ _ _ _ h0
   clear h0
   cases hm0:Nat.beq m 0 with
   | true=>
     rw [hm0] at h
     have e:m=0:=Nat.eq_of_beq_eq_true hm0
     exact fin S1 hS1 [] (by rw [e]; rfl) l h1 h2 h3 h
   | false=>
     rw [hm0] at h
     simp only [cond_false] at h
     have e:m=1:=by
      have :m≠0:=fun e=>by rw [e] at hm0; cases hm0
      omega
     split at h
     ·rename_i t l' hg
      exact fin S1 hS1 [⟨t,l',none⟩] (by
       rw [e]
       show [(S1.st.gh 0).getD .dd] =_
       have :S1.st.gh 0=some (b6.tree ⟨t,l',none⟩):=by
        show (dg S1.gh 0).map b6.tree=_
        rw [hg]
        rfl
       rw [this]
       rfl) l h1 h2 h3 h
     ·cases h
  refine EJ hf hc (by simpa using hm1) (hW.mono (fun x S' hx=>⟨S',qG.refl,?_⟩))
  obtain⟨S1,rfl,h1,h2⟩:=hx
  cases x with
  | ext i=>cases h2
  | nor=>exact main S1 h1 h2
  | ret=>exact main S1 h1 h2
theorem P4 (P:Program) (S:TS): ∀ (n r:Nat) (gs:List b6),yI S r n=some gs→((List.range' r n).map fun r=>(S.st.gh r).getD .dd)=gs.map b6.tree:=by
 intro n
 induction n with
 | zero=>
   intro r gs h
   simp only [yI,Option.some.injEq] at h
   subst h
   rfl
 | succ n ih=>
   intro r gs h
   simp only [yI] at h
   split at h
   ·rename_i t l hg
    split at h
    ·rename_i ts hts
     simp only [Option.some.injEq] at h
     subst h
     rw [List.range'_succ,List.map_cons,List.map_cons,ih _ _ hts]
     congr 1
     show ((dg S.gh r).map b6.tree).getD .dd=_
     rw [hg]
     rfl
    ·cases h
   ·cases h
theorem BD: ∀ (cs:List C) (n:Nat) (G:List (Option b6)),(∀ k t,(oq cs)[k]? =some t→dg G (n+k)=some t)→ ∀ c∈wQ cs n,c.ok G
 | [],n,G,h,c,hc=>by cases hc
 | .sc v::r,n,G,h,c,hc=>by
   simp only [wQ,List.mem_cons] at hc
   rcases hc with rfl | hc
   ·trivial
   ·exact BD r n G h c hc
 | .ls t l::r,n,G,h,c,hc=>by
   simp only [wQ,List.mem_cons] at hc
   have h0:=h 0 ⟨t,l,none⟩ rfl
   rw [Nat.add_zero] at h0
   rcases hc with rfl | hc
   ·refine⟨vF h0,fun _=>⟨rfl,rfl,fun tr htr=> ?_⟩⟩
    have e:some (⟨t,l,none⟩:b6)=some tr:=h0.symm.trans htr
    cases e
    rfl
   ·exact BD r (n+1) G (fun k t' hk=>by
     have:=h (k+1) t' (by simpa [oq] using hk)
     rwa [show n+(k+1)=n+1+k by omega] at this) c hc
theorem VG (hΘ:eC P Θ) (hY:ar P Y) (hm:P.follows .mixedOrders=true) {Λ:qJ} {f:FuncId} {fn:Func} (hf:QV P f=some fn) (hL: ∀ c,fn.body=some c→gE P Λ (fo c)) {t:Ty} {x:t.D} {args:List V1} (ha: ∀ a∈args,a.ok []) {res:V} {out:List b6}
  (h:WK Θ Y Λ fn t x args (fun v g=>some (v,g))=some (res,out)):uj P f ((Hh t x 0).av::args.map V1.av) ((oq (t.flat x)).map b6.tree) (bif true then (oq (t.flat x)).length else 0) res.av (out.map b6.tree):=by
 unfold WK at h
 split at h
 ·cases h
 ·rename_i c hc
  have hcok:mU P c=true:=by
   unfold QV at hf
   simp only [Option.bind_eq_some_iff] at hf
   obtain⟨fn',g1,g2⟩:=hf
   split at g2
   ·cases g2
   ·rename_i c' hc'
    split at g2
    ·cases g2
    ·rename_i hn
     simp only [Option.some.injEq] at g2
     subst g2
     rw [hc] at hc'
     simp only [Option.some.injEq] at hc'
     subst hc'
     simp only [Bool.or_eq_true,not_or,Bool.not_eq_true,Bool.not_eq_false'] at hn
     exact hn.2
  generalize hgs:oq (t.flat x)=gs0 at*
  have hgh0: ∀ k t',gs0[k]? =some t'→dg (gs0.map some) (0+k)=some t':=by
   intro k t' hk
   unfold dg
   rw [dN,Nat.zero_add,List.getElem?_map,hk]
   rfl
  have h1ok: (Hh t x 0).ok (gs0.map some):=by
   unfold Hh
   cases t.ag with
   | true=>
     intro c hc
     exact BD (t.flat x) 0 _ (by rw [hgs]; exact hgh0) c hc
   | false=>
     simp only [cond_false]
     split
     ·rename_i c hc
      exact BD (t.flat x) 0 _ (by rw [hgs]; exact hgh0) c (by rw [hc]; exact List.mem_singleton.2 rfl)
     ·trivial
  have hS0: ({ env:=mW 0 (Hh t x 0::args),bx:= [],gh:=gs0.map some,fz:=gs0.length,nt:=(args.length+1)+(fn.ntmps - (args.length+1)) }:TS).ok:=
   ⟨fun x hx=>by
    obtain⟨a,h1,h2⟩:=vG _ _ _ hx
    rw [h2]
    rcases List.mem_cons.1 h1 with rfl | h1
    ·exact h1ok
    ·exact V1.ok_mono (G:= []) ⟨Nat.zero_le _,fun r tr hr=>by cases hr⟩ (ha a h1),fun cs hcs=>by cases hcs⟩
  have hbeg: ({ env:=mW 0 (Hh t x 0::args),bx:= [],gh:=gs0.map some,fz:=gs0.length,nt:=(args.length+1)+(fn.ntmps - (args.length+1)) }:TS).st=Nx fn.ntmps ((Hh t x 0).av::args.map V1.av) (gs0.map b6.tree) gs0.length:=by
   unfold TS.st Nx G7
   simp only [List.length_map,List.length_cons]
   congr 1
   ·funext t
    exact EM _ t
   ·funext r
    show (dg (gs0.map some) r).map b6.tree=(gs0.map b6.tree)[r]?
    unfold dg
    rw [dN,List.getElem?_map,List.getElem?_map]
    cases gs0[r]? <;> rfl
  have hW:=BC hΘ hY hm c _ _ _ hcok (hL c hc) hS0 h
  rw [hbeg] at hW
  have main: ∀ (S1:TS),S1.ok→(Ft Θ S1 fn.results.toList fn.resultTypes.toList fun rs=>match yI S1 0 gs0.length with
    | some gs=>uO Θ S1 gs rs fun vs gs'=>some (yZ vs,gs')
    | none=>none)=some (res,out)→Bs P fn.results.toList fn.resultTypes.toList gs0.length S1.st=some (res.av,out.map b6.tree):=by
   intro S1 hS1 h0
   obtain⟨l,h1,h2,h3,h⟩:=LL (P:=P) hΘ hS1 _ _ _ _ h0
   clear h0
   split at h
   ·rename_i gs hgs'
    have hgs2:=P4 P S1 _ _ _ hgs'
    rw [←List.range_eq_range'] at hgs2
    obtain⟨vs,gs',k1,k2,k3,k4,h⟩:=Ht (P:=P) hΘ _ _ _ _ _ hS1 h3 h
    simp only [Option.some.injEq,Prod.mk.injEq] at h
    obtain⟨rfl,rfl⟩:=h
    unfold Bs
    rw [h1]
    simp only [Option.bind_some,List.length_map]
    have hz: (fn.resultTypes.toList.zip (l.map fun x=>x.2.av))=l.map fun x=>(x.1,x.2.av):=by
     rw [←h2]
     exact Gz _ l
    rw [if_pos (by rw [←h2]; simp),hz,hgs2,k1]
    simp only [Option.map_some,LM]
   ·cases h
  refine EJ hf hc (by simp) (hW.mono (fun x S' hx=>⟨S',qG.refl,?_⟩))
  obtain⟨S1,rfl,h1,h2⟩:=hx
  cases x with
  | ext i=>cases h2
  | nor=>exact main S1 h1 h2
  | ret=>exact main S1 h1 h2
end
end Go.Proofs.YtkcgfceffffmoaaGreat.En
namespace Go.Proofs.YtkcgfceffffmoaaGreat.En
open Go
def Fu:List Nat→Nat→Nat→Option Nat
 | [],_,_=>none
 | a::l,x,n=>bif Nat.beq a x then some n else Fu l x (n+1)
def Aw (bs ls:List Nat):Cl→Cl
 | .own p sz lo len w=>match Fu ls p.r 0 with | some k=> .own ⟨k,p.l⟩ sz lo len w | none=> .dead
 | .ptrT p sz i j=>match Fu ls p.r 0 with | some k=> .ptrT ⟨k,p.l⟩ sz i j | none=> .dead
 | .ptrB n j=>match Fu bs n 0 with | some k=> .ptrB k j | none=> .dead
 | c=>c
def Ub (bs ls:List Nat):V1→V1
 | .cl c=> .cl (Aw bs ls c)
 | .agg cs=> .agg (cs.map (Aw bs ls))
 | .fn f cs=> .fn f (cs.map (Aw bs ls))
def Uc (bs ls:List Nat):V→V
 | .v x=> .v (Ub bs ls x)
 | .tup _=>V.dead
def Rd:List Nat→List Nat→List Nat
 | [],acc=>acc
 | a::l,acc=>match Fu acc a 0 with | some _=>Rd l acc | none=>Rd l (acc++ [a])
def Hu:List Nat→Bool
 | [] =>true
 | a::l=>(match Fu l a 0 with | some _=>false | none=>true)&&Hu l
def Yo:Cl→List Nat | .ptrB n _=> [n] | _=> []
def XA:Cl→List Nat | .own p _ _ _ _=> [p.r] | .ptrT p _ _ _=> [p.r] | _=> []
def V1.all:V1→List Cl | .cl c=> [c] | .agg cs=>cs | .fn _ cs=>cs
def V.all:V→List Cl | .v x=>x.all | .tup _=> []
def Re (S:TS) (keep:List Nat):List Nat:=Rd (keep.flatMap fun t=>(i6 S.env t).all.flatMap Yo) []
def Wk (S:TS) (keep bs:List Nat):List Nat:=Rd (List.range S.fz++(keep.flatMap fun t=>(i6 S.env t).all.flatMap XA)++bs.flatMap fun b=>((qI S.bx b).getD []).flatMap XA) []
def i7 (S:TS) (keep bs ls:List Nat):TS where
 env:=keep.map fun t=>(t,Uc bs ls (i6 S.env t))
 bx:=bs.map fun b=>((qI S.bx b).getD []).map (Aw bs ls)
 gh:=ls.map fun r=>dg S.gh r
 fz:=S.fz
 nt:=S.nt
def LN (S:TS) (bs ls:List Nat):Bool:=Hu bs&&Hu ls&&bs.all (fun b=>Nat.blt b S.bx.length)&&Xt (ls.take S.fz) (List.range S.fz)&&ls.all (fun r=>Nat.blt r S.gh.length)
def R8 (G:List (Option b6)):Cl→Cl
 | .own p sz lo len true=> .own p sz lo (match qI G p.r with | some (some tr)=>tr.l.length | _=>len) true
 | c=>c
def Ud (G:List (Option b6)):V1→V1
 | .cl c=> .cl (R8 G c)
 | .agg cs=> .agg (cs.map (R8 G))
 | .fn f cs=> .fn f (cs.map (R8 G))
def XB (G:List (Option b6)):V→V
 | .v x=> .v (Ud G x)
 | .tup l=> .tup (l.map (Ud G))
def WN (S:TS):TS:= { S with env:=S.env.map (fun x=>(x.1,XB S.gh x.2)),bx:=S.bx.map (fun cs=>cs.map (R8 S.gh)) }
def Dr {ρ:Type} (keep:List Nat) (S:TS) (κ:TS→Option ρ):Option ρ:=bif LN S (Re S keep) (Wk S keep (Re S keep)) then κ (WN (i7 S keep (Re S keep) (Wk S keep (Re S keep)))) else none
theorem Ds: ∀ {l:List Nat} {x n k:Nat},Fu l x n=some k→n≤k∧l[k - n]? =some x
 | [],x,n,k,h=>by cases h
 | a::l,x,n,k,h=>by
   simp only [Fu] at h
   cases hb:Nat.beq a x with
   | true=>
     rw [hb] at h
     simp only [cond_true,Option.some.injEq] at h
     subst h
     exact⟨Nat.le_refl _,by simp [Nat.eq_of_beq_eq_true hb]⟩
   | false=>
     rw [hb] at h
     obtain⟨h1,h2⟩:=Ds (l:=l) h
     refine⟨by omega,?_⟩
     rw [show k - n=(k - (n+1))+1 by omega,List.getElem?_cons_succ]
     exact h2
theorem KH: ∀ {l:List Nat} {x n:Nat},Fu l x n=none→x∉l
 | [],x,n,_=>by simp
 | a::l,x,n,h=>by
   simp only [Fu] at h
   cases hb:Nat.beq a x with
   | true=>rw [hb] at h; cases h
   | false=>
     rw [hb] at h
     have:=KH (l:=l) h
     intro hm
     rcases List.mem_cons.1 hm with rfl | hm
     ·rw [Nat.beq_refl] at hb; cases hb
     ·exact this hm
theorem Ax: ∀ {l:List Nat},Hu l=true→ ∀ (i j x:Nat),l[i]? =some x→l[j]? =some x→i=j
 | [],_,i,j,x,hi,_=>by simp at hi
 | a::l,h,i,j,x,hi,hj=>by
   simp only [Hu,Bool.and_eq_true] at h
   have hna:a∉l:=by
    have h1:=h.1
    split at h1
    ·cases h1
    ·rename_i hp; exact KH hp
   cases i with
   | zero=>
     simp only [List.getElem?_cons_zero,Option.some.injEq] at hi
     subst hi
     cases j with
     | zero=>rfl
     | succ j=>simp only [List.getElem?_cons_succ] at hj; exact absurd (List.mem_of_getElem? hj) hna
   | succ i=>
     simp only [List.getElem?_cons_succ] at hi
     cases j with
     | zero=>
       simp only [List.getElem?_cons_zero,Option.some.injEq] at hj
       subst hj
       exact absurd (List.mem_of_getElem? hi) hna
     | succ j=>
       simp only [List.getElem?_cons_succ] at hj
       rw [Ax h.2 i j x hi hj]
def Bt.ren (bt:Bt) (bs ls:List Nat):Bt where
 β:=fun p=>bt.β ⟨ls.getD p.r 0,p.l⟩
 κ:=fun p=>bt.κ ⟨ls.getD p.r 0,p.l⟩
 bb:=fun n=>bt.bb (bs.getD n 0)
 nb:=bs.length
 ng:=ls.length
 A:=bt.A
theorem LO {w:World} {bt:Bt} {bs ls:List Nat} {c:Cl} {u:Value} (h:VR w bt c.av u):VR w (bt.ren bs ls) (Aw bs ls c).av u:=by
 have lt: ∀ {l:List Nat} {x k:Nat},Fu l x 0=some k→k < l.length∧l.getD k 0=x:=by
  intro l x k hk
  obtain⟨_,h2⟩:=Ds hk
  rw [Nat.sub_zero] at h2
  exact⟨(List.getElem?_eq_some_iff.1 h2).1,by simp [List.getD_eq_getElem?_getD,h2]⟩
 cases c with
 | c x=>
   cases x with
   | sc v=>cases h with | sc h=>exact .sc h
   | ls t l=>cases h with | ro h=>exact .ro h
 | em=>cases h with | em a=>exact .em a
 | own p sz lo len wh=>
   simp only [Aw]
   split
   ·rename_i k hk
    obtain⟨h1,h2⟩:=lt hk
    have hp: (⟨ls.getD k 0,p.l⟩:ck)=p:=by rw [h2]
    have e1: (bt.ren bs ls).κ ⟨k,p.l⟩=bt.κ p:=by
     have e: (bt.ren bs ls).κ ⟨k,p.l⟩=bt.κ (ck.mk (ls.getD k 0) p.l):=rfl
     rw [e,hp]
    have e2: (bt.ren bs ls).β ⟨k,p.l⟩=bt.β p:=by
     have e: (bt.ren bs ls).β ⟨k,p.l⟩=bt.β (ck.mk (ls.getD k 0) p.l):=rfl
     rw [e,hp]
    cases h with
    | own hp' hc hkk ha=>exact .own h1 hc (by rw [e1]; exact hkk) (by rw [e2]; exact ha)
   ·exact .dead _
 | pro cs=>cases h with | pro cs hs hA hr ht=>exact .pro cs hs hA hr ht
 | ptrB n j=>
   simp only [Aw]
   split
   ·rename_i k hk
    obtain⟨h1,h2⟩:=lt hk
    cases h with
    | ptrB j hn=>
      have :bt.bb n=(bt.ren bs ls).bb k:=by show bt.bb n=bt.bb (bs.getD k 0); rw [h2]
      rw [this]
      exact .ptrB j h1
   ·exact .dead _
 | ptrT p sz i j=>
   simp only [Aw]
   split
   ·rename_i k hk
    obtain⟨h1,h2⟩:=lt hk
    have hp: (⟨ls.getD k 0,p.l⟩:ck)=p:=by rw [h2]
    cases h with
    | ptrT sz i j hp' hkk=>
      have e1:bt.β p=(bt.ren bs ls).β ⟨k,p.l⟩:=by show bt.β p=bt.β ⟨ls.getD k 0,p.l⟩; rw [hp]
      rw [e1]
      exact .ptrT sz i j h1 (by show _ < bt.κ ⟨ls.getD k 0,p.l⟩; rw [hp]; exact hkk)
   ·exact .dead _
 | dead=>exact .dead _
theorem Ue {w:World} {bt:Bt} {bs ls:List Nat} {v:V1} {u:Value} (h:VR w bt v.av u):VR w (bt.ren bs ls) (Ub bs ls v).av u:=by
 have cells: ∀ (cs:List Cl) (us:List Value),us.length=cs.length→(∀ (k:Nat) (c:AV) (u:Value),(cs.map Cl.av)[k]? =some c→us[k]? =some u→VR w bt c u)→ ∀ (k:Nat) (c:AV) (u:Value),((cs.map (Aw bs ls)).map Cl.av)[k]? =some c→us[k]? =some u→VR w (bt.ren bs ls) c u:=by
  intro cs us _ hr k c u hk hu
  rw [List.getElem?_map,List.getElem?_map] at hk
  simp only [Option.map_eq_some_iff] at hk
  obtain⟨c1,⟨c0,hc0,rfl⟩,rfl⟩:=hk
  exact LO (hr k c0.av u (by rw [List.getElem?_map,hc0]; rfl) hu)
 cases v with
 | cl c=>exact LO h
 | agg cs=>
   simp only [V1.av] at h
   cases h with
   | agg hl ho hr=>
     exact .agg (by simpa using hl) ho (cells cs _ (by simpa using hl) hr)
 | fn f cs=>
   simp only [V1.av] at h
   cases h with
   | fn f hl hr=>
     exact .fn f (by simpa using hl) (cells cs _ (by simpa using hl) hr)
theorem VH {w:World} {bt:Bt} {bs ls:List Nat} {v:V} {u:Value} (h:VR w bt v.av u):VR w (bt.ren bs ls) (Uc bs ls v).av u:=by
 cases v with
 | v x=>exact Ue h
 | tup l=>exact .dead _
theorem KI (S:TS) (f:V→V): ∀ (keep:List Nat) (t:Nat),i6 (keep.map fun t=>(t,f (i6 S.env t))) t=V.dead∨i6 (keep.map fun t=>(t,f (i6 S.env t))) t=f (i6 S.env t)
 | [],t=> .inl rfl
 | u::l,t=>by
   simp only [List.map_cons,i6]
   cases hb:Nat.beq u t with
   | true=>rw [Nat.eq_of_beq_eq_true hb]; exact .inr rfl
   | false=>exact KI S f l t
theorem yN (S:TS) (keep bs ls:List Nat) (r:Nat):dg (i7 S keep bs ls).gh r=(ls[r]?).bind fun q=>dg S.gh q:=by
 show (qI (ls.map fun r=>dg S.gh r) r).getD none=_
 rw [dN,List.getElem?_map]
 cases ls[r]? <;> rfl
theorem N1 {S:TS} {keep bs ls:List Nat} (h:LN S bs ls=true):qG S.st (i7 S keep bs ls).st:=by
 unfold LN at h
 simp only [Bool.and_eq_true] at h
 obtain⟨⟨⟨⟨hnb,hnl⟩,hbs⟩,hfz⟩,hlt⟩:=h
 have hfz:=LI hfz
 intro w0 W btI SI bt a w hl
 have inv:=hl.inv
 have hls: ∀ (k:Nat),k < S.fz→ls[k]? =some k:=by
  intro k hk
  have : (ls.take S.fz)[k]? =(List.range S.fz)[k]? :=by rw [hfz]
  rw [List.getElem?_take,if_pos hk,List.getElem?_range hk] at this
  exact this
 have look: ∀ p s rs,(i7 S keep bs ls).st.look p= .sl s rs→ ∃ q,ls[p.r]? =some q∧S.st.look ⟨q,p.l⟩= .sl s rs∧ls.getD p.r 0=q:=by
  intro p s rs hp
  unfold St.look at hp
  have e: (i7 S keep bs ls).st.gh p.r=((ls[p.r]?).bind fun q=>dg S.gh q).map b6.tree:=by
   show (dg _ _).map b6.tree=_
   rw [yN]
  rw [e] at hp
  cases hq:ls[p.r]? with
  | none=>rw [hq] at hp; cases hp
  | some q=>
    refine⟨q,rfl,?_,by simp [List.getD_eq_getElem?_getD,hq]⟩
    rw [hq] at hp
    exact hp
 have box: ∀ n cells,(i7 S keep bs ls).st.bx n=some cells→ ∃ b cs,bs[n]? =some b∧S.bx[b]? =some cs∧cells=(cs.map (Aw bs ls)).map Cl.av∧bs.getD n 0=b:=by
  intro n cells hn
  have hn': (qI (bs.map fun b=>((qI S.bx b).getD []).map (Aw bs ls)) n).map (fun cs=>cs.map Cl.av)=some cells:=hn
  rw [dN,List.getElem?_map] at hn'
  simp only [Option.map_eq_some_iff] at hn'
  obtain⟨x,⟨b,hb,rfl⟩,rfl⟩:=hn'
  have hlt':b < S.bx.length:=Nat.le_of_ble_eq_true (List.all_eq_true.1 hbs b (List.mem_of_getElem? hb))
  refine⟨b,S.bx[b],hb,List.getElem?_eq_getElem hlt',?_,by simp [List.getD_eq_getElem?_getD,hb]⟩
  rw [dN,List.getElem?_eq_getElem hlt']
  rfl
 have bxS: ∀ {b:Nat} {cs:List Cl},S.bx[b]? =some cs→S.st.bx b=some (cs.map Cl.av):=by
  intro b cs hb
  show (qI S.bx b).map _=_
  rw [dN,hb]
  rfl
 refine⟨bt.ren bs ls,?_⟩
 refine⟨{ os:=inv.os,tape:=inv.tape,output:=inv.output,size:=inv.size,keep:=inv.keep
          nb:=by show bs.length=_; simp [TS.st,i7]
          ng:=by show ls.length=_; simp [TS.st,i7]
          bx:=fun n cells hn=> ?_
          gh:=fun r t hr=> ?_
          tr:=fun p sz rows hp=> ?_
          inj:=fun p q s rs s' rs' hp hq hk hk' he=> ?_
          bbinj:=fun n m cs cs' hn hm he=> ?_
          bbtr:=fun n cs p s rs hn hp hk=> ?_
          alt:=inv.alt
          atr:=fun p s rs hp hk=> ?_
          abb:=fun n cs hn=> ?_ },⟨hl.er.1,fun t=> ?_⟩,hl.defers,hl.fz,?_,fun p hp=> ?_,fun r hr hn=> ?_⟩
 ·obtain⟨b,cs,h1,h2,rfl,h4⟩:=box n cells hn
  obtain⟨g1,g2,arr,e,g3,g4,g5⟩:=inv.bx b _ (bxS h2)
  refine⟨by show n < _; have:=(List.getElem?_eq_some_iff.1 h1).1; simpa [TS.st,i7] using this,by show _≤bt.bb (bs.getD n 0); rw [h4]; exact g2,arr,e,by show w.heap[bt.bb (bs.getD n 0)]? =_; rw [h4]; exact g3,by simpa using g4,fun j v hj=> ?_⟩
  rw [List.getElem?_map,List.getElem?_map] at hj
  simp only [Option.map_eq_some_iff] at hj
  obtain⟨c1,⟨c0,hc0,rfl⟩,rfl⟩:=hj
  obtain⟨c,k1,k2,k3⟩:=g5 j c0.av (by rw [List.getElem?_map,hc0]; rfl)
  exact⟨c,k1,LO k2,k3⟩
 ·have hr': (dg (i7 S keep bs ls).gh r).map b6.tree=some t:=hr
  rw [yN] at hr'
  show r < _
  cases hq:ls[r]? with
  | none=>rw [hq] at hr'; cases hr'
  | some q=>
    have:=(List.getElem?_eq_some_iff.1 hq).1
    simpa [TS.st,i7] using this
 ·obtain⟨q,h1,h2,h3⟩:=look p sz rows hp
  obtain⟨g1,g2⟩:=inv.tr _ _ _ h2
  have eκ: (bt.ren bs ls).κ p=bt.κ ⟨q,p.l⟩:=by show bt.κ ⟨ls.getD p.r 0,p.l⟩=_; rw [h3]
  have eβ: (bt.ren bs ls).β p=bt.β ⟨q,p.l⟩:=by show bt.β ⟨ls.getD p.r 0,p.l⟩=_; rw [h3]
  rw [eκ,eβ]
  refine⟨g1,fun hk=>⟨(g2 hk).1,?_⟩⟩
  obtain⟨_,cs,e,k1,k2,k3,k4⟩:=g2 hk
  refine⟨cs,e,by rw [eβ]; exact k1,by rw [eκ]; exact k2,k3,fun i r hi=> ?_⟩
  obtain⟨m1,m2⟩:=k4 i r hi
  refine⟨m1,fun j x hj=> ?_⟩
  obtain⟨c,n1,n2⟩:=m2 j x hj
  refine⟨c,n1,?_⟩
  have f1: (bt.ren bs ls).κ (p.sub i j)=bt.κ (ck.sub ⟨q,p.l⟩ i j):=by show bt.κ ⟨ls.getD p.r 0,p.l++ [(i,j)]⟩=bt.κ ⟨q,p.l++ [(i,j)]⟩; rw [h3]
  have f2: (bt.ren bs ls).β (p.sub i j)=bt.β (ck.sub ⟨q,p.l⟩ i j):=by show bt.β ⟨ls.getD p.r 0,p.l++ [(i,j)]⟩=bt.β ⟨q,p.l++ [(i,j)]⟩; rw [h3]
  cases n2 with
  | sc h=>exact .sc h
  | dd u=>exact .dd _
  | sl q1 q2 q3=>exact .sl q1 (by rw [f1]; exact q2) (by rw [f2]; exact q3)
 ·obtain⟨p',h1,h2,h3⟩:=look p s rs hp
  obtain⟨q',g1,g2,g3⟩:=look q s' rs' hq
  have:=inv.inj ⟨p',p.l⟩ ⟨q',q.l⟩ _ _ _ _ h2 g2 (by rw [←h3]; exact hk) (by rw [←g3]; exact hk') (by rw [←h3,←g3]; exact he)
  simp only [ck.mk.injEq] at this
  obtain⟨e1,e2⟩:=this
  subst e1
  have e3:=Ax hnl _ _ _ h1 g1
  cases p; cases q
  simp only at e3 e2
  rw [e3,e2]
 ·obtain⟨b,c,h1,h2,_,h4⟩:=box n cs hn
  obtain⟨b',c',g1,g2,_,g4⟩:=box m cs' hm
  have:=inv.bbinj b b' _ _ (bxS h2) (bxS g2) (by
   have he':bt.bb (bs.getD n 0)=bt.bb (bs.getD m 0):=he
   rw [h4,g4] at he'
   exact he')
  subst this
  exact Ax hnb _ _ _ h1 g1
 ·obtain⟨b,c,h1,h2,_,h4⟩:=box n cs hn
  obtain⟨q,g1,g2,g3⟩:=look p s rs hp
  have hk':0 < bt.κ ⟨ls.getD p.r 0,p.l⟩:=hk
  rw [g3] at hk'
  show bt.bb (bs.getD n 0)≠bt.β ⟨ls.getD p.r 0,p.l⟩
  rw [h4,g3]
  exact inv.bbtr _ _ _ _ _ (bxS h2) g2 hk'
 ·obtain⟨q,g1,g2,g3⟩:=look p s rs hp
  have hk':0 < bt.κ ⟨ls.getD p.r 0,p.l⟩:=hk
  rw [g3] at hk'
  show ¬ bt.A (bt.β ⟨ls.getD p.r 0,p.l⟩)
  rw [g3]
  exact inv.atr _ _ _ g2 hk'
 ·obtain⟨b,c,h1,h2,_,h4⟩:=box n cs hn
  show ¬ bt.A (bt.bb (bs.getD n 0))
  rw [h4]
  exact inv.abb _ _ (bxS h2)
 ·show VR w _ (i6 (i7 S keep bs ls).env t).av _
  rcases KI S (Uc bs ls) keep t with h1 | h1
  ·have :i6 (i7 S keep bs ls).env t=V.dead:=h1
   rw [this]
   exact .dead _
  ·have :i6 (i7 S keep bs ls).env t=Uc bs ls (i6 S.env t):=h1
   rw [this]
   exact VH (hl.er.2 t)
 ·show S.fz≤(i7 S keep bs ls).gh.length
  rcases Nat.eq_zero_or_pos S.fz with h0 | h0
  ·omega
  ·have:=(List.getElem?_eq_some_iff.1 (hls (S.fz - 1) (by omega))).1
   simp [i7]
   omega
 ·have hp':p.r < S.fz:=by have:=hl.fz; have e:S.st.fz=S.fz:=rfl; omega
  have h3:ls.getD p.r 0=p.r:=by simp [List.getD_eq_getElem?_getD,hls p.r hp']
  have:=hl.keep p hp
  show bt.β ⟨ls.getD p.r 0,p.l⟩=_∧bt.κ ⟨ls.getD p.r 0,p.l⟩=_
  rw [h3]
  exact this
 ·have hr':r < S.fz:=by have:=hl.fz; have e:S.st.fz=S.fz:=rfl; omega
  refine hl.gone r hr ?_
  have hn': (dg (i7 S keep bs ls).gh r).map b6.tree=none:=hn
  rw [yN,hls r hr'] at hn'
  exact hn'
theorem GA {S:TS} {bs ls:List Nat} {keep:List Nat} {c:Cl} (h:c.ok S.gh): (Aw bs ls c).ok (i7 S keep bs ls).gh:=by
 have lt: ∀ {x k:Nat},Fu ls x 0=some k→k < (i7 S keep bs ls).gh.length∧ls[k]? =some x:=by
  intro x k hk
  obtain⟨_,h2⟩:=Ds hk
  rw [Nat.sub_zero] at h2
  exact⟨by have:=(List.getElem?_eq_some_iff.1 h2).1; simpa [i7] using this,h2⟩
 cases c with
 | own p sz lo len w=>
   simp only [Aw]
   split
   ·rename_i k hk
    obtain⟨h1,h2⟩:=lt hk
    refine⟨h1,fun hw=> ?_⟩
    obtain⟨a,b,c⟩:=h.2 hw
    refine⟨a,b,fun tr htr=>c tr ?_⟩
    rw [yN,h2] at htr
    exact htr
   ·trivial
 | ptrT p sz i j=>
   simp only [Aw]
   split
   ·rename_i k hk; exact (lt hk).1
   ·trivial
 | ptrB n j=>simp only [Aw]; split <;> trivial
 | _=>trivial
theorem VI {S:TS} {bs ls:List Nat} {keep:List Nat} {v:V} (h:v.ok S.gh): (Uc bs ls v).ok (i7 S keep bs ls).gh:=by
 have one: ∀ {v:V1},v.ok S.gh→(Ub bs ls v).ok (i7 S keep bs ls).gh:=by
  intro v h
  cases v with
  | cl c=>exact GA h
  | agg cs=>intro c hc; obtain⟨x,hx,rfl⟩:=List.mem_map.1 hc; exact GA (h x hx)
  | fn f cs=>intro c hc; obtain⟨x,hx,rfl⟩:=List.mem_map.1 hc; exact GA (h x hx)
 cases v with
 | v x=>exact one h
 | tup l=>trivial
theorem KJ {S:TS} (hS:S.ok) (keep bs ls:List Nat): (i7 S keep bs ls).ok:=by
 refine⟨fun x hx=> ?_,fun cs hcs c hc=> ?_⟩
 ·obtain⟨t,_,rfl⟩:=List.mem_map.1 hx
  exact VI (Gx hS t)
 ·obtain⟨b,_,rfl⟩:=List.mem_map.1 hcs
  obtain⟨x,hx,rfl⟩:=List.mem_map.1 hc
  cases hb:qI S.bx b with
  | none=>rw [hb] at hx; cases hx
  | some cs=>
    rw [hb] at hx
    rw [dN] at hb
    exact GA (hS.bx cs (List.mem_of_getElem? hb) x hx)
theorem GB {G:List (Option b6)} {c:Cl} (h:c.ok G):R8 G c=c:=by
 unfold R8
 split
 ·rename_i p sz lo len
  split
  ·rename_i tr htr
   rw [(h.2 rfl).2.2 tr (by unfold dg; rw [htr]; rfl)]
  ·rfl
 ·rfl
theorem N2 {G:List (Option b6)} {v:V1} (h:v.ok G):Ud G v=v:=by
 cases v with
 | cl c=>exact congrArg V1.cl (GB h)
 | agg cs=>exact congrArg V1.agg ((List.map_congr_left fun c hc=>GB (h c hc)).trans (List.map_id' cs))
 | fn f cs=>exact congrArg (V1.fn f) ((List.map_congr_left fun c hc=>GB (h c hc)).trans (List.map_id' cs))
theorem VJ {G:List (Option b6)} {v:V} (h:v.ok G):XB G v=v:=by
 cases v with
 | v x=>exact congrArg V.v (N2 h)
 | tup l=>exact congrArg V.tup ((List.map_congr_left fun c hc=>N2 (h c hc)).trans (List.map_id' l))
theorem VK {S:TS} (h:S.ok):WN S=S:=by
 unfold WN
 rw [List.map_congr_left (g:=id) (fun x hx=>by rw [VJ (h.env x hx)]; rfl),List.map_congr_left (g:=id) (l:=S.bx) (fun cs hcs=>(List.map_congr_left fun c hc=>GB (h.bx cs hcs c hc)).trans (List.map_id' cs)),List.map_id,List.map_id]
theorem uQ {ρ:Type} {S:TS} (hS:S.ok) {keep:List Nat} {κ:TS→Option ρ} {r:ρ} (h:Dr keep S κ=some r): ∃ S1:TS,qG S.st S1.st∧S1.ok∧κ S1=some r:=by
 unfold Dr at h
 obtain⟨h1,h⟩:=au h
 rw [VK (KJ hS _ _ _)] at h
 exact⟨_,N1 h1,KJ hS _ _ _,h⟩
end Go.Proofs.YtkcgfceffffmoaaGreat.En
namespace Go.Proofs.YtkcgfceffffmoaaGreat.En
open Go
inductive Sh where
 | int (k:IntKind) | bl | str | ro (t:Ty) | own (r:Nat) (t:Ty) | ptr (n j:Nat) | em | dead | pro (t:Ty) | fc (g:Nat)
abbrev Sh.D:Sh→Type
 | .int _=>Int | .bl=>Bool | .str=>ByteArray | .ro t=>List t.D | .pro t=>t.D | _=>Unit
abbrev yO.D:List Sh→Type
 | [] =>Unit
 | s::l=>s.D×yO.D l
inductive C4 where
 | cl (s:Sh) | agg (l:List Sh) | st (n:Sn) | fn (f:FuncId) (l:List Sh)
abbrev C4.D:C4→Type
 | .cl s=>s.D | .agg l=>yO.D l | .st n=>n.D | .fn _ l=>yO.D l
abbrev Jl.D:List (Nat×C4)→Type
 | [] =>Unit
 | x::l=>x.2.D×Jl.D l
abbrev Jm.D:List (List Sh)→Type
 | [] =>Unit
 | x::l=>yO.D x×Jm.D l
abbrev uo.D:List Ty→Type
 | [] =>Unit
 | t::l=>List t.D×uo.D l
structure ep where
 env:List (Nat×C4)
 bx:List (List Sh)
 gh:List Ty
 fz:Nat
 nt:Nat
abbrev ep.D (L:ep):Type:=Jl.D L.env×Jm.D L.bx×uo.D L.gh
def WO (G:List (Option b6)) (r:Nat):Nat:=match qI G r with | some (some tr)=>tr.l.length | _=>0
def Sh.mk (G:List (Option b6)): (s:Sh)→s.D→Cl
 | .int k,n=> .c (.sc (.int k n)) | .bl,v=> .c (.sc (.bool v)) | .str,v=> .c (.sc (.string v)) | .ro t,l=> .c (.ls t l)
 | .own r t,_=> .own ⟨r,[]⟩ t.width 0 (WO G r) true | .ptr n j,_=> .ptrB n j | .em,_=> .em | .dead,_=> .dead | .pro t,x=> .pro (t.flat x) | .fc g,_=> .c (.sc (.func (.func g) #[] #[]))
def yO.mk (G:List (Option b6)): (l:List Sh)→yO.D l→List Cl
 | [],_=> []
 | s::l,x=>s.mk G x.1::yO.mk G l x.2
def C4.mk (G:List (Option b6)): (v:C4)→v.D→V
 | .cl s,x=> .v (.cl (s.mk G x)) | .agg l,x=> .v (.agg (yO.mk G l x)) | .st n,x=> .v (.agg ((n.flat x).map .c)) | .fn f l,x=> .v (.fn f (yO.mk G l x))
def Jl.mk (G:List (Option b6)): (l:List (Nat×C4))→Jl.D l→List (Nat×V)
 | [],_=> []
 | x::l,d=>(x.1,x.2.mk G d.1)::Jl.mk G l d.2
def Jm.mk (G:List (Option b6)): (l:List (List Sh))→Jm.D l→List (List Cl)
 | [],_=> []
 | x::l,d=>yO.mk G x d.1::Jm.mk G l d.2
def uo.mk: (l:List Ty)→uo.D l→List (Option b6)
 | [],_=> []
 | t::l,d=>some ⟨t,d.1,none⟩::uo.mk l d.2
def ep.mk' (L:ep) (d:L.D):TS:= { env:=Jl.mk (uo.mk L.gh d.2.2) L.env d.1,bx:=Jm.mk (uo.mk L.gh d.2.2) L.bx d.2.1,gh:=uo.mk L.gh d.2.2,fz:=L.fz,nt:=L.nt }
section
variable {ρ:Type}
def Sh.un: (s:Sh)→Cl→(s.D→Option ρ)→Option ρ
 | .int k, .c (.sc (.int k' n)),κ=>bif decide (k'=k) then κ n else none
 | .bl, .c (.sc (.bool v)),κ=>κ v
 | .str, .c (.sc (.string v)),κ=>κ v
 | .ro t, .c (.ls t' l),κ=>match xf t' t l with | some l=>κ l | none=>none
 | .own r t, .own p sz _ _ w,κ=>match p.l with | [] =>(bif w&&Nat.beq p.r r&&Nat.beq sz t.width then κ () else none) | _=>none
 | .ptr n i, .ptrB m j,κ=>bif Nat.beq m n&&Nat.beq j i then κ () else none
 | .em, .em,κ=>κ ()
 | .dead, .dead,κ=>κ ()
 | .pro t, .pro xs,κ=>(match t.unflat xs with | some x=>κ x | none=>none)
 | .fc g, .c (.sc (.func (.func g') cs ts)),κ=>bif Nat.beq g' g&&Nat.beq cs.size 0&&Nat.beq ts.size 0 then κ () else none
 | _,_,_=>none
def yO.un: (l:List Sh)→List Cl→(yO.D l→Option ρ)→Option ρ
 | [],[],κ=>κ ()
 | s::l,c::cs,κ=>s.un c fun x=>yO.un l cs fun y=>κ (x,y)
 | _,_,_=>none
def C4.un: (v:C4)→V→(v.D→Option ρ)→Option ρ
 | .cl s, .v (.cl c),κ=>s.un c κ
 | .agg l, .v (.agg cs),κ=>yO.un l cs κ
 | .st n, .v (.agg cs),κ=>match LD cs with | some xs=>(match n.unflat xs with | some x=>κ x | none=>none) | none=>none
 | .fn f l, .v (.fn g cs),κ=>bif Nat.beq f g then yO.un l cs κ else none
 | _,_,_=>none
def Jl.un: (l:List (Nat×C4))→List (Nat×V)→(Jl.D l→Option ρ)→Option ρ
 | [],[],κ=>κ ()
 | x::l,y::m,κ=>bif Nat.beq x.1 y.1 then x.2.un y.2 fun a=>Jl.un l m fun b=>κ (a,b) else none
 | _,_,_=>none
def Jm.un: (l:List (List Sh))→List (List Cl)→(Jm.D l→Option ρ)→Option ρ
 | [],[],κ=>κ ()
 | x::l,y::m,κ=>yO.un x y fun a=>Jm.un l m fun b=>κ (a,b)
 | _,_,_=>none
def uo.un: (l:List Ty)→List (Option b6)→(uo.D l→Option ρ)→Option ρ
 | [],[],κ=>κ ()
 | t::l,some tr::m,κ=>match tr.hole with
   | none=>(match xf tr.t t tr.l with | some a=>uo.un l m fun b=>κ (a,b) | none=>none)
   | some _=>none
 | _,_,_=>none
def ep.un (L:ep) (S:TS) (κ:L.D→Option ρ):Option ρ:=uo.un L.gh S.gh fun g=>Jl.un L.env S.env fun e=>Jm.un L.bx S.bx fun b=>bif Nat.beq S.fz L.fz&&Nat.beq S.nt L.nt then κ (e,b,g) else none
theorem Sh.un_some {G:List (Option b6)} (hG: ∀ r,r < G.length→ ∃ tr,qI G r=some (some tr)): ∀ {s:Sh} {c:Cl} {κ:s.D→Option ρ} {r:ρ},c.ok G→s.un c κ=some r→ ∃ x,c=s.mk G x∧κ x=some r:=by
 intro s c κ r hc h
 cases s with
 | int k=>
   cases c with
   | c y=>cases y with
     | sc v=>cases v with
       | int k' n=>
         simp only [Sh.un] at h
         obtain⟨h1,h⟩:=au h
         have:=of_decide_eq_true h1
         subst this
         exact⟨n,rfl,h⟩
       | _=>simp [Sh.un] at h
     | ls t l=>simp [Sh.un] at h
   | _=>simp [Sh.un] at h
 | bl=>
   cases c with
   | c y=>cases y with
     | sc v=>cases v with
       | bool v=>exact⟨v,rfl,h⟩
       | _=>simp [Sh.un] at h
     | ls t l=>simp [Sh.un] at h
   | _=>simp [Sh.un] at h
 | str=>
   cases c with
   | c y=>cases y with
     | sc v=>cases v with
       | string v=>exact⟨v,rfl,h⟩
       | _=>simp [Sh.un] at h
     | ls t l=>simp [Sh.un] at h
   | _=>simp [Sh.un] at h
 | ro t=>
   cases c with
   | c y=>cases y with
     | sc v=>simp [Sh.un] at h
     | ls t' l=>
       simp only [Sh.un] at h
       split at h
       ·rename_i l' hl
        obtain⟨e,hl⟩:=gb hl
        subst e
        simp only at hl
        subst hl
        exact⟨l,rfl,h⟩
       ·cases h
   | _=>simp [Sh.un] at h
 | own q t=>
   cases c with
   | own p sz lo len w=>
     obtain⟨pr,pl⟩:=p
     cases pl with
     | cons a l=>simp [Sh.un] at h
     | nil=>
       simp only [Sh.un] at h
       obtain⟨h1,h'⟩:=au h
       clear h
       simp only [Bool.and_eq_true] at h1
       obtain⟨⟨h0,h2⟩,h3⟩:=h1
       have h2:pr=q:=Nat.eq_of_beq_eq_true h2
       have h3:sz=t.width:=Nat.eq_of_beq_eq_true h3
       subst h0 h2 h3
       obtain⟨k1,k2⟩:=hc
       obtain⟨_,k3,k4⟩:=k2 rfl
       obtain⟨tr,htr⟩:=hG _ k1
       have k5:=k4 tr (b6.look htr)
       refine⟨(),?_,h'⟩
       simp only [Sh.mk,WO,k3,k5,htr]
   | c y=>cases y <;> simp [Sh.un] at h
   | _=>simp [Sh.un] at h
 | ptr n i=>
   cases c with
   | ptrB m j=>
     simp only [Sh.un] at h
     obtain⟨h1,h'⟩:=au h
     clear h
     simp only [Bool.and_eq_true] at h1
     have h2:=Nat.eq_of_beq_eq_true h1.1
     have h3:=Nat.eq_of_beq_eq_true h1.2
     subst h2 h3
     exact⟨(),rfl,h'⟩
   | c y=>cases y <;> simp [Sh.un] at h
   | _=>simp [Sh.un] at h
 | em=>
   cases c with
   | em=>exact⟨(),rfl,h⟩
   | c y=>cases y <;> simp [Sh.un] at h
   | _=>simp [Sh.un] at h
 | dead=>
   cases c with
   | dead=>exact⟨(),rfl,h⟩
   | c y=>cases y <;> simp [Sh.un] at h
   | _=>simp [Sh.un] at h
 | pro t=>
   cases c with
   | pro xs=>
     simp only [Sh.un] at h
     split at h
     ·rename_i x hx
      exact⟨x,by simp only [Sh.mk]; rw [t.unflat_some _ _ hx],h⟩
     ·cases h
   | c y=>cases y <;> simp [Sh.un] at h
   | _=>simp [Sh.un] at h
 | fc g=>
   unfold Sh.un at h
   split at h
   all_goals first | (rename_i hh; cases hh; done) | skip
   all_goals try (rename_i hh _; cases hh; done)
   ·rename_i e
    cases e
    obtain⟨h1,h'⟩:=au h
    simp only [Bool.and_eq_true] at h1
    obtain⟨⟨h1,h2⟩,h3⟩:=h1
    have h1:=Nat.eq_of_beq_eq_true h1
    have h2:=Array.eq_empty_of_size_eq_zero (Nat.eq_of_beq_eq_true h2)
    have h3:=Array.eq_empty_of_size_eq_zero (Nat.eq_of_beq_eq_true h3)
    exact⟨(),by rw [h1,h2,h3]; rfl,h'⟩
   ·cases h
theorem yO.un_some {G:List (Option b6)} (hG: ∀ r,r < G.length→ ∃ tr,qI G r=some (some tr)): ∀ {l:List Sh} {cs:List Cl} {κ:yO.D l→Option ρ} {r:ρ},(∀ c∈cs,c.ok G)→yO.un l cs κ=some r→ ∃ x,cs=yO.mk G l x∧κ x=some r
 | [],[],κ,r,_,h=>⟨(),rfl,h⟩
 | s::l,c::cs,κ,r,hc,h=>by
   unfold yO.un at h
   obtain⟨x,h1,h⟩:=Sh.un_some hG (hc c List.mem_cons_self) h
   obtain⟨y,h2,h⟩:=yO.un_some hG (fun z hz=>hc z (List.mem_cons_of_mem _ hz)) h
   exact⟨(x,y),by rw [h1,h2]; rfl,h⟩
 | [],c::cs,κ,r,_,h=>by simp [yO.un] at h
 | s::l,[],κ,r,_,h=>by simp [yO.un] at h
theorem Dt: ∀ {cs:List Cl} {xs:List C},LD cs=some xs→cs=xs.map .c
 | [],xs,h=>by simp only [LD,Option.some.injEq] at h; subst h; rfl
 | c::cs,xs,h=>by
   cases c with
   | c y=>
     simp only [LD] at h
     split at h
     ·rename_i r hr
      simp only [Option.some.injEq] at h
      subst h
      rw [Dt hr]
      rfl
     ·cases h
   | _=>simp [LD] at h
theorem C4.un_some {G:List (Option b6)} (hG: ∀ r,r < G.length→ ∃ tr,qI G r=some (some tr)) {s:C4} {v:V} {κ:s.D→Option ρ} {r:ρ} (hv:v.ok G) (h:s.un v κ=some r): ∃ x,v=s.mk G x∧κ x=some r:=by
 cases v with
 | tup l=>cases s <;> simp [C4.un] at h
 | v y=>
   cases s with
   | cl s=>cases y with
     | cl c=>
       obtain⟨x,h1,h⟩:=Sh.un_some hG hv h
       exact⟨x,by rw [h1]; rfl,h⟩
     | _=>simp [C4.un] at h
   | agg l=>cases y with
     | agg cs=>
       obtain⟨x,h1,h⟩:=yO.un_some hG hv h
       exact⟨x,by rw [h1]; rfl,h⟩
     | _=>simp [C4.un] at h
   | st n=>cases y with
     | agg cs=>
       simp only [C4.un] at h
       split at h
       ·rename_i xs hxs
        split at h
        ·rename_i x hx
         exact⟨x,by rw [Dt hxs]; simp only [C4.mk]; rw [n.unflat_some _ _ hx],h⟩
        ·cases h
       ·cases h
     | _=>simp [C4.un] at h
   | fn f l=>cases y with
     | fn g cs=>
       simp only [C4.un] at h
       obtain⟨h0,h'⟩:=au h
       clear h
       have h0:=Nat.eq_of_beq_eq_true h0
       subst h0
       obtain⟨x,h1,h⟩:=yO.un_some hG hv h'
       exact⟨x,by rw [h1]; rfl,h⟩
     | _=>simp [C4.un] at h
theorem Jl.un_some {G:List (Option b6)} (hG: ∀ r,r < G.length→ ∃ tr,qI G r=some (some tr)): ∀ {l:List (Nat×C4)} {m:List (Nat×V)} {κ:Jl.D l→Option ρ} {r:ρ},(∀ x∈m,x.2.ok G)→Jl.un l m κ=some r→ ∃ x,m=Jl.mk G l x∧κ x=some r
 | [],[],κ,r,_,h=>⟨(),rfl,h⟩
 | s::l,c::cs,κ,r,hc,h=>by
   unfold Jl.un at h
   obtain⟨h0,h⟩:=au h
   have h0:=Nat.eq_of_beq_eq_true h0
   obtain⟨x,h1,h⟩:=C4.un_some hG (hc c List.mem_cons_self) h
   obtain⟨y,h2,h⟩:=Jl.un_some hG (fun z hz=>hc z (List.mem_cons_of_mem _ hz)) h
   refine⟨(x,y),?_,h⟩
   rw [h2]
   obtain⟨c1,c2⟩:=c
   simp only at h0 h1
   rw [h1,←h0]
   rfl
 | [],c::cs,κ,r,_,h=>by simp [Jl.un] at h
 | s::l,[],κ,r,_,h=>by simp [Jl.un] at h
theorem Jm.un_some {G:List (Option b6)} (hG: ∀ r,r < G.length→ ∃ tr,qI G r=some (some tr)): ∀ {l:List (List Sh)} {m:List (List Cl)} {κ:Jm.D l→Option ρ} {r:ρ},(∀ cs∈m,∀ c∈cs,c.ok G)→Jm.un l m κ=some r→ ∃ x,m=Jm.mk G l x∧κ x=some r
 | [],[],κ,r,_,h=>⟨(),rfl,h⟩
 | s::l,c::cs,κ,r,hc,h=>by
   unfold Jm.un at h
   obtain⟨x,h1,h⟩:=yO.un_some hG (hc c List.mem_cons_self) h
   obtain⟨y,h2,h⟩:=Jm.un_some hG (fun z hz=>hc z (List.mem_cons_of_mem _ hz)) h
   exact⟨(x,y),by rw [h1,h2]; rfl,h⟩
 | [],c::cs,κ,r,_,h=>by simp [Jm.un] at h
 | s::l,[],κ,r,_,h=>by simp [Jm.un] at h
theorem uo.un_some: ∀ {l:List Ty} {m:List (Option b6)} {κ:uo.D l→Option ρ} {r:ρ},uo.un l m κ=some r→ ∃ x,m=uo.mk l x∧κ x=some r
 | [],[],κ,r,h=>⟨(),rfl,h⟩
 | t::l,some tr::m,κ,r,h=>by
   unfold uo.un at h
   split at h
   ·rename_i hh
    split at h
    ·rename_i a ha
     obtain⟨e,hl⟩:=gb ha
     obtain⟨y,h2,h⟩:=uo.un_some h
     obtain⟨t',l',hole⟩:=tr
     simp only at hh e hl ha
     subst hh e
     simp only at hl
     subst hl
     exact⟨(l',y),by rw [h2]; rfl,h⟩
    ·cases h
   ·cases h
 | [],c::cs,κ,r,h=>by simp [uo.un] at h
 | t::l,[],κ,r,h=>by simp [uo.un] at h
 | t::l,none::m,κ,r,h=>by simp [uo.un] at h
theorem uo.mk_some: ∀ (l:List Ty) (d:uo.D l) (r:Nat),r < (uo.mk l d).length→ ∃ tr,qI (uo.mk l d) r=some (some tr)
 | [],d,r,h=>by simp [uo.mk] at h
 | t::l,d,0,h=>⟨_,rfl⟩
 | t::l,d,r+1,h=>by
   obtain⟨tr,htr⟩:=uo.mk_some l d.2 r (by simpa [uo.mk] using h)
   exact⟨tr,htr⟩
theorem ep.un_some {L:ep} {S:TS} (hS:S.ok) {κ:L.D→Option ρ} {r:ρ} (h:L.un S κ=some r): ∃ d,S=L.mk' d∧κ d=some r:=by
 unfold ep.un at h
 obtain⟨g,h1,h⟩:=uo.un_some h
 have hG: ∀ r,r < S.gh.length→ ∃ tr,qI S.gh r=some (some tr):=by rw [h1]; exact uo.mk_some _ _
 obtain⟨e,h2,h⟩:=Jl.un_some hG hS.env h
 obtain⟨b,h3,h⟩:=Jm.un_some hG hS.bx h
 obtain⟨h4,h⟩:=au h
 simp only [Bool.and_eq_true] at h4
 have h5:=Nat.eq_of_beq_eq_true h4.1
 have h6:=Nat.eq_of_beq_eq_true h4.2
 refine⟨(e,b,g),?_,h⟩
 obtain⟨env,bx,gh,fz,nt⟩:=S
 simp only at h1 h2 h3 h5 h6
 subst h5 h6
 unfold ep.mk'
 simp only
 rw [←h1,←h2,←h3]
end
end Go.Proofs.YtkcgfceffffmoaaGreat.En
namespace Go.Proofs.YtkcgfceffffmoaaGreat.En
open Go
def Rf (S:TS) (t:Ty):Cl:= .own ⟨S.gh.length,[]⟩ t.width 0 0 true
def Rg (n j:Nat) (t:Ty) (S:TS):TS:=match qI S.bx n with
 | some cs=>(match qI cs j with
   | some .em=> { S with bx:=dv S.bx n (dv cs j (Rf S t)),gh:=S.gh++ [some ⟨t,[],none⟩] }
   | _=>S)
 | none=>S
def Ri (x:Nat) (t:Ty) (S:TS):TS:=match i6 S.env x with
 | .v (.cl .em)=> { S with env:=(x, .v (.cl (Rf S t)))::S.env,gh:=S.gh++ [some ⟨t,[],none⟩] }
 | _=>S
theorem Wl: ∀ (l:List (Nat×Nat)),T.go .dd l= .dd
 | [] =>rfl
 | (_,_)::l=>Wl l
theorem WP (w:Nat) {l:List (Nat×Nat)} {s:Nat} {rs:List (List T)} (h:T.go (.sl w []) l= .sl s rs):rs= [] :=by
 cases l with
 | nil=>cases h; rfl
 | cons a l=>
   obtain⟨i,j⟩:=a
   simp only [T.go,T.cell,List.getD_nil,Wl] at h
   cases h
theorem KK {S S':TS} (t:Ty) (henv: ∀ u,(i6 S'.env u).av=(i6 S.env u).av∨((i6 S.env u).av= .em∧(i6 S'.env u).av= .own ⟨S.gh.length,[]⟩ t.width 0 0))
  (hbx: ∀ k cs',S'.st.bx k=some cs'→ ∃ cs,S.st.bx k=some cs∧cs'.length=cs.length∧ ∀ (j:Nat) (v:AV),cs'[j]? =some v→cs[j]? =some v∨(cs[j]? =some .em∧v= .own ⟨S.gh.length,[]⟩ t.width 0 0))
  (hgh:S'.gh=S.gh++ [some ⟨t,[],none⟩]) (hfz:S'.fz=S.fz) (hnt:S'.nt=S.nt) (hbl:S'.bx.length=S.bx.length):qG S.st S'.st:=by
 intro w0 W btI SI bt a w hl0
 have hl:=hl0.widen (N:=S.gh.length+1) (Nat.le_succ _)
 have inv:=hl.inv
 have hng:S'.st.ng=S.gh.length+1:=by show S'.gh.length=_; rw [hgh]; simp
 have ghS: ∀ r,S'.st.gh r=if r=S.gh.length then some (.sl t.width []) else S.st.gh r:=by
  intro r
  show (dg S'.gh r).map b6.tree=_
  rw [hgh,ow]
  split <;> rfl
 have κ0: ∀ l,(bt.widen S.st.ng (S.gh.length+1)).κ ⟨S.gh.length,l⟩=0:=by
  intro l
  show (if S.gh.length < S.gh.length then _ else 0)=0
  rw [if_neg (Nat.lt_irrefl _)]
 have look: ∀ p s rs,S'.st.look p= .sl s rs→(p.r=S.gh.length∧rs= [] ∧(bt.widen S.st.ng (S.gh.length+1)).κ p=0)∨(p.r≠S.gh.length∧S.st.look p= .sl s rs):=by
  intro p s rs hp
  unfold St.look at hp
  rw [ghS] at hp
  by_cases hr:p.r=S.gh.length
  ·rw [if_pos hr] at hp
   left
   refine⟨hr,WP _ hp,?_⟩
   obtain⟨pr,pl⟩:=p
   simp only at hr
   subst hr
   exact κ0 pl
  ·rw [if_neg hr] at hp
   exact .inr ⟨hr,hp⟩
 have own0: ∀ {u:Value},VR w (bt.widen S.st.ng (S.gh.length+1)) .em u→VR w (bt.widen S.st.ng (S.gh.length+1)) (.own ⟨S.gh.length,[]⟩ t.width 0 0) u:=by
  intro u hu
  cases hu with
  | em ad=>exact .own (Nat.lt_succ_self _) (Nat.le_refl _) (Nat.zero_le _) (fun h=>absurd h (Nat.lt_irrefl _))
 refine⟨bt.widen S.st.ng (S.gh.length+1),?_⟩
 refine⟨{ os:=inv.os,tape:=inv.tape,output:=inv.output,size:=inv.size,keep:=inv.keep
          nb:=by show _=S'.bx.length; rw [hbl]; exact inv.nb
          ng:=by rw [hng]; exact inv.ng
          bx:=fun n cells hn=> ?_
          gh:=fun r x hr=> ?_
          tr:=fun p sz rows hp=> ?_
          inj:=fun p q s rs s' rs' hp hq hk hk' he=> ?_
          bbinj:=fun n m cs cs' hn hm he=> ?_
          bbtr:=fun n cs p s rs hn hp hk=> ?_
          alt:=inv.alt
          atr:=fun p s rs hp hk=> ?_
          abb:=fun n cs hn=> ?_ },⟨?_,fun u=> ?_⟩,hl.defers,?_,?_,hl.keep,fun r hr hn=> ?_⟩
 ·obtain⟨cs,h1,h2,h3⟩:=hbx n cells hn
  obtain⟨g1,g2,arr,e,g3,g4,g5⟩:=inv.bx n cs h1
  refine⟨by show n < S'.bx.length; rw [hbl]; exact g1,g2,arr,e,g3,by rw [h2]; exact g4,fun j v hj=> ?_⟩
  rcases h3 j v hj with h4 | ⟨h4,rfl⟩
  ·exact g5 j v h4
  ·obtain⟨c,k1,k2,k3⟩:=g5 j .em h4
   exact⟨c,k1,own0 k2,k3⟩
 ·rw [hng]
  rw [ghS] at hr
  split at hr
  ·omega
  ·have:=inv.gh r x hr
   exact this
 ·rcases look p sz rows hp with ⟨h1,rfl,h3⟩ | ⟨h1,h2⟩
  ·exact⟨Nat.zero_le _,fun hk=>by omega⟩
  ·exact inv.tr p sz rows h2
 ·rcases look p s rs hp with ⟨h1,_,h3⟩ | ⟨h1,h2⟩
  ·omega
  ·rcases look q s' rs' hq with ⟨g1,_,g3⟩ | ⟨g1,g2⟩
   ·omega
   ·exact inv.inj _ _ _ _ _ _ h2 g2 hk hk' he
 ·obtain⟨c,h1,_,_⟩:=hbx n cs hn
  obtain⟨c',g1,_,_⟩:=hbx m cs' hm
  exact inv.bbinj _ _ _ _ h1 g1 he
 ·obtain⟨c,h1,_,_⟩:=hbx n cs hn
  rcases look p s rs hp with ⟨_,_,h3⟩ | ⟨_,h2⟩
  ·omega
  ·exact inv.bbtr _ _ _ _ _ h1 h2 hk
 ·rcases look p s rs hp with ⟨_,_,h3⟩ | ⟨_,h2⟩
  ·omega
  ·exact inv.atr _ _ _ h2 hk
 ·obtain⟨c,h1,_,_⟩:=hbx n cs hn
  exact inv.abb _ _ h1
 ·have:=hl.er.1
  show _=S'.nt
  rw [hnt]
  exact this
 ·have h1:=hl.er.2 u
  show VR w _ (i6 S'.env u).av _
  rcases henv u with h2 | ⟨h2,h3⟩
  ·rw [h2]; exact h1
  ·rw [h3]
   have h1':VR w (bt.widen S.st.ng (S.gh.length+1)) (i6 S.env u).av (a.tmps.getD u undef):=h1
   rw [h2] at h1'
   exact own0 h1'
 ·show S'.fz=_
  rw [hfz]
  exact hl.fz
 ·show S'.fz≤S'.gh.length
  have:=hl.fzng
  have e:S.fz≤S.gh.length+1:=this
  have e2:S.st.fz≤S.st.ng:=hl0.fzng
  have e3:S.fz≤S.gh.length:=e2
  rw [hfz,hgh]
  simp
  omega
 ·refine hl.gone r hr ?_
  rw [ghS] at hn
  split at hn
  ·cases hn
  ·exact hn
theorem N3 (S:TS) (t:Ty): (Rf S t).ok (S.gh++ [some ⟨t,[],none⟩]):=by
 refine⟨by simp,fun _=>⟨rfl,rfl,fun tr htr=> ?_⟩⟩
 rw [ow,if_pos rfl] at htr
 cases htr
 rfl
theorem Uf {S:TS} (hS:S.ok) (x:Nat) (t:Ty):qG S.st (Ri x t S).st∧(Ri x t S).ok:=by
 unfold Ri
 split
 ·rename_i hx
  refine⟨KK t (fun u=> ?_) (fun k cs' h=>⟨cs',h,rfl,fun j v hv=> .inl hv⟩) rfl rfl rfl rfl,⟨fun y hy=> ?_,fun cs hcs c hc=>Cl.ok_mono (iR.app _ _) (hS.bx cs hcs c hc)⟩⟩
  ·simp only [i6]
   cases hb:Nat.beq x u with
   | true=>
     have :x=u:=Nat.eq_of_beq_eq_true hb
     subst this
     right
     rw [hx]
     exact⟨rfl,rfl⟩
   | false=>exact .inl rfl
  ·rcases List.mem_cons.1 hy with rfl | hy
   ·exact N3 S t
   ·exact V.ok_mono (iR.app _ _) (hS.env y hy)
 ·exact⟨qG.refl,hS⟩
theorem Ug {S:TS} (hS:S.ok) (n j:Nat) (t:Ty):qG S.st (Rg n j t S).st∧(Rg n j t S).ok:=by
 unfold Rg
 split
 ·rename_i cs hcs
  split
  ·rename_i hj
   rw [dN] at hcs hj
   have hn:=(List.getElem?_eq_some_iff.1 hcs).1
   refine⟨KK t (fun u=> .inl rfl) (fun k cs' h=> ?_) rfl rfl rfl (by simp [fZ]),⟨fun y hy=>V.ok_mono (iR.app _ _) (hS.env y hy),fun cs' hcs' c hc=> ?_⟩⟩
   ·have h': (qI (dv S.bx n (dv cs j (Rf S t))) k).map (fun cs=>cs.map Cl.av)=some cs':=h
    rw [dN,fZ,fZ,List.getElem?_set] at h'
    by_cases hk:n=k
    ·subst hk
     rw [if_pos rfl,if_pos hn] at h'
     simp only [Option.map_some,Option.some.injEq] at h'
     subst h'
     refine⟨cs.map Cl.av,by show (qI S.bx n).map _=_; rw [dN,hcs]; rfl,by simp,fun i v hv=> ?_⟩
     rw [List.getElem?_map,List.getElem?_set] at hv
     by_cases hi:j=i
     ·subst hi
      rw [if_pos rfl,if_pos (List.getElem?_eq_some_iff.1 hj).1] at hv
      right
      rw [List.getElem?_map,hj]
      simp only [Option.map_some,Option.some.injEq] at hv
      exact⟨rfl,hv.symm⟩
     ·rw [if_neg hi] at hv
      left
      rw [List.getElem?_map]
      exact hv
    ·rw [if_neg hk] at h'
     exact⟨cs',by show (qI S.bx k).map _=_; rw [dN]; exact h',rfl,fun i v hv=> .inl hv⟩
   ·simp only [fZ] at hcs'
    rcases List.mem_or_eq_of_mem_set hcs' with h1 | h1
    ·exact Cl.ok_mono (iR.app _ _) (hS.bx _ h1 c hc)
    ·subst h1
     rcases List.mem_or_eq_of_mem_set hc with h2 | h2
     ·exact Cl.ok_mono (iR.app _ _) (hS.bx _ (List.mem_of_getElem? hcs) c h2)
     ·subst h2
      exact N3 S t
  ·exact⟨qG.refl,hS⟩
 ·exact⟨qG.refl,hS⟩
theorem am {α β:Type} (b:Bool) (x y:Option α) (f:α→Option β): (br b x y).bind f=br b (x.bind f) (y.bind f):=by cases b <;> rfl
theorem ap {α β:Type} (c:Prop) [Decidable c] (x y:Option α) (f:α→Option β): (aq c x y).bind f=aq c (x.bind f) (y.bind f):=by unfold aq; split <;> rfl
inductive R9 where
 | t (x:Nat) (t:Ty)
 | b (n j:Nat) (t:Ty)
def yP:List R9→TS→TS
 | [],S=>S
 | .t x t::l,S=>yP l (Ri x t S)
 | .b n j t::l,S=>yP l (Rg n j t S)
theorem Ay: ∀ (l:List R9) {S:TS},S.ok→qG S.st (yP l S).st∧(yP l S).ok
 | [],S,hS=>⟨qG.refl,hS⟩
 | .t x t::l,S,hS=>by
   obtain⟨h1,h2⟩:=Uf hS x t
   obtain⟨h3,h4⟩:=Ay l h2
   exact⟨h1.trans h3,h4⟩
 | .b n j t::l,S,hS=>by
   obtain⟨h1,h2⟩:=Ug hS n j t
   obtain⟨h3,h4⟩:=Ay l h2
   exact⟨h1.trans h3,h4⟩
section
variable {P:Program} {Θ:qO} {Y:Bu} {Λ:qJ}
def c6 {ρ:Type} (keepN keepX:List Nat) (κ:X→TS→Option ρ) (x:X) (S:TS):Option ρ:=match x with
 | .nor=>Dr keepN S (κ .nor)
 | x=>Dr keepX S (κ x)
def Uh {σ ε:Type} (G:σ→Option ε) (μ:σ→Nat) (s:σ) (e:ε):Option (σ⊕ε)→Prop
 | some (.inl s')=>μ s' < μ s∧G s'=some e
 | some (.inr e')=>e'=e
 | none=>False
theorem VL (hΘ:eC P Θ) (hY:ar P Y) (hm:P.follows .mixedOrders=true) {c:Code} (hc:mU P c=true) (hL:gE P Λ (fo c)) {σ ε:Type} {H:σ→TS} {E:ε→X×TS} {B:σ→Option (σ⊕ε)} {keepN keepX:List Nat}
  (hH: ∀ s,(H s).ok) (hstep: ∀ s,ev Θ Y Λ c (H s) (c6 keepN keepX fun x S=>some (x,S))=(B s).bind (Sum.elim (fun s'=>some (.nor,H s')) fun e=>some (E e)))
  (hE: ∀ e,(E e).1≠ .nor) {G:σ→Option ε} {μ:σ→Nat} (hG: ∀ s e,G s=some e→Uh G μ s e (B s))
  {s:σ} {e:ε} (hs:G s=some e):sG P (.loop c) (H s).st (fun x S'=>x=(E e).1∧S'=(E e).2.st):=by
 refine sG.loop (fun n X=> ∃ s,X=(H s).st∧G s=some e∧μ s=n) (fun n X hX=> ?_) (n:=μ s) ⟨s,rfl,hs,rfl⟩
 obtain⟨s,rfl,hs,rfl⟩:=hX
 have hg:=hG s e hs
 have hst:=hstep s
 cases hB:B s with
 | none=>rw [hB] at hg; exact hg.elim
 | some l=>
   rw [hB] at hg hst
   cases l with
   | inl s'=>
     simp only [Option.bind_some,Sum.elim_inl] at hst
     refine (BC hΘ hY hm c _ _ _ hc hL (hH s) hst).mono (fun x S' hx=> ?_)
     obtain⟨S1,rfl,h1,h2⟩:=hx
     have ce: ∃ S2:TS,qG S1.st S2.st∧x= .nor∧S2=H s':=by
      unfold c6 at h2
      split at h2
      ·obtain⟨S2,k1,_,k2⟩:=uQ h1 h2
       simp only [Option.some.injEq,Prod.mk.injEq] at k2
       exact⟨S2,k1,rfl,k2.2⟩
      ·obtain⟨S2,k1,_,k2⟩:=uQ h1 h2
       simp only [Option.some.injEq,Prod.mk.injEq] at k2
       exact⟨S2,k1,k2.1,k2.2⟩
     obtain⟨S2,k1,rfl,rfl⟩:=ce
     exact⟨_,k1,μ s',hg.1,s',rfl,hg.2,rfl⟩
   | inr e'=>
     simp only [Option.bind_some,Sum.elim_inr] at hst
     have hg:e'=e:=hg
     subst hg
     refine (BC hΘ hY hm c _ _ _ hc hL (hH s) hst).mono (fun x S' hx=> ?_)
     obtain⟨S1,rfl,h1,h2⟩:=hx
     have ce: ∃ S2:TS,qG S1.st S2.st∧(x,S2)=E e':=by
      unfold c6 at h2
      split at h2
      ·obtain⟨S2,k1,_,k2⟩:=uQ h1 h2
       exact⟨S2,k1,Option.some.inj k2⟩
      ·obtain⟨S2,k1,_,k2⟩:=uQ h1 h2
       exact⟨S2,k1,Option.some.inj k2⟩
     obtain⟨S2,k1,k2⟩:=ce
     refine⟨S2.st,k1,?_⟩
     have hx:x=(E e').1:=congrArg Prod.fst k2
     have hS2:S2=(E e').2:=congrArg Prod.snd k2
     have hne:=hE e'
     rw [←hx] at hne
     cases x with
     | nor=>exact absurd rfl hne
     | ret=>exact⟨hx,by rw [hS2]⟩
     | ext i=>exact⟨hx,by rw [hS2]⟩
def Ui (grow:List R9) (keep:List Nat) (L:ep) {ε:Type} (E:ε→X×TS) (G:L.D→Option ε):TS→(ρ:Type)→(X→TS→Option ρ)→Option ρ:=
 fun S _ κ=>Dr keep (yP grow S) fun S1=>L.un S1 fun s=>(G s).bind fun e=>κ (E e).1 (E e).2
theorem Uj {c:Code} {grow:List R9} {keep:List Nat} {L:ep} {ε:Type} {E:ε→X×TS} {G:L.D→Option ε} (hE: ∀ e,(E e).2.ok)
  (h: ∀ s e,G s=some e→sG P (.loop c) (L.mk' s).st (fun x S'=>x=(E e).1∧S'=(E e).2.st)) {S:TS} {ρ:Type} {κ:X→TS→Option ρ} {r:ρ} (hS:S.ok) (hk:Ui grow keep L E G S ρ κ=some r):
  sG P (.loop c) S.st (fun x S'=> ∃ S1:TS,S'=S1.st∧S1.ok∧κ x S1=some r):=by
 unfold Ui at hk
 obtain⟨h1,h2⟩:=Ay grow hS
 obtain⟨S1,h3,h4,hk⟩:=uQ h2 hk
 obtain⟨s,rfl,hk2⟩:=ep.un_some h4 hk
 obtain⟨e,h5,hk3⟩:=Option.bind_eq_some_iff.1 hk2
 refine sG.weak (h1.trans h3) ((h s e h5).mono (fun x S' hx=> ?_))
 obtain⟨rfl,rfl⟩:=hx
 exact⟨_,qG.refl,_,rfl,hE e,hk3⟩
end
end Go.Proofs.YtkcgfceffffmoaaGreat.En
namespace Go.Proofs.YtkcgfceffffmoaaGreat.En
open Go
abbrev tB.D:List Ty→Type
 | [] =>Unit
 | t::l=>t.D×tB.D l
def aD: (l:List Ty)→tB.D l→List ((t:Ty)×t.D)
 | [],_=> []
 | t::l,x=>⟨t,x.1⟩::aD l x.2
def aA (P:Program) (f:FuncId) (e:bm):Prop:= ∀ args ρ κ r,e args ρ κ=some r→ ∃ res out,EK P f args res out∧res.ok (out.map some)∧κ res out=some r
theorem ak (P:Program):ar P (aL []):=fun _ _ _ _ _ h=>by cases h
theorem ae {P:Program} {f:FuncId} {e:bm} {l:List (Nat×bm)} (h:aA P f e) (hl:ar P (aL l)):ar P (aL ((f,e)::l)):=by
 intro g args ρ κ r hr
 have hr: (bif Nat.beq f g then e args ρ κ else WI l g args ρ κ)=some r:=hr
 cases hb:Nat.beq f g with
 | true=>
   rw [hb] at hr
   have:=Nat.eq_of_beq_eq_true hb
   subst this
   exact h args ρ κ r hr
 | false=>
   rw [hb] at hr
   exact hl g args ρ κ r hr
theorem un_some {ρ:Type} {t:Ty} {a:V1} {κ:t.D→Option ρ} {r:ρ} (h:un t a κ=some r): ∃ x,a=QZ t x∧κ x=some r:=by
 unfold un at h
 split at h
 ·rename_i cs
  obtain⟨h1,h⟩:=au h
  split at h
  ·rename_i xs hxs
   split at h
   ·rename_i x hx
    refine⟨x,?_,h⟩
    unfold QZ
    rw [h1,t.unflat_some _ _ hx,Dt hxs]
    rfl
   ·cases h
  ·cases h
 ·rename_i y
  cases hag:t.ag with
  | true=>rw [hag] at h; cases h
  | false=>
    rw [hag] at h
    simp only [cond_false] at h
    split at h
    ·rename_i x hx
     refine⟨x,?_,h⟩
     unfold QZ
     rw [hag,t.unflat_some _ _ hx]
     rfl
    ·cases h
 ·cases h
theorem WQ (t:Ty) (x:t.D): (QZ t x).ok [] :=by
 unfold QZ
 cases t.ag with
 | true=>
   intro c hc
   obtain⟨y,_,rfl⟩:=List.mem_map.1 hc
   trivial
 | false=>
   simp only [cond_false]
   split
   ·rename_i c hc
    have :c∈(t.flat x).map Cl.c:=by rw [hc]; exact List.mem_singleton.2 rfl
    obtain⟨y,_,rfl⟩:=List.mem_map.1 this
    trivial
   ·trivial
theorem LP (Ey suf:List b6): ∀ (cs:List C) (mid:List b6),∀ c∈wQ cs (Ey.length+mid.length),c.ok ((Ey++mid++oq cs++suf).map some)
 | [],mid,c,h=>by cases h
 | .sc v::cs,mid,c,h=>by
   rcases List.mem_cons.1 h with rfl | h
   ·trivial
   ·exact LP Ey suf cs mid c h
 | .ls t l::cs,mid,c,h=>by
   rcases List.mem_cons.1 h with rfl | h
   ·refine⟨by simp [oq],fun _=>⟨rfl,rfl,fun tr htr=> ?_⟩⟩
    have :dg ((Ey++mid++oq (.ls t l::cs)++suf).map some) (Ey.length+mid.length)=some ⟨t,l,none⟩:=by
     unfold dg
     rw [dN,List.getElem?_map,List.append_assoc,List.getElem?_append_right (by simp)]
     simp [oq]
    have htr':dg ((Ey++mid++oq (.ls t l::cs)++suf).map some) (Ey.length+mid.length)=some tr:=htr
    rw [this] at htr'
    cases htr'
    rfl
   ·have:=LP Ey suf cs (mid++ [⟨t,l,none⟩]) c (by rw [List.length_append,←Nat.add_assoc]; exact h)
    simp only [oq]
    simpa using this
theorem VM (t:Ty) (x:t.D) (Ey suf:List b6): (Hh t x Ey.length).ok ((Ey++oq (t.flat x)++suf).map some):=by
 have ce:=LP Ey suf (t.flat x) []
 simp only [List.length_nil,Nat.add_zero,List.append_nil] at ce
 unfold Hh
 cases t.ag with
 | true=>exact ce
 | false=>
   simp only [cond_false]
   split
   ·rename_i c hc
    exact ce c (by rw [hc]; exact List.mem_singleton.2 rfl)
   ·trivial
theorem BE: ∀ (l:List ((t:Ty)×t.D)) (Ey:List b6),∀ v∈zw Ey.length l,v.ok ((Ey++zx l).map some)
 | [],Ey,v,h=>by cases h
 | ⟨t,x⟩::l,Ey,v,h=>by
   rcases List.mem_cons.1 h with rfl | h
   ·have:=VM t x Ey (zx l)
    simpa [zx] using this
   ·have:=BE l (Ey++oq (t.flat x)) v (by rw [List.length_append]; exact h)
    simpa [zx] using this
theorem Uk (l:List ((t:Ty)×t.D)): (yZ (zw 0 l)).ok ((zx l).map some):=by
 have h:=BE l []
 simp only [List.length_nil,List.nil_append] at h
 match zw 0 l,h with
 | [],_=>exact fun x hx=>by cases hx
 | [v],h=>exact h v List.mem_cons_self
 | v::u::vs,h=>exact h
end Go.Proofs.YtkcgfceffffmoaaGreat.En
namespace Go.Proofs.YtkcgfceffffmoaaGreat.En
open Go
def Sh.fit (n:Nat):Sh→Bool | .own r _=>Nat.blt r n | _=>true
def C4.fit (n:Nat):C4→Bool | .cl s=>s.fit n | .agg l=>l.all (Sh.fit n) | .st _=>true | .fn _ l=>l.all (Sh.fit n)
def ep.fit (L:ep):Bool:=L.env.all (fun x=>x.2.fit L.gh.length)&&L.bx.all (fun l=>l.all (Sh.fit L.gh.length))
theorem uo.mk_length: ∀ (l:List Ty) (d:uo.D l),(uo.mk l d).length=l.length
 | [],_=>rfl
 | t::l,d=>by simp [uo.mk,uo.mk_length l d.2]
theorem Sh.mk_ok {G:List (Option b6)} {s:Sh} (h:s.fit G.length=true) (x:s.D): (s.mk G x).ok G:=by
 cases s with
 | own r t=>
   refine⟨Nat.le_of_ble_eq_true h,fun _=>⟨rfl,rfl,fun tr htr=> ?_⟩⟩
   unfold dg at htr
   unfold WO
   have htr': (qI G r).getD none=some tr:=htr
   cases hn:qI G r with
   | none=>rw [hn] at htr'; cases htr'
   | some y=>rw [hn] at htr'; simp only [Option.getD_some] at htr'; subst htr'; rfl
 | _=>trivial
theorem yO.mk_ok {G:List (Option b6)}: ∀ {l:List Sh},l.all (Sh.fit G.length)=true→ ∀ (x:yO.D l),∀ c∈yO.mk G l x,c.ok G
 | [],_,x,c,hc=>by cases hc
 | s::l,h,x,c,hc=>by
   simp only [List.all_cons,Bool.and_eq_true] at h
   rcases List.mem_cons.1 hc with rfl | hc
   ·exact Sh.mk_ok h.1 x.1
   ·exact yO.mk_ok h.2 x.2 c hc
theorem C4.mk_ok {G:List (Option b6)} {v:C4} (h:v.fit G.length=true) (x:v.D): (v.mk G x).ok G:=by
 cases v with
 | cl s=>exact Sh.mk_ok h x
 | agg l=>exact yO.mk_ok h x
 | st n=>
   intro c hc
   obtain⟨y,_,rfl⟩:=List.mem_map.1 hc
   trivial
 | fn f l=>exact yO.mk_ok h x
theorem ep.mk'_ok {L:ep} (h:L.fit=true) (d:L.D): (L.mk' d).ok:=by
 unfold ep.fit at h
 simp only [Bool.and_eq_true] at h
 have hlen: (uo.mk L.gh d.2.2).length=L.gh.length:=uo.mk_length _ _
 rw [←hlen] at h
 have env: ∀ {l:List (Nat×C4)},l.all (fun x=>x.2.fit (uo.mk L.gh d.2.2).length)=true→ ∀ (e:Jl.D l),∀ x∈Jl.mk (uo.mk L.gh d.2.2) l e,x.2.ok (uo.mk L.gh d.2.2):=by
  intro l
  induction l with
  | nil=>intro _ e x hx; cases hx
  | cons y l ih=>
    intro h e x hx
    simp only [List.all_cons,Bool.and_eq_true] at h
    rcases List.mem_cons.1 hx with rfl | hx
    ·exact C4.mk_ok h.1 e.1
    ·exact ih h.2 e.2 x hx
 have bxs: ∀ {l:List (List Sh)},l.all (fun l=>l.all (Sh.fit (uo.mk L.gh d.2.2).length))=true→ ∀ (e:Jm.D l),∀ cs∈Jm.mk (uo.mk L.gh d.2.2) l e,∀ c∈cs,c.ok (uo.mk L.gh d.2.2):=by
  intro l
  induction l with
  | nil=>intro _ e x hx; cases hx
  | cons y l ih=>
    intro h e x hx
    simp only [List.all_cons,Bool.and_eq_true] at h
    rcases List.mem_cons.1 hx with rfl | hx
    ·exact yO.mk_ok h.1 e.1
    ·exact ih h.2 e.2 x hx
 exact⟨env h.1 d.1,bxs h.2 d.2.1⟩
abbrev bh.D:List (X×ep)→Type
 | [] =>Empty
 | [x] =>x.2.D
 | x::y::l=>x.2.D⊕bh.D (y::l)
def bh.k {R:Type}: (l:List (X×ep))→bh.D l→(X→TS→R)→R
 | [],e,_=>e.elim
 | [x],d,κ=>κ x.1 (x.2.mk' d)
 | x::y::l,e,κ=>Sum.elim (fun d=>κ x.1 (x.2.mk' d)) (fun e=>bh.k (y::l) e κ) e
def bh.e (l:List (X×ep)) (d:bh.D l):X×TS:=bh.k l d Prod.mk
theorem bh.k_eq {R:Type}: ∀ (l:List (X×ep)) (d:bh.D l) (κ:X→TS→R),bh.k l d κ=κ (bh.e l d).1 (bh.e l d).2
 | [],e,_=>e.elim
 | [_],_,_=>rfl
 | _::_::_, .inl _,_=>rfl
 | _::y::l, .inr e,κ=>bh.k_eq (y::l) e κ
def Yc (x:X×ep):Bool:=(match x.1 with | .nor=>false | _=>true)&&x.2.fit
theorem bh.ok: ∀ (l:List (X×ep)) (d:bh.D l),l.all Yc=true→(bh.e l d).1≠ .nor∧(bh.e l d).2.ok
 | [],e,_=>e.elim
 | [x],d,h=>by
   simp only [List.all_cons,Bool.and_eq_true,Yc] at h
   refine⟨fun e=> ?_,ep.mk'_ok h.1.2 d⟩
   have e:x.1= .nor:=e
   rw [e] at h
   cases h.1.1
 | x::_::_, .inl d,h=>by
   simp only [List.all_cons,Bool.and_eq_true,Yc] at h
   refine⟨fun e=> ?_,ep.mk'_ok h.1.2 d⟩
   have e:x.1= .nor:=e
   rw [e] at h
   cases h.1.1
 | _::y::l, .inr e,h=>bh.ok (y::l) e (by
   simp only [List.all_cons,Bool.and_eq_true] at h ⊢
   exact h.2)
def dh (grow:List R9) (keep:List Nat) (L:ep) (exs:List (X×ep)) (G:L.D→Option (bh.D exs)):TS→(ρ:Type)→(X→TS→Option ρ)→Option ρ:=
 fun S _ κ=>Dr keep (yP grow S) fun S1=>L.un S1 fun s=>(G s).bind fun e=>bh.k exs e κ
abbrev cU:=TS→(ρ:Type)→(X→TS→Option ρ)→Option ρ
def aK:List (Nat×cU)→qJ
 | [],_,_,_,_=>none
 | (q,e)::l,n,S,ρ,κ=>bif Nat.beq q n then e S ρ κ else aK l n S ρ κ
section
variable {P:Program} {Θ:qO} {Y:Bu} {Λ:qJ}
def b7 (P:Program) (c:Code) (e:cU):Prop:= ∀ (S:TS) (ρ:Type) (κ:X→TS→Option ρ) (r:ρ),S.ok→e S ρ κ=some r→sG P (.loop c) S.st (fun x S'=> ∃ S1:TS,S'=S1.st∧S1.ok∧κ x S1=some r)
theorem ah:gE P Λ [] :=fun c hc=>by cases hc
theorem aN {l:List (Nat×cU)} {c:Code} {q:Nat} {e:cU} (hq:ce c=q) (h:b7 P c e) (hl: ∀ (S:TS) (ρ:Type) (κ:X→TS→Option ρ),aK l q S ρ κ=e S ρ κ):gE P (aK l) [c] :=by
 intro c' hc' S ρ κ r hS hr
 rw [List.mem_singleton] at hc'
 subst hc'
 rw [hq,hl] at hr
 exact h S ρ κ r hS hr
theorem Ul {l:List (Nat×cU)} {c:Code} {q:Nat} (hq:ce c=q) (hl: ∀ (S:TS) (ρ:Type) (κ:X→TS→Option ρ),aK l q S ρ κ=none):gE P (aK l) [c] :=by
 intro c' hc' S ρ κ r hS hr
 rw [List.mem_singleton] at hc'
 subst hc'
 rw [hq,hl] at hr
 cases hr
theorem ba (hΘ:eC P Θ) (hY:ar P Y) (hm:P.follows .mixedOrders=true) {c:Code} (hc:mU P c=true) (hL:gE P Λ (fo c)) (grow:List R9) (keep keepX:List Nat) (L:ep) (exs:List (X×ep)) (hf: (L.fit&&exs.all Yc)=true)
  (B:L.D→Option (L.D⊕bh.D exs)) (hB: ∀ s,ev Θ Y Λ c (L.mk' s) (c6 keep keepX fun x S=>some (x,S))=(B s).bind (Sum.elim (fun s'=>some (.nor,L.mk' s')) fun e=>some (bh.e exs e)))
  (G:L.D→Option (bh.D exs)) (μ:L.D→Nat) (hG: ∀ s e,G s=some e→Uh G μ s e (B s)):b7 P c (dh grow keep L exs G):=by
 simp only [Bool.and_eq_true] at hf
 intro S ρ κ r hS hk
 refine Uj (E:=bh.e exs) (fun e=>(bh.ok exs e hf.2).2) (fun s e hs=>VL hΘ hY hm hc hL (fun s=>ep.mk'_ok hf.1 s) hB (fun e=>(bh.ok exs e hf.2).1) hG hs) hS ?_ (grow:=grow) (keep:=keep)
 rw [←hk]
 unfold Ui dh
 simp only [bh.k_eq]
end
end Go.Proofs.YtkcgfceffffmoaaGreat.En
namespace Go.Proofs.YtkcgfceffffmoaaGreat.En
open Go
def VN (P:Program) (e:TypeId→List Value→Bool):List Field→Nat→List Value→Bool
 | [],_,[] =>true
 | [],_,_::_=>false
 | f::fs,off,zs=>f.name != "_" &&Nat.beq f.offset off&&Nat.blt 0 (P.cellsOf f.type)&&Nat.ble (P.cellsOf f.type) zs.length&&(P.info? f.type).isSome&&e f.type (zs.take (P.cellsOf f.type))&&VN P e fs (off+P.cellsOf f.type) (zs.drop (P.cellsOf f.type))
def N4 (P:Program):Nat→TypeId→List Value→Bool
 | 0,_,_=>false
 | n+1,t,zs=>match P.underlying t with
   | some .bool=>(match zs with | [.bool _] =>true | _=>false)
   | some (.int _)=>(match zs with | [.int _ _] =>true | _=>false)
   | some (.struct fs)=> !P.stoodInHeld t&&VN P (N4 P n) fs.toList 0 zs
   | _=>false
def Jn (P:Program) (t:TypeId) (xs:List Value):Value:=match P.underlying t with
 | some (.struct _)=> .agg xs.toArray
 | _=>xs.headD (.bool false)
def mz:List Value→List Value→Bool
 | [],[] =>true
 | .int k _::zs, .int k' _::cs=>bif decide (k=k') then mz zs cs else false
 | .bool _::zs, .bool _::cs=>mz zs cs
 | _,_=>false
def mY:List Value→List Value→Option Bool
 | [],[] =>some true
 | a::l,b::m=>match ND a b,mY l m with
   | some x,some y=>some (x&&y)
   | _,_=>none
 | _,_=>none
theorem Hv: ∀ {zs xs:List Value},mG zs (xs.map fun x=> .c (.sc x))=true→mz zs xs=true:=by
 intro zs
 induction zs with
 | nil=>intro xs h; cases xs with
   | nil=>rfl
   | cons=>simp [mG] at h
 | cons z zs ih=>
   intro xs h
   cases xs with
   | nil=>cases z <;> simp [mG] at h
   | cons x xs=>
     cases z <;> cases x <;> simp only [List.map_cons,mG,mz,cond_eq_ite,Bool.false_eq_true] at h ⊢
     ·exact ih h
     ·split at h
      ·rename_i hk
       rw [if_pos hk]
       exact ih h
      ·cases h
theorem Sa: ∀ {xs ys:List Value},yF (xs.map fun x=> .c (.sc x)) (ys.map fun x=> .c (.sc x))=mY xs ys:=by
 intro xs
 induction xs with
 | nil=>intro ys; cases ys <;> rfl
 | cons x xs ih=>
   intro ys
   cases ys with
   | nil=>rfl
   | cons y ys=>
     simp only [List.map_cons,yF,mY,ih]
     cases ND x y <;> cases mY xs ys <;> rfl
theorem sn: ∀ {zs xs:List Value},mz zs xs=true→xs.length=zs.length:=by
 intro zs
 induction zs with
 | nil=>intro xs h; cases xs with
   | nil=>rfl
   | cons=>simp [mz] at h
 | cons z zs ih=>
   intro xs h
   cases xs with
   | nil=>cases z <;> simp [mz] at h
   | cons x xs=>
     cases z <;> cases x <;> simp only [mz,cond_eq_ite,Bool.false_eq_true] at h
     ·simp [ih h]
     ·split at h
      ·simp [ih h]
      ·cases h
theorem vH: ∀ {zs xs:List Value} (n:Nat),mz zs xs=true→mz (zs.take n) (xs.take n)=true∧mz (zs.drop n) (xs.drop n)=true:=by
 intro zs
 induction zs with
 | nil=>intro xs n h; cases xs with
   | nil=>simp [mz]
   | cons=>simp [mz] at h
 | cons z zs ih=>
   intro xs n h
   cases xs with
   | nil=>cases z <;> simp [mz] at h
   | cons x xs=>
     cases n with
     | zero=>exact⟨rfl,h⟩
     | succ n=>
       cases z <;> cases x <;> simp only [mz,cond_eq_ite,Bool.false_eq_true] at h
       ·exact ih n h
       ·split at h
        ·rename_i hk
         refine⟨?_,(ih n h).2⟩
         simp only [List.take_succ_cons,mz,cond_eq_ite]
         rw [if_pos (by simpa using hk)]
         exact (ih n h).1
        ·cases h
theorem LQ: ∀ {xs ys:List Value} (n:Nat) {r:Bool},mY xs ys=some r→ ∃ a b,mY (xs.take n) (ys.take n)=some a∧mY (xs.drop n) (ys.drop n)=some b∧r=(a&&b):=by
 intro xs
 induction xs with
 | nil=>intro ys n r h; cases ys with
   | nil=>cases h; exact⟨true,true,by simp [mY],by simp [mY],rfl⟩
   | cons=>simp [mY] at h
 | cons x xs ih=>
   intro ys n r h
   cases ys with
   | nil=>simp [mY] at h
   | cons y ys=>
     cases n with
     | zero=>exact⟨true,r,rfl,h,rfl⟩
     | succ n=>
       simp only [mY] at h
       split at h
       ·rename_i p q hp hq
        cases h
        obtain⟨a,b,h1,h2,rfl⟩:=ih n hq
        exact⟨p&&a,b,by simp [mY,hp,h1],h2,by cases p <;> rfl⟩
       ·cases h
theorem LR {P:Program} {t:TypeId} {i:TypeInfo} (h:P.info? t=some i):bN P (typeInfo t)=some i:=by
 simp only [typeInfo,bq,program,bN,Option.bind_some,h]
 rfl
theorem N5 {P:Program} {t:TypeId} {i:TypeInfo} (hi:P.info? t=some i) {d:TypeDesc} (hd:P.underlying t=some d) (hs: ∀ n e,d≠ .array n e) {xs:List Value} {off:Nat} {c:Value} (hc:xs[off]? =some c):
  bN P (part t xs.toArray off)=some (Jn P t ((xs.drop off).take (P.cellsOf t)))∨P.cellsOf t=0:=by
 by_cases h0:P.cellsOf t=0
 ·exact .inr h0
 refine .inl ?_
 have hcell:P.cellsOf t=i.size:=by simp [Program.cellsOf,hi]
 cases hst: (match d with | .struct _=>true | _=>false) with
 | true=>
   have hag:bN P (isAgg t)=some true:=by
    simp only [isAgg,bq,dx hd,Option.bind_some]
    cases d <;> simp at hst
    rfl
   simp only [part,sizeOf,bq,hag,Option.bind_some,if_true,LR hi,co,Jn,hd]
   cases d <;> simp at hst
   simp [hcell,Nat.add_sub_cancel_left]
 | false=>
   have hag:bN P (isAgg t)=some false:=by
    simp only [isAgg,bq,dx hd,Option.bind_some]
    cases d <;> simp at hst
    all_goals first | rfl | exact absurd rfl (hs _ _)
   have hv:Jn P t ((xs.drop off).take (P.cellsOf t))=c:=by
    have : ((xs.drop off).take (P.cellsOf t)).headD (.bool false)=c:=by
     obtain⟨n,hn⟩: ∃ n,P.cellsOf t=n+1:=⟨P.cellsOf t - 1,by omega⟩
     have h1:off < xs.length:=(List.getElem?_eq_some_iff.1 hc).1
     rw [hn,List.drop_eq_getElem_cons h1,List.take_succ_cons]
     exact (List.getElem?_eq_some_iff.1 hc).2
    unfold Jn
    rw [hd]
    cases d <;> first | exact this | simp at hst
   rw [hv]
   simp only [part,bq,hag,Option.bind_some,Bool.false_eq_true,if_false]
   have :xs.toArray[off]? =some c:=by simpa using hc
   rw [this]
   rfl
theorem Rj (P:Program): ∀ (n:Nat) {t:TypeId} {zs xs ys:List Value} {r:Bool} (d:Nat),N4 P n t zs=true→mz zs xs=true→mz zs ys=true→mY xs ys=some r→bN P (Op.equalIn (n+d) t (Jn P t xs) (Jn P t ys))=some r
 | 0,t,zs,xs,ys,r,d,h,_,_,_=>by cases h
 | n+1,t,zs,xs,ys,r,d,h,hx,hy,he=>by
   have hn:n+1+d=(n+d)+1:=by omega
   rw [hn]
   unfold N4 at h
   cases hu:P.underlying t with
   | none=>rw [hu] at h; cases h
   | some D=>
     rw [hu] at h
     cases D <;> simp only [Bool.false_eq_true] at h
     case bool=>
      split at h
      case h_2=>cases h
      obtain⟨x,rfl⟩: ∃ x,xs= [.bool x] :=by
       match xs,hx with
       | [.bool x],_=>exact⟨x,rfl⟩
      obtain⟨y,rfl⟩: ∃ y,ys= [.bool y] :=by
       match ys,hy with
       | [.bool y],_=>exact⟨y,rfl⟩
      simp only [mY,ND,Bool.and_true,Option.some.injEq] at he
      subst he
      simp only [Jn,hu,List.headD_cons]
      rw [Op.equalIn]
      simp only [bq,dx hu,Option.bind_some,co]
     case int k=>
      split at h
      case h_2=>cases h
      rename_i k0 _
      obtain⟨x,rfl⟩: ∃ x,xs= [.int k0 x] :=by
       match xs,hx with
       | [.int k1 x],hx=>
         simp only [mz,cond_eq_ite] at hx
         split at hx
         ·rename_i hk; simp at hk; subst hk; exact⟨x,rfl⟩
         ·cases hx
       | .int _ _::_::_,hx=>simp [mz] at hx
      obtain⟨y,rfl⟩: ∃ y,ys= [.int k0 y] :=by
       match ys,hy with
       | [.int k1 x],hx=>
         simp only [mz,cond_eq_ite] at hx
         split at hx
         ·rename_i hk; simp at hk; subst hk; exact⟨x,rfl⟩
         ·cases hx
       | .int _ _::_::_,hx=>simp [mz] at hx
      simp only [mY,ND,Bool.and_true,Option.some.injEq] at he
      subst he
      simp only [Jn,hu,List.headD_cons]
      rw [Op.equalIn]
      simp only [bq,dx hu,Option.bind_some,co,if_true]
     case struct fs=>
      simp only [Bool.and_eq_true,Bool.not_eq_true'] at h
      obtain⟨hst,h⟩:=h
      simp only [Jn,hu]
      have ce: ∀ (fs:List Field) (off:Nat) (zs:List Value) (r:Bool),VN P (N4 P n) fs off zs=true→mz zs (xs.drop off)=true→mz zs (ys.drop off)=true→mY (xs.drop off) (ys.drop off)=some r→
        bN P (Op.eqFields (n+d) xs.toArray ys.toArray fs)=some r:=by
       intro fs
       induction fs with
       | nil=>
         intro off zs r h hx hy he
         cases zs with
         | nil=>
           have h1:=sn hx
           have h2:=sn hy
           simp only [List.length_nil,List.length_eq_zero_iff] at h1 h2
           rw [h1,h2] at he
           cases he
           rfl
         | cons=>cases h
       | cons f fs ih=>
         intro off zs r h hx hy he
         simp only [VN,Bool.and_eq_true,bne_iff_ne,ne_eq] at h
         obtain⟨⟨⟨⟨⟨⟨hname,hoff⟩,hpos⟩,hle⟩,hi⟩,h1⟩,h2⟩:=h
         have hoff:=Nat.eq_of_beq_eq_true hoff
         have hpos:0 < P.cellsOf f.type:=Nat.le_of_ble_eq_true hpos
         have hle:P.cellsOf f.type≤zs.length:=Nat.le_of_ble_eq_true hle
         have hlx:=sn hx
         have hly:=sn hy
         rw [List.length_drop] at hlx hly
         obtain⟨i,hi⟩:=Option.isSome_iff_exists.1 hi
         have hu': ∃ D,P.underlying f.type=some D∧ ∀ n e,D≠ .array n e:=by
          cases hun:P.underlying f.type with
          | none=>cases n <;> simp [N4,hun] at h1
          | some D=>refine⟨D,rfl,fun k e he=> ?_⟩; subst he; cases n <;> simp [N4,hun] at h1
         obtain⟨D,hD,hDa⟩:=hu'
         have px:=N5 hi hD hDa (xs:=xs) (off:=off) (List.getElem?_eq_getElem (by omega))
         have py:=N5 hi hD hDa (xs:=ys) (off:=off) (List.getElem?_eq_getElem (by omega))
         have px:=px.resolve_right (by omega)
         have py:=py.resolve_right (by omega)
         obtain⟨a,b,ha,hb,rfl⟩:=LQ (P.cellsOf f.type) he
         have hA:=Rj P n d h1 (vH _ hx).1 (vH _ hy).1 ha
         rw [Op.eqFields,if_pos hname]
         simp only [hoff,bq,px,py,Option.bind_some,hA]
         cases a with
         | false=>rfl
         | true=>
           simp only [Bool.not_true,Bool.false_eq_true,if_false,Bool.true_and]
           simp only [List.drop_drop] at hb
           refine ih _ _ _ h2 ?_ ?_ hb
           ·have:=(vH (P.cellsOf f.type) hx).2; rw [List.drop_drop] at this; exact this
           ·have:=(vH (P.cellsOf f.type) hy).2; rw [List.drop_drop] at this; exact this
      have:=ce fs.toList 0 zs r h (by simpa using hx) (by simpa using hy) (by simpa using he)
      rw [←this]
      rw [Op.equalIn]
      simp only [bq,dx hu,Option.bind_some,program,bN,hst,Bool.false_eq_true,if_false]
      rw [←Array.forIn_toList]
      generalize fs.toList=fs
      clear this ce h hu hst hn
      induction fs with
      | nil=>rfl
      | cons f fs ih=>
        simp only [List.forIn_cons,Op.eqFields]
        split
        ·simp only [bq]
         cases bN P (part f.type xs.toArray f.offset) with
         | none=>rfl
         | some a=>
           cases bN P (part f.type ys.toArray f.offset) with
           | none=>rfl
           | some b=>
             simp only [Option.bind_some]
             cases bN P (Op.equalIn (n+d) f.type a b) with
             | none=>rfl
             | some q=>
               cases q
               ·rfl
               ·simp only [Option.bind_some,Bool.not_true,Bool.false_eq_true,if_false,co]
                simpa only [bq,Option.bind_assoc] using ih
        ·simp only [bq,co,Option.bind_some]
         simpa only [bq,Option.bind_assoc] using ih
theorem XC {P:Program} {t:TypeId} {zs:List Value} {fs:Array Field} (hu:P.underlying t=some (.struct fs)) (h:N4 P 8 t zs=true) (a b:List Cl) (r:Bool) (xs ys:List Value) (ha:mG zs a=true) (hb:mG zs b=true) (he:yF a b=some r) (hx:a=xs.map (fun x=> .c (.sc x))) (hy:b=ys.map (fun x=> .c (.sc x))):
  bN P (Op.equal t (.agg xs.toArray) (.agg ys.toArray))=some r:=by
 subst hx hy
 have:=Rj P 8 9992 h (Hv ha) (Hv hb) (by rw [←Sa]; exact he)
 unfold Jn at this
 rw [hu] at this
 exact this
end Go.Proofs.YtkcgfceffffmoaaGreat.En
namespace Go.Proofs.YtkcgfceffffmoaaGreat.En
open Go
def Yd (P:Program):List Field→Option (List (Nat×Nat×Bool))
 | [] =>some []
 | f::fs=>match Jb P f.type,Yd P fs with
   | some ag,some l=>some ((f.offset,P.cellsOf f.type,ag)::l)
   | _,_=>none
def Yp (P:Program) (t:TypeId):Option (List (Nat×Nat×Bool)):=match P.underlying t with | some (.struct fs)=>Yd P fs.toList | _=>none
theorem Rk {P:Program}: ∀ {fs:List Field} {l:List (Nat×Nat×Bool)},Yd P fs=some l→ ∀ k,(fs[k]?).bind (fun f=>(Jb P f.type).map fun ag=>(f.offset,P.cellsOf f.type,ag))=qI l k
 | [],l,h,k=>by cases h; rfl
 | f::fs,l,h,k=>by
   unfold Yd at h
   split at h
   ·rename_i ag l' h1 h2
    cases h
    cases k with
    | zero=>simp [h1,qI]
    | succ k=>
      show _=qI l' (k+1 - 1)
      rw [Nat.add_sub_cancel,←Rk h2 k,List.getElem?_cons_succ]
   ·cases h
theorem VO {P:Program} {t:TypeId} {l:List (Nat×Nat×Bool)} (h:Yp P t=some l) (k:Nat):SY P t k=qI l k:=by
 unfold Yp at h
 unfold SY
 split at h
 ·rename_i fs hu
  simp only [hu]
  rw [←Rk h k,Array.getElem?_toList]
 ·cases h
theorem VP (P:Program):eC P [] :=fun _ _ h=>by cases h
theorem bG {P:Program} {t:Nat} {ti:TI} {l:qO} (h:ti.ok P t) (hl:eC P l):eC P ((t,ti)::l):=by
 intro u ui hu
 unfold o8 at hu
 cases hb:Nat.beq t u with
 | true=>
   rw [hb] at hu
   have:=Nat.eq_of_beq_eq_true hb
   subst this
   cases hu
   exact h
 | false=>
   rw [hb] at hu
   exact hl u ui hu
def XD (P:Program) (t:TypeId):Bool:=match P.underlying t with | some (.struct _)=>true | _=>false
section
variable {P:Program} {t:TypeId}
theorem pv {n:Sn} {fds:List (Nat×Nat×Bool)} {by':Nat} (h1:XD P t=true) (h2:P.cellsOf t=(Ty.st n).width) (h3:qK P 9 t=(Ty.st n).shs) (h4:C5 P t=some (Ty.st n).zvs) (h5:Yp P t=some fds)
  (h6:Xm P t=some (fds.map fun x=>(x.1,x.2.1))) (h7: ((Ty.st n).flatB=true→P.eqGuardType P.depth t=false∧N4 P 8 t (Ty.st n).zvs=true)) (hz: (Ty.st n).flatB=false→ ∀ xs:List Value,mG (Ty.st n).zvs (xs.map fun x=> .c (.sc x))=false):TI.ok P t ⟨.st n,0,fds,by'⟩:=by
 unfold XD at h1
 split at h1
 case h_2=>cases h1
 rename_i fs hu
 refine⟨?_,h2,h3,h4,VO h5,fun _=>h6,fun e he=>(by cases he),fun hb=>(by cases hb),fun _ hf=>(h7 hf).1,fun _ a b r xs ys ha hb he hx hy=> ?_,?_,fun k hk=>(by cases hk)⟩
 ·simp [Jb,hu,Ty.ag]
 ·cases hf: (Ty.st n).flatB with
  | true=>exact XC hu (h7 hf).2 a b r xs ys ha hb he hx hy
  | false=>
    subst hx
    have:=hz hf xs
    rw [show mG (Ty.st n).zvs _=true from ha] at this
    cases this
 ·simp [K9,hu]
theorem wk {e:Ty} {el:Nat} {by':Nat} {u:TypeId} (h1:Bf P t=some u) (h2:P.cellsOf t=1) (h4:C5 P t=some [.slice none 0 0]) (h5:P.cellsOf u=e.width) (h6:P.bytesOf u=el) (h7:Nat.blt 0 el=true) (h8:qK P 9 u=e.shs) (h9:C5 P u=some e.zvs):TI.ok P t ⟨.ls e,el,[],by'⟩:=by
 have hu:P.underlying t=some (.slice u):=by
  unfold Bf at h1
  split at h1
  ·rename_i e hu; cases h1; exact hu
  ·cases h1
 refine⟨?_,h2,?_,h4,fun k=> ?_,fun h=>(by cases h),fun e' he=> ?_,fun hb=>(by cases hb),fun h=>(by cases h),fun h=>(by cases h),?_,fun k hk=>(by cases hk)⟩
 ·simp [Jb,hu,Ty.ag]
 ·simp [qK,hu,Ty.shs,Ty.csh,h5]
 ·simp [SY,hu,qI]
 ·cases he
  exact⟨u,h1,h5,h6,Nat.le_of_ble_eq_true h7,h8,h9⟩
 ·simp [K9,hu]
def Yz (P:Program) (t:TypeId) (y:Ty):Bool:=match P.underlying t,y with
 | some (.int k), .i k'=>decide (k=k')
 | some .bool, .b=>true
 | some .string, .s=>true
 | _,_=>false
theorem zy {y:Ty} {by':Nat} (h1:Yz P t y=true) (h2:P.cellsOf t=1) (h4:C5 P t=some y.zvs):TI.ok P t ⟨y,0,[],by'⟩:=by
 unfold Yz at h1
 split at h1
 ·rename_i k k' hu
  refine⟨(by simp [Jb,hu,Ty.ag]),h2,(by simp [qK,hu,Ty.shs,Ty.csh]),h4,fun k=>(by simp [SY,hu,qI]),fun h=>(by cases h),fun e' he=>(by cases he),fun hb=>(by cases hb),fun h=>(by cases h),fun h=>(by cases h),by simp [K9,hu],fun q hq=>(by cases hq; rw [hu]; simp only [decide_eq_true_eq] at h1; rw [h1])⟩
 ·rename_i hu
  refine⟨(by simp [Jb,hu,Ty.ag]),h2,(by simp [qK,hu,Ty.shs,Ty.csh]),h4,fun k=>(by simp [SY,hu,qI]),fun h=>(by cases h),fun e' he=>(by cases he),fun hb=>hu,fun h=>(by cases h),fun h=>(by cases h),by simp [K9,hu],fun q hq=>(by cases hq)⟩
 ·rename_i hu
  refine⟨(by simp [Jb,hu,Ty.ag]),h2,(by simp [qK,hu,Ty.shs,Ty.csh]),h4,fun k=>(by simp [SY,hu,qI]),fun h=>(by cases h),fun e' he=>(by cases he),fun hb=>(by cases hb),fun h=>(by cases h),fun h=>(by cases h),by simp [K9,hu],fun q hq=>(by cases hq)⟩
 ·cases h1
end
theorem i8: ∀ {zs:List Value} (xs:List Value),zs.any (fun z=>match z with | .int _ _=>false | .bool _=>false | _=>true)=true→mG zs (xs.map fun x=> .c (.sc x))=false
 | [],xs,h=>by cases h
 | z::zs,xs,h=>by
   cases hb:mG (z::zs) (xs.map fun x=> .c (.sc x)) with
   | false=>rfl
   | true=>
     exfalso
     cases xs with
     | nil=>cases z <;> simp [mG] at hb
     | cons x xs=>
       cases z <;> simp only [mG,List.map_cons,Bool.false_eq_true] at hb
       all_goals cases x <;> simp only [mG,cond_eq_ite,Bool.false_eq_true] at hb
       ·rw [i8 xs (by simpa using h)] at hb; cases hb
       ·split at hb
        ·rw [i8 xs (by simpa using h)] at hb; cases hb
        ·cases hb
end Go.Proofs.YtkcgfceffffmoaaGreat.En
namespace Go.Proofs.YtkcgfceffffmoaaGreat.En
open Go
section
variable {σ ε:Type}
def Az (B:σ→Option (σ⊕ε)):Nat→σ→Option ε
 | 0,_=>none
 | n+1,s=>(B s).bind (Sum.elim (Az B n) some)
theorem Du (B:σ→Option (σ⊕ε)): ∀ {n m:Nat} {s:σ} {e:ε},n≤m→Az B n s=some e→Az B m s=some e
 | 0,_,_,_,_,h=>by cases h
 | n+1,0,_,_,hm,_=>by omega
 | n+1,m+1,s,e,hm,h=>by
   unfold Az at h ⊢
   cases hB:B s with
   | none=>rw [hB] at h; cases h
   | some x=>
     rw [hB] at h
     cases x with
     | inl s'=>exact Du B (by omega) h
     | inr e'=>exact h
theorem LS {p:Nat→Prop} (h: ∃ n,p n): ∃ n,p n∧ ∀ m,p m→n≤m:=by
 obtain⟨n,hn⟩:=h
 induction n using Nat.strongRecOn with
 | _ n ih=>
   by_cases hx: ∃ m,m < n∧p m
   ·obtain⟨m,hm,hp⟩:=hx
    exact ih m hm hp
   ·exact⟨n,hn,fun m hm=>Nat.le_of_not_lt fun hlt=>hx ⟨m,hlt,hm⟩⟩
noncomputable def jB (B:σ→Option (σ⊕ε)) (s:σ):Option ε:=open Classical in if h: ∃ n,(Az B n s).isSome=true then Az B (Classical.choose h) s else none
noncomputable def f9 (B:σ→Option (σ⊕ε)) (s:σ):Nat:=open Classical in if h: ∃ n,(Az B n s).isSome=true then Classical.choose (LS h) else 0
theorem xm {B:σ→Option (σ⊕ε)} {s:σ} {e:ε}:jB B s=some e↔ ∃ n,Az B n s=some e:=by
 classical
 constructor
 ·intro h
  unfold jB at h
  split at h
  ·rename_i hx
   exact⟨_,h⟩
  ·cases h
 ·rintro⟨n,h⟩
  have hx: ∃ n,(Az B n s).isSome=true:=⟨n,by rw [h]; rfl⟩
  unfold jB
  rw [dif_pos hx]
  obtain⟨e',he⟩:=Option.isSome_iff_exists.1 (Classical.choose_spec hx)
  have h1:=Du B (Nat.le_max_left (Classical.choose hx) n) he
  have h2:=Du B (Nat.le_max_right (Classical.choose hx) n) h
  rw [h1] at h2
  cases h2
  exact he
theorem xn (B:σ→Option (σ⊕ε)) (s:σ):jB B s=(B s).bind (Sum.elim (jB B) some):=by
 apply Option.ext
 intro e
 rw [xm]
 constructor
 ·rintro⟨n,h⟩
  cases n with
  | zero=>cases h
  | succ n=>
    unfold Az at h
    cases hB:B s with
    | none=>rw [hB] at h; cases h
    | some x=>
      rw [hB] at h
      cases x with
      | inl s'=>exact xm.2 ⟨n,h⟩
      | inr e'=>exact h
 ·intro h
  cases hB:B s with
  | none=>rw [hB] at h; cases h
  | some x=>
    rw [hB] at h
    cases x with
    | inl s'=>
      obtain⟨n,h⟩:=xm.1 (show jB B s'=some e from h)
      exact⟨n+1,by unfold Az; rw [hB]; exact h⟩
    | inr e'=>exact⟨1,by unfold Az; rw [hB]; exact h⟩
theorem aO (B:σ→Option (σ⊕ε)) (s:σ) (e:ε) (h:jB B s=some e):Uh (jB B) (f9 B) s e (B s):=by
 classical
 have h0:=h
 rw [xn] at h
 cases hB:B s with
 | none=>rw [hB] at h; cases h
 | some x=>
   rw [hB] at h
   cases x with
   | inl s'=>
     refine⟨?_,h⟩
     have hx: ∃ n,(Az B n s).isSome=true:=by
      obtain⟨n,hn⟩:=xm.1 h0
      exact⟨n,by rw [hn]; rfl⟩
     have hx': ∃ n,(Az B n s').isSome=true:=by
      obtain⟨n,hn⟩:=xm.1 (show jB B s'=some e from h)
      exact⟨n,by rw [hn]; rfl⟩
     unfold f9
     rw [dif_pos hx,dif_pos hx']
     have:=(Classical.choose_spec (LS hx)).1
     cases hn:Classical.choose (LS hx) with
     | zero=>rw [hn] at this; cases this
     | succ n=>
       rw [hn] at this
       unfold Az at this
       rw [hB] at this
       exact Nat.lt_succ_of_le ((Classical.choose_spec (LS hx')).2 n this)
   | inr e'=>exact (Option.some.inj h)
end
theorem bR {α β γ δ:Type} (x:α⊕β) (f:α→Option γ) (g:β→Option γ) (h:γ→Option δ): (Sum.elim f g x).bind h=Sum.elim (fun a=>(f a).bind h) (fun a=>(g a).bind h) x:=by cases x <;> rfl
inductive Jo where
 | ty (t:Ty) | pr (t:Ty) | fc (g:Nat) | fn (g:Nat) (caps:List Ty)
abbrev Jo.D:Jo→Type
 | .ty t=>t.D
 | .pr t=>t.D
 | .fc _=>Unit
 | .fn _ caps=>tB.D caps
abbrev sR.D:List Jo→Type
 | [] =>Unit
 | p::l=>p.D×sR.D l
def LU: (l:List Ty)→tB.D l→List Cl
 | [],_=> []
 | t::l,x=> .pro (t.flat x.1)::LU l x.2
def Jo.v1: (p:Jo)→p.D→V1
 | .ty t,x=>QZ t x
 | .pr t,x=> .cl (.pro (t.flat x))
 | .fc g,_=> .cl (.c (.sc (.func (.func g) #[] #[])))
 | .fn g caps,x=> .fn g (LU caps x)
def pO: (l:List Jo)→sR.D l→List V1
 | [],_=> []
 | p::l,x=>p.v1 x.1::pO l x.2
def VQ {ρ:Type} (t:Ty) (c:Cl) (κ:t.D→Option ρ):Option ρ:=match c with
 | .pro xs=>(match t.unflat xs with | some x=>κ x | none=>none)
 | _=>none
def Dv {ρ:Type}: (l:List Ty)→List Cl→(tB.D l→Option ρ)→Option ρ
 | [],[],κ=>κ ()
 | t::l,c::cs,κ=>VQ t c fun x=>Dv l cs fun y=>κ (x,y)
 | _,_,_=>none
def Ye {ρ:Type}: (p:Jo)→V1→(p.D→Option ρ)→Option ρ
 | .ty t,a,κ=>un t a κ
 | .pr t, .cl c,κ=>VQ t c κ
 | .fc g, .cl (.c (.sc (.func (.func g') cs ts))),κ=>bif Nat.beq g' g&&Nat.beq cs.size 0&&Nat.beq ts.size 0 then κ () else none
 | .fn g caps, .fn g' cs,κ=>bif Nat.beq g' g then Dv caps cs κ else none
 | _,_,_=>none
def Fv {ρ:Type}: (l:List Jo)→List V1→(sR.D l→Option ρ)→Option ρ
 | [],[],κ=>κ ()
 | p::l,a::as,κ=>Ye p a fun x=>Fv l as fun y=>κ (x,y)
 | _,_,_=>none
def bD (ps:List Jo) (rs:List Ty) (G:sR.D ps→Option (tB.D rs)):bm:=fun args _ κ=>Fv ps args fun x=>(G x).bind fun y=>ret (aD rs y) κ
theorem KL {ρ:Type} {t:Ty} {c:Cl} {κ:t.D→Option ρ} {r:ρ} (h:VQ t c κ=some r): ∃ x,c= .pro (t.flat x)∧κ x=some r:=by
 unfold VQ at h
 split at h
 ·split at h
  ·rename_i x hx
   exact⟨x,by rw [t.unflat_some _ _ hx],h⟩
  ·cases h
 ·cases h
theorem EN {ρ:Type}: ∀ {l:List Ty} {cs:List Cl} {κ:tB.D l→Option ρ} {r:ρ},Dv l cs κ=some r→ ∃ x,cs=LU l x∧κ x=some r
 | [],[],κ,r,h=>⟨(),rfl,h⟩
 | t::l,c::cs,κ,r,h=>by
   unfold Dv at h
   obtain⟨x,h1,h⟩:=KL h
   obtain⟨y,h2,h⟩:=EN h
   exact⟨(x,y),by rw [h1,h2]; rfl,h⟩
 | [],_::_,κ,r,h=>by simp [Dv] at h
 | _::_,[],κ,r,h=>by simp [Dv] at h
theorem Um {ρ:Type} {p:Jo} {a:V1} {κ:p.D→Option ρ} {r:ρ} (h:Ye p a κ=some r): ∃ x,a=p.v1 x∧κ x=some r:=by
 unfold Ye at h
 split at h
 ·exact un_some h
 ·obtain⟨x,h1,h⟩:=KL h
  exact⟨x,by rw [h1]; rfl,h⟩
 ·obtain⟨h1,h⟩:=au h
  simp only [Bool.and_eq_true] at h1
  obtain⟨⟨h1,h2⟩,h3⟩:=h1
  have h1:=Nat.eq_of_beq_eq_true h1
  have h2:=Array.eq_empty_of_size_eq_zero (Nat.eq_of_beq_eq_true h2)
  have h3:=Array.eq_empty_of_size_eq_zero (Nat.eq_of_beq_eq_true h3)
  exact⟨(),by rw [h1,h2,h3]; rfl,h⟩
 ·obtain⟨h1,h⟩:=au h
  obtain⟨x,h2,h⟩:=EN h
  exact⟨x,by rw [Nat.eq_of_beq_eq_true h1,h2]; rfl,h⟩
 ·cases h
theorem uR {ρ:Type}: ∀ {l:List Jo} {as:List V1} {κ:sR.D l→Option ρ} {r:ρ},Fv l as κ=some r→ ∃ x,as=pO l x∧κ x=some r
 | [],[],κ,r,h=>⟨(),rfl,h⟩
 | p::l,a::as,κ,r,h=>by
   unfold Fv at h
   obtain⟨x,h1,h⟩:=Um h
   obtain⟨y,h2,h⟩:=uR h
   exact⟨(x,y),by rw [h1,h2]; rfl,h⟩
 | [],_::_,κ,r,h=>by simp [Fv] at h
 | _::_,[],κ,r,h=>by simp [Fv] at h
theorem KM (G:List (Option b6)): ∀ (l:List Ty) (x:tB.D l),∀ c∈LU l x,c.ok G
 | [],x,c,h=>by cases h
 | t::l,x,c,h=>by
   rcases List.mem_cons.1 h with rfl | h
   ·trivial
   ·exact KM G l x.2 c h
theorem Jo.ok (p:Jo) (x:p.D): (p.v1 x).ok [] :=by
 cases p with
 | ty t=>exact WQ t x
 | pr t=>trivial
 | fc g=>trivial
 | fn g caps=>exact KM [] caps x
theorem uS: ∀ (l:List Jo) (x:sR.D l),∀ a∈pO l x,a.ok []
 | [],x,a,h=>by cases h
 | p::l,x,a,h=>by
   rcases List.mem_cons.1 h with rfl | h
   ·exact p.ok x.1
   ·exact uS l x.2 a h
theorem al {P:Program} {Θ:qO} {Y:Bu} {Λ:qJ} (hΘ:eC P Θ) (hY:ar P Y) (hm:P.follows .mixedOrders=true) {f:FuncId} {fn:Func} (hf:QV P f=some fn) (hL: ∀ c,fn.body=some c→gE P Λ (fo c)) {ps:List Jo} {rs:List Ty} {G:sR.D ps→Option (tB.D rs)} (hk:Nat.blt f 1048576=true)
  (F:sR.D ps→Option (tB.D rs)) (hF: ∀ x,Yn Θ Y Λ fn (pO ps x) (fun v g=>some (v,g))=(F x).bind fun y=>ret (aD rs y) (fun v g=>some (v,g))) (hG: ∀ x y,G x=some y→F x=some y):aA P f (bD ps rs G):=by
 intro args ρ κ r hr
 unfold bD at hr
 obtain⟨x,rfl,hr2⟩:=uR hr
 obtain⟨y,h1,hr3⟩:=Option.bind_eq_some_iff.1 hr2
 exact⟨_,_, .of_fn (WM hΘ hY hm hf hL (uS ps x) (by rw [hF,hG x y h1]; rfl)) (Nat.le_of_ble_eq_true hk),Uk _,hr3⟩
def VS (el:Ty) (ps:List Jo) (rs:List Ty) (G:List el.D→sR.D ps→Option (tB.D rs)):bm:=fun args _ κ=>match args with
 | .cl (.c (.ls t l))::as=>(match xf t el l with
   | some l=>Fv ps as fun x=>(G l x).bind fun y=>ret (aD rs y) κ
   | none=>none)
 | _=>none
def Jp {ρ:Type} (el:Ty) (rs:List Ty) (y:List el.D×tB.D rs) (κ:V→List b6→Option ρ):Option ρ:=κ (yZ (zw 1 (aD rs y.2))) (⟨el,y.1,none⟩::zx (aD rs y.2))
def Jq (el:Ty) (ps:List Jo) (rs:List Ty) (G:List el.D→sR.D ps→Option (List el.D×tB.D rs)):bm:=fun args _ κ=>match args with
 | .cl (.c (.ls t l))::as=>(match xf t el l with
   | some l=>Fv ps as fun x=>(G l x).bind fun y=>Jp el rs y κ
   | none=>none)
 | _=>none
theorem Rl {P:Program} {Θ:qO} {Y:Bu} {Λ:qJ} (hΘ:eC P Θ) (hY:ar P Y) (hm:P.follows .mixedOrders=true) {f:FuncId} {fn:Func} (hf:QV P f=some fn) (hL: ∀ c,fn.body=some c→gE P Λ (fo c)) {el:Ty} {ps:List Jo} {rs:List Ty} {G:List el.D→sR.D ps→Option (tB.D rs)}
  (F:List el.D→sR.D ps→Option (tB.D rs)) (hF: ∀ l x,Vg Θ Y Λ fn 0 el l (pO ps x) (fun v g=>some (v,g))=(F l x).bind fun y=>ret (aD rs y) (fun v g=>some (v,g))) (hG: ∀ l x y,G l x=some y→F l x=some y):aA P (Hd f) (VS el ps rs G):=by
 intro args ρ κ r hr
 unfold VS at hr
 split at hr
 ·rename_i t l as
  split at hr
  ·rename_i l' hl
   obtain⟨e,hl⟩:=gb hl
   subst e
   have hl:l=l':=hl
   subst hl
   obtain⟨x,rfl,hr2⟩:=uR hr
   obtain⟨y,h1,hr3⟩:=Option.bind_eq_some_iff.1 hr2
   exact⟨_,_, .of_mv ⟨.ls _,l,_,rfl,Rc hΘ hY hm hf hL (Nat.zero_le 1) (uS ps x) (by rw [hF,hG l x y h1]; rfl)⟩,Uk _,hr3⟩
  ·cases hr
 ·cases hr
theorem VT (el:Ty) (l:List el.D) (ys:List ((t:Ty)×t.D)): (yZ (zw 1 ys)).ok ((⟨el,l,none⟩::zx ys).map some):=by
 have h:=BE ys [⟨el,l,none⟩]
 simp only [List.length_singleton,List.singleton_append] at h
 match zw 1 ys,h with
 | [],_=>exact fun x hx=>by cases hx
 | [v],h=>exact h v List.mem_cons_self
 | v::u::vs,h=>exact h
theorem tK {P:Program} {Θ:qO} {Y:Bu} {Λ:qJ} (hΘ:eC P Θ) (hY:ar P Y) (hm:P.follows .mixedOrders=true) {f:FuncId} {fn:Func} (hf:QV P f=some fn) (hL: ∀ c,fn.body=some c→gE P Λ (fo c)) {el:Ty} {ps:List Jo} {rs:List Ty} {G:List el.D→sR.D ps→Option (List el.D×tB.D rs)} (hk:Nat.blt f 1048576=true)
  (F:List el.D→sR.D ps→Option (List el.D×tB.D rs)) (hF: ∀ l x,Vg Θ Y Λ fn 1 el l (pO ps x) (fun v g=>some (v,g))=(F l x).bind fun y=>Jp el rs y (fun v g=>some (v,g))) (hG: ∀ l x y,G l x=some y→F l x=some y):aA P (oo f) (Jq el ps rs G):=by
 intro args ρ κ r hr
 unfold Jq at hr
 split at hr
 ·rename_i t l as
  split at hr
  ·rename_i l' hl
   obtain⟨e,hl⟩:=gb hl
   subst e
   have hl:l=l':=hl
   subst hl
   obtain⟨x,rfl,hr2⟩:=uR hr
   obtain⟨y,h1,hr3⟩:=Option.bind_eq_some_iff.1 hr2
   exact⟨_,_, .of_io ⟨.ls _,l,_,rfl,Rc hΘ hY hm hf hL (Nat.le_refl 1) (uS ps x) (by rw [hF,hG l x y h1]; rfl)⟩ (Nat.le_of_ble_eq_true hk),VT _ _ (aD rs y.2),hr3⟩
  ·cases hr
 ·cases hr
def VU {ρ:Type} (t:Ty) (rs:List Ty) (y:t.D×tB.D rs) (κ:V→List b6→Option ρ):Option ρ:=κ (yZ (zw (oq (t.flat y.1)).length (aD rs y.2))) (oq (t.flat y.1)++zx (aD rs y.2))
def VV (t:Ty) (ps:List Jo) (rs:List Ty) (G:t.D→sR.D ps→Option (t.D×tB.D rs)):bm:=fun args _ κ=>match args with
 | a::as=>un t a fun x=>Fv ps as fun p=>(G x p).bind fun y=>VU t rs y κ
 | [] =>none
theorem Rm {P:Program} {Θ:qO} {Y:Bu} {Λ:qJ} (hΘ:eC P Θ) (hY:ar P Y) (hm:P.follows .mixedOrders=true) {f:FuncId} {fn:Func} (hf:QV P f=some fn) (hL: ∀ c,fn.body=some c→gE P Λ (fo c)) {t:Ty} {ps:List Jo} {rs:List Ty} {G:t.D→sR.D ps→Option (t.D×tB.D rs)} (hk:Nat.blt f 1048576=true)
  (F:t.D→sR.D ps→Option (t.D×tB.D rs)) (hF: ∀ l x,WK Θ Y Λ fn t l (pO ps x) (fun v g=>some (v,g))=(F l x).bind fun y=>VU t rs y (fun v g=>some (v,g))) (hG: ∀ l x y,G l x=some y→F l x=some y):aA P (oo f) (VV t ps rs G):=by
 intro args ρ κ r hr
 unfold VV at hr
 split at hr
 ·rename_i a as
  obtain⟨l,rfl,hr1⟩:=un_some hr
  obtain⟨x,rfl,hr2⟩:=uR hr1
  obtain⟨y,h1,hr3⟩:=Option.bind_eq_some_iff.1 hr2
  refine⟨_,_, .of_io ⟨t,l,_,rfl,VG hΘ hY hm hf hL (uS ps x) (by rw [hF,hG l x y h1]; rfl)⟩ (Nat.le_of_ble_eq_true hk),?_,hr3⟩
  have h:=BE (aD rs y.2) (oq (t.flat y.1))
  match zw (oq (t.flat y.1)).length (aD rs y.2),h with
  | [],_=>exact fun x hx=>by cases hx
  | [v],h=>exact h v List.mem_cons_self
  | v::u::vs,h=>exact h
 ·cases hr
def b8 (fn:Func):Code:=match fn.body with | some c=>c | none=> .skip
def cb (c:Code) (n:Nat):Code:=(qI (fo c) n).getD .skip
theorem aG {P:Program} {Λ:qJ} {fn:Func} {cs:List Code} (h:fo (b8 fn)=cs) (H:gE P Λ cs) (c:Code) (hc:fn.body=some c):gE P Λ (fo c):=by
 have :b8 fn=c:=by unfold b8; rw [hc]
 rw [←this,h]
 exact H
theorem dp {P:Program} {Λ:qJ} {c:Code} {cs:List Code} (h:fo c=cs) (H:gE P Λ cs):gE P Λ (fo c):=by rw [h]; exact H
end Go.Proofs.YtkcgfceffffmoaaGreat.En
