import Derived.Test.YtkcgfceffffmoaaGreatZX7
namespace Go.Proofs.YtkcgfceffffmoaaGreat.En
open Go
section
variable {ρ:Type} {P:Program} {Θ:ot} {S:TS} {Y:xH}
theorem Mq (hS:S.ok) {gs:List bG} {et:Option Ty} {c:Cl} (hc:c.ok S.gh) {κ:Cl→List bG→TS→Option ρ} {r:ρ} (h:Qr S gs et c κ=some r):
  ∃ c' gs' S',Bq S.st (gs.map bG.tree) (KI et) c.av=some (Cl.av c',gs'.map bG.tree,TS.st S')∧S'.ok∧gr S.gh S'.gh∧gr (gs.map some) (gs'.map some)∧c'.ok (gs'.map some)∧κ c' gs' S'=some r:=by
 have new: ∀ (t:Ty) (l:List t.D) (n:Nat),n=l.length→(Cl.own ⟨gs.length,[]⟩ t.width 0 n true).ok ((gs++ [(⟨t,l,none⟩:bG)]).map some):=by
  intro t l n hn
  refine⟨by simp,fun _=>⟨rfl,rfl,fun tr htr=> ?_⟩⟩
  rw [List.map_append] at htr
  have e:=lW (G:=gs.map some) (x:=some (⟨t,l,none⟩:bG)) gs.length
  simp only [List.length_map,if_true] at e
  have htr':cK (gs.map some++ [some (⟨t,l,none⟩:bG)]) gs.length=some tr:=htr
  rw [e] at htr'
  cases htr'
  exact hn
 have grow: ∀ (x:bG),gr (gs.map some) ((gs++ [x]).map some):=fun x=>by rw [List.map_append]; exact gr.app _ _
 unfold Qr at h
 split at h
 ·refine⟨_,_,_,rfl,hS,gr.refl _,gr.refl _,?_,h⟩
  trivial
 ·rename_i t
  refine⟨_,_,S,?_,hS,gr.refl _,grow _,new t [] 0 rfl,h⟩
  simp only [Cl.av,Bq,KI,List.length_map,List.map_append,List.map_cons,List.map_nil]
  rfl
 ·rename_i p sz lo len w t'
  obtain⟨pr,pl⟩:=p
  cases pl with
  | cons a l=>cases h
  | nil=>
    simp only at h
    obtain⟨h1,h'⟩:=am h
    clear h
    simp only [Bool.and_eq_true] at h1
    have h2:S.fz≤pr:=Nat.le_of_ble_eq_true h1.1
    have h3:t'.width=sz:=Nat.eq_of_beq_eq_true h1.2
    obtain⟨t,l,k1,k2,h⟩:=eu h'
    obtain⟨k3,h⟩:=am h
    have k3:t.width=sz:=Nat.eq_of_beq_eq_true k3
    have fin: ∀ (len:Nat),len≤l.length→Bq S.st (gs.map bG.tree) (KI (some t')) (.own ⟨pr,[]⟩ sz 0 len)=some (.own ⟨gs.length,[]⟩ sz 0 len,(gs++ [(⟨t,l.take len,none⟩:bG)]).map bG.tree,({ S with gh:=cS S.gh pr none }:TS).st):=by
     intro len hlen
     simp only [Bq]
     have hrows:S.st.rows ⟨pr,[]⟩ sz=some (l.map t.row):=by rw [←k3]; exact kr k1
     rw [if_pos ⟨trivial,by show sz=t'.width; exact h3.symm,trivial,h2⟩,hrows]
     simp only [Option.bind_some,List.length_map]
     rw [if_pos hlen,xJ]
     simp only [KI,h3,List.map_append,List.map_cons,List.map_nil,bG.tree,List.map_take,k3]
    cases w with
    | true=>
      obtain⟨e1,e2,e3⟩:=t6 hc k2
      refine⟨_,_,_,?_,TS.ok_gh hS (gr.gone _ _),gr.gone _ _,grow _,by rw [←k3]; exact new t l _ rfl,h⟩
      have:=fin l.length (Nat.le_refl _)
      rw [List.take_length] at this
      simp only [Cl.av]
      rw [e2,e3]
      exact this
    | false=>
      simp only [cond_false] at h
      obtain⟨h4,h⟩:=c8 h
      refine⟨_,_,_,?_,TS.ok_gh hS (gr.gone _ _),gr.gone _ _,grow _,by rw [←k3]; exact new t (l.take len) _ rfl,h⟩
      have hl: (l.take len).length=len:=by simp; omega
      simp only [Cl.av]
      rw [h4.1,hl]
      exact fin len h4.2
 ·cases h
theorem Pc: ∀ (ets:List (Option Ty)) (cs:List Cl) (S:TS) (gs:List bG) (κ:List Cl→List bG→TS→Option ρ) (r:ρ),S.ok→(∀ c∈cs,c.ok S.gh)→Mc S gs ets cs κ=some r→
  ∃ cs' gs' S',sw S.st (gs.map bG.tree) (ets.map KI) (cs.map Cl.av)=some (cs'.map Cl.av,gs'.map bG.tree,TS.st S')∧S'.ok∧gr S.gh S'.gh∧gr (gs.map some) (gs'.map some)∧(∀ c∈cs',c.ok (gs'.map some))∧κ cs' gs' S'=some r:=by
 intro ets
 induction ets with
 | nil=>
   intro cs S gs κ r hS hcs h
   cases cs with
   | nil=>exact⟨[],gs,S,rfl,hS,gr.refl _,gr.refl _,(fun c hc=>by cases hc),h⟩
   | cons c cs=>cases h
 | cons et ets ih=>
   intro cs S gs κ r hS hcs h
   cases cs with
   | nil=>cases h
   | cons c cs=>
     unfold Mc at h
     obtain⟨c',g1,S1,h1,h2,h3,h4,h5,h⟩:=Mq hS (hcs c List.mem_cons_self) h
     obtain⟨cs',g2,S2,k1,k2,k3,k4,k5,h⟩:=ih cs S1 g1 _ r h2 (fun x hx=>Cl.ok_mono h3 (hcs x (List.mem_cons_of_mem _ hx))) h
     refine⟨c'::cs',g2,S2,?_,k2,h3.trans k3,h4.trans k4,fun x hx=> ?_,h⟩
     ·simp only [List.map_cons,sw,h1,Option.bind_some,k1,Option.map_some]
     ·rcases List.mem_cons.1 hx with rfl | hx
      ·exact Cl.ok_mono k4 h5
      ·exact k5 x hx
theorem QQ (hΘ:dG P Θ) (hS:S.ok) {gs:List bG} {t:TypeId} {v:V} (hv:v.ok S.gh) {κ:V1→List bG→TS→Option ρ} {r:ρ} (h:RR Θ S gs t v κ=some r):
  ∃ v' gs' S',MT P S.st (gs.map bG.tree) t v.av=some (V1.av v',gs'.map bG.tree,TS.st S')∧S'.ok∧gr S.gh S'.gh∧gr (gs.map some) (gs'.map some)∧v'.ok (gs'.map some)∧κ v' gs' S'=some r:=by
 unfold RR at h
 split at h
 ·cases h
 ·rename_i ti hti
  have hsh:=(hΘ _ _ hti).sh
  split at h
  ·rename_i cs
   obtain⟨cs',g1,S1,h1,h2,h3,h4,h5,h⟩:=Pc _ _ _ _ _ _ hS hv h
   refine⟨.agg cs',g1,S1,?_,h2,h3,h4,h5,h⟩
   simp only [V.av,V1.av,MT,hsh]
   rw [show ti.ty.shs=ti.ty.csh.map KI from rfl,h1]
   rfl
  ·rename_i c
   obtain⟨c',g1,S1,h1,h2,h3,h4,h5,h⟩:=Mq hS hv h
   refine⟨.cl c',g1,S1,?_,h2,h3,h4,h5,h⟩
   have e:MT P S.st (gs.map bG.tree) t (V.v (.cl c)).av=Bq S.st (gs.map bG.tree) ((oh P 9 t).headD 0) c.av:=by
    cases c with
    | c x=>cases x <;> rfl
    | _=>rfl
   rw [e,hsh]
   have e2:ti.ty.shs.headD 0=KI (ti.ty.csh.headD none):=by
    unfold Ty.shs
    cases ti.ty.csh with
    | nil=>rfl
    | cons a l=>cases a <;> rfl
   rw [e2]
   exact h1
  ·cases h
theorem Du (hΘ:dG P Θ): ∀ (rs:List (TypeId×V)) (S:TS) (gs:List bG) (κ:List V1→List bG→Option ρ) (r:ρ),S.ok→(∀ x∈rs,x.2.ok S.gh)→rF Θ S gs rs κ=some r→
  ∃ vs gs',Ip P S.st (gs.map bG.tree) (rs.map fun x=>(x.1,x.2.av))=some (vs.map V1.av,gs'.map bG.tree)∧gr (gs.map some) (gs'.map some)∧(∀ v∈vs,v.ok (gs'.map some))∧vs.length=rs.length∧κ vs gs'=some r:=by
 intro rs
 induction rs with
 | nil=>intro S gs κ r hS hrs h; exact⟨[],gs,rfl,gr.refl _,(fun v hv=>by cases hv),rfl,h⟩
 | cons x rs ih=>
   intro S gs κ r hS hrs h
   obtain⟨t,v⟩:=x
   unfold rF at h
   obtain⟨v',g1,S1,h1,h2,h3,h4,h5,h⟩:=QQ hΘ hS (hrs _ List.mem_cons_self) h
   obtain⟨vs,g2,k1,k2,k3,k4,h⟩:=ih S1 g1 _ r h2 (fun x hx=>V.ok_mono h3 (hrs x (List.mem_cons_of_mem _ hx))) h
   refine⟨v'::vs,g2,?_,h4.trans k2,fun y hy=> ?_,by simp [k4],h⟩
   ·simp only [List.map_cons,Ip,h1,Option.bind_some,k1,Option.map_some]
   ·rcases List.mem_cons.1 hy with rfl | hy
    ·exact V1.ok_mono k2 h5
    ·exact k3 y hy
theorem He (hΘ:dG P Θ) (hS:S.ok): ∀ (rs:List ResultVar) (ts:List TypeId) (κ:List (TypeId×V)→Option ρ) (r:ρ),Bv Θ S rs ts κ=some r→
  ∃ l:List (TypeId×V),rs.mapM (xF P S.st)=some (l.map fun x=>x.2.av)∧l.map (·.1)=ts∧(∀ x∈l,x.2.ok S.gh)∧κ l=some r:=by
 intro rs
 induction rs with
 | nil=>
   intro ts κ r h
   cases ts with
   | nil=>exact⟨[],rfl,rfl,(fun x hx=>by cases hx),h⟩
   | cons t ts=>cases h
 | cons a rs ih=>
   intro ts κ r h
   cases ts with
   | nil=>cases a <;> cases h
   | cons t ts=>
     cases a with
     | tmp a=>
       unfold Bv at h
       obtain⟨l,h1,h2,h3,h⟩:=ih ts _ r h
       refine⟨(t,gC S.env a)::l,?_,by simp [h2],fun x hx=> ?_,h⟩
       ·simp only [List.mapM_cons,h1,xF]
        rfl
       ·rcases List.mem_cons.1 hx with rfl | hx
        ·exact CA hS a
        ·exact h3 x hx
     | cell a t'=>
       unfold Bv at h
       have hw:0 < P.cellsOf t':=by
        have h':=h
        unfold I5 at h'
        split at h'
        ·rename_i ti hti
         rw [(hΘ _ _ hti).cells]
         exact Ty.width_pos _
        ·cases h'
       obtain⟨u,g1,g2,h⟩:=Jf hΘ hS (CA hS a) h
       obtain⟨l,h1,h2,h3,h⟩:=ih ts _ r h
       refine⟨(t,u)::l,?_,by simp [h2],fun x hx=> ?_,h⟩
       ·simp only [List.mapM_cons,h1,xF]
        rw [if_pos hw]
        have :load P S.st t' (S.st.env a)=some u.av:=g1
        rw [this]
        rfl
       ·rcases List.mem_cons.1 hx with rfl | hx
        ·exact g2
        ·exact h3 x hx
theorem CC {α β γ:Type} (f:α×β→γ): ∀ l:List (α×β),(l.map (·.1)).zip (l.map f)=l.map fun x=>(x.1,f x)
 | [] =>rfl
 | a::l=>by simp only [List.map_cons,List.zip_cons_cons,CC f l]
theorem Hf (vs:List V1): (vo vs).av=SK (vs.map V1.av):=by
 match vs with
 | [] =>rfl
 | [v] =>rfl
 | v::u::vs=>rfl
theorem wA: ∀ (args:List V1) (n t:Nat),(gC (kJ n args) (n+t)).av=(args.map V1.av).getD t .dead
 | [],n,t=>by simp [kJ,gC]; rfl
 | a::l,n,0=>by simp [kJ,gC]; rfl
 | a::l,n,t+1=>by
   have :Nat.beq n (n+(t+1))=false:=by
    cases h:Nat.beq n (n+(t+1)) with
    | false=>rfl
    | true=>have:=Nat.eq_of_beq_eq_true h; omega
   simp only [kJ,gC,this,cond_false]
   rw [show n+(t+1)=(n+1)+t by omega,wA l (n+1) t]
   simp
theorem sI: ∀ (args:List V1) (n:Nat) (x:Nat×V),x∈kJ n args→ ∃ a∈args,x.2= .v a
 | [],n,x,h=>by cases h
 | a::l,n,x,h=>by
   simp only [kJ,List.mem_cons] at h
   rcases h with rfl | h
   ·exact⟨a,List.mem_cons_self,rfl⟩
   ·obtain⟨b,hb,he⟩:=sI l (n+1) x h
    exact⟨b,List.mem_cons_of_mem _ hb,he⟩
theorem RX (hΘ:dG P Θ) (hY:az P Y) (hm:P.follows .mixedOrders=true) {Λ:om} {f:FuncId} {fn:Func} (hf:L9 P f=some fn) (hL: ∀ c,fn.body=some c→fr P Λ (ek c)) {args:List V1} (ha: ∀ a∈args,a.ok []) {res:V} {out:List bG}
  (h:TK Θ Y Λ fn args (fun v g=>some (v,g))=some (res,out)):zj P f (args.map V1.av) [] res.av (out.map bG.tree):=by
 unfold TK at h
 split at h
 ·cases h
 ·rename_i c hc
  have hcok:kH P c=true:=by
   unfold L9 at hf
   simp only [Option.bind_eq_some_iff] at hf
   obtain⟨fn',g1,g2⟩:=hf
   split at g2
   ·cases g2
   ·rename_i c' hc'
    split at g2
    ·cases g2
    ·rename_i hn
     simp only [Option.some.injEq] at g2
     subst g2
     rw [hc] at hc'
     simp only [Option.some.injEq] at hc'
     subst hc'
     simp only [Bool.or_eq_true,not_or,Bool.not_eq_true,Bool.not_eq_false'] at hn
     exact hn.2
  have hS0: ({ env:=kJ 0 args,bx:= [],gh:= [],fz:=0,nt:=args.length+(fn.ntmps - args.length) }:TS).ok:=
   ⟨fun x hx=>by obtain⟨a,h1,h2⟩:=sI _ _ _ hx; rw [h2]; exact ha a h1,fun cs hcs=>by cases hcs⟩
  have hbeg: ({ env:=kJ 0 args,bx:= [],gh:= [],fz:=0,nt:=args.length+(fn.ntmps - args.length) }:TS).st=C7 fn.ntmps (args.map V1.av) [] :=by
   unfold TS.st C7
   simp only [List.length_map,List.length_nil]
   congr 1
   funext t
   have:=wA args 0 t
   rw [Nat.zero_add] at this
   exact this
  have hW:=xO hΘ hY hm c _ _ _ hcok (hL c hc) hS0 h
  rw [hbeg] at hW
  have b8: ∀ (x:X) (S1:TS),S1.ok→(match x with | .ext _=>none | _=>Bv Θ S1 fn.results.toList fn.resultTypes.toList fun rs=>rF Θ S1 [] rs fun vs gs=>some (vo vs,gs))=some (res,out)→
    (match x with | .ext _=>False | _=>xG P fn.results.toList fn.resultTypes.toList 0 S1.st=some (res.av,out.map bG.tree)):=by
   intro x S1 hS1 h
   have main: (Bv Θ S1 fn.results.toList fn.resultTypes.toList fun rs=>rF Θ S1 [] rs fun vs gs=>some (vo vs,gs))=some (res,out)→xG P fn.results.toList fn.resultTypes.toList 0 S1.st=some (res.av,out.map bG.tree):=by
    intro h
    obtain⟨l,h1,h2,h3,h⟩:=He (P:=P) hΘ hS1 _ _ _ _ h
    obtain⟨vs,gs',k1,k2,k3,k4,h⟩:=Du (P:=P) hΘ _ _ _ _ _ hS1 h3 h
    simp only [Option.some.injEq,Prod.mk.injEq] at h
    obtain⟨rfl,rfl⟩:=h
    unfold xG
    rw [h1]
    simp only [Option.bind_some,List.length_map]
    have hz: (fn.resultTypes.toList.zip (l.map fun x=>x.2.av))=l.map fun x=>(x.1,x.2.av):=by
     rw [←h2]
     exact CC _ l
    rw [if_pos (by rw [←h2]; simp),hz]
    have k1':Ip P S1.st [] (l.map fun x=>(x.1,x.2.av))=some (vs.map V1.av,gs'.map bG.tree):=k1
    simp only [List.range_zero,List.map_nil,k1',Option.map_some,Hf]
   cases x with
   | ext i=>cases h
   | nor=>exact main h
   | ret=>exact main h
  refine IX hf hc (hW.mono (fun x S' hx=>⟨S',of.refl,?_⟩))
  obtain⟨S1,rfl,h1,h2⟩:=hx
  have:=b8 x S1 h1 h2
  cases x <;> exact this
theorem AQ (a:List V1) (t:Nat): (gC (kJ 0 a) t).av=(a.map V1.av).getD t .dead:=by
 have:=wA a 0 t
 rwa [Nat.zero_add] at this
theorem Mr (hΘ:dG P Θ) (hY:az P Y) (hm:P.follows .mixedOrders=true) {Λ:om} {f:FuncId} {fn:Func} (hf:L9 P f=some fn) (hL: ∀ c,fn.body=some c→fr P Λ (ek c)) {m:Nat} (hm1:m≤1) {el:Ty} {l:List el.D} {args:List V1} (ha: ∀ a∈args,a.ok []) {res:V} {out:List bG}
  (h:Qs Θ Y Λ fn m el l args (fun v g=>some (v,g))=some (res,out)):q9 P f (.own ⟨0,[]⟩ el.width 0 l.length::args.map V1.av) [.sl el.width (l.map el.row)] m res.av (out.map bG.tree):=by
 unfold Qs at h
 split at h
 ·cases h
 ·rename_i c hc
  have hcok:kH P c=true:=by
   unfold L9 at hf
   simp only [Option.bind_eq_some_iff] at hf
   obtain⟨fn',g1,g2⟩:=hf
   split at g2
   ·cases g2
   ·rename_i c' hc'
    split at g2
    ·cases g2
    ·rename_i hn
     simp only [Option.some.injEq] at g2
     subst g2
     rw [hc] at hc'
     simp only [Option.some.injEq] at hc'
     subst hc'
     simp only [Bool.or_eq_true,not_or,Bool.not_eq_true,Bool.not_eq_false'] at hn
     exact hn.2
  have hS0: ({ env:=kJ 0 (.cl (.own ⟨0,[]⟩ el.width 0 l.length true)::args),bx:= [],gh:= [some ⟨el,l,none⟩],fz:=m,nt:=(args.length+1)+(fn.ntmps - (args.length+1)) }:TS).ok:=
   ⟨fun x hx=>by
    obtain⟨a,h1,h2⟩:=sI _ _ _ hx
    rw [h2]
    rcases List.mem_cons.1 h1 with rfl | h1
    ·refine⟨Nat.zero_lt_one,fun _=>⟨rfl,rfl,fun tr htr=> ?_⟩⟩
     have htr:some (⟨el,l,none⟩:bG)=some tr:=htr
     cases htr
     rfl
    ·exact V1.ok_mono (G:= []) ⟨Nat.zero_le _,fun r tr hr=>by cases hr⟩ (ha a h1),fun cs hcs=>by cases hcs⟩
  have hbeg: ({ env:=kJ 0 (.cl (.own ⟨0,[]⟩ el.width 0 l.length true)::args),bx:= [],gh:= [some ⟨el,l,none⟩],fz:=m,nt:=(args.length+1)+(fn.ntmps - (args.length+1)) }:TS).st=I0 fn.ntmps (.own ⟨0,[]⟩ el.width 0 l.length::args.map V1.av) [.sl el.width (l.map el.row)] m:=by
   unfold TS.st I0 C7
   simp only [List.length_map,List.length_cons,List.length_nil]
   congr 1
   ·funext t
    exact AQ _ t
   ·funext r
    show (cK [some ⟨el,l,none⟩] r).map bG.tree= [T.sl el.width (l.map el.row)][r]?
    unfold cK
    rw [df]
    cases r <;> rfl
  have hW:=xO hΘ hY hm c _ _ _ hcok (hL c hc) hS0 h
  rw [hbeg] at hW
  have fin: ∀ (S1:TS),S1.ok→ ∀ gs:List bG,((List.range m).map fun r=>(S1.st.gh r).getD .dd)=gs.map bG.tree→ ∀ l,(fn.results.toList.mapM (xF P S1.st))=some (l.map fun x:TypeId×V=>x.2.av)→l.map (·.1)=fn.resultTypes.toList→(∀ x∈l,x.2.ok S1.gh)→
    (rF Θ S1 gs l fun vs gs=>some (vo vs,gs))=some (res,out)→xG P fn.results.toList fn.resultTypes.toList m S1.st=some (res.av,out.map bG.tree):=by
   intro S1 hS1 gs hgs l h1 h2 h3 h
   obtain⟨vs,gs',k1,k2,k3,k4,h⟩:=Du (P:=P) hΘ _ _ _ _ _ hS1 h3 h
   simp only [Option.some.injEq,Prod.mk.injEq] at h
   obtain⟨rfl,rfl⟩:=h
   unfold xG
   rw [h1]
   simp only [Option.bind_some,List.length_map]
   have hz: (fn.resultTypes.toList.zip (l.map fun x=>x.2.av))=l.map fun x=>(x.1,x.2.av):=by
    rw [←h2]
    exact CC _ l
   rw [if_pos (by rw [←h2]; simp),hz,hgs,k1]
   simp only [Option.map_some,Hf]
  have main: ∀ (S1:TS),S1.ok→(Bv Θ S1 fn.results.toList fn.resultTypes.toList fun rs=>bif Nat.beq m 0 then rF Θ S1 [] rs fun vs gs=>some (vo vs,gs) else match cK S1.gh 0 with
    | some ⟨t,l',none⟩=>rF Θ S1 [⟨t,l',none⟩] rs fun vs gs=>some (vo vs,gs)
    | _=>none)=some (res,out)→xG P fn.results.toList fn.resultTypes.toList m S1.st=some (res.av,out.map bG.tree):=by
   intro S1 hS1 h0
   obtain⟨l,h1,h2,h3,h⟩:=He (P:=P) hΘ hS1 _ _ _ _ h0
   clear h0
   cases hm0:Nat.beq m 0 with
   | true=>
     rw [hm0] at h
     have e:m=0:=Nat.eq_of_beq_eq_true hm0
     exact fin S1 hS1 [] (by rw [e]; rfl) l h1 h2 h3 h
   | false=>
     rw [hm0] at h
     simp only [cond_false] at h
     have e:m=1:=by
      have :m≠0:=fun e=>by rw [e] at hm0; cases hm0
      omega
     split at h
     ·rename_i t l' hg
      exact fin S1 hS1 [⟨t,l',none⟩] (by
       rw [e]
       show [(S1.st.gh 0).getD .dd] =_
       have :S1.st.gh 0=some (bG.tree ⟨t,l',none⟩):=by
        show (cK S1.gh 0).map bG.tree=_
        rw [hg]
        rfl
       rw [this]
       rfl) l h1 h2 h3 h
     ·cases h
  refine AN hf hc (by simpa using hm1) (hW.mono (fun x S' hx=>⟨S',of.refl,?_⟩))
  obtain⟨S1,rfl,h1,h2⟩:=hx
  cases x with
  | ext i=>cases h2
  | nor=>exact main S1 h1 h2
  | ret=>exact main S1 h1 h2
theorem Lh (P:Program) (S:TS): ∀ (n r:Nat) (gs:List bG),u9 S r n=some gs→((List.range' r n).map fun r=>(S.st.gh r).getD .dd)=gs.map bG.tree:=by
 intro n
 induction n with
 | zero=>
   intro r gs h
   simp only [u9,Option.some.injEq] at h
   subst h
   rfl
 | succ n ih=>
   intro r gs h
   simp only [u9] at h
   split at h
   ·rename_i t l hg
    split at h
    ·rename_i ts hts
     simp only [Option.some.injEq] at h
     subst h
     rw [List.range'_succ,List.map_cons,List.map_cons,ih _ _ hts]
     congr 1
     show ((cK S.gh r).map bG.tree).getD .dd=_
     rw [hg]
     rfl
    ·cases h
   ·cases h
theorem xP: ∀ (cs:List C) (n:Nat) (G:List (Option bG)),(∀ k t,(lR cs)[k]? =some t→cK G (n+k)=some t)→ ∀ c∈tF cs n,c.ok G
 | [],n,G,h,c,hc=>by cases hc
 | .sc v::r,n,G,h,c,hc=>by
   simp only [tF,List.mem_cons] at hc
   rcases hc with rfl | hc
   ·trivial
   ·exact xP r n G h c hc
 | .ls t l::r,n,G,h,c,hc=>by
   simp only [tF,List.mem_cons] at hc
   have h0:=h 0 ⟨t,l,none⟩ rfl
   rw [Nat.add_zero] at h0
   rcases hc with rfl | hc
   ·refine⟨sH h0,fun _=>⟨rfl,rfl,fun tr htr=> ?_⟩⟩
    have e:some (⟨t,l,none⟩:bG)=some tr:=h0.symm.trans htr
    cases e
    rfl
   ·exact xP r (n+1) G (fun k t' hk=>by
     have:=h (k+1) t' (by simpa [lR] using hk)
     rwa [show n+(k+1)=n+1+k by omega] at this) c hc
theorem QR (hΘ:dG P Θ) (hY:az P Y) (hm:P.follows .mixedOrders=true) {Λ:om} {f:FuncId} {fn:Func} (hf:L9 P f=some fn) (hL: ∀ c,fn.body=some c→fr P Λ (ek c)) {t:Ty} {x:t.D} {args:List V1} (ha: ∀ a∈args,a.ok []) {res:V} {out:List bG}
  (h:RU Θ Y Λ fn t x args (fun v g=>some (v,g))=some (res,out)):q9 P f ((Dh t x 0).av::args.map V1.av) ((lR (t.flat x)).map bG.tree) (bif true then (lR (t.flat x)).length else 0) res.av (out.map bG.tree):=by
 unfold RU at h
 split at h
 ·cases h
 ·rename_i c hc
  have hcok:kH P c=true:=by
   unfold L9 at hf
   simp only [Option.bind_eq_some_iff] at hf
   obtain⟨fn',g1,g2⟩:=hf
   split at g2
   ·cases g2
   ·rename_i c' hc'
    split at g2
    ·cases g2
    ·rename_i hn
     simp only [Option.some.injEq] at g2
     subst g2
     rw [hc] at hc'
     simp only [Option.some.injEq] at hc'
     subst hc'
     simp only [Bool.or_eq_true,not_or,Bool.not_eq_true,Bool.not_eq_false'] at hn
     exact hn.2
  generalize hgs:lR (t.flat x)=gs0 at*
  have hgh0: ∀ k t',gs0[k]? =some t'→cK (gs0.map some) (0+k)=some t':=by
   intro k t' hk
   unfold cK
   rw [df,Nat.zero_add,List.getElem?_map,hk]
   rfl
  have h1ok: (Dh t x 0).ok (gs0.map some):=by
   unfold Dh
   cases t.ag with
   | true=>
     intro c hc
     exact xP (t.flat x) 0 _ (by rw [hgs]; exact hgh0) c hc
   | false=>
     simp only [cond_false]
     split
     ·rename_i c hc
      exact xP (t.flat x) 0 _ (by rw [hgs]; exact hgh0) c (by rw [hc]; exact List.mem_singleton.2 rfl)
     ·trivial
  have hS0: ({ env:=kJ 0 (Dh t x 0::args),bx:= [],gh:=gs0.map some,fz:=gs0.length,nt:=(args.length+1)+(fn.ntmps - (args.length+1)) }:TS).ok:=
   ⟨fun x hx=>by
    obtain⟨a,h1,h2⟩:=sI _ _ _ hx
    rw [h2]
    rcases List.mem_cons.1 h1 with rfl | h1
    ·exact h1ok
    ·exact V1.ok_mono (G:= []) ⟨Nat.zero_le _,fun r tr hr=>by cases hr⟩ (ha a h1),fun cs hcs=>by cases hcs⟩
  have hbeg: ({ env:=kJ 0 (Dh t x 0::args),bx:= [],gh:=gs0.map some,fz:=gs0.length,nt:=(args.length+1)+(fn.ntmps - (args.length+1)) }:TS).st=I0 fn.ntmps ((Dh t x 0).av::args.map V1.av) (gs0.map bG.tree) gs0.length:=by
   unfold TS.st I0 C7
   simp only [List.length_map,List.length_cons]
   congr 1
   ·funext t
    exact AQ _ t
   ·funext r
    show (cK (gs0.map some) r).map bG.tree=(gs0.map bG.tree)[r]?
    unfold cK
    rw [df,List.getElem?_map,List.getElem?_map]
    cases gs0[r]? <;> rfl
  have hW:=xO hΘ hY hm c _ _ _ hcok (hL c hc) hS0 h
  rw [hbeg] at hW
  have main: ∀ (S1:TS),S1.ok→(Bv Θ S1 fn.results.toList fn.resultTypes.toList fun rs=>match u9 S1 0 gs0.length with
    | some gs=>rF Θ S1 gs rs fun vs gs'=>some (vo vs,gs')
    | none=>none)=some (res,out)→xG P fn.results.toList fn.resultTypes.toList gs0.length S1.st=some (res.av,out.map bG.tree):=by
   intro S1 hS1 h0
   obtain⟨l,h1,h2,h3,h⟩:=He (P:=P) hΘ hS1 _ _ _ _ h0
   clear h0
   split at h
   ·rename_i gs hgs'
    have hgs2:=Lh P S1 _ _ _ hgs'
    rw [←List.range_eq_range'] at hgs2
    obtain⟨vs,gs',k1,k2,k3,k4,h⟩:=Du (P:=P) hΘ _ _ _ _ _ hS1 h3 h
    simp only [Option.some.injEq,Prod.mk.injEq] at h
    obtain⟨rfl,rfl⟩:=h
    unfold xG
    rw [h1]
    simp only [Option.bind_some,List.length_map]
    have hz: (fn.resultTypes.toList.zip (l.map fun x=>x.2.av))=l.map fun x=>(x.1,x.2.av):=by
     rw [←h2]
     exact CC _ l
    rw [if_pos (by rw [←h2]; simp),hz,hgs2,k1]
    simp only [Option.map_some,Hf]
   ·cases h
  refine AN hf hc (by simp) (hW.mono (fun x S' hx=>⟨S',of.refl,?_⟩))
  obtain⟨S1,rfl,h1,h2⟩:=hx
  cases x with
  | ext i=>cases h2
  | nor=>exact main S1 h1 h2
  | ret=>exact main S1 h1 h2
end
end Go.Proofs.YtkcgfceffffmoaaGreat.En
namespace Go.Proofs.YtkcgfceffffmoaaGreat.En
open Go
def Bw:List Nat→Nat→Nat→Option Nat
 | [],_,_=>none
 | a::l,x,n=>bif Nat.beq a x then some n else Bw l x (n+1)
def wB (bs ls:List Nat):Cl→Cl
 | .own p sz lo len w=>match Bw ls p.r 0 with | some k=> .own ⟨k,p.l⟩ sz lo len w | none=> .dead
 | .ptrT p sz i j=>match Bw ls p.r 0 with | some k=> .ptrT ⟨k,p.l⟩ sz i j | none=> .dead
 | .ptrB n j=>match Bw bs n 0 with | some k=> .ptrB k j | none=> .dead
 | c=>c
def Pd (bs ls:List Nat):V1→V1
 | .cl c=> .cl (wB bs ls c)
 | .agg cs=> .agg (cs.map (wB bs ls))
 | .fn f cs=> .fn f (cs.map (wB bs ls))
def Pe (bs ls:List Nat):V→V
 | .v x=> .v (Pd bs ls x)
 | .tup _=>V.dead
def Ms:List Nat→List Nat→List Nat
 | [],acc=>acc
 | a::l,acc=>match Bw acc a 0 with | some _=>Ms l acc | none=>Ms l (acc++ [a])
def Dv:List Nat→Bool
 | [] =>true
 | a::l=>(match Bw l a 0 with | some _=>false | none=>true)&&Dv l
def TL:Cl→List Nat | .ptrB n _=> [n] | _=> []
def ST:Cl→List Nat | .own p _ _ _ _=> [p.r] | .ptrT p _ _ _=> [p.r] | _=> []
def V1.all:V1→List Cl | .cl c=> [c] | .agg cs=>cs | .fn _ cs=>cs
def V.all:V→List Cl | .v x=>x.all | .tup _=> []
def Mt (S:TS) (keep:List Nat):List Nat:=Ms (keep.flatMap fun t=>(gC S.env t).all.flatMap TL) []
def Rr (S:TS) (keep bs:List Nat):List Nat:=Ms (List.range S.fz++(keep.flatMap fun t=>(gC S.env t).all.flatMap ST)++bs.flatMap fun b=>((ol S.bx b).getD []).flatMap ST) []
def gD (S:TS) (keep bs ls:List Nat):TS where
 env:=keep.map fun t=>(t,Pe bs ls (gC S.env t))
 bx:=bs.map fun b=>((ol S.bx b).getD []).map (wB bs ls)
 gh:=ls.map fun r=>cK S.gh r
 fz:=S.fz
 nt:=S.nt
def Hg (S:TS) (bs ls:List Nat):Bool:=Dv bs&&Dv ls&&bs.all (fun b=>Nat.blt b S.bx.length)&&SM (ls.take S.fz) (List.range S.fz)&&ls.all (fun r=>Nat.blt r S.gh.length)
def Nn (G:List (Option bG)):Cl→Cl
 | .own p sz lo len true=> .own p sz lo (match ol G p.r with | some (some tr)=>tr.l.length | _=>len) true
 | c=>c
def Pf (G:List (Option bG)):V1→V1
 | .cl c=> .cl (Nn G c)
 | .agg cs=> .agg (cs.map (Nn G))
 | .fn f cs=> .fn f (cs.map (Nn G))
def SU (G:List (Option bG)):V→V
 | .v x=> .v (Pf G x)
 | .tup l=> .tup (l.map (Pf G))
def RY (S:TS):TS:= { S with env:=S.env.map (fun x=>(x.1,SU S.gh x.2)),bx:=S.bx.map (fun cs=>cs.map (Nn S.gh)) }
def zF {ρ:Type} (keep:List Nat) (S:TS) (κ:TS→Option ρ):Option ρ:=bif Hg S (Mt S keep) (Rr S keep (Mt S keep)) then κ (RY (gD S keep (Mt S keep) (Rr S keep (Mt S keep)))) else none
theorem zG: ∀ {l:List Nat} {x n k:Nat},Bw l x n=some k→n≤k∧l[k - n]? =some x
 | [],x,n,k,h=>by cases h
 | a::l,x,n,k,h=>by
   simp only [Bw] at h
   cases hb:Nat.beq a x with
   | true=>
     rw [hb] at h
     simp only [cond_true,Option.some.injEq] at h
     subst h
     exact⟨Nat.le_refl _,by simp [Nat.eq_of_beq_eq_true hb]⟩
   | false=>
     rw [hb] at h
     obtain⟨h1,h2⟩:=zG (l:=l) h
     refine⟨by omega,?_⟩
     rw [show k - n=(k - (n+1))+1 by omega,List.getElem?_cons_succ]
     exact h2
theorem Gf: ∀ {l:List Nat} {x n:Nat},Bw l x n=none→x∉l
 | [],x,n,_=>by simp
 | a::l,x,n,h=>by
   simp only [Bw] at h
   cases hb:Nat.beq a x with
   | true=>rw [hb] at h; cases h
   | false=>
     rw [hb] at h
     have:=Gf (l:=l) h
     intro hm
     rcases List.mem_cons.1 hm with rfl | hm
     ·rw [Nat.beq_refl] at hb; cases hb
     ·exact this hm
theorem wD: ∀ {l:List Nat},Dv l=true→ ∀ (i j x:Nat),l[i]? =some x→l[j]? =some x→i=j
 | [],_,i,j,x,hi,_=>by simp at hi
 | a::l,h,i,j,x,hi,hj=>by
   simp only [Dv,Bool.and_eq_true] at h
   have hna:a∉l:=by
    have h1:=h.1
    split at h1
    ·cases h1
    ·rename_i hp; exact Gf hp
   cases i with
   | zero=>
     simp only [List.getElem?_cons_zero,Option.some.injEq] at hi
     subst hi
     cases j with
     | zero=>rfl
     | succ j=>simp only [List.getElem?_cons_succ] at hj; exact absurd (List.mem_of_getElem? hj) hna
   | succ i=>
     simp only [List.getElem?_cons_succ] at hi
     cases j with
     | zero=>
       simp only [List.getElem?_cons_zero,Option.some.injEq] at hj
       subst hj
       exact absurd (List.mem_of_getElem? hi) hna
     | succ j=>
       simp only [List.getElem?_cons_succ] at hj
       rw [wD h.2 i j x hi hj]
def Bt.ren (bt:Bt) (bs ls:List Nat):Bt where
 β:=fun p=>bt.β ⟨ls.getD p.r 0,p.l⟩
 κ:=fun p=>bt.κ ⟨ls.getD p.r 0,p.l⟩
 bb:=fun n=>bt.bb (bs.getD n 0)
 nb:=bs.length
 ng:=ls.length
 A:=bt.A
theorem Hh {w:World} {bt:Bt} {bs ls:List Nat} {c:Cl} {u:Value} (h:VR w bt c.av u):VR w (bt.ren bs ls) (wB bs ls c).av u:=by
 have lt: ∀ {l:List Nat} {x k:Nat},Bw l x 0=some k→k < l.length∧l.getD k 0=x:=by
  intro l x k hk
  obtain⟨_,h2⟩:=zG hk
  rw [Nat.sub_zero] at h2
  exact⟨(List.getElem?_eq_some_iff.1 h2).1,by simp [List.getD_eq_getElem?_getD,h2]⟩
 cases c with
 | c x=>
   cases x with
   | sc v=>cases h with | sc h=>exact .sc h
   | ls t l=>cases h with | ro h=>exact .ro h
 | em=>cases h with | em a=>exact .em a
 | own p sz lo len wh=>
   simp only [wB]
   split
   ·rename_i k hk
    obtain⟨h1,h2⟩:=lt hk
    have hp: (⟨ls.getD k 0,p.l⟩:bJ)=p:=by rw [h2]
    have e1: (bt.ren bs ls).κ ⟨k,p.l⟩=bt.κ p:=by
     have e: (bt.ren bs ls).κ ⟨k,p.l⟩=bt.κ (bJ.mk (ls.getD k 0) p.l):=rfl
     rw [e,hp]
    have e2: (bt.ren bs ls).β ⟨k,p.l⟩=bt.β p:=by
     have e: (bt.ren bs ls).β ⟨k,p.l⟩=bt.β (bJ.mk (ls.getD k 0) p.l):=rfl
     rw [e,hp]
    cases h with
    | own hp' hc hkk ha=>exact .own h1 hc (by rw [e1]; exact hkk) (by rw [e2]; exact ha)
   ·exact .dead _
 | pro cs=>cases h with | pro cs hs hA hr ht=>exact .pro cs hs hA hr ht
 | ptrB n j=>
   simp only [wB]
   split
   ·rename_i k hk
    obtain⟨h1,h2⟩:=lt hk
    cases h with
    | ptrB j hn=>
      have :bt.bb n=(bt.ren bs ls).bb k:=by show bt.bb n=bt.bb (bs.getD k 0); rw [h2]
      rw [this]
      exact .ptrB j h1
   ·exact .dead _
 | ptrT p sz i j=>
   simp only [wB]
   split
   ·rename_i k hk
    obtain⟨h1,h2⟩:=lt hk
    have hp: (⟨ls.getD k 0,p.l⟩:bJ)=p:=by rw [h2]
    cases h with
    | ptrT sz i j hp' hkk=>
      have e1:bt.β p=(bt.ren bs ls).β ⟨k,p.l⟩:=by show bt.β p=bt.β ⟨ls.getD k 0,p.l⟩; rw [hp]
      rw [e1]
      exact .ptrT sz i j h1 (by show _ < bt.κ ⟨ls.getD k 0,p.l⟩; rw [hp]; exact hkk)
   ·exact .dead _
 | dead=>exact .dead _
theorem Pg {w:World} {bt:Bt} {bs ls:List Nat} {v:V1} {u:Value} (h:VR w bt v.av u):VR w (bt.ren bs ls) (Pd bs ls v).av u:=by
 have cells: ∀ (cs:List Cl) (us:List Value),us.length=cs.length→(∀ (k:Nat) (c:AV) (u:Value),(cs.map Cl.av)[k]? =some c→us[k]? =some u→VR w bt c u)→ ∀ (k:Nat) (c:AV) (u:Value),((cs.map (wB bs ls)).map Cl.av)[k]? =some c→us[k]? =some u→VR w (bt.ren bs ls) c u:=by
  intro cs us _ hr k c u hk hu
  rw [List.getElem?_map,List.getElem?_map] at hk
  simp only [Option.map_eq_some_iff] at hk
  obtain⟨c1,⟨c0,hc0,rfl⟩,rfl⟩:=hk
  exact Hh (hr k c0.av u (by rw [List.getElem?_map,hc0]; rfl) hu)
 cases v with
 | cl c=>exact Hh h
 | agg cs=>
   simp only [V1.av] at h
   cases h with
   | agg hl ho hr=>
     exact .agg (by simpa using hl) ho (cells cs _ (by simpa using hl) hr)
 | fn f cs=>
   simp only [V1.av] at h
   cases h with
   | fn f hl hr=>
     exact .fn f (by simpa using hl) (cells cs _ (by simpa using hl) hr)
theorem QS {w:World} {bt:Bt} {bs ls:List Nat} {v:V} {u:Value} (h:VR w bt v.av u):VR w (bt.ren bs ls) (Pe bs ls v).av u:=by
 cases v with
 | v x=>exact Pg h
 | tup l=>exact .dead _
theorem Gg (S:TS) (f:V→V): ∀ (keep:List Nat) (t:Nat),gC (keep.map fun t=>(t,f (gC S.env t))) t=V.dead∨gC (keep.map fun t=>(t,f (gC S.env t))) t=f (gC S.env t)
 | [],t=> .inl rfl
 | u::l,t=>by
   simp only [List.map_cons,gC]
   cases hb:Nat.beq u t with
   | true=>rw [Nat.eq_of_beq_eq_true hb]; exact .inr rfl
   | false=>exact Gg S f l t
theorem vf (S:TS) (keep bs ls:List Nat) (r:Nat):cK (gD S keep bs ls).gh r=(ls[r]?).bind fun q=>cK S.gh q:=by
 show (ol (ls.map fun r=>cK S.gh r) r).getD none=_
 rw [df,List.getElem?_map]
 cases ls[r]? <;> rfl
theorem Ju {S:TS} {keep bs ls:List Nat} (h:Hg S bs ls=true):of S.st (gD S keep bs ls).st:=by
 unfold Hg at h
 simp only [Bool.and_eq_true] at h
 obtain⟨⟨⟨⟨hnb,hnl⟩,hbs⟩,hfz⟩,hlt⟩:=h
 have hfz:=Hb hfz
 intro w0 W btI SI bt a w hl
 have inv:=hl.inv
 have hls: ∀ (k:Nat),k < S.fz→ls[k]? =some k:=by
  intro k hk
  have : (ls.take S.fz)[k]? =(List.range S.fz)[k]? :=by rw [hfz]
  rw [List.getElem?_take,if_pos hk,List.getElem?_range hk] at this
  exact this
 have look: ∀ p s rs,(gD S keep bs ls).st.look p= .sl s rs→ ∃ q,ls[p.r]? =some q∧S.st.look ⟨q,p.l⟩= .sl s rs∧ls.getD p.r 0=q:=by
  intro p s rs hp
  unfold St.look at hp
  have e: (gD S keep bs ls).st.gh p.r=((ls[p.r]?).bind fun q=>cK S.gh q).map bG.tree:=by
   show (cK _ _).map bG.tree=_
   rw [vf]
  rw [e] at hp
  cases hq:ls[p.r]? with
  | none=>rw [hq] at hp; cases hp
  | some q=>
    refine⟨q,rfl,?_,by simp [List.getD_eq_getElem?_getD,hq]⟩
    rw [hq] at hp
    exact hp
 have box: ∀ n cells,(gD S keep bs ls).st.bx n=some cells→ ∃ b cs,bs[n]? =some b∧S.bx[b]? =some cs∧cells=(cs.map (wB bs ls)).map Cl.av∧bs.getD n 0=b:=by
  intro n cells hn
  have hn': (ol (bs.map fun b=>((ol S.bx b).getD []).map (wB bs ls)) n).map (fun cs=>cs.map Cl.av)=some cells:=hn
  rw [df,List.getElem?_map] at hn'
  simp only [Option.map_eq_some_iff] at hn'
  obtain⟨x,⟨b,hb,rfl⟩,rfl⟩:=hn'
  have hlt':b < S.bx.length:=Nat.le_of_ble_eq_true (List.all_eq_true.1 hbs b (List.mem_of_getElem? hb))
  refine⟨b,S.bx[b],hb,List.getElem?_eq_getElem hlt',?_,by simp [List.getD_eq_getElem?_getD,hb]⟩
  rw [df,List.getElem?_eq_getElem hlt']
  rfl
 have bxS: ∀ {b:Nat} {cs:List Cl},S.bx[b]? =some cs→S.st.bx b=some (cs.map Cl.av):=by
  intro b cs hb
  show (ol S.bx b).map _=_
  rw [df,hb]
  rfl
 refine⟨bt.ren bs ls,?_⟩
 refine⟨{ os:=inv.os,tape:=inv.tape,output:=inv.output,size:=inv.size,keep:=inv.keep
          nb:=by show bs.length=_; simp [TS.st,gD]
          ng:=by show ls.length=_; simp [TS.st,gD]
          bx:=fun n cells hn=> ?_
          gh:=fun r t hr=> ?_
          tr:=fun p sz rows hp=> ?_
          inj:=fun p q s rs s' rs' hp hq hk hk' he=> ?_
          bbinj:=fun n m cs cs' hn hm he=> ?_
          bbtr:=fun n cs p s rs hn hp hk=> ?_
          alt:=inv.alt
          atr:=fun p s rs hp hk=> ?_
          abb:=fun n cs hn=> ?_ },⟨hl.er.1,fun t=> ?_⟩,hl.defers,hl.fz,?_,fun p hp=> ?_,fun r hr hn=> ?_⟩
 ·obtain⟨b,cs,h1,h2,rfl,h4⟩:=box n cells hn
  obtain⟨g1,g2,arr,e,g3,g4,g5⟩:=inv.bx b _ (bxS h2)
  refine⟨by show n < _; have:=(List.getElem?_eq_some_iff.1 h1).1; simpa [TS.st,gD] using this,by show _≤bt.bb (bs.getD n 0); rw [h4]; exact g2,arr,e,by show w.heap[bt.bb (bs.getD n 0)]? =_; rw [h4]; exact g3,by simpa using g4,fun j v hj=> ?_⟩
  rw [List.getElem?_map,List.getElem?_map] at hj
  simp only [Option.map_eq_some_iff] at hj
  obtain⟨c1,⟨c0,hc0,rfl⟩,rfl⟩:=hj
  obtain⟨c,k1,k2,k3⟩:=g5 j c0.av (by rw [List.getElem?_map,hc0]; rfl)
  exact⟨c,k1,Hh k2,k3⟩
 ·have hr': (cK (gD S keep bs ls).gh r).map bG.tree=some t:=hr
  rw [vf] at hr'
  show r < _
  cases hq:ls[r]? with
  | none=>rw [hq] at hr'; cases hr'
  | some q=>
    have:=(List.getElem?_eq_some_iff.1 hq).1
    simpa [TS.st,gD] using this
 ·obtain⟨q,h1,h2,h3⟩:=look p sz rows hp
  obtain⟨g1,g2⟩:=inv.tr _ _ _ h2
  have eκ: (bt.ren bs ls).κ p=bt.κ ⟨q,p.l⟩:=by show bt.κ ⟨ls.getD p.r 0,p.l⟩=_; rw [h3]
  have eβ: (bt.ren bs ls).β p=bt.β ⟨q,p.l⟩:=by show bt.β ⟨ls.getD p.r 0,p.l⟩=_; rw [h3]
  rw [eκ,eβ]
  refine⟨g1,fun hk=>⟨(g2 hk).1,?_⟩⟩
  obtain⟨_,cs,e,k1,k2,k3,k4⟩:=g2 hk
  refine⟨cs,e,by rw [eβ]; exact k1,by rw [eκ]; exact k2,k3,fun i r hi=> ?_⟩
  obtain⟨m1,m2⟩:=k4 i r hi
  refine⟨m1,fun j x hj=> ?_⟩
  obtain⟨c,n1,n2⟩:=m2 j x hj
  refine⟨c,n1,?_⟩
  have f1: (bt.ren bs ls).κ (p.sub i j)=bt.κ (bJ.sub ⟨q,p.l⟩ i j):=by show bt.κ ⟨ls.getD p.r 0,p.l++ [(i,j)]⟩=bt.κ ⟨q,p.l++ [(i,j)]⟩; rw [h3]
  have f2: (bt.ren bs ls).β (p.sub i j)=bt.β (bJ.sub ⟨q,p.l⟩ i j):=by show bt.β ⟨ls.getD p.r 0,p.l++ [(i,j)]⟩=bt.β ⟨q,p.l++ [(i,j)]⟩; rw [h3]
  cases n2 with
  | sc h=>exact .sc h
  | dd u=>exact .dd _
  | sl q1 q2 q3=>exact .sl q1 (by rw [f1]; exact q2) (by rw [f2]; exact q3)
 ·obtain⟨p',h1,h2,h3⟩:=look p s rs hp
  obtain⟨q',g1,g2,g3⟩:=look q s' rs' hq
  have:=inv.inj ⟨p',p.l⟩ ⟨q',q.l⟩ _ _ _ _ h2 g2 (by rw [←h3]; exact hk) (by rw [←g3]; exact hk') (by rw [←h3,←g3]; exact he)
  simp only [bJ.mk.injEq] at this
  obtain⟨e1,e2⟩:=this
  subst e1
  have e3:=wD hnl _ _ _ h1 g1
  cases p; cases q
  simp only at e3 e2
  rw [e3,e2]
 ·obtain⟨b,c,h1,h2,_,h4⟩:=box n cs hn
  obtain⟨b',c',g1,g2,_,g4⟩:=box m cs' hm
  have:=inv.bbinj b b' _ _ (bxS h2) (bxS g2) (by
   have he':bt.bb (bs.getD n 0)=bt.bb (bs.getD m 0):=he
   rw [h4,g4] at he'
   exact he')
  subst this
  exact wD hnb _ _ _ h1 g1
 ·obtain⟨b,c,h1,h2,_,h4⟩:=box n cs hn
  obtain⟨q,g1,g2,g3⟩:=look p s rs hp
  have hk':0 < bt.κ ⟨ls.getD p.r 0,p.l⟩:=hk
  rw [g3] at hk'
  show bt.bb (bs.getD n 0)≠bt.β ⟨ls.getD p.r 0,p.l⟩
  rw [h4,g3]
  exact inv.bbtr _ _ _ _ _ (bxS h2) g2 hk'
 ·obtain⟨q,g1,g2,g3⟩:=look p s rs hp
  have hk':0 < bt.κ ⟨ls.getD p.r 0,p.l⟩:=hk
  rw [g3] at hk'
  show ¬ bt.A (bt.β ⟨ls.getD p.r 0,p.l⟩)
  rw [g3]
  exact inv.atr _ _ _ g2 hk'
 ·obtain⟨b,c,h1,h2,_,h4⟩:=box n cs hn
  show ¬ bt.A (bt.bb (bs.getD n 0))
  rw [h4]
  exact inv.abb _ _ (bxS h2)
 ·show VR w _ (gC (gD S keep bs ls).env t).av _
  rcases Gg S (Pe bs ls) keep t with h1 | h1
  ·have :gC (gD S keep bs ls).env t=V.dead:=h1
   rw [this]
   exact .dead _
  ·have :gC (gD S keep bs ls).env t=Pe bs ls (gC S.env t):=h1
   rw [this]
   exact QS (hl.er.2 t)
 ·show S.fz≤(gD S keep bs ls).gh.length
  rcases Nat.eq_zero_or_pos S.fz with h0 | h0
  ·omega
  ·have:=(List.getElem?_eq_some_iff.1 (hls (S.fz - 1) (by omega))).1
   simp [gD]
   omega
 ·have hp':p.r < S.fz:=by have:=hl.fz; have e:S.st.fz=S.fz:=rfl; omega
  have h3:ls.getD p.r 0=p.r:=by simp [List.getD_eq_getElem?_getD,hls p.r hp']
  have:=hl.keep p hp
  show bt.β ⟨ls.getD p.r 0,p.l⟩=_∧bt.κ ⟨ls.getD p.r 0,p.l⟩=_
  rw [h3]
  exact this
 ·have hr':r < S.fz:=by have:=hl.fz; have e:S.st.fz=S.fz:=rfl; omega
  refine hl.gone r hr ?_
  have hn': (cK (gD S keep bs ls).gh r).map bG.tree=none:=hn
  rw [vf,hls r hr'] at hn'
  exact hn'
theorem CD {S:TS} {bs ls:List Nat} {keep:List Nat} {c:Cl} (h:c.ok S.gh): (wB bs ls c).ok (gD S keep bs ls).gh:=by
 have lt: ∀ {x k:Nat},Bw ls x 0=some k→k < (gD S keep bs ls).gh.length∧ls[k]? =some x:=by
  intro x k hk
  obtain⟨_,h2⟩:=zG hk
  rw [Nat.sub_zero] at h2
  exact⟨by have:=(List.getElem?_eq_some_iff.1 h2).1; simpa [gD] using this,h2⟩
 cases c with
 | own p sz lo len w=>
   simp only [wB]
   split
   ·rename_i k hk
    obtain⟨h1,h2⟩:=lt hk
    refine⟨h1,fun hw=> ?_⟩
    obtain⟨a,b,c⟩:=h.2 hw
    refine⟨a,b,fun tr htr=>c tr ?_⟩
    rw [vf,h2] at htr
    exact htr
   ·trivial
 | ptrT p sz i j=>
   simp only [wB]
   split
   ·rename_i k hk; exact (lt hk).1
   ·trivial
 | ptrB n j=>simp only [wB]; split <;> trivial
 | _=>trivial
theorem QT {S:TS} {bs ls:List Nat} {keep:List Nat} {v:V} (h:v.ok S.gh): (Pe bs ls v).ok (gD S keep bs ls).gh:=by
 have one: ∀ {v:V1},v.ok S.gh→(Pd bs ls v).ok (gD S keep bs ls).gh:=by
  intro v h
  cases v with
  | cl c=>exact CD h
  | agg cs=>intro c hc; obtain⟨x,hx,rfl⟩:=List.mem_map.1 hc; exact CD (h x hx)
  | fn f cs=>intro c hc; obtain⟨x,hx,rfl⟩:=List.mem_map.1 hc; exact CD (h x hx)
 cases v with
 | v x=>exact one h
 | tup l=>trivial
theorem Gh {S:TS} (hS:S.ok) (keep bs ls:List Nat): (gD S keep bs ls).ok:=by
 refine⟨fun x hx=> ?_,fun cs hcs c hc=> ?_⟩
 ·obtain⟨t,_,rfl⟩:=List.mem_map.1 hx
  exact QT (CA hS t)
 ·obtain⟨b,_,rfl⟩:=List.mem_map.1 hcs
  obtain⟨x,hx,rfl⟩:=List.mem_map.1 hc
  cases hb:ol S.bx b with
  | none=>rw [hb] at hx; cases hx
  | some cs=>
    rw [hb] at hx
    rw [df] at hb
    exact CD (hS.bx cs (List.mem_of_getElem? hb) x hx)
theorem CE {G:List (Option bG)} {c:Cl} (h:c.ok G):Nn G c=c:=by
 unfold Nn
 split
 ·rename_i p sz lo len
  split
  ·rename_i tr htr
   rw [(h.2 rfl).2.2 tr (by unfold cK; rw [htr]; rfl)]
  ·rfl
 ·rfl
theorem Jv {G:List (Option bG)} {v:V1} (h:v.ok G):Pf G v=v:=by
 cases v with
 | cl c=>exact congrArg V1.cl (CE h)
 | agg cs=>exact congrArg V1.agg ((List.map_congr_left fun c hc=>CE (h c hc)).trans (List.map_id' cs))
 | fn f cs=>exact congrArg (V1.fn f) ((List.map_congr_left fun c hc=>CE (h c hc)).trans (List.map_id' cs))
theorem QU {G:List (Option bG)} {v:V} (h:v.ok G):SU G v=v:=by
 cases v with
 | v x=>exact congrArg V.v (Jv h)
 | tup l=>exact congrArg V.tup ((List.map_congr_left fun c hc=>Jv (h c hc)).trans (List.map_id' l))
theorem QV {S:TS} (h:S.ok):RY S=S:=by
 unfold RY
 rw [List.map_congr_left (g:=id) (fun x hx=>by rw [QU (h.env x hx)]; rfl),List.map_congr_left (g:=id) (l:=S.bx) (fun cs hcs=>(List.map_congr_left fun c hc=>CE (h.bx cs hcs c hc)).trans (List.map_id' cs)),List.map_id,List.map_id]
theorem rH {ρ:Type} {S:TS} (hS:S.ok) {keep:List Nat} {κ:TS→Option ρ} {r:ρ} (h:zF keep S κ=some r): ∃ S1:TS,of S.st S1.st∧S1.ok∧κ S1=some r:=by
 unfold zF at h
 obtain⟨h1,h⟩:=am h
 rw [QV (Gh hS _ _ _)] at h
 exact⟨_,Ju h1,Gh hS _ _ _,h⟩
end Go.Proofs.YtkcgfceffffmoaaGreat.En
namespace Go.Proofs.YtkcgfceffffmoaaGreat.En
open Go
inductive Sh where
 | int (k:IntKind) | bl | str | ro (t:Ty) | own (r:Nat) (t:Ty) | ptr (n j:Nat) | em | dead | pro (t:Ty) | fc (g:Nat)
abbrev Sh.D:Sh→Type
 | .int _=>Int | .bl=>Bool | .str=>ByteArray | .ro t=>List t.D | .pro t=>t.D | _=>Unit
abbrev vg.D:List Sh→Type
 | [] =>Unit
 | s::l=>s.D×vg.D l
inductive zb where
 | cl (s:Sh) | agg (l:List Sh) | st (n:Sn) | fn (f:FuncId) (l:List Sh)
abbrev zb.D:zb→Type
 | .cl s=>s.D | .agg l=>vg.D l | .st n=>n.D | .fn _ l=>vg.D l
abbrev E7.D:List (Nat×zb)→Type
 | [] =>Unit
 | x::l=>x.2.D×E7.D l
abbrev E8.D:List (List Sh)→Type
 | [] =>Unit
 | x::l=>vg.D x×E8.D l
abbrev rg.D:List Ty→Type
 | [] =>Unit
 | t::l=>List t.D×rg.D l
structure ev where
 env:List (Nat×zb)
 bx:List (List Sh)
 gh:List Ty
 fz:Nat
 nt:Nat
abbrev ev.D (L:ev):Type:=E7.D L.env×E8.D L.bx×rg.D L.gh
def RZ (G:List (Option bG)) (r:Nat):Nat:=match ol G r with | some (some tr)=>tr.l.length | _=>0
def Sh.mk (G:List (Option bG)): (s:Sh)→s.D→Cl
 | .int k,n=> .c (.sc (.int k n)) | .bl,v=> .c (.sc (.bool v)) | .str,v=> .c (.sc (.string v)) | .ro t,l=> .c (.ls t l)
 | .own r t,_=> .own ⟨r,[]⟩ t.width 0 (RZ G r) true | .ptr n j,_=> .ptrB n j | .em,_=> .em | .dead,_=> .dead | .pro t,x=> .pro (t.flat x) | .fc g,_=> .c (.sc (.func (.func g) #[] #[]))
def vg.mk (G:List (Option bG)): (l:List Sh)→vg.D l→List Cl
 | [],_=> []
 | s::l,x=>s.mk G x.1::vg.mk G l x.2
def zb.mk (G:List (Option bG)): (v:zb)→v.D→V
 | .cl s,x=> .v (.cl (s.mk G x)) | .agg l,x=> .v (.agg (vg.mk G l x)) | .st n,x=> .v (.agg ((n.flat x).map .c)) | .fn f l,x=> .v (.fn f (vg.mk G l x))
def E7.mk (G:List (Option bG)): (l:List (Nat×zb))→E7.D l→List (Nat×V)
 | [],_=> []
 | x::l,d=>(x.1,x.2.mk G d.1)::E7.mk G l d.2
def E8.mk (G:List (Option bG)): (l:List (List Sh))→E8.D l→List (List Cl)
 | [],_=> []
 | x::l,d=>vg.mk G x d.1::E8.mk G l d.2
def rg.mk: (l:List Ty)→rg.D l→List (Option bG)
 | [],_=> []
 | t::l,d=>some ⟨t,d.1,none⟩::rg.mk l d.2
def ev.mk' (L:ev) (d:L.D):TS:= { env:=E7.mk (rg.mk L.gh d.2.2) L.env d.1,bx:=E8.mk (rg.mk L.gh d.2.2) L.bx d.2.1,gh:=rg.mk L.gh d.2.2,fz:=L.fz,nt:=L.nt }
section
variable {ρ:Type}
def Sh.un: (s:Sh)→Cl→(s.D→Option ρ)→Option ρ
 | .int k, .c (.sc (.int k' n)),κ=>bif decide (k'=k) then κ n else none
 | .bl, .c (.sc (.bool v)),κ=>κ v
 | .str, .c (.sc (.string v)),κ=>κ v
 | .ro t, .c (.ls t' l),κ=>match t4 t' t l with | some l=>κ l | none=>none
 | .own r t, .own p sz _ _ w,κ=>match p.l with | [] =>(bif w&&Nat.beq p.r r&&Nat.beq sz t.width then κ () else none) | _=>none
 | .ptr n i, .ptrB m j,κ=>bif Nat.beq m n&&Nat.beq j i then κ () else none
 | .em, .em,κ=>κ ()
 | .dead, .dead,κ=>κ ()
 | .pro t, .pro xs,κ=>(match t.unflat xs with | some x=>κ x | none=>none)
 | .fc g, .c (.sc (.func (.func g') cs ts)),κ=>bif Nat.beq g' g&&Nat.beq cs.size 0&&Nat.beq ts.size 0 then κ () else none
 | _,_,_=>none
def vg.un: (l:List Sh)→List Cl→(vg.D l→Option ρ)→Option ρ
 | [],[],κ=>κ ()
 | s::l,c::cs,κ=>s.un c fun x=>vg.un l cs fun y=>κ (x,y)
 | _,_,_=>none
def zb.un: (v:zb)→V→(v.D→Option ρ)→Option ρ
 | .cl s, .v (.cl c),κ=>s.un c κ
 | .agg l, .v (.agg cs),κ=>vg.un l cs κ
 | .st n, .v (.agg cs),κ=>match G7 cs with | some xs=>(match n.unflat xs with | some x=>κ x | none=>none) | none=>none
 | .fn f l, .v (.fn g cs),κ=>bif Nat.beq f g then vg.un l cs κ else none
 | _,_,_=>none
def E7.un: (l:List (Nat×zb))→List (Nat×V)→(E7.D l→Option ρ)→Option ρ
 | [],[],κ=>κ ()
 | x::l,y::m,κ=>bif Nat.beq x.1 y.1 then x.2.un y.2 fun a=>E7.un l m fun b=>κ (a,b) else none
 | _,_,_=>none
def E8.un: (l:List (List Sh))→List (List Cl)→(E8.D l→Option ρ)→Option ρ
 | [],[],κ=>κ ()
 | x::l,y::m,κ=>vg.un x y fun a=>E8.un l m fun b=>κ (a,b)
 | _,_,_=>none
def rg.un: (l:List Ty)→List (Option bG)→(rg.D l→Option ρ)→Option ρ
 | [],[],κ=>κ ()
 | t::l,some tr::m,κ=>match tr.hole with
   | none=>(match t4 tr.t t tr.l with | some a=>rg.un l m fun b=>κ (a,b) | none=>none)
   | some _=>none
 | _,_,_=>none
def ev.un (L:ev) (S:TS) (κ:L.D→Option ρ):Option ρ:=rg.un L.gh S.gh fun g=>E7.un L.env S.env fun e=>E8.un L.bx S.bx fun b=>bif Nat.beq S.fz L.fz&&Nat.beq S.nt L.nt then κ (e,b,g) else none
theorem Sh.un_some {G:List (Option bG)} (hG: ∀ r,r < G.length→ ∃ tr,ol G r=some (some tr)): ∀ {s:Sh} {c:Cl} {κ:s.D→Option ρ} {r:ρ},c.ok G→s.un c κ=some r→ ∃ x,c=s.mk G x∧κ x=some r:=by
 intro s c κ r hc h
 cases s with
 | int k=>
   cases c with
   | c y=>cases y with
     | sc v=>cases v with
       | int k' n=>
         simp only [Sh.un] at h
         obtain⟨h1,h⟩:=am h
         have:=of_decide_eq_true h1
         subst this
         exact⟨n,rfl,h⟩
       | _=>simp [Sh.un] at h
     | ls t l=>simp [Sh.un] at h
   | _=>simp [Sh.un] at h
 | bl=>
   cases c with
   | c y=>cases y with
     | sc v=>cases v with
       | bool v=>exact⟨v,rfl,h⟩
       | _=>simp [Sh.un] at h
     | ls t l=>simp [Sh.un] at h
   | _=>simp [Sh.un] at h
 | str=>
   cases c with
   | c y=>cases y with
     | sc v=>cases v with
       | string v=>exact⟨v,rfl,h⟩
       | _=>simp [Sh.un] at h
     | ls t l=>simp [Sh.un] at h
   | _=>simp [Sh.un] at h
 | ro t=>
   cases c with
   | c y=>cases y with
     | sc v=>simp [Sh.un] at h
     | ls t' l=>
       simp only [Sh.un] at h
       split at h
       ·rename_i l' hl
        obtain⟨e,hl⟩:=eW hl
        subst e
        simp only at hl
        subst hl
        exact⟨l,rfl,h⟩
       ·cases h
   | _=>simp [Sh.un] at h
 | own q t=>
   cases c with
   | own p sz lo len w=>
     obtain⟨pr,pl⟩:=p
     cases pl with
     | cons a l=>simp [Sh.un] at h
     | nil=>
       simp only [Sh.un] at h
       obtain⟨h1,h'⟩:=am h
       clear h
       simp only [Bool.and_eq_true] at h1
       obtain⟨⟨h0,h2⟩,h3⟩:=h1
       have h2:pr=q:=Nat.eq_of_beq_eq_true h2
       have h3:sz=t.width:=Nat.eq_of_beq_eq_true h3
       subst h0 h2 h3
       obtain⟨k1,k2⟩:=hc
       obtain⟨_,k3,k4⟩:=k2 rfl
       obtain⟨tr,htr⟩:=hG _ k1
       have k5:=k4 tr (bG.look htr)
       refine⟨(),?_,h'⟩
       simp only [Sh.mk,RZ,k3,k5,htr]
   | c y=>cases y <;> simp [Sh.un] at h
   | _=>simp [Sh.un] at h
 | ptr n i=>
   cases c with
   | ptrB m j=>
     simp only [Sh.un] at h
     obtain⟨h1,h'⟩:=am h
     clear h
     simp only [Bool.and_eq_true] at h1
     have h2:=Nat.eq_of_beq_eq_true h1.1
     have h3:=Nat.eq_of_beq_eq_true h1.2
     subst h2 h3
     exact⟨(),rfl,h'⟩
   | c y=>cases y <;> simp [Sh.un] at h
   | _=>simp [Sh.un] at h
 | em=>
   cases c with
   | em=>exact⟨(),rfl,h⟩
   | c y=>cases y <;> simp [Sh.un] at h
   | _=>simp [Sh.un] at h
 | dead=>
   cases c with
   | dead=>exact⟨(),rfl,h⟩
   | c y=>cases y <;> simp [Sh.un] at h
   | _=>simp [Sh.un] at h
 | pro t=>
   cases c with
   | pro xs=>
     simp only [Sh.un] at h
     split at h
     ·rename_i x hx
      exact⟨x,by simp only [Sh.mk]; rw [t.unflat_some _ _ hx],h⟩
     ·cases h
   | c y=>cases y <;> simp [Sh.un] at h
   | _=>simp [Sh.un] at h
 | fc g=>
   unfold Sh.un at h
   split at h
   all_goals first | (rename_i hh; cases hh; done) | skip
   all_goals try (rename_i hh _; cases hh; done)
   ·rename_i e
    cases e
    obtain⟨h1,h'⟩:=am h
    simp only [Bool.and_eq_true] at h1
    obtain⟨⟨h1,h2⟩,h3⟩:=h1
    have h1:=Nat.eq_of_beq_eq_true h1
    have h2:=Array.eq_empty_of_size_eq_zero (Nat.eq_of_beq_eq_true h2)
    have h3:=Array.eq_empty_of_size_eq_zero (Nat.eq_of_beq_eq_true h3)
    exact⟨(),by rw [h1,h2,h3]; rfl,h'⟩
   ·cases h
theorem vg.un_some {G:List (Option bG)} (hG: ∀ r,r < G.length→ ∃ tr,ol G r=some (some tr)): ∀ {l:List Sh} {cs:List Cl} {κ:vg.D l→Option ρ} {r:ρ},(∀ c∈cs,c.ok G)→vg.un l cs κ=some r→ ∃ x,cs=vg.mk G l x∧κ x=some r
 | [],[],κ,r,_,h=>⟨(),rfl,h⟩
 | s::l,c::cs,κ,r,hc,h=>by
   unfold vg.un at h
   obtain⟨x,h1,h⟩:=Sh.un_some hG (hc c List.mem_cons_self) h
   obtain⟨y,h2,h⟩:=vg.un_some hG (fun z hz=>hc z (List.mem_cons_of_mem _ hz)) h
   exact⟨(x,y),by rw [h1,h2]; rfl,h⟩
 | [],c::cs,κ,r,_,h=>by simp [vg.un] at h
 | s::l,[],κ,r,_,h=>by simp [vg.un] at h
theorem zH: ∀ {cs:List Cl} {xs:List C},G7 cs=some xs→cs=xs.map .c
 | [],xs,h=>by simp only [G7,Option.some.injEq] at h; subst h; rfl
 | c::cs,xs,h=>by
   cases c with
   | c y=>
     simp only [G7] at h
     split at h
     ·rename_i r hr
      simp only [Option.some.injEq] at h
      subst h
      rw [zH hr]
      rfl
     ·cases h
   | _=>simp [G7] at h
theorem zb.un_some {G:List (Option bG)} (hG: ∀ r,r < G.length→ ∃ tr,ol G r=some (some tr)) {s:zb} {v:V} {κ:s.D→Option ρ} {r:ρ} (hv:v.ok G) (h:s.un v κ=some r): ∃ x,v=s.mk G x∧κ x=some r:=by
 cases v with
 | tup l=>cases s <;> simp [zb.un] at h
 | v y=>
   cases s with
   | cl s=>cases y with
     | cl c=>
       obtain⟨x,h1,h⟩:=Sh.un_some hG hv h
       exact⟨x,by rw [h1]; rfl,h⟩
     | _=>simp [zb.un] at h
   | agg l=>cases y with
     | agg cs=>
       obtain⟨x,h1,h⟩:=vg.un_some hG hv h
       exact⟨x,by rw [h1]; rfl,h⟩
     | _=>simp [zb.un] at h
   | st n=>cases y with
     | agg cs=>
       simp only [zb.un] at h
       split at h
       ·rename_i xs hxs
        split at h
        ·rename_i x hx
         exact⟨x,by rw [zH hxs]; simp only [zb.mk]; rw [n.unflat_some _ _ hx],h⟩
        ·cases h
       ·cases h
     | _=>simp [zb.un] at h
   | fn f l=>cases y with
     | fn g cs=>
       simp only [zb.un] at h
       obtain⟨h0,h'⟩:=am h
       clear h
       have h0:=Nat.eq_of_beq_eq_true h0
       subst h0
       obtain⟨x,h1,h⟩:=vg.un_some hG hv h'
       exact⟨x,by rw [h1]; rfl,h⟩
     | _=>simp [zb.un] at h
theorem E7.un_some {G:List (Option bG)} (hG: ∀ r,r < G.length→ ∃ tr,ol G r=some (some tr)): ∀ {l:List (Nat×zb)} {m:List (Nat×V)} {κ:E7.D l→Option ρ} {r:ρ},(∀ x∈m,x.2.ok G)→E7.un l m κ=some r→ ∃ x,m=E7.mk G l x∧κ x=some r
 | [],[],κ,r,_,h=>⟨(),rfl,h⟩
 | s::l,c::cs,κ,r,hc,h=>by
   unfold E7.un at h
   obtain⟨h0,h⟩:=am h
   have h0:=Nat.eq_of_beq_eq_true h0
   obtain⟨x,h1,h⟩:=zb.un_some hG (hc c List.mem_cons_self) h
   obtain⟨y,h2,h⟩:=E7.un_some hG (fun z hz=>hc z (List.mem_cons_of_mem _ hz)) h
   refine⟨(x,y),?_,h⟩
   rw [h2]
   obtain⟨c1,c2⟩:=c
   simp only at h0 h1
   rw [h1,←h0]
   rfl
 | [],c::cs,κ,r,_,h=>by simp [E7.un] at h
 | s::l,[],κ,r,_,h=>by simp [E7.un] at h
theorem E8.un_some {G:List (Option bG)} (hG: ∀ r,r < G.length→ ∃ tr,ol G r=some (some tr)): ∀ {l:List (List Sh)} {m:List (List Cl)} {κ:E8.D l→Option ρ} {r:ρ},(∀ cs∈m,∀ c∈cs,c.ok G)→E8.un l m κ=some r→ ∃ x,m=E8.mk G l x∧κ x=some r
 | [],[],κ,r,_,h=>⟨(),rfl,h⟩
 | s::l,c::cs,κ,r,hc,h=>by
   unfold E8.un at h
   obtain⟨x,h1,h⟩:=vg.un_some hG (hc c List.mem_cons_self) h
   obtain⟨y,h2,h⟩:=E8.un_some hG (fun z hz=>hc z (List.mem_cons_of_mem _ hz)) h
   exact⟨(x,y),by rw [h1,h2]; rfl,h⟩
 | [],c::cs,κ,r,_,h=>by simp [E8.un] at h
 | s::l,[],κ,r,_,h=>by simp [E8.un] at h
theorem rg.un_some: ∀ {l:List Ty} {m:List (Option bG)} {κ:rg.D l→Option ρ} {r:ρ},rg.un l m κ=some r→ ∃ x,m=rg.mk l x∧κ x=some r
 | [],[],κ,r,h=>⟨(),rfl,h⟩
 | t::l,some tr::m,κ,r,h=>by
   unfold rg.un at h
   split at h
   ·rename_i hh
    split at h
    ·rename_i a ha
     obtain⟨e,hl⟩:=eW ha
     obtain⟨y,h2,h⟩:=rg.un_some h
     obtain⟨t',l',hole⟩:=tr
     simp only at hh e hl ha
     subst hh e
     simp only at hl
     subst hl
     exact⟨(l',y),by rw [h2]; rfl,h⟩
    ·cases h
   ·cases h
 | [],c::cs,κ,r,h=>by simp [rg.un] at h
 | t::l,[],κ,r,h=>by simp [rg.un] at h
 | t::l,none::m,κ,r,h=>by simp [rg.un] at h
theorem rg.mk_some: ∀ (l:List Ty) (d:rg.D l) (r:Nat),r < (rg.mk l d).length→ ∃ tr,ol (rg.mk l d) r=some (some tr)
 | [],d,r,h=>by simp [rg.mk] at h
 | t::l,d,0,h=>⟨_,rfl⟩
 | t::l,d,r+1,h=>by
   obtain⟨tr,htr⟩:=rg.mk_some l d.2 r (by simpa [rg.mk] using h)
   exact⟨tr,htr⟩
theorem ev.un_some {L:ev} {S:TS} (hS:S.ok) {κ:L.D→Option ρ} {r:ρ} (h:L.un S κ=some r): ∃ d,S=L.mk' d∧κ d=some r:=by
 unfold ev.un at h
 obtain⟨g,h1,h⟩:=rg.un_some h
 have hG: ∀ r,r < S.gh.length→ ∃ tr,ol S.gh r=some (some tr):=by rw [h1]; exact rg.mk_some _ _
 obtain⟨e,h2,h⟩:=E7.un_some hG hS.env h
 obtain⟨b,h3,h⟩:=E8.un_some hG hS.bx h
 obtain⟨h4,h⟩:=am h
 simp only [Bool.and_eq_true] at h4
 have h5:=Nat.eq_of_beq_eq_true h4.1
 have h6:=Nat.eq_of_beq_eq_true h4.2
 refine⟨(e,b,g),?_,h⟩
 obtain⟨env,bx,gh,fz,nt⟩:=S
 simp only at h1 h2 h3 h5 h6
 subst h5 h6
 unfold ev.mk'
 simp only
 rw [←h1,←h2,←h3]
end
end Go.Proofs.YtkcgfceffffmoaaGreat.En
namespace Go.Proofs.YtkcgfceffffmoaaGreat.En
open Go
def Mu (S:TS) (t:Ty):Cl:= .own ⟨S.gh.length,[]⟩ t.width 0 0 true
def Mv (n j:Nat) (t:Ty) (S:TS):TS:=match ol S.bx n with
 | some cs=>(match ol cs j with
   | some .em=> { S with bx:=cS S.bx n (cS cs j (Mu S t)),gh:=S.gh++ [some ⟨t,[],none⟩] }
   | _=>S)
 | none=>S
def Mw (x:Nat) (t:Ty) (S:TS):TS:=match gC S.env x with
 | .v (.cl .em)=> { S with env:=(x, .v (.cl (Mu S t)))::S.env,gh:=S.gh++ [some ⟨t,[],none⟩] }
 | _=>S
theorem Rs: ∀ (l:List (Nat×Nat)),T.go .dd l= .dd
 | [] =>rfl
 | (_,_)::l=>Rs l
theorem R0 (w:Nat) {l:List (Nat×Nat)} {s:Nat} {rs:List (List T)} (h:T.go (.sl w []) l= .sl s rs):rs= [] :=by
 cases l with
 | nil=>cases h; rfl
 | cons a l=>
   obtain⟨i,j⟩:=a
   simp only [T.go,T.cell,List.getD_nil,Rs] at h
   cases h
theorem Gi {S S':TS} (t:Ty) (henv: ∀ u,(gC S'.env u).av=(gC S.env u).av∨((gC S.env u).av= .em∧(gC S'.env u).av= .own ⟨S.gh.length,[]⟩ t.width 0 0))
  (hbx: ∀ k cs',S'.st.bx k=some cs'→ ∃ cs,S.st.bx k=some cs∧cs'.length=cs.length∧ ∀ (j:Nat) (v:AV),cs'[j]? =some v→cs[j]? =some v∨(cs[j]? =some .em∧v= .own ⟨S.gh.length,[]⟩ t.width 0 0))
  (hgh:S'.gh=S.gh++ [some ⟨t,[],none⟩]) (hfz:S'.fz=S.fz) (hnt:S'.nt=S.nt) (hbl:S'.bx.length=S.bx.length):of S.st S'.st:=by
 intro w0 W btI SI bt a w hl0
 have hl:=hl0.widen (N:=S.gh.length+1) (Nat.le_succ _)
 have inv:=hl.inv
 have hng:S'.st.ng=S.gh.length+1:=by show S'.gh.length=_; rw [hgh]; simp
 have ghS: ∀ r,S'.st.gh r=if r=S.gh.length then some (.sl t.width []) else S.st.gh r:=by
  intro r
  show (cK S'.gh r).map bG.tree=_
  rw [hgh,lW]
  split <;> rfl
 have κ0: ∀ l,(bt.widen S.st.ng (S.gh.length+1)).κ ⟨S.gh.length,l⟩=0:=by
  intro l
  show (if S.gh.length < S.gh.length then _ else 0)=0
  rw [if_neg (Nat.lt_irrefl _)]
 have look: ∀ p s rs,S'.st.look p= .sl s rs→(p.r=S.gh.length∧rs= [] ∧(bt.widen S.st.ng (S.gh.length+1)).κ p=0)∨(p.r≠S.gh.length∧S.st.look p= .sl s rs):=by
  intro p s rs hp
  unfold St.look at hp
  rw [ghS] at hp
  by_cases hr:p.r=S.gh.length
  ·rw [if_pos hr] at hp
   left
   refine⟨hr,R0 _ hp,?_⟩
   obtain⟨pr,pl⟩:=p
   simp only at hr
   subst hr
   exact κ0 pl
  ·rw [if_neg hr] at hp
   exact .inr ⟨hr,hp⟩
 have own0: ∀ {u:Value},VR w (bt.widen S.st.ng (S.gh.length+1)) .em u→VR w (bt.widen S.st.ng (S.gh.length+1)) (.own ⟨S.gh.length,[]⟩ t.width 0 0) u:=by
  intro u hu
  cases hu with
  | em ad=>exact .own (Nat.lt_succ_self _) (Nat.le_refl _) (Nat.zero_le _) (fun h=>absurd h (Nat.lt_irrefl _))
 refine⟨bt.widen S.st.ng (S.gh.length+1),?_⟩
 refine⟨{ os:=inv.os,tape:=inv.tape,output:=inv.output,size:=inv.size,keep:=inv.keep
          nb:=by show _=S'.bx.length; rw [hbl]; exact inv.nb
          ng:=by rw [hng]; exact inv.ng
          bx:=fun n cells hn=> ?_
          gh:=fun r x hr=> ?_
          tr:=fun p sz rows hp=> ?_
          inj:=fun p q s rs s' rs' hp hq hk hk' he=> ?_
          bbinj:=fun n m cs cs' hn hm he=> ?_
          bbtr:=fun n cs p s rs hn hp hk=> ?_
          alt:=inv.alt
          atr:=fun p s rs hp hk=> ?_
          abb:=fun n cs hn=> ?_ },⟨?_,fun u=> ?_⟩,hl.defers,?_,?_,hl.keep,fun r hr hn=> ?_⟩
 ·obtain⟨cs,h1,h2,h3⟩:=hbx n cells hn
  obtain⟨g1,g2,arr,e,g3,g4,g5⟩:=inv.bx n cs h1
  refine⟨by show n < S'.bx.length; rw [hbl]; exact g1,g2,arr,e,g3,by rw [h2]; exact g4,fun j v hj=> ?_⟩
  rcases h3 j v hj with h4 | ⟨h4,rfl⟩
  ·exact g5 j v h4
  ·obtain⟨c,k1,k2,k3⟩:=g5 j .em h4
   exact⟨c,k1,own0 k2,k3⟩
 ·rw [hng]
  rw [ghS] at hr
  split at hr
  ·omega
  ·have:=inv.gh r x hr
   exact this
 ·rcases look p sz rows hp with ⟨h1,rfl,h3⟩ | ⟨h1,h2⟩
  ·exact⟨Nat.zero_le _,fun hk=>by omega⟩
  ·exact inv.tr p sz rows h2
 ·rcases look p s rs hp with ⟨h1,_,h3⟩ | ⟨h1,h2⟩
  ·omega
  ·rcases look q s' rs' hq with ⟨g1,_,g3⟩ | ⟨g1,g2⟩
   ·omega
   ·exact inv.inj _ _ _ _ _ _ h2 g2 hk hk' he
 ·obtain⟨c,h1,_,_⟩:=hbx n cs hn
  obtain⟨c',g1,_,_⟩:=hbx m cs' hm
  exact inv.bbinj _ _ _ _ h1 g1 he
 ·obtain⟨c,h1,_,_⟩:=hbx n cs hn
  rcases look p s rs hp with ⟨_,_,h3⟩ | ⟨_,h2⟩
  ·omega
  ·exact inv.bbtr _ _ _ _ _ h1 h2 hk
 ·rcases look p s rs hp with ⟨_,_,h3⟩ | ⟨_,h2⟩
  ·omega
  ·exact inv.atr _ _ _ h2 hk
 ·obtain⟨c,h1,_,_⟩:=hbx n cs hn
  exact inv.abb _ _ h1
 ·have:=hl.er.1
  show _=S'.nt
  rw [hnt]
  exact this
 ·have h1:=hl.er.2 u
  show VR w _ (gC S'.env u).av _
  rcases henv u with h2 | ⟨h2,h3⟩
  ·rw [h2]; exact h1
  ·rw [h3]
   have h1':VR w (bt.widen S.st.ng (S.gh.length+1)) (gC S.env u).av (a.tmps.getD u undef):=h1
   rw [h2] at h1'
   exact own0 h1'
 ·show S'.fz=_
  rw [hfz]
  exact hl.fz
 ·show S'.fz≤S'.gh.length
  have:=hl.fzng
  have e:S.fz≤S.gh.length+1:=this
  have e2:S.st.fz≤S.st.ng:=hl0.fzng
  have e3:S.fz≤S.gh.length:=e2
  rw [hfz,hgh]
  simp
  omega
 ·refine hl.gone r hr ?_
  rw [ghS] at hn
  split at hn
  ·cases hn
  ·exact hn
theorem Jw (S:TS) (t:Ty): (Mu S t).ok (S.gh++ [some ⟨t,[],none⟩]):=by
 refine⟨by simp,fun _=>⟨rfl,rfl,fun tr htr=> ?_⟩⟩
 rw [lW,if_pos rfl] at htr
 cases htr
 rfl
theorem Ph {S:TS} (hS:S.ok) (x:Nat) (t:Ty):of S.st (Mw x t S).st∧(Mw x t S).ok:=by
 unfold Mw
 split
 ·rename_i hx
  refine⟨Gi t (fun u=> ?_) (fun k cs' h=>⟨cs',h,rfl,fun j v hv=> .inl hv⟩) rfl rfl rfl rfl,⟨fun y hy=> ?_,fun cs hcs c hc=>Cl.ok_mono (gr.app _ _) (hS.bx cs hcs c hc)⟩⟩
  ·simp only [gC]
   cases hb:Nat.beq x u with
   | true=>
     have :x=u:=Nat.eq_of_beq_eq_true hb
     subst this
     right
     rw [hx]
     exact⟨rfl,rfl⟩
   | false=>exact .inl rfl
  ·rcases List.mem_cons.1 hy with rfl | hy
   ·exact Jw S t
   ·exact V.ok_mono (gr.app _ _) (hS.env y hy)
 ·exact⟨of.refl,hS⟩
theorem Pi {S:TS} (hS:S.ok) (n j:Nat) (t:Ty):of S.st (Mv n j t S).st∧(Mv n j t S).ok:=by
 unfold Mv
 split
 ·rename_i cs hcs
  split
  ·rename_i hj
   rw [df] at hcs hj
   have hn:=(List.getElem?_eq_some_iff.1 hcs).1
   refine⟨Gi t (fun u=> .inl rfl) (fun k cs' h=> ?_) rfl rfl rfl (by simp [eV]),⟨fun y hy=>V.ok_mono (gr.app _ _) (hS.env y hy),fun cs' hcs' c hc=> ?_⟩⟩
   ·have h': (ol (cS S.bx n (cS cs j (Mu S t))) k).map (fun cs=>cs.map Cl.av)=some cs':=h
    rw [df,eV,eV,List.getElem?_set] at h'
    by_cases hk:n=k
    ·subst hk
     rw [if_pos rfl,if_pos hn] at h'
     simp only [Option.map_some,Option.some.injEq] at h'
     subst h'
     refine⟨cs.map Cl.av,by show (ol S.bx n).map _=_; rw [df,hcs]; rfl,by simp,fun i v hv=> ?_⟩
     rw [List.getElem?_map,List.getElem?_set] at hv
     by_cases hi:j=i
     ·subst hi
      rw [if_pos rfl,if_pos (List.getElem?_eq_some_iff.1 hj).1] at hv
      right
      rw [List.getElem?_map,hj]
      simp only [Option.map_some,Option.some.injEq] at hv
      exact⟨rfl,hv.symm⟩
     ·rw [if_neg hi] at hv
      left
      rw [List.getElem?_map]
      exact hv
    ·rw [if_neg hk] at h'
     exact⟨cs',by show (ol S.bx k).map _=_; rw [df]; exact h',rfl,fun i v hv=> .inl hv⟩
   ·simp only [eV] at hcs'
    rcases List.mem_or_eq_of_mem_set hcs' with h1 | h1
    ·exact Cl.ok_mono (gr.app _ _) (hS.bx _ h1 c hc)
    ·subst h1
     rcases List.mem_or_eq_of_mem_set hc with h2 | h2
     ·exact Cl.ok_mono (gr.app _ _) (hS.bx _ (List.mem_of_getElem? hcs) c h2)
     ·subst h2
      exact Jw S t
  ·exact⟨of.refl,hS⟩
 ·exact⟨of.refl,hS⟩
theorem al {α β:Type} (b:Bool) (x y:Option α) (f:α→Option β): (br b x y).bind f=br b (x.bind f) (y.bind f):=by cases b <;> rfl
theorem ap {α β:Type} (c:Prop) [Decidable c] (x y:Option α) (f:α→Option β): (aq c x y).bind f=aq c (x.bind f) (y.bind f):=by unfold aq; split <;> rfl
inductive Np where
 | t (x:Nat) (t:Ty)
 | b (n j:Nat) (t:Ty)
def vh:List Np→TS→TS
 | [],S=>S
 | .t x t::l,S=>vh l (Mw x t S)
 | .b n j t::l,S=>vh l (Mv n j t S)
theorem wE: ∀ (l:List Np) {S:TS},S.ok→of S.st (vh l S).st∧(vh l S).ok
 | [],S,hS=>⟨of.refl,hS⟩
 | .t x t::l,S,hS=>by
   obtain⟨h1,h2⟩:=Ph hS x t
   obtain⟨h3,h4⟩:=wE l h2
   exact⟨h1.trans h3,h4⟩
 | .b n j t::l,S,hS=>by
   obtain⟨h1,h2⟩:=Pi hS n j t
   obtain⟨h3,h4⟩:=wE l h2
   exact⟨h1.trans h3,h4⟩
section
variable {P:Program} {Θ:ot} {Y:xH} {Λ:om}
def dp {ρ:Type} (keepN keepX:List Nat) (κ:X→TS→Option ρ) (x:X) (S:TS):Option ρ:=match x with
 | .nor=>zF keepN S (κ .nor)
 | x=>zF keepX S (κ x)
def Pj {σ ε:Type} (G:σ→Option ε) (μ:σ→Nat) (s:σ) (e:ε):Option (σ⊕ε)→Prop
 | some (.inl s')=>μ s' < μ s∧G s'=some e
 | some (.inr e')=>e'=e
 | none=>False
theorem QW (hΘ:dG P Θ) (hY:az P Y) (hm:P.follows .mixedOrders=true) {c:Code} (hc:kH P c=true) (hL:fr P Λ (ek c)) {σ ε:Type} {H:σ→TS} {E:ε→X×TS} {B:σ→Option (σ⊕ε)} {keepN keepX:List Nat}
  (hH: ∀ s,(H s).ok) (hstep: ∀ s,eP Θ Y Λ c (H s) (dp keepN keepX fun x S=>some (x,S))=(B s).bind (Sum.elim (fun s'=>some (.nor,H s')) fun e=>some (E e)))
  (hE: ∀ e,(E e).1≠ .nor) {G:σ→Option ε} {μ:σ→Nat} (hG: ∀ s e,G s=some e→Pj G μ s e (B s))
  {s:σ} {e:ε} (hs:G s=some e):pJ P (.loop c) (H s).st (fun x S'=>x=(E e).1∧S'=(E e).2.st):=by
 refine pJ.loop (fun n X=> ∃ s,X=(H s).st∧G s=some e∧μ s=n) (fun n X hX=> ?_) (n:=μ s) ⟨s,rfl,hs,rfl⟩
 obtain⟨s,rfl,hs,rfl⟩:=hX
 have hg:=hG s e hs
 have hst:=hstep s
 cases hB:B s with
 | none=>rw [hB] at hg; exact hg.elim
 | some l=>
   rw [hB] at hg hst
   cases l with
   | inl s'=>
     simp only [Option.bind_some,Sum.elim_inl] at hst
     refine (xO hΘ hY hm c _ _ _ hc hL (hH s) hst).mono (fun x S' hx=> ?_)
     obtain⟨S1,rfl,h1,h2⟩:=hx
     have b8: ∃ S2:TS,of S1.st S2.st∧x= .nor∧S2=H s':=by
      unfold dp at h2
      split at h2
      ·obtain⟨S2,k1,_,k2⟩:=rH h1 h2
       simp only [Option.some.injEq,Prod.mk.injEq] at k2
       exact⟨S2,k1,rfl,k2.2⟩
      ·obtain⟨S2,k1,_,k2⟩:=rH h1 h2
       simp only [Option.some.injEq,Prod.mk.injEq] at k2
       exact⟨S2,k1,k2.1,k2.2⟩
     obtain⟨S2,k1,rfl,rfl⟩:=b8
     exact⟨_,k1,μ s',hg.1,s',rfl,hg.2,rfl⟩
   | inr e'=>
     simp only [Option.bind_some,Sum.elim_inr] at hst
     have hg:e'=e:=hg
     subst hg
     refine (xO hΘ hY hm c _ _ _ hc hL (hH s) hst).mono (fun x S' hx=> ?_)
     obtain⟨S1,rfl,h1,h2⟩:=hx
     have b8: ∃ S2:TS,of S1.st S2.st∧(x,S2)=E e':=by
      unfold dp at h2
      split at h2
      ·obtain⟨S2,k1,_,k2⟩:=rH h1 h2
       exact⟨S2,k1,Option.some.inj k2⟩
      ·obtain⟨S2,k1,_,k2⟩:=rH h1 h2
       exact⟨S2,k1,Option.some.inj k2⟩
     obtain⟨S2,k1,k2⟩:=b8
     refine⟨S2.st,k1,?_⟩
     have hx:x=(E e').1:=congrArg Prod.fst k2
     have hS2:S2=(E e').2:=congrArg Prod.snd k2
     have hne:=hE e'
     rw [←hx] at hne
     cases x with
     | nor=>exact absurd rfl hne
     | ret=>exact⟨hx,by rw [hS2]⟩
     | ext i=>exact⟨hx,by rw [hS2]⟩
def Pk (grow:List Np) (keep:List Nat) (L:ev) {ε:Type} (E:ε→X×TS) (G:L.D→Option ε):TS→(ρ:Type)→(X→TS→Option ρ)→Option ρ:=
 fun S _ κ=>zF keep (vh grow S) fun S1=>L.un S1 fun s=>(G s).bind fun e=>κ (E e).1 (E e).2
theorem Pm {c:Code} {grow:List Np} {keep:List Nat} {L:ev} {ε:Type} {E:ε→X×TS} {G:L.D→Option ε} (hE: ∀ e,(E e).2.ok)
  (h: ∀ s e,G s=some e→pJ P (.loop c) (L.mk' s).st (fun x S'=>x=(E e).1∧S'=(E e).2.st)) {S:TS} {ρ:Type} {κ:X→TS→Option ρ} {r:ρ} (hS:S.ok) (hk:Pk grow keep L E G S ρ κ=some r):
  pJ P (.loop c) S.st (fun x S'=> ∃ S1:TS,S'=S1.st∧S1.ok∧κ x S1=some r):=by
 unfold Pk at hk
 obtain⟨h1,h2⟩:=wE grow hS
 obtain⟨S1,h3,h4,hk⟩:=rH h2 hk
 obtain⟨s,rfl,hk2⟩:=ev.un_some h4 hk
 obtain⟨e,h5,hk3⟩:=Option.bind_eq_some_iff.1 hk2
 refine pJ.weak (h1.trans h3) ((h s e h5).mono (fun x S' hx=> ?_))
 obtain⟨rfl,rfl⟩:=hx
 exact⟨_,of.refl,_,rfl,hE e,hk3⟩
end
end Go.Proofs.YtkcgfceffffmoaaGreat.En
namespace Go.Proofs.YtkcgfceffffmoaaGreat.En
open Go
abbrev qx.D:List Ty→Type
 | [] =>Unit
 | t::l=>t.D×qx.D l
def aH: (l:List Ty)→qx.D l→List ((t:Ty)×t.D)
 | [],_=> []
 | t::l,x=>⟨t,x.1⟩::aH l x.2
def aF (P:Program) (f:FuncId) (e:bA):Prop:= ∀ args ρ κ r,e args ρ κ=some r→ ∃ res out,AO P f args res out∧res.ok (out.map some)∧κ res out=some r
theorem aj (P:Program):az P (aP []):=fun _ _ _ _ _ h=>by cases h
theorem ae {P:Program} {f:FuncId} {e:bA} {l:List (Nat×bA)} (h:aF P f e) (hl:az P (aP l)):az P (aP ((f,e)::l)):=by
 intro g args ρ κ r hr
 have hr: (bif Nat.beq f g then e args ρ κ else RS l g args ρ κ)=some r:=hr
 cases hb:Nat.beq f g with
 | true=>
   rw [hb] at hr
   have:=Nat.eq_of_beq_eq_true hb
   subst this
   exact h args ρ κ r hr
 | false=>
   rw [hb] at hr
   exact hl g args ρ κ r hr
theorem un_some {ρ:Type} {t:Ty} {a:V1} {κ:t.D→Option ρ} {r:ρ} (h:un t a κ=some r): ∃ x,a=Md t x∧κ x=some r:=by
 unfold un at h
 split at h
 ·rename_i cs
  obtain⟨h1,h⟩:=am h
  split at h
  ·rename_i xs hxs
   split at h
   ·rename_i x hx
    refine⟨x,?_,h⟩
    unfold Md
    rw [h1,t.unflat_some _ _ hx,zH hxs]
    rfl
   ·cases h
  ·cases h
 ·rename_i y
  cases hag:t.ag with
  | true=>rw [hag] at h; cases h
  | false=>
    rw [hag] at h
    simp only [cond_false] at h
    split at h
    ·rename_i x hx
     refine⟨x,?_,h⟩
     unfold Md
     rw [hag,t.unflat_some _ _ hx]
     rfl
    ·cases h
 ·cases h
theorem R1 (t:Ty) (x:t.D): (Md t x).ok [] :=by
 unfold Md
 cases t.ag with
 | true=>
   intro c hc
   obtain⟨y,_,rfl⟩:=List.mem_map.1 hc
   trivial
 | false=>
   simp only [cond_false]
   split
   ·rename_i c hc
    have :c∈(t.flat x).map Cl.c:=by rw [hc]; exact List.mem_singleton.2 rfl
    obtain⟨y,_,rfl⟩:=List.mem_map.1 this
    trivial
   ·trivial
theorem Hi (zf suf:List bG): ∀ (cs:List C) (mid:List bG),∀ c∈tF cs (zf.length+mid.length),c.ok ((zf++mid++lR cs++suf).map some)
 | [],mid,c,h=>by cases h
 | .sc v::cs,mid,c,h=>by
   rcases List.mem_cons.1 h with rfl | h
   ·trivial
   ·exact Hi zf suf cs mid c h
 | .ls t l::cs,mid,c,h=>by
   rcases List.mem_cons.1 h with rfl | h
   ·refine⟨by simp [lR],fun _=>⟨rfl,rfl,fun tr htr=> ?_⟩⟩
    have :cK ((zf++mid++lR (.ls t l::cs)++suf).map some) (zf.length+mid.length)=some ⟨t,l,none⟩:=by
     unfold cK
     rw [df,List.getElem?_map,List.append_assoc,List.getElem?_append_right (by simp)]
     simp [lR]
    have htr':cK ((zf++mid++lR (.ls t l::cs)++suf).map some) (zf.length+mid.length)=some tr:=htr
    rw [this] at htr'
    cases htr'
    rfl
   ·have:=Hi zf suf cs (mid++ [⟨t,l,none⟩]) c (by rw [List.length_append,←Nat.add_assoc]; exact h)
    simp only [lR]
    simpa using this
theorem QX (t:Ty) (x:t.D) (zf suf:List bG): (Dh t x zf.length).ok ((zf++lR (t.flat x)++suf).map some):=by
 have b8:=Hi zf suf (t.flat x) []
 simp only [List.length_nil,Nat.add_zero,List.append_nil] at b8
 unfold Dh
 cases t.ag with
 | true=>exact b8
 | false=>
   simp only [cond_false]
   split
   ·rename_i c hc
    exact b8 c (by rw [hc]; exact List.mem_singleton.2 rfl)
   ·trivial
theorem xQ: ∀ (l:List ((t:Ty)×t.D)) (zf:List bG),∀ v∈vD zf.length l,v.ok ((zf++vE l).map some)
 | [],zf,v,h=>by cases h
 | ⟨t,x⟩::l,zf,v,h=>by
   rcases List.mem_cons.1 h with rfl | h
   ·have:=QX t x zf (vE l)
    simpa [vE] using this
   ·have:=xQ l (zf++lR (t.flat x)) v (by rw [List.length_append]; exact h)
    simpa [vE] using this
theorem Pn (l:List ((t:Ty)×t.D)): (vo (vD 0 l)).ok ((vE l).map some):=by
 have h:=xQ l []
 simp only [List.length_nil,List.nil_append] at h
 match vD 0 l,h with
 | [],_=>exact fun x hx=>by cases hx
 | [v],h=>exact h v List.mem_cons_self
 | v::u::vs,h=>exact h
end Go.Proofs.YtkcgfceffffmoaaGreat.En
namespace Go.Proofs.YtkcgfceffffmoaaGreat.En
open Go
def Sh.fit (n:Nat):Sh→Bool | .own r _=>Nat.blt r n | _=>true
def zb.fit (n:Nat):zb→Bool | .cl s=>s.fit n | .agg l=>l.all (Sh.fit n) | .st _=>true | .fn _ l=>l.all (Sh.fit n)
def ev.fit (L:ev):Bool:=L.env.all (fun x=>x.2.fit L.gh.length)&&L.bx.all (fun l=>l.all (Sh.fit L.gh.length))
theorem rg.mk_length: ∀ (l:List Ty) (d:rg.D l),(rg.mk l d).length=l.length
 | [],_=>rfl
 | t::l,d=>by simp [rg.mk,rg.mk_length l d.2]
theorem Sh.mk_ok {G:List (Option bG)} {s:Sh} (h:s.fit G.length=true) (x:s.D): (s.mk G x).ok G:=by
 cases s with
 | own r t=>
   refine⟨Nat.le_of_ble_eq_true h,fun _=>⟨rfl,rfl,fun tr htr=> ?_⟩⟩
   unfold cK at htr
   unfold RZ
   have htr': (ol G r).getD none=some tr:=htr
   cases hn:ol G r with
   | none=>rw [hn] at htr'; cases htr'
   | some y=>rw [hn] at htr'; simp only [Option.getD_some] at htr'; subst htr'; rfl
 | _=>trivial
theorem vg.mk_ok {G:List (Option bG)}: ∀ {l:List Sh},l.all (Sh.fit G.length)=true→ ∀ (x:vg.D l),∀ c∈vg.mk G l x,c.ok G
 | [],_,x,c,hc=>by cases hc
 | s::l,h,x,c,hc=>by
   simp only [List.all_cons,Bool.and_eq_true] at h
   rcases List.mem_cons.1 hc with rfl | hc
   ·exact Sh.mk_ok h.1 x.1
   ·exact vg.mk_ok h.2 x.2 c hc
theorem zb.mk_ok {G:List (Option bG)} {v:zb} (h:v.fit G.length=true) (x:v.D): (v.mk G x).ok G:=by
 cases v with
 | cl s=>exact Sh.mk_ok h x
 | agg l=>exact vg.mk_ok h x
 | st n=>
   intro c hc
   obtain⟨y,_,rfl⟩:=List.mem_map.1 hc
   trivial
 | fn f l=>exact vg.mk_ok h x
theorem ev.mk'_ok {L:ev} (h:L.fit=true) (d:L.D): (L.mk' d).ok:=by
 unfold ev.fit at h
 simp only [Bool.and_eq_true] at h
 have hlen: (rg.mk L.gh d.2.2).length=L.gh.length:=rg.mk_length _ _
 rw [←hlen] at h
 have env: ∀ {l:List (Nat×zb)},l.all (fun x=>x.2.fit (rg.mk L.gh d.2.2).length)=true→ ∀ (e:E7.D l),∀ x∈E7.mk (rg.mk L.gh d.2.2) l e,x.2.ok (rg.mk L.gh d.2.2):=by
  intro l
  induction l with
  | nil=>intro _ e x hx; cases hx
  | cons y l ih=>
    intro h e x hx
    simp only [List.all_cons,Bool.and_eq_true] at h
    rcases List.mem_cons.1 hx with rfl | hx
    ·exact zb.mk_ok h.1 e.1
    ·exact ih h.2 e.2 x hx
 have bxs: ∀ {l:List (List Sh)},l.all (fun l=>l.all (Sh.fit (rg.mk L.gh d.2.2).length))=true→ ∀ (e:E8.D l),∀ cs∈E8.mk (rg.mk L.gh d.2.2) l e,∀ c∈cs,c.ok (rg.mk L.gh d.2.2):=by
  intro l
  induction l with
  | nil=>intro _ e x hx; cases hx
  | cons y l ih=>
    intro h e x hx
    simp only [List.all_cons,Bool.and_eq_true] at h
    rcases List.mem_cons.1 hx with rfl | hx
    ·exact vg.mk_ok h.1 e.1
    ·exact ih h.2 e.2 x hx
 exact⟨env h.1 d.1,bxs h.2 d.2.1⟩
abbrev bq.D:List (X×ev)→Type
 | [] =>Empty
 | [x] =>x.2.D
 | x::y::l=>x.2.D⊕bq.D (y::l)
def bq.k {R:Type}: (l:List (X×ev))→bq.D l→(X→TS→R)→R
 | [],e,_=>e.elim
 | [x],d,κ=>κ x.1 (x.2.mk' d)
 | x::y::l,e,κ=>Sum.elim (fun d=>κ x.1 (x.2.mk' d)) (fun e=>bq.k (y::l) e κ) e
def bq.e (l:List (X×ev)) (d:bq.D l):X×TS:=bq.k l d Prod.mk
theorem bq.k_eq {R:Type}: ∀ (l:List (X×ev)) (d:bq.D l) (κ:X→TS→R),bq.k l d κ=κ (bq.e l d).1 (bq.e l d).2
 | [],e,_=>e.elim
 | [_],_,_=>rfl
 | _::_::_, .inl _,_=>rfl
 | _::y::l, .inr e,κ=>bq.k_eq (y::l) e κ
def Tx (x:X×ev):Bool:=(match x.1 with | .nor=>false | _=>true)&&x.2.fit
theorem bq.ok: ∀ (l:List (X×ev)) (d:bq.D l),l.all Tx=true→(bq.e l d).1≠ .nor∧(bq.e l d).2.ok
 | [],e,_=>e.elim
 | [x],d,h=>by
   simp only [List.all_cons,Bool.and_eq_true,Tx] at h
   refine⟨fun e=> ?_,ev.mk'_ok h.1.2 d⟩
   have e:x.1= .nor:=e
   rw [e] at h
   cases h.1.1
 | x::_::_, .inl d,h=>by
   simp only [List.all_cons,Bool.and_eq_true,Tx] at h
   refine⟨fun e=> ?_,ev.mk'_ok h.1.2 d⟩
   have e:x.1= .nor:=e
   rw [e] at h
   cases h.1.1
 | _::y::l, .inr e,h=>bq.ok (y::l) e (by
   simp only [List.all_cons,Bool.and_eq_true] at h ⊢
   exact h.2)
def dB (grow:List Np) (keep:List Nat) (L:ev) (exs:List (X×ev)) (G:L.D→Option (bq.D exs)):TS→(ρ:Type)→(X→TS→Option ρ)→Option ρ:=
 fun S _ κ=>zF keep (vh grow S) fun S1=>L.un S1 fun s=>(G s).bind fun e=>bq.k exs e κ
abbrev dg:=TS→(ρ:Type)→(X→TS→Option ρ)→Option ρ
def aO:List (Nat×dg)→om
 | [],_,_,_,_=>none
 | (q,e)::l,n,S,ρ,κ=>bif Nat.beq q n then e S ρ κ else aO l n S ρ κ
section
variable {P:Program} {Θ:ot} {Y:xH} {Λ:om}
def ck (P:Program) (c:Code) (e:dg):Prop:= ∀ (S:TS) (ρ:Type) (κ:X→TS→Option ρ) (r:ρ),S.ok→e S ρ κ=some r→pJ P (.loop c) S.st (fun x S'=> ∃ S1:TS,S'=S1.st∧S1.ok∧κ x S1=some r)
theorem ah:fr P Λ [] :=fun c hc=>by cases hc
theorem aV {l:List (Nat×dg)} {c:Code} {q:Nat} {e:dg} (hq:b8 c=q) (h:ck P c e) (hl: ∀ (S:TS) (ρ:Type) (κ:X→TS→Option ρ),aO l q S ρ κ=e S ρ κ):fr P (aO l) [c] :=by
 intro c' hc' S ρ κ r hS hr
 rw [List.mem_singleton] at hc'
 subst hc'
 rw [hq,hl] at hr
 exact h S ρ κ r hS hr
theorem Po {l:List (Nat×dg)} {c:Code} {q:Nat} (hq:b8 c=q) (hl: ∀ (S:TS) (ρ:Type) (κ:X→TS→Option ρ),aO l q S ρ κ=none):fr P (aO l) [c] :=by
 intro c' hc' S ρ κ r hS hr
 rw [List.mem_singleton] at hc'
 subst hc'
 rw [hq,hl] at hr
 cases hr
theorem bi (hΘ:dG P Θ) (hY:az P Y) (hm:P.follows .mixedOrders=true) {c:Code} (hc:kH P c=true) (hL:fr P Λ (ek c)) (grow:List Np) (keep keepX:List Nat) (L:ev) (exs:List (X×ev)) (hf: (L.fit&&exs.all Tx)=true)
  (B:L.D→Option (L.D⊕bq.D exs)) (hB: ∀ s,eP Θ Y Λ c (L.mk' s) (dp keep keepX fun x S=>some (x,S))=(B s).bind (Sum.elim (fun s'=>some (.nor,L.mk' s')) fun e=>some (bq.e exs e)))
  (G:L.D→Option (bq.D exs)) (μ:L.D→Nat) (hG: ∀ s e,G s=some e→Pj G μ s e (B s)):ck P c (dB grow keep L exs G):=by
 simp only [Bool.and_eq_true] at hf
 intro S ρ κ r hS hk
 refine Pm (E:=bq.e exs) (fun e=>(bq.ok exs e hf.2).2) (fun s e hs=>QW hΘ hY hm hc hL (fun s=>ev.mk'_ok hf.1 s) hB (fun e=>(bq.ok exs e hf.2).1) hG hs) hS ?_ (grow:=grow) (keep:=keep)
 rw [←hk]
 unfold Pk dB
 simp only [bq.k_eq]
end
end Go.Proofs.YtkcgfceffffmoaaGreat.En
namespace Go.Proofs.YtkcgfceffffmoaaGreat.En
open Go
def QY (P:Program) (e:TypeId→List Value→Bool):List Field→Nat→List Value→Bool
 | [],_,[] =>true
 | [],_,_::_=>false
 | f::fs,off,zs=>f.name != "_" &&Nat.beq f.offset off&&Nat.blt 0 (P.cellsOf f.type)&&Nat.ble (P.cellsOf f.type) zs.length&&(P.info? f.type).isSome&&e f.type (zs.take (P.cellsOf f.type))&&QY P e fs (off+P.cellsOf f.type) (zs.drop (P.cellsOf f.type))
def Jx (P:Program):Nat→TypeId→List Value→Bool
 | 0,_,_=>false
 | n+1,t,zs=>match P.underlying t with
   | some .bool=>(match zs with | [.bool _] =>true | _=>false)
   | some (.int _)=>(match zs with | [.int _ _] =>true | _=>false)
   | some (.struct fs)=> !P.stoodInHeld t&&QY P (Jx P n) fs.toList 0 zs
   | _=>false
def E9 (P:Program) (t:TypeId) (xs:List Value):Value:=match P.underlying t with
 | some (.struct _)=> .agg xs.toArray
 | _=>xs.headD (.bool false)
def kt:List Value→List Value→Bool
 | [],[] =>true
 | .int k _::zs, .int k' _::cs=>bif decide (k=k') then kt zs cs else false
 | .bool _::zs, .bool _::cs=>kt zs cs
 | _,_=>false
def kL:List Value→List Value→Option Bool
 | [],[] =>some true
 | a::l,b::m=>match I6 a b,kL l m with
   | some x,some y=>some (x&&y)
   | _,_=>none
 | _,_=>none
theorem Dw: ∀ {zs xs:List Value},ky zs (xs.map fun x=> .c (.sc x))=true→kt zs xs=true:=by
 intro zs
 induction zs with
 | nil=>intro xs h; cases xs with
   | nil=>rfl
   | cons=>simp [ky] at h
 | cons z zs ih=>
   intro xs h
   cases xs with
   | nil=>cases z <;> simp [ky] at h
   | cons x xs=>
     cases z <;> cases x <;> simp only [List.map_cons,ky,kt,cond_eq_ite,Bool.false_eq_true] at h ⊢
     ·exact ih h
     ·split at h
      ·rename_i hk
       rw [if_pos hk]
       exact ih h
      ·cases h
theorem Nq: ∀ {xs ys:List Value},u5 (xs.map fun x=> .c (.sc x)) (ys.map fun x=> .c (.sc x))=kL xs ys:=by
 intro xs
 induction xs with
 | nil=>intro ys; cases ys <;> rfl
 | cons x xs ih=>
   intro ys
   cases ys with
   | nil=>rfl
   | cons y ys=>
     simp only [List.map_cons,u5,kL,ih]
     cases I6 x y <;> cases kL xs ys <;> rfl
theorem pv: ∀ {zs xs:List Value},kt zs xs=true→xs.length=zs.length:=by
 intro zs
 induction zs with
 | nil=>intro xs h; cases xs with
   | nil=>rfl
   | cons=>simp [kt] at h
 | cons z zs ih=>
   intro xs h
   cases xs with
   | nil=>cases z <;> simp [kt] at h
   | cons x xs=>
     cases z <;> cases x <;> simp only [kt,cond_eq_ite,Bool.false_eq_true] at h
     ·simp [ih h]
     ·split at h
      ·simp [ih h]
      ·cases h
theorem sJ: ∀ {zs xs:List Value} (n:Nat),kt zs xs=true→kt (zs.take n) (xs.take n)=true∧kt (zs.drop n) (xs.drop n)=true:=by
 intro zs
 induction zs with
 | nil=>intro xs n h; cases xs with
   | nil=>simp [kt]
   | cons=>simp [kt] at h
 | cons z zs ih=>
   intro xs n h
   cases xs with
   | nil=>cases z <;> simp [kt] at h
   | cons x xs=>
     cases n with
     | zero=>exact⟨rfl,h⟩
     | succ n=>
       cases z <;> cases x <;> simp only [kt,cond_eq_ite,Bool.false_eq_true] at h
       ·exact ih n h
       ·split at h
        ·rename_i hk
         refine⟨?_,(ih n h).2⟩
         simp only [List.take_succ_cons,kt,cond_eq_ite]
         rw [if_pos (by simpa using hk)]
         exact (ih n h).1
        ·cases h
theorem Hj: ∀ {xs ys:List Value} (n:Nat) {r:Bool},kL xs ys=some r→ ∃ a b,kL (xs.take n) (ys.take n)=some a∧kL (xs.drop n) (ys.drop n)=some b∧r=(a&&b):=by
 intro xs
 induction xs with
 | nil=>intro ys n r h; cases ys with
   | nil=>cases h; exact⟨true,true,by simp [kL],by simp [kL],rfl⟩
   | cons=>simp [kL] at h
 | cons x xs ih=>
   intro ys n r h
   cases ys with
   | nil=>simp [kL] at h
   | cons y ys=>
     cases n with
     | zero=>exact⟨true,r,rfl,h,rfl⟩
     | succ n=>
       simp only [kL] at h
       split at h
       ·rename_i p q hp hq
        cases h
        obtain⟨a,b,h1,h2,rfl⟩:=ih n hq
        exact⟨p&&a,b,by simp [kL,hp,h1],h2,by cases p <;> rfl⟩
       ·cases h
theorem Hk {P:Program} {t:TypeId} {i:TypeInfo} (h:P.info? t=some i):bu P (typeInfo t)=some i:=by
 simp only [typeInfo,be,program,bu,Option.bind_some,h]
 rfl
theorem Jy {P:Program} {t:TypeId} {i:TypeInfo} (hi:P.info? t=some i) {d:TypeDesc} (hd:P.underlying t=some d) (hs: ∀ n e,d≠ .array n e) {xs:List Value} {off:Nat} {c:Value} (hc:xs[off]? =some c):
  bu P (part t xs.toArray off)=some (E9 P t ((xs.drop off).take (P.cellsOf t)))∨P.cellsOf t=0:=by
 by_cases h0:P.cellsOf t=0
 ·exact .inr h0
 refine .inl ?_
 have hcell:P.cellsOf t=i.size:=by simp [Program.cellsOf,hi]
 cases hst: (match d with | .struct _=>true | _=>false) with
 | true=>
   have hag:bu P (isAgg t)=some true:=by
    simp only [isAgg,be,cU hd,Option.bind_some]
    cases d <;> simp at hst
    rfl
   simp only [part,sizeOf,be,hag,Option.bind_some,if_true,Hk hi,bR,E9,hd]
   cases d <;> simp at hst
   simp [hcell,Nat.add_sub_cancel_left]
 | false=>
   have hag:bu P (isAgg t)=some false:=by
    simp only [isAgg,be,cU hd,Option.bind_some]
    cases d <;> simp at hst
    all_goals first | rfl | exact absurd rfl (hs _ _)
   have hv:E9 P t ((xs.drop off).take (P.cellsOf t))=c:=by
    have : ((xs.drop off).take (P.cellsOf t)).headD (.bool false)=c:=by
     obtain⟨n,hn⟩: ∃ n,P.cellsOf t=n+1:=⟨P.cellsOf t - 1,by omega⟩
     have h1:off < xs.length:=(List.getElem?_eq_some_iff.1 hc).1
     rw [hn,List.drop_eq_getElem_cons h1,List.take_succ_cons]
     exact (List.getElem?_eq_some_iff.1 hc).2
    unfold E9
    rw [hd]
    cases d <;> first | exact this | simp at hst
   rw [hv]
   simp only [part,be,hag,Option.bind_some,Bool.false_eq_true,if_false]
   have :xs.toArray[off]? =some c:=by simpa using hc
   rw [this]
   rfl
theorem Mx (P:Program): ∀ (n:Nat) {t:TypeId} {zs xs ys:List Value} {r:Bool} (d:Nat),Jx P n t zs=true→kt zs xs=true→kt zs ys=true→kL xs ys=some r→bu P (Op.equalIn (n+d) t (E9 P t xs) (E9 P t ys))=some r
 | 0,t,zs,xs,ys,r,d,h,_,_,_=>by cases h
 | n+1,t,zs,xs,ys,r,d,h,hx,hy,he=>by
   have hn:n+1+d=(n+d)+1:=by omega
   rw [hn]
   unfold Jx at h
   cases hu:P.underlying t with
   | none=>rw [hu] at h; cases h
   | some D=>
     rw [hu] at h
     cases D <;> simp only [Bool.false_eq_true] at h
     case bool=>
      split at h
      case h_2=>cases h
      obtain⟨x,rfl⟩: ∃ x,xs= [.bool x] :=by
       match xs,hx with
       | [.bool x],_=>exact⟨x,rfl⟩
      obtain⟨y,rfl⟩: ∃ y,ys= [.bool y] :=by
       match ys,hy with
       | [.bool y],_=>exact⟨y,rfl⟩
      simp only [kL,I6,Bool.and_true,Option.some.injEq] at he
      subst he
      simp only [E9,hu,List.headD_cons]
      rw [Op.equalIn]
      simp only [be,cU hu,Option.bind_some,bR]
     case int k=>
      split at h
      case h_2=>cases h
      rename_i k0 _
      obtain⟨x,rfl⟩: ∃ x,xs= [.int k0 x] :=by
       match xs,hx with
       | [.int k1 x],hx=>
         simp only [kt,cond_eq_ite] at hx
         split at hx
         ·rename_i hk; simp at hk; subst hk; exact⟨x,rfl⟩
         ·cases hx
       | .int _ _::_::_,hx=>simp [kt] at hx
      obtain⟨y,rfl⟩: ∃ y,ys= [.int k0 y] :=by
       match ys,hy with
       | [.int k1 x],hx=>
         simp only [kt,cond_eq_ite] at hx
         split at hx
         ·rename_i hk; simp at hk; subst hk; exact⟨x,rfl⟩
         ·cases hx
       | .int _ _::_::_,hx=>simp [kt] at hx
      simp only [kL,I6,Bool.and_true,Option.some.injEq] at he
      subst he
      simp only [E9,hu,List.headD_cons]
      rw [Op.equalIn]
      simp only [be,cU hu,Option.bind_some,bR,if_true]
     case struct fs=>
      simp only [Bool.and_eq_true,Bool.not_eq_true'] at h
      obtain⟨hst,h⟩:=h
      simp only [E9,hu]
      have b8: ∀ (fs:List Field) (off:Nat) (zs:List Value) (r:Bool),QY P (Jx P n) fs off zs=true→kt zs (xs.drop off)=true→kt zs (ys.drop off)=true→kL (xs.drop off) (ys.drop off)=some r→
        bu P (Op.eqFields (n+d) xs.toArray ys.toArray fs)=some r:=by
       intro fs
       induction fs with
       | nil=>
         intro off zs r h hx hy he
         cases zs with
         | nil=>
           have h1:=pv hx
           have h2:=pv hy
           simp only [List.length_nil,List.length_eq_zero_iff] at h1 h2
           rw [h1,h2] at he
           cases he
           rfl
         | cons=>cases h
       | cons f fs ih=>
         intro off zs r h hx hy he
         simp only [QY,Bool.and_eq_true,bne_iff_ne,ne_eq] at h
         obtain⟨⟨⟨⟨⟨⟨hname,hoff⟩,hpos⟩,hle⟩,hi⟩,h1⟩,h2⟩:=h
         have hoff:=Nat.eq_of_beq_eq_true hoff
         have hpos:0 < P.cellsOf f.type:=Nat.le_of_ble_eq_true hpos
         have hle:P.cellsOf f.type≤zs.length:=Nat.le_of_ble_eq_true hle
         have hlx:=pv hx
         have hly:=pv hy
         rw [List.length_drop] at hlx hly
         obtain⟨i,hi⟩:=Option.isSome_iff_exists.1 hi
         have hu': ∃ D,P.underlying f.type=some D∧ ∀ n e,D≠ .array n e:=by
          cases hun:P.underlying f.type with
          | none=>cases n <;> simp [Jx,hun] at h1
          | some D=>refine⟨D,rfl,fun k e he=> ?_⟩; subst he; cases n <;> simp [Jx,hun] at h1
         obtain⟨D,hD,hDa⟩:=hu'
         have px:=Jy hi hD hDa (xs:=xs) (off:=off) (List.getElem?_eq_getElem (by omega))
         have py:=Jy hi hD hDa (xs:=ys) (off:=off) (List.getElem?_eq_getElem (by omega))
         have px:=px.resolve_right (by omega)
         have py:=py.resolve_right (by omega)
         obtain⟨a,b,ha,hb,rfl⟩:=Hj (P.cellsOf f.type) he
         have hA:=Mx P n d h1 (sJ _ hx).1 (sJ _ hy).1 ha
         rw [Op.eqFields,if_pos hname]
         simp only [hoff,be,px,py,Option.bind_some,hA]
         cases a with
         | false=>rfl
         | true=>
           simp only [Bool.not_true,Bool.false_eq_true,if_false,Bool.true_and]
           simp only [List.drop_drop] at hb
           refine ih _ _ _ h2 ?_ ?_ hb
           ·have:=(sJ (P.cellsOf f.type) hx).2; rw [List.drop_drop] at this; exact this
           ·have:=(sJ (P.cellsOf f.type) hy).2; rw [List.drop_drop] at this; exact this
      have:=b8 fs.toList 0 zs r h (by simpa using hx) (by simpa using hy) (by simpa using he)
      rw [←this]
      rw [Op.equalIn]
      simp only [be,cU hu,Option.bind_some,program,bu,hst,Bool.false_eq_true,if_false]
      rw [←Array.forIn_toList]
      generalize fs.toList=fs
      clear this b8 h hu hst hn
      induction fs with
      | nil=>rfl
      | cons f fs ih=>
        simp only [List.forIn_cons,Op.eqFields]
        split
        ·simp only [be]
         cases bu P (part f.type xs.toArray f.offset) with
         | none=>rfl
         | some a=>
           cases bu P (part f.type ys.toArray f.offset) with
           | none=>rfl
           | some b=>
             simp only [Option.bind_some]
             cases bu P (Op.equalIn (n+d) f.type a b) with
             | none=>rfl
             | some q=>
               cases q
               ·rfl
               ·simp only [Option.bind_some,Bool.not_true,Bool.false_eq_true,if_false,bR]
                simpa only [be,Option.bind_assoc] using ih
        ·simp only [be,bR,Option.bind_some]
         simpa only [be,Option.bind_assoc] using ih
theorem SW {P:Program} {t:TypeId} {zs:List Value} {fs:Array Field} (hu:P.underlying t=some (.struct fs)) (h:Jx P 8 t zs=true) (a b:List Cl) (r:Bool) (xs ys:List Value) (ha:ky zs a=true) (hb:ky zs b=true) (he:u5 a b=some r) (hx:a=xs.map (fun x=> .c (.sc x))) (hy:b=ys.map (fun x=> .c (.sc x))):
  bu P (Op.equal t (.agg xs.toArray) (.agg ys.toArray))=some r:=by
 subst hx hy
 have:=Mx P 8 9992 h (Dw ha) (Dw hb) (by rw [←Nq]; exact he)
 unfold E9 at this
 rw [hu] at this
 exact this
end Go.Proofs.YtkcgfceffffmoaaGreat.En
namespace Go.Proofs.YtkcgfceffffmoaaGreat.En
open Go
def Tz (P:Program):List Field→Option (List (Nat×Nat×Bool))
 | [] =>some []
 | f::fs=>match EV P f.type,Tz P fs with
   | some ag,some l=>some ((f.offset,P.cellsOf f.type,ag)::l)
   | _,_=>none
def TM (P:Program) (t:TypeId):Option (List (Nat×Nat×Bool)):=match P.underlying t with | some (.struct fs)=>Tz P fs.toList | _=>none
theorem My {P:Program}: ∀ {fs:List Field} {l:List (Nat×Nat×Bool)},Tz P fs=some l→ ∀ k,(fs[k]?).bind (fun f=>(EV P f.type).map fun ag=>(f.offset,P.cellsOf f.type,ag))=ol l k
 | [],l,h,k=>by cases h; rfl
 | f::fs,l,h,k=>by
   unfold Tz at h
   split at h
   ·rename_i ag l' h1 h2
    cases h
    cases k with
    | zero=>simp [h1,ol]
    | succ k=>
      show _=ol l' (k+1 - 1)
      rw [Nat.add_sub_cancel,←My h2 k,List.getElem?_cons_succ]
   ·cases h
theorem QZ {P:Program} {t:TypeId} {l:List (Nat×Nat×Bool)} (h:TM P t=some l) (k:Nat):N3 P t k=ol l k:=by
 unfold TM at h
 unfold N3
 split at h
 ·rename_i fs hu
  simp only [hu]
  rw [←My h k,Array.getElem?_toList]
 ·cases h
theorem Q0 (P:Program):dG P [] :=fun _ _ h=>by cases h
theorem bm {P:Program} {t:Nat} {ti:TI} {l:ot} (h:ti.ok P t) (hl:dG P l):dG P ((t,ti)::l):=by
 intro u ui hu
 unfold mB at hu
 cases hb:Nat.beq t u with
 | true=>
   rw [hb] at hu
   have:=Nat.eq_of_beq_eq_true hb
   subst this
   cases hu
   exact h
 | false=>
   rw [hb] at hu
   exact hl u ui hu
def SX (P:Program) (t:TypeId):Bool:=match P.underlying t with | some (.struct _)=>true | _=>false
section
variable {P:Program} {t:TypeId}
theorem m9 {n:Sn} {fds:List (Nat×Nat×Bool)} {by':Nat} (h1:SX P t=true) (h2:P.cellsOf t=(Ty.st n).width) (h3:oh P 9 t=(Ty.st n).shs) (h4:zd P t=some (Ty.st n).zvs) (h5:TM P t=some fds)
  (h6:SF P t=some (fds.map fun x=>(x.1,x.2.1))) (h7: ((Ty.st n).flatB=true→P.eqGuardType P.depth t=false∧Jx P 8 t (Ty.st n).zvs=true)) (hz: (Ty.st n).flatB=false→ ∀ xs:List Value,ky (Ty.st n).zvs (xs.map fun x=> .c (.sc x))=false):TI.ok P t ⟨.st n,0,fds,by'⟩:=by
 unfold SX at h1
 split at h1
 case h_2=>cases h1
 rename_i fs hu
 refine⟨?_,h2,h3,h4,QZ h5,fun _=>h6,fun e he=>(by cases he),fun hb=>(by cases hb),fun _ hf=>(h7 hf).1,fun _ a b r xs ys ha hb he hx hy=> ?_,?_,fun k hk=>(by cases hk)⟩
 ·simp [EV,hu,Ty.ag]
 ·cases hf: (Ty.st n).flatB with
  | true=>exact SW hu (h7 hf).2 a b r xs ys ha hb he hx hy
  | false=>
    subst hx
    have:=hz hf xs
    rw [show ky (Ty.st n).zvs _=true from ha] at this
    cases this
 ·simp [GD,hu]
theorem s7 {e:Ty} {el:Nat} {by':Nat} {u:TypeId} (h1:xn P t=some u) (h2:P.cellsOf t=1) (h4:zd P t=some [.slice none 0 0]) (h5:P.cellsOf u=e.width) (h6:P.bytesOf u=el) (h7:Nat.blt 0 el=true) (h8:oh P 9 u=e.shs) (h9:zd P u=some e.zvs):TI.ok P t ⟨.ls e,el,[],by'⟩:=by
 have hu:P.underlying t=some (.slice u):=by
  unfold xn at h1
  split at h1
  ·rename_i e hu; cases h1; exact hu
  ·cases h1
 refine⟨?_,h2,?_,h4,fun k=> ?_,fun h=>(by cases h),fun e' he=> ?_,fun hb=>(by cases hb),fun h=>(by cases h),fun h=>(by cases h),?_,fun k hk=>(by cases hk)⟩
 ·simp [EV,hu,Ty.ag]
 ·simp [oh,hu,Ty.shs,Ty.csh,h5]
 ·simp [N3,hu,ol]
 ·cases he
  exact⟨u,h1,h5,h6,Nat.le_of_ble_eq_true h7,h8,h9⟩
 ·simp [GD,hu]
def TZ (P:Program) (t:TypeId) (y:Ty):Bool:=match P.underlying t,y with
 | some (.int k), .i k'=>decide (k=k')
 | some .bool, .b=>true
 | some .string, .s=>true
 | _,_=>false
theorem vF {y:Ty} {by':Nat} (h1:TZ P t y=true) (h2:P.cellsOf t=1) (h4:zd P t=some y.zvs):TI.ok P t ⟨y,0,[],by'⟩:=by
 unfold TZ at h1
 split at h1
 ·rename_i k k' hu
  refine⟨(by simp [EV,hu,Ty.ag]),h2,(by simp [oh,hu,Ty.shs,Ty.csh]),h4,fun k=>(by simp [N3,hu,ol]),fun h=>(by cases h),fun e' he=>(by cases he),fun hb=>(by cases hb),fun h=>(by cases h),fun h=>(by cases h),by simp [GD,hu],fun q hq=>(by cases hq; rw [hu]; simp only [decide_eq_true_eq] at h1; rw [h1])⟩
 ·rename_i hu
  refine⟨(by simp [EV,hu,Ty.ag]),h2,(by simp [oh,hu,Ty.shs,Ty.csh]),h4,fun k=>(by simp [N3,hu,ol]),fun h=>(by cases h),fun e' he=>(by cases he),fun hb=>hu,fun h=>(by cases h),fun h=>(by cases h),by simp [GD,hu],fun q hq=>(by cases hq)⟩
 ·rename_i hu
  refine⟨(by simp [EV,hu,Ty.ag]),h2,(by simp [oh,hu,Ty.shs,Ty.csh]),h4,fun k=>(by simp [N3,hu,ol]),fun h=>(by cases h),fun e' he=>(by cases he),fun hb=>(by cases hb),fun h=>(by cases h),fun h=>(by cases h),by simp [GD,hu],fun q hq=>(by cases hq)⟩
 ·cases h1
end
theorem gE: ∀ {zs:List Value} (xs:List Value),zs.any (fun z=>match z with | .int _ _=>false | .bool _=>false | _=>true)=true→ky zs (xs.map fun x=> .c (.sc x))=false
 | [],xs,h=>by cases h
 | z::zs,xs,h=>by
   cases hb:ky (z::zs) (xs.map fun x=> .c (.sc x)) with
   | false=>rfl
   | true=>
     exfalso
     cases xs with
     | nil=>cases z <;> simp [ky] at hb
     | cons x xs=>
       cases z <;> simp only [ky,List.map_cons,Bool.false_eq_true] at hb
       all_goals cases x <;> simp only [ky,cond_eq_ite,Bool.false_eq_true] at hb
       ·rw [gE xs (by simpa using h)] at hb; cases hb
       ·split at hb
        ·rw [gE xs (by simpa using h)] at hb; cases hb
        ·cases hb
end Go.Proofs.YtkcgfceffffmoaaGreat.En
namespace Go.Proofs.YtkcgfceffffmoaaGreat.En
open Go
section
variable {σ ε:Type}
def wF (B:σ→Option (σ⊕ε)):Nat→σ→Option ε
 | 0,_=>none
 | n+1,s=>(B s).bind (Sum.elim (wF B n) some)
theorem zI (B:σ→Option (σ⊕ε)): ∀ {n m:Nat} {s:σ} {e:ε},n≤m→wF B n s=some e→wF B m s=some e
 | 0,_,_,_,_,h=>by cases h
 | n+1,0,_,_,hm,_=>by omega
 | n+1,m+1,s,e,hm,h=>by
   unfold wF at h ⊢
   cases hB:B s with
   | none=>rw [hB] at h; cases h
   | some x=>
     rw [hB] at h
     cases x with
     | inl s'=>exact zI B (by omega) h
     | inr e'=>exact h
theorem Hl {p:Nat→Prop} (h: ∃ n,p n): ∃ n,p n∧ ∀ m,p m→n≤m:=by
 obtain⟨n,hn⟩:=h
 induction n using Nat.strongRecOn with
 | _ n ih=>
   by_cases hx: ∃ m,m < n∧p m
   ·obtain⟨m,hm,hp⟩:=hx
    exact ih m hm hp
   ·exact⟨n,hn,fun m hm=>Nat.le_of_not_lt fun hlt=>hx ⟨m,hlt,hm⟩⟩
noncomputable def jF (B:σ→Option (σ⊕ε)) (s:σ):Option ε:=open Classical in if h: ∃ n,(wF B n s).isSome=true then wF B (Classical.choose h) s else none
noncomputable def hU (B:σ→Option (σ⊕ε)) (s:σ):Nat:=open Classical in if h: ∃ n,(wF B n s).isSome=true then Classical.choose (Hl h) else 0
theorem t9 {B:σ→Option (σ⊕ε)} {s:σ} {e:ε}:jF B s=some e↔ ∃ n,wF B n s=some e:=by
 classical
 constructor
 ·intro h
  unfold jF at h
  split at h
  ·rename_i hx
   exact⟨_,h⟩
  ·cases h
 ·rintro⟨n,h⟩
  have hx: ∃ n,(wF B n s).isSome=true:=⟨n,by rw [h]; rfl⟩
  unfold jF
  rw [dif_pos hx]
  obtain⟨e',he⟩:=Option.isSome_iff_exists.1 (Classical.choose_spec hx)
  have h1:=zI B (Nat.le_max_left (Classical.choose hx) n) he
  have h2:=zI B (Nat.le_max_right (Classical.choose hx) n) h
  rw [h1] at h2
  cases h2
  exact he
theorem ua (B:σ→Option (σ⊕ε)) (s:σ):jF B s=(B s).bind (Sum.elim (jF B) some):=by
 apply Option.ext
 intro e
 rw [t9]
 constructor
 ·rintro⟨n,h⟩
  cases n with
  | zero=>cases h
  | succ n=>
    unfold wF at h
    cases hB:B s with
    | none=>rw [hB] at h; cases h
    | some x=>
      rw [hB] at h
      cases x with
      | inl s'=>exact t9.2 ⟨n,h⟩
      | inr e'=>exact h
 ·intro h
  cases hB:B s with
  | none=>rw [hB] at h; cases h
  | some x=>
    rw [hB] at h
    cases x with
    | inl s'=>
      obtain⟨n,h⟩:=t9.1 (show jF B s'=some e from h)
      exact⟨n+1,by unfold wF; rw [hB]; exact h⟩
    | inr e'=>exact⟨1,by unfold wF; rw [hB]; exact h⟩
theorem aW (B:σ→Option (σ⊕ε)) (s:σ) (e:ε) (h:jF B s=some e):Pj (jF B) (hU B) s e (B s):=by
 classical
 have h0:=h
 rw [ua] at h
 cases hB:B s with
 | none=>rw [hB] at h; cases h
 | some x=>
   rw [hB] at h
   cases x with
   | inl s'=>
     refine⟨?_,h⟩
     have hx: ∃ n,(wF B n s).isSome=true:=by
      obtain⟨n,hn⟩:=t9.1 h0
      exact⟨n,by rw [hn]; rfl⟩
     have hx': ∃ n,(wF B n s').isSome=true:=by
      obtain⟨n,hn⟩:=t9.1 (show jF B s'=some e from h)
      exact⟨n,by rw [hn]; rfl⟩
     unfold hU
     rw [dif_pos hx,dif_pos hx']
     have:=(Classical.choose_spec (Hl hx)).1
     cases hn:Classical.choose (Hl hx) with
     | zero=>rw [hn] at this; cases this
     | succ n=>
       rw [hn] at this
       unfold wF at this
       rw [hB] at this
       exact Nat.lt_succ_of_le ((Classical.choose_spec (Hl hx')).2 n this)
   | inr e'=>exact (Option.some.inj h)
end
theorem cv {α β γ δ:Type} (x:α⊕β) (f:α→Option γ) (g:β→Option γ) (h:γ→Option δ): (Sum.elim f g x).bind h=Sum.elim (fun a=>(f a).bind h) (fun a=>(g a).bind h) x:=by cases x <;> rfl
inductive Fa where
 | ty (t:Ty) | pr (t:Ty) | fc (g:Nat) | fn (g:Nat) (caps:List Ty)
abbrev Fa.D:Fa→Type
 | .ty t=>t.D
 | .pr t=>t.D
 | .fc _=>Unit
 | .fn _ caps=>qx.D caps
abbrev pV.D:List Fa→Type
 | [] =>Unit
 | p::l=>p.D×pV.D l
def Hm: (l:List Ty)→qx.D l→List Cl
 | [],_=> []
 | t::l,x=> .pro (t.flat x.1)::Hm l x.2
def Fa.v1: (p:Fa)→p.D→V1
 | .ty t,x=>Md t x
 | .pr t,x=> .cl (.pro (t.flat x))
 | .fc g,_=> .cl (.c (.sc (.func (.func g) #[] #[])))
 | .fn g caps,x=> .fn g (Hm caps x)
def nv: (l:List Fa)→pV.D l→List V1
 | [],_=> []
 | p::l,x=>p.v1 x.1::nv l x.2
def Q1 {ρ:Type} (t:Ty) (c:Cl) (κ:t.D→Option ρ):Option ρ:=match c with
 | .pro xs=>(match t.unflat xs with | some x=>κ x | none=>none)
 | _=>none
def zJ {ρ:Type}: (l:List Ty)→List Cl→(qx.D l→Option ρ)→Option ρ
 | [],[],κ=>κ ()
 | t::l,c::cs,κ=>Q1 t c fun x=>zJ l cs fun y=>κ (x,y)
 | _,_,_=>none
def TA {ρ:Type}: (p:Fa)→V1→(p.D→Option ρ)→Option ρ
 | .ty t,a,κ=>un t a κ
 | .pr t, .cl c,κ=>Q1 t c κ
 | .fc g, .cl (.c (.sc (.func (.func g') cs ts))),κ=>bif Nat.beq g' g&&Nat.beq cs.size 0&&Nat.beq ts.size 0 then κ () else none
 | .fn g caps, .fn g' cs,κ=>bif Nat.beq g' g then zJ caps cs κ else none
 | _,_,_=>none
def Bx {ρ:Type}: (l:List Fa)→List V1→(pV.D l→Option ρ)→Option ρ
 | [],[],κ=>κ ()
 | p::l,a::as,κ=>TA p a fun x=>Bx l as fun y=>κ (x,y)
 | _,_,_=>none
def bO (ps:List Fa) (rs:List Ty) (G:pV.D ps→Option (qx.D rs)):bA:=fun args _ κ=>Bx ps args fun x=>(G x).bind fun y=>ret (aH rs y) κ
theorem Gj {ρ:Type} {t:Ty} {c:Cl} {κ:t.D→Option ρ} {r:ρ} (h:Q1 t c κ=some r): ∃ x,c= .pro (t.flat x)∧κ x=some r:=by
 unfold Q1 at h
 split at h
 ·split at h
  ·rename_i x hx
   exact⟨x,by rw [t.unflat_some _ _ hx],h⟩
  ·cases h
 ·cases h
theorem AR {ρ:Type}: ∀ {l:List Ty} {cs:List Cl} {κ:qx.D l→Option ρ} {r:ρ},zJ l cs κ=some r→ ∃ x,cs=Hm l x∧κ x=some r
 | [],[],κ,r,h=>⟨(),rfl,h⟩
 | t::l,c::cs,κ,r,h=>by
   unfold zJ at h
   obtain⟨x,h1,h⟩:=Gj h
   obtain⟨y,h2,h⟩:=AR h
   exact⟨(x,y),by rw [h1,h2]; rfl,h⟩
 | [],_::_,κ,r,h=>by simp [zJ] at h
 | _::_,[],κ,r,h=>by simp [zJ] at h
theorem Pp {ρ:Type} {p:Fa} {a:V1} {κ:p.D→Option ρ} {r:ρ} (h:TA p a κ=some r): ∃ x,a=p.v1 x∧κ x=some r:=by
 unfold TA at h
 split at h
 ·exact un_some h
 ·obtain⟨x,h1,h⟩:=Gj h
  exact⟨x,by rw [h1]; rfl,h⟩
 ·obtain⟨h1,h⟩:=am h
  simp only [Bool.and_eq_true] at h1
  obtain⟨⟨h1,h2⟩,h3⟩:=h1
  have h1:=Nat.eq_of_beq_eq_true h1
  have h2:=Array.eq_empty_of_size_eq_zero (Nat.eq_of_beq_eq_true h2)
  have h3:=Array.eq_empty_of_size_eq_zero (Nat.eq_of_beq_eq_true h3)
  exact⟨(),by rw [h1,h2,h3]; rfl,h⟩
 ·obtain⟨h1,h⟩:=am h
  obtain⟨x,h2,h⟩:=AR h
  exact⟨x,by rw [Nat.eq_of_beq_eq_true h1,h2]; rfl,h⟩
 ·cases h
theorem rI {ρ:Type}: ∀ {l:List Fa} {as:List V1} {κ:pV.D l→Option ρ} {r:ρ},Bx l as κ=some r→ ∃ x,as=nv l x∧κ x=some r
 | [],[],κ,r,h=>⟨(),rfl,h⟩
 | p::l,a::as,κ,r,h=>by
   unfold Bx at h
   obtain⟨x,h1,h⟩:=Pp h
   obtain⟨y,h2,h⟩:=rI h
   exact⟨(x,y),by rw [h1,h2]; rfl,h⟩
 | [],_::_,κ,r,h=>by simp [Bx] at h
 | _::_,[],κ,r,h=>by simp [Bx] at h
theorem Gk (G:List (Option bG)): ∀ (l:List Ty) (x:qx.D l),∀ c∈Hm l x,c.ok G
 | [],x,c,h=>by cases h
 | t::l,x,c,h=>by
   rcases List.mem_cons.1 h with rfl | h
   ·trivial
   ·exact Gk G l x.2 c h
theorem Fa.ok (p:Fa) (x:p.D): (p.v1 x).ok [] :=by
 cases p with
 | ty t=>exact R1 t x
 | pr t=>trivial
 | fc g=>trivial
 | fn g caps=>exact Gk [] caps x
theorem rJ: ∀ (l:List Fa) (x:pV.D l),∀ a∈nv l x,a.ok []
 | [],x,a,h=>by cases h
 | p::l,x,a,h=>by
   rcases List.mem_cons.1 h with rfl | h
   ·exact p.ok x.1
   ·exact rJ l x.2 a h
theorem ak {P:Program} {Θ:ot} {Y:xH} {Λ:om} (hΘ:dG P Θ) (hY:az P Y) (hm:P.follows .mixedOrders=true) {f:FuncId} {fn:Func} (hf:L9 P f=some fn) (hL: ∀ c,fn.body=some c→fr P Λ (ek c)) {ps:List Fa} {rs:List Ty} {G:pV.D ps→Option (qx.D rs)} (hk:Nat.blt f 1048576=true)
  (F:pV.D ps→Option (qx.D rs)) (hF: ∀ x,TK Θ Y Λ fn (nv ps x) (fun v g=>some (v,g))=(F x).bind fun y=>ret (aH rs y) (fun v g=>some (v,g))) (hG: ∀ x y,G x=some y→F x=some y):aF P f (bO ps rs G):=by
 intro args ρ κ r hr
 unfold bO at hr
 obtain⟨x,rfl,hr2⟩:=rI hr
 obtain⟨y,h1,hr3⟩:=Option.bind_eq_some_iff.1 hr2
 exact⟨_,_, .of_fn (RX hΘ hY hm hf hL (rJ ps x) (by rw [hF,hG x y h1]; rfl)) (Nat.le_of_ble_eq_true hk),Pn _,hr3⟩
def Q2 (el:Ty) (ps:List Fa) (rs:List Ty) (G:List el.D→pV.D ps→Option (qx.D rs)):bA:=fun args _ κ=>match args with
 | .cl (.c (.ls t l))::as=>(match t4 t el l with
   | some l=>Bx ps as fun x=>(G l x).bind fun y=>ret (aH rs y) κ
   | none=>none)
 | _=>none
def Fb {ρ:Type} (el:Ty) (rs:List Ty) (y:List el.D×qx.D rs) (κ:V→List bG→Option ρ):Option ρ:=κ (vo (vD 1 (aH rs y.2))) (⟨el,y.1,none⟩::vE (aH rs y.2))
def Fc (el:Ty) (ps:List Fa) (rs:List Ty) (G:List el.D→pV.D ps→Option (List el.D×qx.D rs)):bA:=fun args _ κ=>match args with
 | .cl (.c (.ls t l))::as=>(match t4 t el l with
   | some l=>Bx ps as fun x=>(G l x).bind fun y=>Fb el rs y κ
   | none=>none)
 | _=>none
theorem Mz {P:Program} {Θ:ot} {Y:xH} {Λ:om} (hΘ:dG P Θ) (hY:az P Y) (hm:P.follows .mixedOrders=true) {f:FuncId} {fn:Func} (hf:L9 P f=some fn) (hL: ∀ c,fn.body=some c→fr P Λ (ek c)) {el:Ty} {ps:List Fa} {rs:List Ty} {G:List el.D→pV.D ps→Option (qx.D rs)}
  (F:List el.D→pV.D ps→Option (qx.D rs)) (hF: ∀ l x,Qs Θ Y Λ fn 0 el l (nv ps x) (fun v g=>some (v,g))=(F l x).bind fun y=>ret (aH rs y) (fun v g=>some (v,g))) (hG: ∀ l x y,G l x=some y→F l x=some y):aF P (Dd f) (Q2 el ps rs G):=by
 intro args ρ κ r hr
 unfold Q2 at hr
 split at hr
 ·rename_i t l as
  split at hr
  ·rename_i l' hl
   obtain⟨e,hl⟩:=eW hl
   subst e
   have hl:l=l':=hl
   subst hl
   obtain⟨x,rfl,hr2⟩:=rI hr
   obtain⟨y,h1,hr3⟩:=Option.bind_eq_some_iff.1 hr2
   exact⟨_,_, .of_mv ⟨.ls _,l,_,rfl,Mr hΘ hY hm hf hL (Nat.zero_le 1) (rJ ps x) (by rw [hF,hG l x y h1]; rfl)⟩,Pn _,hr3⟩
  ·cases hr
 ·cases hr
theorem Q3 (el:Ty) (l:List el.D) (ys:List ((t:Ty)×t.D)): (vo (vD 1 ys)).ok ((⟨el,l,none⟩::vE ys).map some):=by
 have h:=xQ ys [⟨el,l,none⟩]
 simp only [List.length_singleton,List.singleton_append] at h
 match vD 1 ys,h with
 | [],_=>exact fun x hx=>by cases hx
 | [v],h=>exact h v List.mem_cons_self
 | v::u::vs,h=>exact h
theorem qF {P:Program} {Θ:ot} {Y:xH} {Λ:om} (hΘ:dG P Θ) (hY:az P Y) (hm:P.follows .mixedOrders=true) {f:FuncId} {fn:Func} (hf:L9 P f=some fn) (hL: ∀ c,fn.body=some c→fr P Λ (ek c)) {el:Ty} {ps:List Fa} {rs:List Ty} {G:List el.D→pV.D ps→Option (List el.D×qx.D rs)} (hk:Nat.blt f 1048576=true)
  (F:List el.D→pV.D ps→Option (List el.D×qx.D rs)) (hF: ∀ l x,Qs Θ Y Λ fn 1 el l (nv ps x) (fun v g=>some (v,g))=(F l x).bind fun y=>Fb el rs y (fun v g=>some (v,g))) (hG: ∀ l x y,G l x=some y→F l x=some y):aF P (lC f) (Fc el ps rs G):=by
 intro args ρ κ r hr
 unfold Fc at hr
 split at hr
 ·rename_i t l as
  split at hr
  ·rename_i l' hl
   obtain⟨e,hl⟩:=eW hl
   subst e
   have hl:l=l':=hl
   subst hl
   obtain⟨x,rfl,hr2⟩:=rI hr
   obtain⟨y,h1,hr3⟩:=Option.bind_eq_some_iff.1 hr2
   exact⟨_,_, .of_io ⟨.ls _,l,_,rfl,Mr hΘ hY hm hf hL (Nat.le_refl 1) (rJ ps x) (by rw [hF,hG l x y h1]; rfl)⟩ (Nat.le_of_ble_eq_true hk),Q3 _ _ (aH rs y.2),hr3⟩
  ·cases hr
 ·cases hr
def Q4 {ρ:Type} (t:Ty) (rs:List Ty) (y:t.D×qx.D rs) (κ:V→List bG→Option ρ):Option ρ:=κ (vo (vD (lR (t.flat y.1)).length (aH rs y.2))) (lR (t.flat y.1)++vE (aH rs y.2))
def Q5 (t:Ty) (ps:List Fa) (rs:List Ty) (G:t.D→pV.D ps→Option (t.D×qx.D rs)):bA:=fun args _ κ=>match args with
 | a::as=>un t a fun x=>Bx ps as fun p=>(G x p).bind fun y=>Q4 t rs y κ
 | [] =>none
theorem MA {P:Program} {Θ:ot} {Y:xH} {Λ:om} (hΘ:dG P Θ) (hY:az P Y) (hm:P.follows .mixedOrders=true) {f:FuncId} {fn:Func} (hf:L9 P f=some fn) (hL: ∀ c,fn.body=some c→fr P Λ (ek c)) {t:Ty} {ps:List Fa} {rs:List Ty} {G:t.D→pV.D ps→Option (t.D×qx.D rs)} (hk:Nat.blt f 1048576=true)
  (F:t.D→pV.D ps→Option (t.D×qx.D rs)) (hF: ∀ l x,RU Θ Y Λ fn t l (nv ps x) (fun v g=>some (v,g))=(F l x).bind fun y=>Q4 t rs y (fun v g=>some (v,g))) (hG: ∀ l x y,G l x=some y→F l x=some y):aF P (lC f) (Q5 t ps rs G):=by
 intro args ρ κ r hr
 unfold Q5 at hr
 split at hr
 ·rename_i a as
  obtain⟨l,rfl,hr1⟩:=un_some hr
  obtain⟨x,rfl,hr2⟩:=rI hr1
  obtain⟨y,h1,hr3⟩:=Option.bind_eq_some_iff.1 hr2
  refine⟨_,_, .of_io ⟨t,l,_,rfl,QR hΘ hY hm hf hL (rJ ps x) (by rw [hF,hG l x y h1]; rfl)⟩ (Nat.le_of_ble_eq_true hk),?_,hr3⟩
  have h:=xQ (aH rs y.2) (lR (t.flat y.1))
  match vD (lR (t.flat y.1)).length (aH rs y.2),h with
  | [],_=>exact fun x hx=>by cases hx
  | [v],h=>exact h v List.mem_cons_self
  | v::u::vs,h=>exact h
 ·cases hr
def cm (fn:Func):Code:=match fn.body with | some c=>c | none=> .skip
def cu (c:Code) (n:Nat):Code:=(ol (ek c) n).getD .skip
theorem aM {P:Program} {Λ:om} {fn:Func} {cs:List Code} (h:ek (cm fn)=cs) (H:fr P Λ cs) (c:Code) (hc:fn.body=some c):fr P Λ (ek c):=by
 have :cm fn=c:=by unfold cm; rw [hc]
 rw [←this,h]
 exact H
theorem dF {P:Program} {Λ:om} {c:Code} {cs:List Code} (h:ek c=cs) (H:fr P Λ cs):fr P Λ (ek c):=by rw [h]; exact H
end Go.Proofs.YtkcgfceffffmoaaGreat.En
