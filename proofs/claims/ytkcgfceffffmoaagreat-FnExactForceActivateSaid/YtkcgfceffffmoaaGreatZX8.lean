import Derived.Test.YtkcgfceffffmoaaGreatZX7
namespace Go.Proofs.YtkcgfceffffmoaaGreat.En
open Go
section
variable {ρ:Type} {P:Program} {Θ:to} {S:TS} {Y:Fe}
open Classical in
noncomputable def Fl (d:Option Tmp) (D1 D2:wj):wj:=fun d'=>if d'=d then D1 d' else D2 d'
theorem Tu {d:Option Tmp} {D1 D2:wj} (h1:sn P D1) (h2:sn P D2):sn P (Fl d D1 D2):=by
 intro d' f args gs res out h
 unfold Fl at h
 split at h
 ·exact h1 _ _ _ _ _ _ h
 ·exact h2 _ _ _ _ _ _ h
theorem Zy (d:Option Tmp) (D1 D2:wj):Fl d D1 D2 d=D1 d:=by unfold Fl; rw [if_pos rfl]
theorem Zz {d d':Option Tmp} (D1 D2:wj) (h:d'≠d):Fl d D1 D2 d'=D2 d':=by unfold Fl; rw [if_neg h]
theorem aa5 (hΘ:fk P Θ) (hY:au P Y) {ops:Array Oper}: ∀ (os:List Oper) (S:TS) (ms:List kh) (κ:TS→List kh→Option ρ) (r:ρ),S.ok→Tb Θ Y ops.toList os S ms κ=some r→
  ∃ D SV ms',sn P D∧Lk D P ops os S.st=some (TS.st SV,ms')∧SV.ok∧κ SV (ms++ms')=some r:=by
 intro os
 induction os with
 | nil=>intro S ms κ r hS h; exact⟨Sk,S,[],kU,rfl,hS,by rw [List.append_nil]; exact h⟩
 | cons o os ih=>
   intro S ms κ r hS h
   unfold Tb at h
   cases hst:aA o with
   | true=>
     rw [hst] at h
     simp only [cond_true] at h
     obtain⟨D,SV,ms',h1,h2,h3,h4⟩:=ih _ _ _ _ hS h
     refine⟨D,SV,⟨S.gh.length,[],[]⟩::ms',h1,?_,h3,?_⟩
     ·simp only [Lk,hst,if_true,h2,Option.map_some]
      rfl
     ·rw [List.append_assoc] at h4
      exact h4
   | false=>
     rw [hst] at h
     simp only [cond_false] at h
     cases hbo:ei o with
     | true=>
       rw [hbo] at h
       simp only [cond_true] at h
       cases hgn:o.guard.isNone with
       | false=>rw [hgn] at h; cases h
       | true=>
       rw [hgn] at h
       simp only [cond_true] at h
       obtain⟨S3,g5,g6,_,h⟩:=rn (v:=V.v (.cl (.ptrB (S.bx.length - 1 - dU os) 0))) hS trivial h
       obtain⟨D,SV,ms',k1,k2,k3,k4⟩:=ih _ _ _ _ g6 h
       refine⟨D,SV,⟨S.gh.length,[],[]⟩::ms',k1,?_,k3,?_⟩
       ·simp only [Lk,hst,Bool.false_eq_true,if_false,hbo,if_true,hgn]
        rw [show S.st.put o.dst (.ptrB (S.st.nb - 1 - dU os) 0)=some S3.st from g5]
        simp only [Option.bind_some,k2,Option.map_some]
        rfl
       ·rw [List.append_assoc] at k4
        exact k4
     | false=>
     rw [hbo] at h
     simp only [cond_false] at h
     obtain⟨b,S1,h1,h2,h3,h4,h⟩:=Tp hS h
     have hng:S.st.ng=S1.st.ng:=by rw [h2]
     cases b with
     | false=>
       simp only [cond_false] at h
       obtain⟨S3,g5,g6,_,h⟩:=rn (v:= .tup []) h3 (fun x hx=>by cases hx) h
       obtain⟨D,SV,ms',k1,k2,k3,k4⟩:=ih _ _ _ _ g6 h
       refine⟨D,SV,⟨S1.gh.length,[],[]⟩::ms',k1,?_,k3,?_⟩
       ·simp only [Lk,hst,hbo,Bool.false_eq_true,if_false,h1,Option.bind_some]
        rw [←h2,show S1.st.put o.dst (.tup [])=some S3.st from g5]
        simp only [Option.bind_some,k2,Option.map_some]
        rfl
       ·rw [List.append_assoc] at k4
        exact k4
     | true=>
       simp only [cond_true] at h
       cases hnw:md o with
       | false=>
         rw [hnw] at h
         simp only [cond_false] at h
         obtain⟨v,S2,m1,m2,m3,m4,m5,h⟩:=PP (D:=Sk) hΘ h3 h
         obtain⟨S3,g5,g6,_,h⟩:=rn m3 (by rw [m4]; exact m5) h
         obtain⟨D,SV,ms',k1,k2,k3,k4⟩:=ih _ _ _ _ g6 h
         refine⟨D,SV,⟨S1.gh.length,[],[]⟩::ms',k1,?_,k3,?_⟩
         ·have hV:aH D P S1.st o=some v.av:=by
           rw [←m1]
           have : ∀ D':wj,aH D P S1.st o=aH D' P S1.st o:=by
            intro D'
            obtain⟨dst,op,ty,pos,aft,gd⟩:=o
            cases op with
            | call c=>
              obtain⟨cl,as,ts⟩:=c
              cases cl with
              | value f=>cases hnw
              | invoke a b=>rfl
              | builtin b=>cases b <;> rfl
            | unOp op t x=>cases op <;> rfl
            | binOp op t x y t'=>cases op <;> rfl
            | makeFunc fn first caps=>cases fn <;> rfl
            | slice t x lo hi mx=>cases mx <;> rfl
            | _=>rfl
           exact this Sk
          simp only [Lk,hst,hbo,Bool.false_eq_true,if_false,h1,Option.bind_some,if_true,hnw]
          rw [←h2,hV]
          simp only [Option.bind_some]
          rw [←m2,g5]
          simp only [Option.bind_some,k2,Option.map_some]
          rw [m2]; first | rfl | skip
         ·rw [List.append_assoc] at k4
          exact k4
       | true=>
         rw [hnw] at h
         simp only [cond_true] at h
         obtain⟨hc,h⟩:=aB h
         simp only [Bool.and_eq_true] at hc
         obtain⟨D1,v0,v,adds,cons,S2,m1,m2,m3,m4,m5,m6,m7,h⟩:=aa4 hΘ hY h3 hnw hc.1.2 hc.2 h
         obtain⟨S3,g5,g6,_,h⟩:=rn m6 m7 h
         obtain⟨D,SV,ms',k1,k2,k3,k4⟩:=ih _ _ _ _ g6 h
         refine⟨Fl o.dst D1 D,SV,⟨S1.st.ng,adds,cons⟩::ms',Tu m1 k1,?_,k3,?_⟩
         ·have hN:fO (Fl o.dst D1 D) P S1.st o=some (v0,adds,cons):=by
           rw [←m2]
           exact WR (Zy _ _ _)
          have hrest:Lk (Fl o.dst D1 D) P ops os S3.st=some (SV.st,ms'):=by
           rw [←k2]
           refine adh os _ (fun o' ho'=>Zz _ _ (fun e=> ?_))
           have hl:=hc.1.1
           unfold adc at hl
           split at hl
           ·rename_i d hd
            have:=List.all_eq_true.1 hl o' ho'
            unfold abU at this
            rw [e,hd] at this
            simp only [Nat.beq_refl,Bool.not_true] at this
            cases this
           ·cases hl
          simp only [Lk,hst,hbo,Bool.false_eq_true,if_false,h1,Option.bind_some,if_true,hnw]
          rw [←h2,hN]
          simp only [Option.bind_some]
          rw [m4,m3,g5]
          simp only [Option.bind_some,hrest,Option.map_some]
          first | rfl | skip
         ·rw [List.append_assoc,m5] at k4
          exact k4
theorem aa6 (hΘ:fk P Θ) (hY:au P Y) {ops:Array Oper} {D:wj}: ∀ (os:List Oper) (S:TS) (κ:TS→Option ρ) (r:ρ),S.ok→Y6 Θ Y os S κ=some r→
  ∃ S',N1 D P ops os S.st=some (TS.st S')∧S'.ok∧κ S'=some r:=by
 intro os
 induction os with
 | nil=>intro S κ r hS h; exact⟨S,rfl,hS,h⟩
 | cons o os ih=>
   intro S κ r hS h
   unfold Y6 at h
   cases hst:aA o with
   | false=>
     rw [hst] at h
     obtain⟨S',h1,h2,h3⟩:=ih S κ r hS h
     exact⟨S',by simp only [N1,hst,Bool.false_eq_true,if_false]; exact h1,h2,h3⟩
   | true=>
     rw [hst] at h
     simp only [cond_true] at h
     obtain⟨hc,h⟩:=aB h
     simp only [Bool.and_eq_true] at hc
     obtain⟨D',v,S1,g1,g2,g3,g4,h⟩:=To hΘ hY hS h
     obtain⟨S',h1,h2,h3⟩:=ih S1 κ r g3 h
     refine⟨S',?_,h2,h3⟩
     have hd:o.dst=none:=Option.isNone_iff_eq_none.1 hc.2
     have hs:j5 D P S.st o=some (v.av,S1.st):=by
      rw [←g2]
      obtain⟨dst,op,ty,pos,aft,gd⟩:=o
      cases op with
      | store t a x=>rfl
      | _=>cases hst
     have ho:one D P S.st o=some S1.st:=by
      unfold one
      rw [hs]
      simp only [Option.bind_some,hd,St.put]
     simp only [N1,hst,if_true,ho,Option.bind_some,h1]
     rw [if_pos ⟨hc.1,by rw [hd]; rfl⟩]
theorem aa7 (hΘ:fk P Θ): ∀ (os:List Oper) (S:TS) (κ:TS→Option ρ) (r:ρ),S.ok→Y5 Θ os S κ=some r→ ∃ S0,Qq P os S.st=some (TS.st S0)∧S0.ok∧κ S0=some r:=by
 intro os
 induction os with
 | nil=>intro S κ r hS h; exact⟨S,rfl,hS,h⟩
 | cons o os ih=>
   intro S κ r hS h
   unfold Y5 at h
   unfold Qq
   split at h
   ·rename_i t hop
    split at h
    ·rename_i ti hti
     obtain⟨S0,h1,h2,h3⟩:=ih { S with bx:=S.bx++ [ti.ty.zvs.map cC] } κ r ⟨hS.env,fun cs hcs c hc=>by
      rcases List.mem_append.1 hcs with h1 | h1
      ·exact hS.bx cs h1 c hc
      ·simp only [List.mem_singleton] at h1
       subst h1
       exact Zb _ _ c hc⟩ h
     refine⟨S0,?_,h2,h3⟩
     rw [hop]
     simp only [(hΘ _ _ hti).ze,Option.bind_some]
     rw [←h1]
     congr 1
     rw [Vz,Za]
     rfl
    ·cases h
   ·rename_i hno
    obtain⟨S0,h1,h2,h3⟩:=ih S κ r hS h
    exact⟨S0,by rw [←h1]; split <;> first | (rename_i t ht; exact absurd ht (hno t)) | rfl,h2,h3⟩
theorem VF {f g:TypeId→Bool} (h: ∀ t,f t=true→g t=true) {t:TypeId} {a:AV} (hs:PD f t a=true):PD g t a=true:=by
 cases a <;> simp only [PD] at hs ⊢ <;> first | exact h t hs | exact hs
theorem Tv {f g:TypeId→Bool} (h: ∀ t,f t=true→g t=true) {ops:List Oper} {B:List (List Nat)} {S SV:St} {i j:Nat} {oi oj:Oper} (hs:yz f ops B S SV i j oi oj=true):yz g ops B S SV i j oi oj=true:=by
 unfold yz at hs ⊢
 split at hs
 ·simp only [Bool.and_eq_true] at hs ⊢
  exact⟨VF h hs.1,hs.2⟩
 ·cases hs
theorem Tw {ops:List Oper} {B:List (List Nat)} {f g:Nat→Nat→Oper→Oper→Bool} (h: ∀ i j oi oj,f i j oi oj=true→g i j oi oj=true) (hs:DE ops B f=true):DE ops B g=true:=by
 unfold DE at hs ⊢
 refine List.all_eq_true.2 fun j hj=> ?_
 have h1:=List.all_eq_true.1 hs j hj
 split at h1
 ·cases h1
 ·simp only [Bool.or_eq_true] at h1 ⊢
  refine h1.imp id fun h1=>List.all_eq_true.2 fun i hi=> ?_
  have h2:=List.all_eq_true.1 h1 i hi
  split at h2
  ·cases h2
  ·simp only [Bool.or_eq_true] at h2 ⊢
   exact h2.imp id (h _ _ _ _)
theorem XH {f g:TypeId→Bool} (h: ∀ t,f t=true→g t=true) {ops:List Oper} {B:List (List Nat)} {S SV:St} {ms:List kh} (hs:U5 f ops B S ms SV=true):U5 g ops B S ms SV=true:=by
 unfold U5 at hs ⊢
 simp only [Bool.and_eq_true,Bool.or_eq_true] at hs ⊢
 exact⟨⟨hs.1.1,hs.1.2.imp (Tw fun _ _ _ _=>Tv h) id⟩,hs.2⟩
theorem aa8 (hΘ:fk P Θ) (t:TypeId) (h:Y7 Θ t=true):E0 P t=true:=by
 unfold Y7 at h
 split at h
 ·rename_i ti hti
  unfold E0
  rw [(hΘ t ti hti).sh]
  unfold Ty.flatB at h
  unfold Ty.shs
  rw [List.all_map,List.all_eq_true]
  intro x hx
  have:=List.all_eq_true.1 h x hx
  cases x with
  | none=>rfl
  | some e=>cases this
 ·cases h
theorem aa9 (hΘ:fk P Θ) (hY:au P Y) (hm:P.follows .mixedOrders=true) {id:Nat} {ops:Array Oper} (hok:G6 P ops=true) (hS:S.ok) {κ:TS→Option ρ} {r:ρ} (h:acl Θ Y ops.toList S κ=some r):
  vg P (.region id ops true) S.st (fun x S'=>x= .nor∧ ∃ S1:TS,S'=S1.st∧S1.ok∧κ S1=some r):=by
 unfold acl at h
 obtain⟨S0,h0,hS0,h⟩:=aa7 hΘ _ _ _ _ hS h
 obtain⟨D,SV,ms,h1,h2,h3,h4⟩:=aa5 hΘ hY _ _ _ _ _ hS0 h
 obtain⟨h5,h6⟩:=aB h4
 rw [List.nil_append] at h5
 obtain⟨S',h7,h8,h9⟩:=aa6 (D:=D) (ops:=ops) hΘ hY _ _ _ _ h3 h6
 exact vg.draw h1 hm hok h0 h2 (XH (aa8 hΘ) h5) h7 ⟨rfl,S',rfl,h8,h9⟩
def gb:Code→List Code
 | .seq a b=>gb a++gb b
 | .cond _ a b=>gb a++gb b
 | .block _ c=>gb c
 | .loop c=> [c]
 | _=> []
def iY (P:Program) (Λ:tu) (cs:List Code):Prop:= ∀ c∈cs,∀ (S:TS) (ρ:Type) (κ:X→TS→Option ρ) (r:ρ),S.ok→Λ (bU c) S ρ κ=some r→vg P (.loop c) S.st (fun x S'=> ∃ S1:TS,S'=S1.st∧S1.ok∧κ x S1=some r)
theorem Fm (hΘ:fk P Θ) (hY:au P Y) (hm:P.follows .mixedOrders=true) {Λ:tu}: ∀ (c:Code) (S:TS) (κ:X→TS→Option ρ) (r:ρ),oS P c=true→iY P Λ (gb c)→S.ok→ez Θ Y Λ c S κ=some r→
  vg P c S.st (fun x S'=> ∃ S1:TS,S'=S1.st∧S1.ok∧κ x S1=some r):=by
 intro c
 induction c with
 | skip=>intro S κ r _ _ hS h; exact vg.skip ⟨S,rfl,hS,h⟩
 | exit i=>intro S κ r _ _ hS h; exact vg.exit ⟨S,rfl,hS,h⟩
 | ret=>intro S κ r _ _ hS h; exact vg.ret ⟨S,rfl,hS,h⟩
 | region id ops dr=>
   intro S κ r hok _ hS h
   cases dr with
   | false=>exact vg.region (aaY hΘ hY _ _ _ _ (fun o ho=>List.all_eq_true.1 hok o ho) hS h)
   | true=>
     refine (aa9 hΘ hY hm hok hS h).mono (fun x S' hx=> ?_)
     obtain⟨rfl,hx⟩:=hx
     exact⟨S',tj.refl,hx⟩
 | seq a b iha ihb=>
   intro S κ r hok hL hS h
   simp only [oS,Bool.and_eq_true] at hok
   have hLa:iY P Λ (gb a):=fun c hc=>hL c (List.mem_append_left _ hc)
   have hLb:iY P Λ (gb b):=fun c hc=>hL c (List.mem_append_right _ hc)
   unfold ez at h
   refine vg.seq ((iha S _ r hok.1 hLa hS h).mono (fun x S' hx=>⟨S',tj.refl,?_⟩))
   obtain⟨S1,rfl,h1,h2⟩:=hx
   cases x with
   | nor=>exact ihb S1 κ r hok.2 hLb h1 h2
   | ret=>exact⟨S1,rfl,h1,h2⟩
   | ext i=>exact⟨S1,rfl,h1,h2⟩
 | cond t a b iha ihb=>
   intro S κ r hok hL hS h
   simp only [oS,Bool.and_eq_true] at hok
   have hLa:iY P Λ (gb a):=fun c hc=>hL c (List.mem_append_left _ hc)
   have hLb:iY P Λ (gb b):=fun c hc=>hL c (List.mem_append_right _ hc)
   unfold ez at h
   obtain⟨v,S1,h1,h2,h3,h4,h⟩:=LY hS h
   refine vg.cond h1 ?_
   rw [←h2]
   cases v with
   | true=>exact iha S1 κ r hok.1 hLa h3 h
   | false=>exact ihb S1 κ r hok.2 hLb h3 h
 | block i c ih=>
   intro S κ r hok hL hS h
   unfold ez at h
   refine vg.block ((ih S _ r hok hL hS h).mono (fun x S' hx=>⟨S',tj.refl,?_⟩))
   obtain⟨S1,rfl,h1,h2⟩:=hx
   cases x with
   | nor=>exact⟨S1,rfl,h1,h2⟩
   | ret=>exact⟨S1,rfl,h1,h2⟩
   | ext j=>
     simp only at h2 ⊢
     cases hb:Nat.beq j i with
     | true=>
       rw [hb] at h2
       rw [if_pos (Nat.eq_of_beq_eq_true hb)]
       exact⟨S1,rfl,h1,h2⟩
     | false=>
       rw [hb] at h2
       rw [if_neg (by intro e; subst e; rw [Nat.beq_refl] at hb; cases hb)]
       exact⟨S1,rfl,h1,h2⟩
 | loop c ih=>
   intro S κ r hok hL hS h
   exact hL c (List.mem_singleton.2 rfl) S ρ κ r hS h
 | _=>intro S κ r hok; cases hok
end
end Go.Proofs.YtkcgfceffffmoaaGreat.En
namespace Go.Proofs.YtkcgfceffffmoaaGreat.En
open Go
section
variable {ρ:Type} {P:Program} {Θ:to} {S:TS} {Y:Fe}
theorem WT (hS:S.ok) {gs:List cc} {et:Option Ty} {c:Cl} (hc:c.ok S.gh) {κ:Cl→List cc→TS→Option ρ} {r:ρ} (h:aaJ S gs et c κ=some r):
  ∃ c' gs' S',Jz S.st (gs.map cc.tree) (U2 et) c.av=some (Cl.av c',gs'.map cc.tree,TS.st S')∧S'.ok∧jL S.gh S'.gh∧jL (gs.map some) (gs'.map some)∧c'.ok (gs'.map some)∧κ c' gs' S'=some r:=by
 have new: ∀ (t:Ty) (l:List t.D) (n:Nat),n=l.length→(Cl.own ⟨gs.length,[]⟩ t.width 0 n true).ok ((gs++ [(⟨t,l,none⟩:cc)]).map some):=by
  intro t l n hn
  refine⟨by simp,fun _=>⟨rfl,rfl,fun tr htr=> ?_⟩⟩
  rw [List.map_append] at htr
  have e:=oV (G:=gs.map some) (x:=some (⟨t,l,none⟩:cc)) gs.length
  simp only [List.length_map,if_true] at e
  have htr':dG (gs.map some++ [some (⟨t,l,none⟩:cc)]) gs.length=some tr:=htr
  rw [e] at htr'
  cases htr'
  exact hn
 have grow: ∀ (x:cc),jL (gs.map some) ((gs++ [x]).map some):=fun x=>by rw [List.map_append]; exact jL.app _ _
 unfold aaJ at h
 split at h
 ·refine⟨_,_,_,rfl,hS,jL.refl _,jL.refl _,?_,h⟩
  trivial
 ·rename_i t
  refine⟨_,_,S,?_,hS,jL.refl _,grow _,new t [] 0 rfl,h⟩
  simp only [Cl.av,Jz,U2,List.length_map,List.map_append,List.map_cons,List.map_nil]
  rfl
 ·rename_i p sz lo len w t'
  obtain⟨pr,pl⟩:=p
  cases pl with
  | cons a l=>cases h
  | nil=>
    simp only at h
    obtain⟨h1,h'⟩:=aB h
    clear h
    simp only [Bool.and_eq_true] at h1
    have h2:S.fz≤pr:=Nat.le_of_ble_eq_true h1.1
    have h3:t'.width=sz:=Nat.eq_of_beq_eq_true h1.2
    obtain⟨t,l,k1,k2,h⟩:=gm h'
    obtain⟨k3,h⟩:=aB h
    have k3:t.width=sz:=Nat.eq_of_beq_eq_true k3
    have fin: ∀ (len:Nat),len≤l.length→Jz S.st (gs.map cc.tree) (U2 (some t')) (.own ⟨pr,[]⟩ sz 0 len)=some (.own ⟨gs.length,[]⟩ sz 0 len,(gs++ [(⟨t,l.take len,none⟩:cc)]).map cc.tree,({ S with gh:=dS S.gh pr none }:TS).st):=by
     intro len hlen
     simp only [Jz]
     have hrows:S.st.rows ⟨pr,[]⟩ sz=some (l.map t.row):=by rw [←k3]; exact oz k1
     rw [if_pos ⟨trivial,by show sz=t'.width; exact h3.symm,trivial,h2⟩,hrows]
     simp only [Option.bind_some,List.length_map]
     rw [if_pos hlen,Fh]
     simp only [U2,h3,List.map_append,List.map_cons,List.map_nil,cc.tree,List.map_take,k3]
    cases w with
    | true=>
      obtain⟨e1,e2,e3⟩:=AQ hc k2
      refine⟨_,_,_,?_,TS.ok_gh hS (jL.gone _ _),jL.gone _ _,grow _,by rw [←k3]; exact new t l _ rfl,h⟩
      have:=fin l.length (Nat.le_refl _)
      rw [List.take_length] at this
      simp only [Cl.av]
      rw [e2,e3]
      exact this
    | false=>
      simp only [cond_false] at h
      obtain⟨h4,h⟩:=dT h
      refine⟨_,_,_,?_,TS.ok_gh hS (jL.gone _ _),jL.gone _ _,grow _,by rw [←k3]; exact new t (l.take len) _ rfl,h⟩
      have hl: (l.take len).length=len:=by simp; omega
      simp only [Cl.av]
      rw [h4.1,hl]
      exact fin len h4.2
 ·cases h
theorem ZA: ∀ (ets:List (Option Ty)) (cs:List Cl) (S:TS) (gs:List cc) (κ:List Cl→List cc→TS→Option ρ) (r:ρ),S.ok→(∀ c∈cs,c.ok S.gh)→WH S gs ets cs κ=some r→
  ∃ cs' gs' S',yy S.st (gs.map cc.tree) (ets.map U2) (cs.map Cl.av)=some (cs'.map Cl.av,gs'.map cc.tree,TS.st S')∧S'.ok∧jL S.gh S'.gh∧jL (gs.map some) (gs'.map some)∧(∀ c∈cs',c.ok (gs'.map some))∧κ cs' gs' S'=some r:=by
 intro ets
 induction ets with
 | nil=>
   intro cs S gs κ r hS hcs h
   cases cs with
   | nil=>exact⟨[],gs,S,rfl,hS,jL.refl _,jL.refl _,(fun c hc=>by cases hc),h⟩
   | cons c cs=>cases h
 | cons et ets ih=>
   intro cs S gs κ r hS hcs h
   cases cs with
   | nil=>cases h
   | cons c cs=>
     unfold WH at h
     obtain⟨c',g1,S1,h1,h2,h3,h4,h5,h⟩:=WT hS (hcs c List.mem_cons_self) h
     obtain⟨cs',g2,S2,k1,k2,k3,k4,k5,h⟩:=ih cs S1 g1 _ r h2 (fun x hx=>Cl.ok_mono h3 (hcs x (List.mem_cons_of_mem _ hx))) h
     refine⟨c'::cs',g2,S2,?_,k2,h3.trans k3,h4.trans k4,fun x hx=> ?_,h⟩
     ·simp only [List.map_cons,yy,h1,Option.bind_some,k1,Option.map_some]
     ·rcases List.mem_cons.1 hx with rfl | hx
      ·exact Cl.ok_mono k4 h5
      ·exact k5 x hx
theorem aba (hΘ:fk P Θ) (hS:S.ok) {gs:List cc} {t:TypeId} {v:V} (hv:v.ok S.gh) {κ:V1→List cc→TS→Option ρ} {r:ρ} (h:acm Θ S gs t v κ=some r):
  ∃ v' gs' S',Xf P S.st (gs.map cc.tree) t v.av=some (V1.av v',gs'.map cc.tree,TS.st S')∧S'.ok∧jL S.gh S'.gh∧jL (gs.map some) (gs'.map some)∧v'.ok (gs'.map some)∧κ v' gs' S'=some r:=by
 unfold acm at h
 split at h
 ·cases h
 ·rename_i ti hti
  have hsh:=(hΘ _ _ hti).sh
  split at h
  ·rename_i cs
   obtain⟨cs',g1,S1,h1,h2,h3,h4,h5,h⟩:=ZA _ _ _ _ _ _ hS hv h
   refine⟨.agg cs',g1,S1,?_,h2,h3,h4,h5,h⟩
   simp only [V.av,V1.av,Xf,hsh]
   rw [show ti.ty.shs=ti.ty.csh.map U2 from rfl,h1]
   rfl
  ·rename_i c
   obtain⟨c',g1,S1,h1,h2,h3,h4,h5,h⟩:=WT hS hv h
   refine⟨.cl c',g1,S1,?_,h2,h3,h4,h5,h⟩
   have e:Xf P S.st (gs.map cc.tree) t (V.v (.cl c)).av=Jz S.st (gs.map cc.tree) ((th P 9 t).headD 0) c.av:=by
    cases c with
    | c x=>cases x <;> rfl
    | _=>rfl
   rw [e,hsh]
   have e2:ti.ty.shs.headD 0=U2 (ti.ty.csh.headD none):=by
    unfold Ty.shs
    cases ti.ty.csh with
    | nil=>rfl
    | cons a l=>cases a <;> rfl
   rw [e2]
   exact h1
  ·cases h
theorem Md (hΘ:fk P Θ): ∀ (rs:List (TypeId×V)) (S:TS) (gs:List cc) (κ:List V1→List cc→Option ρ) (r:ρ),S.ok→(∀ x∈rs,x.2.ok S.gh)→xG Θ S gs rs κ=some r→
  ∃ vs gs',Sl P S.st (gs.map cc.tree) (rs.map fun x=>(x.1,x.2.av))=some (vs.map V1.av,gs'.map cc.tree)∧jL (gs.map some) (gs'.map some)∧(∀ v∈vs,v.ok (gs'.map some))∧vs.length=rs.length∧κ vs gs'=some r:=by
 intro rs
 induction rs with
 | nil=>intro S gs κ r hS hrs h; exact⟨[],gs,rfl,jL.refl _,(fun v hv=>by cases hv),rfl,h⟩
 | cons x rs ih=>
   intro S gs κ r hS hrs h
   obtain⟨t,v⟩:=x
   unfold xG at h
   obtain⟨v',g1,S1,h1,h2,h3,h4,h5,h⟩:=aba hΘ hS (hrs _ List.mem_cons_self) h
   obtain⟨vs,g2,k1,k2,k3,k4,h⟩:=ih S1 g1 _ r h2 (fun x hx=>V.ok_mono h3 (hrs x (List.mem_cons_of_mem _ hx))) h
   refine⟨v'::vs,g2,?_,h4.trans k2,fun y hy=> ?_,by simp [k4],h⟩
   ·simp only [List.map_cons,Sl,h1,Option.bind_some,k1,Option.map_some]
   ·rcases List.mem_cons.1 hy with rfl | hy
    ·exact V1.ok_mono k2 h5
    ·exact k3 y hy
theorem QV (hΘ:fk P Θ) (hS:S.ok): ∀ (rs:List ResultVar) (ts:List TypeId) (κ:List (TypeId×V)→Option ρ) (r:ρ),JE Θ S rs ts κ=some r→
  ∃ l:List (TypeId×V),rs.mapM (Fc P S.st)=some (l.map fun x=>x.2.av)∧l.map (·.1)=ts∧(∀ x∈l,x.2.ok S.gh)∧κ l=some r:=by
 intro rs
 induction rs with
 | nil=>
   intro ts κ r h
   cases ts with
   | nil=>exact⟨[],rfl,rfl,(fun x hx=>by cases hx),h⟩
   | cons t ts=>cases h
 | cons a rs ih=>
   intro ts κ r h
   cases ts with
   | nil=>cases a <;> cases h
   | cons t ts=>
     cases a with
     | tmp a=>
       unfold JE at h
       obtain⟨l,h1,h2,h3,h⟩:=ih ts _ r h
       refine⟨(t,ki S.env a)::l,?_,by simp [h2],fun x hx=> ?_,h⟩
       ·simp only [List.mapM_cons,h1,Fc]
        rfl
       ·rcases List.mem_cons.1 hx with rfl | hx
        ·exact K7 hS a
        ·exact h3 x hx
     | cell a t'=>
       unfold JE at h
       have hw:0 < P.cellsOf t':=by
        have h':=h
        unfold S5 at h'
        split at h'
        ·rename_i ti hti
         rw [(hΘ _ _ hti).cells]
         exact Ty.width_pos _
        ·cases h'
       obtain⟨u,g1,g2,h⟩:=Tg hΘ hS (K7 hS a) h
       obtain⟨l,h1,h2,h3,h⟩:=ih ts _ r h
       refine⟨(t,u)::l,?_,by simp [h2],fun x hx=> ?_,h⟩
       ·simp only [List.mapM_cons,h1,Fc]
        rw [if_pos hw]
        have :load P S.st t' (S.st.env a)=some u.av:=g1
        rw [this]
        rfl
       ·rcases List.mem_cons.1 hx with rfl | hx
        ·exact g2
        ·exact h3 x hx
theorem K9 {α β γ:Type} (f:α×β→γ): ∀ l:List (α×β),(l.map (·.1)).zip (l.map f)=l.map fun x=>(x.1,f x)
 | [] =>rfl
 | a::l=>by simp only [List.map_cons,List.zip_cons_cons,K9 f l]
theorem QW (vs:List V1): (Cy vs).av=ac8 (vs.map V1.av):=by
 match vs with
 | [] =>rfl
 | [v] =>rfl
 | v::u::vs=>rfl
theorem DR: ∀ (args:List V1) (n t:Nat),(ki (oT n args) (n+t)).av=(args.map V1.av).getD t .dead
 | [],n,t=>by simp [oT,ki]; rfl
 | a::l,n,0=>by simp [oT,ki]; rfl
 | a::l,n,t+1=>by
   have :Nat.beq n (n+(t+1))=false:=by
    cases h:Nat.beq n (n+(t+1)) with
    | false=>rfl
    | true=>have:=Nat.eq_of_beq_eq_true h; omega
   simp only [oT,ki,this,cond_false]
   rw [show n+(t+1)=(n+1)+t by omega,DR l (n+1) t]
   simp
theorem yI: ∀ (args:List V1) (n:Nat) (x:Nat×V),x∈oT n args→ ∃ a∈args,x.2= .v a
 | [],n,x,h=>by cases h
 | a::l,n,x,h=>by
   simp only [oT,List.mem_cons] at h
   rcases h with rfl | h
   ·exact⟨a,List.mem_cons_self,rfl⟩
   ·obtain⟨b,hb,he⟩:=yI l (n+1) x h
    exact⟨b,List.mem_cons_of_mem _ hb,he⟩
theorem acr (hΘ:fk P Θ) (hY:au P Y) (hm:P.follows .mixedOrders=true) {Λ:tu} {f:FuncId} {fn:Func} (hf:WD P f=some fn) (hL: ∀ c,fn.body=some c→iY P Λ (gb c)) {args:List V1} (ha: ∀ a∈args,a.ok []) {res:V} {out:List cc}
  (h:fnK Θ Y Λ fn args (fun v g=>some (v,g))=some (res,out)):w6 P f (args.map V1.av) [] res.av (out.map cc.tree):=by
 unfold fnK at h
 split at h
 ·cases h
 ·rename_i c hc
  have hcok:oS P c=true:=by
   unfold WD at hf
   simp only [Option.bind_eq_some_iff] at hf
   obtain⟨fn',g1,g2⟩:=hf
   split at g2
   ·cases g2
   ·rename_i c' hc'
    split at g2
    ·cases g2
    ·rename_i hn
     simp only [Option.some.injEq] at g2
     subst g2
     rw [hc] at hc'
     simp only [Option.some.injEq] at hc'
     subst hc'
     simp only [Bool.or_eq_true,not_or,Bool.not_eq_true,Bool.not_eq_false'] at hn
     exact hn.2
  have hS0: ({ env:=oT 0 args,bx:= [],gh:= [],fz:=0,nt:=args.length+(fn.ntmps - args.length) }:TS).ok:=
   ⟨fun x hx=>by obtain⟨a,h1,h2⟩:=yI _ _ _ hx; rw [h2]; exact ha a h1,fun cs hcs=>by cases hcs⟩
  have hbeg: ({ env:=oT 0 args,bx:= [],gh:= [],fz:=0,nt:=args.length+(fn.ntmps - args.length) }:TS).st=LL fn.ntmps (args.map V1.av) [] :=by
   unfold TS.st LL
   simp only [List.length_map,List.length_nil]
   congr 1
   funext t
   have:=DR args 0 t
   rw [Nat.zero_add] at this
   exact this
  have hW:=Fm hΘ hY hm c _ _ _ hcok (hL c hc) hS0 h
  rw [hbeg] at hW
  have bU: ∀ (x:X) (S1:TS),S1.ok→(match x with | .ext _=>none | _=>JE Θ S1 fn.results.toList fn.resultTypes.toList fun rs=>xG Θ S1 [] rs fun vs gs=>some (Cy vs,gs))=some (res,out)→
    (match x with | .ext _=>False | _=>Fd P fn.results.toList fn.resultTypes.toList 0 S1.st=some (res.av,out.map cc.tree)):=by
   intro x S1 hS1 h
   have main: (JE Θ S1 fn.results.toList fn.resultTypes.toList fun rs=>xG Θ S1 [] rs fun vs gs=>some (Cy vs,gs))=some (res,out)→Fd P fn.results.toList fn.resultTypes.toList 0 S1.st=some (res.av,out.map cc.tree):=by
    intro h
    obtain⟨l,h1,h2,h3,h⟩:=QV (P:=P) hΘ hS1 _ _ _ _ h
    obtain⟨vs,gs',k1,k2,k3,k4,h⟩:=Md (P:=P) hΘ _ _ _ _ _ hS1 h3 h
    simp only [Option.some.injEq,Prod.mk.injEq] at h
    obtain⟨rfl,rfl⟩:=h
    unfold Fd
    rw [h1]
    simp only [Option.bind_some,List.length_map]
    have hz: (fn.resultTypes.toList.zip (l.map fun x=>x.2.av))=l.map fun x=>(x.1,x.2.av):=by
     rw [←h2]
     exact K9 _ l
    rw [if_pos (by rw [←h2]; simp),hz]
    have k1':Sl P S1.st [] (l.map fun x=>(x.1,x.2.av))=some (vs.map V1.av,gs'.map cc.tree):=k1
    simp only [List.range_zero,List.map_nil,k1',Option.map_some,QW]
   cases x with
   | ext i=>cases h
   | nor=>exact main h
   | ret=>exact main h
  refine SS hf hc (hW.mono (fun x S' hx=>⟨S',tj.refl,?_⟩))
  obtain⟨S1,rfl,h1,h2⟩:=hx
  have:=bU x S1 h1 h2
  cases x <;> exact this
theorem IZ (a:List V1) (t:Nat): (ki (oT 0 a) t).av=(a.map V1.av).getD t .dead:=by
 have:=DR a 0 t
 rwa [Nat.zero_add] at this
theorem WU (hΘ:fk P Θ) (hY:au P Y) (hm:P.follows .mixedOrders=true) {Λ:tu} {f:FuncId} {fn:Func} (hf:WD P f=some fn) (hL: ∀ c,fn.body=some c→iY P Λ (gb c)) {m:Nat} (hm1:m≤1) {el:Ty} {l:List el.D} {args:List V1} (ha: ∀ a∈args,a.ok []) {res:V} {out:List cc}
  (h:aaK Θ Y Λ fn m el l args (fun v g=>some (v,g))=some (res,out)):qv P f (.own ⟨0,[]⟩ el.width 0 l.length::args.map V1.av) [.sl el.width (l.map el.row)] m res.av (out.map cc.tree):=by
 unfold aaK at h
 split at h
 ·cases h
 ·rename_i c hc
  have hcok:oS P c=true:=by
   unfold WD at hf
   simp only [Option.bind_eq_some_iff] at hf
   obtain⟨fn',g1,g2⟩:=hf
   split at g2
   ·cases g2
   ·rename_i c' hc'
    split at g2
    ·cases g2
    ·rename_i hn
     simp only [Option.some.injEq] at g2
     subst g2
     rw [hc] at hc'
     simp only [Option.some.injEq] at hc'
     subst hc'
     simp only [Bool.or_eq_true,not_or,Bool.not_eq_true,Bool.not_eq_false'] at hn
     exact hn.2
  have hS0: ({ env:=oT 0 (.cl (.own ⟨0,[]⟩ el.width 0 l.length true)::args),bx:= [],gh:= [some ⟨el,l,none⟩],fz:=m,nt:=(args.length+1)+(fn.ntmps - (args.length+1)) }:TS).ok:=
   ⟨fun x hx=>by
    obtain⟨a,h1,h2⟩:=yI _ _ _ hx
    rw [h2]
    rcases List.mem_cons.1 h1 with rfl | h1
    ·refine⟨Nat.zero_lt_one,fun _=>⟨rfl,rfl,fun tr htr=> ?_⟩⟩
     have htr:some (⟨el,l,none⟩:cc)=some tr:=htr
     cases htr
     rfl
    ·exact V1.ok_mono (G:= []) ⟨Nat.zero_le _,fun r tr hr=>by cases hr⟩ (ha a h1),fun cs hcs=>by cases hcs⟩
  have hbeg: ({ env:=oT 0 (.cl (.own ⟨0,[]⟩ el.width 0 l.length true)::args),bx:= [],gh:= [some ⟨el,l,none⟩],fz:=m,nt:=(args.length+1)+(fn.ntmps - (args.length+1)) }:TS).st=SW fn.ntmps (.own ⟨0,[]⟩ el.width 0 l.length::args.map V1.av) [.sl el.width (l.map el.row)] m:=by
   unfold TS.st SW LL
   simp only [List.length_map,List.length_cons,List.length_nil]
   congr 1
   ·funext t
    exact IZ _ t
   ·funext r
    show (dG [some ⟨el,l,none⟩] r).map cc.tree= [T.sl el.width (l.map el.row)][r]?
    unfold dG
    rw [ej]
    cases r <;> rfl
  have hW:=Fm hΘ hY hm c _ _ _ hcok (hL c hc) hS0 h
  rw [hbeg] at hW
  have fin: ∀ (S1:TS),S1.ok→ ∀ gs:List cc,((List.range m).map fun r=>(S1.st.gh r).getD .dd)=gs.map cc.tree→ ∀ l,(fn.results.toList.mapM (Fc P S1.st))=some (l.map fun x:TypeId×V=>x.2.av)→l.map (·.1)=fn.resultTypes.toList→(∀ x∈l,x.2.ok S1.gh)→
    (xG Θ S1 gs l fun vs gs=>some (Cy vs,gs))=some (res,out)→Fd P fn.results.toList fn.resultTypes.toList m S1.st=some (res.av,out.map cc.tree):=by
   intro S1 hS1 gs hgs l h1 h2 h3 h
   obtain⟨vs,gs',k1,k2,k3,k4,h⟩:=Md (P:=P) hΘ _ _ _ _ _ hS1 h3 h
   simp only [Option.some.injEq,Prod.mk.injEq] at h
   obtain⟨rfl,rfl⟩:=h
   unfold Fd
   rw [h1]
   simp only [Option.bind_some,List.length_map]
   have hz: (fn.resultTypes.toList.zip (l.map fun x=>x.2.av))=l.map fun x=>(x.1,x.2.av):=by
    rw [←h2]
    exact K9 _ l
   rw [if_pos (by rw [←h2]; simp),hz,hgs,k1]
   simp only [Option.map_some,QW]
  have main: ∀ (S1:TS),S1.ok→(JE Θ S1 fn.results.toList fn.resultTypes.toList fun rs=>bif Nat.beq m 0 then xG Θ S1 [] rs fun vs gs=>some (Cy vs,gs) else match dG S1.gh 0 with
    | some ⟨t,l',none⟩=>xG Θ S1 [⟨t,l',none⟩] rs fun vs gs=>some (Cy vs,gs)
    | _=>none)=some (res,out)→Fd P fn.results.toList fn.resultTypes.toList m S1.st=some (res.av,out.map cc.tree):=by
   intro S1 hS1 h0
   obtain⟨l,h1,h2,h3,h⟩:=QV (P:=P) hΘ hS1 _ _ _ _ h0
   clear h0
   cases hm0:Nat.beq m 0 with
   | true=>
     rw [hm0] at h
     have e:m=0:=Nat.eq_of_beq_eq_true hm0
     exact fin S1 hS1 [] (by rw [e]; rfl) l h1 h2 h3 h
   | false=>
     rw [hm0] at h
     simp only [cond_false] at h
     have e:m=1:=by
      have :m≠0:=fun e=>by rw [e] at hm0; cases hm0
      omega
     split at h
     ·rename_i t l' hg
      exact fin S1 hS1 [⟨t,l',none⟩] (by
       rw [e]
       show [(S1.st.gh 0).getD .dd] =_
       have :S1.st.gh 0=some (cc.tree ⟨t,l',none⟩):=by
        show (dG S1.gh 0).map cc.tree=_
        rw [hg]
        rfl
       rw [this]
       rfl) l h1 h2 h3 h
     ·cases h
  refine IU hf hc (by simpa using hm1) (hW.mono (fun x S' hx=>⟨S',tj.refl,?_⟩))
  obtain⟨S1,rfl,h1,h2⟩:=hx
  cases x with
  | ext i=>cases h2
  | nor=>exact main S1 h1 h2
  | ret=>exact main S1 h1 h2
theorem VG (P:Program) (S:TS): ∀ (n r:Nat) (gs:List cc),Cd S r n=some gs→((List.range' r n).map fun r=>(S.st.gh r).getD .dd)=gs.map cc.tree:=by
 intro n
 induction n with
 | zero=>
   intro r gs h
   simp only [Cd,Option.some.injEq] at h
   subst h
   rfl
 | succ n ih=>
   intro r gs h
   simp only [Cd] at h
   split at h
   ·rename_i t l hg
    split at h
    ·rename_i ts hts
     simp only [Option.some.injEq] at h
     subst h
     rw [List.range'_succ,List.map_cons,List.map_cons,ih _ _ hts]
     congr 1
     show ((dG S.gh r).map cc.tree).getD .dd=_
     rw [hg]
     rfl
    ·cases h
   ·cases h
theorem Fn: ∀ (cs:List C) (n:Nat) (G:List (Option cc)),(∀ k t,(qy cs)[k]? =some t→dG G (n+k)=some t)→ ∀ c∈Aj cs n,c.ok G
 | [],n,G,h,c,hc=>by cases hc
 | .sc v::r,n,G,h,c,hc=>by
   simp only [Aj,List.mem_cons] at hc
   rcases hc with rfl | hc
   ·trivial
   ·exact Fn r n G h c hc
 | .ls t l::r,n,G,h,c,hc=>by
   simp only [Aj,List.mem_cons] at hc
   have h0:=h 0 ⟨t,l,none⟩ rfl
   rw [Nat.add_zero] at h0
   rcases hc with rfl | hc
   ·refine⟨yH h0,fun _=>⟨rfl,rfl,fun tr htr=> ?_⟩⟩
    have e:some (⟨t,l,none⟩:cc)=some tr:=h0.symm.trans htr
    cases e
    rfl
   ·exact Fn r (n+1) G (fun k t' hk=>by
     have:=h (k+1) t' (by simpa [qy] using hk)
     rwa [show n+(k+1)=n+1+k by omega] at this) c hc
theorem abc (hΘ:fk P Θ) (hY:au P Y) (hm:P.follows .mixedOrders=true) {Λ:tu} {f:FuncId} {fn:Func} (hf:WD P f=some fn) (hL: ∀ c,fn.body=some c→iY P Λ (gb c)) {t:Ty} {x:t.D} {args:List V1} (ha: ∀ a∈args,a.ok []) {res:V} {out:List cc}
  (h:acp Θ Y Λ fn t x args (fun v g=>some (v,g))=some (res,out)):qv P f ((LX t x 0).av::args.map V1.av) ((qy (t.flat x)).map cc.tree) (bif true then (qy (t.flat x)).length else 0) res.av (out.map cc.tree):=by
 unfold acp at h
 split at h
 ·cases h
 ·rename_i c hc
  have hcok:oS P c=true:=by
   unfold WD at hf
   simp only [Option.bind_eq_some_iff] at hf
   obtain⟨fn',g1,g2⟩:=hf
   split at g2
   ·cases g2
   ·rename_i c' hc'
    split at g2
    ·cases g2
    ·rename_i hn
     simp only [Option.some.injEq] at g2
     subst g2
     rw [hc] at hc'
     simp only [Option.some.injEq] at hc'
     subst hc'
     simp only [Bool.or_eq_true,not_or,Bool.not_eq_true,Bool.not_eq_false'] at hn
     exact hn.2
  generalize hgs:qy (t.flat x)=gs0 at*
  have hgh0: ∀ k t',gs0[k]? =some t'→dG (gs0.map some) (0+k)=some t':=by
   intro k t' hk
   unfold dG
   rw [ej,Nat.zero_add,List.getElem?_map,hk]
   rfl
  have h1ok: (LX t x 0).ok (gs0.map some):=by
   unfold LX
   cases t.ag with
   | true=>
     intro c hc
     exact Fn (t.flat x) 0 _ (by rw [hgs]; exact hgh0) c hc
   | false=>
     simp only [cond_false]
     split
     ·rename_i c hc
      exact Fn (t.flat x) 0 _ (by rw [hgs]; exact hgh0) c (by rw [hc]; exact List.mem_singleton.2 rfl)
     ·trivial
  have hS0: ({ env:=oT 0 (LX t x 0::args),bx:= [],gh:=gs0.map some,fz:=gs0.length,nt:=(args.length+1)+(fn.ntmps - (args.length+1)) }:TS).ok:=
   ⟨fun x hx=>by
    obtain⟨a,h1,h2⟩:=yI _ _ _ hx
    rw [h2]
    rcases List.mem_cons.1 h1 with rfl | h1
    ·exact h1ok
    ·exact V1.ok_mono (G:= []) ⟨Nat.zero_le _,fun r tr hr=>by cases hr⟩ (ha a h1),fun cs hcs=>by cases hcs⟩
  have hbeg: ({ env:=oT 0 (LX t x 0::args),bx:= [],gh:=gs0.map some,fz:=gs0.length,nt:=(args.length+1)+(fn.ntmps - (args.length+1)) }:TS).st=SW fn.ntmps ((LX t x 0).av::args.map V1.av) (gs0.map cc.tree) gs0.length:=by
   unfold TS.st SW LL
   simp only [List.length_map,List.length_cons]
   congr 1
   ·funext t
    exact IZ _ t
   ·funext r
    show (dG (gs0.map some) r).map cc.tree=(gs0.map cc.tree)[r]?
    unfold dG
    rw [ej,List.getElem?_map,List.getElem?_map]
    cases gs0[r]? <;> rfl
  have hW:=Fm hΘ hY hm c _ _ _ hcok (hL c hc) hS0 h
  rw [hbeg] at hW
  have main: ∀ (S1:TS),S1.ok→(JE Θ S1 fn.results.toList fn.resultTypes.toList fun rs=>match Cd S1 0 gs0.length with
    | some gs=>xG Θ S1 gs rs fun vs gs'=>some (Cy vs,gs')
    | none=>none)=some (res,out)→Fd P fn.results.toList fn.resultTypes.toList gs0.length S1.st=some (res.av,out.map cc.tree):=by
   intro S1 hS1 h0
   obtain⟨l,h1,h2,h3,h⟩:=QV (P:=P) hΘ hS1 _ _ _ _ h0
   clear h0
   split at h
   ·rename_i gs hgs'
    have hgs2:=VG P S1 _ _ _ hgs'
    rw [←List.range_eq_range'] at hgs2
    obtain⟨vs,gs',k1,k2,k3,k4,h⟩:=Md (P:=P) hΘ _ _ _ _ _ hS1 h3 h
    simp only [Option.some.injEq,Prod.mk.injEq] at h
    obtain⟨rfl,rfl⟩:=h
    unfold Fd
    rw [h1]
    simp only [Option.bind_some,List.length_map]
    have hz: (fn.resultTypes.toList.zip (l.map fun x=>x.2.av))=l.map fun x=>(x.1,x.2.av):=by
     rw [←h2]
     exact K9 _ l
    rw [if_pos (by rw [←h2]; simp),hz,hgs2,k1]
    simp only [Option.map_some,QW]
   ·cases h
  refine IU hf hc (by simp) (hW.mono (fun x S' hx=>⟨S',tj.refl,?_⟩))
  obtain⟨S1,rfl,h1,h2⟩:=hx
  cases x with
  | ext i=>cases h2
  | nor=>exact main S1 h1 h2
  | ret=>exact main S1 h1 h2
end
end Go.Proofs.YtkcgfceffffmoaaGreat.En
namespace Go.Proofs.YtkcgfceffffmoaaGreat.En
open Go
def JF:List Nat→Nat→Nat→Option Nat
 | [],_,_=>none
 | a::l,x,n=>bif Nat.beq a x then some n else JF l x (n+1)
def DS (bs ls:List Nat):Cl→Cl
 | .own p sz lo len w=>match JF ls p.r 0 with | some k=> .own ⟨k,p.l⟩ sz lo len w | none=> .dead
 | .ptrT p sz i j=>match JF ls p.r 0 with | some k=> .ptrT ⟨k,p.l⟩ sz i j | none=> .dead
 | .ptrB n j=>match JF bs n 0 with | some k=> .ptrB k j | none=> .dead
 | c=>c
def ZB (bs ls:List Nat):V1→V1
 | .cl c=> .cl (DS bs ls c)
 | .agg cs=> .agg (cs.map (DS bs ls))
 | .fn f cs=> .fn f (cs.map (DS bs ls))
def ZC (bs ls:List Nat):V→V
 | .v x=> .v (ZB bs ls x)
 | .tup _=>V.dead
def WV:List Nat→List Nat→List Nat
 | [],acc=>acc
 | a::l,acc=>match JF acc a 0 with | some _=>WV l acc | none=>WV l (acc++ [a])
def Me:List Nat→Bool
 | [] =>true
 | a::l=>(match JF l a 0 with | some _=>false | none=>true)&&Me l
def ad7:Cl→List Nat | .ptrB n _=> [n] | _=> []
def adi:Cl→List Nat | .own p _ _ _ _=> [p.r] | .ptrT p _ _ _=> [p.r] | _=> []
def V1.all:V1→List Cl | .cl c=> [c] | .agg cs=>cs | .fn _ cs=>cs
def V.all:V→List Cl | .v x=>x.all | .tup _=> []
def WW (S:TS) (keep:List Nat):List Nat:=WV (keep.flatMap fun t=>(ki S.env t).all.flatMap ad7) []
def abW (S:TS) (keep bs:List Nat):List Nat:=WV (List.range S.fz++(keep.flatMap fun t=>(ki S.env t).all.flatMap adi)++bs.flatMap fun b=>((tp S.bx b).getD []).flatMap adi) []
def kj (S:TS) (keep bs ls:List Nat):TS where
 env:=keep.map fun t=>(t,ZC bs ls (ki S.env t))
 bx:=bs.map fun b=>((tp S.bx b).getD []).map (DS bs ls)
 gh:=ls.map fun r=>dG S.gh r
 fz:=S.fz
 nt:=S.nt
def QX (S:TS) (bs ls:List Nat):Bool:=Me bs&&Me ls&&bs.all (fun b=>Nat.blt b S.bx.length)&&eqN (ls.take S.fz) (List.range S.fz)&&ls.all (fun r=>Nat.blt r S.gh.length)
def XI (G:List (Option cc)):Cl→Cl
 | .own p sz lo len true=> .own p sz lo (match tp G p.r with | some (some tr)=>tr.l.length | _=>len) true
 | c=>c
def ZD (G:List (Option cc)):V1→V1
 | .cl c=> .cl (XI G c)
 | .agg cs=> .agg (cs.map (XI G))
 | .fn f cs=> .fn f (cs.map (XI G))
def adj (G:List (Option cc)):V→V
 | .v x=> .v (ZD G x)
 | .tup l=> .tup (l.map (ZD G))
def acs (S:TS):TS:= { S with env:=S.env.map (fun x=>(x.1,adj S.gh x.2)),bx:=S.bx.map (fun cs=>cs.map (XI S.gh)) }
def Hn {ρ:Type} (keep:List Nat) (S:TS) (κ:TS→Option ρ):Option ρ:=bif QX S (WW S keep) (abW S keep (WW S keep)) then κ (acs (kj S keep (WW S keep) (abW S keep (WW S keep)))) else none
theorem Ho: ∀ {l:List Nat} {x n k:Nat},JF l x n=some k→n≤k∧l[k - n]? =some x
 | [],x,n,k,h=>by cases h
 | a::l,x,n,k,h=>by
   simp only [JF] at h
   cases hb:Nat.beq a x with
   | true=>
     rw [hb] at h
     simp only [cond_true,Option.some.injEq] at h
     subst h
     exact⟨Nat.le_refl _,by simp [Nat.eq_of_beq_eq_true hb]⟩
   | false=>
     rw [hb] at h
     obtain⟨h1,h2⟩:=Ho (l:=l) h
     refine⟨by omega,?_⟩
     rw [show k - n=(k - (n+1))+1 by omega,List.getElem?_cons_succ]
     exact h2
theorem PV: ∀ {l:List Nat} {x n:Nat},JF l x n=none→x∉l
 | [],x,n,_=>by simp
 | a::l,x,n,h=>by
   simp only [JF] at h
   cases hb:Nat.beq a x with
   | true=>rw [hb] at h; cases h
   | false=>
     rw [hb] at h
     have:=PV (l:=l) h
     intro hm
     rcases List.mem_cons.1 hm with rfl | hm
     ·rw [Nat.beq_refl] at hb; cases hb
     ·exact this hm
theorem DT: ∀ {l:List Nat},Me l=true→ ∀ (i j x:Nat),l[i]? =some x→l[j]? =some x→i=j
 | [],_,i,j,x,hi,_=>by simp at hi
 | a::l,h,i,j,x,hi,hj=>by
   simp only [Me,Bool.and_eq_true] at h
   have hna:a∉l:=by
    have h1:=h.1
    split at h1
    ·cases h1
    ·rename_i hp; exact PV hp
   cases i with
   | zero=>
     simp only [List.getElem?_cons_zero,Option.some.injEq] at hi
     subst hi
     cases j with
     | zero=>rfl
     | succ j=>simp only [List.getElem?_cons_succ] at hj; exact absurd (List.mem_of_getElem? hj) hna
   | succ i=>
     simp only [List.getElem?_cons_succ] at hi
     cases j with
     | zero=>
       simp only [List.getElem?_cons_zero,Option.some.injEq] at hj
       subst hj
       exact absurd (List.mem_of_getElem? hi) hna
     | succ j=>
       simp only [List.getElem?_cons_succ] at hj
       rw [DT h.2 i j x hi hj]
def Bt.ren (bt:Bt) (bs ls:List Nat):Bt where
 β:=fun p=>bt.β ⟨ls.getD p.r 0,p.l⟩
 κ:=fun p=>bt.κ ⟨ls.getD p.r 0,p.l⟩
 bb:=fun n=>bt.bb (bs.getD n 0)
 nb:=bs.length
 ng:=ls.length
 A:=bt.A
theorem QY {w:World} {bt:Bt} {bs ls:List Nat} {c:Cl} {u:Value} (h:VR w bt c.av u):VR w (bt.ren bs ls) (DS bs ls c).av u:=by
 have lt: ∀ {l:List Nat} {x k:Nat},JF l x 0=some k→k < l.length∧l.getD k 0=x:=by
  intro l x k hk
  obtain⟨_,h2⟩:=Ho hk
  rw [Nat.sub_zero] at h2
  exact⟨(List.getElem?_eq_some_iff.1 h2).1,by simp [List.getD_eq_getElem?_getD,h2]⟩
 cases c with
 | c x=>
   cases x with
   | sc v=>cases h with | sc h=>exact .sc h
   | ls t l=>cases h with | ro h=>exact .ro h
 | em=>cases h with | em a=>exact .em a
 | own p sz lo len wh=>
   simp only [DS]
   split
   ·rename_i k hk
    obtain⟨h1,h2⟩:=lt hk
    have hp: (⟨ls.getD k 0,p.l⟩:ci)=p:=by rw [h2]
    have e1: (bt.ren bs ls).κ ⟨k,p.l⟩=bt.κ p:=by
     have e: (bt.ren bs ls).κ ⟨k,p.l⟩=bt.κ (ci.mk (ls.getD k 0) p.l):=rfl
     rw [e,hp]
    have e2: (bt.ren bs ls).β ⟨k,p.l⟩=bt.β p:=by
     have e: (bt.ren bs ls).β ⟨k,p.l⟩=bt.β (ci.mk (ls.getD k 0) p.l):=rfl
     rw [e,hp]
    cases h with
    | own hp' hc hkk ha=>exact .own h1 hc (by rw [e1]; exact hkk) (by rw [e2]; exact ha)
   ·exact .dead _
 | pro cs=>cases h with | pro cs hs hA hr ht=>exact .pro cs hs hA hr ht
 | ptrB n j=>
   simp only [DS]
   split
   ·rename_i k hk
    obtain⟨h1,h2⟩:=lt hk
    cases h with
    | ptrB j hn=>
      have :bt.bb n=(bt.ren bs ls).bb k:=by show bt.bb n=bt.bb (bs.getD k 0); rw [h2]
      rw [this]
      exact .ptrB j h1
   ·exact .dead _
 | ptrT p sz i j=>
   simp only [DS]
   split
   ·rename_i k hk
    obtain⟨h1,h2⟩:=lt hk
    have hp: (⟨ls.getD k 0,p.l⟩:ci)=p:=by rw [h2]
    cases h with
    | ptrT sz i j hp' hkk=>
      have e1:bt.β p=(bt.ren bs ls).β ⟨k,p.l⟩:=by show bt.β p=bt.β ⟨ls.getD k 0,p.l⟩; rw [hp]
      rw [e1]
      exact .ptrT sz i j h1 (by show _ < bt.κ ⟨ls.getD k 0,p.l⟩; rw [hp]; exact hkk)
   ·exact .dead _
 | dead=>exact .dead _
theorem ZE {w:World} {bt:Bt} {bs ls:List Nat} {v:V1} {u:Value} (h:VR w bt v.av u):VR w (bt.ren bs ls) (ZB bs ls v).av u:=by
 have cells: ∀ (cs:List Cl) (us:List Value),us.length=cs.length→(∀ (k:Nat) (c:AV) (u:Value),(cs.map Cl.av)[k]? =some c→us[k]? =some u→VR w bt c u)→ ∀ (k:Nat) (c:AV) (u:Value),((cs.map (DS bs ls)).map Cl.av)[k]? =some c→us[k]? =some u→VR w (bt.ren bs ls) c u:=by
  intro cs us _ hr k c u hk hu
  rw [List.getElem?_map,List.getElem?_map] at hk
  simp only [Option.map_eq_some_iff] at hk
  obtain⟨c1,⟨c0,hc0,rfl⟩,rfl⟩:=hk
  exact QY (hr k c0.av u (by rw [List.getElem?_map,hc0]; rfl) hu)
 cases v with
 | cl c=>exact QY h
 | agg cs=>
   simp only [V1.av] at h
   cases h with
   | agg hl ho hr=>
     exact .agg (by simpa using hl) ho (cells cs _ (by simpa using hl) hr)
 | fn f cs=>
   simp only [V1.av] at h
   cases h with
   | fn f hl hr=>
     exact .fn f (by simpa using hl) (cells cs _ (by simpa using hl) hr)
theorem abd {w:World} {bt:Bt} {bs ls:List Nat} {v:V} {u:Value} (h:VR w bt v.av u):VR w (bt.ren bs ls) (ZC bs ls v).av u:=by
 cases v with
 | v x=>exact ZE h
 | tup l=>exact .dead _
theorem PW (S:TS) (f:V→V): ∀ (keep:List Nat) (t:Nat),ki (keep.map fun t=>(t,f (ki S.env t))) t=V.dead∨ki (keep.map fun t=>(t,f (ki S.env t))) t=f (ki S.env t)
 | [],t=> .inl rfl
 | u::l,t=>by
   simp only [List.map_cons,ki]
   cases hb:Nat.beq u t with
   | true=>rw [Nat.eq_of_beq_eq_true hb]; exact .inr rfl
   | false=>exact PW S f l t
theorem Ci (S:TS) (keep bs ls:List Nat) (r:Nat):dG (kj S keep bs ls).gh r=(ls[r]?).bind fun q=>dG S.gh q:=by
 show (tp (ls.map fun r=>dG S.gh r) r).getD none=_
 rw [ej,List.getElem?_map]
 cases ls[r]? <;> rfl
theorem Tx {S:TS} {keep bs ls:List Nat} (h:QX S bs ls=true):tj S.st (kj S keep bs ls).st:=by
 unfold QX at h
 simp only [Bool.and_eq_true] at h
 obtain⟨⟨⟨⟨hnb,hnl⟩,hbs⟩,hfz⟩,hlt⟩:=h
 have hfz:=QR hfz
 intro w0 W btI SI bt a w hl
 have inv:=hl.inv
 have hls: ∀ (k:Nat),k < S.fz→ls[k]? =some k:=by
  intro k hk
  have : (ls.take S.fz)[k]? =(List.range S.fz)[k]? :=by rw [hfz]
  rw [List.getElem?_take,if_pos hk,List.getElem?_range hk] at this
  exact this
 have look: ∀ p s rs,(kj S keep bs ls).st.look p= .sl s rs→ ∃ q,ls[p.r]? =some q∧S.st.look ⟨q,p.l⟩= .sl s rs∧ls.getD p.r 0=q:=by
  intro p s rs hp
  unfold St.look at hp
  have e: (kj S keep bs ls).st.gh p.r=((ls[p.r]?).bind fun q=>dG S.gh q).map cc.tree:=by
   show (dG _ _).map cc.tree=_
   rw [Ci]
  rw [e] at hp
  cases hq:ls[p.r]? with
  | none=>rw [hq] at hp; cases hp
  | some q=>
    refine⟨q,rfl,?_,by simp [List.getD_eq_getElem?_getD,hq]⟩
    rw [hq] at hp
    exact hp
 have box: ∀ n cells,(kj S keep bs ls).st.bx n=some cells→ ∃ b cs,bs[n]? =some b∧S.bx[b]? =some cs∧cells=(cs.map (DS bs ls)).map Cl.av∧bs.getD n 0=b:=by
  intro n cells hn
  have hn': (tp (bs.map fun b=>((tp S.bx b).getD []).map (DS bs ls)) n).map (fun cs=>cs.map Cl.av)=some cells:=hn
  rw [ej,List.getElem?_map] at hn'
  simp only [Option.map_eq_some_iff] at hn'
  obtain⟨x,⟨b,hb,rfl⟩,rfl⟩:=hn'
  have hlt':b < S.bx.length:=Nat.le_of_ble_eq_true (List.all_eq_true.1 hbs b (List.mem_of_getElem? hb))
  refine⟨b,S.bx[b],hb,List.getElem?_eq_getElem hlt',?_,by simp [List.getD_eq_getElem?_getD,hb]⟩
  rw [ej,List.getElem?_eq_getElem hlt']
  rfl
 have bxS: ∀ {b:Nat} {cs:List Cl},S.bx[b]? =some cs→S.st.bx b=some (cs.map Cl.av):=by
  intro b cs hb
  show (tp S.bx b).map _=_
  rw [ej,hb]
  rfl
 refine⟨bt.ren bs ls,?_⟩
 refine⟨{ os:=inv.os,tape:=inv.tape,output:=inv.output,size:=inv.size,keep:=inv.keep
          nb:=by show bs.length=_; simp [TS.st,kj]
          ng:=by show ls.length=_; simp [TS.st,kj]
          bx:=fun n cells hn=> ?_
          gh:=fun r t hr=> ?_
          tr:=fun p sz rows hp=> ?_
          inj:=fun p q s rs s' rs' hp hq hk hk' he=> ?_
          bbinj:=fun n m cs cs' hn hm he=> ?_
          bbtr:=fun n cs p s rs hn hp hk=> ?_
          alt:=inv.alt
          atr:=fun p s rs hp hk=> ?_
          abb:=fun n cs hn=> ?_ },⟨hl.er.1,fun t=> ?_⟩,hl.defers,hl.fz,?_,fun p hp=> ?_,fun r hr hn=> ?_⟩
 ·obtain⟨b,cs,h1,h2,rfl,h4⟩:=box n cells hn
  obtain⟨g1,g2,arr,e,g3,g4,g5⟩:=inv.bx b _ (bxS h2)
  refine⟨by show n < _; have:=(List.getElem?_eq_some_iff.1 h1).1; simpa [TS.st,kj] using this,by show _≤bt.bb (bs.getD n 0); rw [h4]; exact g2,arr,e,by show w.heap[bt.bb (bs.getD n 0)]? =_; rw [h4]; exact g3,by simpa using g4,fun j v hj=> ?_⟩
  rw [List.getElem?_map,List.getElem?_map] at hj
  simp only [Option.map_eq_some_iff] at hj
  obtain⟨c1,⟨c0,hc0,rfl⟩,rfl⟩:=hj
  obtain⟨c,k1,k2,k3⟩:=g5 j c0.av (by rw [List.getElem?_map,hc0]; rfl)
  exact⟨c,k1,QY k2,k3⟩
 ·have hr': (dG (kj S keep bs ls).gh r).map cc.tree=some t:=hr
  rw [Ci] at hr'
  show r < _
  cases hq:ls[r]? with
  | none=>rw [hq] at hr'; cases hr'
  | some q=>
    have:=(List.getElem?_eq_some_iff.1 hq).1
    simpa [TS.st,kj] using this
 ·obtain⟨q,h1,h2,h3⟩:=look p sz rows hp
  obtain⟨g1,g2⟩:=inv.tr _ _ _ h2
  have eκ: (bt.ren bs ls).κ p=bt.κ ⟨q,p.l⟩:=by show bt.κ ⟨ls.getD p.r 0,p.l⟩=_; rw [h3]
  have eβ: (bt.ren bs ls).β p=bt.β ⟨q,p.l⟩:=by show bt.β ⟨ls.getD p.r 0,p.l⟩=_; rw [h3]
  rw [eκ,eβ]
  refine⟨g1,fun hk=>⟨(g2 hk).1,?_⟩⟩
  obtain⟨_,cs,e,k1,k2,k3,k4⟩:=g2 hk
  refine⟨cs,e,by rw [eβ]; exact k1,by rw [eκ]; exact k2,k3,fun i r hi=> ?_⟩
  obtain⟨m1,m2⟩:=k4 i r hi
  refine⟨m1,fun j x hj=> ?_⟩
  obtain⟨c,n1,n2⟩:=m2 j x hj
  refine⟨c,n1,?_⟩
  have f1: (bt.ren bs ls).κ (p.sub i j)=bt.κ (ci.sub ⟨q,p.l⟩ i j):=by show bt.κ ⟨ls.getD p.r 0,p.l++ [(i,j)]⟩=bt.κ ⟨q,p.l++ [(i,j)]⟩; rw [h3]
  have f2: (bt.ren bs ls).β (p.sub i j)=bt.β (ci.sub ⟨q,p.l⟩ i j):=by show bt.β ⟨ls.getD p.r 0,p.l++ [(i,j)]⟩=bt.β ⟨q,p.l++ [(i,j)]⟩; rw [h3]
  cases n2 with
  | sc h=>exact .sc h
  | dd u=>exact .dd _
  | sl q1 q2 q3=>exact .sl q1 (by rw [f1]; exact q2) (by rw [f2]; exact q3)
 ·obtain⟨p',h1,h2,h3⟩:=look p s rs hp
  obtain⟨q',g1,g2,g3⟩:=look q s' rs' hq
  have:=inv.inj ⟨p',p.l⟩ ⟨q',q.l⟩ _ _ _ _ h2 g2 (by rw [←h3]; exact hk) (by rw [←g3]; exact hk') (by rw [←h3,←g3]; exact he)
  simp only [ci.mk.injEq] at this
  obtain⟨e1,e2⟩:=this
  subst e1
  have e3:=DT hnl _ _ _ h1 g1
  cases p; cases q
  simp only at e3 e2
  rw [e3,e2]
 ·obtain⟨b,c,h1,h2,_,h4⟩:=box n cs hn
  obtain⟨b',c',g1,g2,_,g4⟩:=box m cs' hm
  have:=inv.bbinj b b' _ _ (bxS h2) (bxS g2) (by
   have he':bt.bb (bs.getD n 0)=bt.bb (bs.getD m 0):=he
   rw [h4,g4] at he'
   exact he')
  subst this
  exact DT hnb _ _ _ h1 g1
 ·obtain⟨b,c,h1,h2,_,h4⟩:=box n cs hn
  obtain⟨q,g1,g2,g3⟩:=look p s rs hp
  have hk':0 < bt.κ ⟨ls.getD p.r 0,p.l⟩:=hk
  rw [g3] at hk'
  show bt.bb (bs.getD n 0)≠bt.β ⟨ls.getD p.r 0,p.l⟩
  rw [h4,g3]
  exact inv.bbtr _ _ _ _ _ (bxS h2) g2 hk'
 ·obtain⟨q,g1,g2,g3⟩:=look p s rs hp
  have hk':0 < bt.κ ⟨ls.getD p.r 0,p.l⟩:=hk
  rw [g3] at hk'
  show ¬ bt.A (bt.β ⟨ls.getD p.r 0,p.l⟩)
  rw [g3]
  exact inv.atr _ _ _ g2 hk'
 ·obtain⟨b,c,h1,h2,_,h4⟩:=box n cs hn
  show ¬ bt.A (bt.bb (bs.getD n 0))
  rw [h4]
  exact inv.abb _ _ (bxS h2)
 ·show VR w _ (ki (kj S keep bs ls).env t).av _
  rcases PW S (ZC bs ls) keep t with h1 | h1
  ·have :ki (kj S keep bs ls).env t=V.dead:=h1
   rw [this]
   exact .dead _
  ·have :ki (kj S keep bs ls).env t=ZC bs ls (ki S.env t):=h1
   rw [this]
   exact abd (hl.er.2 t)
 ·show S.fz≤(kj S keep bs ls).gh.length
  rcases Nat.eq_zero_or_pos S.fz with h0 | h0
  ·omega
  ·have:=(List.getElem?_eq_some_iff.1 (hls (S.fz - 1) (by omega))).1
   simp [kj]
   omega
 ·have hp':p.r < S.fz:=by have:=hl.fz; have e:S.st.fz=S.fz:=rfl; omega
  have h3:ls.getD p.r 0=p.r:=by simp [List.getD_eq_getElem?_getD,hls p.r hp']
  have:=hl.keep p hp
  show bt.β ⟨ls.getD p.r 0,p.l⟩=_∧bt.κ ⟨ls.getD p.r 0,p.l⟩=_
  rw [h3]
  exact this
 ·have hr':r < S.fz:=by have:=hl.fz; have e:S.st.fz=S.fz:=rfl; omega
  refine hl.gone r hr ?_
  have hn': (dG (kj S keep bs ls).gh r).map cc.tree=none:=hn
  rw [Ci,hls r hr'] at hn'
  exact hn'
theorem La {S:TS} {bs ls:List Nat} {keep:List Nat} {c:Cl} (h:c.ok S.gh): (DS bs ls c).ok (kj S keep bs ls).gh:=by
 have lt: ∀ {x k:Nat},JF ls x 0=some k→k < (kj S keep bs ls).gh.length∧ls[k]? =some x:=by
  intro x k hk
  obtain⟨_,h2⟩:=Ho hk
  rw [Nat.sub_zero] at h2
  exact⟨by have:=(List.getElem?_eq_some_iff.1 h2).1; simpa [kj] using this,h2⟩
 cases c with
 | own p sz lo len w=>
   simp only [DS]
   split
   ·rename_i k hk
    obtain⟨h1,h2⟩:=lt hk
    refine⟨h1,fun hw=> ?_⟩
    obtain⟨a,b,c⟩:=h.2 hw
    refine⟨a,b,fun tr htr=>c tr ?_⟩
    rw [Ci,h2] at htr
    exact htr
   ·trivial
 | ptrT p sz i j=>
   simp only [DS]
   split
   ·rename_i k hk; exact (lt hk).1
   ·trivial
 | ptrB n j=>simp only [DS]; split <;> trivial
 | _=>trivial
theorem abe {S:TS} {bs ls:List Nat} {keep:List Nat} {v:V} (h:v.ok S.gh): (ZC bs ls v).ok (kj S keep bs ls).gh:=by
 have one: ∀ {v:V1},v.ok S.gh→(ZB bs ls v).ok (kj S keep bs ls).gh:=by
  intro v h
  cases v with
  | cl c=>exact La h
  | agg cs=>intro c hc; obtain⟨x,hx,rfl⟩:=List.mem_map.1 hc; exact La (h x hx)
  | fn f cs=>intro c hc; obtain⟨x,hx,rfl⟩:=List.mem_map.1 hc; exact La (h x hx)
 cases v with
 | v x=>exact one h
 | tup l=>trivial
theorem PX {S:TS} (hS:S.ok) (keep bs ls:List Nat): (kj S keep bs ls).ok:=by
 refine⟨fun x hx=> ?_,fun cs hcs c hc=> ?_⟩
 ·obtain⟨t,_,rfl⟩:=List.mem_map.1 hx
  exact abe (K7 hS t)
 ·obtain⟨b,_,rfl⟩:=List.mem_map.1 hcs
  obtain⟨x,hx,rfl⟩:=List.mem_map.1 hc
  cases hb:tp S.bx b with
  | none=>rw [hb] at hx; cases hx
  | some cs=>
    rw [hb] at hx
    rw [ej] at hb
    exact La (hS.bx cs (List.mem_of_getElem? hb) x hx)
theorem Lb {G:List (Option cc)} {c:Cl} (h:c.ok G):XI G c=c:=by
 unfold XI
 split
 ·rename_i p sz lo len
  split
  ·rename_i tr htr
   rw [(h.2 rfl).2.2 tr (by unfold dG; rw [htr]; rfl)]
  ·rfl
 ·rfl
theorem Tz {G:List (Option cc)} {v:V1} (h:v.ok G):ZD G v=v:=by
 cases v with
 | cl c=>exact congrArg V1.cl (Lb h)
 | agg cs=>exact congrArg V1.agg ((List.map_congr_left fun c hc=>Lb (h c hc)).trans (List.map_id' cs))
 | fn f cs=>exact congrArg (V1.fn f) ((List.map_congr_left fun c hc=>Lb (h c hc)).trans (List.map_id' cs))
theorem abf {G:List (Option cc)} {v:V} (h:v.ok G):adj G v=v:=by
 cases v with
 | v x=>exact congrArg V.v (Tz h)
 | tup l=>exact congrArg V.tup ((List.map_congr_left fun c hc=>Tz (h c hc)).trans (List.map_id' l))
theorem abg {S:TS} (h:S.ok):acs S=S:=by
 unfold acs
 rw [List.map_congr_left (g:=id) (fun x hx=>by rw [abf (h.env x hx)]; rfl),List.map_congr_left (g:=id) (l:=S.bx) (fun cs hcs=>(List.map_congr_left fun c hc=>Lb (h.bx cs hcs c hc)).trans (List.map_id' cs)),List.map_id,List.map_id]
theorem xI {ρ:Type} {S:TS} (hS:S.ok) {keep:List Nat} {κ:TS→Option ρ} {r:ρ} (h:Hn keep S κ=some r): ∃ S1:TS,tj S.st S1.st∧S1.ok∧κ S1=some r:=by
 unfold Hn at h
 obtain⟨h1,h⟩:=aB h
 rw [abg (PX hS _ _ _)] at h
 exact⟨_,Tx h1,PX hS _ _ _,h⟩
end Go.Proofs.YtkcgfceffffmoaaGreat.En
namespace Go.Proofs.YtkcgfceffffmoaaGreat.En
open Go
inductive Sh where
 | int (k:IntKind) | bl | str | ro (t:Ty) | own (r:Nat) (t:Ty) | ptr (n j:Nat) | em | dead | pro (t:Ty) | fc (g:Nat) | sub (r:Nat) (t:Ty)
abbrev Sh.D:Sh→Type
 | .int _=>Int | .bl=>Bool | .str=>ByteArray | .ro t=>List t.D | .pro t=>t.D | .sub _ _=>Nat×Nat | _=>Unit
abbrev Cj.D:List Sh→Type
 | [] =>Unit
 | s::l=>s.D×Cj.D l
inductive G1 where
 | cl (s:Sh) | agg (l:List Sh) | st (n:Sn) | fn (f:FuncId) (l:List Sh)
abbrev G1.D:G1→Type
 | .cl s=>s.D | .agg l=>Cj.D l | .st n=>n.D | .fn _ l=>Cj.D l
abbrev Oc.D:List (Nat×G1)→Type
 | [] =>Unit
 | x::l=>x.2.D×Oc.D l
abbrev Od.D:List (List Sh)→Type
 | [] =>Unit
 | x::l=>Cj.D x×Od.D l
abbrev xe.D:List Ty→Type
 | [] =>Unit
 | t::l=>List t.D×xe.D l
structure en where
 env:List (Nat×G1)
 bx:List (List Sh)
 gh:List Ty
 fz:Nat
 nt:Nat
abbrev en.D (L:en):Type:=Oc.D L.env×Od.D L.bx×xe.D L.gh
def act (G:List (Option cc)) (r:Nat):Nat:=match tp G r with | some (some tr)=>tr.l.length | _=>0
def Sh.mk (G:List (Option cc)): (s:Sh)→s.D→Cl
 | .int k,n=> .c (.sc (.int k n)) | .bl,v=> .c (.sc (.bool v)) | .str,v=> .c (.sc (.string v)) | .ro t,l=> .c (.ls t l)
 | .own r t,_=> .own ⟨r,[]⟩ t.width 0 (act G r) true | .ptr n j,_=> .ptrB n j | .em,_=> .em | .dead,_=> .dead | .pro t,x=> .pro (t.flat x) | .fc g,_=> .c (.sc (.func (.func g) #[] #[])) | .sub r t,x=> .own ⟨r,[]⟩ t.width x.1 x.2 false
def Cj.mk (G:List (Option cc)): (l:List Sh)→Cj.D l→List Cl
 | [],_=> []
 | s::l,x=>s.mk G x.1::Cj.mk G l x.2
def G1.mk (G:List (Option cc)): (v:G1)→v.D→V
 | .cl s,x=> .v (.cl (s.mk G x)) | .agg l,x=> .v (.agg (Cj.mk G l x)) | .st n,x=> .v (.agg ((n.flat x).map .c)) | .fn f l,x=> .v (.fn f (Cj.mk G l x))
def Oc.mk (G:List (Option cc)): (l:List (Nat×G1))→Oc.D l→List (Nat×V)
 | [],_=> []
 | x::l,d=>(x.1,x.2.mk G d.1)::Oc.mk G l d.2
def Od.mk (G:List (Option cc)): (l:List (List Sh))→Od.D l→List (List Cl)
 | [],_=> []
 | x::l,d=>Cj.mk G x d.1::Od.mk G l d.2
def xe.mk: (l:List Ty)→xe.D l→List (Option cc)
 | [],_=> []
 | t::l,d=>some ⟨t,d.1,none⟩::xe.mk l d.2
def en.mk' (L:en) (d:L.D):TS:= { env:=Oc.mk (xe.mk L.gh d.2.2) L.env d.1,bx:=Od.mk (xe.mk L.gh d.2.2) L.bx d.2.1,gh:=xe.mk L.gh d.2.2,fz:=L.fz,nt:=L.nt }
section
variable {ρ:Type}
def Sh.un: (s:Sh)→Cl→(s.D→Option ρ)→Option ρ
 | .int k, .c (.sc (.int k' n)),κ=>bif decide (k'=k) then κ n else none
 | .bl, .c (.sc (.bool v)),κ=>κ v
 | .str, .c (.sc (.string v)),κ=>κ v
 | .ro t, .c (.ls t' l),κ=>match AO t' t l with | some l=>κ l | none=>none
 | .own r t, .own p sz _ _ w,κ=>match p.l with | [] =>(bif w&&Nat.beq p.r r&&Nat.beq sz t.width then κ () else none) | _=>none
 | .ptr n i, .ptrB m j,κ=>bif Nat.beq m n&&Nat.beq j i then κ () else none
 | .em, .em,κ=>κ ()
 | .dead, .dead,κ=>κ ()
 | .pro t, .pro xs,κ=>(match t.unflat xs with | some x=>κ x | none=>none)
 | .fc g, .c (.sc (.func (.func g') cs ts)),κ=>bif Nat.beq g' g&&Nat.beq cs.size 0&&Nat.beq ts.size 0 then κ () else none
 | .sub r t, .own p sz lo len w,κ=>match p.l with | [] =>(bif !w&&Nat.beq p.r r&&Nat.beq sz t.width then κ (lo,len) else none) | _=>none
 | _,_,_=>none
def Cj.un: (l:List Sh)→List Cl→(Cj.D l→Option ρ)→Option ρ
 | [],[],κ=>κ ()
 | s::l,c::cs,κ=>s.un c fun x=>Cj.un l cs fun y=>κ (x,y)
 | _,_,_=>none
def G1.un: (v:G1)→V→(v.D→Option ρ)→Option ρ
 | .cl s, .v (.cl c),κ=>s.un c κ
 | .agg l, .v (.agg cs),κ=>Cj.un l cs κ
 | .st n, .v (.agg cs),κ=>match QP cs with | some xs=>(match n.unflat xs with | some x=>κ x | none=>none) | none=>none
 | .fn f l, .v (.fn g cs),κ=>bif Nat.beq f g then Cj.un l cs κ else none
 | _,_,_=>none
def Oc.un: (l:List (Nat×G1))→List (Nat×V)→(Oc.D l→Option ρ)→Option ρ
 | [],[],κ=>κ ()
 | x::l,y::m,κ=>bif Nat.beq x.1 y.1 then x.2.un y.2 fun a=>Oc.un l m fun b=>κ (a,b) else none
 | _,_,_=>none
def Od.un: (l:List (List Sh))→List (List Cl)→(Od.D l→Option ρ)→Option ρ
 | [],[],κ=>κ ()
 | x::l,y::m,κ=>Cj.un x y fun a=>Od.un l m fun b=>κ (a,b)
 | _,_,_=>none
def xe.un: (l:List Ty)→List (Option cc)→(xe.D l→Option ρ)→Option ρ
 | [],[],κ=>κ ()
 | t::l,some tr::m,κ=>match tr.hole with
   | none=>(match AO tr.t t tr.l with | some a=>xe.un l m fun b=>κ (a,b) | none=>none)
   | some _=>none
 | _,_,_=>none
def en.un (L:en) (S:TS) (κ:L.D→Option ρ):Option ρ:=xe.un L.gh S.gh fun g=>Oc.un L.env S.env fun e=>Od.un L.bx S.bx fun b=>bif Nat.beq S.fz L.fz&&Nat.beq S.nt L.nt then κ (e,b,g) else none
theorem Sh.un_some {G:List (Option cc)} (hG: ∀ r,r < G.length→ ∃ tr,tp G r=some (some tr)): ∀ {s:Sh} {c:Cl} {κ:s.D→Option ρ} {r:ρ},c.ok G→s.un c κ=some r→ ∃ x,c=s.mk G x∧κ x=some r:=by
 intro s c κ r hc h
 cases s with
 | int k=>
   cases c with
   | c y=>cases y with
     | sc v=>cases v with
       | int k' n=>
         simp only [Sh.un] at h
         obtain⟨h1,h⟩:=aB h
         have:=of_decide_eq_true h1
         subst this
         exact⟨n,rfl,h⟩
       | _=>simp [Sh.un] at h
     | ls t l=>simp [Sh.un] at h
   | _=>simp [Sh.un] at h
 | bl=>
   cases c with
   | c y=>cases y with
     | sc v=>cases v with
       | bool v=>exact⟨v,rfl,h⟩
       | _=>simp [Sh.un] at h
     | ls t l=>simp [Sh.un] at h
   | _=>simp [Sh.un] at h
 | str=>
   cases c with
   | c y=>cases y with
     | sc v=>cases v with
       | string v=>exact⟨v,rfl,h⟩
       | _=>simp [Sh.un] at h
     | ls t l=>simp [Sh.un] at h
   | _=>simp [Sh.un] at h
 | ro t=>
   cases c with
   | c y=>cases y with
     | sc v=>simp [Sh.un] at h
     | ls t' l=>
       simp only [Sh.un] at h
       split at h
       ·rename_i l' hl
        obtain⟨e,hl⟩:=hZ hl
        subst e
        simp only at hl
        subst hl
        exact⟨l,rfl,h⟩
       ·cases h
   | _=>simp [Sh.un] at h
 | own q t=>
   cases c with
   | own p sz lo len w=>
     obtain⟨pr,pl⟩:=p
     cases pl with
     | cons a l=>simp [Sh.un] at h
     | nil=>
       simp only [Sh.un] at h
       obtain⟨h1,h'⟩:=aB h
       clear h
       simp only [Bool.and_eq_true] at h1
       obtain⟨⟨h0,h2⟩,h3⟩:=h1
       have h2:pr=q:=Nat.eq_of_beq_eq_true h2
       have h3:sz=t.width:=Nat.eq_of_beq_eq_true h3
       subst h0 h2 h3
       obtain⟨k1,k2⟩:=hc
       obtain⟨_,k3,k4⟩:=k2 rfl
       obtain⟨tr,htr⟩:=hG _ k1
       have k5:=k4 tr (cc.look htr)
       refine⟨(),?_,h'⟩
       simp only [Sh.mk,act,k3,k5,htr]
   | c y=>cases y <;> simp [Sh.un] at h
   | _=>simp [Sh.un] at h
 | sub q t=>
   cases c with
   | own p sz lo len w=>
     obtain⟨pr,pl⟩:=p
     cases pl with
     | cons a l=>simp [Sh.un] at h
     | nil=>
       simp only [Sh.un] at h
       obtain⟨h1,h'⟩:=aB h
       clear h
       simp only [Bool.and_eq_true,Bool.not_eq_true'] at h1
       obtain⟨⟨h0,h2⟩,h3⟩:=h1
       have h2:pr=q:=Nat.eq_of_beq_eq_true h2
       have h3:sz=t.width:=Nat.eq_of_beq_eq_true h3
       subst h0 h2 h3
       exact⟨(lo,len),rfl,h'⟩
   | c y=>cases y <;> simp [Sh.un] at h
   | _=>simp [Sh.un] at h
 | ptr n i=>
   cases c with
   | ptrB m j=>
     simp only [Sh.un] at h
     obtain⟨h1,h'⟩:=aB h
     clear h
     simp only [Bool.and_eq_true] at h1
     have h2:=Nat.eq_of_beq_eq_true h1.1
     have h3:=Nat.eq_of_beq_eq_true h1.2
     subst h2 h3
     exact⟨(),rfl,h'⟩
   | c y=>cases y <;> simp [Sh.un] at h
   | _=>simp [Sh.un] at h
 | em=>
   cases c with
   | em=>exact⟨(),rfl,h⟩
   | c y=>cases y <;> simp [Sh.un] at h
   | _=>simp [Sh.un] at h
 | dead=>
   cases c with
   | dead=>exact⟨(),rfl,h⟩
   | c y=>cases y <;> simp [Sh.un] at h
   | _=>simp [Sh.un] at h
 | pro t=>
   cases c with
   | pro xs=>
     simp only [Sh.un] at h
     split at h
     ·rename_i x hx
      exact⟨x,by simp only [Sh.mk]; rw [t.unflat_some _ _ hx],h⟩
     ·cases h
   | c y=>cases y <;> simp [Sh.un] at h
   | _=>simp [Sh.un] at h
 | fc g=>
   unfold Sh.un at h
   split at h
   all_goals first | (rename_i hh; cases hh; done) | skip
   all_goals try (rename_i hh _; cases hh; done)
   ·rename_i e
    cases e
    obtain⟨h1,h'⟩:=aB h
    simp only [Bool.and_eq_true] at h1
    obtain⟨⟨h1,h2⟩,h3⟩:=h1
    have h1:=Nat.eq_of_beq_eq_true h1
    have h2:=Array.eq_empty_of_size_eq_zero (Nat.eq_of_beq_eq_true h2)
    have h3:=Array.eq_empty_of_size_eq_zero (Nat.eq_of_beq_eq_true h3)
    exact⟨(),by rw [h1,h2,h3]; rfl,h'⟩
   ·cases h
theorem Cj.un_some {G:List (Option cc)} (hG: ∀ r,r < G.length→ ∃ tr,tp G r=some (some tr)): ∀ {l:List Sh} {cs:List Cl} {κ:Cj.D l→Option ρ} {r:ρ},(∀ c∈cs,c.ok G)→Cj.un l cs κ=some r→ ∃ x,cs=Cj.mk G l x∧κ x=some r
 | [],[],κ,r,_,h=>⟨(),rfl,h⟩
 | s::l,c::cs,κ,r,hc,h=>by
   unfold Cj.un at h
   obtain⟨x,h1,h⟩:=Sh.un_some hG (hc c List.mem_cons_self) h
   obtain⟨y,h2,h⟩:=Cj.un_some hG (fun z hz=>hc z (List.mem_cons_of_mem _ hz)) h
   exact⟨(x,y),by rw [h1,h2]; rfl,h⟩
 | [],c::cs,κ,r,_,h=>by simp [Cj.un] at h
 | s::l,[],κ,r,_,h=>by simp [Cj.un] at h
theorem Hp: ∀ {cs:List Cl} {xs:List C},QP cs=some xs→cs=xs.map .c
 | [],xs,h=>by simp only [QP,Option.some.injEq] at h; subst h; rfl
 | c::cs,xs,h=>by
   cases c with
   | c y=>
     simp only [QP] at h
     split at h
     ·rename_i r hr
      simp only [Option.some.injEq] at h
      subst h
      rw [Hp hr]
      rfl
     ·cases h
   | _=>simp [QP] at h
theorem G1.un_some {G:List (Option cc)} (hG: ∀ r,r < G.length→ ∃ tr,tp G r=some (some tr)) {s:G1} {v:V} {κ:s.D→Option ρ} {r:ρ} (hv:v.ok G) (h:s.un v κ=some r): ∃ x,v=s.mk G x∧κ x=some r:=by
 cases v with
 | tup l=>cases s <;> simp [G1.un] at h
 | v y=>
   cases s with
   | cl s=>cases y with
     | cl c=>
       obtain⟨x,h1,h⟩:=Sh.un_some hG hv h
       exact⟨x,by rw [h1]; rfl,h⟩
     | _=>simp [G1.un] at h
   | agg l=>cases y with
     | agg cs=>
       obtain⟨x,h1,h⟩:=Cj.un_some hG hv h
       exact⟨x,by rw [h1]; rfl,h⟩
     | _=>simp [G1.un] at h
   | st n=>cases y with
     | agg cs=>
       simp only [G1.un] at h
       split at h
       ·rename_i xs hxs
        split at h
        ·rename_i x hx
         exact⟨x,by rw [Hp hxs]; simp only [G1.mk]; rw [n.unflat_some _ _ hx],h⟩
        ·cases h
       ·cases h
     | _=>simp [G1.un] at h
   | fn f l=>cases y with
     | fn g cs=>
       simp only [G1.un] at h
       obtain⟨h0,h'⟩:=aB h
       clear h
       have h0:=Nat.eq_of_beq_eq_true h0
       subst h0
       obtain⟨x,h1,h⟩:=Cj.un_some hG hv h'
       exact⟨x,by rw [h1]; rfl,h⟩
     | _=>simp [G1.un] at h
theorem Oc.un_some {G:List (Option cc)} (hG: ∀ r,r < G.length→ ∃ tr,tp G r=some (some tr)): ∀ {l:List (Nat×G1)} {m:List (Nat×V)} {κ:Oc.D l→Option ρ} {r:ρ},(∀ x∈m,x.2.ok G)→Oc.un l m κ=some r→ ∃ x,m=Oc.mk G l x∧κ x=some r
 | [],[],κ,r,_,h=>⟨(),rfl,h⟩
 | s::l,c::cs,κ,r,hc,h=>by
   unfold Oc.un at h
   obtain⟨h0,h⟩:=aB h
   have h0:=Nat.eq_of_beq_eq_true h0
   obtain⟨x,h1,h⟩:=G1.un_some hG (hc c List.mem_cons_self) h
   obtain⟨y,h2,h⟩:=Oc.un_some hG (fun z hz=>hc z (List.mem_cons_of_mem _ hz)) h
   refine⟨(x,y),?_,h⟩
   rw [h2]
   obtain⟨c1,c2⟩:=c
   simp only at h0 h1
   rw [h1,←h0]
   rfl
 | [],c::cs,κ,r,_,h=>by simp [Oc.un] at h
 | s::l,[],κ,r,_,h=>by simp [Oc.un] at h
theorem Od.un_some {G:List (Option cc)} (hG: ∀ r,r < G.length→ ∃ tr,tp G r=some (some tr)): ∀ {l:List (List Sh)} {m:List (List Cl)} {κ:Od.D l→Option ρ} {r:ρ},(∀ cs∈m,∀ c∈cs,c.ok G)→Od.un l m κ=some r→ ∃ x,m=Od.mk G l x∧κ x=some r
 | [],[],κ,r,_,h=>⟨(),rfl,h⟩
 | s::l,c::cs,κ,r,hc,h=>by
   unfold Od.un at h
   obtain⟨x,h1,h⟩:=Cj.un_some hG (hc c List.mem_cons_self) h
   obtain⟨y,h2,h⟩:=Od.un_some hG (fun z hz=>hc z (List.mem_cons_of_mem _ hz)) h
   exact⟨(x,y),by rw [h1,h2]; rfl,h⟩
 | [],c::cs,κ,r,_,h=>by simp [Od.un] at h
 | s::l,[],κ,r,_,h=>by simp [Od.un] at h
theorem xe.un_some: ∀ {l:List Ty} {m:List (Option cc)} {κ:xe.D l→Option ρ} {r:ρ},xe.un l m κ=some r→ ∃ x,m=xe.mk l x∧κ x=some r
 | [],[],κ,r,h=>⟨(),rfl,h⟩
 | t::l,some tr::m,κ,r,h=>by
   unfold xe.un at h
   split at h
   ·rename_i hh
    split at h
    ·rename_i a ha
     obtain⟨e,hl⟩:=hZ ha
     obtain⟨y,h2,h⟩:=xe.un_some h
     obtain⟨t',l',hole⟩:=tr
     simp only at hh e hl ha
     subst hh e
     simp only at hl
     subst hl
     exact⟨(l',y),by rw [h2]; rfl,h⟩
    ·cases h
   ·cases h
 | [],c::cs,κ,r,h=>by simp [xe.un] at h
 | t::l,[],κ,r,h=>by simp [xe.un] at h
 | t::l,none::m,κ,r,h=>by simp [xe.un] at h
theorem xe.mk_some: ∀ (l:List Ty) (d:xe.D l) (r:Nat),r < (xe.mk l d).length→ ∃ tr,tp (xe.mk l d) r=some (some tr)
 | [],d,r,h=>by simp [xe.mk] at h
 | t::l,d,0,h=>⟨_,rfl⟩
 | t::l,d,r+1,h=>by
   obtain⟨tr,htr⟩:=xe.mk_some l d.2 r (by simpa [xe.mk] using h)
   exact⟨tr,htr⟩
theorem en.un_some {L:en} {S:TS} (hS:S.ok) {κ:L.D→Option ρ} {r:ρ} (h:L.un S κ=some r): ∃ d,S=L.mk' d∧κ d=some r:=by
 unfold en.un at h
 obtain⟨g,h1,h⟩:=xe.un_some h
 have hG: ∀ r,r < S.gh.length→ ∃ tr,tp S.gh r=some (some tr):=by rw [h1]; exact xe.mk_some _ _
 obtain⟨e,h2,h⟩:=Oc.un_some hG hS.env h
 obtain⟨b,h3,h⟩:=Od.un_some hG hS.bx h
 obtain⟨h4,h⟩:=aB h
 simp only [Bool.and_eq_true] at h4
 have h5:=Nat.eq_of_beq_eq_true h4.1
 have h6:=Nat.eq_of_beq_eq_true h4.2
 refine⟨(e,b,g),?_,h⟩
 obtain⟨env,bx,gh,fz,nt⟩:=S
 simp only at h1 h2 h3 h5 h6
 subst h5 h6
 unfold en.mk'
 simp only
 rw [←h1,←h2,←h3]
end
end Go.Proofs.YtkcgfceffffmoaaGreat.En
namespace Go.Proofs.YtkcgfceffffmoaaGreat.En
open Go
def WX (S:TS) (t:Ty):Cl:= .own ⟨S.gh.length,[]⟩ t.width 0 0 true
def WY (n j:Nat) (t:Ty) (S:TS):TS:=match tp S.bx n with
 | some cs=>(match tp cs j with
   | some .em=> { S with bx:=dS S.bx n (dS cs j (WX S t)),gh:=S.gh++ [some ⟨t,[],none⟩] }
   | _=>S)
 | none=>S
def WZ (x:Nat) (t:Ty) (S:TS):TS:=match ki S.env x with
 | .v (.cl .em)=> { S with env:=(x, .v (.cl (WX S t)))::S.env,gh:=S.gh++ [some ⟨t,[],none⟩] }
 | _=>S
theorem abX: ∀ (l:List (Nat×Nat)),T.go .dd l= .dd
 | [] =>rfl
 | (_,_)::l=>abX l
theorem acu (w:Nat) {l:List (Nat×Nat)} {s:Nat} {rs:List (List T)} (h:T.go (.sl w []) l= .sl s rs):rs= [] :=by
 cases l with
 | nil=>cases h; rfl
 | cons a l=>
   obtain⟨i,j⟩:=a
   simp only [T.go,T.cell,List.getD_nil,abX] at h
   cases h
theorem PY {S S':TS} (t:Ty) (henv: ∀ u,(ki S'.env u).av=(ki S.env u).av∨((ki S.env u).av= .em∧(ki S'.env u).av= .own ⟨S.gh.length,[]⟩ t.width 0 0))
  (hbx: ∀ k cs',S'.st.bx k=some cs'→ ∃ cs,S.st.bx k=some cs∧cs'.length=cs.length∧ ∀ (j:Nat) (v:AV),cs'[j]? =some v→cs[j]? =some v∨(cs[j]? =some .em∧v= .own ⟨S.gh.length,[]⟩ t.width 0 0))
  (hgh:S'.gh=S.gh++ [some ⟨t,[],none⟩]) (hfz:S'.fz=S.fz) (hnt:S'.nt=S.nt) (hbl:S'.bx.length=S.bx.length):tj S.st S'.st:=by
 intro w0 W btI SI bt a w hl0
 have hl:=hl0.widen (N:=S.gh.length+1) (Nat.le_succ _)
 have inv:=hl.inv
 have hng:S'.st.ng=S.gh.length+1:=by show S'.gh.length=_; rw [hgh]; simp
 have ghS: ∀ r,S'.st.gh r=if r=S.gh.length then some (.sl t.width []) else S.st.gh r:=by
  intro r
  show (dG S'.gh r).map cc.tree=_
  rw [hgh,oV]
  split <;> rfl
 have κ0: ∀ l,(bt.widen S.st.ng (S.gh.length+1)).κ ⟨S.gh.length,l⟩=0:=by
  intro l
  show (if S.gh.length < S.gh.length then _ else 0)=0
  rw [if_neg (Nat.lt_irrefl _)]
 have look: ∀ p s rs,S'.st.look p= .sl s rs→(p.r=S.gh.length∧rs= [] ∧(bt.widen S.st.ng (S.gh.length+1)).κ p=0)∨(p.r≠S.gh.length∧S.st.look p= .sl s rs):=by
  intro p s rs hp
  unfold St.look at hp
  rw [ghS] at hp
  by_cases hr:p.r=S.gh.length
  ·rw [if_pos hr] at hp
   left
   refine⟨hr,acu _ hp,?_⟩
   obtain⟨pr,pl⟩:=p
   simp only at hr
   subst hr
   exact κ0 pl
  ·rw [if_neg hr] at hp
   exact .inr ⟨hr,hp⟩
 have own0: ∀ {u:Value},VR w (bt.widen S.st.ng (S.gh.length+1)) .em u→VR w (bt.widen S.st.ng (S.gh.length+1)) (.own ⟨S.gh.length,[]⟩ t.width 0 0) u:=by
  intro u hu
  cases hu with
  | em ad=>exact .own (Nat.lt_succ_self _) (Nat.le_refl _) (Nat.zero_le _) (fun h=>absurd h (Nat.lt_irrefl _))
 refine⟨bt.widen S.st.ng (S.gh.length+1),?_⟩
 refine⟨{ os:=inv.os,tape:=inv.tape,output:=inv.output,size:=inv.size,keep:=inv.keep
          nb:=by show _=S'.bx.length; rw [hbl]; exact inv.nb
          ng:=by rw [hng]; exact inv.ng
          bx:=fun n cells hn=> ?_
          gh:=fun r x hr=> ?_
          tr:=fun p sz rows hp=> ?_
          inj:=fun p q s rs s' rs' hp hq hk hk' he=> ?_
          bbinj:=fun n m cs cs' hn hm he=> ?_
          bbtr:=fun n cs p s rs hn hp hk=> ?_
          alt:=inv.alt
          atr:=fun p s rs hp hk=> ?_
          abb:=fun n cs hn=> ?_ },⟨?_,fun u=> ?_⟩,hl.defers,?_,?_,hl.keep,fun r hr hn=> ?_⟩
 ·obtain⟨cs,h1,h2,h3⟩:=hbx n cells hn
  obtain⟨g1,g2,arr,e,g3,g4,g5⟩:=inv.bx n cs h1
  refine⟨by show n < S'.bx.length; rw [hbl]; exact g1,g2,arr,e,g3,by rw [h2]; exact g4,fun j v hj=> ?_⟩
  rcases h3 j v hj with h4 | ⟨h4,rfl⟩
  ·exact g5 j v h4
  ·obtain⟨c,k1,k2,k3⟩:=g5 j .em h4
   exact⟨c,k1,own0 k2,k3⟩
 ·rw [hng]
  rw [ghS] at hr
  split at hr
  ·omega
  ·have:=inv.gh r x hr
   exact this
 ·rcases look p sz rows hp with ⟨h1,rfl,h3⟩ | ⟨h1,h2⟩
  ·exact⟨Nat.zero_le _,fun hk=>by omega⟩
  ·exact inv.tr p sz rows h2
 ·rcases look p s rs hp with ⟨h1,_,h3⟩ | ⟨h1,h2⟩
  ·omega
  ·rcases look q s' rs' hq with ⟨g1,_,g3⟩ | ⟨g1,g2⟩
   ·omega
   ·exact inv.inj _ _ _ _ _ _ h2 g2 hk hk' he
 ·obtain⟨c,h1,_,_⟩:=hbx n cs hn
  obtain⟨c',g1,_,_⟩:=hbx m cs' hm
  exact inv.bbinj _ _ _ _ h1 g1 he
 ·obtain⟨c,h1,_,_⟩:=hbx n cs hn
  rcases look p s rs hp with ⟨_,_,h3⟩ | ⟨_,h2⟩
  ·omega
  ·exact inv.bbtr _ _ _ _ _ h1 h2 hk
 ·rcases look p s rs hp with ⟨_,_,h3⟩ | ⟨_,h2⟩
  ·omega
  ·exact inv.atr _ _ _ h2 hk
 ·obtain⟨c,h1,_,_⟩:=hbx n cs hn
  exact inv.abb _ _ h1
 ·have:=hl.er.1
  show _=S'.nt
  rw [hnt]
  exact this
 ·have h1:=hl.er.2 u
  show VR w _ (ki S'.env u).av _
  rcases henv u with h2 | ⟨h2,h3⟩
  ·rw [h2]; exact h1
  ·rw [h3]
   have h1':VR w (bt.widen S.st.ng (S.gh.length+1)) (ki S.env u).av (a.tmps.getD u undef):=h1
   rw [h2] at h1'
   exact own0 h1'
 ·show S'.fz=_
  rw [hfz]
  exact hl.fz
 ·show S'.fz≤S'.gh.length
  have:=hl.fzng
  have e:S.fz≤S.gh.length+1:=this
  have e2:S.st.fz≤S.st.ng:=hl0.fzng
  have e3:S.fz≤S.gh.length:=e2
  rw [hfz,hgh]
  simp
  omega
 ·refine hl.gone r hr ?_
  rw [ghS] at hn
  split at hn
  ·cases hn
  ·exact hn
theorem TA (S:TS) (t:Ty): (WX S t).ok (S.gh++ [some ⟨t,[],none⟩]):=by
 refine⟨by simp,fun _=>⟨rfl,rfl,fun tr htr=> ?_⟩⟩
 rw [oV,if_pos rfl] at htr
 cases htr
 rfl
theorem ZF {S:TS} (hS:S.ok) (x:Nat) (t:Ty):tj S.st (WZ x t S).st∧(WZ x t S).ok:=by
 unfold WZ
 split
 ·rename_i hx
  refine⟨PY t (fun u=> ?_) (fun k cs' h=>⟨cs',h,rfl,fun j v hv=> .inl hv⟩) rfl rfl rfl rfl,⟨fun y hy=> ?_,fun cs hcs c hc=>Cl.ok_mono (jL.app _ _) (hS.bx cs hcs c hc)⟩⟩
  ·simp only [ki]
   cases hb:Nat.beq x u with
   | true=>
     have :x=u:=Nat.eq_of_beq_eq_true hb
     subst this
     right
     rw [hx]
     exact⟨rfl,rfl⟩
   | false=>exact .inl rfl
  ·rcases List.mem_cons.1 hy with rfl | hy
   ·exact TA S t
   ·exact V.ok_mono (jL.app _ _) (hS.env y hy)
 ·exact⟨tj.refl,hS⟩
theorem ZG {S:TS} (hS:S.ok) (n j:Nat) (t:Ty):tj S.st (WY n j t S).st∧(WY n j t S).ok:=by
 unfold WY
 split
 ·rename_i cs hcs
  split
  ·rename_i hj
   rw [ej] at hcs hj
   have hn:=(List.getElem?_eq_some_iff.1 hcs).1
   refine⟨PY t (fun u=> .inl rfl) (fun k cs' h=> ?_) rfl rfl rfl (by simp [hO]),⟨fun y hy=>V.ok_mono (jL.app _ _) (hS.env y hy),fun cs' hcs' c hc=> ?_⟩⟩
   ·have h': (tp (dS S.bx n (dS cs j (WX S t))) k).map (fun cs=>cs.map Cl.av)=some cs':=h
    rw [ej,hO,hO,List.getElem?_set] at h'
    by_cases hk:n=k
    ·subst hk
     rw [if_pos rfl,if_pos hn] at h'
     simp only [Option.map_some,Option.some.injEq] at h'
     subst h'
     refine⟨cs.map Cl.av,by show (tp S.bx n).map _=_; rw [ej,hcs]; rfl,by simp,fun i v hv=> ?_⟩
     rw [List.getElem?_map,List.getElem?_set] at hv
     by_cases hi:j=i
     ·subst hi
      rw [if_pos rfl,if_pos (List.getElem?_eq_some_iff.1 hj).1] at hv
      right
      rw [List.getElem?_map,hj]
      simp only [Option.map_some,Option.some.injEq] at hv
      exact⟨rfl,hv.symm⟩
     ·rw [if_neg hi] at hv
      left
      rw [List.getElem?_map]
      exact hv
    ·rw [if_neg hk] at h'
     exact⟨cs',by show (tp S.bx k).map _=_; rw [ej]; exact h',rfl,fun i v hv=> .inl hv⟩
   ·simp only [hO] at hcs'
    rcases List.mem_or_eq_of_mem_set hcs' with h1 | h1
    ·exact Cl.ok_mono (jL.app _ _) (hS.bx _ h1 c hc)
    ·subst h1
     rcases List.mem_or_eq_of_mem_set hc with h2 | h2
     ·exact Cl.ok_mono (jL.app _ _) (hS.bx _ (List.mem_of_getElem? hcs) c h2)
     ·subst h2
      exact TA S t
  ·exact⟨tj.refl,hS⟩
 ·exact⟨tj.refl,hS⟩
theorem ao {α β:Type} (b:Bool) (x y:Option α) (f:α→Option β): (br b x y).bind f=br b (x.bind f) (y.bind f):=by cases b <;> rfl
theorem ap {α β:Type} (c:Prop) [Decidable c] (x y:Option α) (f:α→Option β): (aq c x y).bind f=aq c (x.bind f) (y.bind f):=by unfold aq; split <;> rfl
inductive XJ where
 | t (x:Nat) (t:Ty)
 | b (n j:Nat) (t:Ty)
def Ck:List XJ→TS→TS
 | [],S=>S
 | .t x t::l,S=>Ck l (WZ x t S)
 | .b n j t::l,S=>Ck l (WY n j t S)
theorem DU: ∀ (l:List XJ) {S:TS},S.ok→tj S.st (Ck l S).st∧(Ck l S).ok
 | [],S,hS=>⟨tj.refl,hS⟩
 | .t x t::l,S,hS=>by
   obtain⟨h1,h2⟩:=ZF hS x t
   obtain⟨h3,h4⟩:=DU l h2
   exact⟨h1.trans h3,h4⟩
 | .b n j t::l,S,hS=>by
   obtain⟨h1,h2⟩:=ZG hS n j t
   obtain⟨h3,h4⟩:=DU l h2
   exact⟨h1.trans h3,h4⟩
section
variable {P:Program} {Θ:to} {Y:Fe} {Λ:tu}
def cU {ρ:Type} (keepN keepX:List Nat) (κ:X→TS→Option ρ) (x:X) (S:TS):Option ρ:=match x with
 | .nor=>Hn keepN S (κ .nor)
 | x=>Hn keepX S (κ x)
def ZH {σ ε:Type} (G:σ→Option ε) (μ:σ→Nat) (s:σ) (e:ε):Option (σ⊕ε)→Prop
 | some (.inl s')=>μ s' < μ s∧G s'=some e
 | some (.inr e')=>e'=e
 | none=>False
theorem abh (hΘ:fk P Θ) (hY:au P Y) (hm:P.follows .mixedOrders=true) {c:Code} (hc:oS P c=true) (hL:iY P Λ (gb c)) {σ ε:Type} {H:σ→TS} {E:ε→X×TS} {B:σ→Option (σ⊕ε)} {keepN keepX:List Nat}
  (hH: ∀ s,(H s).ok) (hstep: ∀ s,ez Θ Y Λ c (H s) (cU keepN keepX fun x S=>some (x,S))=(B s).bind (Sum.elim (fun s'=>some (.nor,H s')) fun e=>some (E e)))
  (hE: ∀ e,(E e).1≠ .nor) {G:σ→Option ε} {μ:σ→Nat} (hG: ∀ s e,G s=some e→ZH G μ s e (B s))
  {s:σ} {e:ε} (hs:G s=some e):vg P (.loop c) (H s).st (fun x S'=>x=(E e).1∧S'=(E e).2.st):=by
 refine vg.loop (fun n X=> ∃ s,X=(H s).st∧G s=some e∧μ s=n) (fun n X hX=> ?_) (n:=μ s) ⟨s,rfl,hs,rfl⟩
 obtain⟨s,rfl,hs,rfl⟩:=hX
 have hg:=hG s e hs
 have hst:=hstep s
 cases hB:B s with
 | none=>rw [hB] at hg; exact hg.elim
 | some l=>
   rw [hB] at hg hst
   cases l with
   | inl s'=>
     simp only [Option.bind_some,Sum.elim_inl] at hst
     refine (Fm hΘ hY hm c _ _ _ hc hL (hH s) hst).mono (fun x S' hx=> ?_)
     obtain⟨S1,rfl,h1,h2⟩:=hx
     have bU: ∃ S2:TS,tj S1.st S2.st∧x= .nor∧S2=H s':=by
      unfold cU at h2
      split at h2
      ·obtain⟨S2,k1,_,k2⟩:=xI h1 h2
       simp only [Option.some.injEq,Prod.mk.injEq] at k2
       exact⟨S2,k1,rfl,k2.2⟩
      ·obtain⟨S2,k1,_,k2⟩:=xI h1 h2
       simp only [Option.some.injEq,Prod.mk.injEq] at k2
       exact⟨S2,k1,k2.1,k2.2⟩
     obtain⟨S2,k1,rfl,rfl⟩:=bU
     exact⟨_,k1,μ s',hg.1,s',rfl,hg.2,rfl⟩
   | inr e'=>
     simp only [Option.bind_some,Sum.elim_inr] at hst
     have hg:e'=e:=hg
     subst hg
     refine (Fm hΘ hY hm c _ _ _ hc hL (hH s) hst).mono (fun x S' hx=> ?_)
     obtain⟨S1,rfl,h1,h2⟩:=hx
     have bU: ∃ S2:TS,tj S1.st S2.st∧(x,S2)=E e':=by
      unfold cU at h2
      split at h2
      ·obtain⟨S2,k1,_,k2⟩:=xI h1 h2
       exact⟨S2,k1,Option.some.inj k2⟩
      ·obtain⟨S2,k1,_,k2⟩:=xI h1 h2
       exact⟨S2,k1,Option.some.inj k2⟩
     obtain⟨S2,k1,k2⟩:=bU
     refine⟨S2.st,k1,?_⟩
     have hx:x=(E e').1:=congrArg Prod.fst k2
     have hS2:S2=(E e').2:=congrArg Prod.snd k2
     have hne:=hE e'
     rw [←hx] at hne
     cases x with
     | nor=>exact absurd rfl hne
     | ret=>exact⟨hx,by rw [hS2]⟩
     | ext i=>exact⟨hx,by rw [hS2]⟩
def ZI (grow:List XJ) (keep:List Nat) (L:en) {ε:Type} (E:ε→X×TS) (G:L.D→Option ε):TS→(ρ:Type)→(X→TS→Option ρ)→Option ρ:=
 fun S _ κ=>Hn keep (Ck grow S) fun S1=>L.un S1 fun s=>(G s).bind fun e=>κ (E e).1 (E e).2
theorem ZJ {c:Code} {grow:List XJ} {keep:List Nat} {L:en} {ε:Type} {E:ε→X×TS} {G:L.D→Option ε} (hE: ∀ e,(E e).2.ok)
  (h: ∀ s e,G s=some e→vg P (.loop c) (L.mk' s).st (fun x S'=>x=(E e).1∧S'=(E e).2.st)) {S:TS} {ρ:Type} {κ:X→TS→Option ρ} {r:ρ} (hS:S.ok) (hk:ZI grow keep L E G S ρ κ=some r):
  vg P (.loop c) S.st (fun x S'=> ∃ S1:TS,S'=S1.st∧S1.ok∧κ x S1=some r):=by
 unfold ZI at hk
 obtain⟨h1,h2⟩:=DU grow hS
 obtain⟨S1,h3,h4,hk⟩:=xI h2 hk
 obtain⟨s,rfl,hk2⟩:=en.un_some h4 hk
 obtain⟨e,h5,hk3⟩:=Option.bind_eq_some_iff.1 hk2
 refine vg.weak (h1.trans h3) ((h s e h5).mono (fun x S' hx=> ?_))
 obtain⟨rfl,rfl⟩:=hx
 exact⟨_,tj.refl,_,rfl,hE e,hk3⟩
end
end Go.Proofs.YtkcgfceffffmoaaGreat.En
namespace Go.Proofs.YtkcgfceffffmoaaGreat.En
open Go
abbrev wg.D:List Ty→Type
 | [] =>Unit
 | t::l=>t.D×wg.D l
def ay: (l:List Ty)→wg.D l→List ((t:Ty)×t.D)
 | [],_=> []
 | t::l,x=>⟨t,x.1⟩::ay l x.2
def ax (P:Program) (f:FuncId) (e:bc):Prop:= ∀ args ρ κ r,e args ρ κ=some r→ ∃ res out,IV P f args res out∧res.ok (out.map some)∧κ res out=some r
theorem al (P:Program):au P (aE []):=fun _ _ _ _ _ h=>by cases h
theorem ae {P:Program} {f:FuncId} {e:bc} {l:List (Nat×bc)} (h:ax P f e) (hl:au P (aE l)):au P (aE ((f,e)::l)):=by
 intro g args ρ κ r hr
 have hr: (bif Nat.beq f g then e args ρ κ else acn l g args ρ κ)=some r:=hr
 cases hb:Nat.beq f g with
 | true=>
   rw [hb] at hr
   have:=Nat.eq_of_beq_eq_true hb
   subst this
   exact h args ρ κ r hr
 | false=>
   rw [hb] at hr
   exact hl g args ρ κ r hr
def VH (as bs:List AV):Prop:=as.length=bs.length∧ ∀ (k:Nat) (a b:AV),as[k]? =some a→bs[k]? =some b→a=b∨(a= .em∧ ∃ s,b= .ro s [])
theorem VH.refl (as:List AV):VH as as:=⟨rfl,fun k a b h1 h2=>by rw [h1] at h2; cases h2; exact .inl rfl⟩
theorem VH.cons {a b:AV} {as bs:List AV} (h:a=b∨(a= .em∧ ∃ s,b= .ro s [])) (hn:VH as bs):VH (a::as) (b::bs):=
 ⟨by simp [hn.1],fun k x y h1 h2=>by
  cases k with
  | zero=>simp only [List.getElem?_cons_zero,Option.some.injEq] at h1 h2; subst h1 h2; exact h
  | succ k=>exact hn.2 k x y (by simpa using h1) (by simpa using h2)⟩
theorem VH.VR {as bs:List AV} (hn:VH as bs) {w:World} {bt:Bt} {vals:List Value} (h: ∀ (k:Nat) (v:AV) (u:Value),as[k]? =some v→vals[k]? =some u→VR w bt v u) (k:Nat) (v:AV) (u:Value) (hv:bs[k]? =some v) (hu:vals[k]? =some u):VR w bt v u:=by
 have hk:k < as.length:=by rw [hn.1]; exact (List.getElem?_eq_some_iff.1 hv).1
 have ha:=List.getElem?_eq_getElem hk
 have hx:=h k _ u ha hu
 rcases hn.2 k _ v ha hv with e | ⟨e,s,rfl⟩
 ·rw [←e]; exact hx
 ·rw [e] at hx
  cases hx with
  | em b=>exact .ro (.em _ _ _)
theorem w6.norm {P:Program} {f:FuncId} {as bs:List AV} {gs:List T} {res:AV} {out:List T} (hn:VH as bs) (h:w6 P f bs gs res out):w6 P f as gs res out:=
 fun w W bt0 vals hI hl hv=>h w W bt0 vals hI (hl.trans hn.1) (hn.VR hv)
theorem qv.norm {P:Program} {f:FuncId} {as bs:List AV} {gs:List T} {m:Nat} {res:AV} {out:List T} (hn:VH as bs) (h:qv P f bs gs m res out):qv P f as gs m res out:=
 fun w W bt0 vals hI hl hv=>h w W bt0 vals hI (hl.trans hn.1) (hn.VR hv)
theorem un_some {ρ:Type} {t:Ty} {a:V1} {κ:t.D→Option ρ} {r:ρ} (h:un t a κ=some r): ∃ x,a=Tc t x∧κ x=some r:=by
 unfold un at h
 split at h
 ·rename_i cs
  obtain⟨h1,h⟩:=aB h
  split at h
  ·rename_i xs hxs
   split at h
   ·rename_i x hx
    refine⟨x,?_,h⟩
    unfold Tc
    rw [h1,t.unflat_some _ _ hx,Hp hxs]
    rfl
   ·cases h
  ·cases h
 ·rename_i y
  cases hag:t.ag with
  | true=>rw [hag] at h; cases h
  | false=>
    rw [hag] at h
    simp only [cond_false] at h
    split at h
    ·rename_i x hx
     refine⟨x,?_,h⟩
     unfold Tc
     rw [hag,t.unflat_some _ _ hx]
     rfl
    ·cases h
 ·cases h
theorem acv (t:Ty) (x:t.D): (Tc t x).ok [] :=by
 unfold Tc
 cases t.ag with
 | true=>
   intro c hc
   obtain⟨y,_,rfl⟩:=List.mem_map.1 hc
   trivial
 | false=>
   simp only [cond_false]
   split
   ·rename_i c hc
    have :c∈(t.flat x).map Cl.c:=by rw [hc]; exact List.mem_singleton.2 rfl
    obtain⟨y,_,rfl⟩:=List.mem_map.1 this
    trivial
   ·trivial
theorem QZ (G2 suf:List cc): ∀ (cs:List C) (mid:List cc),∀ c∈Aj cs (G2.length+mid.length),c.ok ((G2++mid++qy cs++suf).map some)
 | [],mid,c,h=>by cases h
 | .sc v::cs,mid,c,h=>by
   rcases List.mem_cons.1 h with rfl | h
   ·trivial
   ·exact QZ G2 suf cs mid c h
 | .ls t l::cs,mid,c,h=>by
   rcases List.mem_cons.1 h with rfl | h
   ·refine⟨by simp [qy],fun _=>⟨rfl,rfl,fun tr htr=> ?_⟩⟩
    have :dG ((G2++mid++qy (.ls t l::cs)++suf).map some) (G2.length+mid.length)=some ⟨t,l,none⟩:=by
     unfold dG
     rw [ej,List.getElem?_map,List.append_assoc,List.getElem?_append_right (by simp)]
     simp [qy]
    have htr':dG ((G2++mid++qy (.ls t l::cs)++suf).map some) (G2.length+mid.length)=some tr:=htr
    rw [this] at htr'
    cases htr'
    rfl
   ·have:=QZ G2 suf cs (mid++ [⟨t,l,none⟩]) c (by rw [List.length_append,←Nat.add_assoc]; exact h)
    simp only [qy]
    simpa using this
theorem abi (t:Ty) (x:t.D) (G2 suf:List cc): (LX t x G2.length).ok ((G2++qy (t.flat x)++suf).map some):=by
 have bU:=QZ G2 suf (t.flat x) []
 simp only [List.length_nil,Nat.add_zero,List.append_nil] at bU
 unfold LX
 cases t.ag with
 | true=>exact bU
 | false=>
   simp only [cond_false]
   split
   ·rename_i c hc
    exact bU c (by rw [hc]; exact List.mem_singleton.2 rfl)
   ·trivial
theorem Fo: ∀ (l:List ((t:Ty)×t.D)) (G2:List cc),∀ v∈CT G2.length l,v.ok ((G2++CU l).map some)
 | [],G2,v,h=>by cases h
 | ⟨t,x⟩::l,G2,v,h=>by
   rcases List.mem_cons.1 h with rfl | h
   ·have:=abi t x G2 (CU l)
    simpa [CU] using this
   ·have:=Fo l (G2++qy (t.flat x)) v (by rw [List.length_append]; exact h)
    simpa [CU] using this
theorem ZK (l:List ((t:Ty)×t.D)): (Cy (CT 0 l)).ok ((CU l).map some):=by
 have h:=Fo l []
 simp only [List.length_nil,List.nil_append] at h
 match CT 0 l,h with
 | [],_=>exact fun x hx=>by cases hx
 | [v],h=>exact h v List.mem_cons_self
 | v::u::vs,h=>exact h
end Go.Proofs.YtkcgfceffffmoaaGreat.En
namespace Go.Proofs.YtkcgfceffffmoaaGreat.En
open Go
def Sh.fit (n:Nat):Sh→Bool | .own r _=>Nat.blt r n | .sub r _=>Nat.blt r n | _=>true
def G1.fit (n:Nat):G1→Bool | .cl s=>s.fit n | .agg l=>l.all (Sh.fit n) | .st _=>true | .fn _ l=>l.all (Sh.fit n)
def en.fit (L:en):Bool:=L.env.all (fun x=>x.2.fit L.gh.length)&&L.bx.all (fun l=>l.all (Sh.fit L.gh.length))
theorem xe.mk_length: ∀ (l:List Ty) (d:xe.D l),(xe.mk l d).length=l.length
 | [],_=>rfl
 | t::l,d=>by simp [xe.mk,xe.mk_length l d.2]
theorem Sh.mk_ok {G:List (Option cc)} {s:Sh} (h:s.fit G.length=true) (x:s.D): (s.mk G x).ok G:=by
 cases s with
 | own r t=>
   refine⟨Nat.le_of_ble_eq_true h,fun _=>⟨rfl,rfl,fun tr htr=> ?_⟩⟩
   unfold dG at htr
   unfold act
   have htr': (tp G r).getD none=some tr:=htr
   cases hn:tp G r with
   | none=>rw [hn] at htr'; cases htr'
   | some y=>rw [hn] at htr'; simp only [Option.getD_some] at htr'; subst htr'; rfl
 | sub r t=>exact⟨Nat.le_of_ble_eq_true h,fun e=>by cases e⟩
 | _=>trivial
theorem Cj.mk_ok {G:List (Option cc)}: ∀ {l:List Sh},l.all (Sh.fit G.length)=true→ ∀ (x:Cj.D l),∀ c∈Cj.mk G l x,c.ok G
 | [],_,x,c,hc=>by cases hc
 | s::l,h,x,c,hc=>by
   simp only [List.all_cons,Bool.and_eq_true] at h
   rcases List.mem_cons.1 hc with rfl | hc
   ·exact Sh.mk_ok h.1 x.1
   ·exact Cj.mk_ok h.2 x.2 c hc
theorem G1.mk_ok {G:List (Option cc)} {v:G1} (h:v.fit G.length=true) (x:v.D): (v.mk G x).ok G:=by
 cases v with
 | cl s=>exact Sh.mk_ok h x
 | agg l=>exact Cj.mk_ok h x
 | st n=>
   intro c hc
   obtain⟨y,_,rfl⟩:=List.mem_map.1 hc
   trivial
 | fn f l=>exact Cj.mk_ok h x
theorem en.mk'_ok {L:en} (h:L.fit=true) (d:L.D): (L.mk' d).ok:=by
 unfold en.fit at h
 simp only [Bool.and_eq_true] at h
 have hlen: (xe.mk L.gh d.2.2).length=L.gh.length:=xe.mk_length _ _
 rw [←hlen] at h
 have env: ∀ {l:List (Nat×G1)},l.all (fun x=>x.2.fit (xe.mk L.gh d.2.2).length)=true→ ∀ (e:Oc.D l),∀ x∈Oc.mk (xe.mk L.gh d.2.2) l e,x.2.ok (xe.mk L.gh d.2.2):=by
  intro l
  induction l with
  | nil=>intro _ e x hx; cases hx
  | cons y l ih=>
    intro h e x hx
    simp only [List.all_cons,Bool.and_eq_true] at h
    rcases List.mem_cons.1 hx with rfl | hx
    ·exact G1.mk_ok h.1 e.1
    ·exact ih h.2 e.2 x hx
 have bxs: ∀ {l:List (List Sh)},l.all (fun l=>l.all (Sh.fit (xe.mk L.gh d.2.2).length))=true→ ∀ (e:Od.D l),∀ cs∈Od.mk (xe.mk L.gh d.2.2) l e,∀ c∈cs,c.ok (xe.mk L.gh d.2.2):=by
  intro l
  induction l with
  | nil=>intro _ e x hx; cases hx
  | cons y l ih=>
    intro h e x hx
    simp only [List.all_cons,Bool.and_eq_true] at h
    rcases List.mem_cons.1 hx with rfl | hx
    ·exact Cj.mk_ok h.1 e.1
    ·exact ih h.2 e.2 x hx
 exact⟨env h.1 d.1,bxs h.2 d.2.1⟩
abbrev bg.D:List (X×en)→Type
 | [] =>Empty
 | [x] =>x.2.D
 | x::y::l=>x.2.D⊕bg.D (y::l)
def bg.k {R:Type}: (l:List (X×en))→bg.D l→(X→TS→R)→R
 | [],e,_=>e.elim
 | [x],d,κ=>κ x.1 (x.2.mk' d)
 | x::y::l,e,κ=>Sum.elim (fun d=>κ x.1 (x.2.mk' d)) (fun e=>bg.k (y::l) e κ) e
def bg.e (l:List (X×en)) (d:bg.D l):X×TS:=bg.k l d Prod.mk
theorem bg.k_eq {R:Type}: ∀ (l:List (X×en)) (d:bg.D l) (κ:X→TS→R),bg.k l d κ=κ (bg.e l d).1 (bg.e l d).2
 | [],e,_=>e.elim
 | [_],_,_=>rfl
 | _::_::_, .inl _,_=>rfl
 | _::y::l, .inr e,κ=>bg.k_eq (y::l) e κ
def exB (x:X×en):Bool:=(match x.1 with | .nor=>false | _=>true)&&x.2.fit
theorem bg.ok: ∀ (l:List (X×en)) (d:bg.D l),l.all exB=true→(bg.e l d).1≠ .nor∧(bg.e l d).2.ok
 | [],e,_=>e.elim
 | [x],d,h=>by
   simp only [List.all_cons,Bool.and_eq_true,exB] at h
   refine⟨fun e=> ?_,en.mk'_ok h.1.2 d⟩
   have e:x.1= .nor:=e
   rw [e] at h
   cases h.1.1
 | x::_::_, .inl d,h=>by
   simp only [List.all_cons,Bool.and_eq_true,exB] at h
   refine⟨fun e=> ?_,en.mk'_ok h.1.2 d⟩
   have e:x.1= .nor:=e
   rw [e] at h
   cases h.1.1
 | _::y::l, .inr e,h=>bg.ok (y::l) e (by
   simp only [List.all_cons,Bool.and_eq_true] at h ⊢
   exact h.2)
def df (grow:List XJ) (keep:List Nat) (L:en) (exs:List (X×en)) (G:L.D→Option (bg.D exs)):TS→(ρ:Type)→(X→TS→Option ρ)→Option ρ:=
 fun S _ κ=>Hn keep (Ck grow S) fun S1=>L.un S1 fun s=>(G s).bind fun e=>bg.k exs e κ
abbrev cW:=TS→(ρ:Type)→(X→TS→Option ρ)→Option ρ
def aF:List (Nat×cW)→tu
 | [],_,_,_,_=>none
 | (q,e)::l,n,S,ρ,κ=>bif Nat.beq q n then e S ρ κ else aF l n S ρ κ
section
variable {P:Program} {Θ:to} {Y:Fe} {Λ:tu}
def bP (P:Program) (c:Code) (e:cW):Prop:= ∀ (S:TS) (ρ:Type) (κ:X→TS→Option ρ) (r:ρ),S.ok→e S ρ κ=some r→vg P (.loop c) S.st (fun x S'=> ∃ S1:TS,S'=S1.st∧S1.ok∧κ x S1=some r)
theorem ah:iY P Λ [] :=fun c hc=>by cases hc
theorem aK {l:List (Nat×cW)} {c:Code} {q:Nat} {e:cW} (hq:bU c=q) (h:bP P c e) (hl: ∀ (S:TS) (ρ:Type) (κ:X→TS→Option ρ),aF l q S ρ κ=e S ρ κ):iY P (aF l) [c] :=by
 intro c' hc' S ρ κ r hS hr
 rw [List.mem_singleton] at hc'
 subst hc'
 rw [hq,hl] at hr
 exact h S ρ κ r hS hr
theorem aW (hΘ:fk P Θ) (hY:au P Y) (hm:P.follows .mixedOrders=true) {c:Code} (hc:oS P c=true) (hL:iY P Λ (gb c)) (grow:List XJ) (keep keepX:List Nat) (L:en) (exs:List (X×en)) (hf: (L.fit&&exs.all exB)=true)
  (B:L.D→Option (L.D⊕bg.D exs)) (hB: ∀ s,ez Θ Y Λ c (L.mk' s) (cU keep keepX fun x S=>some (x,S))=(B s).bind (Sum.elim (fun s'=>some (.nor,L.mk' s')) fun e=>some (bg.e exs e)))
  (G:L.D→Option (bg.D exs)) (μ:L.D→Nat) (hG: ∀ s e,G s=some e→ZH G μ s e (B s)):bP P c (df grow keep L exs G):=by
 simp only [Bool.and_eq_true] at hf
 intro S ρ κ r hS hk
 refine ZJ (E:=bg.e exs) (fun e=>(bg.ok exs e hf.2).2) (fun s e hs=>abh hΘ hY hm hc hL (fun s=>en.mk'_ok hf.1 s) hB (fun e=>(bg.ok exs e hf.2).1) hG hs) hS ?_ (grow:=grow) (keep:=keep)
 rw [←hk]
 unfold ZI df
 simp only [bg.k_eq]
end
end Go.Proofs.YtkcgfceffffmoaaGreat.En
namespace Go.Proofs.YtkcgfceffffmoaaGreat.En
open Go
def abj (P:Program) (e:TypeId→List Value→Bool):List Field→Nat→List Value→Bool
 | [],_,[] =>true
 | [],_,_::_=>false
 | f::fs,off,zs=>f.name != "_" &&Nat.beq f.offset off&&Nat.blt 0 (P.cellsOf f.type)&&Nat.ble (P.cellsOf f.type) zs.length&&(P.info? f.type).isSome&&e f.type (zs.take (P.cellsOf f.type))&&abj P e fs (off+P.cellsOf f.type) (zs.drop (P.cellsOf f.type))
def TB (P:Program):Nat→TypeId→List Value→Bool
 | 0,_,_=>false
 | n+1,t,zs=>match P.underlying t with
   | some .bool=>(match zs with | [.bool _] =>true | _=>false)
   | some (.int _)=>(match zs with | [.int _ _] =>true | _=>false)
   | some (.struct fs)=> !P.stoodInHeld t&&abj P (TB P n) fs.toList 0 zs
   | _=>false
def Oe (P:Program) (t:TypeId) (xs:List Value):Value:=match P.underlying t with
 | some (.struct _)=> .agg xs.toArray
 | _=>xs.headD (.bool false)
def oA:List Value→List Value→Bool
 | [],[] =>true
 | .int k _::zs, .int k' _::cs=>bif decide (k=k') then oA zs cs else false
 | .bool _::zs, .bool _::cs=>oA zs cs
 | _,_=>false
def oW:List Value→List Value→Option Bool
 | [],[] =>some true
 | a::l,b::m=>match S6 a b,oW l m with
   | some x,some y=>some (x&&y)
   | _,_=>none
 | _,_=>none
theorem Mf: ∀ {zs xs:List Value},oF zs (xs.map fun x=> .c (.sc x))=true→oA zs xs=true:=by
 intro zs
 induction zs with
 | nil=>intro xs h; cases xs with
   | nil=>rfl
   | cons=>simp [oF] at h
 | cons z zs ih=>
   intro xs h
   cases xs with
   | nil=>cases z <;> simp [oF] at h
   | cons x xs=>
     cases z <;> cases x <;> simp only [List.map_cons,oF,oA,cond_eq_ite,Bool.false_eq_true] at h ⊢
     ·exact ih h
     ·split at h
      ·rename_i hk
       rw [if_pos hk]
       exact ih h
      ·cases h
theorem XK: ∀ {xs ys:List Value},Ca (xs.map fun x=> .c (.sc x)) (ys.map fun x=> .c (.sc x))=oW xs ys:=by
 intro xs
 induction xs with
 | nil=>intro ys; cases ys <;> rfl
 | cons x xs ih=>
   intro ys
   cases ys with
   | nil=>rfl
   | cons y ys=>
     simp only [List.map_cons,Ca,oW,ih]
     cases S6 x y <;> cases oW xs ys <;> rfl
theorem uX: ∀ {zs xs:List Value},oA zs xs=true→xs.length=zs.length:=by
 intro zs
 induction zs with
 | nil=>intro xs h; cases xs with
   | nil=>rfl
   | cons=>simp [oA] at h
 | cons z zs ih=>
   intro xs h
   cases xs with
   | nil=>cases z <;> simp [oA] at h
   | cons x xs=>
     cases z <;> cases x <;> simp only [oA,cond_eq_ite,Bool.false_eq_true] at h
     ·simp [ih h]
     ·split at h
      ·simp [ih h]
      ·cases h
theorem yJ: ∀ {zs xs:List Value} (n:Nat),oA zs xs=true→oA (zs.take n) (xs.take n)=true∧oA (zs.drop n) (xs.drop n)=true:=by
 intro zs
 induction zs with
 | nil=>intro xs n h; cases xs with
   | nil=>simp [oA]
   | cons=>simp [oA] at h
 | cons z zs ih=>
   intro xs n h
   cases xs with
   | nil=>cases z <;> simp [oA] at h
   | cons x xs=>
     cases n with
     | zero=>exact⟨rfl,h⟩
     | succ n=>
       cases z <;> cases x <;> simp only [oA,cond_eq_ite,Bool.false_eq_true] at h
       ·exact ih n h
       ·split at h
        ·rename_i hk
         refine⟨?_,(ih n h).2⟩
         simp only [List.take_succ_cons,oA,cond_eq_ite]
         rw [if_pos (by simpa using hk)]
         exact (ih n h).1
        ·cases h
theorem Q0: ∀ {xs ys:List Value} (n:Nat) {r:Bool},oW xs ys=some r→ ∃ a b,oW (xs.take n) (ys.take n)=some a∧oW (xs.drop n) (ys.drop n)=some b∧r=(a&&b):=by
 intro xs
 induction xs with
 | nil=>intro ys n r h; cases ys with
   | nil=>cases h; exact⟨true,true,by simp [oW],by simp [oW],rfl⟩
   | cons=>simp [oW] at h
 | cons x xs ih=>
   intro ys n r h
   cases ys with
   | nil=>simp [oW] at h
   | cons y ys=>
     cases n with
     | zero=>exact⟨true,r,rfl,h,rfl⟩
     | succ n=>
       simp only [oW] at h
       split at h
       ·rename_i p q hp hq
        cases h
        obtain⟨a,b,h1,h2,rfl⟩:=ih n hq
        exact⟨p&&a,b,by simp [oW,hp,h1],h2,by cases p <;> rfl⟩
       ·cases h
theorem Q1 {P:Program} {t:TypeId} {i:TypeInfo} (h:P.info? t=some i):bQ P (typeInfo t)=some i:=by
 simp only [typeInfo,bz,program,bQ,Option.bind_some,h]
 rfl
theorem TC {P:Program} {t:TypeId} {i:TypeInfo} (hi:P.info? t=some i) {d:TypeDesc} (hd:P.underlying t=some d) (hs: ∀ n e,d≠ .array n e) {xs:List Value} {off:Nat} {c:Value} (hc:xs[off]? =some c):
  bQ P (part t xs.toArray off)=some (Oe P t ((xs.drop off).take (P.cellsOf t)))∨P.cellsOf t=0:=by
 by_cases h0:P.cellsOf t=0
 ·exact .inr h0
 refine .inl ?_
 have hcell:P.cellsOf t=i.size:=by simp [Program.cellsOf,hi]
 cases hst: (match d with | .struct _=>true | _=>false) with
 | true=>
   have hag:bQ P (isAgg t)=some true:=by
    simp only [isAgg,bz,dV hd,Option.bind_some]
    cases d <;> simp at hst
    rfl
   simp only [part,sizeOf,bz,hag,Option.bind_some,if_true,Q1 hi,cy,Oe,hd]
   cases d <;> simp at hst
   simp [hcell,Nat.add_sub_cancel_left]
 | false=>
   have hag:bQ P (isAgg t)=some false:=by
    simp only [isAgg,bz,dV hd,Option.bind_some]
    cases d <;> simp at hst
    all_goals first | rfl | exact absurd rfl (hs _ _)
   have hv:Oe P t ((xs.drop off).take (P.cellsOf t))=c:=by
    have : ((xs.drop off).take (P.cellsOf t)).headD (.bool false)=c:=by
     obtain⟨n,hn⟩: ∃ n,P.cellsOf t=n+1:=⟨P.cellsOf t - 1,by omega⟩
     have h1:off < xs.length:=(List.getElem?_eq_some_iff.1 hc).1
     rw [hn,List.drop_eq_getElem_cons h1,List.take_succ_cons]
     exact (List.getElem?_eq_some_iff.1 hc).2
    unfold Oe
    rw [hd]
    cases d <;> first | exact this | simp at hst
   rw [hv]
   simp only [part,bz,hag,Option.bind_some,Bool.false_eq_true,if_false]
   have :xs.toArray[off]? =some c:=by simpa using hc
   rw [this]
   rfl
theorem W0 (P:Program): ∀ (n:Nat) {t:TypeId} {zs xs ys:List Value} {r:Bool} (d:Nat),TB P n t zs=true→oA zs xs=true→oA zs ys=true→oW xs ys=some r→bQ P (Op.equalIn (n+d) t (Oe P t xs) (Oe P t ys))=some r
 | 0,t,zs,xs,ys,r,d,h,_,_,_=>by cases h
 | n+1,t,zs,xs,ys,r,d,h,hx,hy,he=>by
   have hn:n+1+d=(n+d)+1:=by omega
   rw [hn]
   unfold TB at h
   cases hu:P.underlying t with
   | none=>rw [hu] at h; cases h
   | some D=>
     rw [hu] at h
     cases D <;> simp only [Bool.false_eq_true] at h
     case bool=>
      split at h
      case h_2=>cases h
      obtain⟨x,rfl⟩: ∃ x,xs= [.bool x] :=by
       match xs,hx with
       | [.bool x],_=>exact⟨x,rfl⟩
      obtain⟨y,rfl⟩: ∃ y,ys= [.bool y] :=by
       match ys,hy with
       | [.bool y],_=>exact⟨y,rfl⟩
      simp only [oW,S6,Bool.and_true,Option.some.injEq] at he
      subst he
      simp only [Oe,hu,List.headD_cons]
      rw [Op.equalIn]
      simp only [bz,dV hu,Option.bind_some,cy]
     case int k=>
      split at h
      case h_2=>cases h
      rename_i k0 _
      obtain⟨x,rfl⟩: ∃ x,xs= [.int k0 x] :=by
       match xs,hx with
       | [.int k1 x],hx=>
         simp only [oA,cond_eq_ite] at hx
         split at hx
         ·rename_i hk; simp at hk; subst hk; exact⟨x,rfl⟩
         ·cases hx
       | .int _ _::_::_,hx=>simp [oA] at hx
      obtain⟨y,rfl⟩: ∃ y,ys= [.int k0 y] :=by
       match ys,hy with
       | [.int k1 x],hx=>
         simp only [oA,cond_eq_ite] at hx
         split at hx
         ·rename_i hk; simp at hk; subst hk; exact⟨x,rfl⟩
         ·cases hx
       | .int _ _::_::_,hx=>simp [oA] at hx
      simp only [oW,S6,Bool.and_true,Option.some.injEq] at he
      subst he
      simp only [Oe,hu,List.headD_cons]
      rw [Op.equalIn]
      simp only [bz,dV hu,Option.bind_some,cy,if_true]
     case struct fs=>
      simp only [Bool.and_eq_true,Bool.not_eq_true'] at h
      obtain⟨hst,h⟩:=h
      simp only [Oe,hu]
      have bU: ∀ (fs:List Field) (off:Nat) (zs:List Value) (r:Bool),abj P (TB P n) fs off zs=true→oA zs (xs.drop off)=true→oA zs (ys.drop off)=true→oW (xs.drop off) (ys.drop off)=some r→
        bQ P (Op.eqFields (n+d) xs.toArray ys.toArray fs)=some r:=by
       intro fs
       induction fs with
       | nil=>
         intro off zs r h hx hy he
         cases zs with
         | nil=>
           have h1:=uX hx
           have h2:=uX hy
           simp only [List.length_nil,List.length_eq_zero_iff] at h1 h2
           rw [h1,h2] at he
           cases he
           rfl
         | cons=>cases h
       | cons f fs ih=>
         intro off zs r h hx hy he
         simp only [abj,Bool.and_eq_true,bne_iff_ne,ne_eq] at h
         obtain⟨⟨⟨⟨⟨⟨hname,hoff⟩,hpos⟩,hle⟩,hi⟩,h1⟩,h2⟩:=h
         have hoff:=Nat.eq_of_beq_eq_true hoff
         have hpos:0 < P.cellsOf f.type:=Nat.le_of_ble_eq_true hpos
         have hle:P.cellsOf f.type≤zs.length:=Nat.le_of_ble_eq_true hle
         have hlx:=uX hx
         have hly:=uX hy
         rw [List.length_drop] at hlx hly
         obtain⟨i,hi⟩:=Option.isSome_iff_exists.1 hi
         have hu': ∃ D,P.underlying f.type=some D∧ ∀ n e,D≠ .array n e:=by
          cases hun:P.underlying f.type with
          | none=>cases n <;> simp [TB,hun] at h1
          | some D=>refine⟨D,rfl,fun k e he=> ?_⟩; subst he; cases n <;> simp [TB,hun] at h1
         obtain⟨D,hD,hDa⟩:=hu'
         have px:=TC hi hD hDa (xs:=xs) (off:=off) (List.getElem?_eq_getElem (by omega))
         have py:=TC hi hD hDa (xs:=ys) (off:=off) (List.getElem?_eq_getElem (by omega))
         have px:=px.resolve_right (by omega)
         have py:=py.resolve_right (by omega)
         obtain⟨a,b,ha,hb,rfl⟩:=Q0 (P.cellsOf f.type) he
         have hA:=W0 P n d h1 (yJ _ hx).1 (yJ _ hy).1 ha
         rw [Op.eqFields,if_pos hname]
         simp only [hoff,bz,px,py,Option.bind_some,hA]
         cases a with
         | false=>rfl
         | true=>
           simp only [Bool.not_true,Bool.false_eq_true,if_false,Bool.true_and]
           simp only [List.drop_drop] at hb
           refine ih _ _ _ h2 ?_ ?_ hb
           ·have:=(yJ (P.cellsOf f.type) hx).2; rw [List.drop_drop] at this; exact this
           ·have:=(yJ (P.cellsOf f.type) hy).2; rw [List.drop_drop] at this; exact this
      have:=bU fs.toList 0 zs r h (by simpa using hx) (by simpa using hy) (by simpa using he)
      rw [←this]
      rw [Op.equalIn]
      simp only [bz,dV hu,Option.bind_some,program,bQ,hst,Bool.false_eq_true,if_false]
      rw [←Array.forIn_toList]
      generalize fs.toList=fs
      clear this bU h hu hst hn
      induction fs with
      | nil=>rfl
      | cons f fs ih=>
        simp only [List.forIn_cons,Op.eqFields]
        split
        ·simp only [bz]
         cases bQ P (part f.type xs.toArray f.offset) with
         | none=>rfl
         | some a=>
           cases bQ P (part f.type ys.toArray f.offset) with
           | none=>rfl
           | some b=>
             simp only [Option.bind_some]
             cases bQ P (Op.equalIn (n+d) f.type a b) with
             | none=>rfl
             | some q=>
               cases q
               ·rfl
               ·simp only [Option.bind_some,Bool.not_true,Bool.false_eq_true,if_false,cy]
                simpa only [bz,Option.bind_assoc] using ih
        ·simp only [bz,cy,Option.bind_some]
         simpa only [bz,Option.bind_assoc] using ih
theorem adk {P:Program} {t:TypeId} {zs:List Value} {fs:Array Field} (hu:P.underlying t=some (.struct fs)) (h:TB P 8 t zs=true) (a b:List Cl) (r:Bool) (xs ys:List Value) (ha:oF zs a=true) (hb:oF zs b=true) (he:Ca a b=some r) (hx:a=xs.map (fun x=> .c (.sc x))) (hy:b=ys.map (fun x=> .c (.sc x))):
  bQ P (Op.equal t (.agg xs.toArray) (.agg ys.toArray))=some r:=by
 subst hx hy
 have:=W0 P 8 9992 h (Mf ha) (Mf hb) (by rw [←XK]; exact he)
 unfold Oe at this
 rw [hu] at this
 exact this
end Go.Proofs.YtkcgfceffffmoaaGreat.En
namespace Go.Proofs.YtkcgfceffffmoaaGreat.En
open Go
def fdL (P:Program):List Field→Option (List (Nat×Nat×Bool))
 | [] =>some []
 | f::fs=>match NY P f.type,fdL P fs with
   | some ag,some l=>some ((f.offset,P.cellsOf f.type,ag)::l)
   | _,_=>none
def fdA (P:Program) (t:TypeId):Option (List (Nat×Nat×Bool)):=match P.underlying t with | some (.struct fs)=>fdL P fs.toList | _=>none
theorem W1 {P:Program}: ∀ {fs:List Field} {l:List (Nat×Nat×Bool)},fdL P fs=some l→ ∀ k,(fs[k]?).bind (fun f=>(NY P f.type).map fun ag=>(f.offset,P.cellsOf f.type,ag))=tp l k
 | [],l,h,k=>by cases h; rfl
 | f::fs,l,h,k=>by
   unfold fdL at h
   split at h
   ·rename_i ag l' h1 h2
    cases h
    cases k with
    | zero=>simp [h1,tp]
    | succ k=>
      show _=tp l' (k+1 - 1)
      rw [Nat.add_sub_cancel,←W1 h2 k,List.getElem?_cons_succ]
   ·cases h
theorem abk {P:Program} {t:TypeId} {l:List (Nat×Nat×Bool)} (h:fdA P t=some l) (k:Nat):Yv P t k=tp l k:=by
 unfold fdA at h
 unfold Yv
 split at h
 ·rename_i fs hu
  simp only [hu]
  rw [←W1 h k,Array.getElem?_toList]
 ·cases h
theorem abl (P:Program):fk P [] :=fun _ _ h=>by cases h
theorem bK {P:Program} {t:Nat} {ti:TI} {l:to} (h:ti.ok P t) (hl:fk P l):fk P ((t,ti)::l):=by
 intro u ui hu
 unfold qw at hu
 cases hb:Nat.beq t u with
 | true=>
   rw [hb] at hu
   have:=Nat.eq_of_beq_eq_true hb
   subst this
   cases hu
   exact h
 | false=>
   rw [hb] at hu
   exact hl u ui hu
def adl (P:Program) (t:TypeId):Bool:=match P.underlying t with | some (.struct _)=>true | _=>false
section
variable {P:Program} {t:TypeId}
theorem rT {n:Sn} {fds:List (Nat×Nat×Bool)} {by':Nat} (h1:adl P t=true) (h2:P.cellsOf t=(Ty.st n).width) (h3:th P 9 t=(Ty.st n).shs) (h4:G0 P t=some (Ty.st n).zvs) (h5:fdA P t=some fds)
  (h6:plT P t=some (fds.map fun x=>(x.1,x.2.1))) (h7: ((Ty.st n).flatB=true→P.eqGuardType P.depth t=false∧TB P 8 t (Ty.st n).zvs=true)) (hz: (Ty.st n).flatB=false→ ∀ xs:List Value,oF (Ty.st n).zvs (xs.map fun x=> .c (.sc x))=false):TI.ok P t ⟨.st n,0,fds,by'⟩:=by
 unfold adl at h1
 split at h1
 case h_2=>cases h1
 rename_i fs hu
 refine⟨?_,h2,h3,h4,abk h5,fun _=>h6,fun e he=>(by cases he),fun hb=>(by cases hb),fun _ hf=>(h7 hf).1,fun _ a b r xs ys ha hb he hx hy=> ?_,?_,fun k hk=>(by cases hk)⟩
 ·simp [NY,hu,Ty.ag]
 ·cases hf: (Ty.st n).flatB with
  | true=>exact adk hu (h7 hf).2 a b r xs ys ha hb he hx hy
  | false=>
    subst hx
    have:=hz hf xs
    rw [show oF (Ty.st n).zvs _=true from ha] at this
    cases this
 ·simp [Qo,hu]
theorem zx {e:Ty} {el:Nat} {by':Nat} {u:TypeId} (h1:Cx P t=some u) (h2:P.cellsOf t=1) (h4:G0 P t=some [.slice none 0 0]) (h5:P.cellsOf u=e.width) (h6:P.bytesOf u=el) (h7:Nat.blt 0 el=true) (h8:th P 9 u=e.shs) (h9:G0 P u=some e.zvs):TI.ok P t ⟨.ls e,el,[],by'⟩:=by
 have hu:P.underlying t=some (.slice u):=by
  unfold Cx at h1
  split at h1
  ·rename_i e hu; cases h1; exact hu
  ·cases h1
 refine⟨?_,h2,?_,h4,fun k=> ?_,fun h=>(by cases h),fun e' he=> ?_,fun hb=>(by cases hb),fun h=>(by cases h),fun h=>(by cases h),?_,fun k hk=>(by cases hk)⟩
 ·simp [NY,hu,Ty.ag]
 ·simp [th,hu,Ty.shs,Ty.csh,h5]
 ·simp [Yv,hu,tp]
 ·cases he
  exact⟨u,h1,h5,h6,Nat.le_of_ble_eq_true h7,h8,h9⟩
 ·simp [Qo,hu]
def scT (P:Program) (t:TypeId) (y:Ty):Bool:=match P.underlying t,y with
 | some (.int k), .i k'=>decide (k=k')
 | some .bool, .b=>true
 | some .string, .s=>true
 | _,_=>false
theorem CV {y:Ty} {by':Nat} (h1:scT P t y=true) (h2:P.cellsOf t=1) (h4:G0 P t=some y.zvs):TI.ok P t ⟨y,0,[],by'⟩:=by
 unfold scT at h1
 split at h1
 ·rename_i k k' hu
  refine⟨(by simp [NY,hu,Ty.ag]),h2,(by simp [th,hu,Ty.shs,Ty.csh]),h4,fun k=>(by simp [Yv,hu,tp]),fun h=>(by cases h),fun e' he=>(by cases he),fun hb=>(by cases hb),fun h=>(by cases h),fun h=>(by cases h),by simp [Qo,hu],fun q hq=>(by cases hq; rw [hu]; simp only [decide_eq_true_eq] at h1; rw [h1])⟩
 ·rename_i hu
  refine⟨(by simp [NY,hu,Ty.ag]),h2,(by simp [th,hu,Ty.shs,Ty.csh]),h4,fun k=>(by simp [Yv,hu,tp]),fun h=>(by cases h),fun e' he=>(by cases he),fun hb=>hu,fun h=>(by cases h),fun h=>(by cases h),by simp [Qo,hu],fun q hq=>(by cases hq)⟩
 ·rename_i hu
  refine⟨(by simp [NY,hu,Ty.ag]),h2,(by simp [th,hu,Ty.shs,Ty.csh]),h4,fun k=>(by simp [Yv,hu,tp]),fun h=>(by cases h),fun e' he=>(by cases he),fun hb=>(by cases hb),fun h=>(by cases h),fun h=>(by cases h),by simp [Qo,hu],fun q hq=>(by cases hq)⟩
 ·cases h1
end
theorem km: ∀ {zs:List Value} (xs:List Value),zs.any (fun z=>match z with | .int _ _=>false | .bool _=>false | _=>true)=true→oF zs (xs.map fun x=> .c (.sc x))=false
 | [],xs,h=>by cases h
 | z::zs,xs,h=>by
   cases hb:oF (z::zs) (xs.map fun x=> .c (.sc x)) with
   | false=>rfl
   | true=>
     exfalso
     cases xs with
     | nil=>cases z <;> simp [oF] at hb
     | cons x xs=>
       cases z <;> simp only [oF,List.map_cons,Bool.false_eq_true] at hb
       all_goals cases x <;> simp only [oF,cond_eq_ite,Bool.false_eq_true] at hb
       ·rw [km xs (by simpa using h)] at hb; cases hb
       ·split at hb
        ·rw [km xs (by simpa using h)] at hb; cases hb
        ·cases hb
end Go.Proofs.YtkcgfceffffmoaaGreat.En
