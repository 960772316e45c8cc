import Derived.Test.YtkcgfceffffmoaaGreatZX7
namespace Go.Proofs.YtkcgfceffffmoaaGreat.En
open Go
section
variable {ρ:Type} {P:Program} {Θ:pI} {S:TS} {Y:zO}
open Classical in
noncomputable def zV (d:Option Tmp) (D1 D2:rX):rX:=fun d'=>if d'=d then D1 d' else D2 d'
theorem Lg {d:Option Tmp} {D1 D2:rX} (h1:oW P D1) (h2:oW P D2):oW P (zV d D1 D2):=by
 intro d' f args gs res out h
 unfold zV at h
 split at h
 ·exact h1 _ _ _ _ _ _ h
 ·exact h2 _ _ _ _ _ _ h
theorem QT (d:Option Tmp) (D1 D2:rX):zV d D1 D2 d=D1 d:=by unfold zV; rw [if_pos rfl]
theorem QU {d d':Option Tmp} (D1 D2:rX) (h:d'≠d):zV d D1 D2 d'=D2 d':=by unfold zV; rw [if_neg h]
theorem SB (hΘ:eo P Θ) (hY:ax P Y) {ops:Array Oper}: ∀ (os:List Oper) (S:TS) (ms:List iH) (κ:TS→List iH→Option ρ) (r:ρ),S.ok→KZ Θ Y ops.toList os S ms κ=some r→
  ∃ D SV ms',oW P D∧Ev D P ops os S.st=some (TS.st SV,ms')∧SV.ok∧κ SV (ms++ms')=some r:=by
 intro os
 induction os with
 | nil=>intro S ms κ r hS h; exact⟨Ki,S,[],jf,rfl,hS,by rw [List.append_nil]; exact h⟩
 | cons o os ih=>
   intro S ms κ r hS h
   unfold KZ at h
   cases hst:ao o with
   | true=>
     rw [hst] at h
     simp only [cond_true] at h
     obtain⟨D,SV,ms',h1,h2,h3,h4⟩:=ih _ _ _ _ hS h
     refine⟨D,SV,⟨S.gh.length,[],[]⟩::ms',h1,?_,h3,?_⟩
     ·simp only [Ev,hst,if_true,h2,Option.map_some]
      rfl
     ·rw [List.append_assoc] at h4
      exact h4
   | false=>
     rw [hst] at h
     simp only [cond_false] at h
     cases hbo:dK o with
     | true=>
       rw [hbo] at h
       simp only [cond_true] at h
       cases hgn:o.guard.isNone with
       | false=>rw [hgn] at h; cases h
       | true=>
       rw [hgn] at h
       simp only [cond_true] at h
       obtain⟨S3,g5,g6,_,h⟩:=ob (v:=V.v (.cl (.ptrB (S.bx.length - 1 - dt os) 0))) hS trivial h
       obtain⟨D,SV,ms',k1,k2,k3,k4⟩:=ih _ _ _ _ g6 h
       refine⟨D,SV,⟨S.gh.length,[],[]⟩::ms',k1,?_,k3,?_⟩
       ·simp only [Ev,hst,Bool.false_eq_true,if_false,hbo,if_true,hgn]
        rw [show S.st.put o.dst (.ptrB (S.st.nb - 1 - dt os) 0)=some S3.st from g5]
        simp only [Option.bind_some,k2,Option.map_some]
        rfl
       ·rw [List.append_assoc] at k4
        exact k4
     | false=>
     rw [hbo] at h
     simp only [cond_false] at h
     obtain⟨b,S1,h1,h2,h3,h4,h⟩:=Lc hS h
     have hng:S.st.ng=S1.st.ng:=by rw [h2]
     cases b with
     | false=>
       simp only [cond_false] at h
       obtain⟨S3,g5,g6,_,h⟩:=ob (v:= .tup []) h3 (fun x hx=>by cases hx) h
       obtain⟨D,SV,ms',k1,k2,k3,k4⟩:=ih _ _ _ _ g6 h
       refine⟨D,SV,⟨S1.gh.length,[],[]⟩::ms',k1,?_,k3,?_⟩
       ·simp only [Ev,hst,hbo,Bool.false_eq_true,if_false,h1,Option.bind_some]
        rw [←h2,show S1.st.put o.dst (.tup [])=some S3.st from g5]
        simp only [Option.bind_some,k2,Option.map_some]
        rfl
       ·rw [List.append_assoc] at k4
        exact k4
     | true=>
       simp only [cond_true] at h
       cases hnw:jV o with
       | false=>
         rw [hnw] at h
         simp only [cond_false] at h
         obtain⟨v,S2,m1,m2,m3,m4,m5,h⟩:=HZ (D:=Ki) hΘ h3 h
         obtain⟨S3,g5,g6,_,h⟩:=ob m3 (by rw [m4]; exact m5) h
         obtain⟨D,SV,ms',k1,k2,k3,k4⟩:=ih _ _ _ _ g6 h
         refine⟨D,SV,⟨S1.gh.length,[],[]⟩::ms',k1,?_,k3,?_⟩
         ·have hV:ar D P S1.st o=some v.av:=by
           rw [←m1]
           have : ∀ D':rX,ar D P S1.st o=ar D' P S1.st o:=by
            intro D'
            obtain⟨dst,op,ty,pos,aft,gd⟩:=o
            cases op with
            | call c=>
              obtain⟨cl,as,ts⟩:=c
              cases cl with
              | value f=>cases hnw
              | invoke a b=>rfl
              | builtin b=>cases b <;> rfl
            | unOp op t x=>cases op <;> rfl
            | binOp op t x y t'=>cases op <;> rfl
            | makeFunc fn first caps=>cases fn <;> rfl
            | slice t x lo hi mx=>cases mx <;> rfl
            | _=>rfl
           exact this Ki
          simp only [Ev,hst,hbo,Bool.false_eq_true,if_false,h1,Option.bind_some,if_true,hnw]
          rw [←h2,hV]
          simp only [Option.bind_some]
          rw [←m2,g5]
          simp only [Option.bind_some,k2,Option.map_some]
          rw [m2]; first | rfl | skip
         ·rw [List.append_assoc] at k4
          exact k4
       | true=>
         rw [hnw] at h
         simp only [cond_true] at h
         obtain⟨hc,h⟩:=ap h
         simp only [Bool.and_eq_true] at hc
         obtain⟨D1,v0,v,adds,cons,S2,m1,m2,m3,m4,m5,m6,m7,h⟩:=SA hΘ hY h3 hnw hc.1.2 hc.2 h
         obtain⟨S3,g5,g6,_,h⟩:=ob m6 m7 h
         obtain⟨D,SV,ms',k1,k2,k3,k4⟩:=ih _ _ _ _ g6 h
         refine⟨zV o.dst D1 D,SV,⟨S1.st.ng,adds,cons⟩::ms',Lg m1 k1,?_,k3,?_⟩
         ·have hN:eK (zV o.dst D1 D) P S1.st o=some (v0,adds,cons):=by
           rw [←m2]
           exact Oe (QT _ _ _)
          have hrest:Ev (zV o.dst D1 D) P ops os S3.st=some (SV.st,ms'):=by
           rw [←k2]
           refine UP os _ (fun o' ho'=>QU _ _ (fun e=> ?_))
           have hl:=hc.1.1
           unfold UL at hl
           split at hl
           ·rename_i d hd
            have:=List.all_eq_true.1 hl o' ho'
            unfold Tn at this
            rw [e,hd] at this
            simp only [Nat.beq_refl,Bool.not_true] at this
            cases this
           ·cases hl
          simp only [Ev,hst,hbo,Bool.false_eq_true,if_false,h1,Option.bind_some,if_true,hnw]
          rw [←h2,hN]
          simp only [Option.bind_some]
          rw [m4,m3,g5]
          simp only [Option.bind_some,hrest,Option.map_some]
          first | rfl | skip
         ·rw [List.append_assoc,m5] at k4
          exact k4
theorem SC (hΘ:eo P Θ) (hY:ax P Y) {ops:Array Oper} {D:rX}: ∀ (os:List Oper) (S:TS) (κ:TS→Option ρ) (r:ρ),S.ok→Qr Θ Y os S κ=some r→
  ∃ S',GK D P ops os S.st=some (TS.st S')∧S'.ok∧κ S'=some r:=by
 intro os
 induction os with
 | nil=>intro S κ r hS h; exact⟨S,rfl,hS,h⟩
 | cons o os ih=>
   intro S κ r hS h
   unfold Qr at h
   cases hst:ao o with
   | false=>
     rw [hst] at h
     obtain⟨S',h1,h2,h3⟩:=ih S κ r hS h
     exact⟨S',by simp only [GK,hst,Bool.false_eq_true,if_false]; exact h1,h2,h3⟩
   | true=>
     rw [hst] at h
     simp only [cond_true] at h
     obtain⟨hc,h⟩:=ap h
     simp only [Bool.and_eq_true] at hc
     obtain⟨D',v,S1,g1,g2,g3,g4,h⟩:=Lb hΘ hY hS h
     obtain⟨S',h1,h2,h3⟩:=ih S1 κ r g3 h
     refine⟨S',?_,h2,h3⟩
     have hd:o.dst=none:=Option.isNone_iff_eq_none.1 hc.2
     have hs:iw D P S.st o=some (v.av,S1.st):=by
      rw [←g2]
      obtain⟨dst,op,ty,pos,aft,gd⟩:=o
      cases op with
      | store t a x=>rfl
      | _=>cases hst
     have ho:one D P S.st o=some S1.st:=by
      unfold one
      rw [hs]
      simp only [Option.bind_some,hd,St.put]
     simp only [GK,hst,if_true,ho,Option.bind_some,h1]
     rw [if_pos ⟨hc.1,by rw [hd]; rfl⟩]
theorem SD (hΘ:eo P Θ): ∀ (os:List Oper) (S:TS) (κ:TS→Option ρ) (r:ρ),S.ok→Qq Θ os S κ=some r→ ∃ S0,Iy P os S.st=some (TS.st S0)∧S0.ok∧κ S0=some r:=by
 intro os
 induction os with
 | nil=>intro S κ r hS h; exact⟨S,rfl,hS,h⟩
 | cons o os ih=>
   intro S κ r hS h
   unfold Qq at h
   unfold Iy
   split at h
   ·rename_i t hop
    split at h
    ·rename_i ti hti
     obtain⟨S0,h1,h2,h3⟩:=ih { S with bx:=S.bx++ [ti.ty.zvs.map cC] } κ r ⟨hS.env,fun cs hcs c hc=>by
      rcases List.mem_append.1 hcs with h1 | h1
      ·exact hS.bx cs h1 c hc
      ·simp only [List.mem_singleton] at h1
       subst h1
       exact Qw _ _ c hc⟩ h
     refine⟨S0,?_,h2,h3⟩
     rw [hop]
     simp only [(hΘ _ _ hti).ze,Option.bind_some]
     rw [←h1]
     congr 1
     rw [M6,Qv]
     rfl
    ·cases h
   ·rename_i hno
    obtain⟨S0,h1,h2,h3⟩:=ih S κ r hS h
    exact⟨S0,by rw [←h1]; split <;> first | (rename_i t ht; exact absurd ht (hno t)) | rfl,h2,h3⟩
theorem Nb {f g:TypeId→Bool} (h: ∀ t,f t=true→g t=true) {t:TypeId} {a:AV} (hs:HM f t a=true):HM g t a=true:=by
 cases a <;> simp only [HM] at hs ⊢ <;> first | exact h t hs | exact hs
theorem Lh {f g:TypeId→Bool} (h: ∀ t,f t=true→g t=true) {ops:List Oper} {B:List (List Nat)} {S SV:St} {i j:Nat} {oi oj:Oper} (hs:uc f ops B S SV i j oi oj=true):uc g ops B S SV i j oi oj=true:=by
 unfold uc at hs ⊢
 split at hs
 ·simp only [Bool.and_eq_true] at hs ⊢
  exact⟨Nb h hs.1,hs.2⟩
 ·cases hs
theorem Li {ops:List Oper} {B:List (List Nat)} {f g:Nat→Nat→Oper→Oper→Bool} (h: ∀ i j oi oj,f i j oi oj=true→g i j oi oj=true) (hs:ym ops B f=true):ym ops B g=true:=by
 unfold ym at hs ⊢
 refine List.all_eq_true.2 fun j hj=> ?_
 have h1:=List.all_eq_true.1 hs j hj
 split at h1
 ·cases h1
 ·simp only [Bool.or_eq_true] at h1 ⊢
  refine h1.imp id fun h1=>List.all_eq_true.2 fun i hi=> ?_
  have h2:=List.all_eq_true.1 h1 i hi
  split at h2
  ·cases h2
  ·simp only [Bool.or_eq_true] at h2 ⊢
   exact h2.imp id (h _ _ _ _)
theorem Pc {f g:TypeId→Bool} (h: ∀ t,f t=true→g t=true) {ops:List Oper} {B:List (List Nat)} {S SV:St} {ms:List iH} (hs:MB f ops B S ms SV=true):MB g ops B S ms SV=true:=by
 unfold MB at hs ⊢
 simp only [Bool.and_eq_true,Bool.or_eq_true] at hs ⊢
 exact⟨⟨hs.1.1,hs.1.2.imp (Li fun _ _ _ _=>Lh h) id⟩,hs.2⟩
theorem SE (hΘ:eo P Θ) (t:TypeId) (h:Qs Θ t=true):zA P t=true:=by
 unfold Qs at h
 split at h
 ·rename_i ti hti
  unfold zA
  rw [(hΘ t ti hti).sh]
  unfold Ty.flatB at h
  unfold Ty.shs
  rw [List.all_map,List.all_eq_true]
  intro x hx
  have:=List.all_eq_true.1 h x hx
  cases x with
  | none=>rfl
  | some e=>cases this
 ·cases h
theorem SF (hΘ:eo P Θ) (hY:ax P Y) (hm:P.follows .mixedOrders=true) {id:Nat} {ops:Array Oper} (hok:Bb P ops=true) (hS:S.ok) {κ:TS→Option ρ} {r:ρ} (h:TQ Θ Y ops.toList S κ=some r):
  q8 P (.region id ops true) S.st (fun x S'=>x= .nor∧ ∃ S1:TS,S'=S1.st∧S1.ok∧κ S1=some r):=by
 unfold TQ at h
 obtain⟨S0,h0,hS0,h⟩:=SD hΘ _ _ _ _ hS h
 obtain⟨D,SV,ms,h1,h2,h3,h4⟩:=SB hΘ hY _ _ _ _ _ hS0 h
 obtain⟨h5,h6⟩:=ap h4
 rw [List.nil_append] at h5
 obtain⟨S',h7,h8,h9⟩:=SC (D:=D) (ops:=ops) hΘ hY _ _ _ _ h3 h6
 exact q8.draw h1 hm hok h0 h2 (Pc (SE hΘ) h5) h7 ⟨rfl,S',rfl,h8,h9⟩
def eW:Code→List Code
 | .seq a b=>eW a++eW b
 | .cond _ a b=>eW a++eW b
 | .block _ c=>eW c
 | .loop c=> [c]
 | _=> []
def fb (P:Program) (Λ:pK) (cs:List Code):Prop:= ∀ c∈cs,∀ (S:TS) (ρ:Type) (κ:X→TS→Option ρ) (r:ρ),S.ok→Λ (b7 c) S ρ κ=some r→q8 P (.loop c) S.st (fun x S'=> ∃ S1:TS,S'=S1.st∧S1.ok∧κ x S1=some r)
theorem zW (hΘ:eo P Θ) (hY:ax P Y) (hm:P.follows .mixedOrders=true) {Λ:pK}: ∀ (c:Code) (S:TS) (κ:X→TS→Option ρ) (r:ρ),lX P c=true→fb P Λ (eW c)→S.ok→eL Θ Y Λ c S κ=some r→
  q8 P c S.st (fun x S'=> ∃ S1:TS,S'=S1.st∧S1.ok∧κ x S1=some r):=by
 intro c
 induction c with
 | skip=>intro S κ r _ _ hS h; exact q8.skip ⟨S,rfl,hS,h⟩
 | exit i=>intro S κ r _ _ hS h; exact q8.exit ⟨S,rfl,hS,h⟩
 | ret=>intro S κ r _ _ hS h; exact q8.ret ⟨S,rfl,hS,h⟩
 | region id ops dr=>
   intro S κ r hok _ hS h
   cases dr with
   | false=>exact q8.region (Su hΘ hY _ _ _ _ (fun o ho=>List.all_eq_true.1 hok o ho) hS h)
   | true=>
     refine (SF hΘ hY hm hok hS h).mono (fun x S' hx=> ?_)
     obtain⟨rfl,hx⟩:=hx
     exact⟨S',pG.refl,hx⟩
 | seq a b iha ihb=>
   intro S κ r hok hL hS h
   simp only [lX,Bool.and_eq_true] at hok
   have hLa:fb P Λ (eW a):=fun c hc=>hL c (List.mem_append_left _ hc)
   have hLb:fb P Λ (eW b):=fun c hc=>hL c (List.mem_append_right _ hc)
   unfold eL at h
   refine q8.seq ((iha S _ r hok.1 hLa hS h).mono (fun x S' hx=>⟨S',pG.refl,?_⟩))
   obtain⟨S1,rfl,h1,h2⟩:=hx
   cases x with
   | nor=>exact ihb S1 κ r hok.2 hLb h1 h2
   | ret=>exact⟨S1,rfl,h1,h2⟩
   | ext i=>exact⟨S1,rfl,h1,h2⟩
 | cond t a b iha ihb=>
   intro S κ r hok hL hS h
   simp only [lX,Bool.and_eq_true] at hok
   have hLa:fb P Λ (eW a):=fun c hc=>hL c (List.mem_append_left _ hc)
   have hLb:fb P Λ (eW b):=fun c hc=>hL c (List.mem_append_right _ hc)
   unfold eL at h
   obtain⟨v,S1,h1,h2,h3,h4,h⟩:=E8 hS h
   refine q8.cond h1 ?_
   rw [←h2]
   cases v with
   | true=>exact iha S1 κ r hok.1 hLa h3 h
   | false=>exact ihb S1 κ r hok.2 hLb h3 h
 | block i c ih=>
   intro S κ r hok hL hS h
   unfold eL at h
   refine q8.block ((ih S _ r hok hL hS h).mono (fun x S' hx=>⟨S',pG.refl,?_⟩))
   obtain⟨S1,rfl,h1,h2⟩:=hx
   cases x with
   | nor=>exact⟨S1,rfl,h1,h2⟩
   | ret=>exact⟨S1,rfl,h1,h2⟩
   | ext j=>
     simp only at h2 ⊢
     cases hb:Nat.beq j i with
     | true=>
       rw [hb] at h2
       rw [if_pos (Nat.eq_of_beq_eq_true hb)]
       exact⟨S1,rfl,h1,h2⟩
     | false=>
       rw [hb] at h2
       rw [if_neg (by intro e; subst e; rw [Nat.beq_refl] at hb; cases hb)]
       exact⟨S1,rfl,h1,h2⟩
 | loop c ih=>
   intro S κ r hok hL hS h
   exact hL c (List.mem_singleton.2 rfl) S ρ κ r hS h
 | _=>intro S κ r hok; cases hok
end
end Go.Proofs.YtkcgfceffffmoaaGreat.En
namespace Go.Proofs.YtkcgfceffffmoaaGreat.En
open Go
section
variable {ρ:Type} {P:Program} {Θ:pI} {S:TS} {Y:zO}
theorem Og (hS:S.ok) {gs:List bO} {et:Option Ty} {c:Cl} (hc:c.ok S.gh) {κ:Cl→List bO→TS→Option ρ} {r:ρ} (h:Sa S gs et c κ=some r):
  ∃ c' gs' S',De S.st (gs.map bO.tree) (Mz et) c.av=some (Cl.av c',gs'.map bO.tree,TS.st S')∧S'.ok∧ib S.gh S'.gh∧ib (gs.map some) (gs'.map some)∧c'.ok (gs'.map some)∧κ c' gs' S'=some r:=by
 have new: ∀ (t:Ty) (l:List t.D) (n:Nat),n=l.length→(Cl.own ⟨gs.length,[]⟩ t.width 0 n true).ok ((gs++ [(⟨t,l,none⟩:bO)]).map some):=by
  intro t l n hn
  refine⟨by simp,fun _=>⟨rfl,rfl,fun tr htr=> ?_⟩⟩
  rw [List.map_append] at htr
  have e:=l4 (G:=gs.map some) (x:=some (⟨t,l,none⟩:bO)) gs.length
  simp only [List.length_map,if_true] at e
  have htr':c8 (gs.map some++ [some (⟨t,l,none⟩:bO)]) gs.length=some tr:=htr
  rw [e] at htr'
  cases htr'
  exact hn
 have grow: ∀ (x:bO),ib (gs.map some) ((gs++ [x]).map some):=fun x=>by rw [List.map_append]; exact ib.app _ _
 unfold Sa at h
 split at h
 ·refine⟨_,_,_,rfl,hS,ib.refl _,ib.refl _,?_,h⟩
  trivial
 ·rename_i t
  refine⟨_,_,S,?_,hS,ib.refl _,grow _,new t [] 0 rfl,h⟩
  simp only [Cl.av,De,Mz,List.length_map,List.map_append,List.map_cons,List.map_nil]
  rfl
 ·rename_i p sz lo len w t'
  obtain⟨pr,pl⟩:=p
  cases pl with
  | cons a l=>cases h
  | nil=>
    simp only at h
    obtain⟨h1,h'⟩:=ap h
    clear h
    simp only [Bool.and_eq_true] at h1
    have h2:S.fz≤pr:=Nat.le_of_ble_eq_true h1.1
    have h3:t'.width=sz:=Nat.eq_of_beq_eq_true h1.2
    obtain⟨t,l,k1,k2,h⟩:=fa h'
    obtain⟨k3,h⟩:=ap h
    have k3:t.width=sz:=Nat.eq_of_beq_eq_true k3
    have fin: ∀ (len:Nat),len≤l.length→De S.st (gs.map bO.tree) (Mz (some t')) (.own ⟨pr,[]⟩ sz 0 len)=some (.own ⟨gs.length,[]⟩ sz 0 len,(gs++ [(⟨t,l.take len,none⟩:bO)]).map bO.tree,({ S with gh:=dl S.gh pr none }:TS).st):=by
     intro len hlen
     simp only [De]
     have hrows:S.st.rows ⟨pr,[]⟩ sz=some (l.map t.row):=by rw [←k3]; exact lH k1
     rw [if_pos ⟨trivial,by show sz=t'.width; exact h3.symm,trivial,h2⟩,hrows]
     simp only [Option.bind_some,List.length_map]
     rw [if_pos hlen,zR]
     simp only [Mz,h3,List.map_append,List.map_cons,List.map_nil,bO.tree,List.map_take,k3]
    cases w with
    | true=>
      obtain⟨e1,e2,e3⟩:=vG hc k2
      refine⟨_,_,_,?_,TS.ok_gh hS (ib.gone _ _),ib.gone _ _,grow _,by rw [←k3]; exact new t l _ rfl,h⟩
      have:=fin l.length (Nat.le_refl _)
      rw [List.take_length] at this
      simp only [Cl.av]
      rw [e2,e3]
      exact this
    | false=>
      simp only [cond_false] at h
      obtain⟨h4,h⟩:=dq h
      refine⟨_,_,_,?_,TS.ok_gh hS (ib.gone _ _),ib.gone _ _,grow _,by rw [←k3]; exact new t (l.take len) _ rfl,h⟩
      have hl: (l.take len).length=len:=by simp; omega
      simp only [Cl.av]
      rw [h4.1,hl]
      exact fin len h4.2
 ·cases h
theorem QV: ∀ (ets:List (Option Ty)) (cs:List Cl) (S:TS) (gs:List bO) (κ:List Cl→List bO→TS→Option ρ) (r:ρ),S.ok→(∀ c∈cs,c.ok S.gh)→N4 S gs ets cs κ=some r→
  ∃ cs' gs' S',ub S.st (gs.map bO.tree) (ets.map Mz) (cs.map Cl.av)=some (cs'.map Cl.av,gs'.map bO.tree,TS.st S')∧S'.ok∧ib S.gh S'.gh∧ib (gs.map some) (gs'.map some)∧(∀ c∈cs',c.ok (gs'.map some))∧κ cs' gs' S'=some r:=by
 intro ets
 induction ets with
 | nil=>
   intro cs S gs κ r hS hcs h
   cases cs with
   | nil=>exact⟨[],gs,S,rfl,hS,ib.refl _,ib.refl _,(fun c hc=>by cases hc),h⟩
   | cons c cs=>cases h
 | cons et ets ih=>
   intro cs S gs κ r hS hcs h
   cases cs with
   | nil=>cases h
   | cons c cs=>
     unfold N4 at h
     obtain⟨c',g1,S1,h1,h2,h3,h4,h5,h⟩:=Og hS (hcs c List.mem_cons_self) h
     obtain⟨cs',g2,S2,k1,k2,k3,k4,k5,h⟩:=ih cs S1 g1 _ r h2 (fun x hx=>Cl.ok_mono h3 (hcs x (List.mem_cons_of_mem _ hx))) h
     refine⟨c'::cs',g2,S2,?_,k2,h3.trans k3,h4.trans k4,fun x hx=> ?_,h⟩
     ·simp only [List.map_cons,ub,h1,Option.bind_some,k1,Option.map_some]
     ·rcases List.mem_cons.1 hx with rfl | hx
      ·exact Cl.ok_mono k4 h5
      ·exact k5 x hx
theorem SG (hΘ:eo P Θ) (hS:S.ok) {gs:List bO} {t:TypeId} {v:V} (hv:v.ok S.gh) {κ:V1→List bO→TS→Option ρ} {r:ρ} (h:TR Θ S gs t v κ=some r):
  ∃ v' gs' S',OJ P S.st (gs.map bO.tree) t v.av=some (V1.av v',gs'.map bO.tree,TS.st S')∧S'.ok∧ib S.gh S'.gh∧ib (gs.map some) (gs'.map some)∧v'.ok (gs'.map some)∧κ v' gs' S'=some r:=by
 unfold TR at h
 split at h
 ·cases h
 ·rename_i ti hti
  have hsh:=(hΘ _ _ hti).sh
  split at h
  ·rename_i cs
   obtain⟨cs',g1,S1,h1,h2,h3,h4,h5,h⟩:=QV _ _ _ _ _ _ hS hv h
   refine⟨.agg cs',g1,S1,?_,h2,h3,h4,h5,h⟩
   simp only [V.av,V1.av,OJ,hsh]
   rw [show ti.ty.shs=ti.ty.csh.map Mz from rfl,h1]
   rfl
  ·rename_i c
   obtain⟨c',g1,S1,h1,h2,h3,h4,h5,h⟩:=Og hS hv h
   refine⟨.cl c',g1,S1,?_,h2,h3,h4,h5,h⟩
   have e:OJ P S.st (gs.map bO.tree) t (V.v (.cl c)).av=De S.st (gs.map bO.tree) ((pF P 9 t).headD 0) c.av:=by
    cases c with
    | c x=>cases x <;> rfl
    | _=>rfl
   rw [e,hsh]
   have e2:ti.ty.shs.headD 0=Mz (ti.ty.csh.headD none):=by
    unfold Ty.shs
    cases ti.ty.csh with
    | nil=>rfl
    | cons a l=>cases a <;> rfl
   rw [e2]
   exact h1
  ·cases h
theorem Fl (hΘ:eo P Θ): ∀ (rs:List (TypeId×V)) (S:TS) (gs:List bO) (κ:List V1→List bO→Option ρ) (r:ρ),S.ok→(∀ x∈rs,x.2.ok S.gh)→to Θ S gs rs κ=some r→
  ∃ vs gs',Kj P S.st (gs.map bO.tree) (rs.map fun x=>(x.1,x.2.av))=some (vs.map V1.av,gs'.map bO.tree)∧ib (gs.map some) (gs'.map some)∧(∀ v∈vs,v.ok (gs'.map some))∧vs.length=rs.length∧κ vs gs'=some r:=by
 intro rs
 induction rs with
 | nil=>intro S gs κ r hS hrs h; exact⟨[],gs,rfl,ib.refl _,(fun v hv=>by cases hv),rfl,h⟩
 | cons x rs ih=>
   intro S gs κ r hS hrs h
   obtain⟨t,v⟩:=x
   unfold to at h
   obtain⟨v',g1,S1,h1,h2,h3,h4,h5,h⟩:=SG hΘ hS (hrs _ List.mem_cons_self) h
   obtain⟨vs,g2,k1,k2,k3,k4,h⟩:=ih S1 g1 _ r h2 (fun x hx=>V.ok_mono h3 (hrs x (List.mem_cons_of_mem _ hx))) h
   refine⟨v'::vs,g2,?_,h4.trans k2,fun y hy=> ?_,by simp [k4],h⟩
   ·simp only [List.map_cons,Kj,h1,Option.bind_some,k1,Option.map_some]
   ·rcases List.mem_cons.1 hy with rfl | hy
    ·exact V1.ok_mono k2 h5
    ·exact k3 y hy
theorem I8 (hΘ:eo P Θ) (hS:S.ok): ∀ (rs:List ResultVar) (ts:List TypeId) (κ:List (TypeId×V)→Option ρ) (r:ρ),Dj Θ S rs ts κ=some r→
  ∃ l:List (TypeId×V),rs.mapM (zM P S.st)=some (l.map fun x=>x.2.av)∧l.map (·.1)=ts∧(∀ x∈l,x.2.ok S.gh)∧κ l=some r:=by
 intro rs
 induction rs with
 | nil=>
   intro ts κ r h
   cases ts with
   | nil=>exact⟨[],rfl,rfl,(fun x hx=>by cases hx),h⟩
   | cons t ts=>cases h
 | cons a rs ih=>
   intro ts κ r h
   cases ts with
   | nil=>cases a <;> cases h
   | cons t ts=>
     cases a with
     | tmp a=>
       unfold Dj at h
       obtain⟨l,h1,h2,h3,h⟩:=ih ts _ r h
       refine⟨(t,iI S.env a)::l,?_,by simp [h2],fun x hx=> ?_,h⟩
       ·simp only [List.mapM_cons,h1,zM]
        rfl
       ·rcases List.mem_cons.1 hx with rfl | hx
        ·exact Em hS a
        ·exact h3 x hx
     | cell a t'=>
       unfold Dj at h
       have hw:0 < P.cellsOf t':=by
        have h':=h
        unfold KT at h'
        split at h'
        ·rename_i ti hti
         rw [(hΘ _ _ hti).cells]
         exact Ty.width_pos _
        ·cases h'
       obtain⟨u,g1,g2,h⟩:=K4 hΘ hS (Em hS a) h
       obtain⟨l,h1,h2,h3,h⟩:=ih ts _ r h
       refine⟨(t,u)::l,?_,by simp [h2],fun x hx=> ?_,h⟩
       ·simp only [List.mapM_cons,h1,zM]
        rw [if_pos hw]
        have :load P S.st t' (S.st.env a)=some u.av:=g1
        rw [this]
        rfl
       ·rcases List.mem_cons.1 hx with rfl | hx
        ·exact g2
        ·exact h3 x hx
theorem Ep {α β γ:Type} (f:α×β→γ): ∀ l:List (α×β),(l.map (·.1)).zip (l.map f)=l.map fun x=>(x.1,f x)
 | [] =>rfl
 | a::l=>by simp only [List.map_cons,List.zip_cons_cons,Ep f l]
theorem I9 (vs:List V1): (xg vs).av=UH (vs.map V1.av):=by
 match vs with
 | [] =>rfl
 | [v] =>rfl
 | v::u::vs=>rfl
theorem yB: ∀ (args:List V1) (n t:Nat),(iI (lY n args) (n+t)).av=(args.map V1.av).getD t .dead
 | [],n,t=>by simp [lY,iI]; rfl
 | a::l,n,0=>by simp [lY,iI]; rfl
 | a::l,n,t+1=>by
   have :Nat.beq n (n+(t+1))=false:=by
    cases h:Nat.beq n (n+(t+1)) with
    | false=>rfl
    | true=>have:=Nat.eq_of_beq_eq_true h; omega
   simp only [lY,iI,this,cond_false]
   rw [show n+(t+1)=(n+1)+t by omega,yB l (n+1) t]
   simp
theorem um: ∀ (args:List V1) (n:Nat) (x:Nat×V),x∈lY n args→ ∃ a∈args,x.2= .v a
 | [],n,x,h=>by cases h
 | a::l,n,x,h=>by
   simp only [lY,List.mem_cons] at h
   rcases h with rfl | h
   ·exact⟨a,List.mem_cons_self,rfl⟩
   ·obtain⟨b,hb,he⟩:=um l (n+1) x h
    exact⟨b,List.mem_cons_of_mem _ hb,he⟩
theorem TX (hΘ:eo P Θ) (hY:ax P Y) (hm:P.follows .mixedOrders=true) {Λ:pK} {f:FuncId} {fn:Func} (hf:N0 P f=some fn) (hL: ∀ c,fn.body=some c→fb P Λ (eW c)) {args:List V1} (ha: ∀ a∈args,a.ok []) {res:V} {out:List bO}
  (h:Vy Θ Y Λ fn args (fun v g=>some (v,g))=some (res,out)):sO P f (args.map V1.av) [] res.av (out.map bO.tree):=by
 unfold Vy at h
 split at h
 ·cases h
 ·rename_i c hc
  have hcok:lX P c=true:=by
   unfold N0 at hf
   simp only [Option.bind_eq_some_iff] at hf
   obtain⟨fn',g1,g2⟩:=hf
   split at g2
   ·cases g2
   ·rename_i c' hc'
    split at g2
    ·cases g2
    ·rename_i hn
     simp only [Option.some.injEq] at g2
     subst g2
     rw [hc] at hc'
     simp only [Option.some.injEq] at hc'
     subst hc'
     simp only [Bool.or_eq_true,not_or,Bool.not_eq_true,Bool.not_eq_false'] at hn
     exact hn.2
  have hS0: ({ env:=lY 0 args,bx:= [],gh:= [],fz:=0,nt:=args.length+(fn.ntmps - args.length) }:TS).ok:=
   ⟨fun x hx=>by obtain⟨a,h1,h2⟩:=um _ _ _ hx; rw [h2]; exact ha a h1,fun cs hcs=>by cases hcs⟩
  have hbeg: ({ env:=lY 0 args,bx:= [],gh:= [],fz:=0,nt:=args.length+(fn.ntmps - args.length) }:TS).st=EX fn.ntmps (args.map V1.av) [] :=by
   unfold TS.st EX
   simp only [List.length_map,List.length_nil]
   congr 1
   funext t
   have:=yB args 0 t
   rw [Nat.zero_add] at this
   exact this
  have hW:=zW hΘ hY hm c _ _ _ hcok (hL c hc) hS0 h
  rw [hbeg] at hW
  have b7: ∀ (x:X) (S1:TS),S1.ok→(match x with | .ext _=>none | _=>Dj Θ S1 fn.results.toList fn.resultTypes.toList fun rs=>to Θ S1 [] rs fun vs gs=>some (xg vs,gs))=some (res,out)→
    (match x with | .ext _=>False | _=>zN P fn.results.toList fn.resultTypes.toList 0 S1.st=some (res.av,out.map bO.tree)):=by
   intro x S1 hS1 h
   have main: (Dj Θ S1 fn.results.toList fn.resultTypes.toList fun rs=>to Θ S1 [] rs fun vs gs=>some (xg vs,gs))=some (res,out)→zN P fn.results.toList fn.resultTypes.toList 0 S1.st=some (res.av,out.map bO.tree):=by
    intro h
    obtain⟨l,h1,h2,h3,h⟩:=I8 (P:=P) hΘ hS1 _ _ _ _ h
    obtain⟨vs,gs',k1,k2,k3,k4,h⟩:=Fl (P:=P) hΘ _ _ _ _ _ hS1 h3 h
    simp only [Option.some.injEq,Prod.mk.injEq] at h
    obtain⟨rfl,rfl⟩:=h
    unfold zN
    rw [h1]
    simp only [Option.bind_some,List.length_map]
    have hz: (fn.resultTypes.toList.zip (l.map fun x=>x.2.av))=l.map fun x=>(x.1,x.2.av):=by
     rw [←h2]
     exact Ep _ l
    rw [if_pos (by rw [←h2]; simp),hz]
    have k1':Kj P S1.st [] (l.map fun x=>(x.1,x.2.av))=some (vs.map V1.av,gs'.map bO.tree):=k1
    simp only [List.range_zero,List.map_nil,k1',Option.map_some,I9]
   cases x with
   | ext i=>cases h
   | nor=>exact main h
   | ret=>exact main h
  refine KL hf hc (hW.mono (fun x S' hx=>⟨S',pG.refl,?_⟩))
  obtain⟨S1,rfl,h1,h2⟩:=hx
  have:=b7 x S1 h1 h2
  cases x <;> exact this
theorem CI (a:List V1) (t:Nat): (iI (lY 0 a) t).av=(a.map V1.av).getD t .dead:=by
 have:=yB a 0 t
 rwa [Nat.zero_add] at this
theorem Oh (hΘ:eo P Θ) (hY:ax P Y) (hm:P.follows .mixedOrders=true) {Λ:pK} {f:FuncId} {fn:Func} (hf:N0 P f=some fn) (hL: ∀ c,fn.body=some c→fb P Λ (eW c)) {m:Nat} (hm1:m≤1) {el:Ty} {l:List el.D} {args:List V1} (ha: ∀ a∈args,a.ok []) {res:V} {out:List bO}
  (h:Sb Θ Y Λ fn m el l args (fun v g=>some (v,g))=some (res,out)):nr P f (.own ⟨0,[]⟩ el.width 0 l.length::args.map V1.av) [.sl el.width (l.map el.row)] m res.av (out.map bO.tree):=by
 unfold Sb at h
 split at h
 ·cases h
 ·rename_i c hc
  have hcok:lX P c=true:=by
   unfold N0 at hf
   simp only [Option.bind_eq_some_iff] at hf
   obtain⟨fn',g1,g2⟩:=hf
   split at g2
   ·cases g2
   ·rename_i c' hc'
    split at g2
    ·cases g2
    ·rename_i hn
     simp only [Option.some.injEq] at g2
     subst g2
     rw [hc] at hc'
     simp only [Option.some.injEq] at hc'
     subst hc'
     simp only [Bool.or_eq_true,not_or,Bool.not_eq_true,Bool.not_eq_false'] at hn
     exact hn.2
  have hS0: ({ env:=lY 0 (.cl (.own ⟨0,[]⟩ el.width 0 l.length true)::args),bx:= [],gh:= [some ⟨el,l,none⟩],fz:=m,nt:=(args.length+1)+(fn.ntmps - (args.length+1)) }:TS).ok:=
   ⟨fun x hx=>by
    obtain⟨a,h1,h2⟩:=um _ _ _ hx
    rw [h2]
    rcases List.mem_cons.1 h1 with rfl | h1
    ·refine⟨Nat.zero_lt_one,fun _=>⟨rfl,rfl,fun tr htr=> ?_⟩⟩
     have htr:some (⟨el,l,none⟩:bO)=some tr:=htr
     cases htr
     rfl
    ·exact V1.ok_mono (G:= []) ⟨Nat.zero_le _,fun r tr hr=>by cases hr⟩ (ha a h1),fun cs hcs=>by cases hcs⟩
  have hbeg: ({ env:=lY 0 (.cl (.own ⟨0,[]⟩ el.width 0 l.length true)::args),bx:= [],gh:= [some ⟨el,l,none⟩],fz:=m,nt:=(args.length+1)+(fn.ntmps - (args.length+1)) }:TS).st=KO fn.ntmps (.own ⟨0,[]⟩ el.width 0 l.length::args.map V1.av) [.sl el.width (l.map el.row)] m:=by
   unfold TS.st KO EX
   simp only [List.length_map,List.length_cons,List.length_nil]
   congr 1
   ·funext t
    exact CI _ t
   ·funext r
    show (c8 [some ⟨el,l,none⟩] r).map bO.tree= [T.sl el.width (l.map el.row)][r]?
    unfold c8
    rw [dL]
    cases r <;> rfl
  have hW:=zW hΘ hY hm c _ _ _ hcok (hL c hc) hS0 h
  rw [hbeg] at hW
  have fin: ∀ (S1:TS),S1.ok→ ∀ gs:List bO,((List.range m).map fun r=>(S1.st.gh r).getD .dd)=gs.map bO.tree→ ∀ l,(fn.results.toList.mapM (zM P S1.st))=some (l.map fun x:TypeId×V=>x.2.av)→l.map (·.1)=fn.resultTypes.toList→(∀ x∈l,x.2.ok S1.gh)→
    (to Θ S1 gs l fun vs gs=>some (xg vs,gs))=some (res,out)→zN P fn.results.toList fn.resultTypes.toList m S1.st=some (res.av,out.map bO.tree):=by
   intro S1 hS1 gs hgs l h1 h2 h3 h
   obtain⟨vs,gs',k1,k2,k3,k4,h⟩:=Fl (P:=P) hΘ _ _ _ _ _ hS1 h3 h
   simp only [Option.some.injEq,Prod.mk.injEq] at h
   obtain⟨rfl,rfl⟩:=h
   unfold zN
   rw [h1]
   simp only [Option.bind_some,List.length_map]
   have hz: (fn.resultTypes.toList.zip (l.map fun x=>x.2.av))=l.map fun x=>(x.1,x.2.av):=by
    rw [←h2]
    exact Ep _ l
   rw [if_pos (by rw [←h2]; simp),hz,hgs,k1]
   simp only [Option.map_some,I9]
  have main: ∀ (S1:TS),S1.ok→(Dj Θ S1 fn.results.toList fn.resultTypes.toList fun rs=>bif Nat.beq m 0 then to Θ S1 [] rs fun vs gs=>some (xg vs,gs) else match c8 S1.gh 0 with
    | some ⟨t,l',none⟩=>to Θ S1 [⟨t,l',none⟩] rs fun vs gs=>some (xg vs,gs)
    | _=>none)=some (res,out)→zN P fn.results.toList fn.resultTypes.toList m S1.st=some (res.av,out.map bO.tree):=by
   intro S1 hS1 h0
   obtain⟨l,h1,h2,h3,h⟩:=I8 (P:=P) hΘ hS1 _ _ _ _ h0
   clear h0
   cases hm0:Nat.beq m 0 with
   | true=>
     rw [hm0] at h
     have e:m=0:=Nat.eq_of_beq_eq_true hm0
     exact fin S1 hS1 [] (by rw [e]; rfl) l h1 h2 h3 h
   | false=>
     rw [hm0] at h
     simp only [cond_false] at h
     have e:m=1:=by
      have :m≠0:=fun e=>by rw [e] at hm0; cases hm0
      omega
     split at h
     ·rename_i t l' hg
      exact fin S1 hS1 [⟨t,l',none⟩] (by
       rw [e]
       show [(S1.st.gh 0).getD .dd] =_
       have :S1.st.gh 0=some (bO.tree ⟨t,l',none⟩):=by
        show (c8 S1.gh 0).map bO.tree=_
        rw [hg]
        rfl
       rw [this]
       rfl) l h1 h2 h3 h
     ·cases h
  refine CD hf hc (by simpa using hm1) (hW.mono (fun x S' hx=>⟨S',pG.refl,?_⟩))
  obtain⟨S1,rfl,h1,h2⟩:=hx
  cases x with
  | ext i=>cases h2
  | nor=>exact main S1 h1 h2
  | ret=>exact main S1 h1 h2
theorem Nc (P:Program) (S:TS): ∀ (n r:Nat) (gs:List bO),wV S r n=some gs→((List.range' r n).map fun r=>(S.st.gh r).getD .dd)=gs.map bO.tree:=by
 intro n
 induction n with
 | zero=>
   intro r gs h
   simp only [wV,Option.some.injEq] at h
   subst h
   rfl
 | succ n ih=>
   intro r gs h
   simp only [wV] at h
   split at h
   ·rename_i t l hg
    split at h
    ·rename_i ts hts
     simp only [Option.some.injEq] at h
     subst h
     rw [List.range'_succ,List.map_cons,List.map_cons,ih _ _ hts]
     congr 1
     show ((c8 S.gh r).map bO.tree).getD .dd=_
     rw [hg]
     rfl
    ·cases h
   ·cases h
theorem zX: ∀ (cs:List C) (n:Nat) (G:List (Option bO)),(∀ k t,(nu cs)[k]? =some t→c8 G (n+k)=some t)→ ∀ c∈va cs n,c.ok G
 | [],n,G,h,c,hc=>by cases hc
 | .sc v::r,n,G,h,c,hc=>by
   simp only [va,List.mem_cons] at hc
   rcases hc with rfl | hc
   ·trivial
   ·exact zX r n G h c hc
 | .ls t l::r,n,G,h,c,hc=>by
   simp only [va,List.mem_cons] at hc
   have h0:=h 0 ⟨t,l,none⟩ rfl
   rw [Nat.add_zero] at h0
   rcases hc with rfl | hc
   ·refine⟨ul h0,fun _=>⟨rfl,rfl,fun tr htr=> ?_⟩⟩
    have e:some (⟨t,l,none⟩:bO)=some tr:=h0.symm.trans htr
    cases e
    rfl
   ·exact zX r (n+1) G (fun k t' hk=>by
     have:=h (k+1) t' (by simpa [nu] using hk)
     rwa [show n+(k+1)=n+1+k by omega] at this) c hc
theorem SH (hΘ:eo P Θ) (hY:ax P Y) (hm:P.follows .mixedOrders=true) {Λ:pK} {f:FuncId} {fn:Func} (hf:N0 P f=some fn) (hL: ∀ c,fn.body=some c→fb P Λ (eW c)) {t:Ty} {x:t.D} {args:List V1} (ha: ∀ a∈args,a.ok []) {res:V} {out:List bO}
  (h:TV Θ Y Λ fn t x args (fun v g=>some (v,g))=some (res,out)):nr P f ((E7 t x 0).av::args.map V1.av) ((nu (t.flat x)).map bO.tree) (bif true then (nu (t.flat x)).length else 0) res.av (out.map bO.tree):=by
 unfold TV at h
 split at h
 ·cases h
 ·rename_i c hc
  have hcok:lX P c=true:=by
   unfold N0 at hf
   simp only [Option.bind_eq_some_iff] at hf
   obtain⟨fn',g1,g2⟩:=hf
   split at g2
   ·cases g2
   ·rename_i c' hc'
    split at g2
    ·cases g2
    ·rename_i hn
     simp only [Option.some.injEq] at g2
     subst g2
     rw [hc] at hc'
     simp only [Option.some.injEq] at hc'
     subst hc'
     simp only [Bool.or_eq_true,not_or,Bool.not_eq_true,Bool.not_eq_false'] at hn
     exact hn.2
  generalize hgs:nu (t.flat x)=gs0 at*
  have hgh0: ∀ k t',gs0[k]? =some t'→c8 (gs0.map some) (0+k)=some t':=by
   intro k t' hk
   unfold c8
   rw [dL,Nat.zero_add,List.getElem?_map,hk]
   rfl
  have h1ok: (E7 t x 0).ok (gs0.map some):=by
   unfold E7
   cases t.ag with
   | true=>
     intro c hc
     exact zX (t.flat x) 0 _ (by rw [hgs]; exact hgh0) c hc
   | false=>
     simp only [cond_false]
     split
     ·rename_i c hc
      exact zX (t.flat x) 0 _ (by rw [hgs]; exact hgh0) c (by rw [hc]; exact List.mem_singleton.2 rfl)
     ·trivial
  have hS0: ({ env:=lY 0 (E7 t x 0::args),bx:= [],gh:=gs0.map some,fz:=gs0.length,nt:=(args.length+1)+(fn.ntmps - (args.length+1)) }:TS).ok:=
   ⟨fun x hx=>by
    obtain⟨a,h1,h2⟩:=um _ _ _ hx
    rw [h2]
    rcases List.mem_cons.1 h1 with rfl | h1
    ·exact h1ok
    ·exact V1.ok_mono (G:= []) ⟨Nat.zero_le _,fun r tr hr=>by cases hr⟩ (ha a h1),fun cs hcs=>by cases hcs⟩
  have hbeg: ({ env:=lY 0 (E7 t x 0::args),bx:= [],gh:=gs0.map some,fz:=gs0.length,nt:=(args.length+1)+(fn.ntmps - (args.length+1)) }:TS).st=KO fn.ntmps ((E7 t x 0).av::args.map V1.av) (gs0.map bO.tree) gs0.length:=by
   unfold TS.st KO EX
   simp only [List.length_map,List.length_cons]
   congr 1
   ·funext t
    exact CI _ t
   ·funext r
    show (c8 (gs0.map some) r).map bO.tree=(gs0.map bO.tree)[r]?
    unfold c8
    rw [dL,List.getElem?_map,List.getElem?_map]
    cases gs0[r]? <;> rfl
  have hW:=zW hΘ hY hm c _ _ _ hcok (hL c hc) hS0 h
  rw [hbeg] at hW
  have main: ∀ (S1:TS),S1.ok→(Dj Θ S1 fn.results.toList fn.resultTypes.toList fun rs=>match wV S1 0 gs0.length with
    | some gs=>to Θ S1 gs rs fun vs gs'=>some (xg vs,gs')
    | none=>none)=some (res,out)→zN P fn.results.toList fn.resultTypes.toList gs0.length S1.st=some (res.av,out.map bO.tree):=by
   intro S1 hS1 h0
   obtain⟨l,h1,h2,h3,h⟩:=I8 (P:=P) hΘ hS1 _ _ _ _ h0
   clear h0
   split at h
   ·rename_i gs hgs'
    have hgs2:=Nc P S1 _ _ _ hgs'
    rw [←List.range_eq_range'] at hgs2
    obtain⟨vs,gs',k1,k2,k3,k4,h⟩:=Fl (P:=P) hΘ _ _ _ _ _ hS1 h3 h
    simp only [Option.some.injEq,Prod.mk.injEq] at h
    obtain⟨rfl,rfl⟩:=h
    unfold zN
    rw [h1]
    simp only [Option.bind_some,List.length_map]
    have hz: (fn.resultTypes.toList.zip (l.map fun x=>x.2.av))=l.map fun x=>(x.1,x.2.av):=by
     rw [←h2]
     exact Ep _ l
    rw [if_pos (by rw [←h2]; simp),hz,hgs2,k1]
    simp only [Option.map_some,I9]
   ·cases h
  refine CD hf hc (by simp) (hW.mono (fun x S' hx=>⟨S',pG.refl,?_⟩))
  obtain⟨S1,rfl,h1,h2⟩:=hx
  cases x with
  | ext i=>cases h2
  | nor=>exact main S1 h1 h2
  | ret=>exact main S1 h1 h2
end
end Go.Proofs.YtkcgfceffffmoaaGreat.En
namespace Go.Proofs.YtkcgfceffffmoaaGreat.En
open Go
def Dk:List Nat→Nat→Nat→Option Nat
 | [],_,_=>none
 | a::l,x,n=>bif Nat.beq a x then some n else Dk l x (n+1)
def yC (bs ls:List Nat):Cl→Cl
 | .own p sz lo len w=>match Dk ls p.r 0 with | some k=> .own ⟨k,p.l⟩ sz lo len w | none=> .dead
 | .ptrT p sz i j=>match Dk ls p.r 0 with | some k=> .ptrT ⟨k,p.l⟩ sz i j | none=> .dead
 | .ptrB n j=>match Dk bs n 0 with | some k=> .ptrB k j | none=> .dead
 | c=>c
def QW (bs ls:List Nat):V1→V1
 | .cl c=> .cl (yC bs ls c)
 | .agg cs=> .agg (cs.map (yC bs ls))
 | .fn f cs=> .fn f (cs.map (yC bs ls))
def QX (bs ls:List Nat):V→V
 | .v x=> .v (QW bs ls x)
 | .tup _=>V.dead
def Oi:List Nat→List Nat→List Nat
 | [],acc=>acc
 | a::l,acc=>match Dk acc a 0 with | some _=>Oi l acc | none=>Oi l (acc++ [a])
def Fm:List Nat→Bool
 | [] =>true
 | a::l=>(match Dk l a 0 with | some _=>false | none=>true)&&Fm l
def Vz:Cl→List Nat | .ptrB n _=> [n] | _=> []
def UQ:Cl→List Nat | .own p _ _ _ _=> [p.r] | .ptrT p _ _ _=> [p.r] | _=> []
def V1.all:V1→List Cl | .cl c=> [c] | .agg cs=>cs | .fn _ cs=>cs
def V.all:V→List Cl | .v x=>x.all | .tup _=> []
def Oj (S:TS) (keep:List Nat):List Nat:=Oi (keep.flatMap fun t=>(iI S.env t).all.flatMap Vz) []
def Tp (S:TS) (keep bs:List Nat):List Nat:=Oi (List.range S.fz++(keep.flatMap fun t=>(iI S.env t).all.flatMap UQ)++bs.flatMap fun b=>((pJ S.bx b).getD []).flatMap UQ) []
def iJ (S:TS) (keep bs ls:List Nat):TS where
 env:=keep.map fun t=>(t,QX bs ls (iI S.env t))
 bx:=bs.map fun b=>((pJ S.bx b).getD []).map (yC bs ls)
 gh:=ls.map fun r=>c8 S.gh r
 fz:=S.fz
 nt:=S.nt
def Ja (S:TS) (bs ls:List Nat):Bool:=Fm bs&&Fm ls&&bs.all (fun b=>Nat.blt b S.bx.length)&&UJ (ls.take S.fz) (List.range S.fz)&&ls.all (fun r=>Nat.blt r S.gh.length)
def Pd (G:List (Option bO)):Cl→Cl
 | .own p sz lo len true=> .own p sz lo (match pJ G p.r with | some (some tr)=>tr.l.length | _=>len) true
 | c=>c
def QY (G:List (Option bO)):V1→V1
 | .cl c=> .cl (Pd G c)
 | .agg cs=> .agg (cs.map (Pd G))
 | .fn f cs=> .fn f (cs.map (Pd G))
def UR (G:List (Option bO)):V→V
 | .v x=> .v (QY G x)
 | .tup l=> .tup (l.map (QY G))
def TY (S:TS):TS:= { S with env:=S.env.map (fun x=>(x.1,UR S.gh x.2)),bx:=S.bx.map (fun cs=>cs.map (Pd S.gh)) }
def Bv {ρ:Type} (keep:List Nat) (S:TS) (κ:TS→Option ρ):Option ρ:=bif Ja S (Oj S keep) (Tp S keep (Oj S keep)) then κ (TY (iJ S keep (Oj S keep) (Tp S keep (Oj S keep)))) else none
theorem Bw: ∀ {l:List Nat} {x n k:Nat},Dk l x n=some k→n≤k∧l[k - n]? =some x
 | [],x,n,k,h=>by cases h
 | a::l,x,n,k,h=>by
   simp only [Dk] at h
   cases hb:Nat.beq a x with
   | true=>
     rw [hb] at h
     simp only [cond_true,Option.some.injEq] at h
     subst h
     exact⟨Nat.le_refl _,by simp [Nat.eq_of_beq_eq_true hb]⟩
   | false=>
     rw [hb] at h
     obtain⟨h1,h2⟩:=Bw (l:=l) h
     refine⟨by omega,?_⟩
     rw [show k - n=(k - (n+1))+1 by omega,List.getElem?_cons_succ]
     exact h2
theorem H5: ∀ {l:List Nat} {x n:Nat},Dk l x n=none→x∉l
 | [],x,n,_=>by simp
 | a::l,x,n,h=>by
   simp only [Dk] at h
   cases hb:Nat.beq a x with
   | true=>rw [hb] at h; cases h
   | false=>
     rw [hb] at h
     have:=H5 (l:=l) h
     intro hm
     rcases List.mem_cons.1 hm with rfl | hm
     ·rw [Nat.beq_refl] at hb; cases hb
     ·exact this hm
theorem yD: ∀ {l:List Nat},Fm l=true→ ∀ (i j x:Nat),l[i]? =some x→l[j]? =some x→i=j
 | [],_,i,j,x,hi,_=>by simp at hi
 | a::l,h,i,j,x,hi,hj=>by
   simp only [Fm,Bool.and_eq_true] at h
   have hna:a∉l:=by
    have h1:=h.1
    split at h1
    ·cases h1
    ·rename_i hp; exact H5 hp
   cases i with
   | zero=>
     simp only [List.getElem?_cons_zero,Option.some.injEq] at hi
     subst hi
     cases j with
     | zero=>rfl
     | succ j=>simp only [List.getElem?_cons_succ] at hj; exact absurd (List.mem_of_getElem? hj) hna
   | succ i=>
     simp only [List.getElem?_cons_succ] at hi
     cases j with
     | zero=>
       simp only [List.getElem?_cons_zero,Option.some.injEq] at hj
       subst hj
       exact absurd (List.mem_of_getElem? hi) hna
     | succ j=>
       simp only [List.getElem?_cons_succ] at hj
       rw [yD h.2 i j x hi hj]
def Bt.ren (bt:Bt) (bs ls:List Nat):Bt where
 β:=fun p=>bt.β ⟨ls.getD p.r 0,p.l⟩
 κ:=fun p=>bt.κ ⟨ls.getD p.r 0,p.l⟩
 bb:=fun n=>bt.bb (bs.getD n 0)
 nb:=bs.length
 ng:=ls.length
 A:=bt.A
theorem Jb {w:World} {bt:Bt} {bs ls:List Nat} {c:Cl} {u:Value} (h:VR w bt c.av u):VR w (bt.ren bs ls) (yC bs ls c).av u:=by
 have lt: ∀ {l:List Nat} {x k:Nat},Dk l x 0=some k→k < l.length∧l.getD k 0=x:=by
  intro l x k hk
  obtain⟨_,h2⟩:=Bw hk
  rw [Nat.sub_zero] at h2
  exact⟨(List.getElem?_eq_some_iff.1 h2).1,by simp [List.getD_eq_getElem?_getD,h2]⟩
 cases c with
 | c x=>
   cases x with
   | sc v=>cases h with | sc h=>exact .sc h
   | ls t l=>cases h with | ro h=>exact .ro h
 | em=>cases h with | em a=>exact .em a
 | own p sz lo len wh=>
   simp only [yC]
   split
   ·rename_i k hk
    obtain⟨h1,h2⟩:=lt hk
    have hp: (⟨ls.getD k 0,p.l⟩:bT)=p:=by rw [h2]
    have e1: (bt.ren bs ls).κ ⟨k,p.l⟩=bt.κ p:=by
     have e: (bt.ren bs ls).κ ⟨k,p.l⟩=bt.κ (bT.mk (ls.getD k 0) p.l):=rfl
     rw [e,hp]
    have e2: (bt.ren bs ls).β ⟨k,p.l⟩=bt.β p:=by
     have e: (bt.ren bs ls).β ⟨k,p.l⟩=bt.β (bT.mk (ls.getD k 0) p.l):=rfl
     rw [e,hp]
    cases h with
    | own hp' hc hkk ha=>exact .own h1 hc (by rw [e1]; exact hkk) (by rw [e2]; exact ha)
   ·exact .dead _
 | pro cs=>cases h with | pro cs hs hA hr ht=>exact .pro cs hs hA hr ht
 | ptrB n j=>
   simp only [yC]
   split
   ·rename_i k hk
    obtain⟨h1,h2⟩:=lt hk
    cases h with
    | ptrB j hn=>
      have :bt.bb n=(bt.ren bs ls).bb k:=by show bt.bb n=bt.bb (bs.getD k 0); rw [h2]
      rw [this]
      exact .ptrB j h1
   ·exact .dead _
 | ptrT p sz i j=>
   simp only [yC]
   split
   ·rename_i k hk
    obtain⟨h1,h2⟩:=lt hk
    have hp: (⟨ls.getD k 0,p.l⟩:bT)=p:=by rw [h2]
    cases h with
    | ptrT sz i j hp' hkk=>
      have e1:bt.β p=(bt.ren bs ls).β ⟨k,p.l⟩:=by show bt.β p=bt.β ⟨ls.getD k 0,p.l⟩; rw [hp]
      rw [e1]
      exact .ptrT sz i j h1 (by show _ < bt.κ ⟨ls.getD k 0,p.l⟩; rw [hp]; exact hkk)
   ·exact .dead _
 | dead=>exact .dead _
theorem QZ {w:World} {bt:Bt} {bs ls:List Nat} {v:V1} {u:Value} (h:VR w bt v.av u):VR w (bt.ren bs ls) (QW bs ls v).av u:=by
 have cells: ∀ (cs:List Cl) (us:List Value),us.length=cs.length→(∀ (k:Nat) (c:AV) (u:Value),(cs.map Cl.av)[k]? =some c→us[k]? =some u→VR w bt c u)→ ∀ (k:Nat) (c:AV) (u:Value),((cs.map (yC bs ls)).map Cl.av)[k]? =some c→us[k]? =some u→VR w (bt.ren bs ls) c u:=by
  intro cs us _ hr k c u hk hu
  rw [List.getElem?_map,List.getElem?_map] at hk
  simp only [Option.map_eq_some_iff] at hk
  obtain⟨c1,⟨c0,hc0,rfl⟩,rfl⟩:=hk
  exact Jb (hr k c0.av u (by rw [List.getElem?_map,hc0]; rfl) hu)
 cases v with
 | cl c=>exact Jb h
 | agg cs=>
   simp only [V1.av] at h
   cases h with
   | agg hl ho hr=>
     exact .agg (by simpa using hl) ho (cells cs _ (by simpa using hl) hr)
 | fn f cs=>
   simp only [V1.av] at h
   cases h with
   | fn f hl hr=>
     exact .fn f (by simpa using hl) (cells cs _ (by simpa using hl) hr)
theorem SJ {w:World} {bt:Bt} {bs ls:List Nat} {v:V} {u:Value} (h:VR w bt v.av u):VR w (bt.ren bs ls) (QX bs ls v).av u:=by
 cases v with
 | v x=>exact QZ h
 | tup l=>exact .dead _
theorem H6 (S:TS) (f:V→V): ∀ (keep:List Nat) (t:Nat),iI (keep.map fun t=>(t,f (iI S.env t))) t=V.dead∨iI (keep.map fun t=>(t,f (iI S.env t))) t=f (iI S.env t)
 | [],t=> .inl rfl
 | u::l,t=>by
   simp only [List.map_cons,iI]
   cases hb:Nat.beq u t with
   | true=>rw [Nat.eq_of_beq_eq_true hb]; exact .inr rfl
   | false=>exact H6 S f l t
theorem w3 (S:TS) (keep bs ls:List Nat) (r:Nat):c8 (iJ S keep bs ls).gh r=(ls[r]?).bind fun q=>c8 S.gh q:=by
 show (pJ (ls.map fun r=>c8 S.gh r) r).getD none=_
 rw [dL,List.getElem?_map]
 cases ls[r]? <;> rfl
theorem Lj {S:TS} {keep bs ls:List Nat} (h:Ja S bs ls=true):pG S.st (iJ S keep bs ls).st:=by
 unfold Ja at h
 simp only [Bool.and_eq_true] at h
 obtain⟨⟨⟨⟨hnb,hnl⟩,hbs⟩,hfz⟩,hlt⟩:=h
 have hfz:=I4 hfz
 intro w0 W btI SI bt a w hl
 have inv:=hl.inv
 have hls: ∀ (k:Nat),k < S.fz→ls[k]? =some k:=by
  intro k hk
  have : (ls.take S.fz)[k]? =(List.range S.fz)[k]? :=by rw [hfz]
  rw [List.getElem?_take,if_pos hk,List.getElem?_range hk] at this
  exact this
 have look: ∀ p s rs,(iJ S keep bs ls).st.look p= .sl s rs→ ∃ q,ls[p.r]? =some q∧S.st.look ⟨q,p.l⟩= .sl s rs∧ls.getD p.r 0=q:=by
  intro p s rs hp
  unfold St.look at hp
  have e: (iJ S keep bs ls).st.gh p.r=((ls[p.r]?).bind fun q=>c8 S.gh q).map bO.tree:=by
   show (c8 _ _).map bO.tree=_
   rw [w3]
  rw [e] at hp
  cases hq:ls[p.r]? with
  | none=>rw [hq] at hp; cases hp
  | some q=>
    refine⟨q,rfl,?_,by simp [List.getD_eq_getElem?_getD,hq]⟩
    rw [hq] at hp
    exact hp
 have box: ∀ n cells,(iJ S keep bs ls).st.bx n=some cells→ ∃ b cs,bs[n]? =some b∧S.bx[b]? =some cs∧cells=(cs.map (yC bs ls)).map Cl.av∧bs.getD n 0=b:=by
  intro n cells hn
  have hn': (pJ (bs.map fun b=>((pJ S.bx b).getD []).map (yC bs ls)) n).map (fun cs=>cs.map Cl.av)=some cells:=hn
  rw [dL,List.getElem?_map] at hn'
  simp only [Option.map_eq_some_iff] at hn'
  obtain⟨x,⟨b,hb,rfl⟩,rfl⟩:=hn'
  have hlt':b < S.bx.length:=Nat.le_of_ble_eq_true (List.all_eq_true.1 hbs b (List.mem_of_getElem? hb))
  refine⟨b,S.bx[b],hb,List.getElem?_eq_getElem hlt',?_,by simp [List.getD_eq_getElem?_getD,hb]⟩
  rw [dL,List.getElem?_eq_getElem hlt']
  rfl
 have bxS: ∀ {b:Nat} {cs:List Cl},S.bx[b]? =some cs→S.st.bx b=some (cs.map Cl.av):=by
  intro b cs hb
  show (pJ S.bx b).map _=_
  rw [dL,hb]
  rfl
 refine⟨bt.ren bs ls,?_⟩
 refine⟨{ os:=inv.os,tape:=inv.tape,output:=inv.output,size:=inv.size,keep:=inv.keep
          nb:=by show bs.length=_; simp [TS.st,iJ]
          ng:=by show ls.length=_; simp [TS.st,iJ]
          bx:=fun n cells hn=> ?_
          gh:=fun r t hr=> ?_
          tr:=fun p sz rows hp=> ?_
          inj:=fun p q s rs s' rs' hp hq hk hk' he=> ?_
          bbinj:=fun n m cs cs' hn hm he=> ?_
          bbtr:=fun n cs p s rs hn hp hk=> ?_
          alt:=inv.alt
          atr:=fun p s rs hp hk=> ?_
          abb:=fun n cs hn=> ?_ },⟨hl.er.1,fun t=> ?_⟩,hl.defers,hl.fz,?_,fun p hp=> ?_,fun r hr hn=> ?_⟩
 ·obtain⟨b,cs,h1,h2,rfl,h4⟩:=box n cells hn
  obtain⟨g1,g2,arr,e,g3,g4,g5⟩:=inv.bx b _ (bxS h2)
  refine⟨by show n < _; have:=(List.getElem?_eq_some_iff.1 h1).1; simpa [TS.st,iJ] using this,by show _≤bt.bb (bs.getD n 0); rw [h4]; exact g2,arr,e,by show w.heap[bt.bb (bs.getD n 0)]? =_; rw [h4]; exact g3,by simpa using g4,fun j v hj=> ?_⟩
  rw [List.getElem?_map,List.getElem?_map] at hj
  simp only [Option.map_eq_some_iff] at hj
  obtain⟨c1,⟨c0,hc0,rfl⟩,rfl⟩:=hj
  obtain⟨c,k1,k2,k3⟩:=g5 j c0.av (by rw [List.getElem?_map,hc0]; rfl)
  exact⟨c,k1,Jb k2,k3⟩
 ·have hr': (c8 (iJ S keep bs ls).gh r).map bO.tree=some t:=hr
  rw [w3] at hr'
  show r < _
  cases hq:ls[r]? with
  | none=>rw [hq] at hr'; cases hr'
  | some q=>
    have:=(List.getElem?_eq_some_iff.1 hq).1
    simpa [TS.st,iJ] using this
 ·obtain⟨q,h1,h2,h3⟩:=look p sz rows hp
  obtain⟨g1,g2⟩:=inv.tr _ _ _ h2
  have eκ: (bt.ren bs ls).κ p=bt.κ ⟨q,p.l⟩:=by show bt.κ ⟨ls.getD p.r 0,p.l⟩=_; rw [h3]
  have eβ: (bt.ren bs ls).β p=bt.β ⟨q,p.l⟩:=by show bt.β ⟨ls.getD p.r 0,p.l⟩=_; rw [h3]
  rw [eκ,eβ]
  refine⟨g1,fun hk=>⟨(g2 hk).1,?_⟩⟩
  obtain⟨_,cs,e,k1,k2,k3,k4⟩:=g2 hk
  refine⟨cs,e,by rw [eβ]; exact k1,by rw [eκ]; exact k2,k3,fun i r hi=> ?_⟩
  obtain⟨m1,m2⟩:=k4 i r hi
  refine⟨m1,fun j x hj=> ?_⟩
  obtain⟨c,n1,n2⟩:=m2 j x hj
  refine⟨c,n1,?_⟩
  have f1: (bt.ren bs ls).κ (p.sub i j)=bt.κ (bT.sub ⟨q,p.l⟩ i j):=by show bt.κ ⟨ls.getD p.r 0,p.l++ [(i,j)]⟩=bt.κ ⟨q,p.l++ [(i,j)]⟩; rw [h3]
  have f2: (bt.ren bs ls).β (p.sub i j)=bt.β (bT.sub ⟨q,p.l⟩ i j):=by show bt.β ⟨ls.getD p.r 0,p.l++ [(i,j)]⟩=bt.β ⟨q,p.l++ [(i,j)]⟩; rw [h3]
  cases n2 with
  | sc h=>exact .sc h
  | dd u=>exact .dd _
  | sl q1 q2 q3=>exact .sl q1 (by rw [f1]; exact q2) (by rw [f2]; exact q3)
 ·obtain⟨p',h1,h2,h3⟩:=look p s rs hp
  obtain⟨q',g1,g2,g3⟩:=look q s' rs' hq
  have:=inv.inj ⟨p',p.l⟩ ⟨q',q.l⟩ _ _ _ _ h2 g2 (by rw [←h3]; exact hk) (by rw [←g3]; exact hk') (by rw [←h3,←g3]; exact he)
  simp only [bT.mk.injEq] at this
  obtain⟨e1,e2⟩:=this
  subst e1
  have e3:=yD hnl _ _ _ h1 g1
  cases p; cases q
  simp only at e3 e2
  rw [e3,e2]
 ·obtain⟨b,c,h1,h2,_,h4⟩:=box n cs hn
  obtain⟨b',c',g1,g2,_,g4⟩:=box m cs' hm
  have:=inv.bbinj b b' _ _ (bxS h2) (bxS g2) (by
   have he':bt.bb (bs.getD n 0)=bt.bb (bs.getD m 0):=he
   rw [h4,g4] at he'
   exact he')
  subst this
  exact yD hnb _ _ _ h1 g1
 ·obtain⟨b,c,h1,h2,_,h4⟩:=box n cs hn
  obtain⟨q,g1,g2,g3⟩:=look p s rs hp
  have hk':0 < bt.κ ⟨ls.getD p.r 0,p.l⟩:=hk
  rw [g3] at hk'
  show bt.bb (bs.getD n 0)≠bt.β ⟨ls.getD p.r 0,p.l⟩
  rw [h4,g3]
  exact inv.bbtr _ _ _ _ _ (bxS h2) g2 hk'
 ·obtain⟨q,g1,g2,g3⟩:=look p s rs hp
  have hk':0 < bt.κ ⟨ls.getD p.r 0,p.l⟩:=hk
  rw [g3] at hk'
  show ¬ bt.A (bt.β ⟨ls.getD p.r 0,p.l⟩)
  rw [g3]
  exact inv.atr _ _ _ g2 hk'
 ·obtain⟨b,c,h1,h2,_,h4⟩:=box n cs hn
  show ¬ bt.A (bt.bb (bs.getD n 0))
  rw [h4]
  exact inv.abb _ _ (bxS h2)
 ·show VR w _ (iI (iJ S keep bs ls).env t).av _
  rcases H6 S (QX bs ls) keep t with h1 | h1
  ·have :iI (iJ S keep bs ls).env t=V.dead:=h1
   rw [this]
   exact .dead _
  ·have :iI (iJ S keep bs ls).env t=QX bs ls (iI S.env t):=h1
   rw [this]
   exact SJ (hl.er.2 t)
 ·show S.fz≤(iJ S keep bs ls).gh.length
  rcases Nat.eq_zero_or_pos S.fz with h0 | h0
  ·omega
  ·have:=(List.getElem?_eq_some_iff.1 (hls (S.fz - 1) (by omega))).1
   simp [iJ]
   omega
 ·have hp':p.r < S.fz:=by have:=hl.fz; have e:S.st.fz=S.fz:=rfl; omega
  have h3:ls.getD p.r 0=p.r:=by simp [List.getD_eq_getElem?_getD,hls p.r hp']
  have:=hl.keep p hp
  show bt.β ⟨ls.getD p.r 0,p.l⟩=_∧bt.κ ⟨ls.getD p.r 0,p.l⟩=_
  rw [h3]
  exact this
 ·have hr':r < S.fz:=by have:=hl.fz; have e:S.st.fz=S.fz:=rfl; omega
  refine hl.gone r hr ?_
  have hn': (c8 (iJ S keep bs ls).gh r).map bO.tree=none:=hn
  rw [w3,hls r hr'] at hn'
  exact hn'
theorem Er {S:TS} {bs ls:List Nat} {keep:List Nat} {c:Cl} (h:c.ok S.gh): (yC bs ls c).ok (iJ S keep bs ls).gh:=by
 have lt: ∀ {x k:Nat},Dk ls x 0=some k→k < (iJ S keep bs ls).gh.length∧ls[k]? =some x:=by
  intro x k hk
  obtain⟨_,h2⟩:=Bw hk
  rw [Nat.sub_zero] at h2
  exact⟨by have:=(List.getElem?_eq_some_iff.1 h2).1; simpa [iJ] using this,h2⟩
 cases c with
 | own p sz lo len w=>
   simp only [yC]
   split
   ·rename_i k hk
    obtain⟨h1,h2⟩:=lt hk
    refine⟨h1,fun hw=> ?_⟩
    obtain⟨a,b,c⟩:=h.2 hw
    refine⟨a,b,fun tr htr=>c tr ?_⟩
    rw [w3,h2] at htr
    exact htr
   ·trivial
 | ptrT p sz i j=>
   simp only [yC]
   split
   ·rename_i k hk; exact (lt hk).1
   ·trivial
 | ptrB n j=>simp only [yC]; split <;> trivial
 | _=>trivial
theorem SK {S:TS} {bs ls:List Nat} {keep:List Nat} {v:V} (h:v.ok S.gh): (QX bs ls v).ok (iJ S keep bs ls).gh:=by
 have one: ∀ {v:V1},v.ok S.gh→(QW bs ls v).ok (iJ S keep bs ls).gh:=by
  intro v h
  cases v with
  | cl c=>exact Er h
  | agg cs=>intro c hc; obtain⟨x,hx,rfl⟩:=List.mem_map.1 hc; exact Er (h x hx)
  | fn f cs=>intro c hc; obtain⟨x,hx,rfl⟩:=List.mem_map.1 hc; exact Er (h x hx)
 cases v with
 | v x=>exact one h
 | tup l=>trivial
theorem H7 {S:TS} (hS:S.ok) (keep bs ls:List Nat): (iJ S keep bs ls).ok:=by
 refine⟨fun x hx=> ?_,fun cs hcs c hc=> ?_⟩
 ·obtain⟨t,_,rfl⟩:=List.mem_map.1 hx
  exact SK (Em hS t)
 ·obtain⟨b,_,rfl⟩:=List.mem_map.1 hcs
  obtain⟨x,hx,rfl⟩:=List.mem_map.1 hc
  cases hb:pJ S.bx b with
  | none=>rw [hb] at hx; cases hx
  | some cs=>
    rw [hb] at hx
    rw [dL] at hb
    exact Er (hS.bx cs (List.mem_of_getElem? hb) x hx)
theorem Es {G:List (Option bO)} {c:Cl} (h:c.ok G):Pd G c=c:=by
 unfold Pd
 split
 ·rename_i p sz lo len
  split
  ·rename_i tr htr
   rw [(h.2 rfl).2.2 tr (by unfold c8; rw [htr]; rfl)]
  ·rfl
 ·rfl
theorem Lk {G:List (Option bO)} {v:V1} (h:v.ok G):QY G v=v:=by
 cases v with
 | cl c=>exact congrArg V1.cl (Es h)
 | agg cs=>exact congrArg V1.agg ((List.map_congr_left fun c hc=>Es (h c hc)).trans (List.map_id' cs))
 | fn f cs=>exact congrArg (V1.fn f) ((List.map_congr_left fun c hc=>Es (h c hc)).trans (List.map_id' cs))
theorem SL {G:List (Option bO)} {v:V} (h:v.ok G):UR G v=v:=by
 cases v with
 | v x=>exact congrArg V.v (Lk h)
 | tup l=>exact congrArg V.tup ((List.map_congr_left fun c hc=>Lk (h c hc)).trans (List.map_id' l))
theorem SM {S:TS} (h:S.ok):TY S=S:=by
 unfold TY
 rw [List.map_congr_left (g:=id) (fun x hx=>by rw [SL (h.env x hx)]; rfl),List.map_congr_left (g:=id) (l:=S.bx) (fun cs hcs=>(List.map_congr_left fun c hc=>Es (h.bx cs hcs c hc)).trans (List.map_id' cs)),List.map_id,List.map_id]
theorem tu {ρ:Type} {S:TS} (hS:S.ok) {keep:List Nat} {κ:TS→Option ρ} {r:ρ} (h:Bv keep S κ=some r): ∃ S1:TS,pG S.st S1.st∧S1.ok∧κ S1=some r:=by
 unfold Bv at h
 obtain⟨h1,h⟩:=ap h
 rw [SM (H7 hS _ _ _)] at h
 exact⟨_,Lj h1,H7 hS _ _ _,h⟩
end Go.Proofs.YtkcgfceffffmoaaGreat.En
namespace Go.Proofs.YtkcgfceffffmoaaGreat.En
open Go
inductive Sh where
 | int (k:IntKind) | bl | str | ro (t:Ty) | own (r:Nat) (t:Ty) | ptr (n j:Nat) | em | dead | pro (t:Ty) | fc (g:Nat) | sub (r:Nat) (t:Ty)
abbrev Sh.D:Sh→Type
 | .int _=>Int | .bl=>Bool | .str=>ByteArray | .ro t=>List t.D | .pro t=>t.D | .sub _ _=>Nat×Nat | _=>Unit
abbrev w4.D:List Sh→Type
 | [] =>Unit
 | s::l=>s.D×w4.D l
inductive A6 where
 | cl (s:Sh) | agg (l:List Sh) | st (n:Sn) | fn (f:FuncId) (l:List Sh)
abbrev A6.D:A6→Type
 | .cl s=>s.D | .agg l=>w4.D l | .st n=>n.D | .fn _ l=>w4.D l
abbrev GW.D:List (Nat×A6)→Type
 | [] =>Unit
 | x::l=>x.2.D×GW.D l
abbrev GX.D:List (List Sh)→Type
 | [] =>Unit
 | x::l=>w4.D x×GX.D l
abbrev sU.D:List Ty→Type
 | [] =>Unit
 | t::l=>List t.D×sU.D l
structure eG where
 env:List (Nat×A6)
 bx:List (List Sh)
 gh:List Ty
 fz:Nat
 nt:Nat
abbrev eG.D (L:eG):Type:=GW.D L.env×GX.D L.bx×sU.D L.gh
def TZ (G:List (Option bO)) (r:Nat):Nat:=match pJ G r with | some (some tr)=>tr.l.length | _=>0
def Sh.mk (G:List (Option bO)): (s:Sh)→s.D→Cl
 | .int k,n=> .c (.sc (.int k n)) | .bl,v=> .c (.sc (.bool v)) | .str,v=> .c (.sc (.string v)) | .ro t,l=> .c (.ls t l)
 | .own r t,_=> .own ⟨r,[]⟩ t.width 0 (TZ G r) true | .ptr n j,_=> .ptrB n j | .em,_=> .em | .dead,_=> .dead | .pro t,x=> .pro (t.flat x) | .fc g,_=> .c (.sc (.func (.func g) #[] #[])) | .sub r t,x=> .own ⟨r,[]⟩ t.width x.1 x.2 false
def w4.mk (G:List (Option bO)): (l:List Sh)→w4.D l→List Cl
 | [],_=> []
 | s::l,x=>s.mk G x.1::w4.mk G l x.2
def A6.mk (G:List (Option bO)): (v:A6)→v.D→V
 | .cl s,x=> .v (.cl (s.mk G x)) | .agg l,x=> .v (.agg (w4.mk G l x)) | .st n,x=> .v (.agg ((n.flat x).map .c)) | .fn f l,x=> .v (.fn f (w4.mk G l x))
def GW.mk (G:List (Option bO)): (l:List (Nat×A6))→GW.D l→List (Nat×V)
 | [],_=> []
 | x::l,d=>(x.1,x.2.mk G d.1)::GW.mk G l d.2
def GX.mk (G:List (Option bO)): (l:List (List Sh))→GX.D l→List (List Cl)
 | [],_=> []
 | x::l,d=>w4.mk G x d.1::GX.mk G l d.2
def sU.mk: (l:List Ty)→sU.D l→List (Option bO)
 | [],_=> []
 | t::l,d=>some ⟨t,d.1,none⟩::sU.mk l d.2
def eG.mk' (L:eG) (d:L.D):TS:= { env:=GW.mk (sU.mk L.gh d.2.2) L.env d.1,bx:=GX.mk (sU.mk L.gh d.2.2) L.bx d.2.1,gh:=sU.mk L.gh d.2.2,fz:=L.fz,nt:=L.nt }
section
variable {ρ:Type}
def Sh.un: (s:Sh)→Cl→(s.D→Option ρ)→Option ρ
 | .int k, .c (.sc (.int k' n)),κ=>bif decide (k'=k) then κ n else none
 | .bl, .c (.sc (.bool v)),κ=>κ v
 | .str, .c (.sc (.string v)),κ=>κ v
 | .ro t, .c (.ls t' l),κ=>match vE t' t l with | some l=>κ l | none=>none
 | .own r t, .own p sz _ _ w,κ=>match p.l with | [] =>(bif w&&Nat.beq p.r r&&Nat.beq sz t.width then κ () else none) | _=>none
 | .ptr n i, .ptrB m j,κ=>bif Nat.beq m n&&Nat.beq j i then κ () else none
 | .em, .em,κ=>κ ()
 | .dead, .dead,κ=>κ ()
 | .pro t, .pro xs,κ=>(match t.unflat xs with | some x=>κ x | none=>none)
 | .fc g, .c (.sc (.func (.func g') cs ts)),κ=>bif Nat.beq g' g&&Nat.beq cs.size 0&&Nat.beq ts.size 0 then κ () else none
 | .sub r t, .own p sz lo len w,κ=>match p.l with | [] =>(bif !w&&Nat.beq p.r r&&Nat.beq sz t.width then κ (lo,len) else none) | _=>none
 | _,_,_=>none
def w4.un: (l:List Sh)→List Cl→(w4.D l→Option ρ)→Option ρ
 | [],[],κ=>κ ()
 | s::l,c::cs,κ=>s.un c fun x=>w4.un l cs fun y=>κ (x,y)
 | _,_,_=>none
def A6.un: (v:A6)→V→(v.D→Option ρ)→Option ρ
 | .cl s, .v (.cl c),κ=>s.un c κ
 | .agg l, .v (.agg cs),κ=>w4.un l cs κ
 | .st n, .v (.agg cs),κ=>match I2 cs with | some xs=>(match n.unflat xs with | some x=>κ x | none=>none) | none=>none
 | .fn f l, .v (.fn g cs),κ=>bif Nat.beq f g then w4.un l cs κ else none
 | _,_,_=>none
def GW.un: (l:List (Nat×A6))→List (Nat×V)→(GW.D l→Option ρ)→Option ρ
 | [],[],κ=>κ ()
 | x::l,y::m,κ=>bif Nat.beq x.1 y.1 then x.2.un y.2 fun a=>GW.un l m fun b=>κ (a,b) else none
 | _,_,_=>none
def GX.un: (l:List (List Sh))→List (List Cl)→(GX.D l→Option ρ)→Option ρ
 | [],[],κ=>κ ()
 | x::l,y::m,κ=>w4.un x y fun a=>GX.un l m fun b=>κ (a,b)
 | _,_,_=>none
def sU.un: (l:List Ty)→List (Option bO)→(sU.D l→Option ρ)→Option ρ
 | [],[],κ=>κ ()
 | t::l,some tr::m,κ=>match tr.hole with
   | none=>(match vE tr.t t tr.l with | some a=>sU.un l m fun b=>κ (a,b) | none=>none)
   | some _=>none
 | _,_,_=>none
def eG.un (L:eG) (S:TS) (κ:L.D→Option ρ):Option ρ:=sU.un L.gh S.gh fun g=>GW.un L.env S.env fun e=>GX.un L.bx S.bx fun b=>bif Nat.beq S.fz L.fz&&Nat.beq S.nt L.nt then κ (e,b,g) else none
theorem Sh.un_some {G:List (Option bO)} (hG: ∀ r,r < G.length→ ∃ tr,pJ G r=some (some tr)): ∀ {s:Sh} {c:Cl} {κ:s.D→Option ρ} {r:ρ},c.ok G→s.un c κ=some r→ ∃ x,c=s.mk G x∧κ x=some r:=by
 intro s c κ r hc h
 cases s with
 | int k=>
   cases c with
   | c y=>cases y with
     | sc v=>cases v with
       | int k' n=>
         simp only [Sh.un] at h
         obtain⟨h1,h⟩:=ap h
         have:=of_decide_eq_true h1
         subst this
         exact⟨n,rfl,h⟩
       | _=>simp [Sh.un] at h
     | ls t l=>simp [Sh.un] at h
   | _=>simp [Sh.un] at h
 | bl=>
   cases c with
   | c y=>cases y with
     | sc v=>cases v with
       | bool v=>exact⟨v,rfl,h⟩
       | _=>simp [Sh.un] at h
     | ls t l=>simp [Sh.un] at h
   | _=>simp [Sh.un] at h
 | str=>
   cases c with
   | c y=>cases y with
     | sc v=>cases v with
       | string v=>exact⟨v,rfl,h⟩
       | _=>simp [Sh.un] at h
     | ls t l=>simp [Sh.un] at h
   | _=>simp [Sh.un] at h
 | ro t=>
   cases c with
   | c y=>cases y with
     | sc v=>simp [Sh.un] at h
     | ls t' l=>
       simp only [Sh.un] at h
       split at h
       ·rename_i l' hl
        obtain⟨e,hl⟩:=fJ hl
        subst e
        simp only at hl
        subst hl
        exact⟨l,rfl,h⟩
       ·cases h
   | _=>simp [Sh.un] at h
 | own q t=>
   cases c with
   | own p sz lo len w=>
     obtain⟨pr,pl⟩:=p
     cases pl with
     | cons a l=>simp [Sh.un] at h
     | nil=>
       simp only [Sh.un] at h
       obtain⟨h1,h'⟩:=ap h
       clear h
       simp only [Bool.and_eq_true] at h1
       obtain⟨⟨h0,h2⟩,h3⟩:=h1
       have h2:pr=q:=Nat.eq_of_beq_eq_true h2
       have h3:sz=t.width:=Nat.eq_of_beq_eq_true h3
       subst h0 h2 h3
       obtain⟨k1,k2⟩:=hc
       obtain⟨_,k3,k4⟩:=k2 rfl
       obtain⟨tr,htr⟩:=hG _ k1
       have k5:=k4 tr (bO.look htr)
       refine⟨(),?_,h'⟩
       simp only [Sh.mk,TZ,k3,k5,htr]
   | c y=>cases y <;> simp [Sh.un] at h
   | _=>simp [Sh.un] at h
 | sub q t=>
   cases c with
   | own p sz lo len w=>
     obtain⟨pr,pl⟩:=p
     cases pl with
     | cons a l=>simp [Sh.un] at h
     | nil=>
       simp only [Sh.un] at h
       obtain⟨h1,h'⟩:=ap h
       clear h
       simp only [Bool.and_eq_true,Bool.not_eq_true'] at h1
       obtain⟨⟨h0,h2⟩,h3⟩:=h1
       have h2:pr=q:=Nat.eq_of_beq_eq_true h2
       have h3:sz=t.width:=Nat.eq_of_beq_eq_true h3
       subst h0 h2 h3
       exact⟨(lo,len),rfl,h'⟩
   | c y=>cases y <;> simp [Sh.un] at h
   | _=>simp [Sh.un] at h
 | ptr n i=>
   cases c with
   | ptrB m j=>
     simp only [Sh.un] at h
     obtain⟨h1,h'⟩:=ap h
     clear h
     simp only [Bool.and_eq_true] at h1
     have h2:=Nat.eq_of_beq_eq_true h1.1
     have h3:=Nat.eq_of_beq_eq_true h1.2
     subst h2 h3
     exact⟨(),rfl,h'⟩
   | c y=>cases y <;> simp [Sh.un] at h
   | _=>simp [Sh.un] at h
 | em=>
   cases c with
   | em=>exact⟨(),rfl,h⟩
   | c y=>cases y <;> simp [Sh.un] at h
   | _=>simp [Sh.un] at h
 | dead=>
   cases c with
   | dead=>exact⟨(),rfl,h⟩
   | c y=>cases y <;> simp [Sh.un] at h
   | _=>simp [Sh.un] at h
 | pro t=>
   cases c with
   | pro xs=>
     simp only [Sh.un] at h
     split at h
     ·rename_i x hx
      exact⟨x,by simp only [Sh.mk]; rw [t.unflat_some _ _ hx],h⟩
     ·cases h
   | c y=>cases y <;> simp [Sh.un] at h
   | _=>simp [Sh.un] at h
 | fc g=>
   unfold Sh.un at h
   split at h
   all_goals first | (rename_i hh; cases hh; done) | skip
   all_goals try (rename_i hh _; cases hh; done)
   ·rename_i e
    cases e
    obtain⟨h1,h'⟩:=ap h
    simp only [Bool.and_eq_true] at h1
    obtain⟨⟨h1,h2⟩,h3⟩:=h1
    have h1:=Nat.eq_of_beq_eq_true h1
    have h2:=Array.eq_empty_of_size_eq_zero (Nat.eq_of_beq_eq_true h2)
    have h3:=Array.eq_empty_of_size_eq_zero (Nat.eq_of_beq_eq_true h3)
    exact⟨(),by rw [h1,h2,h3]; rfl,h'⟩
   ·cases h
theorem w4.un_some {G:List (Option bO)} (hG: ∀ r,r < G.length→ ∃ tr,pJ G r=some (some tr)): ∀ {l:List Sh} {cs:List Cl} {κ:w4.D l→Option ρ} {r:ρ},(∀ c∈cs,c.ok G)→w4.un l cs κ=some r→ ∃ x,cs=w4.mk G l x∧κ x=some r
 | [],[],κ,r,_,h=>⟨(),rfl,h⟩
 | s::l,c::cs,κ,r,hc,h=>by
   unfold w4.un at h
   obtain⟨x,h1,h⟩:=Sh.un_some hG (hc c List.mem_cons_self) h
   obtain⟨y,h2,h⟩:=w4.un_some hG (fun z hz=>hc z (List.mem_cons_of_mem _ hz)) h
   exact⟨(x,y),by rw [h1,h2]; rfl,h⟩
 | [],c::cs,κ,r,_,h=>by simp [w4.un] at h
 | s::l,[],κ,r,_,h=>by simp [w4.un] at h
theorem Bx: ∀ {cs:List Cl} {xs:List C},I2 cs=some xs→cs=xs.map .c
 | [],xs,h=>by simp only [I2,Option.some.injEq] at h; subst h; rfl
 | c::cs,xs,h=>by
   cases c with
   | c y=>
     simp only [I2] at h
     split at h
     ·rename_i r hr
      simp only [Option.some.injEq] at h
      subst h
      rw [Bx hr]
      rfl
     ·cases h
   | _=>simp [I2] at h
theorem A6.un_some {G:List (Option bO)} (hG: ∀ r,r < G.length→ ∃ tr,pJ G r=some (some tr)) {s:A6} {v:V} {κ:s.D→Option ρ} {r:ρ} (hv:v.ok G) (h:s.un v κ=some r): ∃ x,v=s.mk G x∧κ x=some r:=by
 cases v with
 | tup l=>cases s <;> simp [A6.un] at h
 | v y=>
   cases s with
   | cl s=>cases y with
     | cl c=>
       obtain⟨x,h1,h⟩:=Sh.un_some hG hv h
       exact⟨x,by rw [h1]; rfl,h⟩
     | _=>simp [A6.un] at h
   | agg l=>cases y with
     | agg cs=>
       obtain⟨x,h1,h⟩:=w4.un_some hG hv h
       exact⟨x,by rw [h1]; rfl,h⟩
     | _=>simp [A6.un] at h
   | st n=>cases y with
     | agg cs=>
       simp only [A6.un] at h
       split at h
       ·rename_i xs hxs
        split at h
        ·rename_i x hx
         exact⟨x,by rw [Bx hxs]; simp only [A6.mk]; rw [n.unflat_some _ _ hx],h⟩
        ·cases h
       ·cases h
     | _=>simp [A6.un] at h
   | fn f l=>cases y with
     | fn g cs=>
       simp only [A6.un] at h
       obtain⟨h0,h'⟩:=ap h
       clear h
       have h0:=Nat.eq_of_beq_eq_true h0
       subst h0
       obtain⟨x,h1,h⟩:=w4.un_some hG hv h'
       exact⟨x,by rw [h1]; rfl,h⟩
     | _=>simp [A6.un] at h
theorem GW.un_some {G:List (Option bO)} (hG: ∀ r,r < G.length→ ∃ tr,pJ G r=some (some tr)): ∀ {l:List (Nat×A6)} {m:List (Nat×V)} {κ:GW.D l→Option ρ} {r:ρ},(∀ x∈m,x.2.ok G)→GW.un l m κ=some r→ ∃ x,m=GW.mk G l x∧κ x=some r
 | [],[],κ,r,_,h=>⟨(),rfl,h⟩
 | s::l,c::cs,κ,r,hc,h=>by
   unfold GW.un at h
   obtain⟨h0,h⟩:=ap h
   have h0:=Nat.eq_of_beq_eq_true h0
   obtain⟨x,h1,h⟩:=A6.un_some hG (hc c List.mem_cons_self) h
   obtain⟨y,h2,h⟩:=GW.un_some hG (fun z hz=>hc z (List.mem_cons_of_mem _ hz)) h
   refine⟨(x,y),?_,h⟩
   rw [h2]
   obtain⟨c1,c2⟩:=c
   simp only at h0 h1
   rw [h1,←h0]
   rfl
 | [],c::cs,κ,r,_,h=>by simp [GW.un] at h
 | s::l,[],κ,r,_,h=>by simp [GW.un] at h
theorem GX.un_some {G:List (Option bO)} (hG: ∀ r,r < G.length→ ∃ tr,pJ G r=some (some tr)): ∀ {l:List (List Sh)} {m:List (List Cl)} {κ:GX.D l→Option ρ} {r:ρ},(∀ cs∈m,∀ c∈cs,c.ok G)→GX.un l m κ=some r→ ∃ x,m=GX.mk G l x∧κ x=some r
 | [],[],κ,r,_,h=>⟨(),rfl,h⟩
 | s::l,c::cs,κ,r,hc,h=>by
   unfold GX.un at h
   obtain⟨x,h1,h⟩:=w4.un_some hG (hc c List.mem_cons_self) h
   obtain⟨y,h2,h⟩:=GX.un_some hG (fun z hz=>hc z (List.mem_cons_of_mem _ hz)) h
   exact⟨(x,y),by rw [h1,h2]; rfl,h⟩
 | [],c::cs,κ,r,_,h=>by simp [GX.un] at h
 | s::l,[],κ,r,_,h=>by simp [GX.un] at h
theorem sU.un_some: ∀ {l:List Ty} {m:List (Option bO)} {κ:sU.D l→Option ρ} {r:ρ},sU.un l m κ=some r→ ∃ x,m=sU.mk l x∧κ x=some r
 | [],[],κ,r,h=>⟨(),rfl,h⟩
 | t::l,some tr::m,κ,r,h=>by
   unfold sU.un at h
   split at h
   ·rename_i hh
    split at h
    ·rename_i a ha
     obtain⟨e,hl⟩:=fJ ha
     obtain⟨y,h2,h⟩:=sU.un_some h
     obtain⟨t',l',hole⟩:=tr
     simp only at hh e hl ha
     subst hh e
     simp only at hl
     subst hl
     exact⟨(l',y),by rw [h2]; rfl,h⟩
    ·cases h
   ·cases h
 | [],c::cs,κ,r,h=>by simp [sU.un] at h
 | t::l,[],κ,r,h=>by simp [sU.un] at h
 | t::l,none::m,κ,r,h=>by simp [sU.un] at h
theorem sU.mk_some: ∀ (l:List Ty) (d:sU.D l) (r:Nat),r < (sU.mk l d).length→ ∃ tr,pJ (sU.mk l d) r=some (some tr)
 | [],d,r,h=>by simp [sU.mk] at h
 | t::l,d,0,h=>⟨_,rfl⟩
 | t::l,d,r+1,h=>by
   obtain⟨tr,htr⟩:=sU.mk_some l d.2 r (by simpa [sU.mk] using h)
   exact⟨tr,htr⟩
theorem eG.un_some {L:eG} {S:TS} (hS:S.ok) {κ:L.D→Option ρ} {r:ρ} (h:L.un S κ=some r): ∃ d,S=L.mk' d∧κ d=some r:=by
 unfold eG.un at h
 obtain⟨g,h1,h⟩:=sU.un_some h
 have hG: ∀ r,r < S.gh.length→ ∃ tr,pJ S.gh r=some (some tr):=by rw [h1]; exact sU.mk_some _ _
 obtain⟨e,h2,h⟩:=GW.un_some hG hS.env h
 obtain⟨b,h3,h⟩:=GX.un_some hG hS.bx h
 obtain⟨h4,h⟩:=ap h
 simp only [Bool.and_eq_true] at h4
 have h5:=Nat.eq_of_beq_eq_true h4.1
 have h6:=Nat.eq_of_beq_eq_true h4.2
 refine⟨(e,b,g),?_,h⟩
 obtain⟨env,bx,gh,fz,nt⟩:=S
 simp only at h1 h2 h3 h5 h6
 subst h5 h6
 unfold eG.mk'
 simp only
 rw [←h1,←h2,←h3]
end
end Go.Proofs.YtkcgfceffffmoaaGreat.En
namespace Go.Proofs.YtkcgfceffffmoaaGreat.En
open Go
def Ok (S:TS) (t:Ty):Cl:= .own ⟨S.gh.length,[]⟩ t.width 0 0 true
def Ol (n j:Nat) (t:Ty) (S:TS):TS:=match pJ S.bx n with
 | some cs=>(match pJ cs j with
   | some .em=> { S with bx:=dl S.bx n (dl cs j (Ok S t)),gh:=S.gh++ [some ⟨t,[],none⟩] }
   | _=>S)
 | none=>S
def Om (x:Nat) (t:Ty) (S:TS):TS:=match iI S.env x with
 | .v (.cl .em)=> { S with env:=(x, .v (.cl (Ok S t)))::S.env,gh:=S.gh++ [some ⟨t,[],none⟩] }
 | _=>S
theorem Tq: ∀ (l:List (Nat×Nat)),T.go .dd l= .dd
 | [] =>rfl
 | (_,_)::l=>Tq l
theorem T0 (w:Nat) {l:List (Nat×Nat)} {s:Nat} {rs:List (List T)} (h:T.go (.sl w []) l= .sl s rs):rs= [] :=by
 cases l with
 | nil=>cases h; rfl
 | cons a l=>
   obtain⟨i,j⟩:=a
   simp only [T.go,T.cell,List.getD_nil,Tq] at h
   cases h
theorem H8 {S S':TS} (t:Ty) (henv: ∀ u,(iI S'.env u).av=(iI S.env u).av∨((iI S.env u).av= .em∧(iI S'.env u).av= .own ⟨S.gh.length,[]⟩ t.width 0 0))
  (hbx: ∀ k cs',S'.st.bx k=some cs'→ ∃ cs,S.st.bx k=some cs∧cs'.length=cs.length∧ ∀ (j:Nat) (v:AV),cs'[j]? =some v→cs[j]? =some v∨(cs[j]? =some .em∧v= .own ⟨S.gh.length,[]⟩ t.width 0 0))
  (hgh:S'.gh=S.gh++ [some ⟨t,[],none⟩]) (hfz:S'.fz=S.fz) (hnt:S'.nt=S.nt) (hbl:S'.bx.length=S.bx.length):pG S.st S'.st:=by
 intro w0 W btI SI bt a w hl0
 have hl:=hl0.widen (N:=S.gh.length+1) (Nat.le_succ _)
 have inv:=hl.inv
 have hng:S'.st.ng=S.gh.length+1:=by show S'.gh.length=_; rw [hgh]; simp
 have ghS: ∀ r,S'.st.gh r=if r=S.gh.length then some (.sl t.width []) else S.st.gh r:=by
  intro r
  show (c8 S'.gh r).map bO.tree=_
  rw [hgh,l4]
  split <;> rfl
 have κ0: ∀ l,(bt.widen S.st.ng (S.gh.length+1)).κ ⟨S.gh.length,l⟩=0:=by
  intro l
  show (if S.gh.length < S.gh.length then _ else 0)=0
  rw [if_neg (Nat.lt_irrefl _)]
 have look: ∀ p s rs,S'.st.look p= .sl s rs→(p.r=S.gh.length∧rs= [] ∧(bt.widen S.st.ng (S.gh.length+1)).κ p=0)∨(p.r≠S.gh.length∧S.st.look p= .sl s rs):=by
  intro p s rs hp
  unfold St.look at hp
  rw [ghS] at hp
  by_cases hr:p.r=S.gh.length
  ·rw [if_pos hr] at hp
   left
   refine⟨hr,T0 _ hp,?_⟩
   obtain⟨pr,pl⟩:=p
   simp only at hr
   subst hr
   exact κ0 pl
  ·rw [if_neg hr] at hp
   exact .inr ⟨hr,hp⟩
 have own0: ∀ {u:Value},VR w (bt.widen S.st.ng (S.gh.length+1)) .em u→VR w (bt.widen S.st.ng (S.gh.length+1)) (.own ⟨S.gh.length,[]⟩ t.width 0 0) u:=by
  intro u hu
  cases hu with
  | em ad=>exact .own (Nat.lt_succ_self _) (Nat.le_refl _) (Nat.zero_le _) (fun h=>absurd h (Nat.lt_irrefl _))
 refine⟨bt.widen S.st.ng (S.gh.length+1),?_⟩
 refine⟨{ os:=inv.os,tape:=inv.tape,output:=inv.output,size:=inv.size,keep:=inv.keep
          nb:=by show _=S'.bx.length; rw [hbl]; exact inv.nb
          ng:=by rw [hng]; exact inv.ng
          bx:=fun n cells hn=> ?_
          gh:=fun r x hr=> ?_
          tr:=fun p sz rows hp=> ?_
          inj:=fun p q s rs s' rs' hp hq hk hk' he=> ?_
          bbinj:=fun n m cs cs' hn hm he=> ?_
          bbtr:=fun n cs p s rs hn hp hk=> ?_
          alt:=inv.alt
          atr:=fun p s rs hp hk=> ?_
          abb:=fun n cs hn=> ?_ },⟨?_,fun u=> ?_⟩,hl.defers,?_,?_,hl.keep,fun r hr hn=> ?_⟩
 ·obtain⟨cs,h1,h2,h3⟩:=hbx n cells hn
  obtain⟨g1,g2,arr,e,g3,g4,g5⟩:=inv.bx n cs h1
  refine⟨by show n < S'.bx.length; rw [hbl]; exact g1,g2,arr,e,g3,by rw [h2]; exact g4,fun j v hj=> ?_⟩
  rcases h3 j v hj with h4 | ⟨h4,rfl⟩
  ·exact g5 j v h4
  ·obtain⟨c,k1,k2,k3⟩:=g5 j .em h4
   exact⟨c,k1,own0 k2,k3⟩
 ·rw [hng]
  rw [ghS] at hr
  split at hr
  ·omega
  ·have:=inv.gh r x hr
   exact this
 ·rcases look p sz rows hp with ⟨h1,rfl,h3⟩ | ⟨h1,h2⟩
  ·exact⟨Nat.zero_le _,fun hk=>by omega⟩
  ·exact inv.tr p sz rows h2
 ·rcases look p s rs hp with ⟨h1,_,h3⟩ | ⟨h1,h2⟩
  ·omega
  ·rcases look q s' rs' hq with ⟨g1,_,g3⟩ | ⟨g1,g2⟩
   ·omega
   ·exact inv.inj _ _ _ _ _ _ h2 g2 hk hk' he
 ·obtain⟨c,h1,_,_⟩:=hbx n cs hn
  obtain⟨c',g1,_,_⟩:=hbx m cs' hm
  exact inv.bbinj _ _ _ _ h1 g1 he
 ·obtain⟨c,h1,_,_⟩:=hbx n cs hn
  rcases look p s rs hp with ⟨_,_,h3⟩ | ⟨_,h2⟩
  ·omega
  ·exact inv.bbtr _ _ _ _ _ h1 h2 hk
 ·rcases look p s rs hp with ⟨_,_,h3⟩ | ⟨_,h2⟩
  ·omega
  ·exact inv.atr _ _ _ h2 hk
 ·obtain⟨c,h1,_,_⟩:=hbx n cs hn
  exact inv.abb _ _ h1
 ·have:=hl.er.1
  show _=S'.nt
  rw [hnt]
  exact this
 ·have h1:=hl.er.2 u
  show VR w _ (iI S'.env u).av _
  rcases henv u with h2 | ⟨h2,h3⟩
  ·rw [h2]; exact h1
  ·rw [h3]
   have h1':VR w (bt.widen S.st.ng (S.gh.length+1)) (iI S.env u).av (a.tmps.getD u undef):=h1
   rw [h2] at h1'
   exact own0 h1'
 ·show S'.fz=_
  rw [hfz]
  exact hl.fz
 ·show S'.fz≤S'.gh.length
  have:=hl.fzng
  have e:S.fz≤S.gh.length+1:=this
  have e2:S.st.fz≤S.st.ng:=hl0.fzng
  have e3:S.fz≤S.gh.length:=e2
  rw [hfz,hgh]
  simp
  omega
 ·refine hl.gone r hr ?_
  rw [ghS] at hn
  split at hn
  ·cases hn
  ·exact hn
theorem Ll (S:TS) (t:Ty): (Ok S t).ok (S.gh++ [some ⟨t,[],none⟩]):=by
 refine⟨by simp,fun _=>⟨rfl,rfl,fun tr htr=> ?_⟩⟩
 rw [l4,if_pos rfl] at htr
 cases htr
 rfl
theorem Q0 {S:TS} (hS:S.ok) (x:Nat) (t:Ty):pG S.st (Om x t S).st∧(Om x t S).ok:=by
 unfold Om
 split
 ·rename_i hx
  refine⟨H8 t (fun u=> ?_) (fun k cs' h=>⟨cs',h,rfl,fun j v hv=> .inl hv⟩) rfl rfl rfl rfl,⟨fun y hy=> ?_,fun cs hcs c hc=>Cl.ok_mono (ib.app _ _) (hS.bx cs hcs c hc)⟩⟩
  ·simp only [iI]
   cases hb:Nat.beq x u with
   | true=>
     have :x=u:=Nat.eq_of_beq_eq_true hb
     subst this
     right
     rw [hx]
     exact⟨rfl,rfl⟩
   | false=>exact .inl rfl
  ·rcases List.mem_cons.1 hy with rfl | hy
   ·exact Ll S t
   ·exact V.ok_mono (ib.app _ _) (hS.env y hy)
 ·exact⟨pG.refl,hS⟩
theorem Q1 {S:TS} (hS:S.ok) (n j:Nat) (t:Ty):pG S.st (Ol n j t S).st∧(Ol n j t S).ok:=by
 unfold Ol
 split
 ·rename_i cs hcs
  split
  ·rename_i hj
   rw [dL] at hcs hj
   have hn:=(List.getElem?_eq_some_iff.1 hcs).1
   refine⟨H8 t (fun u=> .inl rfl) (fun k cs' h=> ?_) rfl rfl rfl (by simp [fH]),⟨fun y hy=>V.ok_mono (ib.app _ _) (hS.env y hy),fun cs' hcs' c hc=> ?_⟩⟩
   ·have h': (pJ (dl S.bx n (dl cs j (Ok S t))) k).map (fun cs=>cs.map Cl.av)=some cs':=h
    rw [dL,fH,fH,List.getElem?_set] at h'
    by_cases hk:n=k
    ·subst hk
     rw [if_pos rfl,if_pos hn] at h'
     simp only [Option.map_some,Option.some.injEq] at h'
     subst h'
     refine⟨cs.map Cl.av,by show (pJ S.bx n).map _=_; rw [dL,hcs]; rfl,by simp,fun i v hv=> ?_⟩
     rw [List.getElem?_map,List.getElem?_set] at hv
     by_cases hi:j=i
     ·subst hi
      rw [if_pos rfl,if_pos (List.getElem?_eq_some_iff.1 hj).1] at hv
      right
      rw [List.getElem?_map,hj]
      simp only [Option.map_some,Option.some.injEq] at hv
      exact⟨rfl,hv.symm⟩
     ·rw [if_neg hi] at hv
      left
      rw [List.getElem?_map]
      exact hv
    ·rw [if_neg hk] at h'
     exact⟨cs',by show (pJ S.bx k).map _=_; rw [dL]; exact h',rfl,fun i v hv=> .inl hv⟩
   ·simp only [fH] at hcs'
    rcases List.mem_or_eq_of_mem_set hcs' with h1 | h1
    ·exact Cl.ok_mono (ib.app _ _) (hS.bx _ h1 c hc)
    ·subst h1
     rcases List.mem_or_eq_of_mem_set hc with h2 | h2
     ·exact Cl.ok_mono (ib.app _ _) (hS.bx _ (List.mem_of_getElem? hcs) c h2)
     ·subst h2
      exact Ll S t
  ·exact⟨pG.refl,hS⟩
 ·exact⟨pG.refl,hS⟩
theorem ak {α β:Type} (b:Bool) (x y:Option α) (f:α→Option β): (br b x y).bind f=br b (x.bind f) (y.bind f):=by cases b <;> rfl
theorem am {α β:Type} (c:Prop) [Decidable c] (x y:Option α) (f:α→Option β): (an c x y).bind f=an c (x.bind f) (y.bind f):=by unfold an; split <;> rfl
inductive Pe where
 | t (x:Nat) (t:Ty)
 | b (n j:Nat) (t:Ty)
def w5:List Pe→TS→TS
 | [],S=>S
 | .t x t::l,S=>w5 l (Om x t S)
 | .b n j t::l,S=>w5 l (Ol n j t S)
theorem yE: ∀ (l:List Pe) {S:TS},S.ok→pG S.st (w5 l S).st∧(w5 l S).ok
 | [],S,hS=>⟨pG.refl,hS⟩
 | .t x t::l,S,hS=>by
   obtain⟨h1,h2⟩:=Q0 hS x t
   obtain⟨h3,h4⟩:=yE l h2
   exact⟨h1.trans h3,h4⟩
 | .b n j t::l,S,hS=>by
   obtain⟨h1,h2⟩:=Q1 hS n j t
   obtain⟨h3,h4⟩:=yE l h2
   exact⟨h1.trans h3,h4⟩
section
variable {P:Program} {Θ:pI} {Y:zO} {Λ:pK}
def dn {ρ:Type} (keepN keepX:List Nat) (κ:X→TS→Option ρ) (x:X) (S:TS):Option ρ:=match x with
 | .nor=>Bv keepN S (κ .nor)
 | x=>Bv keepX S (κ x)
def Q2 {σ ε:Type} (G:σ→Option ε) (μ:σ→Nat) (s:σ) (e:ε):Option (σ⊕ε)→Prop
 | some (.inl s')=>μ s' < μ s∧G s'=some e
 | some (.inr e')=>e'=e
 | none=>False
theorem SN (hΘ:eo P Θ) (hY:ax P Y) (hm:P.follows .mixedOrders=true) {c:Code} (hc:lX P c=true) (hL:fb P Λ (eW c)) {σ ε:Type} {H:σ→TS} {E:ε→X×TS} {B:σ→Option (σ⊕ε)} {keepN keepX:List Nat}
  (hH: ∀ s,(H s).ok) (hstep: ∀ s,eL Θ Y Λ c (H s) (dn keepN keepX fun x S=>some (x,S))=(B s).bind (Sum.elim (fun s'=>some (.nor,H s')) fun e=>some (E e)))
  (hE: ∀ e,(E e).1≠ .nor) {G:σ→Option ε} {μ:σ→Nat} (hG: ∀ s e,G s=some e→Q2 G μ s e (B s))
  {s:σ} {e:ε} (hs:G s=some e):q8 P (.loop c) (H s).st (fun x S'=>x=(E e).1∧S'=(E e).2.st):=by
 refine q8.loop (fun n X=> ∃ s,X=(H s).st∧G s=some e∧μ s=n) (fun n X hX=> ?_) (n:=μ s) ⟨s,rfl,hs,rfl⟩
 obtain⟨s,rfl,hs,rfl⟩:=hX
 have hg:=hG s e hs
 have hst:=hstep s
 cases hB:B s with
 | none=>rw [hB] at hg; exact hg.elim
 | some l=>
   rw [hB] at hg hst
   cases l with
   | inl s'=>
     simp only [Option.bind_some,Sum.elim_inl] at hst
     refine (zW hΘ hY hm c _ _ _ hc hL (hH s) hst).mono (fun x S' hx=> ?_)
     obtain⟨S1,rfl,h1,h2⟩:=hx
     have b7: ∃ S2:TS,pG S1.st S2.st∧x= .nor∧S2=H s':=by
      unfold dn at h2
      split at h2
      ·obtain⟨S2,k1,_,k2⟩:=tu h1 h2
       simp only [Option.some.injEq,Prod.mk.injEq] at k2
       exact⟨S2,k1,rfl,k2.2⟩
      ·obtain⟨S2,k1,_,k2⟩:=tu h1 h2
       simp only [Option.some.injEq,Prod.mk.injEq] at k2
       exact⟨S2,k1,k2.1,k2.2⟩
     obtain⟨S2,k1,rfl,rfl⟩:=b7
     exact⟨_,k1,μ s',hg.1,s',rfl,hg.2,rfl⟩
   | inr e'=>
     simp only [Option.bind_some,Sum.elim_inr] at hst
     have hg:e'=e:=hg
     subst hg
     refine (zW hΘ hY hm c _ _ _ hc hL (hH s) hst).mono (fun x S' hx=> ?_)
     obtain⟨S1,rfl,h1,h2⟩:=hx
     have b7: ∃ S2:TS,pG S1.st S2.st∧(x,S2)=E e':=by
      unfold dn at h2
      split at h2
      ·obtain⟨S2,k1,_,k2⟩:=tu h1 h2
       exact⟨S2,k1,Option.some.inj k2⟩
      ·obtain⟨S2,k1,_,k2⟩:=tu h1 h2
       exact⟨S2,k1,Option.some.inj k2⟩
     obtain⟨S2,k1,k2⟩:=b7
     refine⟨S2.st,k1,?_⟩
     have hx:x=(E e').1:=congrArg Prod.fst k2
     have hS2:S2=(E e').2:=congrArg Prod.snd k2
     have hne:=hE e'
     rw [←hx] at hne
     cases x with
     | nor=>exact absurd rfl hne
     | ret=>exact⟨hx,by rw [hS2]⟩
     | ext i=>exact⟨hx,by rw [hS2]⟩
def Q3 (grow:List Pe) (keep:List Nat) (L:eG) {ε:Type} (E:ε→X×TS) (G:L.D→Option ε):TS→(ρ:Type)→(X→TS→Option ρ)→Option ρ:=
 fun S _ κ=>Bv keep (w5 grow S) fun S1=>L.un S1 fun s=>(G s).bind fun e=>κ (E e).1 (E e).2
theorem Q4 {c:Code} {grow:List Pe} {keep:List Nat} {L:eG} {ε:Type} {E:ε→X×TS} {G:L.D→Option ε} (hE: ∀ e,(E e).2.ok)
  (h: ∀ s e,G s=some e→q8 P (.loop c) (L.mk' s).st (fun x S'=>x=(E e).1∧S'=(E e).2.st)) {S:TS} {ρ:Type} {κ:X→TS→Option ρ} {r:ρ} (hS:S.ok) (hk:Q3 grow keep L E G S ρ κ=some r):
  q8 P (.loop c) S.st (fun x S'=> ∃ S1:TS,S'=S1.st∧S1.ok∧κ x S1=some r):=by
 unfold Q3 at hk
 obtain⟨h1,h2⟩:=yE grow hS
 obtain⟨S1,h3,h4,hk⟩:=tu h2 hk
 obtain⟨s,rfl,hk2⟩:=eG.un_some h4 hk
 obtain⟨e,h5,hk3⟩:=Option.bind_eq_some_iff.1 hk2
 refine q8.weak (h1.trans h3) ((h s e h5).mono (fun x S' hx=> ?_))
 obtain⟨rfl,rfl⟩:=hx
 exact⟨_,pG.refl,_,rfl,hE e,hk3⟩
end
end Go.Proofs.YtkcgfceffffmoaaGreat.En
namespace Go.Proofs.YtkcgfceffffmoaaGreat.En
open Go
abbrev rV.D:List Ty→Type
 | [] =>Unit
 | t::l=>t.D×rV.D l
def aI: (l:List Ty)→rV.D l→List ((t:Ty)×t.D)
 | [],_=> []
 | t::l,x=>⟨t,x.1⟩::aI l x.2
def aH (P:Program) (f:FuncId) (e:bF):Prop:= ∀ args ρ κ r,e args ρ κ=some r→ ∃ res out,CE P f args res out∧res.ok (out.map some)∧κ res out=some r
theorem aj (P:Program):ax P (aR []):=fun _ _ _ _ _ h=>by cases h
theorem ae {P:Program} {f:FuncId} {e:bF} {l:List (Nat×bF)} (h:aH P f e) (hl:ax P (aR l)):ax P (aR ((f,e)::l)):=by
 intro g args ρ κ r hr
 have hr: (bif Nat.beq f g then e args ρ κ else TT l g args ρ κ)=some r:=hr
 cases hb:Nat.beq f g with
 | true=>
   rw [hb] at hr
   have:=Nat.eq_of_beq_eq_true hb
   subst this
   exact h args ρ κ r hr
 | false=>
   rw [hb] at hr
   exact hl g args ρ κ r hr
def Nd (as bs:List AV):Prop:=as.length=bs.length∧ ∀ (k:Nat) (a b:AV),as[k]? =some a→bs[k]? =some b→a=b∨(a= .em∧ ∃ s,b= .ro s [])
theorem Nd.refl (as:List AV):Nd as as:=⟨rfl,fun k a b h1 h2=>by rw [h1] at h2; cases h2; exact .inl rfl⟩
theorem Nd.cons {a b:AV} {as bs:List AV} (h:a=b∨(a= .em∧ ∃ s,b= .ro s [])) (hn:Nd as bs):Nd (a::as) (b::bs):=
 ⟨by simp [hn.1],fun k x y h1 h2=>by
  cases k with
  | zero=>simp only [List.getElem?_cons_zero,Option.some.injEq] at h1 h2; subst h1 h2; exact h
  | succ k=>exact hn.2 k x y (by simpa using h1) (by simpa using h2)⟩
theorem Nd.VR {as bs:List AV} (hn:Nd as bs) {w:World} {bt:Bt} {vals:List Value} (h: ∀ (k:Nat) (v:AV) (u:Value),as[k]? =some v→vals[k]? =some u→VR w bt v u) (k:Nat) (v:AV) (u:Value) (hv:bs[k]? =some v) (hu:vals[k]? =some u):VR w bt v u:=by
 have hk:k < as.length:=by rw [hn.1]; exact (List.getElem?_eq_some_iff.1 hv).1
 have ha:=List.getElem?_eq_getElem hk
 have hx:=h k _ u ha hu
 rcases hn.2 k _ v ha hv with e | ⟨e,s,rfl⟩
 ·rw [←e]; exact hx
 ·rw [e] at hx
  cases hx with
  | em b=>exact .ro (.em _ _ _)
theorem sO.norm {P:Program} {f:FuncId} {as bs:List AV} {gs:List T} {res:AV} {out:List T} (hn:Nd as bs) (h:sO P f bs gs res out):sO P f as gs res out:=
 fun w W bt0 vals hI hl hv=>h w W bt0 vals hI (hl.trans hn.1) (hn.VR hv)
theorem nr.norm {P:Program} {f:FuncId} {as bs:List AV} {gs:List T} {m:Nat} {res:AV} {out:List T} (hn:Nd as bs) (h:nr P f bs gs m res out):nr P f as gs m res out:=
 fun w W bt0 vals hI hl hv=>h w W bt0 vals hI (hl.trans hn.1) (hn.VR hv)
theorem un_some {ρ:Type} {t:Ty} {a:V1} {κ:t.D→Option ρ} {r:ρ} (h:un t a κ=some r): ∃ x,a=K0 t x∧κ x=some r:=by
 unfold un at h
 split at h
 ·rename_i cs
  obtain⟨h1,h⟩:=ap h
  split at h
  ·rename_i xs hxs
   split at h
   ·rename_i x hx
    refine⟨x,?_,h⟩
    unfold K0
    rw [h1,t.unflat_some _ _ hx,Bx hxs]
    rfl
   ·cases h
  ·cases h
 ·rename_i y
  cases hag:t.ag with
  | true=>rw [hag] at h; cases h
  | false=>
    rw [hag] at h
    simp only [cond_false] at h
    split at h
    ·rename_i x hx
     refine⟨x,?_,h⟩
     unfold K0
     rw [hag,t.unflat_some _ _ hx]
     rfl
    ·cases h
 ·cases h
theorem T1 (t:Ty) (x:t.D): (K0 t x).ok [] :=by
 unfold K0
 cases t.ag with
 | true=>
   intro c hc
   obtain⟨y,_,rfl⟩:=List.mem_map.1 hc
   trivial
 | false=>
   simp only [cond_false]
   split
   ·rename_i c hc
    have :c∈(t.flat x).map Cl.c:=by rw [hc]; exact List.mem_singleton.2 rfl
    obtain⟨y,_,rfl⟩:=List.mem_map.1 this
    trivial
   ·trivial
theorem Jc (A7 suf:List bO): ∀ (cs:List C) (mid:List bO),∀ c∈va cs (A7.length+mid.length),c.ok ((A7++mid++nu cs++suf).map some)
 | [],mid,c,h=>by cases h
 | .sc v::cs,mid,c,h=>by
   rcases List.mem_cons.1 h with rfl | h
   ·trivial
   ·exact Jc A7 suf cs mid c h
 | .ls t l::cs,mid,c,h=>by
   rcases List.mem_cons.1 h with rfl | h
   ·refine⟨by simp [nu],fun _=>⟨rfl,rfl,fun tr htr=> ?_⟩⟩
    have :c8 ((A7++mid++nu (.ls t l::cs)++suf).map some) (A7.length+mid.length)=some ⟨t,l,none⟩:=by
     unfold c8
     rw [dL,List.getElem?_map,List.append_assoc,List.getElem?_append_right (by simp)]
     simp [nu]
    have htr':c8 ((A7++mid++nu (.ls t l::cs)++suf).map some) (A7.length+mid.length)=some tr:=htr
    rw [this] at htr'
    cases htr'
    rfl
   ·have:=Jc A7 suf cs (mid++ [⟨t,l,none⟩]) c (by rw [List.length_append,←Nat.add_assoc]; exact h)
    simp only [nu]
    simpa using this
theorem SO (t:Ty) (x:t.D) (A7 suf:List bO): (E7 t x A7.length).ok ((A7++nu (t.flat x)++suf).map some):=by
 have b7:=Jc A7 suf (t.flat x) []
 simp only [List.length_nil,Nat.add_zero,List.append_nil] at b7
 unfold E7
 cases t.ag with
 | true=>exact b7
 | false=>
   simp only [cond_false]
   split
   ·rename_i c hc
    exact b7 c (by rw [hc]; exact List.mem_singleton.2 rfl)
   ·trivial
theorem zY: ∀ (l:List ((t:Ty)×t.D)) (A7:List bO),∀ v∈xE A7.length l,v.ok ((A7++xF l).map some)
 | [],A7,v,h=>by cases h
 | ⟨t,x⟩::l,A7,v,h=>by
   rcases List.mem_cons.1 h with rfl | h
   ·have:=SO t x A7 (xF l)
    simpa [xF] using this
   ·have:=zY l (A7++nu (t.flat x)) v (by rw [List.length_append]; exact h)
    simpa [xF] using this
theorem Q5 (l:List ((t:Ty)×t.D)): (xg (xE 0 l)).ok ((xF l).map some):=by
 have h:=zY l []
 simp only [List.length_nil,List.nil_append] at h
 match xE 0 l,h with
 | [],_=>exact fun x hx=>by cases hx
 | [v],h=>exact h v List.mem_cons_self
 | v::u::vs,h=>exact h
end Go.Proofs.YtkcgfceffffmoaaGreat.En
namespace Go.Proofs.YtkcgfceffffmoaaGreat.En
open Go
def Sh.fit (n:Nat):Sh→Bool | .own r _=>Nat.blt r n | .sub r _=>Nat.blt r n | _=>true
def A6.fit (n:Nat):A6→Bool | .cl s=>s.fit n | .agg l=>l.all (Sh.fit n) | .st _=>true | .fn _ l=>l.all (Sh.fit n)
def eG.fit (L:eG):Bool:=L.env.all (fun x=>x.2.fit L.gh.length)&&L.bx.all (fun l=>l.all (Sh.fit L.gh.length))
theorem sU.mk_length: ∀ (l:List Ty) (d:sU.D l),(sU.mk l d).length=l.length
 | [],_=>rfl
 | t::l,d=>by simp [sU.mk,sU.mk_length l d.2]
theorem Sh.mk_ok {G:List (Option bO)} {s:Sh} (h:s.fit G.length=true) (x:s.D): (s.mk G x).ok G:=by
 cases s with
 | own r t=>
   refine⟨Nat.le_of_ble_eq_true h,fun _=>⟨rfl,rfl,fun tr htr=> ?_⟩⟩
   unfold c8 at htr
   unfold TZ
   have htr': (pJ G r).getD none=some tr:=htr
   cases hn:pJ G r with
   | none=>rw [hn] at htr'; cases htr'
   | some y=>rw [hn] at htr'; simp only [Option.getD_some] at htr'; subst htr'; rfl
 | sub r t=>exact⟨Nat.le_of_ble_eq_true h,fun e=>by cases e⟩
 | _=>trivial
theorem w4.mk_ok {G:List (Option bO)}: ∀ {l:List Sh},l.all (Sh.fit G.length)=true→ ∀ (x:w4.D l),∀ c∈w4.mk G l x,c.ok G
 | [],_,x,c,hc=>by cases hc
 | s::l,h,x,c,hc=>by
   simp only [List.all_cons,Bool.and_eq_true] at h
   rcases List.mem_cons.1 hc with rfl | hc
   ·exact Sh.mk_ok h.1 x.1
   ·exact w4.mk_ok h.2 x.2 c hc
theorem A6.mk_ok {G:List (Option bO)} {v:A6} (h:v.fit G.length=true) (x:v.D): (v.mk G x).ok G:=by
 cases v with
 | cl s=>exact Sh.mk_ok h x
 | agg l=>exact w4.mk_ok h x
 | st n=>
   intro c hc
   obtain⟨y,_,rfl⟩:=List.mem_map.1 hc
   trivial
 | fn f l=>exact w4.mk_ok h x
theorem eG.mk'_ok {L:eG} (h:L.fit=true) (d:L.D): (L.mk' d).ok:=by
 unfold eG.fit at h
 simp only [Bool.and_eq_true] at h
 have hlen: (sU.mk L.gh d.2.2).length=L.gh.length:=sU.mk_length _ _
 rw [←hlen] at h
 have env: ∀ {l:List (Nat×A6)},l.all (fun x=>x.2.fit (sU.mk L.gh d.2.2).length)=true→ ∀ (e:GW.D l),∀ x∈GW.mk (sU.mk L.gh d.2.2) l e,x.2.ok (sU.mk L.gh d.2.2):=by
  intro l
  induction l with
  | nil=>intro _ e x hx; cases hx
  | cons y l ih=>
    intro h e x hx
    simp only [List.all_cons,Bool.and_eq_true] at h
    rcases List.mem_cons.1 hx with rfl | hx
    ·exact A6.mk_ok h.1 e.1
    ·exact ih h.2 e.2 x hx
 have bxs: ∀ {l:List (List Sh)},l.all (fun l=>l.all (Sh.fit (sU.mk L.gh d.2.2).length))=true→ ∀ (e:GX.D l),∀ cs∈GX.mk (sU.mk L.gh d.2.2) l e,∀ c∈cs,c.ok (sU.mk L.gh d.2.2):=by
  intro l
  induction l with
  | nil=>intro _ e x hx; cases hx
  | cons y l ih=>
    intro h e x hx
    simp only [List.all_cons,Bool.and_eq_true] at h
    rcases List.mem_cons.1 hx with rfl | hx
    ·exact w4.mk_ok h.1 e.1
    ·exact ih h.2 e.2 x hx
 exact⟨env h.1 d.1,bxs h.2 d.2.1⟩
abbrev bu.D:List (X×eG)→Type
 | [] =>Empty
 | [x] =>x.2.D
 | x::y::l=>x.2.D⊕bu.D (y::l)
def bu.k {R:Type}: (l:List (X×eG))→bu.D l→(X→TS→R)→R
 | [],e,_=>e.elim
 | [x],d,κ=>κ x.1 (x.2.mk' d)
 | x::y::l,e,κ=>Sum.elim (fun d=>κ x.1 (x.2.mk' d)) (fun e=>bu.k (y::l) e κ) e
def bu.e (l:List (X×eG)) (d:bu.D l):X×TS:=bu.k l d Prod.mk
theorem bu.k_eq {R:Type}: ∀ (l:List (X×eG)) (d:bu.D l) (κ:X→TS→R),bu.k l d κ=κ (bu.e l d).1 (bu.e l d).2
 | [],e,_=>e.elim
 | [_],_,_=>rfl
 | _::_::_, .inl _,_=>rfl
 | _::y::l, .inr e,κ=>bu.k_eq (y::l) e κ
def Vo (x:X×eG):Bool:=(match x.1 with | .nor=>false | _=>true)&&x.2.fit
theorem bu.ok: ∀ (l:List (X×eG)) (d:bu.D l),l.all Vo=true→(bu.e l d).1≠ .nor∧(bu.e l d).2.ok
 | [],e,_=>e.elim
 | [x],d,h=>by
   simp only [List.all_cons,Bool.and_eq_true,Vo] at h
   refine⟨fun e=> ?_,eG.mk'_ok h.1.2 d⟩
   have e:x.1= .nor:=e
   rw [e] at h
   cases h.1.1
 | x::_::_, .inl d,h=>by
   simp only [List.all_cons,Bool.and_eq_true,Vo] at h
   refine⟨fun e=> ?_,eG.mk'_ok h.1.2 d⟩
   have e:x.1= .nor:=e
   rw [e] at h
   cases h.1.1
 | _::y::l, .inr e,h=>bu.ok (y::l) e (by
   simp only [List.all_cons,Bool.and_eq_true] at h ⊢
   exact h.2)
def dy (grow:List Pe) (keep:List Nat) (L:eG) (exs:List (X×eG)) (G:L.D→Option (bu.D exs)):TS→(ρ:Type)→(X→TS→Option ρ)→Option ρ:=
 fun S _ κ=>Bv keep (w5 grow S) fun S1=>L.un S1 fun s=>(G s).bind fun e=>bu.k exs e κ
abbrev dp:=TS→(ρ:Type)→(X→TS→Option ρ)→Option ρ
def aU:List (Nat×dp)→pK
 | [],_,_,_,_=>none
 | (q,e)::l,n,S,ρ,κ=>bif Nat.beq q n then e S ρ κ else aU l n S ρ κ
section
variable {P:Program} {Θ:pI} {Y:zO} {Λ:pK}
def cf (P:Program) (c:Code) (e:dp):Prop:= ∀ (S:TS) (ρ:Type) (κ:X→TS→Option ρ) (r:ρ),S.ok→e S ρ κ=some r→q8 P (.loop c) S.st (fun x S'=> ∃ S1:TS,S'=S1.st∧S1.ok∧κ x S1=some r)
theorem ah:fb P Λ [] :=fun c hc=>by cases hc
theorem aO {l:List (Nat×dp)} {c:Code} {q:Nat} {e:dp} (hq:b7 c=q) (h:cf P c e) (hl: ∀ (S:TS) (ρ:Type) (κ:X→TS→Option ρ),aU l q S ρ κ=e S ρ κ):fb P (aU l) [c] :=by
 intro c' hc' S ρ κ r hS hr
 rw [List.mem_singleton] at hc'
 subst hc'
 rw [hq,hl] at hr
 exact h S ρ κ r hS hr
theorem Pf {a b:List Code} (ha:fb P Λ a) (hb:fb P Λ b):fb P Λ (a++b):=fun c hc=>by
 rcases List.mem_append.1 hc with h | h
 ·exact ha c h
 ·exact hb c h
theorem bc (hΘ:eo P Θ) (hY:ax P Y) (hm:P.follows .mixedOrders=true) {c:Code} (hc:lX P c=true) (hL:fb P Λ (eW c)) (grow:List Pe) (keep keepX:List Nat) (L:eG) (exs:List (X×eG)) (hf: (L.fit&&exs.all Vo)=true)
  (B:L.D→Option (L.D⊕bu.D exs)) (hB: ∀ s,eL Θ Y Λ c (L.mk' s) (dn keep keepX fun x S=>some (x,S))=(B s).bind (Sum.elim (fun s'=>some (.nor,L.mk' s')) fun e=>some (bu.e exs e)))
  (G:L.D→Option (bu.D exs)) (μ:L.D→Nat) (hG: ∀ s e,G s=some e→Q2 G μ s e (B s)):cf P c (dy grow keep L exs G):=by
 simp only [Bool.and_eq_true] at hf
 intro S ρ κ r hS hk
 refine Q4 (E:=bu.e exs) (fun e=>(bu.ok exs e hf.2).2) (fun s e hs=>SN hΘ hY hm hc hL (fun s=>eG.mk'_ok hf.1 s) hB (fun e=>(bu.ok exs e hf.2).1) hG hs) hS ?_ (grow:=grow) (keep:=keep)
 rw [←hk]
 unfold Q3 dy
 simp only [bu.k_eq]
end
end Go.Proofs.YtkcgfceffffmoaaGreat.En
namespace Go.Proofs.YtkcgfceffffmoaaGreat.En
open Go
def SP (P:Program) (e:TypeId→List Value→Bool):List Field→Nat→List Value→Bool
 | [],_,[] =>true
 | [],_,_::_=>false
 | f::fs,off,zs=>f.name != "_" &&Nat.beq f.offset off&&Nat.blt 0 (P.cellsOf f.type)&&Nat.ble (P.cellsOf f.type) zs.length&&(P.info? f.type).isSome&&e f.type (zs.take (P.cellsOf f.type))&&SP P e fs (off+P.cellsOf f.type) (zs.drop (P.cellsOf f.type))
def Lm (P:Program):Nat→TypeId→List Value→Bool
 | 0,_,_=>false
 | n+1,t,zs=>match P.underlying t with
   | some .bool=>(match zs with | [.bool _] =>true | _=>false)
   | some (.int _)=>(match zs with | [.int _ _] =>true | _=>false)
   | some (.struct fs)=> !P.stoodInHeld t&&SP P (Lm P n) fs.toList 0 zs
   | _=>false
def GY (P:Program) (t:TypeId) (xs:List Value):Value:=match P.underlying t with
 | some (.struct _)=> .agg xs.toArray
 | _=>xs.headD (.bool false)
def lI:List Value→List Value→Bool
 | [],[] =>true
 | .int k _::zs, .int k' _::cs=>bif decide (k=k') then lI zs cs else false
 | .bool _::zs, .bool _::cs=>lI zs cs
 | _,_=>false
def l5:List Value→List Value→Option Bool
 | [],[] =>some true
 | a::l,b::m=>match KU a b,l5 l m with
   | some x,some y=>some (x&&y)
   | _,_=>none
 | _,_=>none
theorem Fn: ∀ {zs xs:List Value},lN zs (xs.map fun x=> .c (.sc x))=true→lI zs xs=true:=by
 intro zs
 induction zs with
 | nil=>intro xs h; cases xs with
   | nil=>rfl
   | cons=>simp [lN] at h
 | cons z zs ih=>
   intro xs h
   cases xs with
   | nil=>cases z <;> simp [lN] at h
   | cons x xs=>
     cases z <;> cases x <;> simp only [List.map_cons,lN,lI,cond_eq_ite,Bool.false_eq_true] at h ⊢
     ·exact ih h
     ·split at h
      ·rename_i hk
       rw [if_pos hk]
       exact ih h
      ·cases h
theorem Pg: ∀ {xs ys:List Value},wR (xs.map fun x=> .c (.sc x)) (ys.map fun x=> .c (.sc x))=l5 xs ys:=by
 intro xs
 induction xs with
 | nil=>intro ys; cases ys <;> rfl
 | cons x xs ih=>
   intro ys
   cases ys with
   | nil=>rfl
   | cons y ys=>
     simp only [List.map_cons,wR,l5,ih]
     cases KU x y <;> cases l5 xs ys <;> rfl
theorem qP: ∀ {zs xs:List Value},lI zs xs=true→xs.length=zs.length:=by
 intro zs
 induction zs with
 | nil=>intro xs h; cases xs with
   | nil=>rfl
   | cons=>simp [lI] at h
 | cons z zs ih=>
   intro xs h
   cases xs with
   | nil=>cases z <;> simp [lI] at h
   | cons x xs=>
     cases z <;> cases x <;> simp only [lI,cond_eq_ite,Bool.false_eq_true] at h
     ·simp [ih h]
     ·split at h
      ·simp [ih h]
      ·cases h
theorem uo: ∀ {zs xs:List Value} (n:Nat),lI zs xs=true→lI (zs.take n) (xs.take n)=true∧lI (zs.drop n) (xs.drop n)=true:=by
 intro zs
 induction zs with
 | nil=>intro xs n h; cases xs with
   | nil=>simp [lI]
   | cons=>simp [lI] at h
 | cons z zs ih=>
   intro xs n h
   cases xs with
   | nil=>cases z <;> simp [lI] at h
   | cons x xs=>
     cases n with
     | zero=>exact⟨rfl,h⟩
     | succ n=>
       cases z <;> cases x <;> simp only [lI,cond_eq_ite,Bool.false_eq_true] at h
       ·exact ih n h
       ·split at h
        ·rename_i hk
         refine⟨?_,(ih n h).2⟩
         simp only [List.take_succ_cons,lI,cond_eq_ite]
         rw [if_pos (by simpa using hk)]
         exact (ih n h).1
        ·cases h
theorem Jd: ∀ {xs ys:List Value} (n:Nat) {r:Bool},l5 xs ys=some r→ ∃ a b,l5 (xs.take n) (ys.take n)=some a∧l5 (xs.drop n) (ys.drop n)=some b∧r=(a&&b):=by
 intro xs
 induction xs with
 | nil=>intro ys n r h; cases ys with
   | nil=>cases h; exact⟨true,true,by simp [l5],by simp [l5],rfl⟩
   | cons=>simp [l5] at h
 | cons x xs ih=>
   intro ys n r h
   cases ys with
   | nil=>simp [l5] at h
   | cons y ys=>
     cases n with
     | zero=>exact⟨true,r,rfl,h,rfl⟩
     | succ n=>
       simp only [l5] at h
       split at h
       ·rename_i p q hp hq
        cases h
        obtain⟨a,b,h1,h2,rfl⟩:=ih n hq
        exact⟨p&&a,b,by simp [l5,hp,h1],h2,by cases p <;> rfl⟩
       ·cases h
theorem Je {P:Program} {t:TypeId} {i:TypeInfo} (h:P.info? t=some i):bG P (typeInfo t)=some i:=by
 simp only [typeInfo,bm,program,bG,Option.bind_some,h]
 rfl
theorem Ln {P:Program} {t:TypeId} {i:TypeInfo} (hi:P.info? t=some i) {d:TypeDesc} (hd:P.underlying t=some d) (hs: ∀ n e,d≠ .array n e) {xs:List Value} {off:Nat} {c:Value} (hc:xs[off]? =some c):
  bG P (part t xs.toArray off)=some (GY P t ((xs.drop off).take (P.cellsOf t)))∨P.cellsOf t=0:=by
 by_cases h0:P.cellsOf t=0
 ·exact .inr h0
 refine .inl ?_
 have hcell:P.cellsOf t=i.size:=by simp [Program.cellsOf,hi]
 cases hst: (match d with | .struct _=>true | _=>false) with
 | true=>
   have hag:bG P (isAgg t)=some true:=by
    simp only [isAgg,bm,du hd,Option.bind_some]
    cases d <;> simp at hst
    rfl
   simp only [part,sizeOf,bm,hag,Option.bind_some,if_true,Je hi,b8,GY,hd]
   cases d <;> simp at hst
   simp [hcell,Nat.add_sub_cancel_left]
 | false=>
   have hag:bG P (isAgg t)=some false:=by
    simp only [isAgg,bm,du hd,Option.bind_some]
    cases d <;> simp at hst
    all_goals first | rfl | exact absurd rfl (hs _ _)
   have hv:GY P t ((xs.drop off).take (P.cellsOf t))=c:=by
    have : ((xs.drop off).take (P.cellsOf t)).headD (.bool false)=c:=by
     obtain⟨n,hn⟩: ∃ n,P.cellsOf t=n+1:=⟨P.cellsOf t - 1,by omega⟩
     have h1:off < xs.length:=(List.getElem?_eq_some_iff.1 hc).1
     rw [hn,List.drop_eq_getElem_cons h1,List.take_succ_cons]
     exact (List.getElem?_eq_some_iff.1 hc).2
    unfold GY
    rw [hd]
    cases d <;> first | exact this | simp at hst
   rw [hv]
   simp only [part,bm,hag,Option.bind_some,Bool.false_eq_true,if_false]
   have :xs.toArray[off]? =some c:=by simpa using hc
   rw [this]
   rfl
theorem Oo (P:Program): ∀ (n:Nat) {t:TypeId} {zs xs ys:List Value} {r:Bool} (d:Nat),Lm P n t zs=true→lI zs xs=true→lI zs ys=true→l5 xs ys=some r→bG P (Op.equalIn (n+d) t (GY P t xs) (GY P t ys))=some r
 | 0,t,zs,xs,ys,r,d,h,_,_,_=>by cases h
 | n+1,t,zs,xs,ys,r,d,h,hx,hy,he=>by
   have hn:n+1+d=(n+d)+1:=by omega
   rw [hn]
   unfold Lm at h
   cases hu:P.underlying t with
   | none=>rw [hu] at h; cases h
   | some D=>
     rw [hu] at h
     cases D <;> simp only [Bool.false_eq_true] at h
     case bool=>
      split at h
      case h_2=>cases h
      obtain⟨x,rfl⟩: ∃ x,xs= [.bool x] :=by
       match xs,hx with
       | [.bool x],_=>exact⟨x,rfl⟩
      obtain⟨y,rfl⟩: ∃ y,ys= [.bool y] :=by
       match ys,hy with
       | [.bool y],_=>exact⟨y,rfl⟩
      simp only [l5,KU,Bool.and_true,Option.some.injEq] at he
      subst he
      simp only [GY,hu,List.headD_cons]
      rw [Op.equalIn]
      simp only [bm,du hu,Option.bind_some,b8]
     case int k=>
      split at h
      case h_2=>cases h
      rename_i k0 _
      obtain⟨x,rfl⟩: ∃ x,xs= [.int k0 x] :=by
       match xs,hx with
       | [.int k1 x],hx=>
         simp only [lI,cond_eq_ite] at hx
         split at hx
         ·rename_i hk; simp at hk; subst hk; exact⟨x,rfl⟩
         ·cases hx
       | .int _ _::_::_,hx=>simp [lI] at hx
      obtain⟨y,rfl⟩: ∃ y,ys= [.int k0 y] :=by
       match ys,hy with
       | [.int k1 x],hx=>
         simp only [lI,cond_eq_ite] at hx
         split at hx
         ·rename_i hk; simp at hk; subst hk; exact⟨x,rfl⟩
         ·cases hx
       | .int _ _::_::_,hx=>simp [lI] at hx
      simp only [l5,KU,Bool.and_true,Option.some.injEq] at he
      subst he
      simp only [GY,hu,List.headD_cons]
      rw [Op.equalIn]
      simp only [bm,du hu,Option.bind_some,b8,if_true]
     case struct fs=>
      simp only [Bool.and_eq_true,Bool.not_eq_true'] at h
      obtain⟨hst,h⟩:=h
      simp only [GY,hu]
      have b7: ∀ (fs:List Field) (off:Nat) (zs:List Value) (r:Bool),SP P (Lm P n) fs off zs=true→lI zs (xs.drop off)=true→lI zs (ys.drop off)=true→l5 (xs.drop off) (ys.drop off)=some r→
        bG P (Op.eqFields (n+d) xs.toArray ys.toArray fs)=some r:=by
       intro fs
       induction fs with
       | nil=>
         intro off zs r h hx hy he
         cases zs with
         | nil=>
           have h1:=qP hx
           have h2:=qP hy
           simp only [List.length_nil,List.length_eq_zero_iff] at h1 h2
           rw [h1,h2] at he
           cases he
           rfl
         | cons=>cases h
       | cons f fs ih=>
         intro off zs r h hx hy he
         simp only [SP,Bool.and_eq_true,bne_iff_ne,ne_eq] at h
         obtain⟨⟨⟨⟨⟨⟨hname,hoff⟩,hpos⟩,hle⟩,hi⟩,h1⟩,h2⟩:=h
         have hoff:=Nat.eq_of_beq_eq_true hoff
         have hpos:0 < P.cellsOf f.type:=Nat.le_of_ble_eq_true hpos
         have hle:P.cellsOf f.type≤zs.length:=Nat.le_of_ble_eq_true hle
         have hlx:=qP hx
         have hly:=qP hy
         rw [List.length_drop] at hlx hly
         obtain⟨i,hi⟩:=Option.isSome_iff_exists.1 hi
         have hu': ∃ D,P.underlying f.type=some D∧ ∀ n e,D≠ .array n e:=by
          cases hun:P.underlying f.type with
          | none=>cases n <;> simp [Lm,hun] at h1
          | some D=>refine⟨D,rfl,fun k e he=> ?_⟩; subst he; cases n <;> simp [Lm,hun] at h1
         obtain⟨D,hD,hDa⟩:=hu'
         have px:=Ln hi hD hDa (xs:=xs) (off:=off) (List.getElem?_eq_getElem (by omega))
         have py:=Ln hi hD hDa (xs:=ys) (off:=off) (List.getElem?_eq_getElem (by omega))
         have px:=px.resolve_right (by omega)
         have py:=py.resolve_right (by omega)
         obtain⟨a,b,ha,hb,rfl⟩:=Jd (P.cellsOf f.type) he
         have hA:=Oo P n d h1 (uo _ hx).1 (uo _ hy).1 ha
         rw [Op.eqFields,if_pos hname]
         simp only [hoff,bm,px,py,Option.bind_some,hA]
         cases a with
         | false=>rfl
         | true=>
           simp only [Bool.not_true,Bool.false_eq_true,if_false,Bool.true_and]
           simp only [List.drop_drop] at hb
           refine ih _ _ _ h2 ?_ ?_ hb
           ·have:=(uo (P.cellsOf f.type) hx).2; rw [List.drop_drop] at this; exact this
           ·have:=(uo (P.cellsOf f.type) hy).2; rw [List.drop_drop] at this; exact this
      have:=b7 fs.toList 0 zs r h (by simpa using hx) (by simpa using hy) (by simpa using he)
      rw [←this]
      rw [Op.equalIn]
      simp only [bm,du hu,Option.bind_some,program,bG,hst,Bool.false_eq_true,if_false]
      rw [←Array.forIn_toList]
      generalize fs.toList=fs
      clear this b7 h hu hst hn
      induction fs with
      | nil=>rfl
      | cons f fs ih=>
        simp only [List.forIn_cons,Op.eqFields]
        split
        ·simp only [bm]
         cases bG P (part f.type xs.toArray f.offset) with
         | none=>rfl
         | some a=>
           cases bG P (part f.type ys.toArray f.offset) with
           | none=>rfl
           | some b=>
             simp only [Option.bind_some]
             cases bG P (Op.equalIn (n+d) f.type a b) with
             | none=>rfl
             | some q=>
               cases q
               ·rfl
               ·simp only [Option.bind_some,Bool.not_true,Bool.false_eq_true,if_false,b8]
                simpa only [bm,Option.bind_assoc] using ih
        ·simp only [bm,b8,Option.bind_some]
         simpa only [bm,Option.bind_assoc] using ih
theorem US {P:Program} {t:TypeId} {zs:List Value} {fs:Array Field} (hu:P.underlying t=some (.struct fs)) (h:Lm P 8 t zs=true) (a b:List Cl) (r:Bool) (xs ys:List Value) (ha:lN zs a=true) (hb:lN zs b=true) (he:wR a b=some r) (hx:a=xs.map (fun x=> .c (.sc x))) (hy:b=ys.map (fun x=> .c (.sc x))):
  bG P (Op.equal t (.agg xs.toArray) (.agg ys.toArray))=some r:=by
 subst hx hy
 have:=Oo P 8 9992 h (Fn ha) (Fn hb) (by rw [←Pg]; exact he)
 unfold GY at this
 rw [hu] at this
 exact this
end Go.Proofs.YtkcgfceffffmoaaGreat.En
namespace Go.Proofs.YtkcgfceffffmoaaGreat.En
open Go
def Vp (P:Program):List Field→Option (List (Nat×Nat×Bool))
 | [] =>some []
 | f::fs=>match GH P f.type,Vp P fs with
   | some ag,some l=>some ((f.offset,P.cellsOf f.type,ag)::l)
   | _,_=>none
def VA (P:Program) (t:TypeId):Option (List (Nat×Nat×Bool)):=match P.underlying t with | some (.struct fs)=>Vp P fs.toList | _=>none
theorem Oq {P:Program}: ∀ {fs:List Field} {l:List (Nat×Nat×Bool)},Vp P fs=some l→ ∀ k,(fs[k]?).bind (fun f=>(GH P f.type).map fun ag=>(f.offset,P.cellsOf f.type,ag))=pJ l k
 | [],l,h,k=>by cases h; rfl
 | f::fs,l,h,k=>by
   unfold Vp at h
   split at h
   ·rename_i ag l' h1 h2
    cases h
    cases k with
    | zero=>simp [h1,pJ]
    | succ k=>
      show _=pJ l' (k+1 - 1)
      rw [Nat.add_sub_cancel,←Oq h2 k,List.getElem?_cons_succ]
   ·cases h
theorem SQ {P:Program} {t:TypeId} {l:List (Nat×Nat×Bool)} (h:VA P t=some l) (k:Nat):PS P t k=pJ l k:=by
 unfold VA at h
 unfold PS
 split at h
 ·rename_i fs hu
  simp only [hu]
  rw [←Oq h k,Array.getElem?_toList]
 ·cases h
theorem SR (P:Program):eo P [] :=fun _ _ h=>by cases h
theorem bB {P:Program} {t:Nat} {ti:TI} {l:pI} (h:ti.ok P t) (hl:eo P l):eo P ((t,ti)::l):=by
 intro u ui hu
 unfold ns at hu
 cases hb:Nat.beq t u with
 | true=>
   rw [hb] at hu
   have:=Nat.eq_of_beq_eq_true hb
   subst this
   cases hu
   exact h
 | false=>
   rw [hb] at hu
   exact hl u ui hu
def UT (P:Program) (t:TypeId):Bool:=match P.underlying t with | some (.struct _)=>true | _=>false
section
variable {P:Program} {t:TypeId}
theorem oG {n:Sn} {fds:List (Nat×Nat×Bool)} {by':Nat} (h1:UT P t=true) (h2:P.cellsOf t=(Ty.st n).width) (h3:pF P 9 t=(Ty.st n).shs) (h4:A5 P t=some (Ty.st n).zvs) (h5:VA P t=some fds)
  (h6:UC P t=some (fds.map fun x=>(x.1,x.2.1))) (h7: ((Ty.st n).flatB=true→P.eqGuardType P.depth t=false∧Lm P 8 t (Ty.st n).zvs=true)) (hz: (Ty.st n).flatB=false→ ∀ xs:List Value,lN (Ty.st n).zvs (xs.map fun x=> .c (.sc x))=false):TI.ok P t ⟨.st n,0,fds,by'⟩:=by
 unfold UT at h1
 split at h1
 case h_2=>cases h1
 rename_i fs hu
 refine⟨?_,h2,h3,h4,SQ h5,fun _=>h6,fun e he=>(by cases he),fun hb=>(by cases hb),fun _ hf=>(h7 hf).1,fun _ a b r xs ys ha hb he hx hy=> ?_,?_,fun k hk=>(by cases hk)⟩
 ·simp [GH,hu,Ty.ag]
 ·cases hf: (Ty.st n).flatB with
  | true=>exact US hu (h7 hf).2 a b r xs ys ha hb he hx hy
  | false=>
    subst hx
    have:=hz hf xs
    rw [show lN (Ty.st n).zvs _=true from ha] at this
    cases this
 ·simp [Iw,hu]
theorem uL {e:Ty} {el:Nat} {by':Nat} {u:TypeId} (h1:xf P t=some u) (h2:P.cellsOf t=1) (h4:A5 P t=some [.slice none 0 0]) (h5:P.cellsOf u=e.width) (h6:P.bytesOf u=el) (h7:Nat.blt 0 el=true) (h8:pF P 9 u=e.shs) (h9:A5 P u=some e.zvs):TI.ok P t ⟨.ls e,el,[],by'⟩:=by
 have hu:P.underlying t=some (.slice u):=by
  unfold xf at h1
  split at h1
  ·rename_i e hu; cases h1; exact hu
  ·cases h1
 refine⟨?_,h2,?_,h4,fun k=> ?_,fun h=>(by cases h),fun e' he=> ?_,fun hb=>(by cases hb),fun h=>(by cases h),fun h=>(by cases h),?_,fun k hk=>(by cases hk)⟩
 ·simp [GH,hu,Ty.ag]
 ·simp [pF,hu,Ty.shs,Ty.csh,h5]
 ·simp [PS,hu,pJ]
 ·cases he
  exact⟨u,h1,h5,h6,Nat.le_of_ble_eq_true h7,h8,h9⟩
 ·simp [Iw,hu]
def VN (P:Program) (t:TypeId) (y:Ty):Bool:=match P.underlying t,y with
 | some (.int k), .i k'=>decide (k=k')
 | some .bool, .b=>true
 | some .string, .s=>true
 | _,_=>false
theorem xG {y:Ty} {by':Nat} (h1:VN P t y=true) (h2:P.cellsOf t=1) (h4:A5 P t=some y.zvs):TI.ok P t ⟨y,0,[],by'⟩:=by
 unfold VN at h1
 split at h1
 ·rename_i k k' hu
  refine⟨(by simp [GH,hu,Ty.ag]),h2,(by simp [pF,hu,Ty.shs,Ty.csh]),h4,fun k=>(by simp [PS,hu,pJ]),fun h=>(by cases h),fun e' he=>(by cases he),fun hb=>(by cases hb),fun h=>(by cases h),fun h=>(by cases h),by simp [Iw,hu],fun q hq=>(by cases hq; rw [hu]; simp only [decide_eq_true_eq] at h1; rw [h1])⟩
 ·rename_i hu
  refine⟨(by simp [GH,hu,Ty.ag]),h2,(by simp [pF,hu,Ty.shs,Ty.csh]),h4,fun k=>(by simp [PS,hu,pJ]),fun h=>(by cases h),fun e' he=>(by cases he),fun hb=>hu,fun h=>(by cases h),fun h=>(by cases h),by simp [Iw,hu],fun q hq=>(by cases hq)⟩
 ·rename_i hu
  refine⟨(by simp [GH,hu,Ty.ag]),h2,(by simp [pF,hu,Ty.shs,Ty.csh]),h4,fun k=>(by simp [PS,hu,pJ]),fun h=>(by cases h),fun e' he=>(by cases he),fun hb=>(by cases hb),fun h=>(by cases h),fun h=>(by cases h),by simp [Iw,hu],fun q hq=>(by cases hq)⟩
 ·cases h1
end
theorem iK: ∀ {zs:List Value} (xs:List Value),zs.any (fun z=>match z with | .int _ _=>false | .bool _=>false | _=>true)=true→lN zs (xs.map fun x=> .c (.sc x))=false
 | [],xs,h=>by cases h
 | z::zs,xs,h=>by
   cases hb:lN (z::zs) (xs.map fun x=> .c (.sc x)) with
   | false=>rfl
   | true=>
     exfalso
     cases xs with
     | nil=>cases z <;> simp [lN] at hb
     | cons x xs=>
       cases z <;> simp only [lN,List.map_cons,Bool.false_eq_true] at hb
       all_goals cases x <;> simp only [lN,cond_eq_ite,Bool.false_eq_true] at hb
       ·rw [iK xs (by simpa using h)] at hb; cases hb
       ·split at hb
        ·rw [iK xs (by simpa using h)] at hb; cases hb
        ·cases hb
end Go.Proofs.YtkcgfceffffmoaaGreat.En
