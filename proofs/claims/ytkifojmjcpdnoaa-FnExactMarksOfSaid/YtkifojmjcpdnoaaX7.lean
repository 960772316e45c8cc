import Derived.Test.YtkifojmjcpdnoaaX6
/- The typed evaluator, part 14: regions. -/
namespace Go.Proofs.Ytkifojmjcpdnoaa.En
open Go

section
variable {ρ : Type} {P : Program} {Θ : Tys} {S : TS} {Y : Tab}
theorem wantK_ok (hS : S.ok) {ops : Array Oper} {o : Oper} {κ : Bool → TS → Option ρ} {r : ρ} (h : wantK S ops.toList o κ = some r) : ∃ b S1, wants S.st ops o = some b ∧ S1.st = S.st ∧ S1.ok ∧ S1.gh = S.gh ∧ κ b S1 = some r := by
  unfold wantK at h
  split at h
  · rename_i hg
    exact ⟨true, S, by unfold wants; rw [hg], rfl, hS, rfl, h⟩
  · rename_i j want hg
    split at h
    · rename_i oj hj
      split at h
      · rename_i d hd
        rw [nth_eq, Array.getElem?_toList] at hj
        split at h
        · rename_i he
          refine ⟨_, S, ?_, rfl, hS, rfl, h⟩
          unfold wants
          rw [hg]
          simp only [hj, Option.bind_some, hd]
          have : S.st.env d = .tup [] := by show (getV S.env d).av = _; rw [he]; rfl
          rw [this]
        · obtain ⟨b, S1, h1, h2, h3, h4, h5⟩ := boolK_ok hS h
          refine ⟨_, S1, ?_, h2, h3, h4, h5⟩
          unfold wants
          rw [hg]
          simp only [hj, Option.bind_some, hd]
          have : S.st.env d = .sc (.bool b) := h1
          rw [this]
      · cases h
    · cases h
theorem putK_ok (hS : S.ok) {d : Option Tmp} {v : V} (hv : v.ok S.gh) {κ : TS → Option ρ} {r : ρ} (h : putK S d v κ = some r) : ∃ S1, S.st.put d v.av = some (TS.st S1) ∧ S1.ok ∧ S1.gh = S.gh ∧ κ S1 = some r := by
  unfold putK at h
  split at h
  · rename_i t
    obtain ⟨h1, h⟩ := bif_some h
    have h1 : t < S.nt := Nat.le_of_ble_eq_true h1
    refine ⟨{ S with env := (t, v) :: S.env }, ?_, ⟨fun x hx => ?_, hS.bx⟩, rfl, h⟩
    · simp only [St.put]
      rw [if_pos (show t < S.st.nt from h1)]
      congr 1
      unfold TS.st
      congr 1
      funext u
      unfold upd
      simp only [getV]
      cases hb : Nat.beq t u with
      | true =>
        have : t = u := Nat.eq_of_beq_eq_true hb
        subst this
        simp
      | false =>
        have : ¬ u = t := by intro e; subst e; rw [Nat.beq_refl] at hb; cases hb
        rw [if_neg this]
        rfl
    · rcases List.mem_cons.1 hx with rfl | hx
      · exact hv
      · exact hS.env x hx
  · exact ⟨S, rfl, hS, rfl, h⟩
theorem amb_some {α : Type} {x y : Option α} {r : α} (h : amb x y none = some r) : x = some r ∧ y = some r := by
  unfold amb at h
  split at h
  · rename_i e
    exact ⟨h, by rw [← e]; exact h⟩
  · cases h
theorem amb_same {α : Type} (x z : α) : amb x x z = x := by unfold amb; rw [if_pos rfl]
theorem nilTest_some {o : Oper} {t : TypeId} {x : Operand} (h : nilTest o = some (t, x)) : (∃ t', o.op = .binOp .eql t x (.const (.slice none 0 0)) t') ∧ o.guard = none := by
  unfold nilTest at h
  split at h
  · rename_i t1 x1 t' ho
    split at h
    · rename_i hg
      simp only [Option.some.injEq, Prod.mk.injEq] at h
      obtain ⟨rfl, rfl⟩ := h
      exact ⟨⟨t', ho⟩, hg⟩
    · cases h
  · cases h
theorem handT_some {o : Oper} {k : Nat} {g : FuncId} {caps : List Cl} {r sz : Nat} {us : List TypeId} {xs : List Operand} (h : handT Y S o = some (k, g, caps, r, sz, us, xs)) :
    ∃ f as ts x t lo len, o.op = .call { callee := .value f, args := as, argTypes := ts } ∧ o.guard = none ∧ as.toList = x :: xs ∧ ts.toList = t :: us ∧ S.opd x = .v (.cl (.own ⟨r, []⟩ sz lo len true)) ∧ g < ioKey ∧
      ((∃ a b, S.opd f = .v (.cl (.c (.sc (.func (.func g) a b)))) ∧ caps = []) ∨ S.opd f = .v (.fn g caps)) := by
  unfold handT at h
  split at h
  · rename_i f as ts hop
    split at h
    · cases h
    · rename_i hg
      split at h
      · rename_i x xs' t us' e1 e2
        split at h
        · rename_i r' sz' lo len hx
          split at h
          · rename_i g' a b hf
            obtain ⟨h2, h⟩ := bif_some h
            simp only [Bool.and_eq_true] at h2
            simp only [Option.some.injEq, Prod.mk.injEq] at h
            obtain ⟨rfl, rfl, rfl, rfl, rfl, rfl, rfl⟩ := h
            exact ⟨f, as, ts, x, t, lo, len, hop, hg, e1, e2, hx, Nat.le_of_ble_eq_true h2.1, .inl ⟨a, b, hf, rfl⟩⟩
          · rename_i g' caps' hf
            obtain ⟨h2, h⟩ := bif_some h
            simp only [Bool.and_eq_true] at h2
            simp only [Option.some.injEq, Prod.mk.injEq] at h
            obtain ⟨rfl, rfl, rfl, rfl, rfl, rfl, rfl⟩ := h
            exact ⟨f, as, ts, x, t, lo, len, hop, hg, e1, e2, hx, Nat.le_of_ble_eq_true h2.1, .inr hf⟩
          · cases h
        · cases h
      · cases h
  · cases h
theorem argsK_len (hΘ : TysOk P Θ) (hS : S.ok) : ∀ (ts : List TypeId) (as : List Operand) (κ : List V1 → Option ρ) (r : ρ), argsK Θ S ts as κ = some r → ts.length = as.length
  | [], [], _, _, _ => rfl
  | [], _ :: _, _, _, h => by simp [argsK] at h
  | _ :: _, [], _, _, h => by simp [argsK] at h
  | t :: ts, a :: as, κ, r, h => by
    unfold argsK at h
    obtain ⟨v, _, h⟩ := reV_ok hΘ hS (opd_ok hS a) h
    rw [List.length_cons, List.length_cons, argsK_len hΘ hS ts as _ r h]
theorem handK_ok (hΘ : TysOk P Θ) (hY : TabOk P Y) (hS : S.ok) {ops : Array Oper} {o : Oper} {os : List Oper} {Post : St → Prop} {k : Nat} {g : FuncId} {caps : List Cl} {q sz : Nat} {us : List TypeId} {xs : List Operand} (ht : handT Y S o = some (k, g, caps, q, sz, us, xs)) {κ : TS → Option ρ} {r : ρ}
    (ih : ∀ S3 : TS, S3.ok → κ S3 = some r → WpL P ops os S3.st Post) (h : handK Θ Y S k g caps q sz us xs o.dst κ = some r) : WpL P ops (o :: os) S.st Post := by
  obtain ⟨f, as, ts, x, t, lo, len, hop, hgd, has, hts, hx, hgk, hf⟩ := handT_some ht
  unfold handK at h
  split at h
  · rename_i el l hq
    obtain ⟨hsz0, h0⟩ := bif_some h
    have hsz : sz = el.width := Nat.eq_of_beq_eq_true hsz0
    clear h hsz0
    subst hsz
    have h := h0
    clear h0
    have hql : q < S.gh.length := by
      rcases Nat.lt_or_ge q S.gh.length with h' | h'
      · exact h'
      · rw [ghAt_none h'] at hq; cases hq
    have hS0 : ({ S with gh := setN S.gh q none } : TS).ok := TS.ok_gh hS (Gle.gone _ _)
    have hst0 : ({ S with gh := setN S.gh q none } : TS).st = { S.st with gh := upd S.st.gh q none } := st_gone S q
    have hlen := argsK_len hΘ hS0 _ _ _ _ h
    obtain ⟨vs, h1, h⟩ := argsK_ok hΘ hS0 _ _ _ _ h
    have hcaps : ∀ c ∈ caps, c.ok (setN S.gh q none) := by
      intro c hc
      rcases hf with ⟨_, _, _, rfl⟩ | hf
      · cases hc
      · have := opd_ok hS f
        rw [hf] at this
        exact Cl.ok_mono (Gle.gone _ _) (this c hc)
    obtain ⟨cs, h2, h⟩ := capsK_ok hS0 _ _ _ hcaps h
    have hargs : argsL P { S.st with gh := upd S.st.gh q none } us xs (caps.map Cl.av) = (vs ++ cs.map V1.cl).map V1.av := by
      unfold argsL
      rw [← hst0, h1, h2, List.map_append, List.map_map]
      rfl
    have hcal : callee S.st f = some (g, caps.map Cl.av) := by
      unfold callee
      rw [opd_av]
      rcases hf with ⟨_, _, hf, rfl⟩ | hf <;> (rw [hf]; rfl)
    have hxo := opd_ok hS x
    rw [hx] at hxo
    obtain ⟨_, hxo⟩ := hxo
    obtain ⟨_, hlo, hln⟩ := hxo rfl
    have hln := hln _ hq
    subst hlo hln
    have hxv : opd S.st x = .own ⟨q, []⟩ el.width 0 l.length := by rw [opd_av, hx]; rfl
    have htr : S.st.gh q = some (.sl el.width (l.map el.row)) := by
      show (ghAt S.gh q).map Tre.tree = _
      rw [hq]
      rfl
    cases hk : Nat.beq k 1 with
    | true =>
      rw [hk] at h
      simp only [cond_true] at h
      obtain ⟨res, out, g1, g2, h⟩ := hY _ _ _ _ _ h
      have g1 := (g1.io g rfl hgk).get
      split at h
      · rename_i t' l' _
        obtain ⟨hc, h⟩ := bif_some h
        simp only [Bool.and_eq_true, decide_eq_true_eq] at hc
        obtain ⟨rfl, hns⟩ := hc
        unfold iteP at h
        split at h
        · rename_i hll
          have hG : Gle S.gh (setN S.gh q (some ⟨t', l', none⟩)) := Gle.put hq hll
          have hrp : res.av.plain = true := by
            unfold noSl at hns
            split at hns <;> first | rfl | cases hns
          have hro : res.ok (setN S.gh q (some ⟨t', l', none⟩)) := by
            unfold noSl at hns
            split at hns
            · trivial
            · intro x hx; cases hx
            · cases hns
          obtain ⟨S3, k1, k2, _, h⟩ := putK_ok (S := { S with gh := setN S.gh q (some ⟨t', l', none⟩) }) (TS.ok_gh hS hG) hro h
          rw [st_put S _ hql] at k1
          refine WpL.hand hop hgd has hlen hcal hxv htr (m := 1) (by rw [hargs]; exact g1) (.inr ⟨rfl, _, rfl, hrp, S3.st, k1, ih S3 k2 h⟩)
        · cases h
      · cases h
    | false =>
      rw [hk] at h
      simp only [cond_false] at h
      obtain ⟨hfz0, h⟩ := bif_some h
      have hfz : S.st.fz ≤ q := Nat.le_of_ble_eq_true hfz0
      obtain ⟨res, out, g1, g2, h⟩ := hY _ _ _ _ _ h
      have g1 := (g1.mv g rfl).get
      have hl0 : (setN S.gh q none).length = S.gh.length := by rw [setN_eq]; simp
      have hro : (shiftV S.gh.length res).ok (setN S.gh q none ++ out.map some) := by
        have := shiftV_ok (G := setN S.gh q none) g2
        rwa [hl0] at this
      obtain ⟨S3, k1, k2, _, h⟩ := putK_ok (S := { S with gh := setN S.gh q none ++ out.map some }) (TS.ok_gh hS0 (Gle.apps _ _)) hro h
      rw [show ({ S with gh := setN S.gh q none ++ out.map some } : TS).st = _ from st_install { S with gh := setN S.gh q none } res.av out, hst0, shiftV_av] at k1
      exact WpL.hand hop hgd has hlen hcal hxv htr (m := 0) (by rw [hargs]; exact g1) (.inl ⟨hfz, S3.st, k1, ih S3 k2 h⟩)
  · cases h
theorem zero_one {el : Ty} (hw : el.width = 1) (hf : el.flatB = true) {z : el.D} (hz : el.unflat el.zcs = some z) : ∃ zv, el.zvs = [zv] ∧ scal zv = true ∧ el.row z = [.sc zv] := by
  have hr : el.row z = el.zcs.map C.tree := by
    rw [el.row_flat, el.unflat_some _ _ hz]
  rw [hr]
  clear hr hz z
  cases el with
  | i k => exact ⟨_, rfl, rfl, rfl⟩
  | b => exact ⟨_, rfl, rfl, rfl⟩
  | s => exact ⟨_, rfl, rfl, rfl⟩
  | st n => cases n <;> first | exact ⟨_, rfl, rfl, rfl⟩ | (exfalso; revert hw; decide) | (exfalso; revert hf; decide)
  | ls t => cases hf
theorem clearK_ok (hΘ : TysOk P Θ) (hS : S.ok) {ops : Array Oper} {o : Oper} {os : List Oper} {Post : St → Prop} {t : TypeId} {q sz lo len : Nat} (ht : clearT S o = some (t, q, sz, lo, len)) {κ : TS → Option ρ} {r : ρ}
    (ih : ∀ S3 : TS, S3.ok → κ S3 = some r → WpL P ops os S3.st Post) (h : clearK Θ S t q sz lo len o.dst κ = some r) : WpL P ops (o :: os) S.st Post := by
  unfold clearT at ht
  split at ht
  · rename_i as ts hop
    split at ht
    · cases ht
    · rename_i hgd
      split at ht
      · rename_i x t' e1 e2
        split at ht
        · rename_i r' sz' lo' len' w hx
          simp only [Option.some.injEq, Prod.mk.injEq] at ht
          obtain ⟨rfl, rfl, rfl, rfl, rfl⟩ := ht
          have e1 : as = #[x] := by apply Array.ext'; simpa using e1
          have e2 : ts = #[t'] := by apply Array.ext'; simpa using e2
          subst e1 e2
          unfold clearK at h
          split at h
          · rename_i ti hti
            split at h
            · rename_i el l hq
              obtain ⟨hc, h0⟩ := bif_some h
              simp only [Bool.and_eq_true, decide_eq_true_eq] at hc
              obtain ⟨⟨⟨hty, hw⟩, hsz⟩, hfl⟩ := hc
              have hw : el.width = 1 := Nat.eq_of_beq_eq_true hw
              have hsz : sz' = 1 := Nat.eq_of_beq_eq_true hsz
              split at h0
              · rename_i z hz
                unfold iteP at h0
                split at h0
                · rename_i hle
                  obtain ⟨elT', g1, g2, g3, g4, g5, g6⟩ := (hΘ _ _ hti).el el hty
                  have hql : r' < S.gh.length := by
                    rcases Nat.lt_or_ge r' S.gh.length with h' | h'
                    · exact h'
                    · rw [ghAt_none h'] at hq; cases hq
                  have hG : Gle S.gh (setN S.gh r' (some ⟨el, l.take lo' ++ List.replicate len' z ++ l.drop (lo' + len'), none⟩)) := Gle.put hq (by simp; omega)
                  obtain ⟨S3, k1, k2, _, h⟩ := putK_ok (v := .tup []) (TS.ok_gh hS hG) (fun x hx => by cases hx) h0
                  rw [st_put S _ hql] at k1
                  obtain ⟨zv, hzv, hsc, hrow⟩ := zero_one hw hfl hz
                  have htr : S.st.gh r' = some (.sl 1 (l.map el.row)) := by
                    show (ghAt S.gh r').map Tre.tree = _
                    rw [hq]
                    show some (T.sl el.width (l.map el.row)) = _
                    rw [hw]
                  have hxv : opd S.st x = .own ⟨r', []⟩ 1 lo' len' := by rw [opd_av, hx, ← hsz]; rfl
                  refine WpL.clear hop hgd g1 (by rw [g6, hzv]) hsc hxv htr (by simpa using hle) ⟨S3.st, ?_, ih S3 k2 h⟩
                  rw [← k1]
                  congr 1
                  show _ = ({ S.st with gh := upd S.st.gh r' (some (T.sl el.width ((l.take lo' ++ List.replicate len' z ++ l.drop (lo' + len')).map el.row))) } : St)
                  rw [hw]
                  simp only [List.map_append, List.map_take, List.map_drop, List.map_replicate, hrow]
                · cases h0
              · cases h0
            · cases h
          · cases h
        · cases ht
      · cases ht
  · cases ht
theorem evLK_ok (hΘ : TysOk P Θ) (hY : TabOk P Y) {ops : Array Oper} : ∀ (os : List Oper) (S : TS) (κ : TS → Option ρ) (r : ρ), (∀ o ∈ os, opOk P o = true) → S.ok → evLK Θ Y ops.toList os S κ = some r →
    WpL P ops os S.st (fun S' => ∃ S1 : TS, S' = S1.st ∧ S1.ok ∧ κ S1 = some r) := by
  intro os
  induction os with
  | nil => intro S κ r _ hS h; exact WpL.nil ⟨S, rfl, hS, h⟩
  | cons o os ih =>
    intro S κ r hok hS h
    unfold evLK at h
    cases hn : nilTest o with
    | some tx =>
      obtain ⟨t, x⟩ := tx
      rw [hn] at h
      simp only at h
      obtain ⟨hs, h⟩ := bif_some h
      obtain ⟨⟨t', ho⟩, hg⟩ := nilTest_some hn
      unfold isSl at hs
      split at hs
      · rename_i ti hti
        split at hs
        · rename_i e he
          obtain ⟨el, hel, _⟩ := (hΘ t ti hti).el e he
          split at h
          · rename_i t1 l hx
            have way : ∀ (b : Bool), (putK S o.dst (boolV b) fun S3 => evLK Θ Y ops.toList os S3 κ) = some r → ∃ S1, S.st.put o.dst (.sc (.bool b)) = some S1 ∧ WpL P ops os S1 (fun S' => ∃ S1 : TS, S' = S1.st ∧ S1.ok ∧ κ S1 = some r) := by
              intro b hb
              obtain ⟨S3, g5, g6, _, h⟩ := putK_ok (v := boolV b) hS trivial hb
              exact ⟨S3.st, g5, ih S3 κ r (fun x hx => hok x (List.mem_cons_of_mem _ hx)) g6 h⟩
            have hxv : opd S.st x = .ro t1.width (l.map t1.row) := by rw [opd_av, hx]; rfl
            cases l with
            | nil =>
              obtain ⟨a1, a2⟩ := amb_some (show amb _ _ none = some r from h)
              exact WpL.eqnil hel ho hg hxv (fun _ => way true a1) (way false a2)
            | cons y l => exact WpL.eqnil hel ho hg hxv (fun h => by cases h) (way false h)
          · cases h
        · cases hs
      · cases hs
    | none =>
    rw [hn] at h
    simp only at h
    cases hcl : clearT S o with
    | some z =>
      obtain ⟨t, q, sz, lo, len⟩ := z
      rw [hcl] at h
      exact clearK_ok hΘ hS hcl (fun S3 hS3 h3 => ih S3 κ r (fun x hx => hok x (List.mem_cons_of_mem _ hx)) hS3 h3) h
    | none =>
    rw [hcl] at h
    simp only at h
    cases hh : handT Y S o with
    | some z =>
      obtain ⟨k, g, caps, q, sz, us, xs⟩ := z
      rw [hh] at h
      exact handK_ok hΘ hY hS hh (fun S3 hS3 h3 => ih S3 κ r (fun x hx => hok x (List.mem_cons_of_mem _ hx)) hS3 h3) h
    | none =>
    rw [hh] at h
    simp only at h
    obtain ⟨b, S1, h1, h2, h3, h4, h⟩ := wantK_ok hS h
    refine WpL.cons (b := b) (hok o List.mem_cons_self) h1 ?_
    cases b with
    | true =>
      simp only [cond_true] at h
      obtain ⟨D, v, S2, g1, g2, g3, g4, h⟩ := stepK_ok hΘ hY h3 h
      obtain ⟨S3, g5, g6, _, h⟩ := putK_ok g3 g4 h
      rw [if_pos rfl]
      refine ⟨D, S3.st, g1, ?_, ih S3 κ r (fun x hx => hok x (List.mem_cons_of_mem _ hx)) g6 h⟩
      unfold one
      rw [← h2, g2]
      exact g5
    | false =>
      simp only [cond_false] at h
      obtain ⟨S3, g5, g6, _, h⟩ := putK_ok (v := .tup []) h3 (fun x hx => by cases hx) h
      rw [if_neg (by simp)]
      exact ⟨S3.st, by rw [← h2]; exact g5, ih S3 κ r (fun x hx => hok x (List.mem_cons_of_mem _ hx)) g6 h⟩

/-! regions that draw their order -/
theorem stepV_D {D D' : Den} {X : St} {o : Oper} (h : D o.dst = D' o.dst) : stepV D P X o = stepV D' P X o := by
  obtain ⟨dst, op, ty, pos, aft, gd⟩ := o
  cases op with
  | call c =>
    obtain ⟨cl, as, ts⟩ := c
    cases cl with
    | value f => simp only [stepV]; simp only at h; rw [h]
    | invoke a b => rfl
    | builtin b => cases b <;> rfl
  | unOp op t x => cases op <;> rfl
  | binOp op t x y t' => cases op <;> rfl
  | makeFunc fn first caps => cases fn <;> rfl
  | slice t x lo hi mx => cases mx <;> rfl
  | _ => rfl
theorem stepN_D {D D' : Den} {X : St} {o : Oper} (h : D o.dst = D' o.dst) : stepN D P X o = stepN D' P X o := by
  obtain ⟨dst, op, ty, pos, aft, gd⟩ := o
  cases op with
  | call c =>
    obtain ⟨cl, as, ts⟩ := c
    cases cl with
    | value f => simp only [stepN]; simp only at h; rw [h]
    | invoke a b => rfl
    | builtin b => cases b <;> rfl
  | _ => rfl
theorem evD_D {D D' : Den} {ops : Array Oper} : ∀ (os : List Oper) (X : St), (∀ o ∈ os, D o.dst = D' o.dst) → evD D P ops os X = evD D' P ops os X := by
  intro os
  induction os with
  | nil => intro X _; rfl
  | cons o os ih =>
    intro X h
    have h1 := h o List.mem_cons_self
    have h2 : ∀ X, evD D P ops os X = evD D' P ops os X := fun X => ih X (fun x hx => h x (List.mem_cons_of_mem _ hx))
    simp only [evD, h2, stepV_D h1, stepN_D h1]
theorem gone_app : ∀ (l m : List (Option Tre)) (n : Nat), gone n l (l ++ m) = []
  | [], m, n => by cases m <;> rfl
  | x :: l, m, n => by
    cases x with
    | none => exact gone_app l m (n + 1)
    | some y => exact gone_app l m (n + 1)
theorem gone_set : ∀ (l m : List (Option Tre)) (n q : Nat) (y : Tre), l[q]? = some (some y) → gone n l (l.set q none ++ m) = [n + q]
  | [], m, n, q, y, h => by simp at h
  | x :: l, m, n, 0, y, h => by
    simp only [List.getElem?_cons_zero, Option.some.injEq] at h
    subst h
    simp only [List.set_cons_zero, List.cons_append, gone, Nat.add_zero, gone_app]
  | x :: l, m, n, q + 1, y, h => by
    simp only [List.getElem?_cons_succ] at h
    simp only [List.set_cons_succ, List.cons_append]
    have := gone_set l m (n + 1) q y h
    cases x with
    | none => simp only [gone, this]; congr 1; omega
    | some z => simp only [gone, this]; congr 1; omega
theorem trees_some (l : List Tre) : trees (l.map some) = l.map Tre.tree := by
  unfold trees
  rw [List.map_map]
  rfl
theorem make_st (S : TS) (out : List Tre) : S.st.make ⟨S.st.ng, out.map Tre.tree, []⟩ = ({ S with gh := S.gh ++ out.map some } : TS).st := by
  rw [st_install S .dead out]
  unfold St.make install
  simp only [List.length_map]
  congr 1
theorem takeL_flat (no : Nat) : ∀ (ets : List (Option Ty)) (cs : List Cl) (j : Nat) (S S1 : TS) (xs : List C), ets.all (·.isNone) = true → takeL no j S ets cs = some (xs, S1) → S1 = S := by
  intro ets
  induction ets with
  | nil =>
    intro cs j S S1 xs _ h
    cases cs with
    | nil => simp only [takeL, Option.some.injEq, Prod.mk.injEq] at h; exact h.2.symm
    | cons c cs => simp [takeL] at h
  | cons et ets ih =>
    intro cs j S S1 xs hf h
    simp only [List.all_cons, Bool.and_eq_true, Option.isNone_iff_eq_none] at hf
    cases cs with
    | nil => simp [takeL] at h
    | cons c cs =>
      simp only [takeL] at h
      split at h
      · rename_i x S2 hx
        have : S2 = S := by
          rw [hf.1] at hx
          cases c with
          | c y => cases y <;> simp [takeC] at hx; exact hx.2.symm
          | own p sz lo len w => cases w <;> simp [takeC] at hx
          | _ => simp [takeC] at hx
        subst this
        split at h
        · rename_i xs' S3 hxs
          simp only [Option.some.injEq, Prod.mk.injEq] at h
          obtain ⟨_, rfl⟩ := h
          exact ih cs (j + 1) S2 S3 xs' hf.2 hxs
        · cases h
      · cases h
theorem partsK_flat (el : Ty) (hfl : el.flatB = true) : ∀ (vs : List V) (S S1 : TS) (l : List el.D), partsK el S vs = some (l, S1) → S1 = S := by
  intro vs
  induction vs with
  | nil => intro S S1 l h; simp only [partsK, Option.some.injEq, Prod.mk.injEq] at h; exact h.2.symm
  | cons v vs ih =>
    intro S S1 l h
    cases v with
    | tup x => simp [partsK] at h
    | v x =>
      simp only [partsK] at h
      split at h
      · rename_i ws S2 hw
        have := takeL_flat _ _ _ _ _ _ _ hfl hw
        subst this
        split at h
        · rename_i y ys S3 hy hys
          simp only [Option.some.injEq, Prod.mk.injEq] at h
          obtain ⟨_, rfl⟩ := h
          exact ih _ _ _ hys
        · cases h
      · cases h
theorem flatT_el (hΘ : TysOk P Θ) {t : TypeId} (h : flatT Θ t = true) : ∃ ti el elT', getT Θ t = some ti ∧ ti.ty = .ls el ∧ el.flatB = true ∧ elT P t = some elT' ∧ P.cellsOf elT' = el.width ∧ P.bytesOf elT' = ti.el ∧ 0 < ti.el ∧ shT P 9 elT' = el.shs ∧ zeT P elT' = some el.zvs := by
  unfold flatT at h
  split at h
  · rename_i ti hti
    split at h
    · rename_i el he
      obtain ⟨elT', g⟩ := (hΘ _ _ hti).el el he
      exact ⟨ti, el, elT', hti, he, h, g⟩
    · cases h
  · cases h

theorem srcN_ok {el : Ty} (hfl : el.flatB = true) {v : Cl} (hv : v.ok S.gh) {κ : List el.D → TS → Option ρ} {r : ρ} (h : srcK S el v κ = some r) :
    ∃ more, source0 S.st el.width v.av = some (more.map el.row) ∧ κ more S = some r := by
  unfold srcK at h
  split at h
  · exact ⟨[], rfl, h⟩
  · rename_i t l
    obtain ⟨h1, h⟩ := bif_some h
    split at h
    · rename_i l' hl
      obtain ⟨e, hl⟩ := castL_some hl
      subst e
      simp only at hl
      subst hl
      refine ⟨l, ?_, h⟩
      simp only [Cl.av, C.av, source0]
      rw [if_pos ⟨trivial, flat_rows h1 l⟩]
    · cases h
  · rename_i p sz lo len w
    obtain ⟨h0, h⟩ := bif_some h
    have h0 : el.width = sz := Nat.eq_of_beq_eq_true h0
    rw [hfl] at h
    simp only [cond_true] at h
    obtain ⟨t, l, h1, h2, h⟩ := lookK_ok h
    split at h
    · rename_i l' hl
      obtain ⟨e, hl⟩ := castL_some hl
      subst e
      simp only at hl
      subst hl
      have src : ∀ (lo len : Nat), lo + len ≤ l.length → source0 S.st t.width (.own p sz lo len) = some (((l.drop lo).take len).map t.row) := by
        intro lo len hle
        simp only [source0]
        rw [if_pos h0.symm, rows_of h1]
        simp only [Option.bind_some, List.length_map]
        rw [if_pos ⟨hle, by rw [← List.map_drop, ← List.map_take]; exact flat_rows hfl _⟩]
        simp [List.map_take, List.map_drop]
      cases w with
      | true =>
        obtain ⟨e1, e2, e3⟩ := whole hv h2
        refine ⟨l, ?_, h⟩
        have := src lo len (by omega)
        rw [e2, e3, List.drop_zero, List.take_length] at this
        simp only [Cl.av]
        rw [e2, e3]
        exact this
      | false =>
        simp only [cond_false] at h
        obtain ⟨h3, h⟩ := iteP_some h
        exact ⟨_, src lo len h3, h⟩
    · cases h
  · cases h
theorem baseN_ok {el : Ty} {v : Cl} (hv : v.ok S.gh) (hroot : rootB (.v (.cl v)) = true) {more : List el.D} {κ : List el.D → TS → Option ρ} {r : ρ} (h : baseK S el v more κ = some r) :
    ∃ (l0 : List el.D) (cons : List Nat) (S' : TS), base0 S.st el.width v.av = some (l0.map el.row, cons) ∧ ((cons = [] ∧ S' = S) ∨ ∃ q tr, cons = [q] ∧ ghAt S.gh q = some tr ∧ S' = { S with gh := setN S.gh q none }) ∧ κ (l0 ++ more) S' = some r := by
  unfold baseK at h
  split at h
  · exact ⟨[], [], S, rfl, .inl ⟨rfl, rfl⟩, h⟩
  · rename_i p sz lo len w
    obtain ⟨pr, pl⟩ := p
    cases pl with
    | cons a l => cases hroot
    | nil =>
      obtain ⟨h0, h'⟩ := bif_some h
      clear h
      simp only [Bool.and_eq_true] at h0
      have hfz : S.fz ≤ pr := Nat.le_of_ble_eq_true h0.1
      have hsz : el.width = sz := Nat.eq_of_beq_eq_true h0.2
      simp only at h'
      obtain ⟨t, l, h1, h2, h⟩ := lookK_ok h'
      split at h
      · rename_i l' hl
        obtain ⟨e, hl⟩ := castL_some hl
        subst e
        simp only at hl
        subst hl
        have base : ∀ (len : Nat), ¬ l.length < len → base0 S.st t.width (.own ⟨pr, []⟩ sz 0 len) = some ((l.take len).map t.row, [pr]) := by
          intro len hlen
          simp only [base0]
          rw [if_pos ⟨hsz.symm, trivial, trivial, hfz⟩, rows_of h1]
          simp only [Option.bind_some, List.length_map]
          rw [if_neg hlen, List.map_take]
        cases w with
        | true =>
          obtain ⟨e1, e2, e3⟩ := whole hv h2
          refine ⟨l, [pr], _, ?_, .inr ⟨pr, _, rfl, h2 rfl, rfl⟩, h⟩
          have := base l.length (by omega)
          rw [List.take_length] at this
          simp only [Cl.av]
          rw [e2, e3]
          exact this
        | false =>
          simp only [cond_false] at h
          obtain ⟨h3, h⟩ := iteP_some h
          obtain ⟨h4, h⟩ := iteN_some h
          refine ⟨l.take len, [pr], _, ?_, .inr ⟨pr, _, rfl, h2 rfl, rfl⟩, h⟩
          simp only [Cl.av]
          rw [h3]
          exact base len h4
      · cases h
  · cases h
theorem newK_ok (hΘ : TysOk P Θ) (hY : TabOk P Y) (hS : S.ok) {o : Oper} (hn : isNew o = true) (hf : fitN Θ o = true) (hb : baseB S o = true) {κ : V → TS → Option ρ} {r : ρ} (h : stepK Θ Y S o κ = some r) :
    ∃ D v0 v adds cons S', Sound P D ∧ stepN D P S.st o = some (v0, adds, cons) ∧ shift S.st.ng v0 = V.av v ∧ S.st.make ⟨S.st.ng, adds, cons⟩ = TS.st S' ∧ madeOf S S' = ⟨S.st.ng, adds, cons⟩ ∧ S'.ok ∧ v.ok S'.gh ∧ κ v S' = some r := by
  obtain ⟨dst, op, ty, pos, aft, gd⟩ := o
  cases op with
  | buildSlice t len parts =>
    obtain ⟨ti, el, elT', hti, he, hfl, g1, g2, g3, g4, g5, g6⟩ := flatT_el hΘ hf
    obtain ⟨D, v, S', q1, q2, q3, q4, q5⟩ := stepK_ok hΘ hY hS h
    unfold stepK at h
    simp only [hti, he] at h
    obtain ⟨hb', h'⟩ := bif_some h
    clear h q5
    split at h'
    · rename_i l S1 hp
      have := partsK_flat el hfl _ _ _ _ hp
      subst this
      have hvok : ∀ v ∈ parts.toList.map (fun x => S1.opd x.2), v.ok S1.gh := fun v hv => by
        obtain ⟨y, _, rfl⟩ := List.mem_map.1 hv
        exact opd_ok hS _
      have hR : ∀ (m : Nat) (v : V), (parts.toList.map fun x => S1.opd x.2)[m]? = some v → (parts.toList.map fun x => (opd S1.st x.2).cells.map T.ofSc)[0 + m]? = some (v.av.cells.map T.ofSc) := by
        intro m v hm
        rw [Nat.zero_add, List.getElem?_map]
        rw [List.getElem?_map] at hm
        simp only [Option.map_eq_some_iff] at hm
        obtain ⟨y, hy, rfl⟩ := hm
        rw [hy]
        simp only [Option.map_some, opd_av]
      obtain ⟨m1, m2, m3, m4⟩ := partsK_ok el S1.gh.length (S1.gh.length + 1) _ 0 S1 S1 l _ hS rfl hvok hp (by simp) hR
      have hgr : ∀ (vs : List V) (k : Nat) (X : St), grafts S1.gh.length el.shs k vs X = some X := by
        intro vs
        induction vs with
        | nil => intro k X; rfl
        | cons v vs ih => intro k X; simp only [grafts]; rw [graftAll_flat _ _ _ _ _ _ (by rw [flatB_shs]; exact hfl)]; exact ih _ _
      rw [hgr] at m4
      simp only [Option.some.injEq, List.take_zero, List.nil_append] at m4
      have hrows : (parts.toList.map fun x => (opd S1.st x.2).cells.map T.ofSc) = l.map el.row := by
        have := congrArg (fun X : St => X.gh S1.gh.length) m4
        simpa [TS.with, upd] using this
      simp only [Bool.and_eq_true] at hb'
      have hb1 : len * el.width ≤ 1048576 := Nat.le_of_ble_eq_true hb'.1
      have hb2 := eqN_eq hb'.2
      have hlen : l.length = len := by
        rw [m2]
        have := congrArg List.length hb2
        simpa using this
      refine ⟨noD, .own ⟨0, []⟩ el.width 0 len, _, [.sl el.width (l.map el.row)], [], { S1 with gh := S1.gh ++ [some ⟨el, l, none⟩] }, noD_sound, ?_, ?_, ?_, ?_, TS.ok_gh hS (Gle.app _ _), ?_, h'⟩
      · simp only [stepN, g1, Option.bind_some]
        rw [if_pos ⟨by rw [g2]; exact hb1, hb2, by rw [g2]; exact el.width_pos, by rw [g6]; rfl, by
          rw [List.all_eq_true]
          intro y hy
          obtain ⟨q1, q2⟩ := m3 (S1.opd y.2) (List.mem_map.2 ⟨y, hy, rfl⟩)
          simp only [opd_av, q1, q2, g2]
          rfl, by rw [g5, flatB_shs]; exact hfl⟩, g2, hrows]
      · simp only [shift, shift1, shift0, V.av, V1.av, Cl.av, Nat.zero_add, hlen]
        rfl
      · exact make_st S1 [⟨el, l, none⟩]
      · unfold madeOf
        simp only [gone_app, List.drop_append_of_le_length (Nat.le_refl _), List.drop_length, List.nil_append]
        rfl
      · refine ⟨by simp, fun _ => ⟨rfl, rfl, fun tr htr => ?_⟩⟩
        rw [ghAt_app, if_pos rfl] at htr
        cases htr
        rfl
    · cases h'
  | call c =>
    obtain ⟨cl, as, ts⟩ := c
    cases cl with
    | invoke a b => cases hn
    | value f =>
      unfold stepK at h
      simp only at h
      have fin : ∀ (g : FuncId) (caps : List AV) (vs : List V1), g < ioKey → callee S.st f = some (g, caps) → args P S.st ts as caps = vs.map V1.av → Y g vs ρ (fun res out => κ (shiftV S.gh.length res) { S with gh := S.gh ++ out.map some }) = some r →
          ∃ D v0 v adds cons S', Sound P D ∧ stepN D P S.st ⟨dst, .call { callee := .value f, args := as, argTypes := ts }, ty, pos, aft, gd⟩ = some (v0, adds, cons) ∧ shift S.st.ng v0 = V.av v ∧ S.st.make ⟨S.st.ng, adds, cons⟩ = TS.st S' ∧ madeOf S S' = ⟨S.st.ng, adds, cons⟩ ∧ S'.ok ∧ v.ok S'.gh ∧ κ v S' = some r := by
        intro g caps vs hg h1 h2 h3
        obtain ⟨res, out, h4, h5, h6⟩ := hY _ _ _ _ _ h3
        have h4 := h4.fn hg
        refine ⟨oneD dst g (vs.map V1.av) (res.av, out.map Tre.tree), res.av, _, out.map Tre.tree, [], _, oneD_sound h4, ?_, ?_, make_st S out, ?_, TS.ok_gh hS (Gle.apps _ _), shiftV_ok h5, h6⟩
        · simp only [stepN, h1, Option.bind_some, h2]
          rw [oneD_at]
          rfl
        · rw [shiftV_av]; rfl
        · unfold madeOf
          simp only [gone_app, List.drop_append_of_le_length (Nat.le_refl _), List.drop_length, List.nil_append, trees_some]
          rfl
      unfold callK at h
      split at h
      · rename_i g x y hf'
        obtain ⟨hg, h⟩ := bif_some h
        have hg : g < ioKey := Nat.le_of_ble_eq_true hg
        obtain ⟨vs, h1, h⟩ := argsK_ok hΘ hS _ _ _ _ h
        refine fin g [] vs hg ?_ ?_ h
        · unfold callee
          rw [opd_av, hf']
          rfl
        · unfold args
          simp only [List.map_nil, List.append_nil]
          exact h1
      · rename_i g caps hf'
        obtain ⟨hg, h⟩ := bif_some h
        have hg : g < ioKey := Nat.le_of_ble_eq_true hg
        obtain ⟨vs, h1, h⟩ := argsK_ok hΘ hS _ _ _ _ h
        have hcaps : ∀ c ∈ caps, c.ok S.gh := by
          have := opd_ok hS f
          rw [hf'] at this
          exact this
        obtain ⟨cs, h2, h⟩ := capsK_ok hS _ _ _ hcaps h
        refine fin g (caps.map Cl.av) (vs ++ cs.map .cl) hg ?_ ?_ h
        · unfold callee
          rw [opd_av, hf']
          rfl
        · unfold args
          rw [h1, h2, List.map_append, List.map_map]
          rfl
      · cases h
    | builtin b =>
      cases b with
      | append =>
        unfold stepK at h
        simp only at h
        split at h
        · rename_i s x t t' e1 e2
          obtain ⟨ht, h'⟩ := bif_some h
          have ht : t = t' := Nat.eq_of_beq_eq_true ht
          clear h
          have e1 : as = #[s, x] := by apply Array.ext'; simpa using e1
          have e2 : ts = #[t, t'] := by apply Array.ext'; simpa using e2
          subst e1 e2
          subst ht
          obtain ⟨ti, el, elT', hti, he, hfl, g1, g2, g3, g4, g5, g6⟩ := flatT_el hΘ hf
          unfold appK at h'
          simp only [hti] at h'
          split at h'
          · rename_i el' sv xv he' hs hx
            rw [he] at he'
            cases he'
            have hsv := opd_ok hS s
            rw [hs] at hsv
            have hxv := opd_ok hS x
            rw [hx] at hxv
            obtain ⟨more, q1, h⟩ := srcN_ok hfl (show xv.ok S.gh from hxv) h'
            have hroot : rootB (.v (.cl sv)) = true := by rw [← hs]; exact hb
            obtain ⟨l0, cons, S1, q2, q3, h⟩ := baseN_ok (show sv.ok S.gh from hsv) hroot h
            obtain ⟨hbd, h⟩ := iteP_some h
            have hlen : (l0 ++ more).length ≤ 2 ^ 40 := Nat.le_trans (Nat.le_mul_of_pos_right _ g4) hbd
            have hll : (l0 ++ more).length = l0.length + more.length := by simp
            have hS1 : S1.gh.length = S.gh.length ∧ S1.ok ∧ Gle S.gh S1.gh := by
              rcases q3 with ⟨_, rfl⟩ | ⟨q, tr, _, _, rfl⟩
              · exact ⟨rfl, hS, Gle.refl _⟩
              · exact ⟨by simp [setN_eq], TS.ok_gh hS (Gle.gone _ _), Gle.gone _ _⟩
            refine ⟨noD, .own ⟨0, []⟩ el.width 0 (l0.length + more.length), _, [.sl el.width ((l0 ++ more).map el.row)], cons, { S1 with gh := S1.gh ++ [some ⟨el, l0 ++ more, none⟩] }, noD_sound, ?_, ?_, ?_, ?_, TS.ok_gh hS1.2.1 (Gle.app _ _), ?_, h⟩
            · simp only [stepN]
              rw [if_pos trivial, g1]
              simp only [Option.bind_some, g2, opd_av, hs, hx]
              show (source0 S.st el.width xv.av).bind _ = _
              rw [q1]
              simp only [Option.bind_some]
              show (base0 S.st el.width sv.av).bind _ = _
              rw [q2]
              simp only [Option.bind_some, List.length_map]
              rw [if_pos ⟨by rw [g3, ← hll]; exact hbd, by rw [← hll]; exact hlen, el.width_pos, by rw [zrow_of g2 g5 g6]; rfl⟩, List.map_append]
            · simp only [shift, shift1, shift0, V.av, V1.av, Cl.av, Nat.zero_add, hll]
              rw [hS1.1]
              rfl
            · rw [st_app, hS1.1]
              rcases q3 with ⟨rfl, rfl⟩ | ⟨q, tr, rfl, hq, rfl⟩
              · unfold St.make
                simp only [List.length_singleton]
                congr 1
                funext r
                unfold upd
                by_cases hr : r = S1.gh.length
                · subst hr; rw [if_pos rfl, if_pos ⟨Nat.le_refl _, Nat.lt_succ_self _⟩]; simp [TS.st, Tre.tree]
                · rw [if_neg hr, if_neg (by show ¬ (S1.gh.length ≤ r ∧ r < S1.gh.length + 1); omega)]; simp
              · rw [st_gone]
                unfold St.make
                simp only [List.length_singleton]
                congr 1
                funext r
                unfold upd
                have hqlt := ghAt_lt hq
                by_cases hr : r = S.gh.length
                · subst hr; rw [if_pos rfl, if_pos ⟨Nat.le_refl _, Nat.lt_succ_self _⟩]; simp [TS.st, Tre.tree]
                · rw [if_neg hr, if_neg (by show ¬ (S.gh.length ≤ r ∧ r < S.gh.length + 1); omega)]
                  by_cases hrq : r = q
                  · subst hrq; simp
                  · rw [if_neg hrq, if_neg (by simpa using hrq)]
            · unfold madeOf
              rcases q3 with ⟨rfl, rfl⟩ | ⟨q, tr, rfl, hq, rfl⟩
              · simp only [gone_app, List.drop_append_of_le_length (Nat.le_refl _), List.drop_length, List.nil_append]
                rfl
              · have hsl : (setN S.gh q none).length = S.gh.length := by simp [setN_eq]
                have hq' : S.gh[q]? = some (some tr) := by
                  unfold ghAt at hq
                  rw [nth_eq] at hq
                  cases hx' : S.gh[q]? with
                  | none => rw [hx'] at hq; cases hq
                  | some y => rw [hx'] at hq; simp only [Option.getD_some] at hq; rw [hq]
                simp only
                rw [List.drop_append_of_le_length (by rw [hsl]; exact Nat.le_refl _), List.drop_eq_nil_of_le (by rw [hsl]; exact Nat.le_refl _), setN_eq, gone_set _ _ _ _ _ hq', Nat.zero_add]
                rfl
            · refine ⟨by simp, fun _ => ⟨rfl, rfl, fun tr htr => ?_⟩⟩
              rw [ghAt_app, if_pos rfl] at htr
              cases htr
              rfl
          · cases h'
        · cases h
      | _ => cases hn
  | _ => cases hn
end
end Go.Proofs.Ytkifojmjcpdnoaa.En

/- The typed evaluator, part 15: drawn regions, code. -/
namespace Go.Proofs.Ytkifojmjcpdnoaa.En
open Go

section
variable {ρ : Type} {P : Program} {Θ : Tys} {S : TS} {Y : Tab}
open Classical in
noncomputable def joinD (d : Option Tmp) (D1 D2 : Den) : Den := fun d' => if d' = d then D1 d' else D2 d'
theorem joinD_sound {d : Option Tmp} {D1 D2 : Den} (h1 : Sound P D1) (h2 : Sound P D2) : Sound P (joinD d D1 D2) := by
  intro d' f args gs res out h
  unfold joinD at h
  split at h
  · exact h1 _ _ _ _ _ _ h
  · exact h2 _ _ _ _ _ _ h
theorem joinD_at (d : Option Tmp) (D1 D2 : Den) : joinD d D1 D2 d = D1 d := by unfold joinD; rw [if_pos rfl]
theorem joinD_ne {d d' : Option Tmp} (D1 D2 : Den) (h : d' ≠ d) : joinD d D1 D2 d' = D2 d' := by unfold joinD; rw [if_neg h]

theorem evDK_ok (hΘ : TysOk P Θ) (hY : TabOk P Y) {ops : Array Oper} : ∀ (os : List Oper) (S : TS) (ms : List Made) (κ : TS → List Made → Option ρ) (r : ρ), S.ok → evDK Θ Y ops.toList os S ms κ = some r →
    ∃ D SV ms', Sound P D ∧ evD D P ops os S.st = some (TS.st SV, ms') ∧ SV.ok ∧ κ SV (ms ++ ms') = some r := by
  intro os
  induction os with
  | nil => intro S ms κ r hS h; exact ⟨noD, S, [], noD_sound, rfl, hS, by rw [List.append_nil]; exact h⟩
  | cons o os ih =>
    intro S ms κ r hS h
    unfold evDK at h
    cases hst : isStore o with
    | true =>
      rw [hst] at h
      simp only [cond_true] at h
      obtain ⟨D, SV, ms', h1, h2, h3, h4⟩ := ih _ _ _ _ hS h
      refine ⟨D, SV, ⟨S.gh.length, [], []⟩ :: ms', h1, ?_, h3, ?_⟩
      · simp only [evD, hst, if_true, h2, Option.map_some]
        rfl
      · rw [List.append_assoc] at h4
        exact h4
    | false =>
      rw [hst] at h
      simp only [cond_false] at h
      obtain ⟨b, S1, h1, h2, h3, h4, h⟩ := wantK_ok hS h
      have hng : S.st.ng = S1.st.ng := by rw [h2]
      cases b with
      | false =>
        simp only [cond_false] at h
        obtain ⟨S3, g5, g6, _, h⟩ := putK_ok (v := .tup []) h3 (fun x hx => by cases hx) h
        obtain ⟨D, SV, ms', k1, k2, k3, k4⟩ := ih _ _ _ _ g6 h
        refine ⟨D, SV, ⟨S1.gh.length, [], []⟩ :: ms', k1, ?_, k3, ?_⟩
        · simp only [evD, hst, Bool.false_eq_true, if_false, h1, Option.bind_some]
          rw [← h2, show S1.st.put o.dst (.tup []) = some S3.st from g5]
          simp only [Option.bind_some, k2, Option.map_some]
          rfl
        · rw [List.append_assoc] at k4
          exact k4
      | true =>
        simp only [cond_true] at h
        cases hnw : isNew o with
        | false =>
          rw [hnw] at h
          simp only [cond_false] at h
          obtain ⟨v, S2, m1, m2, m3, m4, m5, h⟩ := stepVK_ok (D := noD) hΘ h3 h
          obtain ⟨S3, g5, g6, _, h⟩ := putK_ok m3 (by rw [m4]; exact m5) h
          obtain ⟨D, SV, ms', k1, k2, k3, k4⟩ := ih _ _ _ _ g6 h
          refine ⟨D, SV, ⟨S1.gh.length, [], []⟩ :: ms', k1, ?_, k3, ?_⟩
          · have hV : stepV D P S1.st o = some v.av := by
              rw [← m1]
              have : ∀ D' : Den, stepV D P S1.st o = stepV D' P S1.st o := by
                intro D'
                obtain ⟨dst, op, ty, pos, aft, gd⟩ := o
                cases op with
                | call c =>
                  obtain ⟨cl, as, ts⟩ := c
                  cases cl with
                  | value f => cases hnw
                  | invoke a b => rfl
                  | builtin b => cases b <;> rfl
                | unOp op t x => cases op <;> rfl
                | binOp op t x y t' => cases op <;> rfl
                | makeFunc fn first caps => cases fn <;> rfl
                | slice t x lo hi mx => cases mx <;> rfl
                | _ => rfl
              exact this noD
            simp only [evD, hst, Bool.false_eq_true, if_false, h1, Option.bind_some, if_true, hnw]
            rw [← h2, hV]
            simp only [Option.bind_some]
            rw [← m2, g5]
            simp only [Option.bind_some, k2, Option.map_some]
            rw [m2]; first | rfl | skip
          · rw [List.append_assoc] at k4
            exact k4
        | true =>
          rw [hnw] at h
          simp only [cond_true] at h
          obtain ⟨hc, h⟩ := bif_some h
          simp only [Bool.and_eq_true] at hc
          obtain ⟨D1, v0, v, adds, cons, S2, m1, m2, m3, m4, m5, m6, m7, h⟩ := newK_ok hΘ hY h3 hnw hc.1.2 hc.2 h
          obtain ⟨S3, g5, g6, _, h⟩ := putK_ok m6 m7 h
          obtain ⟨D, SV, ms', k1, k2, k3, k4⟩ := ih _ _ _ _ g6 h
          refine ⟨joinD o.dst D1 D, SV, ⟨S1.st.ng, adds, cons⟩ :: ms', joinD_sound m1 k1, ?_, k3, ?_⟩
          · have hN : stepN (joinD o.dst D1 D) P S1.st o = some (v0, adds, cons) := by
              rw [← m2]
              exact stepN_D (joinD_at _ _ _)
            have hrest : evD (joinD o.dst D1 D) P ops os S3.st = some (SV.st, ms') := by
              rw [← k2]
              refine evD_D os _ (fun o' ho' => joinD_ne _ _ (fun e => ?_))
              have hl := hc.1.1
              unfold lone at hl
              split at hl
              · rename_i d hd
                have := List.all_eq_true.1 hl o' ho'
                unfold lone1 at this
                rw [e, hd] at this
                simp only [Nat.beq_refl, Bool.not_true] at this
                cases this
              · cases hl
            simp only [evD, hst, Bool.false_eq_true, if_false, h1, Option.bind_some, if_true, hnw]
            rw [← h2, hN]
            simp only [Option.bind_some]
            rw [m4, m3, g5]
            simp only [Option.bind_some, hrest, Option.map_some]
            first | rfl | skip
          · rw [List.append_assoc, m5] at k4
            exact k4
theorem evSK_ok (hΘ : TysOk P Θ) (hY : TabOk P Y) {ops : Array Oper} {D : Den} : ∀ (os : List Oper) (S : TS) (κ : TS → Option ρ) (r : ρ), S.ok → evSK Θ Y os S κ = some r →
    ∃ S', evS D P ops os S.st = some (TS.st S') ∧ S'.ok ∧ κ S' = some r := by
  intro os
  induction os with
  | nil => intro S κ r hS h; exact ⟨S, rfl, hS, h⟩
  | cons o os ih =>
    intro S κ r hS h
    unfold evSK at h
    cases hst : isStore o with
    | false =>
      rw [hst] at h
      obtain ⟨S', h1, h2, h3⟩ := ih S κ r hS h
      exact ⟨S', by simp only [evS, hst, Bool.false_eq_true, if_false]; exact h1, h2, h3⟩
    | true =>
      rw [hst] at h
      simp only [cond_true] at h
      obtain ⟨hc, h⟩ := bif_some h
      simp only [Bool.and_eq_true] at hc
      obtain ⟨D', v, S1, g1, g2, g3, g4, h⟩ := stepK_ok hΘ hY hS h
      obtain ⟨S', h1, h2, h3⟩ := ih S1 κ r g3 h
      refine ⟨S', ?_, h2, h3⟩
      have hd : o.dst = none := Option.isNone_iff_eq_none.1 hc.2
      have hs : step D P S.st o = some (v.av, S1.st) := by
        rw [← g2]
        obtain ⟨dst, op, ty, pos, aft, gd⟩ := o
        cases op with
        | store t a x => rfl
        | _ => cases hst
      have ho : one D P S.st o = some S1.st := by
        unfold one
        rw [hs]
        simp only [Option.bind_some, hd, St.put]
      simp only [evS, hst, if_true, ho, Option.bind_some, h1]
      rw [if_pos ⟨hc.1, by rw [hd]; rfl⟩]
theorem simpB_mono {f g : TypeId → Bool} (h : ∀ t, f t = true → g t = true) {t : TypeId} {a : AV} (hs : simpB f t a = true) : simpB g t a = true := by
  cases a <;> simp only [simpB] at hs ⊢ <;> first | exact h t hs | exact hs
theorem looseB_mono {f g : TypeId → Bool} (h : ∀ t, f t = true → g t = true) {ops : List Oper} {B : List (List Nat)} {S SV : St} {i j : Nat} {oi oj : Oper} (hs : looseB f ops B S SV i j oi oj = true) : looseB g ops B S SV i j oi oj = true := by
  unfold looseB at hs ⊢
  split at hs
  · simp only [Bool.and_eq_true] at hs ⊢
    exact ⟨simpB_mono h hs.1, hs.2⟩
  · cases hs
theorem evOk_mono {f g : TypeId → Bool} (h : ∀ t, f t = true → g t = true) {ops : List Oper} {B : List (List Nat)} {S SV : St} {ms : List Made} (hs : evOk f ops B S ms SV = true) : evOk g ops B S ms SV = true := by
  unfold evOk at hs ⊢
  simp only [Bool.and_eq_true] at hs ⊢
  refine ⟨hs.1, List.all_eq_true.2 fun j hj => ?_⟩
  have h1 := List.all_eq_true.1 hs.2 j hj
  split at h1
  · cases h1
  · simp only [Bool.or_eq_true] at h1 ⊢
    refine h1.imp id fun h1 => List.all_eq_true.2 fun i hi => ?_
    have h2 := List.all_eq_true.1 h1 i hi
    split at h2
    · cases h2
    · simp only [Bool.or_eq_true] at h2 ⊢
      exact h2.imp id (looseB_mono h)
theorem flat_ok (hΘ : TysOk P Θ) (t : TypeId) (h : flatΘ Θ t = true) : flatP P t = true := by
  unfold flatΘ at h
  split at h
  · rename_i ti hti
    unfold flatP
    rw [(hΘ t ti hti).sh]
    unfold Ty.flatB at h
    unfold Ty.shs
    rw [List.all_map, List.all_eq_true]
    intro x hx
    have := List.all_eq_true.1 h x hx
    cases x with
    | none => rfl
    | some e => cases this
  · cases h
theorem evRK_ok (hΘ : TysOk P Θ) (hY : TabOk P Y) (hm : P.follows .mixedOrders = true) {id : Nat} {ops : Array Oper} (hok : drawOk P ops = true) (hS : S.ok) {κ : TS → Option ρ} {r : ρ} (h : evRK Θ Y ops.toList S κ = some r) :
    WpM P (.region id ops true) S.st (fun x S' => x = .nor ∧ ∃ S1 : TS, S' = S1.st ∧ S1.ok ∧ κ S1 = some r) := by
  unfold evRK at h
  obtain ⟨D, SV, ms, h1, h2, h3, h4⟩ := evDK_ok hΘ hY _ _ _ _ _ hS h
  obtain ⟨h5, h6⟩ := bif_some h4
  rw [List.nil_append] at h5
  obtain ⟨S', h7, h8, h9⟩ := evSK_ok (D := D) (ops := ops) hΘ hY _ _ _ _ h3 h6
  exact WpM.draw h1 hm hok h2 (evOk_mono (flat_ok hΘ) h5) h7 ⟨rfl, S', rfl, h8, h9⟩

/-! code -/
/-- What is known of the loops is true of them. -/
def loopsIn : Code → List Code
  | .seq a b => loopsIn a ++ loopsIn b
  | .cond _ a b => loopsIn a ++ loopsIn b
  | .block _ c => loopsIn c
  | .loop c => [c]
  | _ => []
def LoopsOk (P : Program) (Λ : Loops) (cs : List Code) : Prop := ∀ c ∈ cs, ∀ (S : TS) (ρ : Type) (κ : X → TS → Option ρ) (r : ρ), S.ok → Λ (key c) S ρ κ = some r → WpM P (.loop c) S.st (fun x S' => ∃ S1 : TS, S' = S1.st ∧ S1.ok ∧ κ x S1 = some r)
theorem evCK_ok (hΘ : TysOk P Θ) (hY : TabOk P Y) (hm : P.follows .mixedOrders = true) {Λ : Loops} : ∀ (c : Code) (S : TS) (κ : X → TS → Option ρ) (r : ρ), codeOk P c = true → LoopsOk P Λ (loopsIn c) → S.ok → evCK Θ Y Λ c S κ = some r →
    WpM P c S.st (fun x S' => ∃ S1 : TS, S' = S1.st ∧ S1.ok ∧ κ x S1 = some r) := by
  intro c
  induction c with
  | skip => intro S κ r _ _ hS h; exact WpM.skip ⟨S, rfl, hS, h⟩
  | exit i => intro S κ r _ _ hS h; exact WpM.exit ⟨S, rfl, hS, h⟩
  | ret => intro S κ r _ _ hS h; exact WpM.ret ⟨S, rfl, hS, h⟩
  | region id ops dr =>
    intro S κ r hok _ hS h
    cases dr with
    | false => exact WpM.region (evLK_ok hΘ hY _ _ _ _ (fun o ho => List.all_eq_true.1 hok o ho) hS h)
    | true =>
      refine (evRK_ok hΘ hY hm hok hS h).mono (fun x S' hx => ?_)
      obtain ⟨rfl, hx⟩ := hx
      exact ⟨S', Weak.refl, hx⟩
  | seq a b iha ihb =>
    intro S κ r hok hL hS h
    simp only [codeOk, Bool.and_eq_true] at hok
    have hLa : LoopsOk P Λ (loopsIn a) := fun c hc => hL c (List.mem_append_left _ hc)
    have hLb : LoopsOk P Λ (loopsIn b) := fun c hc => hL c (List.mem_append_right _ hc)
    unfold evCK at h
    refine WpM.seq ((iha S _ r hok.1 hLa hS h).mono (fun x S' hx => ⟨S', Weak.refl, ?_⟩))
    obtain ⟨S1, rfl, h1, h2⟩ := hx
    cases x with
    | nor => exact ihb S1 κ r hok.2 hLb h1 h2
    | ret => exact ⟨S1, rfl, h1, h2⟩
    | ext i => exact ⟨S1, rfl, h1, h2⟩
  | cond t a b iha ihb =>
    intro S κ r hok hL hS h
    simp only [codeOk, Bool.and_eq_true] at hok
    have hLa : LoopsOk P Λ (loopsIn a) := fun c hc => hL c (List.mem_append_left _ hc)
    have hLb : LoopsOk P Λ (loopsIn b) := fun c hc => hL c (List.mem_append_right _ hc)
    unfold evCK at h
    obtain ⟨v, S1, h1, h2, h3, h4, h⟩ := boolK_ok hS h
    refine WpM.cond h1 ?_
    rw [← h2]
    cases v with
    | true => exact iha S1 κ r hok.1 hLa h3 h
    | false => exact ihb S1 κ r hok.2 hLb h3 h
  | block i c ih =>
    intro S κ r hok hL hS h
    unfold evCK at h
    refine WpM.block ((ih S _ r hok hL hS h).mono (fun x S' hx => ⟨S', Weak.refl, ?_⟩))
    obtain ⟨S1, rfl, h1, h2⟩ := hx
    cases x with
    | nor => exact ⟨S1, rfl, h1, h2⟩
    | ret => exact ⟨S1, rfl, h1, h2⟩
    | ext j =>
      simp only at h2 ⊢
      cases hb : Nat.beq j i with
      | true =>
        rw [hb] at h2
        rw [if_pos (Nat.eq_of_beq_eq_true hb)]
        exact ⟨S1, rfl, h1, h2⟩
      | false =>
        rw [hb] at h2
        rw [if_neg (by intro e; subst e; rw [Nat.beq_refl] at hb; cases hb)]
        exact ⟨S1, rfl, h1, h2⟩
  | loop c ih =>
    intro S κ r hok hL hS h
    exact hL c (List.mem_singleton.2 rfl) S ρ κ r hS h
  | _ => intro S κ r hok; cases hok
end
end Go.Proofs.Ytkifojmjcpdnoaa.En

/- The typed evaluator, part 16: a whole function. -/
namespace Go.Proofs.Ytkifojmjcpdnoaa.En
open Go

section
variable {ρ : Type} {P : Program} {Θ : Tys} {S : TS} {Y : Tab}
theorem expC_ok (hS : S.ok) {gs : List Tre} {et : Option Ty} {c : Cl} (hc : c.ok S.gh) {κ : Cl → List Tre → TS → Option ρ} {r : ρ} (h : expC S gs et c κ = some r) :
    ∃ c' gs' S', exp0 S.st (gs.map Tre.tree) (wid et) c.av = some (Cl.av c', gs'.map Tre.tree, TS.st S') ∧ S'.ok ∧ Gle S.gh S'.gh ∧ Gle (gs.map some) (gs'.map some) ∧ c'.ok (gs'.map some) ∧ κ c' gs' S' = some r := by
  have new : ∀ (t : Ty) (l : List t.D) (n : Nat), n = l.length → (Cl.own ⟨gs.length, []⟩ t.width 0 n true).ok ((gs ++ [(⟨t, l, none⟩ : Tre)]).map some) := by
    intro t l n hn
    refine ⟨by simp, fun _ => ⟨rfl, rfl, fun tr htr => ?_⟩⟩
    rw [List.map_append] at htr
    have e := ghAt_app (G := gs.map some) (x := some (⟨t, l, none⟩ : Tre)) gs.length
    simp only [List.length_map, if_true] at e
    have htr' : ghAt (gs.map some ++ [some (⟨t, l, none⟩ : Tre)]) gs.length = some tr := htr
    rw [e] at htr'
    cases htr'
    exact hn
  have grow : ∀ (x : Tre), Gle (gs.map some) ((gs ++ [x]).map some) := fun x => by rw [List.map_append]; exact Gle.app _ _
  unfold expC at h
  split at h
  · refine ⟨_, _, _, rfl, hS, Gle.refl _, Gle.refl _, ?_, h⟩
    trivial
  · rename_i t
    refine ⟨_, _, S, ?_, hS, Gle.refl _, grow _, new t [] 0 rfl, h⟩
    simp only [Cl.av, exp0, wid, List.length_map, List.map_append, List.map_cons, List.map_nil]
    rfl
  · rename_i p sz lo len w t'
    obtain ⟨pr, pl⟩ := p
    cases pl with
    | cons a l => cases h
    | nil =>
      simp only at h
      obtain ⟨h1, h'⟩ := bif_some h
      clear h
      simp only [Bool.and_eq_true] at h1
      have h2 : S.fz ≤ pr := Nat.le_of_ble_eq_true h1.1
      have h3 : t'.width = sz := Nat.eq_of_beq_eq_true h1.2
      obtain ⟨t, l, k1, k2, h⟩ := lookK_ok h'
      obtain ⟨k3, h⟩ := bif_some h
      have k3 : t.width = sz := Nat.eq_of_beq_eq_true k3
      have fin : ∀ (len : Nat), len ≤ l.length → exp0 S.st (gs.map Tre.tree) (wid (some t')) (.own ⟨pr, []⟩ sz 0 len) = some (.own ⟨gs.length, []⟩ sz 0 len, (gs ++ [(⟨t, l.take len, none⟩ : Tre)]).map Tre.tree, ({ S with gh := setN S.gh pr none } : TS).st) := by
        intro len hlen
        simp only [exp0]
        have hrows : S.st.rows ⟨pr, []⟩ sz = some (l.map t.row) := by rw [← k3]; exact rows_of k1
        rw [if_pos ⟨trivial, by show sz = t'.width; exact h3.symm, trivial, h2⟩, hrows]
        simp only [Option.bind_some, List.length_map]
        rw [if_pos hlen, st_gone]
        simp only [wid, h3, List.map_append, List.map_cons, List.map_nil, Tre.tree, List.map_take, k3]
      cases w with
      | true =>
        obtain ⟨e1, e2, e3⟩ := whole hc k2
        refine ⟨_, _, _, ?_, TS.ok_gh hS (Gle.gone _ _), Gle.gone _ _, grow _, by rw [← k3]; exact new t l _ rfl, h⟩
        have := fin l.length (Nat.le_refl _)
        rw [List.take_length] at this
        simp only [Cl.av]
        rw [e2, e3]
        exact this
      | false =>
        simp only [cond_false] at h
        obtain ⟨h4, h⟩ := iteP_some h
        refine ⟨_, _, _, ?_, TS.ok_gh hS (Gle.gone _ _), Gle.gone _ _, grow _, by rw [← k3]; exact new t (l.take len) _ rfl, h⟩
        have hl : (l.take len).length = len := by simp; omega
        simp only [Cl.av]
        rw [h4.1, hl]
        exact fin len h4.2
  · cases h
theorem expCs_ok : ∀ (ets : List (Option Ty)) (cs : List Cl) (S : TS) (gs : List Tre) (κ : List Cl → List Tre → TS → Option ρ) (r : ρ), S.ok → (∀ c ∈ cs, c.ok S.gh) → expCs S gs ets cs κ = some r →
    ∃ cs' gs' S', expAll S.st (gs.map Tre.tree) (ets.map wid) (cs.map Cl.av) = some (cs'.map Cl.av, gs'.map Tre.tree, TS.st S') ∧ S'.ok ∧ Gle S.gh S'.gh ∧ Gle (gs.map some) (gs'.map some) ∧ (∀ c ∈ cs', c.ok (gs'.map some)) ∧ κ cs' gs' S' = some r := by
  intro ets
  induction ets with
  | nil =>
    intro cs S gs κ r hS hcs h
    cases cs with
    | nil => exact ⟨[], gs, S, rfl, hS, Gle.refl _, Gle.refl _, (fun c hc => by cases hc), h⟩
    | cons c cs => cases h
  | cons et ets ih =>
    intro cs S gs κ r hS hcs h
    cases cs with
    | nil => cases h
    | cons c cs =>
      unfold expCs at h
      obtain ⟨c', g1, S1, h1, h2, h3, h4, h5, h⟩ := expC_ok hS (hcs c List.mem_cons_self) h
      obtain ⟨cs', g2, S2, k1, k2, k3, k4, k5, h⟩ := ih cs S1 g1 _ r h2 (fun x hx => Cl.ok_mono h3 (hcs x (List.mem_cons_of_mem _ hx))) h
      refine ⟨c' :: cs', g2, S2, ?_, k2, h3.trans k3, h4.trans k4, fun x hx => ?_, h⟩
      · simp only [List.map_cons, expAll, h1, Option.bind_some, k1, Option.map_some]
      · rcases List.mem_cons.1 hx with rfl | hx
        · exact Cl.ok_mono k4 h5
        · exact k5 x hx
theorem expV_ok (hΘ : TysOk P Θ) (hS : S.ok) {gs : List Tre} {t : TypeId} {v : V} (hv : v.ok S.gh) {κ : V1 → List Tre → TS → Option ρ} {r : ρ} (h : expV Θ S gs t v κ = some r) :
    ∃ v' gs' S', exp1 P S.st (gs.map Tre.tree) t v.av = some (V1.av v', gs'.map Tre.tree, TS.st S') ∧ S'.ok ∧ Gle S.gh S'.gh ∧ Gle (gs.map some) (gs'.map some) ∧ v'.ok (gs'.map some) ∧ κ v' gs' S' = some r := by
  unfold expV at h
  split at h
  · cases h
  · rename_i ti hti
    have hsh := (hΘ _ _ hti).sh
    split at h
    · rename_i cs
      obtain ⟨cs', g1, S1, h1, h2, h3, h4, h5, h⟩ := expCs_ok _ _ _ _ _ _ hS hv h
      refine ⟨.agg cs', g1, S1, ?_, h2, h3, h4, h5, h⟩
      simp only [V.av, V1.av, exp1, hsh]
      rw [show ti.ty.shs = ti.ty.csh.map wid from rfl, h1]
      rfl
    · rename_i c
      obtain ⟨c', g1, S1, h1, h2, h3, h4, h5, h⟩ := expC_ok hS hv h
      refine ⟨.cl c', g1, S1, ?_, h2, h3, h4, h5, h⟩
      have e : exp1 P S.st (gs.map Tre.tree) t (V.v (.cl c)).av = exp0 S.st (gs.map Tre.tree) ((shT P 9 t).headD 0) c.av := by
        cases c with
        | c x => cases x <;> rfl
        | _ => rfl
      rw [e, hsh]
      have e2 : ti.ty.shs.headD 0 = wid (ti.ty.csh.headD none) := by
        unfold Ty.shs
        cases ti.ty.csh with
        | nil => rfl
        | cons a l => cases a <;> rfl
      rw [e2]
      exact h1
    · cases h
theorem expVs_ok (hΘ : TysOk P Θ) : ∀ (rs : List (TypeId × V)) (S : TS) (gs : List Tre) (κ : List V1 → List Tre → Option ρ) (r : ρ), S.ok → (∀ x ∈ rs, x.2.ok S.gh) → expVs Θ S gs rs κ = some r →
    ∃ vs gs', exps P S.st (gs.map Tre.tree) (rs.map fun x => (x.1, x.2.av)) = some (vs.map V1.av, gs'.map Tre.tree) ∧ Gle (gs.map some) (gs'.map some) ∧ (∀ v ∈ vs, v.ok (gs'.map some)) ∧ vs.length = rs.length ∧ κ vs gs' = some r := by
  intro rs
  induction rs with
  | nil => intro S gs κ r hS hrs h; exact ⟨[], gs, rfl, Gle.refl _, (fun v hv => by cases hv), rfl, h⟩
  | cons x rs ih =>
    intro S gs κ r hS hrs h
    obtain ⟨t, v⟩ := x
    unfold expVs at h
    obtain ⟨v', g1, S1, h1, h2, h3, h4, h5, h⟩ := expV_ok hΘ hS (hrs _ List.mem_cons_self) h
    obtain ⟨vs, g2, k1, k2, k3, k4, h⟩ := ih S1 g1 _ r h2 (fun x hx => V.ok_mono h3 (hrs x (List.mem_cons_of_mem _ hx))) h
    refine ⟨v' :: vs, g2, ?_, h4.trans k2, fun y hy => ?_, by simp [k4], h⟩
    · simp only [List.map_cons, exps, h1, Option.bind_some, k1, Option.map_some]
    · rcases List.mem_cons.1 hy with rfl | hy
      · exact V1.ok_mono k2 h5
      · exact k3 y hy
theorem resK_ok (hΘ : TysOk P Θ) (hS : S.ok) : ∀ (rs : List ResultVar) (ts : List TypeId) (κ : List (TypeId × V) → Option ρ) (r : ρ), resK Θ S rs ts κ = some r →
    ∃ l : List (TypeId × V), rs.mapM (resAV P S.st) = some (l.map fun x => x.2.av) ∧ l.map (·.1) = ts ∧ (∀ x ∈ l, x.2.ok S.gh) ∧ κ l = some r := by
  intro rs
  induction rs with
  | nil =>
    intro ts κ r h
    cases ts with
    | nil => exact ⟨[], rfl, rfl, (fun x hx => by cases hx), h⟩
    | cons t ts => cases h
  | cons a rs ih =>
    intro ts κ r h
    cases ts with
    | nil => cases a <;> cases h
    | cons t ts =>
      cases a with
      | tmp a =>
        unfold resK at h
        obtain ⟨l, h1, h2, h3, h⟩ := ih ts _ r h
        refine ⟨(t, getV S.env a) :: l, ?_, by simp [h2], fun x hx => ?_, h⟩
        · simp only [List.mapM_cons, h1, resAV]
          rfl
        · rcases List.mem_cons.1 hx with rfl | hx
          · exact getV_ok hS a
          · exact h3 x hx
      | cell a t' =>
        unfold resK at h
        have hw : 0 < P.cellsOf t' := by
          have h' := h
          unfold loadK at h'
          split at h'
          · rename_i ti hti
            rw [(hΘ _ _ hti).cells]
            exact Ty.width_pos _
          · cases h'
        obtain ⟨u, g1, g2, h⟩ := loadK_ok hΘ hS (getV_ok hS a) h
        obtain ⟨l, h1, h2, h3, h⟩ := ih ts _ r h
        refine ⟨(t, u) :: l, ?_, by simp [h2], fun x hx => ?_, h⟩
        · simp only [List.mapM_cons, h1, resAV]
          rw [if_pos hw]
          have : load P S.st t' (S.st.env a) = some u.av := g1
          rw [this]
          rfl
        · rcases List.mem_cons.1 hx with rfl | hx
          · exact g2
          · exact h3 x hx
theorem zip_fst {α β γ : Type} (f : α × β → γ) : ∀ l : List (α × β), (l.map (·.1)).zip (l.map f) = l.map fun x => (x.1, f x)
  | [] => rfl
  | a :: l => by simp only [List.map_cons, List.zip_cons_cons, zip_fst f l]
theorem oneV_av (vs : List V1) : (oneV vs).av = one1 (vs.map V1.av) := by
  match vs with
  | [] => rfl
  | [v] => rfl
  | v :: u :: vs => rfl
theorem number_get : ∀ (args : List V1) (n t : Nat), (getV (number n args) (n + t)).av = (args.map V1.av).getD t .dead
  | [], n, t => by simp [number, getV]; rfl
  | a :: l, n, 0 => by simp [number, getV]; rfl
  | a :: l, n, t + 1 => by
    have : Nat.beq n (n + (t + 1)) = false := by
      cases h : Nat.beq n (n + (t + 1)) with
      | false => rfl
      | true => have := Nat.eq_of_beq_eq_true h; omega
    simp only [number, getV, this, cond_false]
    rw [show n + (t + 1) = (n + 1) + t by omega, number_get l (n + 1) t]
    simp
theorem number_mem : ∀ (args : List V1) (n : Nat) (x : Nat × V), x ∈ number n args → ∃ a ∈ args, x.2 = .v a
  | [], n, x, h => by cases h
  | a :: l, n, x, h => by
    simp only [number, List.mem_cons] at h
    rcases h with rfl | h
    · exact ⟨a, List.mem_cons_self, rfl⟩
    · obtain ⟨b, hb, he⟩ := number_mem l (n + 1) x h
      exact ⟨b, List.mem_cons_of_mem _ hb, he⟩
theorem fnK_ok (hΘ : TysOk P Θ) (hY : TabOk P Y) (hm : P.follows .mixedOrders = true) {Λ : Loops} {f : FuncId} {fn : Func} (hf : fnT P f = some fn) (hL : ∀ c, fn.body = some c → LoopsOk P Λ (loopsIn c)) {args : List V1} (ha : ∀ a ∈ args, a.ok []) {res : V} {out : List Tre}
    (h : fnK Θ Y Λ fn args (fun v g => some (v, g)) = some (res, out)) : SoundC P f (args.map V1.av) [] res.av (out.map Tre.tree) := by
  unfold fnK at h
  split at h
  · cases h
  · rename_i c hc
    have hcok : codeOk P c = true := by
      unfold fnT at hf
      simp only [Option.bind_eq_some_iff] at hf
      obtain ⟨fn', g1, g2⟩ := hf
      split at g2
      · cases g2
      · rename_i c' hc'
        split at g2
        · cases g2
        · rename_i hn
          simp only [Option.some.injEq] at g2
          subst g2
          rw [hc] at hc'
          simp only [Option.some.injEq] at hc'
          subst hc'
          simp only [Bool.or_eq_true, not_or, Bool.not_eq_true, Bool.not_eq_false'] at hn
          exact hn.2
    have hS0 : ({ env := number 0 args, bx := [], gh := [], fz := 0, nt := args.length + (fn.ntmps - args.length) } : TS).ok :=
      ⟨fun x hx => by obtain ⟨a, h1, h2⟩ := number_mem _ _ _ hx; rw [h2]; exact ha a h1, fun cs hcs => by cases hcs⟩
    have hbeg : ({ env := number 0 args, bx := [], gh := [], fz := 0, nt := args.length + (fn.ntmps - args.length) } : TS).st = begS fn.ntmps (args.map V1.av) [] := by
      unfold TS.st begS
      simp only [List.length_map, List.length_nil]
      congr 1
      funext t
      have := number_get args 0 t
      rw [Nat.zero_add] at this
      exact this
    have hW := evCK_ok hΘ hY hm c _ _ _ hcok (hL c hc) hS0 h
    rw [hbeg] at hW
    have key : ∀ (x : X) (S1 : TS), S1.ok → (match x with | .ext _ => none | _ => resK Θ S1 fn.results.toList fn.resultTypes.toList fun rs => expVs Θ S1 [] rs fun vs gs => some (oneV vs, gs)) = some (res, out) →
        (match x with | .ext _ => False | _ => endS P fn.results.toList fn.resultTypes.toList 0 S1.st = some (res.av, out.map Tre.tree)) := by
      intro x S1 hS1 h
      have main : (resK Θ S1 fn.results.toList fn.resultTypes.toList fun rs => expVs Θ S1 [] rs fun vs gs => some (oneV vs, gs)) = some (res, out) → endS P fn.results.toList fn.resultTypes.toList 0 S1.st = some (res.av, out.map Tre.tree) := by
        intro h
        obtain ⟨l, h1, h2, h3, h⟩ := resK_ok (P := P) hΘ hS1 _ _ _ _ h
        obtain ⟨vs, gs', k1, k2, k3, k4, h⟩ := expVs_ok (P := P) hΘ _ _ _ _ _ hS1 h3 h
        simp only [Option.some.injEq, Prod.mk.injEq] at h
        obtain ⟨rfl, rfl⟩ := h
        unfold endS
        rw [h1]
        simp only [Option.bind_some, List.length_map]
        have hz : (fn.resultTypes.toList.zip (l.map fun x => x.2.av)) = l.map fun x => (x.1, x.2.av) := by
          rw [← h2]
          exact zip_fst _ l
        rw [if_pos (by rw [← h2]; simp), hz]
        have k1' : exps P S1.st [] (l.map fun x => (x.1, x.2.av)) = some (vs.map V1.av, gs'.map Tre.tree) := k1
        simp only [List.range_zero, List.map_nil, k1', Option.map_some, oneV_av]
      cases x with
      | ext i => cases h
      | nor => exact main h
      | ret => exact main h
    refine body_soundM hf hc (hW.mono (fun x S' hx => ⟨S', Weak.refl, ?_⟩))
    obtain ⟨S1, rfl, h1, h2⟩ := hx
    have := key x S1 h1 h2
    cases x <;> exact this
theorem number_zero (a : List V1) (t : Nat) : (getV (number 0 a) t).av = (a.map V1.av).getD t .dead := by
  have := number_get a 0 t
  rwa [Nat.zero_add] at this
/-- A function that a slice is handed over to. -/
theorem fnHK_ok (hΘ : TysOk P Θ) (hY : TabOk P Y) (hm : P.follows .mixedOrders = true) {Λ : Loops} {f : FuncId} {fn : Func} (hf : fnT P f = some fn) (hL : ∀ c, fn.body = some c → LoopsOk P Λ (loopsIn c)) {m : Nat} (hm1 : m ≤ 1) {el : Ty} {l : List el.D} {args : List V1} (ha : ∀ a ∈ args, a.ok []) {res : V} {out : List Tre}
    (h : fnHK Θ Y Λ fn m el l args (fun v g => some (v, g)) = some (res, out)) : SoundK P f (.own ⟨0, []⟩ el.width 0 l.length :: args.map V1.av) [.sl el.width (l.map el.row)] m res.av (out.map Tre.tree) := by
  unfold fnHK at h
  split at h
  · cases h
  · rename_i c hc
    have hcok : codeOk P c = true := by
      unfold fnT at hf
      simp only [Option.bind_eq_some_iff] at hf
      obtain ⟨fn', g1, g2⟩ := hf
      split at g2
      · cases g2
      · rename_i c' hc'
        split at g2
        · cases g2
        · rename_i hn
          simp only [Option.some.injEq] at g2
          subst g2
          rw [hc] at hc'
          simp only [Option.some.injEq] at hc'
          subst hc'
          simp only [Bool.or_eq_true, not_or, Bool.not_eq_true, Bool.not_eq_false'] at hn
          exact hn.2
    have hS0 : ({ env := number 0 (.cl (.own ⟨0, []⟩ el.width 0 l.length true) :: args), bx := [], gh := [some ⟨el, l, none⟩], fz := m, nt := (args.length + 1) + (fn.ntmps - (args.length + 1)) } : TS).ok :=
      ⟨fun x hx => by
        obtain ⟨a, h1, h2⟩ := number_mem _ _ _ hx
        rw [h2]
        rcases List.mem_cons.1 h1 with rfl | h1
        · refine ⟨Nat.zero_lt_one, fun _ => ⟨rfl, rfl, fun tr htr => ?_⟩⟩
          have htr : some (⟨el, l, none⟩ : Tre) = some tr := htr
          cases htr
          rfl
        · exact V1.ok_mono (G := []) ⟨Nat.zero_le _, fun r tr hr => by cases hr⟩ (ha a h1), fun cs hcs => by cases hcs⟩
    have hbeg : ({ env := number 0 (.cl (.own ⟨0, []⟩ el.width 0 l.length true) :: args), bx := [], gh := [some ⟨el, l, none⟩], fz := m, nt := (args.length + 1) + (fn.ntmps - (args.length + 1)) } : TS).st = begK fn.ntmps (.own ⟨0, []⟩ el.width 0 l.length :: args.map V1.av) [.sl el.width (l.map el.row)] m := by
      unfold TS.st begK begS
      simp only [List.length_map, List.length_cons, List.length_nil]
      congr 1
      · funext t
        exact number_zero _ t
      · funext r
        show (ghAt [some ⟨el, l, none⟩] r).map Tre.tree = [T.sl el.width (l.map el.row)][r]?
        unfold ghAt
        rw [nth_eq]
        cases r <;> rfl
    have hW := evCK_ok hΘ hY hm c _ _ _ hcok (hL c hc) hS0 h
    rw [hbeg] at hW
    have fin : ∀ (S1 : TS), S1.ok → ∀ gs : List Tre, ((List.range m).map fun r => (S1.st.gh r).getD .dd) = gs.map Tre.tree → ∀ l, (fn.results.toList.mapM (resAV P S1.st)) = some (l.map fun x : TypeId × V => x.2.av) → l.map (·.1) = fn.resultTypes.toList → (∀ x ∈ l, x.2.ok S1.gh) →
        (expVs Θ S1 gs l fun vs gs => some (oneV vs, gs)) = some (res, out) → endS P fn.results.toList fn.resultTypes.toList m S1.st = some (res.av, out.map Tre.tree) := by
      intro S1 hS1 gs hgs l h1 h2 h3 h
      obtain ⟨vs, gs', k1, k2, k3, k4, h⟩ := expVs_ok (P := P) hΘ _ _ _ _ _ hS1 h3 h
      simp only [Option.some.injEq, Prod.mk.injEq] at h
      obtain ⟨rfl, rfl⟩ := h
      unfold endS
      rw [h1]
      simp only [Option.bind_some, List.length_map]
      have hz : (fn.resultTypes.toList.zip (l.map fun x => x.2.av)) = l.map fun x => (x.1, x.2.av) := by
        rw [← h2]
        exact zip_fst _ l
      rw [if_pos (by rw [← h2]; simp), hz, hgs, k1]
      simp only [Option.map_some, oneV_av]
    have main : ∀ (S1 : TS), S1.ok → (resK Θ S1 fn.results.toList fn.resultTypes.toList fun rs => bif Nat.beq m 0 then expVs Θ S1 [] rs fun vs gs => some (oneV vs, gs) else match ghAt S1.gh 0 with
        | some ⟨t, l', none⟩ => expVs Θ S1 [⟨t, l', none⟩] rs fun vs gs => some (oneV vs, gs)
        | _ => none) = some (res, out) → endS P fn.results.toList fn.resultTypes.toList m S1.st = some (res.av, out.map Tre.tree) := by
      intro S1 hS1 h0
      obtain ⟨l, h1, h2, h3, h⟩ := resK_ok (P := P) hΘ hS1 _ _ _ _ h0
      clear h0
      cases hm0 : Nat.beq m 0 with
      | true =>
        rw [hm0] at h
        have e : m = 0 := Nat.eq_of_beq_eq_true hm0
        exact fin S1 hS1 [] (by rw [e]; rfl) l h1 h2 h3 h
      | false =>
        rw [hm0] at h
        simp only [cond_false] at h
        have e : m = 1 := by
          have : m ≠ 0 := fun e => by rw [e] at hm0; cases hm0
          omega
        split at h
        · rename_i t l' hg
          exact fin S1 hS1 [⟨t, l', none⟩] (by
            rw [e]
            show [(S1.st.gh 0).getD .dd] = _
            have : S1.st.gh 0 = some (Tre.tree ⟨t, l', none⟩) := by
              show (ghAt S1.gh 0).map Tre.tree = _
              rw [hg]
              rfl
            rw [this]
            rfl) l h1 h2 h3 h
        · cases h
    refine body_soundK hf hc (by simpa using hm1) (hW.mono (fun x S' hx => ⟨S', Weak.refl, ?_⟩))
    obtain ⟨S1, rfl, h1, h2⟩ := hx
    cases x with
    | ext i => cases h2
    | nor => exact main S1 h1 h2
    | ret => exact main S1 h1 h2
end
end Go.Proofs.Ytkifojmjcpdnoaa.En

/- The typed evaluator, part 17: a state told anew: what is not kept is forgotten, boxes and slices are numbered anew. -/
namespace Go.Proofs.Ytkifojmjcpdnoaa.En
open Go

def posN : List Nat → Nat → Nat → Option Nat
  | [], _, _ => none
  | a :: l, x, n => bif Nat.beq a x then some n else posN l x (n + 1)
def renC (bs ls : List Nat) : Cl → Cl
  | .own p sz lo len w => match posN ls p.r 0 with | some k => .own ⟨k, p.l⟩ sz lo len w | none => .dead
  | .ptrT p sz i j => match posN ls p.r 0 with | some k => .ptrT ⟨k, p.l⟩ sz i j | none => .dead
  | .ptrB n j => match posN bs n 0 with | some k => .ptrB k j | none => .dead
  | c => c
def renV1 (bs ls : List Nat) : V1 → V1
  | .cl c => .cl (renC bs ls c)
  | .agg cs => .agg (cs.map (renC bs ls))
  | .fn f cs => .fn f (cs.map (renC bs ls))
def renV (bs ls : List Nat) : V → V
  | .v x => .v (renV1 bs ls x)
  | .tup _ => V.dead
def dedup : List Nat → List Nat → List Nat
  | [], acc => acc
  | a :: l, acc => match posN acc a 0 with | some _ => dedup l acc | none => dedup l (acc ++ [a])
def nodupB : List Nat → Bool
  | [] => true
  | a :: l => (match posN l a 0 with | some _ => false | none => true) && nodupB l
def boxC : Cl → List Nat | .ptrB n _ => [n] | _ => []
def labC : Cl → List Nat | .own p _ _ _ _ => [p.r] | .ptrT p _ _ _ => [p.r] | _ => []
def V1.all : V1 → List Cl | .cl c => [c] | .agg cs => cs | .fn _ cs => cs
def V.all : V → List Cl | .v x => x.all | .tup _ => []
def keptB (S : TS) (keep : List Nat) : List Nat := dedup (keep.flatMap fun t => (getV S.env t).all.flatMap boxC) []
def keptL (S : TS) (keep bs : List Nat) : List Nat := dedup (List.range S.fz ++ (keep.flatMap fun t => (getV S.env t).all.flatMap labC) ++ bs.flatMap fun b => ((nth S.bx b).getD []).flatMap labC) []
def retold (S : TS) (keep bs ls : List Nat) : TS where
  env := keep.map fun t => (t, renV bs ls (getV S.env t))
  bx := bs.map fun b => ((nth S.bx b).getD []).map (renC bs ls)
  gh := ls.map fun r => ghAt S.gh r
  fz := S.fz
  nt := S.nt
def canonOk (S : TS) (bs ls : List Nat) : Bool := nodupB bs && nodupB ls && bs.all (fun b => Nat.blt b S.bx.length) && eqN (ls.take S.fz) (List.range S.fz) && ls.all (fun r => Nat.blt r S.gh.length)
/-- A whole slice's length, told by its rows. -/
def fixC (G : List (Option Tre)) : Cl → Cl
  | .own p sz lo len true => .own p sz lo (match nth G p.r with | some (some tr) => tr.l.length | _ => len) true
  | c => c
def fixV1 (G : List (Option Tre)) : V1 → V1
  | .cl c => .cl (fixC G c)
  | .agg cs => .agg (cs.map (fixC G))
  | .fn f cs => .fn f (cs.map (fixC G))
def fixV (G : List (Option Tre)) : V → V
  | .v x => .v (fixV1 G x)
  | .tup l => .tup (l.map (fixV1 G))
def fixS (S : TS) : TS := { S with env := S.env.map (fun x => (x.1, fixV S.gh x.2)), bx := S.bx.map (fun cs => cs.map (fixC S.gh)) }
def canonK {ρ : Type} (keep : List Nat) (S : TS) (κ : TS → Option ρ) : Option ρ := bif canonOk S (keptB S keep) (keptL S keep (keptB S keep)) then κ (fixS (retold S keep (keptB S keep) (keptL S keep (keptB S keep)))) else none

theorem posN_some : ∀ {l : List Nat} {x n k : Nat}, posN l x n = some k → n ≤ k ∧ l[k - n]? = some x
  | [], x, n, k, h => by cases h
  | a :: l, x, n, k, h => by
    simp only [posN] at h
    cases hb : Nat.beq a x with
    | true =>
      rw [hb] at h
      simp only [cond_true, Option.some.injEq] at h
      subst h
      exact ⟨Nat.le_refl _, by simp [Nat.eq_of_beq_eq_true hb]⟩
    | false =>
      rw [hb] at h
      obtain ⟨h1, h2⟩ := posN_some (l := l) h
      refine ⟨by omega, ?_⟩
      rw [show k - n = (k - (n + 1)) + 1 by omega, List.getElem?_cons_succ]
      exact h2
theorem posN_none : ∀ {l : List Nat} {x n : Nat}, posN l x n = none → x ∉ l
  | [], x, n, _ => by simp
  | a :: l, x, n, h => by
    simp only [posN] at h
    cases hb : Nat.beq a x with
    | true => rw [hb] at h; cases h
    | false =>
      rw [hb] at h
      have := posN_none (l := l) h
      intro hm
      rcases List.mem_cons.1 hm with rfl | hm
      · rw [Nat.beq_refl] at hb; cases hb
      · exact this hm
theorem nodupB_inj : ∀ {l : List Nat}, nodupB l = true → ∀ (i j x : Nat), l[i]? = some x → l[j]? = some x → i = j
  | [], _, i, j, x, hi, _ => by simp at hi
  | a :: l, h, i, j, x, hi, hj => by
    simp only [nodupB, Bool.and_eq_true] at h
    have hna : a ∉ l := by
      have h1 := h.1
      split at h1
      · cases h1
      · rename_i hp; exact posN_none hp
    cases i with
    | zero =>
      simp only [List.getElem?_cons_zero, Option.some.injEq] at hi
      subst hi
      cases j with
      | zero => rfl
      | succ j => simp only [List.getElem?_cons_succ] at hj; exact absurd (List.mem_of_getElem? hj) hna
    | succ i =>
      simp only [List.getElem?_cons_succ] at hi
      cases j with
      | zero =>
        simp only [List.getElem?_cons_zero, Option.some.injEq] at hj
        subst hj
        exact absurd (List.mem_of_getElem? hi) hna
      | succ j =>
        simp only [List.getElem?_cons_succ] at hj
        rw [nodupB_inj h.2 i j x hi hj]

def Bt.ren (bt : Bt) (bs ls : List Nat) : Bt where
  β := fun p => bt.β ⟨ls.getD p.r 0, p.l⟩
  κ := fun p => bt.κ ⟨ls.getD p.r 0, p.l⟩
  bb := fun n => bt.bb (bs.getD n 0)
  nb := bs.length
  ng := ls.length
  A := bt.A
theorem renC_VR {w : World} {bt : Bt} {bs ls : List Nat} {c : Cl} {u : Value} (h : VR w bt c.av u) : VR w (bt.ren bs ls) (renC bs ls c).av u := by
  have lt : ∀ {l : List Nat} {x k : Nat}, posN l x 0 = some k → k < l.length ∧ l.getD k 0 = x := by
    intro l x k hk
    obtain ⟨_, h2⟩ := posN_some hk
    rw [Nat.sub_zero] at h2
    exact ⟨(List.getElem?_eq_some_iff.1 h2).1, by simp [List.getD_eq_getElem?_getD, h2]⟩
  cases c with
  | c x =>
    cases x with
    | sc v => cases h with | sc h => exact .sc h
    | ls t l => cases h with | ro h => exact .ro h
  | em => cases h with | em a => exact .em a
  | own p sz lo len wh =>
    simp only [renC]
    split
    · rename_i k hk
      obtain ⟨h1, h2⟩ := lt hk
      have hp : (⟨ls.getD k 0, p.l⟩ : Pos) = p := by rw [h2]
      have e1 : (bt.ren bs ls).κ ⟨k, p.l⟩ = bt.κ p := by
        have e : (bt.ren bs ls).κ ⟨k, p.l⟩ = bt.κ (Pos.mk (ls.getD k 0) p.l) := rfl
        rw [e, hp]
      have e2 : (bt.ren bs ls).β ⟨k, p.l⟩ = bt.β p := by
        have e : (bt.ren bs ls).β ⟨k, p.l⟩ = bt.β (Pos.mk (ls.getD k 0) p.l) := rfl
        rw [e, hp]
      cases h with
      | own hp' hc hkk ha => exact .own h1 hc (by rw [e1]; exact hkk) (by rw [e2]; exact ha)
    · exact .dead _
  | pro cs => cases h with | pro cs hs hA hr ht => exact .pro cs hs hA hr ht
  | ptrB n j =>
    simp only [renC]
    split
    · rename_i k hk
      obtain ⟨h1, h2⟩ := lt hk
      cases h with
      | ptrB j hn =>
        have : bt.bb n = (bt.ren bs ls).bb k := by show bt.bb n = bt.bb (bs.getD k 0); rw [h2]
        rw [this]
        exact .ptrB j h1
    · exact .dead _
  | ptrT p sz i j =>
    simp only [renC]
    split
    · rename_i k hk
      obtain ⟨h1, h2⟩ := lt hk
      have hp : (⟨ls.getD k 0, p.l⟩ : Pos) = p := by rw [h2]
      cases h with
      | ptrT sz i j hp' hkk =>
        have e1 : bt.β p = (bt.ren bs ls).β ⟨k, p.l⟩ := by show bt.β p = bt.β ⟨ls.getD k 0, p.l⟩; rw [hp]
        rw [e1]
        exact .ptrT sz i j h1 (by show _ < bt.κ ⟨ls.getD k 0, p.l⟩; rw [hp]; exact hkk)
    · exact .dead _
  | dead => exact .dead _
theorem renV1_VR {w : World} {bt : Bt} {bs ls : List Nat} {v : V1} {u : Value} (h : VR w bt v.av u) : VR w (bt.ren bs ls) (renV1 bs ls v).av u := by
  have cells : ∀ (cs : List Cl) (us : List Value), us.length = cs.length → (∀ (k : Nat) (c : AV) (u : Value), (cs.map Cl.av)[k]? = some c → us[k]? = some u → VR w bt c u) → ∀ (k : Nat) (c : AV) (u : Value), ((cs.map (renC bs ls)).map Cl.av)[k]? = some c → us[k]? = some u → VR w (bt.ren bs ls) c u := by
    intro cs us _ hr k c u hk hu
    rw [List.getElem?_map, List.getElem?_map] at hk
    simp only [Option.map_eq_some_iff] at hk
    obtain ⟨c1, ⟨c0, hc0, rfl⟩, rfl⟩ := hk
    exact renC_VR (hr k c0.av u (by rw [List.getElem?_map, hc0]; rfl) hu)
  cases v with
  | cl c => exact renC_VR h
  | agg cs =>
    simp only [V1.av] at h
    cases h with
    | agg hl ho hr =>
      exact .agg (by simpa using hl) ho (cells cs _ (by simpa using hl) hr)
  | fn f cs =>
    simp only [V1.av] at h
    cases h with
    | fn f hl hr =>
      exact .fn f (by simpa using hl) (cells cs _ (by simpa using hl) hr)
theorem renV_VR {w : World} {bt : Bt} {bs ls : List Nat} {v : V} {u : Value} (h : VR w bt v.av u) : VR w (bt.ren bs ls) (renV bs ls v).av u := by
  cases v with
  | v x => exact renV1_VR h
  | tup l => exact .dead _
theorem getV_keep (S : TS) (f : V → V) : ∀ (keep : List Nat) (t : Nat), getV (keep.map fun t => (t, f (getV S.env t))) t = V.dead ∨ getV (keep.map fun t => (t, f (getV S.env t))) t = f (getV S.env t)
  | [], t => .inl rfl
  | u :: l, t => by
    simp only [List.map_cons, getV]
    cases hb : Nat.beq u t with
    | true => rw [Nat.eq_of_beq_eq_true hb]; exact .inr rfl
    | false => exact getV_keep S f l t
theorem retold_gh (S : TS) (keep bs ls : List Nat) (r : Nat) : ghAt (retold S keep bs ls).gh r = (ls[r]?).bind fun q => ghAt S.gh q := by
  show (nth (ls.map fun r => ghAt S.gh r) r).getD none = _
  rw [nth_eq, List.getElem?_map]
  cases ls[r]? <;> rfl

theorem retold_weak {S : TS} {keep bs ls : List Nat} (h : canonOk S bs ls = true) : Weak S.st (retold S keep bs ls).st := by
  unfold canonOk at h
  simp only [Bool.and_eq_true] at h
  obtain ⟨⟨⟨⟨hnb, hnl⟩, hbs⟩, hfz⟩, hlt⟩ := h
  have hfz := eqN_eq hfz
  intro w0 W btI SI bt a w hl
  have inv := hl.inv
  have hls : ∀ (k : Nat), k < S.fz → ls[k]? = some k := by
    intro k hk
    have : (ls.take S.fz)[k]? = (List.range S.fz)[k]? := by rw [hfz]
    rw [List.getElem?_take, if_pos hk, List.getElem?_range hk] at this
    exact this
  have look : ∀ p s rs, (retold S keep bs ls).st.look p = .sl s rs → ∃ q, ls[p.r]? = some q ∧ S.st.look ⟨q, p.l⟩ = .sl s rs ∧ ls.getD p.r 0 = q := by
    intro p s rs hp
    unfold St.look at hp
    have e : (retold S keep bs ls).st.gh p.r = ((ls[p.r]?).bind fun q => ghAt S.gh q).map Tre.tree := by
      show (ghAt _ _).map Tre.tree = _
      rw [retold_gh]
    rw [e] at hp
    cases hq : ls[p.r]? with
    | none => rw [hq] at hp; cases hp
    | some q =>
      refine ⟨q, rfl, ?_, by simp [List.getD_eq_getElem?_getD, hq]⟩
      rw [hq] at hp
      exact hp
  have box : ∀ n cells, (retold S keep bs ls).st.bx n = some cells → ∃ b cs, bs[n]? = some b ∧ S.bx[b]? = some cs ∧ cells = (cs.map (renC bs ls)).map Cl.av ∧ bs.getD n 0 = b := by
    intro n cells hn
    have hn' : (nth (bs.map fun b => ((nth S.bx b).getD []).map (renC bs ls)) n).map (fun cs => cs.map Cl.av) = some cells := hn
    rw [nth_eq, List.getElem?_map] at hn'
    simp only [Option.map_eq_some_iff] at hn'
    obtain ⟨x, ⟨b, hb, rfl⟩, rfl⟩ := hn'
    have hlt' : b < S.bx.length := Nat.le_of_ble_eq_true (List.all_eq_true.1 hbs b (List.mem_of_getElem? hb))
    refine ⟨b, S.bx[b], hb, List.getElem?_eq_getElem hlt', ?_, by simp [List.getD_eq_getElem?_getD, hb]⟩
    rw [nth_eq, List.getElem?_eq_getElem hlt']
    rfl
  have bxS : ∀ {b : Nat} {cs : List Cl}, S.bx[b]? = some cs → S.st.bx b = some (cs.map Cl.av) := by
    intro b cs hb
    show (nth S.bx b).map _ = _
    rw [nth_eq, hb]
    rfl
  refine ⟨bt.ren bs ls, ?_⟩
  refine ⟨{ os := inv.os, tape := inv.tape, output := inv.output, size := inv.size, keep := inv.keep
            nb := by show bs.length = _; simp [TS.st, retold]
            ng := by show ls.length = _; simp [TS.st, retold]
            bx := fun n cells hn => ?_
            gh := fun r t hr => ?_
            tr := fun p sz rows hp => ?_
            inj := fun p q s rs s' rs' hp hq hk hk' he => ?_
            bbinj := fun n m cs cs' hn hm he => ?_
            bbtr := fun n cs p s rs hn hp hk => ?_
            alt := inv.alt
            atr := fun p s rs hp hk => ?_
            abb := fun n cs hn => ?_ }, ⟨hl.er.1, fun t => ?_⟩, hl.defers, hl.fz, ?_, fun p hp => ?_, fun r hr hn => ?_⟩
  · obtain ⟨b, cs, h1, h2, rfl, h4⟩ := box n cells hn
    obtain ⟨g1, g2, arr, e, g3, g4, g5⟩ := inv.bx b _ (bxS h2)
    refine ⟨by show n < _; have := (List.getElem?_eq_some_iff.1 h1).1; simpa [TS.st, retold] using this, by show _ ≤ bt.bb (bs.getD n 0); rw [h4]; exact g2, arr, e, by show w.heap[bt.bb (bs.getD n 0)]? = _; rw [h4]; exact g3, by simpa using g4, fun j v hj => ?_⟩
    rw [List.getElem?_map, List.getElem?_map] at hj
    simp only [Option.map_eq_some_iff] at hj
    obtain ⟨c1, ⟨c0, hc0, rfl⟩, rfl⟩ := hj
    obtain ⟨c, k1, k2, k3⟩ := g5 j c0.av (by rw [List.getElem?_map, hc0]; rfl)
    exact ⟨c, k1, renC_VR k2, k3⟩
  · have hr' : (ghAt (retold S keep bs ls).gh r).map Tre.tree = some t := hr
    rw [retold_gh] at hr'
    show r < _
    cases hq : ls[r]? with
    | none => rw [hq] at hr'; cases hr'
    | some q =>
      have := (List.getElem?_eq_some_iff.1 hq).1
      simpa [TS.st, retold] using this
  · obtain ⟨q, h1, h2, h3⟩ := look p sz rows hp
    obtain ⟨g1, g2⟩ := inv.tr _ _ _ h2
    have eκ : (bt.ren bs ls).κ p = bt.κ ⟨q, p.l⟩ := by show bt.κ ⟨ls.getD p.r 0, p.l⟩ = _; rw [h3]
    have eβ : (bt.ren bs ls).β p = bt.β ⟨q, p.l⟩ := by show bt.β ⟨ls.getD p.r 0, p.l⟩ = _; rw [h3]
    rw [eκ, eβ]
    refine ⟨g1, fun hk => ⟨(g2 hk).1, ?_⟩⟩
    obtain ⟨_, cs, e, k1, k2, k3, k4⟩ := g2 hk
    refine ⟨cs, e, by rw [eβ]; exact k1, by rw [eκ]; exact k2, k3, fun i r hi => ?_⟩
    obtain ⟨m1, m2⟩ := k4 i r hi
    refine ⟨m1, fun j x hj => ?_⟩
    obtain ⟨c, n1, n2⟩ := m2 j x hj
    refine ⟨c, n1, ?_⟩
    have f1 : (bt.ren bs ls).κ (p.sub i j) = bt.κ (Pos.sub ⟨q, p.l⟩ i j) := by show bt.κ ⟨ls.getD p.r 0, p.l ++ [(i, j)]⟩ = bt.κ ⟨q, p.l ++ [(i, j)]⟩; rw [h3]
    have f2 : (bt.ren bs ls).β (p.sub i j) = bt.β (Pos.sub ⟨q, p.l⟩ i j) := by show bt.β ⟨ls.getD p.r 0, p.l ++ [(i, j)]⟩ = bt.β ⟨q, p.l ++ [(i, j)]⟩; rw [h3]
    cases n2 with
    | sc h => exact .sc h
    | dd u => exact .dd _
    | sl q1 q2 q3 => exact .sl q1 (by rw [f1]; exact q2) (by rw [f2]; exact q3)
  · obtain ⟨p', h1, h2, h3⟩ := look p s rs hp
    obtain ⟨q', g1, g2, g3⟩ := look q s' rs' hq
    have := inv.inj ⟨p', p.l⟩ ⟨q', q.l⟩ _ _ _ _ h2 g2 (by rw [← h3]; exact hk) (by rw [← g3]; exact hk') (by rw [← h3, ← g3]; exact he)
    simp only [Pos.mk.injEq] at this
    obtain ⟨e1, e2⟩ := this
    subst e1
    have e3 := nodupB_inj hnl _ _ _ h1 g1
    cases p; cases q
    simp only at e3 e2
    rw [e3, e2]
  · obtain ⟨b, c, h1, h2, _, h4⟩ := box n cs hn
    obtain ⟨b', c', g1, g2, _, g4⟩ := box m cs' hm
    have := inv.bbinj b b' _ _ (bxS h2) (bxS g2) (by
      have he' : bt.bb (bs.getD n 0) = bt.bb (bs.getD m 0) := he
      rw [h4, g4] at he'
      exact he')
    subst this
    exact nodupB_inj hnb _ _ _ h1 g1
  · obtain ⟨b, c, h1, h2, _, h4⟩ := box n cs hn
    obtain ⟨q, g1, g2, g3⟩ := look p s rs hp
    have hk' : 0 < bt.κ ⟨ls.getD p.r 0, p.l⟩ := hk
    rw [g3] at hk'
    show bt.bb (bs.getD n 0) ≠ bt.β ⟨ls.getD p.r 0, p.l⟩
    rw [h4, g3]
    exact inv.bbtr _ _ _ _ _ (bxS h2) g2 hk'
  · obtain ⟨q, g1, g2, g3⟩ := look p s rs hp
    have hk' : 0 < bt.κ ⟨ls.getD p.r 0, p.l⟩ := hk
    rw [g3] at hk'
    show ¬ bt.A (bt.β ⟨ls.getD p.r 0, p.l⟩)
    rw [g3]
    exact inv.atr _ _ _ g2 hk'
  · obtain ⟨b, c, h1, h2, _, h4⟩ := box n cs hn
    show ¬ bt.A (bt.bb (bs.getD n 0))
    rw [h4]
    exact inv.abb _ _ (bxS h2)
  · show VR w _ (getV (retold S keep bs ls).env t).av _
    rcases getV_keep S (renV bs ls) keep t with h1 | h1
    · have : getV (retold S keep bs ls).env t = V.dead := h1
      rw [this]
      exact .dead _
    · have : getV (retold S keep bs ls).env t = renV bs ls (getV S.env t) := h1
      rw [this]
      exact renV_VR (hl.er.2 t)
  · show S.fz ≤ (retold S keep bs ls).gh.length
    rcases Nat.eq_zero_or_pos S.fz with h0 | h0
    · omega
    · have := (List.getElem?_eq_some_iff.1 (hls (S.fz - 1) (by omega))).1
      simp [retold]
      omega
  · have hp' : p.r < S.fz := by have := hl.fz; have e : S.st.fz = S.fz := rfl; omega
    have h3 : ls.getD p.r 0 = p.r := by simp [List.getD_eq_getElem?_getD, hls p.r hp']
    have := hl.keep p hp
    show bt.β ⟨ls.getD p.r 0, p.l⟩ = _ ∧ bt.κ ⟨ls.getD p.r 0, p.l⟩ = _
    rw [h3]
    exact this
  · have hr' : r < S.fz := by have := hl.fz; have e : S.st.fz = S.fz := rfl; omega
    refine hl.gone r hr ?_
    have hn' : (ghAt (retold S keep bs ls).gh r).map Tre.tree = none := hn
    rw [retold_gh, hls r hr'] at hn'
    exact hn'
theorem renC_ok {S : TS} {bs ls : List Nat} {keep : List Nat} {c : Cl} (h : c.ok S.gh) : (renC bs ls c).ok (retold S keep bs ls).gh := by
  have lt : ∀ {x k : Nat}, posN ls x 0 = some k → k < (retold S keep bs ls).gh.length ∧ ls[k]? = some x := by
    intro x k hk
    obtain ⟨_, h2⟩ := posN_some hk
    rw [Nat.sub_zero] at h2
    exact ⟨by have := (List.getElem?_eq_some_iff.1 h2).1; simpa [retold] using this, h2⟩
  cases c with
  | own p sz lo len w =>
    simp only [renC]
    split
    · rename_i k hk
      obtain ⟨h1, h2⟩ := lt hk
      refine ⟨h1, fun hw => ?_⟩
      obtain ⟨a, b, c⟩ := h.2 hw
      refine ⟨a, b, fun tr htr => c tr ?_⟩
      rw [retold_gh, h2] at htr
      exact htr
    · trivial
  | ptrT p sz i j =>
    simp only [renC]
    split
    · rename_i k hk; exact (lt hk).1
    · trivial
  | ptrB n j => simp only [renC]; split <;> trivial
  | _ => trivial
theorem renV_ok {S : TS} {bs ls : List Nat} {keep : List Nat} {v : V} (h : v.ok S.gh) : (renV bs ls v).ok (retold S keep bs ls).gh := by
  have one : ∀ {v : V1}, v.ok S.gh → (renV1 bs ls v).ok (retold S keep bs ls).gh := by
    intro v h
    cases v with
    | cl c => exact renC_ok h
    | agg cs => intro c hc; obtain ⟨x, hx, rfl⟩ := List.mem_map.1 hc; exact renC_ok (h x hx)
    | fn f cs => intro c hc; obtain ⟨x, hx, rfl⟩ := List.mem_map.1 hc; exact renC_ok (h x hx)
  cases v with
  | v x => exact one h
  | tup l => trivial
theorem retold_ok {S : TS} (hS : S.ok) (keep bs ls : List Nat) : (retold S keep bs ls).ok := by
  refine ⟨fun x hx => ?_, fun cs hcs c hc => ?_⟩
  · obtain ⟨t, _, rfl⟩ := List.mem_map.1 hx
    exact renV_ok (getV_ok hS t)
  · obtain ⟨b, _, rfl⟩ := List.mem_map.1 hcs
    obtain ⟨x, hx, rfl⟩ := List.mem_map.1 hc
    cases hb : nth S.bx b with
    | none => rw [hb] at hx; cases hx
    | some cs =>
      rw [hb] at hx
      rw [nth_eq] at hb
      exact renC_ok (hS.bx cs (List.mem_of_getElem? hb) x hx)
theorem fixC_eq {G : List (Option Tre)} {c : Cl} (h : c.ok G) : fixC G c = c := by
  unfold fixC
  split
  · rename_i p sz lo len
    split
    · rename_i tr htr
      rw [(h.2 rfl).2.2 tr (by unfold ghAt; rw [htr]; rfl)]
    · rfl
  · rfl
theorem fixV1_eq {G : List (Option Tre)} {v : V1} (h : v.ok G) : fixV1 G v = v := by
  cases v with
  | cl c => exact congrArg V1.cl (fixC_eq h)
  | agg cs => exact congrArg V1.agg ((List.map_congr_left fun c hc => fixC_eq (h c hc)).trans (List.map_id' cs))
  | fn f cs => exact congrArg (V1.fn f) ((List.map_congr_left fun c hc => fixC_eq (h c hc)).trans (List.map_id' cs))
theorem fixV_eq {G : List (Option Tre)} {v : V} (h : v.ok G) : fixV G v = v := by
  cases v with
  | v x => exact congrArg V.v (fixV1_eq h)
  | tup l => exact congrArg V.tup ((List.map_congr_left fun c hc => fixV1_eq (h c hc)).trans (List.map_id' l))
theorem fixS_eq {S : TS} (h : S.ok) : fixS S = S := by
  unfold fixS
  rw [List.map_congr_left (g := id) (fun x hx => by rw [fixV_eq (h.env x hx)]; rfl), List.map_congr_left (g := id) (l := S.bx) (fun cs hcs => (List.map_congr_left fun c hc => fixC_eq (h.bx cs hcs c hc)).trans (List.map_id' cs)), List.map_id, List.map_id]
theorem canonK_ok {ρ : Type} {S : TS} (hS : S.ok) {keep : List Nat} {κ : TS → Option ρ} {r : ρ} (h : canonK keep S κ = some r) : ∃ S1 : TS, Weak S.st S1.st ∧ S1.ok ∧ κ S1 = some r := by
  unfold canonK at h
  obtain ⟨h1, h⟩ := bif_some h
  rw [fixS_eq (retold_ok hS _ _ _)] at h
  exact ⟨_, retold_weak h1, retold_ok hS _ _ _, h⟩
end Go.Proofs.Ytkifojmjcpdnoaa.En

/- The typed evaluator, part 18: forms of states; loops. -/
namespace Go.Proofs.Ytkifojmjcpdnoaa.En
open Go

/-- What a cell holds at the head of a loop, its data left open. -/
inductive Sh where
  | int (k : IntKind) | bl | str | ro (t : Ty) | own (r : Nat) (t : Ty) | ptr (n j : Nat) | em | dead | pro (t : Ty) | fc (g : Nat)
abbrev Sh.D : Sh → Type
  | .int _ => Int | .bl => Bool | .str => ByteArray | .ro t => List t.D | .pro t => t.D | _ => Unit
abbrev Shs.D : List Sh → Type
  | [] => Unit
  | s :: l => s.D × Shs.D l
inductive ShV where
  | cl (s : Sh) | agg (l : List Sh) | st (n : Sn) | fn (f : FuncId) (l : List Sh)
abbrev ShV.D : ShV → Type
  | .cl s => s.D | .agg l => Shs.D l | .st n => n.D | .fn _ l => Shs.D l
abbrev Env.D : List (Nat × ShV) → Type
  | [] => Unit
  | x :: l => x.2.D × Env.D l
abbrev Bxs.D : List (List Sh) → Type
  | [] => Unit
  | x :: l => Shs.D x × Bxs.D l
abbrev Ghs.D : List Ty → Type
  | [] => Unit
  | t :: l => List t.D × Ghs.D l
structure LSh where
  env : List (Nat × ShV)
  bx : List (List Sh)
  gh : List Ty
  fz : Nat
  nt : Nat
abbrev LSh.D (L : LSh) : Type := Env.D L.env × Bxs.D L.bx × Ghs.D L.gh

def lenG (G : List (Option Tre)) (r : Nat) : Nat := match nth G r with | some (some tr) => tr.l.length | _ => 0
def Sh.mk (G : List (Option Tre)) : (s : Sh) → s.D → Cl
  | .int k, n => .c (.sc (.int k n)) | .bl, v => .c (.sc (.bool v)) | .str, v => .c (.sc (.string v)) | .ro t, l => .c (.ls t l)
  | .own r t, _ => .own ⟨r, []⟩ t.width 0 (lenG G r) true | .ptr n j, _ => .ptrB n j | .em, _ => .em | .dead, _ => .dead | .pro t, x => .pro (t.flat x) | .fc g, _ => .c (.sc (.func (.func g) #[] #[]))
def Shs.mk (G : List (Option Tre)) : (l : List Sh) → Shs.D l → List Cl
  | [], _ => []
  | s :: l, x => s.mk G x.1 :: Shs.mk G l x.2
def ShV.mk (G : List (Option Tre)) : (v : ShV) → v.D → V
  | .cl s, x => .v (.cl (s.mk G x)) | .agg l, x => .v (.agg (Shs.mk G l x)) | .st n, x => .v (.agg ((n.flat x).map .c)) | .fn f l, x => .v (.fn f (Shs.mk G l x))
def Env.mk (G : List (Option Tre)) : (l : List (Nat × ShV)) → Env.D l → List (Nat × V)
  | [], _ => []
  | x :: l, d => (x.1, x.2.mk G d.1) :: Env.mk G l d.2
def Bxs.mk (G : List (Option Tre)) : (l : List (List Sh)) → Bxs.D l → List (List Cl)
  | [], _ => []
  | x :: l, d => Shs.mk G x d.1 :: Bxs.mk G l d.2
def Ghs.mk : (l : List Ty) → Ghs.D l → List (Option Tre)
  | [], _ => []
  | t :: l, d => some ⟨t, d.1, none⟩ :: Ghs.mk l d.2
def LSh.mk' (L : LSh) (d : L.D) : TS := { env := Env.mk (Ghs.mk L.gh d.2.2) L.env d.1, bx := Bxs.mk (Ghs.mk L.gh d.2.2) L.bx d.2.1, gh := Ghs.mk L.gh d.2.2, fz := L.fz, nt := L.nt }

section
variable {ρ : Type}
def Sh.un : (s : Sh) → Cl → (s.D → Option ρ) → Option ρ
  | .int k, .c (.sc (.int k' n)), κ => bif decide (k' = k) then κ n else none
  | .bl, .c (.sc (.bool v)), κ => κ v
  | .str, .c (.sc (.string v)), κ => κ v
  | .ro t, .c (.ls t' l), κ => match castL t' t l with | some l => κ l | none => none
  | .own r t, .own p sz _ _ w, κ => match p.l with | [] => (bif w && Nat.beq p.r r && Nat.beq sz t.width then κ () else none) | _ => none
  | .ptr n i, .ptrB m j, κ => bif Nat.beq m n && Nat.beq j i then κ () else none
  | .em, .em, κ => κ ()
  | .dead, .dead, κ => κ ()
  | .pro t, .pro xs, κ => (match t.unflat xs with | some x => κ x | none => none)
  | .fc g, .c (.sc (.func (.func g') cs ts)), κ => bif Nat.beq g' g && Nat.beq cs.size 0 && Nat.beq ts.size 0 then κ () else none
  | _, _, _ => none
def Shs.un : (l : List Sh) → List Cl → (Shs.D l → Option ρ) → Option ρ
  | [], [], κ => κ ()
  | s :: l, c :: cs, κ => s.un c fun x => Shs.un l cs fun y => κ (x, y)
  | _, _, _ => none
def ShV.un : (v : ShV) → V → (v.D → Option ρ) → Option ρ
  | .cl s, .v (.cl c), κ => s.un c κ
  | .agg l, .v (.agg cs), κ => Shs.un l cs κ
  | .st n, .v (.agg cs), κ => match unCs cs with | some xs => (match n.unflat xs with | some x => κ x | none => none) | none => none
  | .fn f l, .v (.fn g cs), κ => bif Nat.beq f g then Shs.un l cs κ else none
  | _, _, _ => none
def Env.un : (l : List (Nat × ShV)) → List (Nat × V) → (Env.D l → Option ρ) → Option ρ
  | [], [], κ => κ ()
  | x :: l, y :: m, κ => bif Nat.beq x.1 y.1 then x.2.un y.2 fun a => Env.un l m fun b => κ (a, b) else none
  | _, _, _ => none
def Bxs.un : (l : List (List Sh)) → List (List Cl) → (Bxs.D l → Option ρ) → Option ρ
  | [], [], κ => κ ()
  | x :: l, y :: m, κ => Shs.un x y fun a => Bxs.un l m fun b => κ (a, b)
  | _, _, _ => none
def Ghs.un : (l : List Ty) → List (Option Tre) → (Ghs.D l → Option ρ) → Option ρ
  | [], [], κ => κ ()
  | t :: l, some tr :: m, κ => match tr.hole with
    | none => (match castL tr.t t tr.l with | some a => Ghs.un l m fun b => κ (a, b) | none => none)
    | some _ => none
  | _, _, _ => none
def LSh.un (L : LSh) (S : TS) (κ : L.D → Option ρ) : Option ρ := Ghs.un L.gh S.gh fun g => Env.un L.env S.env fun e => Bxs.un L.bx S.bx fun b => bif Nat.beq S.fz L.fz && Nat.beq S.nt L.nt then κ (e, b, g) else none

theorem Sh.un_some {G : List (Option Tre)} (hG : ∀ r, r < G.length → ∃ tr, nth G r = some (some tr)) : ∀ {s : Sh} {c : Cl} {κ : s.D → Option ρ} {r : ρ}, c.ok G → s.un c κ = some r → ∃ x, c = s.mk G x ∧ κ x = some r := by
  intro s c κ r hc h
  cases s with
  | int k =>
    cases c with
    | c y => cases y with
      | sc v => cases v with
        | int k' n =>
          simp only [Sh.un] at h
          obtain ⟨h1, h⟩ := bif_some h
          have := of_decide_eq_true h1
          subst this
          exact ⟨n, rfl, h⟩
        | _ => simp [Sh.un] at h
      | ls t l => simp [Sh.un] at h
    | _ => simp [Sh.un] at h
  | bl =>
    cases c with
    | c y => cases y with
      | sc v => cases v with
        | bool v => exact ⟨v, rfl, h⟩
        | _ => simp [Sh.un] at h
      | ls t l => simp [Sh.un] at h
    | _ => simp [Sh.un] at h
  | str =>
    cases c with
    | c y => cases y with
      | sc v => cases v with
        | string v => exact ⟨v, rfl, h⟩
        | _ => simp [Sh.un] at h
      | ls t l => simp [Sh.un] at h
    | _ => simp [Sh.un] at h
  | ro t =>
    cases c with
    | c y => cases y with
      | sc v => simp [Sh.un] at h
      | ls t' l =>
        simp only [Sh.un] at h
        split at h
        · rename_i l' hl
          obtain ⟨e, hl⟩ := castL_some hl
          subst e
          simp only at hl
          subst hl
          exact ⟨l, rfl, h⟩
        · cases h
    | _ => simp [Sh.un] at h
  | own q t =>
    cases c with
    | own p sz lo len w =>
      obtain ⟨pr, pl⟩ := p
      cases pl with
      | cons a l => simp [Sh.un] at h
      | nil =>
        simp only [Sh.un] at h
        obtain ⟨h1, h'⟩ := bif_some h
        clear h
        simp only [Bool.and_eq_true] at h1
        obtain ⟨⟨h0, h2⟩, h3⟩ := h1
        have h2 : pr = q := Nat.eq_of_beq_eq_true h2
        have h3 : sz = t.width := Nat.eq_of_beq_eq_true h3
        subst h0 h2 h3
        obtain ⟨k1, k2⟩ := hc
        obtain ⟨_, k3, k4⟩ := k2 rfl
        obtain ⟨tr, htr⟩ := hG _ k1
        have k5 := k4 tr (Tre.look htr)
        refine ⟨(), ?_, h'⟩
        simp only [Sh.mk, lenG, k3, k5, htr]
    | c y => cases y <;> simp [Sh.un] at h
    | _ => simp [Sh.un] at h
  | ptr n i =>
    cases c with
    | ptrB m j =>
      simp only [Sh.un] at h
      obtain ⟨h1, h'⟩ := bif_some h
      clear h
      simp only [Bool.and_eq_true] at h1
      have h2 := Nat.eq_of_beq_eq_true h1.1
      have h3 := Nat.eq_of_beq_eq_true h1.2
      subst h2 h3
      exact ⟨(), rfl, h'⟩
    | c y => cases y <;> simp [Sh.un] at h
    | _ => simp [Sh.un] at h
  | em =>
    cases c with
    | em => exact ⟨(), rfl, h⟩
    | c y => cases y <;> simp [Sh.un] at h
    | _ => simp [Sh.un] at h
  | dead =>
    cases c with
    | dead => exact ⟨(), rfl, h⟩
    | c y => cases y <;> simp [Sh.un] at h
    | _ => simp [Sh.un] at h
  | pro t =>
    cases c with
    | pro xs =>
      simp only [Sh.un] at h
      split at h
      · rename_i x hx
        exact ⟨x, by simp only [Sh.mk]; rw [t.unflat_some _ _ hx], h⟩
      · cases h
    | c y => cases y <;> simp [Sh.un] at h
    | _ => simp [Sh.un] at h
  | fc g =>
    unfold Sh.un at h
    split at h
    all_goals first | (rename_i hh; cases hh; done) | skip
    all_goals try (rename_i hh _; cases hh; done)
    · rename_i e
      cases e
      obtain ⟨h1, h'⟩ := bif_some h
      simp only [Bool.and_eq_true] at h1
      obtain ⟨⟨h1, h2⟩, h3⟩ := h1
      have h1 := Nat.eq_of_beq_eq_true h1
      have h2 := Array.eq_empty_of_size_eq_zero (Nat.eq_of_beq_eq_true h2)
      have h3 := Array.eq_empty_of_size_eq_zero (Nat.eq_of_beq_eq_true h3)
      exact ⟨(), by rw [h1, h2, h3]; rfl, h'⟩
    · cases h
theorem Shs.un_some {G : List (Option Tre)} (hG : ∀ r, r < G.length → ∃ tr, nth G r = some (some tr)) : ∀ {l : List Sh} {cs : List Cl} {κ : Shs.D l → Option ρ} {r : ρ}, (∀ c ∈ cs, c.ok G) → Shs.un l cs κ = some r → ∃ x, cs = Shs.mk G l x ∧ κ x = some r
  | [], [], κ, r, _, h => ⟨(), rfl, h⟩
  | s :: l, c :: cs, κ, r, hc, h => by
    unfold Shs.un at h
    obtain ⟨x, h1, h⟩ := Sh.un_some hG (hc c List.mem_cons_self) h
    obtain ⟨y, h2, h⟩ := Shs.un_some hG (fun z hz => hc z (List.mem_cons_of_mem _ hz)) h
    exact ⟨(x, y), by rw [h1, h2]; rfl, h⟩
  | [], c :: cs, κ, r, _, h => by simp [Shs.un] at h
  | s :: l, [], κ, r, _, h => by simp [Shs.un] at h
theorem unCs_some : ∀ {cs : List Cl} {xs : List C}, unCs cs = some xs → cs = xs.map .c
  | [], xs, h => by simp only [unCs, Option.some.injEq] at h; subst h; rfl
  | c :: cs, xs, h => by
    cases c with
    | c y =>
      simp only [unCs] at h
      split at h
      · rename_i r hr
        simp only [Option.some.injEq] at h
        subst h
        rw [unCs_some hr]
        rfl
      · cases h
    | _ => simp [unCs] at h
theorem ShV.un_some {G : List (Option Tre)} (hG : ∀ r, r < G.length → ∃ tr, nth G r = some (some tr)) {s : ShV} {v : V} {κ : s.D → Option ρ} {r : ρ} (hv : v.ok G) (h : s.un v κ = some r) : ∃ x, v = s.mk G x ∧ κ x = some r := by
  cases v with
  | tup l => cases s <;> simp [ShV.un] at h
  | v y =>
    cases s with
    | cl s => cases y with
      | cl c =>
        obtain ⟨x, h1, h⟩ := Sh.un_some hG hv h
        exact ⟨x, by rw [h1]; rfl, h⟩
      | _ => simp [ShV.un] at h
    | agg l => cases y with
      | agg cs =>
        obtain ⟨x, h1, h⟩ := Shs.un_some hG hv h
        exact ⟨x, by rw [h1]; rfl, h⟩
      | _ => simp [ShV.un] at h
    | st n => cases y with
      | agg cs =>
        simp only [ShV.un] at h
        split at h
        · rename_i xs hxs
          split at h
          · rename_i x hx
            exact ⟨x, by rw [unCs_some hxs]; simp only [ShV.mk]; rw [n.unflat_some _ _ hx], h⟩
          · cases h
        · cases h
      | _ => simp [ShV.un] at h
    | fn f l => cases y with
      | fn g cs =>
        simp only [ShV.un] at h
        obtain ⟨h0, h'⟩ := bif_some h
        clear h
        have h0 := Nat.eq_of_beq_eq_true h0
        subst h0
        obtain ⟨x, h1, h⟩ := Shs.un_some hG hv h'
        exact ⟨x, by rw [h1]; rfl, h⟩
      | _ => simp [ShV.un] at h
theorem Env.un_some {G : List (Option Tre)} (hG : ∀ r, r < G.length → ∃ tr, nth G r = some (some tr)) : ∀ {l : List (Nat × ShV)} {m : List (Nat × V)} {κ : Env.D l → Option ρ} {r : ρ}, (∀ x ∈ m, x.2.ok G) → Env.un l m κ = some r → ∃ x, m = Env.mk G l x ∧ κ x = some r
  | [], [], κ, r, _, h => ⟨(), rfl, h⟩
  | s :: l, c :: cs, κ, r, hc, h => by
    unfold Env.un at h
    obtain ⟨h0, h⟩ := bif_some h
    have h0 := Nat.eq_of_beq_eq_true h0
    obtain ⟨x, h1, h⟩ := ShV.un_some hG (hc c List.mem_cons_self) h
    obtain ⟨y, h2, h⟩ := Env.un_some hG (fun z hz => hc z (List.mem_cons_of_mem _ hz)) h
    refine ⟨(x, y), ?_, h⟩
    rw [h2]
    obtain ⟨c1, c2⟩ := c
    simp only at h0 h1
    rw [h1, ← h0]
    rfl
  | [], c :: cs, κ, r, _, h => by simp [Env.un] at h
  | s :: l, [], κ, r, _, h => by simp [Env.un] at h
theorem Bxs.un_some {G : List (Option Tre)} (hG : ∀ r, r < G.length → ∃ tr, nth G r = some (some tr)) : ∀ {l : List (List Sh)} {m : List (List Cl)} {κ : Bxs.D l → Option ρ} {r : ρ}, (∀ cs ∈ m, ∀ c ∈ cs, c.ok G) → Bxs.un l m κ = some r → ∃ x, m = Bxs.mk G l x ∧ κ x = some r
  | [], [], κ, r, _, h => ⟨(), rfl, h⟩
  | s :: l, c :: cs, κ, r, hc, h => by
    unfold Bxs.un at h
    obtain ⟨x, h1, h⟩ := Shs.un_some hG (hc c List.mem_cons_self) h
    obtain ⟨y, h2, h⟩ := Bxs.un_some hG (fun z hz => hc z (List.mem_cons_of_mem _ hz)) h
    exact ⟨(x, y), by rw [h1, h2]; rfl, h⟩
  | [], c :: cs, κ, r, _, h => by simp [Bxs.un] at h
  | s :: l, [], κ, r, _, h => by simp [Bxs.un] at h
theorem Ghs.un_some : ∀ {l : List Ty} {m : List (Option Tre)} {κ : Ghs.D l → Option ρ} {r : ρ}, Ghs.un l m κ = some r → ∃ x, m = Ghs.mk l x ∧ κ x = some r
  | [], [], κ, r, h => ⟨(), rfl, h⟩
  | t :: l, some tr :: m, κ, r, h => by
    unfold Ghs.un at h
    split at h
    · rename_i hh
      split at h
      · rename_i a ha
        obtain ⟨e, hl⟩ := castL_some ha
        obtain ⟨y, h2, h⟩ := Ghs.un_some h
        obtain ⟨t', l', hole⟩ := tr
        simp only at hh e hl ha
        subst hh e
        simp only at hl
        subst hl
        exact ⟨(l', y), by rw [h2]; rfl, h⟩
      · cases h
    · cases h
  | [], c :: cs, κ, r, h => by simp [Ghs.un] at h
  | t :: l, [], κ, r, h => by simp [Ghs.un] at h
  | t :: l, none :: m, κ, r, h => by simp [Ghs.un] at h
theorem Ghs.mk_some : ∀ (l : List Ty) (d : Ghs.D l) (r : Nat), r < (Ghs.mk l d).length → ∃ tr, nth (Ghs.mk l d) r = some (some tr)
  | [], d, r, h => by simp [Ghs.mk] at h
  | t :: l, d, 0, h => ⟨_, rfl⟩
  | t :: l, d, r + 1, h => by
    obtain ⟨tr, htr⟩ := Ghs.mk_some l d.2 r (by simpa [Ghs.mk] using h)
    exact ⟨tr, htr⟩
theorem LSh.un_some {L : LSh} {S : TS} (hS : S.ok) {κ : L.D → Option ρ} {r : ρ} (h : L.un S κ = some r) : ∃ d, S = L.mk' d ∧ κ d = some r := by
  unfold LSh.un at h
  obtain ⟨g, h1, h⟩ := Ghs.un_some h
  have hG : ∀ r, r < S.gh.length → ∃ tr, nth S.gh r = some (some tr) := by rw [h1]; exact Ghs.mk_some _ _
  obtain ⟨e, h2, h⟩ := Env.un_some hG hS.env h
  obtain ⟨b, h3, h⟩ := Bxs.un_some hG hS.bx h
  obtain ⟨h4, h⟩ := bif_some h
  simp only [Bool.and_eq_true] at h4
  have h5 := Nat.eq_of_beq_eq_true h4.1
  have h6 := Nat.eq_of_beq_eq_true h4.2
  refine ⟨(e, b, g), ?_, h⟩
  obtain ⟨env, bx, gh, fz, nt⟩ := S
  simp only at h1 h2 h3 h5 h6
  subst h5 h6
  unfold LSh.mk'
  simp only
  rw [← h1, ← h2, ← h3]
end
end Go.Proofs.Ytkifojmjcpdnoaa.En

/- The typed evaluator, part 19: an empty slice becomes a slice of the call's own; loops; contracts. -/
namespace Go.Proofs.Ytkifojmjcpdnoaa.En
open Go

def newCl (S : TS) (t : Ty) : Cl := .own ⟨S.gh.length, []⟩ t.width 0 0 true
def growB (n j : Nat) (t : Ty) (S : TS) : TS := match nth S.bx n with
  | some cs => (match nth cs j with
    | some .em => { S with bx := setN S.bx n (setN cs j (newCl S t)), gh := S.gh ++ [some ⟨t, [], none⟩] }
    | _ => S)
  | none => S
def growT (x : Nat) (t : Ty) (S : TS) : TS := match getV S.env x with
  | .v (.cl .em) => { S with env := (x, .v (.cl (newCl S t))) :: S.env, gh := S.gh ++ [some ⟨t, [], none⟩] }
  | _ => S

theorem go_dd : ∀ (l : List (Nat × Nat)), T.go .dd l = .dd
  | [] => rfl
  | (_, _) :: l => go_dd l
theorem go_nil (w : Nat) {l : List (Nat × Nat)} {s : Nat} {rs : List (List T)} (h : T.go (.sl w []) l = .sl s rs) : rs = [] := by
  cases l with
  | nil => cases h; rfl
  | cons a l =>
    obtain ⟨i, j⟩ := a
    simp only [T.go, T.cell, List.getD_nil, go_dd] at h
    cases h
theorem grow_weak {S S' : TS} (t : Ty) (henv : ∀ u, (getV S'.env u).av = (getV S.env u).av ∨ ((getV S.env u).av = .em ∧ (getV S'.env u).av = .own ⟨S.gh.length, []⟩ t.width 0 0))
    (hbx : ∀ k cs', S'.st.bx k = some cs' → ∃ cs, S.st.bx k = some cs ∧ cs'.length = cs.length ∧ ∀ (j : Nat) (v : AV), cs'[j]? = some v → cs[j]? = some v ∨ (cs[j]? = some .em ∧ v = .own ⟨S.gh.length, []⟩ t.width 0 0))
    (hgh : S'.gh = S.gh ++ [some ⟨t, [], none⟩]) (hfz : S'.fz = S.fz) (hnt : S'.nt = S.nt) (hbl : S'.bx.length = S.bx.length) : Weak S.st S'.st := by
  intro w0 W btI SI bt a w hl0
  have hl := hl0.widen (N := S.gh.length + 1) (Nat.le_succ _)
  have inv := hl.inv
  have hng : S'.st.ng = S.gh.length + 1 := by show S'.gh.length = _; rw [hgh]; simp
  have ghS : ∀ r, S'.st.gh r = if r = S.gh.length then some (.sl t.width []) else S.st.gh r := by
    intro r
    show (ghAt S'.gh r).map Tre.tree = _
    rw [hgh, ghAt_app]
    split <;> rfl
  have κ0 : ∀ l, (bt.widen S.st.ng (S.gh.length + 1)).κ ⟨S.gh.length, l⟩ = 0 := by
    intro l
    show (if S.gh.length < S.gh.length then _ else 0) = 0
    rw [if_neg (Nat.lt_irrefl _)]
  have look : ∀ p s rs, S'.st.look p = .sl s rs → (p.r = S.gh.length ∧ rs = [] ∧ (bt.widen S.st.ng (S.gh.length + 1)).κ p = 0) ∨ (p.r ≠ S.gh.length ∧ S.st.look p = .sl s rs) := by
    intro p s rs hp
    unfold St.look at hp
    rw [ghS] at hp
    by_cases hr : p.r = S.gh.length
    · rw [if_pos hr] at hp
      left
      refine ⟨hr, go_nil _ hp, ?_⟩
      obtain ⟨pr, pl⟩ := p
      simp only at hr
      subst hr
      exact κ0 pl
    · rw [if_neg hr] at hp
      exact .inr ⟨hr, hp⟩
  have own0 : ∀ {u : Value}, VR w (bt.widen S.st.ng (S.gh.length + 1)) .em u → VR w (bt.widen S.st.ng (S.gh.length + 1)) (.own ⟨S.gh.length, []⟩ t.width 0 0) u := by
    intro u hu
    cases hu with
    | em ad => exact .own (Nat.lt_succ_self _) (Nat.le_refl _) (Nat.zero_le _) (fun h => absurd h (Nat.lt_irrefl _))
  refine ⟨bt.widen S.st.ng (S.gh.length + 1), ?_⟩
  refine ⟨{ os := inv.os, tape := inv.tape, output := inv.output, size := inv.size, keep := inv.keep
            nb := by show _ = S'.bx.length; rw [hbl]; exact inv.nb
            ng := by rw [hng]; exact inv.ng
            bx := fun n cells hn => ?_
            gh := fun r x hr => ?_
            tr := fun p sz rows hp => ?_
            inj := fun p q s rs s' rs' hp hq hk hk' he => ?_
            bbinj := fun n m cs cs' hn hm he => ?_
            bbtr := fun n cs p s rs hn hp hk => ?_
            alt := inv.alt
            atr := fun p s rs hp hk => ?_
            abb := fun n cs hn => ?_ }, ⟨?_, fun u => ?_⟩, hl.defers, ?_, ?_, hl.keep, fun r hr hn => ?_⟩
  · obtain ⟨cs, h1, h2, h3⟩ := hbx n cells hn
    obtain ⟨g1, g2, arr, e, g3, g4, g5⟩ := inv.bx n cs h1
    refine ⟨by show n < S'.bx.length; rw [hbl]; exact g1, g2, arr, e, g3, by rw [h2]; exact g4, fun j v hj => ?_⟩
    rcases h3 j v hj with h4 | ⟨h4, rfl⟩
    · exact g5 j v h4
    · obtain ⟨c, k1, k2, k3⟩ := g5 j .em h4
      exact ⟨c, k1, own0 k2, k3⟩
  · rw [hng]
    rw [ghS] at hr
    split at hr
    · omega
    · have := inv.gh r x hr
      exact this
  · rcases look p sz rows hp with ⟨h1, rfl, h3⟩ | ⟨h1, h2⟩
    · exact ⟨Nat.zero_le _, fun hk => by omega⟩
    · exact inv.tr p sz rows h2
  · rcases look p s rs hp with ⟨h1, _, h3⟩ | ⟨h1, h2⟩
    · omega
    · rcases look q s' rs' hq with ⟨g1, _, g3⟩ | ⟨g1, g2⟩
      · omega
      · exact inv.inj _ _ _ _ _ _ h2 g2 hk hk' he
  · obtain ⟨c, h1, _, _⟩ := hbx n cs hn
    obtain ⟨c', g1, _, _⟩ := hbx m cs' hm
    exact inv.bbinj _ _ _ _ h1 g1 he
  · obtain ⟨c, h1, _, _⟩ := hbx n cs hn
    rcases look p s rs hp with ⟨_, _, h3⟩ | ⟨_, h2⟩
    · omega
    · exact inv.bbtr _ _ _ _ _ h1 h2 hk
  · rcases look p s rs hp with ⟨_, _, h3⟩ | ⟨_, h2⟩
    · omega
    · exact inv.atr _ _ _ h2 hk
  · obtain ⟨c, h1, _, _⟩ := hbx n cs hn
    exact inv.abb _ _ h1
  · have := hl.er.1
    show _ = S'.nt
    rw [hnt]
    exact this
  · have h1 := hl.er.2 u
    show VR w _ (getV S'.env u).av _
    rcases henv u with h2 | ⟨h2, h3⟩
    · rw [h2]; exact h1
    · rw [h3]
      have h1' : VR w (bt.widen S.st.ng (S.gh.length + 1)) (getV S.env u).av (a.tmps.getD u undef) := h1
      rw [h2] at h1'
      exact own0 h1'
  · show S'.fz = _
    rw [hfz]
    exact hl.fz
  · show S'.fz ≤ S'.gh.length
    have := hl.fzng
    have e : S.fz ≤ S.gh.length + 1 := this
    have e2 : S.st.fz ≤ S.st.ng := hl0.fzng
    have e3 : S.fz ≤ S.gh.length := e2
    rw [hfz, hgh]
    simp
    omega
  · refine hl.gone r hr ?_
    rw [ghS] at hn
    split at hn
    · cases hn
    · exact hn
theorem newCl_ok (S : TS) (t : Ty) : (newCl S t).ok (S.gh ++ [some ⟨t, [], none⟩]) := by
  refine ⟨by simp, fun _ => ⟨rfl, rfl, fun tr htr => ?_⟩⟩
  rw [ghAt_app, if_pos rfl] at htr
  cases htr
  rfl
theorem growT_ok {S : TS} (hS : S.ok) (x : Nat) (t : Ty) : Weak S.st (growT x t S).st ∧ (growT x t S).ok := by
  unfold growT
  split
  · rename_i hx
    refine ⟨grow_weak t (fun u => ?_) (fun k cs' h => ⟨cs', h, rfl, fun j v hv => .inl hv⟩) rfl rfl rfl rfl, ⟨fun y hy => ?_, fun cs hcs c hc => Cl.ok_mono (Gle.app _ _) (hS.bx cs hcs c hc)⟩⟩
    · simp only [getV]
      cases hb : Nat.beq x u with
      | true =>
        have : x = u := Nat.eq_of_beq_eq_true hb
        subst this
        right
        rw [hx]
        exact ⟨rfl, rfl⟩
      | false => exact .inl rfl
    · rcases List.mem_cons.1 hy with rfl | hy
      · exact newCl_ok S t
      · exact V.ok_mono (Gle.app _ _) (hS.env y hy)
  · exact ⟨Weak.refl, hS⟩
theorem growB_ok {S : TS} (hS : S.ok) (n j : Nat) (t : Ty) : Weak S.st (growB n j t S).st ∧ (growB n j t S).ok := by
  unfold growB
  split
  · rename_i cs hcs
    split
    · rename_i hj
      rw [nth_eq] at hcs hj
      have hn := (List.getElem?_eq_some_iff.1 hcs).1
      refine ⟨grow_weak t (fun u => .inl rfl) (fun k cs' h => ?_) rfl rfl rfl (by simp [setN_eq]), ⟨fun y hy => V.ok_mono (Gle.app _ _) (hS.env y hy), fun cs' hcs' c hc => ?_⟩⟩
      · have h' : (nth (setN S.bx n (setN cs j (newCl S t))) k).map (fun cs => cs.map Cl.av) = some cs' := h
        rw [nth_eq, setN_eq, setN_eq, List.getElem?_set] at h'
        by_cases hk : n = k
        · subst hk
          rw [if_pos rfl, if_pos hn] at h'
          simp only [Option.map_some, Option.some.injEq] at h'
          subst h'
          refine ⟨cs.map Cl.av, by show (nth S.bx n).map _ = _; rw [nth_eq, hcs]; rfl, by simp, fun i v hv => ?_⟩
          rw [List.getElem?_map, List.getElem?_set] at hv
          by_cases hi : j = i
          · subst hi
            rw [if_pos rfl, if_pos (List.getElem?_eq_some_iff.1 hj).1] at hv
            right
            rw [List.getElem?_map, hj]
            simp only [Option.map_some, Option.some.injEq] at hv
            exact ⟨rfl, hv.symm⟩
          · rw [if_neg hi] at hv
            left
            rw [List.getElem?_map]
            exact hv
        · rw [if_neg hk] at h'
          exact ⟨cs', by show (nth S.bx k).map _ = _; rw [nth_eq]; exact h', rfl, fun i v hv => .inl hv⟩
      · simp only [setN_eq] at hcs'
        rcases List.mem_or_eq_of_mem_set hcs' with h1 | h1
        · exact Cl.ok_mono (Gle.app _ _) (hS.bx _ h1 c hc)
        · subst h1
          rcases List.mem_or_eq_of_mem_set hc with h2 | h2
          · exact Cl.ok_mono (Gle.app _ _) (hS.bx _ (List.mem_of_getElem? hcs) c h2)
          · subst h2
            exact newCl_ok S t
    · exact ⟨Weak.refl, hS⟩
  · exact ⟨Weak.refl, hS⟩

/-! trees of choices, and what lies at their leaves -/
theorem br_bind {α β : Type} (b : Bool) (x y : Option α) (f : α → Option β) : (br b x y).bind f = br b (x.bind f) (y.bind f) := by cases b <;> rfl
theorem iteP_bind {α β : Type} (c : Prop) [Decidable c] (x y : Option α) (f : α → Option β) : (iteP c x y).bind f = iteP c (x.bind f) (y.bind f) := by unfold iteP; split <;> rfl

/-- Slices that grow from nothing, before a loop. -/
inductive Grow where
  | t (x : Nat) (t : Ty)
  | b (n j : Nat) (t : Ty)
def growAll : List Grow → TS → TS
  | [], S => S
  | .t x t :: l, S => growAll l (growT x t S)
  | .b n j t :: l, S => growAll l (growB n j t S)
theorem growAll_ok : ∀ (l : List Grow) {S : TS}, S.ok → Weak S.st (growAll l S).st ∧ (growAll l S).ok
  | [], S, hS => ⟨Weak.refl, hS⟩
  | .t x t :: l, S, hS => by
    obtain ⟨h1, h2⟩ := growT_ok hS x t
    obtain ⟨h3, h4⟩ := growAll_ok l h2
    exact ⟨h1.trans h3, h4⟩
  | .b n j t :: l, S, hS => by
    obtain ⟨h1, h2⟩ := growB_ok hS n j t
    obtain ⟨h3, h4⟩ := growAll_ok l h2
    exact ⟨h1.trans h3, h4⟩

section
variable {P : Program} {Θ : Tys} {Y : Tab} {Λ : Loops}
/-- The state in which a loop's body ends, told anew: by its exit. -/
def tellK {ρ : Type} (keepN keepX : List Nat) (κ : X → TS → Option ρ) (x : X) (S : TS) : Option ρ := match x with
  | .nor => canonK keepN S (κ .nor)
  | x => canonK keepX S (κ x)
/-- What one round must come to. -/
def Round {σ ε : Type} (G : σ → Option ε) (μ : σ → Nat) (s : σ) (e : ε) : Option (σ ⊕ ε) → Prop
  | some (.inl s') => μ s' < μ s ∧ G s' = some e
  | some (.inr e') => e' = e
  | none => False
/-- A loop: H: the form of its head; B: what one round does; E: how it ends; G: what it comes to. -/
theorem loop_ok (hΘ : TysOk P Θ) (hY : TabOk P Y) (hm : P.follows .mixedOrders = true) {c : Code} (hc : codeOk P c = true) (hL : LoopsOk P Λ (loopsIn c)) {σ ε : Type} {H : σ → TS} {E : ε → X × TS} {B : σ → Option (σ ⊕ ε)} {keepN keepX : List Nat}
    (hH : ∀ s, (H s).ok) (hstep : ∀ s, evCK Θ Y Λ c (H s) (tellK keepN keepX fun x S => some (x, S)) = (B s).bind (Sum.elim (fun s' => some (.nor, H s')) fun e => some (E e)))
    (hE : ∀ e, (E e).1 ≠ .nor) {G : σ → Option ε} {μ : σ → Nat} (hG : ∀ s e, G s = some e → Round G μ s e (B s))
    {s : σ} {e : ε} (hs : G s = some e) : WpM P (.loop c) (H s).st (fun x S' => x = (E e).1 ∧ S' = (E e).2.st) := by
  refine WpM.loop (fun n X => ∃ s, X = (H s).st ∧ G s = some e ∧ μ s = n) (fun n X hX => ?_) (n := μ s) ⟨s, rfl, hs, rfl⟩
  obtain ⟨s, rfl, hs, rfl⟩ := hX
  have hg := hG s e hs
  have hst := hstep s
  cases hB : B s with
  | none => rw [hB] at hg; exact hg.elim
  | some l =>
    rw [hB] at hg hst
    cases l with
    | inl s' =>
      simp only [Option.bind_some, Sum.elim_inl] at hst
      refine (evCK_ok hΘ hY hm c _ _ _ hc hL (hH s) hst).mono (fun x S' hx => ?_)
      obtain ⟨S1, rfl, h1, h2⟩ := hx
      have key : ∃ S2 : TS, Weak S1.st S2.st ∧ x = .nor ∧ S2 = H s' := by
        unfold tellK at h2
        split at h2
        · obtain ⟨S2, k1, _, k2⟩ := canonK_ok h1 h2
          simp only [Option.some.injEq, Prod.mk.injEq] at k2
          exact ⟨S2, k1, rfl, k2.2⟩
        · obtain ⟨S2, k1, _, k2⟩ := canonK_ok h1 h2
          simp only [Option.some.injEq, Prod.mk.injEq] at k2
          exact ⟨S2, k1, k2.1, k2.2⟩
      obtain ⟨S2, k1, rfl, rfl⟩ := key
      exact ⟨_, k1, μ s', hg.1, s', rfl, hg.2, rfl⟩
    | inr e' =>
      simp only [Option.bind_some, Sum.elim_inr] at hst
      have hg : e' = e := hg
      subst hg
      refine (evCK_ok hΘ hY hm c _ _ _ hc hL (hH s) hst).mono (fun x S' hx => ?_)
      obtain ⟨S1, rfl, h1, h2⟩ := hx
      have key : ∃ S2 : TS, Weak S1.st S2.st ∧ (x, S2) = E e' := by
        unfold tellK at h2
        split at h2
        · obtain ⟨S2, k1, _, k2⟩ := canonK_ok h1 h2
          exact ⟨S2, k1, Option.some.inj k2⟩
        · obtain ⟨S2, k1, _, k2⟩ := canonK_ok h1 h2
          exact ⟨S2, k1, Option.some.inj k2⟩
      obtain ⟨S2, k1, k2⟩ := key
      refine ⟨S2.st, k1, ?_⟩
      have hx : x = (E e').1 := congrArg Prod.fst k2
      have hS2 : S2 = (E e').2 := congrArg Prod.snd k2
      have hne := hE e'
      rw [← hx] at hne
      cases x with
      | nor => exact absurd rfl hne
      | ret => exact ⟨hx, by rw [hS2]⟩
      | ext i => exact ⟨hx, by rw [hS2]⟩
/-- What a loop's entry in the list of loops looks like. -/
def loopK (grow : List Grow) (keep : List Nat) (L : LSh) {ε : Type} (E : ε → X × TS) (G : L.D → Option ε) : TS → (ρ : Type) → (X → TS → Option ρ) → Option ρ :=
  fun S _ κ => canonK keep (growAll grow S) fun S1 => L.un S1 fun s => (G s).bind fun e => κ (E e).1 (E e).2
theorem loopK_ok {c : Code} {grow : List Grow} {keep : List Nat} {L : LSh} {ε : Type} {E : ε → X × TS} {G : L.D → Option ε} (hE : ∀ e, (E e).2.ok)
    (h : ∀ s e, G s = some e → WpM P (.loop c) (L.mk' s).st (fun x S' => x = (E e).1 ∧ S' = (E e).2.st)) {S : TS} {ρ : Type} {κ : X → TS → Option ρ} {r : ρ} (hS : S.ok) (hk : loopK grow keep L E G S ρ κ = some r) :
    WpM P (.loop c) S.st (fun x S' => ∃ S1 : TS, S' = S1.st ∧ S1.ok ∧ κ x S1 = some r) := by
  unfold loopK at hk
  obtain ⟨h1, h2⟩ := growAll_ok grow hS
  obtain ⟨S1, h3, h4, hk⟩ := canonK_ok h2 hk
  obtain ⟨s, rfl, hk2⟩ := LSh.un_some h4 hk
  obtain ⟨e, h5, hk3⟩ := Option.bind_eq_some_iff.1 hk2
  refine WpM.weak (h1.trans h3) ((h s e h5).mono (fun x S' hx => ?_))
  obtain ⟨rfl, rfl⟩ := hx
  exact ⟨_, Weak.refl, _, rfl, hE e, hk3⟩
end
end Go.Proofs.Ytkifojmjcpdnoaa.En

/- The typed evaluator, part 20: contracts of functions, and the table of them. -/
namespace Go.Proofs.Ytkifojmjcpdnoaa.En
open Go

abbrev Args.D : List Ty → Type
  | [] => Unit
  | t :: l => t.D × Args.D l
def argsOf : (l : List Ty) → Args.D l → List V1
  | [], _ => []
  | t :: l, x => arg t x.1 :: argsOf l x.2
def pairs : (l : List Ty) → Args.D l → List ((t : Ty) × t.D)
  | [], _ => []
  | t :: l, x => ⟨t, x.1⟩ :: pairs l x.2
def unAll {ρ : Type} : (l : List Ty) → List V1 → (Args.D l → Option ρ) → Option ρ
  | [], [], κ => κ ()
  | t :: l, a :: as, κ => un t a fun x => unAll l as fun y => κ (x, y)
  | _, _, _ => none
/-- A function's entry: out of what it comes to. -/
def ent (ts rs : List Ty) (G : Args.D ts → Option (Args.D rs)) : Ent := fun args _ κ => unAll ts args fun x => (G x).bind fun y => ret (pairs rs y) κ
def EntOk (P : Program) (f : FuncId) (e : Ent) : Prop := ∀ args ρ κ r, e args ρ κ = some r → ∃ res out, KeyOk P f args res out ∧ res.ok (out.map some) ∧ κ res out = some r

theorem tab_nil (P : Program) : TabOk P (getY []) := fun _ _ _ _ _ h => by cases h
theorem tab_cons {P : Program} {f : FuncId} {e : Ent} {l : List (Nat × Ent)} (h : EntOk P f e) (hl : TabOk P (getY l)) : TabOk P (getY ((f, e) :: l)) := by
  intro g args ρ κ r hr
  have hr : (bif Nat.beq f g then e args ρ κ else getE l g args ρ κ) = some r := hr
  cases hb : Nat.beq f g with
  | true =>
    rw [hb] at hr
    have := Nat.eq_of_beq_eq_true hb
    subst this
    exact h args ρ κ r hr
  | false =>
    rw [hb] at hr
    exact hl g args ρ κ r hr

theorem un_some {ρ : Type} {t : Ty} {a : V1} {κ : t.D → Option ρ} {r : ρ} (h : un t a κ = some r) : ∃ x, a = arg t x ∧ κ x = some r := by
  unfold un at h
  split at h
  · rename_i cs
    obtain ⟨h1, h⟩ := bif_some h
    split at h
    · rename_i xs hxs
      split at h
      · rename_i x hx
        refine ⟨x, ?_, h⟩
        unfold arg
        rw [h1, t.unflat_some _ _ hx, unCs_some hxs]
        rfl
      · cases h
    · cases h
  · rename_i y
    cases hag : t.ag with
    | true => rw [hag] at h; cases h
    | false =>
      rw [hag] at h
      simp only [cond_false] at h
      split at h
      · rename_i x hx
        refine ⟨x, ?_, h⟩
        unfold arg
        rw [hag, t.unflat_some _ _ hx]
        rfl
      · cases h
  · cases h
theorem unAll_some {ρ : Type} : ∀ {l : List Ty} {as : List V1} {κ : Args.D l → Option ρ} {r : ρ}, unAll l as κ = some r → ∃ x, as = argsOf l x ∧ κ x = some r
  | [], [], κ, r, h => ⟨(), rfl, h⟩
  | t :: l, a :: as, κ, r, h => by
    unfold unAll at h
    obtain ⟨x, h1, h⟩ := un_some h
    obtain ⟨y, h2, h⟩ := unAll_some h
    exact ⟨(x, y), by rw [h1, h2]; rfl, h⟩
  | [], _ :: _, κ, r, h => by simp [unAll] at h
  | _ :: _, [], κ, r, h => by simp [unAll] at h
theorem arg_ok (t : Ty) (x : t.D) : (arg t x).ok [] := by
  unfold arg
  cases t.ag with
  | true =>
    intro c hc
    obtain ⟨y, _, rfl⟩ := List.mem_map.1 hc
    trivial
  | false =>
    simp only [cond_false]
    split
    · rename_i c hc
      have : c ∈ (t.flat x).map Cl.c := by rw [hc]; exact List.mem_singleton.2 rfl
      obtain ⟨y, _, rfl⟩ := List.mem_map.1 this
      trivial
    · trivial
theorem argsOf_ok : ∀ (l : List Ty) (x : Args.D l), ∀ a ∈ argsOf l x, a.ok []
  | [], x, a, h => by cases h
  | t :: l, x, a, h => by
    rcases List.mem_cons.1 h with rfl | h
    · exact arg_ok t x.1
    · exact argsOf_ok l x.2 a h

theorem retL_ok (pre suf : List Tre) : ∀ (cs : List C) (mid : List Tre), ∀ c ∈ retL cs (pre.length + mid.length), c.ok ((pre ++ mid ++ retG cs ++ suf).map some)
  | [], mid, c, h => by cases h
  | .sc v :: cs, mid, c, h => by
    rcases List.mem_cons.1 h with rfl | h
    · trivial
    · exact retL_ok pre suf cs mid c h
  | .ls t l :: cs, mid, c, h => by
    rcases List.mem_cons.1 h with rfl | h
    · refine ⟨by simp [retG], fun _ => ⟨rfl, rfl, fun tr htr => ?_⟩⟩
      have : ghAt ((pre ++ mid ++ retG (.ls t l :: cs) ++ suf).map some) (pre.length + mid.length) = some ⟨t, l, none⟩ := by
        unfold ghAt
        rw [nth_eq, List.getElem?_map, List.append_assoc, List.getElem?_append_right (by simp)]
        simp [retG]
      have htr' : ghAt ((pre ++ mid ++ retG (.ls t l :: cs) ++ suf).map some) (pre.length + mid.length) = some tr := htr
      rw [this] at htr'
      cases htr'
      rfl
    · have := retL_ok pre suf cs (mid ++ [⟨t, l, none⟩]) c (by rw [List.length_append, ← Nat.add_assoc]; exact h)
      simp only [retG]
      simpa using this
theorem ret1_ok (t : Ty) (x : t.D) (pre suf : List Tre) : (ret1 t x pre.length).ok ((pre ++ retG (t.flat x) ++ suf).map some) := by
  have key := retL_ok pre suf (t.flat x) []
  simp only [List.length_nil, Nat.add_zero, List.append_nil] at key
  unfold ret1
  cases t.ag with
  | true => exact key
  | false =>
    simp only [cond_false]
    split
    · rename_i c hc
      exact key c (by rw [hc]; exact List.mem_singleton.2 rfl)
    · trivial
theorem retVs_ok : ∀ (l : List ((t : Ty) × t.D)) (pre : List Tre), ∀ v ∈ retVs pre.length l, v.ok ((pre ++ retGs l).map some)
  | [], pre, v, h => by cases h
  | ⟨t, x⟩ :: l, pre, v, h => by
    rcases List.mem_cons.1 h with rfl | h
    · have := ret1_ok t x pre (retGs l)
      simpa [retGs] using this
    · have := retVs_ok l (pre ++ retG (t.flat x)) v (by rw [List.length_append]; exact h)
      simpa [retGs] using this
theorem ret_ok (l : List ((t : Ty) × t.D)) : (oneV (retVs 0 l)).ok ((retGs l).map some) := by
  have h := retVs_ok l []
  simp only [List.length_nil, List.nil_append] at h
  match retVs 0 l, h with
  | [], _ => exact fun x hx => by cases hx
  | [v], h => exact h v List.mem_cons_self
  | v :: u :: vs, h => exact h

/-- A contract. -/
theorem ent_ok {P : Program} {Θ : Tys} {Y : Tab} {Λ : Loops} {f : FuncId} (hk : f < ioKey) (hΘ : TysOk P Θ) (hY : TabOk P Y) (hm : P.follows .mixedOrders = true) {fn : Func} (hf : fnT P f = some fn) (hL : ∀ c, fn.body = some c → LoopsOk P Λ (loopsIn c)) {ts rs : List Ty} {G : Args.D ts → Option (Args.D rs)}
    (h : ∀ x y, G x = some y → fnK Θ Y Λ fn (argsOf ts x) (fun v g => some (v, g)) = ret (pairs rs y) (fun v g => some (v, g))) : EntOk P f (ent ts rs G) := by
  intro args ρ κ r hr
  unfold ent at hr
  obtain ⟨x, rfl, hr2⟩ := unAll_some hr
  obtain ⟨y, h1, hr3⟩ := Option.bind_eq_some_iff.1 hr2
  exact ⟨_, _, .of_fn (fnK_ok hΘ hY hm hf hL (argsOf_ok ts x) (h x y h1)) hk, ret_ok _, hr3⟩
/-- A contract, by a tree of choices. -/
theorem ent_of {P : Program} {Θ : Tys} {Y : Tab} {Λ : Loops} {f : FuncId} (hk : f < ioKey) (hΘ : TysOk P Θ) (hY : TabOk P Y) (hm : P.follows .mixedOrders = true) {fn : Func} (hf : fnT P f = some fn) (hL : ∀ c, fn.body = some c → LoopsOk P Λ (loopsIn c)) {ts rs : List Ty} {G : Args.D ts → Option (Args.D rs)}
    (F : Args.D ts → Option (Args.D rs)) (hF : ∀ x, fnK Θ Y Λ fn (argsOf ts x) (fun v g => some (v, g)) = (F x).bind fun y => ret (pairs rs y) (fun v g => some (v, g))) (hG : ∀ x y, G x = some y → F x = some y) : EntOk P f (ent ts rs G) :=
  ent_ok hk hΘ hY hm hf hL fun x y hxy => by rw [hF, hG x y hxy]; rfl
end Go.Proofs.Ytkifojmjcpdnoaa.En

/- The typed evaluator, part 21: loops by forms of states. -/
namespace Go.Proofs.Ytkifojmjcpdnoaa.En
open Go

def Sh.fit (n : Nat) : Sh → Bool | .own r _ => Nat.blt r n | _ => true
def ShV.fit (n : Nat) : ShV → Bool | .cl s => s.fit n | .agg l => l.all (Sh.fit n) | .st _ => true | .fn _ l => l.all (Sh.fit n)
def LSh.fit (L : LSh) : Bool := L.env.all (fun x => x.2.fit L.gh.length) && L.bx.all (fun l => l.all (Sh.fit L.gh.length))
theorem Ghs.mk_length : ∀ (l : List Ty) (d : Ghs.D l), (Ghs.mk l d).length = l.length
  | [], _ => rfl
  | t :: l, d => by simp [Ghs.mk, Ghs.mk_length l d.2]
theorem Sh.mk_ok {G : List (Option Tre)} {s : Sh} (h : s.fit G.length = true) (x : s.D) : (s.mk G x).ok G := by
  cases s with
  | own r t =>
    refine ⟨Nat.le_of_ble_eq_true h, fun _ => ⟨rfl, rfl, fun tr htr => ?_⟩⟩
    unfold ghAt at htr
    unfold lenG
    have htr' : (nth G r).getD none = some tr := htr
    cases hn : nth G r with
    | none => rw [hn] at htr'; cases htr'
    | some y => rw [hn] at htr'; simp only [Option.getD_some] at htr'; subst htr'; rfl
  | _ => trivial
theorem Shs.mk_ok {G : List (Option Tre)} : ∀ {l : List Sh}, l.all (Sh.fit G.length) = true → ∀ (x : Shs.D l), ∀ c ∈ Shs.mk G l x, c.ok G
  | [], _, x, c, hc => by cases hc
  | s :: l, h, x, c, hc => by
    simp only [List.all_cons, Bool.and_eq_true] at h
    rcases List.mem_cons.1 hc with rfl | hc
    · exact Sh.mk_ok h.1 x.1
    · exact Shs.mk_ok h.2 x.2 c hc
theorem ShV.mk_ok {G : List (Option Tre)} {v : ShV} (h : v.fit G.length = true) (x : v.D) : (v.mk G x).ok G := by
  cases v with
  | cl s => exact Sh.mk_ok h x
  | agg l => exact Shs.mk_ok h x
  | st n =>
    intro c hc
    obtain ⟨y, _, rfl⟩ := List.mem_map.1 hc
    trivial
  | fn f l => exact Shs.mk_ok h x
theorem LSh.mk'_ok {L : LSh} (h : L.fit = true) (d : L.D) : (L.mk' d).ok := by
  unfold LSh.fit at h
  simp only [Bool.and_eq_true] at h
  have hlen : (Ghs.mk L.gh d.2.2).length = L.gh.length := Ghs.mk_length _ _
  rw [← hlen] at h
  have env : ∀ {l : List (Nat × ShV)}, l.all (fun x => x.2.fit (Ghs.mk L.gh d.2.2).length) = true → ∀ (e : Env.D l), ∀ x ∈ Env.mk (Ghs.mk L.gh d.2.2) l e, x.2.ok (Ghs.mk L.gh d.2.2) := by
    intro l
    induction l with
    | nil => intro _ e x hx; cases hx
    | cons y l ih =>
      intro h e x hx
      simp only [List.all_cons, Bool.and_eq_true] at h
      rcases List.mem_cons.1 hx with rfl | hx
      · exact ShV.mk_ok h.1 e.1
      · exact ih h.2 e.2 x hx
  have bxs : ∀ {l : List (List Sh)}, l.all (fun l => l.all (Sh.fit (Ghs.mk L.gh d.2.2).length)) = true → ∀ (e : Bxs.D l), ∀ cs ∈ Bxs.mk (Ghs.mk L.gh d.2.2) l e, ∀ c ∈ cs, c.ok (Ghs.mk L.gh d.2.2) := by
    intro l
    induction l with
    | nil => intro _ e x hx; cases hx
    | cons y l ih =>
      intro h e x hx
      simp only [List.all_cons, Bool.and_eq_true] at h
      rcases List.mem_cons.1 hx with rfl | hx
      · exact Shs.mk_ok h.1 e.1
      · exact ih h.2 e.2 x hx
  exact ⟨env h.1 d.1, bxs h.2 d.2.1⟩

/-- The ways in which a loop ends, each with its form of states. -/
abbrev Exs.D : List (X × LSh) → Type
  | [] => Empty
  | [x] => x.2.D
  | x :: y :: l => x.2.D ⊕ Exs.D (y :: l)
def Exs.k {R : Type} : (l : List (X × LSh)) → Exs.D l → (X → TS → R) → R
  | [], e, _ => e.elim
  | [x], d, κ => κ x.1 (x.2.mk' d)
  | x :: y :: l, e, κ => Sum.elim (fun d => κ x.1 (x.2.mk' d)) (fun e => Exs.k (y :: l) e κ) e
def Exs.e (l : List (X × LSh)) (d : Exs.D l) : X × TS := Exs.k l d Prod.mk
theorem Exs.k_eq {R : Type} : ∀ (l : List (X × LSh)) (d : Exs.D l) (κ : X → TS → R), Exs.k l d κ = κ (Exs.e l d).1 (Exs.e l d).2
  | [], e, _ => e.elim
  | [_], _, _ => rfl
  | _ :: _ :: _, .inl _, _ => rfl
  | _ :: y :: l, .inr e, κ => Exs.k_eq (y :: l) e κ
def exB (x : X × LSh) : Bool := (match x.1 with | .nor => false | _ => true) && x.2.fit
theorem Exs.ok : ∀ (l : List (X × LSh)) (d : Exs.D l), l.all exB = true → (Exs.e l d).1 ≠ .nor ∧ (Exs.e l d).2.ok
  | [], e, _ => e.elim
  | [x], d, h => by
    simp only [List.all_cons, Bool.and_eq_true, exB] at h
    refine ⟨fun e => ?_, LSh.mk'_ok h.1.2 d⟩
    have e : x.1 = .nor := e
    rw [e] at h
    cases h.1.1
  | x :: _ :: _, .inl d, h => by
    simp only [List.all_cons, Bool.and_eq_true, exB] at h
    refine ⟨fun e => ?_, LSh.mk'_ok h.1.2 d⟩
    have e : x.1 = .nor := e
    rw [e] at h
    cases h.1.1
  | _ :: y :: l, .inr e, h => Exs.ok (y :: l) e (by
    simp only [List.all_cons, Bool.and_eq_true] at h ⊢
    exact h.2)
/-- A loop's entry. -/
def loopE (grow : List Grow) (keep : List Nat) (L : LSh) (exs : List (X × LSh)) (G : L.D → Option (Exs.D exs)) : TS → (ρ : Type) → (X → TS → Option ρ) → Option ρ :=
  fun S _ κ => canonK keep (growAll grow S) fun S1 => L.un S1 fun s => (G s).bind fun e => Exs.k exs e κ
abbrev LoopE := TS → (ρ : Type) → (X → TS → Option ρ) → Option ρ
def getL : List (Nat × LoopE) → Loops
  | [], _, _, _, _ => none
  | (q, e) :: l, n, S, ρ, κ => bif Nat.beq q n then e S ρ κ else getL l n S ρ κ
section
variable {P : Program} {Θ : Tys} {Y : Tab} {Λ : Loops}
def LoopOk (P : Program) (c : Code) (e : LoopE) : Prop := ∀ (S : TS) (ρ : Type) (κ : X → TS → Option ρ) (r : ρ), S.ok → e S ρ κ = some r → WpM P (.loop c) S.st (fun x S' => ∃ S1 : TS, S' = S1.st ∧ S1.ok ∧ κ x S1 = some r)
theorem loops_nil : LoopsOk P Λ [] := fun c hc => by cases hc
theorem loops_one {l : List (Nat × LoopE)} {c : Code} {q : Nat} {e : LoopE} (hq : key c = q) (h : LoopOk P c e) (hl : ∀ (S : TS) (ρ : Type) (κ : X → TS → Option ρ), getL l q S ρ κ = e S ρ κ) : LoopsOk P (getL l) [c] := by
  intro c' hc' S ρ κ r hS hr
  rw [List.mem_singleton] at hc'
  subst hc'
  rw [hq, hl] at hr
  exact h S ρ κ r hS hr
theorem loops_no {l : List (Nat × LoopE)} {c : Code} {q : Nat} (hq : key c = q) (hl : ∀ (S : TS) (ρ : Type) (κ : X → TS → Option ρ), getL l q S ρ κ = none) : LoopsOk P (getL l) [c] := by
  intro c' hc' S ρ κ r hS hr
  rw [List.mem_singleton] at hc'
  subst hc'
  rw [hq, hl] at hr
  cases hr
theorem loops_app {a b : List Code} (ha : LoopsOk P Λ a) (hb : LoopsOk P Λ b) : LoopsOk P Λ (a ++ b) := fun c hc => by
  rcases List.mem_append.1 hc with h | h
  · exact ha c h
  · exact hb c h
/-- A loop's contract. Bk: what one round does, as a tree of choices. -/
theorem loopE_ok (hΘ : TysOk P Θ) (hY : TabOk P Y) (hm : P.follows .mixedOrders = true) {c : Code} (hc : codeOk P c = true) (hL : LoopsOk P Λ (loopsIn c)) (grow : List Grow) (keep keepX : List Nat) (L : LSh) (exs : List (X × LSh)) (hf : (L.fit && exs.all exB) = true)
    (B : L.D → Option (L.D ⊕ Exs.D exs)) (hB : ∀ s, evCK Θ Y Λ c (L.mk' s) (tellK keep keepX fun x S => some (x, S)) = (B s).bind (Sum.elim (fun s' => some (.nor, L.mk' s')) fun e => some (Exs.e exs e)))
    (G : L.D → Option (Exs.D exs)) (μ : L.D → Nat) (hG : ∀ s e, G s = some e → Round G μ s e (B s)) : LoopOk P c (loopE grow keep L exs G) := by
  simp only [Bool.and_eq_true] at hf
  intro S ρ κ r hS hk
  refine loopK_ok (E := Exs.e exs) (fun e => (Exs.ok exs e hf.2).2) (fun s e hs => loop_ok hΘ hY hm hc hL (fun s => LSh.mk'_ok hf.1 s) hB (fun e => (Exs.ok exs e hf.2).1) hG hs) hS ?_ (grow := grow) (keep := keep)
  rw [← hk]
  unfold loopK loopE
  simp only [Exs.k_eq]
end
end Go.Proofs.Ytkifojmjcpdnoaa.En
