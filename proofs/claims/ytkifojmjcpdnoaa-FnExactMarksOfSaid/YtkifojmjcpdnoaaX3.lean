import Derived.Test.YtkifojmjcpdnoaaX2
/- The engine, part 18: calls of functions: arguments and results. -/
namespace Go.Proofs.Ytkifojmjcpdnoaa.En
open Go Go.RowKit
section
variable {P : Program} {w0 w w' : World} {W : Nat → Prop} {bt : Bt} {S : St} {a : Act}

/-- A cell of a tree of the call's own, read as it is now. -/
theorem ro_cell (hI : Inv w0 W bt S w) {A : Nat → Prop} (hA : ∀ p s rs, S.look p = .sl s rs → 0 < bt.κ p → A (bt.β p)) : ∀ (n : Nat) (p : Pos) (t : T) (u : Value), SizeOf.sizeOf t ≤ n → HR bt p t u → u.oneCell' = true → (∀ s rs, t = .sl s rs → S.look p = .sl s rs) → RO w A t u := by
  intro n
  induction n with
  | zero => intro p t u hn; cases t <;> simp at hn
  | succ n ih =>
    intro p t u hn h ho hl
    cases h with
    | sc h => exact .sc h
    | dd => exact .dd ho
    | sl hc hk ha =>
      rename_i sz rows ad cap
      rcases Nat.eq_zero_or_pos rows.length with h0 | h0
      · have : rows = [] := List.eq_nil_of_length_eq_zero h0
        subst this
        exact .em _ _ _
      · have hlook := hl _ _ rfl
        obtain ⟨_, arr, e, g1, g2, g3, g4⟩ := (hI.tr _ _ _ hlook).2 (by omega)
        rw [ha (by omega)]
        have each : ∀ (i : Nat) (r : List T) (j : Nat) (x : T), rows[i]? = some r → r[j]? = some x → ∃ c, arr[i * sz + j]? = some c ∧ HR bt (p.sub i j) x c := by
          intro i r j x hi hj
          exact (g4 i r hi).2 j x hj
        refine .sl (fun i j => (arr[i * sz + j]?).getD undef) hc rfl (hA _ _ _ hlook (by omega)) (fun i r hi => (g4 i r hi).1) (fun i r j x hi hj => ?_) (fun i r j x hi hj => ?_)
        · obtain ⟨c, k1, _⟩ := each i r j x hi hj
          rw [add_lit, cell_at g1, Nat.zero_add, k1]
          rfl
        · obtain ⟨c, k1, k2⟩ := each i r j x hi hj
          rw [k1]
          refine ih (p.sub i j) x c ?_ k2 (g3 _ _ k1) (fun s rs hx => ?_)
          · have h1 : SizeOf.sizeOf x < SizeOf.sizeOf r := List.sizeOf_lt_of_mem (List.mem_of_getElem? hj)
            have h2 : SizeOf.sizeOf r < SizeOf.sizeOf rows := List.sizeOf_lt_of_mem (List.mem_of_getElem? hi)
            simp at hn
            omega
          · unfold St.look at hlook ⊢
            split at hlook
            · rename_i t ht
              show (match S.gh p.r with | some t => t.go (p.l ++ [(i, j)]) | none => .dd) = _
              rw [ht]
              simp only
              rw [T.go_append, hlook]
              simp only [T.go, T.cell, List.getD_eq_getElem?_getD, hi, Option.getD_some, hj]
              exact hx
            · cases hlook

theorem ro_own (hI : Inv w0 W bt S w) {A : Nat → Prop} (hA : ∀ p s rs, S.look p = .sl s rs → 0 < bt.κ p → A (bt.β p)) {p : Pos} {s lo len : Nat} {rows : List (List T)} {u : Value} (h : VR w bt (.own p s lo len) u) (hr : S.rows p s = some rows) (hle : lo + len ≤ rows.length) :
    RO w A (.sl s ((rows.drop lo).take len)) u := by
  have hlook := rows_some hr
  cases h with
  | own hp hc hk ha =>
    rename_i ad cap
    have hlen : ((rows.drop lo).take len).length = len := by simp; omega
    rcases Nat.eq_zero_or_pos len with h0 | h0
    · subst h0
      simp only [List.take_zero]
      exact .em _ _ _
    · obtain ⟨_, arr, e, g1, g2, g3, g4⟩ := (hI.tr _ _ _ hlook).2 (by omega)
      rw [ha (by omega)]
      have sub : ∀ (i : Nat) (r : List T), ((rows.drop lo).take len)[i]? = some r → rows[lo + i]? = some r := by
        intro i r hi
        rw [List.getElem?_take] at hi
        split at hi
        · rwa [List.getElem?_drop] at hi
        · cases hi
      have key : RO w A (.sl s ((rows.drop lo).take len)) (.slice (some ⟨bt.β p, lo * s, none⟩) ((rows.drop lo).take len).length cap) := by
        refine .sl (fun i j => (arr[(lo + i) * s + j]?).getD undef) (by omega) rfl (hA _ _ _ hlook (by omega)) (fun i r hi => (g4 _ r (sub i r hi)).1) (fun i r j x hi hj => ?_) (fun i r j x hi hj => ?_)
        · obtain ⟨c, k1, _⟩ := (g4 _ r (sub i r hi)).2 j x hj
          rw [add_lit, cell_at g1, show lo * s + (i * s + j) = (lo + i) * s + j by rw [Nat.add_mul]; omega, k1]
          rfl
        · obtain ⟨c, k1, k2⟩ := (g4 _ r (sub i r hi)).2 j x hj
          rw [k1]
          refine ro_cell hI hA _ (p.sub (lo + i) j) x c (Nat.le_refl _) k2 (g3 _ _ k1) (fun s' rs hx => ?_)
          unfold St.look at hlook ⊢
          split at hlook
          · rename_i t ht
            show (match S.gh p.r with | some t => t.go (p.l ++ [(lo + i, j)]) | none => .dd) = _
            rw [ht]
            simp only
            rw [T.go_append, hlook]
            simp only [T.go, T.cell, List.getD_eq_getElem?_getD, sub i r hi, Option.getD_some, hj]
            exact hx
          · cases hlook
      rw [hlen] at key
      exact key

/-- Arguments: what can be seen of the world is all that there is. -/
def seen (bt : Bt) (w : World) : Bt := { bt with A := fun b => b < w.heap.size }
theorem le_seen (hI : Inv w0 W bt S w) : bt.le (seen bt w) := ⟨Nat.le_refl _, Nat.le_refl _, fun b hb => hI.alt b hb, fun _ _ => rfl, fun _ _ => rfl, fun _ _ => rfl⟩

theorem ofAV_RO (hI : Inv w0 W bt S w) {v : AV} {u : Value} (sz : Nat) (h : VR w bt v u) (ho : u.oneCell' = true) : RO w (seen bt w).A (T.ofAV S sz v) u := by
  cases v with
  | sc v => cases h with | sc h => exact .sc h
  | em => cases h with | em a => exact .em _ _ _
  | ro s rows => cases h with | ro h => exact h.mono (fun b hb => hI.alt b hb) (fun _ _ => rfl)
  | own p s lo len =>
    simp only [T.ofAV]
    split
    · split
      · exact ro_own hI (fun _ _ _ h hk => hI.βlt h hk) h ‹_› ‹_›
      · exact .dd ho
    · exact .dd ho
  | _ => exact .dd ho

theorem reify0_VR (hI : Inv w0 W bt S w) {v : AV} {u : Value} (sz : Nat) (h : VR w bt v u) : VR w (seen bt w) (reify0 S sz v) u := by
  cases v with
  | sc v => exact h.mono (le_seen hI) (fun _ _ => rfl)
  | em => cases h with | em a => exact .ro (.em _ _ _)
  | ro s rows => exact h.mono (le_seen hI) (fun _ _ => rfl)
  | pro cells => exact h.mono (le_seen hI) (fun _ _ => rfl)
  | own p s lo len =>
    simp only [reify0]
    split
    · split
      · exact .ro (ro_own hI (fun _ _ _ h hk => hI.βlt h hk) h ‹_› ‹_›)
      · exact .dead _
    · exact .dead _
  | ptrB b j =>
    simp only [reify0]
    split
    · rename_i cs hb
      cases h with
      | ptrB j hn =>
        obtain ⟨_, _, arr, e, g1, g2, g3⟩ := hI.bx _ _ hb
        refine .pro (fun k => (arr[j + k]?).getD undef) rfl (hI.bblt hb) (fun k x hk => ?_) (fun k x hk => ?_)
        · rw [List.getElem?_map] at hk
          simp only [Option.map_eq_some_iff] at hk
          obtain ⟨v, hv, rfl⟩ := hk
          rw [List.getElem?_drop] at hv
          obtain ⟨c, k1, k2, k3⟩ := g3 _ _ hv
          rw [add_lit, cell_at g1, k1]
          rfl
        · rw [List.getElem?_map] at hk
          simp only [Option.map_eq_some_iff] at hk
          obtain ⟨v, hv, rfl⟩ := hk
          rw [List.getElem?_drop] at hv
          obtain ⟨c, k1, k2, k3⟩ := g3 _ _ hv
          rw [k1]
          exact ofAV_RO hI 0 k2 k3
    · exact .dead _
  | ptrT p s i j =>
    simp only [reify0]
    split
    · rename_i rows hr
      have hlook := rows_some hr
      cases h with
      | ptrT s i j hp hk =>
        obtain ⟨_, arr, e, g1, g2, g3, g4⟩ := (hI.tr _ _ _ hlook).2 (by omega)
        have each : ∀ (k : Nat) (x : T), ((rows.getD i []).drop j)[k]? = some x → ∃ r c, rows[i]? = some r ∧ r[j + k]? = some x ∧ arr[i * s + j + k]? = some c ∧ HR bt (p.sub i (j + k)) x c := by
          intro k x hx
          rw [List.getElem?_drop] at hx
          cases hr' : rows[i]? with
          | none => simp [hr'] at hx
          | some r =>
            simp only [List.getD_eq_getElem?_getD, hr', Option.getD_some] at hx
            obtain ⟨c, k1, k2⟩ := (g4 i r hr').2 _ _ hx
            exact ⟨r, c, rfl, hx, by rw [Nat.add_assoc]; exact k1, k2⟩
        refine .pro (fun k => (arr[i * s + j + k]?).getD undef) rfl (hI.βlt hlook (by omega)) (fun k x hx => ?_) (fun k x hx => ?_)
        · obtain ⟨r, c, k0, k1, k2, k3⟩ := each k x hx
          rw [add_lit, cell_at g1, k2]
          rfl
        · obtain ⟨r, c, k0, k1, k2, k3⟩ := each k x hx
          rw [k2]
          refine ro_cell hI (fun _ _ _ h hk => hI.βlt h hk) _ (p.sub i (j + k)) x c (Nat.le_refl _) k3 (g3 _ _ k2) (fun s' rs hxx => ?_)
          unfold St.look at hlook ⊢
          split at hlook
          · rename_i t ht
            show (match S.gh p.r with | some t => t.go (p.l ++ [(i, j + k)]) | none => .dd) = _
            rw [ht]
            simp only
            rw [T.go_append, hlook]
            simp only [T.go, T.cell, List.getD_eq_getElem?_getD, k0, Option.getD_some, k1]
            exact hxx
          · cases hlook
    · exact .dead _
  | _ => exact .dead _

theorem reify_VR (hI : Inv w0 W bt S w) {v : AV} {u : Value} (szs : List Nat) (h : VR w bt v u) : VR w (seen bt w) (reify S szs v) u := by
  cases v with
  | agg cs =>
    simp only [reify]
    split
    · rename_i hl
      cases h with
      | agg hl' ho hr =>
        rename_i us
        refine .agg (by simp [hl, hl']) ho (fun k c u h1 h2 => ?_)
        rw [List.getElem?_zipWith] at h1
        split at h1
        · rename_i s c' e1 e2
          simp only [Option.some.injEq] at h1
          subst h1
          exact reify0_VR hI s (hr k c' u e2 h2)
        · cases h1
    · exact .dead _
  | fn f caps =>
    cases h with
    | fn f hl hr =>
      rename_i us
      refine .fn f (by simp [hl]) (fun k c u h1 h2 => ?_)
      rw [List.getElem?_map] at h1
      simp only [Option.map_eq_some_iff] at h1
      obtain ⟨c', e1, rfl⟩ := h1
      exact reify0_VR hI 0 (hr k c' u e1 h2)
  | _ => exact reify0_VR hI (szs.headD 0) h

/-- A function's contract: at arguments that it only reads, and trees that are handed over to it. -/
def SoundC (P : Program) (f : FuncId) (args : List AV) (gs : List T) (res : AV) (out : List T) : Prop :=
  ∀ (w : World) (W : Nat → Prop) (bt0 : Bt) (vals : List Value), Inv w W bt0 (mkS gs) w → vals.length = args.length → (∀ (k : Nat) (v : AV) (u : Value), args[k]? = some v → vals[k]? = some u → VR w bt0 v u) →
    (callFunc f vals.toArray).run P w = .ok (.enter f vals.toArray) w ∧
    Calls P f vals.toArray w fun e w' => ∃ v btn, e = .returned v ∧ Inv w W btn (mkS out) w' ∧ gs.length ≤ out.length ∧ (∀ p : Pos, p.r < gs.length → btn.β p = bt0.β p ∧ btn.κ p = bt0.κ p) ∧ VR w' btn res v
def Sound (P : Program) (D : Den) : Prop := ∀ d f args gs res out, D d f args gs = some (res, out) → SoundC P f args gs res out

theorem mkS_nil_look (p : Pos) (s : Nat) (rs : List (List T)) : (mkS []).look p ≠ .sl s rs := by simp [St.look, mkS]
/-- A call that hands over no trees begins so. -/
theorem inv_nil (w : World) (bt : Bt) (hA : ∀ b, bt.A b → b < w.heap.size) : Inv w (fun _ => False) { bt with nb := 0, ng := 0 } (mkS []) w :=
  { os := rfl, tape := rfl, output := rfl, size := Nat.le_refl _, keep := fun _ _ _ => rfl, nb := rfl, ng := rfl
    bx := fun n cells h => by cases h
    gh := fun r t h => by simp [mkS] at h
    tr := fun p s rs h => absurd h (mkS_nil_look p s rs)
    inj := fun p q s rs s' rs' h => absurd h (mkS_nil_look p s rs)
    bbinj := fun n m cs cs' h => by cases h
    bbtr := fun n cs p s rs h => by cases h
    alt := hA
    atr := fun p s rs h => absurd h (mkS_nil_look p s rs)
    abb := fun n cs h => by cases h }

/-- Nothing of the callee's to write. -/
def AV.ro0 : AV → Bool
  | .sc _ | .em | .ro _ _ | .pro _ | .dead => true
  | _ => false
def AV.readOnly : AV → Bool
  | .agg cs => cs.all AV.ro0
  | .fn _ cs => cs.all AV.ro0
  | v => v.ro0
theorem VR.readOnly0 {bt' : Bt} (hA : bt'.A = bt.A) {v : AV} {u : Value} (h : VR w bt v u) (hr : v.ro0 = true) : VR w bt' v u := by
  cases h with
  | sc h => exact .sc h
  | em a => exact .em a
  | ro h => exact .ro (by rw [hA]; exact h)
  | pro cs hs hb hc ht => exact .pro cs hs (by rw [hA]; exact hb) hc (fun j x hx => by rw [hA]; exact ht j x hx)
  | dead u => exact .dead u
  | _ => simp [AV.ro0] at hr
theorem VR.readOnly {bt' : Bt} (hA : bt'.A = bt.A) {v : AV} {u : Value} (h : VR w bt v u) (hr : v.readOnly = true) : VR w bt' v u := by
  cases v with
  | agg cs =>
    cases h with
    | agg hl ho hc => exact .agg hl ho (fun k c u h1 h2 => (hc k c u h1 h2).readOnly0 hA (List.all_eq_true.1 hr c (List.mem_of_getElem? h1)))
  | fn f cs =>
    cases h with
    | fn f hl hc => exact .fn f hl (fun k c u h1 h2 => (hc k c u h1 h2).readOnly0 hA (List.all_eq_true.1 hr c (List.mem_of_getElem? h1)))
  | _ => exact h.readOnly0 hA hr
theorem reify0_ro (S : St) (sz : Nat) (v : AV) : (reify0 S sz v).ro0 = true := by
  cases v <;> simp only [reify0] <;> (try split) <;> (try split) <;> rfl
theorem ro0_readOnly {v : AV} (h : v.ro0 = true) : v.readOnly = true := by
  cases v <;> first | exact h | simp [AV.ro0] at h
theorem reify_ro (S : St) (szs : List Nat) (v : AV) : (reify S szs v).readOnly = true := by
  have one : ∀ {v : AV}, v.ro0 = true → v.readOnly = true := by
    intro v h
    cases v <;> first | exact h | simp [AV.ro0] at h
  cases v with
  | agg cs =>
    simp only [reify]
    split
    · refine List.all_eq_true.2 (fun c hc => ?_)
      obtain ⟨k, hk, rfl⟩ := List.getElem_of_mem hc
      simp only [List.getElem_zipWith]
      exact reify0_ro _ _ _
    · rfl
  | fn f caps =>
    simp only [reify]
    refine List.all_eq_true.2 (fun c hc => ?_)
    obtain ⟨d, _, rfl⟩ := List.mem_map.1 hc
    exact reify0_ro _ _ _
  | _ =>
    simp only [reify]
    exact one (reify0_ro S (szs.headD 0) _)
end
end Go.Proofs.Ytkifojmjcpdnoaa.En

/- The engine, part 19: calls of functions. -/
namespace Go.Proofs.Ytkifojmjcpdnoaa.En
open Go Go.RowKit
section
variable {P : Program} {w0 w w' : World} {W : Nat → Prop} {bt btn : Bt} {S : St} {a : Act}

theorem below_of_inv {out : List T} (hC : Inv w (fun _ => False) btn (mkS out) w') : Below w.heap.size w w' :=
  ⟨hC.os, hC.tape, hC.output, hC.size, fun k hk => hC.keep k hk (fun h => h)⟩

theorem shift_VR {k n : Nat} (hng : btn.ng = k) (hn : bt.ng = n) {v : AV} {u : Value} (h : VR w' btn v u) : VR w' (bt.add btn k) (shift n v) u := by
  have one : ∀ {v u}, VR w' btn v u → VR w' (bt.add btn k) (shift0 n v) u := by
    intro v u h
    cases h with
    | sc h => exact .sc h
    | own hp hc hk ha =>
      rename_i p sz lo len ad cap
      have e1 : (bt.add btn k).κ ⟨p.r + n, p.l⟩ = btn.κ p := by simp only [Bt.add, hn]; rw [if_pos (by omega), Nat.add_sub_cancel]
      have e2 : (bt.add btn k).β ⟨p.r + n, p.l⟩ = btn.β p := by simp only [Bt.add, hn]; rw [if_pos (by omega), Nat.add_sub_cancel]
      exact .own (by show p.r + n < bt.ng + k; omega) hc (by rw [e1]; exact hk) (by rw [e2]; exact ha)
    | _ => exact .dead _
  have two : ∀ {v u}, VR w' btn v u → VR w' (bt.add btn k) (shift1 n v) u := by
    intro v u h
    cases v with
    | agg cs =>
      cases h with
      | agg hl ho hr =>
        refine .agg (by simpa using hl) ho (fun j c u h1 h2 => ?_)
        rw [List.getElem?_map] at h1
        simp only [Option.map_eq_some_iff] at h1
        obtain ⟨c', e1, rfl⟩ := h1
        exact one (hr j c' u e1 h2)
    | _ => exact one h
  cases v with
  | tup vs =>
    cases h with
    | tup hl hr =>
      refine .tup (by simpa using hl) (fun j c u h1 h2 => ?_)
      rw [List.getElem?_map] at h1
      simp only [Option.map_eq_some_iff] at h1
      obtain ⟨c', e1, rfl⟩ := h1
      exact two (hr j c' u e1 h2)
  | _ => exact two h

theorem install_sound (hI : Inv w0 W bt S w) (hE : ER w bt S a) (hfz : S.fz ≤ S.ng) {res : AV} {out : List T} {u : Value} (hC : Inv w (fun _ => False) btn (mkS out) w') (hv : VR w' btn res u) :
    ∃ bt', Left1 w0 W bt S a bt' (install S (res, out)).2 w' ∧ bt.le bt' ∧ VR w' bt' (install S (res, out)).1 u := by
  have hb := below_of_inv hC
  have hg : Grown w0 W bt S w w' := Grown.of_below hb
  have hi := (hI.change hg).addRoots btn out (fun p s rs h => by
      obtain ⟨h1, h2⟩ := hC.tr p s rs h
      refine ⟨h1, fun hk => ⟨?_, (h2 hk).2⟩⟩
      rcases (h2 hk).1 with h | h
      · exact .inl (Nat.le_trans hI.size h)
      · exact h.elim) hC.inj (fun p s rs h hk => by
      have hge : w.heap.size ≤ btn.β p := by
        rcases ((hC.tr p s rs h).2 hk).1 with h | h
        · exact h
        · exact h.elim
      exact hI.fresh hge)
  have hle := Bt.le_add bt btn out.length
  refine ⟨_, ⟨hi, ⟨hE.1, fun t => (hE.2 t).mono hle (hg.A hI)⟩, rfl, trivial, Nat.le_add_right _ _, fun p hp => ⟨hle.β p (by rw [hI.ng]; omega), hle.κ p (by rw [hI.ng]; omega)⟩, fun r hr hn => ?_⟩, hle, shift_VR hC.ng hI.ng hv⟩
  have : (if S.ng ≤ r ∧ r < S.ng + out.length then out[r - S.ng]? else S.gh r) = none := hn
  rwa [if_neg (by omega)] at this

/-- The arguments of a call, in the caller's world. -/
theorem args_VR (hI : Inv w0 W bt S w) (hE : ER w bt S a) {ts : Array TypeId} {as : Array Operand} {caps : List AV} {us : List Value} (hts : ts.size = as.size) (hl : us.length = caps.length)
    (hc : ∀ (k : Nat) (c : AV) (u : Value), caps[k]? = some c → us[k]? = some u → VR w bt c u) :
    (as.toList.map a.eval ++ us).length = (args P S ts as caps).length ∧ ∀ (k : Nat) (v : AV) (u : Value), (args P S ts as caps)[k]? = some v → (as.toList.map a.eval ++ us)[k]? = some u → VR w { seen bt w with nb := 0, ng := 0 } v u := by
  have l1 : (List.zipWith (fun t x => reify S (shT P 9 t) (opd S x)) ts.toList as.toList).length = as.size := by simp [hts]
  refine ⟨by simp [args, hts, hl], fun k v u h1 h2 => ?_⟩
  unfold args at h1
  by_cases hk : k < as.size
  · rw [List.getElem?_append_left (by omega)] at h1
    rw [List.getElem?_append_left (by simpa using hk), List.getElem?_map] at h2
    rw [List.getElem?_zipWith] at h1
    split at h1
    · rename_i t x e1 e2
      simp only [Option.some.injEq] at h1
      rw [e2] at h2
      simp only [Option.map_some, Option.some.injEq] at h2
      subst h1 h2
      exact VR.readOnly (bt := seen bt w) (bt' := { seen bt w with nb := 0, ng := 0 }) rfl (reify_VR hI _ (opd_VR hE x)) (reify_ro _ _ _)
    · cases h1
  · rw [List.getElem?_append_right (by omega), l1, List.getElem?_map] at h1
    rw [List.getElem?_append_right (by simp; omega)] at h2
    simp only [List.length_map, Array.length_toList] at h2
    simp only [Option.map_eq_some_iff] at h1
    obtain ⟨c, e1, rfl⟩ := h1
    exact VR.readOnly (bt := seen bt w) (bt' := { seen bt w with nb := 0, ng := 0 }) rfl (reify0_VR hI 0 (hc _ c u e1 h2)) (ro0_readOnly (reify0_ro _ _ _))

theorem call_run {D : Den} (hD : Sound P D) (hI : Inv w0 W bt S w) (hE : ER w bt S a) {o : Oper} {f : Operand} {as : Array Operand} {ts : Array TypeId} (ho : o.op = .call { callee := .value f, args := as, argTypes := ts }) (hts : ts.size = as.size)
    {g : FuncId} {caps : List AV} (hc : callee S f = some (g, caps)) {res : AV} {out : List T} {d : Option Tmp} (hr : D d g (args P S ts as caps) [] = some (res, out)) {K : Act → World → Prop} {Q : Exit → Act → World → Prop}
    (h : ∀ u w' btn, Inv w (fun _ => False) btn (mkS out) w' → VR w' btn res u → K (a.put o.dst u) w') : o.wp P a w K Q := by
  have hf := opd_VR hE f
  have fin : ∀ us : List Value, a.eval f = .func (.func g) #[] us.toArray → us.length = caps.length → (∀ (k : Nat) (c : AV) (u : Value), caps[k]? = some c → us[k]? = some u → VR w bt c u) → o.wp P a w K Q := by
    intro us he hl hcc
    obtain ⟨h1, h2⟩ := args_VR (P := P) (ts := ts) (as := as) hI hE hts hl hcc
    have hI0 : Inv w (fun _ => False) { seen bt w with nb := 0, ng := 0 } (mkS []) w := inv_nil w (seen bt w) (fun _ h => h)
    obtain ⟨g1, g2⟩ := hD d g _ [] res out hr w (fun _ => False) _ (as.toList.map a.eval ++ us) hI0 h1 h2
    have hrun : (execOp a.eval o).run P w = .ok (.enter g (as.toList.map a.eval ++ us).toArray) w := by
      have e : as.map a.eval ++ us.toArray = (as.toList.map a.eval ++ us).toArray := by apply Array.ext'; simp
      obtain ⟨dst, op, type, pos, after, guard⟩ := o
      simp only at ho
      subst ho
      simp only [execOp, resolve, he, Deferred.ofValue, Sem.run_bind, Sem.run_pure, Result.andThen_ok, invoke, Array.empty_append]
      rw [e]
      exact g1
    unfold Oper.wp
    rw [hrun, Oper.upon_enter]
    refine Calls.mono g2 (fun e w' hh => ?_)
    obtain ⟨v, btn, rfl, k1, _, _, k2⟩ := hh
    exact h v w' btn k1 k2
  unfold callee at hc
  split at hc
  · rename_i g' x y he
    simp only [Option.some.injEq, Prod.mk.injEq] at hc
    obtain ⟨rfl, rfl⟩ := hc
    rw [he] at hf
    generalize hu : a.eval f = u at hf fin
    cases hf with
    | sc hs =>
      simp only [scal, Bool.and_eq_true, Array.isEmpty_iff] at hs
      obtain ⟨rfl, rfl⟩ := hs
      exact fin [] rfl rfl (fun k c u h1 _ => by simp at h1)
  · rename_i g' cs he
    simp only [Option.some.injEq, Prod.mk.injEq] at hc
    obtain ⟨rfl, rfl⟩ := hc
    rw [he] at hf
    generalize hu : a.eval f = u at hf fin
    cases hf with
    | fn f hl hcc => exact fin _ rfl hl hcc
  · cases hc

/-- More may be read. -/
theorem Inv.more (hI : Inv w0 W bt S w) {A : Nat → Prop} (hA : ∀ b, bt.A b → A b) (hlt : ∀ b, A b → b < w.heap.size) (hn : ∀ b, A b → bt.A b ∨ ((∀ n cs, S.bx n = some cs → bt.bb n ≠ b) ∧ ∀ p s rs, S.look p = .sl s rs → 0 < bt.κ p → bt.β p ≠ b)) :
    Inv w0 W { bt with A := A } S w ∧ bt.le { bt with A := A } := by
  have hle : bt.le { bt with A := A } := ⟨Nat.le_refl _, Nat.le_refl _, hA, fun _ _ => rfl, fun _ _ => rfl, fun _ _ => rfl⟩
  refine ⟨{ os := hI.os, tape := hI.tape, output := hI.output, size := hI.size, keep := hI.keep, nb := hI.nb, ng := hI.ng
            bx := fun n cells h => by
              obtain ⟨h1, h2, h3⟩ := hI.bx n cells h
              exact ⟨h1, h2, h3.mono hle (by rw [hI.nb]; exact h1) (fun _ _ => rfl) rfl⟩
            gh := hI.gh
            tr := fun p s rs h => by
              obtain ⟨h1, h2⟩ := hI.tr p s rs h
              exact ⟨h1, fun hk => ⟨(h2 hk).1, (h2 hk).2.mono hle (hI.look_lt h) rfl⟩⟩
            inj := hI.inj, bbinj := hI.bbinj, bbtr := hI.bbtr, alt := hlt
            atr := fun p s rs h hk ha => by
              rcases hn _ ha with h' | h'
              · exact hI.atr p s rs h hk h'
              · exact h'.2 p s rs h hk rfl
            abb := fun n cs h ha => by
              rcases hn _ ha with h' | h'
              · exact hI.abb n cs h h'
              · exact h'.1 n cs h rfl }, hle⟩

/-- A result that is only read. -/
theorem frz_sound (hI : Inv w0 W bt S w) (hE : ER w bt S a) {res : AV} {out : List T} {u : Value} (hC : Inv w (fun _ => False) btn (mkS out) w') (hv : VR w' btn res u) :
    ∃ bt', Inv w0 W bt' S w' ∧ ER w' bt' S a ∧ bt.le bt' ∧ bt'.β = bt.β ∧ bt'.κ = bt.κ ∧ VR w' bt' (frz (res, out)) u := by
  have hb := below_of_inv hC
  have hg : Grown w0 W bt S w w' := Grown.of_below hb
  obtain ⟨h1, hle⟩ := (hI.change hg).more (A := fun b => bt.A b ∨ (w.heap.size ≤ b ∧ b < w'.heap.size)) (fun b h => .inl h) (fun b h => by
    rcases h with h | h
    · exact Nat.lt_of_lt_of_le (hI.alt b h) hb.size
    · exact h.2) (fun b h => by
    rcases h with h | h
    · exact .inl h
    · have := hI.fresh h.1
      exact .inr ⟨this.1, this.2.1⟩)
  refine ⟨_, h1, ⟨hE.1, fun t => (hE.2 t).mono hle (hg.A hI)⟩, hle, rfl, rfl, ?_⟩
  have hA : ∀ p s rs, (mkS out).look p = .sl s rs → 0 < btn.κ p → (bt.A (btn.β p) ∨ (w.heap.size ≤ btn.β p ∧ btn.β p < w'.heap.size)) := by
    intro p s rs h hk
    rcases ((hC.tr p s rs h).2 hk).1 with h' | h'
    · exact .inr ⟨h', hC.βlt h hk⟩
    · exact h'.elim
  have one : ∀ {v u}, VR w' btn v u → VR w' { bt with A := fun b => bt.A b ∨ (w.heap.size ≤ b ∧ b < w'.heap.size) } (frz0 out v) u := by
    intro v u h
    cases v with
    | sc v => cases h with | sc h => exact .sc h
    | own p sz lo len =>
      simp only [frz0]
      split
      · rename_i s rows hl ht
        split
        · rename_i hc
          obtain ⟨rfl, hle'⟩ := hc
          refine .ro (ro_own hC hA h ?_ hle')
          obtain ⟨r, l⟩ := p
          simp only at hl ht
          subst hl
          simp [St.rows, St.look, mkS, ht, T.go]
        · exact .dead _
      · exact .dead _
    | _ => exact .dead _
  have two : ∀ {v u}, VR w' btn v u → VR w' { bt with A := fun b => bt.A b ∨ (w.heap.size ≤ b ∧ b < w'.heap.size) } (frz1 out v) u := by
    intro v u h
    cases v with
    | agg cs =>
      cases h with
      | agg hl ho hr =>
        refine .agg (by simpa using hl) ho (fun j c u h1 h2 => ?_)
        rw [List.getElem?_map] at h1
        simp only [Option.map_eq_some_iff] at h1
        obtain ⟨c', e1, rfl⟩ := h1
        exact one (hr j c' u e1 h2)
    | _ => exact one h
  unfold frz
  cases res with
  | tup vs =>
    cases hv with
    | tup hl hr =>
      refine .tup (by simpa using hl) (fun j c u h1 h2 => ?_)
      rw [List.getElem?_map] at h1
      simp only [Option.map_eq_some_iff] at h1
      obtain ⟨c', e1, rfl⟩ := h1
      exact two (hr j c' u e1 h2)
  | _ => exact two hv
end
end Go.Proofs.Ytkifojmjcpdnoaa.En

/- The engine, part 20: regions that draw no order. -/
namespace Go.Proofs.Ytkifojmjcpdnoaa.En
open Go Go.RowKit
section
variable {P : Program} {w0 w w' : World} {W : Nat → Prop} {btI bt bt' : Bt} {SI S S' : St} {a a' : Act} {D : Den} {Q : Exit → Act → World → Prop}

/-- Where the walk through a function stands, and what it still owes to those who called it. -/
structure Lv (w0 : World) (W : Nat → Prop) (btI : Bt) (SI : St) (bt : Bt) (S : St) (a : Act) (w : World) : Prop where
  inv : Inv w0 W bt S w
  er : ER w bt S a
  defers : a.defers = []
  fz : S.fz = SI.fz
  fzng : S.fz ≤ S.ng
  keep : ∀ p : Pos, p.r < SI.fz → bt.β p = btI.β p ∧ bt.κ p = btI.κ p
  gone : ∀ r, r < SI.fz → S.gh r = none → SI.gh r = none

theorem Lv.left (h : Lv w0 W btI SI bt S a w) (g : Left1 w0 W bt S a bt' S' w') : Lv w0 W btI SI bt' S' a w' :=
  ⟨g.inv, g.er, h.defers, g.fz.trans h.fz, by rw [g.fz]; exact Nat.le_trans h.fzng g.ng, fun p hp => ⟨((g.keep p (by rw [h.fz]; exact hp)).1).trans (h.keep p hp).1, ((g.keep p (by rw [h.fz]; exact hp)).2).trans (h.keep p hp).2⟩,
    fun r hr hn => h.gone r hr (g.gone r (by rw [h.fz]; exact hr) hn)⟩
theorem put_same {d : Option Tmp} {v : AV} (h : S.put d v = some S') : S'.bx = S.bx ∧ S'.gh = S.gh ∧ S'.nb = S.nb ∧ S'.ng = S.ng ∧ S'.fz = S.fz ∧ S'.nt = S.nt ∧ S' = { S with env := S'.env } := by
  unfold St.put at h
  split at h
  · split at h
    · simp only [Option.some.injEq] at h
      subst h
      exact ⟨rfl, rfl, rfl, rfl, rfl, rfl, rfl⟩
    · cases h
  · simp only [Option.some.injEq] at h
    subst h
    exact ⟨rfl, rfl, rfl, rfl, rfl, rfl, rfl⟩
theorem Inv.env (h : Inv w0 W bt S w) (env : Nat → AV) : Inv w0 W bt { S with env := env } w :=
  { os := h.os, tape := h.tape, output := h.output, size := h.size, keep := h.keep, nb := h.nb, ng := h.ng, bx := h.bx, gh := h.gh, tr := h.tr, inj := h.inj, bbinj := h.bbinj, bbtr := h.bbtr, alt := h.alt, atr := h.atr, abb := h.abb }
theorem Lv.put (h : Lv w0 W btI SI bt S a w) {d : Option Tmp} {v : AV} {u : Value} (hv : VR w bt v u) (hp : S.put d v = some S') : Lv w0 W btI SI bt S' (a.put d u) w := by
  obtain ⟨_, e2, _, e4, e5, _, e7⟩ := put_same hp
  refine ⟨by rw [e7]; exact h.inv.env _, h.er.put hv hp, ?_, e5.trans h.fz, by rw [e5, e4]; exact h.fzng, h.keep, fun r hr hn => h.gone r hr (by rw [← e2]; exact hn)⟩
  cases d <;> exact h.defers

theorem VR_undef : VR w bt (.tup []) undef := .tup (us := []) rfl (fun _ _ _ h => by cases h)
theorem wants_sound {ops : Array Oper} {o : Oper} {b : Bool} (hE : ER w bt S a) (h : wants S ops o = some b) : Region.wanted o (yielded ops a.tmps) = b := by
  unfold wants at h
  unfold Region.wanted
  split at h
  · rename_i hg
    simp only [Option.some.injEq] at h
    simp [hg, h]
  · rename_i j want hg
    split at h
    · rename_i d hd
      split at h
      · rename_i b' he
        simp only [Option.some.injEq] at h
        have hv := hE.2 d
        rw [he] at hv
        have hu := hv.inv_sc
        have hy : yielded ops a.tmps j = some b' := by
          unfold yielded
          rw [hd]
          simp only [Option.bind_some]
          cases hx : a.tmps[d]? with
          | none =>
            simp only [Array.getD_eq_getD_getElem?, hx, Option.getD_none] at hu
            cases hu
          | some x =>
            simp only [Array.getD_eq_getD_getElem?, hx, Option.getD_some] at hu
            subst hu
            rfl
        simp only [hg, hy, ← h]
        cases b' <;> cases want <;> rfl
      · rename_i he
        simp only [Option.some.injEq] at h
        have hv := hE.2 d
        rw [he] at hv
        have hu : a.tmps.getD d undef = undef := by
          generalize a.tmps.getD d undef = u at hv
          cases hv with
          | tup hl h => rw [List.length_eq_zero_iff.1 hl]; rfl
        have hy : yielded ops a.tmps j = none := by
          unfold yielded
          rw [hd]
          simp only [Option.bind_some]
          cases hx : a.tmps[d]? with
          | none => rfl
          | some x =>
            simp only [Array.getD_eq_getD_getElem?, hx, Option.getD_some] at hu
            subst hu
            rfl
        simp only [hg, hy, ← h]
        cases want <;> rfl
      · cases h
    · cases h

theorem op_sound (hD : Sound P D) (h : Lv w0 W btI SI bt S a w) {o : Oper} (hok : opOk P o = true) (hs : one D P S o = some S') {K : Act → World → Prop} (hK : ∀ bt' a' w', Lv w0 W btI SI bt' S' a' w' → K a' w') : o.wp P a w K Q := by
  unfold one at hs
  simp only [Option.bind_eq_some_iff] at hs
  obtain ⟨⟨v, S1⟩, h1, h2⟩ := hs
  simp only at h2
  by_cases hf : isFn o = true
  · obtain ⟨dst, op, type, pos, after, guard⟩ := o
    unfold isFn at hf
    split at hf
    · rename_i f as ts hop
      simp only at hop
      subst hop
      simp only [step, Option.bind_eq_some_iff, Option.map_eq_some_iff] at h1
      obtain ⟨⟨g, caps⟩, hc, ⟨res, out⟩, hr, hi⟩ := h1
      simp only [opOk, beq_iff_eq] at hok
      refine call_run hD h.inv h.er rfl hok hc hr (fun u w' btn hC hv => ?_)
      obtain ⟨bt', g1, _, g2⟩ := install_sound h.inv h.er h.fzng hC hv
      rw [hi] at g1 g2
      exact hK _ _ _ ((h.left g1).put g2 h2)
    · cases hf
  · obtain ⟨u, w', bt', g0, g1, g2⟩ := step_ok h.inv h.er h.fzng hok (by simpa using hf) h1
    have := hK _ _ _ ((h.left g1).put g2 h2)
    unfold Oper.wp
    rcases g0 with g0 | ⟨g0, rfl⟩
    · rw [g0, Oper.upon_value]; exact this
    · rw [g0, Oper.upon_skip]; exact this

theorem evL_sound (hD : Sound P D) {ops : Array Oper} (hok : ∀ o ∈ ops.toList, opOk P o = true) : ∀ (l : List Oper) (k : Nat) (bt : Bt) (S S' : St) (a : Act) (w : World), ops.toList.drop k = l → Lv w0 W btI SI bt S a w → evL D P ops l S = some S' →
    (∀ bt' a' w', Lv w0 W btI SI bt' S' a' w' → Q .normal a' w') → wpOps P ops Q (List.range' k l.length) a w := by
  intro l
  induction l with
  | nil =>
    intro k bt S S' a w hd h he hK
    simp only [evL, Option.some.injEq] at he
    subst he
    exact hK _ _ _ h
  | cons o l ih =>
    intro k bt S S' a w hd h he hK
    have hko : ops.toList[k]? = some o := by
      have := congrArg (fun x : List Oper => x[0]?) hd
      simpa [List.getElem?_drop] using this
    have hko' : ops[k]? = some o := by simpa using hko
    have hd' : ops.toList.drop (k + 1) = l := by
      rw [← List.drop_drop, hd]
      rfl
    have hoo := hok o (List.mem_of_getElem? hko)
    simp only [evL, Option.bind_eq_some_iff] at he
    obtain ⟨b, hb, he⟩ := he
    have hw := wants_sound h.er hb
    simp only [List.length_cons, List.range'_succ]
    unfold wpOps
    rw [hko']
    simp only
    split at he
    · rename_i hbt
      simp only [Option.bind_eq_some_iff] at he
      obtain ⟨S1, h1, h2⟩ := he
      rw [hw, if_pos hbt]
      exact .inl (op_sound hD h hoo h1 (fun bt' a' w' h' => ih (k + 1) bt' S1 S' a' w' hd' h' h2 hK))
    · rename_i hbf
      simp only [Option.bind_eq_some_iff] at he
      obtain ⟨S1, h1, h2⟩ := he
      rw [hw, if_neg hbf]
      exact ih (k + 1) bt S1 S' _ w hd' (h.put VR_undef h1) h2 hK

theorem region_sound (hD : Sound P D) {ops : Array Oper} {id : Nat} (hok : ∀ o ∈ ops.toList, opOk P o = true) (h : Lv w0 W btI SI bt S a w) (he : evL D P ops ops.toList S = some S')
    (hK : ∀ bt' a' w', Lv w0 W btI SI bt' S' a' w' → Q .normal a' w') : (Code.region id ops false).wp P Q a w := by
  refine wp_region ?_
  have := evL_sound (Q := Q) hD hok ops.toList 0 bt S S' a w rfl h he hK
  rw [List.range_eq_range']
  simpa using this
end
end Go.Proofs.Ytkifojmjcpdnoaa.En

/- The engine, part 21: an operation's value depends on its operands alone, and on what lies in memory. -/
namespace Go.Proofs.Ytkifojmjcpdnoaa.En
open Go Go.RowKit
section
variable {P : Program} {S : St} {D : Den}

theorem scalarOp_congr {o : Oper} {env : Nat → AV} (hs : ∀ cs b, o.op ≠ .select cs b) (h : ∀ x ∈ o.op.operands, opd { S with env := env } x = opd S x) : scalarOp P { S with env := env } o = scalarOp P S o := by
  have e1 : o.op.operands.all (fun x => (toV (opd { S with env := env } x)).isSome) = o.op.operands.all (fun x => (toV (opd S x)).isSome) := by
    rw [Bool.eq_iff_iff, Array.all_eq_true_iff_forall_mem, Array.all_eq_true_iff_forall_mem]
    constructor
    · intro g x hx
      rw [← h x hx]
      exact g x hx
    · intro g x hx
      rw [h x hx]
      exact g x hx
  have e2 : execOp (fun x => (toV (opd { S with env := env } x)).getD undef) o = execOp (fun x => (toV (opd S x)).getD undef) o := execOp_congr o hs (fun x hx => by rw [h x hx])
  unfold scalarOp
  rw [e1, e2]
theorem reify_env (env : Nat → AV) (szs : List Nat) (v : AV) : reify { S with env := env } szs v = reify S szs v := by cases v <;> rfl
theorem load_env (env : Nat → AV) (t : TypeId) (v : AV) : load P { S with env := env } t v = load P S t v := by cases v <;> rfl
theorem args_congr {env : Nat → AV} {ts : Array TypeId} {as : Array Operand} (caps : List AV) (h : ∀ x ∈ as, opd { S with env := env } x = opd S x) : args P { S with env := env } ts as caps = args P S ts as caps := by
  unfold args
  congr 1
  · apply List.ext_getElem?
    intro k
    rw [List.getElem?_zipWith, List.getElem?_zipWith]
    cases ht : ts.toList[k]? with
    | none => rfl
    | some t =>
      cases ha : as.toList[k]? with
      | none => rfl
      | some x =>
        simp only
        rw [reify_env, h x (by simpa using List.mem_of_getElem? ha)]
theorem callee_congr {env : Nat → AV} {f : Operand} (h : opd { S with env := env } f = opd S f) : callee { S with env := env } f = callee S f := by
  unfold callee
  rw [h]

theorem stepV_congr {o : Oper} {env : Nat → AV} (hok : opOk P o = true) (h : ∀ x ∈ o.op.operands, opd { S with env := env } x = opd S x) : stepV D P { S with env := env } o = stepV D P S o := by
  have hs : ∀ cs b, o.op ≠ .select cs b := by
    intro cs b he
    simp [opOk, he] at hok
  have sc := scalarOp_congr (P := P) hs h
  obtain ⟨dst, op, type, pos, after, guard⟩ := o
  cases op with
  | move x => simp only [stepV]; rw [h x (by simp [Op.operands])]
  | assign x => simp only [stepV]; rw [h x (by simp [Op.operands])]
  | pick c x y => simp only [stepV]; rw [h c (by simp [Op.operands]), h x (by simp [Op.operands]), h y (by simp [Op.operands])]
  | load t x => simp only [stepV]; rw [h x (by simp [Op.operands]), load_env]
  | nilCheck x => simp only [stepV]; rw [h x (by simp [Op.operands])]
  | fieldAddr t x k => simp only [stepV]; rw [h x (by simp [Op.operands])]
  | field t x k => simp only [stepV]; rw [h x (by simp [Op.operands])]
  | indexAddr t x i => simp only [stepV]; rw [h x (by simp [Op.operands]), h i (by simp [Op.operands])]
  | build t parts =>
    simp only [stepV]
    have : parts.toList.map (fun x => (x.1, opd { S with env := env } x.2)) = parts.toList.map (fun x => (x.1, opd S x.2)) := List.map_congr_left fun x hx => by
      rw [h x.2 (by simp only [Op.operands, List.mem_toArray]; exact List.mem_map.2 ⟨x, hx, rfl⟩)]
    rw [this]
  | slice t x lo hi mx =>
    cases mx with
    | some m => simp only [stepV]; exact sc
    | none =>
      have hb : ∀ d (y : Option Operand), (∀ z, y = some z → opd { S with env := env } z = opd S z) → bound { S with env := env } d y = bound S d y := by
        intro d y hy
        cases y with
        | none => rfl
        | some z => simp only [bound]; rw [hy z rfl]
      have h1 : ∀ d, bound { S with env := env } d lo = bound S d lo := fun d => hb d lo (fun z hz => h z (by simp [Op.operands, hz]))
      have h2 : ∀ d, bound { S with env := env } d hi = bound S d hi := fun d => hb d hi (fun z hz => h z (by simp [Op.operands, hz]))
      simp only [stepV]
      rw [h x (by simp [Op.operands])]
      simp only [h1, h2]
  | index t x i => simp only [stepV]; rw [h x (by simp [Op.operands]), h i (by simp [Op.operands]), sc]
  | extract x k => simp only [stepV]; rw [h x (by simp [Op.operands])]
  | makeFunc fn first caps =>
    cases fn with
    | func f =>
      simp only [stepV]
      have : caps.toList.map (opd { S with env := env }) = caps.toList.map (opd S) := List.map_congr_left fun x hx => h x (by simp [Op.operands]; right; simpa using hx)
      rw [this]
    | _ => simp only [stepV]; exact sc
  | unOp op t x =>
    cases op with
    | not => simp only [stepV]; rw [h x (by simp [Op.operands])]
    | _ => simp only [stepV]; exact sc
  | binOp op t x y t' =>
    have hx := h x (by simp [Op.operands])
    have hy := h y (by simp [Op.operands])
    cases op <;> simp only [stepV] <;> first | exact sc | rw [hx, hy, sc]
  | call c =>
    obtain ⟨cl, as, ts⟩ := c
    cases cl with
    | builtin b =>
      cases b with
      | len =>
        simp only [stepV]
        rw [sc]
        split
        · rename_i x t e1 e2
          have e1 : as = #[x] := by apply Array.ext'; simpa using e1
          subst e1
          rw [h x (by simp [Op.operands, Call.operands])]
        · rfl
      | max =>
        have : as.toList.map (opd { S with env := env }) = as.toList.map (opd S) := List.map_congr_left fun x hx => h x (by simp [Op.operands, Call.operands]; simpa using hx)
        simp only [stepV]
        rw [this, sc]
      | min =>
        have : as.toList.map (opd { S with env := env }) = as.toList.map (opd S) := List.map_congr_left fun x hx => h x (by simp [Op.operands, Call.operands]; simpa using hx)
        simp only [stepV]
        rw [this, sc]
      | _ => simp only [stepV]; exact sc
    | value f =>
      simp only [stepV]
      rw [callee_congr (h f (by simp [Op.operands, Call.operands]))]
      congr 1
      funext x
      obtain ⟨g, caps⟩ := x
      simp only
      rw [args_congr caps (fun x hx => h x (by simp [Op.operands, Call.operands, hx]))]
    | invoke r m => simp only [stepV]; exact sc
  | _ => simp only [stepV]; exact sc
end
end Go.Proofs.Ytkifojmjcpdnoaa.En

/- The engine, part 22: regions that draw their order. -/
namespace Go.Proofs.Ytkifojmjcpdnoaa.En
open Go Go.RowKit
section
variable {P : Program} {w0 w w' : World} {W : Nat → Prop} {btI bt bt' : Bt} {SI S S' SV : St} {a a' : Act} {D : Den} {Q : Exit → Act → World → Prop} {ops : Array Oper}

/-! what comes before an operation in every order -/
def befOk (ops : List Oper) (B : List (List Nat)) : Bool := (List.range ops.length).all fun j => (B.getD j []).all fun i => decide (i < j) && match ops[j]? with
  | some o => o.after.toList.any fun e => Region.binds .any e && (e.on == i || (B.getD e.on []).contains i)
  | none => false
def pairOk (all : Array Oper) (B : List (List Nat)) (i j : Nat) (oi oj : Oper) : Bool :=
  (i == j || ((oi.dst.isNone || oi.dst != oj.dst) && (!(isStore oj && (!isStore oi || decide (i < j))) || (B.getD j []).contains i || (!isStore oi && !isNew oi)))) &&
  (match oi.dst with | some d => !(oj.looksAt all).contains d || (B.getD j []).contains i || (!isStore oj && (i == j || (B.getD i []).contains j)) | none => true)
def drawOk (P : Program) (all : Array Oper) : Bool :=
  let ops := all.toList
  let B := befs ops
  befOk ops B && (List.range ops.length).all fun j => match ops[j]? with
    | none => false
    | some oj => opOk P oj && (oj.after.toList.all fun e => !Region.binds .any e || decide (e.on < j)) && (!isStore oj || (oj.dst.isNone && oj.guard.isNone)) &&
      (List.range ops.length).all fun i => match ops[i]? with | none => false | some oi => pairOk all B i j oi oj

structure DrawOk (P : Program) (ops : Array Oper) (B : List (List Nat)) : Prop where
  lt : ∀ (j i : Nat), j < ops.size → i ∈ B.getD j [] → i < j
  edge : ∀ (j i : Nat) (o : Oper), ops[j]? = some o → i ∈ B.getD j [] → ∃ e ∈ o.after, Region.binds .any e = true ∧ (e.on = i ∨ i ∈ B.getD e.on [])
  ok : ∀ (j : Nat) (o : Oper), ops[j]? = some o → opOk P o = true
  on : ∀ (j : Nat) (o : Oper) (e : Edge), ops[j]? = some o → e ∈ o.after → Region.binds .any e = true → e.on < j
  st : ∀ (j : Nat) (o : Oper), ops[j]? = some o → isStore o = true → o.dst = none ∧ o.guard = none
  dst : ∀ (i j : Nat) (oi oj : Oper) (d : Tmp), ops[i]? = some oi → ops[j]? = some oj → oi.dst = some d → oj.dst = some d → i = j
  late : ∀ (i j : Nat) (oi oj : Oper), ops[i]? = some oi → ops[j]? = some oj → i ≠ j → isStore oj = true → (isStore oi = false ∨ i < j) → i ∈ B.getD j [] ∨ (isStore oi = false ∧ isNew oi = false)
  look : ∀ (i j : Nat) (oi oj : Oper) (d : Tmp), ops[i]? = some oi → ops[j]? = some oj → oi.dst = some d → d ∈ oj.looksAt ops → i ∈ B.getD j [] ∨ (isStore oj = false ∧ (i = j ∨ j ∈ B.getD i []))

theorem drawOk_spec (h : drawOk P ops = true) : DrawOk P ops (befs ops.toList) := by
  unfold drawOk at h
  simp only [Bool.and_eq_true] at h
  obtain ⟨h1, h2⟩ := h
  have lst : ∀ (j : Nat) (o : Oper), ops[j]? = some o → j < ops.toList.length ∧ ops.toList[j]? = some o := by
    intro j o ho
    refine ⟨?_, by simpa using ho⟩
    have := (Array.getElem?_eq_some_iff.1 ho).1
    simpa using this
  have h3 : ∀ (j : Nat) (oj : Oper), ops[j]? = some oj → (opOk P oj = true ∧ (oj.after.toList.all fun e => !Region.binds .any e || decide (e.on < j)) = true) ∧ (!isStore oj || (oj.dst.isNone && oj.guard.isNone)) = true ∧
      ∀ (i : Nat) (oi : Oper), ops[i]? = some oi → pairOk ops (befs ops.toList) i j oi oj = true := by
    intro j oj hj
    obtain ⟨l1, l2⟩ := lst j oj hj
    have := List.all_eq_true.1 h2 j (List.mem_range.2 l1)
    simp only [l2, Bool.and_eq_true] at this
    refine ⟨this.1.1, this.1.2, fun i oi hi => ?_⟩
    obtain ⟨m1, m2⟩ := lst i oi hi
    have := List.all_eq_true.1 this.2 i (List.mem_range.2 m1)
    simpa only [m2] using this
  have h4 : ∀ (j i : Nat), j < ops.size → i ∈ (befs ops.toList).getD j [] → i < j ∧ ∀ o, ops[j]? = some o → ∃ e ∈ o.after, Region.binds .any e = true ∧ (e.on = i ∨ i ∈ (befs ops.toList).getD e.on []) := by
    intro j i hj hi
    unfold befOk at h1
    have := List.all_eq_true.1 (List.all_eq_true.1 h1 j (List.mem_range.2 (by simpa using hj))) i hi
    simp only [Bool.and_eq_true, decide_eq_true_eq] at this
    refine ⟨this.1, fun o ho => ?_⟩
    have h5 := this.2
    rw [(lst j o ho).2] at h5
    simp only [List.any_eq_true, Bool.and_eq_true, Bool.or_eq_true, beq_iff_eq, List.contains_iff_mem] at h5
    obtain ⟨e, he, hb, hc⟩ := h5
    exact ⟨e, by simpa using he, hb, hc⟩
  refine ⟨fun j i hj hi => (h4 j i hj hi).1, fun j i o ho hi => (h4 j i (Array.getElem?_eq_some_iff.1 ho).1 hi).2 o ho, fun j o ho => (h3 j o ho).1.1, fun j o e ho he hb => ?_, fun j o ho hs => ?_, fun i j oi oj d hi hj hdi hdj => ?_, fun i j oi oj hi hj hne hs hor => ?_, fun i j oi oj d hi hj hd hl => ?_⟩
  · have := List.all_eq_true.1 (h3 j o ho).1.2 e (by simpa using he)
    simpa [hb] using this
  · have := (h3 j o ho).2.1
    simp only [hs, Bool.not_true, Bool.false_or, Bool.and_eq_true, Option.isNone_iff_eq_none] at this
    exact this
  · have := (h3 j oj hj).2.2 i oi hi
    unfold pairOk at this
    simp only [Bool.and_eq_true, Bool.or_eq_true, beq_iff_eq] at this
    rcases this.1 with h | h
    · exact h
    · have := h.1
      rw [hdi, hdj] at this
      simp at this
  · have := (h3 j oj hj).2.2 i oi hi
    unfold pairOk at this
    simp only [Bool.and_eq_true, Bool.or_eq_true, beq_iff_eq] at this
    rcases this.1 with h | h
    · exact absurd h hne
    · rcases h.2 with h' | h'
      · rcases h' with h' | h'
        · exfalso
          rcases hor with hor | hor <;> simp [hs, hor] at h'
        · exact .inl (List.contains_iff_mem.1 h')
      · simp only [Bool.not_eq_true'] at h'
        exact .inr h'
  · have := (h3 j oj hj).2.2 i oi hi
    unfold pairOk at this
    simp only [Bool.and_eq_true] at this
    have h' := this.2
    rw [hd] at h'
    simp only [Bool.or_eq_true, Bool.and_eq_true, Bool.not_eq_true', List.contains_iff_mem, beq_iff_eq] at h'
    rcases h' with (h' | h') | h'
    · rw [List.contains_iff_mem.2 hl] at h'
      cases h'
    · exact .inl h'
    · exact .inr h'

end
end Go.Proofs.Ytkifojmjcpdnoaa.En

/- The engine, part 22a: slices made in a region that draws its order. -/
namespace Go.Proofs.Ytkifojmjcpdnoaa.En
open Go Go.RowKit
section
variable {P : Program} {w0 w wa w' : World} {W : Nat → Prop} {btI bt bt0 bt1 bt' : Bt} {SI S S0 S1 S' : St} {a a' : Act} {D : Den} {Q : Exit → Act → World → Prop}

theorem source0_sound (hI : Inv w0 W bt S w) {sz : Nat} (hsz : 0 < sz) {av : AV} {x : Value} {more : List (List T)} (hv : VR w bt av x) (h : source0 S sz av = some more) : ∃ news, Src w bt S S sz more x none news := by
  cases hv with
  | em ad =>
    simp only [source0, Option.some.injEq] at h
    subst h
    exact ⟨[], .inl ⟨rfl, ad, 0, rfl⟩, by simp, by simp, fun i r hi => by simp at hi, rfl, fun q hq => by cases hq⟩
  | ro hro =>
    rename_i s rows
    simp only [source0] at h
    split at h
    · rename_i hc
      simp only [Option.some.injEq] at h
      subst h
      have h' : source S sz true (.ro s rows) = some (rows, S) := by simp only [source]; rw [if_pos hc]
      obtain ⟨src, news, hs⟩ := source_sound hI hsz (.ro hro) h'
      have : src = none := by
        cases src with
        | none => rfl
        | some q =>
          obtain ⟨_, hq, _⟩ := hs.root q rfl
          have hg := hs.gone
          simp only at hg
          have : S.gh q.r = none := by
            have := congrArg (fun s : St => s.gh q.r) hg
            simpa [upd] using this
          unfold St.look at hq
          rw [this] at hq
          cases hq
      subst this
      exact ⟨news, hs⟩
    · cases h
  | own hp hcap hk ha =>
    rename_i p s lo len ad cap
    simp only [source0] at h
    split at h
    · rename_i hs
      subst hs
      simp only [Option.bind_eq_some_iff] at h
      obtain ⟨rows, hrows, h⟩ := h
      have hlook := rows_some hrows
      split at h
      · rename_i hc
        obtain ⟨hle, hf⟩ := hc
        simp only [Option.some.injEq] at h
        subst h
        have hlen : ((rows.drop lo).take len).length = len := by simp; omega
        rcases Nat.eq_zero_or_pos len with h0 | h0
        · subst h0
          exact ⟨[], .inl ⟨by simp, ad, cap, rfl⟩, by simp, by simp, fun i r hi => by simp at hi, rfl, fun q hq => by cases hq⟩
        · have had := ha (by omega)
          subst had
          obtain ⟨news, g1, g2, g3, g4⟩ := own_cells hI (lo := lo) (len := len) hlook (by omega) hle
          refine ⟨news, .inr ⟨_, cap, by rw [hlen], g3⟩, g2, by rw [hlen]; exact g1, fun i r hi => ?_, rfl, fun q hq => by cases hq⟩
          obtain ⟨k1, k2⟩ := g4 i r hi
          refine ⟨k1, fun j y hy => ?_⟩
          obtain ⟨c, m1, m2⟩ := k2 j y hy
          refine ⟨c, m1, ?_⟩
          have hfl := List.all_eq_true.1 (List.all_eq_true.1 hf r (List.mem_of_getElem? hi)) y (List.mem_of_getElem? hy)
          cases m2 with
          | sc h => exact ⟨_, rfl, rfl, h⟩
          | _ => cases hfl
      · cases h
    · cases h
  | _ => simp [source0] at h

theorem appendN_sound (hI : Inv w0 W bt S w) (hE : ER w bt S a) (hfz : S.fz ≤ S.ng) {t ty el : TypeId} (hel : elT P t = some el) {bav xav : AV} {bv xv : Value} (hb : VR w bt bav bv) (hx : VR w bt xav xv) {rows more : List (List T)} {cons : List Nat}
    (hs : source0 S (P.cellsOf el) xav = some more) (h : base0 S (P.cellsOf el) bav = some (rows, cons)) (hby : (rows.length + more.length) * P.bytesOf el ≤ 2 ^ 40) (hn : rows.length + more.length ≤ 2 ^ 40) (hpos : 0 < P.cellsOf el) (hz : (zrow P el).isSome = true) :
    ∃ u w' bt', (Builtin.append_ #[t, t] ty #[bv, xv]).run P w = .ok u w' ∧ Left1 w0 W bt S a bt' (S.make ⟨S.ng, [.sl (P.cellsOf el) (rows ++ more)], cons⟩) w' ∧ bt.le bt' ∧ VR w' bt' (.own ⟨S.ng, []⟩ (P.cellsOf el) 0 (rows.length + more.length)) u := by
  obtain ⟨zr, hz⟩ := Option.isSome_iff_exists.1 hz
  obtain ⟨zs, h1, h2, _, _⟩ := zrow_some hz
  obtain ⟨i, zv, hi, hzv, rfl, hall⟩ := zeT_some h1
  have hsz : P.cellsOf el = i.size := by simp [Program.cellsOf, hi]
  have hbz : P.bytesOf el = i.bytes := by simp [Program.bytesOf, hi]
  obtain ⟨news, hsrc⟩ := source0_sound hI hpos hx hs
  have hone : ∀ u ∈ zv.cells.toList, u.oneCell' = true := fun u hu => List.all_eq_true.1 hall u hu
  have go : ∀ {ab : Option Addr} {cap : Nat} {bp : Option Pos} {olds : List Value} {S1 : St}, Bas w bt S S1 (P.cellsOf el) rows bv ab cap bp olds →
      S.make ⟨S.ng, [.sl (P.cellsOf el) (rows ++ more)], cons⟩ = { S1 with gh := upd S1.gh S.ng (some (.sl (P.cellsOf el) (rows ++ more))), ng := S.ng + 1 } → ∃ u w' bt', (Builtin.append_ #[t, t] ty #[bv, xv]).run P w = .ok u w' ∧ Left1 w0 W bt S a bt' (S.make ⟨S.ng, [.sl (P.cellsOf el) (rows ++ more)], cons⟩) w' ∧ bt.le bt' ∧ VR w' bt' (.own ⟨S.ng, []⟩ (P.cellsOf el) 0 (rows.length + more.length)) u := by
    intro ab cap bp olds S1 hbas hSe
    obtain ⟨u, w', b, cap', hr, hap⟩ := append_run (P := P) (w := w) (t := t) (ty := ty) (e := el) (i := i) (z := zv) (ab := ab) (len := rows.length) (cap := cap) (m := more.length) (olds := olds) (news := news) (x := xv) (elT_some hel) hi hzv (by rw [← hsz, ← h2]; simp) hone (by omega) hbas.le (by rw [← hsz]; exact hbas.len) (by rw [← hsz]; exact hsrc.len) (by rw [← hsz]; exact hbas.cur)
      (by
        rcases hsrc.val with ⟨h, h'⟩ | h
        · exact .inl ⟨by rw [h]; rfl, h'⟩
        · exact .inr h) hsrc.one hn (by rw [← hbz]; exact hby)
    rw [← hsz] at hap
    obtain ⟨bt', g1, g2, g3⟩ := append_core hI hE hfz hsrc hbas hap
    rw [hSe]
    refine ⟨u, w', bt', ?_, g1, g2, g3⟩
    rw [hbas.val]
    exact hr
  cases hb with
  | em ab =>
    simp only [base0, Option.some.injEq, Prod.mk.injEq] at h
    obtain ⟨rfl, rfl⟩ := h
    refine go (ab := ab) (cap := 0) (bp := none) (olds := []) (S1 := S) ⟨rfl, Nat.le_refl _, fun h => absurd h (by omega), by simp, fun i r hi => by simp at hi, fun h => absurd h (by omega), rfl, fun p hp => (nomatch hp), fun _ => rfl⟩ ?_
    unfold St.make
    simp only [List.length_cons, List.length_nil, Nat.zero_add]
    congr 1
    funext r
    simp only [upd]
    by_cases hr : r = S.ng
    · subst hr; simp
    · rw [if_neg (by omega), if_neg hr]; simp
  | own hp hcap hk ha =>
    rename_i q s' lo' len ad cap
    simp only [base0] at h
    split at h
    · rename_i hc
      obtain ⟨rfl, rfl, hql, hfz'⟩ := hc
      simp only [Option.bind_eq_some_iff] at h
      obtain ⟨rows0, hrows, h⟩ := h
      split at h
      · cases h
      · rename_i hlen
        simp only [Option.some.injEq, Prod.mk.injEq] at h
        obtain ⟨rfl, rfl⟩ := h
        have hlook := rows_some hrows
        have htl : (rows0.take len).length = len := by simp; omega
        have hlr : rows0.length ≤ bt.κ q := (hI.tr _ _ _ hlook).1
        obtain ⟨olds, hol, holds, hcur⟩ : ∃ olds : List Value, olds.length = len * P.cellsOf el ∧ (∀ (i : Nat) (r : List T), (rows0.take len)[i]? = some r → r.length = P.cellsOf el ∧ ∀ (j : Nat) (y : T), r[j]? = some y → ∃ c, olds[i * P.cellsOf el + j]? = some c ∧ Cell bt (some q) i j y c) ∧
            (0 < cap → ∃ g cur e', ad = some ⟨g, 0, none⟩ ∧ w.heap[g]? = some (.cells cur e' (0, 0)) ∧ cap * P.cellsOf el ≤ cur.size ∧ (∀ (k : Nat) (u : Value), cur[k]? = some u → u.oneCell' = true) ∧ ∀ (k : Nat) (u : Value), olds[k]? = some u → cur[k]? = some u) := by
          rcases Nat.eq_zero_or_pos cap with h0 | h0
          · have hl0 : len = 0 := by omega
            subst hl0
            exact ⟨[], by simp, fun i r hi => by simp at hi, fun h => absurd h (by omega)⟩
          · obtain ⟨olds, g1, g2, g3, g4⟩ := own_cells hI (lo := 0) (len := len) hlook (by omega) (by omega)
            obtain ⟨_, arr, e, k1, k2, k3, k4⟩ := (hI.tr _ _ _ hlook).2 (by omega)
            refine ⟨olds, g1, fun i r hi => ?_, fun _ => ⟨bt.β q, arr, e, by rw [ha h0, Nat.zero_mul], k1, Nat.le_trans (Nat.mul_le_mul_right _ (by omega)) k2, k3, fun k u hk' => ?_⟩⟩
            · rw [List.drop_zero] at g4
              obtain ⟨m1, m2⟩ := g4 i r hi
              refine ⟨m1, fun j y hy => ?_⟩
              obtain ⟨c, m3, m4⟩ := m2 j y hy
              rw [Nat.zero_add] at m4
              exact ⟨c, m3, m4⟩
            · have := g3 k u hk'
              rw [Go.Proofs.Ytkifojmjcpdnoaa.En.add_lit, cell_at k1, Nat.zero_mul, Nat.zero_add] at this
              exact this
        refine go (ab := ad) (cap := cap) (bp := some q) (olds := olds) (S1 := { S with gh := upd S.gh q.r none })
          ⟨by rw [htl], by rw [htl]; exact hcap, fun h0 => ⟨q, rfl, by rw [ha h0, Nat.zero_mul], by omega⟩, by rw [htl]; exact hol, holds, hcur, by simp [hql], fun p hp => by
            cases hp
            exact ⟨hfz', rows0, hlook, by rw [htl]⟩, fun h => by cases h⟩ ?_
        unfold St.make
        simp only [List.length_cons, List.length_nil, Nat.zero_add]
        congr 1
        funext r
        simp only [upd]
        by_cases hr : r = S.ng
        · subst hr; simp
        · rw [if_neg (by omega), if_neg hr]
          by_cases hq : r = q.r
          · subst hq; simp
          · rw [if_neg hq]; simp [hq]
    · cases h
  | _ => simp [base0] at h

theorem stepN_sound (hD : Sound P D) (hI : Inv w0 W bt S w) (hE : ER w bt S a) (hfz : S.fz ≤ S.ng) {o : Oper} (hok : opOk P o = true) {v : AV} {adds : List T} {cons : List Nat} (hs : stepN D P S o = some (v, adds, cons)) {K : Act → World → Prop}
    (hK : ∀ bt1 u w', Left1 w0 W bt S a bt1 (S.make ⟨S.ng, adds, cons⟩) w' → bt.le bt1 → VR w' bt1 (shift S.ng v) u → K (a.put o.dst u) w') : o.wp P a w K Q := by
  obtain ⟨dst, op, type, pos, after, guard⟩ := o
  cases op with
  | buildSlice t len parts =>
    simp only [stepN, Option.bind_eq_some_iff] at hs
    obtain ⟨el, hel, hs⟩ := hs
    split at hs
    · rename_i hc
      obtain ⟨h1, h2, h3, h4, h5, h6⟩ := hc
      simp only [Option.some.injEq, Prod.mk.injEq] at hs
      obtain ⟨rfl, rfl, rfl⟩ := hs
      obtain ⟨u, w', bt', g1, g2, g3, g4⟩ := buildSlice_sound (S2 := { S with gh := upd S.gh S.ng (some (.sl (P.cellsOf el) (parts.toList.map fun x => (opd S x.2).cells.map T.ofSc))), ng := S.ng + 1 }) hI hE hfz hel h1 h2 h3 h4 h5 (by rw [if_pos h6])
      unfold Oper.wp
      have hr : (execOp a.eval ⟨dst, .buildSlice t len parts, type, pos, after, guard⟩).run P w = .ok (.value u) w' := by simp [execOp, g1]
      rw [hr, Oper.upon_value]
      have e : (S.make ⟨S.ng, [.sl (P.cellsOf el) (parts.toList.map fun x => (opd S x.2).cells.map T.ofSc)], []⟩) = { S with gh := upd S.gh S.ng (some (.sl (P.cellsOf el) (parts.toList.map fun x => (opd S x.2).cells.map T.ofSc))), ng := S.ng + 1 } := by
        unfold St.make
        simp only [List.length_cons, List.length_nil, Nat.zero_add]
        congr 1
        funext r
        simp only [upd]
        by_cases hr : r = S.ng
        · subst hr; simp
        · rw [if_neg (by omega), if_neg hr]; simp
      refine hK bt' u w' (by rw [e]; exact g2) (g4 h6) ?_
      simp only [shift, shift1, shift0, Nat.zero_add]
      exact g3
    · cases hs
  | call c =>
    obtain ⟨cl, as, ts⟩ := c
    cases cl with
    | invoke r m => simp [stepN] at hs
    | value f =>
      simp only [stepN, Option.bind_eq_some_iff, Option.map_eq_some_iff, Prod.mk.injEq] at hs
      obtain ⟨⟨g, caps⟩, hc, ⟨res, out⟩, hr, rfl, rfl, rfl⟩ := hs
      simp only [opOk, beq_iff_eq] at hok
      refine call_run hD hI hE rfl hok hc hr (fun u w' btn hC hv => ?_)
      obtain ⟨bt', g1, g2, g3⟩ := install_sound hI hE hfz hC hv
      refine hK bt' u w' ?_ g2 g3
      have e : (S.make ⟨S.ng, out, []⟩) = (install S (res, out)).2 := by
        unfold St.make install
        simp only
        congr 1
      rw [e]
      exact g1
    | builtin b =>
      cases b with
      | append =>
        simp only [stepN] at hs
        split at hs
        · rename_i s x t t' e1 e2
          have e1 : as = #[s, x] := by apply Array.ext'; simpa using e1
          have e2 : ts = #[t, t'] := by apply Array.ext'; simpa using e2
          subst e1 e2
          split at hs
          · rename_i htt
            subst htt
            simp only [Option.bind_eq_some_iff] at hs
            obtain ⟨el, hel, more, h1, ⟨rows, cs⟩, h2, hs⟩ := hs
            simp only at h2 hs
            split at hs
            · rename_i hc
              obtain ⟨k1, k2, k3, k4⟩ := hc
              simp only [Option.some.injEq, Prod.mk.injEq] at hs
              obtain ⟨rfl, rfl, rfl⟩ := hs
              obtain ⟨u, w', bt', g1, g2, g3, g4⟩ := appendN_sound (ty := type) hI hE hfz hel (opd_VR hE s) (opd_VR hE x) h1 h2 k1 k2 k3 k4
              unfold Oper.wp
              have hr : (execOp a.eval ⟨dst, .call { callee := .builtin .append, args := #[s, x], argTypes := #[t, t] }, type, pos, after, guard⟩).run P w = .ok (.value u) w' := by simp [execOp, resolve, invoke, builtin, g1]
              rw [hr, Oper.upon_value]
              refine hK bt' u w' g2 g3 ?_
              simp only [shift, shift1, shift0, Nat.zero_add]
              exact g4
            · cases hs
          · cases hs
        · cases hs
      | _ => simp [stepN] at hs
  | _ => simp [stepN] at hs

/-! labels change their place -/
theorem VR.two {bt2 : Bt} (hnb : bt2.nb = bt1.nb) (hbb : bt2.bb = bt1.bb) (hA : bt2.A = bt1.A) (hng : bt0.ng ≤ bt2.ng) (hp : ∀ p : Pos, p.r < bt0.ng → 0 < bt1.κ p → bt2.β p = bt1.β p ∧ bt2.κ p = bt1.κ p) {v : AV} {c0 : Value} (h0 : VR wa bt0 v c0) : ∀ {c : Value}, VR w' bt1 v c → VR w' bt2 v c := by
  induction h0 with
  | sc h => intro c h1; cases h1 with | sc h => exact .sc h
  | em a => intro c h1; cases h1 with | em a => exact .em a
  | ro h => intro c h1; cases h1 with | ro h => exact .ro (by rw [hA]; exact h)
  | own q1 q2 q3 q4 =>
    intro c h1
    cases h1 with
    | own hp' hc hk ha =>
      rename_i p sz lo len _ _ ad cap
      rcases Nat.eq_zero_or_pos (bt1.κ p) with h0 | h0
      · exact .own (Nat.lt_of_lt_of_le q1 hng) hc (by omega) (fun h => absurd h (by omega))
      · obtain ⟨e1, e2⟩ := hp p q1 h0
        exact .own (Nat.lt_of_lt_of_le q1 hng) hc (by rw [e2]; exact hk) (by rw [e1]; exact ha)
  | pro cs hs hb hr ht => intro c h1; cases h1 with | pro cs hs hb hr ht => exact .pro cs hs (by rw [hA]; exact hb) hr (fun j x hx => by rw [hA]; exact ht j x hx)
  | ptrB j hn =>
    intro c h1
    cases h1 with
    | ptrB j hn => rw [← hbb]; exact .ptrB j (by rw [hnb]; exact hn)
  | ptrT sz i j q1 q2 =>
    intro c h1
    cases h1 with
    | ptrT sz i j hp' hk =>
      rename_i p
      obtain ⟨e1, e2⟩ := hp p q1 (by omega)
      rw [← e1]
      exact .ptrT sz i j (Nat.lt_of_lt_of_le q1 hng) (by rw [e2]; exact hk)
  | fn f hl h ih =>
    intro c h1
    rename_i caps us0
    cases h1 with
    | fn f hl' h' =>
      rename_i us
      refine .fn f hl' (fun k c u k1 k2 => ?_)
      have hk : k < us0.length := by
        have := (List.getElem?_eq_some_iff.1 k1).1
        omega
      exact ih k c _ k1 (List.getElem?_eq_getElem hk) (h' k c u k1 k2)
  | agg hl ho h ih =>
    intro c h1
    rename_i cs us0
    cases h1 with
    | agg hl' ho' h' =>
      refine .agg hl' ho' (fun k c u k1 k2 => ?_)
      have hk : k < us0.length := by
        have := (List.getElem?_eq_some_iff.1 k1).1
        omega
      exact ih k c _ k1 (List.getElem?_eq_getElem hk) (h' k c u k1 k2)
  | tup hl h ih =>
    intro c h1
    rename_i cs us0
    cases h1 with
    | tup hl' h' =>
      refine .tup hl' (fun k c u k1 k2 => ?_)
      have hk : k < us0.length := by
        have := (List.getElem?_eq_some_iff.1 k1).1
        omega
      exact ih k c _ k1 (List.getElem?_eq_getElem hk) (h' k c u k1 k2)
  | dead u => intro c _; exact .dead c

def Bt.moved (bt : Bt) (N b k : Nat) : Bt := { bt with
  β := fun p => if b ≤ p.r ∧ p.r < b + k then bt.β ⟨N + (p.r - b), p.l⟩ else bt.β p
  κ := fun p => if b ≤ p.r ∧ p.r < b + k then bt.κ ⟨N + (p.r - b), p.l⟩ else bt.κ p
  ng := N }
def St.moved (S : St) (N b k : Nat) : St := { S with gh := fun r => if b ≤ r ∧ r < b + k then S.gh (N + (r - b)) else if r < N then S.gh r else none, ng := N }

theorem Inv.moved (hI0 : Inv w0 W bt0 S0 wa) (hle : bt0.le bt1) (hI1 : Inv w0 W bt1 S1 w') {N b k : Nat} (hbx : S1.bx = S0.bx) (hN0 : S0.ng = N) (hN1 : S1.ng = N + k) (hb : b + k ≤ N) (hκ : ∀ p : Pos, b ≤ p.r → p.r < b + k → bt0.κ p = 0) :
    Inv w0 W (bt1.moved N b k) (S1.moved N b k) w' ∧ ∀ {v : AV} {c0 c : Value}, VR wa bt0 v c0 → VR w' bt1 v c → VR w' (bt1.moved N b k) v c := by
  have hng0 : bt0.ng = N := hI0.ng.trans hN0
  have two : ∀ {v : AV} {c0 c : Value}, VR wa bt0 v c0 → VR w' bt1 v c → VR w' (bt1.moved N b k) v c := by
    intro v c0 c h0 h1
    refine VR.two (bt1 := bt1) (bt2 := bt1.moved N b k) rfl rfl rfl (by rw [hng0]; exact Nat.le_refl N) (fun p hp hk => ?_) h0 h1
    have hn : ¬ (b ≤ p.r ∧ p.r < b + k) := fun h => by
      have := hle.κ p hp
      rw [hκ p h.1 h.2] at this
      omega
    simp only [Bt.moved]
    rw [if_neg hn, if_neg hn]
    exact ⟨rfl, rfl⟩
  refine ⟨?_, two⟩
  have look : ∀ p s rs, (S1.moved N b k).look p = .sl s rs → p.r < N ∧ ∃ q : Pos, q.l = p.l ∧ S1.look q = .sl s rs ∧ (bt1.moved N b k).β p = bt1.β q ∧ (bt1.moved N b k).κ p = bt1.κ q ∧ (∀ i j, (bt1.moved N b k).β (p.sub i j) = bt1.β (q.sub i j) ∧ (bt1.moved N b k).κ (p.sub i j) = bt1.κ (q.sub i j)) ∧
      ((b ≤ p.r ∧ p.r < b + k ∧ q.r = N + (p.r - b)) ∨ (¬ (b ≤ p.r ∧ p.r < b + k) ∧ q.r = p.r)) := by
    intro p s rs h
    unfold St.look St.moved at h
    simp only at h
    by_cases hr : b ≤ p.r ∧ p.r < b + k
    · rw [if_pos hr] at h
      refine ⟨by omega, ⟨N + (p.r - b), p.l⟩, rfl, h, by simp only [Bt.moved]; rw [if_pos hr], by simp only [Bt.moved]; rw [if_pos hr], fun i j => ⟨?_, ?_⟩, .inl ⟨hr.1, hr.2, rfl⟩⟩
      · simp only [Bt.moved, Pos.sub]; rw [if_pos hr]
      · simp only [Bt.moved, Pos.sub]; rw [if_pos hr]
    · rw [if_neg hr] at h
      by_cases hlt : p.r < N
      · rw [if_pos hlt] at h
        refine ⟨hlt, p, rfl, h, by simp only [Bt.moved]; rw [if_neg hr], by simp only [Bt.moved]; rw [if_neg hr], fun i j => ⟨?_, ?_⟩, .inr ⟨hr, rfl⟩⟩
        · simp only [Bt.moved, Pos.sub]; rw [if_neg hr]
        · simp only [Bt.moved, Pos.sub]; rw [if_neg hr]
      · rw [if_neg hlt] at h; cases h
  exact { os := hI1.os, tape := hI1.tape, output := hI1.output, size := hI1.size, keep := hI1.keep, nb := hI1.nb, ng := rfl
          bx := fun n cells hn => by
            obtain ⟨h1, h2, cs, e, h3, h4, h5⟩ := hI1.bx n cells hn
            refine ⟨h1, h2, cs, e, h3, h4, fun j v hj => ?_⟩
            obtain ⟨c, k1, k2, k3⟩ := h5 j v hj
            have hn' : S0.bx n = some cells := by rw [← hbx]; exact hn
            obtain ⟨_, _, cs0, e0, m3, m4, m5⟩ := hI0.bx n cells hn'
            obtain ⟨c0, q1, q2, q3⟩ := m5 j v hj
            exact ⟨c, k1, two q2 k2, k3⟩
          gh := fun r t h => by
            show r < N
            have h' : (if b ≤ r ∧ r < b + k then S1.gh (N + (r - b)) else if r < N then S1.gh r else none) = some t := h
            split at h'
            · omega
            · split at h'
              · assumption
              · cases h'
          tr := fun p s rs h => by
            obtain ⟨_, q, _, hq, e1, e2, e3, _⟩ := look p s rs h
            obtain ⟨k1, k2⟩ := hI1.tr _ _ _ hq
            rw [e1, e2]
            refine ⟨k1, fun hk => ⟨(k2 hk).1, ?_⟩⟩
            obtain ⟨_, cs, e, g1, g2, g3, g4⟩ := k2 hk
            refine ⟨cs, e, by rw [e1]; exact g1, by rw [e2]; exact g2, g3, fun i r hi => ?_⟩
            obtain ⟨m1, m2⟩ := g4 i r hi
            refine ⟨m1, fun j x hj => ?_⟩
            obtain ⟨c, m3, m4⟩ := m2 j x hj
            refine ⟨c, m3, ?_⟩
            cases m4 with
            | sc h => exact .sc h
            | dd u => exact .dd _
            | sl q1 q2 q3 => exact .sl q1 (by rw [(e3 i j).2]; exact q2) (by rw [(e3 i j).1]; exact q3)
          inj := fun p q s rs s' rs' h h' hk hk' he => by
            obtain ⟨l1, p1, a1, b1, c1, d1, _, r1⟩ := look p s rs h
            obtain ⟨l2, p2, a2, b2, c2, d2, _, r2⟩ := look q s' rs' h'
            rw [d1] at hk
            rw [d2] at hk'
            rw [c1, c2] at he
            have := hI1.inj _ _ _ _ _ _ b1 b2 hk hk' he
            subst this
            obtain ⟨pr, pl⟩ := p
            obtain ⟨qr, ql⟩ := q
            simp only at *
            rw [← a1, ← a2]
            congr 1
            rcases r1 with ⟨x1, x2, x3⟩ | ⟨x1, x3⟩ <;> rcases r2 with ⟨y1, y2, y3⟩ | ⟨y1, y3⟩ <;> omega
          bbinj := hI1.bbinj
          bbtr := fun n c p s rs h h' hk => by
            obtain ⟨_, q, _, hq, e1, e2, _, _⟩ := look p s rs h'
            rw [e2] at hk
            rw [e1]
            exact hI1.bbtr _ _ _ _ _ h hq hk
          alt := hI1.alt
          atr := fun p s rs h hk => by
            obtain ⟨_, q, _, hq, e1, e2, _, _⟩ := look p s rs h
            rw [e2] at hk
            rw [e1]
            exact hI1.atr _ _ _ hq hk
          abb := hI1.abb }
end
end Go.Proofs.Ytkifojmjcpdnoaa.En

/- The engine, part 22b: what a region that draws its order says of each operation. -/
namespace Go.Proofs.Ytkifojmjcpdnoaa.En
open Go Go.RowKit
section
variable {P : Program} {S SV : St} {D : Den}

/-- Trees elsewhere do not matter. -/
def Alike (S S' : St) (v : AV) : Prop := ∀ r ∈ says v, S'.gh r = S.gh r
theorem rows_alike {S S' : St} {p : Pos} {sz : Nat} (h : S'.gh p.r = S.gh p.r) : S'.rows p sz = S.rows p sz := by unfold St.rows St.look; rw [h]
theorem load_alike {g : Nat → Option T} {n : Nat} {t : TypeId} {v : AV} (h : Alike S { S with gh := g, ng := n } v) : load P { S with gh := g, ng := n } t v = load P S t v := by
  cases v with
  | ptrT p sz i j =>
    have := rows_alike (S := S) (S' := { S with gh := g, ng := n }) (p := p) (sz := sz) (h p.r (by simp [says]))
    simp only [load, cellsAt, this]
  | _ => rfl
theorem ofAV_alike {g : Nat → Option T} {n sz : Nat} {v : AV} (h : Alike S { S with gh := g, ng := n } v) : T.ofAV { S with gh := g, ng := n } sz v = T.ofAV S sz v := by
  cases v with
  | own p s lo len =>
    have := rows_alike (S := S) (S' := { S with gh := g, ng := n }) (p := p) (sz := s) (h p.r (by simp [says]))
    simp only [T.ofAV, this]
  | _ => rfl
theorem reify0_alike {g : Nat → Option T} {n sz : Nat} {v : AV} (h : Alike S { S with gh := g, ng := n } v) (hb : ∀ k cs, S.bx k = some cs → ∀ c ∈ cs, Alike S { S with gh := g, ng := n } c) : reify0 { S with gh := g, ng := n } sz v = reify0 S sz v := by
  cases v with
  | own p s lo len =>
    have := rows_alike (S := S) (S' := { S with gh := g, ng := n }) (p := p) (sz := s) (h p.r (by simp [says]))
    simp only [reify0, this]
  | ptrT p s i j =>
    have := rows_alike (S := S) (S' := { S with gh := g, ng := n }) (p := p) (sz := s) (h p.r (by simp [says]))
    simp only [reify0, this]
  | ptrB b j =>
    simp only [reify0]
    cases hbx : S.bx b with
    | none => rfl
    | some cs =>
      simp only
      congr 1
      exact List.map_congr_left fun c hc => ofAV_alike (hb b cs hbx c (List.mem_of_mem_drop hc))
  | _ => rfl
theorem says_cell {v : AV} {cs : List AV} (hv : v = .agg cs ∨ ∃ f, v = .fn f cs) {S' : St} (h : Alike S S' v) : ∀ c ∈ cs, (∀ p s lo len, c = .own p s lo len → S'.gh p.r = S.gh p.r) ∧ (∀ p s i j, c = .ptrT p s i j → S'.gh p.r = S.gh p.r) := by
  intro c hc
  refine ⟨fun p s lo len he => h p.r ?_, fun p s i j he => h p.r ?_⟩
  · subst he
    rcases hv with rfl | ⟨f, rfl⟩ <;> (simp only [says, List.mem_flatMap]; exact ⟨_, hc, by simp⟩)
  · subst he
    rcases hv with rfl | ⟨f, rfl⟩ <;> (simp only [says, List.mem_flatMap]; exact ⟨_, hc, by simp⟩)
theorem reify0_alike' {g : Nat → Option T} {n sz : Nat} {c : AV} (h : (∀ p s lo len, c = .own p s lo len → g p.r = S.gh p.r) ∧ (∀ p s i j, c = .ptrT p s i j → g p.r = S.gh p.r)) (hb : ∀ k cs, S.bx k = some cs → ∀ c ∈ cs, Alike S { S with gh := g, ng := n } c) : reify0 { S with gh := g, ng := n } sz c = reify0 S sz c := by
  cases c with
  | own p s lo len => exact reify0_alike (fun r hr => by simp [says] at hr; subst hr; exact h.1 p s lo len rfl) hb
  | ptrT p s i j => exact reify0_alike (fun r hr => by simp [says] at hr; subst hr; exact h.2 p s i j rfl) hb
  | ptrB b j => exact reify0_alike (fun r hr => by simp [says] at hr) hb
  | _ => rfl
theorem reify_alike {g : Nat → Option T} {n : Nat} {szs : List Nat} {v : AV} (h : Alike S { S with gh := g, ng := n } v) (hb : ∀ k cs, S.bx k = some cs → ∀ c ∈ cs, Alike S { S with gh := g, ng := n } c) : reify { S with gh := g, ng := n } szs v = reify S szs v := by
  cases v with
  | agg cs =>
    have hc := says_cell (.inl rfl) h
    simp only [reify]
    split
    · congr 1
      apply List.ext_getElem?
      intro k
      rw [List.getElem?_zipWith, List.getElem?_zipWith]
      cases hs : szs[k]? with
      | none => rfl
      | some s =>
        cases hx : cs[k]? with
        | none => rfl
        | some c =>
          simp only
          rw [reify0_alike' (hc c (List.mem_of_getElem? hx)) hb]
    · rfl
  | fn f caps =>
    have hc := says_cell (.inr ⟨f, rfl⟩) h
    simp only [reify]
    congr 1
    exact List.map_congr_left fun c hcm => reify0_alike' (hc c hcm) hb
  | _ => exact reify0_alike (sz := szs.headD 0) h hb

theorem opd_g (g : Nat → Option T) (n : Nat) (x : Operand) : opd { S with gh := g, ng := n } x = opd S x := by cases x <;> rfl
theorem scalarOp_g (g : Nat → Option T) (n : Nat) (o : Oper) : scalarOp P { S with gh := g, ng := n } o = scalarOp P S o := by
  unfold scalarOp
  simp only [opd_g]
theorem bound_g (g : Nat → Option T) (n : Nat) (d : Int) (x : Option Operand) : bound { S with gh := g, ng := n } d x = bound S d x := by cases x <;> simp only [bound, opd_g]
theorem stepV_alike {g : Nat → Option T} {n : Nat} {o : Oper} (hn : isNew o = false) (h : ∀ x ∈ o.op.operands, Alike S { S with gh := g, ng := n } (opd S x)) : stepV D P { S with gh := g, ng := n } o = stepV D P S o := by
  have sc := scalarOp_g (P := P) (S := S) g n o
  obtain ⟨dst, op, type, pos, after, guard⟩ := o
  cases op with
  | load t x =>
    simp only [stepV, opd_g]
    exact load_alike (h x (by simp [Op.operands]))
  | makeFunc fn first caps =>
    cases fn with
    | func f =>
      have e : caps.toList.map (opd { S with gh := g, ng := n }) = caps.toList.map (opd S) := List.map_congr_left fun x _ => opd_g g n x
      simp only [stepV]
      rw [e]
    | _ => simp only [stepV]; exact sc
  | unOp op t x => cases op <;> simp only [stepV, opd_g, sc]
  | binOp op t x y t' => cases op <;> simp only [stepV, opd_g, sc]
  | slice t x lo hi mx => cases mx <;> simp only [stepV, opd_g, bound_g, sc]
  | call c =>
    obtain ⟨cl, as, ts⟩ := c
    have e : as.toList.map (opd { S with gh := g, ng := n }) = as.toList.map (opd S) := List.map_congr_left fun x _ => opd_g g n x
    cases cl with
    | builtin b => cases b <;> first | (simp only [stepV]; rw [e, sc]; done) | (simp only [stepV, opd_g, sc]; done) | (simp only [stepV]; exact sc)
    | value f => simp [isNew] at hn
    | invoke r m => simp only [stepV]; exact sc
  | _ => first | (simp only [stepV, opd_g, sc]; done) | (simp only [stepV]; exact sc)

theorem source0_alike {g : Nat → Option T} {n sz : Nat} {v : AV} (h : Alike S { S with gh := g, ng := n } v) : source0 { S with gh := g, ng := n } sz v = source0 S sz v := by
  cases v with
  | own p s lo len =>
    have := rows_alike (S := S) (S' := { S with gh := g, ng := n }) (p := p) (sz := sz) (h p.r (by simp [says]))
    simp only [source0, this]
  | _ => rfl
theorem base0_alike {g : Nat → Option T} {n sz : Nat} {v : AV} (h : Alike S { S with gh := g, ng := n } v) : base0 { S with gh := g, ng := n } sz v = base0 S sz v := by
  cases v with
  | own p s lo len =>
    have := rows_alike (S := S) (S' := { S with gh := g, ng := n }) (p := p) (sz := sz) (h p.r (by simp [says]))
    simp only [base0, this]
  | _ => rfl
theorem callee_says {f : Operand} {g : FuncId} {caps : List AV} (hc : callee S f = some (g, caps)) {S' : St} (h : Alike S S' (opd S f)) : ∀ c ∈ caps, (∀ p s lo len, c = .own p s lo len → S'.gh p.r = S.gh p.r) ∧ (∀ p s i j, c = .ptrT p s i j → S'.gh p.r = S.gh p.r) := by
  unfold callee at hc
  split at hc
  · simp only [Option.some.injEq, Prod.mk.injEq] at hc
    obtain ⟨_, rfl⟩ := hc
    intro c hc
    cases hc
  · rename_i g' cs he
    simp only [Option.some.injEq, Prod.mk.injEq] at hc
    obtain ⟨rfl, rfl⟩ := hc
    exact says_cell (.inr ⟨g', he⟩) h
  · cases hc
/-- What an append takes away is what its first operand speaks of. -/
theorem base0_cons {sz : Nat} {v : AV} {rows : List (List T)} {cons : List Nat} (h : base0 S sz v = some (rows, cons)) : ∀ r ∈ cons, r ∈ says v := by
  unfold base0 at h
  split at h
  · simp only [Option.some.injEq, Prod.mk.injEq] at h
    obtain ⟨_, rfl⟩ := h
    intro r hr
    cases hr
  · split at h
    · simp only [Option.bind_eq_some_iff] at h
      obtain ⟨rs, _, h⟩ := h
      split at h
      · cases h
      · simp only [Option.some.injEq, Prod.mk.injEq] at h
        obtain ⟨_, rfl⟩ := h
        intro r hr
        simpa [says] using hr
    · cases h
  · cases h

theorem stepN_alike {g : Nat → Option T} {n : Nat} {o : Oper} (h : ∀ x ∈ o.op.operands, Alike S { S with gh := g, ng := n } (opd S x)) (hb : ∀ k cs, S.bx k = some cs → ∀ c ∈ cs, Alike S { S with gh := g, ng := n } c) : stepN D P { S with gh := g, ng := n } o = stepN D P S o := by
  obtain ⟨dst, op, type, pos, after, guard⟩ := o
  cases op with
  | buildSlice t len parts => simp only [stepN, opd_g]
  | call c =>
    obtain ⟨cl, as, ts⟩ := c
    cases cl with
    | invoke r m => rfl
    | value f =>
      simp only [stepN]
      have hc : callee { S with gh := g, ng := n } f = callee S f := by unfold callee; rw [opd_g]
      rw [hc]
      cases hcs : callee S f with
      | none => rfl
      | some x =>
        obtain ⟨g', caps⟩ := x
        simp only [Option.bind_some]
        have ha : args P { S with gh := g, ng := n } ts as caps = args P S ts as caps := by
          unfold args
          congr 1
          · apply List.ext_getElem?
            intro k
            rw [List.getElem?_zipWith, List.getElem?_zipWith]
            cases ht : ts.toList[k]? with
            | none => rfl
            | some t =>
              cases hx : as.toList[k]? with
              | none => rfl
              | some x =>
                simp only
                rw [opd_g, reify_alike (h x (by simp [Op.operands, Call.operands]; right; simpa using List.mem_of_getElem? hx)) hb]
          · refine List.map_congr_left fun c hcm => ?_
            exact reify0_alike' (sz := 0) (callee_says hcs (h f (by simp [Op.operands, Call.operands])) c hcm) hb
        rw [ha]
    | builtin b =>
      cases b with
      | append =>
        simp only [stepN]
        split
        · rename_i s x t t' e1 e2
          have e1 : as = #[s, x] := by apply Array.ext'; simpa using e1
          subst e1
          simp only [opd_g]
          have e3 : ∀ sz, source0 { S with gh := g, ng := n } sz (opd S x) = source0 S sz (opd S x) := fun sz => source0_alike (h x (by simp [Op.operands, Call.operands]))
          have e4 : ∀ sz, base0 { S with gh := g, ng := n } sz (opd S s) = base0 S sz (opd S s) := fun sz => base0_alike (h s (by simp [Op.operands, Call.operands]))
          simp only [e3, e4]
        · rfl
      | _ => rfl
  | _ => rfl
theorem stepN_cons {o : Oper} {v : AV} {adds : List T} {cons : List Nat} (h : stepN D P S o = some (v, adds, cons)) : ∀ r ∈ cons, ∃ x ∈ o.op.operands, r ∈ says (opd S x) := by
  obtain ⟨dst, op, type, pos, after, guard⟩ := o
  cases op with
  | buildSlice t len parts =>
    simp only [stepN, Option.bind_eq_some_iff] at h
    obtain ⟨el, _, h⟩ := h
    split at h
    · simp only [Option.some.injEq, Prod.mk.injEq] at h
      obtain ⟨_, _, rfl⟩ := h
      intro r hr
      cases hr
    · cases h
  | call c =>
    obtain ⟨cl, as, ts⟩ := c
    cases cl with
    | invoke r m => simp [stepN] at h
    | value f =>
      simp only [stepN, Option.bind_eq_some_iff, Option.map_eq_some_iff, Prod.mk.injEq] at h
      obtain ⟨_, _, _, _, _, _, rfl⟩ := h
      intro r hr
      cases hr
    | builtin b =>
      cases b with
      | append =>
        simp only [stepN] at h
        split at h
        · rename_i s x t t' e1 e2
          have e1 : as = #[s, x] := by apply Array.ext'; simpa using e1
          subst e1
          split at h
          · simp only [Option.bind_eq_some_iff] at h
            obtain ⟨el, _, more, _, ⟨rows, cs⟩, h2, h⟩ := h
            simp only at h
            split at h
            · simp only [Option.some.injEq, Prod.mk.injEq] at h
              obtain ⟨_, _, rfl⟩ := h
              exact fun r hr => ⟨s, by simp [Op.operands, Call.operands], base0_cons h2 r hr⟩
            · cases h
          · cases h
        · cases h
      | _ => simp [stepN] at h
  | _ => simp [stepN] at h
end
end Go.Proofs.Ytkifojmjcpdnoaa.En

/- The engine, part 22c: the textual order of a region that draws its order. -/
namespace Go.Proofs.Ytkifojmjcpdnoaa.En
open Go Go.RowKit
section
variable {P : Program} {S SV : St} {D : Den}

def mk1 (g : Nat → Option T) (m : Made) : Nat → Option T := fun r => if m.b ≤ r ∧ r < m.b + m.adds.length then m.adds[r - m.b]? else if m.cons.contains r then none else g r
def mks : (Nat → Option T) → List Made → Nat → Option T
  | g, [] => g
  | g, m :: ms => mks (mk1 g m) ms
theorem mk1_nil (g : Nat → Option T) (b : Nat) : mk1 g ⟨b, [], []⟩ = g := by
  funext r
  unfold mk1
  simp only [List.length_nil, Nat.add_zero]
  rw [if_neg (by omega)]
  simp

/-- What the textual order says of operation number k. -/
def Says (D : Den) (P : Program) (all : Array Oper) (l : List Oper) (S SV : St) (ms : List Made) (k : Nat) (o : Oper) : Prop :=
  ∃ env b m, ms[k]? = some m ∧ (∀ (t : Nat) (j : Nat) (oj : Oper), j < k → l[j]? = some oj → isStore oj = false → oj.dst = some t → env t = SV.env t) ∧
    (∀ t, (∀ (j : Nat) (oj : Oper), j < k → l[j]? = some oj → isStore oj = false → oj.dst ≠ some t) → env t = S.env t) ∧ wants { S with env := env } all o = some b ∧ (∀ d, o.dst = some d → d < S.nt) ∧
    (b = true → isNew o = true → ∃ v, stepN D P { S with env := env, gh := mks S.gh (ms.take k), ng := m.b } o = some (v, m.adds, m.cons) ∧ ∀ d, o.dst = some d → SV.env d = shift m.b v) ∧
    (b = true → isNew o = false → ∃ v, stepV D P { S with env := env, gh := mks S.gh (ms.take k), ng := m.b } o = some v ∧ m.adds = [] ∧ m.cons = [] ∧ ∀ d, o.dst = some d → SV.env d = v) ∧
    (b = false → m.adds = [] ∧ m.cons = [] ∧ ∀ d, o.dst = some d → SV.env d = .tup [])

abbrev Told (D : Den) (P : Program) (all : Array Oper) (l : List Oper) (S SV : St) (ms : List Made) : Prop :=
  ms.length = l.length ∧ SV = { S with env := SV.env, gh := mks S.gh ms, ng := SV.ng } ∧ S.ng ≤ SV.ng ∧ (∀ t, (∀ o ∈ l, isStore o = false → o.dst ≠ some t) → SV.env t = S.env t) ∧
    (∀ (k : Nat) (m : Made), ms[k]? = some m → S.ng ≤ m.b ∧ m.b + m.adds.length ≤ SV.ng ∧ ∀ (j : Nat) (m' : Made), j < k → ms[j]? = some m' → m'.b + m'.adds.length ≤ m.b) ∧
    (∀ (k : Nat) (o : Oper) (m : Made), l[k]? = some o → ms[k]? = some m → isStore o = true → m.adds = [] ∧ m.cons = []) ∧
    ∀ (k : Nat) (o : Oper), l[k]? = some o → isStore o = false → Says D P all l S SV ms k o
theorem evD_facts {all : Array Oper} : ∀ (l : List Oper) (S SV : St) (ms : List Made), l.Pairwise (fun x y => ∀ d, x.dst = some d → y.dst ≠ some d) → evD D P all l S = some (SV, ms) → Told D P all l S SV ms := by
  intro l
  induction l with
  | nil =>
    intro S SV ms _ h
    simp only [evD, Option.some.injEq, Prod.mk.injEq] at h
    obtain ⟨rfl, rfl⟩ := h
    exact ⟨rfl, rfl, Nat.le_refl _, fun _ _ => rfl, fun k m hk => by simp at hk, fun k o m hk => by simp at hk, fun k o hk => by simp at hk⟩
  | cons o l ih =>
    intro S SV ms hp h
    obtain ⟨hp1, hp2⟩ := List.pairwise_cons.1 hp
    -- one way for all
    have way : ∀ (S1 : St) (m : Made) (ms' : List Made), ms = m :: ms' → m.b = S.ng → evD D P all l S1 = some (SV, ms') → S1 = { S with env := S1.env, gh := mk1 S.gh m, ng := S.ng + m.adds.length } →
        (isStore o = true → m.adds = [] ∧ m.cons = [] ∧ S1.env = S.env) →
        (isStore o = false → ∃ b v, wants S all o = some b ∧ S1.env = (match o.dst with | some d => upd S.env d v | none => S.env) ∧ (∀ d, o.dst = some d → d < S.nt) ∧
          (b = true → isNew o = true → ∃ v0, stepN D P S o = some (v0, m.adds, m.cons) ∧ v = shift m.b v0) ∧ (b = true → isNew o = false → stepV D P S o = some v ∧ m.adds = [] ∧ m.cons = []) ∧ (b = false → m.adds = [] ∧ m.cons = [] ∧ v = .tup [])) →
        Told D P all (o :: l) S SV ms := by
      intro S1 m ms' hms hmb he hS1 hst hns
      obtain ⟨e1, e2, e3, e4, e5, e6, e7⟩ := ih S1 SV ms' hp2 he
      subst hms
      have hng1 : S1.ng = S.ng + m.adds.length := by rw [hS1]
      have hgh1 : S1.gh = mk1 S.gh m := by rw [hS1]
      have hnt1 : S1.nt = S.nt := by rw [hS1]
      have hform : ∀ (env : Nat → AV) (g : Nat → Option T) (n : Nat), ({ S1 with env := env, gh := g, ng := n } : St) = { S with env := env, gh := g, ng := n } := by
        intro env g n
        rw [hS1]
      have hform2 : ∀ (env : Nat → AV), wants ({ S1 with env := env } : St) all = wants ({ S with env := env } : St) all := by
        intro env
        funext o
        rw [hS1]
        rfl
      have h1other : ∀ t, (isStore o = false → o.dst ≠ some t) → S1.env t = S.env t := by
        intro t ht
        cases hso : isStore o with
        | true => rw [(hst hso).2.2]
        | false =>
          obtain ⟨b, v, _, h2, _⟩ := hns hso
          rw [h2]
          cases hd : o.dst with
          | none => rfl
          | some d =>
            simp only [upd]
            rw [if_neg]
            intro he
            exact ht hso (by rw [hd, he])
      refine ⟨by simp [e1], ?_, by omega, fun t ht => ?_, fun k m' hk => ?_, fun k o' m' hk hm hs => ?_, fun k o' hk hs => ?_⟩
      · have : mks S.gh (m :: ms') = mks S1.gh ms' := by rw [hgh1]; rfl
        rw [this, e2]
        exact hform _ _ _
      · rw [e4 t (fun o' ho' => ht o' (List.mem_cons_of_mem _ ho')), h1other t (ht o List.mem_cons_self)]
      · cases k with
        | zero =>
          simp only [List.getElem?_cons_zero, Option.some.injEq] at hk
          subst hk
          exact ⟨by omega, by omega, fun j m' hj => by omega⟩
        | succ k =>
          obtain ⟨q1, q2, q3⟩ := e5 k m' (by simpa using hk)
          refine ⟨by omega, q2, fun j m'' hj hjm => ?_⟩
          cases j with
          | zero =>
            simp only [List.getElem?_cons_zero, Option.some.injEq] at hjm
            subst hjm
            omega
          | succ j => exact q3 j m'' (by omega) (by simpa using hjm)
      · cases k with
        | zero =>
          simp only [List.getElem?_cons_zero, Option.some.injEq] at hk hm
          subst hk hm
          exact ⟨(hst hs).1, (hst hs).2.1⟩
        | succ k => exact e6 k o' m' (by simpa using hk) (by simpa using hm) hs
      · cases k with
        | zero =>
          simp only [List.getElem?_cons_zero, Option.some.injEq] at hk
          subst hk
          obtain ⟨b, v, h1, h2, h3, h4, h5, h6⟩ := hns hs
          have hown : ∀ d, o.dst = some d → SV.env d = v := by
            intro d hd
            rw [e4 d (fun o' ho' _ => hp1 o' ho' d hd), h2, hd]
            simp [upd]
          have hS : ({ S with env := S.env, gh := mks S.gh ((m :: ms').take 0), ng := m.b } : St) = S := by
            rw [hmb]; rfl
          refine ⟨S.env, b, m, rfl, fun t j oj hj => by omega, fun _ _ => rfl, h1, h3, fun hb hn => ?_, fun hb hn => ?_, fun hb => ?_⟩
          · obtain ⟨v0, g1, g2⟩ := h4 hb hn
            exact ⟨v0, by rw [hS]; exact g1, fun d hd => by rw [hown d hd, g2]⟩
          · obtain ⟨g1, g2, g3⟩ := h5 hb hn
            exact ⟨v, by rw [hS]; exact g1, g2, g3, hown⟩
          · obtain ⟨g1, g2, g3⟩ := h6 hb
            exact ⟨g1, g2, fun d hd => by rw [hown d hd, g3]⟩
        | succ k =>
          obtain ⟨env, b, m', g0, g1, g2, g3, g4, g5, g6, g7⟩ := e7 k o' (by simpa using hk) hs
          have htk : mks S.gh ((m :: ms').take (k + 1)) = mks S1.gh (ms'.take k) := by rw [hgh1]; rfl
          rw [hform2] at g3
          simp only [hform] at g5 g6
          refine ⟨env, b, m', by simpa using g0, fun t j oj hj hjj hs' hd => ?_, fun t ht => ?_, g3, fun d hd => by rw [← hnt1]; exact g4 d hd, fun hb hn => by rw [htk]; exact g5 hb hn, fun hb hn => by rw [htk]; exact g6 hb hn, g7⟩
          · cases j with
            | zero =>
              simp only [List.getElem?_cons_zero, Option.some.injEq] at hjj
              subst hjj
              obtain ⟨b', v, _, h2, _⟩ := hns hs'
              rw [g2 t (fun _ o'' _ ho'' _ => hp1 o'' (List.mem_of_getElem? ho'') t hd), e4 t (fun o'' ho'' _ => hp1 o'' ho'' t hd)]
            | succ j => exact g1 t j oj (by omega) (by simpa using hjj) hs' hd
          · rw [g2 t (fun j o'' hj ho'' hs => ht (j + 1) o'' (by omega) (by simpa using ho'') hs), h1other t (fun hs => ht 0 o (by omega) rfl hs)]
    simp only [evD] at h
    split at h
    · rename_i hst
      simp only [Option.map_eq_some_iff, Prod.exists, Prod.mk.injEq] at h
      obtain ⟨SV', ms', h1, rfl, rfl⟩ := h
      exact way S ⟨S.ng, [], []⟩ ms' rfl rfl h1 (by rw [mk1_nil]; rfl) (fun _ => ⟨rfl, rfl, rfl⟩) (fun hs => by rw [hst] at hs; cases hs)
    · rename_i hst
      have hst : isStore o = false := by simpa using hst
      simp only [Option.bind_eq_some_iff] at h
      obtain ⟨b, hb, h⟩ := h
      have put : ∀ {S0 S1 : St} {v : AV}, S0.put o.dst v = some S1 → S1 = { S0 with env := S1.env } ∧ S1.env = (match o.dst with | some d => upd S0.env d v | none => S0.env) ∧ (∀ d, o.dst = some d → d < S0.nt) := by
        intro S0 S1 v hput
        cases hd : o.dst with
        | none =>
          rw [hd] at hput
          simp only [St.put, Option.some.injEq] at hput
          subst hput
          exact ⟨rfl, rfl, fun d hd => by cases hd⟩
        | some d =>
          rw [hd] at hput
          simp only [St.put] at hput
          split at hput
          · simp only [Option.some.injEq] at hput
            subst hput
            exact ⟨rfl, rfl, fun d' hd' => by cases hd'; assumption⟩
          · cases hput
      cases b with
      | false =>
        simp only [Bool.false_eq_true, if_false, Option.bind_eq_some_iff, Option.map_eq_some_iff, Prod.exists, Prod.mk.injEq] at h
        obtain ⟨S1, h1, SV', ms', h2, rfl, rfl⟩ := h
        obtain ⟨p1, p2, p3⟩ := put h1
        exact way S1 ⟨S.ng, [], []⟩ ms' rfl rfl h2 (by rw [mk1_nil]; exact p1) (fun hs => by rw [hst] at hs; cases hs) (fun _ => ⟨false, .tup [], hb, p2, p3, fun h => (nomatch h), fun h => (nomatch h), fun _ => ⟨rfl, rfl, rfl⟩⟩)
      | true =>
        simp only [if_true] at h
        split at h
        · rename_i hn
          simp only [Option.bind_eq_some_iff, Option.map_eq_some_iff, Prod.exists, Prod.mk.injEq] at h
          obtain ⟨v, adds, cons, h0, S1, h1, SV', ms', h2, rfl, rfl⟩ := h
          obtain ⟨p1, p2, p3⟩ := put h1
          exact way S1 ⟨S.ng, adds, cons⟩ ms' rfl rfl h2 p1 (fun hs => by rw [hst] at hs; cases hs) (fun _ => ⟨true, _, hb, p2, p3, fun _ _ => ⟨v, h0, rfl⟩, fun _ h => (by rw [hn] at h; cases h), fun h => (nomatch h)⟩)
        · rename_i hn
          have hn : isNew o = false := by simpa using hn
          simp only [Option.bind_eq_some_iff, Option.map_eq_some_iff, Prod.exists, Prod.mk.injEq] at h
          obtain ⟨S1, ⟨v, h0, h1⟩, SV', ms', h2, rfl, rfl⟩ := h
          obtain ⟨p1, p2, p3⟩ := put h1
          exact way S1 ⟨S.ng, [], []⟩ ms' rfl rfl h2 (by rw [mk1_nil]; exact p1) (fun hs => by rw [hst] at hs; cases hs) (fun _ => ⟨true, v, hb, p2, p3, fun _ h => (by rw [hn] at h; cases h), fun _ _ => ⟨h0, rfl, rfl⟩, fun h => (nomatch h)⟩)
end
end Go.Proofs.Ytkifojmjcpdnoaa.En

/- The engine, part 22d: labels in a region that draws its order. -/
namespace Go.Proofs.Ytkifojmjcpdnoaa.En
open Go Go.RowKit
section
variable {P : Program} {w0 w w' : World} {W : Nat → Prop} {btI bt bt' : Bt} {SI S S' SV : St} {a a' : Act} {D : Den} {Q : Exit → Act → World → Prop} {ops : Array Oper}

theorem stepV_val {o : Oper} {v : AV} (hI : Inv w0 W bt S w) (hE : ER w bt S a) (hok : opOk P o = true) (hf : isFn o = false) (h : stepV D P S o = some v) : ∃ u, (execOp a.eval o).run P w = .ok (.value u) w ∧ VR w bt v u := by
  by_cases hp : plainV o = true
  · exact stepV_ok hI hE hok hp h
  · obtain ⟨dst, op, type, pos, after, guard⟩ := o
    have sc : (∀ cs b, op ≠ .select cs b) → scalarOp P S ⟨dst, op, type, pos, after, guard⟩ = some v → ∃ u, (execOp a.eval ⟨dst, op, type, pos, after, guard⟩).run P w = .ok (.value u) w ∧ VR w bt v u :=
      fun hs h => scalarOp_sound hE (fun cs b => hs cs b) h
    cases op with
    | call c =>
      obtain ⟨cl, as, ts⟩ := c
      cases cl with
      | value f => simp [isFn] at hf
      | invoke r m => exact sc (by simp) (by simpa [stepV] using h)
      | builtin b =>
        cases b with
        | len => simp [plainV] at hp
        | max => simp [plainV] at hp
        | min => simp [plainV] at hp
        | _ => exact sc (by simp) (by simpa [stepV] using h)
    | select cs b => simp [opOk] at hok
    | _ => simp [plainV] at hp

theorem opV_sound (hD : Sound P D) (h : Lv w0 W btI SI bt S a w) {o : Oper} (hok : opOk P o = true) {v : AV} (hs : stepV D P S o = some v) {K : Act → World → Prop}
    (hK : ∀ bt' u w', Lv w0 W btI SI bt' S a w' → VR w' bt' v u → K (a.put o.dst u) w') : o.wp P a w K Q := by
  by_cases hf : isFn o = true
  · obtain ⟨dst, op, type, pos, after, guard⟩ := o
    unfold isFn at hf
    split at hf
    · rename_i f as ts hop
      simp only at hop
      subst hop
      simp only [stepV, Option.bind_eq_some_iff, Option.map_eq_some_iff] at hs
      obtain ⟨⟨g, caps⟩, hc, ⟨res, out⟩, hr, hi⟩ := hs
      simp only [opOk, beq_iff_eq] at hok
      refine call_run hD h.inv h.er rfl hok hc hr (fun u w' btn hC hv => ?_)
      obtain ⟨bt', g1, g2, g3, g4, g5, g6⟩ := frz_sound h.inv h.er hC hv
      rw [hi] at g6
      exact hK bt' u w' ⟨g1, g2, h.defers, h.fz, h.fzng, fun p hp => by rw [g4, g5]; exact h.keep p hp, h.gone⟩ g6
    · cases hf
  · obtain ⟨u, g0, g1⟩ := stepV_val h.inv h.er hok (by simpa using hf) hs
    unfold Oper.wp
    rw [g0, Oper.upon_value]
    exact hK bt u w h g1

/-- Which temporaries are written. -/
def done (ops : Array Oper) (L : Array Bool) (t : Nat) : Bool := (List.range ops.size).any fun i => L.getD i false && (((ops[i]?).bind (·.dst)) == some t)
def envL (ops : Array Oper) (S SV : St) (L : Array Bool) (t : Nat) : AV := if done ops L t then SV.env t else S.env t

theorem done_iff {L : Array Bool} {t : Nat} : done ops L t = true ↔ ∃ i o, ops[i]? = some o ∧ L.getD i false = true ∧ o.dst = some t := by
  unfold done
  simp only [List.any_eq_true, List.mem_range, Bool.and_eq_true, beq_iff_eq]
  constructor
  · rintro ⟨i, hi, h1, h2⟩
    rw [Array.getElem?_eq_getElem hi] at h2
    exact ⟨i, ops[i], Array.getElem?_eq_getElem hi, h1, h2⟩
  · rintro ⟨i, o, h1, h2, h3⟩
    exact ⟨i, (Array.getElem?_eq_some_iff.1 h1).1, h2, by rw [h1]; exact h3⟩

theorem getD_set {L : Array Bool} {i j : Nat} (hi : i < L.size) : (L.setIfInBounds i true).getD j false = if j = i then true else L.getD j false := by
  simp only [Array.getD_eq_getD_getElem?, Array.getElem?_setIfInBounds]
  by_cases h : i = j
  · subst h
    simp [hi]
  · rw [if_neg h, if_neg (fun e => h e.symm)]

theorem envL_set {L : Array Bool} {i : Nat} {o : Oper} (hi : i < L.size) (ho : ops[i]? = some o) (t : Nat) : envL ops S SV (L.setIfInBounds i true) t = if o.dst = some t then SV.env t else envL ops S SV L t := by
  unfold envL
  by_cases hd : o.dst = some t
  · rw [if_pos hd, if_pos]
    exact done_iff.2 ⟨i, o, ho, by rw [getD_set hi, if_pos rfl], hd⟩
  · rw [if_neg hd]
    have : done ops (L.setIfInBounds i true) t = done ops L t := by
      rw [Bool.eq_iff_iff, done_iff, done_iff]
      constructor
      · rintro ⟨j, oj, h1, h2, h3⟩
        rw [getD_set hi] at h2
        split at h2
        · rename_i he
          subst he
          rw [ho] at h1
          simp only [Option.some.injEq] at h1
          exact absurd (h1 ▸ h3) hd
        · exact ⟨j, oj, h1, h2, h3⟩
      · rintro ⟨j, oj, h1, h2, h3⟩
        refine ⟨j, oj, h1, ?_, h3⟩
        rw [getD_set hi]
        split
        · rfl
        · exact h2
    rw [this]

theorem Lv.drawn (h : Lv w0 W btI SI bt S a w) (n : Nat) : Lv w0 W btI SI bt S a { w with drawn := n } :=
  ⟨h.inv.change ⟨rfl, rfl, rfl, Nat.le_refl _, fun _ _ => .inl rfl⟩, ⟨h.er.1, fun t => (h.er.2 t).mono (Bt.le.refl _) (fun _ _ => rfl)⟩, h.defers, h.fz, h.fzng, h.keep, h.gone⟩


/-! labels -/
def takenBy (ms : List Made) (L : Array Bool) (r : Nat) : Bool := (List.range ms.length).any fun j => L.getD j false && ((ms[j]?).map fun m => m.cons.contains r).getD false
def ghL (S : St) (ms : List Made) (L : Array Bool) (r : Nat) : Option T := if r < S.ng then (if takenBy ms L r then none else S.gh r) else match maker ms r with
  | some c => if L.getD c false && !takenBy ms L r then (ms[c]?).bind fun m => m.adds[r - m.b]? else none
  | none => none
theorem takenBy_iff {ms : List Made} {L : Array Bool} {r : Nat} : takenBy ms L r = true ↔ ∃ j m, ms[j]? = some m ∧ L.getD j false = true ∧ r ∈ m.cons := by
  unfold takenBy
  simp only [List.any_eq_true, List.mem_range, Bool.and_eq_true]
  constructor
  · rintro ⟨j, hj, h1, h2⟩
    rw [List.getElem?_eq_getElem hj] at h2
    exact ⟨j, ms[j], List.getElem?_eq_getElem hj, h1, by simpa using h2⟩
  · rintro ⟨j, m, h1, h2, h3⟩
    exact ⟨j, (List.getElem?_eq_some_iff.1 h1).1, h2, by rw [h1]; simpa using h3⟩
theorem mem_takers {ms : List Made} {r j : Nat} {m : Made} (h1 : ms[j]? = some m) (h2 : r ∈ m.cons) : j ∈ takers ms r := by
  unfold takers
  rw [List.mem_filter, List.mem_range]
  exact ⟨(List.getElem?_eq_some_iff.1 h1).1, by rw [h1]; simpa using h2⟩
theorem of_takers {ms : List Made} {r j : Nat} (h : j ∈ takers ms r) : ∃ m, ms[j]? = some m ∧ r ∈ m.cons := by
  unfold takers at h
  rw [List.mem_filter, List.mem_range] at h
  obtain ⟨h1, h2⟩ := h
  rw [List.getElem?_eq_getElem h1] at h2
  exact ⟨ms[j], List.getElem?_eq_getElem h1, by simpa using h2⟩
theorem maker_iff {ms : List Made} (hd : ∀ (k j : Nat) (m m' : Made), ms[k]? = some m → j < k → ms[j]? = some m' → m'.b + m'.adds.length ≤ m.b) {r c : Nat} : maker ms r = some c ↔ ∃ m, ms[c]? = some m ∧ m.b ≤ r ∧ r < m.b + m.adds.length := by
  unfold maker
  rw [List.findIdx?_eq_some_iff_getElem]
  constructor
  · rintro ⟨hc, h1, h2⟩
    simp only [Bool.and_eq_true, decide_eq_true_eq] at h1
    exact ⟨ms[c], List.getElem?_eq_getElem hc, h1.1, h1.2⟩
  · rintro ⟨m, h1, h2, h3⟩
    obtain ⟨hc, hm⟩ := List.getElem?_eq_some_iff.1 h1
    refine ⟨hc, by simp [hm, h2, h3], fun j hj => ?_⟩
    have := hd c j m _ h1 hj (List.getElem?_eq_getElem (by omega))
    simp
    intro h4
    omega

/-- The textual trees, told by labels. -/
theorem mks_told {S : St} {ms : List Made} (hgh : ∀ r t, S.gh r = some t → r < S.ng) (hb : ∀ (k : Nat) (m : Made), ms[k]? = some m → S.ng ≤ m.b) (hd : ∀ (k j : Nat) (m m' : Made), ms[k]? = some m → j < k → ms[j]? = some m' → m'.b + m'.adds.length ≤ m.b) : ∀ (k : Nat), k ≤ ms.length → ∀ r,
    (r < S.ng → ((∀ j m, ms[j]? = some m → j < k → r ∉ m.cons) → mks S.gh (ms.take k) r = S.gh r) ∧ ∀ j m, ms[j]? = some m → j < k → r ∈ m.cons → mks S.gh (ms.take k) r = none) ∧ (S.ng ≤ r → maker ms r = none → mks S.gh (ms.take k) r = none) ∧
    ∀ c, S.ng ≤ r → maker ms r = some c → (k ≤ c → mks S.gh (ms.take k) r = none) ∧ (c < k → (∀ j m, ms[j]? = some m → c < j → j < k → r ∉ m.cons) → mks S.gh (ms.take k) r = (ms[c]?).bind fun m => m.adds[r - m.b]?) ∧
      (∀ j m, ms[j]? = some m → c < j → j < k → r ∈ m.cons → mks S.gh (ms.take k) r = none) := by
  intro k
  induction k with
  | zero =>
    intro _ r
    have h0 : S.ng ≤ r → S.gh r = none := fun h => by
      cases hx : S.gh r with
      | none => rfl
      | some t => have := hgh r t hx; omega
    exact ⟨fun _ => ⟨fun _ => rfl, fun j m _ hj => by omega⟩, fun h _ => h0 h, fun c h _ => ⟨fun _ => h0 h, fun hc => by omega, fun j m _ _ hj => by omega⟩⟩
  | succ k ih =>
    intro hk r
    obtain ⟨i1, i2, i3⟩ := ih (by omega) r
    have hkm : ms[k]? = some (ms[k]'(by omega)) := List.getElem?_eq_getElem _
    have step : mks S.gh (ms.take (k + 1)) = mk1 (mks S.gh (ms.take k)) (ms[k]'(by omega)) := by
      have app : ∀ (l : List Made) (g : Nat → Option T) (m : Made), mks g (l ++ [m]) = mk1 (mks g l) m := by
        intro l
        induction l with
        | nil => intro g m; rfl
        | cons x l ih => intro g m; exact ih _ m
      rw [List.take_succ_eq_append_getElem (by omega), app]
    generalize hm : ms[k]'(by omega) = m at *
    rw [step]
    unfold mk1
    refine ⟨fun h => ⟨fun hno => ?_, fun j m' hj h1 h3 => ?_⟩, fun h hn => ?_, fun c h hmk => ⟨fun hkc => ?_, fun hck hno => ?_, fun j m' hj h1 h2 h3 => ?_⟩⟩
    · have := hb k m hkm
      rw [if_neg (by omega), if_neg, (i1 h).1 (fun j m' hj h1 => hno j m' hj (by omega))]
      intro hcon
      exact hno k m hkm (by omega) (by simpa using hcon)
    · have := hb k m hkm
      rw [if_neg (by omega)]
      by_cases hjk : j = k
      · subst hjk
        rw [hkm] at hj
        simp only [Option.some.injEq] at hj
        subst hj
        rw [if_pos (by simpa using h3)]
      · split
        · rfl
        · exact (i1 h).2 j m' hj (by omega) h3
    · rw [if_neg]
      · split
        · rfl
        · exact i2 h hn
      · intro hr
        rw [(maker_iff hd).2 ⟨m, hkm, hr⟩] at hn
        cases hn
    · rw [if_neg]
      · split
        · rfl
        · exact (i3 c h hmk).1 (by omega)
      · intro hr
        rw [(maker_iff hd).2 ⟨m, hkm, hr⟩] at hmk
        simp only [Option.some.injEq] at hmk
        omega
    · by_cases hkc : k = c
      · subst hkc
        obtain ⟨m', q1, q2⟩ := (maker_iff hd).1 hmk
        rw [hkm] at q1
        simp only [Option.some.injEq] at q1
        subst q1
        rw [if_pos q2, hkm]
        rfl
      · rw [if_neg]
        · rw [if_neg]
          · exact (i3 c h hmk).2.1 (by omega) (fun j m' hj h1 h2 => hno j m' hj h1 (by omega))
          · intro hcon
            exact hno k m hkm (by omega) (by omega) (by simpa using hcon)
        · intro hr
          rw [(maker_iff hd).2 ⟨m, hkm, hr⟩] at hmk
          simp only [Option.some.injEq] at hmk
          omega
    · rw [if_neg]
      · by_cases hjk : j = k
        · subst hjk
          rw [hkm] at hj
          simp only [Option.some.injEq] at hj
          subst hj
          rw [if_pos (by simpa using h3)]
        · split
          · rfl
          · exact (i3 c h hmk).2.2 j m' hj h1 (by omega) h3
      · intro hr
        rw [(maker_iff hd).2 ⟨m, hkm, hr⟩] at hmk
        simp only [Option.some.injEq] at hmk
        omega

theorem says_lt {v : AV} {u : Value} (h : VR w bt v u) : ∀ r ∈ says v, r < bt.ng := by
  have one : ∀ {c : AV} {u : Value}, VR w bt c u → (∀ p s lo len, c = .own p s lo len → p.r < bt.ng) ∧ (∀ p s i j, c = .ptrT p s i j → p.r < bt.ng) := by
    intro c u h
    refine ⟨fun p s lo len he => ?_, fun p s i j he => ?_⟩
    · subst he; cases h with | own hp _ _ _ => exact hp
    · subst he; cases h with | ptrT _ _ _ hp _ => exact hp
  have cells : ∀ {cs : List AV} {us : List Value}, us.length = cs.length → (∀ (k : Nat) (c : AV) (u : Value), cs[k]? = some c → us[k]? = some u → VR w bt c u) → ∀ r, r ∈ cs.flatMap (fun | .own p _ _ _ => [p.r] | .ptrT p _ _ _ => [p.r] | .agg _ => [] | .fn _ _ => [] | .tup _ => [] | _ => []) → r < bt.ng := by
    intro cs us hl hr r hm
    obtain ⟨c, hc, hrc⟩ := List.mem_flatMap.1 hm
    obtain ⟨k, hk, hkc⟩ := List.getElem_of_mem hc
    have := one (hr k c _ (by rw [← hkc]; exact List.getElem?_eq_getElem hk) (List.getElem?_eq_getElem (by omega)))
    cases c with
    | own p s lo len => simp at hrc; subst hrc; exact this.1 p s lo len rfl
    | ptrT p s i j => simp at hrc; subst hrc; exact this.2 p s i j rfl
    | _ => simp at hrc
  intro r hr
  cases h with
  | own hp _ _ _ => simp [says] at hr; subst hr; exact hp
  | ptrT _ _ _ hp _ => simp [says] at hr; subst hr; exact hp
  | agg hl ho h => exact cells hl h r hr
  | fn f hl h => exact cells hl h r hr
  | _ => simp [says] at hr

theorem stepN_congr {o : Oper} {env : Nat → AV} (h : ∀ x ∈ o.op.operands, opd { S with env := env } x = opd S x) : stepN D P { S with env := env } o = stepN D P S o := by
  obtain ⟨dst, op, type, pos, after, guard⟩ := o
  cases op with
  | buildSlice t len parts =>
    have hp : ∀ x ∈ parts.toList, opd { S with env := env } x.2 = opd S x.2 := fun x hx => h x.2 (by simp only [Op.operands, List.mem_toArray]; exact List.mem_map.2 ⟨x, hx, rfl⟩)
    have e1 : parts.toList.map (fun x => (opd { S with env := env } x.2).cells.map T.ofSc) = parts.toList.map (fun x => (opd S x.2).cells.map T.ofSc) := List.map_congr_left fun x hx => by rw [hp x hx]
    have e2 : ∀ n, parts.toList.all (fun x => (opd { S with env := env } x.2).cells.length = n && !(opd { S with env := env } x.2).isDead) = parts.toList.all (fun x => (opd S x.2).cells.length = n && !(opd S x.2).isDead) := by
      intro n
      rw [Bool.eq_iff_iff, List.all_eq_true, List.all_eq_true]
      constructor
      · intro g x hx; rw [← hp x hx]; exact g x hx
      · intro g x hx; rw [hp x hx]; exact g x hx
    simp only [stepN, e1, e2]
  | call c =>
    obtain ⟨cl, as, ts⟩ := c
    cases cl with
    | invoke r m => rfl
    | value f =>
      simp only [stepN]
      rw [callee_congr (h f (by simp [Op.operands, Call.operands]))]
      congr 1
      funext x
      obtain ⟨g, caps⟩ := x
      simp only
      rw [args_congr caps (fun x hx => h x (by simp [Op.operands, Call.operands, hx]))]
    | builtin b =>
      cases b with
      | append =>
        simp only [stepN]
        split
        · rename_i s x t t' e1 e2
          have e1 : as = #[s, x] := by apply Array.ext'; simpa using e1
          subst e1
          rw [h x (by simp [Op.operands, Call.operands]), h s (by simp [Op.operands, Call.operands])]
          have e3 : ∀ sz v, source0 { S with env := env } sz v = source0 S sz v := fun sz v => by cases v <;> rfl
          have e4 : ∀ sz v, base0 { S with env := env } sz v = base0 S sz v := fun sz v => by cases v <;> rfl
          simp only [e3, e4]
        · rfl
      | _ => rfl
  | _ => rfl

/-- Labels that nobody has yet. -/
def Bt.widen (bt : Bt) (n N : Nat) : Bt := { bt with κ := fun p => if p.r < n then bt.κ p else 0, ng := N }
theorem Lv.widen (h : Lv w0 W btI SI bt S a w) {N : Nat} (hN : S.ng ≤ N) : Lv w0 W btI SI (bt.widen S.ng N) { S with ng := N } a w := by
  have hng := h.inv.ng
  have hle : bt.le (bt.widen S.ng N) := ⟨Nat.le_refl _, by show bt.ng ≤ N; omega, fun _ h => h, fun _ _ => rfl, fun p hp => by simp only [Bt.widen]; rw [if_pos (by omega)], fun _ _ => rfl⟩
  have lk : ∀ p s rs, ({ S with ng := N } : St).look p = .sl s rs → S.look p = .sl s rs ∧ p.r < bt.ng := fun p s rs hp => ⟨hp, h.inv.look_lt (S := S) hp⟩
  have eκ : ∀ p : Pos, p.r < bt.ng → (bt.widen S.ng N).κ p = bt.κ p := fun p hp => hle.κ p hp
  exact ⟨{ os := h.inv.os, tape := h.inv.tape, output := h.inv.output, size := h.inv.size, keep := h.inv.keep, nb := h.inv.nb, ng := rfl
           bx := fun n cells hn => by
             obtain ⟨h1, h2, h3⟩ := h.inv.bx n cells hn
             exact ⟨h1, h2, h3.mono hle (by rw [h.inv.nb]; exact h1) (fun _ _ => rfl) rfl⟩
           gh := fun r t hr => Nat.lt_of_lt_of_le (h.inv.gh r t hr) hN
           tr := fun p s rs hp => by
             obtain ⟨h0, hlt⟩ := lk p s rs hp
             obtain ⟨h1, h2⟩ := h.inv.tr p s rs h0
             rw [eκ p hlt]
             exact ⟨h1, fun hk => ⟨(h2 hk).1, (h2 hk).2.mono hle hlt rfl⟩⟩
           inj := fun p q s rs s' rs' h1 h2 hk hk' he => by
             obtain ⟨a1, a2⟩ := lk p s rs h1
             obtain ⟨b1, b2⟩ := lk q s' rs' h2
             rw [eκ p a2] at hk
             rw [eκ q b2] at hk'
             exact h.inv.inj _ _ _ _ _ _ a1 b1 hk hk' he
           bbinj := h.inv.bbinj
           bbtr := fun n c p s rs h1 h2 hk => by
             obtain ⟨a1, a2⟩ := lk p s rs h2
             rw [eκ p a2] at hk
             exact h.inv.bbtr _ _ _ _ _ h1 a1 hk
           alt := h.inv.alt
           atr := fun p s rs h1 hk => by
             obtain ⟨a1, a2⟩ := lk p s rs h1
             rw [eκ p a2] at hk
             exact h.inv.atr _ _ _ a1 hk
           abb := h.inv.abb }, ⟨h.er.1, fun t => (h.er.2 t).mono hle (fun _ _ => rfl)⟩, h.defers, h.fz, Nat.le_trans h.fzng hN, fun p hp => ⟨(h.keep p hp).1, by rw [eκ p (by have := h.fz; have := h.fzng; omega)]; exact (h.keep p hp).2⟩, h.gone⟩
end
end Go.Proofs.Ytkifojmjcpdnoaa.En

/- The engine, part 35: what a value needs of the memory; stores and values side by side. -/
namespace Go.Proofs.Ytkifojmjcpdnoaa.En
open Go Go.RowKit
section
variable {P : Program} {S S' X Y Z : St} {D : Den}

theorem cellsAt_env (env : Nat → AV) (n : Nat) (a : AV) : cellsAt { S with env := env } n a = cellsAt S n a := by cases a <;> rfl
theorem scalarOp_m (h : ∀ x, opd X x = opd Z x) (o : Oper) : scalarOp P X o = scalarOp P Z o := by
  unfold scalarOp
  have : opd X = opd Z := funext h
  rw [this]
theorem bound_m (h : ∀ x, opd X x = opd Z x) (d : Int) (x : Option Operand) : bound X d x = bound Z d x := by cases x <;> simp only [bound, h]
theorem stepV_mem (h : ∀ x, opd X x = opd Z x) {o : Oper} (hn : isNew o = false) (hl : ∀ t a, o.op = .load t a → cellsAt X (P.cellsOf t) (opd Z a) = cellsAt Z (P.cellsOf t) (opd Z a)) : stepV D P X o = stepV D P Z o := by
  have sc := scalarOp_m (P := P) h o
  have hf : opd X = opd Z := funext h
  obtain ⟨dst, op, type, pos, after, guard⟩ := o
  cases op with
  | load t x =>
    simp only [stepV, load]
    rw [hf, hl t x rfl]
  | makeFunc fn first caps =>
    cases fn with
    | func f => simp only [stepV]; rw [hf]
    | _ => simp only [stepV]; exact sc
  | unOp op t x => cases op <;> simp only [stepV, hf, sc]
  | binOp op t x y t' => cases op <;> simp only [stepV, hf, sc]
  | slice t x lo hi mx => cases mx <;> simp only [stepV, hf, bound_m h, sc]
  | call c =>
    obtain ⟨cl, as, ts⟩ := c
    cases cl with
    | builtin b => cases b <;> first | (simp only [stepV]; rw [hf, sc]; done) | (simp only [stepV, hf, sc]; done) | (simp only [stepV]; exact sc)
    | value f => simp [isNew] at hn
    | invoke r m => simp only [stepV]; exact sc
  | _ => first | (simp only [stepV, hf, sc]; done) | (simp only [stepV]; exact sc)
/-- A value that reads nothing else of the memory. -/
theorem stepV_free {o : Oper} (hok : opOk P o = true) (hn : isNew o = false) (hop : ∀ x ∈ o.op.operands, opd X x = opd Y x) (hl : ∀ t a, o.op = .load t a → cellsAt X (P.cellsOf t) (opd Y a) = cellsAt Y (P.cellsOf t) (opd Y a)) : stepV D P X o = stepV D P Y o := by
  have e1 : stepV D P { Y with env := X.env } o = stepV D P Y o := stepV_congr hok (fun x hx => by
    rw [← hop x hx]
    cases x <;> rfl)
  rw [← e1]
  refine stepV_mem (fun x => by cases x <;> rfl) hn (fun t a hta => ?_)
  have e2 : opd { Y with env := X.env } a = opd X a := by cases a <;> rfl
  have e3 := hop a (by rw [hta]; simp [Op.operands])
  rw [e2, e3, hl t a hta]
  exact (cellsAt_env X.env _ _).symm
theorem cellsAt_alike {g : Nat → Option T} {m n : Nat} {v : AV} (h : Alike S { S with gh := g, ng := m } v) : cellsAt { S with gh := g, ng := m } n v = cellsAt S n v := by
  cases v with
  | ptrT p sz i j =>
    have := rows_alike (p := p) (sz := sz) (h p.r (by simp [says]))
    simp only [cellsAt]
    rw [this]
  | _ => rfl

/-! a store that leaves the temporaries as they are -/
theorem putFlat_env {env : Nat → AV} {p : Pos} {sz i j : Nat} {vs : List T} : putFlat { S with env := env } p sz i j vs = (putFlat S p sz i j vs).map fun S1 => { S1 with env := env } := by
  unfold putFlat
  have : ({ S with env := env } : St).rows p sz = S.rows p sz := rfl
  rw [this]
  split
  · split
    · simp only [Option.map_some]
      rfl
    · rfl
  · rfl
theorem putFlat_same {p : Pos} {sz i j : Nat} {vs : List T} (h : putFlat S p sz i j vs = some S') : S'.env = S.env ∧ S'.bx = S.bx ∧ S'.nt = S.nt ∧ ∀ r, r ≠ p.r → S'.gh r = S.gh r := by
  unfold putFlat at h
  split at h
  · split at h
    · simp only [Option.some.injEq] at h
      subst h
      unfold St.setAt
      refine ⟨rfl, rfl, rfl, fun r hr => ?_⟩
      simp [upd, hr]
    · cases h
  · cases h
theorem store_simple {t : TypeId} {a v : AV} (hs : simpB (flatP P) t a = true) (h : store P S t a v = some S') :
    S'.env = S.env ∧ S'.nt = S.nt ∧ (∀ env, store P { S with env := env } t a v = some { S' with env := env }) ∧ ∀ b n, apartB b a = true → cellsAt S' n b = cellsAt S n b := by
  unfold store at h
  simp only at h
  split at h
  · cases h
  · rename_i hc
    split at h
    · rename_i b j
      simp only [Option.bind_eq_some_iff] at h
      obtain ⟨cs, h1, h⟩ := h
      split at h
      · rename_i hle
        simp only [Option.some.injEq] at h
        subst h
        refine ⟨rfl, rfl, fun env => ?_, fun c n hap => ?_⟩
        · unfold store
          simp only [hc, if_false, h1, Option.bind_some, hle, if_true]
        · cases c with
          | ptrB b' j' =>
            have : b' ≠ b := by simpa [apartB] using hap
            simp only [cellsAt, upd, if_neg this]
          | ptrT p sz i j => rfl
          | pro cs => rfl
          | _ => simp [apartB] at hap
      · cases h
    · rename_i p sz i j
      simp only [Option.bind_eq_some_iff] at h
      obtain ⟨S1, h1, h⟩ := h
      have hfl : (shT P 9 t).all (· == 0) = true := hs
      rw [if_pos hfl] at h
      simp only [Option.some.injEq] at h
      subst h
      obtain ⟨e1, e2, e3, e4⟩ := putFlat_same h1
      refine ⟨e1, e3, fun env => ?_, fun c n hap => ?_⟩
      · unfold store
        simp only [hc, if_false, putFlat_env, h1, Option.map_some, Option.bind_some, hfl, if_true]
      · cases c with
        | ptrB b' j' => simp only [cellsAt, e2]
        | pro cs => rfl
        | ptrT q sz' i' j' =>
          have : q.r ≠ p.r := by simpa [apartB] using hap
          have hrows : S1.rows q sz' = S.rows q sz' := by unfold St.rows St.look; rw [e4 q.r this]
          simp only [cellsAt, hrows]
        | _ => simp [apartB] at hap
    · cases h
end
end Go.Proofs.Ytkifojmjcpdnoaa.En
