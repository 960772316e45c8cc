/- MarksOf: the plain law. -/
import Derived.Test.YtkifojmjcpdnoaaQK
namespace Go.Proofs.Ytkifojmjcpdnoaa.En
open Go

noncomputable section
def opEq (x y : Op) : Bool := (x.client == y.client) && ((x.seq == y.seq) && ((x.kind == y.kind) && ((x.object == y.object) && ((x.old == y.old) && ((x.value == y.value) && true)))))
theorem opEq_self (x : Op) : opEq x x = true := by simp [opEq]
theorem lim_find {σ ε : Type} {B : σ → Option (σ ⊕ ε)} (n : Nat) (m : Nat → σ) (t : ε) (f : Nat → ε) (p : Nat → Bool) (h0 : B (m n) = some (.inr t)) (h : ∀ k, k < n → B (m k) = some (if p k = true then .inr (f k) else .inl (m (k + 1)))) :
    (lim B (m 0) = some t ∧ ∀ k, k < n → p k = false) ∨ ∃ k, k < n ∧ lim B (m 0) = some (f k) ∧ p k = true ∧ ∀ j, j < k → p j = false := by
  have key : ∀ d j, j + d = n → (lim B (m j) = some t ∧ ∀ k, j ≤ k → k < n → p k = false) ∨ ∃ k, k < n ∧ lim B (m j) = some (f k) ∧ p k = true ∧ ∀ i, j ≤ i → i < k → p i = false := by
    intro d
    induction d with
    | zero =>
      intro j hj
      have : j = n := by omega
      subst this
      exact .inl ⟨lim_exit h0, fun k a b => by omega⟩
    | succ d ih =>
      intro j hj
      have h1 := h j (by omega)
      cases hp : p j with
      | true =>
        rw [hp, if_pos rfl] at h1
        exact .inr ⟨j, by omega, lim_exit h1, hp, fun i a b => by omega⟩
      | false =>
        rw [hp, if_neg (by simp)] at h1
        rw [lim_step h1]
        rcases ih (j + 1) (by omega) with ⟨k1, k2⟩ | ⟨k, k0, k1, k2, k3⟩
        · refine .inl ⟨k1, fun k a b => ?_⟩
          rcases Nat.eq_or_lt_of_le a with rfl | a
          · exact hp
          · exact k2 k a b
        · refine .inr ⟨k, k0, k1, k2, fun i a b => ?_⟩
          rcases Nat.eq_or_lt_of_le a with rfl | a
          · exact hp
          · exact k3 i a b
  rcases key n 0 (by omega) with ⟨a, b⟩ | ⟨k, a, b, c, d⟩
  · exact .inl ⟨a, fun k hk => b k (Nat.zero_le _) hk⟩
  · exact .inr ⟨k, a, b, c, fun j hj => d j (Nat.zero_le _) hj⟩

/-- The first event that asked for the same operation. -/
def firstOf (ev : List Event) (k : Nat) : Int := match fsl31First ev (k : Int) with | some x => x.1 | none => 0
theorem first_eq (ev : List Event) (hl : ev.length ≤ maxLen) (k : Nat) (hk : k < ev.length) (h1 : (ev[k].kind == 1) = true) : fsl31First ev (k : Int) = some (firstOf ev k, ()) ∧ fslIndexFunc_Event_iMarksOf_c1 ev ev[k] = some (firstOf ev k, ()) := by
  have spec := lim_find (B := bsl31First_2) k (fun j => ((ev, (k : Int), (j : Int), ()), (), ())) (.inr (((k : Int), (), ()), (), ())) (fun j => .inl (((k : Int), (j : Int), ()), (), ())) (fun j => match ev[j]? with | some x => (x.kind == 1) && opEq x.op ev[k].op | none => false)
    (by simp only [bsl31First_2, bsl31First_2C]; rw [br_dec, if_neg (by omega)])
    (fun j hj => by
      have hjl : j < ev.length := by omega
      have c1 : (j : Int) < (k : Int) := by omega
      have c2 : (0 : Int) ≤ (j : Int) := by omega
      have c3 : (0 : Int) ≤ (k : Int) := by omega
      simp only [bsl31First_2, bsl31First_2C, br_dec, iteP_ite, if_pos c1, if_pos c2, if_pos c3, Int.toNat_natCast, List.getElem?_eq_getElem hjl, List.getElem?_eq_getElem hk, Option.bind_some, succ_wrap hl hjl]
      cases (ev[j].kind == 1) with
      | false => rfl
      | true =>
        show br (opEq ev[j].op ev[k].op) _ _ = _
        cases opEq ev[j].op ev[k].op <;> rfl)
  have impl := lim_find (B := bslIndexFunc_Event_iMarksOf_c1_2) ev.length (fun j => ((ev, (ev[k], ()), (ev.length : Int), (j : Int), ()), (), ())) (.inr (((), ()), (), ())) (fun j => .inl (((j : Int), ()), (), ())) (fun j => match ev[j]? with | some x => (x.kind == 1) && opEq x.op ev[k].op | none => false)
    (by simp only [bslIndexFunc_Event_iMarksOf_c1_2, bslIndexFunc_Event_iMarksOf_c1_2C]; rw [br_dec, if_neg (by omega)])
    (fun j hjl => by
      have c1 : (j : Int) < (ev.length : Int) := by omega
      have c2 : (0 : Int) ≤ (j : Int) := by omega
      simp only [bslIndexFunc_Event_iMarksOf_c1_2, bslIndexFunc_Event_iMarksOf_c1_2C, br_dec, iteP_ite, if_pos c1, if_pos c2, Int.toNat_natCast, List.getElem?_eq_getElem hjl, Option.bind_some, succ_wrap hl hjl, fiMarksOf_c1, fiMarksOf_c1C]
      cases (ev[j].kind == 1) with
      | false => rfl
      | true =>
        simp only [br_true, Option.bind_some]
        show br (opEq ev[j].op ev[k].op) _ _ = _
        cases opEq ev[j].op ev[k].op <;> rfl)
  have pk : (match ev[k]? with | some x => (x.kind == 1) && opEq x.op ev[k].op | none => false) = true := by
    rw [List.getElem?_eq_getElem hk]
    simp only [h1, opEq_self, Bool.and_self]
  rcases impl with ⟨_, i2⟩ | ⟨j', hj', i1, i2, i3⟩
  · have := i2 k hk
    rw [pk] at this
    cases this
  · have himpl : fslIndexFunc_Event_iMarksOf_c1 ev ev[k] = some ((j' : Int), ()) := by
      unfold fslIndexFunc_Event_iMarksOf_c1 fslIndexFunc_Event_iMarksOf_c1C
      rw [show lslIndexFunc_Event_iMarksOf_c1_2 ((ev, (ev[k], ()), (ev.length : Int), 0, ()), (), ()) = _ from i1]
      rfl
    have hspec : fsl31First ev (k : Int) = some ((j' : Int), ()) := by
      unfold fsl31First fsl31FirstC
      rcases spec with ⟨s1, s2⟩ | ⟨j, hj, s1, s2, s3⟩
      · have : j' = k := by
          rcases Nat.lt_trichotomy j' k with h | h | h
          · have := s2 j' h
            rw [i2] at this
            cases this
          · exact h
          · have := i3 k h
            rw [pk] at this
            cases this
        subst this
        rw [show lsl31First_2 ((ev, (j' : Int), 0, ()), (), ()) = _ from s1]
        rfl
      · have : j' = j := by
          rcases Nat.lt_trichotomy j' j with h | h | h
          · have := s3 j' h
            rw [i2] at this
            cases this
          · exact h
          · have := i3 j h
            rw [s2] at this
            cases this
        subst this
        rw [show lsl31First_2 ((ev, (k : Int), 0, ()), (), ()) = _ from s1]
        rfl
    have hf : firstOf ev k = (j' : Int) := by unfold firstOf; rw [hspec]
    rw [hf]
    exact ⟨hspec, himpl⟩

/-- What one event adds. -/
def markAt (ev : List Event) (re : List Reply) (k : Nat) : List Mark := match ev[k]?, re[k]? with
  | some e, some r => if (r.code == 0) = true then (if (e.kind == 2) = true then [⟨(k : Int), (k : Int), true, r.index, r.result.value, ⟨0, 0, 0, e.n, 0, 0⟩⟩] else if (e.kind == 1) = true then [⟨firstOf ev k, (k : Int), false, r.index, r.result.value, e.op⟩] else []) else []
  | _, _ => []
def marksAt (ev : List Event) (re : List Reply) (n : Nat) : List Mark := (List.range n).flatMap (markAt ev re)
theorem marksAt_succ (ev : List Event) (re : List Reply) (n : Nat) : marksAt ev re (n + 1) = marksAt ev re n ++ markAt ev re n := by
  unfold marksAt
  rw [List.range_succ, List.flatMap_append]
  simp
theorem marksAt_len (ev : List Event) (re : List Reply) (n : Nat) : (marksAt ev re n).length ≤ n := by
  induction n with
  | zero => simp [marksAt]
  | succ n ih =>
    rw [marksAt_succ, List.length_append]
    have : (markAt ev re n).length ≤ 1 := by
      unfold markAt
      repeat' split
      all_goals simp
    omega
theorem marksOf (ev : List Event) (re : List Reply) (he : ev.length ≤ 1048576) (hr : re.length ≤ 1048576) : ∃ out, fsMarksOf ev re = some (out, ()) ∧ fiMarksOf ev re = some (out, ()) ∧ out.length ≤ 1048576 := by
  have hm := le_max he
  obtain ⟨n, hn, hne, hnr, hend⟩ : ∃ n : Nat, (if (re.length : Int) < (ev.length : Int) then (re.length : Int) else (ev.length : Int)) = (n : Int) ∧ n ≤ ev.length ∧ n ≤ re.length ∧ (n = ev.length ∨ n = re.length) := by
    by_cases h : (re.length : Int) < (ev.length : Int)
    · exact ⟨re.length, by rw [if_pos h], by omega, Nat.le_refl _, .inr rfl⟩
    · exact ⟨ev.length, by rw [if_neg h], Nat.le_refl _, by omega, .inl rfl⟩
  have small : ∀ (k : Nat) (x : Mark), k < n → (marksAt ev re k ++ [x]).length * 88 ≤ 2 ^ 40 := by
    intro k x hk
    have h1 := marksAt_len ev re k
    have e : (2 : Nat) ^ 40 = 1099511627776 := by decide
    rw [List.length_append, List.length_singleton]
    omega
  have tl : (ev.take n).length = n := by simp; omega
  have key := lim_two (B1 := bsMarksOf_3) (B2 := biMarksOf_3) n (fun k => ((ev, re, (), (k : Int), ()), (), (marksAt ev re k, ()))) (fun k => ((ev, re, (), ev.take n, (n : Int), (k : Int), ()), (), (marksAt ev re k, ())))
    (((), ()), (), (marksAt ev re n, ())) (((), ()), (), (marksAt ev re n, ())) (fun _ => (((), ()), (), ([], ()))) (fun _ => (((), ()), (), ([], ()))) (fun _ => True) (fun _ => False)
    (by
      simp only [bsMarksOf_3, bsMarksOf_3C, br_dec]
      rcases hend with h | h
      · rw [if_neg (by omega)]
      · by_cases h' : (n : Int) < (ev.length : Int)
        · rw [if_pos h', if_neg (by omega)]
        · rw [if_neg h'])
    (by simp only [biMarksOf_3, biMarksOf_3C]; rw [br_dec, if_neg (by omega)])
    (fun k hk => by
      have hke : k < ev.length := by omega
      have hkr : k < re.length := by omega
      have c1 : (k : Int) < (ev.length : Int) := by omega
      have c2 : (k : Int) < (re.length : Int) := by omega
      have c3 : (0 : Int) ≤ (k : Int) := by omega
      have c4 : (k : Int) < (n : Int) := by omega
      have et : (ev.take n)[k]? = some ev[k] := by rw [List.getElem?_take, if_pos hk, List.getElem?_eq_getElem hke]
      left
      rw [marksAt_succ]
      have hma : markAt ev re k = if (re[k].code == 0) = true then (if (ev[k].kind == 2) = true then [⟨(k : Int), (k : Int), true, re[k].index, re[k].result.value, ⟨0, 0, 0, ev[k].n, 0, 0⟩⟩] else if (ev[k].kind == 1) = true then [⟨firstOf ev k, (k : Int), false, re[k].index, re[k].result.value, ev[k].op⟩] else []) else [] := by
        unfold markAt
        rw [List.getElem?_eq_getElem hke, List.getElem?_eq_getElem hkr]
      rw [hma]
      simp only [bsMarksOf_3, bsMarksOf_3C, biMarksOf_3, biMarksOf_3C, br_dec, iteP_ite, if_pos c1, if_pos c2, if_pos c3, if_pos c4, Int.toNat_natCast, List.getElem?_eq_getElem hke, List.getElem?_eq_getElem hkr, et, Option.bind_some, br_not, succ_wrap hm hke]
      cases (re[k].code == 0) with
      | false =>
        simp only [br_false, Bool.false_eq_true, if_false, List.append_nil]
        exact ⟨trivial, trivial, trivial⟩
      | true =>
        simp only [br_true, if_true]
        by_cases h2 : ev[k].kind = 2
        · have b2 : (ev[k].kind == 2) = true := by simp [h2]
          have b1 : (ev[k].kind == 1) = false := by simp [h2]
          simp only [b1, b2, br_true, br_false, if_true, if_pos (small k _ hk)]
          exact ⟨trivial, trivial, trivial⟩
        · have b2 : (ev[k].kind == 2) = false := by simp [h2]
          simp only [b2, br_false, Bool.false_eq_true, if_false]
          cases b1 : (ev[k].kind == 1) with
          | false =>
            simp only [br_false, Bool.false_eq_true, if_false, List.append_nil]
            exact ⟨trivial, trivial, trivial⟩
          | true =>
            obtain ⟨f1, f2⟩ := first_eq ev hm k hke b1
            simp only [br_true, if_true, f1, f2, Option.bind_some, if_pos (small k _ hk)]
            exact ⟨trivial, trivial, trivial⟩)
  unfold fsMarksOf fsMarksOfC fiMarksOf fiMarksOfC
  have d1 : (0 : Int) ≤ 0 ∧ (0 : Int) ≤ (n : Int) ∧ (n : Int) ≤ (ev.length : Int) := by omega
  simp only [hn, iteP_ite, if_pos d1, Int.toNat_zero, List.drop_zero, Nat.sub_zero, Int.toNat_natCast, tl]
  rcases key with ⟨k1, k2, _⟩ | ⟨k, _, _, _, hf⟩
  · rw [show lsMarksOf_3 ((ev, re, (), 0, ()), (), ([], ())) = _ from k1, show liMarksOf_3 ((ev, re, (), ev.take n, (n : Int), 0, ()), (), ([], ())) = _ from k2]
    exact ⟨_, rfl, rfl, Nat.le_trans (marksAt_len ev re n) (by omega)⟩
  · exact hf.elim
theorem marks_law (a0 : List Event) (a1 : List Reply) (h0 : a0.length ≤ maxLen) (h1 : a1.length ≤ maxLen) : fwFnExactMarksOf a0 a1 = some (true, ()) := by
  unfold fwFnExactMarksOf fwFnExactMarksOfC
  obtain ⟨n, g1, g2, g3⟩ := szEventS a0 1048576 h0 (by decide) (Int.le_refl _)
  simp only [g1, Option.bind_some, br_dec]
  split
  · rfl
  · obtain ⟨m, j1, j2, j3⟩ := szReplyS a1 n h1 (by omega) (by omega)
    simp only [j1, Option.bind_some]
    split
    · rfl
    · have l0 := g3 (by omega)
      have l1 := j3 (by omega)
      obtain ⟨out, m1, m2, lr⟩ := marksOf a0 a1 l0 l1
      have c1 : ¬ (1 + 10 * (a0.length : Int) + 4 * (a1.length : Int) < 0) := by omega
      have c2 : ¬ (1 + 11 * (out.length : Int) < 0) := by omega
      simp only [toEventS a0 l0, toReplyS a1 l1, m1, m2, Option.bind_some, eqMarkS_self _ (le_max lr), eqEventS_self _ (le_max l0), eqReplyS_self _ (le_max l1), Bool.not_true, br_false, markEventS a0 1 (by decide) (by decide) l0, markReplyS a1 (1 + 10 * (a0.length : Int)) (by omega) (by omega) l1, marks_len, iteP_ite, if_true, if_neg c1, if_neg c2,
        markMarkS _ 1 (by decide) (by decide) lr, heldMarkS _ 1 (by decide) (by decide) lr, beq_self_eq_true]
end
end Go.Proofs.Ytkifojmjcpdnoaa.En
