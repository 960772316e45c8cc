/- HasNewFormat: the plain laws. -/
import Derived.Test.YtlmpkmelabckbaaA
namespace Go.Proofs.Ytlmpkmelabckbaa.En
open Go

theorem f48_eq (x : Op) : f48 x = some (x, ()) := rfl
theorem f42_eq (x : Entry) : f42 x = some (x, ()) := rfl
theorem f10_eq (l : List Entry) (h : l.length ≤ 1048576) : f10 l = some (l, ()) := by
  have key : l10_3 ((l, (), (), 0, ()), (), (List.replicate l.length (⟨0, ⟨0, 0, 0, 0, 0, 0⟩⟩ : Entry), ())) = some (((), (), (), ()), (), (l, ())) := by
    have := lim_fold (B := b10_3) l (fun k (b : List Entry) => ((l, (), (), (k : Int), ()), (), (b, ()))) (fun _ b => b.length = l.length) (fun k r b => (((), (), (), ()), (), (b.take k ++ r, ())))
      (fun b hb => by
        simp only [b10_3, b10_3C]
        rw [br_dec, if_neg (by omega), List.append_nil, List.take_of_length_le (by omega)])
      (fun k b x hx hb => by
        have hk := lt_len hx
        refine .inl ⟨b.set k x, ?_, by simp [hb], ?_⟩
        · simp only [b10_3, b10_3C]
          rw [br_dec, if_pos (by omega), iteP_pos (by omega), Int.toNat_natCast, hx, Option.bind_some, f42_eq, Option.bind_some, iteP_pos (by omega), List.getElem?_eq_getElem (by omega), Option.bind_some, wrap_succ (l := l) (by unfold maxLen; omega) hk]
        · rw [take_set_succ _ (by omega)]
          simp)
      0 (List.replicate l.length (⟨0, ⟨0, 0, 0, 0, 0, 0⟩⟩ : Entry)) (Nat.zero_le _) (List.length_replicate)
    simpa [l10_3] using this
  unfold f10 f10C
  rw [iteP_pos (by omega), Int.toNat_natCast, key]
  rfl
theorem f66_eq (x : Op) : f66 x = some (x.kind == 2, ()) := rfl
theorem f68_eq (x : Entry) : f68 x = some (x.op.kind == 2, ()) := rfl
theorem f41_eq (l : List Entry) (h : l.length ≤ maxLen) : f41 l = some (l.any fun e => e.op.kind == 2, ()) := by
  have key := lim_fold (B := b41_2) l (fun k (b : Unit) => ((l, false, (k : Int), ()), (), ())) (fun _ _ => True) (fun k r b => bif r.any fun e => e.op.kind == 2 then .inl ((true, ()), (), ()) else .inr ((false, ()), (), ()))
      (fun b hb => by
        simp only [b41_2, b41_2C]
        rw [br_dec, if_neg (by omega)]
        rfl)
      (fun k b x hx hb => by
        have hk := lt_len hx
        simp only [b41_2, b41_2C]
        rw [br_dec, if_pos (by omega), iteP_pos (by omega), Int.toNat_natCast, hx, Option.bind_some, f66_eq, Option.bind_some, wrap_succ h hk]
        cases hc : x.op.kind == 2 with
        | true => exact .inr (by simp [hc]; rfl)
        | false => exact .inl ⟨(), rfl, trivial, by simp [hc]⟩)
      0 () (Nat.zero_le _) trivial
  unfold f41 f41C
  rw [show l41_2 ((l, false, 0, ()), (), ()) = _ from key, List.drop_zero]
  cases l.any fun e => e.op.kind == 2 <;> rfl
theorem f82_eq (l : List Entry) (h : l.length ≤ maxLen) : f82_68 l = some ((match l.findIdx? fun e => e.op.kind == 2 with | some i => (i : Int) | none => -1), ()) := by
  have key := lim_fold (B := b82_68_2) l (fun k (b : Unit) => ((l, (), 0, (l.length : Int), (k : Int), ()), (), ())) (fun _ _ => True) (fun k r b => match r.findIdx? fun e => e.op.kind == 2 with | some i => .inl ((((k + i : Nat) : Int), ()), (), ()) | none => .inr ((0, ()), (), ()))
      (fun b hb => by
        simp only [b82_68_2, b82_68_2C]
        rw [br_dec, if_neg (by omega)]
        rfl)
      (fun k b x hx hb => by
        have hk := lt_len hx
        simp only [b82_68_2, b82_68_2C]
        rw [br_dec, if_pos (by omega), iteP_pos (by omega), Int.toNat_natCast, hx, Option.bind_some, f68_eq, Option.bind_some, wrap_succ h hk]
        cases hc : x.op.kind == 2 with
        | true => exact .inr (by simp [hc, List.findIdx?_cons]; rfl)
        | false =>
          refine .inl ⟨(), rfl, trivial, ?_⟩
          simp only [List.findIdx?_cons, hc, Bool.false_eq_true, if_false]
          cases (l.drop (k + 1)).findIdx? fun e => e.op.kind == 2 with
          | none => rfl
          | some i => simp only [Option.map_some]; rw [show k + (i + 1) = k + 1 + i by omega])
      0 () (Nat.zero_le _) trivial
  unfold f82_68 f82_68C
  rw [show l82_68_2 ((l, (), 0, (l.length : Int), 0, ()), (), ()) = _ from key, List.drop_zero]
  cases l.findIdx? fun e => e.op.kind == 2 with
  | none => rfl
  | some i => simp
theorem f67_eq (l : List Entry) (h : l.length ≤ maxLen) : f67_68 l = some (l.any fun e => e.op.kind == 2, ()) := by
  unfold f67_68 f67_68C
  rw [f82_eq l h, Option.bind_some]
  cases hf : l.findIdx? fun e => e.op.kind == 2 with
  | none =>
    rw [List.findIdx?_eq_none_iff] at hf
    have : (l.any fun e => e.op.kind == 2) = false := by rw [List.any_eq_false]; intro x hx; simpa using hf x hx
    rw [this]
    rfl
  | some i =>
    have : (l.any fun e => e.op.kind == 2) = true := by
      have := List.findIdx?_isSome (xs := l) (p := fun e => e.op.kind == 2)
      rw [hf] at this
      exact this.symm
    rw [this]
    simp
theorem f70_eq (x y : Op) : f70 x y = some (decide (x = y), ()) := by
  unfold f70 f70C
  simp only [br_ite]
  by_cases h : x = y
  · subst h; simp
  · rw [decide_eq_false h]
    obtain ⟨a1, a2, a3, a4, a5, a6⟩ := x
    obtain ⟨b1, b2, b3, b4, b5, b6⟩ := y
    simp only [Op.mk.injEq, not_and] at h
    repeat' split
    all_goals first | rfl | (exfalso; simp_all)
theorem f44_eq (x y : Entry) : f44 x y = some (decide (x = y), ()) := by
  unfold f44 f44C
  simp only [br_ite, f70_eq, Option.bind_some]
  by_cases h : x = y
  · subst h; simp
  · rw [decide_eq_false h]
    obtain ⟨a1, a2⟩ := x
    obtain ⟨b1, b2⟩ := y
    simp only [Entry.mk.injEq, not_and] at h
    repeat' split
    all_goals first | rfl | (exfalso; simp_all)
theorem f12_self (l : List Entry) (h : l.length ≤ maxLen) : f12 l l = some (true, ()) := by
  have key := lim_fold (B := b12_4) l (fun k (b : Unit) => ((l, l, false, (k : Int), ()), (), ())) (fun _ _ => True) (fun k r b => .inr ((false, ()), (), ()))
      (fun b hb => by
        simp only [b12_4, b12_4C]
        rw [br_dec, if_neg (by omega)])
      (fun k b x hx hb => by
        have hk := lt_len hx
        simp only [b12_4, b12_4C]
        rw [br_dec, if_pos (by omega), iteP_pos (by omega), Int.toNat_natCast, hx, Option.bind_some, iteP_pos (by omega), Option.bind_some, f44_eq, Option.bind_some, wrap_succ h hk]
        rw [decide_eq_true rfl, Bool.not_true, br_false]
        exact .inl ⟨(), rfl, trivial, trivial⟩)
      0 () (Nat.zero_le _) trivial
  unfold f12 f12C
  rw [br_ite, if_neg (by simp), show l12_4 ((l, l, false, 0, ()), (), ()) = _ from key]
  rfl
theorem f3_eq (l : List Entry) (hl : l.length ≤ maxLen) : f3 l = some (true, ()) := by
  have hml : l.length ≤ 9223372036854775807 := hl
  unfold f3 f3C f8 f8C
  rw [wrap_id (by omega) (by omega)]
  by_cases h : (1048576 - (l.length : Int)) < 0
  · simp only [h, decide_true, br_true, Option.bind_some]
    rfl
  · simp only [h, decide_false, br_false, Option.bind_some, f10_eq l (by omega)]
    unfold f9 f9C f11 f11C f43 f43C
    simp only [f41_eq l hl, f67_eq l hl, f12_self l hl, Option.bind_some, beq_self_eq_true, Bool.not_true, br_false]
end Go.Proofs.Ytlmpkmelabckbaa.En
