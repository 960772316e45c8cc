/- Lists of servers: common ones, and those without others. -/
import Derived.Test.YtjenncacoddgmaaGreatPV1
namespace Go.Proofs.YtjenncacoddgmaaGreat.En
open Go

theorem small40 {n : Nat} (h : n ≤ 1048576) : n * 8 ≤ 2 ^ 40 := by
  have : (2 : Nat) ^ 40 = 1099511627776 := by decide
  omega
/-- One that is greater than all is put at the end. -/
theorem put_end (l : List Int) (x : Int) (hl : l.length ≤ 1000) (h : ∀ y ∈ l, y < x) : fsl2Put l x = some (l ++ [x], ()) := by
  have hm : l.length ≤ maxLen := by unfold maxLen; omega
  have key := lim_fold (B := bsl2Put_2) l (fun k (_ : Unit) => ((l, x, (k : Int), ()), (), ())) (fun _ _ => True) (fun k r _ => ((l, x, ((k + r.length : Nat) : Int), ()), (), ()))
    (fun b hb => by
      simp only [bsl2Put_2, bsl2Put_2C]
      rw [br_dec, if_neg (by omega)]
      rfl)
    (fun k b y hy hb => by
      have hk := lt_len hy
      have c1 : (k : Int) < (l.length : Int) := by omega
      have c2 : (0 : Int) ≤ (k : Int) := by omega
      refine .inl ⟨(), ?_, trivial, ?_⟩
      · simp only [bsl2Put_2, bsl2Put_2C, br_dec, iteP_ite, if_pos c1, if_pos c2, Int.toNat_natCast, hy, Option.bind_some, if_pos (h y (List.mem_of_getElem? hy)), succ_wrap hm hk]
      · rw [List.length_cons, show k + ((l.drop (k + 1)).length + 1) = k + 1 + (l.drop (k + 1)).length by omega])
    0 () (Nat.zero_le _) trivial
  unfold fsl2Put fsl2PutC
  rw [show lsl2Put_2 ((l, x, 0, ()), (), ()) = _ from key]
  simp only [Option.bind_some, List.drop_zero, Nat.zero_add]
  have c0 : ¬ ((l.length : Int) < (l.length : Int)) := by omega
  have d1 : (0 : Int) ≤ 0 ∧ (0 : Int) ≤ (l.length : Int) ∧ (l.length : Int) ≤ (l.length : Int) := by omega
  have d2 : (0 : Int) ≤ (l.length : Int) ∧ (l.length : Int) ≤ (l.length : Int) ∧ (l.length : Int) ≤ (l.length : Int) := by omega
  simp only [br_dec, if_neg c0, iteP_ite, if_pos d1, if_pos d2, Int.toNat_natCast, Int.toNat_zero, List.drop_zero, Nat.sub_zero, Nat.sub_self, List.take_zero, List.append_nil, List.take_length, List.nil_append]
  rw [if_pos (small40 (by omega)), if_pos (small40 (by simp; omega))]
  exact if_pos (small40 (by simp; omega))
theorem sCommon (a b : List Int) (ha : Asc a) (hb : b.length ≤ maxLen) : fsCommonServers a b = some (a.filter fun x => decide (x ∈ b), ()) := by
  have hl := ha.len
  have hm : a.length ≤ maxLen := by unfold maxLen; omega
  have hp := ha.pair
  have key := lim_fold (B := bsCommonServers_3) a (fun k (out : List Int) => ((a, b, (), (k : Int), ()), (), (out, ()))) (fun k out => out = (a.take k).filter fun x => decide (x ∈ b)) (fun k r out => (((), ()), (), (out ++ r.filter fun x => decide (x ∈ b), ())))
    (fun out hb => by
      simp only [bsCommonServers_3, bsCommonServers_3C]
      rw [br_dec, if_neg (by omega)]
      simp)
    (fun k out x hx hout => by
      have hk := lt_len hx
      have c1 : (k : Int) < (a.length : Int) := by omega
      have c2 : (0 : Int) ≤ (k : Int) := by omega
      have hxe : a[k] = x := by rw [List.getElem?_eq_getElem hk] at hx; exact Option.some.inj hx
      simp only [bsCommonServers_3, bsCommonServers_3C, br_dec, iteP_ite, if_pos c1, if_pos c2, Int.toNat_natCast, hx, Option.bind_some, (hasServer b x hb).1, succ_wrap hm hk]
      by_cases hin : x ∈ b
      · have hlt : ∀ y ∈ out, y < x := by
          intro y hy
          rw [hout, List.mem_filter] at hy
          obtain ⟨i, hi, he⟩ := List.getElem_of_mem hy.1
          have hi' : i < k := by simp at hi; omega
          rw [List.getElem_take] at he
          rw [← he, ← hxe]
          exact List.pairwise_iff_getElem.1 hp i k (by omega) hk hi'
        have hol : out.length ≤ 1000 := by
          rw [hout]
          have := List.length_filter_le (fun x => decide (x ∈ b)) (a.take k)
          simp at this
          omega
        simp only [if_pos hin, put_end out x hol hlt, Option.bind_some]
        refine .inl ⟨out ++ [x], rfl, ?_, ?_⟩
        · rw [hout, List.take_add_one, hx, List.filter_append]
          simp [hin]
        · simp [hin]
      · simp only [if_neg hin]
        refine .inl ⟨out, rfl, ?_, ?_⟩
        · rw [hout, List.take_add_one, hx, List.filter_append]
          simp [hin]
        · simp [hin])
    0 [] (Nat.zero_le _) rfl
  unfold fsCommonServers fsCommonServersC
  rw [show lsCommonServers_3 ((a, b, (), 0, ()), (), ([], ())) = _ from key]
  rfl

/-! the same in the program: a copy is sorted, doubles and others are left out -/
theorem bits_small {n : Nat} (hn : n ≤ 5) : ∃ m, fbitsLen (IntKind.wrap .u64 (n : Int)) = some (m, ()) := by
  have : n = 0 ∨ n = 1 ∨ n = 2 ∨ n = 3 ∨ n = 4 ∨ n = 5 := by omega
  rcases this with rfl | rfl | rfl | rfl | rfl | rfl
  · exact ⟨0, by kernel_rfl⟩
  · exact ⟨1, by kernel_rfl⟩
  · exact ⟨2, by kernel_rfl⟩
  · exact ⟨2, by kernel_rfl⟩
  · exact ⟨3, by kernel_rfl⟩
  · exact ⟨3, by kernel_rfl⟩
theorem insertion (l : List Int) (ha : Asc l) : fslinsertionSortOrdered_int_io l 0 (l.length : Int) = some (l, ()) := by
  have hl := ha.len
  have hm : l.length ≤ maxLen := by unfold maxLen; omega
  have inner : ∀ k (hk : k < l.length), 0 < k → lslinsertionSortOrdered_int_io_4 (((), 0, (l.length : Int), (k : Int), (k : Int), ()), (), (l, ())) = some (((), 0, (l.length : Int), (k : Int), ()), (), (l, ())) := by
    intro k hk h0
    refine lim_exit ?_
    have c1 : (k : Int) > 0 := by omega
    have c2 : (0 : Int) ≤ (k : Int) ∧ (k : Int) < (l.length : Int) := by omega
    have c3 : (0 : Int) ≤ ((k - 1 : Nat) : Int) ∧ ((k - 1 : Nat) : Int) < (l.length : Int) := by omega
    have e1 : l[k]? = some l[k] := List.getElem?_eq_getElem hk
    have e2 : l[k - 1]? = some l[k - 1] := List.getElem?_eq_getElem (by omega)
    have hlt := (ha k hk).2 h0
    have less : fcmpLess_int l[k] l[k - 1] = some (false, ()) := by
      unfold fcmpLess_int fcmpLess_intC fcmpisNaN_int fcmpisNaN_intC
      simp only [beq_self_eq_true, Bool.not_true, Option.bind_some, br_false]
      rw [decide_eq_false (by omega)]
    simp only [bslinsertionSortOrdered_int_io_4, bslinsertionSortOrdered_int_io_4C, br_dec, iteP_ite, if_pos c1, if_pos c2, pred_wrap h0 (by omega), if_pos c3, Int.toNat_natCast, e1, e2, Option.bind_some, less, br_false]
  have outer := lim_ind (B := bslinsertionSortOrdered_int_io_1) (fun s => ∃ k : Nat, 0 < k ∧ s = (((), 0, (l.length : Int), (k : Int), ()), (), (l, ()))) (fun s => l.length - s.1.2.2.2.1.toNat) (fun e => e = ((()), (), (l, ())))
    (fun s hs => by
      obtain ⟨k, h0, rfl⟩ := hs
      by_cases hk : k < l.length
      · have c1 : (k : Int) < (l.length : Int) := by omega
        refine .inl ⟨(((), 0, (l.length : Int), ((k + 1 : Nat) : Int), ()), (), (l, ())), ?_, ⟨k + 1, by omega, rfl⟩, ?_⟩
        · simp only [bslinsertionSortOrdered_int_io_1, bslinsertionSortOrdered_int_io_1C, br_dec, if_pos c1, inner k hk h0, Option.bind_some, succ_wrap hm hk]
        · simp only [Int.toNat_natCast]
          omega
      · have c1 : ¬ (k : Int) < (l.length : Int) := by omega
        exact .inr ⟨_, by simp only [bslinsertionSortOrdered_int_io_1, bslinsertionSortOrdered_int_io_1C, br_dec, if_neg c1], rfl⟩)
    (s := (((), 0, (l.length : Int), ((1 : Nat) : Int), ()), (), (l, ()))) ⟨1, by omega, rfl⟩
  obtain ⟨e, h1, rfl⟩ := outer
  unfold fslinsertionSortOrdered_int_io fslinsertionSortOrdered_int_ioC
  rw [show IntKind.wrap .i64 ((0 : Int) + 1) = ((1 : Nat) : Int) from by rw [wrap_id (by omega) (by omega)]; rfl, show lslinsertionSortOrdered_int_io_1 (((), 0, (l.length : Int), ((1 : Nat) : Int), ()), (), (l, ())) = _ from h1]
  rfl
theorem sort_asc (l : List Int) (ha : Asc l) : fslSort_int_io l = some (l, ()) := by
  have hl := ha.len
  obtain ⟨m, hm⟩ := bits_small hl
  have hp : fslpdqsortOrdered_int_io l 0 (l.length : Int) m = some (l, ()) := by
    unfold fslpdqsortOrdered_int_io fslpdqsortOrdered_int_ioC
    have : lslpdqsortOrdered_int_io_2 (((), 0, (l.length : Int), m, true, true, ()), (), (l, ())) = some ((()), (), (l, ())) := by
      refine lim_exit ?_
      simp only [bslpdqsortOrdered_int_io_2, bslpdqsortOrdered_int_io_2C]
      rw [wrap_id (by omega) (by omega), br_dec, if_pos (by omega), insertion l ha, Option.bind_some, iteP_pos rfl]
    rw [this]
    rfl
  unfold fslSort_int_io fslSort_int_ioC
  simp only [hm, Option.bind_some, hp]
  exact iteP_pos trivial _ _
theorem compact_asc (l : List Int) (ha : Asc l) : fslCompact_int_mv l = some (l, ()) := by
  have hl := ha.len
  have hm : l.length ≤ maxLen := by unfold maxLen; omega
  unfold fslCompact_int_mv fslCompact_int_mvC
  rw [br_dec]
  split
  · rfl
  · have key := lim_ind (B := bslCompact_int_mv_4) (fun s => ∃ k : Nat, 0 < k ∧ k ≤ l.length ∧ s = (((), (k : Int), ()), (), (l, ()))) (fun s => l.length - s.1.2.1.toNat) (fun e => e = (((), (), ()), (), (l, ())))
      (fun s hs => by
        obtain ⟨k, h0, hkl, rfl⟩ := hs
        by_cases hk : k < l.length
        · have c1 : (k : Int) < (l.length : Int) := by omega
          have c2 : (0 : Int) ≤ (k : Int) ∧ (k : Int) < (l.length : Int) := by omega
          have c3 : (0 : Int) ≤ ((k - 1 : Nat) : Int) ∧ ((k - 1 : Nat) : Int) < (l.length : Int) := by omega
          have e1 : l[k]? = some l[k] := List.getElem?_eq_getElem hk
          have e2 : l[k - 1]? = some l[k - 1] := List.getElem?_eq_getElem (by omega)
          have hlt := (ha k hk).2 h0
          refine .inl ⟨(((), ((k + 1 : Nat) : Int), ()), (), (l, ())), ?_, ⟨k + 1, by omega, by omega, rfl⟩, ?_⟩
          · simp only [bslCompact_int_mv_4, bslCompact_int_mv_4C, br_dec, iteP_ite, if_pos c1, if_pos c2, pred_wrap h0 (by omega), if_pos c3, Int.toNat_natCast, e1, e2, Option.bind_some, br_beq, succ_wrap hm hk]
            rw [if_neg (by omega)]
          · simp only [Int.toNat_natCast]
            omega
        · have c1 : ¬ (k : Int) < (l.length : Int) := by omega
          exact .inr ⟨_, by simp only [bslCompact_int_mv_4, bslCompact_int_mv_4C, br_dec, if_neg c1], rfl⟩)
      (s := (((), ((1 : Nat) : Int), ()), (), (l, ()))) ⟨1, by omega, by omega, rfl⟩
    obtain ⟨e, h1, rfl⟩ := key
    rw [show lslCompact_int_mv_4 (((), 1, ()), (), (l, ())) = _ from h1]
    rfl
theorem ascending (l : List Int) (ha : Asc l) : fiascending l = some (l, ()) := by
  have hl := ha.len
  unfold fiascending fiascendingC fslClone_int fslClone_intC
  rw [iteP_pos (small40 (by omega)), Option.bind_some, sort_asc l ha, Option.bind_some, iteP_pos rfl, compact_asc l ha]
  rfl
end Go.Proofs.YtjenncacoddgmaaGreat.En
