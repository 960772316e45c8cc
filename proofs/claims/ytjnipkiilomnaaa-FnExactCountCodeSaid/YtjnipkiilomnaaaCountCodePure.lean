/- The printed function of the law FnExactCountCode answers true for every list of replies that fits in memory. -/
import Derived.Test.YtjnipkiilomnaaaPFnExactCountCodex2
namespace Go.Proofs.Ytjnipkiilomnaaa.CountCode
open Go.RowKit Go.Proofs.Ytjnipkiilomnaaa.PFnExactCountCode Go.Proofs.YtjnipkiilomnaaaW.PrintWords Go.Proofs.YtjnipkiilomnaaaW.PrintLast

theorem wrap_succ {i : Int} (h0 : 0 ≤ i) (h : i < 4398046511105) : wrap64 (i + 1) = i + 1 := by
  unfold wrap64
  omega

theorem same (l : List S69) (a : Int) : ∀ k n i, spec_CountCode.l0 k l a n i = impl_CountCode.l0 k a n l (l.length : Int) i := by
  intro k
  induction k with
  | zero => intro n i; simp [spec_CountCode.l0, impl_CountCode.l0]
  | succ k ih =>
    intro n i
    simp only [spec_CountCode.l0, impl_CountCode.l0]
    by_cases h1 : i < (l.length : Int)
    · simp only [if_pos h1, ih]
    · simp only [if_neg h1]

theorem spec_ends (l : List S69) (a : Int) (hl : l.length ≤ 4398046511104) (d : Nat) : ∀ k n i, 0 ≤ i → (l.length : Int) - i ≤ d → d < k → ∃ r, spec_CountCode.l0 k l a n i = some r := by
  induction d with
  | zero =>
    intro k n i h0 hd hk
    obtain ⟨k, rfl⟩ : ∃ m, k = m + 1 := ⟨k - 1, by omega⟩
    refine ⟨n, ?_⟩
    simp only [spec_CountCode.l0]
    rw [if_neg (by omega)]
  | succ d ih =>
    intro k n i h0 hd hk
    obtain ⟨k, rfl⟩ : ∃ m, k = m + 1 := ⟨k - 1, by omega⟩
    simp only [spec_CountCode.l0]
    by_cases h1 : i < (l.length : Int)
    · rw [if_pos h1, if_pos h0, wrap_succ h0 (by omega)]
      split
      · exact ih _ _ _ (by omega) (by omega) (by omega)
      · exact ih _ _ _ (by omega) (by omega) (by omega)
    · exact ⟨n, by rw [if_neg h1]⟩

theorem to_ends (l : List S73) (hl : l.length ≤ 4398046511104) (d : Nat) : ∀ k (o : List S69) i, o.length = l.length → 0 ≤ i → (l.length : Int) - i ≤ d → d < k → ∃ r, laws_toReplyS.l0 k l o i = some r ∧ r.length = l.length := by
  induction d with
  | zero =>
    intro k o i ho h0 hd hk
    obtain ⟨k, rfl⟩ : ∃ m, k = m + 1 := ⟨k - 1, by omega⟩
    refine ⟨o, ?_, ho⟩
    simp only [laws_toReplyS.l0]
    rw [if_neg (by omega)]
  | succ d ih =>
    intro k o i ho h0 hd hk
    obtain ⟨k, rfl⟩ : ∃ m, k = m + 1 := ⟨k - 1, by omega⟩
    simp only [laws_toReplyS.l0]
    by_cases h1 : i < (l.length : Int)
    · rw [if_pos h1, if_pos h0]
      simp only [laws_toReply.f, laws_toResult.f, Option.bind_some]
      rw [if_pos (by omega), wrap_succ h0 (by omega)]
      exact ih _ _ _ (by simpa using ho) (by omega) (by omega) (by omega)
    · exact ⟨o, by rw [if_neg h1], ho⟩

theorem eq_refl (l : List S69) (hl : l.length ≤ 4398046511104) (d : Nat) : ∀ k i, 0 ≤ i → (l.length : Int) - i ≤ d → d < k → laws_eqReplyS.l0 k l l i = some true := by
  induction d with
  | zero =>
    intro k i h0 hd hk
    obtain ⟨k, rfl⟩ : ∃ m, k = m + 1 := ⟨k - 1, by omega⟩
    simp only [laws_eqReplyS.l0]
    rw [if_neg (by omega)]
  | succ d ih =>
    intro k i h0 hd hk
    obtain ⟨k, rfl⟩ : ∃ m, k = m + 1 := ⟨k - 1, by omega⟩
    simp only [laws_eqReplyS.l0]
    by_cases h1 : i < (l.length : Int)
    · rw [if_pos h1, if_pos h0, if_pos h1]
      simp only [laws_eqReply.f, laws_eqResult.f, bne_self_eq_false, Bool.false_eq_true, if_false, if_true, Option.bind_some]
      rw [wrap_succ h0 (by omega)]
      exact ih _ _ (by omega) (by omega) (by omega)
    · rw [if_neg h1]

theorem pure (l : List S73) (a : Int) (hl : l.length ≤ 4398046511104) : ∃ k, laws_FnExactCountCode.f k l a = some true := by
  refine ⟨l.length + 1, ?_⟩
  have hto : ∃ r, laws_toReplyS.f (l.length + 1) l = some r ∧ r.length = l.length := by
    unfold laws_toReplyS.f
    rw [if_pos (by omega), if_pos (by omega)]
    exact to_ends l hl l.length _ _ _ (by simp) (by omega) (by omega) (by omega)
  obtain ⟨r, hr, hlen⟩ := hto
  obtain ⟨n, hn⟩ := spec_ends r a (by omega) l.length (l.length + 1) 0 0 (by omega) (by omega) (by omega)
  have hn' := hn
  rw [same] at hn'
  have he : laws_eqReplyS.f (l.length + 1) r r = some true := by
    unfold laws_eqReplyS.f
    rw [if_pos rfl]
    exact eq_refl r (by omega) l.length _ _ (by omega) (by omega) (by omega)
  unfold laws_FnExactCountCode.f laws_szReplyS.f
  by_cases hs : wrap64 (1048576 - (l.length : Int)) < 0
  · rw [if_pos hs]
    simp
  · rw [if_neg hs]
    simp only [Option.bind_some, if_neg hs, hr, spec_CountCode.f, impl_CountCode.f, hn, hn', he, if_true]

end Go.Proofs.Ytjnipkiilomnaaa.CountCode
