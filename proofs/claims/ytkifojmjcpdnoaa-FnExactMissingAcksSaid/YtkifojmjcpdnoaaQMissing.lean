/- MissingAcks: the plain law. -/
import Derived.Test.YtkifojmjcpdnoaaQM
namespace Go.Proofs.Ytkifojmjcpdnoaa.En
open Go

def opEq (x y : Op) : Bool := (x.client == y.client) && ((x.seq == y.seq) && ((x.kind == y.kind) && ((x.object == y.object) && ((x.old == y.old) && ((x.value == y.value) && true)))))
/-- The log does not tell of it. -/
def miss (log : List Entry) (a : Ack) : Bool := match win a.index 0 ((log.length : Int) - 1), log[a.index.toNat]? with
  | true, some e => !opEq e.op a.op
  | _, _ => true
theorem missing (acks : List Ack) (log : List Entry) (ha : acks.length ≤ 1048576) (hl : log.length ≤ 1048576) : fsMissingAcks acks log = some (acks.filter (miss log), ()) ∧ fiMissingAcks acks log = some (acks.filter (miss log), ()) := by
  have hm := le_max ha
  have small : ∀ (k : Nat) (x : Ack), ((acks.take k).filter (miss log) ++ [x]).length * 56 ≤ 2 ^ 40 := by
    intro k x
    have h1 : ((acks.take k).filter (miss log)).length ≤ acks.length := Nat.le_trans (List.length_filter_le _ _) (by simp; omega)
    have e : (2 : Nat) ^ 40 = 1099511627776 := by decide
    rw [List.length_append, List.length_singleton]
    omega
  have next : ∀ k (hk : k < acks.length), (acks.take (k + 1)).filter (miss log) = (acks.take k).filter (miss log) ++ if miss log acks[k] = true then [acks[k]] else [] := by
    intro k hk
    rw [List.take_add_one, List.getElem?_eq_getElem hk, List.filter_append]
    congr 1
    cases h : miss log acks[k] <;> simp [h]
  have key := lim_two (B1 := bsMissingAcks_3) (B2 := biMissingAcks_3) acks.length (fun k => ((acks, log, (), (k : Int), ()), (), ((acks.take k).filter (miss log), ()))) (fun k => ((log, (), acks, (acks.length : Int), (k : Int), ()), (), ((acks.take k).filter (miss log), ())))
    (((), ()), (), (acks.filter (miss log), ())) (((), ()), (), (acks.filter (miss log), ())) (fun _ => (((), ()), (), ([], ()))) (fun _ => (((), ()), (), ([], ()))) (fun _ => True) (fun _ => False)
    (by simp only [bsMissingAcks_3, bsMissingAcks_3C]; rw [br_dec, if_neg (by omega), List.take_length])
    (by simp only [biMissingAcks_3, biMissingAcks_3C]; rw [br_dec, if_neg (by omega), List.take_length])
    (fun k hk => by
      have c1 : (k : Int) < (acks.length : Int) := by omega
      have c2 : (0 : Int) ≤ (k : Int) := by omega
      left
      rw [next k hk]
      simp only [bsMissingAcks_3, bsMissingAcks_3C, biMissingAcks_3, biMissingAcks_3C, br_dec, iteP_ite, if_pos c1, if_pos c2, Int.toNat_natCast, List.getElem?_eq_getElem hk, Option.bind_some, swin, iwin, br_not, wrap_id (n := (log.length : Int) - 1) (by omega) (by omega), if_pos (small k acks[k]), succ_wrap hm hk]
      cases hw : win acks[k].index 0 ((log.length : Int) - 1) with
      | false =>
        have : miss log acks[k] = true := by unfold miss; rw [hw]
        rw [this]
        exact ⟨rfl, rfl, trivial⟩
      | true =>
        have hw' := win_iff.1 hw
        have hlt : acks[k].index.toNat < log.length := by omega
        have hms : miss log acks[k] = !opEq log[acks[k].index.toNat].op acks[k].op := by unfold miss; rw [hw, List.getElem?_eq_getElem hlt]
        simp only [br_true, if_pos hw'.1, List.getElem?_eq_getElem hlt, Option.bind_some]
        rw [hms]
        show br (opEq log[acks[k].index.toNat].op acks[k].op) _ _ = _ ∧ br (opEq log[acks[k].index.toNat].op acks[k].op) _ _ = _ ∧ True
        cases opEq log[acks[k].index.toNat].op acks[k].op with
        | false => exact ⟨rfl, rfl, trivial⟩
        | true =>
          simp only [br_true, Bool.not_true, Bool.false_eq_true, if_false, List.append_nil]
          exact ⟨trivial, trivial, trivial⟩)
  unfold fsMissingAcks fsMissingAcksC fiMissingAcks fiMissingAcksC
  rcases key with ⟨k1, k2, _⟩ | ⟨k, _, _, _, hf⟩
  · rw [show lsMissingAcks_3 ((acks, log, (), 0, ()), (), ([], ())) = _ from k1, show liMissingAcks_3 ((log, (), acks, (acks.length : Int), 0, ()), (), ([], ())) = _ from k2]
    exact ⟨rfl, rfl⟩
  · exact hf.elim
theorem missing_law (a0 : List Ack) (a1 : List Entry) (h0 : a0.length ≤ maxLen) (h1 : a1.length ≤ maxLen) : fwFnExactMissingAcks a0 a1 = some (true, ()) := by
  unfold fwFnExactMissingAcks fwFnExactMissingAcksC
  obtain ⟨n, g1, g2, g3⟩ := szAckS a0 1048576 h0 (by decide) (Int.le_refl _)
  simp only [g1, Option.bind_some, br_dec]
  split
  · rfl
  · obtain ⟨m, j1, j2, j3⟩ := szEntryS a1 n h1 (by omega) (by omega)
    simp only [j1, Option.bind_some]
    split
    · rfl
    · have l0 := g3 (by omega)
      have l1 := j3 (by omega)
      obtain ⟨m1, m2⟩ := missing a0 a1 l0 l1
      have lr : (a0.filter (miss a1)).length ≤ 1048576 := Nat.le_trans (List.length_filter_le _ _) l0
      have c1 : ¬ (1 + 7 * (a0.length : Int) + 7 * (a1.length : Int) < 0) := by omega
      have c2 : ¬ (1 + 7 * ((a0.filter (miss a1)).length : Int) < 0) := by omega
      simp only [toAckS a0 l0, toEntryS a1 l1, m1, m2, Option.bind_some, eqAckS_self _ (le_max lr), eqAckS_self _ (le_max l0), eqEntryS_self _ (le_max l1), Bool.not_true, br_false, markAckS a0 1 (by decide) (by decide) l0, markEntryS a1 (1 + 7 * (a0.length : Int)) (by omega) (by omega) l1, marks_len, iteP_ite, if_true, if_neg c1, if_neg c2,
        markAckS _ 1 (by decide) (by decide) lr, heldAckS _ 1 (by decide) (by decide) lr, beq_self_eq_true]
end Go.Proofs.Ytkifojmjcpdnoaa.En
