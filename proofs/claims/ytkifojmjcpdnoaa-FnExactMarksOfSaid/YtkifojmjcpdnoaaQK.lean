/- Events, replies and marks: sizes, copies, equality, marks. -/
import Derived.Test.YtkifojmjcpdnoaaB
namespace Go.Proofs.Ytkifojmjcpdnoaa.En
open Go

theorem br_beq {ρ : Type} (a b : Int) (x y : ρ) : br (a == b) x y = if a = b then x else y := by
  rw [br_ite]
  by_cases h : a = b <;> simp [h]
theorem br_not {ρ : Type} (b : Bool) (x y : ρ) : br (!b) x y = br b y x := by cases b <;> rfl
section
variable {α : Type}
def marks (G : Int → α) (w n : Int) (m : Nat) : List α := (List.range m).map fun (j : Nat) => G (n + w * (j : Int))
theorem marks_succ (G : Int → α) (w n : Int) (m : Nat) : marks G w n (m + 1) = marks G w n m ++ [G (n + w * (m : Int))] := by
  unfold marks
  rw [List.range_succ, List.map_append]
  rfl
theorem marks_len (G : Int → α) (w n : Int) (m : Nat) : (marks G w n m).length = m := by simp [marks]
theorem mark_eq {F : List α → Int → Option (List α × Int × Unit)} {B : (Unit × Int × Int × Unit) × Unit × (List α × Unit) → Option (((Unit × Int × Int × Unit) × Unit × (List α × Unit)) ⊕ ((Int × Unit) × Unit × (List α × Unit)))} (G : Int → α) (w : Int)
    (hF : ∀ l n, F l n = (lim B (((), n, 0, ()), (), (l, ()))).bind fun e => some (e.2.2.1, e.1.1, ()))
    (hs : ∀ (l : List α) (n : Int) (k : Nat), k < l.length → l.length ≤ 1048576 → 0 ≤ n → n ≤ 1000000000 → B (((), n, (k : Int), ()), (), (l, ())) = some (.inl (((), n + w, ((k + 1 : Nat) : Int), ()), (), (l.set k (G n), ()))))
    (he : ∀ (l : List α) (n : Int), B (((), n, (l.length : Int), ()), (), (l, ())) = some (.inr ((n, ()), (), (l, ()))))
    (hw : 0 ≤ w) (hw2 : w ≤ 20) (l : List α) (n : Int) (hn : 0 ≤ n) (hn2 : n ≤ 900000000) (hl : l.length ≤ 1048576) : F l n = some (marks G w n l.length, n + w * (l.length : Int), ()) := by
  have key := lim_fold (B := B) l (fun k (b : List α) => (((), n + w * (k : Int), (k : Int), ()), (), (b, ()))) (fun k b => b = marks G w n k ++ l.drop k) (fun _ _ _ => ((n + w * (l.length : Int), ()), (), (marks G w n l.length, ())))
    (fun b hb => by
      have hb : b = marks G w n l.length := by rw [hb, List.drop_length, List.append_nil]
      have := he b (n + w * (l.length : Int))
      rw [hb, marks_len] at this
      rw [hb]
      exact this)
    (fun k b x hx hb => by
      have hk := lt_len hx
      have hbl : b.length = l.length := by rw [hb, List.length_append, marks_len, List.length_drop]; omega
      have hwk : w * (k : Int) ≤ 20 * 1048576 := Int.mul_le_mul hw2 (by omega) (by omega) (by omega)
      have hwk0 : 0 ≤ w * (k : Int) := Int.mul_nonneg hw (by omega)
      refine .inl ⟨b.set k (G (n + w * (k : Int))), ?_, ?_, rfl⟩
      · rw [hs b _ k (by omega) (by omega) (by omega) (by omega)]
        rw [show n + w * (k : Int) + w = n + w * ((k + 1 : Nat) : Int) by rw [Int.natCast_add, Int.mul_add]; simp only [Int.natCast_one, Int.mul_one]; omega]
      · rw [hb, marks_succ, List.append_assoc, List.set_append_right _ _ (by rw [marks_len]; exact Nat.le_refl _), marks_len, Nat.sub_self, List.drop_eq_getElem_cons hk]
        rfl)
    0 l (Nat.zero_le _) (by simp [marks])
  have h0 : (n + w * ((0 : Nat) : Int)) = n := by simp
  rw [h0] at key
  rw [hF, show lim B (((), n, 0, ()), (), (l, ())) = _ from key]
  rfl
theorem held_eq {F : List α → Int → Option (Int × Unit)} {B : (List α × Int × Int × Unit) × Unit × Unit → Option (((List α × Int × Int × Unit) × Unit × Unit) ⊕ (((Int × Int × Unit) × Unit × Unit) ⊕ ((Int × Unit × Unit) × Unit × Unit)))} (G : Int → α) (w : Int)
    (hF : ∀ l n, F l n = (lim B ((l, n, 0, ()), (), ())).bind fun e => Sum.elim (fun e => some (e.1.2.1, ())) (fun e => some (e.1.1, ())) e)
    (hs : ∀ (l : List α) (n : Int) (k : Nat), l[k]? = some (G n) → l.length ≤ 1048576 → 0 ≤ n → n ≤ 1000000000 → B ((l, n, (k : Int), ()), (), ()) = some (.inl ((l, n + w, ((k + 1 : Nat) : Int), ()), (), ())))
    (he : ∀ (l : List α) (n : Int), B ((l, n, (l.length : Int), ()), (), ()) = some (.inr (.inr ((n, (), ()), (), ()))))
    (hw : 0 ≤ w) (hw2 : w ≤ 20) (m : Nat) (n : Int) (hn : 0 ≤ n) (hn2 : n ≤ 900000000) (hl : m ≤ 1048576) : F (marks G w n m) n = some (n + w * (m : Int), ()) := by
  have hml := marks_len G w n m
  have key := lim_fold (B := B) (marks G w n m) (fun k (_ : Unit) => ((marks G w n m, n + w * (k : Int), (k : Int), ()), (), ())) (fun _ _ => True) (fun _ _ _ => .inr ((n + w * (m : Int), (), ()), (), ()))
    (fun b hb => by
      have := he (marks G w n m) (n + w * (m : Int))
      rw [hml] at this ⊢
      exact this)
    (fun k b x hx hb => by
      have hk := lt_len hx
      rw [hml] at hk
      have hwk : w * (k : Int) ≤ 20 * 1048576 := Int.mul_le_mul hw2 (by omega) (by omega) (by omega)
      have hwk0 : 0 ≤ w * (k : Int) := Int.mul_nonneg hw (by omega)
      refine .inl ⟨(), ?_, trivial, rfl⟩
      have hg : (marks G w n m)[k]? = some (G (n + w * (k : Int))) := by
        unfold marks
        rw [List.getElem?_map, List.getElem?_range hk]
        rfl
      rw [hs _ _ k hg (by omega) (by omega) (by omega)]
      rw [show n + w * (k : Int) + w = n + w * ((k + 1 : Nat) : Int) by rw [Int.natCast_add, Int.mul_add]; simp only [Int.natCast_one, Int.mul_one]; omega])
    0 () (Nat.zero_le _) trivial
  have h0 : (n + w * ((0 : Nat) : Int)) = n := by simp
  rw [h0] at key
  rw [hF, show lim B ((marks G w n m, n, 0, ()), (), ()) = _ from key]
  rfl
end

theorem szEventS : SzOk fwszEventS (fun l => l.length ≤ maxLen) (fun l => l.length ≤ 1048576) := sz_flat (fun _ _ => rfl)
theorem szReplyS : SzOk fwszReplyS (fun l => l.length ≤ maxLen) (fun l => l.length ≤ 1048576) := sz_flat (fun _ _ => rfl)
theorem toEventS (l : List Event) (h : l.length ≤ 1048576) : fwtoEventS l = some (l, ()) := to_eq (F := fwtoEventS) (B := bwtoEventS_3) fwtoEvent ⟨0, 0, 0, 0, ⟨0, 0, 0, 0, 0, 0⟩⟩ 80 (fun _ => rfl) (fun _ _ _ => rfl) (by decide) l h (fun _ _ => rfl)
theorem toReplyS (l : List Reply) (h : l.length ≤ 1048576) : fwtoReplyS l = some (l, ()) := to_eq (F := fwtoReplyS) (B := bwtoReplyS_3) fwtoReply ⟨0, ⟨false, 0⟩, 0⟩ 32 (fun _ => rfl) (fun _ _ _ => rfl) (by decide) l h (fun _ _ => rfl)
theorem le_max {n : Nat} (h : n ≤ 1048576) : n ≤ maxLen := by unfold maxLen; omega
theorem eqOp_self (x : Op) : fweqOp x x = some (true, ()) := by
  unfold fweqOp fweqOpC
  simp only [beq_self_eq_true, Bool.not_true, br_false]
theorem eqEvent_self (x : Event) : fweqEvent x x = some (true, ()) := by
  unfold fweqEvent fweqEventC
  simp only [beq_self_eq_true, Bool.not_true, br_false, eqOp_self, Option.bind_some]
theorem eqResult_self (x : Result) : fweqResult x x = some (true, ()) := by
  unfold fweqResult fweqResultC
  simp only [beq_self_eq_true, Bool.not_true, br_false, Option.bind_some]
theorem eqReply_self (x : Reply) : fweqReply x x = some (true, ()) := by
  unfold fweqReply fweqReplyC
  simp only [beq_self_eq_true, Bool.not_true, br_false, eqResult_self, Option.bind_some]
theorem eqMark_self (x : Mark) : fweqMark x x = some (true, ()) := by
  unfold fweqMark fweqMarkC
  simp only [beq_self_eq_true, Bool.not_true, br_false, eqOp_self, Option.bind_some]
theorem eqEventS_self (l : List Event) (h : l.length ≤ maxLen) : fweqEventS l l = some (true, ()) := eqS_self (F := fweqEventS) (B := bweqEventS_4) fweqEvent (fun _ _ => rfl) (fun _ _ _ => rfl) l h (fun x _ => eqEvent_self x)
theorem eqReplyS_self (l : List Reply) (h : l.length ≤ maxLen) : fweqReplyS l l = some (true, ()) := eqS_self (F := fweqReplyS) (B := bweqReplyS_4) fweqReply (fun _ _ => rfl) (fun _ _ _ => rfl) l h (fun x _ => eqReply_self x)
theorem eqMarkS_self (l : List Mark) (h : l.length ≤ maxLen) : fweqMarkS l l = some (true, ()) := eqS_self (F := fweqMarkS) (B := bweqMarkS_4) fweqMark (fun _ _ => rfl) (fun _ _ _ => rfl) l h (fun x _ => eqMark_self x)
def eventOf (n : Int) : Event := ⟨n, n + 1, n + 2, n + 3, ⟨n + 4, n + 5, n + 6, n + 7, n + 8, n + 9⟩⟩
def replyOf (n : Int) : Reply := ⟨n, ⟨Int.tmod (n + 1) 3 == 0, n + 2⟩, n + 3⟩
def markOf (n : Int) : Mark := ⟨n, n + 1, Int.tmod (n + 2) 3 == 0, n + 3, n + 4, ⟨n + 5, n + 6, n + 7, n + 8, n + 9, n + 10⟩⟩
theorem add_add (n : Int) : n + 1 + 1 = n + 2 ∧ n + 2 + 1 = n + 3 ∧ n + 3 + 1 = n + 4 ∧ n + 4 + 1 = n + 5 ∧ n + 5 + 1 = n + 6 ∧ n + 6 + 1 = n + 7 ∧ n + 7 + 1 = n + 8 ∧ n + 8 + 1 = n + 9 ∧ n + 9 + 1 = n + 10 ∧ n + 10 + 1 = n + 11 := by omega
theorem markEventS (l : List Event) (n : Int) (hn : 0 ≤ n) (hn2 : n ≤ 900000000) (hl : l.length ≤ 1048576) : fwmarkEventS_io l n = some (marks eventOf 10 n l.length, n + 10 * (l.length : Int), ()) :=
  mark_eq (F := fwmarkEventS_io) (B := bwmarkEventS_io_2) eventOf 10 (fun _ _ => rfl)
    (fun l n k hk hl h0 h1 => by
      have c1 : (k : Int) < (l.length : Int) := by omega
      have c2 : (0 : Int) ≤ (k : Int) ∧ (k : Int) < (l.length : Int) := by omega
      obtain ⟨e1, e2, e3, e4, e5, e6, e7, e8, e9, e10⟩ := add_add n
      simp (disch := omega) only [bwmarkEventS_io_2, bwmarkEventS_io_2C, Int.toNat_natCast, br_dec, iteP_ite, List.length_set, if_pos c1, if_pos c2, List.getElem?_eq_getElem hk, List.set_set, List.getElem?_set_self, Option.bind_some, wrap_id, e1, e2, e3, e4, e5, e6, e7, e8, e9, e10]
      rfl)
    (fun l n => by simp only [bwmarkEventS_io_2, bwmarkEventS_io_2C]; rw [br_dec, if_neg (by omega)]) (by decide) (by decide) l n hn hn2 hl
theorem markReplyS (l : List Reply) (n : Int) (hn : 0 ≤ n) (hn2 : n ≤ 900000000) (hl : l.length ≤ 1048576) : fwmarkReplyS_io l n = some (marks replyOf 4 n l.length, n + 4 * (l.length : Int), ()) :=
  mark_eq (F := fwmarkReplyS_io) (B := bwmarkReplyS_io_2) replyOf 4 (fun _ _ => rfl)
    (fun l n k hk hl h0 h1 => by
      have c1 : (k : Int) < (l.length : Int) := by omega
      have c2 : (0 : Int) ≤ (k : Int) ∧ (k : Int) < (l.length : Int) := by omega
      obtain ⟨e1, e2, e3, e4, e5, e6, e7, e8, e9, e10⟩ := add_add n
      simp (disch := omega) only [bwmarkReplyS_io_2, bwmarkReplyS_io_2C, Int.toNat_natCast, br_dec, iteP_ite, List.length_set, if_pos c1, if_pos c2, List.getElem?_eq_getElem hk, List.set_set, List.getElem?_set_self, Option.bind_some, wrap_id, e1, e2, e3, e4, e5, e6, e7, e8, e9, e10]
      rfl)
    (fun l n => by simp only [bwmarkReplyS_io_2, bwmarkReplyS_io_2C]; rw [br_dec, if_neg (by omega)]) (by decide) (by decide) l n hn hn2 hl
theorem markMarkS (l : List Mark) (n : Int) (hn : 0 ≤ n) (hn2 : n ≤ 900000000) (hl : l.length ≤ 1048576) : fwmarkMarkS_io l n = some (marks markOf 11 n l.length, n + 11 * (l.length : Int), ()) :=
  mark_eq (F := fwmarkMarkS_io) (B := bwmarkMarkS_io_2) markOf 11 (fun _ _ => rfl)
    (fun l n k hk hl h0 h1 => by
      have c1 : (k : Int) < (l.length : Int) := by omega
      have c2 : (0 : Int) ≤ (k : Int) ∧ (k : Int) < (l.length : Int) := by omega
      obtain ⟨e1, e2, e3, e4, e5, e6, e7, e8, e9, e10⟩ := add_add n
      simp (disch := omega) only [bwmarkMarkS_io_2, bwmarkMarkS_io_2C, Int.toNat_natCast, br_dec, iteP_ite, List.length_set, if_pos c1, if_pos c2, List.getElem?_eq_getElem hk, List.set_set, List.getElem?_set_self, Option.bind_some, wrap_id, e1, e2, e3, e4, e5, e6, e7, e8, e9, e10]
      rfl)
    (fun l n => by simp only [bwmarkMarkS_io_2, bwmarkMarkS_io_2C]; rw [br_dec, if_neg (by omega)]) (by decide) (by decide) l n hn hn2 hl
theorem heldMarkS (m : Nat) (n : Int) (hn : 0 ≤ n) (hn2 : n ≤ 900000000) (hl : m ≤ 1048576) : fwheldMarkS (marks markOf 11 n m) n = some (n + 11 * (m : Int), ()) :=
  held_eq (F := fwheldMarkS) (B := bwheldMarkS_2) markOf 11 (fun _ _ => rfl)
    (fun l n k hg hl h0 h1 => by
      have hk := lt_len hg
      have c1 : (k : Int) < (l.length : Int) := by omega
      have c2 : (0 : Int) ≤ (k : Int) := by omega
      obtain ⟨e1, e2, e3, e4, e5, e6, e7, e8, e9, e10⟩ := add_add n
      simp (disch := omega) only [bwheldMarkS_2, bwheldMarkS_2C, Int.toNat_natCast, br_dec, iteP_ite, if_pos c1, if_pos c2, hg, Option.bind_some, wrap_id, e1, e2, e3, e4, e5, e6, e7, e8, e9, e10, markOf, beq_self_eq_true, Bool.not_true, br_false]
      rfl)
    (fun l n => by simp only [bwheldMarkS_2, bwheldMarkS_2C]; rw [br_dec, if_neg (by omega)]) (by decide) (by decide) m n hn hn2 hl
end Go.Proofs.Ytkifojmjcpdnoaa.En
