/- FnExactCountCode: the program's CountCode returns what the reference's returns, for all arguments, and leaves its argument as it was: no condition. -/
import Derived.Test.YtjnipkiilomnaaaRows
import Derived.Test.YtjnipkiilomnaaaCountCodePure
import Derived.WalkKit
import Derived.ProofKit
import Derived.OpenShut
import Derived.ShutString
import Derived.ChangeOld
import Derived.Below
import Derived.SizedLaws
import Derived.Deep.Slices
namespace Go.Proofs.Ytjnipkiilomnaaa.CountCode
open Go.ChangeShapes Go.WideShapes Go.ChangeAt Go.RowKit Go.Deep
open Go.Proofs.Ytjnipkiilomnaaa.PFnExactCountCode Go.Proofs.YtjnipkiilomnaaaW.PrintWords
set_option linter.unusedVariables false
theorem own : ownKnob Try.prog.godebug = none := by kernel_rfl
theorem laidOut : laidOutB Try.prog = true := by kernel_rfl

section
variable {H : Type} {enc : TypeId × Value → H} {P : Program} {w : World} {base : Nat} {sp : Nat → Bool} {held : Bool}
/-- A slice that reads as data is a row of elements. -/
theorem row_of_trod {α : Type} (k : Kd α) {t e : TypeId} {fuel : Nat} {a : Option Addr} {len cap : Nat} {x : DataW H × List MemPlace} (ht : P.underlying t = some (.slice e)) (hc : P.cellsOf e = k.sz)
    (hk : ∀ n cs y, DataW.trod enc P w base sp held n e cs = some y → ∃ z, k.K w z cs)
    (h : DataW.trod enc P w base sp held fuel t [.slice a len cap] = some x) :
    ∃ l : List α, len = l.length ∧ k.C w a l.length l ∧ l.length ≤ cap ∧ (l = [] ∨ ∃ es ss, x.1 = .slice es ss ∧ es.length = l.length) := by
  rcases open_slice ht h with ⟨hcs, _⟩ | ⟨ad, len', cap', m, n, D, Pl, hcs, _, hl, hm, hmm, rfl, hx⟩
  · simp at hcs
    obtain ⟨rfl, rfl, rfl⟩ := hcs
    exact ⟨[], rfl, ⟨rfl, by simp, fun h => by simp at h⟩, Nat.le_refl _, .inl rfl⟩
  · simp only [List.cons.injEq, Value.slice.injEq, and_true] at hcs
    obtain ⟨rfl, rfl, rfl⟩ := hcs
    have hlm : len ≤ m := by rw [hmm]; split <;> omega
    have each : ∀ i : Fin len, ∃ z, ∃ cs', cs'.length = k.sz ∧ k.K w z cs' ∧ ∀ j u, cs'[j]? = some u → w.cell? (ad.add (i.1 * k.sz + j)) = some u := by
      intro i
      obtain ⟨cs', h1, h2⟩ := hx i.1 (by have := i.2; omega)
      obtain ⟨z, hz⟩ := hk _ _ _ h2
      obtain ⟨_, hlen, hcell⟩ := World.cells?_some h1
      refine ⟨z, cs', by rw [hlen, hc], hz, fun j u hu => ?_⟩
      have hj : j < P.cellsOf e := by rw [← hlen]; exact (List.getElem?_eq_some_iff.1 hu).1
      rw [← Go.Deep.add_add, ← hc, hcell j hj, hu]
    refine ⟨List.ofFn fun i => (each i).choose, by simp, ⟨by simp, ?_, fun _ => ⟨ad, rfl, fun j p hj => ?_⟩⟩, by simpa using hl, .inr ⟨_, _, rfl, by simp⟩⟩
    · simp
      unfold maxLen at hm
      omega
    · obtain ⟨hj1, hj2⟩ := List.getElem?_eq_some_iff.1 hj
      simp at hj1 hj2
      obtain ⟨cs', h1, h2, h3⟩ := (each ⟨j, hj1⟩).choose_spec
      subst hj2
      exact ⟨cs', h1, h2, h3⟩
end

theorem len2 {α : Type} {l : List α} (h : l.length = 2) : ∃ a b, l = [a, b] := by
  match l, h with
  | [a, b], _ => exact ⟨a, b, rfl⟩
theorem len3 {α : Type} {l : List α} (h : l.length = 3) : ∃ a b c, l = [a, b, c] := by
  match l, h with
  | [a, b, c], _ => exact ⟨a, b, c, rfl⟩
theorem len4 {α : Type} {l : List α} (h : l.length = 4) : ∃ a b c d, l = [a, b, c, d] := by
  match l, h with
  | [a, b, c, d], _ => exact ⟨a, b, c, d, rfl⟩
theorem c71 : Try.prog.cellsOf 71 = 2 := by kernel_rfl
theorem c73 : Try.prog.cellsOf 73 = 4 := by kernel_rfl
theorem c4 : Try.prog.cellsOf 4 = 1 := by kernel_rfl
theorem c3 : Try.prog.cellsOf 3 = 1 := by kernel_rfl

theorem result_trod {H : Type} {enc : TypeId × Value → H} {w : World} {base : Nat} {sp : Nat → Bool} {held : Bool} (n : Nat) (cs : List Value) (y : DataW H × List MemPlace)
    (h : DataW.trod enc Try.prog w base sp held n 71 cs = some y) : ∃ z, k71.K w z cs := by
  obtain ⟨xs, m, _, _, hl, hlen, hf⟩ := DataW.trod_struct Try.underlying71 h
  rw [c71] at hl
  obtain ⟨u0, u1, rfl⟩ := len2 hl
  obtain ⟨x0, x1, rfl⟩ := len2 hlen
  have f0 : DataW.trod enc Try.prog w base sp held m 4 (([u0, u1].drop 0).take (Try.prog.cellsOf 4)) = some x0 := hf 0 _ rfl
  have f1 : DataW.trod enc Try.prog w base sp held m 3 (([u0, u1].drop 1).take (Try.prog.cellsOf 3)) = some x1 := hf 1 _ rfl
  rw [c4] at f0
  rw [c3] at f1
  obtain ⟨b, e0, _⟩ := DataW.trod_bool (x := x0) Try.underlying4 f0
  obtain ⟨v, e1, _, _⟩ := DataW.trod_int (x := x1) Try.underlying3 f1
  cases e0
  cases e1
  exact ⟨⟨b, v⟩, k71_mk w _⟩

theorem reply_trod {H : Type} {enc : TypeId × Value → H} {w : World} {base : Nat} {sp : Nat → Bool} {held : Bool} (n : Nat) (cs : List Value) (y : DataW H × List MemPlace)
    (h : DataW.trod enc Try.prog w base sp held n 73 cs = some y) : ∃ z, k73.K w z cs := by
  obtain ⟨xs, m, _, _, hl, hlen, hf⟩ := DataW.trod_struct Try.underlying73 h
  rw [c73] at hl
  obtain ⟨u0, u1, u2, u3, rfl⟩ := len4 hl
  obtain ⟨x0, x1, x2, rfl⟩ := len3 hlen
  have f0 : DataW.trod enc Try.prog w base sp held m 3 (([u0, u1, u2, u3].drop 0).take (Try.prog.cellsOf 3)) = some x0 := hf 0 _ rfl
  have f1 : DataW.trod enc Try.prog w base sp held m 71 (([u0, u1, u2, u3].drop 1).take (Try.prog.cellsOf 71)) = some x1 := hf 1 _ rfl
  have f2 : DataW.trod enc Try.prog w base sp held m 3 (([u0, u1, u2, u3].drop 3).take (Try.prog.cellsOf 3)) = some x2 := hf 2 _ rfl
  rw [c3] at f0 f2
  rw [c71] at f1
  obtain ⟨v0, e0, _, _⟩ := DataW.trod_int (x := x0) Try.underlying3 f0
  obtain ⟨z1, hz1⟩ := result_trod _ _ x1 f1
  obtain ⟨v2, e2, _, _⟩ := DataW.trod_int (x := x2) Try.underlying3 f2
  have e1 := k71_open hz1
  cases e0
  cases e1
  cases e2
  exact ⟨⟨v0, z1, v2⟩, k73_mk w _⟩

set_option maxRecDepth 100000 in
theorem lifted (os : Os) (started : os.Started) (H : Type) (enc : TypeId × Value → H) :
    ReturnsInHanded {} Try.checked os 3 .any (Rows.fnExactCountCodeSpec.pre6 enc Try.prog Try.f3 Rows.fnExactCountCodeRow.domain false) (Rows.fnExactCountCodeSpec.post enc Try.prog Try.f3 false true false false) := by
  refine returnsInHanded_of_change_sized (C := Try.checked) own started (by kernel_rfl) Try.func3
    (ChangeSpec.witness6 (enc := enc) (C := Try.checked) false ⟨#[], #[.slice none 0 0, .int .i64 0], []⟩ 8 (by kernel_rfl) (by kernel_rfl) (by kernel_rfl) (by kernel_rfl)) ?_
  intro W base args ds gs before hval0 hW hcnd hsz0 _
  have hsz : (DataW.weightsEach Try.prog (Try.f3.params.toList ++ Rows.fnExactCountCodeSpec.plain.varTypes Try.prog) (ds ++ gs)).all (· ≤ reachBytes) = true := hsz0
  have hval : ∀ (j : Nat) t v, Try.f3.params[j]? = some t → args[j]? = some v → Value.okWide Try.prog W .any base t v := hval0
  have hW' := hW
  obtain ⟨p, q, hA0, hV, rfl, hfz, hnd⟩ := hW
  have hA : DataW.TrodAll enc Try.prog W 0 (fun _ => true) true Try.f3.params.toList args.toList ds p := hA0
  rw [Try.params3] at hA hval hsz
  obtain ⟨v0, vs0, d0, ds0, p0, q0, hargs, rfl, rfl, h0, r0⟩ := trodAll_cons hA
  obtain ⟨v1, vs1, d1, ds1, p1, q1, rfl, rfl, rfl, h1, r1⟩ := trodAll_cons r0
  obtain ⟨rfl, rfl, rfl⟩ := trodAll_nil r1
  obtain rfl : args = #[v0, v1] := by cases args; simp_all
  obtain ⟨rfl, rfl⟩ := trodVars_none hV
  obtain ⟨a0, len0, cap0, rfl⟩ := okWide_slice Try.underlying22 (hval 0 22 v0 rfl rfl)
  obtain ⟨a1, rfl, rfl, rfl, w1⟩ := open_int Try.underlying3 (hval 1 3 v1 rfl rfl) h1
  have k0 := h0
  have lt0 : ∀ x ∈ p0, x.block < W.heap.size := by obtain ⟨m, hm⟩ := k0; exact DataW.trod_lt m _ _ _ hm
  obtain ⟨fuel, hf⟩ := h0
  obtain ⟨l0, rfl, hr0, hc0, hlen⟩ := row_of_trod k73 Try.underlying22 (by kernel_rfl) reply_trod hf
  have hle : l0.length ≤ 4398046511104 := by
    rcases hlen with rfl | ⟨es, ss, hd, hes⟩
    · simp
    · simp only at hd
      subst hd
      have z := sized_slice hsz (j := 0) (t := 22) rfl rfl Try.underlying22
      have hb : Try.prog.bytesOf 73 = 32 := by kernel_rfl
      rw [hb] at z
      unfold reachBytes at z
      omega
  clear hA0 hval0 hsz0 hsz
  obtain ⟨k, hk⟩ := pure l0 a1 hle
  refine (laws_FnExactCountCode.calls k _ _ l0 a1 true W hr0 hc0 hk).mono fun e W' ⟨he, bel⟩ => ?_
  subst he
  exact ⟨_, rfl, _, _, _, [], _, [], hW', trodAll_mk1 (shut_bool Try.underlying4 _), (trodAll_cons_mk (Below.trod laidOut (by kernel_rfl) (of_decide_eq_true (by kernel_rfl)) k0 bel lt0) (trodAll_cons_mk (shut_int Try.underlying3 w1) trodAll_mk0)), rfl, bel.frame _, fun h => by cases h⟩
theorem over : Rows.fnExactCountCodeRow.holds Try.pinned (OpenSpec.ofChange Rows.fnExactCountCodeSpec) :=
  OpenClaim.holds_of_wide 3 Try.f3 rfl rfl rfl rfl rfl rfl rfl ⟨rfl, rfl, rfl, rfl, rfl⟩ rfl rfl rfl rfl rfl (by kernel_rfl) Try.func3 (by kernel_rfl)
    (of_decide_eq_true (by kernel_rfl)) (by unfold Func.isWrapper; first | (rw [if_pos (by decide +kernel)]; kernel_rfl) | (rw [if_neg (by decide +kernel)]; exact ⟨rfl, rfl⟩))
    (fun os started H enc _ => lifted os started H enc)
theorem proved : Rows.FnExactCountCodeSaid := over
#print axioms proved
end Go.Proofs.Ytjnipkiilomnaaa.CountCode
namespace Go.Proofs.Ytjnipkiilomnaaa
/-- The row, under a short name, for the claim. -/
theorem countCode_holds : Rows.FnExactCountCodeSaid := CountCode.proved
end Go.Proofs.Ytjnipkiilomnaaa
