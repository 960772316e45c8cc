/- FnExactMarksOf: the row. -/
import Derived.Test.YtkifojmjcpdnoaaRows
import Derived.Test.YtkifojmjcpdnoaaQMarks
import Derived.WalkKit
import Derived.SizedLaws
namespace Go.Proofs.Ytkifojmjcpdnoaa.En
open Go Go.ChangeShapes Go.WideShapes Go.ChangeAt Go.RowKit
theorem own : ownKnob Try.prog.godebug = none := by kernel_rfl
theorem laidOut : laidOutB Try.prog = true := by kernel_rfl
theorem pars6 : parsB Try.prog Θ [48, 49] [.ls (.st .event), .ls (.st .reply)] = true := by kernel_rfl
set_option maxRecDepth 100000 in
theorem lifted6 (os : Os) (started : os.Started) (H : Type) (enc : TypeId × Value → H) :
    ReturnsInHanded {} Try.checked os 6 .any (Rows.fnExactMarksOfSpec.pre6 enc Try.prog Try.f6 Rows.fnExactMarksOfRow.domain false) (Rows.fnExactMarksOfSpec.post enc Try.prog Try.f6 false true false false) := by
  refine returnsInHanded_of_change_sized (C := Try.checked) own started (by kernel_rfl) Try.func6
    (ChangeSpec.witness6 (enc := enc) (C := Try.checked) false ⟨#[], #[.slice none 0 0, .slice none 0 0], []⟩ 8 (by kernel_rfl) (by kernel_rfl) (by kernel_rfl) (by kernel_rfl)) ?_
  intro W base args ds gs before hval0 hW hcnd hsz0 _
  have hval : ∀ (j : Nat) t v, Try.f6.params[j]? = some t → args[j]? = some v → Value.okWide Try.prog W .any base t v := hval0
  have hW' := hW
  obtain ⟨p, q, hA0, hV, rfl, hfz, hnd⟩ := hW
  have hA : DataW.TrodAll enc Try.prog W 0 (fun _ => true) true Try.f6.params.toList args.toList ds p := hA0
  rw [Try.params6] at hA hval
  have hA : DataW.TrodAll enc Try.prog W 0 (fun _ => true) true [48, 49] args.toList ds p := hA
  have hA2 := hA
  obtain ⟨v0, vs0, d0, ds0, p0, q0, _, rfl, rfl, h0, r0⟩ := trodAll_cons hA2
  obtain ⟨v1, vs1, d1, ds1, p1, q1, _, rfl, rfl, h1, r1⟩ := trodAll_cons r0
  obtain ⟨rfl, rfl, rfl⟩ := trodAll_nil r1
  obtain ⟨rfl, rfl⟩ := trodVars_none hV
  have calls := law_calls (τs := [.ls (.st .event), .ls (.st .reply)]) Θ_ok ewFnExactMarksOf (fun x hx => marks_law x.1 x.2.1 (bd_len hx.1) (bd_len hx.2.1)) pars6 (fun j t v ht hv => hval j t v (by simpa using ht) (by simpa using hv)) hA
  rw [Array.toArray_toList] at calls
  refine calls.mono fun e W' ⟨he, bel⟩ => ?_
  subst he
  exact ⟨_, rfl, _, _, _, [], _, [], hW', trodAll_mk1 (shut_bool Try.underlying4 _), trodAll_below laidOut bel pars6 hA, rfl, bel.frame _, fun h => by cases h⟩
theorem over6 : Rows.fnExactMarksOfRow.holds Try.pinned (OpenSpec.ofChange Rows.fnExactMarksOfSpec) :=
  OpenClaim.holds_of_wide 6 Try.f6 rfl rfl rfl rfl rfl rfl rfl ⟨rfl, rfl, rfl, rfl, rfl⟩ rfl rfl rfl rfl rfl (by kernel_rfl) Try.func6 (by kernel_rfl)
    (of_decide_eq_true (by kernel_rfl)) (by unfold Func.isWrapper; first | (rw [if_pos (by decide +kernel)]; kernel_rfl) | (rw [if_neg (by decide +kernel)]; exact ⟨rfl, rfl⟩))
    (fun os started H enc _ => lifted6 os started H enc)
end Go.Proofs.Ytkifojmjcpdnoaa.En
namespace Go.Proofs.Ytkifojmjcpdnoaa
theorem exactMarksOf_holds : Rows.FnExactMarksOfSaid := En.over6
#print axioms exactMarksOf_holds
end Go.Proofs.Ytkifojmjcpdnoaa
