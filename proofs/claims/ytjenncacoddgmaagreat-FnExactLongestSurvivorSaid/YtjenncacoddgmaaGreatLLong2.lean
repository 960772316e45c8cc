/- FnExactLongestSurvivor: the row. -/
import Derived.Test.YtjenncacoddgmaaGreatRows
import Derived.Test.YtjenncacoddgmaaGreatPLong2
import Derived.WalkKit
import Derived.SizedLaws
namespace Go.Proofs.YtjenncacoddgmaaGreat.En
open Go Go.ChangeShapes Go.WideShapes Go.ChangeAt Go.RowKit
theorem own : ownKnob Tryz.prog.godebug = none := by kernel_rfl
theorem laidOut : laidOutB Tryz.prog = true := by kernel_rfl
theorem pars7 : parsB Tryz.prog Θ [31] [.st .cluster] = true := by kernel_rfl
set_option maxRecDepth 100000 in
theorem lifted7 (os : Os) (started : os.Started) (H : Type) (enc : TypeId × Value → H) :
    ReturnsInHanded {} Tryz.checked os 7 .any (Rows.fnExactLongestSurvivorSpec.pre6 enc Tryz.prog Tryz.f7 Rows.fnExactLongestSurvivorRow.domain false) (Rows.fnExactLongestSurvivorSpec.post enc Tryz.prog Tryz.f7 false true false false) := by
  refine returnsInHanded_of_change_sized (C := Tryz.checked) own started (by kernel_rfl) Tryz.func7
    (ChangeSpec.witness6 (enc := enc) (C := Tryz.checked) false ⟨#[], #[.agg #[.int .i64 0, .slice none 0 0, .slice none 0 0, .slice none 0 0, .int .i64 0, .int .i64 0, .int .i64 0, .int .i64 0, .int .i64 0, .slice none 0 0]], []⟩ 8 (by kernel_rfl) (by kernel_rfl) (by kernel_rfl) (by kernel_rfl)) ?_
  intro W base args ds gs before hval0 hW hcnd hsz0 _
  have hval : ∀ (j : Nat) t v, Tryz.f7.params[j]? = some t → args[j]? = some v → Value.okWide Tryz.prog W .any base t v := hval0
  have hW' := hW
  obtain ⟨p, q, hA0, hV, rfl, hfz, hnd⟩ := hW
  have hA : DataW.TrodAll enc Tryz.prog W 0 (fun _ => true) true Tryz.f7.params.toList args.toList ds p := hA0
  rw [Tryz.params7] at hA hval
  have hA : DataW.TrodAll enc Tryz.prog W 0 (fun _ => true) true [31] args.toList ds p := hA
  have hA2 := hA
  obtain ⟨v0, vs0, d0, ds0, p0, q0, _, rfl, rfl, h0, r0⟩ := trodAll_cons hA2
  obtain ⟨rfl, rfl, rfl⟩ := trodAll_nil r0
  obtain ⟨rfl, rfl⟩ := trodVars_none hV
  have calls := law_calls (τs := [.st .cluster]) Θ_ok ewFnExactLongestSurvivor (fun x hx => long_law x.1 (bd_cl hx.1)) pars7 (fun j t v ht hv => hval j t v (by simpa using ht) (by simpa using hv)) hA
  rw [Array.toArray_toList] at calls
  refine calls.mono fun e W' ⟨he, bel⟩ => ?_
  subst he
  exact ⟨_, rfl, _, _, _, [], _, [], hW', trodAll_mk1 (shut_bool Tryz.underlying4 _), trodAll_below laidOut bel pars7 hA, rfl, bel.frame _, fun h => by cases h⟩
theorem over7 : Rows.fnExactLongestSurvivorRow.holds Tryz.pinned (OpenSpec.ofChange Rows.fnExactLongestSurvivorSpec) :=
  OpenClaim.holds_of_wide 7 Tryz.f7 rfl rfl rfl rfl rfl rfl rfl ⟨rfl, rfl, rfl, rfl, rfl⟩ rfl rfl rfl rfl rfl (by kernel_rfl) Tryz.func7 (by kernel_rfl)
    (of_decide_eq_true (by kernel_rfl)) (by unfold Func.isWrapper; first | (rw [if_pos (by decide +kernel)]; kernel_rfl) | (rw [if_neg (by decide +kernel)]; exact ⟨rfl, rfl⟩))
    (fun os started H enc _ => lifted7 os started H enc)
end Go.Proofs.YtjenncacoddgmaaGreat.En
namespace Go.Proofs.YtjenncacoddgmaaGreat
theorem exactLongestSurvivor_holds : Rows.FnExactLongestSurvivorSaid := En.over7
#print axioms exactLongestSurvivor_holds
end Go.Proofs.YtjenncacoddgmaaGreat
