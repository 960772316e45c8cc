/- EpochsSkipped: the plain law. -/
import Derived.Test.YtjenncacoddgmaaGreatPV5
namespace Go.Proofs.YtjenncacoddgmaaGreat.En
open Go

/-- A law over a cluster alone: the two functions tell the same, and its arguments stay as they are. -/
theorem epochs_law (x : Cluster) (h : okCl maxLen x) : fwFnExactEpochsSkipped x = some (true, ()) := by
  unfold fwFnExactEpochsSkipped fwFnExactEpochsSkippedC
  obtain ⟨n, g1, g2, g3⟩ := szCluster x 1048576 h (by decide) (Int.le_refl _)
  simp only [g1, Option.bind_some, br_dec]
  split
  · rfl
  · rename_i hn
    have ok := g3 (by omega)
    obtain ⟨b, v1, v2⟩ := validCluster x ok
    unfold fsEpochsSkipped fsEpochsSkippedC fiEpochsSkipped fiEpochsSkippedC
    simp only [toCluster x ok, v1, v2, Option.bind_some, eqCluster_self x ok, Bool.not_true, br_false]
    cases b with
    | false => rfl
    | true => simp only [Bool.not_true, br_false, Option.bind_some, beq_self_eq_true]
end Go.Proofs.YtjenncacoddgmaaGreat.En
