/-
  No cell of these rows narrows 'for every input' (looked for: loops, veiled, ifaces, maps, wideKeys, modest, calm, conditions, laid).
  DERIVED. THE GIVEN ROWS OF THIS SEAT. 10 by the template 'for every input the law returns true; each argument reads behind the call as it read before'; 0 by the template 'total and deterministic' (their statements: YtjenncacoddgmaaGreatTotals.lean).
  GIVEN WITH THE SEED: the statements are not yours to turn. If you find one false, say at which input.
  Laid BY PROGRAM, IN A SANDBOX (cutbox-rows.mjs): the forced cells as the released guide's own fill.sh prints them over the translation e1de1dd344b178db… (all of the seat's roots in one cut). By AI agents, Wed Nov 11 2026. No macro, syntax, notation, axiom, sorry.
-/
import Derived.Test.YtjenncacoddgmaaGreatChecked
import GoSem.Claim
import GoSem.ClaimJoined
import GoSem.ClaimMapViews
import Derived.JoinedTies
import Derived.KernelRfl
namespace Go.Proofs.YtjenncacoddgmaaGreat
/- THE CELL 'sum', in the pinned program and in every row, IS THE sha256 OF THE DUMP (.gsa) THAT YtjenncacoddgmaaGreatProg.lean LOADS. Nothing in Lean hashes anything: it is a label: what it is worth is what the hold of that sum in a sandbox is worth. -/
noncomputable def Tryz.pinned : Pinned := { name := "ytjenncacoddgmaagreat", sum := "e1de1dd344b178db06399412e068359761d06d35416291fd477d769fcea94bed", checked := Tryz.checked }
namespace Rows
def none {H : Type} : Left H := { results := [], args := [] }

/-- 'laws.FnExactEpochsSkipped': WHATEVER THE INPUT: true; the input reads as it did. -/
def fnExactEpochsSkippedSpec : ChangeSpec := { name := "fnExactEpochsSkipped", fn := fun _ => fun
  | [d] => { results := [.lit (.bool true)], args := [d] }
  | _ => none }
def fnExactEpochsSkippedRow : OpenClaim := { program := "ytjenncacoddgmaagreat", sum := "e1de1dd344b178db06399412e068359761d06d35416291fd477d769fcea94bed", func := "loop.example/g01926/laws.FnExactEpochsSkipped", spec := "fnExactEpochsSkipped", unfollowed := true, recurses := true, apart := false }
def FnExactEpochsSkippedSaid : Prop := fnExactEpochsSkippedRow.holds Tryz.pinned (OpenSpec.ofChange fnExactEpochsSkippedSpec)

/-- ITS FALSE NEIGHBOUR: 'it returns false'. Refute it at one input. -/
def fnExactEpochsSkippedWrong : ChangeSpec := { name := "fnExactEpochsSkipped", fn := fun _ => fun
  | [d] => { results := [.lit (.bool false)], args := [d] }
  | _ => none }
def FnExactEpochsSkippedWrongFalsely : Prop := fnExactEpochsSkippedRow.holds Tryz.pinned (OpenSpec.ofChange fnExactEpochsSkippedWrong)

/-- 'laws.FnExactEntriesAcked': WHATEVER THE INPUT: true; the input reads as it did. -/
def fnExactEntriesAckedSpec : ChangeSpec := { name := "fnExactEntriesAcked", fn := fun _ => fun
  | [d] => { results := [.lit (.bool true)], args := [d] }
  | _ => none }
def fnExactEntriesAckedRow : OpenClaim := { program := "ytjenncacoddgmaagreat", sum := "e1de1dd344b178db06399412e068359761d06d35416291fd477d769fcea94bed", func := "loop.example/g01926/laws.FnExactEntriesAcked", spec := "fnExactEntriesAcked", unfollowed := true, recurses := true, apart := false }
def FnExactEntriesAckedSaid : Prop := fnExactEntriesAckedRow.holds Tryz.pinned (OpenSpec.ofChange fnExactEntriesAckedSpec)

/-- ITS FALSE NEIGHBOUR: 'it returns false'. Refute it at one input. -/
def fnExactEntriesAckedWrong : ChangeSpec := { name := "fnExactEntriesAcked", fn := fun _ => fun
  | [d] => { results := [.lit (.bool false)], args := [d] }
  | _ => none }
def FnExactEntriesAckedWrongFalsely : Prop := fnExactEntriesAckedRow.holds Tryz.pinned (OpenSpec.ofChange fnExactEntriesAckedWrong)

/-- 'laws.FnExactIsTotalLoss': WHATEVER THE INPUT: true; the input reads as it did. -/
def fnExactIsTotalLossSpec : ChangeSpec := { name := "fnExactIsTotalLoss", fn := fun _ => fun
  | [d] => { results := [.lit (.bool true)], args := [d] }
  | _ => none }
def fnExactIsTotalLossRow : OpenClaim := { program := "ytjenncacoddgmaagreat", sum := "e1de1dd344b178db06399412e068359761d06d35416291fd477d769fcea94bed", func := "loop.example/g01926/laws.FnExactIsTotalLoss", spec := "fnExactIsTotalLoss", unfollowed := true, recurses := true, apart := false }
def FnExactIsTotalLossSaid : Prop := fnExactIsTotalLossRow.holds Tryz.pinned (OpenSpec.ofChange fnExactIsTotalLossSpec)

/-- ITS FALSE NEIGHBOUR: 'it returns false'. Refute it at one input. -/
def fnExactIsTotalLossWrong : ChangeSpec := { name := "fnExactIsTotalLoss", fn := fun _ => fun
  | [d] => { results := [.lit (.bool false)], args := [d] }
  | _ => none }
def FnExactIsTotalLossWrongFalsely : Prop := fnExactIsTotalLossRow.holds Tryz.pinned (OpenSpec.ofChange fnExactIsTotalLossWrong)

/-- 'laws.FnExactPassedNoReturn': WHATEVER THE INPUT: true; the input reads as it did. -/
def fnExactPassedNoReturnSpec : ChangeSpec := { name := "fnExactPassedNoReturn", fn := fun _ => fun
  | [d] => { results := [.lit (.bool true)], args := [d] }
  | _ => none }
def fnExactPassedNoReturnRow : OpenClaim := { program := "ytjenncacoddgmaagreat", sum := "e1de1dd344b178db06399412e068359761d06d35416291fd477d769fcea94bed", func := "loop.example/g01926/laws.FnExactPassedNoReturn", spec := "fnExactPassedNoReturn", unfollowed := true, recurses := true, apart := false }
def FnExactPassedNoReturnSaid : Prop := fnExactPassedNoReturnRow.holds Tryz.pinned (OpenSpec.ofChange fnExactPassedNoReturnSpec)

/-- ITS FALSE NEIGHBOUR: 'it returns false'. Refute it at one input. -/
def fnExactPassedNoReturnWrong : ChangeSpec := { name := "fnExactPassedNoReturn", fn := fun _ => fun
  | [d] => { results := [.lit (.bool false)], args := [d] }
  | _ => none }
def FnExactPassedNoReturnWrongFalsely : Prop := fnExactPassedNoReturnRow.holds Tryz.pinned (OpenSpec.ofChange fnExactPassedNoReturnWrong)

/-- 'laws.FnExactLongestSurvivor': WHATEVER THE INPUT: true; the input reads as it did. -/
def fnExactLongestSurvivorSpec : ChangeSpec := { name := "fnExactLongestSurvivor", fn := fun _ => fun
  | [d] => { results := [.lit (.bool true)], args := [d] }
  | _ => none }
def fnExactLongestSurvivorRow : OpenClaim := { program := "ytjenncacoddgmaagreat", sum := "e1de1dd344b178db06399412e068359761d06d35416291fd477d769fcea94bed", func := "loop.example/g01926/laws.FnExactLongestSurvivor", spec := "fnExactLongestSurvivor", unfollowed := true, recurses := true, apart := false }
def FnExactLongestSurvivorSaid : Prop := fnExactLongestSurvivorRow.holds Tryz.pinned (OpenSpec.ofChange fnExactLongestSurvivorSpec)

/-- ITS FALSE NEIGHBOUR: 'it returns false'. Refute it at one input. -/
def fnExactLongestSurvivorWrong : ChangeSpec := { name := "fnExactLongestSurvivor", fn := fun _ => fun
  | [d] => { results := [.lit (.bool false)], args := [d] }
  | _ => none }
def FnExactLongestSurvivorWrongFalsely : Prop := fnExactLongestSurvivorRow.holds Tryz.pinned (OpenSpec.ofChange fnExactLongestSurvivorWrong)

/-- 'laws.FnExactCanRepair': WHATEVER THE INPUT: true; the input reads as it did. -/
def fnExactCanRepairSpec : ChangeSpec := { name := "fnExactCanRepair", fn := fun _ => fun
  | [d] => { results := [.lit (.bool true)], args := [d] }
  | _ => none }
def fnExactCanRepairRow : OpenClaim := { program := "ytjenncacoddgmaagreat", sum := "e1de1dd344b178db06399412e068359761d06d35416291fd477d769fcea94bed", func := "loop.example/g01926/laws.FnExactCanRepair", spec := "fnExactCanRepair", unfollowed := true, recurses := true, apart := false }
def FnExactCanRepairSaid : Prop := fnExactCanRepairRow.holds Tryz.pinned (OpenSpec.ofChange fnExactCanRepairSpec)

/-- ITS FALSE NEIGHBOUR: 'it returns false'. Refute it at one input. -/
def fnExactCanRepairWrong : ChangeSpec := { name := "fnExactCanRepair", fn := fun _ => fun
  | [d] => { results := [.lit (.bool false)], args := [d] }
  | _ => none }
def FnExactCanRepairWrongFalsely : Prop := fnExactCanRepairRow.holds Tryz.pinned (OpenSpec.ofChange fnExactCanRepairWrong)

/-- 'laws.FnExactUpgradeOrder': WHATEVER THE INPUT: true; the input reads as it did. -/
def fnExactUpgradeOrderSpec : ChangeSpec := { name := "fnExactUpgradeOrder", fn := fun _ => fun
  | [d] => { results := [.lit (.bool true)], args := [d] }
  | _ => none }
def fnExactUpgradeOrderRow : OpenClaim := { program := "ytjenncacoddgmaagreat", sum := "e1de1dd344b178db06399412e068359761d06d35416291fd477d769fcea94bed", func := "loop.example/g01926/laws.FnExactUpgradeOrder", spec := "fnExactUpgradeOrder", unfollowed := true, recurses := true, apart := false }
def FnExactUpgradeOrderSaid : Prop := fnExactUpgradeOrderRow.holds Tryz.pinned (OpenSpec.ofChange fnExactUpgradeOrderSpec)

/-- ITS FALSE NEIGHBOUR: 'it returns false'. Refute it at one input. -/
def fnExactUpgradeOrderWrong : ChangeSpec := { name := "fnExactUpgradeOrder", fn := fun _ => fun
  | [d] => { results := [.lit (.bool false)], args := [d] }
  | _ => none }
def FnExactUpgradeOrderWrongFalsely : Prop := fnExactUpgradeOrderRow.holds Tryz.pinned (OpenSpec.ofChange fnExactUpgradeOrderWrong)

/-- 'laws.FnExactFinalLog': WHATEVER THE INPUT: true; the input reads as it did. -/
def fnExactFinalLogSpec : ChangeSpec := { name := "fnExactFinalLog", fn := fun _ => fun
  | [d] => { results := [.lit (.bool true)], args := [d] }
  | _ => none }
def fnExactFinalLogRow : OpenClaim := { program := "ytjenncacoddgmaagreat", sum := "e1de1dd344b178db06399412e068359761d06d35416291fd477d769fcea94bed", func := "loop.example/g01926/laws.FnExactFinalLog", spec := "fnExactFinalLog", unfollowed := true, recurses := true, apart := false }
def FnExactFinalLogSaid : Prop := fnExactFinalLogRow.holds Tryz.pinned (OpenSpec.ofChange fnExactFinalLogSpec)

/-- ITS FALSE NEIGHBOUR: 'it returns false'. Refute it at one input. -/
def fnExactFinalLogWrong : ChangeSpec := { name := "fnExactFinalLog", fn := fun _ => fun
  | [d] => { results := [.lit (.bool false)], args := [d] }
  | _ => none }
def FnExactFinalLogWrongFalsely : Prop := fnExactFinalLogRow.holds Tryz.pinned (OpenSpec.ofChange fnExactFinalLogWrong)

/-- 'laws.FnExactUpgradeServer': WHATEVER THE INPUT: true; the input reads as it did. -/
def fnExactUpgradeServerSpec : ChangeSpec := { name := "fnExactUpgradeServer", fn := fun _ => fun
  | [d1, d2] => { results := [.lit (.bool true)], args := [d1, d2] }
  | _ => none }
def fnExactUpgradeServerRow : OpenClaim := { program := "ytjenncacoddgmaagreat", sum := "e1de1dd344b178db06399412e068359761d06d35416291fd477d769fcea94bed", func := "loop.example/g01926/laws.FnExactUpgradeServer", spec := "fnExactUpgradeServer", unfollowed := true, recurses := true, apart := false }
def FnExactUpgradeServerSaid : Prop := fnExactUpgradeServerRow.holds Tryz.pinned (OpenSpec.ofChange fnExactUpgradeServerSpec)

/-- ITS FALSE NEIGHBOUR: 'it returns false'. Refute it at one input. -/
def fnExactUpgradeServerWrong : ChangeSpec := { name := "fnExactUpgradeServer", fn := fun _ => fun
  | [d1, d2] => { results := [.lit (.bool false)], args := [d1, d2] }
  | _ => none }
def FnExactUpgradeServerWrongFalsely : Prop := fnExactUpgradeServerRow.holds Tryz.pinned (OpenSpec.ofChange fnExactUpgradeServerWrong)

/-- 'laws.FnExactDowngradeServer': WHATEVER THE INPUT: true; the input reads as it did. -/
def fnExactDowngradeServerSpec : ChangeSpec := { name := "fnExactDowngradeServer", fn := fun _ => fun
  | [d1, d2] => { results := [.lit (.bool true)], args := [d1, d2] }
  | _ => none }
def fnExactDowngradeServerRow : OpenClaim := { program := "ytjenncacoddgmaagreat", sum := "e1de1dd344b178db06399412e068359761d06d35416291fd477d769fcea94bed", func := "loop.example/g01926/laws.FnExactDowngradeServer", spec := "fnExactDowngradeServer", unfollowed := true, recurses := true, apart := false }
def FnExactDowngradeServerSaid : Prop := fnExactDowngradeServerRow.holds Tryz.pinned (OpenSpec.ofChange fnExactDowngradeServerSpec)

/-- ITS FALSE NEIGHBOUR: 'it returns false'. Refute it at one input. -/
def fnExactDowngradeServerWrong : ChangeSpec := { name := "fnExactDowngradeServer", fn := fun _ => fun
  | [d1, d2] => { results := [.lit (.bool false)], args := [d1, d2] }
  | _ => none }
def FnExactDowngradeServerWrongFalsely : Prop := fnExactDowngradeServerRow.holds Tryz.pinned (OpenSpec.ofChange fnExactDowngradeServerWrong)

/- THE SECOND FORM. 'bulk': how many values and letters a reading holds, each counted each time it is reached (what is shared counts as often as it is met; a slice's spare places count too). A statement '..UptoSaid' is the law's where the arguments, and the package variables that the reading takes, are together of bulk at most 1048576: NARROWER than '..Said'. Prove '..Said' where nothing that the law and all that it calls make is longer than what came in: it says more and counts as full. Else prove '..UptoSaid'. A law counts once. -/
mutual
def uptoBulk {H : Type} : DataW H → Nat
  | .lit (.string bytes) => bytes.length + 1
  | .lit _ => 1
  | .nil => 1
  | .ptr d => uptoBulk d + 1
  | .slice elems spare => uptoBulkAll elems + uptoBulkAll spare + 1
  | .agg parts => uptoBulkAll parts + 1
  | .iface _ d => uptoBulk d + 1
  | .map entries => uptoBulkEntries entries + 1
  | .held _ => 1
def uptoBulkAll {H : Type} : List (DataW H) → Nat
  | [] => 0
  | d :: r => uptoBulk d + uptoBulkAll r
def uptoBulkEntries {H : Type} : List (Lit × DataW H) → Nat
  | [] => 0
  | x :: r => uptoBulkEntry x + uptoBulkEntries r
def uptoBulkEntry {H : Type} : Lit × DataW H → Nat
  | (.string bytes, d) => bytes.length + uptoBulk d + 1
  | (_, d) => uptoBulk d + 1
 end
def uptoSmall : (H : Type) → List (DataW H) → Bool := fun _ ds => decide (uptoBulkAll ds ≤ 1048576)
def OpenSpec.upto (s : _root_.Go.ChangeSpec) : _root_.Go.OpenSpec := { _root_.Go.OpenSpec.ofChange s with cond := some uptoSmall }

/-- 'laws.FnExactEpochsSkipped', WHERE WHAT IT READS IS OF BULK AT MOST 1048576: true; the input reads as it did. -/
def fnExactEpochsSkippedUptoRow : OpenClaim := { program := "ytjenncacoddgmaagreat", sum := "e1de1dd344b178db06399412e068359761d06d35416291fd477d769fcea94bed", func := "loop.example/g01926/laws.FnExactEpochsSkipped", spec := "fnExactEpochsSkipped", unfollowed := true, recurses := true, apart := false, narrowed := true }
def FnExactEpochsSkippedUptoSaid : Prop := fnExactEpochsSkippedUptoRow.holds Tryz.pinned (OpenSpec.upto fnExactEpochsSkippedSpec)

/-- 'laws.FnExactEntriesAcked', WHERE WHAT IT READS IS OF BULK AT MOST 1048576: true; the input reads as it did. -/
def fnExactEntriesAckedUptoRow : OpenClaim := { program := "ytjenncacoddgmaagreat", sum := "e1de1dd344b178db06399412e068359761d06d35416291fd477d769fcea94bed", func := "loop.example/g01926/laws.FnExactEntriesAcked", spec := "fnExactEntriesAcked", unfollowed := true, recurses := true, apart := false, narrowed := true }
def FnExactEntriesAckedUptoSaid : Prop := fnExactEntriesAckedUptoRow.holds Tryz.pinned (OpenSpec.upto fnExactEntriesAckedSpec)

/-- 'laws.FnExactIsTotalLoss', WHERE WHAT IT READS IS OF BULK AT MOST 1048576: true; the input reads as it did. -/
def fnExactIsTotalLossUptoRow : OpenClaim := { program := "ytjenncacoddgmaagreat", sum := "e1de1dd344b178db06399412e068359761d06d35416291fd477d769fcea94bed", func := "loop.example/g01926/laws.FnExactIsTotalLoss", spec := "fnExactIsTotalLoss", unfollowed := true, recurses := true, apart := false, narrowed := true }
def FnExactIsTotalLossUptoSaid : Prop := fnExactIsTotalLossUptoRow.holds Tryz.pinned (OpenSpec.upto fnExactIsTotalLossSpec)

/-- 'laws.FnExactPassedNoReturn', WHERE WHAT IT READS IS OF BULK AT MOST 1048576: true; the input reads as it did. -/
def fnExactPassedNoReturnUptoRow : OpenClaim := { program := "ytjenncacoddgmaagreat", sum := "e1de1dd344b178db06399412e068359761d06d35416291fd477d769fcea94bed", func := "loop.example/g01926/laws.FnExactPassedNoReturn", spec := "fnExactPassedNoReturn", unfollowed := true, recurses := true, apart := false, narrowed := true }
def FnExactPassedNoReturnUptoSaid : Prop := fnExactPassedNoReturnUptoRow.holds Tryz.pinned (OpenSpec.upto fnExactPassedNoReturnSpec)

/-- 'laws.FnExactLongestSurvivor', WHERE WHAT IT READS IS OF BULK AT MOST 1048576: true; the input reads as it did. -/
def fnExactLongestSurvivorUptoRow : OpenClaim := { program := "ytjenncacoddgmaagreat", sum := "e1de1dd344b178db06399412e068359761d06d35416291fd477d769fcea94bed", func := "loop.example/g01926/laws.FnExactLongestSurvivor", spec := "fnExactLongestSurvivor", unfollowed := true, recurses := true, apart := false, narrowed := true }
def FnExactLongestSurvivorUptoSaid : Prop := fnExactLongestSurvivorUptoRow.holds Tryz.pinned (OpenSpec.upto fnExactLongestSurvivorSpec)

/-- 'laws.FnExactCanRepair', WHERE WHAT IT READS IS OF BULK AT MOST 1048576: true; the input reads as it did. -/
def fnExactCanRepairUptoRow : OpenClaim := { program := "ytjenncacoddgmaagreat", sum := "e1de1dd344b178db06399412e068359761d06d35416291fd477d769fcea94bed", func := "loop.example/g01926/laws.FnExactCanRepair", spec := "fnExactCanRepair", unfollowed := true, recurses := true, apart := false, narrowed := true }
def FnExactCanRepairUptoSaid : Prop := fnExactCanRepairUptoRow.holds Tryz.pinned (OpenSpec.upto fnExactCanRepairSpec)

/-- 'laws.FnExactUpgradeOrder', WHERE WHAT IT READS IS OF BULK AT MOST 1048576: true; the input reads as it did. -/
def fnExactUpgradeOrderUptoRow : OpenClaim := { program := "ytjenncacoddgmaagreat", sum := "e1de1dd344b178db06399412e068359761d06d35416291fd477d769fcea94bed", func := "loop.example/g01926/laws.FnExactUpgradeOrder", spec := "fnExactUpgradeOrder", unfollowed := true, recurses := true, apart := false, narrowed := true }
def FnExactUpgradeOrderUptoSaid : Prop := fnExactUpgradeOrderUptoRow.holds Tryz.pinned (OpenSpec.upto fnExactUpgradeOrderSpec)

/-- 'laws.FnExactFinalLog', WHERE WHAT IT READS IS OF BULK AT MOST 1048576: true; the input reads as it did. -/
def fnExactFinalLogUptoRow : OpenClaim := { program := "ytjenncacoddgmaagreat", sum := "e1de1dd344b178db06399412e068359761d06d35416291fd477d769fcea94bed", func := "loop.example/g01926/laws.FnExactFinalLog", spec := "fnExactFinalLog", unfollowed := true, recurses := true, apart := false, narrowed := true }
def FnExactFinalLogUptoSaid : Prop := fnExactFinalLogUptoRow.holds Tryz.pinned (OpenSpec.upto fnExactFinalLogSpec)

/-- 'laws.FnExactUpgradeServer', WHERE WHAT IT READS IS OF BULK AT MOST 1048576: true; the input reads as it did. -/
def fnExactUpgradeServerUptoRow : OpenClaim := { program := "ytjenncacoddgmaagreat", sum := "e1de1dd344b178db06399412e068359761d06d35416291fd477d769fcea94bed", func := "loop.example/g01926/laws.FnExactUpgradeServer", spec := "fnExactUpgradeServer", unfollowed := true, recurses := true, apart := false, narrowed := true }
def FnExactUpgradeServerUptoSaid : Prop := fnExactUpgradeServerUptoRow.holds Tryz.pinned (OpenSpec.upto fnExactUpgradeServerSpec)

/-- 'laws.FnExactDowngradeServer', WHERE WHAT IT READS IS OF BULK AT MOST 1048576: true; the input reads as it did. -/
def fnExactDowngradeServerUptoRow : OpenClaim := { program := "ytjenncacoddgmaagreat", sum := "e1de1dd344b178db06399412e068359761d06d35416291fd477d769fcea94bed", func := "loop.example/g01926/laws.FnExactDowngradeServer", spec := "fnExactDowngradeServer", unfollowed := true, recurses := true, apart := false, narrowed := true }
def FnExactDowngradeServerUptoSaid : Prop := fnExactDowngradeServerUptoRow.holds Tryz.pinned (OpenSpec.upto fnExactDowngradeServerSpec)

end Rows
end Go.Proofs.YtjenncacoddgmaaGreat
