/-
  No cell of these rows narrows 'for every input' (looked for: loops, veiled, ifaces, maps, wideKeys, modest, calm, conditions, laid).
  DERIVED. THE GIVEN ROWS OF THIS SEAT. 9 by the template 'for every input the law returns true; each argument reads behind the call as it read before'; 0 by the template 'total and deterministic' (their statements: YtkcgfceffffmoaaGreatTotals.lean).
  GIVEN WITH THE SEED: the statements are not yours to turn. If you find one false, say at which input.
  Laid BY PROGRAM, IN A SANDBOX (cutbox-rows.mjs): the forced cells as the released guide's own fill.sh prints them over the translation 209c4ff669a412cf… (all of the seat's roots in one cut). By AI agents, Wed Nov 11 2026. No macro, syntax, notation, axiom, sorry.
-/
import Derived.Test.YtkcgfceffffmoaaGreatChecked
import GoSem.Claim
import GoSem.ClaimJoined
import GoSem.ClaimMapViews
import Derived.JoinedTies
import Derived.KernelRfl
namespace Go.Proofs.YtkcgfceffffmoaaGreat
/- THE CELL 'sum', in the pinned program and in every row, IS THE sha256 OF THE DUMP (.gsa) THAT YtkcgfceffffmoaaGreatProg.lean LOADS. Nothing in Lean hashes anything: it is a label: what it is worth is what the hold of that sum in a sandbox is worth. -/
noncomputable def Tryz.pinned : Pinned := { name := "ytkcgfceffffmoaagreat", sum := "209c4ff669a412cf5f1db1078f028374e3aef3f6be512c6f02fdf314939f884c", checked := Tryz.checked }
namespace Rows
def none {H : Type} : Left H := { results := [], args := [] }

/-- 'laws.FnExactCanRepair': WHATEVER THE INPUT: true; the input reads as it did. -/
def fnExactCanRepairSpec : ChangeSpec := { name := "fnExactCanRepair", fn := fun _ => fun
  | [d] => { results := [.lit (.bool true)], args := [d] }
  | _ => none }
def fnExactCanRepairRow : OpenClaim := { program := "ytkcgfceffffmoaagreat", sum := "209c4ff669a412cf5f1db1078f028374e3aef3f6be512c6f02fdf314939f884c", func := "loop.example/g01926/laws.FnExactCanRepair", spec := "fnExactCanRepair", unfollowed := true, recurses := true, apart := false }
def FnExactCanRepairSaid : Prop := fnExactCanRepairRow.holds Tryz.pinned (OpenSpec.ofChange fnExactCanRepairSpec)

/-- ITS FALSE NEIGHBOUR: 'it returns false'. Refute it at one input. -/
def fnExactCanRepairWrong : ChangeSpec := { name := "fnExactCanRepair", fn := fun _ => fun
  | [d] => { results := [.lit (.bool false)], args := [d] }
  | _ => none }
def FnExactCanRepairWrongFalsely : Prop := fnExactCanRepairRow.holds Tryz.pinned (OpenSpec.ofChange fnExactCanRepairWrong)

/-- 'laws.FnExactUpgradeOrder': WHATEVER THE INPUT: true; the input reads as it did. -/
def fnExactUpgradeOrderSpec : ChangeSpec := { name := "fnExactUpgradeOrder", fn := fun _ => fun
  | [d] => { results := [.lit (.bool true)], args := [d] }
  | _ => none }
def fnExactUpgradeOrderRow : OpenClaim := { program := "ytkcgfceffffmoaagreat", sum := "209c4ff669a412cf5f1db1078f028374e3aef3f6be512c6f02fdf314939f884c", func := "loop.example/g01926/laws.FnExactUpgradeOrder", spec := "fnExactUpgradeOrder", unfollowed := true, recurses := true, apart := false }
def FnExactUpgradeOrderSaid : Prop := fnExactUpgradeOrderRow.holds Tryz.pinned (OpenSpec.ofChange fnExactUpgradeOrderSpec)

/-- ITS FALSE NEIGHBOUR: 'it returns false'. Refute it at one input. -/
def fnExactUpgradeOrderWrong : ChangeSpec := { name := "fnExactUpgradeOrder", fn := fun _ => fun
  | [d] => { results := [.lit (.bool false)], args := [d] }
  | _ => none }
def FnExactUpgradeOrderWrongFalsely : Prop := fnExactUpgradeOrderRow.holds Tryz.pinned (OpenSpec.ofChange fnExactUpgradeOrderWrong)

/-- 'laws.FnExactFinalLog': WHATEVER THE INPUT: true; the input reads as it did. -/
def fnExactFinalLogSpec : ChangeSpec := { name := "fnExactFinalLog", fn := fun _ => fun
  | [d] => { results := [.lit (.bool true)], args := [d] }
  | _ => none }
def fnExactFinalLogRow : OpenClaim := { program := "ytkcgfceffffmoaagreat", sum := "209c4ff669a412cf5f1db1078f028374e3aef3f6be512c6f02fdf314939f884c", func := "loop.example/g01926/laws.FnExactFinalLog", spec := "fnExactFinalLog", unfollowed := true, recurses := true, apart := false }
def FnExactFinalLogSaid : Prop := fnExactFinalLogRow.holds Tryz.pinned (OpenSpec.ofChange fnExactFinalLogSpec)

/-- ITS FALSE NEIGHBOUR: 'it returns false'. Refute it at one input. -/
def fnExactFinalLogWrong : ChangeSpec := { name := "fnExactFinalLog", fn := fun _ => fun
  | [d] => { results := [.lit (.bool false)], args := [d] }
  | _ => none }
def FnExactFinalLogWrongFalsely : Prop := fnExactFinalLogRow.holds Tryz.pinned (OpenSpec.ofChange fnExactFinalLogWrong)

/-- 'laws.FnExactUpgradeServer': WHATEVER THE INPUT: true; the input reads as it did. -/
def fnExactUpgradeServerSpec : ChangeSpec := { name := "fnExactUpgradeServer", fn := fun _ => fun
  | [d1, d2] => { results := [.lit (.bool true)], args := [d1, d2] }
  | _ => none }
def fnExactUpgradeServerRow : OpenClaim := { program := "ytkcgfceffffmoaagreat", sum := "209c4ff669a412cf5f1db1078f028374e3aef3f6be512c6f02fdf314939f884c", func := "loop.example/g01926/laws.FnExactUpgradeServer", spec := "fnExactUpgradeServer", unfollowed := true, recurses := true, apart := false }
def FnExactUpgradeServerSaid : Prop := fnExactUpgradeServerRow.holds Tryz.pinned (OpenSpec.ofChange fnExactUpgradeServerSpec)

/-- ITS FALSE NEIGHBOUR: 'it returns false'. Refute it at one input. -/
def fnExactUpgradeServerWrong : ChangeSpec := { name := "fnExactUpgradeServer", fn := fun _ => fun
  | [d1, d2] => { results := [.lit (.bool false)], args := [d1, d2] }
  | _ => none }
def FnExactUpgradeServerWrongFalsely : Prop := fnExactUpgradeServerRow.holds Tryz.pinned (OpenSpec.ofChange fnExactUpgradeServerWrong)

/-- 'laws.FnExactDowngradeServer': WHATEVER THE INPUT: true; the input reads as it did. -/
def fnExactDowngradeServerSpec : ChangeSpec := { name := "fnExactDowngradeServer", fn := fun _ => fun
  | [d1, d2] => { results := [.lit (.bool true)], args := [d1, d2] }
  | _ => none }
def fnExactDowngradeServerRow : OpenClaim := { program := "ytkcgfceffffmoaagreat", sum := "209c4ff669a412cf5f1db1078f028374e3aef3f6be512c6f02fdf314939f884c", func := "loop.example/g01926/laws.FnExactDowngradeServer", spec := "fnExactDowngradeServer", unfollowed := true, recurses := true, apart := false }
def FnExactDowngradeServerSaid : Prop := fnExactDowngradeServerRow.holds Tryz.pinned (OpenSpec.ofChange fnExactDowngradeServerSpec)

/-- ITS FALSE NEIGHBOUR: 'it returns false'. Refute it at one input. -/
def fnExactDowngradeServerWrong : ChangeSpec := { name := "fnExactDowngradeServer", fn := fun _ => fun
  | [d1, d2] => { results := [.lit (.bool false)], args := [d1, d2] }
  | _ => none }
def FnExactDowngradeServerWrongFalsely : Prop := fnExactDowngradeServerRow.holds Tryz.pinned (OpenSpec.ofChange fnExactDowngradeServerWrong)

/-- 'laws.FnExactForceActivate': WHATEVER THE INPUT: true; the input reads as it did. -/
def fnExactForceActivateSpec : ChangeSpec := { name := "fnExactForceActivate", fn := fun _ => fun
  | [d] => { results := [.lit (.bool true)], args := [d] }
  | _ => none }
def fnExactForceActivateRow : OpenClaim := { program := "ytkcgfceffffmoaagreat", sum := "209c4ff669a412cf5f1db1078f028374e3aef3f6be512c6f02fdf314939f884c", func := "loop.example/g01926/laws.FnExactForceActivate", spec := "fnExactForceActivate", unfollowed := true, recurses := true, apart := false }
def FnExactForceActivateSaid : Prop := fnExactForceActivateRow.holds Tryz.pinned (OpenSpec.ofChange fnExactForceActivateSpec)

/-- ITS FALSE NEIGHBOUR: 'it returns false'. Refute it at one input. -/
def fnExactForceActivateWrong : ChangeSpec := { name := "fnExactForceActivate", fn := fun _ => fun
  | [d] => { results := [.lit (.bool false)], args := [d] }
  | _ => none }
def FnExactForceActivateWrongFalsely : Prop := fnExactForceActivateRow.holds Tryz.pinned (OpenSpec.ofChange fnExactForceActivateWrong)

/-- 'laws.FnExactRoundsUntilServing': WHATEVER THE INPUT: true; the input reads as it did. -/
def fnExactRoundsUntilServingSpec : ChangeSpec := { name := "fnExactRoundsUntilServing", fn := fun _ => fun
  | [d1, d2] => { results := [.lit (.bool true)], args := [d1, d2] }
  | _ => none }
def fnExactRoundsUntilServingRow : OpenClaim := { program := "ytkcgfceffffmoaagreat", sum := "209c4ff669a412cf5f1db1078f028374e3aef3f6be512c6f02fdf314939f884c", func := "loop.example/g01926/laws.FnExactRoundsUntilServing", spec := "fnExactRoundsUntilServing", unfollowed := true, recurses := true, apart := false }
def FnExactRoundsUntilServingSaid : Prop := fnExactRoundsUntilServingRow.holds Tryz.pinned (OpenSpec.ofChange fnExactRoundsUntilServingSpec)

/-- ITS FALSE NEIGHBOUR: 'it returns false'. Refute it at one input. -/
def fnExactRoundsUntilServingWrong : ChangeSpec := { name := "fnExactRoundsUntilServing", fn := fun _ => fun
  | [d1, d2] => { results := [.lit (.bool false)], args := [d1, d2] }
  | _ => none }
def FnExactRoundsUntilServingWrongFalsely : Prop := fnExactRoundsUntilServingRow.holds Tryz.pinned (OpenSpec.ofChange fnExactRoundsUntilServingWrong)

/-- 'laws.FnExactRepairAll': WHATEVER THE INPUT: true; the input reads as it did. -/
def fnExactRepairAllSpec : ChangeSpec := { name := "fnExactRepairAll", fn := fun _ => fun
  | [d1, d2] => { results := [.lit (.bool true)], args := [d1, d2] }
  | _ => none }
def fnExactRepairAllRow : OpenClaim := { program := "ytkcgfceffffmoaagreat", sum := "209c4ff669a412cf5f1db1078f028374e3aef3f6be512c6f02fdf314939f884c", func := "loop.example/g01926/laws.FnExactRepairAll", spec := "fnExactRepairAll", unfollowed := true, recurses := true, apart := false }
def FnExactRepairAllSaid : Prop := fnExactRepairAllRow.holds Tryz.pinned (OpenSpec.ofChange fnExactRepairAllSpec)

/-- ITS FALSE NEIGHBOUR: 'it returns false'. Refute it at one input. -/
def fnExactRepairAllWrong : ChangeSpec := { name := "fnExactRepairAll", fn := fun _ => fun
  | [d1, d2] => { results := [.lit (.bool false)], args := [d1, d2] }
  | _ => none }
def FnExactRepairAllWrongFalsely : Prop := fnExactRepairAllRow.holds Tryz.pinned (OpenSpec.ofChange fnExactRepairAllWrong)

/-- 'laws.FnExactServesAfterRepair': WHATEVER THE INPUT: true; the input reads as it did. -/
def fnExactServesAfterRepairSpec : ChangeSpec := { name := "fnExactServesAfterRepair", fn := fun _ => fun
  | [d1, d2, d3] => { results := [.lit (.bool true)], args := [d1, d2, d3] }
  | _ => none }
def fnExactServesAfterRepairRow : OpenClaim := { program := "ytkcgfceffffmoaagreat", sum := "209c4ff669a412cf5f1db1078f028374e3aef3f6be512c6f02fdf314939f884c", func := "loop.example/g01926/laws.FnExactServesAfterRepair", spec := "fnExactServesAfterRepair", inPlace := ["slices.overlaps[loop.example/g01926/impl.Session]"], unfollowed := true, recurses := true, apart := false }
def FnExactServesAfterRepairSaid : Prop := fnExactServesAfterRepairRow.holds Tryz.pinned (OpenSpec.ofChange fnExactServesAfterRepairSpec)

/-- ITS FALSE NEIGHBOUR: 'it returns false'. Refute it at one input. -/
def fnExactServesAfterRepairWrong : ChangeSpec := { name := "fnExactServesAfterRepair", fn := fun _ => fun
  | [d1, d2, d3] => { results := [.lit (.bool false)], args := [d1, d2, d3] }
  | _ => none }
def FnExactServesAfterRepairWrongFalsely : Prop := fnExactServesAfterRepairRow.holds Tryz.pinned (OpenSpec.ofChange fnExactServesAfterRepairWrong)

/- THE SECOND FORM. 'bulk': how many values and letters a reading holds, each counted each time it is reached (what is shared counts as often as it is met; a slice's spare places count too). A statement '..UptoSaid' is the law's where the arguments, and the package variables that the reading takes, are together of bulk at most 1048576: NARROWER than '..Said'. Prove '..Said' where nothing that the law and all that it calls make is longer than what came in: it says more and counts as full. Else prove '..UptoSaid'. A law counts once. -/
mutual
def uptoBulk {H : Type} : DataW H → Nat
  | .lit (.string bytes) => bytes.length + 1
  | .lit _ => 1
  | .nil => 1
  | .ptr d => uptoBulk d + 1
  | .slice elems spare => uptoBulkAll elems + uptoBulkAll spare + 1
  | .agg parts => uptoBulkAll parts + 1
  | .iface _ d => uptoBulk d + 1
  | .map entries => uptoBulkEntries entries + 1
  | .held _ => 1
def uptoBulkAll {H : Type} : List (DataW H) → Nat
  | [] => 0
  | d :: r => uptoBulk d + uptoBulkAll r
def uptoBulkEntries {H : Type} : List (Lit × DataW H) → Nat
  | [] => 0
  | x :: r => uptoBulkEntry x + uptoBulkEntries r
def uptoBulkEntry {H : Type} : Lit × DataW H → Nat
  | (.string bytes, d) => bytes.length + uptoBulk d + 1
  | (_, d) => uptoBulk d + 1
 end
def uptoSmall : (H : Type) → List (DataW H) → Bool := fun _ ds => decide (uptoBulkAll ds ≤ 1048576)
def OpenSpec.upto (s : _root_.Go.ChangeSpec) : _root_.Go.OpenSpec := { _root_.Go.OpenSpec.ofChange s with cond := some uptoSmall }

/-- 'laws.FnExactCanRepair', WHERE WHAT IT READS IS OF BULK AT MOST 1048576: true; the input reads as it did. -/
def fnExactCanRepairUptoRow : OpenClaim := { program := "ytkcgfceffffmoaagreat", sum := "209c4ff669a412cf5f1db1078f028374e3aef3f6be512c6f02fdf314939f884c", func := "loop.example/g01926/laws.FnExactCanRepair", spec := "fnExactCanRepair", unfollowed := true, recurses := true, apart := false, narrowed := true }
def FnExactCanRepairUptoSaid : Prop := fnExactCanRepairUptoRow.holds Tryz.pinned (OpenSpec.upto fnExactCanRepairSpec)

/-- 'laws.FnExactUpgradeOrder', WHERE WHAT IT READS IS OF BULK AT MOST 1048576: true; the input reads as it did. -/
def fnExactUpgradeOrderUptoRow : OpenClaim := { program := "ytkcgfceffffmoaagreat", sum := "209c4ff669a412cf5f1db1078f028374e3aef3f6be512c6f02fdf314939f884c", func := "loop.example/g01926/laws.FnExactUpgradeOrder", spec := "fnExactUpgradeOrder", unfollowed := true, recurses := true, apart := false, narrowed := true }
def FnExactUpgradeOrderUptoSaid : Prop := fnExactUpgradeOrderUptoRow.holds Tryz.pinned (OpenSpec.upto fnExactUpgradeOrderSpec)

/-- 'laws.FnExactFinalLog', WHERE WHAT IT READS IS OF BULK AT MOST 1048576: true; the input reads as it did. -/
def fnExactFinalLogUptoRow : OpenClaim := { program := "ytkcgfceffffmoaagreat", sum := "209c4ff669a412cf5f1db1078f028374e3aef3f6be512c6f02fdf314939f884c", func := "loop.example/g01926/laws.FnExactFinalLog", spec := "fnExactFinalLog", unfollowed := true, recurses := true, apart := false, narrowed := true }
def FnExactFinalLogUptoSaid : Prop := fnExactFinalLogUptoRow.holds Tryz.pinned (OpenSpec.upto fnExactFinalLogSpec)

/-- 'laws.FnExactUpgradeServer', WHERE WHAT IT READS IS OF BULK AT MOST 1048576: true; the input reads as it did. -/
def fnExactUpgradeServerUptoRow : OpenClaim := { program := "ytkcgfceffffmoaagreat", sum := "209c4ff669a412cf5f1db1078f028374e3aef3f6be512c6f02fdf314939f884c", func := "loop.example/g01926/laws.FnExactUpgradeServer", spec := "fnExactUpgradeServer", unfollowed := true, recurses := true, apart := false, narrowed := true }
def FnExactUpgradeServerUptoSaid : Prop := fnExactUpgradeServerUptoRow.holds Tryz.pinned (OpenSpec.upto fnExactUpgradeServerSpec)

/-- 'laws.FnExactDowngradeServer', WHERE WHAT IT READS IS OF BULK AT MOST 1048576: true; the input reads as it did. -/
def fnExactDowngradeServerUptoRow : OpenClaim := { program := "ytkcgfceffffmoaagreat", sum := "209c4ff669a412cf5f1db1078f028374e3aef3f6be512c6f02fdf314939f884c", func := "loop.example/g01926/laws.FnExactDowngradeServer", spec := "fnExactDowngradeServer", unfollowed := true, recurses := true, apart := false, narrowed := true }
def FnExactDowngradeServerUptoSaid : Prop := fnExactDowngradeServerUptoRow.holds Tryz.pinned (OpenSpec.upto fnExactDowngradeServerSpec)

/-- 'laws.FnExactForceActivate', WHERE WHAT IT READS IS OF BULK AT MOST 1048576: true; the input reads as it did. -/
def fnExactForceActivateUptoRow : OpenClaim := { program := "ytkcgfceffffmoaagreat", sum := "209c4ff669a412cf5f1db1078f028374e3aef3f6be512c6f02fdf314939f884c", func := "loop.example/g01926/laws.FnExactForceActivate", spec := "fnExactForceActivate", unfollowed := true, recurses := true, apart := false, narrowed := true }
def FnExactForceActivateUptoSaid : Prop := fnExactForceActivateUptoRow.holds Tryz.pinned (OpenSpec.upto fnExactForceActivateSpec)

/-- 'laws.FnExactRoundsUntilServing', WHERE WHAT IT READS IS OF BULK AT MOST 1048576: true; the input reads as it did. -/
def fnExactRoundsUntilServingUptoRow : OpenClaim := { program := "ytkcgfceffffmoaagreat", sum := "209c4ff669a412cf5f1db1078f028374e3aef3f6be512c6f02fdf314939f884c", func := "loop.example/g01926/laws.FnExactRoundsUntilServing", spec := "fnExactRoundsUntilServing", unfollowed := true, recurses := true, apart := false, narrowed := true }
def FnExactRoundsUntilServingUptoSaid : Prop := fnExactRoundsUntilServingUptoRow.holds Tryz.pinned (OpenSpec.upto fnExactRoundsUntilServingSpec)

/-- 'laws.FnExactRepairAll', WHERE WHAT IT READS IS OF BULK AT MOST 1048576: true; the input reads as it did. -/
def fnExactRepairAllUptoRow : OpenClaim := { program := "ytkcgfceffffmoaagreat", sum := "209c4ff669a412cf5f1db1078f028374e3aef3f6be512c6f02fdf314939f884c", func := "loop.example/g01926/laws.FnExactRepairAll", spec := "fnExactRepairAll", unfollowed := true, recurses := true, apart := false, narrowed := true }
def FnExactRepairAllUptoSaid : Prop := fnExactRepairAllUptoRow.holds Tryz.pinned (OpenSpec.upto fnExactRepairAllSpec)

/-- 'laws.FnExactServesAfterRepair', WHERE WHAT IT READS IS OF BULK AT MOST 1048576: true; the input reads as it did. -/
def fnExactServesAfterRepairUptoRow : OpenClaim := { program := "ytkcgfceffffmoaagreat", sum := "209c4ff669a412cf5f1db1078f028374e3aef3f6be512c6f02fdf314939f884c", func := "loop.example/g01926/laws.FnExactServesAfterRepair", spec := "fnExactServesAfterRepair", inPlace := ["slices.overlaps[loop.example/g01926/impl.Session]"], unfollowed := true, recurses := true, apart := false, narrowed := true }
def FnExactServesAfterRepairUptoSaid : Prop := fnExactServesAfterRepairUptoRow.holds Tryz.pinned (OpenSpec.upto fnExactServesAfterRepairSpec)

end Rows
end Go.Proofs.YtkcgfceffffmoaaGreat
