/-
  No cell of these rows narrows 'for every input' (looked for: loops, veiled, ifaces, maps, wideKeys, modest, calm, conditions, laid).
  DERIVED. THE GIVEN ROWS OF THIS SEAT. 4 by the template 'for every input the law returns true; each argument reads behind the call as it read before'; 0 by the template 'total and deterministic' (their statements: YtkghndikalnipaaGreatTotals.lean).
  GIVEN WITH THE SEED: the statements are not yours to turn. If you find one false, say at which input.
  Laid BY PROGRAM, IN A SANDBOX (cutbox-rows.mjs): the forced cells as the released guide's own fill.sh prints them over the translation 64da703462c78e44… (all of the seat's roots in one cut). By AI agents, Wed Nov 11 2026. No macro, syntax, notation, axiom, sorry.
-/
import Derived.Test.YtkghndikalnipaaGreatChecked
import GoSem.Claim
import GoSem.ClaimJoined
import GoSem.ClaimMapViews
import Derived.JoinedTies
import Derived.KernelRfl
namespace Go.Proofs.YtkghndikalnipaaGreat
/- THE CELL 'sum', in the pinned program and in every row, IS THE sha256 OF THE DUMP (.gsa) THAT YtkghndikalnipaaGreatProg.lean LOADS. Nothing in Lean hashes anything: it is a label: what it is worth is what the hold of that sum in a sandbox is worth. -/
noncomputable def Tryz.pinned : Pinned := { name := "ytkghndikalnipaagreat", sum := "64da703462c78e44bb76de9c44f0f82d22fbc647851d1c4a99acdb55072f5f65", checked := Tryz.checked }
namespace Rows
def none {H : Type} : Left H := { results := [], args := [] }

/-- 'laws.FnRepairs': WHATEVER THE INPUT: true; the input reads as it did. -/
def fnRepairsSpec : ChangeSpec := { name := "fnRepairs", fn := fun _ => fun
  | [d] => { results := [.lit (.bool true)], args := [d] }
  | _ => none }
def fnRepairsRow : OpenClaim := { program := "ytkghndikalnipaagreat", sum := "64da703462c78e44bb76de9c44f0f82d22fbc647851d1c4a99acdb55072f5f65", func := "loop.example/g01926/laws.FnRepairs", spec := "fnRepairs", unfollowed := true, recurses := true, apart := false }
def FnRepairsSaid : Prop := fnRepairsRow.holds Tryz.pinned (OpenSpec.ofChange fnRepairsSpec)

/-- ITS FALSE NEIGHBOUR: 'it returns false'. Refute it at one input. -/
def fnRepairsWrong : ChangeSpec := { name := "fnRepairs", fn := fun _ => fun
  | [d] => { results := [.lit (.bool false)], args := [d] }
  | _ => none }
def FnRepairsWrongFalsely : Prop := fnRepairsRow.holds Tryz.pinned (OpenSpec.ofChange fnRepairsWrong)

/-- 'laws.FnSwitches': WHATEVER THE INPUT: true; the input reads as it did. -/
def fnSwitchesSpec : ChangeSpec := { name := "fnSwitches", fn := fun _ => fun
  | [d] => { results := [.lit (.bool true)], args := [d] }
  | _ => none }
def fnSwitchesRow : OpenClaim := { program := "ytkghndikalnipaagreat", sum := "64da703462c78e44bb76de9c44f0f82d22fbc647851d1c4a99acdb55072f5f65", func := "loop.example/g01926/laws.FnSwitches", spec := "fnSwitches", unfollowed := true, recurses := true, apart := false }
def FnSwitchesSaid : Prop := fnSwitchesRow.holds Tryz.pinned (OpenSpec.ofChange fnSwitchesSpec)

/-- ITS FALSE NEIGHBOUR: 'it returns false'. Refute it at one input. -/
def fnSwitchesWrong : ChangeSpec := { name := "fnSwitches", fn := fun _ => fun
  | [d] => { results := [.lit (.bool false)], args := [d] }
  | _ => none }
def FnSwitchesWrongFalsely : Prop := fnSwitchesRow.holds Tryz.pinned (OpenSpec.ofChange fnSwitchesWrong)

/-- 'laws.FnActivation': WHATEVER THE INPUT: true; the input reads as it did. -/
def fnActivationSpec : ChangeSpec := { name := "fnActivation", fn := fun _ => fun
  | [d] => { results := [.lit (.bool true)], args := [d] }
  | _ => none }
def fnActivationRow : OpenClaim := { program := "ytkghndikalnipaagreat", sum := "64da703462c78e44bb76de9c44f0f82d22fbc647851d1c4a99acdb55072f5f65", func := "loop.example/g01926/laws.FnActivation", spec := "fnActivation", unfollowed := true, recurses := true, apart := false }
def FnActivationSaid : Prop := fnActivationRow.holds Tryz.pinned (OpenSpec.ofChange fnActivationSpec)

/-- ITS FALSE NEIGHBOUR: 'it returns false'. Refute it at one input. -/
def fnActivationWrong : ChangeSpec := { name := "fnActivation", fn := fun _ => fun
  | [d] => { results := [.lit (.bool false)], args := [d] }
  | _ => none }
def FnActivationWrongFalsely : Prop := fnActivationRow.holds Tryz.pinned (OpenSpec.ofChange fnActivationWrong)

/-- 'laws.FnAppends': WHATEVER THE INPUT: true; the input reads as it did. -/
def fnAppendsSpec : ChangeSpec := { name := "fnAppends", fn := fun _ => fun
  | [d] => { results := [.lit (.bool true)], args := [d] }
  | _ => none }
def fnAppendsRow : OpenClaim := { program := "ytkghndikalnipaagreat", sum := "64da703462c78e44bb76de9c44f0f82d22fbc647851d1c4a99acdb55072f5f65", func := "loop.example/g01926/laws.FnAppends", spec := "fnAppends", inPlace := ["slices.overlaps[loop.example/g01926/impl.Session]"], unfollowed := true, recurses := true, apart := false }
def FnAppendsSaid : Prop := fnAppendsRow.holds Tryz.pinned (OpenSpec.ofChange fnAppendsSpec)

/-- ITS FALSE NEIGHBOUR: 'it returns false'. Refute it at one input. -/
def fnAppendsWrong : ChangeSpec := { name := "fnAppends", fn := fun _ => fun
  | [d] => { results := [.lit (.bool false)], args := [d] }
  | _ => none }
def FnAppendsWrongFalsely : Prop := fnAppendsRow.holds Tryz.pinned (OpenSpec.ofChange fnAppendsWrong)

/- THE SECOND FORM. 'bulk': how many values and letters a reading holds, each counted each time it is reached (what is shared counts as often as it is met; a slice's spare places count too). A statement '..UptoSaid' is the law's where the arguments, and the package variables that the reading takes, are together of bulk at most 1048576: NARROWER than '..Said'. Prove '..Said' where nothing that the law and all that it calls make is longer than what came in: it says more and counts as full. Else prove '..UptoSaid'. A law counts once. -/
mutual
def uptoBulk {H : Type} : DataW H → Nat
  | .lit (.string bytes) => bytes.length + 1
  | .lit _ => 1
  | .nil => 1
  | .ptr d => uptoBulk d + 1
  | .slice elems spare => uptoBulkAll elems + uptoBulkAll spare + 1
  | .agg parts => uptoBulkAll parts + 1
  | .iface _ d => uptoBulk d + 1
  | .map entries => uptoBulkEntries entries + 1
  | .held _ => 1
def uptoBulkAll {H : Type} : List (DataW H) → Nat
  | [] => 0
  | d :: r => uptoBulk d + uptoBulkAll r
def uptoBulkEntries {H : Type} : List (Lit × DataW H) → Nat
  | [] => 0
  | x :: r => uptoBulkEntry x + uptoBulkEntries r
def uptoBulkEntry {H : Type} : Lit × DataW H → Nat
  | (.string bytes, d) => bytes.length + uptoBulk d + 1
  | (_, d) => uptoBulk d + 1
 end
def uptoSmall : (H : Type) → List (DataW H) → Bool := fun _ ds => decide (uptoBulkAll ds ≤ 1048576)
def OpenSpec.upto (s : _root_.Go.ChangeSpec) : _root_.Go.OpenSpec := { _root_.Go.OpenSpec.ofChange s with cond := some uptoSmall }

/-- 'laws.FnRepairs', WHERE WHAT IT READS IS OF BULK AT MOST 1048576: true; the input reads as it did. -/
def fnRepairsUptoRow : OpenClaim := { program := "ytkghndikalnipaagreat", sum := "64da703462c78e44bb76de9c44f0f82d22fbc647851d1c4a99acdb55072f5f65", func := "loop.example/g01926/laws.FnRepairs", spec := "fnRepairs", unfollowed := true, recurses := true, apart := false, narrowed := true }
def FnRepairsUptoSaid : Prop := fnRepairsUptoRow.holds Tryz.pinned (OpenSpec.upto fnRepairsSpec)

/-- 'laws.FnSwitches', WHERE WHAT IT READS IS OF BULK AT MOST 1048576: true; the input reads as it did. -/
def fnSwitchesUptoRow : OpenClaim := { program := "ytkghndikalnipaagreat", sum := "64da703462c78e44bb76de9c44f0f82d22fbc647851d1c4a99acdb55072f5f65", func := "loop.example/g01926/laws.FnSwitches", spec := "fnSwitches", unfollowed := true, recurses := true, apart := false, narrowed := true }
def FnSwitchesUptoSaid : Prop := fnSwitchesUptoRow.holds Tryz.pinned (OpenSpec.upto fnSwitchesSpec)

/-- 'laws.FnActivation', WHERE WHAT IT READS IS OF BULK AT MOST 1048576: true; the input reads as it did. -/
def fnActivationUptoRow : OpenClaim := { program := "ytkghndikalnipaagreat", sum := "64da703462c78e44bb76de9c44f0f82d22fbc647851d1c4a99acdb55072f5f65", func := "loop.example/g01926/laws.FnActivation", spec := "fnActivation", unfollowed := true, recurses := true, apart := false, narrowed := true }
def FnActivationUptoSaid : Prop := fnActivationUptoRow.holds Tryz.pinned (OpenSpec.upto fnActivationSpec)

/-- 'laws.FnAppends', WHERE WHAT IT READS IS OF BULK AT MOST 1048576: true; the input reads as it did. -/
def fnAppendsUptoRow : OpenClaim := { program := "ytkghndikalnipaagreat", sum := "64da703462c78e44bb76de9c44f0f82d22fbc647851d1c4a99acdb55072f5f65", func := "loop.example/g01926/laws.FnAppends", spec := "fnAppends", inPlace := ["slices.overlaps[loop.example/g01926/impl.Session]"], unfollowed := true, recurses := true, apart := false, narrowed := true }
def FnAppendsUptoSaid : Prop := fnAppendsUptoRow.holds Tryz.pinned (OpenSpec.upto fnAppendsSpec)

end Rows
end Go.Proofs.YtkghndikalnipaaGreat
