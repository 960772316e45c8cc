/-
  No cell of these rows narrows 'for every input' (looked for: loops, veiled, ifaces, maps, wideKeys, modest, calm, conditions, laid).
  DERIVED. THE GIVEN ROWS OF THIS SEAT. 3 by the template 'for every input the law returns true; each argument reads behind the call as it read before'; 0 by the template 'total and deterministic' (their statements: YtkghndikalnipacGreatTotals.lean).
  GIVEN WITH THE SEED: the statements are not yours to turn. If you find one false, say at which input.
  Laid BY PROGRAM, IN A SANDBOX (cutbox-rows.mjs): the forced cells as the released guide's own fill.sh prints them over the translation fb7fe3bd7f68f69b… (all of the seat's roots in one cut). By AI agents, Wed Nov 11 2026. No macro, syntax, notation, axiom, sorry.
-/
import Derived.Test.YtkghndikalnipacGreatChecked
import GoSem.Claim
import GoSem.ClaimJoined
import GoSem.ClaimMapViews
import Derived.JoinedTies
import Derived.KernelRfl
namespace Go.Proofs.YtkghndikalnipacGreat
/- THE CELL 'sum', in the pinned program and in every row, IS THE sha256 OF THE DUMP (.gsa) THAT YtkghndikalnipacGreatProg.lean LOADS. Nothing in Lean hashes anything: it is a label: what it is worth is what the hold of that sum in a sandbox is worth. -/
noncomputable def Tryz.pinned : Pinned := { name := "ytkghndikalnipacgreat", sum := "fb7fe3bd7f68f69b342976e17a2939f078889e2e7a88d1070b711dfd5aa70824", checked := Tryz.checked }
namespace Rows
def none {H : Type} : Left H := { results := [], args := [] }

/-- 'laws.FnRetries': WHATEVER THE INPUT: true; the input reads as it did. -/
def fnRetriesSpec : ChangeSpec := { name := "fnRetries", fn := fun _ => fun
  | [d] => { results := [.lit (.bool true)], args := [d] }
  | _ => none }
def fnRetriesRow : OpenClaim := { program := "ytkghndikalnipacgreat", sum := "fb7fe3bd7f68f69b342976e17a2939f078889e2e7a88d1070b711dfd5aa70824", func := "loop.example/g01926/laws.FnRetries", spec := "fnRetries", inPlace := ["slices.overlaps[loop.example/g01926/impl.Session]"], unfollowed := true, recurses := true, apart := false }
def FnRetriesSaid : Prop := fnRetriesRow.holds Tryz.pinned (OpenSpec.ofChange fnRetriesSpec)

/-- ITS FALSE NEIGHBOUR: 'it returns false'. Refute it at one input. -/
def fnRetriesWrong : ChangeSpec := { name := "fnRetries", fn := fun _ => fun
  | [d] => { results := [.lit (.bool false)], args := [d] }
  | _ => none }
def FnRetriesWrongFalsely : Prop := fnRetriesRow.holds Tryz.pinned (OpenSpec.ofChange fnRetriesWrong)

/-- 'laws.FnCarriedOver': WHATEVER THE INPUT: true; the input reads as it did. -/
def fnCarriedOverSpec : ChangeSpec := { name := "fnCarriedOver", fn := fun _ => fun
  | [d] => { results := [.lit (.bool true)], args := [d] }
  | _ => none }
def fnCarriedOverRow : OpenClaim := { program := "ytkghndikalnipacgreat", sum := "fb7fe3bd7f68f69b342976e17a2939f078889e2e7a88d1070b711dfd5aa70824", func := "loop.example/g01926/laws.FnCarriedOver", spec := "fnCarriedOver", unfollowed := true, recurses := true, apart := false }
def FnCarriedOverSaid : Prop := fnCarriedOverRow.holds Tryz.pinned (OpenSpec.ofChange fnCarriedOverSpec)

/-- ITS FALSE NEIGHBOUR: 'it returns false'. Refute it at one input. -/
def fnCarriedOverWrong : ChangeSpec := { name := "fnCarriedOver", fn := fun _ => fun
  | [d] => { results := [.lit (.bool false)], args := [d] }
  | _ => none }
def FnCarriedOverWrongFalsely : Prop := fnCarriedOverRow.holds Tryz.pinned (OpenSpec.ofChange fnCarriedOverWrong)

/-- 'laws.FnWitnesses': WHATEVER THE INPUT: true; the input reads as it did. -/
def fnWitnessesSpec : ChangeSpec := { name := "fnWitnesses", fn := fun _ => fun
  | [d] => { results := [.lit (.bool true)], args := [d] }
  | _ => none }
def fnWitnessesRow : OpenClaim := { program := "ytkghndikalnipacgreat", sum := "fb7fe3bd7f68f69b342976e17a2939f078889e2e7a88d1070b711dfd5aa70824", func := "loop.example/g01926/laws.FnWitnesses", spec := "fnWitnesses", unfollowed := true, recurses := true, apart := false }
def FnWitnessesSaid : Prop := fnWitnessesRow.holds Tryz.pinned (OpenSpec.ofChange fnWitnessesSpec)

/-- ITS FALSE NEIGHBOUR: 'it returns false'. Refute it at one input. -/
def fnWitnessesWrong : ChangeSpec := { name := "fnWitnesses", fn := fun _ => fun
  | [d] => { results := [.lit (.bool false)], args := [d] }
  | _ => none }
def FnWitnessesWrongFalsely : Prop := fnWitnessesRow.holds Tryz.pinned (OpenSpec.ofChange fnWitnessesWrong)

/- THE SECOND FORM. 'bulk': how many values and letters a reading holds, each counted each time it is reached (what is shared counts as often as it is met; a slice's spare places count too). A statement '..UptoSaid' is the law's where the arguments, and the package variables that the reading takes, are together of bulk at most 1048576: NARROWER than '..Said'. Prove '..Said' where nothing that the law and all that it calls make is longer than what came in: it says more and counts as full. Else prove '..UptoSaid'. A law counts once. -/
mutual
def uptoBulk {H : Type} : DataW H → Nat
  | .lit (.string bytes) => bytes.length + 1
  | .lit _ => 1
  | .nil => 1
  | .ptr d => uptoBulk d + 1
  | .slice elems spare => uptoBulkAll elems + uptoBulkAll spare + 1
  | .agg parts => uptoBulkAll parts + 1
  | .iface _ d => uptoBulk d + 1
  | .map entries => uptoBulkEntries entries + 1
  | .held _ => 1
def uptoBulkAll {H : Type} : List (DataW H) → Nat
  | [] => 0
  | d :: r => uptoBulk d + uptoBulkAll r
def uptoBulkEntries {H : Type} : List (Lit × DataW H) → Nat
  | [] => 0
  | x :: r => uptoBulkEntry x + uptoBulkEntries r
def uptoBulkEntry {H : Type} : Lit × DataW H → Nat
  | (.string bytes, d) => bytes.length + uptoBulk d + 1
  | (_, d) => uptoBulk d + 1
 end
def uptoSmall : (H : Type) → List (DataW H) → Bool := fun _ ds => decide (uptoBulkAll ds ≤ 1048576)
def OpenSpec.upto (s : _root_.Go.ChangeSpec) : _root_.Go.OpenSpec := { _root_.Go.OpenSpec.ofChange s with cond := some uptoSmall }

/-- 'laws.FnRetries', WHERE WHAT IT READS IS OF BULK AT MOST 1048576: true; the input reads as it did. -/
def fnRetriesUptoRow : OpenClaim := { program := "ytkghndikalnipacgreat", sum := "fb7fe3bd7f68f69b342976e17a2939f078889e2e7a88d1070b711dfd5aa70824", func := "loop.example/g01926/laws.FnRetries", spec := "fnRetries", inPlace := ["slices.overlaps[loop.example/g01926/impl.Session]"], unfollowed := true, recurses := true, apart := false, narrowed := true }
def FnRetriesUptoSaid : Prop := fnRetriesUptoRow.holds Tryz.pinned (OpenSpec.upto fnRetriesSpec)

/-- 'laws.FnCarriedOver', WHERE WHAT IT READS IS OF BULK AT MOST 1048576: true; the input reads as it did. -/
def fnCarriedOverUptoRow : OpenClaim := { program := "ytkghndikalnipacgreat", sum := "fb7fe3bd7f68f69b342976e17a2939f078889e2e7a88d1070b711dfd5aa70824", func := "loop.example/g01926/laws.FnCarriedOver", spec := "fnCarriedOver", unfollowed := true, recurses := true, apart := false, narrowed := true }
def FnCarriedOverUptoSaid : Prop := fnCarriedOverUptoRow.holds Tryz.pinned (OpenSpec.upto fnCarriedOverSpec)

/-- 'laws.FnWitnesses', WHERE WHAT IT READS IS OF BULK AT MOST 1048576: true; the input reads as it did. -/
def fnWitnessesUptoRow : OpenClaim := { program := "ytkghndikalnipacgreat", sum := "fb7fe3bd7f68f69b342976e17a2939f078889e2e7a88d1070b711dfd5aa70824", func := "loop.example/g01926/laws.FnWitnesses", spec := "fnWitnesses", unfollowed := true, recurses := true, apart := false, narrowed := true }
def FnWitnessesUptoSaid : Prop := fnWitnessesUptoRow.holds Tryz.pinned (OpenSpec.upto fnWitnessesSpec)

end Rows
end Go.Proofs.YtkghndikalnipacGreat
