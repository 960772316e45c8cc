/-
  DERIVED. GIVEN WITH THE SEED: THE CARDS: each row of YtadpelkpdaohnaaGreatDoorRows.lean that lists a variable, with what it lists TIED to the program's text (the seventh form; the later family's looks); each row that meets fmt, with fmt's text TOLD by the authors' own Lean function (tested against real Go, not proved from fmt's source: count such statements apart). THE CARD IS WHAT COUNTS. Prove the row's statement (the work); the ties are given (YtadpelkpdaohnaaGreatDoorTie.lean); close each card by the builder's one call (the guide's Derived/Test/ToyasCard.lean, 'card_holds'). Laid BY PROGRAM, IN A SANDBOX (cutbox-door.mjs). By AI agents, Wed Nov 11 2026. No macro, syntax, notation, axiom, sorry.
-/
import Derived.Test.YtadpelkpdaohnaaGreatDoorRows
import GoSem.ClaimSeven
namespace Go.Proofs.YtadpelkpdaohnaaGreatDoor
namespace Rows

/-- THE TIED CARD OF 'laws.FnExactServerText'. -/
def fnExactServerTextCard : Claim7 := { stood := { row := fnExactServerTextRow, standIns := [], harness := (true, "cede41d60fcf311eae2e903b1d61a7b8c64b1d5fae55b0b0e01062330165658c"), looks := false }, kinds := [], alts := [], laidByText := true, laidKinds := [.data, .data, .data], laidTests := true, laidLooks := .later }
def FnExactServerTextCardSaid : Prop := Claim7.holds Tryz.pinned (.plain (OpenSpec.ofChange fnExactServerTextSpec)) fnExactServerTextCard

/-- THE TIED CARD OF 'laws.FnExactGroupText'. -/
def fnExactGroupTextCard : Claim7 := { stood := { row := fnExactGroupTextRow, standIns := [], harness := (true, "cede41d60fcf311eae2e903b1d61a7b8c64b1d5fae55b0b0e01062330165658c"), looks := false }, kinds := [], alts := [], laidByText := true, laidKinds := [.data, .data, .data], laidTests := true, laidLooks := .later }
def FnExactGroupTextCardSaid : Prop := Claim7.holds Tryz.pinned (.plain (OpenSpec.ofChange fnExactGroupTextSpec)) fnExactGroupTextCard

/-- THE TIED CARD OF 'laws.FnExactScrubGroup'. -/
def fnExactScrubGroupCard : Claim7 := { stood := { row := fnExactScrubGroupRow, standIns := [], harness := (true, "cede41d60fcf311eae2e903b1d61a7b8c64b1d5fae55b0b0e01062330165658c"), looks := false }, kinds := [], alts := [], laidByText := true, laidKinds := [.data, .data, .data], laidTests := true, laidLooks := .later }
def FnExactScrubGroupCardSaid : Prop := Claim7.holds Tryz.pinned (.plain (OpenSpec.ofChange fnExactScrubGroupSpec)) fnExactScrubGroupCard

/-- THE SECOND FORM's CARD OF 'laws.FnExactServerText'. -/
def fnExactServerTextUptoCard : Claim7 := { stood := { row := fnExactServerTextUptoRow, standIns := [], harness := (true, "cede41d60fcf311eae2e903b1d61a7b8c64b1d5fae55b0b0e01062330165658c"), looks := false }, kinds := [], alts := [], laidByText := true, laidKinds := [.data, .data, .data], laidTests := true, laidLooks := .later }
def FnExactServerTextUptoCardSaid : Prop := Claim7.holds Tryz.pinned (.plain (OpenSpec.upto fnExactServerTextSpec)) fnExactServerTextUptoCard

/-- THE SECOND FORM's CARD OF 'laws.FnExactGroupText'. -/
def fnExactGroupTextUptoCard : Claim7 := { stood := { row := fnExactGroupTextUptoRow, standIns := [], harness := (true, "cede41d60fcf311eae2e903b1d61a7b8c64b1d5fae55b0b0e01062330165658c"), looks := false }, kinds := [], alts := [], laidByText := true, laidKinds := [.data, .data, .data], laidTests := true, laidLooks := .later }
def FnExactGroupTextUptoCardSaid : Prop := Claim7.holds Tryz.pinned (.plain (OpenSpec.upto fnExactGroupTextSpec)) fnExactGroupTextUptoCard

/-- THE SECOND FORM's CARD OF 'laws.FnExactScrubGroup'. -/
def fnExactScrubGroupUptoCard : Claim7 := { stood := { row := fnExactScrubGroupUptoRow, standIns := [], harness := (true, "cede41d60fcf311eae2e903b1d61a7b8c64b1d5fae55b0b0e01062330165658c"), looks := false }, kinds := [], alts := [], laidByText := true, laidKinds := [.data, .data, .data], laidTests := true, laidLooks := .later }
def FnExactScrubGroupUptoCardSaid : Prop := Claim7.holds Tryz.pinned (.plain (OpenSpec.upto fnExactScrubGroupSpec)) fnExactScrubGroupUptoCard
end Rows
end Go.Proofs.YtadpelkpdaohnaaGreatDoor
