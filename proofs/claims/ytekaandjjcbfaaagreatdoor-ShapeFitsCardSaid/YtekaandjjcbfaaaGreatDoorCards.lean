/-
  DERIVED. GIVEN WITH THE SEED: THE CARDS: each row of YtekaandjjcbfaaaGreatDoorRows.lean that lists a variable, with what it lists TIED to the program's text (the seventh form; the later family's looks); each row that meets fmt, with fmt's text TOLD by the authors' own Lean function (tested against real Go, not proved from fmt's source: count such statements apart). THE CARD IS WHAT COUNTS. Prove the row's statement (the work); the ties are given (YtekaandjjcbfaaaGreatDoorTie.lean); close each card by the builder's one call (the guide's Derived/Test/ToyasCard.lean, 'card_holds'). Laid BY PROGRAM, IN A SANDBOX (cutbox-door.mjs). By AI agents, Wed Nov 11 2026. No macro, syntax, notation, axiom, sorry.
-/
import Derived.Test.YtekaandjjcbfaaaGreatDoorRows
import GoSem.ClaimSeven
namespace Go.Proofs.YtekaandjjcbfaaaGreatDoor
namespace Rows

/-- THE TIED CARD OF 'phrasebooklaw15.ShapeFits'. -/
def shapeFitsCard : Claim7 := { stood := { row := shapeFitsRow, standIns := [], harness := (true, "ee19e8d8e77850d3b2afecd9abf96dd53b93f1bde7eaf030e3f5b2ccea26dfee"), looks := true }, kinds := [], alts := [], laidByText := true, laidKinds := [.data, .data, .data, .data, .sentinel, .sentinel, .pinned], laidTests := true, laidLooks := .later }
def ShapeFitsCardSaid : Prop := Claim7.holds Tryz.pinned (.plain (OpenSpec.ofChange shapeFitsSpec)) shapeFitsCard

/-- THE TIED CARD OF 'phrasebooklaw15.ShapeLengths'. -/
def shapeLengthsCard : Claim7 := { stood := { row := shapeLengthsRow, standIns := [], harness := (true, "ee19e8d8e77850d3b2afecd9abf96dd53b93f1bde7eaf030e3f5b2ccea26dfee"), looks := true }, kinds := [], alts := [], laidByText := true, laidKinds := [.data, .data, .data, .data, .sentinel, .sentinel, .pinned], laidTests := true, laidLooks := .later }
def ShapeLengthsCardSaid : Prop := Claim7.holds Tryz.pinned (.plain (OpenSpec.ofChange shapeLengthsSpec)) shapeLengthsCard

/-- THE SECOND FORM's CARD OF 'phrasebooklaw15.ShapeFits'. -/
def shapeFitsUptoCard : Claim7 := { stood := { row := shapeFitsUptoRow, standIns := [], harness := (true, "ee19e8d8e77850d3b2afecd9abf96dd53b93f1bde7eaf030e3f5b2ccea26dfee"), looks := true }, kinds := [], alts := [], laidByText := true, laidKinds := [.data, .data, .data, .data, .sentinel, .sentinel, .pinned], laidTests := true, laidLooks := .later }
def ShapeFitsUptoCardSaid : Prop := Claim7.holds Tryz.pinned (.plain (OpenSpec.upto shapeFitsSpec)) shapeFitsUptoCard

/-- THE SECOND FORM's CARD OF 'phrasebooklaw15.ShapeLengths'. -/
def shapeLengthsUptoCard : Claim7 := { stood := { row := shapeLengthsUptoRow, standIns := [], harness := (true, "ee19e8d8e77850d3b2afecd9abf96dd53b93f1bde7eaf030e3f5b2ccea26dfee"), looks := true }, kinds := [], alts := [], laidByText := true, laidKinds := [.data, .data, .data, .data, .sentinel, .sentinel, .pinned], laidTests := true, laidLooks := .later }
def ShapeLengthsUptoCardSaid : Prop := Claim7.holds Tryz.pinned (.plain (OpenSpec.upto shapeLengthsSpec)) shapeLengthsUptoCard
end Rows
end Go.Proofs.YtekaandjjcbfaaaGreatDoor
