/-
  DERIVED. GIVEN WITH THE SEED: THE CARDS: each row of YtmdaecbcadpmcaaGreatDoorRows.lean that lists a variable, with what it lists TIED to the program's text (the seventh form; the later family's looks); each row that meets fmt, with fmt's text TOLD by the authors' own Lean function (tested against real Go, not proved from fmt's source: count such statements apart). THE CARD IS WHAT COUNTS. Prove the row's statement (the work); the ties are given (YtmdaecbcadpmcaaGreatDoorTie.lean); close each card by the builder's one call (the guide's Derived/Test/ToyasCard.lean, 'card_holds'). Laid BY PROGRAM, IN A SANDBOX (cutbox-door.mjs). By AI agents, Wed Nov 11 2026. No macro, syntax, notation, axiom, sorry.
-/
import Derived.Test.YtmdaecbcadpmcaaGreatDoorRows
import GoSem.ClaimSeven
namespace Go.Proofs.YtmdaecbcadpmcaaGreatDoor
namespace Rows

/-- THE TIED CARD OF 'phrasebooklaw15.ShapeFills'. -/
def shapeFillsCard : Claim7 := { stood := { row := shapeFillsRow, standIns := [], harness := (true, "28bf4c03c572d70851297e99e76252c46895b364c90fc71e2d2624c402d85dbf"), looks := true }, kinds := [], alts := [], laidByText := true, laidKinds := [.data, .data, .data, .data, .sentinel, .sentinel, .pinned], laidTests := true, laidLooks := .later }
def ShapeFillsCardSaid : Prop := Claim7.holds Tryz.pinned (.plain (OpenSpec.ofChange shapeFillsSpec)) shapeFillsCard

/-- THE TIED CARD OF 'phrasebooklaw15.ShapeHolds'. -/
def shapeHoldsCard : Claim7 := { stood := { row := shapeHoldsRow, standIns := [], harness := (true, "28bf4c03c572d70851297e99e76252c46895b364c90fc71e2d2624c402d85dbf"), looks := true }, kinds := [], alts := [], laidByText := true, laidKinds := [.data, .data, .data, .data, .sentinel, .sentinel, .pinned], laidTests := true, laidLooks := .later }
def ShapeHoldsCardSaid : Prop := Claim7.holds Tryz.pinned (.plain (OpenSpec.ofChange shapeHoldsSpec)) shapeHoldsCard

/-- THE SECOND FORM's CARD OF 'phrasebooklaw15.ShapeFills'. -/
def shapeFillsUptoCard : Claim7 := { stood := { row := shapeFillsUptoRow, standIns := [], harness := (true, "28bf4c03c572d70851297e99e76252c46895b364c90fc71e2d2624c402d85dbf"), looks := true }, kinds := [], alts := [], laidByText := true, laidKinds := [.data, .data, .data, .data, .sentinel, .sentinel, .pinned], laidTests := true, laidLooks := .later }
def ShapeFillsUptoCardSaid : Prop := Claim7.holds Tryz.pinned (.plain (OpenSpec.upto shapeFillsSpec)) shapeFillsUptoCard

/-- THE SECOND FORM's CARD OF 'phrasebooklaw15.ShapeHolds'. -/
def shapeHoldsUptoCard : Claim7 := { stood := { row := shapeHoldsUptoRow, standIns := [], harness := (true, "28bf4c03c572d70851297e99e76252c46895b364c90fc71e2d2624c402d85dbf"), looks := true }, kinds := [], alts := [], laidByText := true, laidKinds := [.data, .data, .data, .data, .sentinel, .sentinel, .pinned], laidTests := true, laidLooks := .later }
def ShapeHoldsUptoCardSaid : Prop := Claim7.holds Tryz.pinned (.plain (OpenSpec.upto shapeHoldsSpec)) shapeHoldsUptoCard
end Rows
end Go.Proofs.YtmdaecbcadpmcaaGreatDoor
