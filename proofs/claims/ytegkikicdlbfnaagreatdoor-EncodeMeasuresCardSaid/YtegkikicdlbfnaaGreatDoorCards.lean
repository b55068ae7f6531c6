/-
  DERIVED. GIVEN WITH THE SEED: THE CARDS: each row of YtegkikicdlbfnaaGreatDoorRows.lean that lists a variable, with what it lists TIED to the program's text (the seventh form; the later family's looks); each row that meets fmt, with fmt's text TOLD by the authors' own Lean function (tested against real Go, not proved from fmt's source: count such statements apart). THE CARD IS WHAT COUNTS. Prove the row's statement (the work); the ties are given (YtegkikicdlbfnaaGreatDoorTie.lean); close each card by the builder's one call (the guide's Derived/Test/ToyasCard.lean, 'card_holds'). Laid BY PROGRAM, IN A SANDBOX (cutbox-door.mjs). By AI agents, Wed Nov 11 2026. No macro, syntax, notation, axiom, sorry.
-/
import Derived.Test.YtegkikicdlbfnaaGreatDoorRows
import GoSem.ClaimSeven
namespace Go.Proofs.YtegkikicdlbfnaaGreatDoor
namespace Rows

/-- THE TIED CARD OF 'phrasebooklaw16.EncodeMeasures'. -/
def encodeMeasuresCard : Claim7 := { stood := { row := encodeMeasuresRow, standIns := [], harness := (true, "de68f68da4fa89e4e3d8af58797dbdb5bf281cd2c5a9af4923ad833ad98279df"), looks := true }, kinds := [], alts := [], laidByText := true, laidKinds := [.data, .data, .data, .data, .sentinel, .sentinel, .pinned], laidTests := true, laidLooks := .later }
def EncodeMeasuresCardSaid : Prop := Claim7.holds Tryz.pinned (.plain (OpenSpec.ofChange encodeMeasuresSpec)) encodeMeasuresCard

/-- THE SECOND FORM's CARD OF 'phrasebooklaw16.EncodeMeasures'. -/
def encodeMeasuresUptoCard : Claim7 := { stood := { row := encodeMeasuresUptoRow, standIns := [], harness := (true, "de68f68da4fa89e4e3d8af58797dbdb5bf281cd2c5a9af4923ad833ad98279df"), looks := true }, kinds := [], alts := [], laidByText := true, laidKinds := [.data, .data, .data, .data, .sentinel, .sentinel, .pinned], laidTests := true, laidLooks := .later }
def EncodeMeasuresUptoCardSaid : Prop := Claim7.holds Tryz.pinned (.plain (OpenSpec.upto encodeMeasuresSpec)) encodeMeasuresUptoCard
end Rows
end Go.Proofs.YtegkikicdlbfnaaGreatDoor
