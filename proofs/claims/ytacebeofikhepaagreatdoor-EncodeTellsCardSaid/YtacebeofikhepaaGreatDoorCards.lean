/-
  DERIVED. GIVEN WITH THE SEED: THE CARDS: each row of YtacebeofikhepaaGreatDoorRows.lean that lists a variable, with what it lists TIED to the program's text (the seventh form; the later family's looks); each row that meets fmt, with fmt's text TOLD by the authors' own Lean function (tested against real Go, not proved from fmt's source: count such statements apart). THE CARD IS WHAT COUNTS. Prove the row's statement (the work); the ties are given (YtacebeofikhepaaGreatDoorTie.lean); close each card by the builder's one call (the guide's Derived/Test/ToyasCard.lean, 'card_holds'). Laid BY PROGRAM, IN A SANDBOX (cutbox-door.mjs). By AI agents, Wed Nov 11 2026. No macro, syntax, notation, axiom, sorry.
-/
import Derived.Test.YtacebeofikhepaaGreatDoorRows
import GoSem.ClaimSeven
namespace Go.Proofs.YtacebeofikhepaaGreatDoor
namespace Rows

/-- THE TIED CARD OF 'phrasebooklaw16.EncodeTells'. -/
def encodeTellsCard : Claim7 := { stood := { row := encodeTellsRow, standIns := [], harness := (true, "2c78e0fa3799b0422e5a00a9b32f92ec146f7622a502b0ddf6c2a4d275e24687"), looks := true }, kinds := [], alts := [], laidByText := true, laidKinds := [.data, .data, .data, .data, .sentinel, .sentinel, .pinned], laidTests := true, laidLooks := .later }
def EncodeTellsCardSaid : Prop := Claim7.holds Tryz.pinned (.plain (OpenSpec.ofChange encodeTellsSpec)) encodeTellsCard

/-- THE SECOND FORM's CARD OF 'phrasebooklaw16.EncodeTells'. -/
def encodeTellsUptoCard : Claim7 := { stood := { row := encodeTellsUptoRow, standIns := [], harness := (true, "2c78e0fa3799b0422e5a00a9b32f92ec146f7622a502b0ddf6c2a4d275e24687"), looks := true }, kinds := [], alts := [], laidByText := true, laidKinds := [.data, .data, .data, .data, .sentinel, .sentinel, .pinned], laidTests := true, laidLooks := .later }
def EncodeTellsUptoCardSaid : Prop := Claim7.holds Tryz.pinned (.plain (OpenSpec.upto encodeTellsSpec)) encodeTellsUptoCard
end Rows
end Go.Proofs.YtacebeofikhepaaGreatDoor
