/-
  DERIVED. GIVEN WITH THE SEED: THE CARDS: each row of YtnkifankoijebaaGreatDoorRows.lean that lists a variable, with what it lists TIED to the program's text (the seventh form; the later family's looks); each row that meets fmt, with fmt's text TOLD by the authors' own Lean function (tested against real Go, not proved from fmt's source: count such statements apart). THE CARD IS WHAT COUNTS. Prove the row's statement (the work); the ties are given (YtnkifankoijebaaGreatDoorTie.lean); close each card by the builder's one call (the guide's Derived/Test/ToyasCard.lean, 'card_holds'). Laid BY PROGRAM, IN A SANDBOX (cutbox-door.mjs). By AI agents, Wed Nov 11 2026. No macro, syntax, notation, axiom, sorry.
-/
import Derived.Test.YtnkifankoijebaaGreatDoorRows
import GoSem.ClaimSeven
namespace Go.Proofs.YtnkifankoijebaaGreatDoor
namespace Rows

/-- THE TIED CARD OF 'phrasebooklaw16.EncodeWrites'. -/
def encodeWritesCard : Claim7 := { stood := { row := encodeWritesRow, standIns := [], harness := (true, "29a02dafdef3fe7ebb6ef92b994e839f5a2cff58fe10aa02660bac523fe36093"), looks := true }, kinds := [], alts := [], laidByText := true, laidKinds := [.data, .data, .data, .data, .sentinel, .sentinel, .pinned], laidTests := true, laidLooks := .later }
def EncodeWritesCardSaid : Prop := Claim7.holds Tryz.pinned (.plain (OpenSpec.ofChange encodeWritesSpec)) encodeWritesCard

/-- THE TIED CARD OF 'phrasebooklaw16.EncodeSums'. -/
def encodeSumsCard : Claim7 := { stood := { row := encodeSumsRow, standIns := [], harness := (true, "29a02dafdef3fe7ebb6ef92b994e839f5a2cff58fe10aa02660bac523fe36093"), looks := true }, kinds := [], alts := [], laidByText := true, laidKinds := [.data, .data, .data, .data, .sentinel, .sentinel, .pinned], laidTests := true, laidLooks := .later }
def EncodeSumsCardSaid : Prop := Claim7.holds Tryz.pinned (.plain (OpenSpec.ofChange encodeSumsSpec)) encodeSumsCard

/-- THE SECOND FORM's CARD OF 'phrasebooklaw16.EncodeWrites'. -/
def encodeWritesUptoCard : Claim7 := { stood := { row := encodeWritesUptoRow, standIns := [], harness := (true, "29a02dafdef3fe7ebb6ef92b994e839f5a2cff58fe10aa02660bac523fe36093"), looks := true }, kinds := [], alts := [], laidByText := true, laidKinds := [.data, .data, .data, .data, .sentinel, .sentinel, .pinned], laidTests := true, laidLooks := .later }
def EncodeWritesUptoCardSaid : Prop := Claim7.holds Tryz.pinned (.plain (OpenSpec.upto encodeWritesSpec)) encodeWritesUptoCard

/-- THE SECOND FORM's CARD OF 'phrasebooklaw16.EncodeSums'. -/
def encodeSumsUptoCard : Claim7 := { stood := { row := encodeSumsUptoRow, standIns := [], harness := (true, "29a02dafdef3fe7ebb6ef92b994e839f5a2cff58fe10aa02660bac523fe36093"), looks := true }, kinds := [], alts := [], laidByText := true, laidKinds := [.data, .data, .data, .data, .sentinel, .sentinel, .pinned], laidTests := true, laidLooks := .later }
def EncodeSumsUptoCardSaid : Prop := Claim7.holds Tryz.pinned (.plain (OpenSpec.upto encodeSumsSpec)) encodeSumsUptoCard
end Rows
end Go.Proofs.YtnkifankoijebaaGreatDoor
