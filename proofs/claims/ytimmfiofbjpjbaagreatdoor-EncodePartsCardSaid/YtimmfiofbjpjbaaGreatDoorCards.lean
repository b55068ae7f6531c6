/-
  DERIVED. GIVEN WITH THE SEED: THE CARDS: each row of YtimmfiofbjpjbaaGreatDoorRows.lean that lists a variable, with what it lists TIED to the program's text (the seventh form; the later family's looks); each row that meets fmt, with fmt's text TOLD by the authors' own Lean function (tested against real Go, not proved from fmt's source: count such statements apart). THE CARD IS WHAT COUNTS. Prove the row's statement (the work); the ties are given (YtimmfiofbjpjbaaGreatDoorTie.lean); close each card by the builder's one call (the guide's Derived/Test/ToyasCard.lean, 'card_holds'). Laid BY PROGRAM, IN A SANDBOX (cutbox-door.mjs). By AI agents, Wed Nov 11 2026. No macro, syntax, notation, axiom, sorry.
-/
import Derived.Test.YtimmfiofbjpjbaaGreatDoorRows
import GoSem.ClaimSeven
namespace Go.Proofs.YtimmfiofbjpjbaaGreatDoor
namespace Rows

/-- THE TIED CARD OF 'phrasebooklaw16.EncodeParts'. -/
def encodePartsCard : Claim7 := { stood := { row := encodePartsRow, standIns := [], harness := (true, "1e02df68c0d7651a28482cb465a154a00de085ad78f5f39fb06b1854af339679"), looks := true }, kinds := [], alts := [], laidByText := true, laidKinds := [.data, .data, .data, .data, .sentinel, .sentinel, .pinned], laidTests := true, laidLooks := .later }
def EncodePartsCardSaid : Prop := Claim7.holds Tryz.pinned (.plain (OpenSpec.ofChange encodePartsSpec)) encodePartsCard

/-- THE SECOND FORM's CARD OF 'phrasebooklaw16.EncodeParts'. -/
def encodePartsUptoCard : Claim7 := { stood := { row := encodePartsUptoRow, standIns := [], harness := (true, "1e02df68c0d7651a28482cb465a154a00de085ad78f5f39fb06b1854af339679"), looks := true }, kinds := [], alts := [], laidByText := true, laidKinds := [.data, .data, .data, .data, .sentinel, .sentinel, .pinned], laidTests := true, laidLooks := .later }
def EncodePartsUptoCardSaid : Prop := Claim7.holds Tryz.pinned (.plain (OpenSpec.upto encodePartsSpec)) encodePartsUptoCard
end Rows
end Go.Proofs.YtimmfiofbjpjbaaGreatDoor
