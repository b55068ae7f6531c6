/-
  DERIVED. GIVEN WITH THE SEED: THE CARDS: each row of YtgahdekefapllaaGreatDoorRows.lean that lists a variable, with what it lists TIED to the program's text (the seventh form; the later family's looks); each row that meets fmt, with fmt's text TOLD by the authors' own Lean function (tested against real Go, not proved from fmt's source: count such statements apart). THE CARD IS WHAT COUNTS. Prove the row's statement (the work); the ties are given (YtgahdekefapllaaGreatDoorTie.lean); close each card by the builder's one call (the guide's Derived/Test/ToyasCard.lean, 'card_holds'). Laid BY PROGRAM, IN A SANDBOX (cutbox-door.mjs). By AI agents, Wed Nov 11 2026. No macro, syntax, notation, axiom, sorry.
-/
import Derived.Test.YtgahdekefapllaaGreatDoorRows
import GoSem.ClaimSeven
namespace Go.Proofs.YtgahdekefapllaaGreatDoor
namespace Rows

/-- THE TIED CARD OF 'phrasebooklaw46.BridgeNone'. -/
def bridgeNoneCard : Claim7 := { stood := { row := bridgeNoneRow, standIns := [], harness := (true, "5b1adf9776a1ed31b4d75008e69b978f8515b3122305ec4cabceb2637a387bdc"), looks := true }, kinds := [], alts := [], laidByText := true, laidKinds := [.data, .data, .data, .data, .sentinel, .sentinel, .pinned], laidTests := true, laidLooks := .later }
def BridgeNoneCardSaid : Prop := Claim7.holds Tryz.pinned (.plain (OpenSpec.ofChange bridgeNoneSpec)) bridgeNoneCard

/-- THE SECOND FORM's CARD OF 'phrasebooklaw46.BridgeNone'. -/
def bridgeNoneUptoCard : Claim7 := { stood := { row := bridgeNoneUptoRow, standIns := [], harness := (true, "5b1adf9776a1ed31b4d75008e69b978f8515b3122305ec4cabceb2637a387bdc"), looks := true }, kinds := [], alts := [], laidByText := true, laidKinds := [.data, .data, .data, .data, .sentinel, .sentinel, .pinned], laidTests := true, laidLooks := .later }
def BridgeNoneUptoCardSaid : Prop := Claim7.holds Tryz.pinned (.plain (OpenSpec.upto bridgeNoneSpec)) bridgeNoneUptoCard
end Rows
end Go.Proofs.YtgahdekefapllaaGreatDoor
