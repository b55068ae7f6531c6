/-
  DERIVED. GIVEN WITH THE SEED: THE CARDS: each row of YtjahcdhapcomnaaGreatDoorRows.lean that lists a variable, with what it lists TIED to the program's text (the seventh form; the later family's looks); each row that meets fmt, with fmt's text TOLD by the authors' own Lean function (tested against real Go, not proved from fmt's source: count such statements apart). THE CARD IS WHAT COUNTS. Prove the row's statement (the work); the ties are given (YtjahcdhapcomnaaGreatDoorTie.lean); close each card by the builder's one call (the guide's Derived/Test/ToyasCard.lean, 'card_holds'). Laid BY PROGRAM, IN A SANDBOX (cutbox-door.mjs). By AI agents, Wed Nov 11 2026. No macro, syntax, notation, axiom, sorry.
-/
import Derived.Test.YtjahcdhapcomnaaGreatDoorRows
import GoSem.ClaimSeven
namespace Go.Proofs.YtjahcdhapcomnaaGreatDoor
namespace Rows

/-- THE TIED CARD OF 'phrasebooklaw15.ShapeSpoils'. -/
def shapeSpoilsCard : Claim7 := { stood := { row := shapeSpoilsRow, standIns := [], harness := (true, "25369382f4039bc50c5d6ffa0c709c2f887ba9e09ed923f9573334fcc0924faf"), looks := true }, kinds := [], alts := [], laidByText := true, laidKinds := [.data, .data, .data, .data, .sentinel, .sentinel, .pinned], laidTests := true, laidLooks := .later }
def ShapeSpoilsCardSaid : Prop := Claim7.holds Tryz.pinned (.plain (OpenSpec.ofChange shapeSpoilsSpec)) shapeSpoilsCard

/-- THE SECOND FORM's CARD OF 'phrasebooklaw15.ShapeSpoils'. -/
def shapeSpoilsUptoCard : Claim7 := { stood := { row := shapeSpoilsUptoRow, standIns := [], harness := (true, "25369382f4039bc50c5d6ffa0c709c2f887ba9e09ed923f9573334fcc0924faf"), looks := true }, kinds := [], alts := [], laidByText := true, laidKinds := [.data, .data, .data, .data, .sentinel, .sentinel, .pinned], laidTests := true, laidLooks := .later }
def ShapeSpoilsUptoCardSaid : Prop := Claim7.holds Tryz.pinned (.plain (OpenSpec.upto shapeSpoilsSpec)) shapeSpoilsUptoCard
end Rows
end Go.Proofs.YtjahcdhapcomnaaGreatDoor
