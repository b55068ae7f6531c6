/-
  DERIVED. GIVEN WITH THE SEED: THE CARDS: each row of YtaaaefcmpgpkgaaGreatDoorRows.lean that lists a variable, with what it lists TIED to the program's text (the seventh form; the later family's looks); each row that meets fmt, with fmt's text TOLD by the authors' own Lean function (tested against real Go, not proved from fmt's source: count such statements apart). THE CARD IS WHAT COUNTS. Prove the row's statement (the work); the ties are given (YtaaaefcmpgpkgaaGreatDoorTie.lean); close each card by the builder's one call (the guide's Derived/Test/ToyasCard.lean, 'card_holds'). Laid BY PROGRAM, IN A SANDBOX (cutbox-door.mjs). By AI agents, Wed Nov 11 2026. No macro, syntax, notation, axiom, sorry.
-/
import Derived.Test.YtaaaefcmpgpkgaaGreatDoorRows
import GoSem.ClaimSeven
namespace Go.Proofs.YtaaaefcmpgpkgaaGreatDoor
namespace Rows

/-- THE TIED CARD OF 'phrasebooklaw22.UniqueFields'. -/
def uniqueFieldsCard : Claim7 := { stood := { row := uniqueFieldsRow, standIns := [], harness := (true, "b519238da398f7d76529939115582c160177ceece40f13cb2ec7f36528bad88e"), looks := true }, kinds := [], alts := [], laidByText := true, laidKinds := [.data, .data, .data, .data, .sentinel, .sentinel, .pinned], laidTests := true, laidLooks := .later }
def UniqueFieldsCardSaid : Prop := Claim7.holds Tryz.pinned (.plain (OpenSpec.ofChange uniqueFieldsSpec)) uniqueFieldsCard

/-- THE TIED CARD OF 'phrasebooklaw22.UniqueOccurs'. -/
def uniqueOccursCard : Claim7 := { stood := { row := uniqueOccursRow, standIns := [], harness := (true, "b519238da398f7d76529939115582c160177ceece40f13cb2ec7f36528bad88e"), looks := true }, kinds := [], alts := [], laidByText := true, laidKinds := [.data, .data, .data, .data, .sentinel, .sentinel, .pinned], laidTests := true, laidLooks := .later }
def UniqueOccursCardSaid : Prop := Claim7.holds Tryz.pinned (.plain (OpenSpec.ofChange uniqueOccursSpec)) uniqueOccursCard

/-- THE SECOND FORM's CARD OF 'phrasebooklaw22.UniqueFields'. -/
def uniqueFieldsUptoCard : Claim7 := { stood := { row := uniqueFieldsUptoRow, standIns := [], harness := (true, "b519238da398f7d76529939115582c160177ceece40f13cb2ec7f36528bad88e"), looks := true }, kinds := [], alts := [], laidByText := true, laidKinds := [.data, .data, .data, .data, .sentinel, .sentinel, .pinned], laidTests := true, laidLooks := .later }
def UniqueFieldsUptoCardSaid : Prop := Claim7.holds Tryz.pinned (.plain (OpenSpec.upto uniqueFieldsSpec)) uniqueFieldsUptoCard

/-- THE SECOND FORM's CARD OF 'phrasebooklaw22.UniqueOccurs'. -/
def uniqueOccursUptoCard : Claim7 := { stood := { row := uniqueOccursUptoRow, standIns := [], harness := (true, "b519238da398f7d76529939115582c160177ceece40f13cb2ec7f36528bad88e"), looks := true }, kinds := [], alts := [], laidByText := true, laidKinds := [.data, .data, .data, .data, .sentinel, .sentinel, .pinned], laidTests := true, laidLooks := .later }
def UniqueOccursUptoCardSaid : Prop := Claim7.holds Tryz.pinned (.plain (OpenSpec.upto uniqueOccursSpec)) uniqueOccursUptoCard
end Rows
end Go.Proofs.YtaaaefcmpgpkgaaGreatDoor
