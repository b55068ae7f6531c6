/-
  DERIVED. GIVEN WITH THE SEED: THE CARDS: each row of YthdnhbiachdipaaGreatDoorRows.lean that lists a variable, with what it lists TIED to the program's text (the seventh form; the later family's looks); each row that meets fmt, with fmt's text TOLD by the authors' own Lean function (tested against real Go, not proved from fmt's source: count such statements apart). THE CARD IS WHAT COUNTS. Prove the row's statement (the work); the ties are given (YthdnhbiachdipaaGreatDoorTie.lean); close each card by the builder's one call (the guide's Derived/Test/ToyasCard.lean, 'card_holds'). Laid BY PROGRAM, IN A SANDBOX (cutbox-door.mjs). By AI agents, Wed Nov 11 2026. No macro, syntax, notation, axiom, sorry.
-/
import Derived.Test.YthdnhbiachdipaaGreatDoorRows
import GoSem.ClaimSeven
namespace Go.Proofs.YthdnhbiachdipaaGreatDoor
namespace Rows

/-- THE TIED CARD OF 'phrasebooklaw40.MutateCounts'. -/
def mutateCountsCard : Claim7 := { stood := { row := mutateCountsRow, standIns := [], harness := (true, "a21f26b561373e4a72b964b880bfd4bb0e3a5ea45f2b6340325a2c11e92c541d"), looks := true }, kinds := [], alts := [], laidByText := true, laidKinds := [.data, .data, .data, .data, .sentinel, .sentinel, .pinned], laidTests := true, laidLooks := .later }
def MutateCountsCardSaid : Prop := Claim7.holds Tryz.pinned (.plain (OpenSpec.ofChange mutateCountsSpec)) mutateCountsCard

/-- THE SECOND FORM's CARD OF 'phrasebooklaw40.MutateCounts'. -/
def mutateCountsUptoCard : Claim7 := { stood := { row := mutateCountsUptoRow, standIns := [], harness := (true, "a21f26b561373e4a72b964b880bfd4bb0e3a5ea45f2b6340325a2c11e92c541d"), looks := true }, kinds := [], alts := [], laidByText := true, laidKinds := [.data, .data, .data, .data, .sentinel, .sentinel, .pinned], laidTests := true, laidLooks := .later }
def MutateCountsUptoCardSaid : Prop := Claim7.holds Tryz.pinned (.plain (OpenSpec.upto mutateCountsSpec)) mutateCountsUptoCard
end Rows
end Go.Proofs.YthdnhbiachdipaaGreatDoor
