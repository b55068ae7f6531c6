/-
  No cell of these rows narrows 'for every input' (looked for: loops, veiled, ifaces, maps, wideKeys, modest, calm, conditions, laid).
  DERIVED. THE GIVEN ROWS OF THIS SEAT. 4 by the template 'for every input the law returns true; each argument reads behind the call as it read before'; 0 by the template 'total and deterministic' (their statements: YtmnhlhenahlilaaGreatTotals.lean).
  GIVEN WITH THE SEED: the statements are not yours to turn. If you find one false, say at which input.
  Laid BY PROGRAM, IN A SANDBOX (cutbox-rows.mjs): the forced cells as the released guide's own fill.sh prints them over the translation 90644221945145d3… (all of the seat's roots in one cut). By AI agents, Wed Nov 11 2026. No macro, syntax, notation, axiom, sorry.
-/
import Derived.Test.YtmnhlhenahlilaaGreatChecked
import GoSem.Claim
import GoSem.ClaimJoined
import GoSem.ClaimMapViews
import Derived.JoinedTies
import Derived.KernelRfl
namespace Go.Proofs.YtmnhlhenahlilaaGreat
/- THE CELL 'sum', in the pinned program and in every row, IS THE sha256 OF THE DUMP (.gsa) THAT YtmnhlhenahlilaaGreatProg.lean LOADS. Nothing in Lean hashes anything: it is a label: what it is worth is what the hold of that sum in a sandbox is worth. -/
noncomputable def Tryz.pinned : Pinned := { name := "ytmnhlhenahlilaagreat", sum := "90644221945145d309caa1b280202dff91d96cb6ad9a720bb46a2d8f86e4c9fb", checked := Tryz.checked }
namespace Rows
def none {H : Type} : Left H := { results := [], args := [] }

/-- 'phrasebooklaw43.CompatDiffers': WHATEVER THE INPUT: true; the input reads as it did. -/
def compatDiffersSpec : ChangeSpec := { name := "compatDiffers", fn := fun _ => fun
  | [d1, d2] => { results := [.lit (.bool true)], args := [d1, d2] }
  | _ => none }
def compatDiffersRow : OpenClaim := { program := "ytmnhlhenahlilaagreat", sum := "90644221945145d309caa1b280202dff91d96cb6ad9a720bb46a2d8f86e4c9fb", func := "phrasebook/phrasebooklaw43.CompatDiffers", spec := "compatDiffers", inPlace := ["internal/abi.NoEscape", "internal/bytealg.MakeNoZero"], unfollowed := true, recurses := true, plainKeys := false, apart := false }
def CompatDiffersSaid : Prop := compatDiffersRow.holds Tryz.pinned (OpenSpec.ofChange compatDiffersSpec)

/-- ITS FALSE NEIGHBOUR: 'it returns false'. Refute it at one input. -/
def compatDiffersWrong : ChangeSpec := { name := "compatDiffers", fn := fun _ => fun
  | [d1, d2] => { results := [.lit (.bool false)], args := [d1, d2] }
  | _ => none }
def CompatDiffersWrongFalsely : Prop := compatDiffersRow.holds Tryz.pinned (OpenSpec.ofChange compatDiffersWrong)

/-- 'phrasebooklaw43.CompatLoops': WHATEVER THE INPUT: true; the input reads as it did. -/
def compatLoopsSpec : ChangeSpec := { name := "compatLoops", fn := fun _ => fun
  | [d1, d2, d3] => { results := [.lit (.bool true)], args := [d1, d2, d3] }
  | _ => none }
def compatLoopsRow : OpenClaim := { program := "ytmnhlhenahlilaagreat", sum := "90644221945145d309caa1b280202dff91d96cb6ad9a720bb46a2d8f86e4c9fb", func := "phrasebook/phrasebooklaw43.CompatLoops", spec := "compatLoops", inPlace := ["internal/abi.NoEscape", "internal/bytealg.MakeNoZero"], unfollowed := true, recurses := true, plainKeys := false, apart := false }
def CompatLoopsSaid : Prop := compatLoopsRow.holds Tryz.pinned (OpenSpec.ofChange compatLoopsSpec)

/-- ITS FALSE NEIGHBOUR: 'it returns false'. Refute it at one input. -/
def compatLoopsWrong : ChangeSpec := { name := "compatLoops", fn := fun _ => fun
  | [d1, d2, d3] => { results := [.lit (.bool false)], args := [d1, d2, d3] }
  | _ => none }
def CompatLoopsWrongFalsely : Prop := compatLoopsRow.holds Tryz.pinned (OpenSpec.ofChange compatLoopsWrong)

/-- 'phrasebooklaw43.CompatVersions': WHATEVER THE INPUT: true; the input reads as it did. -/
def compatVersionsSpec : ChangeSpec := { name := "compatVersions", fn := fun _ => fun
  | [d] => { results := [.lit (.bool true)], args := [d] }
  | _ => none }
def compatVersionsRow : OpenClaim := { program := "ytmnhlhenahlilaagreat", sum := "90644221945145d309caa1b280202dff91d96cb6ad9a720bb46a2d8f86e4c9fb", func := "phrasebook/phrasebooklaw43.CompatVersions", spec := "compatVersions", inPlace := ["internal/abi.NoEscape", "internal/bytealg.MakeNoZero"], unfollowed := true, recurses := true, plainKeys := false, apart := false }
def CompatVersionsSaid : Prop := compatVersionsRow.holds Tryz.pinned (OpenSpec.ofChange compatVersionsSpec)

/-- ITS FALSE NEIGHBOUR: 'it returns false'. Refute it at one input. -/
def compatVersionsWrong : ChangeSpec := { name := "compatVersions", fn := fun _ => fun
  | [d] => { results := [.lit (.bool false)], args := [d] }
  | _ => none }
def CompatVersionsWrongFalsely : Prop := compatVersionsRow.holds Tryz.pinned (OpenSpec.ofChange compatVersionsWrong)

/-- 'phrasebooklaw43.CompatOrders': WHATEVER THE INPUT: true; the input reads as it did. -/
def compatOrdersSpec : ChangeSpec := { name := "compatOrders", fn := fun _ => fun
  | [d1, d2, d3] => { results := [.lit (.bool true)], args := [d1, d2, d3] }
  | _ => none }
def compatOrdersRow : OpenClaim := { program := "ytmnhlhenahlilaagreat", sum := "90644221945145d309caa1b280202dff91d96cb6ad9a720bb46a2d8f86e4c9fb", func := "phrasebook/phrasebooklaw43.CompatOrders", spec := "compatOrders", inPlace := ["internal/abi.NoEscape", "internal/bytealg.MakeNoZero"], unfollowed := true, recurses := true, plainKeys := false, apart := false }
def CompatOrdersSaid : Prop := compatOrdersRow.holds Tryz.pinned (OpenSpec.ofChange compatOrdersSpec)

/-- ITS FALSE NEIGHBOUR: 'it returns false'. Refute it at one input. -/
def compatOrdersWrong : ChangeSpec := { name := "compatOrders", fn := fun _ => fun
  | [d1, d2, d3] => { results := [.lit (.bool false)], args := [d1, d2, d3] }
  | _ => none }
def CompatOrdersWrongFalsely : Prop := compatOrdersRow.holds Tryz.pinned (OpenSpec.ofChange compatOrdersWrong)

/- THE SECOND FORM. 'bulk': how many values and letters a reading holds, each counted each time it is reached (what is shared counts as often as it is met; a slice's spare places count too). A statement '..UptoSaid' is the law's where the arguments, and the package variables that the reading takes, are together of bulk at most 1048576: NARROWER than '..Said'. Prove '..Said' where nothing that the law and all that it calls make is longer than what came in: it says more and counts as full. Else prove '..UptoSaid'. A law counts once. -/
mutual
def uptoBulk {H : Type} : DataW H → Nat
  | .lit (.string bytes) => bytes.length + 1
  | .lit _ => 1
  | .nil => 1
  | .ptr d => uptoBulk d + 1
  | .slice elems spare => uptoBulkAll elems + uptoBulkAll spare + 1
  | .agg parts => uptoBulkAll parts + 1
  | .iface _ d => uptoBulk d + 1
  | .map entries => uptoBulkEntries entries + 1
  | .held _ => 1
def uptoBulkAll {H : Type} : List (DataW H) → Nat
  | [] => 0
  | d :: r => uptoBulk d + uptoBulkAll r
def uptoBulkEntries {H : Type} : List (Lit × DataW H) → Nat
  | [] => 0
  | x :: r => uptoBulkEntry x + uptoBulkEntries r
def uptoBulkEntry {H : Type} : Lit × DataW H → Nat
  | (.string bytes, d) => bytes.length + uptoBulk d + 1
  | (_, d) => uptoBulk d + 1
 end
def uptoSmall : (H : Type) → List (DataW H) → Bool := fun _ ds => decide (uptoBulkAll ds ≤ 1048576)
def OpenSpec.upto (s : _root_.Go.ChangeSpec) : _root_.Go.OpenSpec := { _root_.Go.OpenSpec.ofChange s with cond := some uptoSmall }

/-- 'phrasebooklaw43.CompatDiffers', WHERE WHAT IT READS IS OF BULK AT MOST 1048576: true; the input reads as it did. -/
def compatDiffersUptoRow : OpenClaim := { program := "ytmnhlhenahlilaagreat", sum := "90644221945145d309caa1b280202dff91d96cb6ad9a720bb46a2d8f86e4c9fb", func := "phrasebook/phrasebooklaw43.CompatDiffers", spec := "compatDiffers", inPlace := ["internal/abi.NoEscape", "internal/bytealg.MakeNoZero"], unfollowed := true, recurses := true, plainKeys := false, apart := false, narrowed := true }
def CompatDiffersUptoSaid : Prop := compatDiffersUptoRow.holds Tryz.pinned (OpenSpec.upto compatDiffersSpec)

/-- 'phrasebooklaw43.CompatLoops', WHERE WHAT IT READS IS OF BULK AT MOST 1048576: true; the input reads as it did. -/
def compatLoopsUptoRow : OpenClaim := { program := "ytmnhlhenahlilaagreat", sum := "90644221945145d309caa1b280202dff91d96cb6ad9a720bb46a2d8f86e4c9fb", func := "phrasebook/phrasebooklaw43.CompatLoops", spec := "compatLoops", inPlace := ["internal/abi.NoEscape", "internal/bytealg.MakeNoZero"], unfollowed := true, recurses := true, plainKeys := false, apart := false, narrowed := true }
def CompatLoopsUptoSaid : Prop := compatLoopsUptoRow.holds Tryz.pinned (OpenSpec.upto compatLoopsSpec)

/-- 'phrasebooklaw43.CompatVersions', WHERE WHAT IT READS IS OF BULK AT MOST 1048576: true; the input reads as it did. -/
def compatVersionsUptoRow : OpenClaim := { program := "ytmnhlhenahlilaagreat", sum := "90644221945145d309caa1b280202dff91d96cb6ad9a720bb46a2d8f86e4c9fb", func := "phrasebook/phrasebooklaw43.CompatVersions", spec := "compatVersions", inPlace := ["internal/abi.NoEscape", "internal/bytealg.MakeNoZero"], unfollowed := true, recurses := true, plainKeys := false, apart := false, narrowed := true }
def CompatVersionsUptoSaid : Prop := compatVersionsUptoRow.holds Tryz.pinned (OpenSpec.upto compatVersionsSpec)

/-- 'phrasebooklaw43.CompatOrders', WHERE WHAT IT READS IS OF BULK AT MOST 1048576: true; the input reads as it did. -/
def compatOrdersUptoRow : OpenClaim := { program := "ytmnhlhenahlilaagreat", sum := "90644221945145d309caa1b280202dff91d96cb6ad9a720bb46a2d8f86e4c9fb", func := "phrasebook/phrasebooklaw43.CompatOrders", spec := "compatOrders", inPlace := ["internal/abi.NoEscape", "internal/bytealg.MakeNoZero"], unfollowed := true, recurses := true, plainKeys := false, apart := false, narrowed := true }
def CompatOrdersUptoSaid : Prop := compatOrdersUptoRow.holds Tryz.pinned (OpenSpec.upto compatOrdersSpec)

end Rows
end Go.Proofs.YtmnhlhenahlilaaGreat
