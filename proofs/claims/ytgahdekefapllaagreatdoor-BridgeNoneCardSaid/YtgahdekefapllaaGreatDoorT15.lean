/- BridgeNone answers true for every value and every bytes; conditions: only values without a ring are spoken of (the row says so), and the package-level variables start as the text of the program lays them (the card ties them to the pruned copy of the project, which holds the packages that the law loads and no test file; code left out of that copy could still write them), and the pinned table of the library is what its text lays. -/
import Derived.Test.YtgahdekefapllaaGreatDoorT14
import Derived.Test.YtgahdekefapllaaGreatDoorCards
import Derived.Test.YtgahdekefapllaaGreatDoorTie
set_option maxHeartbeats 16000000
set_option linter.all false
namespace Go.Proofs.YtgahdekefapllaaGreatDoor
open Go
theorem goes_none {P : Program} (h : P.funcs.any Func.goes = false) (c : OpenClaim) (hs : c.start = .entering) : c.goesBy P = false := by
  have h1 : ∀ f, P.goes f = false := fun f => by
    unfold Program.goes
    rw [h, Bool.and_false, Bool.or_false, List.any_eq_false]
    intro g _
    cases hg : P.funcs[g]? with
    | none => simp
    | some fn =>
      have hm : fn ∈ P.funcs := Array.mem_of_getElem? hg
      rw [Array.any_eq_false'] at h
      simpa using h fn hm
  unfold OpenClaim.goesBy Program.goesAt Program.goesFrom
  rw [hs]
  cases P.funcNamed c.func <;> simp [h1]
theorem none_goes : false = Rows.bridgeNoneRow.goesBy Tryz.prog := (goes_none (by kernel_rfl) _ rfl).symm
theorem none_wf : Rows.bridgeNoneRow.wfByText (OpenSpec.ofChange Rows.bridgeNoneSpec) = true := by kernel_rfl
theorem none_main : Tryz.prog.mainIs = some (true, "5b1adf9776a1ed31b4d75008e69b978f8515b3122305ec4cabceb2637a387bdc".toList) := by kernel_rfl
theorem none_looks : true = Tryz.prog.looks [] := by kernel_rfl
theorem none_holds : Rows.BridgeNoneCardSaid :=
  Claim7.holds_tied_plain_at .later [] [.data, .data, .data, .data, .sentinel, .sentinel, .pinned] true (true, "5b1adf9776a1ed31b4d75008e69b978f8515b3122305ec4cabceb2637a387bdc") true
    none_row (fun _ h => by cases h) none_wf (fun _ h => by cases h) bridgeNone_row_tie rfl ⟨rfl, rfl⟩ none_main rfl
    (fun f fn hf hfn => by
      obtain rfl : f = 3 := Option.some.inj ((show Tryz.prog.funcNamed "phrasebook/phrasebooklaw46.BridgeNone" = some 3 by kernel_rfl).symm.trans hf) |>.symm
      obtain rfl : fn = Tryz.f3 := (Option.some.inj (Tryz.func3.symm.trans hfn)).symm
      exact ⟨none_looks, fun j t ht => by
        rw [Tryz.params3] at ht
        have hm : t ∈ [26, 22] := by simpa using Array.mem_of_getElem? ht
        have hall : ([26, 22].all fun u => !Tryz.prog.wantsStandIn u) = true := by kernel_rfl
        exact (show Tryz.prog.wantsStandIn t = false by simpa using List.all_eq_true.1 hall t hm)⟩)
    none_goes
end Go.Proofs.YtgahdekefapllaaGreatDoor
