/- MutateCounts answers true for every list of counts; conditions: the package-level variables start as the program's text lays them (the card ties them to the pruned copy of the project, which holds the packages that the law loads and no test file; code left out of that copy could still write them), and the library's pinned table is what its text lays. -/
import Derived.Test.YthdnhbiachdipaaGreatDoorT08
import Derived.Test.YthdnhbiachdipaaGreatDoorCards
import Derived.Test.YthdnhbiachdipaaGreatDoorTie
set_option maxHeartbeats 16000000
set_option linter.all false
namespace Go.Proofs.YthdnhbiachdipaaGreatDoor
open Go
theorem goes_none {P : Program} (h : P.funcs.any Func.goes = false) (c : OpenClaim) (hs : c.start = .entering) : c.goesBy P = false := by
  have h1 : ∀ f, P.goes f = false := fun f => by
    unfold Program.goes
    rw [h, Bool.and_false, Bool.or_false, List.any_eq_false]
    intro g _
    cases hg : P.funcs[g]? with
    | none => simp
    | some fn =>
      have hm : fn ∈ P.funcs := Array.mem_of_getElem? hg
      rw [Array.any_eq_false'] at h
      simpa using h fn hm
  unfold OpenClaim.goesBy Program.goesAt Program.goesFrom
  rw [hs]
  cases P.funcNamed c.func <;> simp [h1]
theorem counts_goes : false = Rows.mutateCountsRow.goesBy Tryz.prog := (goes_none (by kernel_rfl) _ rfl).symm
theorem counts_wf : Rows.mutateCountsRow.wfByText (OpenSpec.ofChange Rows.mutateCountsSpec) = true := by kernel_rfl
theorem counts_main : Tryz.prog.mainIs = some (true, "a21f26b561373e4a72b964b880bfd4bb0e3a5ea45f2b6340325a2c11e92c541d".toList) := by kernel_rfl
theorem counts_looks : true = Tryz.prog.looks [] := by kernel_rfl
theorem counts_holds : Rows.MutateCountsCardSaid :=
  Claim7.holds_tied_plain_at .later [] [.data, .data, .data, .data, .sentinel, .sentinel, .pinned] true (true, "a21f26b561373e4a72b964b880bfd4bb0e3a5ea45f2b6340325a2c11e92c541d") true
    counts_row (fun _ h => by cases h) counts_wf (fun _ h => by cases h) mutateCounts_row_tie rfl ⟨rfl, rfl⟩ counts_main rfl
    (fun f fn hf hfn => by
      obtain rfl : f = 3 := Option.some.inj ((show Tryz.prog.funcNamed "phrasebook/phrasebooklaw40.MutateCounts" = some 3 by kernel_rfl).symm.trans hf) |>.symm
      obtain rfl : fn = Tryz.f3 := (Option.some.inj (Tryz.func3.symm.trans hfn)).symm
      exact ⟨counts_looks, fun j t ht => by
        rw [Tryz.params3] at ht
        have hm : t ∈ [22] := by simpa using Array.mem_of_getElem? ht
        have hall : ([22].all fun u => !Tryz.prog.wantsStandIn u) = true := by kernel_rfl
        exact (show Tryz.prog.wantsStandIn t = false by simpa using List.all_eq_true.1 hall t hm)⟩)
    counts_goes
end Go.Proofs.YthdnhbiachdipaaGreatDoor
