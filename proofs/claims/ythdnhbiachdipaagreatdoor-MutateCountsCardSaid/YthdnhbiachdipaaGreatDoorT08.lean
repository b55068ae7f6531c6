/- Lemmas: C40. -/
import Derived.Test.YthdnhbiachdipaaGreatDoorT07
import Derived.Test.YthdnhbiachdipaaGreatDoorRows
set_option maxHeartbeats 16000000
set_option linter.all false
namespace Go.Proofs.YthdnhbiachdipaaGreatDoor
open Go Go.DL Go.ChangeShapes Go.WideShapes Go.ChangeAt Go.RowKit Go.Lib
set_option linter.unusedVariables false
theorem own : ownKnob Tryz.prog.godebug = none := by kernel_rfl
theorem laidOut : laidOutB Tryz.prog = true := by kernel_rfl
set_option maxRecDepth 100000 in
theorem counts_lifted (os : Os) (started : os.Started) (H : Type) (enc : TypeId × Value → H) :
    ReturnsInHanded {} Tryz.checked os 3 .any (fun w args => (Rows.mutateCountsSpec.pre enc Tryz.prog Tryz.f3 [] false w args ∧ laidMetH Tryz.prog Rows.mutateCountsRow.laid w) ∧ sizedMet enc Tryz.prog Tryz.f3 (OpenSpec.ofChange Rows.mutateCountsSpec) false w args)
      (Rows.mutateCountsSpec.post enc Tryz.prog Tryz.f3 false true false false) := by
  refine returnsInHanded_of_change_and (C := Tryz.checked) (X := fun w _ => laidMetH Tryz.prog Rows.mutateCountsRow.laid w) (fun _ _ _ hh h => h.of_heap hh) own started (by kernel_rfl) Tryz.func3
    (ChangeSpec.witness_shaped (enc := enc) (C := Tryz.checked) (os := os) (X := fun w _ => laidMetH Tryz.prog Rows.mutateCountsRow.laid w) false (World.laidAll Tryz.prog os Rows.mutateCountsRow.laid) #[.slice none 0 0] 8 (World.laidAll_os _ _ _)
      (World.shaped_of_ZipB (by kernel_rfl) (by kernel_rfl)) (by kernel_rfl) (by kernel_rfl) (by kernel_rfl)
      (by rw [MakeChecks.laidMetH_plain _ _ _ (by kernel_rfl)]; exact laidMet_laidAll _ (by kernel_rfl) (by kernel_rfl))) ?_
  intro W base args ds gs before hval hW _ _ _ _
  have hp : Tryz.f3.params.toList = [22] := by rw [Tryz.params3]
  refine law_contract (P := Tryz.prog) (tb := 4) (Qs := [fun x => ∃ l : List Int, x = .sl .none l.length 1 fun i => [.int .i64 (l.getD i default)]]) rfl laidOut (fun t ht => ?_) (by kernel_rfl) Tryz.underlying4 (fun ds hds => ?_) (by
    rw [hp]
    refine .cons (argReads_slice Tryz.underlying22 (R := fun ds => ∃ l : List Int, ds = [.sl .none l.length 1 fun i => [.int .i64 (l.getD i default)]]) (fun W => reads_slice (f := fun x => [.int .i64 x]) Tryz.underlying22 (by kernel_rfl) (by decide) (fun _ => rfl) ((reads_int Tryz.underlying3).imp fun ds ⟨n, hn⟩ => ⟨n, hn⟩)) fun ds ⟨l, hl⟩ => ⟨_, hl, l, rfl⟩) .nil) (fun xs hxs => ?_) W base args ds gs before hval hW
  · rw [hp] at ht; simp at ht; subst ht; exact ⟨by kernel_rfl, of_decide_eq_true (by kernel_rfl)⟩
  · rw [hp] at hds
    match ds, hds with
    | [a], _ => rfl
  · cases hxs with | cons h1 hxs =>
    cases hxs
    obtain ⟨l, rfl⟩ := h1
    exact law40_MutateCounts_ok law40_known_ok l
theorem counts_facts : joinedFacts Tryz.prog 3 Tryz.f3 Rows.mutateCountsSpec Rows.mutateCountsRow = true := by
  unfold joinedFacts
  simp only [Bool.and_eq_true]
  repeat' apply And.intro
  all_goals decide +kernel
theorem counts_row : Rows.MutateCountsSaid :=
  OpenClaim.holds_of_wide 3 Tryz.f3 rfl rfl rfl rfl rfl rfl rfl ⟨rfl, rfl, rfl, rfl, rfl⟩ rfl rfl rfl rfl rfl (by kernel_rfl) Tryz.func3 counts_facts
    (of_decide_eq_true (by kernel_rfl)) (by unfold Func.isWrapper; first | (rw [if_pos (by decide +kernel)]; kernel_rfl) | (rw [if_neg (by decide +kernel)]; exact ⟨rfl, rfl⟩))
    (fun os started H enc _ => counts_lifted os started H enc)
end Go.Proofs.YthdnhbiachdipaaGreatDoor
