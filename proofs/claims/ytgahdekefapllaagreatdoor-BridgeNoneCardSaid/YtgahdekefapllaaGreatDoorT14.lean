/- Lemmas: C46. -/
import Derived.Test.YtgahdekefapllaaGreatDoorT13
import Derived.Test.YtgahdekefapllaaGreatDoorRows
set_option maxHeartbeats 16000000
set_option linter.all false
namespace Go.DL
open Go Go.Proofs
section
variable {H : Type} {enc : TypeId × Value → H} {w : World} {p : Nat → Prop}
theorem rd_bytes : ReadsP p enc Tryz.prog w 22 fun ds => ∃ b : Str, ds = [bytesD b] :=
  reads_slice (q := fun _ => True) (f := u8C) Tryz.underlying22 (by kernel_rfl) (by decide) (fun _ => rfl) ((reads_intR Tryz.underlying5).imp fun ds ⟨n, hn, h⟩ => ⟨UInt8.ofNat n.toNat, by
    subst h
    unfold inR IntKind.min IntKind.max at hn
    simp [IntKind.signed, IntKind.bits] at hn
    simp only [u8C, UInt8.toNat_ofNat', List.cons.injEq, D.int.injEq, true_and, and_true]
    omega⟩)
theorem rd_Hdrs : ReadsP p enc Tryz.prog w 23 fun ds => ∃ l : List Hdr, ds = [hdrsD l] := by
  refine reads_slice (q := fun _ => True) (f := Hdr.cells) Tryz.underlying23 (by kernel_rfl) (by decide) (fun _ => rfl) ((reads_struct (P := Tryz.prog) (q := fun _ => True) Tryz.underlying124 (Rs := [_, _]) (.cons (reads_str Tryz.underlying9) (.cons (reads_str Tryz.underlying9) .nil)) (by kernel_rfl)).imp ?_)
  rintro ds ⟨_, _, rfl, ⟨a, rfl⟩, _, _, rfl, ⟨b, rfl⟩, rfl⟩
  exact ⟨⟨a, b⟩, rfl⟩
theorem rd_ValN : ∀ N : Nat, ReadsP (fun n => n < N) enc Tryz.prog w 26 fun ds => ∃ x : Val, ds = x.cells
  | 0 => fun fuel cs x h => absurd h (Nat.not_lt_zero _)
  | N + 1 => by
    refine (reads_struct (P := Tryz.prog) (q := fun n => n < N) Tryz.underlying26 (Rs := [_, _, _, _, _]) (.cons (reads_str Tryz.underlying9) (.cons (reads_int Tryz.underlying3) (.cons rd_bytes (.cons rd_Hdrs
      (.cons (reads_sliceR (q := fun n => n < N) (f := Val.cells) (row := rowsV) (fun l i h => rowsV_get h) Tryz.underlying24 (by kernel_rfl) (by decide) Val.len (rd_ValN N) (fun n h => by omega)) .nil))))) (by kernel_rfl) (fun n h => by omega)).imp ?_
    rintro ds ⟨_, _, rfl, ⟨a, rfl⟩, _, _, rfl, ⟨b, rfl⟩, _, _, rfl, ⟨c, rfl⟩, _, _, rfl, ⟨d, rfl⟩, _, _, rfl, ⟨e, rfl⟩, rfl⟩
    exact ⟨.mk a b c d e, rfl⟩
theorem rd_Val : Reads enc Tryz.prog w 26 fun ds => ∃ x : Val, ds = x.cells := fun fuel cs x _ h => rd_ValN (fuel + 1) fuel cs x (Nat.lt_succ_self _) h
end
theorem pc_of_kept {P : Program} {k : Kept} (hk : KeptOk P k) (h1 : allB (matV k.a) k.ks k.ks = true) (h2 : rdL (rd T.nil 40) k.ks = some k.ks) : PCalls P k.f (k.ks.map (dV 40)) (dV k.n k.r) := (hk k.ks nm0 _ h1 (rdL_self0 h2 nm0)).1
theorem equal0 : PCalls Tryz.prog 8 [.agg val0, .agg val0] (.bool true) :=
  pc_of_kept (k := ⟨8, 40, 40, [.agg [.str [], .int .i64 0, .nilsl, .nilsl, .nilsl], .agg [.str [], .int .i64 0, .nilsl, .nilsl, .nilsl]], .bool true⟩) (kept_ok lib46_ok _ (m := 400) (by kernel_rfl)) (by kernel_rfl) (by kernel_rfl)
theorem same0 : PCalls Tryz.prog 9 [.agg map0, .agg map0] (.bool true) :=
  pc_of_kept (k := ⟨9, 40, 40, [.agg [.str [], .nilsl], .agg [.str [], .nilsl]], .bool true⟩) (kept_ok lib46_ok _ (m := 400) (by kernel_rfl)) (by kernel_rfl) (by kernel_rfl)
end Go.DL
namespace Go.Proofs.YtgahdekefapllaaGreatDoor
open Go Go.DL Go.ChangeShapes Go.WideShapes Go.ChangeAt Go.RowKit Go.Lib
set_option linter.unusedVariables false
theorem own : ownKnob Tryz.prog.godebug = none := by kernel_rfl
theorem laidOut : laidOutB Tryz.prog = true := by kernel_rfl
set_option maxRecDepth 100000 in
theorem none_lifted (os : Os) (started : os.Started) (H : Type) (enc : TypeId × Value → H) :
    ReturnsInHanded {} Tryz.checked os 3 .any (fun w args => (Rows.bridgeNoneSpec.pre enc Tryz.prog Tryz.f3 [] false w args ∧ laidMetH Tryz.prog Rows.bridgeNoneRow.laid w) ∧ sizedMet enc Tryz.prog Tryz.f3 (OpenSpec.ofChange Rows.bridgeNoneSpec) false w args)
      (Rows.bridgeNoneSpec.post enc Tryz.prog Tryz.f3 false true false false) := by
  refine returnsInHanded_of_change_and (C := Tryz.checked) (X := fun w _ => laidMetH Tryz.prog Rows.bridgeNoneRow.laid w) (fun _ _ _ hh h => h.of_heap hh) own started (by kernel_rfl) Tryz.func3
    (ChangeSpec.witness_shaped (enc := enc) (C := Tryz.checked) (os := os) (X := fun w _ => laidMetH Tryz.prog Rows.bridgeNoneRow.laid w) false (World.laidAll Tryz.prog os Rows.bridgeNoneRow.laid) #[.agg #[.string ⟨#[]⟩, .int .i64 0, .slice none 0 0, .slice none 0 0, .slice none 0 0], .slice none 0 0] 8 (World.laidAll_os _ _ _)
      (World.shaped_of_ZipB (by kernel_rfl) (by kernel_rfl)) (by kernel_rfl) (by kernel_rfl) (by kernel_rfl)
      (by rw [MakeChecks.laidMetH_plain _ _ _ (by kernel_rfl)]; exact laidMet_laidAll _ (by kernel_rfl) (by kernel_rfl))) ?_
  intro W base args ds gs before hval hW _ _ _ _
  have hp : Tryz.f3.params.toList = [26, 22] := by rw [Tryz.params3]
  refine law_contract (P := Tryz.prog) (tb := 4) (Qs := [fun x => ∃ ds : List D, (∃ v : Val, ds = v.cells) ∧ x = .agg ds, fun x => ∃ b : Str, x = bytesD b]) rfl laidOut (fun t ht => ?_) (by kernel_rfl) Tryz.underlying4 (fun ds hds => ?_) (by
    rw [hp]
    refine .cons (argReads_struct Tryz.underlying26 fun W => rd_Val) (.cons (argReads_slice Tryz.underlying22 (fun W => rd_bytes) fun ds ⟨b, hb⟩ => ⟨_, hb, b, rfl⟩) .nil)) (fun xs hxs => ?_) W base args ds gs before hval hW
  · rw [hp] at ht
    simp only [List.mem_cons, List.not_mem_nil, or_false] at ht
    rcases ht with rfl | rfl <;> exact ⟨by kernel_rfl, of_decide_eq_true (by kernel_rfl)⟩
  · rw [hp] at hds
    match ds, hds with
    | [a, b], _ => rfl
  · cases hxs with | cons h1 hxs =>
    cases hxs with | cons h2 hxs =>
    cases hxs
    obtain ⟨_, ⟨v, rfl⟩, rfl⟩ := h1
    obtain ⟨b, rfl⟩ := h2
    exact law46_BridgeNone_ok law46_known_ok equal0 same0 v _ _
theorem none_facts : joinedFacts Tryz.prog 3 Tryz.f3 Rows.bridgeNoneSpec Rows.bridgeNoneRow = true := by
  unfold joinedFacts
  simp only [Bool.and_eq_true]
  repeat' apply And.intro
  all_goals decide +kernel
theorem none_row : Rows.BridgeNoneSaid :=
  OpenClaim.holds_of_wide 3 Tryz.f3 rfl rfl rfl rfl rfl rfl rfl ⟨rfl, rfl, rfl, rfl, rfl⟩ rfl rfl rfl rfl rfl (by kernel_rfl) Tryz.func3 none_facts
    (of_decide_eq_true (by kernel_rfl)) (by unfold Func.isWrapper; first | (rw [if_pos (by decide +kernel)]; kernel_rfl) | (rw [if_neg (by decide +kernel)]; exact ⟨rfl, rfl⟩))
    (fun os started H enc _ => none_lifted os started H enc)
end Go.Proofs.YtgahdekefapllaaGreatDoor
