/- Lemmas: M40a, FCode40, M40b, EvLib. -/
import Derived.Test.YthdnhbiachdipaaGreatDoorT04
set_option maxHeartbeats 16000000
set_option linter.all false
namespace Go.DL
open Go
def RowIs {α : Type} [Inhabited α] (f : α → List D) (row : Nat → List D) (l : List α) : Prop := ∀ i, i < l.length → row i = f (l.getD i default)
section
variable {α : Type} [Inhabited α] {f : α → List D} {row row2 : Nat → List D} {l a : List α}
theorem RowIs.nil : RowIs f row [] := fun i h => absurd h (Nat.not_lt_zero i)
theorem RowIs.snoc {n : Nat} {x : α} (h : RowIs f row a) (h2 : row2 0 = f x) (hn : n = a.length) : RowIs f (appRow n row row2) (a ++ [x]) := fun i hi => by
  subst hn
  unfold appRow
  split
  · rename_i h1; rw [h i h1]; simp [List.getD, List.getElem?_append_left h1]
  · rename_i h1
    obtain rfl : i = a.length := by simp at hi; omega
    rw [Nat.sub_self, h2]; simp [List.getD]
end
theorem take_getD {α : Type} [Inhabited α] {l : List α} {k : Nat} (h : k < l.length) : l.take (k + 1) = l.take k ++ [l.getD k default] := by
  rw [List.take_succ_eq_append_getElem h]; simp [List.getD, h]
def getM (k : Int) : List (Int × Int) → Option Int
  | [] => none
  | e :: r => if k = e.1 then some e.2 else getM k r
def setM (k v : Int) : List (Int × Int) → List (Int × Int)
  | [] => [(k, v)]
  | e :: r => if k = e.1 then (k, v) :: r else e :: setM k v r
def entsM (l : List (Int × Int)) : List (D × D) := l.map fun e => (.int .i64 e.1, .int .i64 e.2)
theorem findM_ents (k : Int) (l : List (Int × Int)) : findD (.sc .int) (.int .i64 k) (entsM l) = some ((getM k l).map (D.int .i64)) := by
  induction l with
  | nil => rfl
  | cons e r ih =>
    simp only [entsM, List.map_cons, findD, keyEq, scalarEq, getM]
    by_cases hk : k = e.1
    · simp [hk]
    · simp only [hk, decide_false, if_false]; exact ih
theorem setM_ents (k v : Int) (l : List (Int × Int)) : updD (.sc .int) (.int .i64 k) (.int .i64 v) (entsM l) = some (entsM (setM k v l)) := by
  induction l with
  | nil => rfl
  | cons e r ih =>
    simp only [entsM, List.map_cons, updD, keyEq, scalarEq, setM]
    by_cases hk : k = e.1
    · simp [hk]
    · simp only [hk, decide_false, if_false, List.map_cons]
      rw [show updD (.sc .int) (.int .i64 k) (.int .i64 v) (r.map fun e => (D.int .i64 e.1, D.int .i64 e.2)) = _ from ih]; rfl
theorem getM_set (k j v : Int) (l : List (Int × Int)) : getM j (setM k v l) = if j = k then some v else getM j l := by
  induction l with
  | nil => simp [setM, getM]
  | cons e r ih =>
    simp only [setM]
    by_cases hk : k = e.1
    · subst hk; simp only [if_true, getM]; split <;> rfl
    · simp only [hk, if_false, getM, ih]
      by_cases hj : j = e.1
      · subst hj; simp [Ne.symm hk]
      · simp [hj]
theorem setM_length (k v : Int) (l : List (Int × Int)) : (setM k v l).length = if (getM k l).isNone then l.length + 1 else l.length := by
  induction l with
  | nil => rfl
  | cons e r ih =>
    simp only [setM, getM]
    by_cases hk : k = e.1
    · simp [hk]
    · simp only [hk, if_false, List.length_cons, ih]; split <;> rfl
theorem lookM (k : Int) (l : List (Int × Int)) : lookRes (.int .i64 0) false ((getM k l).map (D.int .i64)) = .int .i64 ((getM k l).getD 0) := by
  cases getM k l <;> rfl
theorem snocInd {p : List Int → Prop} (h0 : p []) (h1 : ∀ l x, p l → p (l ++ [x])) (l : List Int) : p l := by
  have h : ∀ m : List Int, p m.reverse := fun m => by
    induction m with
    | nil => exact h0
    | cons a m ih => rw [List.reverse_cons]; exact h1 _ _ ih
  have := h l.reverse
  rwa [List.reverse_reverse] at this
def cntM (l : List Int) : List (Int × Int) := l.foldl (fun m x => setM x ((getM x m).getD 0 + 1) m) []
theorem cntM_snoc (l : List Int) (x : Int) : cntM (l ++ [x]) = setM x ((getM x (cntM l)).getD 0 + 1) (cntM l) := by simp [cntM]
theorem cntM_get (x : Int) (l : List Int) : getM x (cntM l) = if x ∈ l then some (l.count x : Int) else none := by
  induction l using snocInd with
  | h0 => simp [cntM, getM]
  | h1 l y ih =>
    rw [cntM_snoc, getM_set]
    by_cases h : x = y
    · subst h
      rw [if_pos rfl, ih, if_pos (show x ∈ l ++ [x] by simp)]
      by_cases hx : x ∈ l
      · simp [hx]
      · simp [hx, List.count_eq_zero_of_not_mem hx]
    · simp [h, ih, List.count_append, List.count_singleton, Ne.symm h]
theorem cntM_getD (x : Int) (l : List Int) : (getM x (cntM l)).getD 0 = l.count x := by
  rw [cntM_get]
  by_cases hx : x ∈ l
  · simp [hx]
  · simp [hx, List.count_eq_zero_of_not_mem hx]
theorem cntM_len (x : Int) (l : List Int) : (cntM (l ++ [x])).length = if x ∈ l then (cntM l).length else (cntM l).length + 1 := by
  rw [cntM_snoc, setM_length, cntM_get]
  by_cases hx : x ∈ l <;> simp [hx]
theorem cntM_le (l : List Int) : (cntM l).length ≤ l.length := by
  induction l using snocInd with
  | h0 => simp [cntM]
  | h1 l y ih =>
    rw [cntM_len]; split <;> simp <;> omega
def mutC (x : Int) : List D := [.int .i64 x, .str [], .nilsl, .bool false, .int .i64 0, .int .i64 0]
def firstB (l : List Int) (i k : Nat) : Bool := !(l.take (min k i)).contains (l.getD i default)
theorem firstB_zero (l : List Int) (i : Nat) : firstB l i 0 = true := by simp [firstB]
theorem firstB_step {l : List Int} {i k : Nat} (hk : k < l.length) : firstB l i (k + 1) = if l.getD k default = l.getD i default then (firstB l i k && decide (i ≤ k)) else firstB l i k := by
  unfold firstB
  by_cases hik : i ≤ k
  · rw [show min (k + 1) i = i from Nat.min_eq_right (by omega), show min k i = i from Nat.min_eq_right hik]
    simp [hik]
  · rw [show min (k + 1) i = k + 1 from Nat.min_eq_left (by omega), show min k i = k from Nat.min_eq_left (by omega), take_getD hk]
    generalize l.getD i default = x
    generalize l.getD k default = y
    simp only [List.contains_append, Bool.not_or, show ¬ i ≤ k from hik, decide_false, Bool.and_false]
    by_cases h : y = x
    · subst h; simp
    · simp only [if_neg h]
      simp [Ne.symm h]
theorem firstB_end {l : List Int} {i : Nat} (hi : i < l.length) : firstB l i l.length = decide (l.getD i default ∉ l.take i) := by
  unfold firstB
  rw [Nat.min_eq_right (by omega)]
  simp [List.contains_eq_mem]
theorem count_take {l : List Int} {k : Nat} (hk : k < l.length) (x : Int) : (l.take (k + 1)).count x = if l.getD k default = x then (l.take k).count x + 1 else (l.take k).count x := by
  rw [take_getD hk, List.count_append, List.count_singleton]
  generalize l.getD k default = y
  by_cases h : y = x <;> simp [h]
end Go.DL
namespace Go.DL
open Go Go.Proofs
def law40_MutateCounts.r0 := [qb 2 false]
def law40_MutateCounts.r1 := [qm 11 0, qk 12 .lenL 11, qe 13 .gtr 12 60]
def law40_MutateCounts.r2 := [qf 14 4 [], qm 2 14]
def law40_MutateCounts.r3 : List DOp := [⟨some 3, none, .q .mv [.cst (.nilsl)]⟩]
def law40_MutateCounts.r4 := [qi 4 0]
def law40_MutateCounts.r5 := [qm 15 4, qm 16 0, qk 17 .lenL 16, qd 18 .lss 15 17]
def law40_MutateCounts.r7 : List DOp := [qm 21 3, qm 22 0, qm 23 4, qX 24 1 22 23, ql 25 24, ⟨some 26, none, .q (.build [.int .i64 0, .str [], .nilsl, .bool false, .int .i64 0, .int .i64 0] [(0, 1)]) [.tmp 25]⟩, ⟨some 27, none, .bsl 1 6 [.int .i64 0, .str [], .nilsl, .bool false, .int .i64 0, .int .i64 0] [0] [.tmp 26]⟩, ⟨some 28, none, .append 29 6 72 [.int .i64 0, .str [], .nilsl, .bool false, .int .i64 0, .int .i64 0] (.tmp 21) (.tmp 27)⟩, qm 3 28]
def law40_MutateCounts.r6 := [qm 19 4, qe 20 .add 19 1, qm 4 20]
def law40_MutateCounts.l0 : DC := .seq (.seq (qR law40_MutateCounts.r5 [0, 3, 4, 18]) (qC 18 .skip (.exit 0))) (.seq (.block 1 (qR law40_MutateCounts.r7 [0, 3, 4])) (qR law40_MutateCounts.r6 [0, 3, 4]))
def law40_MutateCounts.r8 := [qm 29 3, qf 30 5 [.tmp 29], qm 5 30]
def law40_MutateCounts.r9 := [qi 6 0]
def law40_MutateCounts.r10 := [qi 7 0]
def law40_MutateCounts.r11 := [qm 31 7, qm 32 3, qk 33 .lenL 32, qd 34 .lss 31 33]
def law40_MutateCounts.r13 := [qi 8 0, qb 9 true]
def law40_MutateCounts.r14 := [qi 10 0]
def law40_MutateCounts.r15 := [qm 37 10, qm 38 3, qk 39 .lenL 38, qd 40 .lss 37 39]
def law40_MutateCounts.r17 := [qm 43 3, qm 44 10, qX 45 6 43 44, qa 46 0 45, ql 47 46, qm 48 3, qm 49 7, qX 50 6 48 49, qa 51 0 50, ql 52 51, qd 53 .eql 47 52]
def law40_MutateCounts.r18 := [qm 54 8, qe 55 .add 54 1, qm 8 55]
def law40_MutateCounts.r19 := [qm 56 9, qm 57 56, qy 57 (qm 58 10), qy 57 (qm 59 7), qy 57 (qd 60 .geq 58 59), qO 61 57 60, qm 9 61]
def law40_MutateCounts.r16 := [qm 41 10, qe 42 .add 41 1, qm 10 42]
def law40_MutateCounts.l2 : DC := .seq (.seq (qR law40_MutateCounts.r15 [3, 5, 6, 7, 8, 9, 10, 40]) (qC 40 .skip (.exit 4))) (.seq (.block 5 (.seq (.regD [0, 1, 2, 3, 4, 5, 6, 7, 8, 9, 10] (unfl law40_MutateCounts.r17) (some [3, 5, 6, 7, 8, 9, 10, 53])) (qC 53 (.seq (qR law40_MutateCounts.r18 [3, 5, 6, 7, 8, 9, 10]) (qR law40_MutateCounts.r19 [3, 5, 6, 7, 8, 9, 10])) .skip))) (qR law40_MutateCounts.r16 [3, 5, 6, 7, 8, 9, 10]))
def law40_MutateCounts.r20 : List DOp := [qm 62 5, qm 63 3, qm 64 7, qX 65 6 63 64, qa 66 0 65, ql 67 66, ⟨some 68, none, .q (.lookup (.sc .int) (.int .i64 0) false) [.tmp 62, .tmp 67]⟩, qm 69 8, qd 70 .neq 68 69]
def law40_MutateCounts.r21 := [qb 2 false]
def law40_MutateCounts.r22 := [qm 71 9]
def law40_MutateCounts.r23 := [qm 72 6, qe 73 .add 72 1, qm 6 73]
def law40_MutateCounts.r12 := [qm 35 7, qe 36 .add 35 1, qm 7 36]
def law40_MutateCounts.l1 : DC := .seq (.seq (qR law40_MutateCounts.r11 [3, 5, 6, 7, 34]) (qC 34 .skip (.exit 2))) (.seq (.block 3 (.seq (qR law40_MutateCounts.r13 [3, 5, 6, 7, 8, 9]) (.seq (.seq (qR law40_MutateCounts.r14 [3, 5, 6, 7, 8, 9, 10]) (.block 4 (.loop law40_MutateCounts.l2))) (.seq (.seq (qR law40_MutateCounts.r20 [3, 5, 6, 7, 9, 70]) (qC 70 (.seq (qR law40_MutateCounts.r21 [2]) .ret) .skip)) (.seq (qR law40_MutateCounts.r22 [3, 5, 6, 7, 71]) (qC 71 (qR law40_MutateCounts.r23 [3, 5, 6, 7]) .skip)))))) (qR law40_MutateCounts.r12 [3, 5, 6, 7]))
def law40_MutateCounts.r24 := [qm 74 5, qk 75 .lenM 74, qm 76 6, qd 77 .eql 75 76, qm 78 77, qy 78 (qf 79 4 []), qO 80 78 79, qm 2 80]
abbrev law40_MutateCounts.id : Nat := 3
def law40_MutateCounts.an : Ann := [(0, [0]), (1, [0, 13]), (2, [2]), (3, [0, 3]), (4, [0, 3, 4]), (5, [0, 3, 4, 18]), (6, [0, 3, 4]), (7, [0, 3, 4]), (8, [3, 5]), (9, [3, 5, 6]), (10, [3, 5, 6, 7]), (11, [3, 5, 6, 7, 34]), (12, [3, 5, 6, 7]), (13, [3, 5, 6, 7, 8, 9]), (14, [3, 5, 6, 7, 8, 9, 10]), (15, [3, 5, 6, 7, 8, 9, 10, 40]), (16, [3, 5, 6, 7, 8, 9, 10]), (17, [3, 5, 6, 7, 8, 9, 10, 53]), (18, [3, 5, 6, 7, 8, 9, 10]), (19, [3, 5, 6, 7, 8, 9, 10]), (20, [3, 5, 6, 7, 9, 70]), (21, [2]), (22, [3, 5, 6, 7, 71]), (23, [3, 5, 6, 7]), (24, [2]), (1000017, [0, 1, 2, 3, 4, 5, 6, 7, 8, 9, 10])]
def law40_MutateCounts.body : DC := .seq (qR law40_MutateCounts.r0 [0]) (.seq (.seq (qR law40_MutateCounts.r1 [0, 13]) (qC 13 (.seq (qR law40_MutateCounts.r2 [2]) .ret) .skip)) (.seq (qR law40_MutateCounts.r3 [0, 3]) (.seq (.seq (qR law40_MutateCounts.r4 [0, 3, 4]) (.block 0 (.loop law40_MutateCounts.l0))) (.seq (qR law40_MutateCounts.r8 [3, 5]) (.seq (qR law40_MutateCounts.r9 [3, 5, 6]) (.seq (.seq (qR law40_MutateCounts.r10 [3, 5, 6, 7]) (.block 2 (.loop law40_MutateCounts.l1))) (.seq (qR law40_MutateCounts.r24 [2]) .ret)))))))
def law40_MutateCounts.df : DF := ⟨81, [.tmp 2], law40_MutateCounts.body⟩
theorem law40_MutateCounts.ok : cf Tryz.prog law40_MutateCounts.an law40_MutateCounts.id = some law40_MutateCounts.df := by kernel_rfl
def mutate_Count.r0 : List DOp := [⟨some 2, none, .q .mv [.cst (.nilmap)]⟩]
def mutate_Count.r1 : List DOp := [⟨some 6, none, .mkmap⟩, qm 3 6]
def mutate_Count.r2 := [qm 7 0, qk 8 .lenL 7, qi 9 0]
def mutate_Count.r3 := [qd 10 .lss 9 8]
def mutate_Count.r4 : List DOp := [qX 11 6 7 9, qL 12 6 11, ⟨some 5, none, .alloc [.int .i64 0, .str [], .nilsl, .bool false, .int .i64 0, .int .i64 0]⟩, qS 6 5 12]
def mutate_Count.r5 : List DOp := [qm 13 3, qa 14 0 5, ql 15 14, ⟨some 16, none, .q (.lookup (.sc .int) (.int .i64 0) false) [.tmp 13, .tmp 15]⟩, qe 17 .add 16 1, ⟨none, none, .mapupd (.sc .int) (.tmp 13) (.tmp 15) (.tmp 17)⟩]
def mutate_Count.r6 := [qe 18 .add 9 1, qm 9 18]
def mutate_Count.l0 : DC := .seq (qR mutate_Count.r3 [3, 7, 8, 9, 10]) (.seq (qC 10 .skip (.exit 0)) (.seq (.block 1 (.seq (qR mutate_Count.r4 [3, 5, 7, 8, 9]) (qR mutate_Count.r5 [3, 7, 8, 9]))) (qR mutate_Count.r6 [3, 7, 8, 9])))
def mutate_Count.r7 := [qm 19 3, qm 2 19]
abbrev mutate_Count.id : Nat := 5
def mutate_Count.an : Ann := [(0, [0]), (1, [0, 3]), (2, [3, 7, 8, 9]), (3, [3, 7, 8, 9, 10]), (4, [3, 5, 7, 8, 9]), (5, [3, 7, 8, 9]), (6, [3, 7, 8, 9]), (7, [2])]
def mutate_Count.body : DC := .seq (qR mutate_Count.r0 [0]) (.seq (qR mutate_Count.r1 [0, 3]) (.seq (.seq (qR mutate_Count.r2 [3, 7, 8, 9]) (.block 0 (.loop mutate_Count.l0))) (.seq (qR mutate_Count.r7 [2]) .ret)))
def mutate_Count.df : DF := ⟨20, [.tmp 2], mutate_Count.body⟩
theorem mutate_Count.ok : cf Tryz.prog mutate_Count.an mutate_Count.id = some mutate_Count.df := by kernel_rfl
end Go.DL
namespace Go.DL
open Go Go.Proofs
theorem mutate_Count_ok (l : List Int) (hl : l.length ≤ 60) (tk : Tok) (row : Nat → List D) (hrow : RowIs mutC row l) (st : St) : DCalls Tryz.prog mutate_Count.id [.sl tk l.length 6 row] st fun r S => ∃ b, st b = none ∧ r = .ret (.map b) ∧ S = st.upd b (.map (entsM (cntM l))) := by
  refine DCalls_fun mutate_Count.ok fun F hF => ?_
  refine DRun_seq (DRun_reg (DO_run ?_))
  simp only [Eqs, reduceCtorEq, Int.reduceToNat, reduceIte, Nat.reduceEqDiff, Nat.reduceAdd, Nat.reduceLeDiff, mutate_Count.r0]
  refine DRun_seq (DRun_reg (DO_run ?_))
  simp only [Eqs, reduceCtorEq, Int.reduceToNat, reduceIte, Nat.reduceEqDiff, Nat.reduceAdd, Nat.reduceLeDiff, mutate_Count.r1]
  intro b hb
  refine DRun_seq (DRun_seq (DRun_reg (DO_run ?_)))
  simp only [Eqs, reduceCtorEq, Int.reduceToNat, reduceIte, Nat.reduceEqDiff, Nat.reduceAdd, Nat.reduceLeDiff, mutate_Count.r2]
  refine DRun_block (DRun_loop ?_)
  have key : ∀ (n i : Nat), (l.length) - i = n → i ≤ l.length → DRun F [.code (mutate_Count.l0), .inLoop mutate_Count.l0, .inBlock 0, .code (.seq (qR mutate_Count.r7 [2]) .ret)] [(3, .d (.map b)), (7, .d (.sl tk l.length 6 row)), (8, .d (.int .i64 l.length)), (9, .d (.int .i64 i))] [] (st.upd b (.map (entsM (cntM (l.take i))))) := by
    intro n
    induction n using Nat.strongRecOn with
    | ind n ih_key =>
    intro i hn hi
    refine DRun_seq (DRun_reg (DO_run ?_))
    simp only [Eqs, reduceCtorEq, Int.reduceToNat, reduceIte, Nat.reduceEqDiff, Nat.reduceAdd, Nat.reduceLeDiff, mutate_Count.r3]
    refine DRun_seq (DRun_cond rfl trivial (fun h => ?_) (fun h => ?_))
    · refine DRun_skip ?_
      simp at h
      have hr := hrow i h
      have hc := cntM_getD (l.getD i default) (l.take i)
      have hle : (l.take i).count (l.getD i default) ≤ (l.take i).length := List.count_le_length
      have hln : (l.take i).length ≤ 60 := by rw [List.length_take]; omega
      generalize hx : l.getD i default = x at *
      refine DRun_seq (DRun_block (DRun_seq (DRun_reg (DO_run ?_))))
      simp only [Eqs, reduceCtorEq, Int.reduceToNat, reduceIte, Nat.reduceEqDiff, Nat.reduceAdd, Nat.reduceLeDiff, mutate_Count.r4, hr, mutC]
      repeat (refine And.intro (by first | omega | trivial | (intro h0; simp at h0; omega)) ?_)
      refine DRun_reg (DO_run ?_)
      simp only [Eqs, reduceCtorEq, Int.reduceToNat, reduceIte, Nat.reduceEqDiff, Nat.reduceAdd, Nat.reduceLeDiff, mutate_Count.r5, St.upd_same, findM_ents, setM_ents, lookM, hc]
      repeat (refine And.intro (by first | omega | trivial | (intro h0; simp at h0; omega)) ?_)
      refine DRun_inBlock (DRun_reg (DO_run ?_))
      simp only [Eqs, reduceCtorEq, Int.reduceToNat, reduceIte, Nat.reduceEqDiff, Nat.reduceAdd, Nat.reduceLeDiff, mutate_Count.r6]
      repeat (refine And.intro (by first | omega | trivial | (intro h0; simp at h0; omega)) ?_)
      have hs : setM x (((l.take i).count x : Int) + 1) (cntM (l.take i)) = cntM (l.take (i + 1)) := by
        rw [take_getD h, cntM_snoc, hx, hc]
      rw [St.upd_upd, hs]
      refine DRun_inLoop ?_
      exact ih_key ((l.length) - (i + 1)) (by omega) (i + 1) rfl (by omega)
    · simp at h
      obtain rfl : i = l.length := by omega
      rw [List.take_length]
      refine DRun_exit rfl (DRun_seq (DRun_reg (DO_run ?_)))
      simp only [Eqs, reduceCtorEq, Int.reduceToNat, reduceIte, Nat.reduceEqDiff, Nat.reduceAdd, Nat.reduceLeDiff, mutate_Count.r7]
      exact hF.ret _ _ rfl (by trivial) (D.Le.refl _) (St.sub_refl _) ⟨b, hb, rfl, rfl⟩
  exact key _ 0 rfl (by omega)
theorem law40_MutateCounts_ok (hknown : PCalls Tryz.prog 4 [] (.bool true)) (l : List Int) : PCalls Tryz.prog law40_MutateCounts.id [.sl .none l.length 1 fun i => [.int .i64 (l.getD i default)]] (.bool true) := by
  refine PCalls_fun law40_MutateCounts.ok fun F st hret => ?_
  refine DRun_seq (DRun_reg (DO_run ?_))
  simp only [Eqs, reduceCtorEq, Int.reduceToNat, reduceIte, Nat.reduceEqDiff, Nat.reduceAdd, Nat.reduceLeDiff, law40_MutateCounts.r0]
  refine DRun_seq (DRun_seq (DRun_reg (DO_run ?_)))
  simp only [Eqs, reduceCtorEq, Int.reduceToNat, reduceIte, Nat.reduceEqDiff, Nat.reduceAdd, Nat.reduceLeDiff, law40_MutateCounts.r1]
  refine DRun_cond rfl trivial (fun h1 => ?_) (fun h1 => ?_)
  · refine DRun_seq (DRun_reg (DO_run ?_))
    simp only [Eqs, reduceCtorEq, Int.reduceToNat, reduceIte, Nat.reduceEqDiff, Nat.reduceAdd, Nat.reduceLeDiff, law40_MutateCounts.r2]
    refine DO_pcall rfl rfl rfl rfl rfl (by trivial) (by trivial) (by exact hknown) (DO_run ?_)
    simp only [Eqs, reduceCtorEq, Int.reduceToNat, reduceIte, Nat.reduceEqDiff, Nat.reduceAdd, Nat.reduceLeDiff]
    exact hret rfl (by trivial) (D.Le.refl _) (St.sub_refl _)
  · simp at h1
    refine DRun_skip ?_
    refine DRun_seq (DRun_reg (DO_run ?_))
    simp only [Eqs, reduceCtorEq, Int.reduceToNat, reduceIte, Nat.reduceEqDiff, Nat.reduceAdd, Nat.reduceLeDiff, law40_MutateCounts.r3]
    refine DRun_seq (DRun_seq (DRun_reg (DO_run ?_)))
    simp only [Eqs, reduceCtorEq, Int.reduceToNat, reduceIte, Nat.reduceEqDiff, Nat.reduceAdd, Nat.reduceLeDiff, law40_MutateCounts.r4]
    refine DRun_sub (s' := st) (by first | exact St.sub_refl _ | exact sub_own (by first | trivial | assumption) | exact St.sub_trans (sub_own (by first | trivial | assumption)) (sub_own (by first | trivial | assumption)) | assumption) (DRun_le (ρ' := [(0, .d (.sl .none l.length 1 fun i => [.int .i64 (l.getD i default)])), (3, .d (.sl .full 0 6 fun _ => [])), (4, .d (.int .i64 (0 : Nat)))]) (L' := []) ?_ ?_ ?_)
    · exact .skip (.cons (.d (Le_nil fun b h => by cases h)) (.skip .nil))
    · exact LeL_refl _
    refine DRun_block (DRun_loop ?_)
    have key : ∀ (n i : Nat), (l.length) - i = n → i ≤ l.length → ∀ (tk : Tok) (row : Nat → List D), tk.okIn st → RowIs mutC row (l.take i) → DRun F [.code (law40_MutateCounts.l0), .inLoop law40_MutateCounts.l0, .inBlock 0, .code (.seq (qR law40_MutateCounts.r8 [3, 5]) (.seq (qR law40_MutateCounts.r9 [3, 5, 6]) (.seq (.seq (qR law40_MutateCounts.r10 [3, 5, 6, 7]) (.block 2 (.loop law40_MutateCounts.l1))) (.seq (qR law40_MutateCounts.r24 [2]) .ret))))] [(0, .d (.sl .none l.length 1 fun i => [.int .i64 (l.getD i default)])), (3, .d (.sl tk i 6 row)), (4, .d (.int .i64 i))] [] (st.own tk (i * 6)) := by
      intro n
      induction n using Nat.strongRecOn with
      | ind n ih_key =>
      intro i hn hi tk row hok hrow
      refine DRun_seq (DRun_seq (DRun_reg (DO_run ?_)))
      simp only [Eqs, reduceCtorEq, Int.reduceToNat, reduceIte, Nat.reduceEqDiff, Nat.reduceAdd, Nat.reduceLeDiff, law40_MutateCounts.r5]
      refine DRun_cond rfl trivial (fun h => ?_) (fun h => ?_)
      · simp at h
        refine DRun_skip ?_
        refine DRun_seq (DRun_block (DRun_reg (DO_run ?_)))
        simp only [Eqs, reduceCtorEq, Int.reduceToNat, reduceIte, Nat.reduceEqDiff, Nat.reduceAdd, Nat.reduceLeDiff, law40_MutateCounts.r7]
        repeat (refine And.intro (by first | omega | trivial | (intro h0; simp at h0; omega)) ?_)
        refine DO_app (st) (tk) rfl rfl rfl rfl rfl rfl (by trivial) (by trivial) rfl (by first | trivial | assumption) (by omega) (by (unfold big; omega)) fun t1 ht1 => DO_run ?_
        simp only [Eqs, reduceCtorEq, Int.reduceToNat, reduceIte, Nat.reduceEqDiff, Nat.reduceAdd, Nat.reduceLeDiff]
        refine DRun_inBlock (DRun_reg (DO_run ?_))
        simp only [Eqs, reduceCtorEq, Int.reduceToNat, reduceIte, Nat.reduceEqDiff, Nat.reduceAdd, Nat.reduceLeDiff, law40_MutateCounts.r6]
        repeat (refine And.intro (by first | omega | trivial | (intro h0; simp at h0; omega)) ?_)
        refine DRun_inLoop ?_
        exact ih_key ((l.length) - (i + 1)) (by omega) (i + 1) rfl (by omega) t1 _ ht1 (by rw [take_getD h]; exact hrow.snoc (x := l.getD i default) rfl (by simp; omega))
      · simp at h
        obtain rfl : i = l.length := by omega
        rw [List.take_length] at hrow
        clear hn hi h ih_key
        refine DRun_exit rfl (DRun_seq (DRun_reg (DO_run ?_)))
        simp only [Eqs, reduceCtorEq, Int.reduceToNat, reduceIte, Nat.reduceEqDiff, Nat.reduceAdd, Nat.reduceLeDiff, law40_MutateCounts.r8]
        refine DO_call rfl rfl rfl rfl rfl (by trivial) (by trivial) (by exact mutate_Count_ok l (by omega) tk row hrow _) ?_ ?_
        · rintro d S ⟨b, hb, hq, rfl⟩
          cases hq
          refine DO_run ?_
          simp only [Eqs, reduceCtorEq, Int.reduceToNat, reduceIte, Nat.reduceEqDiff, Nat.reduceAdd, Nat.reduceLeDiff]
          have hcl := cntM_le l
          refine DRun_seq (DRun_reg (DO_run ?_))
          simp only [Eqs, reduceCtorEq, Int.reduceToNat, reduceIte, Nat.reduceEqDiff, Nat.reduceAdd, Nat.reduceLeDiff, law40_MutateCounts.r9]
          refine DRun_seq (DRun_seq (DRun_reg (DO_run ?_)))
          simp only [Eqs, reduceCtorEq, Int.reduceToNat, reduceIte, Nat.reduceEqDiff, Nat.reduceAdd, Nat.reduceLeDiff, law40_MutateCounts.r10]
          refine DRun_block (DRun_loop ?_)
          have key1 : ∀ (n i : Nat), (l.length) - i = n → i ≤ l.length → DRun F [.code (law40_MutateCounts.l1), .inLoop law40_MutateCounts.l1, .inBlock 2, .code (.seq (qR law40_MutateCounts.r24 [2]) .ret)] [(3, .d (.sl tk l.length 6 row)), (5, .d (.map b)), (6, .d (.int .i64 (cntM (l.take i)).length)), (7, .d (.int .i64 i))] [] ((st.own tk (l.length * 6)).upd b (.map (entsM (cntM l)))) := by
            intro n
            induction n using Nat.strongRecOn with
            | ind n ih_key1 =>
            intro i hn hi
            have hci := cntM_le (l.take i)
            rw [List.length_take] at hci
            refine DRun_seq (DRun_seq (DRun_reg (DO_run ?_)))
            simp only [Eqs, reduceCtorEq, Int.reduceToNat, reduceIte, Nat.reduceEqDiff, Nat.reduceAdd, Nat.reduceLeDiff, law40_MutateCounts.r11]
            refine DRun_cond rfl trivial (fun h => ?_) (fun h => ?_)
            · simp at h
              have hri := hrow i h
              have hlen := cntM_len (l.getD i default) (l.take i)
              rw [← take_getD h] at hlen
              refine DRun_skip ?_
              refine DRun_seq (DRun_block (DRun_seq (DRun_reg (DO_run ?_))))
              simp only [Eqs, reduceCtorEq, Int.reduceToNat, reduceIte, Nat.reduceEqDiff, Nat.reduceAdd, Nat.reduceLeDiff, law40_MutateCounts.r13]
              refine DRun_seq (DRun_seq (DRun_reg (DO_run ?_)))
              simp only [Eqs, reduceCtorEq, Int.reduceToNat, reduceIte, Nat.reduceEqDiff, Nat.reduceAdd, Nat.reduceLeDiff, law40_MutateCounts.r14]
              refine DRun_block (DRun_loop ?_)
              have key2 : ∀ (n k : Nat), (l.length) - k = n → k ≤ l.length → DRun F [.code (law40_MutateCounts.l2), .inLoop law40_MutateCounts.l2, .inBlock 4, .code (.seq (.seq (qR law40_MutateCounts.r20 [3, 5, 6, 7, 9, 70]) (qC 70 (.seq (qR law40_MutateCounts.r21 [2]) .ret) .skip)) (.seq (qR law40_MutateCounts.r22 [3, 5, 6, 7, 71]) (qC 71 (qR law40_MutateCounts.r23 [3, 5, 6, 7]) .skip))), .inBlock 3, .code (qR law40_MutateCounts.r12 [3, 5, 6, 7]), .inLoop law40_MutateCounts.l1, .inBlock 2, .code (.seq (qR law40_MutateCounts.r24 [2]) .ret)] [(3, .d (.sl tk l.length 6 row)), (5, .d (.map b)), (6, .d (.int .i64 (cntM (l.take i)).length)), (7, .d (.int .i64 i)), (8, .d (.int .i64 ((l.take k).count (l.getD i default)))), (9, .d (.bool (firstB l i k))), (10, .d (.int .i64 k))] [] ((st.own tk (l.length * 6)).upd b (.map (entsM (cntM l)))) := by
                intro n
                induction n using Nat.strongRecOn with
                | ind n ih_key2 =>
                intro k hn hk
                have hcc : (l.take k).count (l.getD i default) ≤ (l.take k).length := List.count_le_length
                rw [List.length_take] at hcc
                refine DRun_seq (DRun_seq (DRun_reg (DO_run ?_)))
                simp only [Eqs, reduceCtorEq, Int.reduceToNat, reduceIte, Nat.reduceEqDiff, Nat.reduceAdd, Nat.reduceLeDiff, law40_MutateCounts.r15]
                refine DRun_cond rfl trivial (fun h2 => ?_) (fun h2 => ?_)
                · simp at h2
                  have hrk := hrow k h2
                  have hct := count_take h2 (l.getD i default)
                  have hfs := firstB_step (l := l) (i := i) h2
                  refine DRun_skip ?_
                  refine DRun_seq (DRun_block (DRun_seq (DRun_regD0 (DOA0_run ?_))))
                  simp only [Eqs, reduceCtorEq, Int.reduceToNat, reduceIte, Nat.reduceEqDiff, Nat.reduceAdd, Nat.reduceLeDiff, law40_MutateCounts.r17, hri, hrk, mutC]
                  repeat (refine And.intro (by first | omega | trivial | (intro h0; simp at h0; omega)) ?_)
                  refine DRun_cond rfl trivial (fun h3 => ?_) (fun h3 => ?_)
                  · simp only [decide_eq_true_eq] at h3
                    rw [if_pos h3] at hct hfs
                    refine DRun_seq (DRun_reg (DO_run ?_))
                    simp only [Eqs, reduceCtorEq, Int.reduceToNat, reduceIte, Nat.reduceEqDiff, Nat.reduceAdd, Nat.reduceLeDiff, law40_MutateCounts.r18]
                    repeat (refine And.intro (by first | omega | trivial | (intro h0; simp at h0; omega)) ?_)
                    refine DRun_reg (DO_run ?_)
                    simp only [Eqs, reduceCtorEq, Int.reduceToNat, reduceIte, Nat.reduceEqDiff, Nat.reduceAdd, Nat.reduceLeDiff, law40_MutateCounts.r19]
                    repeat (refine And.intro (by first | omega | trivial | (intro h0; simp at h0; omega)) ?_)
                    refine DRun_inBlock (DRun_reg (DO_run ?_))
                    simp only [Eqs, reduceCtorEq, Int.reduceToNat, reduceIte, Nat.reduceEqDiff, Nat.reduceAdd, Nat.reduceLeDiff, law40_MutateCounts.r16]
                    repeat (refine And.intro (by first | omega | trivial | (intro h0; simp at h0; omega)) ?_)
                    rw [show (firstB l i k && decide ((i : Int) ≤ (k : Int))) = firstB l i (k + 1) by rw [hfs]; congr 1; simp]
                    refine DRun_inLoop ?_
                    have hnext := ih_key2 ((l.length) - (k + 1)) (by omega) (k + 1) rfl (by omega)
                    rw [hct] at hnext
                    exact hnext
                  · simp only [decide_eq_false_iff_not] at h3
                    rw [if_neg h3] at hct hfs
                    refine DRun_skip ?_
                    refine DRun_inBlock (DRun_reg (DO_run ?_))
                    simp only [Eqs, reduceCtorEq, Int.reduceToNat, reduceIte, Nat.reduceEqDiff, Nat.reduceAdd, Nat.reduceLeDiff, law40_MutateCounts.r16]
                    repeat (refine And.intro (by first | omega | trivial | (intro h0; simp at h0; omega)) ?_)
                    refine DRun_inLoop ?_
                    have hnext := ih_key2 ((l.length) - (k + 1)) (by omega) (k + 1) rfl (by omega)
                    rw [hct, hfs] at hnext
                    exact hnext
                · simp at h2
                  obtain rfl : k = l.length := by omega
                  have hfe := firstB_end h
                  have hcg := cntM_getD (l.getD i default) l
                  rw [List.take_length]
                  clear hn hk h2 ih_key2
                  refine DRun_exit rfl (DRun_seq (DRun_seq (DRun_reg (DO_run ?_))))
                  simp only [Eqs, reduceCtorEq, Int.reduceToNat, reduceIte, Nat.reduceEqDiff, Nat.reduceAdd, Nat.reduceLeDiff, law40_MutateCounts.r20, hri, mutC, St.upd_same, findM_ents, lookM, hcg]
                  repeat (refine And.intro (by first | omega | trivial | (intro h0; simp at h0; omega)) ?_)
                  refine DRun_cond rfl trivial (fun h => by (simp at h)) (fun _ => ?_)
                  refine DRun_skip ?_
                  refine DRun_seq (DRun_reg (DO_run ?_))
                  simp only [Eqs, reduceCtorEq, Int.reduceToNat, reduceIte, Nat.reduceEqDiff, Nat.reduceAdd, Nat.reduceLeDiff, law40_MutateCounts.r22]
                  refine DRun_cond rfl trivial (fun h3 => ?_) (fun h3 => ?_)
                  · rw [hfe] at h3
                    simp only [decide_eq_true_eq] at h3
                    rw [if_neg h3] at hlen
                    refine DRun_reg (DO_run ?_)
                    simp only [Eqs, reduceCtorEq, Int.reduceToNat, reduceIte, Nat.reduceEqDiff, Nat.reduceAdd, Nat.reduceLeDiff, law40_MutateCounts.r23]
                    repeat (refine And.intro (by first | omega | trivial | (intro h0; simp at h0; omega)) ?_)
                    refine DRun_inBlock (DRun_reg (DO_run ?_))
                    simp only [Eqs, reduceCtorEq, Int.reduceToNat, reduceIte, Nat.reduceEqDiff, Nat.reduceAdd, Nat.reduceLeDiff, law40_MutateCounts.r12]
                    repeat (refine And.intro (by first | omega | trivial | (intro h0; simp at h0; omega)) ?_)
                    refine DRun_inLoop ?_
                    have hnext := ih_key1 ((l.length) - (i + 1)) (by omega) (i + 1) rfl (by omega)
                    rw [hlen] at hnext
                    exact hnext
                  · rw [hfe] at h3
                    simp only [decide_eq_false_iff_not, Decidable.not_not] at h3
                    rw [if_pos h3] at hlen
                    refine DRun_skip ?_
                    refine DRun_inBlock (DRun_reg (DO_run ?_))
                    simp only [Eqs, reduceCtorEq, Int.reduceToNat, reduceIte, Nat.reduceEqDiff, Nat.reduceAdd, Nat.reduceLeDiff, law40_MutateCounts.r12]
                    repeat (refine And.intro (by first | omega | trivial | (intro h0; simp at h0; omega)) ?_)
                    refine DRun_inLoop ?_
                    have hnext := ih_key1 ((l.length) - (i + 1)) (by omega) (i + 1) rfl (by omega)
                    rw [hlen] at hnext
                    exact hnext
              have hk0 := key2 _ 0 rfl (by omega)
              rw [firstB_zero] at hk0
              exact hk0
            · simp at h
              obtain rfl : i = l.length := by omega
              rw [List.take_length]
              refine DRun_exit rfl (DRun_seq (DRun_reg (DO_run ?_)))
              simp only [Eqs, reduceCtorEq, Int.reduceToNat, reduceIte, Nat.reduceEqDiff, Nat.reduceAdd, Nat.reduceLeDiff, law40_MutateCounts.r24, St.upd_same, entsM, List.length_map]
              refine ⟨by unfold big; omega, ?_⟩
              refine DO_pcallG rfl rfl rfl rfl rfl (fun hcg => ⟨by first | trivial | (simpa [wantB] using hcg), trivial, hknown⟩) (DO_run ?_)
              simp only [Eqs, reduceCtorEq, Int.reduceToNat, reduceIte, Nat.reduceEqDiff, Nat.reduceAdd, Nat.reduceLeDiff]
              exact hret rfl (by trivial) (D.Le.refl _) (St.sub_trans (sub_own hok) (St.sub_upd _ hb))
          exact key1 _ 0 rfl (by omega)
        · rintro d S ⟨b, hb, hq, _⟩
          cases hq
    exact key _ 0 rfl (by omega) .full _ trivial RowIs.nil
end Go.DL
namespace Go.DL
open Go
def libB (f0 : FuncId) (f : FuncId) : Option (List V → Option V) := match Nat.beq f f0 with
  | true => some fun vs => match vs with
    | [.str s, .int k c] => match k with
      | .u8 => some (.int .i64 (idxV c.toNat s))
      | _ => none
    | _ => none
  | false => none
theorem libB_ok {P : Program} {mu : FuncId → Option Nat → Bool} {f0 n : FuncId} (hf : cf P [] f0 = some (ixDF n)) {fn : Func} (h0 : P.funcs[n]? = some fn) (h1 : fn.body = none) (h2 : (fn.name == "runtime.NumGoroutine") = false) (h3 : Extern.findNext fn = none) (h4 : Extern.find fn = some Extern.BytealgIndexByte.indexByte) (t : St) : LibOk ⟨⟨P, libB f0, mu⟩, t⟩ := by
  intro f g vs v hfg hg η ds s hv
  simp only [libB] at hfg
  split at hfg <;> simp only [Option.some.injEq, reduceCtorEq] at hfg
  rename_i hb
  rw [beq_iff] at hb
  subst hb; subst hfg
  simp only at hg
  split at hg <;> (try (simp at hg; done))
  split at hg <;> simp only [Option.some.injEq, reduceCtorEq] at hg
  subst hg
  obtain ⟨d, d', rfl, a1, a2⟩ := hv.inv2
  cases a1
  cases a2
  refine ⟨_, .int _ _, ?_⟩
  rename_i l c
  rw [idxV_ok]
  exact indexByte_pc hf h0 h1 h2 h3 h4 _ _ s
def lib1 (f0 f1 : FuncId) (n : Nat) (K : V) (f : FuncId) : Option (List V → Option V) := match Nat.beq f f1 with
  | true => some fun vs => match vs with
    | [v] => match matV n K v with
      | true => some (.bool true)
      | false => none
    | _ => none
  | false => libB f0 f
theorem lib1_ok {P : Program} {mu : FuncId → Option Nat → Bool} {f0 f1 : FuncId} {n m : Nat} {K : V} (h0 : ∀ t, LibOk ⟨⟨P, libB f0, mu⟩, t⟩) (h : isTrue ((callF ⟨P, libB f0, mu⟩ f1).run (run ⟨P, libB f0, mu⟩ m) [zV n K] T.nil 2) = true) (t : St) : LibOk ⟨⟨P, lib1 f0 f1 n K, mu⟩, t⟩ := by
  intro f g vs v hfg hg η ds s hv
  simp only [lib1] at hfg
  split at hfg
  · rename_i hb
    rw [beq_iff] at hb
    simp only [Option.some.injEq] at hfg
    subst hb; subst hfg
    simp only at hg
    split at hg <;> (try (simp at hg; done))
    split at hg <;> simp only [Option.some.injEq, reduceCtorEq] at hg
    rename_i hm
    subst hg
    obtain ⟨d, rfl, a1⟩ := hv.inv1
    exact ⟨_, .bool true, memo_ok h0 h hm a1 s⟩
  · exact h0 t f g vs v hfg hg η ds s hv
theorem true_ok {C : Cx} (hlib : ∀ t, LibOk ⟨C, t⟩) {f : FuncId} {m : Nat} (h : isTrue ((callF C f).run (run C m) [] T.nil 2) = true) : PCalls C.P f [] (.bool true) := by
  obtain ⟨σ, nx, h⟩ := isTrue_ok h
  refine PCalls_emp ?_
  have hih := run_ok hlib (fun C' ih he hih => regD_ok (by subst he; exact hlib _) hih) m St.emp
  refine (callF_ok (C := ⟨C, St.emp⟩) (hlib _) hih h .nil nm0_ok (sim0 C nm0 St.emp)).mono fun r s hp => ?_
  obtain ⟨η', d', k1, k2, k3, k4, k5⟩ := hp
  cases k4
  exact k5
theorem known_ok (P : Program) (mu : FuncId → Option Nat → Bool) (f0 f1 : FuncId) (n m m2 : Nat) (K : V) (f : FuncId) (h0 : ∀ t, LibOk ⟨⟨P, libB f0, mu⟩, t⟩) (h1 : isTrue ((callF ⟨P, libB f0, mu⟩ f1).run (run ⟨P, libB f0, mu⟩ m) [zV n K] T.nil 2) = true)
    (h2 : isTrue ((callF ⟨P, lib1 f0 f1 n K, mu⟩ f).run (run ⟨P, lib1 f0 f1 n K, mu⟩ m2) [] T.nil 2) = true) : PCalls P f [] (.bool true) :=
  true_ok (C := ⟨P, lib1 f0 f1 n K, mu⟩) (lib1_ok h0 h1) h2
def getV : Option Out → V
  | some o => o.v
  | none => .nilsl
end Go.DL
