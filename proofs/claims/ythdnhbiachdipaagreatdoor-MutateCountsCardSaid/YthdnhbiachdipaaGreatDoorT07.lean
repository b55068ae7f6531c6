/- Lemmas: M40l, DlTop. -/
import Derived.Test.YthdnhbiachdipaaGreatDoorT06
set_option maxHeartbeats 16000000
set_option linter.all false
namespace Go.DL
open Go Go.Proofs
theorem law40_known (h : isTrue ((callF ⟨Tryz.prog, lib1 89 21 30 (getV ((callF ⟨Tryz.prog, libB 89, mu40⟩ 8).run (run ⟨Tryz.prog, libB 89, mu40⟩ 100) [] T.nil 2)), mu40⟩ 4).run (run ⟨Tryz.prog, lib1 89 21 30 (getV ((callF ⟨Tryz.prog, libB 89, mu40⟩ 8).run (run ⟨Tryz.prog, libB 89, mu40⟩ 100) [] T.nil 2)), mu40⟩ 40000) [] T.nil 2) = true) : PCalls Tryz.prog 4 [] (.bool true) := known_ok Tryz.prog mu40 89 21 30 4000 40000 (getV ((callF ⟨Tryz.prog, libB 89, mu40⟩ 8).run (run ⟨Tryz.prog, libB 89, mu40⟩ 100) [] T.nil 2)) 4 lib40_ok m21 h
theorem law40_known_ok : PCalls Tryz.prog 4 [] (.bool true) := law40_known (by kernel_rfl)
end Go.DL
namespace Go.DL
open Go Go.ChangeShapes Go.RowKit Go.WideShapes Go.ChangeAt
def topG (W : World) : G := { prot := fun b => match W.heap[b]? with | some (.cells vs _ _) => vs.size | _ => 0, kept := fun b => b < W.heap.size }
theorem topG_st (W : World) : StOk (topG W) (fun _ => none) W := {
  obj b o h := by simp at h
  kept b o h := by simp at h
  fresh b hb := ⟨by simp [topG, hb], by simp only [topG]; omega⟩ }
theorem top_call {P : Program} {f : FuncId} {args : List D} (h : PCalls P f args (.bool true)) {W : World} {vs : List Value} (ha : All2 (Rep (topG W) W) vs args) :
    Calls P f vs.toArray W fun e W' => e = .returned (.bool true) ∧ Below W.heap.size W W' := by
  refine ((h (fun _ => none)).2 _ W vs (topG_st W) ha).mono fun e W' hp => ?_
  obtain ⟨g', s', r, he, hs, hr, hq, _⟩ := hp
  subst hq
  cases e with
  | returned v => cases hr; exact ⟨rfl, he.os, he.tape, he.output, he.size, fun b hb => he.kept b hb⟩
  | _ => exact hr.elim
section
variable {H : Type} {enc : TypeId × Value → H} {P : Program} {w : World}
def Reads (enc : TypeId × Value → H) (P : Program) (w : World) (t : TypeId) (R : List D → Prop) : Prop :=
  ∀ fuel cs x, DataW.trod enc P w 0 (fun _ => true) true fuel t cs = some x → ∃ ds, R ds ∧ All2 (Rep (topG w) w) cs ds ∧ ∀ v ∈ cs, v.one1 = true
theorem lit_in {k : IntKind} {n : Int} (h : (Lit.int k n).wf = true) : inR k n := by
  simpa [Lit.wf, inR] using h
theorem reads_int {t : TypeId} {k : IntKind} (ht : P.underlying t = some (.int k)) : Reads enc P w t fun ds => ∃ n, ds = [.int k n] := by
  intro fuel cs x h
  obtain ⟨n, rfl, _, hn⟩ := DataW.trod_int ht h
  exact ⟨_, ⟨n, rfl⟩, .cons (.int k n (lit_in hn)) .nil, fun v hv => by simp at hv; subst hv; rfl⟩
theorem Reads.imp {t : TypeId} {R R' : List D → Prop} (h : Reads enc P w t R) (hi : ∀ ds, R ds → R' ds) : Reads enc P w t R' := fun fuel cs x hx => by
  obtain ⟨ds, h1, h2⟩ := h fuel cs x hx
  exact ⟨ds, hi ds h1, h2⟩
theorem cells_get {a : Addr} {n : Nat} {cs : List Value} (h : w.cells? 0 a n = some cs) : cs.length = n ∧ ∀ j, j < n → w.cell? (a.add j) = cs[j]? := by
  simp only [World.cells?, Nat.zero_le, if_true] at h
  refine ⟨by simpa using mapM_some_length h, fun j hj => ?_⟩
  have := mapM_some_get h j j (by simp [hj])
  exact this
theorem reads_slice {t e : TypeId} {n : Nat} {α : Type} [Inhabited α] {f : α → List D} (ht : P.underlying t = some (.slice e)) (hn : P.cellsOf e = n) (hn0 : 0 < n) (hf : ∀ x, (f x).length = n)
    (he : Reads enc P w e fun ds => ∃ x, ds = f x) : Reads enc P w t fun ds => ∃ l : List α, ds = [.sl .none l.length n fun i => f (l.getD i default)] := by
  intro fuel cs x h
  rcases DataW.trod_slice ht h with ⟨rfl, _⟩ | ⟨a, len, cap, elems, rest, m, rfl, rfl, _, _, hlc, hcap, hel, hx, hrest, _⟩
  · exact ⟨_, ⟨[], rfl⟩, .cons (.sl0 _ _ _ _ (by simp)) .nil, fun v hv => by simp at hv; subst hv; rfl⟩
  have key : ∀ i, i < len → ∃ (cs : List Value) (y : α), w.cells? 0 (a.add (i * n)) n = some cs ∧ All2 (Rep (topG w) w) cs (f y) ∧ ∀ v ∈ cs, v.one1 = true := by
    intro i hi
    have h1 := hx i hi
    rw [List.getElem?_eq_getElem (by omega), hn] at h1
    obtain ⟨cs, h2, h3⟩ := Option.bind_eq_some_iff.1 h1
    obtain ⟨ds, ⟨y, rfl⟩, h4, h5⟩ := he _ _ _ h3
    exact ⟨cs, y, h2, h4, h5⟩
  have hbig : cap ≤ big := by simp only [maxLen] at hcap; simp only [big]; omega
  let g : (i : Nat) → i < len → α := fun i hi => (Classical.choose_spec (key i hi)).choose
  let c : (i : Nat) → i < len → List Value := fun i hi => Classical.choose (key i hi)
  have hg : ∀ i (hi : i < len), w.cells? 0 (a.add (i * n)) n = some (c i hi) ∧ All2 (Rep (topG w) w) (c i hi) (f (g i hi)) ∧ ∀ v ∈ c i hi, v.one1 = true := fun i hi => (Classical.choose_spec (key i hi)).choose_spec
  let l : List α := List.ofFn fun i : Fin len => g i.1 i.2
  have hll : l.length = len := by simp [l]
  have hlg : ∀ i (hi : i < len), l.getD i default = g i hi := fun i hi => by simp [l, List.getD, hi]
  refine ⟨_, ⟨l, rfl⟩, .cons ?_ .nil, fun v hv => by simp at hv; subst hv; rfl⟩
  by_cases hl0 : len = 0
  · subst hl0
    have hle : l = [] := List.eq_nil_of_length_eq_zero hll
    rw [hle]
    by_cases hs : a.spot = none
    · obtain ⟨b, o, sp⟩ := a
      simp only at hs
      subst hs
      exact .sl b o 0 cap n _ .none (fun _ _ => undef) (fun i hi => by simp at hi) (fun i j hi => by simp at hi) (fun i j hi => by simp at hi) (fun i j d hi => by simp at hi) (fun i j hi => by simp at hi) trivial (Nat.zero_le _) hbig
    · have hc0 : cap = 0 := by
        rcases Nat.eq_zero_or_pos cap with h0 | h0
        · exact h0
        · obtain ⟨h1, h2⟩ := hrest rfl
          have h3 := h2 0 (by omega)
          rw [List.getElem?_eq_getElem (by omega), hn] at h3
          obtain ⟨cs, h4, _⟩ := Option.bind_eq_some_iff.1 h3
          have h5 := (cells_get h4).2 0 (by omega)
          have h6 := (cells_get h4).1
          rw [List.getElem?_eq_getElem (by omega)] at h5
          have := World.cell?_spot h5
          exact absurd (by simpa [Addr.add] using this) hs
      subst hc0
      exact .sl0 _ _ _ _ (by simp)
  · have hsp : a.spot = none := by
      have h0 := (hg 0 (by omega)).1
      have h1 := (cells_get h0).2 0 (by omega)
      have h2 : (c 0 (by omega)).length = n := (cells_get h0).1
      rw [List.getElem?_eq_getElem (by omega)] at h1
      have := World.cell?_spot h1
      simpa [Addr.add] using this
    obtain ⟨b, o, sp⟩ := a
    simp only at hsp
    subst hsp
    have hget : ∀ i j (hi : i < len) (hj : j < n), w.cell? ⟨b, o + i * n + j, none⟩ = (c i hi)[j]? := fun i j hi hj => by
      have h1 := (cells_get (hg i hi).1).2 j hj
      rw [addr_add, addr_add] at h1
      exact h1
    have hcl : ∀ i (hi : i < len), (c i hi).length = n := fun i hi => (cells_get (hg i hi).1).1
    rw [hll]
    refine .sl b o len cap n _ .none (fun i j => if hi : i < len then (c i hi).getD j undef else undef) (fun i hi => by rw [hlg i hi]; exact hf _) (fun i j hi hj => ?_) (fun i j hi hj => ?_) (fun i j d hi hd => ?_) (fun i j hi hj => ?_) trivial hlc hbig
    · simp only [dif_pos hi]
      rw [hget i j hi hj, List.getD, List.getElem?_eq_getElem (by rw [hcl i hi]; exact hj)]; rfl
    · have h1 := hget i j hi hj
      rw [List.getElem?_eq_getElem (by rw [hcl i hi]; exact hj)] at h1
      simp only [World.cell?] at h1
      split at h1
      · rename_i vs T fr hh
        simp only [topG, hh]
        have h1' : vs[o + i * n + j]? = some ((c i hi)[j]'(by rw [hcl i hi]; exact hj)) := by simpa using h1
        exact (Array.getElem?_eq_some_iff.1 h1').1
      · simp at h1
    · simp only [dif_pos hi]
      rw [hlg i hi] at hd
      have hj : j < n := by rw [← hf (g i hi)]; exact (List.getElem?_eq_some_iff.1 hd).1
      refine (hg i hi).2.1.get j _ d ?_ hd
      rw [List.getD, List.getElem?_eq_getElem (by rw [hcl i hi]; exact hj)]; rfl
    · simp only [dif_pos hi]
      refine (hg i hi).2.2 _ ?_
      rw [List.getD, List.getElem?_eq_getElem (by rw [hcl i hi]; exact hj)]
      exact List.getElem_mem _
def ArgReads (enc : TypeId × Value → H) (P : Program) (t : TypeId) (Q : D → Prop) : Prop :=
  ∀ (W : World) (base : Nat) (v : Value) (d : DataW H) (ps : List MemPlace), Value.okWide P W .any base t v → DataW.Trod enc P W 0 (fun _ => true) true t v d ps → ∃ x, Q x ∧ Rep (topG W) W v x
theorem argReads_struct {t : TypeId} {fs : Array Field} (ht : P.underlying t = some (.struct fs)) {R : List D → Prop} (h : ∀ W, Reads enc P W t R) : ArgReads enc P t fun x => ∃ ds, R ds ∧ x = .agg ds := by
  intro W base v d ps hok ⟨fuel, hf⟩
  obtain ⟨cs, rfl, _⟩ := okWide_struct ht hok
  obtain ⟨ds, h1, h2, h3⟩ := h W _ _ _ hf
  exact ⟨_, ⟨ds, h1, rfl⟩, .agg cs.toList ds h2.len (fun i v d hv hd => h2.get i v d hv hd) h3⟩
theorem argReads_one {t : TypeId} {R : List D → Prop} {Q : D → Prop} (h1 : ∀ W base v, Value.okWide P W .any base t v → v.cells = #[v]) (h : ∀ W, Reads enc P W t R) (hq : ∀ ds, R ds → ∃ x, ds = [x] ∧ Q x) : ArgReads enc P t Q := by
  intro W base v d ps hok ⟨fuel, hf⟩
  rw [h1 _ _ _ hok] at hf
  obtain ⟨ds, h2, h3, _⟩ := h W _ _ _ hf
  obtain ⟨x, rfl, hx⟩ := hq ds h2
  cases h3 with | cons h4 _ => exact ⟨x, hx, h4⟩
theorem argReads_slice {t e : TypeId} (ht : P.underlying t = some (.slice e)) {R : List D → Prop} {Q : D → Prop} (h : ∀ W, Reads enc P W t R) (hq : ∀ ds, R ds → ∃ x, ds = [x] ∧ Q x) : ArgReads enc P t Q :=
  argReads_one (fun W base v hok => by obtain ⟨a, n, c, rfl⟩ := okWide_slice ht hok; rfl) h hq
inductive ArgsR (enc : TypeId × Value → H) (P : Program) : List TypeId → List (D → Prop) → Prop where
  | nil : ArgsR enc P [] []
  | cons {t : TypeId} {Q : D → Prop} {ts : List TypeId} {Qs : List (D → Prop)} (h : ArgReads enc P t Q) (r : ArgsR enc P ts Qs) : ArgsR enc P (t :: ts) (Q :: Qs)
inductive AllQ : List (D → Prop) → List D → Prop where
  | nil : AllQ [] []
  | cons {Q : D → Prop} {x : D} {Qs : List (D → Prop)} {xs : List D} (h : Q x) (r : AllQ Qs xs) : AllQ (Q :: Qs) (x :: xs)
theorem argsR_ok {ts : List TypeId} {Qs : List (D → Prop)} (h : ArgsR enc P ts Qs) : ∀ {W : World} {base : Nat} {vs : List Value} {ds : List (DataW H)} {ps : List MemPlace},
    (∀ (j : Nat) t v, ts[j]? = some t → vs[j]? = some v → Value.okWide P W .any base t v) → DataW.TrodAll enc P W 0 (fun _ => true) true ts vs ds ps → ∃ xs, AllQ Qs xs ∧ All2 (Rep (topG W) W) vs xs := by
  induction h with
  | nil =>
    intro W base vs ds ps _ ht
    obtain ⟨rfl, _⟩ := trodAll_nil ht
    exact ⟨[], .nil, .nil⟩
  | cons h1 _ ih =>
    intro W base vs ds ps hok ht
    obtain ⟨v, vs', d, ds', p, q, rfl, rfl, rfl, h2, h3⟩ := trodAll_cons ht
    obtain ⟨x, hx1, hx2⟩ := h1 W base v d p (hok 0 _ _ rfl rfl) h2
    obtain ⟨xs, hxs1, hxs2⟩ := ih (base := base) (fun j t v hj hv => hok (j + 1) t v (by simpa using hj) (by simpa using hv)) h3
    exact ⟨x :: xs, .cons hx1 hxs1, .cons hx2 hxs2⟩
theorem trodAll_below (hl : laidOutB P = true) {W W' : World} (hb : Below W.heap.size W W') : ∀ {ts : List TypeId} {vs : List Value} {ds : List (DataW H)} {ps : List MemPlace}, (∀ t ∈ ts, P.readableRec t = true ∧ t < P.types.size) →
    DataW.TrodAll enc P W 0 (fun _ => true) true ts vs ds ps → (∀ x ∈ ps, x.block < W.heap.size) → DataW.TrodAll enc P W' 0 (fun b => decide (b < W.heap.size)) true ts vs ds ps
  | [], vs, ds, ps, _, h, _ => by
    obtain ⟨rfl, rfl, rfl⟩ := trodAll_nil h
    rfl
  | t :: ts, vs, ds, ps, ht, h, hlt => by
    obtain ⟨v, vs', d, ds', p, q, rfl, rfl, rfl, h2, h3⟩ := trodAll_cons h
    have h4 := ht t (List.mem_cons_self ..)
    exact trodAll_cons_mk (Below.trod hl h4.1 h4.2 h2 hb fun x hx => hlt x (List.mem_append_left _ hx)) (trodAll_below hl hb (fun t ht' => ht t (List.mem_cons_of_mem _ ht')) h3 fun x hx => hlt x (List.mem_append_right _ hx))
theorem law_contract {f : FuncId} {fn : Func} {s : ChangeSpec} {tb : TypeId} {Qs : List (D → Prop)} (hv : s.vars = []) (hl : laidOutB P = true) (hr : ∀ t ∈ fn.params.toList, P.readableRec t = true ∧ t < P.types.size)
    (hres : fn.resultTypes = #[tb]) (hb : P.underlying tb = some .bool) (hfn : ∀ ds : List (DataW H), ds.length = fn.params.toList.length → s.fn H ds = { results := [.lit (.bool true)], args := ds })
    (hargs : ArgsR enc P fn.params.toList Qs) (hcall : ∀ xs, AllQ Qs xs → PCalls P f xs (.bool true))
    (W : World) (base : Nat) (args : Array Value) (ds gs : List (DataW H)) (before : List MemPlace)
    (hval : ∀ (j : Nat) t v, fn.params[j]? = some t → args[j]? = some v → Value.okWide P W .any base t v) (hW : DataW.Whole enc P fn.params.toList s.vars false W args.toList ds gs before) :
    Calls P f args W fun e W' => ∃ v, e = .returned v ∧ s.post enc P fn false true false false W args v W' := by
  have hW' := hW
  obtain ⟨p, q, hA, hV, rfl, _, _⟩ := hW
  rw [hv] at hV
  obtain ⟨rfl, rfl⟩ := trodVars_none hV
  obtain ⟨xs, hx1, hx2⟩ := argsR_ok hargs (fun j t v hj hvj => hval j t v (by simpa using hj) (by simpa using hvj)) hA
  have hlen := (trodAll_length hA).2
  have hlt : ∀ x ∈ p, x.block < W.heap.size := fun x hx => by simpa using hW'.lt x (by simpa using hx)
  refine (top_call (hcall xs hx1) hx2).mono fun e W' ⟨he, hbel⟩ => ⟨.bool true, he, ?_⟩
  have hspec := hfn ds hlen
  refine ⟨ds, [], p ++ [], [], p, [], hW', ?_, ?_, ?_, hbel.frame _, fun h => by cases h⟩
  · rw [List.append_nil, hspec, hres]
    exact trodAll_mk1 ⟨1, by simp [DataW.trod, hb, Value.cells]⟩
  · rw [List.append_nil, hspec]
    exact trodAll_below hl hbel hr hA hlt
  · rw [hv, List.append_nil, hspec]
    rfl
end
end Go.DL
