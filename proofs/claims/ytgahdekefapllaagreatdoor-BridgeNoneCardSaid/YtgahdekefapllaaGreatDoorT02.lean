/- Lemmas: DlTb, DlTc, DlU, DlV, DlW, DlX, DlY, DlZ, DlZA, DlZB, DlZC, DlZD, DlZE, DlZF, DlZGa, DlZG, DlZH, DlZI, DlZK, DlZL, DlZM, DlZS. -/
import Derived.Test.YtgahdekefapllaaGreatDoorT01
set_option maxHeartbeats 16000000
set_option linter.all false
namespace Go.DL
open Go
section
variable {P : Program}
theorem sameBits_sc {g : G} {w : World} {k : SK} {k1 k2 : Value} {d1 d2 : D} (h1 : Rep g w k1 d1) (h2 : Rep g w k2 d2) (h : scalarEq k d1 d2 = some true) (n : Nat) : Instr.sameBits n k1 k2 = true := by
  cases k
  · cases h1 <;> cases h2 <;> simp only [scalarEq, reduceCtorEq] at h
    split at h <;> simp only [reduceCtorEq, Option.some.injEq, decide_eq_true_eq] at h
    rename_i hk
    subst hk; subst h
    cases n <;> simp [Instr.sameBits]
  · cases h1 <;> cases h2 <;> simp only [scalarEq, reduceCtorEq, Option.some.injEq, decide_eq_true_eq] at h
    rename_i s1 a e1 _ s2 b e2 _
    subst h
    have : s1 = s2 := by
      cases s1; cases s2
      simp only [ByteArray.mk.injEq]
      apply Array.ext'
      simp only at e1 e2
      rw [e1, e2]
    subst this
    cases n <;> simp [Instr.sameBits, MapKept.bytes_beq]
  · cases h1 <;> cases h2 <;> simp only [scalarEq, reduceCtorEq, Option.some.injEq, decide_eq_true_eq] at h
    subst h
    cases n <;> simp [Instr.sameBits]
theorem cellsEq_true {xs ys : List D} : ∀ {l : List (Nat × SK)}, cellsEq xs ys l = some true → ∀ o k, (o, k) ∈ l → ∃ x y, xs[o]? = some x ∧ ys[o]? = some y ∧ scalarEq k x y = some true
  | [], _, o, k, hm => by simp at hm
  | (o', k') :: r, h, o, k, hm => by
    simp only [cellsEq] at h
    split at h <;> (try (simp at h; done))
    rename_i x y hx hy
    split at h <;> (try (simp at h; done))
    rename_i b c hb hc
    simp only [Option.some.injEq, Bool.and_eq_true] at h
    obtain ⟨rfl, rfl⟩ := h
    rcases List.mem_cons.1 hm with he | hm
    · simp only [Prod.mk.injEq] at he
      obtain ⟨rfl, rfl⟩ := he
      exact ⟨x, y, hx, hy, hb⟩
    · exact cellsEq_true hc o k hm
theorem sameBits_ok {g : G} {w : World} {kt : TypeId} {kp : KP} (hk : keyT P kt = some kp) {k1 k2 : Value} {d1 d2 : D} (h1 : Rep g w k1 d1) (h2 : Rep g w k2 d2) (h : keyEq kp d1 d2 = some true) (n : Nat) : Instr.sameBits (n + 1) k1 k2 = true := by
  rcases keyT_cases hk with ⟨sk, rfl, hs⟩ | ⟨fs, l, m, rfl, hu, hn, hl, hrange, hst⟩
  · exact sameBits_sc h1 h2 h _
  · cases h1 <;> cases h2 <;> simp only [keyEq, reduceCtorEq] at h
    rename_i v1 xs hn1 r1 o1 v2 ys hn2 r2 o2
    split at h <;> (try (simp at h; done))
    rename_i hlen
    simp only [Instr.sameBits, List.size_toArray, Bool.and_eq_true, beq_iff_eq]
    refine ⟨by omega, ?_⟩
    rw [List.all_eq_true]
    intro p hp
    obtain ⟨i, hi, hpi⟩ := List.getElem_of_mem hp
    simp only [List.length_zip] at hi
    have hi1 : i < v1.length := by omega
    have hi2 : i < v2.length := by omega
    have hil : i < l.length := by omega
    have hm : (l[i].1, l[i].2) ∈ l := List.getElem_mem hil
    have hoi : l[i].1 = i := by
      have h3 : (l.map (·.1))[i]? = some l[i].1 := by simp [hil]
      rw [hrange] at h3
      have hlm : l.length = m := by have := congrArg List.length hrange; simpa using this
      rw [List.getElem?_range (by omega)] at h3
      exact (Option.some.inj h3).symm
    rw [hoi] at hm
    obtain ⟨x, y, hx, hy, he⟩ := cellsEq_true h i _ hm
    have e1 : p = (v1[i], v2[i]) := by rw [← hpi]; simp
    rw [e1]
    exact sameBits_sc (r1 i _ x (by simp [hi1]) hx) (r2 i _ y (by simp [hi2]) hy) he n
theorem keyEq_symm {kp : KP} {a b : D} (h : keyEq kp a b = some true) : keyEq kp b a = some true := by
  have sc : ∀ (k : SK) (a b : D), scalarEq k a b = some true → scalarEq k b a = some true := by
    intro k a b h
    cases k <;> cases a <;> cases b <;> simp only [scalarEq, reduceCtorEq] at h ⊢
    · split at h <;> simp only [reduceCtorEq, Option.some.injEq, decide_eq_true_eq] at h
      rename_i hk
      simp [hk, h]
    · simp only [Option.some.injEq, decide_eq_true_eq] at h ⊢; exact h.symm
    · simp only [Option.some.injEq, decide_eq_true_eq] at h ⊢; exact h.symm
  cases kp with
  | sc k => exact sc k a b h
  | st l =>
    cases a <;> cases b <;> simp only [keyEq, reduceCtorEq] at h ⊢
    rename_i xs ys
    split at h <;> (try (simp at h; done))
    rename_i hl
    rw [if_pos ⟨hl.2, hl.1⟩]
    clear hl
    induction l with
    | nil => rfl
    | cons p r ih =>
      obtain ⟨x, y, hx, hy, he⟩ := cellsEq_true h p.1 p.2 (by simp)
      have hr : cellsEq xs ys r = some true := by
        simp only [cellsEq, hx, hy, he] at h
        split at h <;> (try (simp at h; done))
        rename_i b c hb hc
        simp only [Option.some.injEq, Bool.and_eq_true] at h
        rw [hc, h.2]
      simp only [cellsEq, hx, hy, sc _ _ _ he, ih hr, Bool.and_self]
def MapTo (g : G) (w : World) (b : Nat) (en' : Array MapEntry) (cl' : Nat) (o : DObj) : Prop :=
  ∀ w', Ext g w g w' → w'.heap[b]? = some (.map en' cl') → ObjOk g w' b o
theorem mapUpdate_ok {g : G} {w : World} {t kt et : TypeId} {kp : KP} (hu : P.underlying t = some (.map kt et)) (hk : keyT P kt = some kp) {b : Nat} {es es' : List (D × D)} {k v : Value} {dk dv : D} (ho : ObjOk g w b (.map es))
    (hrk : Rep g w k dk) (hrv : Rep g w v dv) (hok : keyOk kp dk = true) (hupd : updD kp dk dv es = some es') :
    ∃ en' cl', (Instr.mapUpdate t (.map (some b)) k v).run P w = .ok () { w with heap := w.heap.setIfInBounds b (.map en' cl') } ∧ MapTo g w b en' cl' (.map es') := by
  obtain ⟨hp0, en, clock, hb, hlen, h3, h4, h5, h6⟩ := ho
  obtain ⟨io, hio, hes⟩ := updD_idx hupd
  have hfind := findKey_ok (P := P) hk hrk (es := en.toList) (by simpa using hlen) (fun i e d a b => h3 i e d (by simpa using a) b) hio
  have hck := checkKey_ok (P := P) hk hrk hok false
  cases io with
  | none =>
    simp only [Option.bind_none] at hfind
    simp only at hes
    subst hes
    refine ⟨en.push { key := k, val := v, born := clock }, clock + 1, by simp [Instr.mapUpdate, run_underlying hu, MapKept.run_getObj_map hb, hck, hfind, MapKept.run_setObj_map _ hb], fun w' he hw' => ?_⟩
    refine ⟨hp0, _, _, hw', by simp [hlen], fun i e d hi hd => ?_, fun i e d hi hd => ?_, fun i j e e' hi hj hbn => ?_, fun i e hi => ?_⟩
    · rw [Array.getElem?_push] at hi
      split at hi
      · rename_i hie
        simp only [Option.some.injEq] at hi; subst hi
        simp [hie, hlen] at hd; subst hd; exact hrk.mono he
      · have hlt : i < es.length := by rw [← hlen]; exact (Array.getElem?_eq_some_iff.1 hi).1
        rw [List.getElem?_append_left hlt] at hd
        exact (h3 i e d hi hd).mono he
    · rw [Array.getElem?_push] at hi
      split at hi
      · rename_i hie
        simp only [Option.some.injEq] at hi; subst hi
        simp [hie, hlen] at hd; subst hd; exact hrv.mono he
      · have hlt : i < es.length := by rw [← hlen]; exact (Array.getElem?_eq_some_iff.1 hi).1
        rw [List.getElem?_append_left hlt] at hd
        exact (h4 i e d hi hd).mono he
    · rw [Array.getElem?_push] at hi hj
      split at hi <;> split at hj
      · omega
      · simp only [Option.some.injEq] at hi; subst hi
        have := h6 j e' hj; simp only at hbn; omega
      · simp only [Option.some.injEq] at hj; subst hj
        have := h6 i e hi; simp only at hbn; omega
      · exact h5 i j e e' hi hj hbn
    · rw [Array.getElem?_push] at hi
      split at hi
      · simp only [Option.some.injEq] at hi; subst hi; simp
      · have := h6 i e hi; omega
  | some i0 =>
    simp only at hes
    subst hes
    obtain ⟨hlt, hkeq⟩ := idxD_lt hio
    have hlt' : i0 < en.size := by omega
    have he0 : en[i0]? = some en[i0] := by simp [hlt']
    have hd0 : es[i0]? = some es[i0] := by simp [hlt]
    simp only [Option.bind_some, Array.getElem?_toList, he0, Option.map_some] at hfind
    have hstay : (Instr.keyThatStays en[i0].key k).run P w = .ok k w := by
      have := sameBits_ok (P := P) hk (h3 i0 _ _ he0 hd0) hrk (keyEq_symm (hkeq _ hd0)) 9999
      simp [Instr.keyThatStays, this]
    refine ⟨en.modify i0 fun e => { e with key := k, val := v }, clock, by simp [Instr.mapUpdate, run_underlying hu, MapKept.run_getObj_map hb, hck, hfind, MapKept.run_setObj_map _ hb, he0, hstay], fun w' he hw' => ?_⟩
    refine ⟨hp0, _, _, hw', by simp [hlen], fun i e d hi hd => ?_, fun i e d hi hd => ?_, fun i j e e' hi hj hbn => ?_, fun i e hi => ?_⟩
    · rw [Array.getElem?_modify] at hi
      split at hi
      · rename_i hie
        subst hie
        simp only [Option.map_eq_some_iff] at hi
        obtain ⟨e1, h1, rfl⟩ := hi
        simp [hlt] at hd; subst hd; exact hrk.mono he
      · rename_i hie
        rw [List.getElem?_set_ne hie] at hd
        exact (h3 i e d hi hd).mono he
    · rw [Array.getElem?_modify] at hi
      split at hi
      · rename_i hie
        subst hie
        simp only [Option.map_eq_some_iff] at hi
        obtain ⟨e1, h1, rfl⟩ := hi
        simp [hlt] at hd; subst hd; exact hrv.mono he
      · rename_i hie
        rw [List.getElem?_set_ne hie] at hd
        exact (h4 i e d hi hd).mono he
    · have hbi : ∀ {i : Nat} {e : MapEntry}, (en.modify i0 fun e => { e with key := k, val := v })[i]? = some e → ∃ e1, en[i]? = some e1 ∧ e1.born = e.born := by
        intro i e hi
        rw [Array.getElem?_modify] at hi
        split at hi
        · simp only [Option.map_eq_some_iff] at hi
          obtain ⟨e1, h1, rfl⟩ := hi
          exact ⟨e1, h1, rfl⟩
        · exact ⟨e, hi, rfl⟩
      obtain ⟨a, ha, ha'⟩ := hbi hi
      obtain ⟨c, hc, hc'⟩ := hbi hj
      exact h5 i j a c ha hc (by omega)
    · rw [Array.getElem?_modify] at hi
      split at hi
      · simp only [Option.map_eq_some_iff] at hi
        obtain ⟨e1, h1, rfl⟩ := hi
        exact h6 i e1 h1
      · exact h6 i e hi
theorem mapDelete_ok {g : G} {w : World} {t kt et : TypeId} {kp : KP} {ats : Array TypeId} (ht : ats[0]? = some t) (hu : P.underlying t = some (.map kt et)) (hk : keyT P kt = some kp) {b : Nat} {es es' : List (D × D)} {k : Value} {dk : D} (ho : ObjOk g w b (.map es))
    (hrk : Rep g w k dk) (hok : keyOk kp dk = true) (hdel : delD kp dk es = some es') (ty : TypeId) :
    ∃ en' cl', (Builtin.delete_ ats ty #[.map (some b), k]).run P w = .ok (.tuple #[]) { w with heap := w.heap.setIfInBounds b (.map en' cl') } ∧ MapTo g w b en' cl' (.map es') := by
  obtain ⟨hp0, en, clock, hb, hlen, h3, h4, h5, h6⟩ := ho
  obtain ⟨io, hio, hes⟩ := delD_idx hdel
  have hfind := findKey_ok (P := P) hk hrk (es := en.toList) (by simpa using hlen) (fun i e d a b => h3 i e d (by simpa using a) b) hio
  have hck := checkKey_ok (P := P) hk hrk hok en.isEmpty
  cases io with
  | none =>
    simp only [Option.bind_none] at hfind
    simp only at hes
    subst hes
    refine ⟨en, clock, by simp [Builtin.delete_, ht, run_underlying hu, MapKept.run_getObj_map hb, hck, hfind, MapKept.run_setObj_map _ hb], fun w' he hw' => ?_⟩
    exact ⟨hp0, _, _, hw', hlen, fun i e d hi hd => (h3 i e d hi hd).mono he, fun i e d hi hd => (h4 i e d hi hd).mono he, h5, h6⟩
  | some i0 =>
    simp only at hes
    subst hes
    obtain ⟨hlt, hkeq⟩ := idxD_lt hio
    have hlt' : i0 < en.size := by omega
    have he0 : en[i0]? = some en[i0] := by simp [hlt']
    simp only [Option.bind_some, Array.getElem?_toList, he0, Option.map_some] at hfind
    have hers : en.eraseIdxIfInBounds i0 = en.eraseIdx i0 hlt' := by simp [Array.eraseIdxIfInBounds, hlt']
    have hget : ∀ i, (en.eraseIdxIfInBounds i0)[i]? = if i < i0 then en[i]? else en[i + 1]? := fun i => by
      rw [hers, ← Array.getElem?_toList, Array.toList_eraseIdx, List.getElem?_eraseIdx]; simp
    have hgetl : ∀ i, (es.eraseIdx i0)[i]? = if i < i0 then es[i]? else es[i + 1]? := fun i => List.getElem?_eraseIdx ..
    refine ⟨en.eraseIdxIfInBounds i0, clock, by simp [Builtin.delete_, ht, run_underlying hu, MapKept.run_getObj_map hb, hck, hfind, MapKept.run_setObj_map _ hb], fun w' he hw' => ?_⟩
    refine ⟨hp0, _, _, hw', by rw [hers]; simp [hlt, hlen, List.length_eraseIdx], fun i e d hi hd => ?_, fun i e d hi hd => ?_, fun i j e e' hi hj hbn => ?_, fun i e hi => ?_⟩
    · rw [hget] at hi; rw [hgetl] at hd
      split at hi
      · rename_i h; rw [if_pos h] at hd; exact (h3 i e d hi hd).mono he
      · rename_i h; rw [if_neg h] at hd; exact (h3 _ e d hi hd).mono he
    · rw [hget] at hi; rw [hgetl] at hd
      split at hi
      · rename_i h; rw [if_pos h] at hd; exact (h4 i e d hi hd).mono he
      · rename_i h; rw [if_neg h] at hd; exact (h4 _ e d hi hd).mono he
    · rw [hget] at hi hj
      split at hi <;> split at hj
      · exact h5 i j e e' hi hj hbn
      · have := h5 i (j + 1) e e' hi hj hbn; omega
      · have := h5 (i + 1) j e e' hi hj hbn; omega
      · have := h5 (i + 1) (j + 1) e e' hi hj hbn; omega
    · rw [hget] at hi
      split at hi <;> exact h6 _ e hi
theorem entD_idx {kp : KP} {k z : D} : ∀ {es : List (D × D)} {v : D}, entD kp k z es = some v → ∃ io, idxD kp k es = some io ∧ v = match io with
    | none => z
    | some i => ((es[i]?).map (·.2)).getD z
  | [], v, h => by simp only [entD, Option.some.injEq] at h; exact ⟨none, rfl, h.symm⟩
  | e :: es, v, h => by
    simp only [entD] at h
    split at h
    · rename_i he; simp only [Option.some.injEq] at h; exact ⟨some 0, by simp [idxD, he], by simp [h]⟩
    · rename_i he
      obtain ⟨io, h1, h2⟩ := entD_idx h
      refine ⟨io.map (· + 1), by simp [idxD, he, h1], ?_⟩
      rw [h2]; cases io <;> simp
    · simp at h
theorem mapEntry_ok {g : G} {w : World} {t kt et : TypeId} {kp : KP} {z : D} (hu : P.underlying t = some (.map kt et)) (hk : keyT P kt = some kp) (hz : zero1 P et = some z) {b : Nat} {es : List (D × D)} {k : Value} {dk dv : D} (ho : ObjOk g w b (.map es))
    (hrk : Rep g w k dk) (hok : keyOk kp dk = true) (hent : entD kp dk z es = some dv) :
    ∃ en' cl' v n, (Instr.mapEntry t (.map (some b)) k).run P w = .ok (.tuple #[v, .int .i64 (n : Nat)]) { w with heap := w.heap.setIfInBounds b (.map en' cl') } ∧ Rep g w v dv ∧ MapTo g w b en' cl' (.mapE kp es dk n) := by
  obtain ⟨hp0, en, clock, hb, hlen, h3, h4, h5, h6⟩ := ho
  obtain ⟨io, hio, hdv⟩ := entD_idx hent
  have hfind := findKey_ok (P := P) hk hrk (es := en.toList) (by simpa using hlen) (fun i e d a b => h3 i e d (by simpa using a) b) hio
  have hck := checkKey_ok (P := P) hk hrk hok false
  cases io with
  | none =>
    obtain ⟨zv, hz1, hz2⟩ := zero1_ok (P := P) (g := g) (w := w) hz
    simp only [Option.bind_none] at hfind
    simp only at hdv
    subst hdv
    refine ⟨en.push { key := k, val := zv, born := clock }, clock + 1, zv, clock, by simp [Instr.mapEntry, run_underlying hu, MapKept.run_getObj_map hb, hck, hfind, MapKept.run_setObj_map _ hb, hz1, goInt], hz2, fun w' he hw' => ?_⟩
    refine ⟨hp0, none, hio, _, _, hw', by simp [hlen], fun i e d hne hi hd => ?_, fun i e d hne hi hd => ?_, fun e hi => ?_, fun i j e e' hi hj hbn => ?_, fun i e hi => ?_⟩
    · have hlt : i < es.length := (List.getElem?_eq_some_iff.1 hd).1
      rw [Array.getElem?_push, if_neg (by omega)] at hi
      exact (h3 i e d hi hd).mono he
    · have hlt : i < es.length := (List.getElem?_eq_some_iff.1 hd).1
      rw [Array.getElem?_push, if_neg (by omega)] at hi
      exact (h4 i e d hi hd).mono he
    · simp only [Option.getD_none, ← hlen, Array.getElem?_push, if_true, Option.some.injEq] at hi
      subst hi; exact ⟨hrk.mono he, rfl⟩
    · rw [Array.getElem?_push] at hi hj
      split at hi <;> split at hj
      · omega
      · simp only [Option.some.injEq] at hi; subst hi
        have := h6 j e' hj; simp only at hbn; omega
      · simp only [Option.some.injEq] at hj; subst hj
        have := h6 i e hi; simp only at hbn; omega
      · exact h5 i j e e' hi hj hbn
    · rw [Array.getElem?_push] at hi
      split at hi
      · simp only [Option.some.injEq] at hi; subst hi; simp
      · have := h6 i e hi; omega
  | some i0 =>
    obtain ⟨hlt, hkeq⟩ := idxD_lt hio
    have hlt' : i0 < en.size := by omega
    have he0 : en[i0]? = some en[i0] := by simp [hlt']
    have hd0 : es[i0]? = some es[i0] := by simp [hlt]
    simp only [hd0, Option.map_some, Option.getD_some] at hdv
    subst hdv
    simp only [Option.bind_some, Array.getElem?_toList, he0, Option.map_some] at hfind
    have hstay : (Instr.keyThatStays en[i0].key k).run P w = .ok k w := by
      have := sameBits_ok (P := P) hk (h3 i0 _ _ he0 hd0) hrk (keyEq_symm (hkeq _ hd0)) 9999
      simp [Instr.keyThatStays, this]
    have hbi : ∀ {i : Nat} {e : MapEntry}, (en.modify i0 fun e => { e with key := k })[i]? = some e → ∃ e1, en[i]? = some e1 ∧ e1.born = e.born ∧ e.val = e1.val ∧ (i ≠ i0 → e = e1) ∧ (i = i0 → e.key = k) := by
      intro i e hi
      rw [Array.getElem?_modify] at hi
      split at hi
      · rename_i hie
        simp only [Option.map_eq_some_iff] at hi
        obtain ⟨e1, h1, rfl⟩ := hi
        exact ⟨e1, h1, rfl, rfl, fun h => absurd hie.symm h, fun _ => rfl⟩
      · rename_i hie
        exact ⟨e, hi, rfl, rfl, fun _ => rfl, fun h => absurd h.symm hie⟩
    refine ⟨en.modify i0 fun e => { e with key := k }, clock, en[i0].val, en[i0].born, by simp [Instr.mapEntry, run_underlying hu, MapKept.run_getObj_map hb, hck, hfind, MapKept.run_setObj_map _ hb, he0, hstay, goInt], h4 i0 _ _ he0 hd0, fun w' he hw' => ?_⟩
    refine ⟨hp0, some i0, hio, _, _, hw', by simp [hlen], fun i e d hne hi hd => ?_, fun i e d hne hi hd => ?_, fun e hi => ?_, fun i j e e' hi hj hbn => ?_, fun i e hi => ?_⟩
    · obtain ⟨e1, ha, _, _, hc, _⟩ := hbi hi
      rw [hc (by simpa using hne)]; exact (h3 i e1 d ha hd).mono he
    · obtain ⟨e1, ha, _, hv, _⟩ := hbi hi
      rw [hv]; exact (h4 i e1 d ha hd).mono he
    · simp only [Option.getD_some] at hi
      obtain ⟨e1, ha, hbn, hv, _, hkk⟩ := hbi hi
      rw [he0] at ha
      simp only [Option.some.injEq] at ha
      exact ⟨by rw [hkk rfl]; exact hrk.mono he, by rw [← hbn, ← ha]⟩
    · obtain ⟨a, ha, ha', _⟩ := hbi hi
      obtain ⟨c, hc, hc', _⟩ := hbi hj
      exact h5 i j a c ha hc (by omega)
    · obtain ⟨a, ha, ha', _⟩ := hbi hi
      have := h6 i a ha; omega
theorem entryStore_ok {g : G} {w : World} {t : TypeId} {kp : KP} {b n : Nat} {es es' : List (D × D)} {v : Value} {dk dv : D} (ho : ObjOk g w b (.mapE kp es dk n)) (hrv : Rep g w v dv) (hupd : updD kp dk dv es = some es') :
    ∃ en' cl', (Instr.entryStore t (.map (some b)) (.int .i64 n) v).run P w = .ok () { w with heap := w.heap.setIfInBounds b (.map en' cl') } ∧ MapTo g w b en' cl' (.map es') := by
  obtain ⟨hp0, io, hio, en, clock, hb, hlen, h3, h4, h5, h6, h7⟩ := ho
  obtain ⟨io', hio', hes⟩ := updD_idx hupd
  rw [hio] at hio'
  simp only [Option.some.injEq] at hio'
  subst hio'
  generalize hix : io.getD es.length = ix at *
  have hlt : ix < en.size := by
    cases io with
    | none => simp only [Option.getD_none] at hix; simp only at hlen; omega
    | some i => simp only [Option.getD_some] at hix; simp only at hlen; have := (idxD_lt hio).1; omega
  have he0 : en[ix]? = some en[ix] := by simp [hlt]
  obtain ⟨hkx, hbx⟩ := h5 _ he0
  have hfi : en.findIdx? (fun e => (e.born : Int) == (n : Int)) = some ix := by
    rw [Array.findIdx?_eq_some_iff_getElem]
    refine ⟨hlt, by simp [hbx], fun j hj => ?_⟩
    simp only [beq_iff_eq, Int.natCast_inj]
    intro hjn
    have := h6 j ix en[j] en[ix] (by simp [show j < en.size by omega]) he0 (by omega)
    omega
  have hsz : en.size = es'.length := by
    cases io with
    | none => simp only at hes hlen; rw [hes]; simp [hlen]
    | some i => simp only at hes hlen; rw [hes]; simp [hlen]
  have hes' : ∀ i d, es'[i]? = some d → (i = ix ∧ d = (dk, dv)) ∨ (i ≠ ix ∧ es[i]? = some d) := by
    intro i d hd
    cases io with
    | none =>
      simp only [Option.getD_none] at hix
      subst hix
      simp only at hes
      rw [hes] at hd
      by_cases hi : i < es.length
      · rw [List.getElem?_append_left hi] at hd; exact .inr ⟨by omega, hd⟩
      · rw [List.getElem?_append_right (by omega)] at hd
        have h0 : i - es.length = 0 := by
          rcases Nat.eq_zero_or_pos (i - es.length) with h | h
          · exact h
          · rw [List.getElem?_eq_none (by simp; omega)] at hd; simp at hd
        rw [h0] at hd
        simp at hd; exact .inl ⟨by omega, hd.symm⟩
    | some j =>
      simp only [Option.getD_some] at hix
      subst hix
      simp only at hes
      rw [hes] at hd
      by_cases hi : j = i
      · subst hi
        have := (idxD_lt hio).1
        simp [this] at hd; exact .inl ⟨rfl, hd.symm⟩
      · rw [List.getElem?_set_ne hi] at hd; exact .inr ⟨fun h => hi h.symm, hd⟩
  have hbi : ∀ {i : Nat} {e : MapEntry}, (en.modify ix fun e => { e with val := v })[i]? = some e → ∃ e1, en[i]? = some e1 ∧ e1.born = e.born ∧ e.key = e1.key ∧ (i ≠ ix → e = e1) ∧ (i = ix → e.val = v) := by
    intro i e hi
    rw [Array.getElem?_modify] at hi
    split at hi
    · rename_i hie
      simp only [Option.map_eq_some_iff] at hi
      obtain ⟨e1, h1, rfl⟩ := hi
      exact ⟨e1, h1, rfl, rfl, fun h => absurd hie.symm h, fun _ => rfl⟩
    · rename_i hie
      exact ⟨e, hi, rfl, rfl, fun _ => rfl, fun h => absurd h.symm hie⟩
  refine ⟨en.modify ix fun e => { e with val := v }, clock, by simp [Instr.entryStore, MapKept.run_getObj_map hb, asInt, asIntOf, hfi, MapKept.run_setObj_map _ hb], fun w' he hw' => ?_⟩
  refine ⟨hp0, _, _, hw', by simp [hsz], fun i e d hi hd => ?_, fun i e d hi hd => ?_, fun i j e e' hi hj hbn => ?_, fun i e hi => ?_⟩
  · obtain ⟨e1, ha, _, hk, _⟩ := hbi hi
    rw [hk]
    rcases hes' i d hd with ⟨rfl, rfl⟩ | ⟨hne, hd'⟩
    · rw [he0] at ha; simp only [Option.some.injEq] at ha; rw [← ha]; exact hkx.mono he
    · exact (h3 i e1 d hne ha hd').mono he
  · obtain ⟨e1, ha, _, _, hc, hv⟩ := hbi hi
    rcases hes' i d hd with ⟨rfl, rfl⟩ | ⟨hne, hd'⟩
    · rw [hv rfl]; exact hrv.mono he
    · rw [hc hne]; exact (h4 i e1 d hne ha hd').mono he
  · obtain ⟨a, ha, ha', _⟩ := hbi hi
    obtain ⟨c, hc, hc', _⟩ := hbi hj
    exact h6 i j a c ha hc (by omega)
  · obtain ⟨a, ha, ha', _⟩ := hbi hi
    have := h7 i a ha; omega
end
end Go.DL
namespace Go.DL
open Go
section
variable {P : Program}
theorem rep_map {g : G} {w : World} {v : Value} {b : Nat} (h : Rep g w v (.map b)) : v = .map (some b) := by cases h; rfl
theorem mapAt_some {s : St} {b : Nat} {es : List (D × D)} (h : mapAt s b = some es) : s b = some (.map es) := by
  unfold mapAt at h
  split at h <;> simp only [Option.some.injEq, reduceCtorEq] at h
  subst h; assumption
theorem goes_map {F : Fr P} {ops : Array Oper} {i : Nat} {r : List Nat} {k : List Item} {oo : Oper} {o : DOp} {g : G} {ν : Nat → Nat} {w : World} {tmps : Array Value} {ρ : Env} {L : Loc} {s : St} (hN : F.N ≤ tmps.size) (m : Models g ν w tmps ρ L s)
    (hoo : ops[i]? = some oo) (hdst : oo.dst = o.dst) (hdst0 : o.dst = none) (hw : Region.wanted oo (yielded ops tmps) = true) (hnd : ∀ c, oo.op ≠ .defer c) {b : Nat} {o1 o' : DObj} (hb : s b = some o1) {en en' : Array MapEntry} {cl cl' : Nat}
    (hh : w.heap[b]? = some (.map en cl)) (hp : g.prot b = 0) (hmap : MapTo g w b en' cl' o') {x : Value}
    (hrun : (execOp (Act.mk tmps F.ds).eval oo).run P w = .ok .skip { w with heap := w.heap.setIfInBounds b (.map en' cl') } ∨ (execOp (Act.mk tmps F.ds).eval oo).run P w = .ok (.value x) { w with heap := w.heap.setIfInBounds b (.map en' cl') })
    (h : Goes F (.inRegion ops r :: k) ρ L (s.upd b o')) : F.T.T g w (lone (F.b.atR ⟨tmps, F.ds⟩ (.inRegion ops (i :: r) :: k)) F.cs w) := by
  have he := ext_setMap (g := g) b (.map en' cl') hh hp (m.st.kept b _ hb)
  have m' := m.named hb he (by simp) (fun c hc => setMap_other _ hc) (hmap _ he (setMap_at _ hh))
  rcases hrun with hrun | hrun
  · refine F.T.back _ _ _ _ (.one (step_skip' hoo hw hnd hrun)) ?_
    rw [hdst, hdst0]
    exact F.T.ext _ _ _ _ _ he (h g ν _ tmps hN m')
  · refine F.T.back _ _ _ _ (.one (step_value hoo hw hnd hrun)) ?_
    rw [hdst, hdst0]
    exact F.T.ext _ _ _ _ _ he (h g ν _ tmps hN m')
theorem DO_mapupd {F : Fr P} {kp : Option (List Nat)} {dk : List DItem} {o : DOp} {os : List DOp} {ρ : Env} {L : Loc} {s : St} (hg : o.guard = none) (hdn : o.dst = none) {mk : KP} {mx kx vx : Opd} (hk : o.k = .mapupd mk mx kx vx)
    {p q r : Prop} {b : Nat} {kd vd : D} (hm : argE ρ true mx = some (p, .d (.map b))) (hkk : argE ρ true kx = some (q, .d kd)) (hv : argE ρ true vx = some (r, .d vd)) (hp : p) (hq : q) (hr : r) {es es' : List (D × D)} (hb : mapAt s b = some es)
    (hupd : updD mk kd vd es = some es') (hok : keyOk mk kd = true) (h : DO F kp dk os ρ L (s.upd b (.map es'))) : DO F kp dk (o :: os) ρ L s := by
  refine DO_of fun oo g ν w tmps ops i r' k hoo hck hcg hdst hd hN m hro hkk' => ?_
  have hw := guard_ok m hcg (c := true) (by rw [hg]; rfl)
  have hnd := ck_defer hck (by rw [hk]; rfl)
  rw [hk] at hck
  obtain ⟨t, kt, et, m', k', v', hop, hu, hkt, hm', hk', hv'⟩ := ck_mapupd hck
  have e1 := rep_map (g := g) (w := w) (opd_ok m hm' rfl hm hp F.ds)
  have e2 : Rep g w _ _ := opd_ok m hk' rfl hkk hq F.ds
  have e3 : Rep g w _ _ := opd_ok m hv' rfl hv hr F.ds
  have ho := mapAt_ok m.st hb
  obtain ⟨en', cl', hrun, hto⟩ := mapUpdate_ok hu hkt ho e2 e3 hok hupd
  obtain ⟨hp0, en, cl, hh, _⟩ := ho
  refine goes_map (x := undef) hN m hoo hdst hdn hw hnd (mapAt_some hb) hh hp0 hto (.inl ?_) (h ops r' k hro hkk')
  rcases hop with hop | hop <;> simp [execOp, hop, e1, hrun]
theorem DO_delete {F : Fr P} {kp : Option (List Nat)} {dk : List DItem} {o : DOp} {os : List DOp} {ρ : Env} {L : Loc} {s : St} (hg : o.guard = none) (hdn : o.dst = none) {mk : KP} {mx kx : Opd} (hk : o.k = .delete mk mx kx)
    {p q : Prop} {b : Nat} {kd : D} (hm : argE ρ true mx = some (p, .d (.map b))) (hkk : argE ρ true kx = some (q, .d kd)) (hp : p) (hq : q) {es es' : List (D × D)} (hb : mapAt s b = some es)
    (hupd : delD mk kd es = some es') (hok : keyOk mk kd = true) (h : DO F kp dk os ρ L (s.upd b (.map es'))) : DO F kp dk (o :: os) ρ L s := by
  refine DO_of fun oo g ν w tmps ops i r' k hoo hck hcg hdst hd hN m hro hkk' => ?_
  have hw := guard_ok m hcg (c := true) (by rw [hg]; rfl)
  have hnd := ck_defer hck (by rw [hk]; rfl)
  rw [hk] at hck
  obtain ⟨ats, t, kt, et, m', k', hop, ht, hu, hkt, hm', hk'⟩ := ck_delete hck
  have e1 := rep_map (g := g) (w := w) (opd_ok m hm' rfl hm hp F.ds)
  have e2 : Rep g w _ _ := opd_ok m hk' rfl hkk hq F.ds
  have ho := mapAt_ok m.st hb
  obtain ⟨en', cl', hrun, hto⟩ := mapDelete_ok ht hu hkt ho e2 hok hupd oo.type
  obtain ⟨hp0, en, cl, hh, _⟩ := ho
  refine goes_map (x := .tuple #[]) hN m hoo hdst hdn hw hnd (mapAt_some hb) hh hp0 hto (.inr ?_) (h ops r' k hro hkk')
  simp [execOp, hop, resolve, invoke, builtin, e1, hrun]
theorem DO_mapent {F : Fr P} {kp : Option (List Nat)} {dk : List DItem} {o : DOp} {os : List DOp} {ρ : Env} {L : Loc} {s : St} (hg : o.guard = none) {t : Nat} (hdt : o.dst = some t) {mk : KP} {z : D} {mx kx : Opd} (hk : o.k = .mapent mk z mx kx)
    {p q : Prop} {b : Nat} {kd v : D} (hm : argE ρ true mx = some (p, .d (.map b))) (hkk : argE ρ true kx = some (q, .d kd)) (hp : p) (hq : q) {es : List (D × D)} (hb : mapAt s b = some es)
    (hent : entD mk kd z es = some v) (hok : keyOk mk kd = true) (h : ∀ n, DO F kp dk os ((t, .d (.tup [v, .stamp n])) :: ρ) L (s.upd b (.mapE mk es kd n))) : DO F kp dk (o :: os) ρ L s := by
  refine DO_of fun oo g ν w tmps ops i r' k hoo hck hcg hdst hd hN m hro hkk' => ?_
  have hw := guard_ok m hcg (c := true) (by rw [hg]; rfl)
  have hnd := ck_defer hck (by rw [hk]; rfl)
  rw [hk] at hck
  obtain ⟨ty, kt, et, m', k', hop, hu, hkt, hz, hm', hk'⟩ := ck_mapent hck
  have e1 := rep_map (g := g) (w := w) (opd_ok m hm' rfl hm hp F.ds)
  have e2 : Rep g w _ _ := opd_ok m hk' rfl hkk hq F.ds
  have ho := mapAt_ok m.st hb
  obtain ⟨en', cl', vv, n, hrun, hrv, hto⟩ := mapEntry_ok hu hkt hz ho e2 hok hent
  obtain ⟨hp0, en, cl, hh, _⟩ := ho
  have hsb := mapAt_some hb
  have he := ext_setMap (g := g) b (.map en' cl') hh hp0 (m.st.kept b _ hsb)
  have m'' := m.named hsb he (by simp) (fun c hc => setMap_other _ hc) (hto _ he (setMap_at _ hh))
  refine goes_world (L' := L) hN hoo hdst hd hw hnd (v := .tuple #[vv, .int .i64 n]) (e := .d (.tup [v, .stamp n])) ?_ he m'' ((rep_tup2 hrv (.stamp n)).mono he) ?_
  · simp [execOp, hop, e1, hrun]
  · rw [hdt]; exact h n ops r' k hro hkk'
theorem DO_entst {F : Fr P} {kp : Option (List Nat)} {dk : List DItem} {o : DOp} {os : List DOp} {ρ : Env} {L : Loc} {s : St} (hg : o.guard = none) (hdn : o.dst = none) {mk : KP} {mx kx vx : Opd} (hk : o.k = .entst mx kx vx)
    {p q r : Prop} {b n : Nat} {kd vd : D} (hm : argE ρ true mx = some (p, .d (.map b))) (hkk : argE ρ true kx = some (q, .d (.stamp n))) (hv : argE ρ true vx = some (r, .d vd)) (hp : p) (hq : q) (hr : r) {es es' : List (D × D)} (hb : s b = some (.mapE mk es kd n))
    (hupd : updD mk kd vd es = some es') (h : DO F kp dk os ρ L (s.upd b (.map es'))) : DO F kp dk (o :: os) ρ L s := by
  refine DO_of fun oo g ν w tmps ops i r' k hoo hck hcg hdst hd hN m hro hkk' => ?_
  have hw := guard_ok m hcg (c := true) (by rw [hg]; rfl)
  have hnd := ck_defer hck (by rw [hk]; rfl)
  rw [hk] at hck
  obtain ⟨t, m', k', v', hop, hm', hk', hv'⟩ := ck_entst hck
  have e1 := rep_map (g := g) (w := w) (opd_ok m hm' rfl hm hp F.ds)
  have e2 : Rep g w _ _ := opd_ok m hk' rfl hkk hq F.ds
  have e3 : Rep g w _ _ := opd_ok m hv' rfl hv hr F.ds
  have e2' : (Act.mk tmps F.ds).eval k' = .int .i64 n := by
    generalize (Act.mk tmps F.ds).eval k' = z at e2
    cases e2; rfl
  have ho := m.st.obj b _ hb
  obtain ⟨en', cl', hrun, hto⟩ := entryStore_ok (P := P) (t := t) ho e3 hupd
  obtain ⟨hp0, io, _, en, cl, hh, _⟩ := ho
  refine goes_map (x := undef) hN m hoo hdst hdn hw hnd hb hh hp0 hto (.inl ?_) (h ops r' k hro hkk')
  simp [execOp, hop, e1, e2', hrun]
theorem DO_s2b {F : Fr P} {kp : Option (List Nat)} {dk : List DItem} {o : DOp} {os : List DOp} {ρ : Env} {L : Loc} {s : St} {c : Bool} (hg : guardB ρ o.guard = some c) {x : Opd} (hk : o.k = .s2b x) {p : Prop} {l : List UInt8}
    (ha : argE ρ c x = some (p, .d (.str l))) (hs : c = true → p) {e' : E}
    (he : e' = .when c (.d (.sl .none l.length 1 (fun i => [.int .u8 ((l.getD i 0).toNat : Int)]))) ∨ (c = true ∧ e' = .d (.sl .none l.length 1 (fun i => [.int .u8 ((l.getD i 0).toNat : Int)]))))
    (h : DO F kp dk os (putE ρ o.dst e') L s) : DO F kp dk (o :: os) ρ L s := by
  refine DO_of fun oo g ν w tmps ops i r k hoo hck hcg hdst hd hN m hr hkk => ?_
  have hgo := h ops r k hr hkk
  have hw := guard_ok m hcg hg
  have hnd := ck_defer hck (by rw [hk]; rfl)
  cases c
  · rcases he with rfl | ⟨h0, _⟩
    · exact goes_unwanted (P := P) hN m hoo hdst hd hw hgo
    · simp at h0
  · rw [hk] at hck
    obtain ⟨sT, dT, x', e, hop, hus, hud, hue, hx'⟩ := ck_s2b hck
    obtain ⟨s0, hs0, e0, hb0⟩ := rep_str (g := g) (w := w) (opd_ok m hx' rfl ha (hs rfl) F.ds)
    have hsz : s0.size = l.length := by rw [← e0]; rfl
    have hrun := Lib.run_convert_string_bytes (P := P) w sT dT e s0 hus hud hue
    have hle := grownCap_le_maxLen w s0.size 0 e (by rw [hsz]; unfold big at hb0; unfold maxLen; omega)
    have hge := grownCap_ge w s0.size 0 e
    let g' : G := { g with prot := fun b => if b = w.heap.size then l.length else g.prot b }
    have hgr : Grow g w g' (Lib.bytesWorld w e s0) := by
      refine ⟨by rw [Lib.bytesWorld_size]; omega, fun b hb => Lib.bytesWorld_at_old w e s0 b hb, fun b hb => by simp [g', Nat.ne_of_lt hb], fun b hb => ?_, rfl, ?_, ?_, ?_⟩
      · rw [Lib.bytesWorld_size] at hb
        simp [g', show b ≠ w.heap.size by omega, (m.st.fresh b (by omega)).1]
      · rfl
      · rfl
      · rfl
    have hrep : Rep g' (Lib.bytesWorld w e s0) (.slice (some ⟨w.heap.size, 0, none⟩) s0.size (grownCap w s0.size 0 e)) (.sl .none l.length 1 (fun i => [.int .u8 ((l.getD i 0).toNat : Int)])) := by
      rw [hsz] at hle hge ⊢
      refine .sl w.heap.size 0 l.length _ 1 _ .none (fun i _ => .int .u8 ((l.getD i 0).toNat : Int)) (fun i hi => rfl) (fun i j hi hj => ?_) (fun i j hi hj => ?_) (fun i j d hi hd => ?_) (fun i j _ _ => rfl) trivial (by omega) (by unfold big; unfold maxLen at hle; omega)
      · have := Lib.bytesWorld_cell w e s0 (0 + i * 1 + j) (by omega)
        rw [this, e0]
        have : 0 + i * 1 + j = i := by omega
        rw [this]
      · simp [g']; omega
      · cases j with
        | zero => simp only [List.getElem?_cons_zero, Option.some.injEq] at hd; subst hd; exact .int _ _ (inR_u8 _)
        | succ j => simp at hd
    refine goes_world hN hoo hdst hd hw hnd (v := .slice (some ⟨w.heap.size, 0, none⟩) s0.size (grownCap w s0.size 0 e)) ?_ (hgr.ext m.st.fresh) (m.grow hgr) ?_ hgo
    · simp [execOp, hop, hs0, hrun]
    · rcases he with rfl | ⟨_, rfl⟩
      · exact ⟨fun _ => hrep, fun h => by simp at h⟩
      · exact hrep
end
end Go.DL
namespace Go.DL
open Go
section
variable {P : Program}
theorem DO_bsl {F : Fr P} {kp : Option (List Nat)} {dk : List DItem} {o : DOp} {os : List DOp} {ρ : Env} {L : Loc} {s : St} {c : Bool} (hg : guardB ρ o.guard = some c) {len n : Nat} {z : List D} {is : List Nat} {xs : List Opd}
    (hk : o.k = .bsl len n z is xs) {p : Prop} {es : List E} {ds : List D} (ha : argsE ρ c xs = some (p, es)) (hds : dsOf es = some ds) (hs : c = true → p ∧ partsOk n ds = true) {e' : E}
    (he : e' = .when c (.d (.sl .full len n (litRow z (is.zip ds)))) ∨ (c = true ∧ e' = .d (.sl .full len n (litRow z (is.zip ds)))))
    (h : DO F kp dk os (putE ρ o.dst e') L s) : DO F kp dk (o :: os) ρ L s := by
  refine DO_of fun oo g ν w tmps ops i r k hoo hck hcg hdst hd hN m hr hkk => ?_
  have hgo := h ops r k hr hkk
  have hw := guard_ok m hcg hg
  have hnd := ck_defer hck (by rw [hk]; rfl)
  cases c
  · rcases he with rfl | ⟨h0, _⟩
    · exact goes_unwanted (P := P) hN m hoo hdst hd hw hgo
    · simp at h0
  · rw [hk] at hck
    obtain ⟨t, e, parts, hop, hu, hsz, hz, hxs, rfl, hdis, hzl, hs0, hbig⟩ := ck_bsl hck
    have hargs := opds_ok m rfl F.ds hxs ha (hs rfl).1
    have hreps := reps_of_dsOf hargs hds
    obtain ⟨v, w', g', h1, h2, h3⟩ := bsl_ok (P := P) (g := g) (w := w) (parts := parts.toList.map fun x => (x.1, (Act.mk tmps F.ds).eval x.2)) hu hsz hz (by simpa [List.map_map, Function.comp_def] using hdis) hzl hs0 hbig
      (by simpa [List.map_map, Function.comp_def] using hreps) (hs rfl).2 m.st.fresh
    have hx := h2.ext m.st.fresh
    have hrun : (execOp (Act.mk tmps F.ds).eval oo).run P w = .ok (.value v) w' := by
      simp only [execOp, hop, Sem.run_bind]
      have e1 : (parts.map fun x => (x.1, (Act.mk tmps F.ds).eval x.2)) = (parts.toList.map fun x => (x.1, (Act.mk tmps F.ds).eval x.2)).toArray := by apply Array.ext'; simp
      rw [e1, h1]
      rfl
    have h3' : Rep g' w' v (.sl .full len n (litRow z ((parts.toList.map (·.1)).zip ds))) := by simpa [List.map_map, Function.comp_def] using h3
    refine goes_world hN hoo hdst hd hw hnd hrun hx (m.grow h2) ?_ hgo
    rcases he with rfl | ⟨_, rfl⟩
    · exact ⟨fun _ => h3', fun h => by simp at h⟩
    · exact h3'
theorem DO_pick {F : Fr P} {kp : Option (List Nat)} {dk : List DItem} {o : DOp} {os : List DOp} {ρ : Env} {L : Loc} {s : St} {c : Bool} (hg : guardB ρ o.guard = some c) {x a b : Opd} (hk : o.k = .pick x a b)
    {p : Prop} {v : Bool} (ha : pickE ρ c x a b = some (p, v)) (hs : c = true → p) {e' : E} (he : e' = .when c (.d (.bool v)) ∨ (c = true ∧ e' = .d (.bool v)))
    (h : DO F kp dk os (putE ρ o.dst e') L s) : DO F kp dk (o :: os) ρ L s := by
  refine DO_val hg (by rw [hk]; rfl) he (fun hc oo g ν w tmps hck m => ?_) h
  rw [hk] at hck
  obtain ⟨x', a', b', hop, h1, h2, h3⟩ := ck_pick hck
  refine ⟨.bool v, ?_, .bool v⟩
  obtain ⟨dst, op, ty, pos, af, gd⟩ := oo
  simp only at hop
  subst hop
  exact pickE_ok m h1 h2 h3 hc ha (hs hc) _ _ _ _ _ _
theorem stepSt_ok {ρ ρ' : Env} {L L' : Loc} {s s' : St} {p q ok side : Prop} {a : E} {n : Nat} {xs : List D} (h : stepSt ρ L s p q ok a n xs = .ok side ρ' L' s') :
    ρ' = ρ ∧ ((∃ l off cs, a = .loc l off ∧ getL L l = some cs ∧ side = (p ∧ q ∧ off + n ≤ cs.length ∧ ok) ∧ L' = (l, setPart cs off xs) :: L ∧ s' = s) ∨
      ∃ b off cs, a = .d (.ptr b off) ∧ cellsAt s b = some cs ∧ side = (p ∧ q ∧ off + n ≤ cs.length ∧ ok) ∧ L' = L ∧ s' = s.upd b (.cells (setPart cs off xs))) := by
  unfold stepSt at h
  split at h <;> (try (simp at h; done))
  · rename_i l off
    split at h <;> simp only [SR.ok.injEq, reduceCtorEq] at h
    rename_i cs hcs
    obtain ⟨rfl, rfl, rfl, rfl⟩ := h
    exact ⟨rfl, .inl ⟨l, off, cs, rfl, hcs, rfl, rfl, rfl⟩⟩
  · rename_i b off
    split at h <;> simp only [SR.ok.injEq, reduceCtorEq] at h
    rename_i cs hcs
    obtain ⟨rfl, rfl, rfl, rfl⟩ := h
    exact ⟨rfl, .inr ⟨b, off, cs, rfl, hcs, rfl, rfl, rfl⟩⟩
theorem stepSt_all {ρ : Env} {L : Loc} {s : St} {p q ok side : Prop} {a : E} {n : Nat} {xs : List D} {pre : Nat → Prop} {ρ' : Nat → Env} {s' : Nat → St} : stepSt ρ L s p q ok a n xs ≠ .all side pre ρ' s' := by
  unfold stepSt
  split <;> (try (split <;> simp)) <;> simp
theorem DO_step {F : Fr P} {kp : Option (List Nat)} {dk : List DItem} {o : DOp} {os : List DOp} {ρ ρ' : Env} {L L' : Loc} {s s' : St} {side : Prop} (hst : stepQ o ρ L s = .ok side ρ' L' s') (hs : side)
    (h : DO F kp dk os ρ' L' s') : DO F kp dk (o :: os) ρ L s := by
  obtain ⟨dst, gd, k⟩ := o
  unfold stepQ at hst
  cases hg : guardB ρ gd with
  | none => simp [hg] at hst
  | some c =>
    simp only [hg] at hst
    have hc0 : gd = none → c = true := fun h0 => by subst h0; simpa [guardB] using hg.symm
    cases k with
    | q q xs =>
      simp only at hst
      split at hst <;> (try (simp at hst; done))
      rename_i p es ha
      split at hst <;> (try (simp at hst; done))
      rename_i sd e hq
      split at hst <;> (simp only [SR.ok.injEq] at hst; obtain ⟨rfl, rfl, rfl, rfl⟩ := hst)
      · obtain rfl := hc0 rfl
        exact DO_q hg rfl ha hq (fun _ => hs) (.inr ⟨rfl, rfl⟩) h
      · exact DO_q hg rfl ha hq hs (.inl rfl) h
    | pick x a b =>
      simp only at hst
      split at hst <;> (try (simp at hst; done))
      rename_i p v ha
      split at hst <;> (simp only [SR.ok.injEq] at hst; obtain ⟨rfl, rfl, rfl, rfl⟩ := hst)
      · obtain rfl := hc0 rfl
        exact DO_pick hg rfl ha (fun _ => hs) (.inr ⟨rfl, rfl⟩) h
      · exact DO_pick hg rfl ha hs (.inl rfl) h
    | alloc z =>
      simp only at hst
      split at hst <;> (try (simp at hst; done))
      rename_i t
      simp only [SR.ok.injEq] at hst
      obtain ⟨rfl, rfl, rfl, rfl⟩ := hst
      exact DO_alloc rfl rfl rfl hs h
    | box x =>
      simp only at hst
      split at hst <;> (try (simp at hst; done))
      rename_i t p v ha
      simp only [SR.ok.injEq] at hst
      obtain ⟨rfl, rfl, rfl, rfl⟩ := hst
      exact DO_box rfl rfl rfl ha hs.1 hs.2.1 hs.2.2 h
    | bsl len n z is xs =>
      simp only at hst
      split at hst <;> (try (simp at hst; done))
      rename_i p es ha
      split at hst <;> (try (simp at hst; done))
      rename_i ds hds
      split at hst <;> (simp only [SR.ok.injEq] at hst; obtain ⟨rfl, rfl, rfl, rfl⟩ := hst)
      · obtain rfl := hc0 rfl
        exact DO_bsl hg rfl ha hds (fun _ => hs) (.inr ⟨rfl, rfl⟩) h
      · exact DO_bsl hg rfl ha hds hs (.inl rfl) h
    | s2b x =>
      simp only at hst
      split at hst <;> (try (simp at hst; done))
      rename_i p l ha
      split at hst <;> (simp only [SR.ok.injEq] at hst; obtain ⟨rfl, rfl, rfl, rfl⟩ := hst)
      · obtain rfl := hc0 rfl
        exact DO_s2b hg rfl ha (fun _ => hs) (.inr ⟨rfl, rfl⟩) h
      · exact DO_s2b hg rfl ha hs (.inl rfl) h
    | store1 a v =>
      simp only at hst
      split at hst <;> (try (simp at hst; done))
      rename_i p ea q x ha hv
      obtain ⟨rfl, ⟨l, off, cs, rfl, hL, rfl, rfl, rfl⟩ | ⟨b, off, cs, rfl, hL, rfl, rfl, rfl⟩⟩ := stepSt_ok hst
      all_goals obtain ⟨h1, h2, h3, h4⟩ := hs
      all_goals have hx : cellsOf x = [x] := by cases x <;> simp [okCell] at h4 <;> rfl
      · exact DO_store rfl (.inl ⟨rfl, trivial⟩) ha hv h1 h2 hL (fun _ => h4) (fun n hn => by simp at hn) (by rw [hx]; simpa using h3) rfl (by rw [hx]; exact h)
      · exact DO_storeP rfl (.inl ⟨rfl, trivial⟩) ha hv h1 h2 hL (fun _ => h4) (fun n hn => by simp at hn) (by rw [hx]; simpa using h3) rfl (by rw [hx]; exact h)
    | storeN n a v =>
      simp only at hst
      split at hst <;> (try (simp at hst; done))
      rename_i p ea q xs ha hv
      obtain ⟨rfl, ⟨l, off, cs, rfl, hL, rfl, rfl, rfl⟩ | ⟨b, off, cs, rfl, hL, rfl, rfl, rfl⟩⟩ := stepSt_ok hst
      all_goals obtain ⟨h1, h2, h3, h4⟩ := hs
      · exact DO_store rfl (.inr ⟨n, rfl⟩) ha hv h1 h2 hL (fun hn => by simp at hn) (fun n' hn => by simp only [K.storeN.injEq] at hn; exact ⟨⟨xs, rfl⟩, by rw [← hn.1]; exact h4⟩) (by simp only [cellsOf]; omega) rfl h
      · exact DO_storeP rfl (.inr ⟨n, rfl⟩) ha hv h1 h2 hL (fun hn => by simp at hn) (fun n' hn => by simp only [K.storeN.injEq] at hn; exact ⟨⟨xs, rfl⟩, by rw [← hn.1]; exact h4⟩) (by simp only [cellsOf]; omega) rfl h
    | mkmap =>
      simp only at hst
      split at hst <;> simp at hst
    | mkslice e n by_ z l c =>
      simp only at hst
      split at hst <;> simp at hst
    | mapent kp z m k =>
      simp only at hst
      split at hst <;> (try (simp at hst; done))
      split at hst <;> (try (simp at hst; done))
      split at hst <;> simp at hst
    | mapupd kp m k v =>
      simp only at hst
      split at hst <;> (try (simp at hst; done))
      rename_i p b q dk r dv hm hk hv
      split at hst <;> (try (simp at hst; done))
      rename_i es hes
      split at hst <;> simp only [SR.ok.injEq, reduceCtorEq] at hst
      rename_i es' hes'
      obtain ⟨rfl, rfl, rfl, rfl⟩ := hst
      exact DO_mapupd rfl rfl rfl hm hk hv hs.1 hs.2.1 hs.2.2.1 hes hes' hs.2.2.2 h
    | delete kp m k =>
      simp only at hst
      split at hst <;> (try (simp at hst; done))
      rename_i p b q dk hm hk
      split at hst <;> (try (simp at hst; done))
      rename_i es hes
      split at hst <;> simp only [SR.ok.injEq, reduceCtorEq] at hst
      rename_i es' hes'
      obtain ⟨rfl, rfl, rfl, rfl⟩ := hst
      exact DO_delete rfl rfl rfl hm hk hs.1 hs.2.1 hes hes' hs.2.2 h
    | entst m k v =>
      simp only at hst
      split at hst <;> (try (simp at hst; done))
      rename_i p b q n r dv hm hk hv
      split at hst <;> (try (simp at hst; done))
      rename_i kp es dk n' hes
      split at hst <;> simp only [SR.ok.injEq, reduceCtorEq] at hst
      rename_i es' hes'
      obtain ⟨rfl, rfl, rfl, rfl⟩ := hst
      obtain ⟨h1, h2, h3, rfl⟩ := hs
      exact DO_entst rfl rfl rfl hm hk hv h1 h2 h3 hes hes' h
    | _ => simp at hst
theorem DO_all {F : Fr P} {kp : Option (List Nat)} {dk : List DItem} {o : DOp} {os : List DOp} {ρ : Env} {L : Loc} {s : St} {side : Prop} {pre : Nat → Prop} {ρ' : Nat → Env} {s' : Nat → St} (hst : stepQ o ρ L s = .all side pre ρ' s') (hs : side)
    (h : ∀ b, pre b → DO F kp dk os (ρ' b) L (s' b)) : DO F kp dk (o :: os) ρ L s := by
  obtain ⟨dst, gd, k⟩ := o
  unfold stepQ at hst
  cases hg : guardB ρ gd with
  | none => simp [hg] at hst
  | some c =>
    simp only [hg] at hst
    cases k with
    | mkmap =>
      simp only at hst
      split at hst <;> simp only [SR.all.injEq, reduceCtorEq] at hst
      obtain ⟨rfl, rfl, rfl, rfl⟩ := hst
      exact DO_mkmap rfl rfl rfl h
    | mkslice e n by_ z l c =>
      simp only at hst
      split at hst <;> simp only [SR.all.injEq, reduceCtorEq] at hst
      obtain ⟨rfl, rfl, rfl, rfl⟩ := hst
      obtain ⟨h1, h2, h3, h4, h5, h6⟩ := hs
      exact DO_mkslice rfl rfl rfl ‹_› ‹_› h1 h2 h3 h4 h5 h6 h
    | mapent kp z m k =>
      simp only at hst
      split at hst <;> (try (simp at hst; done))
      split at hst <;> (try (simp at hst; done))
      split at hst <;> simp only [SR.all.injEq, reduceCtorEq] at hst
      obtain ⟨rfl, rfl, rfl, rfl⟩ := hst
      exact DO_mapent rfl rfl rfl ‹_› ‹_› hs.1 hs.2.1 ‹_› ‹_› hs.2.2 (fun n => h n trivial)
    | store1 a v =>
      simp only at hst
      split at hst <;> (try (simp at hst; done))
      exact absurd hst stepSt_all
    | storeN n a v =>
      simp only at hst
      split at hst <;> (try (simp at hst; done))
      exact absurd hst stepSt_all
    | _ =>
      simp only at hst
      first
        | (simp at hst; done)
        | repeat' (split at hst <;> (try (simp at hst; done)))
theorem DO_run {F : Fr P} {kp : Option (List Nat)} {dk : List DItem} : ∀ {os : List DOp} {ρ : Env} {L : Loc} {s : St},
    drun (fun ρ L s => DRun F dk (kept kp ρ) (keptL kp ρ L) s) (fun os ρ L s => DO F kp dk os ρ L s) os ρ L s → DO F kp dk os ρ L s
  | [], ρ, L, s, h => DO_end h
  | o :: os, ρ, L, s, h => by
    simp only [drun] at h
    split at h
    · rename_i sd ρ' L' s' hst
      exact DO_step hst h.1 (DO_run h.2)
    · rename_i sd pre ρ' s' hst
      exact DO_all hst h.1 fun b hb => DO_run (h.2 b hb)
    · exact h
end
end Go.DL
namespace Go.DL
open Go
inductive Res where
  | ret (d : D)
  | panic (d : D)
def ResOk (g : G) (w : World) : Ending → Res → Prop
  | .returned v, .ret d => Rep g w v d
  | .panicked ch, .panic d => ∃ v, ch = [{ v, recovered := false }] ∧ Rep g w v d
  | _, _ => False
def PostOk (g : G) (w : World) (Φ : Res → St → Prop) (e : Ending) (w' : World) : Prop :=
  ∃ g' s' r, Ext g w g' w' ∧ StOk g' s' w' ∧ ResOk g' w' e r ∧ Φ r s'
section
variable {P : Program}
def DCalls (P : Program) (f : FuncId) (args : List D) (s : St) (Φ : Res → St → Prop) : Prop :=
  (∃ fn, P.funcs[f]? = some fn ∧ fn.body.isSome = true ∧ (fn.name == "runtime.NumGoroutine") = false) ∧
  ∀ g w (vs : List Value), StOk g s w → All2 (Rep g w) vs args → Calls P f vs.toArray w (PostOk g w Φ)
theorem DCalls.mono {f : FuncId} {args : List D} {s : St} {Φ Φ' : Res → St → Prop} (h : DCalls P f args s Φ) (hp : ∀ r s', Φ r s' → Φ' r s') : DCalls P f args s Φ' :=
  ⟨h.1, fun g w vs hs ha => (h.2 g w vs hs ha).mono fun _ _ ⟨g', s', r, a, b, c, d⟩ => ⟨g', s', r, a, b, c, hp _ _ d⟩⟩
def funGoal (P : Program) (f : FuncId) (cs : List Frame) (Φ : Res → St → Prop) : Goal P where
  T g w m := ∃ e w' fr, Comes P m (lone fr cs w') e ∧ fr.fn = f ∧ fr.leaving P w' e ∧ PostOk g w Φ e w'
  back g w m m' hs h := let ⟨e, w', fr, a, b⟩ := h; ⟨e, w', fr, a.of_steps hs, b⟩
  ext g w g' w' m hx h := by
    obtain ⟨e, w2, fr, a, b, c, g2, s2, r, d1, d2, d3, d4⟩ := h
    exact ⟨e, w2, fr, a, b, c, g2, s2, r, hx.trans d1, d2, d3, d4⟩
def funFr (P : Program) (an : Ann) (f : FuncId) (N : Nat) (cs : List Frame) (Φ : Res → St → Prop) : Fr P where
  T := funGoal P f cs Φ
  b := { (default : Frame) with fn := f, kind := .normal, roundOf := none }
  cs := cs
  N := N
  ds := []
  an := an
def initE : Nat → List D → Env
  | _, [] => []
  | i, d :: ds => (i, .d d) :: initE (i + 1) ds
theorem getE_init : ∀ (ds : List D) (i t : Nat) (e : E), getE (initE i ds) t = some e → ∃ d, e = .d d ∧ i ≤ t ∧ ds[t - i]? = some d
  | [], i, t, e, h => by simp [initE, getE] at h
  | d :: ds, i, t, e, h => by
    simp only [initE, getE] at h
    by_cases hit : i = t
    · subst hit; simp only [if_true, Option.some.injEq] at h; subst h; exact ⟨d, rfl, Nat.le_refl _, by simp⟩
    · simp only [hit, if_false] at h
      obtain ⟨d', h1, h2, h3⟩ := getE_init ds (i + 1) t e h
      refine ⟨d', h1, by omega, ?_⟩
      rw [show t - i = (t - (i + 1)) + 1 from by omega, List.getElem?_cons_succ]; exact h3
theorem models_init {g : G} {w : World} {s : St} (hs : StOk g s w) {vs : List Value} {args : List D} (ha : All2 (Rep g w) vs args) (n : Nat) :
    Models g (fun _ => 0) w (vs.toArray ++ Array.replicate n undef) (initE 0 args) [] s := {
  st := hs
  loc l cs h := by simp [getL] at h
  locKept l cs h := by simp [getL] at h
  locSt l cs h := by simp [getL] at h
  inj l l' cs cs' h := by simp [getL] at h
  env t e h := by
    obtain ⟨d, rfl, _, hd⟩ := getE_init args 0 t e h
    simp only [Nat.sub_zero] at hd
    have hlt : t < vs.length := by rw [ha.len]; exact (List.getElem?_eq_some_iff.1 hd).1
    have : (vs.toArray ++ Array.replicate n undef).getD t undef = vs[t] := by
      simp [Array.getD_eq_getD_getElem?, Array.getElem?_append, hlt]
    rw [this]
    exact ha.get t _ d (by simp [hlt]) hd }
theorem DCalls_intro {an : Ann} {f : FuncId} {df : DF} (hf : cf P an f = some df) {args : List D} {s : St} {Φ : Res → St → Prop}
    (h : ∀ cs, DRun (funFr P an f df.n cs Φ) [.code df.body] (initE 0 args) [] s) : DCalls P f args s Φ := by
  unfold cf at hf
  split at hf <;> (try (simp at hf; done))
  rename_i fn hfn
  split at hf <;> (try (simp at hf; done))
  rename_i c hc
  split at hf <;> (try (simp at hf; done))
  rename_i hname
  split at hf <;> simp at hf
  rename_i rs d hrs hd
  subst hf
  refine ⟨⟨fn, hfn, by simp [hc], by simpa using hname⟩, fun g w vs hs ha => ?_⟩
  intro cs
  have henter : Frame.enter P f vs.toArray .normal =
      (funFr P an f fn.ntmps cs Φ).b.atR { tmps := vs.toArray ++ Array.replicate (fn.ntmps - vs.length) undef, defers := [] } [.code c] := by
    simp [Frame.enter, Frame.atR, hfn, hc, funFr]
  have := h cs [.code c] (.code hd .nil) g (fun _ => 0) w (vs.toArray ++ Array.replicate (fn.ntmps - vs.length) undef) (by simp [funFr]; omega) (models_init hs ha _)
  obtain ⟨e, w', fr, a, b, c', d'⟩ := this
  refine ⟨e, w', fr, d', ?_, b, c'⟩
  rw [henter]
  exact a
def rvGet (ρ : Env) (L : Loc) (s : St) : RV → Option (Prop × D)
  | .tmp t => match getE ρ t with
    | some (.d x) => some (True, x)
    | some (.when c (.d x)) => some (c = true, x)
    | _ => none
  | .cell1 t => match getE ρ t with
    | some e => (cellGet L s e).map (True, ·)
    | none => none
  | .cellN t n => match getE ρ t with
    | some e => (partGet L s n e).map fun r => (r.1, .agg r.2)
    | none => none
def rvsGet (ρ : Env) (L : Loc) (s : St) : List RV → Option (Prop × List D)
  | [] => some (True, [])
  | r :: rs => match rvGet ρ L s r, rvsGet ρ L s rs with
    | some (p, d), some (q, ds) => some (p ∧ q, d :: ds)
    | _, _ => none
def mkRes : List D → D
  | [d] => d
  | ds => .tup ds
def resOf (tmps : Array Value) : ResultVar → Sem Value
  | .tmp t => pure (tmps.getD t undef)
  | .cell a t => do loadVar t (← asAddr (tmps.getD a undef))
theorem results_eq (fn : Func) (tmps : Array Value) : results fn tmps = (do
    let vs ← fn.results.mapM (resOf tmps)
    pure (if h : vs.size = 1 then vs[0] else .tuple vs)) := by
  unfold results
  congr 1
theorem rv_ok {g : G} {ν : Nat → Nat} {w : World} {tmps : Array Value} {ρ : Env} {L : Loc} {s : St} (m : Models g ν w tmps ρ L s) {r : ResultVar} {rv : RV} (hc : crv P r = some rv) {p : Prop} {d : D} (h : rvGet ρ L s rv = some (p, d)) (hp : p) :
    ∃ v, (resOf tmps r).run P w = .ok v w ∧ Rep g w v d := by
  cases r with
  | tmp t =>
    simp only [crv, Option.some.injEq] at hc
    subst hc
    simp only [rvGet] at h
    split at h <;> simp only [Option.some.injEq, Prod.mk.injEq, reduceCtorEq] at h
    · rename_i x hx
      obtain ⟨rfl, rfl⟩ := h
      exact ⟨_, rfl, m.env t _ hx⟩
    · rename_i c x hx
      obtain ⟨rfl, rfl⟩ := h
      exact ⟨_, rfl, (m.env t _ hx).1 hp⟩
  | cell a t =>
    simp only [crv] at hc
    split at hc <;> simp at hc
    · rename_i n ha hsz
      subst hc
      simp only [rvGet] at h
      split at h <;> (try (simp at h; done))
      rename_i e he
      simp only [Option.map_eq_some_iff, Prod.mk.injEq] at h
      obtain ⟨⟨q, ds⟩, hq, rfl, rfl⟩ := h
      obtain ⟨ad, hv, vs, hrun, hrep⟩ := partGet_ok (P := P) m.loc m.st (m.env a e he) hq hp
      exact ⟨.agg vs.toArray, by simp only [resOf, hv, asAddr]; simp [loadVar, aggT_true ha, sizeT_run hsz, hrun], hrep⟩
    · rename_i n ha hsz
      subst hc
      simp only [rvGet] at h
      split at h <;> (try (simp at h; done))
      rename_i e he
      simp only [Option.map_eq_some_iff, Prod.mk.injEq] at h
      obtain ⟨x, hx, _, rfl⟩ := h
      obtain ⟨b, o, y, hv, hy, hr, _⟩ := cellGet_ok m.loc m.st (m.env a e he) hx
      exact ⟨y, by simp only [resOf, hv, asAddr]; simp [loadVar, aggT_false ha, hy], hr⟩
theorem rvs_ok {g : G} {ν : Nat → Nat} {w : World} {tmps : Array Value} {ρ : Env} {L : Loc} {s : St} (m : Models g ν w tmps ρ L s) : ∀ {rs : List ResultVar} {rvs : List RV}, crvs P rs = some rvs → ∀ {p : Prop} {ds : List D},
    rvsGet ρ L s rvs = some (p, ds) → p → ∃ vs : List Value, (rs.mapM (resOf tmps)).run P w = .ok vs w ∧ All2 (Rep g w) vs ds
  | [], rvs, hc, p, ds, h, hp => by
    simp only [crvs, Option.some.injEq] at hc
    subst hc
    simp only [rvsGet, Option.some.injEq, Prod.mk.injEq] at h
    obtain ⟨rfl, rfl⟩ := h
    exact ⟨[], by simp, .nil⟩
  | r :: rs, rvs, hc, p, ds, h, hp => by
    simp only [crvs] at hc
    split at hc <;> simp at hc
    rename_i x xs hx hxs
    subst hc
    simp only [rvsGet] at h
    split at h <;> simp only [Option.some.injEq, Prod.mk.injEq, reduceCtorEq] at h
    rename_i p1 d1 p2 ds' h1 h2
    obtain ⟨rfl, rfl⟩ := h
    obtain ⟨v, hv1, hv2⟩ := rv_ok m hx h1 hp.1
    obtain ⟨vs, hvs1, hvs2⟩ := rvs_ok m hxs h2 hp.2
    exact ⟨v :: vs, by simp only [List.mapM_cons, Sem.run_bind]; rw [hv1]; simp only [Result.andThen_ok, hvs1, Sem.run_pure], .cons hv2 hvs2⟩
def D.Le (d d' : D) : Prop := ∀ g w v, Rep g w v d → Rep g w v d'
theorem D.Le.refl (d : D) : d.Le d := fun _ _ _ h => h
theorem results_ok {g : G} {ν : Nat → Nat} {w : World} {tmps : Array Value} {ρ : Env} {L : Loc} {s : St} (m : Models g ν w tmps ρ L s) {fn : Func} {rvs : List RV} (hc : crvs P fn.results.toList = some rvs) {p : Prop} {ds : List D}
    (h : rvsGet ρ L s rvs = some (p, ds)) (hp : p) : ∃ v, (results fn tmps).run P w = .ok v w ∧ Rep g w v (mkRes ds) := by
  obtain ⟨vs, h1, h2⟩ := rvs_ok m hc h hp
  have hmap : (fn.results.mapM (resOf tmps)).run P w = .ok vs.toArray w := by
    rw [Array.mapM_eq_mapM_toList]
    simp [h1]
  by_cases hone : vs.length = 1
  · match vs, hone, h2 with
    | [v], _, .cons hv .nil =>
      refine ⟨v, ?_, hv⟩
      rw [results_eq]
      simp [hmap]
  · refine ⟨.tuple vs.toArray, ?_, ?_⟩
    · rw [results_eq]
      simp [hmap, hone]
    · have hlen := h2.len
      have : mkRes ds = .tup ds := by
        match ds, hlen with
        | [], _ => rfl
        | [_], hl => exact absurd hl hone
        | _ :: _ :: _, _ => rfl
      rw [this]
      exact .tup vs ds hlen h2.get
def St.sub (s' s : St) : Prop := ∀ b o, s' b = some o → s b = some o
theorem StOk.sub {g : G} {w : World} {s s' : St} (h : StOk g s w) (hs : s'.sub s) : StOk g s' w := {
  obj b o ho := h.obj b o (hs b o ho)
  kept b o ho := h.kept b o (hs b o ho)
  fresh := h.fresh }
end
end Go.DL
namespace Go.DL
open Go
section
variable {P : Program}
def Panics (F : Fr P) (ρ : Env) (L : Loc) (d : D) (s : St) : Prop :=
  ∀ g ν w v todo tmps, F.N ≤ tmps.size → Models g ν w tmps ρ L s → Rep g w v d → F.T.T g w (lone { F.b.atR ⟨tmps, F.ds⟩ todo with mode := .panicking [{ v, recovered := false }] } F.cs w)
theorem Models.empty {g : G} {ν : Nat → Nat} {w : World} {tmps : Array Value} {ρ : Env} {L : Loc} {s : St} (m : Models g ν w tmps ρ L s) : Models g ν w tmps [] [] s := {
  st := m.st
  loc l cs h := by simp [getL] at h
  locKept l cs h := by simp [getL] at h
  locSt l cs h := by simp [getL] at h
  inj l l' cs cs' h := by simp [getL] at h
  env t e h := by simp [getE] at h }
theorem Panics.weak {F : Fr P} {d : D} {s : St} (h : Panics F [] [] d s) (ρ : Env) (L : Loc) : Panics F ρ L d s :=
  fun g ν w v todo tmps hN m hr => h g ν w v todo tmps hN m.empty hr
def callG (g : G) (ν : Nat → Nat) (L : Loc) : G := { g with kept := fun b => g.kept b ∨ ∃ l cs, getL L l = some cs ∧ b = ν l }
theorem rep_prot {g g' : G} {w : World} {v : Value} {d : D} (h : Rep g w v d) (hp : g'.prot = g.prot) : Rep g' w v d :=
  h.mono0 (fun b => by rw [hp]; exact Nat.le_refl _) (fun _ _ _ => rfl) (fun _ _ h => h)
theorem repE_prot {g g' : G} {ν : Nat → Nat} {w : World} {L : Loc} {v : Value} {e : E} (h : RepE g ν w L v e) (hp : g'.prot = g.prot) : RepE g' ν w L v e := by
  induction e with
  | d x => exact rep_prot h hp
  | loc l o => exact h
  | when c e ih => exact ⟨fun hc => ih (h.1 hc), h.2⟩
theorem objOk_prot {g g' : G} {w : World} {b : Nat} {o : DObj} (h : ObjOk g w b o) (hp : g'.prot = g.prot) : ObjOk g' w b o := by
  cases o with
  | cells ds =>
    obtain ⟨h0, vs, T, h1, h2, h3, h4⟩ := h
    exact ⟨by rw [hp]; exact h0, vs, T, h1, h2, fun i v d hv hd => rep_prot (h3 i v d hv hd) hp, h4⟩
  | map es =>
    obtain ⟨h0, en, cl, h1, h2, h3, h4, h5, h6⟩ := h
    exact ⟨by rw [hp]; exact h0, en, cl, h1, h2, fun i v d hv hd => rep_prot (h3 i v d hv hd) hp, fun i v d hv hd => rep_prot (h4 i v d hv hd) hp, h5, h6⟩
  | tip k =>
    obtain ⟨h0, h1⟩ := h
    exact ⟨by rw [hp]; exact h0, h1⟩
  | mapE kp es k n =>
    obtain ⟨h0, io, h1, en, cl, h2, h3, h4, h5, h6, h7⟩ := h
    exact ⟨by rw [hp]; exact h0, io, h1, en, cl, h2, h3, fun i v d hi hv hd => rep_prot (h4 i v d hi hv hd) hp, fun i v d hi hv hd => rep_prot (h5 i v d hi hv hd) hp, fun e he => ⟨rep_prot (h6 e he).1 hp, (h6 e he).2⟩, h7⟩
  | loop r st =>
    obtain ⟨h0, l, h1, h2, h3, h4, h5, h6, h7, h8, h9⟩ := h
    exact ⟨by rw [hp]; exact h0, l, h1, h2, h3, h4, h5, h6, h7, fun t e he => repE_prot (h8 t e he) hp, h9⟩
  | dfr =>
    obtain ⟨h0, h1⟩ := h
    exact ⟨by rw [hp]; exact h0, h1⟩
theorem Models.callSt {g : G} {ν : Nat → Nat} {w : World} {tmps : Array Value} {ρ : Env} {L : Loc} {s : St} (m : Models g ν w tmps ρ L s) : StOk (callG g ν L) s w := {
  obj b o ho := objOk_prot (m.st.obj b o ho) rfl
  kept b o ho := by
    rintro (h | ⟨l, cs, hl, rfl⟩)
    · exact m.st.kept b o ho h
    · rw [m.locSt l cs hl] at ho; simp at ho
  fresh b hb := ⟨(m.st.fresh b hb).1, by
    rintro (h | ⟨l, cs, hl, rfl⟩)
    · exact (m.st.fresh b hb).2 h
    · have := (m.loc l cs hl).lt; omega⟩ }
theorem Models.afterCall {g g' : G} {ν : Nat → Nat} {w w' : World} {tmps : Array Value} {ρ : Env} {L : Loc} {s s' : St} (m : Models g ν w tmps ρ L s) (hx : Ext (callG g ν L) w g' w') (hs : StOk g' s' w') :
    Ext g w { g' with kept := g.kept } w' ∧ Models { g' with kept := g.kept } ν w' tmps ρ L s' := by
  have hext : Ext g w { g' with kept := g.kept } w' :=
    ⟨hx.size, hx.prot, hx.cell, hx.hdr, fun b hb => hx.kept b (.inl hb), fun b hb => hx.keptProt b (.inl hb), rfl, hx.os, hx.output, hx.tape⟩
  refine ⟨hext, ⟨⟨fun b o ho => objOk_prot (hs.obj b o ho) rfl, fun b o ho hk => hs.kept b o ho (by rw [hx.keptEq]; exact .inl hk), fun b hb => ⟨(hs.fresh b hb).1, fun hk => (hs.fresh b hb).2 (by rw [hx.keptEq]; exact .inl hk)⟩⟩, ?_, m.locKept, ?_, m.inj, ?_⟩⟩
  · intro l cs hl
    exact (m.loc l cs hl).mono hext (hx.kept _ (.inr ⟨l, cs, hl, rfl⟩)) (hx.keptProt _ (.inr ⟨l, cs, hl, rfl⟩))
  · intro l cs hl
    cases hsl : s' (ν l) with
    | none => rfl
    | some o => exact absurd (by rw [hx.keptEq]; exact .inr ⟨l, cs, hl, rfl⟩) (hs.kept _ o hsl)
  · intro t e he
    exact (m.env t e he).mono hext
theorem ck_call {op : Op} {f : Opd} {xs : List Opd} (h : ck P op = some (.call f xs)) : ∃ f' args ats, op = .call ⟨.value f', args, ats⟩ ∧ cOpd f' = some f ∧ cOpds args.toList = some xs := by
  unfold ck at h
  split at h
  · simp at h
  · split at h <;> (try (simp at h; done))
    all_goals (try (repeat' (split at h <;> (try (simp at h; done)))))
    simp only [Option.some.injEq, K.call.injEq] at h
    obtain ⟨rfl, rfl⟩ := h
    rename_i c _ _ f' hcal _ _ f xs hf hxs
    obtain ⟨callee, args, ats⟩ := c
    simp only at hcal
    exact ⟨f', args, ats, by rw [hcal], hf, hxs⟩
theorem ck_panic {op : Op} {x : Opd} (h : ck P op = some (.panic x)) : ∃ x', op = .panic x' ∧ cOpd x' = some x := by
  unfold ck at h
  split at h
  · simp at h
  · split at h <;> (try (simp at h; done))
    all_goals (try (repeat' (split at h <;> (try (simp at h; done)))))
    simp only [Option.map_eq_some_iff, K.panic.injEq, exists_eq_right] at h
    exact ⟨_, rfl, h⟩
def nextFrame (P : Program) : Next → Option Frame
  | .enter f args => some (Frame.enter P f args .normal)
  | .round l f tmps a b => some (Frame.round l f tmps a b .normal)
  | _ => none
def Back (P : Program) (m : Machine) (c : Frame) (cs : List Frame) (e : Ending) (w' : World) : Prop :=
  match e with
  | .returned v => Steps P m (lone (c.finish v) cs w')
  | .panicked ch => Steps P m (lone (c.raise ch) cs w')
  | .outgrown => False
def VCalls (P : Program) (f : D) (args : List D) (s : St) (Φ : Res → St → Prop) : Prop :=
  ∀ g w fv (vs : List Value), StOk g s w → Rep g w fv f → All2 (Rep g w) vs args →
    ∃ d nx fr, (Deferred.ofValue fv vs.toArray).run P w = .ok d w ∧ (invoke d.target d.args).run P w = .ok nx w ∧ nextFrame P nx = some fr ∧
      ∀ c cs, ∃ e w', PostOk g w Φ e w' ∧ Back P (lone fr (c :: cs) w) c cs e w'
theorem DCalls.V {f : FuncId} {first args caps : List D} {s : St} {Φ : Res → St → Prop} (h : DCalls P f (first ++ args ++ caps) s Φ) : VCalls P (.fn (.func f) first caps) args s Φ := by
  intro g w fv vs hs hf ha
  cases hf with
  | fn _ fs cs' _ _ hn1 hn2 h1 h2 =>
  obtain ⟨⟨fn, hfn1, hfn2, hfn3⟩, hcall⟩ := h
  have hall : All2 (Rep g w) (fs ++ vs ++ cs') (first ++ args ++ caps) := ((all2_of_get hn1 h1).append ha).append (all2_of_get hn2 h2)
  have hbody : fn.body.isNone = false := by cases hb : fn.body <;> simp [hb] at hfn2 ⊢
  refine ⟨_, .enter f (fs ++ vs ++ cs').toArray, _, by simp [Deferred.ofValue]; rfl, ?_, rfl, fun c cs => ?_⟩
  · simp only [invoke, callFunc, Sem.run_bind, run_program, Result.andThen_ok, hfn1, hfn3, hbody, Bool.false_eq_true, if_false, Sem.run_pure]
    simp
  · obtain ⟨e, w', fr, hp, hcomes, hfrf, hleave⟩ := hcall g w _ hs hall (c :: cs)
    refine ⟨e, w', hp, ?_⟩
    cases e with
    | returned v => exact Steps.trans hcomes (.one (step_leave_returned hleave))
    | panicked ch => exact Steps.trans hcomes (.one (step_leave_panicked hleave))
    | outgrown =>
      obtain ⟨g', s', r, b1, b2, b3, b4⟩ := hp
      cases r <;> exact b3.elim
theorem DO_vcall {F : Fr P} {kp : Option (List Nat)} {dk : List DItem} {o : DOp} {os : List DOp} {ρ : Env} {L : Loc} {s : St} (hg : guardB ρ o.guard = some true) {fx : Opd} {xs : List Opd} (hk : o.k = .call fx xs)
    {p q : Prop} {f : D} {es : List E} {ds : List D} (hf : argE ρ true fx = some (q, .d f)) (ha : argsE ρ true xs = some (p, es)) (hds : dsOf es = some ds) (hp : p) (hq : q)
    {Ψ : Res → St → Prop} (hc : VCalls P f ds s Ψ)
    (hret : ∀ d s', Ψ (.ret d) s' → DO F kp dk os (putE ρ o.dst (.d d)) L s') (hpan : ∀ d s', Ψ (.panic d) s' → Panics F ρ L d s') : DO F kp dk (o :: os) ρ L s := by
  refine DO_of fun oo g ν w tmps ops i r k hoo hck hcg hdst hd hN m hr hkk => ?_
  have hw := guard_ok m hcg hg
  have hnd := ck_defer hck (by rw [hk]; rfl)
  rw [hk] at hck
  obtain ⟨f', args, ats, hop, hf', hxs⟩ := ck_call hck
  have hfr : Rep g w _ _ := opd_ok m hf' rfl hf hq F.ds
  have hargs := reps_of_dsOf (opds_ok m rfl F.ds hxs ha hp) hds
  generalize hfv : (Act.mk tmps F.ds).eval f' = fv at hfr
  have hall : All2 (Rep (callG g ν L) w) (args.toList.map (Act.mk tmps F.ds).eval) ds := all2_of_get hargs.len (fun i a b hx hy => rep_prot (hargs.get i a b hx hy) rfl)
  obtain ⟨d, nx, fr, hd1, hd2, hd3, hC⟩ := hc (callG g ν L) w fv _ m.callSt (rep_prot hfr rfl) hall
  have hmap : (Array.map (Act.mk tmps F.ds).eval args) = (args.toList.map (Act.mk tmps F.ds).eval).toArray := by apply Array.ext'; simp
  have hrun : (execOp (Act.mk tmps F.ds).eval oo).run P w = .ok nx w := by
    simp only [execOp, hop, resolve, hfv, hmap, Sem.run_bind, hd1, Result.andThen_ok, hd2]
  have henter : step P (lone (F.b.atR ⟨tmps, F.ds⟩ (.inRegion ops (i :: r) :: k)) F.cs w) =
      .next (lone fr (F.b.atR ⟨tmps, F.ds⟩ (.inRegion ops (i :: r) :: k) :: F.cs) w) := by
    refine step_lone_go ?_
    rw [stepGR_op hoo hw, Oper.semAt_eq _ _ _ hnd]
    cases nx <;> simp only [nextFrame, Option.some.injEq, reduceCtorEq] at hd3 <;> subst hd3 <;> simp [stepG.apply, hrun, Frame.atR]
  obtain ⟨e, w', ⟨g', s', res, x1, x2, x3, x4⟩, hback⟩ := hC (F.b.atR ⟨tmps, F.ds⟩ (.inRegion ops (i :: r) :: k)) F.cs
  obtain ⟨hext, hm⟩ := m.afterCall x1 x2
  cases e with
  | returned v =>
    cases res with
    | panic d => exact x3.elim
    | ret d =>
      have hfin : (F.b.atR ⟨tmps, F.ds⟩ (.inRegion ops (i :: r) :: k)).finish v = F.b.atR ((Act.mk tmps F.ds).put oo.dst v) (.inRegion ops r :: k) := by rw [Frame.finish_atR, hoo]; rfl
      have hsteps : Steps P (lone (F.b.atR ⟨tmps, F.ds⟩ (.inRegion ops (i :: r) :: k)) F.cs w) (lone (F.b.atR ((Act.mk tmps F.ds).put oo.dst v) (.inRegion ops r :: k)) F.cs w') := by
        refine .head henter ?_
        rw [← hfin]; exact hback
      refine F.T.back _ _ _ _ hsteps ?_
      rw [hdst]
      obtain ⟨tmps', e1, e2, m'⟩ := put_ok hm hN hd (v := v) (e := .d d) (rep_prot x3 rfl) F.ds
      rw [e1]
      exact F.T.ext _ _ _ _ _ hext (hret d s' x4 ops r k hr hkk _ _ _ tmps' e2 m')
  | panicked ch =>
    cases res with
    | ret d => exact x3.elim
    | panic d =>
      obtain ⟨v, rfl, hv⟩ := x3
      have hsteps : Steps P (lone (F.b.atR ⟨tmps, F.ds⟩ (.inRegion ops (i :: r) :: k)) F.cs w) (lone { F.b.atR ⟨tmps, F.ds⟩ (.inRegion ops (i :: r) :: k) with mode := .panicking [{ v, recovered := false }] } F.cs w') := by
        refine .head henter ?_
        rw [← Frame.raise_atR]; exact hback
      refine F.T.back _ _ _ _ hsteps ?_
      exact F.T.ext _ _ _ _ _ hext (hpan d s' x4 _ _ _ v _ _ hN hm (rep_prot hv rfl))
  | outgrown => exact hback.elim
theorem DO_call {F : Fr P} {kp : Option (List Nat)} {dk : List DItem} {o : DOp} {os : List DOp} {ρ : Env} {L : Loc} {s : St} (hg : guardB ρ o.guard = some true) {fx : Opd} {xs : List Opd} (hk : o.k = .call fx xs)
    {p q : Prop} {f : FuncId} {first caps : List D} {es : List E} {ds : List D} (hf : argE ρ true fx = some (q, .d (.fn (.func f) first caps))) (ha : argsE ρ true xs = some (p, es)) (hds : dsOf es = some ds) (hp : p) (hq : q)
    {Ψ : Res → St → Prop} (hc : DCalls P f (first ++ ds ++ caps) s Ψ)
    (hret : ∀ d s', Ψ (.ret d) s' → DO F kp dk os (putE ρ o.dst (.d d)) L s') (hpan : ∀ d s', Ψ (.panic d) s' → Panics F ρ L d s') : DO F kp dk (o :: os) ρ L s :=
  DO_vcall hg hk hf ha hds hp hq hc.V hret hpan
theorem DO_panic {F : Fr P} {kp : Option (List Nat)} {dk : List DItem} {o : DOp} {os : List DOp} {ρ : Env} {L : Loc} {s : St} (hg : guardB ρ o.guard = some true) {x : Opd} (hk : o.k = .panic x)
    {p : Prop} {t : TypeId} {d : D} (ha : argE ρ true x = some (p, .d (.iface t d))) (hp : p) (h : Panics F ρ L (.iface t d) s) : DO F kp dk (o :: os) ρ L s := by
  refine DO_of fun oo g ν w tmps ops i r k hoo hck hcg hdst hd hN m hr hkk => ?_
  have hw := guard_ok m hcg hg
  have hnd := ck_defer hck (by rw [hk]; rfl)
  rw [hk] at hck
  obtain ⟨x', hop, hx'⟩ := ck_panic hck
  have hrep : Rep g w _ _ := opd_ok m hx' rfl ha hp F.ds
  generalize hv : (Act.mk tmps F.ds).eval x' = v at hrep
  have hrun : (execOp (Act.mk tmps F.ds).eval oo).run P w = .halt (.panic v) w := by
    cases hrep
    simp [execOp, hop, hv, Instr.panic]
  refine F.T.back _ _ _ _ (.one (step_lone_go (fr' := { F.b.atR ⟨tmps, F.ds⟩ (.inRegion ops (i :: r) :: k) with mode := .panicking [{ v, recovered := false }] }) (cs' := F.cs) (w' := w) ?_)) (h g ν w v _ _ hN m hrep)
  rw [stepGR_op hoo hw, Oper.semAt_eq _ _ _ hnd]
  rw [← Frame.raise_atR]
  simp [stepG.apply, hrun]
end
end Go.DL
namespace Go.DL
open Go
section
variable {P : Program}
def toV1 : D → Option Value
  | .int k n => some (.int k n)
  | .bool b => some (.bool b)
  | .str l => some (.string ⟨l.toArray⟩)
  | .nilsl => some (.slice none 0 0)
  | .nilptr => some (.pointer none)
  | .ptr b o => some (.pointer (some ⟨b, o, none⟩))
  | .map b => some (.map (some b))
  | .nilmap => some (.map none)
  | .nilfn => some .nilFunc
  | .niliface => some .nilIface
  | _ => none
def toVs : List D → Option (List Value)
  | [] => some []
  | d :: r => match toV1 d, toVs r with
    | some v, some vs => some (v :: vs)
    | _, _ => none
theorem toV1_ok {g : G} {w : World} {v v' : Value} {d : D} (h : Rep g w v d) (hv : toV1 d = some v') : v = v' := by
  cases h <;> simp only [toV1, Option.some.injEq, reduceCtorEq] at hv <;> (try exact hv)
  rename_i s l h hb
  rw [← hv]
  cases s
  simp only at h
  rw [← h]
theorem toVs_ok {g : G} {w : World} : ∀ {vs vs' : List Value} {ds : List D}, All2 (Rep g w) vs ds → toVs ds = some vs' → vs = vs'
  | _, _, _, .nil, h => by simp only [toVs, Option.some.injEq] at h; exact h
  | _, _, _, .cons h1 h2, h => by
    simp only [toVs] at h
    split at h <;> simp only [Option.some.injEq, reduceCtorEq] at h
    rename_i v vs e1 e2
    rw [← h, toV1_ok h1 e1, toVs_ok h2 e2]
def rigid1 : D → Prop
  | .int k n => inR k n
  | .str l => l.length ≤ big
  | d => (toV1 d).isSome = true
def rigids : List D → Prop
  | [] => True
  | d :: r => rigid1 d ∧ rigids r
theorem rigid1_ok {d : D} (h : rigid1 d) : ∃ v, toV1 d = some v ∧ v.one1 = true ∧ ∀ g w, Rep g w v d := by
  cases d <;> simp only [rigid1, toV1, Option.isSome_none, Bool.false_eq_true] at h
  · exact ⟨_, rfl, rfl, fun g w => .int _ _ h⟩
  · exact ⟨_, rfl, rfl, fun g w => .bool _⟩
  · exact ⟨_, rfl, rfl, fun g w => .str _ _ rfl h⟩
  · exact ⟨_, rfl, rfl, fun g w => .nilsl⟩
  · exact ⟨_, rfl, rfl, fun g w => .nilptr⟩
  · exact ⟨_, rfl, rfl, fun g w => .ptr _ _⟩
  · exact ⟨_, rfl, rfl, fun g w => .map _⟩
  · exact ⟨_, rfl, rfl, fun g w => .nilmap⟩
  · exact ⟨_, rfl, rfl, fun g w => .nilfn⟩
  · exact ⟨_, rfl, rfl, fun g w => .niliface⟩
theorem rigids_ok : ∀ {ds : List D}, rigids ds → ∃ vs, toVs ds = some vs ∧ (∀ v ∈ vs, v.one1 = true) ∧ ∀ g w, All2 (Rep g w) vs ds
  | [], _ => ⟨[], rfl, by simp, fun g w => .nil⟩
  | d :: r, h => by
    obtain ⟨v, h1, h2, h3⟩ := rigid1_ok h.1
    obtain ⟨vs, g1, g2, g3⟩ := rigids_ok h.2
    exact ⟨v :: vs, by simp [toVs, h1, g1], by simp only [List.mem_cons, forall_eq_or_imp]; exact ⟨h2, g2⟩, fun g w => .cons (h3 g w) (g3 g w)⟩
inductive DD where
  | mark (q : Nat)
  | fn (i : FuncId) (args caps : List D)
def DD.def : DD → Deferred
  | .mark q => { target := .collected q, args := #[] }
  | .fn i args caps => { target := .fn (.func i) ((toVs caps).getD []).toArray, args := ((toVs args).getD []).toArray }
def modeOk (g : G) (w : World) (m : FrameMode) : Option D → Prop
  | none => m = .returning
  | some d => ∃ v, m = .panicking [{ v, recovered := false }] ∧ Rep g w v d
def DefCalls (P : Program) (i : FuncId) (args : List D) (pd : Option D) (s : St) (Ψ : Bool → St → Prop) : Prop :=
  (∃ fn, P.funcs[i]? = some fn ∧ fn.body.isSome = true ∧ (fn.name == "runtime.NumGoroutine") = false) ∧
  ∀ g w (vs : List Value) (cf : Frame) (cs : List Frame), StOk g s w → All2 (Rep g w) vs args → modeOk g w cf.mode pd →
    ∃ g' w' s' b, Ext g w g' w' ∧ StOk g' s' w' ∧ Ψ b s' ∧
      Steps P (lone (Frame.enter P i vs.toArray .deferred) (cf :: cs) w) (lone { cf with mode := if b then .returning else cf.mode } cs w')
def Unw (P : Program) : List DD → Option D → St → (Option D → St → Prop) → Prop
  | [], m, s, Ψ => Ψ m s
  | .mark q :: r, m, s, Ψ => s q = some .dfr ∧ Unw P r m (s.del q) Ψ
  | .fn i args caps :: r, m, s, Ψ => rigids args ∧ rigids caps ∧ DefCalls P i (args ++ caps) m s fun b s' => Unw P r (if b then none else m) s' Ψ
theorem ext_setOther {g : G} {w : World} (b : Nat) (o : Obj) (hb : hdr w b = none) (hp : g.prot b = 0) (hk : ¬ g.kept b) : Ext g w g { w with heap := w.heap.setIfInBounds b o } where
  size := by simp
  prot _ := Nat.le_refl _
  cell b' o' ho := by
    by_cases h : b' = b
    · subst h; omega
    · exact cell_of_heap (by simp [Array.getElem?_setIfInBounds, Ne.symm h])
  hdr b' x hx := by
    by_cases h : b' = b
    · subst h; rw [hb] at hx; simp at hx
    · rw [hdr_of_heap (w := w) (by simp [Array.getElem?_setIfInBounds, Ne.symm h])]; exact hx
  kept b' hb' := by
    have h : b' ≠ b := fun h => hk (h ▸ hb')
    simp [Array.getElem?_setIfInBounds, Ne.symm h]
  keptProt _ _ := rfl
  keptEq := rfl
  os := rfl
  output := rfl
  tape := rfl
theorem Models.drop {g : G} {ν : Nat → Nat} {w w' : World} {tmps : Array Value} {ρ : Env} {L : Loc} {s : St} (m : Models g ν w tmps ρ L s) {b : Nat} {o : DObj} (hb : s b = some o) (he : Ext g w g w') (hsz : w'.heap.size = w.heap.size)
    (hoth : ∀ c, c ≠ b → w'.heap[c]? = w.heap[c]?) : Models g ν w' tmps ρ L (s.del b) := {
  st := ⟨fun c x hx => by
        simp only [St.del] at hx
        by_cases hc : c = b
        · simp [hc] at hx
        · simp only [hc, if_false] at hx; exact (m.st.obj c x hx).mono he (hoth c hc) rfl,
      fun c x hx => by
        simp only [St.del] at hx
        by_cases hc : c = b
        · simp [hc] at hx
        · simp only [hc, if_false] at hx; exact m.st.kept c x hx,
      fun c hc => m.st.fresh c (by omega)⟩
  loc l cs hl := (m.loc l cs hl).mono he (hoth _ (fun h => by have := m.locSt l cs hl; rw [h, hb] at this; simp at this)) rfl
  locKept := m.locKept
  locSt l cs hl := by
    simp only [St.del]
    split
    · rfl
    · exact m.locSt l cs hl
  inj := m.inj
  env t e ht := (m.env t e ht).mono he }
theorem step_mark {fr : Frame} {cs : List Frame} {w : World} {q : Nat} {ds : List Deferred} {args : Array Value} (hm : fr.mode ≠ .run) (hd : fr.defers = { target := .collected q, args } :: ds) (hq : w.heap[q]? = some (.deferred (some []))) :
    step P (lone fr cs w) = .next (lone { fr with defers := ds } cs { w with heap := w.heap.setIfInBounds q (.deferred none) }) := by
  have hrun : (Instr.takeDeferred q).run P w = .ok [] { w with heap := w.heap.setIfInBounds q (.deferred none) } := by
    simp [Instr.takeDeferred, getObj, setObj, Sem.run, hq, Result.andThen]
  refine step_lone_go ?_
  cases hmode : fr.mode with
  | run => exact absurd hmode hm
  | returning => simp [stepG, unwind, hmode, hd, Sem.runT_eq, hrun]
  | panicking chain => simp [stepG, unwind, hmode, hd, Sem.runT_eq, hrun]
theorem modeOk_run {g : G} {w : World} {m : FrameMode} {o : Option D} (h : modeOk g w m o) : m ≠ .run := by
  cases o with
  | none => simp only [modeOk] at h; rw [h]; simp
  | some d => obtain ⟨v, h, _⟩ := h; rw [h]; simp
theorem modeOk_ext {g g' : G} {w w' : World} {m : FrameMode} {o : Option D} (h : modeOk g w m o) (he : Ext g w g' w') : modeOk g' w' m o := by
  cases o with
  | none => exact h
  | some d => obtain ⟨v, h, hr⟩ := h; exact ⟨v, h, hr.mono he⟩
theorem unw_steps {Ψ : Option D → St → Prop} : ∀ (dds : List DD) {m : Option D} {s : St}, Unw P dds m s Ψ → ∀ {g : G} {ν : Nat → Nat} {w : World} {ρ : Env} {L : Loc} {fr : Frame} {cs : List Frame}, Models g ν w fr.tmps ρ L s → fr.defers = dds.map DD.def → modeOk g w fr.mode m →
    ∃ g' w' m' s' md, Ext g w g' w' ∧ Models g' ν w' fr.tmps ρ L s' ∧ Ψ m' s' ∧ modeOk g' w' md m' ∧ Steps P (lone fr cs w) (lone { fr with defers := [], mode := md } cs w')
  | [], m, s, h, g, ν, w, ρ, L, fr, cs, M, hd, hm => by
    refine ⟨g, w, m, s, fr.mode, Ext.refl g w, M, h, hm, ?_⟩
    have : ({ fr with defers := [], mode := fr.mode } : Frame) = fr := by cases fr; simp only at hd; subst hd; rfl
    rw [this]; exact Steps.refl P _
  | .mark q :: r, m, s, h, g, ν, w, ρ, L, fr, cs, M, hd, hm => by
    obtain ⟨hq, hu⟩ := h
    obtain ⟨hp0, hh⟩ := M.st.obj q _ hq
    have he := ext_setOther (g := g) (w := w) q (.deferred none) (by simp [hdr, hh]) hp0 (M.st.kept q _ hq)
    have M' := M.drop hq he (by simp) (fun c hc => setMap_other _ hc)
    obtain ⟨g', w', m', s', md, a1, a2, a3, a4, a5⟩ := unw_steps r hu (fr := { fr with defers := r.map DD.def }) (cs := cs) M' rfl (modeOk_ext hm he)
    exact ⟨g', w', m', s', md, he.trans a1, a2, a3, a4, .head (step_mark (modeOk_run hm) hd hh) a5⟩
  | .fn i args caps :: r, m, s, h, g, ν, w, ρ, L, fr, cs, M, hd, hm => by
    obtain ⟨hr1, hr2, ⟨fn, hfn1, hfn2, hfn3⟩, hc⟩ := h
    obtain ⟨as9, ha1, _, ha2⟩ := rigids_ok hr1
    obtain ⟨vs, hv1, _, hv2⟩ := rigids_ok hr2
    have hm' : modeOk (callG g ν L) w ({ fr with defers := r.map DD.def } : Frame).mode m := by
      cases m with
      | none => exact hm
      | some d => obtain ⟨v, h1, h2⟩ := hm; exact ⟨v, h1, rep_prot h2 rfl⟩
    obtain ⟨g1, w1, s1, b, x1, x2, x3, x4⟩ := hc (callG g ν L) w (as9 ++ vs) { fr with defers := r.map DD.def } cs M.callSt ((ha2 _ _).append (hv2 _ _)) hm'
    obtain ⟨hext, hm1⟩ := M.afterCall x1 x2
    have hbody : fn.body.isNone = false := by cases hb : fn.body <;> simp [hb] at hfn2 ⊢
    have hstep : step P (lone fr cs w) = .next (lone (Frame.enter P i (as9 ++ vs).toArray .deferred) ({ fr with defers := r.map DD.def } :: cs) w) := by
      refine step_defer (d := DD.def (.fn i args caps)) (fv := .func i) (cap := vs.toArray) (modeOk_run hm) hd (by simp [DD.def, hv1]) ?_
      simp only [DD.def, hv1, ha1, Option.getD_some, invoke, callFunc, Sem.run_bind, run_program, Result.andThen_ok, hfn1, hfn3, hbody, Bool.false_eq_true, if_false, Sem.run_pure]
      simp
    have hmd : modeOk { g1 with kept := g.kept } w1 (if b then .returning else fr.mode) (if b then none else m) := by
      cases b
      · simp only [Bool.false_eq_true, if_false]; exact modeOk_ext hm hext
      · rfl
    obtain ⟨g', w', m', s', md, a1, a2, a3, a4, a5⟩ := unw_steps r x3 (fr := { fr with defers := r.map DD.def, mode := if b then .returning else fr.mode }) (cs := cs) hm1 rfl hmd
    exact ⟨g', w', m', s', md, hext.trans a1, a2, a3, a4, .head hstep (Steps.trans x4 a5)⟩
def IsFun {P : Program} (F : Fr P) (rs : List RV) (Φ : Res → St → Prop) (dds : List DD) : Prop :=
  ∃ an f df cs, cf P an f = some df ∧ rs = df.res ∧ F = { funFr P an f df.n cs Φ with ds := dds.map DD.def }
theorem St.sub_refl (s : St) : s.sub s := fun _ _ h => h
def EndOk (ρ : Env) (L : Loc) (rs : List RV) (Φ : Res → St → Prop) : Option D → St → Prop
  | none, s => ∃ p ds d s', rvsGet ρ L s rs = some (p, ds) ∧ p ∧ (mkRes ds).Le d ∧ s'.sub s ∧ Φ (.ret d) s'
  | some d, s => ∃ d' s', d.Le d' ∧ s'.sub s ∧ Φ (.panic d') s'
theorem end_ok {an : Ann} {f : FuncId} {df : DF} (hf : cf P an f = some df) {cs : List Frame} {Φ : Res → St → Prop} {g : G} {ν : Nat → Nat} {w : World} {fr : Frame} {ρ : Env} {L : Loc} {s : St} {m : Option D} {dds : List DD} (hfn : fr.fn = f) (hkind : fr.kind = .normal)
    (M : Models g ν w fr.tmps ρ L s) (hd : fr.defers = dds.map DD.def) (hm : modeOk g w fr.mode m) (hu : Unw P dds m s (EndOk ρ L df.res Φ)) : (funGoal P f cs Φ).T g w (lone fr cs w) := by
  obtain ⟨g', w', m', s', md, a1, a2, a3, a4, a5⟩ := unw_steps dds hu (cs := cs) M hd hm
  unfold cf at hf
  split at hf <;> (try (simp at hf; done))
  rename_i fn hfn'
  split at hf <;> (try (simp at hf; done))
  split at hf <;> (try (simp at hf; done))
  split at hf <;> simp at hf
  rename_i rs d' hrs hd'
  subst hf
  cases m' with
  | none =>
    obtain ⟨p, ds, d, s2, h1, h2, h3, h4, h5⟩ := a3
    obtain ⟨v, hv1, hv2⟩ := results_ok a2 hrs h1 h2
    exact ⟨.returned v, w', _, a5, hfn, ⟨a4, rfl, hkind, fn, by rw [← hfn'] ; exact congrArg _ hfn, hv1⟩, g', s2, .ret d, a1, a2.st.sub h4, h3 _ _ _ hv2, h5⟩
  | some d =>
    obtain ⟨d', s2, h1, h2, h3⟩ := a3
    obtain ⟨v, hv1, hv2⟩ := a4
    exact ⟨.panicked [{ v, recovered := false }], w', _, a5, hfn, ⟨hv1, rfl, fn, by rw [← hfn']; exact congrArg _ hfn⟩, g', s2, .panic d', a1, a2.st.sub h2, ⟨v, rfl, h1 _ _ _ hv2⟩, h3⟩
theorem IsFun.retU {F : Fr P} {rs : List RV} {Φ : Res → St → Prop} {dds : List DD} (hF : IsFun F rs Φ dds) {dk : List DItem} {ρ : Env} {L : Loc} {s : St} (h : Unw P dds none s (EndOk ρ L rs Φ)) : DRun F (.code .ret :: dk) ρ L s := by
  obtain ⟨an, f, df, cs, hf, rfl, rfl⟩ := hF
  intro k hk
  cases hk with
  | code hc ht =>
    obtain rfl := cc_ret hc
    intro g ν w tmps hN m
    refine (funGoal P f cs Φ).back _ _ _ _ (.one (stepR_ret rfl)) ?_
    exact end_ok (m := none) hf rfl rfl (dds := dds) m rfl rfl h
theorem IsFun.finU {F : Fr P} {rs : List RV} {Φ : Res → St → Prop} {dds : List DD} (hF : IsFun F rs Φ dds) {ρ : Env} {L : Loc} {s : St} (h : Unw P dds none s (EndOk ρ L rs Φ)) : DRun F [] ρ L s := by
  obtain ⟨an, f, df, cs, hf, rfl, rfl⟩ := hF
  intro k hk
  cases hk
  intro g ν w tmps hN m
  refine (funGoal P f cs Φ).back _ _ _ _ (.one (stepR_end rfl)) ?_
  exact end_ok (m := none) hf rfl rfl (dds := dds) m rfl rfl h
theorem IsFun.panU {F : Fr P} {rs : List RV} {Φ : Res → St → Prop} {dds : List DD} (hF : IsFun F rs Φ dds) {ρ : Env} {L : Loc} {d : D} {s : St} (h : Unw P dds (some d) s (EndOk ρ L rs Φ)) : Panics F ρ L d s := by
  obtain ⟨an, f, df, cs, hf, rfl, rfl⟩ := hF
  intro g ν w v todo tmps hN m hr
  exact end_ok (m := some d) hf rfl rfl (dds := dds) m rfl ⟨v, rfl, hr⟩ h
theorem IsFun.ret {F : Fr P} {rs : List RV} {Φ : Res → St → Prop} (hF : IsFun F rs Φ []) {dk : List DItem} {ρ : Env} {L : Loc} {s : St} {p : Prop} {ds : List D} (d : D) (s' : St) (h1 : rvsGet ρ L s rs = some (p, ds)) (h2 : p) (h3 : (mkRes ds).Le d) (h4 : s'.sub s) (h5 : Φ (.ret d) s') :
    DRun F (.code .ret :: dk) ρ L s := hF.retU ⟨p, ds, d, s', h1, h2, h3, h4, h5⟩
theorem DCalls_fun {an : Ann} {f : FuncId} {df : DF} (hf : cf P an f = some df) {args : List D} {s : St} {Φ : Res → St → Prop}
    (h : ∀ F : Fr P, IsFun F df.res Φ [] → DRun F [.code df.body] (initE 0 args) [] s) : DCalls P f args s Φ :=
  DCalls_intro hf fun cs => h _ ⟨an, f, df, cs, hf, rfl, rfl⟩
end
end Go.DL
namespace Go.DL
open Go
def PCalls (P : Program) (f : FuncId) (args : List D) (d : D) : Prop := ∀ s, DCalls P f args s fun r s' => r = .ret d ∧ s' = s
theorem PCalls_fun {P : Program} {an : Ann} {f : FuncId} {df : DF} (hf : cf P an f = some df) {args : List D} {d : D}
    (h : ∀ (F : Fr P) (s : St), (∀ {dk : List DItem} {ρ : Env} {L : Loc} {s' : St} {p : Prop} {ds : List D}, rvsGet ρ L s' df.res = some (p, ds) → p → (mkRes ds).Le d → s.sub s' → DRun F (.code .ret :: dk) ρ L s') →
      DRun F [.code df.body] (initE 0 args) [] s) : PCalls P f args d :=
  fun s => DCalls_fun hf fun F hF => h F s fun h1 h2 h3 h4 => hF.ret d s h1 h2 h3 h4 ⟨rfl, rfl⟩
theorem DO_pcall {P : Program} {F : Fr P} {kp : Option (List Nat)} {dk : List DItem} {o : DOp} {os : List DOp} {ρ : Env} {L : Loc} {s : St} (hg : guardB ρ o.guard = some true) {fx : Opd} {xs : List Opd} (hk : o.k = .call fx xs)
    {p q : Prop} {f : FuncId} {first caps : List D} {es : List E} {ds : List D} (hf : argE ρ true fx = some (q, .d (.fn (.func f) first caps))) (ha : argsE ρ true xs = some (p, es)) (hds : dsOf es = some ds) (hp : p) (hq : q)
    {d : D} (hc : PCalls P f (first ++ ds ++ caps) d) (h : DO F kp dk os (putE ρ o.dst (.d d)) L s) : DO F kp dk (o :: os) ρ L s :=
  DO_call hg hk hf ha hds hp hq (hc s) (fun d' s' ⟨h1, h2⟩ => by simp only [Res.ret.injEq] at h1; subst h1; subst h2; exact h) (fun d' s' ⟨h1, _⟩ => by simp at h1)
end Go.DL
namespace Go.DL
open Go
section
variable {P : Program}
theorem DO_env {F : Fr P} {kp : Option (List Nat)} {dk : List DItem} {os : List DOp} {ρ ρ' : Env} {L : Loc} {s : St} (h : ∀ g ν w tmps, Models g ν w tmps ρ L s → Models g ν w tmps ρ' L s) (h' : DO F kp dk os ρ' L s) :
    DO F kp dk os ρ L s := fun ops is k hops hk g ν w tmps hN m => h' ops is k hops hk g ν w tmps hN (h g ν w tmps m)
theorem Models.headWhen {g : G} {ν : Nat → Nat} {w : World} {tmps : Array Value} {ρ : Env} {L : Loc} {s : St} {dst : Option Nat} {e : E} (m : Models g ν w tmps (putE ρ dst e) L s) : Models g ν w tmps (putE ρ dst (.when true e)) L s := by
  cases dst with
  | none => exact m
  | some t =>
    refine { m with env := fun u x hx => ?_ }
    simp only [putE, getE] at hx
    by_cases h : t = u
    · simp only [h, if_true, Option.some.injEq] at hx
      subst hx
      exact ⟨fun _ => m.env u e (by simp [putE, getE, h]), fun h => by simp at h⟩
    · simp only [h, if_false] at hx
      exact m.env u x (by simp [putE, getE, h, hx])
theorem DO_skip {F : Fr P} {kp : Option (List Nat)} {dk : List DItem} {o : DOp} {os : List DOp} {ρ : Env} {L : Loc} {s : St} (hg : guardB ρ o.guard = some false) {e : E}
    (h : DO F kp dk os (putE ρ o.dst (.when false e)) L s) : DO F kp dk (o :: os) ρ L s := by
  refine DO_of fun oo g ν w tmps ops i r k hoo hck hcg hdst hd hN m hr hkk => ?_
  exact goes_unwanted (P := P) hN m hoo hdst hd (guard_ok m hcg hg) (h ops r k hr hkk)
theorem DO_pcallG {F : Fr P} {kp : Option (List Nat)} {dk : List DItem} {o : DOp} {os : List DOp} {ρ : Env} {L : Loc} {s : St} {c : Bool} (hg : guardB ρ o.guard = some c) {fx : Opd} {xs : List Opd} (hk : o.k = .call fx xs)
    {p q : Prop} {f : FuncId} {first caps : List D} {es : List E} {ds : List D} (hf : argE ρ c fx = some (q, .d (.fn (.func f) first caps))) (ha : argsE ρ c xs = some (p, es)) (hds : dsOf es = some ds)
    {d : D} (hc : c = true → p ∧ q ∧ PCalls P f (first ++ ds ++ caps) d) (h : DO F kp dk os (putE ρ o.dst (.when c (.d d))) L s) : DO F kp dk (o :: os) ρ L s := by
  cases c
  · exact DO_skip hg h
  · obtain ⟨h1, h2, h3⟩ := hc rfl
    exact DO_pcall hg hk hf ha hds h1 h2 h3 (DO_env (fun g ν w tmps m => m.headWhen) h)
end
end Go.DL
namespace Go.DL
open Go
inductive Sch (T : Tab) : (Nat → Bool) → List Nat → Prop where
  | nil {l} (h : ∀ i, i < T.length → l i = true) : Sch T l []
  | cons {l i is} (hi : i < T.length) (hl : l i = false) (hd : ∀ d ∈ T.deps i, l d = true) (t : Sch T (fun j => j == i || l j) is) : Sch T l (i :: is)
def AgreeE (ρ ρ' : Env) (ns : List Nat) : Prop := ∀ t ∈ ns, getE ρ' t = getE ρ t
theorem argE_congr {ρ ρ' : Env} {c : Bool} {x : Opd} (h : AgreeE ρ ρ' (opdT x)) : argE ρ' c x = argE ρ c x := by
  cases x with
  | cst d => rfl
  | tmp t => simp only [argE, h t (by simp [opdT])]
theorem argsE_congr {ρ ρ' : Env} {c : Bool} : ∀ {xs : List Opd}, AgreeE ρ ρ' (opdsT xs) → argsE ρ' c xs = argsE ρ c xs
  | [], _ => rfl
  | x :: xs, h => by
    have h1 : AgreeE ρ ρ' (opdT x) := fun t ht => h t (by simp [opdsT]; exact .inl ht)
    have h2 : AgreeE ρ ρ' (opdsT xs) := fun t ht => h t (by simp only [opdsT, List.flatMap_cons, List.mem_append]; exact .inr ht)
    simp only [argsE, argE_congr h1, argsE_congr h2]
theorem guardB_congr {ρ ρ' : Env} {g : Option (Nat × Bool)} (h : AgreeE ρ ρ' (guardT g)) : guardB ρ' g = guardB ρ g := by
  cases g with
  | none => rfl
  | some x => obtain ⟨t, w⟩ := x; simp only [guardB, h t (by simp [guardT])]
theorem pickE_congr {ρ ρ' : Env} {c : Bool} {x a b : Opd} (h : AgreeE ρ ρ' (opdT x ++ opdT a ++ opdT b)) : pickE ρ' c x a b = pickE ρ c x a b := by
  have h1 : AgreeE ρ ρ' (opdT x) := fun t ht => h t (by simp [ht])
  have h2 : AgreeE ρ ρ' (opdT a) := fun t ht => h t (by simp [ht])
  have h3 : AgreeE ρ ρ' (opdT b) := fun t ht => h t (by simp [ht])
  simp only [pickE, argE_congr h1]
  split
  · rw [argE_congr h2, argE_congr h3]
  · rfl
theorem cellGet_congr {L L' : Loc} {s : St} {e : E} (h : ∀ x o, e = .loc x o → getL L' x = getL L x) : cellGet L' s e = cellGet L s e := by
  cases e with
  | d v => cases v <;> rfl
  | loc l o => simp only [cellGet, h l o rfl]
  | when c e => rfl
theorem partGet_congr {L L' : Loc} {s : St} {n : Nat} {e : E} (h : ∀ x o, e = .loc x o → getL L' x = getL L x) : partGet L' s n e = partGet L s n e := by
  cases e with
  | d v => cases v <;> rfl
  | loc l o => simp only [partGet, h l o rfl]
  | when c e => rfl
theorem qv_congr {L L' : Loc} {s : St} {q : Q} {es : List E} (h : loadK (.q q []) = true → ∀ x o, .loc x o ∈ es → getL L' x = getL L x) : qv L' s q es = qv L s q es := by
  by_cases hl : loadK (.q q []) = true
  · replace h := h hl
    cases q <;> simp [loadK] at hl
    · match es with
      | [a] => simp only [qv, cellGet_congr (e := a) fun x o ha => h x o (by rw [ha]; exact List.mem_singleton_self _)]
      | [] => rfl
      | _ :: _ :: _ => rfl
    · match es with
      | [a] => simp only [qv, partGet_congr (e := a) fun x o ha => h x o (by rw [ha]; exact List.mem_singleton_self _)]
      | [] => rfl
      | _ :: _ :: _ => rfl
  · clear h
    unfold qv
    split <;> first | rfl | (exfalso; exact hl rfl) | skip
def quietK : K → Bool
  | .q _ _ | .pick _ _ _ | .bsl _ _ _ _ _ | .s2b _ => true
  | _ => false
theorem stepQ_congr {o : DOp} {ρ ρ' : Env} {L L' : Loc} {s s1 : St} {side : Prop} {ρ1 : Env} {L1 : Loc} (hst : stepQ o ρ L s = .ok side ρ1 L1 s1) (hs : side) (hgt : guardB ρ o.guard = some true) (hk : quietK o.k = true) (ha : AgreeE ρ ρ' (namesO o))
    (hl : loadK o.k = true → ∀ q xs p es, o.k = .q q xs → argsE ρ true xs = some (p, es) → p → ∀ x o, .loc x o ∈ es → getL L' x = getL L x) : ∃ e, ρ1 = putE ρ o.dst e ∧ L1 = L ∧ s1 = s ∧ stepQ o ρ' L' s = .ok side (putE ρ' o.dst e) L' s := by
  obtain ⟨dst, gd, k⟩ := o
  have hg := guardB_congr (g := gd) (fun t ht => ha t (by simp [namesO, ht]))
  have hn : AgreeE ρ ρ' (namesK k) := fun t ht => ha t (by simp [namesO, ht])
  simp only at hgt
  unfold stepQ at hst ⊢
  simp only [hg, hgt] at hst ⊢
  cases k with
  | q q xs =>
    simp only at hst ⊢
    rw [argsE_congr hn]
    split at hst <;> (try (simp at hst; done))
    rename_i p es hes
    try simp only [hes]
    split at hst <;> (try (simp at hst; done))
    rename_i sd e hq
    have hp : p := by
      split at hst <;> (simp only [SR.ok.injEq] at hst; obtain ⟨rfl, -, -, -⟩ := hst)
      · exact hs.1
      · exact (hs trivial).1
    have hqc : qv L' s q es = qv L s q es := qv_congr fun hld => hl (by cases q <;> simp_all [loadK]) q xs p es rfl hes hp
    simp only [hqc, hq]
    split at hst <;> (simp only [SR.ok.injEq] at hst; obtain ⟨rfl, rfl, rfl, rfl⟩ := hst)
    · exact ⟨e, rfl, rfl, rfl, rfl⟩
    · exact ⟨_, rfl, rfl, rfl, rfl⟩
  | pick x a b =>
    simp only at hst ⊢
    rw [pickE_congr hn]
    split at hst <;> (try (simp at hst; done))
    rename_i p v hp
    try simp only [hp]
    split at hst <;> (simp only [SR.ok.injEq] at hst; obtain ⟨rfl, rfl, rfl, rfl⟩ := hst)
    · exact ⟨_, rfl, rfl, rfl, rfl⟩
    · exact ⟨_, rfl, rfl, rfl, rfl⟩
  | bsl len n z is xs =>
    simp only at hst ⊢
    rw [argsE_congr hn]
    split at hst <;> (try (simp at hst; done))
    rename_i p es hes
    try simp only [hes]
    split at hst <;> (try (simp at hst; done))
    rename_i ds hds
    try simp only [hds]
    split at hst <;> (simp only [SR.ok.injEq] at hst; obtain ⟨rfl, rfl, rfl, rfl⟩ := hst)
    · exact ⟨_, rfl, rfl, rfl, rfl⟩
    · exact ⟨_, rfl, rfl, rfl, rfl⟩
  | s2b x =>
    simp only at hst ⊢
    rw [argE_congr hn]
    split at hst <;> (try (simp at hst; done))
    rename_i p l hl
    try simp only [hl]
    split at hst <;> (simp only [SR.ok.injEq] at hst; obtain ⟨rfl, rfl, rfl, rfl⟩ := hst)
    · exact ⟨_, rfl, rfl, rfl, rfl⟩
    · exact ⟨_, rfl, rfl, rfl, rfl⟩
  | _ => simp [quietK] at hk
theorem stepQ_false {o : DOp} {ρ : Env} {L : Loc} {s s1 : St} {side : Prop} {ρ1 : Env} {L1 : Loc} (hst : stepQ o ρ L s = .ok side ρ1 L1 s1) (hgt : guardB ρ o.guard = some false) (hk : quietK o.k = true) : ∃ e, ρ1 = putE ρ o.dst (.when false e) ∧ L1 = L ∧ s1 = s := by
  obtain ⟨dst, gd, k⟩ := o
  have hgn : ∃ x, gd = some x := by
    cases gd with
    | none => simp [guardB] at hgt
    | some x => exact ⟨x, rfl⟩
  obtain ⟨x, rfl⟩ := hgn
  simp only at hgt
  unfold stepQ at hst
  simp only [hgt] at hst
  cases k with
  | q q xs =>
    simp only at hst
    split at hst <;> (try (simp at hst; done))
    split at hst <;> (try (simp at hst; done))
    simp only [SR.ok.injEq] at hst; obtain ⟨rfl, rfl, rfl, rfl⟩ := hst
    exact ⟨_, rfl, rfl, rfl⟩
  | pick x a b =>
    simp only at hst
    split at hst <;> (try (simp at hst; done))
    simp only [SR.ok.injEq] at hst; obtain ⟨rfl, rfl, rfl, rfl⟩ := hst
    exact ⟨_, rfl, rfl, rfl⟩
  | bsl len n z is xs =>
    simp only at hst
    split at hst <;> (try (simp at hst; done))
    split at hst <;> (try (simp at hst; done))
    simp only [SR.ok.injEq] at hst; obtain ⟨rfl, rfl, rfl, rfl⟩ := hst
    exact ⟨_, rfl, rfl, rfl⟩
  | s2b x =>
    simp only at hst
    split at hst <;> (try (simp at hst; done))
    simp only [SR.ok.injEq] at hst; obtain ⟨rfl, rfl, rfl, rfl⟩ := hst
    exact ⟨_, rfl, rfl, rfl⟩
  | _ => simp [quietK] at hk
theorem keepsB_mem {s s' : St} {L L' : Loc} : ∀ {B : List (Nat × Rd)}, keepsB s s' L L' B → (∀ n b, (n, .blk b) ∈ B → s' b = s b) ∧ (∀ n l, (n, .loc l) ∈ B → getL L' l = getL L l)
  | [], _ => ⟨fun n b h => by simp at h, fun n b h => by simp at h⟩
  | (m, .blk c) :: B, h => by
    obtain ⟨h1, h2⟩ := keepsB_mem h.2
    refine ⟨fun n b hb => ?_, fun n l hl => h2 n l (by simpa using hl)⟩
    rcases List.mem_cons.1 hb with hb | hb
    · simp only [Prod.mk.injEq, Rd.blk.injEq] at hb; rw [hb.2]; exact h.1
    · exact h1 n b hb
  | (m, .loc c) :: B, h => by
    obtain ⟨h1, h2⟩ := keepsB_mem h.2
    refine ⟨fun n b hb => h1 n b (by simpa using hb), fun n l hl => ?_⟩
    rcases List.mem_cons.1 hl with hl | hl
    · simp only [Prod.mk.injEq, Rd.loc.injEq] at hl; rw [hl.2]; exact h.1
    · exact h2 n l hl
theorem keepsB_refl (s : St) (L : Loc) : ∀ B, keepsB s s L L B
  | [] => trivial
  | (_, .blk _) :: B => ⟨rfl, keepsB_refl s L B⟩
  | (_, .loc _) :: B => ⟨rfl, keepsB_refl s L B⟩
theorem keepsF_refl (fl : List Nat) (s : St) (L : Loc) (B : List (Nat × Rd)) : keepsF fl s s L L B := keepsB_refl s L _
theorem nextB_nil : ∀ (B : List (Nat × Rd)), nextB [] B = []
  | [] => rfl
  | _ :: B => nextB_nil B
theorem keepsF_nil {s s' : St} {L L' : Loc} {B : List (Nat × Rd)} : keepsF [] s s' L L' B := by
  unfold keepsF; rw [nextB_nil]; trivial
theorem nextB_iff {fl : List Nat} {x : Nat × Rd} : ∀ {B : List (Nat × Rd)}, x ∈ nextB fl B ↔ memB x.1 fl = true ∧ x ∈ B
  | [] => by simp [nextB]
  | y :: B => by
    simp only [nextB]
    split
    · rename_i h
      simp only [List.mem_cons, nextB_iff (B := B)]
      constructor
      · rintro (rfl | ⟨h1, h2⟩)
        · exact ⟨h, .inl rfl⟩
        · exact ⟨h1, .inr h2⟩
      · rintro ⟨h1, rfl | h2⟩
        · exact .inl rfl
        · exact .inr ⟨h1, h2⟩
    · rename_i h
      simp only [List.mem_cons, nextB_iff (B := B)]
      constructor
      · rintro ⟨h1, h2⟩; exact ⟨h1, .inr h2⟩
      · rintro ⟨h1, rfl | h2⟩
        · exact absurd h1 h
        · exact ⟨h1, h2⟩
theorem readsT_mem {o : DOp} {ρ : Env} {x : Rd} : (tagO o, x) ∈ readsT o ρ ↔ x ∈ readsO o ρ := by simp [readsT]
theorem readsO_congr {o : DOp} {ρ ρ' : Env} (h : AgreeE ρ ρ' (namesO o)) : readsO o ρ' = readsO o ρ := by
  obtain ⟨dst, gd, k⟩ := o
  have hg := guardB_congr (g := gd) (fun t ht => h t (by simp [namesO, ht]))
  cases k with
  | q q xs =>
    have hn : AgreeE ρ ρ' (opdsT xs) := fun t ht => h t (by simp [namesO, namesK, ht])
    simp only [readsO, hg]
    split
    · cases guardB ρ gd with
      | none => rfl
      | some c => simp only [argsE_congr hn]
    · rfl
  | _ => rfl
theorem qv_state {L : Loc} {s s' : St} {q : Q} {es : List E} (h : readK (.q q []) = true → ∀ e r, es = e :: r → ∀ b, .blk b ∈ readsD e → s' b = s b) : qv L s' q es = qv L s q es := by
  by_cases hl : readK (.q q []) = true
  · replace h := h hl
    match es with
    | [] =>
      cases q
      case conv c => cases c <;> first | rfl | simp [readK] at hl
      all_goals simp [readK] at hl <;> rfl
    | e :: r =>
      replace h := h e r rfl
      have hc : ∀ b o, e = .d (.ptr b o) → cellsAt s' b = cellsAt s b := fun b o he => by subst he; simp only [cellsAt, h b (by simp [readsD])]
      have hm : ∀ b, e = .d (.map b) → mapAt s' b = mapAt s b := fun b he => by subst he; simp only [mapAt, h b (by simp [readsD])]
      have hms : ∀ b o n cap z, e = .d (.msl b o n cap z) → cellsAt s' b = cellsAt s b := fun b o n cap z he => by subst he; simp only [cellsAt, h b (by simp [readsD])]
      have hconv : q = .conv .b2s → qv L s' q (e :: r) = qv L s q (e :: r) := fun hq => by
        subst hq
        cases r with
        | nil =>
          cases e with
          | d v => cases v <;> first | rfl | (simp only [qv]; rw [hms _ _ _ _ _ rfl])
          | _ => rfl
        | cons =>
          cases e with
          | d v => cases v <;> rfl
          | _ => rfl
      cases q
      case conv c => cases c <;> first | (simp [readK] at hl; done) | exact hconv rfl
      all_goals simp [readK] at hl
      · cases r with
        | nil =>
          simp only [qv]
          congr 1
          cases e with
          | d v => cases v <;> first | rfl | (simp only [cellGet]; rw [hc _ _ rfl])
          | _ => rfl
        | cons => rfl
      · cases r with
        | nil =>
          simp only [qv]
          congr 1
          cases e with
          | d v => cases v <;> first | rfl | (simp only [partGet]; rw [hc _ _ rfl])
          | _ => rfl
        | cons => rfl
      · match r with
        | [] =>
          cases e with
          | d v => cases v <;> rfl
          | _ => rfl
        | [e2] =>
          cases e with
          | d v =>
            cases e2 with
            | d v2 => cases v <;> first | rfl | (simp only [qv]; rw [hm _ rfl])
            | _ => cases v <;> rfl
          | _ => cases e2 <;> rfl
        | e2 :: _ :: _ =>
          cases e with
          | d v => cases v <;> (cases e2 <;> rfl)
          | _ => cases e2 <;> rfl
      · cases r with
        | nil =>
          cases e with
          | d v => cases v <;> first | rfl | (simp only [qv]; rw [hm _ rfl])
          | _ => rfl
        | cons =>
          cases e with
          | d v => cases v <;> rfl
          | _ => rfl
  · clear h
    cases q
    case conv c => cases c <;> first | (simp [readK] at hl; done) | (unfold qv; rfl) | (unfold qv; split <;> first | rfl | (rename_i hx; cases hx))
    all_goals first | (simp [readK] at hl; done) | (unfold qv; rfl) | (unfold qv; split <;> first | rfl | (rename_i hx; cases hx))
theorem stepQ_state {o : DOp} {ρ : Env} {L : Loc} {s s' : St} {side : Prop} {ρ1 : Env} (hst : stepQ o ρ L s = .ok side ρ1 L s) (hk : quietK o.k = true) (hgt : guardB ρ o.guard = some true) (h : ∀ b, .blk b ∈ readsO o ρ → s' b = s b) : stepQ o ρ L s' = .ok side ρ1 L s' := by
  obtain ⟨dst, gd, k⟩ := o
  unfold stepQ at hst ⊢
  obtain ⟨c, hg, hc⟩ : ∃ c, guardB ρ gd = some c ∧ c = true := ⟨true, hgt, rfl⟩
  simp only [hg] at hst ⊢
  cases k with
  | q q xs =>
    simp only at hst ⊢
    split at hst <;> (try (simp at hst; done))
    rename_i p es hes
    have hqc : qv L s' q es = qv L s q es := qv_state fun hl e r he b hb => h b (by
      subst he
      have hl' : readK (.q q xs) = true := by
        cases q
        case conv c => cases c <;> simp_all [readK]
        all_goals simp_all [readK]
      subst hc
      simp only [readsO, hl', if_true, hg, hes]; exact hb)
    simp only [hqc]
    split at hst <;> (try (simp at hst; done))
    split at hst <;> (simp only [SR.ok.injEq] at hst; obtain ⟨rfl, rfl, -, -⟩ := hst; rfl)
  | pick x a b =>
    simp only at hst ⊢
    split at hst <;> (try (simp at hst; done))
    split at hst <;> (simp only [SR.ok.injEq] at hst; obtain ⟨rfl, rfl, -, -⟩ := hst; rfl)
  | bsl len n z is xs =>
    simp only at hst ⊢
    split at hst <;> (try (simp at hst; done))
    split at hst <;> (try (simp at hst; done))
    split at hst <;> (simp only [SR.ok.injEq] at hst; obtain ⟨rfl, rfl, -, -⟩ := hst; rfl)
  | s2b x =>
    simp only at hst ⊢
    split at hst <;> (try (simp at hst; done))
    split at hst <;> (simp only [SR.ok.injEq] at hst; obtain ⟨rfl, rfl, -, -⟩ := hst; rfl)
  | _ => simp [quietK] at hk
def allocO (o : DOp) (x : Nat) : Prop := o.dst = some x ∧ ∃ z, o.k = .alloc z
def PendOk (o : DOp) (ρ : Env) (L : Loc) (s : St) (B : List (Nat × Rd)) : Prop :=
  (quietK o.k = true ∧ guardB ρ o.guard = some true ∧ (∀ b ∈ readsO o ρ, (tagO o, b) ∈ B) ∧ ∃ side e, side ∧ stepQ o ρ L s = .ok side (putE ρ o.dst e) L s ∧ ∀ t, o.dst = some t → getE ρ t = some e) ∨
  (quietK o.k = true ∧ guardB ρ o.guard = some false ∧ ∃ e, ∀ t, o.dst = some t → getE ρ t = some (.when false e)) ∨
  (∃ t z, o = ⟨some t, none, .alloc z⟩ ∧ getE ρ t = some (.loc t 0) ∧ getL L t = some z)
structure Inv (T : Tab) (ms : List Nat) (A rest : List Nat) (ρ : Env) (L : Loc) (s : St) (B : List (Nat × Rd)) (l : Nat → Bool) (ρ' : Env) (L' : Loc) : Prop where
  closed : ∀ i, i < T.length → l i = true → ∀ d ∈ T.deps i, l d = true
  restN : ∀ r ∈ rest, l r = false
  doneN : ∀ i, i < T.length → i ∉ rest → i ∉ A → l i = true
  alt : ∀ a ∈ A, a < T.length
  pair : ∀ p ∈ A, ∀ a ∈ A, (ms.getD p 0).testBit a = true ∨ nd (T.op a).dst (namesO (T.op p)) = true
  uniq : ∀ p ∈ A, ∀ a ∈ A, p ≠ a → ndd (T.op p).dst (T.op a).dst = true
  env : ∀ t, getE ρ' t = getE ρ t ∨ ∃ a ∈ A, l a = false ∧ (T.op a).dst = some t
  loc0 : ∀ a ∈ A, l a = false → ∀ x, allocO (T.op a) x → getL L' x = none
  loc : ∀ x, getL L' x = getL L x ∨ ∃ a ∈ A, l a = false ∧ allocO (T.op a) x
  pend : ∀ a ∈ A, l a = false → PendOk (T.op a) ρ L s B
def MaskOk (T : Tab) (ms : List Nat) : Prop :=
  ∀ (l : Nat → Bool), (∀ i, i < T.length → l i = true → ∀ d ∈ T.deps i, l d = true) → ∀ i, i < T.length → (∀ d ∈ T.deps i, l d = true) → ∀ a, (ms.getD i 0).testBit a = true → l a = true
theorem PendOk.state {o : DOp} {ρ : Env} {L : Loc} {s s' : St} {B : List (Nat × Rd)} (h : PendOk o ρ L s B) (hB : ∀ b, .blk b ∈ readsO o ρ → s' b = s b) : PendOk o ρ L s' B := by
  rcases h with ⟨hk, hg, hr, side, e, hs, hst, he⟩ | h | h
  · exact .inl ⟨hk, hg, hr, side, e, hs, stepQ_state hst hk hg hB, he⟩
  · exact .inr (.inl h)
  · exact .inr (.inr h)
theorem PendOk.more {o : DOp} {ρ : Env} {L : Loc} {s : St} {B B' : List (Nat × Rd)} (h : PendOk o ρ L s B) (hB : ∀ b ∈ readsO o ρ, (tagO o, b) ∈ B → (tagO o, b) ∈ B') : PendOk o ρ L s B' := by
  rcases h with ⟨hk, hg, hr, h⟩ | h | h
  · exact .inl ⟨hk, hg, fun b hb => hB b hb (hr b hb), h⟩
  · exact .inr (.inl h)
  · exact .inr (.inr h)
theorem readsO_skip {o : DOp} {ρ : Env} (h : guardB ρ o.guard = some false) : readsO o ρ = [] := by
  obtain ⟨dst, gd, k⟩ := o
  cases k <;> simp only [readsO]
  simp only at h
  simp [h]
theorem readsO_none {o : DOp} {ρ : Env} (h : readK o.k = false) : readsO o ρ = [] := by
  obtain ⟨dst, gd, k⟩ := o
  cases k <;> simp only [readsO]
  rename_i q xs
  simp only at h
  simp [h]
section
variable {P : Program}
theorem DO_models {F : Fr P} {kp : Option (List Nat)} {dk : List DItem} {os : List DOp} {ρ : Env} {L : Loc} {s : St} (h : ∀ g ν w tmps, Models g ν w tmps ρ L s → DO F kp dk os ρ L s) : DO F kp dk os ρ L s :=
  fun ops is k hops hk g ν w tmps hN m => h g ν w tmps m ops is k hops hk g ν w tmps hN m
theorem args_loc {g : G} {ν : Nat → Nat} {w : World} {tmps : Array Value} {ρ : Env} {L : Loc} {s : St} (m : Models g ν w tmps ρ L s) : ∀ {xs : List Opd} {p : Prop} {es : List E}, argsE ρ true xs = some (p, es) → p → ∀ x o, .loc x o ∈ es → ∃ cs, getL L x = some cs
  | [], p, es, h, _, x, o, hx => by simp only [argsE, Option.some.injEq, Prod.mk.injEq] at h; obtain ⟨_, rfl⟩ := h; simp at hx
  | y :: ys, p, es, h, hp, x, o, hx => by
    simp only [argsE] at h
    split at h <;> simp only [Option.some.injEq, Prod.mk.injEq, reduceCtorEq] at h
    rename_i p1 e1 p2 es' h1 h2
    obtain ⟨rfl, rfl⟩ := h
    rcases List.mem_cons.1 hx with hx | hx
    · subst hx
      cases y with
      | cst d => simp [argE] at h1
      | tmp t =>
        simp only [argE] at h1
        split at h1
        · rename_i c' e' he
          simp only [Option.some.injEq, Prod.mk.injEq] at h1
          obtain ⟨rfl, rfl⟩ := h1
          exact ((m.env t _ he).1 (by simpa using hp.1)).1
        · rename_i e' _ he
          simp only [Option.some.injEq, Prod.mk.injEq] at h1
          obtain ⟨rfl, rfl⟩ := h1
          exact (m.env t _ he).1
        · simp at h1
    · exact args_loc m h2 hp.2 x o hx
theorem DO_pend {F : Fr P} {kp : Option (List Nat)} {dk : List DItem} {o : DOp} {os : List DOp} {ρ ρ' : Env} {L L' : Loc} {s : St} {side : Prop} {e : E} (hst : stepQ o ρ L s = .ok side (putE ρ o.dst e) L s) (hs : side) (hk : quietK o.k = true)
    (ha : AgreeE ρ ρ' (namesO o)) (hl : ∀ x, getL L' x = getL L x ∨ getL L' x = none) (h : DO F kp dk os (putE ρ' o.dst e) L' s) : DO F kp dk (o :: os) ρ' L' s := by
  have hput : ∀ e', putE ρ o.dst e = putE ρ o.dst e' → putE ρ' o.dst e = putE ρ' o.dst e' := fun e' h => by
    cases hd : o.dst with
    | none => rfl
    | some t => simp only [hd, putE, List.cons.injEq, Prod.mk.injEq, true_and, and_true] at h; rw [h]
  have hg := guardB_congr (g := o.guard) (fun t ht => ha t (by simp [namesO, ht]))
  cases hc : guardB ρ o.guard with
  | none => unfold stepQ at hst; simp [hc] at hst
  | some c =>
    cases c
    · obtain ⟨e', h1, -, -⟩ := stepQ_false hst hc hk
      rw [hput _ h1] at h
      exact DO_skip (by rw [hg, hc]) h
    · refine DO_models fun g ν w tmps m => ?_
      obtain ⟨e', h1, -, -, h2⟩ := stepQ_congr (ρ' := ρ') (L' := L') hst hs hc hk ha (fun hld q xs p es hkq hes hp x of hx => by
        have hn : AgreeE ρ ρ' (opdsT xs) := fun t ht => ha t (by simp [namesO, hkq, namesK, ht])
        obtain ⟨cs, hcs⟩ := args_loc m (by rw [argsE_congr hn]; exact hes) hp x of hx
        rcases hl x with h | h
        · exact h
        · rw [h] at hcs; simp at hcs)
      rw [hput _ h1] at h
      exact DO_step h2 hs h
end
end Go.DL
namespace Go.DL
open Go
theorem ndd_symm {a b : Option Nat} (h : ndd a b = true) : ndd b a = true := by
  cases a <;> cases b <;> simp only [ndd, bne_iff_ne, ne_eq] at h ⊢
  exact fun h' => h h'.symm
theorem ndd_ne {a b : Option Nat} (h : ndd a b = true) {t : Nat} (ha : a = some t) : b ≠ some t := by
  subst ha
  cases b with
  | none => simp
  | some u => simp only [ndd, bne_iff_ne] at h; intro hb; simp only [Option.some.injEq] at hb; exact h hb.symm
theorem nd_not {d : Option Nat} {l : List Nat} (h : nd d l = true) {t : Nat} (ht : d = some t) : t ∉ l := by
  subst ht; simpa [nd] using h
theorem agree_put {ρ : Env} {dst : Option Nat} {e : E} {ns : List Nat} (h : nd dst ns = true) : AgreeE ρ (putE ρ dst e) ns := by
  intro t ht
  cases dst with
  | none => rfl
  | some u =>
    have : ¬ u = t := fun hu => nd_not h rfl (hu ▸ ht)
    simp [putE, getE, this]
theorem getE_put (ρ : Env) (dst : Option Nat) (e : E) (t : Nat) : getE (putE ρ dst e) t = if dst = some t then some e else getE ρ t := by
  cases dst with
  | none => simp [putE]
  | some u => simp [putE, getE]
theorem qv_load {L : Loc} {s : St} {q : Q} {es : List E} {r : Prop × E} (hq : qv L s q es = some r) (hl : loadK (.q q []) = true) {x o : Nat} (hx : .loc x o ∈ es) : ∃ cs, getL L x = some cs := by
  cases q <;> simp [loadK] at hl
  · match es with
    | [a] =>
      simp only [List.mem_singleton] at hx
      subst hx
      simp only [qv, cellGet] at hq
      cases h : getL L x with
      | none => simp [h] at hq
      | some cs => exact ⟨cs, rfl⟩
    | [] => simp at hx
    | _ :: _ :: _ => simp [qv] at hq
  · match es with
    | [a] =>
      simp only [List.mem_singleton] at hx
      subst hx
      simp only [qv, partGet] at hq
      cases h : getL L x with
      | none => simp [h] at hq
      | some cs => exact ⟨cs, rfl⟩
    | [] => simp at hx
    | _ :: _ :: _ => simp [qv] at hq
theorem stepQ_mono {o : DOp} {ρ ρ' : Env} {L L' : Loc} {s s1 : St} {side : Prop} {ρ1 : Env} {L1 : Loc} (hst : stepQ o ρ L s = .ok side ρ1 L1 s1) (hk : quietK o.k = true) (ha : AgreeE ρ ρ' (namesO o))
    (hl : L' = L ∨ guardB ρ o.guard = some true ∧ ∀ x, .loc x ∈ readsO o ρ → getL L' x = getL L x) : ∃ e, ρ1 = putE ρ o.dst e ∧ L1 = L ∧ s1 = s ∧ stepQ o ρ' L' s = .ok side (putE ρ' o.dst e) L' s := by
  obtain ⟨dst, gd, k⟩ := o
  have hg := guardB_congr (g := gd) (fun t ht => ha t (by simp [namesO, ht]))
  have hn : AgreeE ρ ρ' (namesK k) := fun t ht => ha t (by simp [namesO, ht])
  unfold stepQ at hst ⊢
  simp only [hg] at hst ⊢
  cases hc : guardB ρ gd with
  | none => simp [hc] at hst
  | some c =>
  simp only [hc] at hst ⊢
  cases k with
  | q q xs =>
    simp only at hst ⊢
    rw [argsE_congr hn]
    split at hst <;> (try (simp at hst; done))
    rename_i p es hes
    try simp only [hes]
    split at hst <;> (try (simp at hst; done))
    rename_i sd e hq
    have hqc : qv L' s q es = qv L s q es := qv_congr fun hld x of hx => by
      rcases hl with rfl | ⟨hgt, hl⟩
      · rfl
      obtain rfl : c = true := by simpa [hc] using hgt
      refine hl x ?_
      have hrd : readK (.q q xs) = true := by cases q <;> simp_all [loadK, readK]
      have hes1 : es = [.loc x of] := by
        have hq' : ∃ r, qv L s q es = some r := ⟨_, hq⟩
        cases q <;> simp [loadK] at hld
        · match es with
          | [a] => simp only [List.mem_singleton] at hx; rw [hx]
          | [] => simp at hx
          | _ :: _ :: _ => simp [qv] at hq'
        · match es with
          | [a] => simp only [List.mem_singleton] at hx; rw [hx]
          | [] => simp at hx
          | _ :: _ :: _ => simp [qv] at hq'
      subst hes1
      simp only [readsO, hrd, if_true, hc, hes, readsD, List.mem_singleton]
    simp only [hqc, hq]
    split at hst <;> (simp only [SR.ok.injEq] at hst; obtain ⟨rfl, rfl, rfl, rfl⟩ := hst)
    · exact ⟨e, rfl, rfl, rfl, rfl⟩
    · exact ⟨_, rfl, rfl, rfl, rfl⟩
  | pick x a b =>
    simp only at hst ⊢
    rw [pickE_congr hn]
    split at hst <;> (try (simp at hst; done))
    rename_i p v hp
    try simp only [hp]
    split at hst <;> (simp only [SR.ok.injEq] at hst; obtain ⟨rfl, rfl, rfl, rfl⟩ := hst)
    · exact ⟨_, rfl, rfl, rfl, rfl⟩
    · exact ⟨_, rfl, rfl, rfl, rfl⟩
  | bsl len n z is xs =>
    simp only at hst ⊢
    rw [argsE_congr hn]
    split at hst <;> (try (simp at hst; done))
    rename_i p es hes
    try simp only [hes]
    split at hst <;> (try (simp at hst; done))
    rename_i ds hds
    try simp only [hds]
    split at hst <;> (simp only [SR.ok.injEq] at hst; obtain ⟨rfl, rfl, rfl, rfl⟩ := hst)
    · exact ⟨_, rfl, rfl, rfl, rfl⟩
    · exact ⟨_, rfl, rfl, rfl, rfl⟩
  | s2b x =>
    simp only at hst ⊢
    rw [argE_congr hn]
    split at hst <;> (try (simp at hst; done))
    rename_i p l hl
    try simp only [hl]
    split at hst <;> (simp only [SR.ok.injEq] at hst; obtain ⟨rfl, rfl, rfl, rfl⟩ := hst)
    · exact ⟨_, rfl, rfl, rfl, rfl⟩
    · exact ⟨_, rfl, rfl, rfl, rfl⟩
  | _ => simp [quietK] at hk
theorem PendOk.mono {o : DOp} {ρ ρ1 : Env} {L L1 : Loc} {s : St} {B : List (Nat × Rd)} (h : PendOk o ρ L s B) (ha : AgreeE ρ ρ1 (namesO o)) (hd : ∀ t, o.dst = some t → getE ρ1 t = getE ρ t)
    (hl : ∀ x, .loc x ∈ readsO o ρ → getL L1 x = getL L x) (hal : ∀ t, allocO o t → getL L1 t = getL L t) : PendOk o ρ1 L1 s B := by
  rcases h with ⟨hk, hgt, hrd, side, e, hs, hst, he⟩ | ⟨hk, hgf, e, he⟩ | ⟨t, z, rfl, h1, h2⟩
  · left
    obtain ⟨e', h1, -, -, h2⟩ := stepQ_mono hst hk ha (.inr ⟨hgt, hl⟩)
    refine ⟨hk, by rw [guardB_congr fun t ht => ha t (by simp [namesO, ht])]; exact hgt, by rw [readsO_congr ha]; exact hrd, side, e', hs, h2, fun t ht => ?_⟩
    rw [hd t ht, he t ht]
    rw [ht] at h1
    simp only [putE, List.cons.injEq, Prod.mk.injEq, true_and, and_true] at h1
    rw [h1]
  · exact .inr (.inl ⟨hk, by rw [guardB_congr fun t ht => ha t (by simp [namesO, ht])]; exact hgf, e, fun t ht => by rw [hd t ht, he t ht]⟩)
  · right; right
    exact ⟨t, z, rfl, by rw [hd t rfl]; exact h1, by rw [hal t ⟨rfl, z, rfl⟩]; exact h2⟩
theorem allocO_quiet {o : DOp} {x : Nat} (h : allocO o x) : quietK o.k = false := by
  obtain ⟨_, z, hz⟩ := h; rw [hz]; rfl
section
variable {P : Program}
theorem exec_pend {F : Fr P} {kp : Option (List Nat)} {dk : List DItem} {T : Tab} {ms : List Nat} {A rest : List Nat} {ρ : Env} {L : Loc} {l : Nat → Bool} {ρ' : Env} {L' : Loc} {s : St} {B : List (Nat × Rd)} {p : Nat} {os : List DOp}
    (hm : MaskOk T ms) (inv : Inv T ms A rest ρ L s B l ρ' L') (hA : p ∈ A) (hdis : p ∉ rest) (hl : l p = false) (hdeps : ∀ d ∈ T.deps p, l d = true)
    (h : ∀ ρ2 L2, Inv T ms A rest ρ L s B (fun j => j == p || l j) ρ2 L2 → DO F kp dk os ρ2 L2 s) : DO F kp dk (T.op p :: os) ρ' L' s := by
  have hpn := inv.alt p hA
  have hforced := hm l inv.closed p hpn hdeps
  have hag : AgreeE ρ ρ' (namesO (T.op p)) := by
    intro t ht
    rcases inv.env t with h | ⟨a, ha, hla, hda⟩
    · exact h
    · exfalso
      rcases inv.pair p hA a ha with hb | hb
      · rw [hforced a hb] at hla; simp at hla
      · exact nd_not hb hda ht
  have hloc : ∀ x, getL L' x = getL L x ∨ getL L' x = none := fun x => by
    rcases inv.loc x with h | ⟨a, ha, hla, hx⟩
    · exact .inl h
    · exact .inr (inv.loc0 a ha hla x hx)
  have hclosed : ∀ i, i < T.length → (i == p || l i) = true → ∀ d ∈ T.deps i, (d == p || l d) = true := fun i hi hli d hd => by
    simp only [Bool.or_eq_true, beq_iff_eq] at hli ⊢
    rcases hli with rfl | hli
    · exact .inr (hdeps d hd)
    · exact .inr (inv.closed i hi hli d hd)
  have hrestN : ∀ r ∈ rest, (r == p || l r) = false := fun r hr => by
    simp only [Bool.or_eq_false_iff, beq_eq_false_iff_ne]
    exact ⟨fun h => hdis (h ▸ hr), inv.restN r hr⟩
  have hdone : ∀ i, i < T.length → i ∉ rest → i ∉ A → (i == p || l i) = true := fun i hi h1 h2 => by simp [inv.doneN i hi h1 h2]
  have hl2 : ∀ a, (a == p || l a) = false → a ≠ p ∧ l a = false := fun a ha => by simpa using ha
  have hl2' : ∀ a, a ≠ p → l a = false → (a == p || l a) = false := fun a ha h => by simp [ha, h]
  rcases inv.pend p hA hl with ⟨hk, hgt, hrd, side, e, hs, hst, he⟩ | ⟨hk, hgf, e0, he0⟩ | ⟨t, z, ho, h1, h2⟩
  rotate_left
  · obtain ⟨e, he, hE⟩ : ∃ e, (∀ t, (T.op p).dst = some t → getE ρ t = some e) ∧ e = .when false e0 := ⟨_, he0, rfl⟩
    refine DO_skip (e := e0) (by rw [guardB_congr fun t ht => hag t (by simp [namesO, ht])]; exact hgf) ?_
    rw [← hE]
    refine h _ _ ?_
    refine ⟨hclosed, hrestN, hdone, inv.alt, inv.pair, inv.uniq, fun t => ?_, fun a ha hla x hx => inv.loc0 a ha (hl2 a hla).2 x hx, fun x => ?_, fun a ha hla => inv.pend a ha (hl2 a hla).2⟩
    · rw [getE_put]
      by_cases hd : (T.op p).dst = some t
      · rw [if_pos hd]; exact .inl (he t hd).symm
      · rw [if_neg hd]
        rcases inv.env t with h | ⟨a, ha, hla, hda⟩
        · exact .inl h
        · exact .inr ⟨a, ha, hl2' a (fun hap => hd (hap ▸ hda)) hla, hda⟩
    · rcases inv.loc x with h | ⟨a, ha, hla, hx⟩
      · exact .inl h
      · refine .inr ⟨a, ha, hl2' a (fun hap => ?_) hla, hx⟩
        have := allocO_quiet hx
        rw [hap, hk] at this; simp at this
  rotate_left
  · refine DO_pend hst hs hk hag hloc (h _ _ ?_)
    refine ⟨hclosed, hrestN, hdone, inv.alt, inv.pair, inv.uniq, fun t => ?_, fun a ha hla x hx => inv.loc0 a ha (hl2 a hla).2 x hx, fun x => ?_, fun a ha hla => inv.pend a ha (hl2 a hla).2⟩
    · rw [getE_put]
      by_cases hd : (T.op p).dst = some t
      · rw [if_pos hd]; exact .inl (he t hd).symm
      · rw [if_neg hd]
        rcases inv.env t with h | ⟨a, ha, hla, hda⟩
        · exact .inl h
        · exact .inr ⟨a, ha, hl2' a (fun hap => hd (hap ▸ hda)) hla, hda⟩
    · rcases inv.loc x with h | ⟨a, ha, hla, hx⟩
      · exact .inl h
      · refine .inr ⟨a, ha, hl2' a (fun hap => ?_) hla, hx⟩
        have := allocO_quiet hx
        rw [hap, hk] at this; simp at this
  · have hal : allocO (T.op p) t := ⟨by rw [ho], z, by rw [ho]⟩
    have hnone := inv.loc0 p hA hl t hal
    refine DO_alloc (o := T.op p) (t := t) (by rw [ho]) (by rw [ho]) (z := z) (by rw [ho]) (by simp [hasL, hnone]) (h _ _ ?_)
    have hdp : (T.op p).dst = some t := by rw [ho]
    refine ⟨hclosed, hrestN, hdone, inv.alt, inv.pair, inv.uniq, fun u => ?_, fun a ha hla x hx => ?_, fun x => ?_, fun a ha hla => inv.pend a ha (hl2 a hla).2⟩
    · simp only [getE]
      by_cases hd : t = u
      · subst hd; simp [h1]
      · simp only [hd, if_false]
        rcases inv.env u with h | ⟨a, ha, hla, hda⟩
        · exact .inl h
        · exact .inr ⟨a, ha, hl2' a (fun hap => hd (by rw [hap, hdp] at hda; simpa using hda)) hla, hda⟩
    · obtain ⟨hap, hla⟩ := hl2 a hla
      have : ¬ t = x := fun htx => ndd_ne (inv.uniq p hA a ha hap.symm) hdp (htx ▸ hx.1)
      simp only [getL, this, if_false]
      exact inv.loc0 a ha hla x hx
    · simp only [getL]
      by_cases hd : t = x
      · subst hd; simp [h2]
      · simp only [hd, if_false]
        rcases inv.loc x with h | ⟨a, ha, hla, hx⟩
        · exact .inl h
        · exact .inr ⟨a, ha, hl2' a (fun hap => hd (by have := hx.1; rw [hap, hdp] at this; simpa using this)) hla, hx⟩
theorem reach {F : Fr P} {kp : Option (List Nat)} {dk : List DItem} {T : Tab} {ms : List Nat} {A rest : List Nat} {ρ : Env} {L : Loc} {s : St} {B : List (Nat × Rd)} {i : Nat}
    (hm : MaskOk T ms) (hi : i < T.length) (hdis : ∀ p ∈ A, p ∉ i :: rest) (hready : ∀ r ∈ rest, ∃ d ∈ T.deps r, d ∈ i :: rest)
    (cb : ∀ l ρ' L' is, Inv T ms A (i :: rest) ρ L s B l ρ' L' → (∀ d ∈ T.deps i, l d = true) → Sch T (fun j => j == i || l j) is → DO F kp dk (T.op i :: is.map T.op) ρ' L' s)
    {l : Nat → Bool} {is : List Nat} (sch : Sch T l is) : ∀ {ρ' : Env} {L' : Loc}, Inv T ms A (i :: rest) ρ L s B l ρ' L' → DO F kp dk (is.map T.op) ρ' L' s := by
  induction sch with
  | nil h => intro ρ' L' inv; have := inv.restN i (by simp); rw [h i hi] at this; simp at this
  | @cons l p is hp hlp hd t ih =>
    intro ρ' L' inv
    by_cases hpi : p = i
    · subst hpi; exact cb l ρ' L' is inv hd t
    · by_cases hpr : p ∈ rest
      · obtain ⟨d, hd1, hd2⟩ := hready p hpr
        have := inv.restN d hd2
        rw [hd d hd1] at this; simp at this
      · by_cases hpA : p ∈ A
        · exact exec_pend hm inv hpA (hdis p hpA) hlp hd fun ρ2 L2 inv2 => ih inv2
        · have := inv.doneN p hp (by simp [hpi, hpr]) hpA
          rw [hlp] at this; simp at this
theorem takeL_congr {L L' : Loc} (h : ∀ x, getL L' x = getL L x) : ∀ ls, takeL L' ls = takeL L ls
  | [] => rfl
  | l :: ls => by simp only [takeL, h l, takeL_congr h ls]
theorem keepE_congr {ρ ρ' : Env} (h : ∀ x, getE ρ' x = getE ρ x) : ∀ ks, keepE ρ' ks = keepE ρ ks
  | [] => rfl
  | k :: ks => by simp only [keepE, h k, keepE_congr h ks]
theorem reach_end {F : Fr P} {ks : List Nat} {dk : List DItem} {T : Tab} {ms : List Nat} {A : List Nat} {ρ : Env} {L : Loc} {s : St} {B : List (Nat × Rd)} (hm : MaskOk T ms)
    (h : DRun F dk (keepE ρ ks) (keepL (keepE ρ ks) L) s) {l : Nat → Bool} {is : List Nat} (sch : Sch T l is) : ∀ {ρ' : Env} {L' : Loc}, Inv T ms A [] ρ L s B l ρ' L' → DO F (some ks) dk (is.map T.op) ρ' L' s := by
  induction sch with
  | nil hall =>
    intro ρ' L' inv
    have h1 : ∀ t, getE ρ' t = getE ρ t := fun t => by
      rcases inv.env t with h | ⟨a, ha, hla, _⟩
      · exact h
      · rw [hall a (inv.alt a ha)] at hla; simp at hla
    have h2 : ∀ t, getL L' t = getL L t := fun t => by
      rcases inv.loc t with h | ⟨a, ha, hla, _⟩
      · exact h
      · rw [hall a (inv.alt a ha)] at hla; simp at hla
    refine DO_end ?_
    show DRun F dk (keepE ρ' ks) (keepL (keepE ρ' ks) L') s
    rw [keepE_congr h1]
    simp only [keepL, takeL_congr h2]
    exact h
  | @cons l p is hp hlp hd t ih =>
    intro ρ' L' inv
    by_cases hpA : p ∈ A
    · exact exec_pend hm inv hpA (by simp) hlp hd fun ρ2 L2 inv2 => ih inv2
    · have := inv.doneN p hp (by simp) hpA
      rw [hlp] at this; simp at this
def DOA (F : Fr P) (kp : Option (List Nat)) (dk : List DItem) (os : List (DOp × List Nat)) (ρ : Env) (L : Loc) (s : St) (B : List (Nat × Rd)) : Prop :=
  ∀ (T : Tab) ms fl (fk : Option Nat) A rest is l ρ' L', MaskOk T ms → chkTop T ms fl fk A rest = true → (∀ p ∈ A, p ∉ rest) → os = rest.map (fun i => (T.mk fk i, fl i)) → Inv T ms A rest ρ L s B l ρ' L' → Sch T l is → DO F kp dk (is.map T.op) ρ' L' s
theorem DOA_end {F : Fr P} {ks : List Nat} {dk : List DItem} {ρ : Env} {L : Loc} {s : St} {B : List (Nat × Rd)} (h : DRun F dk (keepE ρ ks) (keepL (keepE ρ ks) L) s) : DOA F (some ks) dk [] ρ L s B := by
  intro T ms fl fk A rest is l ρ' L' hm hc hdis hos inv sch
  have hr : rest = [] := by cases rest <;> simp at hos ⊢
  subst hr
  exact reach_end hm h sch inv
theorem stepQ_quiet {o : DOp} {ρ : Env} {L : Loc} {s s1 : St} {side : Prop} {ρ1 : Env} {L1 : Loc} (hst : stepQ o ρ L s = .ok side ρ1 L1 s1) (hk : quietK o.k = true) : ∃ e, ρ1 = putE ρ o.dst e ∧ L1 = L ∧ s1 = s := by
  obtain ⟨e, h1, h2, h3, _⟩ := stepQ_mono (ρ' := ρ) (L' := L) hst hk (fun _ _ => rfl) (.inl rfl)
  exact ⟨e, h1, h2, h3⟩
theorem stepQ_alloc {o : DOp} {ρ : Env} {L : Loc} {s s1 : St} {side : Prop} {ρ1 : Env} {L1 : Loc} {z : List D} (hst : stepQ o ρ L s = .ok side ρ1 L1 s1) (hk : o.k = .alloc z) : ∃ t, o = ⟨some t, none, .alloc z⟩ ∧ side = (hasL L t = false) ∧ ρ1 = (t, .loc t 0) :: ρ ∧ L1 = (t, z) :: L ∧ s1 = s := by
  obtain ⟨dst, gd, k⟩ := o
  simp only at hk
  subst hk
  unfold stepQ at hst
  cases hg : guardB ρ gd with
  | none => simp [hg] at hst
  | some c =>
    simp only [hg] at hst
    split at hst <;> simp only [SR.ok.injEq, reduceCtorEq] at hst
    rename_i t
    obtain ⟨rfl, rfl, rfl, rfl⟩ := hst
    exact ⟨t, rfl, rfl, rfl, rfl, rfl⟩
theorem mk_fork {T : Tab} {fk : Option Nat} {i : Nat} {o : DOp} (h : T.mk fk i = o) (hk : ∀ k, o.k ≠ .fork k) : fk ≠ some i ∧ T.op i = o := by
  unfold Tab.mk at h
  split at h
  · subst h; exact absurd rfl (hk _)
  · exact ⟨‹_›, h⟩
theorem chk_cons {T : Tab} {ms : List Nat} {fl : Nat → List Nat} {A rest : List Nat} {fk : Option Nat} {i : Nat} (hfk : fk ≠ some i) (h : chkTop T ms fl fk A (i :: rest) = true) :
    i < T.length ∧ (∀ d ∈ T.deps i, d ∉ i :: rest) ∧ i ∉ rest ∧ (∀ a ∈ A, (ms.getD i 0).testBit a = true ∨ nd (T.op a).dst (namesO (T.op i)) = true) ∧
    ((chkPend T A i = true ∧ chkTop T ms fl fk (i :: A) rest = true) ∨
      (chkBar T (fl i) (A.filter fun a => !(ms.getD i 0).testBit a) rest i = true ∧ chkTop T ms fl fk (A.filter fun a => !(ms.getD i 0).testBit a) rest = true ∧ chkPend T A i = false)) := by
  simp only [chkTop, hfk, if_false, Bool.and_eq_true, decide_eq_true_eq, List.all_eq_true, Bool.not_eq_true', List.contains_eq_mem, decide_eq_false_iff_not] at h
  obtain ⟨⟨⟨⟨h1, h2⟩, h3⟩, h4⟩, h5⟩ := h
  refine ⟨h1, h2, h3, fun a ha => ?_, ?_⟩
  · cases hb : (ms.getD i 0).testBit a
    · exact .inr (h4 a (List.mem_filter.2 ⟨ha, by simp only [hb]; rfl⟩))
    · exact .inl rfl
  · split at h5
    · rename_i hp; exact .inl ⟨hp, h5⟩
    · rename_i hp; simp only [Bool.and_eq_true] at h5; exact .inr ⟨by simpa using h5.1, h5.2, by simpa using hp⟩
theorem chkTop_none {T : Tab} {ms : List Nat} {fl : Nat → List Nat} : ∀ {A rest : List Nat}, chkTop T ms fl none A rest = chk T ms fl A rest
  | _, [] => rfl
  | A, i :: rest => by simp only [chkTop, chk, reduceCtorEq, if_false, chkTop_none]
theorem chkBar_spec {T : Tab} {fl : List Nat} {free rest : List Nat} {i : Nat} (h : chkBar T fl free rest i = true) :
    barK (T.op i).k = true ∧ (∀ r ∈ rest, ∃ d ∈ T.deps r, d ∈ i :: rest) ∧
    ∀ a ∈ free, nd (T.op i).dst (namesO (T.op a)) = true ∧ ndd (T.op i).dst (T.op a).dst = true ∧ (memB (tagO (T.op a)) fl = false → readK (T.op a).k = false) := by
  simp only [chkBar, Bool.and_eq_true, List.all_eq_true, List.any_eq_true, List.contains_eq_mem, decide_eq_true_eq, Bool.not_eq_true', Bool.or_eq_true] at h
  obtain ⟨⟨h1, h2⟩, h3⟩ := h
  refine ⟨h1, h2, fun a ha => ?_⟩
  obtain ⟨⟨h4, h5⟩, h6⟩ := h3 a ha
  refine ⟨h4, h5, fun hs => ?_⟩
  rw [hs] at h6; simpa using h6
theorem chkPend_spec {T : Tab} {A : List Nat} {i : Nat} (h : chkPend T A i = true) :
    pendK (T.op i).k = true ∧ nd (T.op i).dst (namesO (T.op i)) = true ∧ ∀ a ∈ A, nd (T.op i).dst (namesO (T.op a)) = true ∧ ndd (T.op i).dst (T.op a).dst = true := by
  simp only [chkPend, Bool.and_eq_true, List.all_eq_true] at h
  exact ⟨by cases hk : (T.op i).k <;> rw [hk] at h <;> simp [pqK] at h <;> rfl, h.1.2, h.2⟩
theorem Inv.bar {T : Tab} {ms A rest : List Nat} {ρ : Env} {L : Loc} {s s2 : St} {B B2 : List (Nat × Rd)} {l : Nat → Bool} {ρ' : Env} {L' : Loc} {i : Nat} (hm : MaskOk T ms) (inv : Inv T ms A (i :: rest) ρ L s B l ρ' L') (hdis : ∀ p ∈ A, p ∉ i :: rest) (hi : i < T.length)
    (hir : i ∉ rest) (hd : ∀ d ∈ T.deps i, l d = true) (hf : ∀ a ∈ A.filter (fun a => !(ms.getD i 0).testBit a), nd (T.op i).dst (namesO (T.op a)) = true ∧ ndd (T.op i).dst (T.op a).dst = true) (e : E)
    {L2 L2' : Loc} (hL : ∀ x, getL L' x = getL L x → getL L2' x = getL L2 x) (h0 : ∀ x, (∀ a, ndd (T.op i).dst (T.op a).dst = true → allocO (T.op a) x → getL L' x = none → getL L2' x = none))
    (hp : ∀ a ∈ A.filter (fun a => !(ms.getD i 0).testBit a), l a = false → PendOk (T.op a) ρ L s B → PendOk (T.op a) (putE ρ (T.op i).dst e) L2 s2 B2) :
    Inv T ms (A.filter fun a => !(ms.getD i 0).testBit a) rest (putE ρ (T.op i).dst e) L2 s2 B2 (fun j => j == i || l j) (putE ρ' (T.op i).dst e) L2' := by
  have hforced := hm l inv.closed i hi hd
  have hfree : ∀ a ∈ A, l a = false → a ∈ A.filter fun a => !(ms.getD i 0).testBit a := fun a ha hla => by
    refine List.mem_filter.2 ⟨ha, ?_⟩
    cases hb : (ms.getD i 0).testBit a
    · rfl
    · rw [hforced a hb] at hla; simp at hla
  have hsub : ∀ a ∈ A.filter (fun a => !(ms.getD i 0).testBit a), a ∈ A := fun a ha => (List.mem_filter.1 ha).1
  have hl2 : ∀ a, (a == i || l a) = false → a ≠ i ∧ l a = false := fun a ha => by simpa using ha
  have hl2' : ∀ a ∈ A, l a = false → (a == i || l a) = false := fun a ha h => by
    have : a ≠ i := fun hai => hdis a ha (by simp [hai])
    simp [this, h]
  refine ⟨fun j hj hlj d hdj => ?_, fun r hr => ?_, fun j hj h1 h2 => ?_, fun a ha => inv.alt a (hsub a ha), fun p hp' a ha => inv.pair p (hsub p hp') a (hsub a ha), fun p hp' a ha => inv.uniq p (hsub p hp') a (hsub a ha), fun t => ?_, fun a ha hla x hx => ?_,
    fun x => ?_, fun a ha hla => hp a ha (hl2 a hla).2 (inv.pend a (hsub a ha) (hl2 a hla).2)⟩
  · simp only [Bool.or_eq_true, beq_iff_eq] at hlj ⊢
    rcases hlj with rfl | hlj
    · exact .inr (hd d hdj)
    · exact .inr (inv.closed j hj hlj d hdj)
  · simp only [Bool.or_eq_false_iff, beq_eq_false_iff_ne]
    exact ⟨fun h => hir (h ▸ hr), inv.restN r (by simp [hr])⟩
  · by_cases hji : j = i
    · simp [hji]
    · by_cases hjA : j ∈ A
      · cases hlj : l j
        · exact absurd (hfree j hjA hlj) h2
        · simp
      · simp [inv.doneN j hj (by simp [hji, h1]) hjA]
  · rw [getE_put, getE_put]
    by_cases ht : (T.op i).dst = some t
    · simp [ht]
    · simp only [ht, if_false]
      rcases inv.env t with h | ⟨a, ha, hla, hda⟩
      · exact .inl h
      · exact .inr ⟨a, hfree a ha hla, hl2' a ha hla, hda⟩
  · exact h0 x a (hf a ha).2 hx (inv.loc0 a (hsub a ha) (hl2 a hla).2 x hx)
  · rcases inv.loc x with h | ⟨a, ha, hla, hx⟩
    · exact .inl (hL x h)
    · exact .inr ⟨a, hfree a ha hla, hl2' a ha hla, hx⟩
theorem PendOk.keep {o : DOp} {ρ : Env} {L L2 : Loc} {s s2 : St} {B : List (Nat × Rd)} {fl : List Nat} (h : PendOk o ρ L s B) (hk : keepsF fl s s2 L L2 B) (hf : memB (tagO o) fl = false → readK o.k = false) (hal : ∀ t, allocO o t → getL L2 t = getL L t) : PendOk o ρ L2 s2 (nextB fl B) := by
  cases hfl : memB (tagO o) fl
  · have hr := readsO_none (ρ := ρ) (hf hfl)
    exact ((h.state (s' := s2) (fun b hb => by rw [hr] at hb; simp at hb)).more (fun b hb => by rw [hr] at hb; simp at hb)).mono (fun _ _ => rfl) (fun _ _ => rfl) (fun x hx => by rw [hr] at hx; simp at hx) hal
  · have hm := keepsB_mem (show keepsB s s2 L L2 (nextB fl B) from hk)
    have hin : ∀ b, (tagO o, b) ∈ B → (tagO o, b) ∈ nextB fl B := fun b hb => nextB_iff.2 ⟨hfl, hb⟩
    rcases h with ⟨hq, hg, hr, h'⟩ | ⟨hq, hg, h'⟩ | h'
    · exact ((PendOk.state (s' := s2) (.inl ⟨hq, hg, hr, h'⟩) (fun b hb => hm.1 _ b (hin _ (hr _ hb)))).more (B' := nextB fl B) (fun b _ hb => hin b hb)).mono (fun _ _ => rfl) (fun _ _ => rfl) (fun x hx => hm.2 _ x (hin _ (hr _ hx))) hal
    · exact .inr (.inl ⟨hq, hg, h'⟩)
    · exact (PendOk.more (B' := nextB fl B) (s := s2) (.inr (.inr h') : PendOk o ρ L s2 B) (fun b _ hb => hin b hb)).mono (fun _ _ => rfl) (fun _ _ => rfl) (fun x hx => by
        obtain ⟨t, z, rfl, _⟩ := h'
        simp [readsO] at hx) hal
theorem qv_loc {L : Loc} {s : St} {q : Q} {es : List E} {r : Prop × E} (hq : qv L s q es = some r) {e : E} {es' : List E} (he : es = e :: es') (hr : readK (.q q []) = true) {x : Nat} (hx : .loc x ∈ readsD e) : ∃ cs, getL L x = some cs := by
  subst he
  cases e with
  | d v => cases v <;> simp [readsD] at hx
  | when c e => simp [readsD] at hx
  | loc l o =>
    simp only [readsD, List.mem_singleton, Rd.loc.injEq] at hx
    subst hx
    by_cases hl : loadK (.q q []) = true
    · exact qv_load hq hl (x := x) (o := o) (by simp)
    · cases q
      case conv c =>
        cases c <;> simp [readK] at hr
        cases es' <;> simp [qv] at hq
      all_goals simp [readK, loadK] at hr hl
      · cases es' with
        | nil => simp [qv] at hq
        | cons e2 r2 => cases r2 <;> simp [qv] at hq
      · cases es' <;> simp [qv] at hq
theorem PendOk.loc {o : DOp} {ρ : Env} {L : Loc} {s : St} {B : List (Nat × Rd)} (h : PendOk o ρ L s B) {x : Nat} (hx : .loc x ∈ readsO o ρ) : ∃ cs, getL L x = some cs := by
  rcases h with ⟨hk, hgt, hr, side, e, hs, hst, he⟩ | ⟨hk, hgf, _⟩ | ⟨t, z, rfl, _⟩
  rotate_left
  · rw [readsO_skip hgf] at hx; simp at hx
  rotate_left
  · obtain ⟨dst, gd, k⟩ := o
    cases k with
    | q q xs =>
      simp only [readsO] at hx
      split at hx <;> (try (simp at hx; done))
      rename_i hrd
      unfold stepQ at hst
      have hg : guardB ρ gd = some true := hgt
      · simp only [hg] at hx hst
        cases ha : argsE ρ true xs with
        | none => simp [ha] at hx
        | some pe =>
          obtain ⟨p, es⟩ := pe
          simp only [ha] at hx hst
          cases es with
          | nil => simp at hx
          | cons e1 es' =>
            simp only at hx
            split at hst <;> (try (simp at hst; done))
            rename_i sd e2 hq
            exact qv_loc hq rfl (by
              cases q
              case conv c => cases c <;> simp_all [readK]
              all_goals simp_all [readK]) hx
    | _ => simp [readsO] at hx
  · simp [readsO] at hx
theorem DOA_eff {F : Fr P} {kp : Option (List Nat)} {dk : List DItem} {o : DOp} {f : List Nat} {os : List (DOp × List Nat)} {ρ : Env} {L : Loc} {s : St} {B : List (Nat × Rd)} (R : E → St → Prop) (hk : pendK o.k = false)
    (h1 : ∀ ρ' L' os', AgreeE ρ ρ' (namesO o) → (∀ e s2, R e s2 → DO F kp dk os' (putE ρ' o.dst e) L' s2) → DO F kp dk (o :: os') ρ' L' s)
    (h2 : ∀ e s2, R e s2 → keepsF f s s2 L L B ∧ DOA F kp dk os (putE ρ o.dst e) L s2 (nextB f B)) :
    DOA F kp dk ((o, f) :: os) ρ L s B := by
  intro T ms fl fk A rest is l ρ' L' hm hc hdis hos inv sch
  cases rest with
  | nil => simp at hos
  | cons i rest =>
    simp only [List.map_cons, List.cons.injEq, Prod.mk.injEq] at hos
    obtain ⟨⟨ho, rfl⟩, rfl⟩ := hos
    obtain ⟨hfk, rfl⟩ := mk_fork ho.symm (fun k h => by rw [h] at hk; simp [pendK] at hk)
    obtain ⟨hi, hdeps, hir, hnm, hcs⟩ := chk_cons hfk hc
    rcases hcs with ⟨hp, _⟩ | ⟨hb, hc', _⟩
    · have := (chkPend_spec hp).1; rw [hk] at this; simp at this
    · obtain ⟨hbk, hready, hfree⟩ := chkBar_spec hb
      refine reach hm hi hdis hready (fun l ρ' L' is inv hd sch => ?_) sch inv
      have hforced := hm l inv.closed i hi hd
      have hag : AgreeE ρ ρ' (namesO (T.op i)) := by
        intro t ht
        rcases inv.env t with h | ⟨a, ha, hla, hda⟩
        · exact h
        · exfalso
          rcases hnm a ha with hb | hb
          · rw [hforced a hb] at hla; simp at hla
          · exact nd_not hb hda ht
      refine h1 ρ' L' _ hag fun e s2 hR => ?_
      obtain ⟨hkB, h2'⟩ := h2 e s2 hR
      refine h2' T ms fl fk _ rest is _ _ _ hm hc' (fun p hp hpr => hdis p (List.mem_filter.1 hp).1 (by simp [hpr])) rfl (inv.bar hm hdis hi hir hd (fun a ha => ⟨(hfree a ha).1, (hfree a ha).2.1⟩) e (fun _ h => h) (fun _ _ _ _ h => h) fun a ha hla hpe => ?_) sch
      refine (hpe.keep hkB (hfree a ha).2.2 (fun _ _ => rfl)).mono (agree_put (hfree a ha).1) (fun t ht => ?_) (fun _ _ => rfl) (fun _ _ => rfl)
      rw [getE_put]
      have := ndd_ne (ndd_symm (hfree a ha).2.1) ht
      simp [this]
theorem chkBar2_spec {T : Tab} {fl : List Nat} {free : List Nat} {i : Nat} (h : chkBar2 T fl free i = true) :
    barK (T.op i).k = true ∧ pendK (T.op i).k = false ∧ (∀ a ∈ free, nd (T.op a).dst (namesO (T.op i)) = true) ∧
    ∀ a ∈ free, nd (T.op i).dst (namesO (T.op a)) = true ∧ ndd (T.op i).dst (T.op a).dst = true ∧ (memB (tagO (T.op a)) fl = false → readK (T.op a).k = false) := by
  simp only [chkBar2, Bool.and_eq_true, List.all_eq_true, Bool.not_eq_true', Bool.or_eq_true] at h
  obtain ⟨⟨⟨h1, h2⟩, h3⟩, h4⟩ := h
  refine ⟨h1, h2, h3, fun a ha => ?_⟩
  obtain ⟨⟨h4, h5⟩, h6⟩ := h4 a ha
  refine ⟨h4, h5, fun hs => ?_⟩
  rw [hs] at h6; simpa using h6
theorem reach2 {F : Fr P} {kp : Option (List Nat)} {dk : List DItem} {T : Tab} {ms : List Nat} {A rest : List Nat} {ρ : Env} {L : Loc} {s : St} {B : List (Nat × Rd)} {i j : Nat}
    (hm : MaskOk T ms) (hi : i < T.length) (hdis : ∀ p ∈ A, p ∉ i :: j :: rest) (hready : ∀ r ∈ rest, ∃ d ∈ T.deps r, d ∈ i :: j :: rest)
    (cb : ∀ k, k = i ∨ k = j → ∀ l ρ' L' is, Inv T ms A (i :: j :: rest) ρ L s B l ρ' L' → (∀ d ∈ T.deps k, l d = true) → Sch T (fun q => q == k || l q) is → DO F kp dk (T.op k :: is.map T.op) ρ' L' s)
    {l : Nat → Bool} {is : List Nat} (sch : Sch T l is) : ∀ {ρ' : Env} {L' : Loc}, Inv T ms A (i :: j :: rest) ρ L s B l ρ' L' → DO F kp dk (is.map T.op) ρ' L' s := by
  induction sch with
  | nil h => intro ρ' L' inv; have := inv.restN i (by simp); rw [h i hi] at this; simp at this
  | @cons l p is hp hlp hd t ih =>
    intro ρ' L' inv
    by_cases hpi : p = i
    · exact cb p (.inl hpi) l ρ' L' is inv hd t
    · by_cases hpj : p = j
      · exact cb p (.inr hpj) l ρ' L' is inv hd t
      · by_cases hpr : p ∈ rest
        · obtain ⟨d, hd1, hd2⟩ := hready p hpr
          have := inv.restN d hd2
          rw [hd d hd1] at this; simp at this
        · by_cases hpA : p ∈ A
          · exact exec_pend hm inv hpA (hdis p hpA) hlp hd fun ρ2 L2 inv2 => ih inv2
          · have := inv.doneN p hp (by simp [hpi, hpj, hpr]) hpA
            rw [hlp] at this; simp at this
theorem Inv.swap {T : Tab} {ms A rest : List Nat} {ρ : Env} {L : Loc} {s : St} {B : List (Nat × Rd)} {l : Nat → Bool} {ρ' : Env} {L' : Loc} {i j : Nat} (h : Inv T ms A (i :: j :: rest) ρ L s B l ρ' L') : Inv T ms A (j :: i :: rest) ρ L s B l ρ' L' :=
  { h with
    restN := fun r hr => h.restN r (by simp at hr ⊢; rcases hr with h | h | h <;> simp [h])
    doneN := fun k hk h1 h2 => h.doneN k hk (by simp at h1 ⊢; exact ⟨h1.2.1, h1.1, h1.2.2⟩) h2 }
theorem fork_one {F : Fr P} {kp : Option (List Nat)} {dk : List DItem} {T : Tab} {ms : List Nat} {fl : Nat → List Nat} {A rest : List Nat} {ρ : Env} {L : Loc} {s : St} {B : List (Nat × Rd)} {i j : Nat} (hm : MaskOk T ms) (hi : i < T.length) (hdis : ∀ p ∈ A, p ∉ i :: j :: rest) (hij : i ≠ j) (hir : i ∉ rest)
    (hb : chkBar2 T (fl i) (A.filter fun a => !(ms.getD i 0).testBit a) i = true) (hc' : chk T ms fl (A.filter fun a => !(ms.getD i 0).testBit a) (j :: rest) = true) (R : E → St → Prop)
    (h1 : ∀ ρ' L' os', AgreeE ρ ρ' (namesO (T.op i)) → (∀ e s2, R e s2 → DO F kp dk os' (putE ρ' (T.op i).dst e) L' s2) → DO F kp dk (T.op i :: os') ρ' L' s)
    (h2 : ∀ e s2, R e s2 → keepsF (fl i) s s2 L L B ∧ DOA F kp dk ((j :: rest).map fun i => (T.op i, fl i)) (putE ρ (T.op i).dst e) L s2 (nextB (fl i) B))
    {l : Nat → Bool} {ρ' : Env} {L' : Loc} {is : List Nat} (inv : Inv T ms A (i :: j :: rest) ρ L s B l ρ' L') (hd : ∀ d ∈ T.deps i, l d = true) (sch : Sch T (fun q => q == i || l q) is) : DO F kp dk (T.op i :: is.map T.op) ρ' L' s := by
  obtain ⟨hbk, hpk, hnm, hfree⟩ := chkBar2_spec hb
  have hforced := hm l inv.closed i hi hd
  have hag : AgreeE ρ ρ' (namesO (T.op i)) := by
    intro t ht
    rcases inv.env t with h | ⟨a, ha, hla, hda⟩
    · exact h
    · exfalso
      cases hb : (ms.getD i 0).testBit a
      · exact nd_not (hnm a (List.mem_filter.2 ⟨ha, by simp only [hb]; rfl⟩)) hda ht
      · rw [hforced a hb] at hla; simp at hla
  refine h1 ρ' L' _ hag fun e s2 hR => ?_
  obtain ⟨hkB, h2'⟩ := h2 e s2 hR
  refine h2' T ms fl none _ (j :: rest) is _ _ _ hm (by rw [chkTop_none]; exact hc') (fun p hp hpr => hdis p (List.mem_filter.1 hp).1 (List.mem_cons_of_mem _ hpr)) rfl
    (inv.bar hm hdis hi (by simp [hij, hir]) hd (fun a ha => ⟨(hfree a ha).1, (hfree a ha).2.1⟩) e (fun _ h => h) (fun _ _ _ _ h => h) fun a ha hla hpe => ?_) sch
  refine (hpe.keep hkB (hfree a ha).2.2 (fun _ _ => rfl)).mono (agree_put (hfree a ha).1) (fun t ht => ?_) (fun _ _ => rfl) (fun _ _ => rfl)
  rw [getE_put]
  have := ndd_ne (ndd_symm (hfree a ha).2.1) ht
  simp [this]
theorem DOA_fork {F : Fr P} {kp : Option (List Nat)} {dk : List DItem} {o1 o2 : DOp} {f1 f2 : List Nat} {os : List (DOp × List Nat)} {ρ : Env} {L : Loc} {s : St} {B : List (Nat × Rd)} (R1 R2 : E → St → Prop) (hk2 : pendK o2.k = false)
    (h1 : ∀ ρ' L' os', AgreeE ρ ρ' (namesO o1) → (∀ e s2, R1 e s2 → DO F kp dk os' (putE ρ' o1.dst e) L' s2) → DO F kp dk (o1 :: os') ρ' L' s)
    (h1' : ∀ e s2, R1 e s2 → keepsF f1 s s2 L L B ∧ DOA F kp dk ((o2, f2) :: os) (putE ρ o1.dst e) L s2 (nextB f1 B))
    (h2 : ∀ ρ' L' os', AgreeE ρ ρ' (namesO o2) → (∀ e s2, R2 e s2 → DO F kp dk os' (putE ρ' o2.dst e) L' s2) → DO F kp dk (o2 :: os') ρ' L' s)
    (h2' : ∀ e s2, R2 e s2 → keepsF f2 s s2 L L B ∧ DOA F kp dk ((o1, f1) :: os) (putE ρ o2.dst e) L s2 (nextB f2 B)) :
    DOA F kp dk ((forkO o1, f1) :: (o2, f2) :: os) ρ L s B := by
  intro T ms fl fk A rest is l ρ' L' hm hc hdis hos inv sch
  match rest, hos, hc, hdis, inv with
  | [], hos, _, _, _ => simp at hos
  | [_], hos, _, _, _ => simp at hos
  | i :: j :: rest, hos, hc, hdis, inv =>
    simp only [List.map_cons, List.cons.injEq, Prod.mk.injEq] at hos
    obtain ⟨⟨ho1, rfl⟩, ⟨ho2, rfl⟩, rfl⟩ := hos
    obtain ⟨hfj, rfl⟩ := mk_fork ho2.symm (fun k h => by rw [h] at hk2; simp [pendK] at hk2)
    by_cases hfi : fk = some i
    · have hoi : T.op i = o1 := by
        simp only [Tab.mk, hfi, if_true, forkO] at ho1
        obtain ⟨d1, g1, k1⟩ := o1
        cases hti : T.op i
        rw [hti] at ho1
        simp only [DOp.mk.injEq, K.fork.injEq] at ho1
        obtain ⟨rfl, rfl, rfl⟩ := ho1
        rfl
      subst hoi
      simp only [chkTop, hfi, if_true, chkFork, Bool.and_eq_true, decide_eq_true_eq, List.all_eq_true, Bool.not_eq_true', List.contains_eq_mem, decide_eq_false_iff_not, bne_iff_ne, ne_eq, List.any_eq_true] at hc
      obtain ⟨⟨⟨⟨⟨⟨⟨⟨⟨⟨⟨c1, c2⟩, c3⟩, c4⟩, c5⟩, c6⟩, c7⟩, c8⟩, c9⟩, c10⟩, c11⟩, c12⟩ := hc
      have hmk : ∀ r ∈ rest, T.mk fk r = T.op r := fun r hr => by
        unfold Tab.mk
        rw [if_neg]
        rw [hfi]; intro h; simp only [Option.some.injEq] at h; exact c6 (h ▸ hr)
      have hmap : (rest.map fun r => (T.mk fk r, fl r)) = rest.map fun r => (T.op r, fl r) := List.map_congr_left fun r hr => by rw [hmk r hr]
      rw [hmap] at h1' h2'
      refine reach2 hm c1 hdis c8 (fun k hk l ρ' L' is inv hd sch => ?_) sch inv
      rcases hk with rfl | rfl
      · exact fork_one (fl := fl) (R := R1) hm c1 hdis (by simpa using c5) c6 c9 c11 h1 (fun e s2 hR => by
          have := h1' e s2 hR
          simpa only [List.map_cons] using this) inv hd sch
      · exact fork_one (fl := fl) (R := R2) (j := i) hm c2 (fun p hp hpr => hdis p hp (by simp at hpr ⊢; rcases hpr with h | h | h <;> simp [h])) (fun h => c5 (by simpa using h.symm)) c7 c10 c12 h2 (fun e s2 hR => by
          have := h2' e s2 hR
          simpa only [List.map_cons] using this) inv.swap hd sch
    · exfalso
      have hti : T.op i = forkO o1 := by simpa only [Tab.mk, hfi, if_false] using ho1.symm
      obtain ⟨_, _, _, _, hcs⟩ := chk_cons hfi hc
      rcases hcs with ⟨hp, _⟩ | ⟨hb, _⟩
      · simp only [chkPend, hti, forkO, pqK, Bool.false_and, Bool.false_eq_true] at hp
      · have := (chkBar_spec hb).1
        rw [hti] at this
        simp [forkO, barK] at this
end
end Go.DL
namespace Go.DL
open Go
theorem stepSt_congr {ρ : Env} {L : Loc} {s s1 : St} {p q ok side : Prop} {a : E} {n : Nat} {xs : List D} {ρ1 : Env} {L1 : Loc} (h : stepSt ρ L s p q ok a n xs = .ok side ρ1 L1 s1) :
    ρ1 = ρ ∧ ((∃ l off cs, a = .loc l off ∧ L1 = (l, setPart cs off xs) :: L ∧ s1 = s ∧ getL L l = some cs ∧ ∀ ρ' L', getL L' l = getL L l → stepSt ρ' L' s p q ok a n xs = .ok side ρ' ((l, setPart cs off xs) :: L') s) ∨
      (L1 = L ∧ ∀ ρ' L', stepSt ρ' L' s p q ok a n xs = .ok side ρ' L' s1)) := by
  obtain ⟨rfl, ⟨l, off, cs, rfl, hL, rfl, rfl, rfl⟩ | ⟨b, off, cs, rfl, hL, rfl, rfl, rfl⟩⟩ := stepSt_ok h
  · exact ⟨rfl, .inl ⟨l, off, cs, rfl, rfl, rfl, hL, fun ρ' L' hl => by simp only [stepSt, hl, hL]⟩⟩
  · exact ⟨rfl, .inr ⟨rfl, fun ρ' L' => by simp only [stepSt, hL]⟩⟩
theorem stepQ_store {o : DOp} {ρ : Env} {L : Loc} {s s1 : St} {side : Prop} {ρ1 : Env} {L1 : Loc} (hst : stepQ o ρ L s = .ok side ρ1 L1 s1) (hk : storeK o.k = true) :
    ρ1 = ρ ∧ o.dst = none ∧ ((∃ lx cs new, L1 = (lx, new) :: L ∧ s1 = s ∧ getL L lx = some cs ∧
      ∀ ρ' L', AgreeE ρ ρ' (namesO o) → getL L' lx = getL L lx → stepQ o ρ' L' s = .ok side ρ' ((lx, new) :: L') s) ∨
      (L1 = L ∧ ∀ ρ' L', AgreeE ρ ρ' (namesO o) → stepQ o ρ' L' s = .ok side ρ' L' s1)) := by
  obtain ⟨dst, gd, k⟩ := o
  cases hg : guardB ρ gd with
  | none => unfold stepQ at hst; simp [hg] at hst
  | some c =>
  cases k with
  | store1 a v =>
    unfold stepQ at hst
    simp only [hg] at hst
    split at hst <;> (try (simp at hst; done))
    rename_i p ea q x ha hv
    obtain ⟨rfl, ⟨l, off, cs, rfl, rfl, rfl, hL, hcong⟩ | ⟨rfl, hcong⟩⟩ := stepSt_congr hst
    · refine ⟨rfl, rfl, .inl ⟨l, cs, _, rfl, rfl, hL, fun ρ' L' hag hl => ?_⟩⟩
      have h1 : AgreeE ρ1 ρ' (opdT a) := fun t ht => hag t (by simp [namesO, namesK, ht])
      have h2 : AgreeE ρ1 ρ' (opdT v) := fun t ht => hag t (by simp [namesO, namesK, ht])
      unfold stepQ
      simp only [guardB, argE_congr h1, argE_congr h2, ha, hv]
      exact hcong ρ' L' hl
    · refine ⟨rfl, rfl, .inr ⟨rfl, fun ρ' L' hag => ?_⟩⟩
      have h1 : AgreeE ρ1 ρ' (opdT a) := fun t ht => hag t (by simp [namesO, namesK, ht])
      have h2 : AgreeE ρ1 ρ' (opdT v) := fun t ht => hag t (by simp [namesO, namesK, ht])
      unfold stepQ
      simp only [guardB, argE_congr h1, argE_congr h2, ha, hv]
      exact hcong ρ' L'
  | storeN n a v =>
    unfold stepQ at hst
    simp only [hg] at hst
    split at hst <;> (try (simp at hst; done))
    rename_i p ea q xs ha hv
    obtain ⟨rfl, ⟨l, off, cs, rfl, rfl, rfl, hL, hcong⟩ | ⟨rfl, hcong⟩⟩ := stepSt_congr hst
    · refine ⟨rfl, rfl, .inl ⟨l, cs, _, rfl, rfl, hL, fun ρ' L' hag hl => ?_⟩⟩
      have h1 : AgreeE ρ1 ρ' (opdT a) := fun t ht => hag t (by simp [namesO, namesK, ht])
      have h2 : AgreeE ρ1 ρ' (opdT v) := fun t ht => hag t (by simp [namesO, namesK, ht])
      unfold stepQ
      simp only [guardB, argE_congr h1, argE_congr h2, ha, hv]
      exact hcong ρ' L' hl
    · refine ⟨rfl, rfl, .inr ⟨rfl, fun ρ' L' hag => ?_⟩⟩
      have h1 : AgreeE ρ1 ρ' (opdT a) := fun t ht => hag t (by simp [namesO, namesK, ht])
      have h2 : AgreeE ρ1 ρ' (opdT v) := fun t ht => hag t (by simp [namesO, namesK, ht])
      unfold stepQ
      simp only [guardB, argE_congr h1, argE_congr h2, ha, hv]
      exact hcong ρ' L'
  | _ => simp [storeK] at hk
def mapK : K → Bool
  | .mapupd _ _ _ _ | .delete _ _ _ | .entst _ _ _ => true
  | _ => false
theorem stepQ_map {o : DOp} {ρ : Env} {L : Loc} {s s1 : St} {side : Prop} {ρ1 : Env} {L1 : Loc} (hst : stepQ o ρ L s = .ok side ρ1 L1 s1) (hk : mapK o.k = true) :
    ρ1 = ρ ∧ o.dst = none ∧ L1 = L ∧ ∀ ρ' L', AgreeE ρ ρ' (namesO o) → stepQ o ρ' L' s = .ok side ρ' L' s1 := by
  obtain ⟨dst, gd, k⟩ := o
  cases hg : guardB ρ gd with
  | none => unfold stepQ at hst; simp [hg] at hst
  | some c =>
  cases k with
  | mapupd kp m k v =>
    unfold stepQ at hst
    simp only [hg] at hst
    split at hst <;> (try (simp at hst; done))
    rename_i p b q dk r dv hm hkk hv
    split at hst <;> (try (simp at hst; done))
    rename_i es hes
    split at hst <;> simp only [SR.ok.injEq, reduceCtorEq] at hst
    rename_i es' hes'
    obtain ⟨rfl, rfl, rfl, rfl⟩ := hst
    refine ⟨rfl, rfl, rfl, fun ρ' L' hag => ?_⟩
    have h1 : AgreeE ρ ρ' (opdT m) := fun t ht => hag t (by simp [namesO, namesK, ht])
    have h2 : AgreeE ρ ρ' (opdT k) := fun t ht => hag t (by simp [namesO, namesK, ht])
    have h3 : AgreeE ρ ρ' (opdT v) := fun t ht => hag t (by simp [namesO, namesK, ht])
    unfold stepQ
    simp only [guardB, argE_congr h1, argE_congr h2, argE_congr h3, hm, hkk, hv, hes, hes']
  | delete kp m k =>
    unfold stepQ at hst
    simp only [hg] at hst
    split at hst <;> (try (simp at hst; done))
    rename_i p b q dk hm hkk
    split at hst <;> (try (simp at hst; done))
    rename_i es hes
    split at hst <;> simp only [SR.ok.injEq, reduceCtorEq] at hst
    rename_i es' hes'
    obtain ⟨rfl, rfl, rfl, rfl⟩ := hst
    refine ⟨rfl, rfl, rfl, fun ρ' L' hag => ?_⟩
    have h1 : AgreeE ρ ρ' (opdT m) := fun t ht => hag t (by simp [namesO, namesK, ht])
    have h2 : AgreeE ρ ρ' (opdT k) := fun t ht => hag t (by simp [namesO, namesK, ht])
    unfold stepQ
    simp only [guardB, argE_congr h1, argE_congr h2, hm, hkk, hes, hes']
  | entst m k v =>
    unfold stepQ at hst
    simp only [hg] at hst
    split at hst <;> (try (simp at hst; done))
    rename_i p b q n r dv hm hkk hv
    split at hst <;> (try (simp at hst; done))
    rename_i kp es dk n' hes
    split at hst <;> simp only [SR.ok.injEq, reduceCtorEq] at hst
    rename_i es' hes'
    obtain ⟨rfl, rfl, rfl, rfl⟩ := hst
    refine ⟨rfl, rfl, rfl, fun ρ' L' hag => ?_⟩
    have h1 : AgreeE ρ ρ' (opdT m) := fun t ht => hag t (by simp [namesO, namesK, ht])
    have h2 : AgreeE ρ ρ' (opdT k) := fun t ht => hag t (by simp [namesO, namesK, ht])
    have h3 : AgreeE ρ ρ' (opdT v) := fun t ht => hag t (by simp [namesO, namesK, ht])
    unfold stepQ
    simp only [guardB, argE_congr h1, argE_congr h2, argE_congr h3, hm, hkk, hv, hes, hes']
  | _ => simp [mapK] at hk
theorem stepQ_kind {o : DOp} {ρ : Env} {L : Loc} {s s1 : St} {side : Prop} {ρ1 : Env} {L1 : Loc} (hst : stepQ o ρ L s = .ok side ρ1 L1 s1) : quietK o.k = true ∨ (∃ z, o.k = .alloc z) ∨ storeK o.k = true ∨ (∃ x, o.k = .box x) ∨ mapK o.k = true := by
  obtain ⟨dst, gd, k⟩ := o
  unfold stepQ at hst
  cases hg : guardB ρ gd with
  | none => simp [hg] at hst
  | some c =>
    simp only [hg] at hst
    cases k with
    | q q xs => exact .inl rfl
    | pick x a b => exact .inl rfl
    | bsl len n z is xs => exact .inl rfl
    | s2b x => exact .inl rfl
    | alloc z => exact .inr (.inl ⟨z, rfl⟩)
    | store1 a v => exact .inr (.inr (.inl rfl))
    | storeN n a v => exact .inr (.inr (.inl rfl))
    | box x => exact .inr (.inr (.inr (.inl ⟨x, rfl⟩)))
    | mapupd kp m k v => exact .inr (.inr (.inr (.inr rfl)))
    | delete kp m k => exact .inr (.inr (.inr (.inr rfl)))
    | entst m k v => exact .inr (.inr (.inr (.inr rfl)))
    | mkmap => simp only at hst; split at hst <;> simp at hst
    | mkslice e n by_ z l c => simp only at hst; split at hst <;> simp at hst
    | mapent kp z m k =>
      simp only at hst
      split at hst <;> (try (simp at hst; done))
      split at hst <;> (try (simp at hst; done))
      split at hst <;> simp at hst
    | call f xs => simp at hst
    | append e n by_ z x y => simp at hst
    | panic x => simp at hst
    | defer f xs => simp at hst
    | recover => simp at hst
    | clear n z x => simp at hst
    | copy n x y => simp at hst
    | fork k => simp at hst
section
variable {P : Program}
theorem store_loc {o : DOp} {ρ : Env} {L L' : Loc} {side : Prop} {ρ1 : Env} {lx : Nat} {new : List D} {g : G} {ν : Nat → Nat} {w : World} {tmps : Array Value} {s : St} (hst : stepQ o ρ L s = .ok side ρ1 ((lx, new) :: L) s) (hk : storeK o.k = true) (hs : side)
    (m : Models g ν w tmps ρ L' s) : ∃ cs, getL L' lx = some cs := by
  have key : ∀ {p q ok : Prop} {a : Opd} {ea : E} {n : Nat} {xs : List D}, argE ρ true a = some (p, ea) → stepSt ρ L s p q ok ea n xs = .ok side ρ1 ((lx, new) :: L) s → ∃ cs, getL L' lx = some cs := by
    intro p q ok a ea n xs ha h
    obtain ⟨rfl, ⟨l, off, cs, rfl, hL, rfl, h1, h2⟩ | ⟨b, off, cs, rfl, hL, rfl, h1, h2⟩⟩ := stepSt_ok h
    · simp only [List.cons.injEq, Prod.mk.injEq, and_true] at h1
      obtain ⟨rfl, rfl⟩ := h1
      exact args_loc m (xs := [a]) (p := p ∧ True) (es := [.loc lx off]) (by simp [argsE, ha]) ⟨hs.1, trivial⟩ lx off (by simp)
    · exact absurd (congrArg List.length h1) (by simp)
  obtain ⟨dst, gd, k⟩ := o
  cases hg : guardB ρ gd with
  | none => unfold stepQ at hst; simp [hg] at hst
  | some c =>
  cases k with
  | store1 a v =>
    unfold stepQ at hst
    simp only [hg] at hst
    split at hst <;> (try (simp at hst; done))
    rename_i p ea q x ha hv
    exact key ha hst
  | storeN n a v =>
    unfold stepQ at hst
    simp only [hg] at hst
    split at hst <;> (try (simp at hst; done))
    rename_i p ea q xs ha hv
    exact key ha hst
  | _ => simp [storeK] at hk
theorem stepQ_box {o : DOp} {ρ ρ1 : Env} {L L1 : Loc} {s s1 : St} {side : Prop} {x : Opd} (hst : stepQ o ρ L s = .ok side ρ1 L1 s1) (hk : o.k = .box x) :
    ∃ t p v, o.dst = some t ∧ o.guard = none ∧ side = (p ∧ hasL L t = false ∧ okPart v = true) ∧ ρ1 = (t, .loc t 0) :: ρ ∧ L1 = (t, cellsOf v) :: L ∧ s1 = s ∧
      ∀ ρ' L', AgreeE ρ ρ' (namesO o) → stepQ o ρ' L' s = .ok (p ∧ hasL L' t = false ∧ okPart v = true) ((t, .loc t 0) :: ρ') ((t, cellsOf v) :: L') s := by
  obtain ⟨dst, gd, k⟩ := o
  simp only at hk
  subst hk
  unfold stepQ at hst
  cases hg : guardB ρ gd with
  | none => simp [hg] at hst
  | some c =>
    simp only [hg] at hst
    split at hst <;> simp only [SR.ok.injEq, reduceCtorEq] at hst
    rename_i t p v hx
    obtain ⟨rfl, rfl, rfl, rfl⟩ := hst
    refine ⟨t, p, v, rfl, rfl, rfl, rfl, rfl, rfl, fun ρ' L' hag => ?_⟩
    have h1 : AgreeE ρ ρ' (opdT x) := fun u hu => hag u (by simp [namesO, namesK, hu])
    unfold stepQ
    simp only [guardB, argE_congr h1, hx]
theorem stepQ_nofork {o : DOp} {ρ ρ1 : Env} {L L1 : Loc} {s s1 : St} {side : Prop} (hst : stepQ o ρ L s = .ok side ρ1 L1 s1) : ∀ k, o.k ≠ .fork k := fun k hk => by
  obtain ⟨dst, gd, k'⟩ := o
  simp only at hk
  subst hk
  unfold stepQ at hst
  cases hg : guardB ρ gd <;> simp [hg] at hst
theorem DOA_step {F : Fr P} {kp : Option (List Nat)} {dk : List DItem} {o : DOp} {f : List Nat} {os : List (DOp × List Nat)} {ρ ρ1 : Env} {L L1 : Loc} {s s1 : St} {B : List (Nat × Rd)} {side : Prop} (hst : stepQ o ρ L s = .ok side ρ1 L1 s1) (hs : side)
    (h : if pendK o.k then DOA F kp dk os ρ1 L1 s1 (readsT o ρ ++ B) else keepsF f s s1 L L1 B ∧ DOA F kp dk os ρ1 L1 s1 (readsT o ρ ++ nextB f B)) : DOA F kp dk ((o, f) :: os) ρ L s B := by
  intro T ms fl fk A rest is l ρ' L' hm hc hdis hos inv sch
  cases rest with
  | nil => simp at hos
  | cons i rest =>
    simp only [List.map_cons, List.cons.injEq, Prod.mk.injEq] at hos
    obtain ⟨⟨ho, rfl⟩, rfl⟩ := hos
    obtain ⟨hfk, rfl⟩ := mk_fork ho.symm (stepQ_nofork hst)
    obtain ⟨hi, hdeps, hir, hnm, hcs⟩ := chk_cons hfk hc
    have hli := inv.restN i (by simp)
    rcases hcs with ⟨hp, hc'⟩ | ⟨hb, hc', hnp⟩
    · obtain ⟨hp1, hp2, hp3⟩ := chkPend_spec hp
      rw [hp1] at h
      simp only [if_true] at h
      have hiA : i ∉ A := fun hA => hdis i hA (by simp)
      have key : ∀ (hget : ∀ t, (T.op i).dst = some t ∨ getE ρ1 t = getE ρ t) (hagr : ∀ a ∈ A, AgreeE ρ ρ1 (namesO (T.op a))) (hL : ∀ x, getL L1 x = getL L x ∨ (allocO (T.op i) x ∧ getL L x = none)) (hL0 : ∀ x, allocO (T.op i) x → getL L x = none)
          (hpend : PendOk (T.op i) ρ1 L1 s (readsT (T.op i) ρ ++ B)) (hs1 : s1 = s), DO F kp dk (is.map T.op) ρ' L' s := by
        intro hget hagr hL hL0 hpend hs1
        subst hs1
        refine h T ms fl fk (i :: A) rest is l ρ' L' hm hc' (fun p hp hpr => ?_) rfl ⟨inv.closed, fun r hr => inv.restN r (by simp [hr]), fun j hj h1 h2 => ?_, fun a ha => ?_, fun p hp a ha => ?_, fun p hp a ha hpa => ?_, fun t => ?_, fun a ha hla x hx => ?_, fun x => ?_, fun a ha hla => ?_⟩ sch
        · rcases List.mem_cons.1 hp with rfl | hp
          · exact hir hpr
          · exact hdis p hp (by simp [hpr])
        · simp only [List.mem_cons, not_or] at h2
          exact inv.doneN j hj (by simp [h2.1, h1]) h2.2
        · rcases List.mem_cons.1 ha with rfl | ha
          · exact hi
          · exact inv.alt a ha
        · rcases List.mem_cons.1 hp with rfl | hpA <;> rcases List.mem_cons.1 ha with rfl | haA
          · exact .inr hp2
          · exact hnm a haA
          · exact .inr (hp3 p hpA).1
          · exact inv.pair p hpA a haA
        · rcases List.mem_cons.1 hp with rfl | hpA <;> rcases List.mem_cons.1 ha with rfl | haA
          · exact absurd rfl hpa
          · exact (hp3 a haA).2
          · exact ndd_symm (hp3 p hpA).2
          · exact inv.uniq p hpA a haA hpa
        · rcases hget t with hd | hg
          · exact .inr ⟨i, by simp, hli, hd⟩
          · rw [hg]
            rcases inv.env t with h | ⟨a, ha, hla, hda⟩
            · exact .inl h
            · exact .inr ⟨a, by simp [ha], hla, hda⟩
        · rcases List.mem_cons.1 ha with rfl | ha
          · have := hL0 x hx
            rcases inv.loc x with h | ⟨b, hb, hlb, hxb⟩
            · rw [h]; exact this
            · exact inv.loc0 b hb hlb x hxb
          · exact inv.loc0 a ha hla x hx
        · rcases hL x with hx | ⟨hx, _⟩
          · rw [hx]
            rcases inv.loc x with h | ⟨b, hb, hlb, hxb⟩
            · exact .inl h
            · exact .inr ⟨b, by simp [hb], hlb, hxb⟩
          · exact .inr ⟨i, by simp, hli, hx⟩
        · rcases List.mem_cons.1 ha with rfl | ha
          · exact hpend
          · refine ((inv.pend a ha hla).more (B' := readsT (T.op i) ρ ++ B) (fun b _ hb => List.mem_append_right _ hb)).mono (hagr a ha) (fun t ht => ?_) (fun x hx => ?_) (fun t hal => ?_)
            · rcases hget t with hd | hg
              · exact absurd ht (ndd_ne (hp3 a ha).2 hd)
              · exact hg
            · obtain ⟨cs, hcs⟩ := (inv.pend a ha hla).loc hx
              rcases hL x with h | ⟨_, h⟩
              · exact h
              · rw [h] at hcs; simp at hcs
            · rcases hL t with h | ⟨h, _⟩
              · exact h
              · exact absurd hal.1 (ndd_ne (hp3 a ha).2 h.1)
      by_cases hq : quietK (T.op i).k = true
      · obtain ⟨e, rfl, rfl, rfl⟩ := stepQ_quiet hst hq
        have hgc := guardB_congr (g := (T.op i).guard) (ρ := ρ) (ρ' := putE ρ (T.op i).dst e) (fun t ht => agree_put hp2 t (by simp [namesO, ht]))
        refine key (fun t => ?_) (fun a ha => agree_put (hp3 a ha).1) (fun x => .inl rfl) (fun x hx => by have := allocO_quiet hx; rw [hq] at this; simp at this) ?_ rfl
        · rw [getE_put]
          by_cases ht : (T.op i).dst = some t
          · exact .inl ht
          · exact .inr (by simp [ht])
        · cases hgv : guardB ρ (T.op i).guard with
          | none => unfold stepQ at hst; simp [hgv] at hst
          | some c =>
          cases c
          · obtain ⟨e', h1, -, -⟩ := stepQ_false hst hgv hq
            refine .inr (.inl ⟨hq, by rw [hgc, hgv], e', fun t ht => ?_⟩)
            rw [h1, getE_put, if_pos ht]
          · obtain ⟨e', h1, -, -, h2⟩ := stepQ_mono (ρ' := putE ρ (T.op i).dst e) (L' := L1) hst hq (agree_put hp2) (.inl rfl)
            refine .inl ⟨hq, by rw [hgc, hgv], by rw [readsO_congr (agree_put hp2)]; exact fun b hb => List.mem_append_left _ (readsT_mem.2 hb), side, e', hs, h2, fun t ht => ?_⟩
            rw [h1, getE_put, if_pos ht]
      · obtain ⟨z, hz⟩ : ∃ z, (T.op i).k = .alloc z := by
          cases hk : (T.op i).k <;> first | exact absurd hk (stepQ_nofork hst _) | simp_all [pendK, quietK]
        obtain ⟨t, ho, rfl, rfl, rfl, rfl⟩ := stepQ_alloc hst hz
        have hnone : getL L t = none := by
          cases hg : getL L t <;> simp [hasL, hg] at hs ⊢
        have hdt : (T.op i).dst = some t := by rw [ho]
        refine key (fun u => ?_) (fun a ha => ?_) (fun x => ?_) (fun x hx => ?_) (.inr (.inr ⟨t, z, ho, by simp [getE], by simp [getL]⟩)) rfl
        · by_cases htu : t = u
          · exact .inl (by rw [hdt, htu])
          · exact .inr (by simp [getE, htu])
        · have := agree_put (ρ := ρ) (e := .loc t 0) (hp3 a ha).1
          rw [hdt] at this; exact this
        · by_cases htx : t = x
          · subst htx; exact .inr ⟨⟨hdt, z, hz⟩, hnone⟩
          · exact .inl (by simp [getL, htx])
        · have := hx.1
          rw [hdt] at this
          simp only [Option.some.injEq] at this
          subst this; exact hnone
    · obtain ⟨hbk, hready, hfree⟩ := chkBar_spec hb
      have hkB : keepsF (fl i) s s1 L L1 B ∨ pendK (T.op i).k = true := by
        cases hpk : pendK (T.op i).k
        · rw [hpk] at h; exact .inl h.1
        · exact .inr rfl
      have hD : ∃ B2, (B2 = readsT (T.op i) ρ ++ B ∧ pendK (T.op i).k = true ∨ B2 = readsT (T.op i) ρ ++ nextB (fl i) B ∧ pendK (T.op i).k = false) ∧ DOA F kp dk (rest.map fun i => (T.mk fk i, fl i)) ρ1 L1 s1 B2 := by
        cases hpk : pendK (T.op i).k
        · rw [hpk] at h; exact ⟨_, .inr ⟨rfl, rfl⟩, h.2⟩
        · rw [hpk] at h; exact ⟨_, .inl ⟨rfl, rfl⟩, h⟩
      clear h
      obtain ⟨B2, hB2, h⟩ := hD
      have hsubB : ∀ b ∈ nextB (fl i) B, b ∈ B2 := fun b hb => by
        rcases hB2 with ⟨rfl, _⟩ | ⟨rfl, _⟩
        · exact List.mem_append_right _ (nextB_iff.1 hb).2
        · exact List.mem_append_right _ hb
      refine reach hm hi hdis hready (fun l ρ' L' is inv hd sch => ?_) sch inv
      have hforced := hm l inv.closed i hi hd
      have hag : AgreeE ρ ρ' (namesO (T.op i)) := by
        intro t ht
        rcases inv.env t with h | ⟨a, ha, hla, hda⟩
        · exact h
        · exfalso
          rcases hnm a ha with hb | hb
          · rw [hforced a hb] at hla; simp at hla
          · exact nd_not hb hda ht
      have hloc : ∀ x, getL L' x = getL L x ∨ getL L' x = none := fun x => by
        rcases inv.loc x with h | ⟨a, ha, hla, hx⟩
        · exact .inl h
        · exact .inr (inv.loc0 a ha hla x hx)
      have hdis' : ∀ p ∈ A.filter (fun a => !(ms.getD i 0).testBit a), p ∉ rest := fun p hp hpr => hdis p (List.mem_filter.1 hp).1 (by simp [hpr])
      rcases stepQ_kind hst with hq | ⟨z, hz⟩ | hq | ⟨x, hx⟩ | hq
      · obtain ⟨e, rfl, rfl, rfl⟩ := stepQ_quiet hst hq
        refine DO_pend hst hs hq hag hloc ?_
        refine h T ms fl fk _ rest is _ _ _ hm hc' hdis' rfl (inv.bar hm hdis hi hir hd (fun a ha => ⟨(hfree a ha).1, (hfree a ha).2.1⟩) e (fun _ h => h) (fun _ _ _ _ h => h) fun a ha hla hpe => ?_) sch
        refine ((hpe.keep (fl := fl i) (keepsF_refl _ _ _ _) (hfree a ha).2.2 (fun _ _ => rfl)).more (fun b _ hb => hsubB _ hb)).mono (agree_put (hfree a ha).1) (fun t ht => ?_) (fun _ _ => rfl) (fun _ _ => rfl)
        rw [getE_put]
        have := ndd_ne (ndd_symm (hfree a ha).2.1) ht
        simp [this]
      · rw [hz] at hbk; simp [barK] at hbk
      · obtain ⟨rfl, hdn, ⟨lx, cs, new, rfl, rfl, hlx, hcong⟩ | ⟨rfl, hcong⟩⟩ := stepQ_store hst hq
        · refine DO_models fun g ν w tmps m => ?_
          have hst0 : stepQ (T.op i) ρ' ((lx, cs) :: L') s1 = .ok side ρ' ((lx, new) :: (lx, cs) :: L') s1 := hcong ρ' _ hag (by simp [getL, hlx])
          have hpl : getL L' lx = getL L lx := by
            obtain ⟨c2, hc2⟩ : ∃ cs, getL L' lx = some cs := store_loc (L := (lx, cs) :: L') hst0 hq hs m
            rcases hloc lx with h | h
            · exact h
            · rw [h] at hc2; simp at hc2
          refine DO_step (hcong ρ' L' hag hpl) hs ?_
          have hput : ∀ r : Env, putE r (T.op i).dst (.d .undef) = r := fun r => by rw [hdn]; rfl
          have hb := inv.bar (s2 := s1) (B2 := B2) hm hdis hi hir hd (fun a ha => ⟨(hfree a ha).1, (hfree a ha).2.1⟩) (.d .undef) (L2 := (lx, new) :: L) (L2' := (lx, new) :: L') (fun x hx => by simp only [getL, hx]) (fun x _ _ _ hx => by
            by_cases hxl : lx = x
            · subst hxl; rw [hpl, hlx] at hx; simp at hx
            · simp only [getL, hxl, if_false]; exact hx) (fun a ha hla hpe => ?_)
          · rw [hput, hput] at hb
            exact h T ms fl fk _ rest is _ _ _ hm hc' hdis' rfl hb sch
          · rw [hput]
            have hkB' : keepsF (fl i) s1 s1 L ((lx, new) :: L) B := by
              rcases hkB with h | h
              · exact h
              · cases hkk : (T.op i).k <;> rw [hkk] at hq h <;> simp [storeK, pendK] at hq h
            refine (hpe.keep hkB' (hfree a ha).2.2 (fun t hal => ?_)).more (fun b _ hb => hsubB _ hb)
            have hn := inv.loc0 a (List.mem_filter.1 ha).1 hla t hal
            have : ¬ lx = t := fun h => by subst h; rw [hpl, hlx] at hn; simp at hn
            simp [getL, this]
        · refine DO_step (hcong ρ' L' hag) hs ?_
          have hput : ∀ r : Env, putE r (T.op i).dst (.d .undef) = r := fun r => by rw [hdn]; rfl
          have hb := inv.bar (s2 := s1) (B2 := B2) hm hdis hi hir hd (fun a ha => ⟨(hfree a ha).1, (hfree a ha).2.1⟩) (.d .undef) (L2 := L1) (L2' := L') (fun x hx => hx) (fun _ _ _ _ hx => hx) (fun a ha hla hpe => by
            rw [hput]; exact (hpe.keep (hkB.resolve_right (by cases hkk : (T.op i).k <;> rw [hkk] at hq <;> simp [storeK, mapK] at hq <;> simp [pendK])) (hfree a ha).2.2 (fun _ _ => rfl)).more (fun b _ hb => hsubB _ hb))
          rw [hput, hput] at hb
          exact h T ms fl fk _ rest is _ _ _ hm hc' hdis' rfl hb sch
      · obtain ⟨t, p, v, hdt, hgn, rfl, rfl, rfl, rfl, hcong⟩ := stepQ_box hst hx
        obtain ⟨hs1, hs2, hs3⟩ := hs
        have hnone : getL L t = none := by
          cases hg : getL L t <;> simp [hasL, hg] at hs2 ⊢
        have hnone' : getL L' t = none := by
          rcases hloc t with h | h
          · rw [h]; exact hnone
          · exact h
        refine DO_step (hcong ρ' L' hag) ⟨hs1, by simp [hasL, hnone'], hs3⟩ ?_
        have hb := inv.bar (s2 := s1) (B2 := B2) hm hdis hi hir hd (fun a ha => ⟨(hfree a ha).1, (hfree a ha).2.1⟩) (.loc t 0) (L2 := (t, cellsOf v) :: L) (L2' := (t, cellsOf v) :: L') (fun x hx => by simp only [getL, hx]) (fun x a hna hal hx => by
            have : ¬ t = x := fun h => by subst h; exact ndd_ne hna hdt hal.1
            simp only [getL, this, if_false]; exact hx) (fun a ha hla hpe => ?_)
        · rw [hdt] at hb
          exact h T ms fl fk _ rest is _ _ _ hm hc' hdis' rfl hb sch
        · have hkB' : keepsF (fl i) s1 s1 L ((t, cellsOf v) :: L) B := hkB.resolve_right (by rw [hx]; simp [pendK])
          have hnd : ∀ u, allocO (T.op a) u → ¬ t = u := fun u hal h => by subst h; exact ndd_ne (hfree a ha).2.1 hdt hal.1
          refine ((hpe.keep hkB' (hfree a ha).2.2 (fun u hal => by simp [getL, hnd u hal])).more (fun b _ hb => hsubB _ hb)).mono (agree_put (hfree a ha).1) (fun u hu => ?_) (fun _ _ => rfl) (fun _ _ => rfl)
          rw [getE_put]
          have := ndd_ne (ndd_symm (hfree a ha).2.1) hu
          simp [this]
      · obtain ⟨rfl, hdn, rfl, hcong⟩ := stepQ_map hst hq
        refine DO_step (hcong ρ' L' hag) hs ?_
        have hput : ∀ r : Env, putE r (T.op i).dst (.d .undef) = r := fun r => by rw [hdn]; rfl
        have hb := inv.bar (s2 := s1) (B2 := B2) hm hdis hi hir hd (fun a ha => ⟨(hfree a ha).1, (hfree a ha).2.1⟩) (.d .undef) (L2 := L1) (L2' := L') (fun x hx => hx) (fun _ _ _ _ hx => hx) (fun a ha hla hpe => by
          rw [hput]; exact (hpe.keep (hkB.resolve_right (by cases hkk : (T.op i).k <;> rw [hkk] at hq <;> simp [storeK, mapK] at hq <;> simp [pendK])) (hfree a ha).2.2 (fun _ _ => rfl)).more (fun b _ hb => hsubB _ hb))
        rw [hput, hput] at hb
        exact h T ms fl fk _ rest is _ _ _ hm hc' hdis' rfl hb sch
theorem DOA_skipQ {F : Fr P} {kp : Option (List Nat)} {dk : List DItem} {o : DOp} {f : List Nat} {os : List (DOp × List Nat)} {ρ : Env} {L : Loc} {s : St} {B : List (Nat × Rd)} (hg : guardB ρ o.guard = some false) (hk : quietK o.k = true) (e : E)
    (h : DOA F kp dk os (putE ρ o.dst (.when false e)) L s B) : DOA F kp dk ((o, f) :: os) ρ L s B := by
  intro T ms fl fk A rest is l ρ' L' hm hc hdis hos inv sch
  cases rest with
  | nil => simp at hos
  | cons i rest =>
    simp only [List.map_cons, List.cons.injEq, Prod.mk.injEq] at hos
    obtain ⟨⟨ho, rfl⟩, rfl⟩ := hos
    obtain ⟨hfk, rfl⟩ := mk_fork ho.symm (fun k h => by rw [h] at hk; simp [quietK] at hk)
    obtain ⟨hi, hdeps, hir, hnm, hcs⟩ := chk_cons hfk hc
    have hli := inv.restN i (by simp)
    have hnal : ∀ x, ¬ allocO (T.op i) x := fun x hx => by have := allocO_quiet hx; rw [hk] at this; simp at this
    rcases hcs with ⟨hp, hc'⟩ | ⟨hb, hc', hnp⟩
    · obtain ⟨hp1, hp2, hp3⟩ := chkPend_spec hp
      have hgc := guardB_congr (g := (T.op i).guard) (ρ := ρ) (ρ' := putE ρ (T.op i).dst (.when false e)) (fun t ht => agree_put hp2 t (by simp [namesO, ht]))
      refine h T ms fl fk (i :: A) rest is l ρ' L' hm hc' (fun p hp hpr => ?_) rfl ⟨inv.closed, fun r hr => inv.restN r (by simp [hr]), fun j hj h1 h2 => ?_, fun a ha => ?_, fun p hp a ha => ?_, fun p hp a ha hpa => ?_, fun t => ?_, fun a ha hla x hx => ?_, fun x => ?_, fun a ha hla => ?_⟩ sch
      · rcases List.mem_cons.1 hp with rfl | hp
        · exact hir hpr
        · exact hdis p hp (by simp [hpr])
      · simp only [List.mem_cons, not_or] at h2
        exact inv.doneN j hj (by simp [h2.1, h1]) h2.2
      · rcases List.mem_cons.1 ha with rfl | ha
        · exact hi
        · exact inv.alt a ha
      · rcases List.mem_cons.1 hp with rfl | hpA <;> rcases List.mem_cons.1 ha with rfl | haA
        · exact .inr hp2
        · exact hnm a haA
        · exact .inr (hp3 p hpA).1
        · exact inv.pair p hpA a haA
      · rcases List.mem_cons.1 hp with rfl | hpA <;> rcases List.mem_cons.1 ha with rfl | haA
        · exact absurd rfl hpa
        · exact (hp3 a haA).2
        · exact ndd_symm (hp3 p hpA).2
        · exact inv.uniq p hpA a haA hpa
      · rw [getE_put]
        by_cases ht : (T.op i).dst = some t
        · exact .inr ⟨i, by simp, hli, ht⟩
        · rw [if_neg ht]
          rcases inv.env t with h | ⟨a, ha, hla, hda⟩
          · exact .inl h
          · exact .inr ⟨a, by simp [ha], hla, hda⟩
      · rcases List.mem_cons.1 ha with rfl | ha
        · exact absurd hx (hnal x)
        · exact inv.loc0 a ha hla x hx
      · rcases inv.loc x with h | ⟨b, hb, hlb, hxb⟩
        · exact .inl h
        · exact .inr ⟨b, by simp [hb], hlb, hxb⟩
      · rcases List.mem_cons.1 ha with rfl | ha
        · exact .inr (.inl ⟨hk, by rw [hgc, hg], e, fun t ht => by rw [getE_put, if_pos ht]⟩)
        · refine (inv.pend a ha hla).mono (agree_put (hp3 a ha).1) (fun t ht => ?_) (fun _ _ => rfl) (fun _ _ => rfl)
          rw [getE_put, if_neg (ndd_ne (ndd_symm (hp3 a ha).2) ht)]
    · obtain ⟨hbk, hready, hfree⟩ := chkBar_spec hb
      refine reach hm hi hdis hready (fun l ρ' L' is inv hd sch => ?_) sch inv
      have hforced := hm l inv.closed i hi hd
      have hag : AgreeE ρ ρ' (namesO (T.op i)) := by
        intro t ht
        rcases inv.env t with h | ⟨a, ha, hla, hda⟩
        · exact h
        · exfalso
          rcases hnm a ha with hb | hb
          · rw [hforced a hb] at hla; simp at hla
          · exact nd_not hb hda ht
      have hdis' : ∀ p ∈ A.filter (fun a => !(ms.getD i 0).testBit a), p ∉ rest := fun p hp hpr => hdis p (List.mem_filter.1 hp).1 (by simp [hpr])
      refine DO_skip (e := e) (by rw [guardB_congr fun t ht => hag t (by simp [namesO, ht])]; exact hg) ?_
      refine h T ms fl fk _ rest is _ _ _ hm hc' hdis' rfl (inv.bar hm hdis hi hir hd (fun a ha => ⟨(hfree a ha).1, (hfree a ha).2.1⟩) (.when false e) (fun _ h => h) (fun _ _ _ _ h => h) fun a ha hla hpe => ?_) sch
      refine hpe.mono (agree_put (hfree a ha).1) (fun t ht => ?_) (fun _ _ => rfl) (fun _ _ => rfl)
      rw [getE_put]
      have := ndd_ne (ndd_symm (hfree a ha).2.1) ht
      simp [this]
end
end Go.DL
namespace Go.DL
open Go
theorem testBit_maskOf {bs : List Nat} : ∀ {ds : List Nat} {a : Nat}, (maskOf bs ds).testBit a = true → ∃ d ∈ ds, a = d ∨ (bs.getD d 0).testBit a = true
  | [], a, h => by simp [maskOf] at h
  | d :: ds, a, h => by
    simp only [maskOf, Nat.testBit_or, Bool.or_eq_true] at h
    rcases h with (h | h) | h
    · exact ⟨d, by simp, .inr h⟩
    · refine ⟨d, by simp, .inl ?_⟩
      rw [Nat.one_shiftLeft, Nat.testBit_two_pow] at h
      exact (of_decide_eq_true h).symm
    · obtain ⟨d', h1, h2⟩ := testBit_maskOf h
      exact ⟨d', by simp [h1], h2⟩
theorem masks_ok (l : Nat → Bool) (all : List (List Nat)) (hcl : ∀ i, i < all.length → l i = true → ∀ d ∈ all.getD i [], l d = true) :
    ∀ (r : List (List Nat)) (acc : List Nat) (pre : List (List Nat)), all = pre ++ r → acc.length = pre.length →
      (∀ i, i < acc.length → (∀ d ∈ all.getD i [], l d = true) → ∀ a, (acc.getD i 0).testBit a = true → l a = true) →
      ∀ i, i < all.length → (∀ d ∈ all.getD i [], l d = true) → ∀ a, ((masks r acc).getD i 0).testBit a = true → l a = true
  | [], acc, pre, hall, hlen, hacc => by
    intro i hi
    simp only [masks]
    exact hacc i (by rw [hlen]; simp only [hall, List.append_nil] at hi; exact hi)
  | d :: r, acc, pre, hall, hlen, hacc => by
    simp only [masks]
    refine masks_ok l all hcl r (acc ++ [maskOf acc d]) (pre ++ [d]) (by simp [hall]) (by simp [hlen]) fun i hi hd a ha => ?_
    simp only [List.length_append, List.length_cons, List.length_nil] at hi
    by_cases hia : i < acc.length
    · have e : (acc ++ [maskOf acc d]).getD i 0 = acc.getD i 0 := by simp [List.getD, List.getElem?_append, hia]
      rw [e] at ha
      exact hacc i hia hd a ha
    · have hie : i = acc.length := by omega
      subst hie
      have e : (acc ++ [maskOf acc d]).getD acc.length 0 = maskOf acc d := by simp [List.getD]
      rw [e] at ha
      have e2 : all.getD acc.length [] = d := by rw [hall, hlen]; simp [List.getD]
      rw [e2] at hd
      obtain ⟨d', h1, h2⟩ := testBit_maskOf ha
      rcases h2 with rfl | h2
      · exact hd a h1
      · by_cases hlt : d' < acc.length
        · exact hacc d' hlt (hcl d' (by rw [hall]; simp; omega) (hd d' h1)) a h2
        · have : acc.getD d' 0 = 0 := by simp [List.getD, List.getElem?_eq_none (Nat.le_of_not_lt hlt)]
          rw [this] at h2; simp at h2
def cnt (l : Nat → Bool) : Nat → Nat
  | 0 => 0
  | n + 1 => cnt l n + if l n then 0 else 1
theorem cnt_mono {l l' : Nat → Bool} : ∀ {n : Nat}, (∀ i, i < n → l' i = l i) → cnt l' n = cnt l n
  | 0, _ => rfl
  | n + 1, h => by
    have := cnt_mono (l := l) (l' := l') (n := n) fun i hi => h i (by omega)
    simp only [cnt, h n (by omega), this]
theorem cnt_set {l : Nat → Bool} {i : Nat} : ∀ {n : Nat}, i < n → l i = false → cnt (fun j => j == i || l j) n + 1 = cnt l n
  | n + 1, hi, hl => by
    by_cases hn : i = n
    · subst hn
      have : cnt (fun j => j == i || l j) i = cnt l i := cnt_mono fun j hj => by
        have : ¬ j = i := by omega
        simp [this]
      simp [cnt, this, hl]
    · have h := cnt_set (n := n) (by omega) hl
      have hni : ¬ n = i := fun h => hn h.symm
      have : (n == i || l n) = l n := by simp [hni]
      simp only [cnt, this]; omega
theorem cnt_zero {l : Nat → Bool} : ∀ {n : Nat}, cnt l n = 0 → ∀ i, i < n → l i = true
  | n + 1, h, i, hi => by
    simp only [cnt] at h
    by_cases hn : i = n
    · subst hn
      cases hl : l i
      · simp [hl] at h
      · rfl
    · exact cnt_zero (n := n) (by omega) i (by omega)
theorem cnt_le (l : Nat → Bool) : ∀ n, cnt l n ≤ n
  | 0 => Nat.le_refl _
  | n + 1 => by have := cnt_le l n; simp only [cnt]; split <;> omega
theorem mem_ready {ops : Array Oper} {listed : Array Bool} {i : Nat} (h : i ∈ Region.ready .any ops listed) :
    ∃ o, ops[i]? = some o ∧ listed.getD i true = false ∧ ∀ d ∈ opDeps o, listed.getD d false = true := by
  simp only [Region.ready, List.mem_filter, List.mem_range, Bool.and_eq_true, Bool.not_eq_true'] at h
  obtain ⟨hi, hl, ha⟩ := h
  refine ⟨ops[i], by simp [hi], hl, fun d hd => ?_⟩
  simp only [hi, Array.getElem?_eq_getElem, Option.map_some, Option.getD_some, Array.all_eq_true] at ha
  simp only [opDeps, List.mem_map, List.mem_filter] at hd
  obtain ⟨e, ⟨he, hb⟩, rfl⟩ := hd
  obtain ⟨n, hn, hen⟩ := List.getElem_of_mem he
  have hn' : n < ops[i].after.size := by simpa using hn
  have h2 := ha n hn'
  have : ops[i].after[n] = e := by rw [← hen]; simp
  rw [this] at h2
  simpa [hb] using h2
theorem ready_mem {ops : Array Oper} {listed : Array Bool} {i : Nat} {o : Oper} (ho : ops[i]? = some o) (hl : listed.getD i true = false) (hd : ∀ d ∈ opDeps o, listed.getD d false = true) : i ∈ Region.ready .any ops listed := by
  obtain ⟨hi, rfl⟩ := Array.getElem?_eq_some_iff.1 ho
  simp only [Region.ready, List.mem_filter, List.mem_range, Bool.and_eq_true, Bool.not_eq_true']
  refine ⟨hi, hl, ?_⟩
  simp only [hi, Array.getElem?_eq_getElem, Option.map_some, Option.getD_some, Array.all_eq_true]
  intro n hn
  cases hb : Region.binds .any ops[i].after[n]
  · simp
  · simp only [Bool.not_true, Bool.false_or]
    exact hd _ (by
      simp only [opDeps, List.mem_map, List.mem_filter]
      exact ⟨_, ⟨by simp, hb⟩, rfl⟩)
theorem sch_go {ops : Array Oper} {T : Tab} (hT : T.length = ops.size) (hdep : ∀ i o, ops[i]? = some o → T.deps i = opDeps o) (hlt : ∀ i, i < T.length → ∀ d ∈ T.deps i, d < i) :
    ∀ (fuel t : Nat) (listed : Array Bool), listed.size = ops.size → cnt (fun j => listed.getD j false) ops.size ≤ fuel →
      Sch T (fun j => listed.getD j false) (Region.linearise.go .any ops fuel t listed []) := by
  have hready : ∀ listed : Array Bool, listed.size = ops.size → Region.ready .any ops listed = [] → ∀ i, i < ops.size → listed.getD i false = true := by
    intro listed hsz hr i
    induction i using Nat.strongRecOn with
    | ind i ih =>
      intro hi
      cases hl : listed.getD i false
      · exfalso
        have hi' : i < listed.size := by omega
        have hlt' : listed.getD i true = false := by simpa [Array.getD, hi'] using hl
        have hm : i ∈ Region.ready .any ops listed := ready_mem (o := ops[i]) (by simp [hi]) hlt' fun d hd => by
          have hdi : d < i := hlt i (by omega) d (by rw [hdep i ops[i] (by simp [hi])]; exact hd)
          exact ih d hdi (by omega)
        rw [hr] at hm; simp at hm
      · rfl
  intro fuel
  induction fuel with
  | zero =>
    intro t listed hsz hc
    simp only [Region.linearise.go, List.reverse_nil]
    exact .nil fun i hi => cnt_zero (Nat.le_zero.1 hc) i (by omega)
  | succ fuel ih =>
    intro t listed hsz hc
    simp only [Region.linearise.go]
    change Sch T _ (match (Region.ready .any ops listed)[t % (Region.ready .any ops listed).length]? with
      | some i => Region.linearise.go .any ops fuel (t / (Region.ready .any ops listed).length) (listed.setIfInBounds i true) [i]
      | none => [].reverse)
    cases hi : (Region.ready .any ops listed)[t % (Region.ready .any ops listed).length]? with
    | none =>
      have hnil : Region.ready .any ops listed = [] := by
        cases hr : Region.ready .any ops listed with
        | nil => rfl
        | cons x xs =>
          rw [hr] at hi
          have hl : t % (x :: xs).length < (x :: xs).length := Nat.mod_lt _ (by simp)
          rw [List.getElem?_eq_getElem hl] at hi; simp at hi
      exact .nil fun i hi' => hready listed hsz hnil i (by omega)
    | some i =>
      simp only []
      rw [linearise_go_acc, List.reverse_singleton, List.singleton_append]
      obtain ⟨o, ho, hl, hd⟩ := mem_ready (List.mem_of_getElem? hi)
      obtain ⟨his, -⟩ := Array.getElem?_eq_some_iff.1 ho
      have hisl : i < listed.size := by omega
      have hlf : listed.getD i false = false := by simpa [Array.getD, hisl] using hl
      have hfun : (fun j => (listed.setIfInBounds i true).getD j false) = fun j => j == i || listed.getD j false := by
        funext j
        simp only [Array.getD_eq_getD_getElem?, Array.getElem?_setIfInBounds]
        by_cases hij : i = j
        · subst hij; simp [hisl]
        · have : ¬ j = i := fun h => hij h.symm
          simp [hij, this]
      refine .cons (by omega) hlf (fun d hd' => hd d (by rw [← hdep i o ho]; exact hd')) ?_
      rw [← hfun]
      refine ih _ _ (by simp [hsz]) ?_
      rw [hfun]
      have := cnt_set (l := fun j => listed.getD j false) his hlf
      omega
section
variable {P : Program}
theorem cc_regD {an : Ann} {N : Nat} {c : Code} {order : List Nat} {os : List (DOp × List Nat)} {ks : Option (List Nat)} (h : cc P an N c = some (.regD order os ks)) :
    ∃ id ops, c = .region id ops true ∧ ccD P an N id ops = some (order, os, ks) := by
  unfold cc at h; split at h <;> simp_all
  · obtain ⟨a, b, c', h1, h2, h3, h4⟩ := h; exact ⟨_, _, ⟨rfl, rfl⟩, by rw [h1]; simp [h2, h3, h4]⟩
  all_goals (split at h <;> simp at h)
end
end Go.DL
namespace Go.DL
open Go
theorem sch_lt {T : Tab} {l : Nat → Bool} {is : List Nat} (h : Sch T l is) : ∀ i ∈ is, i < T.length := by
  induction h with
  | nil h => simp
  | cons hi hl hd t ih => intro i hi'; rcases List.mem_cons.1 hi' with rfl | h; exact hi; exact ih i h
section
variable {P : Program}
theorem cops_get {N : Nat} {ops : Array Oper} : ∀ {is : List Nat} {l : List DOp}, cops P N ops is = some l → l.length = is.length ∧ ∀ (j i : Nat), is[j]? = some i → ∃ o d, ops[i]? = some o ∧ cop P N ops o = some d ∧ l[j]? = some d
  | [], l, h => by simp only [cops, Option.some.injEq] at h; subst h; simp
  | i :: is, l, h => by
    simp only [cops] at h
    split at h <;> (try (simp at h; done))
    rename_i o ho
    split at h <;> simp only [Option.some.injEq, reduceCtorEq] at h
    rename_i d ds hd hds
    subst h
    obtain ⟨h1, h2⟩ := cops_get hds
    refine ⟨by simp [h1], fun j i' hj => ?_⟩
    cases j with
    | zero => simp only [List.getElem?_cons_zero, Option.some.injEq] at hj; subst hj; exact ⟨o, d, ho, hd, by simp⟩
    | succ j => simp only [List.getElem?_cons_succ] at hj ⊢; exact h2 j i' hj
theorem cops_of {N : Nat} {ops : Array Oper} {f : Nat → DOp} : ∀ {is : List Nat}, (∀ i ∈ is, ∃ o, ops[i]? = some o ∧ cop P N ops o = some (f i)) → cops P N ops is = some (is.map f)
  | [], _ => rfl
  | i :: is, h => by
    obtain ⟨o, h1, h2⟩ := h i (by simp)
    have := cops_of (is := is) fun j hj => h j (by simp [hj])
    simp only [cops, h1, h2, this, List.map_cons]
theorem ext_drawn (g : G) (w : World) (n : Nat) : Ext g w g { w with drawn := n } := ⟨Nat.le_refl _, fun _ => Nat.le_refl _, fun _ _ _ => rfl, fun _ _ h => h, fun _ _ => rfl, fun _ _ => rfl, rfl, rfl, rfl, rfl⟩
theorem Models.drawn {g : G} {ν : Nat → Nat} {w : World} {tmps : Array Value} {ρ : Env} {L : Loc} {s : St} (m : Models g ν w tmps ρ L s) (n : Nat) : Models g ν { w with drawn := n } tmps ρ L s := by
  have hg : Grow g w g { w with drawn := n } := ⟨Nat.le_refl _, fun _ _ => rfl, fun _ _ => rfl, fun b hb => (m.st.fresh b hb).1, rfl, rfl, rfl, rfl⟩
  exact m.grow hg
theorem depsLt_spec : ∀ {n : Nat} {ds : List (List Nat)}, depsLt n ds = true → ∀ i l, ds[i]? = some l → ∀ d ∈ l, d < n + i
  | n, [], _, i, l, hi => by simp at hi
  | n, x :: r, h, i, l, hi => by
    simp only [depsLt, Bool.and_eq_true, List.all_eq_true, decide_eq_true_eq] at h
    cases i with
    | zero => simp only [List.getElem?_cons_zero, Option.some.injEq] at hi; subst hi; exact fun d hd => h.1 d hd
    | succ i => simp only [List.getElem?_cons_succ] at hi; intro d hd; have := depsLt_spec h.2 i l hi d hd; omega
theorem DRun_regD {F : Fr P} {order : List Nat} {os : List (DOp × List Nat)} {ks : Option (List Nat)} {dk : List DItem} {ρ : Env} {L : Loc} {s : St} (h : DOA F ks dk os ρ L s []) : DRun F (.code (.regD order os ks) :: dk) ρ L s := by
  intro k hk
  cases hk with
  | code hc ht =>
  obtain ⟨id, ops, rfl, hD⟩ := cc_regD hc
  unfold ccD at hD
  generalize fkOf F.an id = fk at hD
  split at hD <;> (try (simp at hD; done))
  rename_i l order' kp hcops _ _
  simp only at hD
  split at hD <;> simp only [Option.some.injEq, Prod.mk.injEq, reduceCtorEq] at hD
  rename_i hcond
  obtain ⟨rfl, rfl, rfl⟩ := hD
  simp only [Bool.and_eq_true] at hcond
  obtain ⟨⟨⟨hmix, hlt⟩, hperm⟩, hchk⟩ := hcond
  obtain ⟨hlen, hget⟩ := cops_get hcops
  simp only [List.length_range] at hlen
  generalize hds : ops.toList.map opDeps = ds at hlt hchk h
  have hdl : ds.length = ops.size := by rw [← hds]; simp
  generalize hT : List.zip l ds = T at hchk h
  have hTl : List.length T = ops.size := by rw [← hT]; simp [hlen, hdl]
  have hTi : ∀ (i : Nat) (o : Oper), ops[i]? = some o → ∃ d, cop P F.N ops o = some d ∧ T[i]? = some (d, opDeps o) := by
    intro i o ho
    obtain ⟨hi, -⟩ := Array.getElem?_eq_some_iff.1 ho
    obtain ⟨o', d, h1, h2, h3⟩ := hget i i (by simp [hi])
    rw [ho] at h1
    obtain rfl := Option.some.inj h1
    refine ⟨d, h2, ?_⟩
    rw [← hT, List.getElem?_zip_eq_some]
    exact ⟨h3, by rw [← hds]; simp [ho]⟩
  have hdeps : ∀ (i : Nat) (o : Oper), ops[i]? = some o → Tab.deps T i = opDeps o := fun i o ho => by
    obtain ⟨d, _, h2⟩ := hTi i o ho
    simp [Tab.deps, List.getD, h2]
  have hop : ∀ i, i < List.length T → ∃ o, ops[i]? = some o ∧ cop P F.N ops o = some (Tab.op T i) := fun i hi => by
    have hi' : i < ops.size := by omega
    obtain ⟨d, h1, h2⟩ := hTi i ops[i] (by simp [hi'])
    exact ⟨ops[i], by simp [hi'], by simp [Tab.op, List.getD, h2, h1]⟩
  have hdl2 : ∀ i, i < List.length T → ∀ d ∈ Tab.deps T i, d < i := fun i hi d hd => by
    have hi' : i < ops.size := by omega
    have he := hdeps i ops[i] (by simp [hi'])
    have := depsLt_spec hlt i (opDeps ops[i]) (by rw [← hds]; simp [hi']) d (by rw [← he]; exact hd)
    omega
  have hdsT : ∀ i, i < List.length T → ds.getD i [] = Tab.deps T i := fun i hi => by
    have hi' : i < ops.size := by omega
    rw [hdeps i ops[i] (by simp [hi']), ← hds]
    simp [List.getD, hi']
  intro g ν w tmps hN m
  refine F.T.back _ _ _ _ (.one stepR_region_draw) ?_
  refine F.T.ext g w g { w with drawn := w.drawn + 1 } _ (ext_drawn g w _) ?_
  have hsc : ∀ t, Region.schedule (P.follows .mixedOrders) ops t = Region.linearise .any ops t := fun t => by simp [Region.schedule, hmix]
  rw [hsc]
  have hl0 : ∀ j, (Array.replicate ops.size false).getD j false = false := fun j => by
    simp only [Array.getD_eq_getD_getElem?, Array.getElem?_replicate]
    split <;> rfl
  have hsch := sch_go (ops := ops) (T := T) hTl hdeps hdl2 ops.size (w.tape w.drawn (.order F.b.fn id)) (Array.replicate ops.size false) (by simp) (cnt_le _ _)
  have hDO := h T (masks ds []) (fun i => (F.an.get (id + 1000000 * (i + 4))).getD []) _ [] order' _ _ ρ L ?_ hchk (by simp) rfl ?_ hsch
  · refine hDO ops _ _ (cops_of fun i hi => hop i (sch_lt hsch i hi)) ht g ν _ tmps hN (m.drawn _)
  · intro lf hcl i hi hd a ha
    refine masks_ok lf ds (fun i hi hli d hd => ?_) ds [] [] rfl rfl (fun i hi => by simp at hi) i (by omega) (fun d hd' => hd d (by rw [← hdsT i hi]; exact hd')) a ha
    exact hcl i (by omega) hli d (by rw [← hdsT i (by omega)]; exact hd)
  · refine ⟨fun i hi hli => ?_, fun r hr => hl0 r, fun i hi h1 h2 => ?_, by simp, by simp, by simp, fun t => .inl rfl, by simp, fun x => .inl rfl, by simp⟩
    · rw [hl0] at hli; simp at hli
    · exfalso
      simp only [permOk, List.all_eq_true, List.mem_range, List.contains_eq_mem, decide_eq_true_eq] at hperm
      exact h1 (hperm i (by omega))
theorem DOA_vcall {F : Fr P} {kp : Option (List Nat)} {dk : List DItem} {o : DOp} {f : List Nat} {os : List (DOp × List Nat)} {ρ : Env} {L : Loc} {s : St} {B : List (Nat × Rd)} (hg : guardB ρ o.guard = some true) {fx : Opd} {xs : List Opd} (hk : o.k = .call fx xs)
    {p q : Prop} {fd : D} {es : List E} {ds : List D} (hf : argE ρ true fx = some (q, .d fd)) (ha : argsE ρ true xs = some (p, es)) (hds : dsOf es = some ds) (hp : p) (hq : q)
    {Ψ : Res → St → Prop} (hc : VCalls P fd ds s Ψ)
    (hret : ∀ d s', Ψ (.ret d) s' → keepsF f s s' L L B ∧ DOA F kp dk os (putE ρ o.dst (.d d)) L s' (nextB f B)) (hpan : ∀ d s', Ψ (.panic d) s' → Panics F [] [] d s') : DOA F kp dk ((o, f) :: os) ρ L s B := by
  refine DOA_eff (fun e s' => ∃ d, e = .d d ∧ Ψ (.ret d) s') (by rw [hk]; rfl) (fun ρ' L' os' hag hcont => ?_) (fun e s2 ⟨d, he, hd⟩ => by subst he; exact hret d s2 hd)
  have h1 : AgreeE ρ ρ' (opdT fx) := fun t ht => hag t (by simp [namesO, hk, namesK, ht])
  have h2 : AgreeE ρ ρ' (opdsT xs) := fun t ht => hag t (by simp [namesO, hk, namesK, ht])
  have h3 : AgreeE ρ ρ' (guardT o.guard) := fun t ht => hag t (by simp [namesO, ht])
  exact DO_vcall (by rw [guardB_congr h3]; exact hg) hk (by rw [argE_congr h1]; exact hf) (by rw [argsE_congr h2]; exact ha) hds hp hq hc (fun d s' hd => hcont (.d d) s' ⟨d, rfl, hd⟩) (fun d s' hd => (hpan d s' hd).weak _ _)
theorem DOA_panic {F : Fr P} {kp : Option (List Nat)} {dk : List DItem} {o : DOp} {f : List Nat} {os : List (DOp × List Nat)} {ρ : Env} {L : Loc} {s : St} {B : List (Nat × Rd)} (hg : guardB ρ o.guard = some true) {x : Opd} (hk : o.k = .panic x)
    {p : Prop} {t : TypeId} {d : D} (ha : argE ρ true x = some (p, .d (.iface t d))) (hp : p) (h : Panics F [] [] (.iface t d) s) : DOA F kp dk ((o, f) :: os) ρ L s B := by
  refine DOA_eff (fun _ _ => False) (by rw [hk]; rfl) (fun ρ' L' os' hag hcont => ?_) (fun e s2 h => h.elim)
  have h1 : AgreeE ρ ρ' (opdT x) := fun t ht => hag t (by simp [namesO, hk, namesK, ht])
  have h3 : AgreeE ρ ρ' (guardT o.guard) := fun t ht => hag t (by simp [namesO, ht])
  exact DO_panic (by rw [guardB_congr h3]; exact hg) hk (by rw [argE_congr h1]; exact ha) hp (h.weak _ _)
theorem DOA_skip {F : Fr P} {kp : Option (List Nat)} {dk : List DItem} {o : DOp} {f : List Nat} {os : List (DOp × List Nat)} {ρ : Env} {L : Loc} {s : St} {B : List (Nat × Rd)} (hg : guardB ρ o.guard = some false) (hk : pendK o.k = false) {e : E}
    (h : DOA F kp dk os (putE ρ o.dst (.when false e)) L s (nextB f B)) : DOA F kp dk ((o, f) :: os) ρ L s B := by
  refine DOA_eff (fun e' s' => e' = .when false e ∧ s' = s) hk (fun ρ' L' os' hag hcont => ?_) (fun e s2 ⟨h1, h2⟩ => by subst h1; subst h2; exact ⟨keepsF_refl _ _ _ _, h⟩)
  have h3 : AgreeE ρ ρ' (guardT o.guard) := fun t ht => hag t (by simp [namesO, ht])
  exact DO_skip (by rw [guardB_congr h3]; exact hg) (hcont _ _ ⟨rfl, rfl⟩)
end
end Go.DL
namespace Go.DL
open Go
section
variable {P : Program}
def NewsOk (P : Program) (w : World) (size m : Nat) (x : Value) (news : List Value) : Prop :=
  (∀ w2, (Builtin.lenOf x).run P w2 = .ok m w2) ∧ ∀ w2 : World, w2.heap = w.heap → (Builtin.firstCells size m x).run P w2 = .ok news.toArray w2
theorem app_room0 {w : World} {t u ty e : TypeId} {tu : TypeDesc} {i : TypeInfo} (ht : P.underlying t = some (.slice e)) (hu : P.underlying u = some tu) (hnu : ∀ k, tu ≠ .int k) (hi : P.info? e = some i) {base : Option Addr} {n cap : Nat} {x : Value}
    (hx : NewsOk P w i.size 0 x []) (hroom : n ≤ cap) : (Builtin.append_ #[t, u] ty #[.slice base n cap, x]).run P w = .ok (.slice base n cap) w := by
  obtain ⟨h1, h2⟩ := hx
  have h2 := h2 w rfl
  have hz : (match tu with | .int _ => true | _ => false) = false := by cases tu <;> first | rfl | exact absurd rfl (hnu _)
  cases base with
  | none => simp [Builtin.append_, run_underlying ht, run_underlying hu, hz, sizeOf, typeInfo, hi, h1, h2, hroom]
  | some a => simp [Builtin.append_, run_underlying ht, run_underlying hu, hz, sizeOf, typeInfo, hi, h1, h2, hroom, storeCells]
theorem app_room {w : World} {t u ty e : TypeId} {tu : TypeDesc} {i : TypeInfo} (ht : P.underlying t = some (.slice e)) (hu : P.underlying u = some tu) (hnu : ∀ k, tu ≠ .int k) (hi : P.info? e = some i) {g n cap m : Nat} {x : Value} {news : List Value}
    (hx : NewsOk P w i.size m x news) {cur : Array Value} {T : TypeId} (hg : w.heap[g]? = some (.cells cur T (0, 0))) (h1 : ∀ u ∈ news, u.oneCell' = true) (hroom : n + m ≤ cap) (hfit : n * i.size + news.length ≤ cur.size) :
    (Builtin.append_ #[t, u] ty #[.slice (some ⟨g, 0, none⟩) n cap, x]).run P w =
      .ok (.slice (some ⟨g, 0, none⟩) (n + m) cap) (w.setRow g (cur.toList.take (n * i.size) ++ news ++ cur.toList.drop (n * i.size + news.length)).toArray) := by
  obtain ⟨hx1, hx2⟩ := hx
  have hx2 := hx2 w rfl
  have hz : (match tu with | .int _ => true | _ => false) = false := by cases tu <;> first | rfl | exact absurd rfl (hnu _)
  have hst := run_storeCells_at P g (n * i.size) T news 0 cur w hg (by simpa using hfit) h1
  simp only [Nat.add_zero] at hst
  simp [Builtin.append_, run_underlying ht, run_underlying hu, hz, sizeOf, typeInfo, hi, hx1, hx2, hroom, Addr.add_lit, hst]
theorem app_grow {w : World} {t u ty e : TypeId} {tu : TypeDesc} {i : TypeInfo} {z : Value} (ht : P.underlying t = some (.slice e)) (hu : P.underlying u = some tu) (hnu : ∀ k, tu ≠ .int k) (hi : P.info? e = some i) (hz' : i.zero = some z)
    {base : Option Addr} {n cap m : Nat} {x : Value} {olds news : List Value} (hx : NewsOk P w i.size m x news) (ho : ∀ w2 : World, w2.heap = w.heap → (Builtin.firstCells i.size n (.slice base n cap)).run P w2 = .ok olds.toArray w2)
    (hg : cap < n + m) (h63 : ((n + m : Nat) : Int) ≤ 9223372036854775807) (hfit : (n + m) * i.bytes ≤ 140737488355328) :
    (Builtin.append_ #[t, u] ty #[.slice base n cap, x]).run P w =
      .ok (.slice (some ⟨w.heap.size, 0, none⟩) (n + m) (grownCap w (n + m) cap e))
        (w.drew.alloc (.cells (olds ++ news ++ (Builtin.zeroCells z.cells (grownCap w (n + m) cap e - (n + m))).toList).toArray e)) := by
  obtain ⟨hx1, hx2⟩ := hx
  have hx2 := hx2 w.drew rfl
  have ho := ho w.drew rfl
  have hz : (match tu with | .int _ => true | _ => false) = false := by cases tu <;> first | rfl | exact absurd rfl (hnu _)
  have hn : ¬ (n + m ≤ cap) := by omega
  have h63' : ¬ (9223372036854775807 < ((n : Int) + (m : Int))) := by omega
  have hf := growslice_fits hg hfit
  have h48' : ¬ (281474976710656 < Builtin.nextslicecap (n + m) cap * i.bytes) := by omega
  simp [Builtin.append_, run_underlying ht, run_underlying hu, hz, sizeOf, typeInfo, zeroValue, hi, hz', hx1, hn, h63', h48', Question.forced, hx2, ho, newRow, grownCap]
  congr 2
  apply Array.ext'
  simp [List.append_assoc]
end
end Go.DL
namespace Go.DL
open Go
structure RowsRep (g : G) (w : World) (sz n : Nat) (vals : List Value) (row : Nat → List D) : Prop where
  len : vals.length = n * sz
  rlen : ∀ i, i < n → (row i).length = sz
  rep : ∀ (i j : Nat) (v : Value) (d : D), i < n → j < sz → vals[i * sz + j]? = some v → (row i)[j]? = some d → Rep g w v d
  one : ∀ v ∈ vals, v.one1 = true
def appRow (n : Nat) (row row2 : Nat → List D) : Nat → List D := fun i => if i < n then row i else row2 (i - n)
theorem RowsRep.append {g : G} {w : World} {sz n m : Nat} {a b : List Value} {row row2 : Nat → List D} (ha : RowsRep g w sz n a row) (hb : RowsRep g w sz m b row2) : RowsRep g w sz (n + m) (a ++ b) (appRow n row row2) := {
  len := by rw [List.length_append, ha.len, hb.len, Nat.add_mul]
  rlen i hi := by
    unfold appRow
    split
    · rename_i h; exact ha.rlen i h
    · exact hb.rlen (i - n) (by omega)
  rep i j v d hi hj hv hd := by
    unfold appRow at hd
    split at hd
    · rename_i h
      have : i * sz + j < a.length := by
        rw [ha.len]
        have := Nat.mul_le_mul_right sz (show i + 1 ≤ n from h)
        rw [Nat.add_mul, Nat.one_mul] at this; omega
      rw [List.getElem?_append_left this] at hv
      exact ha.rep i j v d h hj hv hd
    · rename_i h
      have e : i * sz + j - a.length = (i - n) * sz + j := by
        rw [ha.len, Nat.sub_mul]
        have := Nat.mul_le_mul_right sz (show n ≤ i by omega)
        omega
      have hge : a.length ≤ i * sz + j := by
        rw [ha.len]
        have := Nat.mul_le_mul_right sz (show n ≤ i by omega)
        omega
      rw [List.getElem?_append_right hge, e] at hv
      exact hb.rep (i - n) j v d (by omega) hj hv hd
  one v hv := by
    rcases List.mem_append.1 hv with h | h
    · exact ha.one v h
    · exact hb.one v h }
theorem RowsRep.mono {g g' : G} {w w' : World} {sz n : Nat} {a : List Value} {row : Nat → List D} (h : RowsRep g w sz n a row) (e : Ext g w g' w') : RowsRep g' w' sz n a row :=
  ⟨h.len, h.rlen, fun i j v d hi hj hv hd => (h.rep i j v d hi hj hv hd).mono e, h.one⟩
theorem cell_heap {w : World} {b o : Nat} {cs : Array Value} {T : TypeId} {fr : Nat × Nat} (h : w.heap[b]? = some (.cells cs T fr)) : w.cell? ⟨b, o, none⟩ = cs[o]? := by
  unfold World.cell?; simp [h]
section
variable {P : Program}
theorem rows_of_sl {g : G} {w : World} {v : Value} {t : Tok} {n sz : Nat} {row : Nat → List D} (h : Rep g w v (.sl t n sz row)) (hsz : 0 < sz) :
    ∃ vals, RowsRep g w sz n vals row ∧ NewsOk P w sz n v vals := by
  cases h with
  | sl0 a t s row ht =>
    refine ⟨[], ⟨by simp, fun i hi => by omega, fun i j v d hi => by omega, by simp⟩, fun w2 => by simp [Builtin.lenOf], fun w2 _ => by cases a <;> simp [Builtin.firstCells, loadCells, loadCellsFrom]⟩
  | sl b o n cap s row t f hl hc hp hr one ht hcap hb =>
    let vals := (List.range (n * sz)).map fun k => f (k / sz) (k % sz)
    have hk : ∀ k, k < n * sz → k / sz < n ∧ k % sz < sz := fun k hk => ⟨(Nat.div_lt_iff_lt_mul hsz).2 hk, Nat.mod_lt _ hsz⟩
    have hvals : ∀ k v, vals[k]? = some v → k < n * sz ∧ v = f (k / sz) (k % sz) := fun k v hv => by
      simp only [vals, List.getElem?_map, Option.map_eq_some_iff] at hv
      obtain ⟨k', h1, h2⟩ := hv
      obtain ⟨h3, h4⟩ := List.getElem?_eq_some_iff.1 h1
      simp only [List.getElem_range] at h4
      subst h4
      exact ⟨by simpa using h3, h2.symm⟩
    refine ⟨vals, ⟨by simp [vals], hl, fun i j v d hi hj hv hd => ?_, fun v hv => ?_⟩, fun w2 => by simp [Builtin.lenOf], fun w2 hw2 => ?_⟩
    · obtain ⟨_, rfl⟩ := hvals _ _ hv
      have e1 : (i * sz + j) / sz = i := by rw [Nat.mul_comm, Nat.mul_add_div hsz, Nat.div_eq_of_lt hj, Nat.add_zero]
      have e2 : (i * sz + j) % sz = j := by rw [Nat.mul_comm, Nat.mul_add_mod, Nat.mod_eq_of_lt hj]
      rw [e1, e2]
      exact hr i j d hi hd
    · obtain ⟨k, hk', rfl⟩ := List.getElem_of_mem hv
      obtain ⟨h1, h2⟩ := hvals k _ (List.getElem?_eq_getElem hk')
      rw [h2]
      exact one _ _ (hk k h1).1 (hk k h1).2
    · refine run_firstCells_some (P := P) w2 sz n ⟨b, o, none⟩ n cap vals (by simp [vals]) fun k v hv => ?_
      obtain ⟨h1, h2⟩ := hvals k v hv
      have hadd : (⟨b, o, none⟩ : Addr).add k = ⟨b, o + k, none⟩ := addr_add b o k
      rw [hadd]
      have h3 := hc (k / sz) (k % sz) (hk k h1).1 (hk k h1).2
      have e : o + k / sz * sz + k % sz = o + k := by rw [Nat.add_assoc, Nat.mul_comm, Nat.div_add_mod]
      rw [e] at h3
      rw [h2, ← h3]
      unfold World.cell?; simp only [hw2]
theorem sl_of_rows {g : G} {w : World} {sz n cap b : Nat} {vals : List Value} {row : Nat → List D} (h : RowsRep g w sz n vals row) {cur : Array Value} {T : TypeId} (hb : w.heap[b]? = some (.cells cur T (0, 0)))
    (ht : cur.toList.take (n * sz) = vals) (hn : n ≤ cap) (hcap : cap * sz ≤ cur.size) (hp : g.prot b = n * sz) (hbig : cap ≤ big) : Rep g w (.slice (some ⟨b, 0, none⟩) n cap) (.sl (.tip b) n sz row) := by
  have hidx : ∀ i j, i < n → j < sz → i * sz + j < n * sz := fun i j hi hj => by
    have := Nat.mul_le_mul_right sz (show i + 1 ≤ n from hi)
    rw [Nat.add_mul, Nat.one_mul] at this; omega
  have hle : n * sz ≤ cur.size := Nat.le_trans (Nat.mul_le_mul_right sz hn) hcap
  have hcell : ∀ i j, i < n → j < sz → cur[i * sz + j]? = some (cur.getD (i * sz + j) undef) ∧ vals[i * sz + j]? = some (cur.getD (i * sz + j) undef) := fun i j hi hj => by
    have h1 := hidx i j hi hj
    have h2 : i * sz + j < cur.size := by omega
    have e : cur[i * sz + j]? = some (cur.getD (i * sz + j) undef) := by simp [Array.getD, h2]
    refine ⟨e, ?_⟩
    rw [← ht, List.getElem?_take, if_pos h1, Array.getElem?_toList]; exact e
  refine .sl b 0 n cap sz row (.tip b) (fun i j => cur.getD (i * sz + j) undef) h.rlen (fun i j hi hj => ?_) (fun i j hi hj => ?_) (fun i j d hi hd => ?_) (fun i j hi hj => ?_) ⟨rfl, rfl, T, cur.size, ?_, hcap⟩ hn hbig
  · rw [cell_heap hb, Nat.zero_add]; exact (hcell i j hi hj).1
  · rw [hp, Nat.zero_add]; exact hidx i j hi hj
  · have hj : j < sz := by rw [← h.rlen i hi]; exact (List.getElem?_eq_some_iff.1 hd).1
    exact h.rep i j _ d hi hj (hcell i j hi hj).2 hd
  · exact h.one _ (List.mem_of_getElem? (hcell i j hi hj).2)
  · simp [hdr, hb]
end
end Go.DL
namespace Go.DL
open Go
def St.own (s : St) (t : Tok) (k : Nat) : St :=
  match t with
  | .tip b => s.upd b (.tip k)
  | _ => s
def Tok.okIn (t : Tok) (s : St) : Prop :=
  match t with
  | .tip b => s b = Option.none
  | .full => True
  | .none => False
theorem sub_own {s : St} {t : Tok} {k : Nat} (h : t.okIn s) : s.sub (s.own t k) := by
  intro b o ho
  cases t with
  | tip c =>
    simp only [St.own, St.upd]
    by_cases hb : b = c
    · subst hb; simp only [Tok.okIn] at h; rw [h] at ho; simp at ho
    · simp only [hb, if_false]; exact ho
  | _ => exact ho
theorem StOk.upd {g : G} {s : St} {w : World} (h : StOk g s w) {b : Nat} {o : DObj} (ho : ObjOk g w b o) (hk : ¬ g.kept b) : StOk g (s.upd b o) w := {
  obj c x hx := by
    simp only [St.upd] at hx
    by_cases hb : c = b
    · simp only [hb, if_true, Option.some.injEq] at hx; subst hx; rw [hb]; exact ho
    · simp only [hb, if_false] at hx; exact h.obj c x hx
  kept c x hx := by
    simp only [St.upd] at hx
    by_cases hb : c = b
    · rw [hb]; exact hk
    · simp only [hb, if_false] at hx; exact h.kept c x hx
  fresh := h.fresh }
def newG (g : G) (b k : Nat) : G := { g with prot := fun c => if c = b then k else g.prot c }
theorem grow_new {g : G} {w : World} (c : Array Value) (T : TypeId) (k : Nat) (hf : ∀ b, w.heap.size ≤ b → g.prot b = 0 ∧ ¬ g.kept b) : Grow g w (newG g w.heap.size k) (w.drew.alloc (.cells c T)) := {
  size := by simp
  old b hb := (by first | exact heap_alloc_old w.drew _ b hb | exact heap_alloc_old w.drew _ hb)
  prot b hb := by simp [newG, show ¬ b = w.heap.size by omega]
  fresh b hb := by
    have : (w.drew.alloc (.cells c T)).heap.size = w.heap.size + 1 := by simp
    rw [this] at hb
    simp only [newG, show ¬ b = w.heap.size by omega, if_false]
    exact (hf b (by omega)).1
  kept := rfl
  os := rfl
  output := rfl
  tape := rfl }
theorem Rep.slRow {g : G} {w : World} {v : Value} {t : Tok} {n sz : Nat} {row row' : Nat → List D} (h : Rep g w v (.sl t n sz row)) (hr : ∀ i, i < n → row' i = row i) : Rep g w v (.sl t n sz row') := by
  cases h with
  | sl0 a t s row ht => exact .sl0 a t sz row' ht
  | sl b o n cap s row t f hl hc hp hrep one ht hcap hb =>
    exact .sl b o n cap sz row' t f (fun i hi => by rw [hr i hi]; exact hl i hi) hc hp (fun i j d hi hd => hrep i j d hi (by rw [← hr i hi]; exact hd)) one ht hcap hb
section
variable {P : Program}
theorem app_new {g : G} {w : World} {s : St} {sz k : Nat} {vals rest : List Value} {row : Nat → List D} {T : TypeId} {cap : Nat} (hs : StOk g s w) (hr : RowsRep g w sz k vals row) (hn : k ≤ cap) (hrest : vals.length + rest.length = cap * sz) (hbig : cap ≤ big) :
    let w' := w.drew.alloc (.cells (vals ++ rest).toArray T)
    let g' := newG g w.heap.size (k * sz)
    Grow g w g' w' ∧ StOk g' (s.own (.tip w.heap.size) (k * sz)) w' ∧ (Tok.tip w.heap.size).okIn s ∧ Rep g' w' (.slice (some ⟨w.heap.size, 0, none⟩) k cap) (.sl (.tip w.heap.size) k sz row) := by
  intro w' g'
  have hg : Grow g w g' w' := grow_new _ T _ hs.fresh
  have hnew : w'.heap[w.heap.size]? = some (.cells (vals ++ rest).toArray T (0, 0)) := heap_alloc_new w.drew _
  have hp : g'.prot w.heap.size = k * sz := by simp [g', newG]
  have hle : k * sz ≤ (vals ++ rest).toArray.size := by
    have := Nat.mul_le_mul_right sz hn
    simp only [List.size_toArray, List.length_append]; omega
  refine ⟨hg, (hs.grow hg).upd ⟨hp, _, T, hnew, hle⟩ (fun h => (hs.fresh _ (Nat.le_refl _)).2 h), ?_, ?_⟩
  · simp only [Tok.okIn]
    cases hsb : s w.heap.size with
    | none => rfl
    | some o => have := (hs.obj _ o hsb).lt; omega
  · refine sl_of_rows (hr.mono (hg.ext hs.fresh)) hnew ?_ hn ?_ hp hbig
    · rw [← hr.len]; simp
    · simp only [List.size_toArray, List.length_append]; omega
theorem app_ok {g : G} {w : World} {s : St} {t : Tok} {sz n m : Nat} {v1 v2 : Value} {row row2 : Nat → List D} {tT u ty e : TypeId} {tu : TypeDesc} {i : TypeInfo} {z : Value} (ht : P.underlying tT = some (.slice e)) (hu : P.underlying u = some tu) (hnu : ∀ k, tu ≠ .int k)
    (hi : P.info? e = some i) (hz : i.zero = some z) (hsz : i.size = sz) (hzc : z.cells.size = sz) (h0 : 0 < sz) (hs : StOk g (s.own t (n * sz)) w) (hok : t.okIn s) (h1 : Rep g w v1 (.sl t n sz row)) {news : List Value}
    (h2 : RowsRep g w sz m news row2) (h3 : NewsOk P w sz m v2 news) (hb : (n + m) * i.bytes ≤ 140737488355328) (hbig : n + m ≤ big) :
    ∃ v' w' g' t', (Builtin.append_ #[tT, u] ty #[v1, v2]).run P w = .ok v' w' ∧ Ext g w g' w' ∧ StOk g' (s.own t' ((n + m) * sz)) w' ∧ t'.okIn s ∧ Rep g' w' v' (.sl t' (n + m) sz (appRow n row row2)) ∧
      (∀ b, b < w.heap.size → t ≠ .tip b → w'.heap[b]? = w.heap[b]? ∧ g'.prot b = g.prot b) ∧ ∀ b, t' = .tip b → t = .tip b ∨ w.heap.size ≤ b := by
  subst hsz
  have hs0 : StOk g s w := hs.sub (sub_own hok)
  obtain ⟨olds, hr1, ho1, ho2⟩ := rows_of_sl (P := P) h1 h0
  have hrr := hr1.append h2
  have grown : ∀ base cap, v1 = .slice base n cap → cap < n + m → ∃ v' w' g' t', (Builtin.append_ #[tT, u] ty #[v1, v2]).run P w = .ok v' w' ∧ Ext g w g' w' ∧ StOk g' (s.own t' ((n + m) * i.size)) w' ∧ t'.okIn s ∧
      Rep g' w' v' (.sl t' (n + m) i.size (appRow n row row2)) ∧ (∀ b, b < w.heap.size → t ≠ .tip b → w'.heap[b]? = w.heap[b]? ∧ g'.prot b = g.prot b) ∧ ∀ b, t' = .tip b → t = .tip b ∨ w.heap.size ≤ b := by
    intro base cap hv hlt
    subst hv
    have hrun := app_grow (ty := ty) ht hu hnu hi hz h3 ho2 hlt (by simp only [big] at hbig; omega) hb
    have hge := grownCap_ge w (n + m) cap e
    have hle := grownCap_le_maxLen w (n + m) cap e (by simp only [big] at hbig; simp only [maxLen]; omega)
    have hn := app_new (T := e) (rest := (Builtin.zeroCells z.cells (grownCap w (n + m) cap e - (n + m))).toList) hs0 hrr hge (by
      simp only [Array.length_toList, size_zeroCells, hzc, hrr.len, ← Nat.add_mul]; congr 1; omega) (by simp only [maxLen] at hle; simp only [big]; omega)
    obtain ⟨a1, a2, a3, a4⟩ := hn
    exact ⟨_, _, _, _, hrun, a1.ext hs0.fresh, a2, a3, a4, fun b hb _ => ⟨a1.old b hb, a1.prot b hb⟩, fun b hb => .inr (by simp only [Tok.tip.injEq] at hb; omega)⟩
  have stay : ∀ base cap, v1 = .slice base n cap → m = 0 → n ≤ cap → ∃ v' w' g' t', (Builtin.append_ #[tT, u] ty #[v1, v2]).run P w = .ok v' w' ∧ Ext g w g' w' ∧ StOk g' (s.own t' ((n + m) * i.size)) w' ∧ t'.okIn s ∧
      Rep g' w' v' (.sl t' (n + m) i.size (appRow n row row2)) ∧ (∀ b, b < w.heap.size → t ≠ .tip b → w'.heap[b]? = w.heap[b]? ∧ g'.prot b = g.prot b) ∧ ∀ b, t' = .tip b → t = .tip b ∨ w.heap.size ≤ b := by
    intro base cap hv hm hle
    subst hv; subst hm
    have hne : news = [] := List.eq_nil_of_length_eq_zero (by simpa using h2.len)
    subst hne
    exact ⟨_, _, g, t, app_room0 (ty := ty) ht hu hnu hi h3 hle, Ext.refl g w, hs, hok, h1.slRow fun i hi => by simp only [appRow, if_pos (show i < n from hi)], fun _ _ _ => ⟨rfl, rfl⟩, fun b hb => .inl hb⟩
  cases h1 with
  | sl0 a t s row htt =>
    by_cases hm : m = 0
    · exact stay a 0 rfl hm (Nat.le_refl _)
    · exact grown a 0 rfl (by omega)
  | sl b o n cap sz row t f hl hc hp hr one htok hcap hb' =>
    have hgr := grown (some ⟨b, o, none⟩) cap rfl
    have hst := stay (some ⟨b, o, none⟩) cap rfl
    by_cases hm : m = 0
    · exact hst hm hcap
    by_cases hroom : n + m ≤ cap
    case neg => exact hgr (by omega)
    cases t with
    | none => exact hok.elim
    | full => simp only [TokOk] at htok; omega
    | tip tb =>
      obtain ⟨rfl, rfl, T0, m0, hh, hm0⟩ := htok
      have hobj := hs.obj b (.tip (n * i.size)) (by simp [St.own, St.upd])
      have hkept := hs.kept b (.tip (n * i.size)) (by simp [St.own, St.upd])
      obtain ⟨hp0, cur, T, hb1, hb2⟩ := hobj
      have hcs : cap * i.size ≤ cur.size := by
        simp only [hdr, hb1, Option.some.injEq, Prod.mk.injEq] at hh
        omega
      have hfit : n * i.size + news.length ≤ cur.size := by
        rw [h2.len, ← Nat.add_mul]; exact Nat.le_trans (Nat.mul_le_mul_right _ hroom) hcs
      have hrun := app_room (ty := ty) ht hu hnu hi h3 hb1 (fun v hv => by rw [one1_eq]; exact h2.one v hv) hroom hfit
      have hcells : ∀ k v, (cur.toList.take (n * i.size))[k]? = some v → w.cell? ((⟨b, 0, none⟩ : Addr).add k) = some v := fun k v hv => by
        rw [addr_add, cell_heap hb1, Nat.zero_add]
        rw [List.getElem?_take] at hv
        split at hv
        · simpa using hv
        · simp at hv
      have hol : olds = cur.toList.take (n * i.size) := by
        have h := run_firstCells_some (P := P) w i.size n ⟨b, 0, none⟩ n cap (cur.toList.take (n * i.size)) (by simp; omega) hcells
        rw [ho2 w rfl] at h
        simpa using h
      generalize hnw : cur.toList.take (n * i.size) ++ news ++ cur.toList.drop (n * i.size + news.length) = nw at hrun
      have hnl : nw.length = cur.size := by
        rw [← hnw]; simp only [List.length_append, List.length_take, List.length_drop, Array.length_toList]; omega
      have hh' := setRow_heap w b cur nw.toArray T (0, 0) hb1
      have ho' : ∀ c, c ≠ b → (w.setRow b nw.toArray).heap[c]? = w.heap[c]? := fun c hc => setRow_other w b c _ hc
      have hsz' : (w.setRow b nw.toArray).heap.size = w.heap.size := by simp [World.setRow]
      have hk2 : n * i.size ≤ (n + m) * i.size := Nat.mul_le_mul_right _ (by omega)
      have hext : Ext g w (newG g b ((n + m) * i.size)) (w.setRow b nw.toArray) := by
        refine ⟨by omega, fun c => ?_, fun c o ho => ?_, fun c x hx => ?_, fun c hc => ho' c (fun h => hkept (h ▸ hc)), fun c hc => ?_, rfl, rfl, rfl, rfl⟩
        · simp only [newG]
          split
          · rename_i h; rw [h, hp0]; exact hk2
          · exact Nat.le_refl _
        · by_cases hc : c = b
          · subst hc
            rw [cell_heap hh', cell_heap hb1]
            rw [hp0] at ho
            have : o < (cur.toList.take (n * i.size)).length := by simp; omega
            rw [List.getElem?_toArray, ← hnw, List.append_assoc, List.getElem?_append_left this, List.getElem?_take, if_pos ho]
            simp
          · exact cell_of_heap (ho' c hc)
        · by_cases hc : c = b
          · subst hc
            simp only [hdr, hb1] at hx
            simp only [hdr, hh', List.size_toArray, hnl]; exact hx
          · rw [hdr_of_heap (ho' c hc)]; exact hx
        · simp only [newG]
          split
          · rename_i h; exact absurd hc (h ▸ hkept)
          · rfl
      have hp' : (newG g b ((n + m) * i.size)).prot b = (n + m) * i.size := by simp [newG]
      refine ⟨_, _, newG g b ((n + m) * i.size), .tip b, hrun, hext, ?_, hok, ?_, fun c _ hc => ?_, fun c hc => .inl hc⟩
      · refine ⟨fun c x hx => ?_, fun c x hx => ?_, fun c hc => ?_⟩
        · by_cases hc : c = b
          · subst hc
            simp only [St.own, St.upd, if_true, Option.some.injEq] at hx
            subst hx
            refine ⟨hp', _, T, hh', ?_⟩
            simp only [List.size_toArray, hnl]
            exact Nat.le_trans (Nat.mul_le_mul_right _ hroom) hcs
          · simp only [St.own, St.upd, hc, if_false] at hx
            exact (hs0.obj c x hx).mono hext (ho' c hc) (by simp [newG, hc])
        · by_cases hc : c = b
          · rw [hc]; exact hkept
          · simp only [St.own, St.upd, hc, if_false] at hx
            exact hs0.kept c x hx
        · rw [hsz'] at hc
          have hbl : b < w.heap.size := (Array.getElem?_eq_some_iff.1 hb1).1
          simp only [newG, show ¬ c = b by omega, if_false]
          exact hs0.fresh c hc
      · refine sl_of_rows (hrr.mono hext) hh' ?_ hroom (by simp only [List.size_toArray, hnl]; exact hcs) hp' hb'
        have hl2 : (olds ++ news).length = (n + m) * i.size := hrr.len
        rw [← hnw, hol, ← hl2, hol]
        exact List.take_left
      · have : c ≠ b := fun h => hc (by rw [h])
        exact ⟨ho' c this, by simp [newG, this]⟩
end
end Go.DL
namespace Go.DL
open Go Go.Lib
def elemsD (s : Nat) : D → Option (Nat × (Nat → List D))
  | .nilsl => some (0, fun _ => [])
  | .sl _ m s' row => if s' = s then some (m, row) else none
  | .str l => if s = 1 then some (l.length, fun i => [.int .u8 ((l.getD i 0).toNat : Int)]) else none
  | _ => none
def asSl (s : Nat) : D → Option (Tok × Nat × (Nat → List D))
  | .nilsl => some (.full, 0, fun _ => [])
  | .sl t n s' row => if s' = s then some (t, n, row) else none
  | _ => none
theorem asSl_ok {g : G} {w : World} {v : Value} {d : D} {sz n : Nat} {t : Tok} {row : Nat → List D} (h : Rep g w v d) (he : asSl sz d = some (t, n, row)) : Rep g w v (.sl t n sz row) := by
  cases d <;> simp only [asSl, reduceCtorEq] at he
  · simp only [Option.some.injEq, Prod.mk.injEq] at he
    obtain ⟨rfl, rfl, rfl⟩ := he
    cases h
    exact .sl0 _ _ _ _ (by simp)
  · split at he <;> simp only [Option.some.injEq, Prod.mk.injEq, reduceCtorEq] at he
    rename_i hs
    obtain ⟨rfl, rfl, rfl⟩ := he
    subst hs; exact h
section
variable {P : Program}
theorem ck_append {op : Op} {e s b : Nat} {z : List D} {x y : Opd} (h : ck P op = some (.append e s b z x y)) :
    ∃ x' y' args ats t1 t2 tu, op = .call ⟨.builtin .append, args, ats⟩ ∧ args.toList = [x', y'] ∧ ats[0]? = some t1 ∧ ats[1]? = some t2 ∧ P.underlying t1 = some (.slice e) ∧ P.underlying t2 = some tu ∧ (∀ k, tu ≠ .int k) ∧
      sizeT P e = some s ∧ zeroT P e = some z ∧ b = P.bytesOf e ∧ cOpd x' = some x ∧ cOpd y' = some y ∧ 0 < s ∧ z.length = s := by
  unfold ck at h
  split at h
  · simp at h
  · split at h <;> (try (simp at h; done))
    all_goals (try (repeat' (split at h <;> (try (simp at h; done)))))
    all_goals
      simp only [Option.some.injEq, K.append.injEq] at h
      obtain ⟨rfl, rfl, rfl, rfl, rfl, rfl⟩ := h
    · rename_i c _ _ hcal _ _ _ e' x' y' h0 hargs _ _ _ _ s' z' l' c' hs' hz' hx' hy' t2 el h1 hdec
      obtain ⟨t1, g1, g2⟩ := Option.bind_eq_some_iff.1 h0
      obtain ⟨t3, g3, g4⟩ := Option.bind_eq_some_iff.1 h1
      simp only [Bool.and_eq_true, decide_eq_true_eq] at hdec
      obtain ⟨callee, args, ats⟩ := c
      simp only at hcal
      subst hcal
      exact ⟨x', y', args, ats, t1, t3, _, rfl, hargs, g1, g3, g2, g4, fun k h => by simp at h, hs', hz', rfl, hx', hy', hdec.1, hdec.2⟩
    · rename_i c _ _ hcal _ _ _ e' x' y' h0 hargs _ _ _ _ s' z' l' c' hs' hz' hx' hy' t2 h1 hdec
      obtain ⟨t1, g1, g2⟩ := Option.bind_eq_some_iff.1 h0
      obtain ⟨t3, g3, g4⟩ := Option.bind_eq_some_iff.1 h1
      simp only [Bool.and_eq_true, decide_eq_true_eq] at hdec
      obtain ⟨callee, args, ats⟩ := c
      simp only at hcal
      subst hcal
      exact ⟨x', y', args, ats, t1, t3, _, rfl, hargs, g1, g3, g2, g4, fun k h => by simp at h, hs', hz', rfl, hx', hy', hdec.1, hdec.2⟩
theorem elems_ok {g : G} {w : World} {v : Value} {d : D} {sz m : Nat} {row : Nat → List D} (h : Rep g w v d) (he : elemsD sz d = some (m, row)) (h0 : 0 < sz) : ∃ news, RowsRep g w sz m news row ∧ NewsOk P w sz m v news := by
  cases d with
  | nilsl =>
    simp only [elemsD, Option.some.injEq, Prod.mk.injEq] at he
    obtain ⟨rfl, rfl⟩ := he
    cases h
    exact ⟨[], ⟨by simp, fun i hi => by omega, fun i j v d hi => by omega, by simp⟩, fun w2 => by simp [Builtin.lenOf], fun w2 _ => by simp [Builtin.firstCells]⟩
  | sl t n s' row' =>
    simp only [elemsD] at he
    split at he <;> simp only [Option.some.injEq, Prod.mk.injEq, reduceCtorEq] at he
    rename_i hs
    obtain ⟨rfl, rfl⟩ := he
    subst hs
    exact rows_of_sl h h0
  | str l =>
    simp only [elemsD] at he
    split at he <;> simp only [Option.some.injEq, Prod.mk.injEq, reduceCtorEq] at he
    rename_i hs
    obtain ⟨rfl, rfl⟩ := he
    subst hs
    cases h with
    | str s _ hl hb =>
      subst hl
      have hsz : s.size = s.data.toList.length := by rw [Array.length_toList]; rfl
      refine ⟨strCells s, ⟨by simp [strCells], fun i hi => rfl, fun i j v d hi hj hv hd => ?_, fun v hv => by rw [← one1_eq]; exact strCells_oneCell s v hv⟩, fun w2 => by simp only [Builtin.lenOf, Sem.run_pure, hsz], fun w2 _ => ?_⟩
      · obtain rfl : j = 0 := by omega
        simp only [Nat.mul_one, Nat.add_zero, strCells, List.getElem?_map, Option.map_eq_some_iff] at hv
        obtain ⟨b, hb1, rfl⟩ := hv
        simp only [List.getElem?_cons_zero, Option.some.injEq] at hd
        subst hd
        have : s.data.toList.getD i 0 = b := by simp only [List.getD, hb1, Option.getD_some]
        rw [this]
        exact .int .u8 _ (inR_u8 b)
      · rw [← hsz]; exact run_firstCells_string w2 1 s
  | _ => simp [elemsD] at he
end
end Go.DL
namespace Go.DL
open Go
def unfl (os : List DOp) : List (DOp × List Nat) := os.map fun o => (o, [])
section
variable {P : Program}
end
end Go.DL
namespace Go.DL
open Go
def exposeE (l b : Nat) : E → E
  | .d v => .d v
  | .loc l' off => if l' = l then .d (.ptr b off) else .loc l' off
  | .when c e => .when c (exposeE l b e)
def exposeEnv (l b : Nat) : Env → Env
  | [] => []
  | (t, e) :: r => (t, exposeE l b e) :: exposeEnv l b r
def delL (l : Nat) : Loc → Loc
  | [] => []
  | (k, c) :: r => if k = l then delL l r else (k, c) :: delL l r
theorem getE_expose (l b : Nat) : ∀ (ρ : Env) (t : Nat), getE (exposeEnv l b ρ) t = (getE ρ t).map (exposeE l b)
  | [], t => rfl
  | (k, e) :: r, t => by
    simp only [exposeEnv, getE]
    by_cases h : k = t
    · simp [h]
    · simp only [h, if_false]; exact getE_expose l b r t
theorem getL_del (l : Nat) : ∀ (L : Loc) (x : Nat), getL (delL l L) x = if x = l then none else getL L x
  | [], x => by simp [delL, getL]
  | (k, c) :: r, x => by
    simp only [delL]
    by_cases h : k = l
    · simp only [h, if_true, getL, getL_del l r x]
      by_cases hx : x = l
      · simp [hx]
      · simp [hx, show ¬ l = x from fun h => hx h.symm]
    · simp only [h, if_false, getL, getL_del l r x]
      by_cases hx : x = l
      · subst hx; simp [h]
      · simp [hx]
section
variable {P : Program}
theorem RepE.expose {g : G} {ν : Nat → Nat} {w : World} {L : Loc} {l : Nat} {v : Value} {e : E} (h : RepE g ν w L v e) : RepE g ν w (delL l L) v (exposeE l (ν l) e) := by
  induction e with
  | d x => exact h
  | loc l' off =>
    obtain ⟨⟨cs, hcs⟩, rfl⟩ := h
    simp only [exposeE]
    split
    · rename_i hl; subst hl; exact Rep.ptr _ _
    · rename_i hl; exact ⟨⟨cs, by rw [getL_del, if_neg hl]; exact hcs⟩, rfl⟩
  | when c e ih => exact ⟨fun hc => ih (h.1 hc), h.2⟩
theorem Models.expose {g : G} {ν : Nat → Nat} {w : World} {tmps : Array Value} {ρ : Env} {L : Loc} {s : St} (m : Models g ν w tmps ρ L s) {l : Nat} {cs : List D} (hl : getL L l = some cs) :
    s (ν l) = none ∧ Models g ν w tmps (exposeEnv l (ν l) ρ) (delL l L) (s.upd (ν l) (.cells cs)) := by
  have hsub : ∀ l' cs', getL (delL l L) l' = some cs' → l' ≠ l ∧ getL L l' = some cs' := fun l' cs' h => by
    rw [getL_del] at h
    split at h
    · simp at h
    · exact ⟨‹_›, h⟩
  refine ⟨m.locSt l cs hl, ⟨m.st.updL (o := .cells cs) (m.loc l cs hl) (m.locKept l cs hl), fun l' cs' h => m.loc l' cs' (hsub l' cs' h).2, fun l' cs' h => m.locKept l' cs' (hsub l' cs' h).2, fun l' cs' h => ?_, fun a b ca cb ha hb hab => m.inj a b ca cb (hsub a ca ha).2 (hsub b cb hb).2 hab, fun t e he => ?_⟩⟩
  · obtain ⟨h1, h2⟩ := hsub l' cs' h
    have : ν l' ≠ ν l := fun hh => h1 (m.inj l' l cs' cs h2 hl hh)
    simp only [St.upd, this, if_false]; exact m.locSt l' cs' h2
  · rw [getE_expose] at he
    simp only [Option.map_eq_some_iff] at he
    obtain ⟨e0, h1, rfl⟩ := he
    exact (m.env t e0 h1).expose
theorem DRun_expose {F : Fr P} {dk : List DItem} {ρ : Env} {L : Loc} {s : St} (l : Nat) {cs : List D} (hl : getL L l = some cs) (h : ∀ b, s b = none → DRun F dk (exposeEnv l b ρ) (delL l L) (s.upd b (.cells cs))) : DRun F dk ρ L s := by
  intro k hk g ν w tmps hN m
  obtain ⟨h1, h2⟩ := m.expose hl
  exact h (ν l) h1 k hk g ν w tmps hN h2
def putArgs : List Nat → List D → Env → Env
  | t :: ts, a :: as9, ρ => putArgs ts as9 ((t, .d a) :: ρ)
  | _, _, ρ => ρ
def roundGoal (P : Program) (c : Frame) (cs : List Frame) (Φ : Res → St → Prop) : Goal P where
  T g w m := ∃ e w', PostOk g w Φ e w' ∧ Back P m c cs e w'
  back g w m m' hs h := by
    obtain ⟨e, w', a, b⟩ := h
    refine ⟨e, w', a, ?_⟩
    cases e with
    | returned v => exact Steps.trans hs b
    | panicked ch => exact Steps.trans hs b
    | outgrown => exact b.elim
  ext g w g' w' m hx h := by
    obtain ⟨e, w2, ⟨g2, s2, r, d1, d2, d3, d4⟩, b⟩ := h
    exact ⟨e, w2, ⟨g2, s2, r, hx.trans d1, d2, d3, d4⟩, b⟩
def roundFr (P : Program) (an : Ann) (fn : FuncId) (N l : Nat) (c : Frame) (cs : List Frame) (Φ : Res → St → Prop) : Fr P where
  T := roundGoal P c cs Φ
  b := { (default : Frame) with fn, kind := .normal, roundOf := some l }
  cs := c :: cs
  N := N
  ds := []
  an := an
def IsRound (F : Fr P) (l : Nat) (Φ : Res → St → Prop) : Prop := ∃ an fn N c cs, F = roundFr P an fn N l c cs Φ
theorem run_getObj_loop {w : World} {r : Nat} {o : Go.Loop} (hb : w.heap[r]? = some (.loop o)) : (getObj r).run P w = .ok (.loop o) w := by
  simp [getObj, Sem.run, hb]
theorem run_setObj_loop {w : World} {r : Nat} {o : Obj} {o' : Go.Loop} (hb : w.heap[r]? = some (.loop o')) : (setObj r o).run P w = .ok () { w with heap := w.heap.setIfInBounds r o } := by
  simp [setObj, Sem.run, hb]
theorem set_at {w : World} {b : Nat} {o' : Obj} (o : Obj) (hb : w.heap[b]? = some o') : ({ w with heap := w.heap.setIfInBounds b o } : World).heap[b]? = some o := by
  have := (Array.getElem?_eq_some_iff.1 hb).1
  simp [Array.getElem?_setIfInBounds, this]
theorem Models.loopTo {g : G} {ν : Nat → Nat} {w : World} {tmps : Array Value} {ρ : Env} {L : Loc} {s : St} (m : Models g ν w tmps ρ L s) {l : Nat} {r : LoopRec} {st st' : LSt} (hs : s l = some (.loop r st)) {lp : Go.Loop} (hh : w.heap[l]? = some (.loop lp))
    (lp' : Go.Loop) (h1 : lp'.fn = lp.fn ∧ lp'.params = lp.params ∧ lp'.assign = lp.assign ∧ lp'.body = lp.body ∧ lp'.defers = lp.defers ∧ lp'.tmps = lp.tmps)
    (h2 : match st' with | .ready => lp'.state = .ready ∧ lp'.pending = none | .busy => lp'.state = .busy | .done j => lp'.state = .done ∧ lp'.pending = some j) :
    Ext g w g { w with heap := w.heap.setIfInBounds l (.loop lp') } ∧ Models g ν { w with heap := w.heap.setIfInBounds l (.loop lp') } tmps ρ L (s.upd l (.loop r st')) := by
  obtain ⟨hp, l0, a1, a2, a3, a4, a5, a6, a7, a8, a9⟩ := m.st.obj l _ hs
  rw [hh] at a1
  simp only [Option.some.injEq, Obj.loop.injEq] at a1
  subst a1
  obtain ⟨b1, b2, b3, b4, b5, b6⟩ := h1
  have he := ext_setOther (g := g) (w := w) l (.loop lp') (by simp [hdr, hh]) hp (m.st.kept l _ hs)
  refine ⟨he, m.named hs he (by simp) (fun c hc => setMap_other _ hc) ⟨hp, lp', set_at _ hh, by rw [b1, a2], by rw [b2, a3], by rw [b3, a4], by rw [b4, a5], by rw [b5, a6], by rw [b6]; exact a7, fun t e ht => by rw [b6]; exact (a8 t e ht).mono he, h2⟩⟩
theorem IsRound.begin {F : Fr P} {l : Nat} {Φ : Res → St → Prop} (hF : IsRound F l Φ) {dk : List DItem} {ρ : Env} {L : Loc} {s : St} {r : LoopRec} (hs : s l = some (.loop r .ready)) (h : DRun F dk ρ L (s.upd l (.loop r .busy))) : DRun F (.beginR :: dk) ρ L s := by
  obtain ⟨an, fn, N, c, cs, rfl⟩ := hF
  intro k hk
  cases hk with
  | beginR ht =>
    intro g ν w tmps hN m
    obtain ⟨hp, l0, a1, a2, a3, a4, a5, a6, a7, a8, a9, a10⟩ := m.st.obj l _ hs
    obtain ⟨he, m'⟩ := m.loopTo (st' := .busy) hs a1 { l0 with state := .busy } ⟨rfl, rfl, rfl, rfl, rfl, rfl⟩ rfl
    have hrun : (Instr.beginRound l).run P w = .ok () { w with heap := w.heap.setIfInBounds l (.loop { l0 with state := .busy }) } := by
      simp [Instr.beginRound, Instr.getLoop, run_getObj_loop a1, run_setObj_loop a1, a9]
    refine (roundGoal P c cs Φ).back _ _ _ _ (.one (stepR_beginRound rfl hrun)) ?_
    exact (roundGoal P c cs Φ).ext _ _ _ _ _ he (h _ ht g ν _ tmps hN m')
theorem endRound_run {w : World} {l : Nat} {l0 : Go.Loop} (h : w.heap[l]? = some (.loop l0)) (j : Option Code) :
    (Instr.endRound l j).run P w = .ok (.bool j.isNone) { w with heap := w.heap.setIfInBounds l (.loop { l0 with state := if j.isNone then .ready else .done, pending := j }) } := by
  simp [Instr.endRound, Instr.getLoop, run_getObj_loop h, run_setObj_loop h]
theorem IsRound.fin {F : Fr P} {l : Nat} {Φ : Res → St → Prop} (hF : IsRound F l Φ) {ρ : Env} {L : Loc} {s s' : St} {r : LoopRec} (hs : s l = some (.loop r .busy)) (hsub : s'.sub (s.upd l (.loop r .ready))) (hΦ : Φ (.ret (.bool true)) s') : DRun F [] ρ L s := by
  obtain ⟨an, fn, N, c, cs, rfl⟩ := hF
  intro k hk
  cases hk
  intro g ν w tmps hN m
  obtain ⟨hp, l0, a1, _⟩ := m.st.obj l _ hs
  obtain ⟨he, m'⟩ := m.loopTo (st' := .ready) hs a1 { l0 with state := .ready, pending := none } ⟨rfl, rfl, rfl, rfl, rfl, rfl⟩ ⟨rfl, rfl⟩
  exact ⟨.returned (.bool true), _, ⟨g, s', .ret (.bool true), he, m'.st.sub hsub, .bool true, hΦ⟩, .one (stepR_round_end rfl rfl (endRound_run a1 none))⟩
theorem IsRound.ret {F : Fr P} {l : Nat} {Φ : Res → St → Prop} (hF : IsRound F l Φ) {dk : List DItem} {ρ : Env} {L : Loc} {s s' : St} {r : LoopRec} (hs : s l = some (.loop r .busy)) (hsub : s'.sub (s.upd l (.loop r (.done .ret)))) (hΦ : Φ (.ret (.bool false)) s') :
    DRun F (.code .ret :: dk) ρ L s := by
  obtain ⟨an, fn, N, c, cs, rfl⟩ := hF
  intro k hk
  cases hk with
  | code hc ht =>
    obtain rfl := cc_ret hc
    intro g ν w tmps hN m
    obtain ⟨hp, l0, a1, _⟩ := m.st.obj l _ hs
    obtain ⟨he, m'⟩ := m.loopTo (st' := .done .ret) hs a1 { l0 with state := .done, pending := some .ret } ⟨rfl, rfl, rfl, rfl, rfl, rfl⟩ ⟨rfl, rfl⟩
    exact ⟨.returned (.bool false), _, ⟨g, s', .ret (.bool false), he, m'.st.sub hsub, .bool false, hΦ⟩, .one (stepR_round_ret rfl rfl (endRound_run a1 (some .ret)))⟩
theorem IsRound.exit {F : Fr P} {l id : Nat} {Φ : Res → St → Prop} (hF : IsRound F l Φ) {dk : List DItem} {ρ : Env} {L : Loc} {s s' : St} {r : LoopRec} (hx : exitD id dk = none) (hs : s l = some (.loop r .busy)) (hsub : s'.sub (s.upd l (.loop r (.done (.exit id)))))
    (hΦ : Φ (.ret (.bool false)) s') : DRun F (.code (.exit id) :: dk) ρ L s := by
  obtain ⟨an, fn, N, c, cs, rfl⟩ := hF
  intro k hk
  cases hk with
  | code hc ht =>
    obtain rfl := cc_exit hc
    intro g ν w tmps hN m
    obtain ⟨hp, l0, a1, _⟩ := m.st.obj l _ hs
    obtain ⟨he, m'⟩ := m.loopTo (st' := .done (.exit id)) hs a1 { l0 with state := .done, pending := some (.exit id) } ⟨rfl, rfl, rfl, rfl, rfl, rfl⟩ ⟨rfl, rfl⟩
    exact ⟨.returned (.bool false), _, ⟨g, s', .ret (.bool false), he, m'.st.sub hsub, .bool false, hΦ⟩, .one (stepR_round_exit rfl rfl (exitD_none ht hx) (endRound_run a1 (some (.exit id))))⟩
theorem IsRound.pan {F : Fr P} {l : Nat} {Φ : Res → St → Prop} (hF : IsRound F l Φ) {ρ : Env} {L : Loc} {d : D} {s s' : St} (hsub : s'.sub s) (hΦ : Φ (.panic d) s') (hfn : ∀ an fn N c cs, F = roundFr P an fn N l c cs Φ → ∃ f, P.funcs[fn]? = some f) : Panics F ρ L d s := by
  obtain ⟨an, fn, N, c, cs, rfl⟩ := hF
  intro g ν w v todo tmps hN m hr
  obtain ⟨f, hf⟩ := hfn an fn N c cs rfl
  refine ⟨.panicked [{ v, recovered := false }], w, ⟨g, s', .panic d, Ext.refl g w, m.st.sub hsub, ⟨v, rfl, hr⟩, hΦ⟩, .one ?_⟩
  exact step_leave_panicked (P := P) (fr := { (roundFr P an fn N l c cs Φ).b.atR ⟨tmps, []⟩ todo with mode := .panicking [{ v, recovered := false }] }) ⟨rfl, rfl, f, hf⟩
theorem putArgs_ok {g : G} {ν : Nat → Nat} {w : World} {L : Loc} {s : St} {N : Nat} : ∀ {ps : List Nat} {ds : List D} {vs : List Value} {tmps : Array Value} {ρ : Env}, Models g ν w tmps ρ L s → All2 (Rep g w) vs ds → ds.length = ps.length → (∀ t ∈ ps, t < N) → N ≤ tmps.size →
    N ≤ ((ps.zip vs).foldl (fun tmps (x : Nat × Value) => tmps.setIfInBounds x.1 x.2) tmps).size ∧ Models g ν w ((ps.zip vs).foldl (fun tmps (x : Nat × Value) => tmps.setIfInBounds x.1 x.2) tmps) (putArgs ps ds ρ) L s
  | [], _, _, tmps, ρ, m, _, _, _, hN => by simpa [putArgs] using ⟨hN, m⟩
  | t :: ps, [], _, tmps, ρ, m, _, hl, _, _ => by simp at hl
  | t :: ps, d :: ds, v :: vs, tmps, ρ, m, .cons h1 h2, hl, hp, hN => by
    have m' := m.put (t := t) (v := v) (e := .d d) (by have := hp t (by simp); omega) h1
    simpa [putArgs] using putArgs_ok m' h2 (by simpa using hl) (fun u hu => hp u (by simp [hu])) (by simpa using hN)
def noLoc : Env → Env
  | [] => []
  | (t, e) :: r => if (locsE e).isEmpty then (t, e) :: noLoc r else noLoc r
def roundEnv (ks : List Nat) (ρ : Env) : Env := noLoc (keepE ρ ks)
theorem getE_noLoc : ∀ {ρ : Env} {t : Nat} {e : E}, (ρ.map (·.1)).Nodup → getE (noLoc ρ) t = some e → getE ρ t = some e ∧ locsE e = []
  | [], t, e, _, h => by simp [noLoc, getE] at h
  | (k, x) :: r, t, e, hn, h => by
    simp only [List.map_cons, List.nodup_cons] at hn
    simp only [noLoc] at h
    split at h
    · rename_i hx
      simp only [getE] at h ⊢
      by_cases hk : k = t
      · simp only [hk, if_true, Option.some.injEq] at h ⊢; subst h; exact ⟨rfl, by simpa using hx⟩
      · simp only [hk, if_false] at h ⊢; exact getE_noLoc hn.2 h
    · obtain ⟨h1, h2⟩ := getE_noLoc hn.2 h
      refine ⟨?_, h2⟩
      have hkt : k ≠ t := fun hk => by
        subst hk
        have := mem_of_getE h1
        exact hn.1 (List.mem_map.2 ⟨_, this, rfl⟩)
      simp only [getE, hkt, if_false]; exact h1
theorem repE_noLoc {g : G} {ν ν' : Nat → Nat} {w : World} {L L' : Loc} {v : Value} {e : E} (h : RepE g ν w L v e) (hl : locsE e = []) : RepE g ν' w L' v e := by
  induction e with
  | d x => exact h
  | loc l o => simp [locsE] at hl
  | when c e ih => exact ⟨fun hc => ih (h.1 hc) hl, h.2⟩
def Fr.mark (F : Fr P) (q : Nat) : Fr P := { F with ds := DD.def (.mark q) :: F.ds }
theorem step_rangeFunc {b : Frame} {a : Act} {k : List Item} {cs : List Frame} {w : World} {g : Operand} {ps : Array Tmp} {assign body : Code} {l : Nat} {mark : List Deferred} {w₁ : World} {d : Deferred} {nx : Next} {fr : Frame}
    (he : (Instr.enterLoop b.fn a.tmps ps assign body b.roundOf).run P w = .ok (l, mark) w₁)
    (hres : (Deferred.ofValue (a.eval g) #[.func (.yield l) #[] #[]]).run P w₁ = .ok d w₁) (hinv : (invoke d.target d.args).run P w₁ = .ok nx w₁) (hnx : nextFrame P nx = some fr) :
    step P (lone (b.atR a (.code (.rangeFunc g ps assign body) :: k)) cs w) =
      .next (lone fr (b.atR { a with defers := mark ++ a.defers } (.inRangeFunc l :: k) :: cs) w₁) :=
  step_lone_go (by
    have hev := Frame.eval_atR b { a with defers := mark ++ a.defers } (.inRangeFunc l :: k)
    simp only [Frame.atR] at hev
    have hres' : Sem.run P (resolve ({ tmps := a.tmps, defers := mark ++ a.defers } : Act).eval { callee := .value g, args := #[.const (.func (.yield l) #[] #[])], argTypes := #[] } 0) w₁ = .ok d w₁ := by
      simp only [resolve]
      have e1 : ({ tmps := a.tmps, defers := mark ++ a.defers } : Act).eval g = a.eval g := by cases g <;> rfl
      have e2 : Array.map ({ tmps := a.tmps, defers := mark ++ a.defers } : Act).eval #[Operand.const (Value.func (Fn.yield l) #[] #[])] = #[.func (.yield l) #[] #[]] := by simp [Act.eval]
      rw [e1, e2]; exact hres
    cases nx <;> simp only [nextFrame, Option.some.injEq, reduceCtorEq] at hnx <;> subst hnx <;>
      simp [stepG, stepG.exec, Frame.atR, Sem.runT_eq, he, GStep.bare_after, stepG.apply, hev, Sem.run_bind, hres', hinv, Result.andThen])
def RangeNext (F : Fr P) (l : Nat) (r : LoopRec) (dk : List DItem) (ρ : Env) (L : Loc) (s' : St) : Prop :=
  (s' l = some (.loop r .ready) ∧ DRun F dk ρ L (s'.del l)) ∨ ∃ j dj, s' l = some (.loop r (.done j)) ∧ cc P F.an F.N j = some dj ∧ DRun F (.code dj :: dk) ρ L (s'.del l)
theorem endLoop_run {w : World} {l : Nat} {l0 : Go.Loop} (h : w.heap[l]? = some (.loop l0)) (hb : l0.state ≠ .busy) :
    (Instr.endLoop l).run P w = .ok l0.pending { w with heap := w.heap.setIfInBounds l (.loop { l0 with state := .exhausted }) } := by
  have : (l0.state == .busy) = false := by
    cases hs : l0.state <;> first | rfl | exact absurd hs hb
  simp [Instr.endLoop, Instr.getLoop, run_getObj_loop h, run_setObj_loop h, hb]
theorem range_back {F : Fr P} {l : Nat} {r : LoopRec} {dk : List DItem} {k : List Item} {ρ : Env} {L : Loc} {g : G} {ν : Nat → Nat} {w : World} {tmps : Array Value} {s' : St} (hk : ItemsOk P F.an F.N k dk) (hN : F.N ≤ tmps.size) (m : Models g ν w tmps ρ L s')
    (h : RangeNext F l r dk ρ L s') : F.T.T g w (lone (F.b.atR ⟨tmps, F.ds⟩ (.endRangeFunc l :: k)) F.cs w) := by
  rcases h with ⟨hs, h⟩ | ⟨j, dj, hs, hj, h⟩
  · obtain ⟨hp, l0, a1, a2, a3, a4, a5, a6, a7, a8, a9, a10⟩ := m.st.obj l _ hs
    have he := ext_setOther (g := g) (w := w) l (.loop { l0 with state := .exhausted }) (by simp [hdr, a1]) hp (m.st.kept l _ hs)
    have m' := m.drop hs he (by simp) (fun c hc => setMap_other _ hc)
    have hrun : (Instr.endLoop l).run P w = .ok none { w with heap := w.heap.setIfInBounds l (.loop { l0 with state := .exhausted }) } := by rw [endLoop_run a1 (by rw [a9]; simp)]; simp [a10]
    refine F.T.back _ _ _ _ (.one (stepR_endRangeFunc hrun)) ?_
    exact F.T.ext _ _ _ _ _ he (h k hk g ν _ tmps hN m')
  · obtain ⟨hp, l0, a1, a2, a3, a4, a5, a6, a7, a8, a9, a10⟩ := m.st.obj l _ hs
    have he := ext_setOther (g := g) (w := w) l (.loop { l0 with state := .exhausted }) (by simp [hdr, a1]) hp (m.st.kept l _ hs)
    have m' := m.drop hs he (by simp) (fun c hc => setMap_other _ hc)
    have hrun : (Instr.endLoop l).run P w = .ok (some j) { w with heap := w.heap.setIfInBounds l (.loop { l0 with state := .exhausted }) } := by rw [endLoop_run a1 (by rw [a9]; simp)]; simp [a10]
    refine F.T.back _ _ _ _ (.one (stepR_endRangeFunc hrun)) ?_
    exact F.T.ext _ _ _ _ _ he (h _ (.code hj hk) g ν _ tmps hN m')
theorem IsFun.mark {F : Fr P} {rs : List RV} {Φ : Res → St → Prop} {dds : List DD} (hF : IsFun F rs Φ dds) (q : Nat) : IsFun (F.mark q) rs Φ (.mark q :: dds) := by
  obtain ⟨an, f, df, cs, hf, hrs, rfl⟩ := hF
  exact ⟨an, f, df, cs, hf, hrs, rfl⟩
theorem IsFun.roundOf {F : Fr P} {rs : List RV} {Φ : Res → St → Prop} {dds : List DD} (hF : IsFun F rs Φ dds) : F.b.roundOf = none := by
  obtain ⟨an, f, df, cs, hf, hrs, rfl⟩ := hF
  rfl
end
end Go.DL
namespace Go.DL
open Go
section
variable {P : Program}
theorem ck_defer' {op : Op} {f : Opd} {xs : List Opd} (h : ck P op = some (.defer f xs)) : ∃ f' args ats, op = .defer ⟨.value f', args, ats⟩ ∧ cOpd f' = some f ∧ cOpds args.toList = some xs := by
  unfold ck at h
  split at h
  · simp at h
  · split at h <;> (try (simp at h; done))
    all_goals (try (repeat' (split at h <;> (try (simp at h; done)))))
    simp only [Option.some.injEq, K.defer.injEq] at h
    obtain ⟨rfl, rfl⟩ := h
    rename_i c _ _ f' hcal _ _ f xs hf hxs
    obtain ⟨callee, args, ats⟩ := c
    simp only at hcal
    exact ⟨f', args, ats, by rw [hcal], hf, hxs⟩
def Fr.defer (F : Fr P) (i : FuncId) (args caps : List D) : Fr P := { F with ds := DD.def (.fn i args caps) :: F.ds }
theorem IsFun.defer {F : Fr P} {rs : List RV} {Φ : Res → St → Prop} {dds : List DD} (hF : IsFun F rs Φ dds) (i : FuncId) (args caps : List D) : IsFun (F.defer i args caps) rs Φ (.fn i args caps :: dds) := by
  obtain ⟨an, f, df, cs, hf, hrs, rfl⟩ := hF
  exact ⟨an, f, df, cs, hf, hrs, rfl⟩
theorem DO_defer {F : Fr P} (hround : F.b.roundOf = none) {kp : Option (List Nat)} {dk : List DItem} {o : DOp} {os : List DOp} {ρ : Env} {L : Loc} {s : St} (hg : o.guard = none) (hdn : o.dst = none) {fx : Opd} {xs : List Opd} (hk : o.k = .defer fx xs)
    {p q : Prop} {i : FuncId} {first caps : List D} {es : List E} {ds : List D} (hf : argE ρ true fx = some (q, .d (.fn (.func i) first caps))) (ha : argsE ρ true xs = some (p, es)) (hds : dsOf es = some ds) (hp : p) (hq : q)
    (hr1 : rigids (first ++ ds)) (hr2 : rigids caps) (h : DO (F.defer i (first ++ ds) caps) kp dk os ρ L s) : DO F kp dk (o :: os) ρ L s := by
  refine DO_of fun oo g ν w tmps ops j r k hoo hck hcg hdst hd hN m hr hkk => ?_
  have hw := guard_ok m hcg (c := true) (by rw [hg]; rfl)
  rw [hk] at hck
  obtain ⟨f', args, ats, hop, hf', hxs⟩ := ck_defer' hck
  have hfr : Rep g w _ _ := opd_ok m hf' rfl hf hq F.ds
  have hargs := reps_of_dsOf (opds_ok m rfl F.ds hxs ha hp) hds
  generalize hfv : (Act.mk tmps F.ds).eval f' = fv at hfr
  cases hfr with
  | fn _ fs cs' _ _ hn1 hn2 h1 h2 =>
  obtain ⟨as9, ha1, _, ha2⟩ := rigids_ok hr1
  obtain ⟨vs, hv1, _, hv2⟩ := rigids_ok hr2
  have e1 : fs ++ args.toList.map (Act.mk tmps F.ds).eval = as9 := toVs_ok ((all2_of_get hn1 h1).append hargs) ha1
  have e2 : cs' = vs := toVs_ok (all2_of_get hn2 h2) hv1
  have hmap : (Array.map (Act.mk tmps F.ds).eval args) = (args.toList.map (Act.mk tmps F.ds).eval).toArray := by apply Array.ext'; simp
  have hdd : DD.def (.fn i (first ++ ds) caps) = { target := .fn (.func i) cs'.toArray, args := fs.toArray ++ (args.toList.map (Act.mk tmps F.ds).eval).toArray } := by
    simp only [DD.def, hv1, ha1, Option.getD_some, e2, ← e1]; simp
  have hrun : (execOp (Act.mk tmps F.ds).eval oo).run P w = .ok (.defer (DD.def (.fn i (first ++ ds) caps))) w := by
    rw [hdd]
    simp [execOp, hop, resolve, hfv, hmap, Deferred.ofValue]
  have hstep : step P (lone (F.b.atR ⟨tmps, F.ds⟩ (.inRegion ops (j :: r) :: k)) F.cs w) = .next (lone (F.b.atR ⟨tmps, (F.defer i (first ++ ds) caps).ds⟩ (.inRegion ops r :: k)) F.cs w) := by
    refine step_lone_go ?_
    rw [stepGR_op hoo hw, hround, Oper.semAt_none]
    have hfin : (F.b.atR ⟨tmps, (F.defer i (first ++ ds) caps).ds⟩ (.inRegion ops (j :: r) :: k)).finish undef = F.b.atR ⟨tmps, (F.defer i (first ++ ds) caps).ds⟩ (.inRegion ops r :: k) := by
      rw [Frame.finish_atR, hoo]
      simp [Act.put, hdst, hdn]
    rw [← hfin]
    simp [stepG.apply, hrun, Frame.atR, Fr.defer]
  refine F.T.back _ _ _ _ (.one hstep) ?_
  exact h ops r k hr hkk g ν w tmps hN m
def toVP : D → Option Value
  | .iface t (.agg cs) => (toVs cs).map fun vs => .iface t (.agg vs.toArray)
  | .iface t d => (toV1 d).map (.iface t ·)
  | _ => none
def rigidP : D → Prop
  | .iface _ (.agg cs) => rigids cs
  | .iface _ d => rigid1 d
  | _ => False
theorem rigidP_ok {d : D} (h : rigidP d) : ∃ v, (∀ g w, Rep g w v d) ∧ ∀ g w v', Rep g w v' d → v' = v := by
  cases d <;> simp only [rigidP] at h
  rename_i t d
  by_cases hd : ∃ cs, d = .agg cs
  · obtain ⟨cs, rfl⟩ := hd
    simp only [rigidP] at h
    obtain ⟨vs, h1, h2, h3⟩ := rigids_ok h
    refine ⟨.iface t (.agg vs.toArray), fun g w => .iface t _ _ (.agg vs cs (h3 g w).len (h3 g w).get h2), fun g w v' hr => ?_⟩
    cases hr with
    | iface _ v _ hv =>
      cases hv with
      | agg vs' _ hn hg _ => rw [toVs_ok (all2_of_get hn hg) h1]
  · have h' : rigid1 d := by cases d <;> simp only [rigidP] at h <;> first | exact h | exact absurd ⟨_, rfl⟩ hd
    obtain ⟨v, h1, h2, h3⟩ := rigid1_ok h'
    refine ⟨.iface t v, fun g w => .iface t _ _ (h3 g w), fun g w v' hr => ?_⟩
    cases hr with
    | iface _ v'' _ hv => rw [toV1_ok hv h1]
def defMode (m : Option D) (v : Value) (rec : Bool) : FrameMode :=
  match m with
  | none => .returning
  | some _ => .panicking [{ v, recovered := rec }]
def defGoal (P : Program) (cf : Frame) (cs : List Frame) (Ψ : Bool → St → Prop) : Goal P where
  T g w m := ∃ g' w' s' b, Ext g w g' w' ∧ StOk g' s' w' ∧ Ψ b s' ∧ Steps P m (lone { cf with mode := if b then .returning else cf.mode } cs w')
  back g w m m' hs h := let ⟨g', w', s', b, a1, a2, a3, a4⟩ := h; ⟨g', w', s', b, a1, a2, a3, Steps.trans hs a4⟩
  ext g w g' w' m hx h := let ⟨g2, w2, s', b, a1, a2, a3, a4⟩ := h; ⟨g2, w2, s', b, hx.trans a1, a2, a3, a4⟩
def defFr (P : Program) (an : Ann) (f : FuncId) (N : Nat) (cf : Frame) (cs : List Frame) (Ψ : Bool → St → Prop) (m : Option D) (v : Value) (rec : Bool) : Fr P where
  T := defGoal P cf cs Ψ
  b := { (default : Frame) with fn := f, kind := .deferred, roundOf := none }
  cs := { cf with mode := defMode m v rec } :: cs
  N := N
  ds := []
  an := an
def IsDef (F : Fr P) (m : Option D) (Ψ : Bool → St → Prop) (rec : Bool) : Prop :=
  ∃ an f df cf cs v, Go.DL.cf P an f = some df ∧ df.res = [] ∧ cf.mode = defMode m v false ∧ (∀ d, m = some d → ∀ g w, Rep g w v d) ∧ F = defFr P an f df.n cf cs Ψ m v rec
theorem IsDef.end {F : Fr P} {m : Option D} {Ψ : Bool → St → Prop} {rec : Bool} (hF : IsDef F m Ψ rec) {ρ : Env} {L : Loc} {s s' : St} (hs : s'.sub s) (hΨ : Ψ (m.isNone || rec) s') {todo : List Item} {g : G} {ν : Nat → Nat} {w : World} {tmps : Array Value}
    (M : Models g ν w tmps ρ L s) : F.T.T g w (lone { F.b.atR ⟨tmps, F.ds⟩ todo with mode := .returning } F.cs w) := by
  obtain ⟨an, f, df, cfr, cs, v, hf, hres, hmode, hrep, rfl⟩ := hF
  unfold cf at hf
  split at hf <;> (try (simp at hf; done))
  rename_i fn hfn
  split at hf <;> (try (simp at hf; done))
  split at hf <;> (try (simp at hf; done))
  split at hf <;> simp at hf
  rename_i rs d hrs hd
  subst hf
  simp only at hres
  subst hres
  obtain ⟨rv, hrv1, _⟩ := results_ok M hrs (p := True) (ds := []) rfl trivial
  refine ⟨g, w, s', m.isNone || rec, Ext.refl g w, M.st.sub hs, hΨ, ?_⟩
  have hst := step_going_returned (P := P) (fr := { (defFr P an f fn.ntmps cfr cs Ψ m v rec).b.atR ⟨tmps, []⟩ todo with mode := .returning }) (c := { cfr with mode := defMode m v rec }) (cs := cs) (w := w) rfl ⟨rfl, rfl, fn, hfn, hrv1⟩
  have hset : ({ ({ cfr with mode := defMode m v rec } : Frame) with mode := settle (defMode m v rec) } : Frame) = { cfr with mode := if (m.isNone || rec) then .returning else cfr.mode } := by
    cases m with
    | none => rfl
    | some d =>
      cases rec
      · simp only [Option.isNone_some, Bool.or_self, Bool.false_eq_true, if_false, hmode]; rfl
      · rfl
  simp only at hst
  rw [hset] at hst
  exact .one hst
theorem IsDef.fin {F : Fr P} {m : Option D} {Ψ : Bool → St → Prop} {rec : Bool} (hF : IsDef F m Ψ rec) {ρ : Env} {L : Loc} {s s' : St} (hs : s'.sub s) (hΨ : Ψ (m.isNone || rec) s') : DRun F [] ρ L s := by
  have hF' := hF
  obtain ⟨an, f, df, cfr, cs, v, hf, hres, hmode, hrep, rfl⟩ := hF
  intro k hk
  cases hk
  intro g ν w tmps hN M
  refine (defGoal P cfr cs Ψ).back _ _ _ _ (.one (stepR_end rfl)) ?_
  exact hF'.end hs hΨ M
theorem IsDef.ret {F : Fr P} {m : Option D} {Ψ : Bool → St → Prop} {rec : Bool} (hF : IsDef F m Ψ rec) {dk : List DItem} {ρ : Env} {L : Loc} {s s' : St} (hs : s'.sub s) (hΨ : Ψ (m.isNone || rec) s') : DRun F (.code .ret :: dk) ρ L s := by
  have hF' := hF
  obtain ⟨an, f, df, cfr, cs, v, hf, hres, hmode, hrep, rfl⟩ := hF
  intro k hk
  cases hk with
  | code hc ht =>
    obtain rfl := cc_ret hc
    intro g ν w tmps hN M
    refine (defGoal P cfr cs Ψ).back _ _ _ _ (.one (stepR_ret rfl)) ?_
    exact hF'.end hs hΨ M
theorem ck_recover {op : Op} (h : ck P op = some .recover) : ∃ args ats, op = .call ⟨.builtin .recover, args, ats⟩ := by
  unfold ck at h
  split at h
  · simp at h
  · split at h <;> (try (simp at h; done))
    all_goals (try (repeat' (split at h <;> (try (simp at h; done)))))
    rename_i c _ _ hcal
    obtain ⟨callee, args, ats⟩ := c
    simp only at hcal
    exact ⟨args, ats, by rw [hcal]⟩
theorem DO_recoverN {F : Fr P} {Ψ : Bool → St → Prop} {rec : Bool} (hF : IsDef F none Ψ rec) {kp : Option (List Nat)} {dk : List DItem} {o : DOp} {os : List DOp} {ρ : Env} {L : Loc} {s : St} (hg : o.guard = none) (hk : o.k = .recover)
    (h : DO F kp dk os (putE ρ o.dst (.d .niliface)) L s) : DO F kp dk (o :: os) ρ L s := by
  obtain ⟨an, f, df, cfr, cs, v, hf, hres, hmode, hrep, rfl⟩ := hF
  refine DO_of fun oo g ν w tmps ops j r k hoo hck hcg hdst hd hN m hr hkk => ?_
  have hw := guard_ok m hcg (c := true) (by rw [hg]; rfl)
  have hnd := ck_defer hck (by rw [hk]; rfl)
  rw [hk] at hck
  obtain ⟨args, ats, hop⟩ := ck_recover hck
  have hrun : (execOp (Act.mk tmps []).eval oo).run P w = .ok .recover w := by
    simp [execOp, hop, resolve, invoke, builtin]
  have hstep : step P (lone ((defFr P an f df.n cfr cs Ψ none v rec).b.atR ⟨tmps, []⟩ (.inRegion ops (j :: r) :: k)) (defFr P an f df.n cfr cs Ψ none v rec).cs w) =
      .next (lone ((defFr P an f df.n cfr cs Ψ none v rec).b.atR ((Act.mk tmps []).put oo.dst .nilIface) (.inRegion ops r :: k)) (defFr P an f df.n cfr cs Ψ none v rec).cs w) := by
    refine step_lone_go ?_
    rw [stepGR_op hoo hw, Oper.semAt_eq _ _ _ hnd]
    have hfin : ((defFr P an f df.n cfr cs Ψ none v rec).b.atR ⟨tmps, []⟩ (.inRegion ops (j :: r) :: k)).finish .nilIface = (defFr P an f df.n cfr cs Ψ none v rec).b.atR ((Act.mk tmps []).put oo.dst .nilIface) (.inRegion ops r :: k) := by
      rw [Frame.finish_atR, hoo]; rfl
    rw [← hfin]
    simp [stepG.apply, hrun, Frame.atR, defFr, tryRecover, defMode]
  refine (defGoal P cfr cs Ψ).back _ _ _ _ (.one hstep) ?_
  obtain ⟨tmps', e1, e2, m'⟩ := put_ok m hN hd (v := .nilIface) (e := .d .niliface) .niliface []
  rw [hdst, e1]
  exact h ops r k hr hkk g ν w tmps' e2 m'
end
end Go.DL
namespace Go.DL
open Go
theorem inRi64 (n : Int) : inR .i64 n ↔ -9223372036854775808 ≤ n ∧ n ≤ 9223372036854775807 := by
  simp [inR, IntKind.min, IntKind.max, IntKind.signed, IntKind.bits]
theorem inRu8 (n : Int) : inR .u8 n ↔ 0 ≤ n ∧ n ≤ 255 := by
  simp [inR, IntKind.min, IntKind.max, IntKind.signed, IntKind.bits]
theorem inRu32 (n : Int) : inR .u32 n ↔ 0 ≤ n ∧ n ≤ 4294967295 := by
  simp [inR, IntKind.min, IntKind.max, IntKind.signed, IntKind.bits]
theorem inRu64 (n : Int) : inR .u64 n ↔ 0 ≤ n ∧ n ≤ 18446744073709551615 := by
  simp [inR, IntKind.min, IntKind.max, IntKind.signed, IntKind.bits]
theorem inRi32 (n : Int) : inR .i32 n ↔ -2147483648 ≤ n ∧ n ≤ 2147483647 := by
  simp [inR, IntKind.min, IntKind.max, IntKind.signed, IntKind.bits]
theorem ite_and (a b : Bool) : (if a = true then b else false) = (a && b) := by cases a <;> rfl
theorem ite_or (a b : Bool) : (if a = true then true else b) = (a || b) := by cases a <;> rfl
theorem Le_one {d d' : D} (h : d = d') : (mkRes [d]).Le d' := h ▸ D.Le.refl d
theorem Le_bool {b b' : Bool} (h : b = b') : (mkRes [.bool b]).Le (.bool b') := h ▸ D.Le.refl _
theorem Le_int {k : IntKind} {n m : Int} (h : n = m) : (mkRes [.int k n]).Le (.int k m) := h ▸ D.Le.refl _
theorem Le_tup {l : List D} {d : D} (h : .tup l = d) (hl : mkRes l = .tup l) : (mkRes l).Le d := by rw [hl, h]; exact D.Le.refl _
theorem St.upd_same (s : St) (b : Nat) (o : DObj) : (s.upd b o) b = some o := by simp [St.upd]
theorem St.upd_ne (s : St) {b c : Nat} (o : DObj) (h : c ≠ b) : (s.upd b o) c = s c := by simp [St.upd, h]
theorem St.upd_upd (s : St) (b : Nat) (o o' : DObj) : (s.upd b o).upd b o' = s.upd b o' := by
  funext c; simp only [St.upd]; by_cases h : c = b <;> simp [h]
theorem St.upd_comm (s : St) {b c : Nat} (o o' : DObj) (h : c ≠ b) : (s.upd b o).upd c o' = (s.upd c o').upd b o := by
  funext x; simp only [St.upd]
  by_cases h1 : x = b
  · subst h1; simp [Ne.symm h]
  · simp [h1]
theorem St.sub_upd {s : St} {b : Nat} (o : DObj) (h : s b = none) : s.sub (s.upd b o) := fun c x hx => by
  have : c ≠ b := fun hc => by rw [hc, h] at hx; simp at hx
  rw [St.upd_ne s o this]; exact hx
inductive DWf : D → Prop where
  | int (k : IntKind) (n : Int) (h : inR k n) : DWf (.int k n)
  | str (l : List UInt8) (h : l.length ≤ big) : DWf (.str l)
  | agg (cs : List D) (h : ∀ c ∈ cs, DWf c) : DWf (.agg cs)
  | tup (cs : List D) (h : ∀ c ∈ cs, DWf c) : DWf (.tup cs)
  | sl (t : Tok) (n s : Nat) (row : Nat → List D) (h : n ≤ big) (hl : ∀ i, i < n → (row i).length = s) (hr : ∀ i, i < n → ∀ c ∈ row i, DWf c) : DWf (.sl t n s row)
  | ep (cs : List D) (o : Nat) (h : ∀ c ∈ cs, DWf c) : DWf (.ep cs o)
  | iface (t : TypeId) (d : D) (h : DWf d) : DWf (.iface t d)
  | msl (b o n cap s : Nat) (h : n ≤ cap) (h' : cap ≤ big) : DWf (.msl b o n cap s)
  | fn (f : Fn) (a b : List D) (h : ∀ c ∈ a, DWf c) (h' : ∀ c ∈ b, DWf c) : DWf (.fn f a b)
  | other (d : D) (h : match d with | .int .. | .str _ | .agg _ | .tup _ | .sl .. | .ep .. | .iface .. | .msl .. | .fn .. => False | _ => True) : DWf d
theorem all_of_get {Q : D → Prop} {vs : List Value} {ds : List D} (hn : vs.length = ds.length) (h : ∀ (i : Nat) (v : Value) (d : D), vs[i]? = some v → ds[i]? = some d → Q d) : ∀ c ∈ ds, Q c := by
  intro c hc
  obtain ⟨i, hi, rfl⟩ := List.getElem_of_mem hc
  exact h i (vs[i]'(by omega)) _ (by simp [show i < vs.length by omega]) (by simp [hi])
theorem Rep.wf {g : G} {w : World} {v : Value} {d : D} (h : Rep g w v d) : DWf d := by
  induction h with
  | int k n h => exact .int k n h
  | str s l h hb => exact .str l hb
  | agg vs cells hn _ _ ih => exact .agg _ (all_of_get hn ih)
  | tup vs ds hn _ ih => exact .tup _ (all_of_get hn ih)
  | sl0 a t s row ht => exact .sl t 0 s row (Nat.zero_le _) (fun i hi => by omega) (fun i hi => by omega)
  | sl b o n cap s row t f hl hc hp _ one ht hcap hb ih =>
    refine .sl t n s row (by omega) hl fun i hi c hcm => ?_
    obtain ⟨j, hj, rfl⟩ := List.getElem_of_mem hcm
    exact ih i j _ hi (by simp [hj])
  | ep b o off cells f hc hp _ one ih =>
    refine .ep _ _ fun c hcm => ?_
    obtain ⟨j, hj, rfl⟩ := List.getElem_of_mem hcm
    exact ih j _ (by simp [hj])
  | iface t v d _ ih => exact .iface t d ih
  | msl b off n cap s h hb => exact .msl _ _ _ _ _ h hb
  | mslx a b off s => exact .msl _ _ _ _ _ (Nat.le_refl _) (Nat.zero_le _)
  | fn f fs cs df dc hnf hnc _ _ ihf ihc => exact .fn f df dc (all_of_get hnf ihf) (all_of_get hnc ihc)
  | _ => exact .other _ trivial
theorem DWf.agg_inv {cs : List D} (h : DWf (.agg cs)) : ∀ c ∈ cs, DWf c := by
  cases h with
  | agg _ h => exact h
  | other _ h => exact h.elim
theorem DWf.sl_inv {t : Tok} {n s : Nat} {row : Nat → List D} (h : DWf (.sl t n s row)) : n ≤ big ∧ (∀ i, i < n → (row i).length = s) ∧ ∀ i, i < n → ∀ c ∈ row i, DWf c := by
  cases h with
  | sl _ _ _ _ h1 h2 h3 => exact ⟨h1, h2, h3⟩
  | other _ h => exact h.elim
theorem all2_wf {g : G} {w : World} {vs : List Value} {ds : List D} (h : All2 (Rep g w) vs ds) : ∀ d ∈ ds, DWf d := all_of_get h.len fun i v d hv hd => (h.get i v d hv hd).wf
section
variable {P : Program}
theorem DCalls_wf {f : FuncId} {args : List D} {s : St} {Φ : Res → St → Prop} (hf : ∃ fn, P.funcs[f]? = some fn ∧ fn.body.isSome = true ∧ (fn.name == "runtime.NumGoroutine") = false) (h : (∀ a ∈ args, DWf a) → DCalls P f args s Φ) : DCalls P f args s Φ :=
  ⟨hf, fun g w vs hs ha => (h (all2_wf ha)).2 g w vs hs ha⟩
theorem cf_ex {an : Ann} {f : FuncId} {df : DF} (hf : cf P an f = some df) : ∃ fn, P.funcs[f]? = some fn ∧ fn.body.isSome = true ∧ (fn.name == "runtime.NumGoroutine") = false := by
  unfold cf at hf
  split at hf <;> (try (simp at hf; done))
  rename_i fn hfn
  split at hf <;> (try (simp at hf; done))
  rename_i c hc
  split at hf <;> (try (simp at hf; done))
  rename_i hname
  exact ⟨fn, hfn, by simp [hc], by simpa using hname⟩
theorem PCalls_funW {an : Ann} {f : FuncId} {df : DF} (hf : cf P an f = some df) {args : List D} {d : D}
    (h : (∀ a ∈ args, DWf a) → ∀ (F : Fr P) (s : St), (∀ {dk : List DItem} {ρ : Env} {L : Loc} {s' : St} {p : Prop} {ds : List D}, rvsGet ρ L s' df.res = some (p, ds) → p → (mkRes ds).Le d → s.sub s' → DRun F (.code .ret :: dk) ρ L s') →
      DRun F [.code df.body] (initE 0 args) [] s) : PCalls P f args d :=
  fun s => DCalls_wf (cf_ex hf) fun hw => DCalls_fun hf fun F hF => h hw F s fun h1 h2 h3 h4 => hF.ret d s h1 h2 h3 h4 ⟨rfl, rfl⟩
end
section
variable {P : Program}
def TCalls (P : Program) (f : FuncId) (args : List D) (s : St) (d : D) (s' : St) : Prop := DCalls P f args s fun r t => r = .ret d ∧ t = s'
theorem DO_tcall {F : Fr P} {kp : Option (List Nat)} {dk : List DItem} {o : DOp} {os : List DOp} {ρ : Env} {L : Loc} {s s' : St} (hg : guardB ρ o.guard = some true) {fx : Opd} {xs : List Opd} (hk : o.k = .call fx xs)
    {p q : Prop} {f : FuncId} {first caps : List D} {es : List E} {ds : List D} (hf : argE ρ true fx = some (q, .d (.fn (.func f) first caps))) (ha : argsE ρ true xs = some (p, es)) (hds : dsOf es = some ds) (hp : p) (hq : q)
    {d : D} (hc : TCalls P f (first ++ ds ++ caps) s d s') (h : DO F kp dk os (putE ρ o.dst (.d d)) L s') : DO F kp dk (o :: os) ρ L s :=
  DO_call hg hk hf ha hds hp hq hc (fun d' t ⟨h1, h2⟩ => by simp only [Res.ret.injEq] at h1; subst h1; subst h2; exact h) (fun d' t ⟨h1, _⟩ => by simp at h1)
end
end Go.DL
namespace Go.DL
open Go
def keepsP : Bool → List Nat → St → St → Loc → Loc → List (Nat × Rd) → Prop
  | true, _, _, _, _, _, _ => True
  | false, fl, s, s', L, L', B => keepsF fl s s' L L' B
def nextP : Bool → List Nat → List (Nat × Rd) → List (Nat × Rd)
  | true, _, B => B
  | false, fl, B => nextB fl B
def drunB (K : Env → Loc → St → Prop) (X : List (DOp × List Nat) → Env → Loc → St → List (Nat × Rd) → Prop) : List (DOp × List Nat) → Env → Loc → St → List (Nat × Rd) → Prop
  | [], ρ, L, s, _ => K ρ L s
  | o :: os, ρ, L, s, B => match stepQ o.1 ρ L s with
    | .ok side ρ' L' s' => side ∧ keepsP (pendK o.1.k) o.2 s s' L L' B ∧ drunB K X os ρ' L' s' (readsT o.1 ρ ++ nextP (pendK o.1.k) o.2 B)
    | .all side pre ρ' s' => side ∧ ∀ b, pre b → keepsP false o.2 s (s' b) L L B ∧ drunB K X os (ρ' b) L (s' b) (nextP false o.2 B)
    | .stop => X (o :: os) ρ L s B
section
variable {P : Program}
end
end Go.DL
namespace Go.DL
open Go
section
variable {P : Program}
theorem TCalls_funW {an : Ann} {f : FuncId} {df : DF} (hf : cf P an f = some df) {args : List D} {d : D} {s s' : St}
    (h : (∀ a ∈ args, DWf a) → ∀ (F : Fr P), (∀ {dk : List DItem} {ρ : Env} {L : Loc} {t : St} {p : Prop} {ds : List D}, rvsGet ρ L t df.res = some (p, ds) → p → (mkRes ds).Le d → s'.sub t → DRun F (.code .ret :: dk) ρ L t) →
      DRun F [.code df.body] (initE 0 args) [] s) : TCalls P f args s d s' :=
  DCalls_wf (cf_ex hf) fun hw => DCalls_fun hf fun F hF => h hw F fun h1 h2 h3 h4 => hF.ret d s' h1 h2 h3 h4 ⟨rfl, rfl⟩
end
end Go.DL
namespace Go.DL
open Go
def St.or (s t : St) : St := fun b => match s b with
  | some o => some o
  | none => t b
theorem or_get {s t : St} {b : Nat} {o : DObj} (h : s b = some o) : (s.or t) b = some o := by simp [St.or, h]
theorem or_none {s t : St} {b : Nat} (h : s b = none) : (s.or t) b = t b := by simp [St.or, h]
def Disj (s t : St) : Prop := ∀ b o, t b = some o → s b = none
def G.keep (g : G) (k : Nat → Prop) : G := { g with kept := k }
theorem rep_keep {g : G} {k : Nat → Prop} {w : World} {v : Value} {d : D} (h : Rep g w v d) : Rep (g.keep k) w v d := h.mono0 (fun _ => Nat.le_refl _) (fun _ _ _ => rfl) (fun _ _ h => h)
theorem repE_keep {g : G} {k : Nat → Prop} {ν : Nat → Nat} {w : World} {L : Loc} {v : Value} {e : E} (h : RepE g ν w L v e) : RepE (g.keep k) ν w L v e := by
  induction e with
  | d d => exact rep_keep h
  | loc l off => exact h
  | when c e ih => exact ⟨fun hc => ih (h.1 hc), h.2⟩
theorem cellsOk_keep {g : G} {k : Nat → Prop} {w : World} {b : Nat} {ds : List D} (h : CellsOk g w b ds) : CellsOk (g.keep k) w b ds := by
  obtain ⟨hp, vs, T, h1, h2, h4, h5⟩ := h
  exact ⟨hp, vs, T, h1, h2, fun i v d hv hd => rep_keep (h4 i v d hv hd), h5⟩
theorem objOk_keep {g : G} {k : Nat → Prop} {w : World} {b : Nat} {o : DObj} (h : ObjOk g w b o) : ObjOk (g.keep k) w b o := by
  cases o with
  | cells ds => exact cellsOk_keep h
  | map es =>
    obtain ⟨hp0, en, clock, h1, h2, h3, h4, h5, h6⟩ := h
    exact ⟨hp0, en, clock, h1, h2, fun i x d hv hd => rep_keep (h3 i x d hv hd), fun i x d hv hd => rep_keep (h4 i x d hv hd), h5, h6⟩
  | tip n => exact h
  | mapE kp es kk n =>
    obtain ⟨hp0, io, hio, en, clock, h1, h2, h3, h4, h5, h6, h7⟩ := h
    exact ⟨hp0, io, hio, en, clock, h1, h2, fun i x d hi hv hd => rep_keep (h3 i x d hi hv hd), fun i x d hi hv hd => rep_keep (h4 i x d hi hv hd), fun e he => ⟨rep_keep (h5 e he).1, (h5 e he).2⟩, h6, h7⟩
  | loop r st =>
    obtain ⟨hp, l, h1, h2, h3, h4, h5, h6, h7, h8, h9⟩ := h
    exact ⟨hp, l, h1, h2, h3, h4, h5, h6, h7, fun t e he => repE_keep (h8 t e he), h9⟩
  | dfr => exact h
theorem All2.imp {α β : Type} {R S : α → β → Prop} {as9 : List α} {bs : List β} (h : All2 R as9 bs) (hi : ∀ a b, R a b → S a b) : All2 S as9 bs := by
  induction h with
  | nil => exact .nil
  | cons h _ ih => exact .cons (hi _ _ h) ih
theorem frame_in {g : G} {w : World} {s t : St} (hd : Disj s t) (h : StOk g (s.or t) w) : StOk (g.keep fun b => g.kept b ∨ (t b).isSome) s w := {
  obj b o hb := objOk_keep (h.obj b o (or_get hb))
  kept b o hb := by
    rintro (hk | hk)
    · exact h.kept b o (or_get hb) hk
    · obtain ⟨x, hx⟩ := Option.isSome_iff_exists.1 hk
      rw [hd b x hx] at hb; simp at hb
  fresh b hb := by
    have h1 := h.fresh b hb
    refine ⟨h1.1, ?_⟩
    rintro (hk | hk)
    · exact h1.2 hk
    · obtain ⟨x, hx⟩ := Option.isSome_iff_exists.1 hk
      have := (h.obj b x (by rw [or_none (hd b x hx)]; exact hx)).lt
      omega }
theorem frame_out {g : G} {w w' : World} {s t : St} {Φ : Res → St → Prop} {e : Ending} (hd : Disj s t) (h : StOk g (s.or t) w) (hp : PostOk (g.keep fun b => g.kept b ∨ (t b).isSome) w Φ e w') :
    PostOk g w (fun r S => ∃ s', Φ r s' ∧ Disj s' t ∧ S = s'.or t) e w' := by
  obtain ⟨g', s', r, he, hs, hr, hΦ⟩ := hp
  have hkeq := he.keptEq
  have he' : Ext g w (g'.keep g.kept) w' := ⟨he.size, he.prot, he.cell, he.hdr, fun b hb => he.kept b (.inl hb), fun b hb => he.keptProt b (.inl hb), rfl, he.os, he.output, he.tape⟩
  have hd' : Disj s' t := fun b o hb => by
    cases hsb : s' b with
    | none => rfl
    | some x => exact absurd (by rw [hkeq]; exact .inr (by rw [hb]; rfl)) (hs.kept b x hsb)
  refine ⟨g'.keep g.kept, s'.or t, r, he', ⟨fun b o hb => ?_, fun b o hb => ?_, fun b hb => ?_⟩, ?_, s', hΦ, hd', rfl⟩
  · cases hsb : s' b with
    | some x =>
      rw [or_get hsb] at hb; cases hb
      exact objOk_keep (hs.obj b _ hsb)
    | none =>
      rw [or_none hsb] at hb
      have h0 := h.obj b o (by rw [or_none (hd b o hb)]; exact hb)
      have hk : (g.keep fun b => g.kept b ∨ (t b).isSome).kept b := .inr (by rw [hb]; rfl)
      exact h0.mono he' (he.kept b hk) (he.keptProt b hk)
  · cases hsb : s' b with
    | some x => exact fun hk => hs.kept b x hsb (by rw [hkeq]; exact .inl hk)
    | none =>
      rw [or_none hsb] at hb
      exact h.kept b o (by rw [or_none (hd b o hb)]; exact hb)
  · have := hs.fresh b hb
    exact ⟨this.1, fun hk => this.2 (by rw [hkeq]; exact .inl hk)⟩
  · cases e <;> cases r <;> simp only [ResOk] at hr ⊢
    · exact rep_keep hr
    · obtain ⟨v, h1, h2⟩ := hr; exact ⟨v, h1, rep_keep h2⟩
section
variable {P : Program}
theorem DCalls.frame {f : FuncId} {args : List D} {s t : St} {Φ : Res → St → Prop} (hd : Disj s t) (h : DCalls P f args s Φ) : DCalls P f args (s.or t) fun r S => ∃ s', Φ r s' ∧ Disj s' t ∧ S = s'.or t :=
  ⟨h.1, fun g w vs hs ha => (h.2 _ w vs (frame_in hd hs) (ha.imp fun _ _ => rep_keep)).mono fun _ _ hp => frame_out hd hs hp⟩
end
end Go.DL
namespace Go.DL
open Go
theorem rows_flat {s : Nat} {cs : List D} {r : Nat → List D} : ∀ {len : Nat}, cs.length = len * s → (∀ i, i < len → part cs (i * s) s = r i) → cs = (List.range len).flatMap r := by
  intro len hl hr
  have key : ∀ k, k ≤ len → cs.take (k * s) = (List.range k).flatMap r := by
    intro k
    induction k with
    | zero => intro _; simp
    | succ k ih =>
      intro hk
      rw [List.range_succ, List.flatMap_append, ← ih (by omega), Nat.add_mul, Nat.one_mul, List.take_add]
      congr 1
      simp only [List.flatMap_cons, List.flatMap_nil, List.append_nil]
      rw [← hr k hk]; rfl
  have := key len (Nat.le_refl _)
  rw [← hl, List.take_length] at this; exact this
theorem grow_drew {g : G} {w : World} (c : Array Value) (T : TypeId) (hf : ∀ b, w.heap.size ≤ b → g.prot b = 0 ∧ ¬ g.kept b) : Grow g w g (w.drew.alloc (.cells c T)) := {
  size := by simp
  old b hb := (by first | exact heap_alloc_old w.drew _ b hb | exact heap_alloc_old w.drew _ hb)
  prot b hb := rfl
  fresh b hb := by
    have : (w.drew.alloc (.cells c T)).heap.size = w.heap.size + 1 := by simp
    rw [this] at hb
    exact (hf b (by omega)).1
  kept := rfl
  os := rfl
  output := rfl
  tape := rfl }
section
variable {P : Program}
theorem bslM_ok {g : G} {w : World} {len s : Nat} {z : List D} {t e : TypeId} {parts : List (Nat × Value)} {ds : List D} (hu : P.underlying t = some (.slice e)) (hsz : sizeT P e = some s) (hz : zeroT P e = some z)
    (hdis : distinctLt len (parts.map (·.1)) = true) (hzl : z.length = s) (hs0 : 0 < s) (hbig : len * s ≤ 2 ^ 24) (hl0 : 0 < len) (hd : All2 (Rep g w) (parts.map (·.2)) ds) (hp : partsOk s ds = true) :
    ∃ cv : Array Value, (Instr.buildSlice t len parts.toArray).run P w = .ok (.slice (some ⟨w.heap.size, 0, none⟩) len len) (w.alloc (.cells cv e)) ∧
      All2 (Rep g w) cv.toList ((List.range len).flatMap (litRow z ((parts.map (·.1)).zip ds))) ∧ ∀ v ∈ cv, v.one1 = true := by
  obtain ⟨zv, hz1, hz2, hz3, ie, hie, hzz⟩ := zero_ok (g := g) (w := w) hz
  have hsize : ie.size = s := by simpa [sizeT, hie] using hsz
  have hzlen : zv.cells.size = s := by have := hz2.len; simp at this; omega
  have hn : (parts.map (·.1)).length = ds.length := by have := hd.len; simpa using this
  let c0 : Array Value := (Array.range (len * s)).map (zv.cells[· % zv.cells.size]!)
  let d0 : List D := (List.range (len * s)).map fun i => z.getD (i % s) .undef
  have hrep0 : All2 (Rep g w) c0.toList d0 := by
    refine all2_of_get (by simp [c0, d0]) (fun i v d hv hd => ?_)
    simp only [c0, d0, Array.toList_map, Array.toList_range, List.getElem?_map, Option.map_eq_some_iff] at hv hd
    obtain ⟨a, ha, rfl⟩ := hv
    obtain ⟨b, hb, rfl⟩ := hd
    rw [ha] at hb
    simp only [Option.some.injEq] at hb
    subst hb
    have hlt : a % s < s := Nat.mod_lt _ hs0
    refine hz2.get (a % s) _ _ ?_ ?_
    · rw [hzlen]; simp [getElem!_pos, hzlen, hlt]
    · simp [List.getD, hzl, hlt]
  have hone0 : ∀ v ∈ c0, v.one1 = true := fun v hv => by
    simp only [c0, Array.mem_map] at hv
    obtain ⟨a, _, rfl⟩ := hv
    have hlt : a % zv.cells.size < zv.cells.size := Nat.mod_lt _ (by omega)
    rw [getElem!_pos zv.cells (a % zv.cells.size) hlt]
    exact hz3 _ (Array.getElem_mem hlt)
  have hlen0 : d0.length = len * s := by simp [d0]
  obtain ⟨cs, hfill, hcl, hrows⟩ := fill_rows (parts.map (·.1)) ds d0 hdis hn hp hlen0
  obtain ⟨cv, hf1, hf2, hf3⟩ := fill_ok (g := g) (w := w) (fun i => some (i * s, s)) parts ((parts.map (·.1)).map fun i => (i * s, s)) ds cs d0 c0 (fun i x q hx hq => by
    simp only [List.map_map, List.getElem?_map, hx, Option.map_some, Option.some.injEq, Function.comp_def] at hq
    rw [← hq]) (by simp) hd hrep0 hone0 hfill
  have hpos : ¬ len * s = 0 := by simp [Nat.mul_eq_zero]; omega
  have hrun := run_buildSlice (P := P) w t e len parts.toArray cv ie zv hu hie hzz (by rw [hsize]; omega) (by rw [hsize]; exact hpos) (by rw [hsize]; exact hf1)
  refine ⟨cv, hrun, ?_, hf3⟩
  have : cs = (List.range len).flatMap (litRow z ((parts.map (·.1)).zip ds)) := rows_flat hcl fun i hi => by
    rw [hrows i hi]
    have hzp : part d0 (i * s) s = z := zero_part hzl hs0 hi
    rw [hzp]
  rw [← this]; exact hf2
theorem DO_bslM {F : Fr P} {kp : Option (List Nat)} {dk : List DItem} {o : DOp} {os : List DOp} {ρ : Env} {L : Loc} {s : St} (hg : guardB ρ o.guard = some true) {len n : Nat} {z : List D} {is : List Nat} {xs : List Opd}
    (hk : o.k = .bsl len n z is xs) {p : Prop} {es : List E} {ds : List D} (ha : argsE ρ true xs = some (p, es)) (hds : dsOf es = some ds) (hp : p) (hok : partsOk n ds = true) (hl0 : 0 < len)
    (h : ∀ b, s b = none → DO F kp dk os (putE ρ o.dst (.d (.msl b 0 len len n))) L (s.upd b (.cells ((List.range len).flatMap (litRow z (is.zip ds)))))) : DO F kp dk (o :: os) ρ L s := by
  refine DO_of fun oo g ν w tmps ops i r k hoo hck hcg hdst hd hN m hr hkk => ?_
  have hw := guard_ok m hcg hg
  have hnd := ck_defer hck (by rw [hk]; rfl)
  rw [hk] at hck
  obtain ⟨t, e, parts, hop, hu, hsz, hz, hxs, rfl, hdis, hzl, hs0, hbig⟩ := ck_bsl hck
  have hargs := opds_ok m rfl F.ds hxs ha hp
  have hreps := reps_of_dsOf hargs hds
  obtain ⟨cv, h1, h2, h3⟩ := bslM_ok (P := P) (g := g) (w := w) (parts := parts.toList.map fun x => (x.1, (Act.mk tmps F.ds).eval x.2)) hu hsz hz (by simpa [List.map_map, Function.comp_def] using hdis) hzl hs0 hbig hl0
    (by simpa [List.map_map, Function.comp_def] using hreps) hok
  have h2' : All2 (Rep g w) cv.toList ((List.range len).flatMap (litRow z ((parts.toList.map (·.1)).zip ds))) := by simpa [List.map_map, Function.comp_def] using h2
  have hgr := grow_obj (g := g) (w := w) (.cells cv e) m.st.fresh
  have he := hgr.ext m.st.fresh
  have hob : ObjOk g (w.alloc (.cells cv e)) w.heap.size (.cells ((List.range len).flatMap (litRow z ((parts.toList.map (·.1)).zip ds)))) :=
    ⟨(m.st.fresh _ (Nat.le_refl _)).1, _, e, alloc_new w _, by rw [← h2'.len]; simp, fun i v d hv hd => (h2'.get i v d (by simpa using hv) hd).mono he, h3⟩
  obtain ⟨hn, m'⟩ := m.newObj hgr hob
  have hrun : (execOp (Act.mk tmps F.ds).eval oo).run P w = .ok (.value (.slice (some ⟨w.heap.size, 0, none⟩) len len)) (w.alloc (.cells cv e)) := by
    simp only [execOp, hop, Sem.run_bind]
    have e1 : (parts.map fun x => (x.1, (Act.mk tmps F.ds).eval x.2)) = (parts.toList.map fun x => (x.1, (Act.mk tmps F.ds).eval x.2)).toArray := by apply Array.ext'; simp
    rw [e1, h1]
    rfl
  refine goes_world (L' := L) hN hoo hdst hd hw hnd (e := .d (.msl w.heap.size 0 len len n)) hrun he m' (Rep.msl _ _ _ _ _ (Nat.le_refl _) ?_) ?_
  · unfold big
    have : len ≤ len * n := Nat.le_mul_of_pos_right _ hs0
    omega
  · exact h _ hn ops r k hr hkk
theorem appF_ok {g : G} {w : World} {s : St} {sz m : Nat} {v1 v2 : Value} {row row2 : Nat → List D} {tT u ty e : TypeId} {tu : TypeDesc} {i : TypeInfo} {z : Value} (ht : P.underlying tT = some (.slice e)) (hu : P.underlying u = some tu) (hnu : ∀ k, tu ≠ .int k)
    (hi : P.info? e = some i) (hz : i.zero = some z) (hsz : i.size = sz) (hzc : z.cells.size = sz) (hone : ∀ x ∈ z.cells, x.one1 = true) (h0 : 0 < sz) (hs : StOk g s w) (h1 : Rep g w v1 (.sl .full 0 sz row)) {news : List Value} (hm : 0 < m)
    (h2 : RowsRep g w sz m news row2) (h3 : NewsOk P w sz m v2 news) (hb : m * i.bytes ≤ 140737488355328) (hbig : m ≤ big) :
    ∃ (cap : Nat) (cv : Array Value), (Builtin.append_ #[tT, u] ty #[v1, v2]).run P w = .ok (.slice (some ⟨w.heap.size, 0, none⟩) m cap) (w.drew.alloc (.cells cv e)) ∧ m ≤ cap ∧ cap ≤ big ∧ cv.size = cap * sz ∧ (∀ v ∈ cv, v.one1 = true) ∧
      ∀ (k : Nat) (v : Value) (d : D), cv[k]? = some v → ((List.range m).flatMap row2 ++ List.replicate ((cap - m) * sz) .any)[k]? = some d → Rep g w v d := by
  subst hsz
  have grown : ∀ base, v1 = .slice base 0 0 → ∃ (cap : Nat) (cv : Array Value), (Builtin.append_ #[tT, u] ty #[v1, v2]).run P w = .ok (.slice (some ⟨w.heap.size, 0, none⟩) m cap) (w.drew.alloc (.cells cv e)) ∧ m ≤ cap ∧ cap ≤ big ∧ cv.size = cap * i.size ∧ (∀ v ∈ cv, v.one1 = true) ∧
      ∀ (k : Nat) (v : Value) (d : D), cv[k]? = some v → ((List.range m).flatMap row2 ++ List.replicate ((cap - m) * i.size) .any)[k]? = some d → Rep g w v d := by
    intro base hv
    subst hv
    obtain ⟨olds, hr1, ho1, ho2⟩ := rows_of_sl (P := P) h1 h0
    have hne : olds = [] := List.eq_nil_of_length_eq_zero (by simpa using hr1.len)
    subst hne
    have ho := ho2
    have hrun := app_grow (ty := ty) (n := 0) (cap := 0) ht hu hnu hi hz h3 ho (by omega) (by simp only [big] at hbig; omega) (by rw [Nat.zero_add]; exact hb)
    rw [Nat.zero_add] at hrun
    have hge := grownCap_ge w m 0 e
    have hle := grownCap_le_maxLen w m 0 e (by simp only [big] at hbig; simp only [maxLen]; omega)
    refine ⟨_, _, hrun, hge, by simp only [maxLen] at hle; simp only [big]; omega, ?_, fun v hv => ?_, fun k v d hv hd => ?_⟩
    · simp only [List.nil_append, List.size_toArray, List.length_append, h2.len, Array.length_toList, size_zeroCells, hzc, ← Nat.add_mul]
      congr 1; omega
    · simp only [List.nil_append, List.mem_toArray, List.mem_append] at hv
      rcases hv with hv | hv
      · exact h2.one v hv
      · simp only [Builtin.zeroCells, Array.mem_toList_iff] at hv
        first
        | (simp only [Array.mem_map, Array.mem_range] at hv
           obtain ⟨a, _, rfl⟩ := hv
           have hlt : a % z.cells.size < z.cells.size := Nat.mod_lt _ (by omega)
           rw [getElem!_pos z.cells (a % z.cells.size) hlt]
           exact hone _ (Array.getElem_mem hlt))
    · simp only [List.nil_append, List.getElem?_toArray] at hv
      have hfl : ((List.range m).flatMap row2).length = m * i.size := by
        have : ∀ k, k ≤ m → ((List.range k).flatMap row2).length = k * i.size := by
          intro k
          induction k with
          | zero => intro _; simp
          | succ k ih =>
            intro hk
            rw [List.range_succ, List.flatMap_append, List.length_append, ih (by omega)]
            simp [h2.rlen k hk, Nat.add_mul]
        exact this m (Nat.le_refl _)
      by_cases hk : k < m * i.size
      · rw [List.getElem?_append_left (by rw [h2.len]; exact hk)] at hv
        rw [List.getElem?_append_left (by rw [hfl]; exact hk)] at hd
        have hqr : k / i.size < m := Nat.div_lt_of_lt_mul (by rw [Nat.mul_comm]; exact hk)
        have hmr : k % i.size < i.size := Nat.mod_lt _ h0
        have e1 : k / i.size * i.size + k % i.size = k := by rw [Nat.mul_comm]; exact Nat.div_add_mod k i.size
        refine h2.rep (k / i.size) (k % i.size) v d hqr hmr (by rw [e1]; exact hv) ?_
        have key : ∀ q, q ≤ m → ∀ a b, a < q → b < i.size → ((List.range q).flatMap row2)[a * i.size + b]? = (row2 a)[b]? := by
          intro q
          induction q with
          | zero => intro _ a b ha; omega
          | succ q ih =>
            intro hq a b ha hb
            have hlq : ((List.range q).flatMap row2).length = q * i.size := by
              have : ∀ k, k ≤ m → ((List.range k).flatMap row2).length = k * i.size := by
                intro k
                induction k with
                | zero => intro _; simp
                | succ k ih =>
                  intro hk
                  rw [List.range_succ, List.flatMap_append, List.length_append, ih (by omega)]
                  simp [h2.rlen k hk, Nat.add_mul]
              exact this q (by omega)
            rw [List.range_succ, List.flatMap_append]
            by_cases haq : a < q
            · have : a * i.size + b < q * i.size := by
                have := Nat.mul_le_mul_right i.size (show a + 1 ≤ q from haq)
                rw [Nat.add_mul, Nat.one_mul] at this; omega
              rw [List.getElem?_append_left (by rw [hlq]; exact this)]
              exact ih (by omega) a b haq hb
            · obtain rfl : a = q := by omega
              rw [List.getElem?_append_right (by rw [hlq]; omega), hlq]
              simp
        rw [← key m (Nat.le_refl _) _ _ hqr hmr, e1]; exact hd
      · rw [List.getElem?_append_right (by rw [hfl]; omega), List.getElem?_replicate] at hd
        split at hd
        · simp only [Option.some.injEq] at hd; subst hd; exact .any v
        · simp at hd
  cases h1 with
  | sl0 a t s row htt => exact grown a rfl
  | sl b o n cap sz row t f hl hc hp hr one htok hcap hb' =>
    simp only [TokOk] at htok
    subst htok
    exact grown _ rfl
end
end Go.DL
