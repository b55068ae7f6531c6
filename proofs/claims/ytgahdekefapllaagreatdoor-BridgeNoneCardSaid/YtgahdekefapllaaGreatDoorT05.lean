/- Lemmas: EvS, EvT, EvU, EvV, EvW, EvR, EvY, EvZ, EvLib, EvZa. -/
import Derived.Test.YtgahdekefapllaaGreatDoorT04
set_option maxHeartbeats 16000000
set_option linter.all false
namespace Go.DL
open Go
theorem keepsB_of {s s' : St} {L L' : Loc} : ∀ {B : List (Nat × Rd)}, (∀ n b, (n, .blk b) ∈ B → s' b = s b) → (∀ n l, (n, .loc l) ∈ B → getL L' l = getL L l) → keepsB s s' L L' B
  | [], _, _ => trivial
  | (n, .blk b) :: B, h1, h2 => ⟨h1 n b (by simp), keepsB_of (fun m b hb => h1 m b (by simp [hb])) (fun m l hl => h2 m l (by simp [hl]))⟩
  | (n, .loc l) :: B, h1, h2 => ⟨h2 n l (by simp), keepsB_of (fun m b hb => h1 m b (by simp [hb])) (fun m l hl => h2 m l (by simp [hl]))⟩
theorem memB_iff {n : Nat} : ∀ {l : List Nat}, memB n l = true ↔ n ∈ l
  | [] => by simp [memB]
  | a :: r => by
    simp only [memB, Bool.or_eq_true, beq_iff_eq, List.mem_cons, memB_iff (l := r)]
    constructor
    · rintro (h | h)
      · exact .inl h.symm
      · exact .inr h
    · rintro (h | h)
      · exact .inl h.symm
      · exact .inr h
theorem keepsF_of {fl : List Nat} {s s' : St} {L L' : Loc} {B : List (Nat × Rd)} (h1 : ∀ n b, n ∈ fl → (n, .blk b) ∈ B → s' b = s b) (h2 : ∀ n l, n ∈ fl → (n, .loc l) ∈ B → getL L' l = getL L l) : keepsF fl s s' L L' B :=
  keepsB_of (fun n b hb => h1 n b (memB_iff.1 (nextB_iff.1 hb).1) (nextB_iff.1 hb).2) (fun n b hb => h2 n b (memB_iff.1 (nextB_iff.1 hb).1) (nextB_iff.1 hb).2)
theorem memN_iff {n : Nat} : ∀ {l : List Nat}, memN n l = true ↔ n ∈ l
  | [] => by simp [memN]
  | a :: r => by
    simp only [memN, List.mem_cons]
    split
    · rename_i h; rw [beq_iff] at h; simp [h]
    · rename_i h
      have : ¬ n = a := fun e => h (by rw [beq_iff, e])
      rw [memN_iff]; simp [this]
theorem addN_mem {n m : Nat} {l : List Nat} (h : m = n ∨ m ∈ l) : m ∈ addN n l := by
  unfold addN
  split
  · rename_i hm; rcases h with rfl | h
    · exact memN_iff.1 hm
    · exact h
  · rcases h with rfl | h <;> simp [*]
theorem selN_mem {fl : List Nat} {n k : Nat} (hn : n ∈ fl) : ∀ {l : List (Nat × Nat)}, (n, k) ∈ l → k ∈ selN fl l
  | [], h => by simp at h
  | (t, m) :: r, h => by
    simp only [selN]
    rcases List.mem_cons.1 h with h | h
    · simp only [Prod.mk.injEq] at h
      obtain ⟨rfl, rfl⟩ := h
      rw [if_pos (memN_iff.2 hn)]
      exact addN_mem (.inl rfl)
    · split
      · exact addN_mem (.inr (selN_mem hn h))
      · exact selN_mem hn h
theorem keepN_mem {fl : List Nat} {n k : Nat} (hn : n ∈ fl) : ∀ {l : List (Nat × Nat)}, (n, k) ∈ l → (n, k) ∈ keepN fl l
  | [], h => by simp at h
  | (t, m) :: r, h => by
    simp only [keepN]
    rcases List.mem_cons.1 h with h | h
    · simp only [Prod.mk.injEq] at h
      obtain ⟨rfl, rfl⟩ := h
      rw [if_pos (memN_iff.2 hn)]
      simp
    · split
      · exact List.mem_cons_of_mem _ (keepN_mem hn h)
      · exact keepN_mem hn h
theorem getA_none {u : Nat} : ∀ {r : List (Nat × Nat × Nat)}, getA u r = none → ∀ x ∈ r, x.1 ≠ u
  | [], _, x, h => by simp at h
  | (t, a) :: r, hn, x, h => by
    simp only [getA] at hn
    split at hn
    · simp at hn
    · rename_i ht
      rcases List.mem_cons.1 h with rfl | h
      · exact fun e => ht (beq_iff.2 e)
      · exact getA_none hn x h
theorem getA_mem {u : Nat} {a : Nat × Nat} : ∀ {r : List (Nat × Nat × Nat)}, getA u r = some a → (u, a) ∈ r
  | [], h => by simp [getA] at h
  | (t, b) :: r, h => by
    simp only [getA] at h
    split at h
    · rename_i ht
      rw [beq_iff] at ht
      simp only [Option.some.injEq] at h
      subst h; subst ht; simp
    · exact List.mem_cons_of_mem _ (getA_mem h)
theorem getC_set {l : Nat} {vs : List V} {x : Nat} : ∀ {r : List (Nat × List V)}, getC x (setC l vs r) = if x = l then (match getC l r with
    | some _ => some vs
    | none => none) else getC x r
  | [] => by simp [setC, getC]
  | (t, c) :: r => by
    simp only [setC]
    by_cases ht : t = l
    · subst ht
      rw [if_pos (beq_iff.2 rfl)]
      simp only [getC]
      by_cases hx : x = t
      · subst hx; simp [beq_iff.2 rfl]
      · rw [if_neg hx]
        have : ¬ Nat.beq t x = true := fun h => hx (beq_iff.1 h).symm
        rw [if_neg this, if_neg this]
    · rw [if_neg (fun h => ht (beq_iff.1 h))]
      simp only [getC]
      rw [getC_set (r := r)]
      by_cases hx : x = l
      · subst hx
        have : ¬ Nat.beq t x = true := fun h => ht (beq_iff.1 h)
        rw [if_neg this, if_neg this, if_pos rfl]
      · simp only [hx, if_false]
theorem setC_keys {l : Nat} {vs : List V} : ∀ {r : List (Nat × List V)}, (setC l vs r).map (·.1) = r.map (·.1)
  | [] => rfl
  | (t, c) :: r => by
    simp only [setC]
    split
    · simp
    · simp [setC_keys (r := r)]
theorem getC_none {l : Nat} : ∀ {r : List (Nat × List V)}, getC l r = none → l ∉ r.map (·.1)
  | [], _ => by simp
  | (t, c) :: r, h => by
    simp only [getC] at h
    split at h
    · simp at h
    · rename_i ht
      simp only [List.map_cons, List.mem_cons, not_or]
      exact ⟨fun e => ht (beq_iff.2 e.symm), getC_none h⟩
theorem roAble_ok {o : O} (h : roAble o = true) : isRo o = false ∧ ∀ n, o ≠ .tok n := by
  cases o <;> simp [roAble] at h <;> exact ⟨rfl, fun n => by simp⟩
theorem outN_ok : ∀ {ks : List Nat} {σ σ0 : S} {l : List (Nat × O)}, outN ks σ = some (σ0, l) →
    (∀ k o, σ0.get k = some o → (σ.get k = some o ∧ ∀ o', (k, o') ∉ l) ∨ ∃ o', o = .ro o' ∧ (k, o') ∈ l) ∧ (∀ k o, (k, o) ∈ l → σ.get k = some o ∧ roAble o = true) ∧ ∀ k ∈ ks, (∃ o, (k, o) ∈ l) ∨ ∃ o, σ.get k = some (.ro o)
  | [], σ, σ0, l, h => by
    simp only [outN, Option.some.injEq, Prod.mk.injEq] at h
    obtain ⟨rfl, rfl⟩ := h
    exact ⟨fun k o h => .inl ⟨h, fun _ h => by simp at h⟩, fun k o h => by simp at h, fun k h => by simp at h⟩
  | k :: ks, σ, σ0, l, h => by
    simp only [outN] at h
    split at h <;> (try (simp at h; done))
    rename_i o ho
    split at h
    · rename_i hro
      split at h <;> simp only [Option.some.injEq, Prod.mk.injEq, reduceCtorEq] at h
      rename_i σ' l' hr
      obtain ⟨rfl, rfl⟩ := h
      obtain ⟨h1, h2, h3⟩ := outN_ok hr
      refine ⟨fun k' o' h => ?_, fun k' o' h => ?_, fun k' h => ?_⟩
      · rcases h1 k' o' h with ⟨h4, h5⟩ | ⟨o2, rfl, h4⟩
        · rcases T.get_set h4 with ⟨rfl, h6⟩ | ⟨h0, h6⟩
          · simp only [Option.some.injEq] at h6
            exact .inr ⟨o, h6.symm, by simp⟩
          · refine .inl ⟨h6, fun o2 hm => ?_⟩
            rcases List.mem_cons.1 hm with hm | hm
            · simp only [Prod.mk.injEq] at hm; exact h0 hm.1
            · exact h5 o2 hm
        · exact .inr ⟨o2, rfl, by simp [h4]⟩
      · rcases List.mem_cons.1 h with h | h
        · simp only [Prod.mk.injEq] at h
          obtain ⟨rfl, rfl⟩ := h
          exact ⟨ho, hro⟩
        · obtain ⟨h4, h5⟩ := h2 k' o' h
          rcases T.get_set h4 with ⟨rfl, h6⟩ | ⟨_, h6⟩
          · simp only [Option.some.injEq] at h6
            subst h6; simp [roAble] at h5
          · exact ⟨h6, h5⟩
      · rcases List.mem_cons.1 h with rfl | h
        · exact .inl ⟨o, by simp⟩
        · rcases h3 k' h with ⟨o', h⟩ | ⟨o', h⟩
          · exact .inl ⟨o', by simp [h]⟩
          · rcases T.get_set h with ⟨rfl, _⟩ | ⟨_, h⟩
            · exact .inl ⟨o, by simp⟩
            · exact .inr ⟨o', h⟩
    · split at h <;> (try (simp at h; done))
      rename_i hro
      obtain ⟨h1, h2, h3⟩ := outN_ok h
      refine ⟨h1, h2, fun k' hk => ?_⟩
      rcases List.mem_cons.1 hk with rfl | hk
      · cases o <;> simp [isRo] at hro
        exact .inr ⟨_, ho⟩
      · exact h3 k' hk
theorem backN_ok : ∀ {l : List (Nat × O)} {σ σ2 : S}, backN l σ = some σ2 → (∀ k o, σ2.get k = some o → (k, o) ∈ l ∨ (σ.get k = some o ∧ ∀ o', (k, o') ∉ l)) ∧ ∀ k o, (k, o) ∈ l → ∃ o', σ.get k = some (.ro o')
  | [], σ, σ2, h => by
    simp only [backN, Option.some.injEq] at h
    subst h
    exact ⟨fun k o h => .inr ⟨h, fun _ h => by simp at h⟩, fun k o h => by simp at h⟩
  | (k', o') :: l, σ, σ2, h => by
    simp only [backN] at h
    split at h <;> (try (simp at h; done))
    rename_i o1 ho
    split at h <;> simp only [Option.some.injEq, reduceCtorEq] at h
    rename_i σ' hb
    subst h
    obtain ⟨h1, h2⟩ := backN_ok hb
    refine ⟨fun k o h => ?_, fun k o h => ?_⟩
    · rcases T.get_set h with ⟨rfl, h3⟩ | ⟨h0, h3⟩
      · simp only [Option.some.injEq] at h3
        subst h3; exact .inl (by simp)
      · rcases h1 k o h3 with h4 | ⟨h4, h5⟩
        · exact .inl (by simp [h4])
        · refine .inr ⟨h4, fun o2 hm => ?_⟩
          rcases List.mem_cons.1 hm with hm | hm
          · simp only [Prod.mk.injEq] at hm; exact h0 hm.1
          · exact h5 o2 hm
    · rcases List.mem_cons.1 h with h | h
      · simp only [Prod.mk.injEq] at h
        obtain ⟨rfl, rfl⟩ := h
        exact ⟨o1, ho⟩
      · exact h2 k o h
section
variable {C : Px} {η η' : Nm} {σ σ0 σ' σ2 : S} {s s' : St}
def LentOk (C : Px) (η : Nm) (l : List (Nat × O)) (s t : St) : Prop :=
  (∀ b d, C.t b = some d → t b = some d) ∧ (∀ k o b, (k, o) ∈ l → η k = some (.tip b) → t b = s b) ∧ ∀ b d, t b = some d → C.t b = some d ∨ ∃ k o, (k, o) ∈ l ∧ η k = some (.tip b)
open Classical in
theorem Sim.lend (hS : Sim C η σ s) {ks : List Nat} {l : List (Nat × O)} (h : outN ks σ = some (σ0, l)) : ∃ t, Sim ⟨C.toCx, t⟩ η σ0 s ∧ LentOk C η l s t := by
  obtain ⟨h1, h2, _⟩ := outN_ok h
  have hM : ∀ b k o, (k, o) ∈ l → η k = some (.tip b) → ∃ d, s b = some d ∧ OR C η k o d := fun b k o hm hb => by
    obtain ⟨g1, g2⟩ := h2 k o hm
    obtain ⟨b', d, e1, e2, e3⟩ := hS.get g1 (roAble_ok g2).2
    rw [hb] at e1
    simp only [Option.some.injEq, Tok.tip.injEq] at e1
    subst e1
    exact ⟨d, e2, e3⟩
  have hin : ∀ k o, σ0.get k = some o → ∃ o', σ.get k = some o' := fun k o hk => by
    rcases h1 k o hk with ⟨g, _⟩ | ⟨o', _, g⟩
    · exact ⟨o, g⟩
    · exact ⟨o', (h2 k o' g).1⟩
  let t : St := fun b => if ∃ k o, (k, o) ∈ l ∧ η k = some (.tip b) then s b else C.t b
  have ht1 : ∀ b, (∃ k o, (k, o) ∈ l ∧ η k = some (.tip b)) → t b = s b := fun b hb => by simp only [t]; rw [if_pos hb]
  have ht2 : ∀ b, ¬ (∃ k o, (k, o) ∈ l ∧ η k = some (.tip b)) → t b = C.t b := fun b hb => by simp only [t]; rw [if_neg hb]
  have hL : LentOk C η l s t := by
    refine ⟨fun b d hb => ?_, fun k o b hm hb => ht1 b ⟨k, o, hm, hb⟩, fun b d hb => ?_⟩
    · by_cases hm : ∃ k o, (k, o) ∈ l ∧ η k = some (.tip b)
      · rw [ht1 b hm]; exact (hS.kp b d hb).1
      · rw [ht2 b hm]; exact hb
    · by_cases hm : ∃ k o, (k, o) ∈ l ∧ η k = some (.tip b)
      · exact .inr hm
      · rw [ht2 b hm] at hb; exact .inl hb
  refine ⟨t, ⟨fun k o hk => ?_, fun k k' o o' b hk hk' e e' => ?_, fun b d hb => ?_, fun k o b hk e => ?_⟩, hL⟩
  · rcases h1 k o hk with ⟨g, _⟩ | ⟨o', rfl, g⟩
    · exact hS.obj k o g
    · obtain ⟨g1, g2⟩ := h2 k o' g
      obtain ⟨b, d, e1, e2, e3⟩ := hS.get g1 (roAble_ok g2).2
      exact ⟨_, e1, .inl ⟨b, d, rfl, e2, .ro o' d e3 (roAble_ok g2).1 (roAble_ok g2).2⟩⟩
  · obtain ⟨o1, g1⟩ := hin _ _ hk
    obtain ⟨o2, g2⟩ := hin _ _ hk'
    exact hS.inj k k' o1 o2 b g1 g2 e e'
  · have hb : t b = some d := hb
    by_cases hm : ∃ k o, (k, o) ∈ l ∧ η k = some (.tip b)
    · refine ⟨by rw [← ht1 b hm]; exact hb, fun k' o' hk hr e => ?_⟩
      obtain ⟨k, o, hm, hb⟩ := hm
      rcases h1 k' o' hk with ⟨g, g'⟩ | ⟨o2, rfl, _⟩
      · have := hS.inj k k' o o' b (h2 k o hm).1 g hb e
        subst this
        exact g' o hm
      · simp [isRo] at hr
    · rw [ht2 b hm] at hb
      refine ⟨(hS.kp b d hb).1, fun k' o' hk hr e => ?_⟩
      rcases h1 k' o' hk with ⟨g, _⟩ | ⟨o2, rfl, _⟩
      · exact (hS.kp b d hb).2 k' o' g hr e
      · simp [isRo] at hr
  · show ∃ d, t b = some d
    rcases h1 k _ hk with ⟨g, _⟩ | ⟨o', e0, g⟩
    · obtain ⟨d, hd⟩ := hS.ro k o b g e
      exact ⟨d, hL.1 b d hd⟩
    · simp only [O.ro.injEq] at e0
      subst e0
      obtain ⟨d, hd, _⟩ := hM b k o g e
      exact ⟨d, by rw [hL.2.1 k o b g e]; exact hd⟩
theorem Sim.unlend (hS : Sim C η σ s) {ks : List Nat} {l : List (Nat × O)} (h : outN ks σ = some (σ0, l)) {t : St} (hL : LentOk C η l s t) (hs : η.Sub η') (hS' : Sim ⟨C.toCx, t⟩ η' σ' s') (hb : backN l σ' = some σ2) :
    Sim C η' σ2 s' ∧ ∀ k b, k ∈ ks → η k = some (.tip b) → s' b = s b := by
  obtain ⟨h1, h2, h3⟩ := outN_ok h
  obtain ⟨b1, b2⟩ := backN_ok hb
  obtain ⟨l1, l2, l3⟩ := hL
  have hM : ∀ k o b, (k, o) ∈ l → η k = some (.tip b) → ∃ d, s b = some d ∧ s' b = some d ∧ OR C η k o d := fun k o b hm hb => by
    obtain ⟨g1, g2⟩ := h2 k o hm
    obtain ⟨b', d, e1, e2, e3⟩ := hS.get g1 (roAble_ok g2).2
    rw [hb] at e1
    simp only [Option.some.injEq, Tok.tip.injEq] at e1
    subst e1
    exact ⟨d, e2, (hS'.kp b d (by show t b = _; rw [l2 k o b hm hb]; exact e2)).1, e3⟩
  have hin : ∀ k o, σ2.get k = some o → ∃ o', σ'.get k = some o' := fun k o hk => by
    rcases b1 k o hk with g | ⟨g, _⟩
    · obtain ⟨o', g⟩ := b2 k o g; exact ⟨_, g⟩
    · exact ⟨o, g⟩
  refine ⟨⟨fun k o hk => ?_, fun k k' o o' b hk hk' e e' => ?_, fun b d hb => ?_, fun k o b hk e => ?_⟩, fun k b hk hb => ?_⟩
  · rcases b1 k o hk with g | ⟨g, _⟩
    · obtain ⟨g1, g2⟩ := h2 k o g
      obtain ⟨b, d, e1, e2, e3⟩ := hS.get g1 (roAble_ok g2).2
      obtain ⟨d', f1, f2, f3⟩ := hM k o b g e1
      exact ⟨_, hs _ _ e1, .inl ⟨b, d', rfl, f2, f3.mono hs⟩⟩
    · exact hS'.obj k o g
  · obtain ⟨o1, g1⟩ := hin _ _ hk
    obtain ⟨o2, g2⟩ := hin _ _ hk'
    exact hS'.inj k k' o1 o2 b g1 g2 e e'
  · obtain ⟨e1, e2⟩ := hS'.kp b d (l1 b d hb)
    refine ⟨e1, fun k o hk hr e => ?_⟩
    rcases b1 k o hk with g | ⟨g, _⟩
    · exact (hS.kp b d hb).2 k o (h2 k o g).1 hr (hS.name hs (h2 k o g).1 e)
    · exact e2 k o g hr e
  · rcases b1 k _ hk with g | ⟨g, g'⟩
    · have := (h2 k _ g).2; simp [roAble] at this
    · obtain ⟨d, hd⟩ := hS'.ro k o b g e
      rcases l3 b d hd with hd | ⟨k0, o0, hm, hb0⟩
      · exact ⟨d, hd⟩
      · obtain ⟨o1, g1⟩ := b2 k0 o0 hm
        have := hS'.inj k k0 _ _ b g g1 e (hs _ _ hb0)
        subst this
        exact absurd hm (g' o0)
  · rcases h3 k hk with ⟨o, hm⟩ | ⟨o, ho⟩
    · obtain ⟨d, f1, f2, _⟩ := hM k o b hm hb
      rw [f1, f2]
    · obtain ⟨d, hd⟩ := hS.ro k o b ho hb
      rw [(hS.kp b d hd).1, (hS'.kp b d (l1 b d hd)).1]
end
def LocAt (ρd : Env) (u l o : Nat) : Prop := getE ρd u = some (.loc l o) ∨ getE ρd u = some (.when true (.loc l o))
structure RlOk (η : Nm) (r : Rl) (ρd : Env) (L : Loc) (B : List (Nat × Rd)) : Prop where
  cs : ∀ l vs, getC l r.cs = some vs → ∃ ds, getL L l = some ds ∧ VRs η vs ds
  no : ∀ l, getC l r.cs = none → getL L l = none
  nd : (r.cs.map (·.1)).Nodup
  ad : ∀ u l o, (u, l, o) ∈ r.ad → LocAt ρd u l o
  lt : ∀ u l o, (u, l, o) ∈ r.ad → u < 32768
  bn : ∀ n b, (n, .blk b) ∈ B → ∃ k, (n, k) ∈ r.bn ∧ η k = some (.tip b)
  bl : ∀ n l, (n, .loc l) ∈ B → (n, l) ∈ r.bl
theorem RlOk.nil {η : Nm} {ρd : Env} : RlOk η Rl.nil ρd [] [] := {
  cs l vs h := by simp [Rl.nil, getC] at h
  no l _ := rfl
  nd := by simp [Rl.nil]
  ad u l o h := by simp [Rl.nil] at h
  lt u l o h := by simp [Rl.nil] at h
  bn n b h := by simp at h
  bl n l h := by simp at h }
section
variable {η η' : Nm} {r : Rl} {ρd : Env} {L : Loc} {B : List (Nat × Rd)}
theorem RlOk.mono (h : RlOk η r ρd L B) (hs : η.Sub η') : RlOk η' r ρd L B := {
  cs l vs hl := by
    obtain ⟨ds, a, b⟩ := h.cs l vs hl
    exact ⟨ds, a, b.mono hs⟩
  no := h.no
  nd := h.nd
  ad := h.ad
  lt := h.lt
  bn n b hb := by
    obtain ⟨k, a, c⟩ := h.bn n b hb
    exact ⟨k, a, hs _ _ c⟩
  bl := h.bl }
theorem LocAt.put {u l o : Nat} (h : LocAt ρd u l o) {dst : Option Nat} (hd : dst ≠ some u) {e : E} : LocAt (putE ρd dst e) u l o := by
  unfold LocAt
  rw [getE_put, if_neg hd]
  exact h
theorem noA_ok {t : Nat} (h : noA t r = true) : ∀ u l o, (u, l, o) ∈ r.ad → t ≠ u := fun u l o hm e => by
  unfold noA at h
  split at h
  · exact getA_none ‹_› _ hm e.symm
  · simp at h
theorem noA_lt {t : Nat} (h : noA t r = true) : t < 32768 := by
  unfold noA at h
  split at h
  · simpa [Nat.blt_eq] using h
  · simp at h
theorem okDst_ok {dst : Option Nat} (h : okDst dst r = true) : ∀ u l o, (u, l, o) ∈ r.ad → dst ≠ some u := fun u l o hm e => by
  subst e
  exact noA_ok h u l o hm rfl
theorem RlOk.put (h : RlOk η r ρd L B) {dst : Option Nat} (hd : okDst dst r = true) (e : E) : RlOk η r (putE ρd dst e) L B :=
  { h with ad := fun u l o hm => (h.ad u l o hm).put (okDst_ok hd u l o hm) }
theorem RlOk.next (h : RlOk η r ρd L B) (fl : List Nat) : RlOk η (nextR fl r) ρd L (nextB fl B) := by
  have h1 : ∀ {fl : List Nat} n b, (n, .blk b) ∈ nextB fl B → ∃ k, (n, k) ∈ keepN fl r.bn ∧ η k = some (.tip b) := fun {fl} n b hb => by
    obtain ⟨e1, e2⟩ := nextB_iff.1 hb
    obtain ⟨k, a, c⟩ := h.bn n b e2
    exact ⟨k, keepN_mem (memB_iff.1 e1) a, c⟩
  have h2 : ∀ {fl : List Nat} n l, (n, .loc l) ∈ nextB fl B → (n, l) ∈ keepN fl r.bl := fun {fl} n l hb => by
    obtain ⟨e1, e2⟩ := nextB_iff.1 hb
    exact keepN_mem (memB_iff.1 e1) (h.bl n l e2)
  cases fl with
  | nil => rw [nextB_nil]; exact { cs := h.cs, no := h.no, nd := h.nd, ad := h.ad, lt := h.lt, bn := fun n b hb => by simp at hb, bl := fun n b hb => by simp at hb }
  | cons a fl => exact { cs := h.cs, no := h.no, nd := h.nd, ad := h.ad, lt := h.lt, bn := h1, bl := h2 }
theorem adOf_ok (h : RlOk η r ρd L B) {x : Opd} {l o : Nat} (ha : adOf x r = some (l, o)) : ∃ p, argE ρd true x = some (p, .loc l o) ∧ p := by
  cases x with
  | cst d => simp [adOf] at ha
  | tmp t =>
    simp only [adOf] at ha
    rcases h.ad t l o (getA_mem ha) with h | h
    · exact ⟨True, by simp only [argE, h], trivial⟩
    · exact ⟨True → True, by simp only [argE, h], fun _ => trivial⟩
theorem RlOk.addr (h : RlOk η r ρd L B) {u l o : Nat} (hn : noA u r = true) {e : E} (he : e = .loc l o ∨ e = .when true (.loc l o)) : RlOk η ⟨r.cs, (u, l, o) :: r.ad, r.bn, r.bl⟩ (putE ρd (some u) e) L B :=
  { h with
    ad := fun u' l' o' hm => by
      rcases List.mem_cons.1 hm with hm | hm
      · simp only [Prod.mk.injEq] at hm
        obtain ⟨rfl, rfl, rfl⟩ := hm
        unfold LocAt
        rw [getE_put, if_pos rfl]
        exact he.imp (by rintro rfl; rfl) (by rintro rfl; rfl)
      · exact (h.ad u' l' o' hm).put (fun hu => noA_ok hn u' l' o' hm (by simpa using hu))
    lt := fun u' l' o' hm => by
      rcases List.mem_cons.1 hm with hm | hm
      · simp only [Prod.mk.injEq] at hm
        rw [hm.1]; exact noA_lt hn
      · exact h.lt u' l' o' hm }
theorem EnvR.off {ρ : T W} (h : EnvR η [] ρ ρd) (u : Nat) (e : E) : EnvR η [] (ρ.set none u) (putE ρd (some u) e) := fun t w hw hl => by
  rcases T.get_set hw with ⟨_, h1⟩ | ⟨hne, h1⟩
  · simp at h1
  · obtain ⟨e', h2, h3⟩ := h t w h1 hl
    exact ⟨e', by rw [getE_put, if_neg (by simpa using Ne.symm hne)]; exact h2, h3⟩
theorem RlOk.reads (h : RlOk η r ρd L B) {R : List (Nat × Rd)} {bn bl : List (Nat × Nat)} (h1 : ∀ k, k ∈ r.bn → k ∈ bn) (h2 : ∀ k, k ∈ r.bl → k ∈ bl) (h3 : ∀ n b, (n, .blk b) ∈ R → ∃ k, (n, k) ∈ bn ∧ η k = some (.tip b)) (h4 : ∀ n l, (n, .loc l) ∈ R → (n, l) ∈ bl) : RlOk η ⟨r.cs, r.ad, bn, bl⟩ ρd L (R ++ B) :=
  { h with
    bn := fun n b hb => by
      rcases List.mem_append.1 hb with hb | hb
      · exact h3 n b hb
      · obtain ⟨k, a, c⟩ := h.bn n b hb
        exact ⟨k, h1 _ a, c⟩
    bl := fun n l hb => by
      rcases List.mem_append.1 hb with hb | hb
      · exact h4 n l hb
      · exact h2 _ (h.bl n l hb) }
end
end Go.DL
namespace Go.DL
open Go
section
variable {C : Px} {ih : Ih} {dk : List DItem} {os : List (DOp × List Nat)} {rest : Bx RgD}
def RestD (C : Px) (ih : Ih) (rest : Bx RgD) (dk : List DItem) (os : List (DOp × List Nat)) : Prop :=
  ∀ r fm ρ σ nx o, rest.run r ih dk fm ρ σ nx = some o → ∀ (F : Fr C.P) η ρd L s B, FmR C η fm o F → EnvR η [] ρ ρd → NmOk η nx → Sim C η σ s → RlOk η r ρd L B → DOA F none dk os ρd L s B
variable {r : Rl} {fm : Fm} {ρ : T W} {σ : S} {nx : Nat} {o : Out} {F : Fr C.P} {η : Nm} {ρd : Env} {L : Loc} {s : St} {B : List (Nat × Rd)}
theorem nameV_ok {t : Nat} {v : V} {d : D} (hv : VR η v d) (h : RlOk η r ρd L B) : RlOk η (nameV t v r) ρd L ((readsD (.d d)).map (fun b => (t, b)) ++ B) := by
  have key : ∀ {k b : Nat}, η k = some (.tip b) → RlOk η ⟨r.cs, r.ad, (t, k) :: r.bn, r.bl⟩ ρd L ([(t, .blk b)] ++ B) := fun {k b} hb =>
    h.reads (fun _ hm => List.mem_cons_of_mem _ hm) (fun _ hm => hm) (fun n b' hb' => ⟨k, by
      simp only [List.mem_singleton, Prod.mk.injEq, Rd.blk.injEq] at hb'
      rw [hb'.1, hb'.2]
      exact ⟨by simp, hb⟩⟩) (fun n l hl => by simp at hl)
  cases hv <;> first | exact h | exact key ‹_›
theorem argsF_inv {x : Opd} {xs : List Opd} {vs : List V} (h : (argsF (x :: xs)).run ρ = some vs) : ∃ v vs', (argF x).run ρ = some v ∧ (argsF xs).run ρ = some vs' ∧ vs = v :: vs' := by
  simp only [argsF] at h
  split at h <;> (try (simp at h; done))
  rename_i v hv
  split at h <;> simp only [Option.some.injEq, reduceCtorEq] at h
  rename_i vs' hvs
  exact ⟨v, vs', hv, hvs, h.symm⟩
theorem rdR_ok (hρ : EnvR η [] ρ ρd) {dst : Option Nat} {g : Option (Nat × Bool)} {k : K} (hg : guardB ρd g = some true) {db : Bool} {r3 : R3} (h : (opF false db k).run ρ σ nx = some r3) {ρd' : Env} (hR : RlOk η r ρd' L B) :
    RlOk η ((rdR (dst.getD 0) k).run ρ r) ρd' L (readsT ⟨dst, g, k⟩ ρd ++ B) := by
  cases k
  case q q xs =>
    cases hr : readK (.q q xs) with
    | false => simpa only [rdR, readsT, readsO, hr, Bool.false_eq_true, if_false, List.map_nil, List.nil_append] using hR
    | true =>
      simp only [rdR, readsT, readsO, hr, if_true, hg]
      cases xs with
      | nil => exact hR
      | cons x ys =>
        simp only [opF] at h
        split at h <;> (try (simp at h; done))
        rename_i vs hvs
        obtain ⟨p, ds, a1, a2, a3⟩ := argsF_ok hρ hvs
        obtain ⟨v, vs', hv, _, rfl⟩ := argsF_inv hvs
        obtain ⟨d, ds', rfl, b1, b2⟩ := a3.inv
        simp only [a1, List.map_cons, hv]
        exact nameV_ok b1 hR
  all_goals exact hR
theorem quietD_ok (hrest : RestD C ih rest dk os) {dst : Option Nat} {g : Option (Nat × Bool)} {fl : List Nat} {k : K} (hk : quietK k = true) (h : (quietD rest dst k).run r ih dk fm ρ σ nx = some o) (hg : guardB ρd g = some true)
    (hF : FmR C η fm o F) (hρ : EnvR η [] ρ ρd) (hN : NmOk η nx) (hS : Sim C η σ s) (hR : RlOk η r ρd L B) : DOA F none dk ((⟨dst, g, k⟩, fl) :: os) ρd L s B := by
  simp only [quietD] at h
  split at h <;> (try (simp at h; done))
  rename_i v σ1 nx1 hop
  obtain ⟨hd, hh⟩ := noV_inv h
  obtain ⟨e1, e2, side, e, e3, e4, e5⟩ := opF_quiet (L := L) (dst := dst) hS hN.o hρ.anyL hg hk hop
  have hpk : pendK k = true := by cases k <;> simp [quietK] at hk <;> rfl
  refine DOA_step e4 e3 ?_
  simp only [hpk, if_true]
  exact hrest _ _ _ _ _ _ hh F η _ L s _ hF (putF_ok hρ (show WR η [] (.v v) e from e5) dst) hN hS (rdR_ok hρ hg hop (hR.put hd e))
theorem outF_ok {fl : List Nat} {σ0 : S} {l : List (Nat × O)} (h : outF fl r σ = some (σ0, l)) : ∃ ks, outN ks σ = some (σ0, l) ∧ ∀ n k, n ∈ fl → (n, k) ∈ r.bn → k ∈ ks := by
  cases fl with
  | nil => exact ⟨[], h, fun _ _ h => by simp at h⟩
  | cons a fl => exact ⟨_, h, fun n k hn hk => selN_mem hn hk⟩
theorem effD_ok (hrest : RestD C ih rest dk os) {f : FuncId} {dst : Option Nat} {g : Option (Nat × Bool)} {fl : List Nat} {k : K} (hk : quietK k = false) (hp : pendK k = false) (hnf : noFk k = true) (h : (effD C f rest dst g fl k).run r ih dk fm ρ σ nx = some o) (hg : guardB ρd g = some true)
    (hF : FmR C η fm o F) (hρ : EnvR η [] ρ ρd) (hN : NmOk η nx) (hS : Sim C η σ s) (hR : RlOk η r ρd L B) : DOA F none dk ((⟨dst, g, k⟩, fl) :: os) ρd L s B := by
  unfold effD at h
  split at h <;> (try (simp at h; done))
  rename_i hgk
  simp only at h
  split at h <;> (try (simp at h; done))
  rename_i σ0 l hout
  split at h <;> (try (simp at h; done))
  rename_i v σ1 nx1 hop
  split at h <;> (try (simp at h; done))
  rename_i σ2 hback
  obtain ⟨hd, hh⟩ := noV_inv h
  obtain ⟨ks, o1, o2⟩ := outF_ok hout
  obtain ⟨t, hS0, hL⟩ := hS.lend o1
  refine DOA_eff (RelO ⟨C.toCx, t⟩ η ⟨v, σ1, nx1⟩) hp (fun ρ' L' os' hag hc => ?_) (fun e s2 hr => ?_)
  · exact eff_ok hS0 hN hρ (by rw [guardB_congr (fun t ht => hag t (by simp [namesO, ht]))]; exact hg) hgk hk hnf hop hag hc
  · obtain ⟨η', k1, k2, k3, d, k4, rfl⟩ := hr
    obtain ⟨u1, u2⟩ := hS.unlend o1 hL k1 k3 hback
    refine ⟨keepsF_of (fun n b hf hb => ?_) (fun _ _ _ _ => rfl), hrest _ _ _ _ _ _ hh F η' _ L s2 _ (hF.mono k1) (putF_ok (hρ.mono k1) (WR.val k4) dst) k2 u1 (((hR.put hd _).next fl).mono k1)⟩
    obtain ⟨kn, n1, n2⟩ := hR.bn n b hb
    exact u2 kn b (o2 n kn hf n1) n2
theorem callD_ok (hlib : LibOk C) (hih : IhOk C ih) (hrest : RestD C ih rest dk os) {f : FuncId} {dst : Option Nat} {g : Option (Nat × Bool)} {fl : List Nat} {fx : Opd} {xs : List Opd} (h : (goD C f rest dst g fl (.call fx xs)).run r ih dk fm ρ σ nx = some o) (hg : guardB ρd g = some true)
    (hF : FmR C η fm o F) (hρ : EnvR η [] ρ ρd) (hN : NmOk η nx) (hS : Sim C η σ s) (hR : RlOk η r ρd L B) : DOA F none dk ((⟨dst, g, .call fx xs⟩, fl) :: os) ρd L s B := by
  simp only [goD] at h
  split at h <;> (try (simp at h; done))
  rename_i fv hfv
  split at h <;> (try (simp at h; done))
  rename_i vs hvs
  split at h <;> (try (simp at h; done))
  rename_i σ0 l hout
  split at h <;> (try (simp at h; done))
  rename_i pan v σ' nx' hcall
  split at h <;> (try (simp at h; done))
  rename_i σ2 hback
  obtain ⟨ks, o1, o2⟩ := outF_ok hout
  obtain ⟨t, hS0, hL⟩ := hS.lend o1
  obtain ⟨p, fd, a1, a2, a3⟩ := argF_ok hρ hfv
  obtain ⟨q, ds, b1, b2, b3⟩ := argsF_ok hρ hvs
  have hV : VCalls C.P fd ds s (Post ⟨C.toCx, t⟩ η ⟨pan, v, σ', nx'⟩) := callV_ok (C := ⟨C.toCx, t⟩) hlib hih hcall a3 b3 hN hS0
  refine DOA_vcall hg rfl a1 b1 (dsOf_map ds) b2 a2 hV (fun d S1 hp => ?_) (fun d S1 hp => ?_)
  · obtain ⟨η1, d1, k1, k2, k3, k4, k5⟩ := hp
    cases pan with
    | true => simp at k5
    | false =>
      simp only [Bool.false_eq_true, if_false, Res.ret.injEq] at k5
      subst k5
      obtain ⟨hd, hh⟩ := noV_inv h
      obtain ⟨u1, u2⟩ := hS.unlend o1 hL k1 k3 hback
      refine ⟨keepsF_of (fun n b hf hb => ?_) (fun _ _ _ _ => rfl), hrest _ _ _ _ _ _ hh F η1 _ L S1 _ (hF.mono k1) (putF_ok (hρ.mono k1) (WR.val k4) dst) k2 u1 (((hR.put hd _).next fl).mono k1)⟩
      obtain ⟨kn, n1, n2⟩ := hR.bn n b hb
      exact u2 kn b (o2 n kn hf n1) n2
  · obtain ⟨η1, d1, k1, k2, k3, k4, k5⟩ := hp
    cases pan with
    | false => simp at k5
    | true =>
      simp only [if_true, Res.panic.injEq] at k5
      subst k5
      exact panV_ok hih h (hF.mono k1) EnvR.nil k2 (hS.unlend o1 hL k1 k3 hback).1 k4
end
end Go.DL
namespace Go.DL
open Go
section
variable {C : Px} {ih : Ih} {dk : List DItem} {os : List (DOp × List Nat)} {rest : Bx RgD}
variable {r : Rl} {fm : Fm} {ρ : T W} {σ : S} {nx : Nat} {o : Out} {F : Fr C.P} {η : Nm} {ρd : Env} {L : Loc} {s : St} {B : List (Nat × Rd)}
theorem q_step {dst : Option Nat} {g : Option (Nat × Bool)} (hg : guardB ρd g = some true) {xs : List Opd} {es : List E} {p : Prop} (ha : argsE ρd true xs = some (p, es)) (hp : p) {q : Q} {side : Prop} {e : E} (hq : qv L s q es = some (side, e)) (hs : side) :
    ∃ side' e', side' ∧ stepQ ⟨dst, g, .q q xs⟩ ρd L s = .ok side' (putE ρd dst e') L s ∧ (e' = e ∨ e' = .when true e) := by
  cases g with
  | none => exact ⟨p ∧ side, e, And.intro hp hs, by unfold stepQ; simp only [hg, ha, hq], .inl rfl⟩
  | some x => exact ⟨true = true → p ∧ side, .when true e, fun _ => And.intro hp hs, by unfold stepQ; simp only [hg, ha, hq], .inr rfl⟩
theorem adD_ok (hrest : RestD C ih rest dk os) {dst : Option Nat} {g : Option (Nat × Bool)} {fl : List Nat} {l off : Nat} (h : (adD rest dst l off).run r ih dk fm ρ σ nx = some o) {q : Q} {xs : List Opd} (hrd : readK (.q q xs) = false) {side : Prop} {e' : E} (hside : side)
    (hst : stepQ ⟨dst, g, .q q xs⟩ ρd L s = .ok side (putE ρd dst e') L s) (he : e' = .loc l off ∨ e' = .when true (.loc l off))
    (hF : FmR C η fm o F) (hρ : EnvR η [] ρ ρd) (hN : NmOk η nx) (hS : Sim C η σ s) (hR : RlOk η r ρd L B) : DOA F none dk ((⟨dst, g, .q q xs⟩, fl) :: os) ρd L s B := by
  unfold adD at h
  split at h <;> (try (simp at h; done))
  rename_i u
  obtain ⟨hn, hh⟩ := noV_inv h
  refine DOA_step hst hside ?_
  have hr0 : readsT ⟨some u, g, .q q xs⟩ ρd = [] := by simp only [readsT, readsO, hrd, Bool.false_eq_true, if_false, List.map_nil]
  simp only [pendK, if_true, hr0, List.nil_append]
  exact hrest _ _ _ _ _ _ hh F η _ L s _ hF (hρ.off u e') hN hS (hR.addr hn he)
theorem reads_loc {dst : Option Nat} {g : Option (Nat × Bool)} {q : Q} {xs : List Opd} {es : List E} {p : Prop} {l off : Nat} (hrd : readK (.q q xs) = true) (hg : guardB ρd g = some true) (ha : argsE ρd true xs = some (p, .loc l off :: es)) : readsT ⟨dst, g, .q q xs⟩ ρd = [(dst.getD 0, .loc l)] := by
  simp only [readsT, readsO, hrd, if_true, hg, ha, readsD, List.map_cons, List.map_nil, tagO]
theorem locD_ok (hrest : RestD C ih rest dk os) {dst : Option Nat} {g : Option (Nat × Bool)} {fl : List Nat} {q : Q} {x : Opd} {ys : List Opd} {l off : Nat} (hx : adOf x r = some (l, off)) (h : (locD rest dst q ys).run l off r ih dk fm ρ σ nx = some o) (hg : guardB ρd g = some true)
    (hF : FmR C η fm o F) (hρ : EnvR η [] ρ ρd) (hN : NmOk η nx) (hS : Sim C η σ s) (hR : RlOk η r ρd L B) : DOA F none dk ((⟨dst, g, .q q (x :: ys)⟩, fl) :: os) ρd L s B := by
  obtain ⟨p, a1, a2⟩ := adOf_ok hR hx
  have ha1 : argsE ρd true [x] = some (p ∧ True, [.loc l off]) := by simp only [argsE, a1]
  have ld : ∀ {q : Q} {v : V} {d : D} {side : Prop}, readK (.q q [x]) = true → VR η v d → side → qv L s q [.loc l off] = some (side, .d d) → noV (okDst dst r) (rest.run ⟨r.cs, r.ad, r.bn, (dst.getD 0, l) :: r.bl⟩ ih dk fm ((putF dst).run ρ (.v v)) σ nx) = some o → DOA F none dk ((⟨dst, g, .q q [x]⟩, fl) :: os) ρd L s B := by
    intro q v d side hrd hv hs hq h
    obtain ⟨hd, hh⟩ := noV_inv h
    obtain ⟨side', e', h1, h2, h3⟩ := q_step (dst := dst) hg ha1 ⟨a2, trivial⟩ hq hs
    refine DOA_step h2 h1 ?_
    simp only [pendK, if_true, reads_loc (dst := dst) hrd hg ha1]
    refine hrest _ _ _ _ _ _ hh F η _ L s _ hF (putF_ok hρ (show WR η [] (.v v) e' from ⟨d, hv, h3⟩) dst) hN hS ((hR.put hd e').reads (fun _ h => h) (fun _ hm => List.mem_cons_of_mem _ hm) (fun n b hb => by simp at hb) (fun n l' hl => ?_))
    simp only [List.mem_singleton, Prod.mk.injEq, Rd.loc.injEq] at hl
    rw [hl.1, hl.2]; simp
  unfold locD at h
  split at h
  · split at h <;> (try (simp at h; done))
    obtain ⟨side', e', h1, h2, h3⟩ := q_step (L := L) (s := s) (dst := dst) hg ha1 ⟨a2, trivial⟩ (q := .mv) rfl trivial
    exact adD_ok hrest h rfl h1 h2 h3 hF hρ hN hS hR
  · split at h <;> (try (simp at h; done))
    obtain ⟨side', e', h1, h2, h3⟩ := q_step (L := L) (s := s) (dst := dst) hg ha1 ⟨a2, trivial⟩ (q := .nilck) rfl trivial
    exact adD_ok hrest h rfl h1 h2 h3 hF hρ hN hS hR
  · rename_i o1
    split at h <;> (try (simp at h; done))
    obtain ⟨side', e', h1, h2, h3⟩ := q_step (L := L) (s := s) (dst := dst) hg ha1 ⟨a2, trivial⟩ (q := .faddr o1) rfl trivial
    exact adD_ok hrest h rfl h1 h2 h3 hF hρ hN hS hR
  · rename_i m z
    split at h <;> (try (simp at h; done))
    rename_i y
    simp only at h
    split at h <;> (try (simp at h; done))
    rename_i kk i hy
    obtain ⟨hb, hh⟩ := noV_inv h
    simp only [Bool.and_eq_true, leI_iff, Bool.not_eq_true', ← Bool.not_eq_true] at hb
    obtain ⟨p2, d, b1, b2, b3⟩ := argF_ok hρ hy
    cases b3
    have ha2 : argsE ρd true [x, y] = some (p ∧ p2 ∧ True, [.loc l off, .d (.int kk i)]) := by simp only [argsE, a1, b1]
    obtain ⟨side', e', h1, h2, h3⟩ := q_step (L := L) (s := s) (dst := dst) hg ha2 ⟨a2, b2, trivial⟩ (q := .iaddrA m z) rfl ⟨hb.1, by omega⟩
    exact adD_ok hrest hh rfl h1 h2 h3 hF hρ hN hS hR
  · split at h <;> (try (simp at h; done))
    simp only at h
    split at h <;> (try (simp at h; done))
    rename_i cs hcs
    split at h <;> (try (simp at h; done))
    rename_i v hv
    obtain ⟨ds, c1, c2⟩ := hR.cs l cs hcs
    rw [getR_eq] at hv
    obtain ⟨d, d1, d2⟩ := c2.get hv
    exact ld rfl d2 trivial (by simp only [qv, cellGet, c1, d1, Option.map_some]) h
  · rename_i n
    split at h <;> (try (simp at h; done))
    simp only at h
    split at h <;> (try (simp at h; done))
    rename_i cs hcs
    split at h <;> (try (simp at h; done))
    rename_i v hv
    obtain ⟨ds, c1, c2⟩ := hR.cs l cs hcs
    unfold subV at hv
    split at hv <;> simp only [Option.some.injEq, reduceCtorEq] at hv
    rename_i rr hrr
    subst hv
    obtain ⟨d1, d2⟩ := c2.partv hrr
    exact ld rfl (.agg _ _ d2) d1 (by simp only [qv, partGet, c1, Option.map_some]) h
  · simp at h
theorem RlOk.cell (hR : RlOk η r ρd L B) {l : Nat} {vs0 vs : List V} (hl : getC l r.cs = some vs0) {ds : List D} (hv : VRs η vs ds) : RlOk η ⟨setC l vs r.cs, r.ad, r.bn, r.bl⟩ ρd ((l, ds) :: L) B :=
  { hR with
    cs := fun l' vs' h' => by
      rw [getC_set] at h'
      by_cases he : l' = l
      · subst he
        simp only [if_true, hl, Option.some.injEq] at h'
        subst h'
        exact ⟨ds, by simp [getL], hv⟩
      · rw [if_neg he] at h'
        obtain ⟨d, d1, d2⟩ := hR.cs l' vs' h'
        exact ⟨d, by simp only [getL]; rw [if_neg (Ne.symm he)]; exact d1, d2⟩
    no := fun l' h' => by
      rw [getC_set] at h'
      by_cases he : l' = l
      · subst he; simp [hl] at h'
      · rw [if_neg he] at h'
        simp only [getL]
        rw [if_neg (Ne.symm he)]
        exact hR.no l' h'
    nd := by rw [setC_keys]; exact hR.nd }
theorem stoD_ok (hrest : RestD C ih rest dk os) {fl : List Nat} {l off n : Nat} {xs : List V} {k : K} (h : stoD rest fl l off n xs r ih dk fm ρ σ nx = some o) (hpk : pendK k = false) (hrk : readsT ⟨none, none, k⟩ ρd = []) {ys : List D} (hx : VRs η xs ys) {p q ok : Prop} (hp : p) (hq : q) (hok : ok)
    (hst : stepQ ⟨none, none, k⟩ ρd L s = stepSt ρd L s p q ok (.loc l off) n ys)
    (hF : FmR C η fm o F) (hρ : EnvR η [] ρ ρd) (hN : NmOk η nx) (hS : Sim C η σ s) (hR : RlOk η r ρd L B) : DOA F none dk ((⟨none, none, k⟩, fl) :: os) ρd L s B := by
  unfold stoD at h
  split at h <;> (try (simp at h; done))
  rename_i cs hcs
  split at h <;> (try (simp at h; done))
  rename_i cs' hset
  obtain ⟨hb, hh⟩ := noV_inv h
  obtain ⟨ds, c1, c2⟩ := hR.cs l cs hcs
  obtain ⟨f0, f1, f2⟩ := c2.over hx hset
  have hst' : stepQ ⟨none, none, k⟩ ρd L s = .ok (p ∧ q ∧ off + n ≤ ds.length ∧ ok) ρd ((l, setPart ds off ys) :: L) s := by rw [hst]; simp only [stepSt, c1]
  refine DOA_step hst' ⟨hp, hq, f1, hok⟩ ?_
  simp only [hpk, Bool.false_eq_true, if_false, hrk, List.nil_append]
  refine ⟨keepsF_of (fun _ _ _ _ => rfl) (fun n l' hf hl' => ?_), hrest _ _ _ _ _ _ hh F η ρd _ s _ hF hρ hN hS ((hR.cell hcs f2).next fl)⟩
  have hm := hR.bl n l' hl'
  have : ¬ l = l' := fun e => by
    subst e
    simp only [Bool.not_eq_true'] at hb
    rw [memN_iff.2 (selN_mem hf hm)] at hb
    simp at hb
  simp [getL, this]
theorem RlOk.more (hR : RlOk η r ρd L B) {t : Nat} (ht : newL t r = true) {vs : List V} {ds : List D} (hv : VRs η vs ds) : getL L t = none ∧ RlOk η ⟨(t, vs) :: r.cs, (t, t, 0) :: r.ad, r.bn, r.bl⟩ ((t, .loc t 0) :: ρd) ((t, ds) :: L) B := by
  unfold newL at ht
  simp only [Bool.and_eq_true] at ht
  obtain ⟨h1, h2⟩ := ht
  split at h1 <;> (try (simp at h1; done))
  rename_i hc
  have hA := hR.addr (e := .loc t 0) h2 (.inl rfl)
  refine ⟨hR.no t hc, { hA with
    cs := fun l vs' h' => ?_
    no := fun l h' => ?_
    nd := ?_ }⟩
  · simp only [getC] at h'
    by_cases he : t = l
    · subst he
      rw [if_pos (beq_iff.2 rfl)] at h'
      simp only [Option.some.injEq] at h'
      subst h'
      exact ⟨ds, by simp [getL], hv⟩
    · rw [if_neg (fun h => he (beq_iff.1 h))] at h'
      obtain ⟨d, d1, d2⟩ := hR.cs l vs' h'
      exact ⟨d, by simp only [getL]; rw [if_neg he]; exact d1, d2⟩
  · simp only [getC] at h'
    by_cases he : t = l
    · subst he; rw [if_pos (beq_iff.2 rfl)] at h'; simp at h'
    · rw [if_neg (fun h => he (beq_iff.1 h))] at h'
      simp only [getL]
      rw [if_neg he]
      exact hR.no l h'
  · simp only [List.map_cons, List.nodup_cons]
    exact ⟨getC_none hc, hR.nd⟩
theorem allocD_ok (hrest : RestD C ih rest dk os) {f : FuncId} {dst : Option Nat} {g : Option (Nat × Bool)} {fl : List Nat} {z : List D} (h : (goD C f rest dst g fl (.alloc z)).run r ih dk fm ρ σ nx = some o)
    (hF : FmR C η fm o F) (hρ : EnvR η [] ρ ρd) (hN : NmOk η nx) (hS : Sim C η σ s) (hR : RlOk η r ρd L B) : DOA F none dk ((⟨dst, g, .alloc z⟩, fl) :: os) ρd L s B := by
  simp only [goD] at h
  split at h <;> (try (simp at h; done))
  rename_i t zv hz
  obtain ⟨hn, hh⟩ := noV_inv h
  obtain ⟨hl, hR'⟩ := hR.more hn (ofDs_ok hz)
  refine DOA_step (side := hasL L t = false) (ρ1 := (t, .loc t 0) :: ρd) (L1 := (t, z) :: L) (s1 := s) (by unfold stepQ; simp only [guardB]) (by simp [hasL, hl]) ?_
  simp only [pendK, if_true]
  exact hrest _ _ _ _ _ _ hh F η _ _ s _ hF (hρ.off t (.loc t 0)) hN hS hR'
theorem boxD_ok (hrest : RestD C ih rest dk os) {f : FuncId} {dst : Option Nat} {g : Option (Nat × Bool)} {fl : List Nat} {x : Opd} (h : (goD C f rest dst g fl (.box x)).run r ih dk fm ρ σ nx = some o)
    (hF : FmR C η fm o F) (hρ : EnvR η [] ρ ρd) (hN : NmOk η nx) (hS : Sim C η σ s) (hR : RlOk η r ρd L B) : DOA F none dk ((⟨dst, g, .box x⟩, fl) :: os) ρd L s B := by
  simp only [goD] at h
  split at h <;> (try (simp at h; done))
  rename_i t
  simp only at h
  split at h <;> (try (simp at h; done))
  rename_i v hv
  obtain ⟨hb, hh⟩ := noV_inv h
  simp only [Bool.and_eq_true, Bool.not_eq_true'] at hb
  obtain ⟨⟨hp, hn⟩, hm⟩ := hb
  obtain ⟨p, d, a1, a2, a3⟩ := argF_ok hρ hv
  obtain ⟨hl, hR'⟩ := hR.more hn (vCells_ok a3)
  refine DOA_step (side := p ∧ hasL L t = false ∧ okPart d = true) (ρ1 := (t, .loc t 0) :: ρd) (L1 := (t, cellsOf d) :: L) (s1 := s) (by unfold stepQ; simp only [guardB, a1]) ⟨a2, by simp [hasL, hl], vPart_ok a3 hp⟩ ?_
  simp only [pendK, Bool.false_eq_true, if_false]
  refine ⟨keepsF_of (fun _ _ _ _ => rfl) (fun n l' hf hl' => ?_), hrest _ _ _ _ _ _ hh F η _ _ s _ hF (hρ.off t (.loc t 0)) hN hS (hR'.next fl)⟩
  have : ¬ t = l' := fun e => by
    subst e
    rw [memN_iff.2 (selN_mem hf (hR.bl _ _ hl'))] at hm
    simp at hm
  simp [getL, this]
theorem goD_ok (hlib : LibOk C) (hih : IhOk C ih) (hrest : RestD C ih rest dk os) {f : FuncId} {dst : Option Nat} {g : Option (Nat × Bool)} {fl : List Nat} {k : K} (h : (goD C f rest dst g fl k).run r ih dk fm ρ σ nx = some o) (hg : guardB ρd g = some true)
    (hF : FmR C η fm o F) (hρ : EnvR η [] ρ ρd) (hN : NmOk η nx) (hS : Sim C η σ s) (hR : RlOk η r ρd L B) : DOA F none dk ((⟨dst, g, k⟩, fl) :: os) ρd L s B := by
  cases k
  case call fx xs => exact callD_ok hlib hih hrest h hg hF hρ hN hS hR
  case alloc z => exact allocD_ok hrest h hF hρ hN hS hR
  case box x => exact boxD_ok hrest h hF hρ hN hS hR
  case panic x =>
    simp only [goD] at h
    split at h <;> (try (simp at h; done))
    rename_i t v hv
    obtain ⟨p, d, a1, a2, a3⟩ := argF_ok hρ hv
    cases a3 with
    | iface _ _ d hd => exact DOA_panic hg rfl a1 a2 (panV_ok hih h hF EnvR.nil hN hS (.iface _ _ _ hd))
  case defer fx xs => simp [goD] at h
  case recover => simp [goD] at h
  case fork k => simp [goD] at h
  case store1 a v =>
    simp only [goD] at h
    split at h <;> (try (simp at h; done))
    simp only at h
    split at h
    · rename_i l off ha
      split at h <;> (try (simp at h; done))
      rename_i x hx
      obtain ⟨hc, hh⟩ := noV_inv h
      obtain ⟨p, a1, a2⟩ := adOf_ok hR ha
      obtain ⟨q, d, b1, b2, b3⟩ := argF_ok hρ hx
      exact stoD_ok hrest hh rfl rfl (.one b3) a2 b2 (vCell_ok b3 hc) (by unfold stepQ; simp only [guardB, a1, b1]) hF hρ hN hS hR
    · exact effD_ok hrest rfl rfl rfl h hg hF hρ hN hS hR
  case storeN n a v =>
    simp only [goD] at h
    split at h <;> (try (simp at h; done))
    simp only at h
    split at h
    · rename_i l off ha
      split at h <;> (try (simp at h; done))
      rename_i xs hx
      obtain ⟨p, a1, a2⟩ := adOf_ok hR ha
      obtain ⟨q, d, b1, b2, b3⟩ := argF_ok hρ hx
      cases b3 with
      | agg _ ys hxs =>
      have hlen : ys.length = n := by
        unfold stoD at h
        split at h <;> (try (simp at h; done))
        split at h <;> (try (simp at h; done))
        rename_i hset
        rw [← hxs.len]; exact (setO_ok hset).1
      exact stoD_ok hrest h rfl rfl hxs a2 b2 hlen (by unfold stepQ; simp only [guardB, a1, b1]) hF hρ hN hS hR
    · exact effD_ok hrest rfl rfl rfl h hg hF hρ hN hS hR
  case q q xs =>
    simp only [goD] at h
    split at h
    · rename_i x ys
      simp only at h
      split at h
      · rename_i l off hx
        exact locD_ok hrest hx h hg hF hρ hN hS hR
      · exact quietD_ok hrest rfl h hg hF hρ hN hS hR
    · exact quietD_ok hrest rfl h hg hF hρ hN hS hR
  all_goals
    simp only [goD] at h
    first
      | exact quietD_ok hrest rfl h hg hF hρ hN hS hR
      | exact effD_ok hrest rfl rfl rfl h hg hF hρ hN hS hR
end
end Go.DL
namespace Go.DL
open Go
theorem getE_mem : ∀ {ρ : Env} {t : Nat} {e : E}, getE ρ t = some e → (t, e) ∈ ρ
  | [], t, e, h => by simp [getE] at h
  | (k, x) :: r, t, e, h => by
    simp only [getE] at h
    split at h
    · rename_i hk
      simp only [Option.some.injEq] at h
      subst h; subst hk; simp
    · exact List.mem_cons_of_mem _ (getE_mem h)
theorem getL_nil : ∀ {L : Loc}, (∀ l, getL L l = none) → L = []
  | [], _ => rfl
  | (k, c) :: r, h => by have := h k; simp [getL] at this
theorem putAd_get {t nx : Nat} : ∀ {ad : List (Nat × Nat × Nat)} {ρ : T W} {u : Nat} {w : W}, (putAd ad t nx ρ).get u = some w → (∃ o, (u, t, o) ∈ ad ∧ w = .v (.ptr nx o)) ∨ ρ.get u = some w
  | [], ρ, u, w, h => .inr h
  | (u', l, o) :: r, ρ, u, w, h => by
    simp only [putAd] at h
    split at h
    · rename_i hl
      rw [beq_iff] at hl
      subst hl
      rcases T.get_set h with ⟨rfl, h3⟩ | ⟨_, h3⟩
      · simp only [Option.some.injEq] at h3
        exact .inl ⟨o, by simp, h3.symm⟩
      · rcases putAd_get h3 with ⟨o', h1, h2⟩ | h3
        · exact .inl ⟨o', by simp [h1], h2⟩
        · exact .inr h3
    · rcases putAd_get h with ⟨o', h1, h2⟩ | h
      · exact .inl ⟨o', by simp [h1], h2⟩
      · exact .inr h
section
variable {C : Px} {ih : Ih} {dk : List DItem}
theorem finR_ok (hih : IhOk C ih) : ∀ {cs : List (Nat × List V)} {ad : List (Nat × Nat × Nat)} {fm : Fm} {ρ : T W} {σ : S} {nx : Nat} {o : Out}, finR cs ad ih dk fm ρ σ nx = some o →
    ∀ {F : Fr C.P} {η : Nm} {ρd : Env} {L : Loc} {s : St}, FmR C η fm o F → EnvR η [] ρ ρd → NmOk η nx → Sim C η σ s → (∀ l vs, getC l cs = some vs → (∃ u o, (u, l, o) ∈ ad) → ∃ ds, getL L l = some ds ∧ VRs η vs ds) →
      (∀ l, getC l cs = none → getL L l = none) → (cs.map (·.1)).Nodup → (∀ u l o, (u, l, o) ∈ ad → (getC l cs).isSome = true → LocAt ρd u l o) → DRun F dk ρd L s
  | [], ad, fm, ρ, σ, nx, o, h, F, η, ρd, L, s, hF, hρ, hN, hS, hc, hn, hd, ha => by
    obtain rfl := getL_nil fun l => hn l rfl
    exact hih.at _ _ _ _ _ _ h F η ρd s hF hρ hN hS
  | (t, vs) :: cs, ad, fm, ρ, σ, nx, o, h, F, η, ρd, L, s, hF, hρ, hN, hS, hc, hn, hd, ha => by
    simp only [finR] at h
    split at h <;> (try (simp at h; done))
    rename_i l' o' hget
    obtain ⟨hl, hh⟩ := noV_inv h
    rw [beq_iff] at hl
    subst hl
    have hsome : getC l' ((l', vs) :: cs) = some vs := by simp [getC, beq_iff.2 rfl]
    obtain ⟨ds, d1, d2⟩ := hc l' vs hsome ⟨_, _, getA_mem hget⟩
    simp only [List.map_cons, List.nodup_cons] at hd
    have hcons : ∀ {l : Nat}, l ≠ l' → getC l ((l', vs) :: cs) = getC l cs := fun {l} hne => by
      simp only [getC]
      rw [if_neg (fun h => hne (beq_iff.1 h).symm)]
    have hkey : ∀ {l : Nat} {x : List V}, getC l cs = some x → l ≠ l' := fun {l x} hx e => by
      subst e
      have : ∀ {r : List (Nat × List V)} {x : List V}, getC l r = some x → l ∈ r.map (·.1) := fun {r} => by
        induction r with
        | nil => intro x h; simp [getC] at h
        | cons a r ih =>
          obtain ⟨t, c⟩ := a
          intro x h
          simp only [getC] at h
          split at h
          · rename_i ht; rw [beq_iff] at ht; simp [ht]
          · simp only [List.map_cons, List.mem_cons]; exact .inr (ih h)
      exact hd.1 (this hx)
    refine DRun_expose l' d1 fun b hb => ?_
    have f0 := hN.free nx (Nat.le_refl _)
    have n1 : η.Sub (η.put nx (.tip b)) := Nm.put_sub f0 _
    refine finR_ok hih hh (η := η.put nx (.tip b)) (hF.mono n1) ?_ (hN.put _) (hS.new f0 hb (OR.cells0 (d2.mono n1))) ?_ ?_ hd.2 ?_
    · intro u w hw hlv
      rw [getE_expose]
      rcases putAd_get hw with ⟨o2, h1, rfl⟩ | h1
      · rcases ha u l' o2 h1 (by rw [hsome]; rfl) with h2 | h2
        · exact ⟨.d (.ptr b o2), by rw [h2]; simp [exposeE], .ptr b o2, .ptr _ _ _ (Nm.put_same _ _ _), .inl rfl⟩
        · exact ⟨.when true (.d (.ptr b o2)), by rw [h2]; simp [exposeE], .ptr b o2, .ptr _ _ _ (Nm.put_same _ _ _), .inr rfl⟩
      · obtain ⟨e, h2, h3⟩ := hρ u w h1 hlv
        cases w with
        | v x =>
          obtain ⟨d, h4, rfl | rfl⟩ := h3
          · exact ⟨_, by rw [h2]; rfl, d, h4.mono n1, .inl rfl⟩
          · exact ⟨_, by rw [h2]; rfl, d, h4.mono n1, .inr rfl⟩
        | loc l o => simp [live] at hlv
        | skip =>
          have h3' : e = .when false (.d (.bool false)) := h3
          subst h3'
          exact ⟨_, by rw [h2]; rfl, rfl⟩
    · intro l vs2 hl hx
      have hne := hkey hl
      obtain ⟨ds2, g1, g2⟩ := hc l vs2 (by rw [hcons hne]; exact hl) hx
      exact ⟨ds2, by rw [getL_del, if_neg hne]; exact g1, g2.mono n1⟩
    · intro l hl
      rw [getL_del]
      by_cases hne : l = l'
      · rw [if_pos hne]
      · rw [if_neg hne]
        exact hn l (by rw [hcons hne]; exact hl)
    · intro u l o2 hm hs
      obtain ⟨x, hx⟩ := Option.isSome_iff_exists.1 hs
      have hne := hkey hx
      unfold LocAt
      rw [getE_expose]
      rcases ha u l o2 hm (by rw [hcons hne]; exact hs) with h2 | h2
      · exact .inl (by rw [h2]; simp [exposeE, hne])
      · exact .inr (by rw [h2]; simp [exposeE, hne])
theorem endD_ok (hih : IhOk C ih) : RestD C ih ⟨fun r ih dk fm ρ σ nx => finR r.cs r.ad ih dk fm ρ σ nx⟩ dk [] := by
  intro r fm ρ σ nx o h F η ρd L s B hF hρ hN hS hR
  show DOA F (some allK) dk [] ρd L s B
  refine DOA_end (finR_ok hih h hF hρ.keep hN hS (fun l vs hl hx => ?_) (fun l hl => ?_) hR.nd (fun u l o hm _ => ?_))
  · obtain ⟨u, o', hm⟩ := hx
    obtain ⟨ds, d1, d2⟩ := hR.cs l vs hl
    refine ⟨ds, ?_, d2⟩
    have hat : LocAt (keepE ρd allK) u l o' := (hR.ad u l o' hm).imp (fun h => getE_keepIn h (List.mem_range.2 (hR.lt u l o' hm))) (fun h => getE_keepIn h (List.mem_range.2 (hR.lt u l o' hm)))
    refine takeL_mem L _ l ds ?_ d1
    rw [List.mem_flatMap]
    rcases hat with h | h
    · exact ⟨_, getE_mem h, by simp [locsE]⟩
    · exact ⟨_, getE_mem h, by simp [locsE]⟩
  · cases hg : getL (keepL (keepE ρd allK) L) l with
    | none => rfl
    | some cs =>
      have := getL_take L _ l cs hg
      rw [hR.no l hl] at this; simp at this
  · exact (hR.ad u l o hm).imp (fun h => getE_keepIn h (List.mem_range.2 (hR.lt u l o hm))) (fun h => getE_keepIn h (List.mem_range.2 (hR.lt u l o hm)))
end
theorem setPart_comm {cs xs ys : List D} {i j : Nat} (h1 : i + xs.length ≤ cs.length) (h2 : j + ys.length ≤ cs.length) (h : i + xs.length ≤ j ∨ j + ys.length ≤ i) : setPart (setPart cs i xs) j ys = setPart (setPart cs j ys) i xs := by
  have key : ∀ {cs xs ys : List D} {i j : Nat}, j + ys.length ≤ cs.length → i + xs.length ≤ j → setPart (setPart cs i xs) j ys = setPart (setPart cs j ys) i xs := by
    intro cs xs ys i j h2 h
    apply List.ext_getElem?
    intro n
    simp only [setPart, List.append_assoc]
    simp only [List.getElem?_append, List.getElem?_take, List.getElem?_drop, List.length_take, List.length_append, List.length_drop]
    by_cases a1 : n < i
    · simp only [show n < min j (min i cs.length + (xs.length + (cs.length - (i + xs.length)))) by omega, show n < min i cs.length by omega, show n < j by omega, a1, if_true, show n < min i (min j cs.length + (ys.length + (cs.length - (j + ys.length)))) by omega, show n < min j cs.length by omega]
    · by_cases a2 : n < i + xs.length
      · simp only [show n < min j (min i cs.length + (xs.length + (cs.length - (i + xs.length)))) by omega, show ¬ n < min i cs.length by omega, show n < j by omega, if_true, if_false, show n - min i cs.length < xs.length by omega, show ¬ n < min i (min j cs.length + (ys.length + (cs.length - (j + ys.length)))) by omega, show n - min i (min j cs.length + (ys.length + (cs.length - (j + ys.length)))) < xs.length by omega]
        congr 1; omega
      · by_cases a3 : n < j
        · simp only [show n < min j (min i cs.length + (xs.length + (cs.length - (i + xs.length)))) by omega, show ¬ n < min i cs.length by omega, a3, if_true, if_false, show ¬ n - min i cs.length < xs.length by omega, show ¬ n < min i (min j cs.length + (ys.length + (cs.length - (j + ys.length)))) by omega, show ¬ n - min i (min j cs.length + (ys.length + (cs.length - (j + ys.length)))) < xs.length by omega,
            show i + xs.length + (n - min i (min j cs.length + (ys.length + (cs.length - (j + ys.length)))) - xs.length) < min j cs.length by omega]
          rw [if_pos (by omega)]
          congr 1; omega
        · by_cases a4 : n < j + ys.length
          · simp only [show ¬ n < min j (min i cs.length + (xs.length + (cs.length - (i + xs.length)))) by omega, if_false, show n - min j (min i cs.length + (xs.length + (cs.length - (i + xs.length)))) < ys.length by omega, if_true, show ¬ n < min i (min j cs.length + (ys.length + (cs.length - (j + ys.length)))) by omega, show ¬ n - min i (min j cs.length + (ys.length + (cs.length - (j + ys.length)))) < xs.length by omega,
              show ¬ i + xs.length + (n - min i (min j cs.length + (ys.length + (cs.length - (j + ys.length)))) - xs.length) < min j cs.length by omega, show i + xs.length + (n - min i (min j cs.length + (ys.length + (cs.length - (j + ys.length)))) - xs.length) - min j cs.length < ys.length by omega]
            congr 1; omega
          · simp only [show ¬ n < min j (min i cs.length + (xs.length + (cs.length - (i + xs.length)))) by omega, if_false, show ¬ n - min j (min i cs.length + (xs.length + (cs.length - (i + xs.length)))) < ys.length by omega, show ¬ n < min i (min j cs.length + (ys.length + (cs.length - (j + ys.length)))) by omega, show ¬ n - min i (min j cs.length + (ys.length + (cs.length - (j + ys.length)))) < xs.length by omega,
              show ¬ i + xs.length + (n - min i (min j cs.length + (ys.length + (cs.length - (j + ys.length)))) - xs.length) < min j cs.length by omega, show ¬ i + xs.length + (n - min i (min j cs.length + (ys.length + (cs.length - (j + ys.length)))) - xs.length) - min j cs.length < ys.length by omega,
              show ¬ j + ys.length + (n - min j (min i cs.length + (xs.length + (cs.length - (i + xs.length)))) - ys.length) < min i cs.length by omega, show ¬ j + ys.length + (n - min j (min i cs.length + (xs.length + (cs.length - (i + xs.length)))) - ys.length) - min i cs.length < xs.length by omega]
            congr 1; omega
  rcases h with h | h
  · exact key h2 h
  · exact (key h1 h).symm
section
variable {C : Px} {ih : Ih} {dk : List DItem} {os : List (DOp × List Nat)} {rest : Bx RgD}
variable {r : Rl} {fm : Fm} {ρ : T W} {σ : S} {nx : Nat} {o : Out} {F : Fr C.P} {η : Nm} {ρd : Env} {L : Loc} {s : St} {B : List (Nat × Rd)}
theorem sto_ok (hρ : EnvR η [] ρ ρd) {k : K} {a : Opd} {n : Nat} (hk : stoA k = some (a, n)) {mu : Bool} {r3 : R3} (h : (opF mu false k).run ρ σ nx = some r3) : ∃ v da xs ys σ', (argF a).run ρ = some v ∧ VR η v da ∧ VRs η xs ys ∧ storeV σ v n xs = some σ' ∧ r3 = ⟨.nilsl, σ', nx⟩ ∧ pendK k = false ∧
    ∀ {F : Fr C.P} {kp : Option (List Nat)} {dk : List DItem} {os' : List DOp} {ρ' : Env} {L' : Loc} {s' : St} {b off : Nat} {cs : List D}, AgreeE ρd ρ' (namesK k) → da = .ptr b off → cellsAt s' b = some cs → off + ys.length ≤ cs.length → ys.length = n → DO F kp dk os' ρ' L' (s'.upd b (.cells (setPart cs off ys))) → DO F kp dk (⟨none, none, k⟩ :: os') ρ' L' s' := by
  cases k <;> simp only [stoA, Option.some.injEq, Prod.mk.injEq, reduceCtorEq] at hk
  case store1 a' v =>
    obtain ⟨rfl, rfl⟩ := hk
    simp only [opF] at h
    obtain ⟨hd, hh⟩ := noV_inv h; replace h := hh; clear hh
    obtain ⟨av, ha, hh⟩ := mp2_inv h; replace h := hh; clear hh
    obtain ⟨xv, hx, hh⟩ := mp2_inv h; replace h := hh; clear hh
    obtain ⟨hcl, hh⟩ := noV_inv h; replace h := hh; clear hh
    obtain ⟨σ', hst, rfl⟩ := up_inv h
    obtain ⟨p, da, a1, a2, a3⟩ := argF_ok hρ ha
    obtain ⟨q, dx, b1, b2, b3⟩ := argF_ok hρ hx
    have hok := vCell_ok b3 hcl
    have hcx : cellsOf dx = [dx] := by cases dx <;> first | rfl | simp [okCell] at hok
    refine ⟨av, da, [xv], [dx], σ', ha, a3, .one b3, hst, rfl, rfl, fun {F kp dk os' ρ' L' s' b off cs} hag hda hcs hle hl hc => ?_⟩
    subst hda
    refine DO_storeP rfl (.inl ⟨rfl, trivial⟩) (by rw [argE_congr (fun t ht => hag t (by simp [namesK, ht]))]; exact a1) (by rw [argE_congr (fun t ht => hag t (by simp [namesK, ht]))]; exact b1) a2 b2 hcs (fun _ => hok) (fun n hn => by simp at hn) (by rw [hcx]; exact hle) rfl ?_
    rw [hcx]; exact hc
  case storeN n' a' v =>
    obtain ⟨rfl, rfl⟩ := hk
    simp only [opF] at h
    obtain ⟨hd, hh⟩ := noV_inv h; replace h := hh; clear hh
    obtain ⟨av, ha, hh⟩ := mp2_inv h; replace h := hh; clear hh
    obtain ⟨xv, hx, hh⟩ := mp2_inv h; replace h := hh; clear hh
    obtain ⟨p, da, a1, a2, a3⟩ := argF_ok hρ ha
    obtain ⟨q, dx, b1, b2, b3⟩ := argF_ok hρ hx
    cases b3 <;> simp only [reduceCtorEq] at h
    rename_i xs ys hxs
    obtain ⟨σ', hst, rfl⟩ := up_inv h
    refine ⟨av, da, xs, ys, σ', ha, a3, hxs, hst, rfl, rfl, fun {F kp dk os' ρ' L' s' b off cs} hag hda hcs hle hl hc => ?_⟩
    subst hda
    refine DO_storeP rfl (.inr ⟨_, rfl⟩) (by rw [argE_congr (fun t ht => hag t (by simp [namesK, ht]))]; exact a1) (by rw [argE_congr (fun t ht => hag t (by simp [namesK, ht]))]; exact b1) a2 b2 hcs (fun hn => by simp at hn) (fun m hm => ?_) hle rfl hc
    simp only [K.storeN.injEq] at hm
    exact ⟨⟨_, rfl⟩, by rw [← hm.1]; exact hl⟩
theorem stoA_eff {f : FuncId} {k : K} {a : Opd} {n : Nat} (hk : stoA k = some (a, n)) (ha : adOf a r = none) (h : (goD C f rest none none [] k).run r ih dk fm ρ σ nx = some o) :
    ∃ r3, (opF (C.mu f none) false k).run ρ σ nx = some r3 ∧ rest.run (nextR [] r) ih dk fm ρ r3.σ r3.nx = some o := by
  cases k <;> simp only [stoA, Option.some.injEq, Prod.mk.injEq, reduceCtorEq] at hk
  all_goals
    obtain ⟨rfl, rfl⟩ := hk
    simp only [goD, ha, effD, Option.isNone_none, Bool.or_true, outF, Option.isSome_none] at h
    split at h <;> (try (simp at h; done))
    rename_i v σ1 nx1 hop
    simp only [backN] at h
    obtain ⟨_, hh⟩ := noV_inv h
    exact ⟨_, hop, hh⟩
theorem fork_sto (hrest : RestD C ih rest dk os) {f : FuncId} {k k2 : K} {a a2 : Opd} {n n2 : Nat} (hk : stoA k = some (a, n)) (hk2 : stoA k2 = some (a2, n2)) (ha : adOf a r = none) (ha2 : adOf a2 r = none) {b o1 b2 o2 : Nat} (hv : (argF a).run ρ = some (.ptr b o1)) (hv2 : (argF a2).run ρ = some (.ptr b2 o2))
    (hdis : b ≠ b2 ∨ o1 + n ≤ o2 ∨ o2 + n2 ≤ o1) {rest2 : Bx RgD} (hr2 : rest2 = goD C f rest none none [] k2) (h : (goD C f rest2 none none [] k).run r ih dk fm ρ σ nx = some o)
    (hF : FmR C η fm o F) (hρ : EnvR η [] ρ ρd) (hN : NmOk η nx) (hS : Sim C η σ s) (hR : RlOk η r ρd L B) : DOA F none dk ((⟨none, none, .fork k⟩, []) :: (⟨none, none, k2⟩, []) :: os) ρd L s B := by
  subst hr2
  obtain ⟨r3, e1, h1⟩ := stoA_eff hk ha h
  obtain ⟨v, da, xs, ys, σ1, f1, f2, f3, f4, rfl, hp1, f6⟩ := sto_ok hρ hk e1
  obtain ⟨r4, e2, h2⟩ := stoA_eff hk2 (r := nextR [] r) (by cases a2 <;> exact ha2) h1
  obtain ⟨v2, da2, xs2, ys2, σ2, g1, g2, g3, g4, rfl, hp2, g6⟩ := sto_ok hρ hk2 e2
  rw [hv] at f1; rw [hv2] at g1
  simp only [Option.some.injEq] at f1 g1
  subst f1; subst g1
  obtain ⟨bd, off, cs, rfl, c1, c2, c3, c4⟩ := storeV_ok hS f4 f2 f3
  obtain ⟨bd2, off2, cs2, rfl, d1, d2, d3, d4⟩ := storeV_ok c4 g4 g2 g3
  cases f2 with
  | ptr _ _ _ hb =>
  cases g2 with
  | ptr _ _ _ hb2 =>
  have hobj : ∃ ob, σ.get b = some ob := by
    simp only [storeV] at f4
    cases hg : σ.get b with
    | none => simp [hg] at f4
    | some ob => exact ⟨ob, rfl⟩
  have hobj2 : ∃ ob, σ.get b2 = some ob := by
    have hσ1 : ∃ x, σ1 = σ.set (some x) b := by
      simp only [storeV] at f4
      split at f4 <;> (try (simp at f4; done))
      all_goals
        split at f4 <;> simp only [Option.some.injEq, reduceCtorEq] at f4
        exact ⟨_, f4.symm⟩
    obtain ⟨x, rfl⟩ := hσ1
    have : ∃ ob, (σ.set (some x) b).get b2 = some ob := by
      simp only [storeV] at g4
      cases hg : (σ.set (some x) b).get b2 with
      | none => simp [hg] at g4
      | some ob => exact ⟨ob, rfl⟩
    obtain ⟨ob, hob⟩ := this
    rcases T.get_set hob with ⟨rfl, _⟩ | ⟨_, h⟩
    · exact hobj
    · exact ⟨ob, h⟩
  obtain ⟨ob, hob⟩ := hobj
  obtain ⟨ob2, hob2⟩ := hobj2
  have hbb : bd = bd2 → b = b2 := fun e => hS.inj b b2 ob ob2 bd hob hob2 hb (by rw [e]; exact hb2)
  have hR' : RlOk η (nextR [] (nextR [] r)) ρd L [] := by
    have := (hR.next []).next []
    rwa [nextB_nil] at this
  have fin : DOA F none dk os ρd L ((s.upd bd (.cells (setPart cs o1 ys))).upd bd2 (.cells (setPart cs2 o2 ys2))) [] := hrest _ _ _ _ _ _ h2 F η ρd L _ [] hF hρ hN d4 hR'
  obtain ⟨cs', q1, q2, q3, q4⟩ : ∃ cs', cellsAt s bd2 = some cs' ∧ o2 + ys2.length ≤ cs'.length ∧ (∃ cs'', cellsAt (s.upd bd2 (.cells (setPart cs' o2 ys2))) bd = some cs'' ∧ o1 + ys.length ≤ cs''.length ∧
      (s.upd bd2 (.cells (setPart cs' o2 ys2))).upd bd (.cells (setPart cs'' o1 ys)) = (s.upd bd (.cells (setPart cs o1 ys))).upd bd2 (.cells (setPart cs2 o2 ys2))) ∧ True := by
    by_cases he : bd = bd2
    · subst he
      have hbe := hbb rfl
      have hcs2 : cs2 = setPart cs o1 ys := by
        have : cellsAt (s.upd bd (.cells (setPart cs o1 ys))) bd = some (setPart cs o1 ys) := cellsAt_some (St.upd_same _ _ _)
        rw [this] at d1
        simpa using d1.symm
      subst hcs2
      have hl := setPart_len c2
      have hd : o1 + ys.length ≤ o2 ∨ o2 + ys2.length ≤ o1 := by
        rw [c3, d3]
        exact hdis.resolve_left (fun h => h hbe)
      have hl2 : o2 + ys2.length ≤ cs.length := by rw [hl] at d2; exact d2
      refine ⟨cs, c1, hl2, ⟨setPart cs o2 ys2, cellsAt_some (St.upd_same _ _ _), by rw [setPart_len hl2]; exact c2, ?_⟩, trivial⟩
      rw [St.upd_upd, St.upd_upd, setPart_comm c2 hl2 hd]
    · have h3 : (s.upd bd (.cells (setPart cs o1 ys))) bd2 = s bd2 := St.upd_ne _ _ (Ne.symm he)
      have h4 : cellsAt s bd2 = some cs2 := by
        simp only [cellsAt, h3] at d1
        simpa only [cellsAt] using d1
      have h5 : (s.upd bd2 (.cells (setPart cs2 o2 ys2))) bd = s bd := St.upd_ne _ _ he
      refine ⟨cs2, h4, d2, ⟨cs, by simp only [cellsAt, h5]; simpa only [cellsAt] using c1, c2, St.upd_comm _ _ _ he⟩, trivial⟩
  obtain ⟨cs'', q3, q5, q6⟩ := q3
  refine DOA_fork (fun _ s2 => s2 = s.upd bd (.cells (setPart cs o1 ys))) (fun _ s2 => s2 = s.upd bd2 (.cells (setPart cs' o2 ys2))) (o1 := ⟨none, none, k⟩) (o2 := ⟨none, none, k2⟩) hp2 (fun ρ' L' os' hag hc => ?_) (fun e s2 hs2 => ?_) (fun ρ' L' os' hag hc => ?_) (fun e s2 hs2 => ?_)
  · exact f6 (fun t ht => hag t (by simp [namesO, ht])) rfl c1 c2 c3 (hc (.d .nilsl) _ rfl)
  · subst hs2
    refine ⟨keepsF_nil, ?_⟩
    refine DOA_eff (fun _ s2 => s2 = (s.upd bd (.cells (setPart cs o1 ys))).upd bd2 (.cells (setPart cs2 o2 ys2))) hp2 (fun ρ' L' os' hag hc => ?_) (fun e s2 hs2 => ?_)
    · exact g6 (fun t ht => hag t (by simp [namesO, ht])) rfl d1 d2 d3 (hc (.d .nilsl) _ rfl)
    · subst hs2; exact ⟨keepsF_nil, by rw [nextB_nil]; exact fin⟩
  · exact g6 (fun t ht => hag t (by simp [namesO, ht])) rfl q1 q2 d3 (hc (.d .nilsl) _ rfl)
  · subst hs2
    refine ⟨keepsF_nil, ?_⟩
    refine DOA_eff (fun _ s2 => s2 = (s.upd bd (.cells (setPart cs o1 ys))).upd bd2 (.cells (setPart cs2 o2 ys2))) hp1 (fun ρ' L' os' hag hc => ?_) (fun e s2 hs2 => ?_)
    · exact f6 (fun t ht => hag t (by simp [namesO, ht])) rfl q3 q5 c3 (by rw [q6]; exact hc (.d .nilsl) _ rfl)
    · subst hs2; exact ⟨keepsF_nil, by rw [nextB_nil]; exact fin⟩
end
end Go.DL
namespace Go.DL
open Go
section
variable {C : Px} {ih : Ih} {dk : List DItem} {os : List (DOp × List Nat)} {rest : Bx RgD}
variable {r : Rl} {fm : Fm} {ρ : T W} {σ : S} {nx : Nat} {o : Out} {F : Fr C.P} {η : Nm} {ρd : Env} {L : Loc} {s : St} {B : List (Nat × Rd)}
theorem eqL_ok : ∀ {x y : List Nat}, eqL x y = true → x = y
  | [], [], _ => rfl
  | [], _ :: _, h => by simp [eqL] at h
  | _ :: _, [], h => by simp [eqL] at h
  | a :: x, b :: y, h => by
    simp only [eqL, Bool.and_eq_true, beq_iff] at h
    rw [h.1, eqL_ok h.2]
theorem fork_map (hrest : RestD C ih rest dk os) {t t2 : Nat} {fl : List Nat} (hne : t ≠ t2) {σ0 : S} {l : List (Nat × O)} (hout : outF fl r σ = some (σ0, l)) (hd1 : noA t r = true) (hd2 : noA t2 r = true)
    (h2 : rest.run (nextR fl (nextR fl r)) ih dk fm ((ρ.set (some (.v (.map nx))) t).set (some (.v (.map (nx + 1)))) t2) ((σ.set (some (.map [])) nx).set (some (.map [])) (nx + 1)) (nx + 2) = some o)
    (hF : FmR C η fm o F) (hρ : EnvR η [] ρ ρd) (hN : NmOk η nx) (hS : Sim C η σ s) (hR : RlOk η r ρd L B) : DOA F none dk ((⟨some t, none, .fork .mkmap⟩, fl) :: (⟨some t2, none, .mkmap⟩, fl) :: os) ρd L s B := by
  obtain ⟨ks, o1, o2⟩ := outF_ok hout
  have hthere : ∀ n b, n ∈ fl → (n, .blk b) ∈ B → ∃ d, s b = some d := fun n b hf hb => by
    obtain ⟨kn, n1, n2⟩ := hR.bn n b hb
    obtain ⟨e1, e2, e3⟩ := outN_ok o1
    have : ∃ o, σ.get kn = some o ∧ ∀ n, o ≠ .tok n := by
      rcases e3 kn (o2 n kn hf n1) with ⟨o, h⟩ | ⟨o, h⟩
      · exact ⟨o, (e2 kn o h).1, (roAble_ok (e2 kn o h).2).2⟩
      · exact ⟨_, h, fun n => by simp⟩
    obtain ⟨o, ho, hn⟩ := this
    obtain ⟨b', d, f1, f2, _⟩ := hS.get ho hn
    rw [n2] at f1
    simp only [Option.some.injEq, Tok.tip.injEq] at f1
    subst f1
    exact ⟨d, f2⟩
  have kp1 : ∀ {b : Nat} {B' : List (Nat × Rd)} {s1 : St} {x : DObj}, (∀ n c, n ∈ fl → (n, .blk c) ∈ B' → ∃ d, s1 c = some d) → s1 b = none → keepsF fl s1 (s1.upd b x) L L B' := fun {b B' s1 x} h hb =>
    keepsF_of (fun n c hf hc => by
      obtain ⟨d, hd⟩ := h n c hf hc
      have : c ≠ b := fun e => by rw [e, hb] at hd; simp at hd
      rw [St.upd_ne s1 _ this]) (fun _ _ _ _ => rfl)
  have there2 : ∀ {b : Nat}, ∀ n c, n ∈ fl → (n, .blk c) ∈ nextB fl B → ∃ d, (s.upd b (.map [])) c = some d := fun {b} n c hf hc => by
    obtain ⟨d, hd⟩ := hthere n c hf (nextB_iff.1 hc).2
    by_cases hcb : c = b
    · exact ⟨_, by rw [hcb, St.upd_same]⟩
    · exact ⟨d, by rw [St.upd_ne s _ hcb]; exact hd⟩
  have fin : ∀ {b b2 : Nat} {ρ2 : Env} {s2 : St}, s b = none → s b2 = none → b ≠ b2 → (∀ u, getE ρ2 u = if u = t then some (.d (.map b)) else if u = t2 then some (.d (.map b2)) else getE ρd u) → s2 = (s.upd b (.map [])).upd b2 (.map []) → DOA F none dk os ρ2 L s2 (nextB fl (nextB fl B)) := by
    intro b b2 ρ2 s2 hb hb2 hbb hE hs2
    subst hs2
    have f0 := hN.free nx (Nat.le_refl _)
    have n1 : η.Sub (η.put nx (.tip b)) := Nm.put_sub f0 _
    have hN1 := hN.put (.tip b)
    have f1 := hN1.free (nx + 1) (Nat.le_refl _)
    have n2 : (η.put nx (.tip b)).Sub ((η.put nx (.tip b)).put (nx + 1) (.tip b2)) := Nm.put_sub f1 _
    have S1 := hS.new f0 hb (o := .map []) (d := .map []) (.map [] [] .nil)
    have S2 := S1.new f1 (b := b2) (by rw [St.upd_ne s _ (Ne.symm hbb)]; exact hb2) (o := .map []) (d := .map []) (.map [] [] .nil)
    refine hrest _ _ _ _ _ _ h2 F _ ρ2 L _ _ (hF.mono (n1.trans n2)) (fun u w hw hl => ?_) (hN1.put _) S2 ?_
    · rw [hE]
      rcases T.get_set hw with ⟨rfl, hw2⟩ | ⟨hne2, hw2⟩
      · simp only [Option.some.injEq] at hw2
        subst hw2
        rw [if_neg (Ne.symm hne), if_pos rfl]
        exact ⟨_, rfl, .map b2, .map _ _ (Nm.put_same _ _ _), .inl rfl⟩
      · rcases T.get_set hw2 with ⟨rfl, hw3⟩ | ⟨hne1, hw3⟩
        · simp only [Option.some.injEq] at hw3
          subst hw3
          rw [if_pos rfl]
          exact ⟨_, rfl, .map b, .map _ _ (n2 _ _ (Nm.put_same _ _ _)), .inl rfl⟩
        · rw [if_neg hne1, if_neg hne2]
          exact (hρ.mono (n1.trans n2)) u w hw3 hl
    · have h0 := ((hR.next fl).next fl).mono (n1.trans n2)
      have had : (nextR fl (nextR fl r)).ad = r.ad := by cases fl <;> rfl
      refine { h0 with ad := fun u l o' hm => ?_ }
      have := h0.ad u l o' hm
      rw [had] at hm
      unfold LocAt at this ⊢
      rw [hE, if_neg (Ne.symm (noA_ok hd1 u l o' hm)), if_neg (Ne.symm (noA_ok hd2 u l o' hm))]
      exact this
  have one : ∀ {F : Fr C.P} {u : Nat} {ρ' : Env} {L' : Loc} {s' : St} {os' : List DOp}, (∀ e s2, (∃ b, s' b = none ∧ e = .d (.map b) ∧ s2 = s'.upd b (.map [])) → DO F none dk os' (putE ρ' (some u) e) L' s2) → DO F none dk (⟨some u, none, .mkmap⟩ :: os') ρ' L' s' := fun {F u ρ' L' s' os'} hc =>
    DO_mkmap rfl rfl rfl fun b hb => hc (.d (.map b)) _ ⟨b, hb, rfl, rfl⟩
  have upd_none : ∀ {b b' : Nat}, (s.upd b (.map [])) b' = none → b ≠ b' ∧ s b' = none := fun {b b'} h => by
    by_cases e : b' = b
    · subst e; rw [St.upd_same] at h; simp at h
    · rw [St.upd_ne s _ e] at h; exact ⟨Ne.symm e, h⟩
  refine DOA_fork (o1 := ⟨some t, none, .mkmap⟩) (o2 := ⟨some t2, none, .mkmap⟩) (fun e s2 => ∃ b, s b = none ∧ e = .d (.map b) ∧ s2 = s.upd b (.map [])) (fun e s2 => ∃ b, s b = none ∧ e = .d (.map b) ∧ s2 = s.upd b (.map [])) rfl (fun ρ' L' os' _ hc => one hc) (fun e s2 hs2 => ?_) (fun ρ' L' os' _ hc => one hc) (fun e s2 hs2 => ?_)
  · obtain ⟨b, hb, rfl, rfl⟩ := hs2
    refine ⟨kp1 hthere hb, DOA_eff (fun e s2 => ∃ b2, (s.upd b (.map [])) b2 = none ∧ e = .d (.map b2) ∧ s2 = (s.upd b (.map [])).upd b2 (.map [])) rfl (fun ρ' L' os' _ hc => one hc) (fun e s2 hs2 => ?_)⟩
    obtain ⟨b2, hb2, rfl, rfl⟩ := hs2
    obtain ⟨e1, e2⟩ := upd_none hb2
    refine ⟨kp1 there2 hb2, fin hb e2 e1 (fun u => ?_) rfl⟩
    rw [getE_put, getE_put]
    by_cases c1 : u = t
    · subst c1; simp [Ne.symm hne]
    · by_cases c2 : u = t2
      · subst c2; simp [c1]
      · simp [c1, c2, Ne.symm c1, Ne.symm c2]
  · obtain ⟨b2, hb2, rfl, rfl⟩ := hs2
    refine ⟨kp1 hthere hb2, DOA_eff (fun e s2 => ∃ b, (s.upd b2 (.map [])) b = none ∧ e = .d (.map b) ∧ s2 = (s.upd b2 (.map [])).upd b (.map [])) rfl (fun ρ' L' os' _ hc => one hc) (fun e s2 hs2 => ?_)⟩
    obtain ⟨b, hb, rfl, rfl⟩ := hs2
    obtain ⟨e1, e2⟩ := upd_none hb
    refine ⟨kp1 there2 hb, fin e2 hb2 (Ne.symm e1) (fun u => ?_) (St.upd_comm _ _ _ (Ne.symm e1))⟩
    rw [getE_put, getE_put]
    by_cases c1 : u = t
    · subst c1; simp
    · by_cases c2 : u = t2
      · subst c2; simp [c1, Ne.symm c1]
      · simp [c1, c2, Ne.symm c1, Ne.symm c2]
theorem fork_ok (hrest : RestD C ih rest dk os) {f : FuncId} {dst dst2 : Option Nat} {g g2 : Option (Nat × Bool)} {k k2 : K} {fl fl2 : List Nat} (h : (forkF C f rest dst g k fl dst2 g2 k2 fl2).run r ih dk fm ρ σ nx = some o)
    (hF : FmR C η fm o F) (hρ : EnvR η [] ρ ρd) (hN : NmOk η nx) (hS : Sim C η σ s) (hR : RlOk η r ρd L B) : DOA F none dk ((⟨dst, g, .fork k⟩, fl) :: (⟨dst2, g2, k2⟩, fl2) :: os) ρd L s B := by
  unfold forkF at h
  split at h <;> (try (simp at h; done))
  split at h <;> (try (simp at h; done))
  split at h
  · rename_i a n hs1
    split at h <;> (try (simp at h; done))
    rename_i a2 n2 hs2
    split at h <;> (try (simp at h; done))
    obtain ⟨hk, hh⟩ := noV_inv h
    simp only [disA] at hk
    split at hk <;> (try (simp at hk; done))
    rename_i b o1 b2 o2 c1 c2 c3 c4
    refine fork_sto hrest hs1 hs2 c1 c2 c3 c4 ?_ rfl hh hF hρ hN hS hR
    simp only [Bool.or_eq_true, Bool.not_eq_true', ble_iff] at hk
    rcases hk with (hk | hk) | hk
    · exact .inl fun e => by rw [beq_iff.2 e] at hk; simp at hk
    · exact .inr (.inl hk)
    · exact .inr (.inr hk)
  · split at h <;> (try (simp at h; done))
    split at h <;> (try (simp at h; done))
    split at h <;> (try (simp at h; done))
    rename_i t
    split at h <;> (try (simp at h; done))
    rename_i t2
    split at h <;> (try (simp at h; done))
    rename_i hc
    simp only [Bool.and_eq_true, Bool.not_eq_true'] at hc
    obtain ⟨hc1, hne⟩ := hc
    obtain rfl := eqL_ok hc1
    simp only [mapsD] at h
    split at h <;> (try (simp at h; done))
    rename_i x hout
    obtain ⟨σ0, l⟩ := x
    obtain ⟨hd, hh⟩ := noV_inv h
    simp only [Bool.and_eq_true] at hd
    exact fork_map hrest (fun e => by rw [beq_iff.2 e] at hne; simp at hne) hout hd.1 hd.2 hh hF hρ hN hS hR
theorem regDF_ok (hlib : LibOk C) (hih : IhOk C ih) {f : FuncId} : ∀ {os : List (DOp × List Nat)}, RestD C ih (regDF C f os) dk os
  | [] => endD_ok hih
  | (⟨dst, g, k⟩, fl) :: os => fun r fm ρ σ nx o h F η ρd L s B hF hρ hN hS hR => by
    unfold regDF at h
    split at h
    · rename_i k1
      split at h
      · rename_i dst2 g2 k2 fl2 os2
        exact fork_ok (regDF_ok hlib hih (f := f) (os := os2)) h hF hρ hN hS hR
      · simp at h
    · rename_i hnf
      have IH := regDF_ok hlib hih (f := f) (os := os)
      split at h
      · exact goD_ok hlib hih IH h rfl hF hρ hN hS hR
      · rename_i g0
        simp only at h
        split at h <;> (try (simp at h; done))
        rename_i b hb
        have hg := guardF_ok hρ hb
        split at h
        · exact goD_ok hlib hih IH h hg hF hρ hN hS hR
        · split at h <;> (try (simp at h; done))
          rename_i hna
          obtain ⟨hd, hh⟩ := noV_inv h
          cases hq : quietK k with
          | true =>
            rw [hq, if_pos rfl] at hh
            exact DOA_skipQ hg hq (.d (.bool false)) (IH _ _ _ _ _ _ hh F η _ L s _ hF (putF_ok hρ WR.skp dst) hN hS (hR.put hd _))
          | false =>
            rw [hq] at hh
            simp only [Bool.false_eq_true, if_false] at hh
            have hp : pendK k = false := by
              cases k <;> simp [quietK] at hq <;> first | rfl | exact absurd rfl (hna _) | exact absurd rfl (hnf _)
            exact DOA_skip (e := .d (.bool false)) hg hp (IH _ _ _ _ _ _ hh F η _ L s _ hF (putF_ok hρ WR.skp dst) hN hS ((hR.put hd _).next fl))
theorem regD_ok (hlib : LibOk C) (hih : IhOk C ih) : RegDOk C ih := by
  intro f order ops kp fm k ρ σ nx o h hf F η ρd s hF hρ hN hS
  simp only [codeF] at h
  exact DRun_regD (show DOA F none k ops ρd [] s [] from regDF_ok hlib hih _ _ _ _ _ _ h F η ρd [] s [] hF hρ hN hS RlOk.nil)
end
end Go.DL
namespace Go.DL
open Go
section
variable {P : Program}
theorem DCalls.subM {f : FuncId} {args : List D} {s : St} {Φ Φ' : Res → St → Prop} (h : DCalls P f args s Φ) (hp : ∀ r s', Φ r s' → ∃ s2, St.sub s2 s' ∧ Φ' r s2) : DCalls P f args s Φ' :=
  ⟨h.1, fun g w vs hs ha => (h.2 g w vs hs ha).mono fun _ _ ⟨g', s', r, a, b, c, d⟩ => let ⟨s2, e1, e2⟩ := hp r s' d; ⟨g', s2, r, a, b.sub e1, c, e2⟩⟩
def St.emp : St := fun _ => none
theorem emp_or (s : St) : St.emp.or s = s := by funext b; simp [St.or, St.emp]
theorem PCalls_emp {f : FuncId} {args : List D} {d : D} (h : DCalls P f args St.emp fun r _ => r = .ret d) : PCalls P f args d := fun s => by
  have h1 : DCalls P f args St.emp fun r s' => r = .ret d ∧ s' = St.emp := h.subM fun r s' hr => ⟨St.emp, fun b o hb => by simp [St.emp] at hb, hr, rfl⟩
  have hdj : Disj St.emp s := fun b o _ => rfl
  have h2 := h1.frame hdj
  rw [emp_or] at h2
  refine h2.mono fun r S ⟨s', ⟨e1, e2⟩, _, e3⟩ => ⟨e1, ?_⟩
  rw [e3, e2, emp_or]
end
def nm0 : Nm := fun k => if k = 0 then some .none else if k = 1 then some .full else none
theorem nm0_ok : NmOk nm0 2 := {
  z := rfl
  o := rfl
  two := Nat.le_refl _
  free k hk := by simp only [nm0]; rw [if_neg (by omega), if_neg (by omega)] }
theorem sim0 (C : Cx) (η : Nm) (s : St) : Sim ⟨C, St.emp⟩ η T.nil s := {
  obj k o h := by simp [T.get_nil] at h
  inj k k' o o' b h := by simp [T.get_nil] at h
  kp b d h := by simp [St.emp] at h
  ro k o b h := by simp [T.get_nil] at h }
end Go.DL
namespace Go.DL
open Go
section
variable {P : Program}
theorem DO_native {F : Fr P} {kp : Option (List Nat)} {dk : List DItem} {o : DOp} {os : List DOp} {ρ : Env} {L : Loc} {s : St} (hg : guardB ρ o.guard = some true) {n : FuncId} {xs : List Opd} (hk : o.k = .call (.cst (.fn (.func n) [] [])) xs)
    {p : Prop} {es : List E} {ds : List D} (ha : argsE ρ true xs = some (p, es)) (hds : dsOf es = some ds) (hp : p) {fn : Func} (h0 : P.funcs[n]? = some fn) (h1 : fn.body = none) (h2 : (fn.name == "runtime.NumGoroutine") = false) (h3 : Extern.findNext fn = none) {e : Array Value → Sem Value} (h4 : Extern.find fn = some e)
    {d : D} (he : ∀ g w vs, All2 (Rep g w) vs ds → ∃ v, (e vs.toArray).run P w = .ok v w ∧ Rep g w v d) (h : DO F kp dk os (putE ρ o.dst (.d d)) L s) : DO F kp dk (o :: os) ρ L s := by
  refine DO_of fun oo g ν w tmps ops i r k hoo hck hcg hdst hd hN m hr hkk => ?_
  have hw := guard_ok m hcg hg
  have hnd := ck_defer hck (by rw [hk]; rfl)
  rw [hk] at hck
  obtain ⟨f', args, ats, hop, hf', hxs⟩ := ck_call hck
  have hfr : Rep g w _ _ := opd_ok (ρ := ρ) m hf' rfl rfl trivial F.ds
  have hargs := reps_of_dsOf (opds_ok m rfl F.ds hxs ha hp) hds
  obtain ⟨v, hv1, hv2⟩ := he g w _ hargs
  generalize hfv : (Act.mk tmps F.ds).eval f' = fv at hfr
  have hfv' : fv = .func (.func n) #[] #[] := by
    cases hfr with
    | fn _ fs cs _ _ e1 e2 _ _ =>
      obtain rfl : fs = [] := by simpa using e1
      obtain rfl : cs = [] := by simpa using e2
      rfl
  subst hfv'
  have hmap : (Array.map (Act.mk tmps F.ds).eval args) = (args.toList.map (Act.mk tmps F.ds).eval).toArray := by apply Array.ext'; simp
  refine goes_value (e := .d d) hN m hoo hdst hd hw hnd ⟨v, ?_, hv2⟩ (h ops r k hr hkk)
  have hcall : (callFunc n ((args.toList.map (Act.mk tmps F.ds).eval).toArray ++ #[])).run P w = .ok (.value v) w := by
    have h2' : ¬ fn.name = "runtime.NumGoroutine" := by simpa using h2
    simp [callFunc, h0, h2', h1, h3, h4, hv1]
  simp [execOp, hop, resolve, hfv, hmap, Deferred.ofValue, invoke]
  simpa using hcall
def idxV (c : Nat) : List Nat → Int
  | [] => -1
  | b :: l => if Nat.beq (b % 256) (c % 256) then 0 else match idxV c l with
    | .ofNat n => .ofNat (n + 1)
    | .negSucc _ => -1
theorem idxV_ok (c : Nat) : ∀ (l : List Nat), idxV c l = Lib.indexByte (l.map UInt8.ofNat) (UInt8.ofNat c)
  | [] => rfl
  | b :: l => by
    have ih := idxV_ok c l
    simp only [idxV, List.map_cons, Lib.indexByte]
    have hbc : Nat.beq (b % 256) (c % 256) = (UInt8.ofNat b == UInt8.ofNat c) := by
      rw [Bool.eq_iff_iff, Nat.beq_eq, beq_iff_eq]
      constructor
      · intro h
        apply UInt8.toNat_inj.1
        simpa using h
      · intro h
        have := congrArg UInt8.toNat h
        simpa using this
    rw [hbc]
    split
    · rfl
    · have hge := Lib.indexByte_ge (l.map UInt8.ofNat) (UInt8.ofNat c)
      rw [← ih] at hge ⊢
      cases hx : idxV c l with
      | ofNat n =>
        have : (Int.ofNat n == -1) = false := by rw [beq_eq_false_iff_ne]; simp only [Int.ofNat_eq_natCast, ne_eq]; omega
        rw [this]; rfl
      | negSucc n =>
        rw [hx] at hge
        have : n = 0 := by have e := Int.negSucc_eq n; omega
        subst this; rfl
theorem indexByte_le : ∀ (l : List UInt8) (c : UInt8), Lib.indexByte l c < l.length ∨ Lib.indexByte l c = -1
  | [], c => .inr rfl
  | b :: l, c => by
    simp only [Lib.indexByte]
    split
    · left; simp
    · split
      · exact .inr rfl
      · rename_i h
        rcases indexByte_le l c with h1 | h1
        · left; simp; omega
        · rw [h1] at h; simp at h
def ixDF (n : FuncId) : DF := ⟨8, [.tmp 4], .seq (.reg [⟨some 4, none, .q .mv [.cst (.int .i64 0)]⟩] none) (.seq (.reg [⟨some 5, none, .q .mv [.tmp 0]⟩, ⟨some 6, none, .q .mv [.tmp 1]⟩, ⟨some 7, none, .call (.cst (.fn (.func n) [] [])) [.tmp 5, .tmp 6]⟩, ⟨some 4, none, .q .mv [.tmp 7]⟩] none) .ret)⟩
theorem indexByte_pc {an : Ann} {f n : FuncId} (hf : cf P an f = some (ixDF n)) {fn : Func} (h0 : P.funcs[n]? = some fn) (h1 : fn.body = none) (h2 : (fn.name == "runtime.NumGoroutine") = false) (h3 : Extern.findNext fn = none) (h4 : Extern.find fn = some Extern.BytealgIndexByte.indexByte) (l : List UInt8) (c : Int) :
    PCalls P f [.str l, .int .u8 c] (.int .i64 (Lib.indexByte l c.toNat.toUInt8)) := by
  refine PCalls_fun hf fun F s hret => ?_
  refine DRun_seq (DRun_reg (DO_step rfl (by repeat (first | trivial | constructor)) (DO_end (DRun_seq (DRun_reg (DO_step rfl (by repeat (first | trivial | constructor)) (DO_step rfl (by repeat (first | trivial | constructor)) (DO_native rfl rfl rfl rfl (by repeat (first | trivial | constructor)) h0 h1 h2 h3 h4 (d := .int .i64 (Lib.indexByte l c.toNat.toUInt8)) (fun g w vs ha => ?_)
    (DO_step rfl (by repeat (first | trivial | constructor)) (DO_end (hret rfl (by repeat (first | trivial | constructor)) (D.Le.refl _) (St.sub_refl _))))))))))))
  cases ha with
  | cons a1 ha =>
  cases ha with
  | cons a2 ha =>
  cases ha
  cases a1 with
  | str s _ hs hb =>
  cases a2 with
  | int _ _ hc =>
  subst hs
  refine ⟨_, Lib.run_indexByteString s c w, .int _ _ ?_⟩
  have h1 := Lib.indexByte_ge s.data.toList c.toNat.toUInt8
  have h2 := indexByte_le s.data.toList c.toNat.toUInt8
  simp only [big] at hb
  simp only [inR, IntKind.min, IntKind.max, IntKind.signed, IntKind.bits]
  generalize Lib.indexByte s.data.toList c.toNat.toUInt8 = z at h1 h2 ⊢
  rcases h2 with h2 | h2 <;> simp <;> omega
end
end Go.DL
namespace Go.DL
open Go
def allB (f : V → V → Bool) : List V → List V → Bool
  | [], [] => true
  | a :: x, b :: y => if f a b then allB f x y else false
  | _, _ => false
def matS (ih : V → V → Bool) (k v : V) : Bool := match k with
  | .int i a => match v with
    | .int j b => kindB i j && eqI a b
    | _ => false
  | .bool a => match v with
    | .bool b => a == b
    | _ => false
  | .str a => match v with
    | .str b => eqS a b
    | _ => false
  | .agg a => match v with
    | .agg b => allB ih a b
    | _ => false
  | .nilsl => match v with
    | .nilsl => true
    | _ => false
  | .sl _ m s a => match v with
    | .sl _ m' s' b => Nat.beq m m' && Nat.beq s s' && allB ih a b
    | _ => false
  | .nilptr => match v with
    | .nilptr => true
    | _ => false
  | .nilmap => match v with
    | .nilmap => true
    | _ => false
  | .niliface => match v with
    | .niliface => true
    | _ => false
  | _ => false
def matV (n : Nat) : V → V → Bool := Nat.rec (motive := fun _ => V → V → Bool) (fun _ _ => false) (fun _ ih => matS ih) n
def zV (n : Nat) : V → V := Nat.rec (motive := fun _ => V → V) (fun k => k) (fun _ ih k => match k with
  | .agg a => .agg (a.map ih)
  | .sl _ m s a => .sl 0 m s (a.map ih)
  | k => k) n
theorem mat_ok {η η' : Nm} : ∀ (n : Nat) {k v : V} {d : D}, matV n k v = true → VR η v d → VR η' (zV n k) d
  | 0, k, v, d, h, _ => by simp [matV] at h
  | n + 1, k, v, d, h, hv => by
    have ih := fun {k v : V} {d : D} => mat_ok (η := η) (η' := η') n (k := k) (v := v) (d := d)
    have ihs : ∀ {a b : List V} {ds : List D}, allB (matV n) a b = true → VRs η b ds → VRs η' (a.map (zV n)) ds := by
      intro a
      induction a with
      | nil =>
        intro b ds h hb
        cases b with
        | nil => obtain rfl := hb.inv0; exact .nil
        | cons _ _ => simp [allB] at h
      | cons x a iha =>
        intro b ds h hb
        cases b with
        | nil => simp [allB] at h
        | cons y b =>
          simp only [allB] at h
          split at h <;> (try (simp at h; done))
          rename_i hx
          obtain ⟨d, ds', rfl, h1, h2⟩ := hb.inv
          exact .cons _ _ _ _ (ih hx h1) (iha h h2)
    have ihr : ∀ {s : Nat} {a b : List V} {row : Nat → List D}, allB (matV n) a b = true → VRr η s b row → VRr η' s (a.map (zV n)) row ∧ a.length = b.length := by
      intro s a
      induction a with
      | nil =>
        intro b row h hb
        cases b with
        | nil => exact ⟨.nil _ _, rfl⟩
        | cons _ _ => simp [allB] at h
      | cons x a iha =>
        intro b row h hb
        cases b with
        | nil => simp [allB] at h
        | cons y b =>
          simp only [allB] at h
          split at h <;> (try (simp at h; done))
          rename_i hx
          obtain ⟨cs, rfl, h1, h2, h3⟩ := hb.inv
          obtain ⟨g1, g2⟩ := iha h h3
          have hz := ih hx (.agg _ _ h1)
          obtain ⟨cs', hcs, hl⟩ : ∃ cs', zV n x = .agg cs' ∧ VRs η' cs' (row 0) := by
            generalize he : zV n x = z at hz
            cases hz with
            | agg cs' _ h => exact ⟨cs', rfl, h⟩
          refine ⟨?_, by simp [g2]⟩
          rw [List.map_cons, hcs]
          exact .cons _ _ _ _ hl (by rw [hl.len, ← h1.len, h2]) g1
    have h' : matS (matV n) k v = true := h
    cases k <;> simp only [matS, Bool.false_eq_true] at h' <;> cases hv <;> simp only [Bool.false_eq_true] at h'
    case int =>
      simp only [Bool.and_eq_true, eqI_iff] at h'
      obtain ⟨h1, rfl⟩ := h'
      obtain rfl := kindB_ok h1
      exact .int _ _
    case bool => simp only [beq_iff_eq] at h'; subst h'; exact .bool _
    case str a b =>
      rw [eqS_ok, decide_eq_true_eq] at h'
      show VR η' (.str a) _
      rw [← h']
      exact .str _
    case agg a b ds hb => exact .agg _ _ (ihs h' hb)
    case nilsl => exact .nilsl
    case sl =>
      simp only [Bool.and_eq_true, beq_iff] at h'
      obtain ⟨⟨rfl, rfl⟩, h3⟩ := h'
      obtain ⟨g1, g2⟩ := ihr h3 ‹VRr η _ _ _›
      exact .sl _ _ _ _ _ _ g1 (by rw [List.length_map, g2]; assumption) (.inl rfl)
    case nilptr => exact .nilptr
    case nilmap => exact .nilmap
    case niliface => exact .niliface
def isTrue : Option Out → Bool
  | some o => match o.pan with
    | false => match o.v with
      | .bool b => b
      | _ => false
    | true => false
  | none => false
theorem isTrue_ok {x : Option Out} (h : isTrue x = true) : ∃ σ nx, x = some ⟨false, .bool true, σ, nx⟩ := by
  cases x with
  | none => simp [isTrue] at h
  | some o =>
    obtain ⟨pan, v, σ, nx⟩ := o
    cases pan <;> cases v <;> simp [isTrue] at h
    subst h
    exact ⟨σ, nx, rfl⟩
end Go.DL
namespace Go.DL
open Go
def libB (f0 : FuncId) (f : FuncId) : Option (S → List V → Option V) := match Nat.beq f f0 with
  | true => some fun _ vs => match vs with
    | [.str s, .int k c] => match k with
      | .u8 => some (.int .i64 (idxV c.toNat s))
      | _ => none
    | _ => none
  | false => none
theorem libB_ok {P : Program} {mu : FuncId → Option Nat → Bool} {f0 n : FuncId} (hf : cf P [] f0 = some (ixDF n)) {fn : Func} (h0 : P.funcs[n]? = some fn) (h1 : fn.body = none) (h2 : (fn.name == "runtime.NumGoroutine") = false) (h3 : Extern.findNext fn = none) (h4 : Extern.find fn = some Extern.BytealgIndexByte.indexByte) (t : St) : LibOk ⟨⟨P, libB f0, mu⟩, t⟩ := by
  intro f g σ vs v hfg hg η ds s hv hS
  simp only [libB] at hfg
  split at hfg <;> simp only [Option.some.injEq, reduceCtorEq] at hfg
  rename_i hb
  rw [beq_iff] at hb
  subst hb; subst hfg
  simp only at hg
  split at hg <;> (try (simp at hg; done))
  split at hg <;> simp only [Option.some.injEq, reduceCtorEq] at hg
  subst hg
  obtain ⟨d, d', rfl, a1, a2⟩ := hv.inv2
  cases a1
  cases a2
  refine ⟨_, .int _ _, ?_⟩
  rename_i l c
  rw [idxV_ok]
  exact indexByte_pc hf h0 h1 h2 h3 h4 _ _ s
theorem true_ok {C : Cx} (hlib : ∀ t, LibOk ⟨C, t⟩) {f : FuncId} {m : Nat} (h : isTrue ((callF C f).run (run C m) [] T.nil 2) = true) : PCalls C.P f [] (.bool true) := by
  obtain ⟨σ, nx, h⟩ := isTrue_ok h
  refine PCalls_emp ?_
  have hih := run_ok hlib (fun C' ih he hih => regD_ok (by subst he; exact hlib _) hih) m St.emp
  refine (callF_ok (C := ⟨C, St.emp⟩) (hlib _) hih h .nil nm0_ok (sim0 C nm0 St.emp)).mono fun r s hp => ?_
  obtain ⟨η', d', k1, k2, k3, k4, k5⟩ := hp
  cases k4
  exact k5
def getV : Option Out → V
  | some o => o.v
  | none => .nilsl
end Go.DL
namespace Go.DL
open Go
theorem LdLe.mslo {t : St} {Ln : List Nat} {b o n cap sz : Nat} {ds : List D} {row : Nat → List D} (hb : b ∈ Ln) (ht : t b = some (.cells ds)) (hlen : n * sz ≤ ds.length - o)
    (hrow : ∀ i, i < n → LdC t Ln ((ds.drop (o + i * sz)).take sz) (row i)) : LdLe t Ln (.msl b o n cap sz) (.sl .none n sz row) := by
  intro g w v hf hr
  obtain ⟨vs, T, hh, hsz, hc, one, hp⟩ := hf b hb ds ht
  cases hr with
  | mslx a _ _ _ => exact .sl0 _ _ _ _ (by simp)
  | msl _ _ _ _ _ hcap hbig =>
  have hin : ∀ i j, i < n → j < sz → o + i * sz + j < ds.length := fun i j hi hj => by
    have : (i + 1) * sz ≤ n * sz := Nat.mul_le_mul_right _ hi
    rw [Nat.add_mul, Nat.one_mul] at this
    omega
  have hget : ∀ i j, i < n → j < sz → vs[o + i * sz + j]? = some (vs.getD (o + i * sz + j) undef) := fun i j hi hj => by
    have h1 := hin i j hi hj
    simp only [Array.getD_eq_getD_getElem?, Array.getElem?_eq_getElem (show o + i * sz + j < vs.size by omega), Option.getD_some]
  have hmem : ∀ i j, i < n → j < sz → vs.getD (o + i * sz + j) undef ∈ vs := fun i j hi hj => by
    have h1 := hin i j hi hj
    simp only [Array.getD_eq_getD_getElem?, Array.getElem?_eq_getElem (show o + i * sz + j < vs.size by omega), Option.getD_some]
    exact Array.getElem_mem _
  have hrl : ∀ i, i < n → (row i).length = sz := fun i hi => by
    rw [← (hrow i hi).len, List.length_take, List.length_drop]
    have : (i + 1) * sz ≤ n * sz := Nat.mul_le_mul_right _ hi
    rw [Nat.add_mul, Nat.one_mul] at this
    omega
  refine .sl b o n cap sz row .none (fun i j => vs.getD (o + i * sz + j) undef) hrl (fun i j hi hj => ?_) (fun i j hi hj => ?_) (fun i j d hi hd => ?_) (fun i j hi hj => one _ (hmem i j hi hj)) trivial hcap hbig
  · rw [cell_heap hh]; exact hget i j hi hj
  · have := hin i j hi hj; omega
  · have hj : j < sz := by rw [← hrl i hi]; exact (List.getElem?_eq_some_iff.1 hd).1
    obtain ⟨x, hx, hle⟩ := (hrow i hi).get hd
    rw [List.getElem?_take, if_pos hj, List.getElem?_drop] at hx
    exact hle g w _ hf (hc _ _ x (hget i j hi hj) hx)
theorem LdLe.tup {t : St} {Ln : List Nat} {l l' : List D} (h : LdC t Ln l l') : LdLe t Ln (.tup l) (.tup l') := by
  intro g w v hf hr
  cases hr with
  | tup vs _ hn hc =>
    refine .tup vs _ (hn.trans h.len) (fun i v d hv hd => ?_)
    obtain ⟨x, hx, hle⟩ := h.get hd
    exact hle g w v hf (hc i v x hv hx)
theorem LdLe.iface {t : St} {Ln : List Nat} {T : TypeId} {d d' : D} (h : LdLe t Ln d d') : LdLe t Ln (.iface T d) (.iface T d') := by
  intro g w v hf hr
  cases hr with
  | iface _ v _ hv => exact .iface T v d' (h g w v hf hv)
theorem LdLe.sl {t : St} {Ln : List Nat} {τ : Tok} {n sz : Nat} {row row' : Nat → List D} (hrow : ∀ i, i < n → LdC t Ln (row i) (row' i)) : LdLe t Ln (.sl τ n sz row) (.sl .none n sz row') := by
  intro g w v hf hr
  cases hr with
  | sl0 a _ _ _ _ => exact .sl0 a _ _ _ (by simp)
  | sl b o _ cap _ _ _ f hl hc hp hrr one ht hcap hb =>
    refine .sl b o n cap sz row' .none f (fun i hi => by rw [← (hrow i hi).len]; exact hl i hi) hc hp (fun i j d hi hd => ?_) one trivial hcap hb
    obtain ⟨x, hx, hle⟩ := (hrow i hi).get hd
    exact hle g w _ hf (hrr i j x hi hx)
theorem LdLe.more {t : St} {Ln Ln' : List Nat} {d d' : D} (h : LdLe t Ln d d') (hs : ∀ b ∈ Ln, b ∈ Ln') : LdLe t Ln' d d' := fun g w v hf hr => h g w v (fun b hb => hf b (hs b hb)) hr
theorem LdC.more {t : St} {Ln Ln' : List Nat} {l l' : List D} (h : LdC t Ln l l') (hs : ∀ b ∈ Ln, b ∈ Ln') : LdC t Ln' l l' := by
  induction h with
  | nil => exact .nil
  | cons h _ ih => exact .cons (h.more hs) ih
theorem StOk.frz {g : G} {s : St} {w : World} (m : StOk g s w) {Ln : List Nat} (hL : ∀ b ∈ Ln, ∃ ds, s b = some (.cells ds)) : StOk (frzG g s Ln) (s.delL Ln) w := by
  have hx := frzG_ext m hL
  have hpe : ∀ c, c ∉ Ln → (frzG g s Ln).prot c = g.prot c := fun c hc => by simp only [frzG, if_neg hc]
  refine ⟨fun c x hx' => ?_, fun c x hx' => ?_, fun c hc => ?_⟩
  · simp only [St.delL] at hx'
    by_cases hc : c ∈ Ln
    · simp [hc] at hx'
    · simp only [hc, if_false] at hx'; exact (m.obj c x hx').mono hx rfl (hpe c hc)
  · simp only [St.delL] at hx'
    by_cases hc : c ∈ Ln
    · simp [hc] at hx'
    · simp only [hc, if_false] at hx'; exact m.kept c x hx'
  · have h1 := m.fresh c hc
    refine ⟨(hpe c fun h => ?_).trans h1.1, h1.2⟩
    obtain ⟨ds, hd⟩ := hL c h
    have := (m.obj c _ hd).lt
    omega
theorem DCalls.frz {P : Program} {f : FuncId} {args : List D} {s : St} {Φ : Res → St → Prop} {d0 : D} (h : DCalls P f args s Φ)
    (hp : ∀ r s', Φ r s' → ∃ d Ln, r = .ret d ∧ (∀ b ∈ Ln, ∃ ds, s' b = some (.cells ds)) ∧ LdLe s' Ln d d0) : DCalls P f args s fun r _ => r = .ret d0 := by
  refine ⟨h.1, fun g w vs hs ha => (h.2 g w vs hs ha).mono fun e w' ⟨g', s', r, hx, hs', hr, hΦ⟩ => ?_⟩
  obtain ⟨d, Ln, rfl, hL, hle⟩ := hp r s' hΦ
  refine ⟨frzG g' s' Ln, s'.delL Ln, .ret d0, hx.trans (frzG_ext hs' hL), hs'.frz hL, ?_, rfl⟩
  cases e with
  | returned v => exact hle _ w' v (frzG_at hs' hL) (Rep.mono hr (frzG_ext hs' hL))
  | _ => exact hr.elim
def rdL (f : V → Option V) : List V → Option (List V)
  | [] => some []
  | v :: l => match f v with
    | some r => consO r (rdL f l)
    | none => none
def rdRows (f : V → Option V) (s : Nat) : List V → Option (List V)
  | [] => some []
  | .agg cs :: l => match Nat.beq cs.length s with
    | true => match rdL f cs with
      | some r => consO (.agg r) (rdRows f s l)
      | none => none
    | false => none
  | _ :: _ => none
def chunkO (s : Nat) : Nat → List V → Option (List V)
  | 0, _ => some []
  | n + 1, l => match takeO s l with
    | some c => consO (.agg c) (chunkO s n (dropR s l))
    | none => none
def rd (σ : S) : Nat → V → Option V
  | 0, _ => none
  | n + 1, v => match v with
    | .int k a => some (.int k a)
    | .bool b => some (.bool b)
    | .str s => some (.str s)
    | .nilsl => some .nilsl
    | .nilptr => some .nilptr
    | .nilmap => some .nilmap
    | .nilfn => some .nilfn
    | .niliface => some .niliface
    | .agg cs => match rdL (rd σ n) cs with
      | some r => some (.agg r)
      | none => none
    | .tup cs => match rdL (rd σ n) cs with
      | some r => some (.tup r)
      | none => none
    | .iface t x => match rd σ n x with
      | some r => some (.iface t r)
      | none => none
    | .sl _ m s rs => match Nat.beq rs.length m with
      | true => match rdRows (rd σ n) s rs with
        | some r => some (.sl 0 m s r)
        | none => none
      | false => none
    | .msl k o m _ s => match objCells (σ.get k) with
      | some vs => match takeO (m * s) (dropR o vs) with
        | some cs => match chunkO s m cs with
          | some rs => match rdRows (rd σ n) s rs with
            | some r => some (.sl 0 m s r)
            | none => none
          | none => none
        | none => none
      | none => none
    | _ => none
def dV : Nat → V → D
  | 0, _ => .undef
  | n + 1, v => match v with
    | .int k a => .int k a
    | .bool b => .bool b
    | .str s => .str (s.map UInt8.ofNat)
    | .nilsl => .nilsl
    | .nilptr => .nilptr
    | .nilmap => .nilmap
    | .nilfn => .nilfn
    | .niliface => .niliface
    | .agg cs => .agg (cs.map (dV n))
    | .tup cs => .tup (cs.map (dV n))
    | .iface t x => .iface t (dV n x)
    | .sl _ m s rs => .sl .none m s fun i => match rs[i]? with
      | some (.agg cs) => cs.map (dV n)
      | _ => []
    | _ => .undef
def rowK (n : Nat) (rs : List V) (i : Nat) : List D := match rs[i]? with
  | some (.agg cs) => cs.map (dV n)
  | _ => []
theorem rdL_len {f : V → Option V} : ∀ {vs rs : List V}, rdL f vs = some rs → rs.length = vs.length
  | [], rs, h => by simp only [rdL, Option.some.injEq] at h; subst h; rfl
  | v :: vs, rs, h => by
    simp only [rdL] at h
    split at h <;> (try (simp at h; done))
    obtain ⟨q, hq, rfl⟩ := consO_ok h
    simp [rdL_len hq]
theorem rdL_self {σ : S} {n : Nat} (ih : ∀ v r, rd σ n v = some r → ∀ η, VR η r (dV n r)) : ∀ {vs rs : List V}, rdL (rd σ n) vs = some rs → ∀ η, VRs η rs (rs.map (dV n))
  | [], rs, h, η => by
    simp only [rdL, Option.some.injEq] at h
    subst h
    exact .nil
  | v :: vs, rs, h, η => by
    simp only [rdL] at h
    split at h <;> (try (simp at h; done))
    rename_i r hr
    obtain ⟨q, hq, rfl⟩ := consO_ok h
    exact .cons _ _ _ _ (ih v r hr η) (rdL_self ih hq η)
theorem rdRows_self {σ : S} {n sz : Nat} (ih : ∀ v r, rd σ n v = some r → ∀ η, VR η r (dV n r)) : ∀ {vs rs : List V}, rdRows (rd σ n) sz vs = some rs → rs.length = vs.length ∧ ∀ η, VRr η sz rs (rowK n rs)
  | [], rs, h => by
    simp only [rdRows, Option.some.injEq] at h
    subst h
    exact ⟨rfl, fun _ => .nil _ _⟩
  | v :: vs, rs, h => by
    cases v <;> simp only [rdRows, reduceCtorEq] at h
    rename_i cs
    split at h <;> (try (simp at h; done))
    rename_i hb
    rw [beq_iff] at hb
    split at h <;> (try (simp at h; done))
    rename_i r hr
    obtain ⟨q, hq, rfl⟩ := consO_ok h
    obtain ⟨h1, h2⟩ := rdRows_self ih hq
    exact ⟨by simp [h1], fun η => .cons _ _ _ _ (rdL_self ih hr η) (by rw [rdL_len hr, hb]) (h2 η)⟩
theorem chunkO_len {sz : Nat} : ∀ {m : Nat} {cs rs : List V}, chunkO sz m cs = some rs → rs.length = m
  | 0, cs, rs, h => by simp only [chunkO, Option.some.injEq] at h; subst h; rfl
  | m + 1, cs, rs, h => by
    simp only [chunkO] at h
    split at h <;> (try (simp at h; done))
    obtain ⟨q, hq, rfl⟩ := consO_ok h
    simp [chunkO_len hq]
theorem rd_self {σ : S} : ∀ (n : Nat) (v r : V), rd σ n v = some r → ∀ η, VR η r (dV n r)
  | 0, v, r, h => by simp [rd] at h
  | n + 1, v, r, h => fun η => by
    have ih := rd_self (σ := σ) n
    cases v <;> simp only [rd, Option.some.injEq, reduceCtorEq] at h
    case int => subst h; exact .int _ _
    case bool => subst h; exact .bool _
    case str => subst h; exact .str _
    case nilsl => subst h; exact .nilsl
    case nilptr => subst h; exact .nilptr
    case nilmap => subst h; exact .nilmap
    case nilfn => subst h; exact .nilfn
    case niliface => subst h; exact .niliface
    case agg cs =>
      split at h <;> simp only [Option.some.injEq, reduceCtorEq] at h
      rename_i q hq
      subst h
      exact .agg _ _ (rdL_self ih hq η)
    case tup cs =>
      split at h <;> simp only [Option.some.injEq, reduceCtorEq] at h
      rename_i q hq
      subst h
      exact .tup _ _ (rdL_self ih hq η)
    case iface t x =>
      split at h <;> simp only [Option.some.injEq, reduceCtorEq] at h
      rename_i q hq
      subst h
      exact .iface _ _ _ (ih x q hq η)
    case sl t m sz rs =>
      split at h <;> (try (simp only [reduceCtorEq] at h; done))
      rename_i hb
      rw [beq_iff] at hb
      split at h <;> simp only [Option.some.injEq, reduceCtorEq] at h
      rename_i q hq
      subst h
      obtain ⟨h1, h2⟩ := rdRows_self ih hq
      exact .sl _ _ _ _ _ _ (h2 η) (h1.trans hb) (.inl rfl)
    case msl k o m cap sz =>
      split at h <;> (try (simp only [reduceCtorEq] at h; done))
      split at h <;> (try (simp only [reduceCtorEq] at h; done))
      split at h <;> (try (simp only [reduceCtorEq] at h; done))
      rename_i rs hrs
      split at h <;> simp only [Option.some.injEq, reduceCtorEq] at h
      rename_i q hq
      subst h
      obtain ⟨h1, h2⟩ := rdRows_self ih hq
      exact .sl _ _ _ _ _ _ (h2 η) (h1.trans (chunkO_len hrs)) (.inl rfl)
def RdOk (η : Nm) (σ : S) (s : St) (n : Nat) : Prop := ∀ v r d, rd σ n v = some r → VR η v d → ∃ Ln, (∀ b ∈ Ln, ∃ ds, s b = some (.cells ds)) ∧ LdLe s Ln d (dV n r)
theorem rdL_ok {η : Nm} {σ : S} {s : St} {n : Nat} (ih : RdOk η σ s n) : ∀ {vs rs : List V} {ds : List D}, rdL (rd σ n) vs = some rs → VRs η vs ds →
    ∃ Ln, (∀ b ∈ Ln, ∃ ds, s b = some (.cells ds)) ∧ LdC s Ln ds (rs.map (dV n))
  | [], rs, ds, h, hv => by
    obtain rfl := hv.inv0
    simp only [rdL, Option.some.injEq] at h
    subst h
    exact ⟨[], by simp, .nil⟩
  | v :: vs, rs, ds, h, hv => by
    obtain ⟨d, ds', rfl, h1, h2⟩ := hv.inv
    simp only [rdL] at h
    split at h <;> (try (simp at h; done))
    rename_i r hr
    obtain ⟨q, hq, rfl⟩ := consO_ok h
    obtain ⟨L1, a1, a2⟩ := ih v r d hr h1
    obtain ⟨L2, b1, b2⟩ := rdL_ok ih hq h2
    refine ⟨L1 ++ L2, fun b hb => ?_, .cons (a2.more fun b hb => by simp [hb]) (b2.more fun b hb => by simp [hb])⟩
    rcases List.mem_append.1 hb with hb | hb
    · exact a1 b hb
    · exact b1 b hb
theorem rdRows_ok {η : Nm} {σ : S} {s : St} {n sz : Nat} (ih : RdOk η σ s n) : ∀ {vs rs : List V} {row : Nat → List D}, rdRows (rd σ n) sz vs = some rs → VRr η sz vs row →
    ∃ Ln, (∀ b ∈ Ln, ∃ ds, s b = some (.cells ds)) ∧ ∀ i, i < vs.length → LdC s Ln (row i) (rowK n rs i)
  | [], rs, row, h, hv => ⟨[], by simp, by simp⟩
  | v :: vs, rs, row, h, hv => by
    obtain ⟨cs, rfl, h1, h2, h3⟩ := hv.inv
    simp only [rdRows] at h
    split at h <;> (try (simp at h; done))
    split at h <;> (try (simp at h; done))
    rename_i r hr
    obtain ⟨q, hq, rfl⟩ := consO_ok h
    obtain ⟨L1, a1, a2⟩ := rdL_ok ih hr h1
    obtain ⟨L2, b1, b2⟩ := rdRows_ok ih hq h3
    refine ⟨L1 ++ L2, fun b hb => ?_, fun i hi => ?_⟩
    · rcases List.mem_append.1 hb with hb | hb
      · exact a1 b hb
      · exact b1 b hb
    · cases i with
      | zero => exact a2.more fun b hb => by simp [hb]
      | succ i =>
        have := b2 i (by simpa using hi)
        exact LdC.more this fun b hb => by simp [hb]
theorem chunkO_ok {η : Nm} {sz : Nat} : ∀ {m : Nat} {cs rs : List V} {ds : List D}, chunkO sz m cs = some rs → VRs η cs ds → rs.length = m ∧ VRr η sz rs fun i => (ds.drop (i * sz)).take sz
  | 0, cs, rs, ds, h, hv => by
    simp only [chunkO, Option.some.injEq] at h
    subst h
    exact ⟨rfl, .nil _ _⟩
  | m + 1, cs, rs, ds, h, hv => by
    simp only [chunkO] at h
    split at h <;> (try (simp at h; done))
    rename_i c hc
    obtain ⟨q, hq, rfl⟩ := consO_ok h
    obtain ⟨c1, rfl⟩ := takeO_ok hc
    rw [dropR_eq] at hq
    obtain ⟨d1, d2⟩ := chunkO_ok hq (hv.drop sz)
    refine ⟨by simp [d1], .cons _ _ _ _ (by simpa using hv.take sz) (by simp only [List.length_take]; omega) ?_⟩
    have e : (fun i => ((ds.drop sz).drop (i * sz)).take sz) = fun i => (ds.drop ((i + 1) * sz)).take sz := by
      funext i
      rw [List.drop_drop, Nat.add_mul, Nat.one_mul, Nat.add_comm]
    rw [e] at d2
    exact d2
theorem rdM_ok {η : Nm} {σ : S} {s : St} {n : Nat} (ih : RdOk η σ s n) (hS : CellsR η σ s) {k b o m cap sz : Nat} {cv cs rs q : List V} (hk : η k = some (.tip b)) (hcv : objCells (σ.get k) = some cv)
    (hcs : takeO (m * sz) (dropR o cv) = some cs) (hrs : chunkO sz m cs = some rs) (hq : rdRows (rd σ n) sz rs = some q) :
    ∃ Ln, (∀ b ∈ Ln, ∃ ds, s b = some (.cells ds)) ∧ LdLe s Ln (.msl b o m cap sz) (.sl .none m sz (rowK n q)) := by
  obtain ⟨ds, ex, hb, hv⟩ := hS _ _ _ hcv hk
  rw [dropR_eq] at hcs
  obtain ⟨c1, rfl⟩ := takeO_ok hcs
  obtain ⟨e1, e2⟩ := chunkO_ok hrs ((hv.drop o).take (m * sz))
  obtain ⟨L, a1, a2⟩ := rdRows_ok ih hq e2
  have hl := hv.len
  rw [List.length_drop, hl] at c1
  refine ⟨b :: L, fun c hc => ?_, LdLe.mslo (ds := ds ++ ex) (by simp) hb (by rw [List.length_append]; omega) (fun i hi => ?_)⟩
  · rcases List.mem_cons.1 hc with rfl | hc
    · exact ⟨_, hb⟩
    · exact a1 c hc
  · have h1 := a2 i (by omega)
    have hm : (i + 1) * sz ≤ m * sz := Nat.mul_le_mul_right _ hi
    rw [Nat.add_mul, Nat.one_mul] at hm
    have e : ((((ds.drop o).take (m * sz)).drop (i * sz)).take sz) = ((ds ++ ex).drop (o + i * sz)).take sz := by
      rw [List.drop_take, List.take_take, List.drop_drop, Nat.min_eq_left (by omega), List.drop_append, List.take_append_of_le_length (by rw [List.length_drop]; omega)]
    rw [e] at h1
    exact h1.more fun b hb => by simp [hb]
theorem rd_ok {η : Nm} {σ : S} {s : St} (hS : CellsR η σ s) : ∀ n, RdOk η σ s n
  | 0 => fun v r d h _ => by simp [rd] at h
  | n + 1 => fun v r d h hv => by
    have ih := rd_ok hS n
    have nn : ∀ b ∈ ([] : List Nat), ∃ ds, s b = some (.cells ds) := by simp
    cases hv <;> simp only [rd, Option.some.injEq, reduceCtorEq] at h
    case int => subst h; exact ⟨[], nn, LdLe.refl _⟩
    case bool => subst h; exact ⟨[], nn, LdLe.refl _⟩
    case str => subst h; exact ⟨[], nn, LdLe.refl _⟩
    case nilsl => subst h; exact ⟨[], nn, LdLe.refl _⟩
    case nilptr => subst h; exact ⟨[], nn, LdLe.refl _⟩
    case nilmap => subst h; exact ⟨[], nn, LdLe.refl _⟩
    case nilfn => subst h; exact ⟨[], nn, LdLe.refl _⟩
    case niliface => subst h; exact ⟨[], nn, LdLe.refl _⟩
    case agg cs ds hc =>
      split at h <;> simp only [Option.some.injEq, reduceCtorEq] at h
      rename_i q hq
      subst h
      obtain ⟨L, a1, a2⟩ := rdL_ok ih hq hc
      exact ⟨L, a1, LdLe.agg a2⟩
    case tup cs ds hc =>
      split at h <;> simp only [Option.some.injEq, reduceCtorEq] at h
      rename_i q hq
      subst h
      obtain ⟨L, a1, a2⟩ := rdL_ok ih hq hc
      exact ⟨L, a1, LdLe.tup a2⟩
    case iface t x d hx =>
      split at h <;> simp only [Option.some.injEq, reduceCtorEq] at h
      rename_i q hq
      subst h
      obtain ⟨L, a1, a2⟩ := ih x q d hq hx
      exact ⟨L, a1, LdLe.iface a2⟩
    case sl t m sz rs τ row hr hn ht =>
      split at h <;> (try (simp only [reduceCtorEq] at h; done))
      split at h <;> simp only [Option.some.injEq, reduceCtorEq] at h
      rename_i q hq
      subst h
      obtain ⟨L, a1, a2⟩ := rdRows_ok ih hq hr
      exact ⟨L, a1, LdLe.sl (fun i hi => a2 i (by omega))⟩
    case msl k b o m cap sz hk =>
      split at h <;> (try (simp only [reduceCtorEq] at h; done))
      rename_i cv hcv
      split at h <;> (try (simp only [reduceCtorEq] at h; done))
      rename_i cs hcs
      split at h <;> (try (simp only [reduceCtorEq] at h; done))
      rename_i rs hrs
      split at h <;> simp only [Option.some.injEq, reduceCtorEq] at h
      rename_i q hq
      subst h
      exact rdM_ok ih hS hk hcv hcs hrs hq
    case gsl k b o m cap sz c hk _ _ _ =>
      split at h <;> (try (simp only [reduceCtorEq] at h; done))
      rename_i cv hcv
      split at h <;> (try (simp only [reduceCtorEq] at h; done))
      rename_i cs hcs
      split at h <;> (try (simp only [reduceCtorEq] at h; done))
      rename_i rs hrs
      split at h <;> simp only [Option.some.injEq, reduceCtorEq] at h
      rename_i q hq
      subst h
      exact rdM_ok ih hS hk hcv hcs hrs hq
def resV (n : Nat) : Option Out → Option V
  | some o => match o.pan with
    | false => rd o.σ n o.v
    | true => none
  | none => none
theorem mats_ok {η η' : Nm} {a : Nat} : ∀ {ks vs : List V} {ds : List D}, allB (matV a) ks vs = true → VRs η vs ds → VRs η' (ks.map (zV a)) ds
  | [], [], ds, _, hb => by obtain rfl := hb.inv0; exact .nil
  | [], _ :: _, ds, h, _ => by simp [allB] at h
  | _ :: _, [], ds, h, _ => by simp [allB] at h
  | x :: ks, y :: vs, ds, h, hb => by
    simp only [allB] at h
    split at h <;> (try (simp at h; done))
    rename_i hx
    obtain ⟨d, ds', rfl, h1, h2⟩ := hb.inv
    exact .cons _ _ _ _ (mat_ok a hx h1) (mats_ok h h2)
structure Kept where
  f : FuncId
  a : Nat
  n : Nat
  ks : List V
  r : V
def KeptOk (P : Program) (k : Kept) : Prop := ∀ (vs : List V) (η : Nm) (ds : List D), allB (matV k.a) k.ks vs = true → VRs η vs ds → PCalls P k.f ds (dV k.n k.r) ∧ VR η k.r (dV k.n k.r)
theorem kept_ok {C : Cx} (hlib : ∀ t, LibOk ⟨C, t⟩) (k : Kept) {m : Nat} (h : resV k.n ((callF C k.f).run (run C m) (k.ks.map (zV k.a)) T.nil 2) = some k.r) : KeptOk C.P k := by
  intro vs η ds hm hv
  cases ho : (callF C k.f).run (run C m) (k.ks.map (zV k.a)) T.nil 2 with
  | none => rw [ho] at h; simp [resV] at h
  | some o =>
    rw [ho] at h
    simp only [resV] at h
    split at h <;> (try (simp at h; done))
    rename_i hpan
    have hih := run_ok hlib (fun C' ih he hih => regD_ok (by subst he; exact hlib _) hih) m St.emp
    have hcall := callF_ok (C := ⟨C, St.emp⟩) (hlib _) hih ho (mats_ok hm hv) nm0_ok (sim0 C nm0 St.emp)
    refine ⟨PCalls_emp (hcall.frz fun r s hp => ?_), ?_⟩
    · obtain ⟨η', d', k1, k2, k3, k4, k5⟩ := hp
      rw [hpan] at k5
      obtain ⟨Ln, a1, a2⟩ := rd_ok (fun _ _ _ h hb => k3.cells h hb) k.n o.v k.r d' h k4
      exact ⟨d', Ln, k5, a1, a2⟩
    · exact rd_self k.n o.v k.r h η
def selK (f : FuncId) : List Kept → List Kept
  | [] => []
  | k :: l => match Nat.beq f k.f with
    | true => k :: selK f l
    | false => selK f l
def findK : List Kept → List V → Option V
  | [], _ => none
  | k :: l, vs => match allB (matV k.a) k.ks vs with
    | true => some k.r
    | false => findK l vs
def flatS (ih : V → Bool) : V → Bool
  | .int _ _ => true
  | .bool _ => true
  | .str _ => true
  | .nilsl => true
  | .nilptr => true
  | .nilmap => true
  | .nilfn => true
  | .niliface => true
  | .agg cs => cs.all ih
  | .tup cs => cs.all ih
  | _ => false
def flatV (n : Nat) : V → Bool := Nat.rec (motive := fun _ => V → Bool) (fun _ => false) (fun _ ih => flatS ih) n
theorem flat_sc {N : Nat → Prop} {m : Nat} : ∀ (n : Nat) {v : V}, flatV n v = true → SC N (dV m v)
  | 0, v, h => by simp [flatV] at h
  | n + 1, v, h => by
    have h' : flatS (flatV n) v = true := h
    cases m with
    | zero => exact .undef
    | succ m =>
      have hl : ∀ {cs : List V}, cs.all (flatV n) = true → ∀ c ∈ cs.map (dV m), SC N c := fun {cs} hc c hm => by
        obtain ⟨x, hx, rfl⟩ := List.mem_map.1 hm
        exact flat_sc n (List.all_eq_true.1 hc x hx)
      cases v <;> simp only [flatS, Bool.false_eq_true] at h' <;> simp only [dV]
      case int => exact .int _ _
      case bool => exact .bool _
      case str => exact .str _
      case nilsl => exact .nilsl
      case nilptr => exact .nilptr
      case nilmap => exact .nilmap
      case nilfn => exact .nilfn
      case niliface => exact .niliface
      case agg cs => exact .agg _ (hl h')
      case tup cs => exact .tup _ (hl h')
def libK (f0 : FuncId) (K : List Kept) (f : FuncId) : Option (S → List V → Option V) := match selK f K with
  | [] => libB f0 f
  | k :: l => some fun σ vs => match findK (k :: l) vs with
    | some r => some r
    | none => match rdL (rd σ 40) vs with
      | some ws => match findK (k :: l) ws with
        | some r => noV (flatV 40 r) (some r)
        | none => none
      | none => none
theorem selK_mem {f : FuncId} : ∀ {K : List Kept} {k : Kept}, k ∈ selK f K → k ∈ K ∧ k.f = f
  | [], k, h => by simp [selK] at h
  | x :: K, k, h => by
    simp only [selK] at h
    split at h
    · rename_i hb
      rw [beq_iff] at hb
      rcases List.mem_cons.1 h with rfl | h
      · exact ⟨by simp, hb.symm⟩
      · exact ⟨by simp [(selK_mem h).1], (selK_mem h).2⟩
    · exact ⟨by simp [(selK_mem h).1], (selK_mem h).2⟩
theorem findK_mem {vs : List V} {v : V} : ∀ {K : List Kept}, findK K vs = some v → ∃ k ∈ K, allB (matV k.a) k.ks vs = true ∧ v = k.r
  | [], h => by simp [findK] at h
  | x :: K, h => by
    simp only [findK] at h
    split at h
    · rename_i hm
      simp only [Option.some.injEq] at h
      exact ⟨x, by simp, hm, h.symm⟩
    · obtain ⟨k, h1, h2⟩ := findK_mem h
      exact ⟨k, by simp [h1], h2⟩
theorem rdL_self0 {σ : S} {n : Nat} {vs rs : List V} (h : rdL (rd σ n) vs = some rs) (η : Nm) : VRs η rs (rs.map (dV n)) := rdL_self (fun v r h η => rd_self n v r h η) h η
theorem libK_ok {P : Program} {mu : FuncId → Option Nat → Bool} {f0 : FuncId} {K : List Kept} (h0 : ∀ t, LibOk ⟨⟨P, libB f0, mu⟩, t⟩) (hK : ∀ k ∈ K, KeptOk P k) (t : St) : LibOk ⟨⟨P, libK f0 K, mu⟩, t⟩ := by
  intro f g σ vs v hfg hg η ds s hv hS
  simp only [libK] at hfg
  split at hfg
  · exact h0 t f g σ vs v hfg hg η ds s hv hS
  · rename_i k l hs
    simp only [Option.some.injEq] at hfg
    subst hfg
    have key : ∀ {ws : List V} {v : V}, findK (k :: l) ws = some v → ∃ k' : Kept, f = k'.f ∧ v = k'.r ∧ ∀ (η : Nm) (ds : List D), VRs η ws ds → PCalls P k'.f ds (dV k'.n k'.r) ∧ VR η k'.r (dV k'.n k'.r) := fun {ws v} hk => by
      obtain ⟨k', h1, h2, rfl⟩ := findK_mem hk
      rw [← hs] at h1
      obtain ⟨h3, rfl⟩ := selK_mem h1
      exact ⟨k', rfl, rfl, fun η ds hv => hK k' h3 ws η ds h2 hv⟩
    simp only at hg
    split at hg
    · rename_i r hr
      simp only [Option.some.injEq] at hg
      subst hg
      obtain ⟨k', rfl, rfl, hk⟩ := key hr
      obtain ⟨h4, h5⟩ := hk η ds hv
      exact ⟨_, h5, h4 s⟩
    · split at hg <;> (try (simp at hg; done))
      rename_i ws hws
      split at hg <;> (try (simp at hg; done))
      rename_i r hr
      unfold noV at hg
      split at hg <;> simp only [Option.some.injEq, reduceCtorEq] at hg
      rename_i hfl
      subst hg
      obtain ⟨k', rfl, rfl, hk⟩ := key hr
      obtain ⟨Ln, a1, a2⟩ := rdL_ok (rd_ok hS 40) hws hv
      obtain ⟨h4, h5⟩ := hk η _ (rdL_self0 hws η)
      refine ⟨_, h5, (DCalls.lend a1 a2 (h4 _) ?_).mono ?_⟩
      · rintro r S ⟨rfl, rfl⟩
        exact ⟨flat_sc 40 hfl, fun b o hb => by simp at hb⟩
      · rintro r S ⟨S', ⟨rfl, rfl⟩, _, rfl⟩
        exact ⟨rfl, rfl⟩
end Go.DL
