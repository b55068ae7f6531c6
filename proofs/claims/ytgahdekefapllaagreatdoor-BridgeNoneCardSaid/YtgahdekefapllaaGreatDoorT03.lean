/- Lemmas: DlZT, DlZU, Api, Lst, Val, DlZX, DlZY, FCode46. -/
import Derived.Test.YtgahdekefapllaaGreatDoorT02
set_option maxHeartbeats 16000000
set_option linter.all false
namespace Go.DL
open Go
def FrzAt (g : G) (w : World) (b : Nat) (ds : List D) : Prop :=
  ∃ (vs : Array Value) (T : TypeId), w.heap[b]? = some (.cells vs T (0, 0)) ∧ vs.size = ds.length ∧ (∀ (i : Nat) (v : Value) (d : D), vs[i]? = some v → ds[i]? = some d → Rep g w v d) ∧ (∀ v ∈ vs, v.one1 = true) ∧ ds.length ≤ g.prot b
def LdLe (t : St) (Ln : List Nat) (d d' : D) : Prop := ∀ g w v, (∀ b ∈ Ln, ∀ ds, t b = some (.cells ds) → FrzAt g w b ds) → Rep g w v d → Rep g w v d'
inductive LdC (t : St) (Ln : List Nat) : List D → List D → Prop where
  | nil : LdC t Ln [] []
  | cons {d d' : D} {l l' : List D} (h : LdLe t Ln d d') (r : LdC t Ln l l') : LdC t Ln (d :: l) (d' :: l')
theorem LdLe.refl {t : St} {Ln : List Nat} (d : D) : LdLe t Ln d d := fun _ _ _ _ h => h
theorem LdC.len {t : St} {Ln : List Nat} {l l' : List D} (h : LdC t Ln l l') : l.length = l'.length := by
  induction h with
  | nil => rfl
  | cons _ _ ih => simp [ih]
theorem LdC.get {t : St} {Ln : List Nat} {l l' : List D} (h : LdC t Ln l l') {i : Nat} {d' : D} (hi : l'[i]? = some d') : ∃ d, l[i]? = some d ∧ LdLe t Ln d d' := by
  induction h generalizing i with
  | nil => simp at hi
  | cons h1 _ ih =>
    cases i with
    | zero => simp at hi; subst hi; exact ⟨_, rfl, h1⟩
    | succ i => simpa using ih (by simpa using hi)
theorem LdLe.agg {t : St} {Ln : List Nat} {l l' : List D} (h : LdC t Ln l l') : LdLe t Ln (.agg l) (.agg l') := by
  intro g w v hf hr
  cases hr with
  | agg vs _ hn hc one =>
    refine .agg vs _ (hn.trans h.len) (fun i v d hv hd => ?_) one
    obtain ⟨x, hx, hle⟩ := h.get hd
    exact hle g w v hf (hc i v x hv hx)
def St.delL (s : St) (Ln : List Nat) : St := fun b => if b ∈ Ln then none else s b
def frzG (g : G) (t : St) (Ln : List Nat) : G := { g with prot := fun b => if b ∈ Ln then (match t b with | some (.cells ds) => ds.length | _ => 0) else g.prot b }
theorem frzG_ext {g : G} {w : World} {t : St} {Ln : List Nat} (hs : StOk g t w) (hL : ∀ b ∈ Ln, ∃ ds, t b = some (.cells ds)) : Ext g w (frzG g t Ln) w := {
  size := Nat.le_refl _
  prot b := by
    simp only [frzG]
    split
    · rename_i h
      obtain ⟨ds, hd⟩ := hL b h
      have := (hs.obj b _ hd).1
      omega
    · exact Nat.le_refl _
  cell _ _ _ := rfl
  hdr _ _ h := h
  kept _ _ := rfl
  keptProt b hb := by
    simp only [frzG]
    split
    · rename_i h
      obtain ⟨ds, hd⟩ := hL b h
      exact absurd hb (hs.kept b _ hd)
    · rfl
  keptEq := rfl
  os := rfl
  output := rfl
  tape := rfl }
theorem frzG_at {g : G} {w : World} {t : St} {Ln : List Nat} (hs : StOk g t w) (hL : ∀ b ∈ Ln, ∃ ds, t b = some (.cells ds)) : ∀ b ∈ Ln, ∀ ds, t b = some (.cells ds) → FrzAt (frzG g t Ln) w b ds := by
  intro b hb ds hd
  obtain ⟨hp, vs, T, h1, h2, h3, h4⟩ := hs.obj b _ hd
  exact ⟨vs, T, h1, h2, fun i v d hv hdd => (h3 i v d hv hdd).mono (frzG_ext hs hL), h4, by simp only [frzG, if_pos hb, hd]; exact Nat.le_refl _⟩
section
variable {P : Program}
inductive SC (N : Nat → Prop) : D → Prop where
  | int (k : IntKind) (n : Int) : SC N (.int k n)
  | bool (b : Bool) : SC N (.bool b)
  | str (l : List UInt8) : SC N (.str l)
  | nilsl : SC N .nilsl
  | agg (cs : List D) (h : ∀ c ∈ cs, SC N c) : SC N (.agg cs)
  | tup (cs : List D) (h : ∀ c ∈ cs, SC N c) : SC N (.tup cs)
  | sl0 (t : Tok) (s : Nat) (row : Nat → List D) : SC N (.sl t 0 s row)
  | tip (b n s : Nat) (row : Nat → List D) (hb : N b) (h : ∀ i, i < n → ∀ c ∈ row i, SC N c) : SC N (.sl (.tip b) n s row)
  | ptr (b o : Nat) : SC N (.ptr b o)
  | msl (b o n cap s : Nat) : SC N (.msl b o n cap s)
  | fn (f : Fn) (a b : List D) (ha : ∀ c ∈ a, SC N c) (hb : ∀ c ∈ b, SC N c) : SC N (.fn f a b)
  | nilptr : SC N .nilptr
  | map (b : Nat) : SC N (.map b)
  | nilmap : SC N .nilmap
  | nilfn : SC N .nilfn
  | niliface : SC N .niliface
  | undef : SC N .undef
theorem SC.rep {N : Nat → Prop} {d : D} (h : SC N d) : ∀ {g g' : G} {w : World} {v : Value}, (∀ b, N b → g.prot b ≤ g'.prot b) → Rep g w v d → Rep g' w v d := by
  induction h with
  | int k n => intro g g' w v _ hr; cases hr with | int _ _ h => exact .int k n h
  | bool b => intro g g' w v _ hr; cases hr; exact .bool b
  | str l => intro g g' w v _ hr; cases hr with | str s _ h hb => exact .str s l h hb
  | nilsl => intro g g' w v _ hr; cases hr; exact .nilsl
  | agg cs _ ih =>
    intro g g' w v hp hr
    cases hr with
    | agg vs _ hn hc one => exact .agg vs cs hn (fun i v d hv hd => ih d (List.mem_of_getElem? hd) hp (hc i v d hv hd)) one
  | tup cs _ ih =>
    intro g g' w v hp hr
    cases hr with
    | tup vs _ hn hc => exact .tup vs cs hn (fun i v d hv hd => ih d (List.mem_of_getElem? hd) hp (hc i v d hv hd))
  | sl0 t s row =>
    intro g g' w v hp hr
    cases hr with
    | sl0 _ _ _ _ ht => exact .sl0 _ t s row ht
    | sl b o n cap sz _ t f hl hc hpp hrr one ht hcap hb =>
      exact .sl b o 0 cap s row t f hl hc (fun i j hi => by omega) (fun i j d hi => by omega) one ht hcap hb
  | tip b n s row hb _ ih =>
    intro g g' w v hp hr
    cases hr with
    | sl0 _ _ _ _ ht => exact .sl0 _ _ s row ht
    | sl b' o n cap sz _ t f hl hc hpp hrr one ht hcap hbig =>
      have hbb : b' = b := ht.1
      subst hbb
      exact .sl b' o n cap s row (.tip b') f hl hc (fun i j hi hj => Nat.lt_of_lt_of_le (hpp i j hi hj) (hp _ hb)) (fun i j d hi hd => ih i hi d (List.mem_of_getElem? hd) hp (hrr i j d hi hd)) one ht hcap hbig
  | ptr b o => intro g g' w v _ hr; cases hr; exact .ptr b o
  | msl b o n cap s => intro g g' w v _ hr; cases hr with | msl _ _ _ _ _ h hb => exact .msl b o n cap s h hb | mslx a _ _ _ => exact .mslx a _ _ _
  | fn f a b _ _ iha ihb =>
    intro g g' w v hp hr
    cases hr with
    | fn _ fs cs _ _ hnf hnc hf hc => exact .fn f fs cs a b hnf hnc (fun i v d hv hd => iha d (List.mem_of_getElem? hd) hp (hf i v d hv hd)) (fun i v d hv hd => ihb d (List.mem_of_getElem? hd) hp (hc i v d hv hd))
  | nilptr => intro g g' w v _ hr; cases hr; exact .nilptr
  | map b => intro g g' w v _ hr; cases hr; exact .map b
  | nilmap => intro g g' w v _ hr; cases hr; exact .nilmap
  | nilfn => intro g g' w v _ hr; cases hr; exact .nilfn
  | niliface => intro g g' w v _ hr; cases hr; exact .niliface
  | undef => intro g g' w v _ hr; cases hr; exact .undef
def SCO (N : Nat → Prop) : DObj → Prop
  | .cells ds => ∀ d ∈ ds, SC N d
  | .map es => ∀ e ∈ es, SC N e.1 ∧ SC N e.2
  | .tip _ => True
  | .dfr => True
  | _ => False
theorem SCO.ok {N : Nat → Prop} {o : DObj} (h : SCO N o) {g g' : G} {w : World} {b : Nat} (hp : ∀ b, N b → g.prot b ≤ g'.prot b) (hpb : g'.prot b = g.prot b) (hr : ObjOk g w b o) : ObjOk g' w b o := by
  cases o with
  | cells ds =>
    obtain ⟨h0, vs, T, h1, h2, h3, h4⟩ := hr
    exact ⟨hpb.trans h0, vs, T, h1, h2, fun i v d hv hd => (h d (List.mem_of_getElem? hd)).rep hp (h3 i v d hv hd), h4⟩
  | map es =>
    obtain ⟨h0, en, cl, h1, h2, h3, h4, h5, h6⟩ := hr
    exact ⟨hpb.trans h0, en, cl, h1, h2, fun i x d hv hd => (h d (List.mem_of_getElem? hd)).1.rep hp (h3 i x d hv hd), fun i x d hv hd => (h d (List.mem_of_getElem? hd)).2.rep hp (h4 i x d hv hd), h5, h6⟩
  | tip k =>
    obtain ⟨h0, x⟩ := hr
    exact ⟨hpb.trans h0, x⟩
  | dfr => exact ⟨hpb.trans hr.1, hr.2⟩
  | mapE _ _ _ _ => exact h.elim
  | loop _ _ => exact h.elim
def SCR (N : Nat → Prop) : Res → Prop
  | .ret d => SC N d
  | .panic d => SC N d
theorem All2.ldC {g : G} {w : World} {t : St} {Ln : List Nat} (hf : ∀ b ∈ Ln, ∀ ds, t b = some (.cells ds) → FrzAt g w b ds) {vs : List Value} {a a' : List D} (h : All2 (Rep g w) vs a) (hl : LdC t Ln a a') : All2 (Rep g w) vs a' := by
  induction hl generalizing vs with
  | nil => cases h; exact .nil
  | cons h1 _ ih => cases h with | cons h2 h3 => exact .cons (h1 _ _ _ hf h2) (ih h3)
theorem DCalls.lend {f : FuncId} {args args' : List D} {t : St} {Ln : List Nat} {Φ : Res → St → Prop} (hL : ∀ b ∈ Ln, ∃ ds, t b = some (.cells ds)) (hl : LdC t Ln args args')
    (h : DCalls P f args' (fun _ => none) Φ) (hΦ : ∀ r S, Φ r S → SCR (fun b => (S b).isSome = true) r ∧ ∀ b o, S b = some o → SCO (fun b => (S b).isSome = true) o) :
    DCalls P f args t fun r S => ∃ S', Φ r S' ∧ Disj S' t ∧ S = S'.or t := by
  refine ⟨h.1, fun g w vs hs ha => ?_⟩
  have hx := frzG_ext hs hL
  have hat := frzG_at hs hL
  have ha1 : All2 (Rep (frzG g t Ln) w) vs args' := All2.ldC hat (ha.imp fun _ _ h => Rep.mono h hx) hl
  have hst : StOk ((frzG g t Ln).keep fun b => g.kept b ∨ (t b).isSome = true) (fun _ => none) w := by
    refine ⟨fun b o hb => by simp at hb, fun b o hb => by simp at hb, fun b hb => ?_⟩
    have h1 := hs.fresh b hb
    have htb : t b = none := by
      cases htb : t b with
      | none => rfl
      | some o => have := (hs.obj b o htb).lt; omega
    have hbL : b ∉ Ln := fun hm => by obtain ⟨ds, hd⟩ := hL b hm; rw [htb] at hd; simp at hd
    exact ⟨by show (frzG g t Ln).prot b = 0; simp only [frzG, if_neg hbL]; exact h1.1, fun hk => by rcases hk with hk | hk; exact h1.2 hk; rw [htb] at hk; simp at hk⟩
  refine (h.2 _ w vs hst (ha1.imp fun _ _ h => rep_keep h)).mono fun e w' hp => ?_
  obtain ⟨g', S', r, he, hS, hr, hq⟩ := hp
  have hkeq := he.keptEq
  obtain ⟨hscr, hsco⟩ := hΦ r S' hq
  have hd' : Disj S' t := fun b o hb => by
    cases hsb : S' b with
    | none => rfl
    | some x => exact absurd (by rw [hkeq]; exact .inr (by rw [hb]; rfl)) (hS.kept b x hsb)
  have hnL : ∀ b, (S' b).isSome = true → b ∉ Ln := fun b hb hm => by
    obtain ⟨ds, hd⟩ := hL b hm
    rw [hd' b _ hd] at hb; simp at hb
  let g2 : G := { prot := fun b => if b ∈ Ln then 0 else g'.prot b, kept := g.kept }
  have hp2 : ∀ b, (S' b).isSome = true → g'.prot b ≤ g2.prot b := fun b hb => by simp only [g2, if_neg (hnL b hb)]; exact Nat.le_refl _
  have hf : ∀ b, b ∉ Ln → (frzG g t Ln).prot b = g.prot b := fun b hb => by simp only [frzG, if_neg hb]
  have hg0 : ∀ b, b ∈ Ln → g.prot b = 0 := fun b hb => by obtain ⟨ds, hd⟩ := hL b hb; exact (hs.obj b _ hd).1
  have he2 : Ext g w g2 w' := by
    refine ⟨he.size, fun b => ?_, fun b o ho => ?_, he.hdr, fun b hb => he.kept b (.inl hb), fun b hb => ?_, rfl, he.os, he.output, he.tape⟩
    · simp only [g2]
      split
      · rename_i hb; rw [hg0 b hb]; exact Nat.le_refl _
      · rename_i hb; rw [← hf b hb]; exact he.prot b
    · have hb : b ∉ Ln := fun hb => by rw [hg0 b hb] at ho; omega
      exact he.cell b o (by show o < (frzG g t Ln).prot b; rw [hf b hb]; exact ho)
    · have hbL : b ∉ Ln := fun hm => by obtain ⟨ds, hd⟩ := hL b hm; exact hs.kept b _ hd hb
      simp only [g2, if_neg hbL]
      rw [← hf b hbL]; exact he.keptProt b (.inl hb)
  have hg'0 : ∀ b, w'.heap.size ≤ b → g'.prot b = 0 ∧ ¬ g'.kept b := fun b hb => hS.fresh b hb
  refine ⟨g2, S'.or t, r, he2, ⟨fun b o hb => ?_, fun b o hb => ?_, fun b hb => ?_⟩, ?_, S', hq, hd', rfl⟩
  · cases hsb : S' b with
    | some x =>
      rw [or_get hsb] at hb; cases hb
      have hbN : (S' b).isSome = true := by rw [hsb]; rfl
      exact (hsco b _ hsb).ok hp2 (by simp only [g2, if_neg (hnL b hbN)]) (hS.obj b _ hsb)
    | none =>
      rw [or_none hsb] at hb
      have hk : g.kept b ∨ (t b).isSome = true := .inr (by rw [hb]; rfl)
      refine (hs.obj b o hb).mono he2 (he.kept b hk) ?_
      by_cases hbL : b ∈ Ln
      · simp only [g2, if_pos hbL]; exact (hg0 b hbL).symm
      · simp only [g2, if_neg hbL]; rw [← hf b hbL]; exact he.keptProt b hk
  · cases hsb : S' b with
    | some x => exact fun hk => hS.kept b x hsb (by rw [hkeq]; exact .inl hk)
    | none => rw [or_none hsb] at hb; exact hs.kept b o hb
  · have := hS.fresh b hb
    refine ⟨?_, fun hk => this.2 (by rw [hkeq]; exact .inl hk)⟩
    simp only [g2]
    split
    · rfl
    · exact this.1
  · cases e <;> cases r <;> simp only [ResOk] at hr ⊢
    · exact SC.rep hscr hp2 hr
    · obtain ⟨v, h1, h2⟩ := hr; exact ⟨v, h1, SC.rep hscr hp2 h2⟩
end
end Go.DL
namespace Go.DL
open Go
set_option linter.defProp false
def Eqs := And.intro (And.intro (And.intro (And.intro (And.intro (And.intro (And.intro (And.intro @Option.mem_def.{0} @Option.some.injEq.{0}) (And.intro @forall_eq'.{1} @forall_eq'.{0})) (And.intro (And.intro @false_implies @decide_true) (And.intro (@Int.sub_zero) (And.intro @Int.sub_self @inRi64)))) (And.intro (And.intro (And.intro @inRu8 @inRu32) (And.intro (@inRu64) (And.intro @inRi32 @and_assoc))) (And.intro (And.intro @Int.toNat_zero @Bool.not_not) (And.intro (@ite_and) (And.intro @ite_or @implies_true.{1}))))) (And.intro (And.intro (And.intro (And.intro @implies_true.{0} @true_and) (And.intro @and_true @and_self)) (And.intro (And.intro @List.drop_zero.{0} @List.drop_succ_cons.{0}) (And.intro (@List.take_succ_cons.{0}) (And.intro @List.take_zero.{0} @List.take_nil.{0})))) (And.intro (And.intro (And.intro @Option.map_some.{0,0} @Option.map_none.{0,0}) (And.intro (@Option.isSome_some.{0}) (And.intro @Option.isSome_none.{0} @Option.getD_some.{0}))) (And.intro (And.intro @Option.getD_none.{0} @List.flatMap_cons.{0,0}) (And.intro (@List.flatMap_nil.{0,0}) (And.intro @List.append_nil.{0} @List.nil_append.{0})))))) (And.intro (And.intro (And.intro (And.intro (And.intro @List.cons_append.{0} @List.getElem?_cons_zero.{0}) (And.intro @List.getElem?_cons_succ.{0} @List.length_cons.{0})) (And.intro (And.intro @List.length_nil.{0} @Nat.zero_add) (And.intro (@Nat.add_zero) (And.intro @Int.toNat_natCast @forall_const.{1})))) (And.intro (And.intro (And.intro @forall_const.{0} @imp_self) (And.intro (@Bool.and_true) (And.intro @Bool.true_and @Bool.cond_false_right))) (And.intro (And.intro @Bool.false_eq_true @Bool.not_true) (And.intro (@Bool.not_false) (And.intro @if_true_right @drun.eq_1))))) (And.intro (And.intro (And.intro (And.intro @drun.eq_2 @drunB.eq_1) (And.intro (@drunB.eq_2) (And.intro @keepsP.eq_1 @keepsP.eq_2))) (And.intro (And.intro @nextP.eq_1 @nextP.eq_2) (And.intro (@stepQ.eq_1) (And.intro @stepSt.eq_1 @stepSt.eq_2)))) (And.intro (And.intro (And.intro @stepSt.eq_3 @cellsAt.eq_1) (And.intro (@mapAt.eq_1) (And.intro @readsO.eq_1 @readsD.eq_1))) (And.intro (And.intro @readsD.eq_2 @readsD.eq_3) (And.intro (@readsD.eq_4) (And.intro @readK.eq_1 @readK.eq_2))))))) (And.intro (And.intro (And.intro (And.intro (And.intro (And.intro @readK.eq_3 @readK.eq_4) (And.intro @readK.eq_5 @pendK.eq_1)) (And.intro (And.intro @pendK.eq_2 @pendK.eq_3) (And.intro (@pendK.eq_4) (And.intro @pendK.eq_5 @pendK.eq_6)))) (And.intro (And.intro (And.intro @keepsF.eq_1 @keepsB.eq_1) (And.intro (@keepsB.eq_2) (And.intro @keepsB.eq_3 @nextB.eq_1))) (And.intro (And.intro @nextB.eq_2 @readsT.eq_1) (And.intro (@tagO.eq_1) (And.intro @memB.eq_1 @memB.eq_2))))) (And.intro (And.intro (And.intro (And.intro @List.map_cons.{0,0} @List.map_nil.{0,0}) (And.intro (@keyOk.eq_1) (And.intro @keyEq.eq_1 @keyEq.eq_2))) (And.intro (And.intro @keyEq.eq_3 @lookRes.eq_1) (And.intro (@lookRes.eq_2) (And.intro @toV1.eq_1 @toV1.eq_2)))) (And.intro (And.intro (And.intro @toV1.eq_3 @toV1.eq_4) (And.intro (@toV1.eq_5) (And.intro @toV1.eq_6 @toV1.eq_7))) (And.intro (And.intro @toV1.eq_8 @toV1.eq_9) (And.intro (@toV1.eq_10) (And.intro @toV1.eq_11 @guardB.eq_1)))))) (And.intro (And.intro (And.intro (And.intro (And.intro @guardB.eq_2 @argE.eq_1) (And.intro @argE.eq_2 @argsE.eq_1)) (And.intro (And.intro @argsE.eq_2 @getE.eq_1) (And.intro (@getE.eq_2) (And.intro @qv.eq_1 @qv.eq_2)))) (And.intro (And.intro (And.intro @qv.eq_3 @qv.eq_4) (And.intro (@qv.eq_5) (And.intro @qv.eq_6 @qv.eq_7))) (And.intro (And.intro @qv.eq_8 @qv.eq_9) (And.intro (@qv.eq_10) (And.intro @qv.eq_11 @qv.eq_12))))) (And.intro (And.intro (And.intro (And.intro @qv.eq_13 @qv.eq_14) (And.intro (@qv.eq_15) (And.intro @qv.eq_16 @qv.eq_17))) (And.intro (And.intro @qv.eq_18 @qv.eq_19) (And.intro (@qv.eq_20) (And.intro @qv.eq_21 @qv.eq_22)))) (And.intro (And.intro (And.intro @qv.eq_23 @qv.eq_24) (And.intro (@qv.eq_25) (And.intro @qv.eq_26 @qv.eq_27))) (And.intro (And.intro @qv.eq_28 @qv.eq_29) (And.intro (@qv.eq_30) (And.intro @qv.eq_31 @qv.eq_32)))))))) (And.intro (And.intro (And.intro (And.intro (And.intro (And.intro (And.intro @qv.eq_33 @qv.eq_34) (And.intro @qv.eq_35 @qv.eq_36)) (And.intro (And.intro @qv.eq_37 @qv.eq_38) (And.intro (@qv.eq_39) (And.intro @qv.eq_40 @qv.eq_41)))) (And.intro (And.intro (And.intro @qv.eq_42 @qv.eq_43) (And.intro (@qv.eq_44) (And.intro @qv.eq_45 @qv.eq_46))) (And.intro (And.intro @qv.eq_47 @qv.eq_48) (And.intro (@qv.eq_49) (And.intro @qv.eq_50 @putE.eq_1))))) (And.intro (And.intro (And.intro (And.intro @putE.eq_2 @kept.eq_1) (And.intro (@kept.eq_2) (And.intro @keptL.eq_1 @keptL.eq_2))) (And.intro (And.intro @keepE.eq_1 @keepE.eq_2) (And.intro (@keepL.eq_1) (And.intro @takeL.eq_1 @takeL.eq_2)))) (And.intro (And.intro (And.intro @locsE.eq_1 @locsE.eq_2) (And.intro (@locsE.eq_3) (And.intro @getL.eq_1 @getL.eq_2))) (And.intro (And.intro @hasL.eq_1 @pickE.eq_1) (And.intro (@wantB.eq_1) (And.intro @wantB.eq_2 @binD.eq_1)))))) (And.intro (And.intro (And.intro (And.intro (And.intro @binD.eq_2 @binD.eq_3) (And.intro @binD.eq_4 @binD.eq_5)) (And.intro (And.intro @binI.eq_1 @binI.eq_2) (And.intro (@binI.eq_3) (And.intro @binI.eq_4 @binI.eq_5)))) (And.intro (And.intro (And.intro @binI.eq_6 @binI.eq_7) (And.intro (@binI.eq_8) (And.intro @binI.eq_9 @binI.eq_10))) (And.intro (And.intro @binI.eq_11 @binI.eq_12) (And.intro (@binI.eq_13) (And.intro @binI.eq_14 @binI.eq_15))))) (And.intro (And.intro (And.intro (And.intro @binI.eq_16 @binI.eq_17) (And.intro (@binS.eq_1) (And.intro @binS.eq_2 @binS.eq_3))) (And.intro (And.intro @binS.eq_4 @binS.eq_5) (And.intro (@binS.eq_6) (And.intro @binS.eq_7 @binS.eq_8)))) (And.intro (And.intro (And.intro @eqO.eq_1 @eqO.eq_2) (And.intro (@eqO.eq_3) (And.intro @planEq.eq_1 @planEq.eq_2))) (And.intro (And.intro @planEq.eq_3 @planEq.eq_4) (And.intro (@planEq.eq_5) (And.intro @planEq.eq_6 @planEq.eq_7))))))) (And.intro (And.intro (And.intro (And.intro (And.intro (And.intro @planEq.eq_8 @planEq.eq_9) (And.intro @planEq.eq_10 @planEq.eq_11)) (And.intro (And.intro @planEq.eq_12 @planEq.eq_13) (And.intro (@planEq.eq_14) (And.intro @planEq.eq_15 @cellsEq.eq_1)))) (And.intro (And.intro (And.intro @cellsEq.eq_2 @scalarEq.eq_1) (And.intro (@scalarEq.eq_2) (And.intro @scalarEq.eq_3 @scalarEq.eq_4))) (And.intro (And.intro @cellGet.eq_1 @cellGet.eq_2) (And.intro (@cellGet.eq_3) (And.intro @cellGet.eq_4 @partGet.eq_1))))) (And.intro (And.intro (And.intro (And.intro @partGet.eq_2 @partGet.eq_3) (And.intro (@partGet.eq_4) (And.intro @setPart.eq_1 @dsOf.eq_1))) (And.intro (And.intro @dsOf.eq_2 @dsOf.eq_3) (And.intro (@cellsOf.eq_1) (And.intro @cellsOf.eq_2 @okCell.eq_1)))) (And.intro (And.intro (And.intro @okCell.eq_2 @okCell.eq_3) (And.intro (@okCell.eq_4) (And.intro @okCell.eq_5 @okPart.eq_1))) (And.intro (And.intro @okPart.eq_2 @okPart.eq_3) (And.intro (@okPart.eq_4) (And.intro @fillD.eq_1 @fillD.eq_2)))))) (And.intro (And.intro (And.intro (And.intro (And.intro @fillD.eq_3 @partsOk.eq_1) (And.intro @partsOk.eq_2 @litRow.eq_1)) (And.intro (And.intro @litRow.eq_2 @initE.eq_1) (And.intro (@initE.eq_2) (And.intro @intArgs.eq_1 @intArgs.eq_2)))) (And.intro (And.intro (And.intro @intArgs.eq_3 @intArgs.eq_4) (And.intro (@sliceD.eq_1) (And.intro @sliceD.eq_2 @sliceD.eq_3))) (And.intro (And.intro @sliceD.eq_4 @tokOf.eq_1) (And.intro (@tokOf.eq_2) (And.intro @tokOf.eq_3 @tokOf.eq_4))))) (And.intro (And.intro (And.intro (And.intro @part.eq_1 @qm.eq_1) (And.intro (@qi.eq_1) (And.intro @qb.eq_1 @ql.eq_1))) (And.intro (And.intro @qL.eq_1 @qa.eq_1) (And.intro (@qx.eq_1) (And.intro @qX.eq_1 @qk.eq_1)))) (And.intro (And.intro (And.intro @qd.eq_1 @qe.eq_1) (And.intro (@qo.eq_1) (And.intro @qO.eq_1 @qf.eq_1))) (And.intro (And.intro @qB.eq_1 @qS.eq_1) (And.intro (@qs.eq_1) (And.intro @qy.eq_1 @qn.eq_1))))))))
end Go.DL
namespace Go.DL
open Go
abbrev Str := List UInt8
def slD {α : Type} [Inhabited α] (n : Nat) (f : α → List D) (l : List α) : D := .sl .none l.length n (fun i => f (l.getD i default))
end Go.DL
namespace Go.DL
open Go
theorem take_getD {α : Type} [Inhabited α] {l : List α} {k : Nat} (h : k < l.length) : l.take (k + 1) = l.take k ++ [l.getD k default] := by
  rw [List.take_succ_eq_append_getElem h]; simp [List.getD, h]
section
variable {α : Type} [Inhabited α] {f : α → List D} {row row2 : Nat → List D} {l a b : List α}
end
end Go.DL
namespace Go.DL
open Go
structure Hdr where
  name : Str
  text : Str
deriving Inhabited, DecidableEq
def Hdr.cells (h : Hdr) : List D := [.str h.name, .str h.text]
def hdrsD (l : List Hdr) : D := slD 2 Hdr.cells l
def u8C (b : UInt8) : List D := [.int .u8 b.toNat]
def bytesD (b : Str) : D := slD 1 u8C b
inductive Val where
  | mk (name : Str) (int : Int) (bytes : Str) (hdrs : List Hdr) (parts : List Val)
namespace Val
def name : Val → Str
  | mk n _ _ _ _ => n
def int : Val → Int
  | mk _ i _ _ _ => i
def bytes : Val → Str
  | mk _ _ b _ _ => b
def hdrs : Val → List Hdr
  | mk _ _ _ h _ => h
def parts : Val → List Val
  | mk _ _ _ _ p => p
end Val
instance : Inhabited Val := ⟨.mk [] 0 [] [] []⟩
mutual
def Val.cells : Val → List D
  | .mk n i b h p => [.str n, .int .i64 i, bytesD b, hdrsD h, .sl .none p.length 5 fun j => (Val.cellsL p).getD j []]
def Val.cellsL : List Val → List (List D)
  | [] => []
  | v :: r => v.cells :: Val.cellsL r
end
theorem Val.cellsL_get : ∀ (l : List Val) (j : Nat), j < l.length → (Val.cellsL l).getD j [] = (l.getD j default).cells
  | [], j, h => absurd h (Nat.not_lt_zero _)
  | v :: r, 0, _ => rfl
  | v :: r, j + 1, h => by
    have := cellsL_get r j (by simpa using h)
    simpa [Val.cellsL] using this
def rowsV (p : List Val) (j : Nat) : List D := (Val.cellsL p).getD j []
theorem rowsV_get {p : List Val} {j : Nat} (h : j < p.length) : rowsV p j = (p.getD j default).cells := Val.cellsL_get p j h
def valsD (p : List Val) : D := .sl .none p.length 5 (rowsV p)
theorem Val.cells_eq (v : Val) : v.cells = [.str v.name, .int .i64 v.int, bytesD v.bytes, hdrsD v.hdrs, valsD v.parts] := by
  cases v; rfl
theorem Val.len (v : Val) : v.cells.length = 5 := by rw [Val.cells_eq]; rfl
theorem Val.take5 (v : Val) : List.take 5 v.cells = v.cells := List.take_of_length_le (by rw [v.len]; decide)
theorem Val.ind {p : Val → Prop} (h : ∀ v : Val, (∀ x ∈ v.parts, p x) → p v) (v : Val) : p v := by
  have key : ∀ n : Nat, ∀ v : Val, SizeOf.sizeOf v < n → p v := by
    intro n
    induction n with
    | zero => intro v h; omega
    | succ n ih =>
      intro v hv
      refine h v fun x hx => ih x ?_
      have h1 : SizeOf.sizeOf x < SizeOf.sizeOf v.parts := List.sizeOf_lt_of_mem hx
      have h2 : SizeOf.sizeOf v.parts < SizeOf.sizeOf v := by cases v; simp [Val.parts]; omega
      omega
  exact key _ v (Nat.lt_succ_self _)
end Go.DL
namespace Go.DL
open Go
section
variable {P : Program}
theorem DO_boxN {F : Fr P} {kp : Option (List Nat)} {dk : List DItem} {o : DOp} {os : List DOp} {ρ : Env} {L : Loc} {s : St} (hg : o.guard = none) {x : Opd} (hk : o.k = .box x) {t : Nat} (hdt : o.dst = some t)
    {p : Prop} {v : D} (ha : argE ρ true x = some (p, .d v)) (hp : p) (hok : okPart v = true) (h : ∀ b, s b = none → DO F kp dk os ((t, .d (.ptr b 0)) :: ρ) L (s.upd b (.cells (cellsOf v)))) : DO F kp dk (o :: os) ρ L s := by
  refine DO_of fun oo g ν w tmps ops i r k hoo hck hcg hdst hd hN m hr hkk => ?_
  have hw := guard_ok m hcg (c := true) (by rw [hg]; rfl)
  have hnd := ck_defer hck (by rw [hk]; rfl)
  rw [hk] at hck
  obtain ⟨e, x', hop, hx'⟩ := ck_box hck
  have hrep : Rep g w _ v := opd_ok m hx' rfl ha hp F.ds
  generalize hvv : (Act.mk tmps F.ds).eval x' = vv at hrep
  obtain ⟨hc1, hc2⟩ := rep_cells hrep hok
  have hone := rep_one hrep hok
  have hgr := grow_obj (g := g) (w := w) (.cells vv.cells e) m.st.fresh
  have he := hgr.ext m.st.fresh
  obtain ⟨hn, m'⟩ := m.newObj hgr (o := .cells (cellsOf v)) ⟨(m.st.fresh _ (Nat.le_refl _)).1, _, e, alloc_new w _, by rw [hc1], fun i v d hv hd => (hc2 i v d (by simpa using hv) hd).mono he, hone⟩
  refine goes_world (L' := L) hN hoo hdst hd hw hnd (v := .pointer (some ⟨w.heap.size, 0, none⟩)) (e := .d (.ptr w.heap.size 0)) ?_ he m' (Rep.ptr _ _) ?_
  · simp [execOp, hop, hvv, Instr.box, newVar, newRow]
  · rw [hdt]; exact h _ hn ops r k hr hkk
theorem DO_allocN {F : Fr P} {kp : Option (List Nat)} {dk : List DItem} {o : DOp} {os : List DOp} {ρ : Env} {L : Loc} {s : St} (hg : o.guard = none) {t : Nat} (hdt : o.dst = some t) {z : List D} (hk : o.k = .alloc z)
    (h : ∀ b, s b = none → DO F kp dk os ((t, .d (.ptr b 0)) :: ρ) L (s.upd b (.cells z))) : DO F kp dk (o :: os) ρ L s := by
  refine DO_of fun oo g ν w tmps ops i r k hoo hck hcg hdst hd hN m hr hkk => ?_
  have hw := guard_ok m hcg (c := true) (by rw [hg]; rfl)
  have hnd := ck_defer hck (by rw [hk]; rfl)
  rw [hk] at hck
  obtain ⟨T, hop, hz⟩ := ck_alloc hck
  obtain ⟨v, hv1, hv2, hv3, _⟩ := zero_ok (g := g) (w := w) hz
  have hgr := grow_obj (g := g) (w := w) (.cells v.cells T) m.st.fresh
  have he := hgr.ext m.st.fresh
  obtain ⟨hn, m'⟩ := m.newObj hgr (o := .cells z) ⟨(m.st.fresh _ (Nat.le_refl _)).1, _, T, alloc_new w _, by simpa using hv2.len, fun i v d hv hd => (hv2.get i v d (by simpa using hv) hd).mono he, hv3⟩
  refine goes_world (L' := L) hN hoo hdst hd hw hnd (v := .pointer (some ⟨w.heap.size, 0, none⟩)) (e := .d (.ptr w.heap.size 0)) ?_ he m' (Rep.ptr _ _) ?_
  · simp [execOp, hop, Instr.alloc, hv1, newVar, newRow]
  · rw [hdt]; exact h _ hn ops r k hr hkk
theorem storeCells_cells {g : G} {w : World} {b off : Nat} {cs xs : List D} {vs : List Value} (h : CellsOk g w b cs) (hx : All2 (Rep g w) vs xs) (ho : ∀ v ∈ vs, v.one1 = true) (hlen : off + xs.length ≤ cs.length) (hkp : ¬ g.kept b) :
    ∃ w', (storeCells ⟨b, off, none⟩ vs 0).run P w = .ok () w' ∧ Ext g w g w' ∧ w'.heap.size = w.heap.size ∧ (∀ c, c ≠ b → w'.heap[c]? = w.heap[c]?) ∧ CellsOk g w' b (setPart cs off xs) := by
  obtain ⟨hpr, cur, T, hb, hcl, hcr, hco⟩ := h
  have hvl : vs.length = xs.length := hx.len
  have hst := run_storeCells_at (P := P) b off T vs 0 cur w hb (by simp; omega) (fun x hx => by rw [one1_eq]; exact ho x hx)
  simp only [Nat.add_zero] at hst
  have hrepNew : All2 (Rep g w) (cur.toList.take off ++ vs ++ cur.toList.drop (off + vs.length)) (setPart cs off xs) := by
    have hcur : All2 (Rep g w) cur.toList cs := all2_of_get (by simpa using hcl) (fun i v d hv hd => hcr i v d (by simpa using hv) hd)
    unfold setPart
    rw [← hvl]
    exact ((hcur.take off).append hx).append (hcur.drop _)
  have hsize : ((cur.toList.take off ++ vs ++ cur.toList.drop (off + vs.length)).toArray).size = cur.size := by
    have := hrepNew.len; simp [setPart] at this ⊢; omega
  have he := ext_setRow (g := g) b hb hsize hpr hkp
  refine ⟨_, hst, he, by simp [World.setRow], fun c hc => setRow_other w b c _ hc, hpr, _, T, setRow_heap w b cur _ T (0, 0) hb, by rw [hsize, hcl]; simp [setPart]; omega,
    fun i v d hv hd => (hrepNew.get i v d (by simpa using hv) hd).mono he, fun x hx => ?_⟩
  simp only [List.mem_toArray, List.mem_append] at hx
  rcases hx with (hx | hx) | hx
  · exact hco x (Array.mem_toList_iff.1 (List.mem_of_mem_take hx))
  · exact ho x hx
  · exact hco x (Array.mem_toList_iff.1 (List.mem_of_mem_drop hx))
theorem ck_clear {op : Op} {n : Nat} {z : List D} {x : Opd} (h : ck P op = some (.clear n z x)) :
    ∃ ats t e x', op = .call ⟨.builtin .clear, #[x'], ats⟩ ∧ ats[0]? = some t ∧ P.underlying t = some (.slice e) ∧ sizeT P e = some n ∧ zeroT P e = some z ∧ cOpd x' = some x ∧ 0 < n ∧ z.length = n := by
  unfold ck at h
  split at h
  · simp at h
  · split at h <;> (try (simp at h; done))
    all_goals (try (repeat' (split at h <;> (try (simp at h; done)))))
    rename_i c _ _ hcal _ _ e x' hu hargs _ _ _ s z' x2 h1 h2 h3 hc
    simp only [Option.some.injEq, K.clear.injEq] at h
    obtain ⟨rfl, rfl, rfl⟩ := h
    obtain ⟨callee, args, ats⟩ := c
    simp only at hcal hu hargs
    obtain ⟨args⟩ := args
    simp only at hargs
    subst hargs; subst hcal
    simp only [Option.bind_eq_some_iff] at hu
    obtain ⟨t, ht, hu⟩ := hu
    simp only [Bool.and_eq_true, decide_eq_true_eq] at hc
    exact ⟨ats, t, e, x', rfl, ht, hu, h1, h2, h3, hc.1, hc.2⟩
theorem DO_clear {F : Fr P} {kp : Option (List Nat)} {dk : List DItem} {o : DOp} {os : List DOp} {ρ : Env} {L : Loc} {s : St} (hg : guardB ρ o.guard = some true) {z : List D} {x : Opd} {sz b off n cap : Nat} (hk : o.k = .clear sz z x)
    {p : Prop} (ha : argE ρ true x = some (p, .d (.msl b off n cap sz))) (hp : p) {cs : List D} (hcs : cellsAt s b = some cs) (hlen : off + n * sz ≤ cs.length)
    (h : DO F kp dk os (putE ρ o.dst (.d (.tup []))) L (s.upd b (.cells (setPart cs off (zeros z n))))) : DO F kp dk (o :: os) ρ L s := by
  refine DO_of fun oo g ν w tmps ops i r k hoo hck hcg hdst hd hN m hr hkk => ?_
  have hw := guard_ok m hcg hg
  have hnd := ck_defer hck (by rw [hk]; rfl)
  rw [hk] at hck
  obtain ⟨ats, t, e, x', hop, hat, hu, hsz, hz, hx', h0, hzl⟩ := ck_clear hck
  obtain ⟨zv, hz1, hz2, hz3, ie, hie, hzz⟩ := zero_ok (g := g) (w := w) hz
  have hzlen : zv.cells.size = sz := by have := hz2.len; simp at this; omega
  have hrep : Rep g w _ _ := opd_ok m hx' rfl ha hp F.ds
  generalize hvv : (Act.mk tmps F.ds).eval x' = vv at hrep
  have hsb : s b = some (.cells cs) := by
    unfold cellsAt at hcs
    split at hcs <;> simp only [Option.some.injEq, reduceCtorEq] at hcs
    subst hcs; assumption
  obtain ⟨zl1, zl2⟩ := zeros_get (z := z) (n := sz) (c := n) hzl
  have hzs : All2 (Rep g w) (Builtin.zeroCells zv.cells n).toList (zeros z n) := by
    refine all2_of_get (by rw [Array.length_toList, size_zeroCells, zl1, hzlen]) fun i v d hv hd => ?_
    have hi : i < n * sz := by rw [← zl1]; exact (List.getElem?_eq_some_iff.1 hd).1
    rw [zl2 i hi] at hd
    have hm : i % sz < sz := Nat.mod_lt _ h0
    simp only [Builtin.zeroCells, Array.toList_map, Array.toList_range, List.getElem?_map, Option.map_eq_some_iff, hzlen] at hv
    obtain ⟨a, ha, rfl⟩ := hv
    rw [List.getElem?_range hi] at ha
    simp only [Option.some.injEq] at ha
    subst ha
    refine hz2.get (i % sz) _ d ?_ hd
    rw [getElem!_pos zv.cells (i % sz) (by omega)]
    simp [hzlen, hm]
  have hone : ∀ v ∈ (Builtin.zeroCells zv.cells n).toList, v.one1 = true := fun v hv => by
    simp only [Builtin.zeroCells, Array.mem_toList_iff, Array.mem_map] at hv
    obtain ⟨a, _, rfl⟩ := hv
    by_cases hs0 : zv.cells.size = 0
    · omega
    · exact hz3 _ (by rw [getElem!_pos zv.cells _ (Nat.mod_lt _ (by omega))]; exact Array.getElem_mem _)
  have hset0 : n = 0 → setPart cs off (zeros z n) = cs := fun hn => by subst hn; simp [setPart, zeros]
  have main : ∃ w', (Builtin.clear_ ats oo.type #[vv]).run P w = .ok (.tuple #[]) w' ∧ Ext g w g w' ∧ w'.heap.size = w.heap.size ∧ (∀ c, c ≠ b → w'.heap[c]? = w.heap[c]?) ∧ CellsOk g w' b (setPart cs off (zeros z n)) := by
    have hc0 := cellsAt_ok m.st hcs
    cases hrep with
    | mslx a =>
      refine ⟨w, ?_, Ext.refl g w, rfl, fun _ _ => rfl, by rw [hset0 rfl]; exact hc0⟩
      simp [Builtin.clear_, hat, run_underlying hu]
    | msl _ _ _ _ _ h1 h2 =>
      cases n with
      | zero =>
        refine ⟨w, ?_, Ext.refl g w, rfl, fun _ _ => rfl, by rw [hset0 rfl]; exact hc0⟩
        simp [Builtin.clear_, hat, run_underlying hu]
      | succ n =>
        obtain ⟨w', a1, a2, a3, a4, a5⟩ := storeCells_cells (P := P) hc0 hzs hone (by rw [zl1]; exact hlen) (m.st.kept b _ hsb)
        refine ⟨w', ?_, a2, a3, a4, a5⟩
        simp only [Builtin.clear_, hat, List.getElem?_toArray, List.getElem?_cons_zero, Sem.run_bind, run_underlying hu, Result.andThen_ok, hz1, a1, Sem.run_pure]
  obtain ⟨w', a1, a2, a3, a4, a5⟩ := main
  have m' := m.named (o' := .cells (setPart cs off (zeros z n))) hsb a2 a3 a4 a5
  refine goes_world (L' := L) hN hoo hdst hd hw hnd (v := .tuple #[]) (e := .d (.tup [])) ?_ a2 m' (Rep.tup [] [] rfl (by simp)) (h ops r k hr hkk)
  simp only [execOp, hop, resolve, invoke, builtin, Sem.run_bind, Sem.run_pure, Result.andThen_ok, List.map_toArray, List.map_cons, List.map_nil, hvv, a1]
def SrcOk (P : Program) (s : St) (sz : Nat) (dy : D) (m : Nat) (row : Nat → List D) : Prop :=
  ∀ g w v, StOk g s w → Rep g w v dy → 0 < sz → ∃ news, RowsRep g w sz m news row ∧ NewsOk P w sz m v news
theorem SrcOk.elems {s : St} {sz : Nat} {dy : D} {m : Nat} {row : Nat → List D} (h : elemsD sz dy = some (m, row)) : SrcOk P s sz dy m row := fun g w v _ hr h0 => elems_ok (P := P) hr h h0
theorem SrcOk.msl {s : St} {sz b off n cap : Nat} {cs : List D} (hcs : cellsAt s b = some cs) (hlen : off + n * sz ≤ cs.length) : SrcOk P s sz (.msl b off n cap sz) n (fun i => part cs (off + i * sz) sz) := fun g w v hs hr h0 => by
  obtain ⟨hp, cur, T, hb, hcl, hcr, hco⟩ := cellsAt_ok hs hcs
  let vals := (cur.toList.drop off).take (n * sz)
  have hvl : vals.length = n * sz := by simp [vals]; omega
  have hval : ∀ k, k < n * sz → vals[k]? = cur[off + k]? := fun k hk => by
    simp only [vals, List.getElem?_take, hk, if_true, List.getElem?_drop, Array.getElem?_toList]
  have hk : ∀ i j, i < n → j < sz → i * sz + j < n * sz := fun i j hi hj => by
    have : (i + 1) * sz ≤ n * sz := Nat.mul_le_mul_right _ hi
    rw [Nat.add_mul, Nat.one_mul] at this; omega
  refine ⟨vals, ⟨hvl, fun i hi => ?_, fun i j v d hi hj hv hd => ?_, fun v hv => ?_⟩, ?_⟩
  · have := hk i (sz - 1) hi (by omega)
    simp only [part, List.length_take, List.length_drop]; omega
  · rw [hval _ (hk i j hi hj)] at hv
    refine hcr _ v d hv ?_
    simp only [part, List.getElem?_take, hj, if_true, List.getElem?_drop] at hd
    rw [← hd]; congr 1; omega
  · obtain ⟨k, hk', rfl⟩ := List.getElem_of_mem hv
    have h1 := hval k (by omega)
    rw [List.getElem?_eq_getElem hk'] at h1
    exact hco _ (Array.mem_of_getElem? h1.symm)
  · cases hr with
    | mslx a =>
      have : vals = [] := List.eq_nil_of_length_eq_zero (by simpa using hvl)
      rw [this]
      exact ⟨fun w2 => by simp [Builtin.lenOf], fun w2 _ => by simp [Builtin.firstCells, loadCells, loadCellsFrom]⟩
    | msl _ _ _ _ _ h1 h2 =>
      refine ⟨fun w2 => by simp [Builtin.lenOf], fun w2 hw2 => ?_⟩
      refine run_firstCells_some (P := P) w2 sz n ⟨b, off, none⟩ n cap vals hvl fun k v hv => ?_
      have hkl : k < n * sz := by rw [← hvl]; exact (List.getElem?_eq_some_iff.1 hv).1
      rw [hval k hkl] at hv
      rw [addr_add, cell_of_heap (hw2 ▸ rfl : w2.heap[b]? = w.heap[b]?), cell_heap hb]
      exact hv
theorem DO_appendS {F : Fr P} {kp : Option (List Nat)} {dk : List DItem} {o : DOp} {os : List DOp} {ρ : Env} {L : Loc} {s : St} (hg : guardB ρ o.guard = some true) {e sz b : Nat} {z : List D} {x y : Opd} (hk : o.k = .append e sz b z x y)
    {p q : Prop} {t : Tok} {n m : Nat} {row row2 : Nat → List D} {dy : D} {dx : D} (hx : argE ρ true x = some (p, .d dx)) (hsl : asSl sz dx = some (t, n, row)) (hy : argE ρ true y = some (q, .d dy)) (hp : p) (hq : q) (hel : SrcOk P (s.own t (n * sz)) sz dy m row2) (hok : t.okIn s)
    (hb : (n + m) * b ≤ 140737488355328) (hbig : n + m ≤ big) (h : ∀ t' : Tok, t'.okIn s → DO F kp dk os (putE ρ o.dst (.d (.sl t' (n + m) sz (appRow n row row2)))) L (s.own t' ((n + m) * sz))) :
    DO F kp dk (o :: os) ρ L (s.own t (n * sz)) := by
  refine DO_of fun oo g ν w tmps ops i r k hoo hck hcg hdst hd hN M hr hkk => ?_
  have hw := guard_ok M hcg hg
  have hnd := ck_defer hck (by rw [hk]; rfl)
  rw [hk] at hck
  obtain ⟨x', y', args, ats, t1, t2, tu, hop, hargs, ha1, ha2, hu1, hu2, hnu, hsz, hz, hbb, hx', hy', h0, hzl⟩ := ck_append hck
  subst hbb
  have hr1 : Rep g w _ (.sl t n sz row) := asSl_ok (opd_ok M hx' rfl hx hp F.ds) hsl
  have hr2 : Rep g w _ _ := opd_ok M hy' rfl hy hq F.ds
  obtain ⟨zv, hz1, hz2, hz3, ie, hie, hzz⟩ := zero_ok (g := g) (w := w) hz
  have hsize : ie.size = sz := by simpa [sizeT, hie] using hsz
  have hzlen : zv.cells.size = sz := by have := hz2.len; simp at this; omega
  have hby : P.bytesOf e = ie.bytes := by simp [Program.bytesOf, hie]
  rw [hby] at hb
  obtain ⟨news, hn1, hn2⟩ := hel _ _ _ M.st hr2 h0
  obtain ⟨v', w', g', t', a1, a2, a3, a4, a5, a6, a7⟩ := app_ok (ty := oo.type) hu1 hu2 hnu hie hzz hsize hzlen h0 M.st hok hr1 hn1 hn2 hb hbig
  have hne : ∀ l cs, getL L l = some cs → t ≠ .tip (ν l) := fun l cs hl ht => by
    have := M.locSt l cs hl
    rw [ht] at this
    simp [St.own, St.upd] at this
  have hsn : ∀ l cs, getL L l = some cs → s (ν l) = none := fun l cs hl => by
    cases hx : s (ν l) with
    | none => rfl
    | some o => have := sub_own (k := n * sz) hok _ _ hx; rw [M.locSt l cs hl] at this; simp at this
  have mm : Models g' ν w' tmps ρ L (s.own t' ((n + m) * sz)) := by
    refine ⟨a3, fun l cs hl => (M.loc l cs hl).mono a2 (a6 (ν l) (M.loc l cs hl).lt (hne l cs hl)).1 (a6 (ν l) (M.loc l cs hl).lt (hne l cs hl)).2, fun l cs hl => by rw [a2.keptEq]; exact M.locKept l cs hl, fun l cs hl => ?_, M.inj, fun t e he => (M.env t e he).mono a2⟩
    cases t' with
    | tip b =>
      have : ¬ ν l = b := fun hb => by
        rcases a7 b rfl with h1 | h1
        · exact hne l cs hl (by rw [hb]; exact h1)
        · have := (M.loc l cs hl).lt; omega
      simp only [St.own, St.upd, this, if_false]; exact hsn l cs hl
    | _ => exact hsn l cs hl
  refine goes_world hN hoo hdst hd hw hnd (v := v') (w' := w') (e := .d (.sl t' (n + m) sz (appRow n row row2))) ?_ a2 mm a5 (h t' a4 ops r k hr hkk)
  have hae : args = #[x', y'] := by apply Array.ext'; simpa using hargs
  have hats : ∀ vs, Builtin.append_ ats oo.type vs = Builtin.append_ #[t1, t2] oo.type vs := fun vs => by
    unfold Builtin.append_; simp [ha1, ha2]
  unfold execOp
  simp only [hop, hae, resolve, invoke, builtin, Sem.run_bind, Sem.run_pure, Result.andThen_ok, List.map_toArray, List.map_cons, List.map_nil, hats, a1]
theorem flat_len {sz m : Nat} {row : Nat → List D} (h : ∀ i, i < m → (row i).length = sz) : ∀ k, k ≤ m → ((List.range k).flatMap row).length = k * sz
  | 0, _ => by simp
  | k + 1, hk => by
    rw [List.range_succ, List.flatMap_append, List.length_append, flat_len h k (by omega)]
    simp [h k hk, Nat.add_mul]
theorem flat_get {sz m : Nat} {row : Nat → List D} (h : ∀ i, i < m → (row i).length = sz) : ∀ (k i j : Nat), k ≤ m → i < k → j < sz → ((List.range k).flatMap row)[i * sz + j]? = (row i)[j]?
  | 0, i, j, _, hi, _ => by omega
  | k + 1, i, j, hk, hi, hj => by
    rw [List.range_succ, List.flatMap_append]
    have hl := flat_len h k (by omega)
    by_cases hik : i < k
    · have : i * sz + j < k * sz := by
        have : (i + 1) * sz ≤ k * sz := Nat.mul_le_mul_right _ hik
        rw [Nat.add_mul, Nat.one_mul] at this; omega
      rw [List.getElem?_append_left (by omega)]
      exact flat_get h k i j (by omega) hik hj
    · obtain rfl : i = k := by omega
      rw [List.getElem?_append_right (by omega), hl]
      simp [List.flatMap_cons]
theorem RowsRep.flat {g : G} {w : World} {sz m : Nat} {vs : List Value} {row : Nat → List D} (h : RowsRep g w sz m vs row) : All2 (Rep g w) vs ((List.range m).flatMap row) := by
  have hl := flat_len h.rlen m (Nat.le_refl _)
  refine all2_of_get (by rw [h.len, hl]) fun k v d hv hd => ?_
  have hk : k < m * sz := by rw [← hl]; exact (List.getElem?_eq_some_iff.1 hd).1
  have hs : 0 < sz := by
    rcases Nat.eq_zero_or_pos sz with h | h
    · subst h; simp at hk
    · exact h
  have h1 : k / sz < m := (Nat.div_lt_iff_lt_mul hs).2 hk
  have h2 : k % sz < sz := Nat.mod_lt _ hs
  have e : k / sz * sz + k % sz = k := by rw [Nat.mul_comm]; exact Nat.div_add_mod k sz
  rw [← e] at hv hd
  rw [flat_get h.rlen m _ _ (Nat.le_refl _) h1 h2] at hd
  exact h.rep _ _ v d h1 h2 hv hd
theorem DO_appFS {F : Fr P} {kp : Option (List Nat)} {dk : List DItem} {o : DOp} {os : List DOp} {ρ : Env} {L : Loc} {s : St} (hg : guardB ρ o.guard = some true) {e sz b : Nat} {z : List D} {x y : Opd} (hk : o.k = .append e sz b z x y)
    {p q : Prop} {m : Nat} {row row2 : Nat → List D} {dy : D} {dx : D} (hx : argE ρ true x = some (p, .d dx)) (hsl : asSl sz dx = some (.full, 0, row)) (hy : argE ρ true y = some (q, .d dy)) (hel : SrcOk P s sz dy m row2) (hp : p) (hq : q) (hm : 0 < m)
    (hb : m * b ≤ 140737488355328) (hbig : m ≤ big)
    (h : ∀ c cap, s c = none → m ≤ cap → DO F kp dk os (putE ρ o.dst (.d (.msl c 0 m cap sz))) L (s.upd c (.cells ((List.range m).flatMap row2 ++ List.replicate ((cap - m) * sz) .any)))) :
    DO F kp dk (o :: os) ρ L s := by
  refine DO_of fun oo g ν w tmps ops i r k hoo hck hcg hdst hd hN M hr hkk => ?_
  have hw := guard_ok M hcg hg
  have hnd := ck_defer hck (by rw [hk]; rfl)
  rw [hk] at hck
  obtain ⟨x', y', args, ats, t1, t2, tu, hop, hargs, ha1, ha2, hu1, hu2, hnu, hsz, hz, hbb, hx', hy', h0, hzl⟩ := ck_append hck
  subst hbb
  have hr1 : Rep g w _ (.sl .full 0 sz row) := asSl_ok (opd_ok M hx' rfl hx hp F.ds) hsl
  have hr2 : Rep g w _ _ := opd_ok M hy' rfl hy hq F.ds
  obtain ⟨zv, hz1, hz2, hz3, ie, hie, hzz⟩ := zero_ok (g := g) (w := w) hz
  have hsize : ie.size = sz := by simpa [sizeT, hie] using hsz
  have hzlen : zv.cells.size = sz := by have := hz2.len; simp at this; omega
  have hby : P.bytesOf e = ie.bytes := by simp [Program.bytesOf, hie]
  rw [hby] at hb
  obtain ⟨news, hn1, hn2⟩ := hel _ _ _ M.st hr2 h0
  obtain ⟨cap, cv, a1, a2, a3, a4, a5, a6⟩ := appF_ok (ty := oo.type) hu1 hu2 hnu hie hzz hsize hzlen hz3 h0 M.st hr1 hm hn1 hn2 hb hbig
  have hgr : Grow g w g (w.drew.alloc (.cells cv e)) := grow_drew (g := g) (w := w) cv e M.st.fresh
  have he := hgr.ext M.st.fresh
  have hfl := flat_len hn1.rlen m (Nat.le_refl _)
  have hob : ObjOk g (w.drew.alloc (.cells cv e)) w.heap.size (.cells ((List.range m).flatMap row2 ++ List.replicate ((cap - m) * sz) .any)) :=
    ⟨(M.st.fresh _ (Nat.le_refl _)).1, _, e, alloc_new w.drew _, by rw [List.length_append, hfl, List.length_replicate, a4, ← Nat.add_mul]; congr 1; omega, fun i v d hv hd => (a6 i v d hv hd).mono he, a5⟩
  obtain ⟨hn, m'⟩ := M.newObj hgr hob
  refine goes_world (L' := L) hN hoo hdst hd hw hnd (e := .d (.msl w.heap.size 0 m cap sz)) ?_ he m' (Rep.msl _ _ _ _ _ a2 a3) (h _ cap hn a2 ops r k hr hkk)
  have hae : args = #[x', y'] := by apply Array.ext'; simpa using hargs
  have hats : ∀ vs, Builtin.append_ ats oo.type vs = Builtin.append_ #[t1, t2] oo.type vs := fun vs => by
    unfold Builtin.append_; simp [ha1, ha2]
  unfold execOp
  simp only [hop, hae, resolve, invoke, builtin, Sem.run_bind, Sem.run_pure, Result.andThen_ok, List.map_toArray, List.map_cons, List.map_nil, hats, a1]
theorem DO_appM {F : Fr P} {kp : Option (List Nat)} {dk : List DItem} {o : DOp} {os : List DOp} {ρ : Env} {L : Loc} {s : St} (hg : guardB ρ o.guard = some true) {e sz bt : Nat} {z : List D} {x y : Opd} (hk : o.k = .append e sz bt z x y)
    {p q : Prop} {b off n cap m : Nat} {row2 : Nat → List D} {dy : D} {cs : List D} (hx : argE ρ true x = some (p, .d (.msl b off n cap sz))) (hy : argE ρ true y = some (q, .d dy)) (hp : p) (hq : q) (hcs : cellsAt s b = some cs) (hlen : off + n * sz ≤ cs.length) (hel : SrcOk P s sz dy m row2)
    (hroom : n + m ≤ cap → off = 0 ∧ (n + m) * sz ≤ cs.length) (hb : (n + m) * bt ≤ 140737488355328) (hbig : n + m ≤ big)
    (h1 : n + m ≤ cap → DO F kp dk os (putE ρ o.dst (.d (.msl b off (n + m) cap sz))) L (s.upd b (.cells (setPart cs (n * sz) ((List.range m).flatMap row2)))))
    (h2 : ∀ c cap', cap < n + m → s c = none → n + m ≤ cap' → DO F kp dk os (putE ρ o.dst (.d (.msl c 0 (n + m) cap' sz))) L (s.upd c (.cells (part cs off (n * sz) ++ (List.range m).flatMap row2 ++ List.replicate ((cap' - (n + m)) * sz) .any)))) :
    DO F kp dk (o :: os) ρ L s := by
  refine DO_of fun oo g ν w tmps ops i r k hoo hck hcg hdst hd hN M hr hkk => ?_
  have hw := guard_ok M hcg hg
  have hnd := ck_defer hck (by rw [hk]; rfl)
  rw [hk] at hck
  obtain ⟨x', y', args, ats, t1, t2, tu, hop, hargs, ha1, ha2, hu1, hu2, hnu, hsz, hz, hbb, hx', hy', h0, hzl⟩ := ck_append hck
  subst hbb
  have hr1 : Rep g w _ (.msl b off n cap sz) := opd_ok M hx' rfl hx hp F.ds
  have hr2 : Rep g w _ _ := opd_ok M hy' rfl hy hq F.ds
  obtain ⟨zv, hz1, hz2, hz3, ie, hie, hzz⟩ := zero_ok (g := g) (w := w) hz
  have hsize : ie.size = sz := by simpa [sizeT, hie] using hsz
  have hzlen : zv.cells.size = sz := by have := hz2.len; simp at this; omega
  have hby : P.bytesOf e = ie.bytes := by simp [Program.bytesOf, hie]
  rw [hby] at hb
  have hsb : s b = some (.cells cs) := by
    unfold cellsAt at hcs
    split at hcs <;> simp only [Option.some.injEq, reduceCtorEq] at hcs
    subst hcs; assumption
  obtain ⟨news, hn1, hn2⟩ := hel _ _ _ M.st hr2 h0
  obtain ⟨olds, ho1, ho2⟩ := SrcOk.msl (P := P) (s := s) (cap := cap) hcs hlen g w _ M.st hr1 h0
  have hae : args = #[x', y'] := by apply Array.ext'; simpa using hargs
  have hats : ∀ vs, Builtin.append_ ats oo.type vs = Builtin.append_ #[t1, t2] oo.type vs := fun vs => by
    unfold Builtin.append_; simp [ha1, ha2]
  generalize hvx : (Act.mk tmps F.ds).eval x' = vx at hr1 ho2
  generalize hvy : (Act.mk tmps F.ds).eval y' = vy at hr2 hn2
  have hexec : ∀ v' w', (Builtin.append_ #[t1, t2] oo.type #[vx, vy]).run P w = .ok v' w' → (execOp (Act.mk tmps F.ds).eval oo).run P w = .ok (.value v') w' := fun v' w' hrun => by
    unfold execOp
    simp only [hop, hae, resolve, invoke, builtin, Sem.run_bind, Sem.run_pure, Result.andThen_ok, List.map_toArray, List.map_cons, List.map_nil, hats, hvx, hvy, hrun]
  subst hsize
  have hfl := flat_len hn1.rlen m (Nat.le_refl _)
  have hpl : (part cs off (n * ie.size)).length = n * ie.size := by simp only [part, List.length_take, List.length_drop]; omega
  have hflo : (List.range n).flatMap (fun i => part cs (off + i * ie.size) ie.size) = part cs off (n * ie.size) := by
    have hlo := flat_len ho1.rlen n (Nat.le_refl _)
    apply List.ext_getElem?
    intro k'
    by_cases hk' : k' < n * ie.size
    · have e1 : k' / ie.size * ie.size + k' % ie.size = k' := by rw [Nat.mul_comm]; exact Nat.div_add_mod k' ie.size
      have e2 : k' / ie.size < n := (Nat.div_lt_iff_lt_mul h0).2 hk'
      have e3 : k' % ie.size < ie.size := Nat.mod_lt _ h0
      have := flat_get ho1.rlen n _ _ (Nat.le_refl _) e2 e3
      rw [e1] at this
      rw [this]
      simp only [part, List.getElem?_take, e3, if_true, List.getElem?_drop, hk']
      congr 1; omega
    · rw [List.getElem?_eq_none (by omega), List.getElem?_eq_none (by omega)]
  have hgrow : ∀ base, vx = .slice base n cap → cap < n + m → F.T.T g w (lone (F.b.atR ⟨tmps, F.ds⟩ (.inRegion ops (i :: r) :: k)) F.cs w) := by
    intro base hv hlt
    subst hv
    have hrun := app_grow (ty := oo.type) hu1 hu2 hnu hie hzz hn2 ho2.2 hlt (by simp only [big] at hbig; omega) hb
    have hge := grownCap_ge w (n + m) cap e
    have hle := grownCap_le_maxLen w (n + m) cap e (by simp only [big] at hbig; simp only [maxLen]; omega)
    generalize grownCap w (n + m) cap e = cap' at hrun hge hle
    generalize hcv : (olds ++ news ++ (Builtin.zeroCells zv.cells (cap' - (n + m))).toList).toArray = cv at hrun
    have hzs : (Builtin.zeroCells zv.cells (cap' - (n + m))).toList.length = (cap' - (n + m)) * ie.size := by rw [Array.length_toList, size_zeroCells, hzlen]
    have hgr : Grow g w g (w.drew.alloc (.cells cv e)) := grow_drew (g := g) (w := w) cv e M.st.fresh
    have he := hgr.ext M.st.fresh
    have hall : All2 (Rep g w) cv.toList (part cs off (n * ie.size) ++ (List.range m).flatMap row2 ++ List.replicate ((cap' - (n + m)) * ie.size) .any) := by
      rw [← hcv, ← hflo]
      refine (ho1.flat.append hn1.flat).append (all2_of_get (by rw [hzs, List.length_replicate]) fun k' v d hv hd => ?_)
      rw [List.getElem?_replicate] at hd
      split at hd <;> simp only [Option.some.injEq, reduceCtorEq] at hd
      subst hd; exact .any v
    have hone : ∀ v ∈ cv, v.one1 = true := fun v hv => by
      rw [← hcv] at hv
      simp only [List.mem_toArray, List.mem_append] at hv
      rcases hv with (hv | hv) | hv
      · exact ho1.one v hv
      · exact hn1.one v hv
      · simp only [Builtin.zeroCells, Array.mem_toList_iff, Array.mem_map] at hv
        obtain ⟨a, _, rfl⟩ := hv
        exact hz3 _ (by rw [getElem!_pos zv.cells _ (Nat.mod_lt _ (by omega))]; exact Array.getElem_mem _)
    have hob : ObjOk g (w.drew.alloc (.cells cv e)) w.heap.size (.cells (part cs off (n * ie.size) ++ (List.range m).flatMap row2 ++ List.replicate ((cap' - (n + m)) * ie.size) .any)) :=
      ⟨(M.st.fresh _ (Nat.le_refl _)).1, _, e, alloc_new w.drew _, by simpa using hall.len, fun i v d hv hd => (hall.get i v d (by simpa using hv) hd).mono he, hone⟩
    obtain ⟨hn, m'⟩ := M.newObj hgr hob
    exact goes_world (L' := L) hN hoo hdst hd hw hnd (e := .d (.msl w.heap.size 0 (n + m) cap' ie.size)) (hexec _ _ hrun) he m' (Rep.msl _ _ _ _ _ hge (by simp only [maxLen] at hle; simp only [big]; omega)) (h2 _ cap' hlt hn hge ops r k hr hkk)
  have hstay : ∀ base, vx = .slice base n cap → base = some ⟨b, off, none⟩ ∨ (n + m = 0 ∧ cap = 0) → n + m ≤ cap → F.T.T g w (lone (F.b.atR ⟨tmps, F.ds⟩ (.inRegion ops (i :: r) :: k)) F.cs w) := by
    intro base hv hbase hle
    subst hv
    obtain ⟨ho0, hfit0⟩ := hroom hle
    subst ho0
    obtain ⟨hpr, cur, T, hb1, hcl, hcr, hco⟩ := cellsAt_ok M.st hcs
    by_cases hm0 : m = 0
    · subst hm0
      have hne : news = [] := List.eq_nil_of_length_eq_zero (by simpa using hn1.len)
      subst hne
      have hrun := app_room0 (ty := oo.type) (n := n) (cap := cap) (base := base) hu1 hu2 hnu hie hn2 (by omega)
      have hset : setPart cs (n * ie.size) ((List.range 0).flatMap row2) = cs := by simp [setPart]
      have hup : s.upd b (.cells cs) = s := by funext c; simp only [St.upd]; split <;> simp_all
      have hgo := h1 hle
      rw [hset, hup] at hgo
      exact goes_world (L' := L) (s' := s) hN hoo hdst hd hw hnd (e := .d (.msl b 0 (n + 0) cap ie.size)) (hexec _ _ hrun) (Ext.refl g w) M (by rw [Nat.add_zero]; exact hr1) (hgo ops r k hr hkk)
    · have hbase' : base = some ⟨b, 0, none⟩ := hbase.resolve_right (fun h => hm0 (by omega))
      subst hbase'
      have hfit : n * ie.size + news.length ≤ cur.size := by rw [hn1.len, ← Nat.add_mul, hcl]; exact hfit0
      have hrun := app_room (ty := oo.type) hu1 hu2 hnu hie hn2 hb1 (fun v hv => by rw [one1_eq]; exact hn1.one v hv) hle hfit
      obtain ⟨w', a1, a2, a3, a4, a5⟩ := storeCells_cells (P := P) (off := n * ie.size) (cellsAt_ok M.st hcs) hn1.flat hn1.one (by rw [hfl, ← Nat.add_mul]; exact hfit0) (M.st.kept b _ hsb)
      have hst := run_storeCells_at (P := P) b (n * ie.size) T news 0 cur w hb1 (by simpa using hfit) (fun v hv => by rw [one1_eq]; exact hn1.one v hv)
      simp only [Nat.add_zero] at hst
      rw [a1] at hst
      simp only [Result.ok.injEq, true_and] at hst
      rw [← hst] at hrun
      have m' := M.named (o' := .cells (setPart cs (n * ie.size) ((List.range m).flatMap row2))) hsb a2 a3 a4 a5
      exact goes_world (L' := L) hN hoo hdst hd hw hnd (e := .d (.msl b 0 (n + m) cap ie.size)) (hexec _ _ hrun) a2 m' (by
        cases hr1 with
        | msl _ _ _ _ _ _ hcb => exact Rep.msl _ _ _ _ _ hle hcb
        | mslx a => exact absurd hle (by omega)) (h1 hle ops r k hr hkk)
  cases hr1 with
  | msl _ _ _ _ _ hc1 hc2 =>
    by_cases hle : n + m ≤ cap
    · exact hstay _ rfl (.inl rfl) hle
    · exact hgrow _ rfl (by omega)
  | mslx a =>
    by_cases hle : 0 + m ≤ 0
    · exact hstay _ rfl (.inr ⟨by omega, rfl⟩) hle
    · exact hgrow _ rfl (by omega)
end
end Go.DL
namespace Go.DL
open Go
variable {P : Program}
theorem DO_wadd {F : Fr P} {kp : Option (List Nat)} {dk : List DItem} {o : DOp} {os : List DOp} {ρ : Env} {L : Loc} {s : St} (hg : o.guard = none) {x y : Opd} {pl : Option Plan} (hk : o.k = .q (.bin .add pl) [x, y]) {p : Prop} {k : IntKind} {a b : Int}
    (ha : argsE ρ true [x, y] = some (p, [.d (.int k a), .d (.int k b)])) (hp : p) (h : DO F kp dk os (putE ρ o.dst (.d (.int k (k.wrap (a + b))))) L s) : DO F kp dk (o :: os) ρ L s := by
  refine DO_val (c := true) (by rw [hg]; rfl) (by rw [hk]; rfl) (.inr ⟨rfl, rfl⟩) (fun _ oo g ν w tmps hck m => ?_) h
  rw [hk] at hck
  obtain ⟨ys, hcq, hys⟩ := ck_q hck
  have hargs := opds_ok m rfl F.ds hys ha hp
  obtain ⟨dst, oo_op, ty, pos, af, gd⟩ := oo
  simp only at hcq
  have hop : ∃ op t x' y' yt, oo_op = Op.binOp op t x' y' yt := by
    cases oo_op <;> (try (simp [cq] at hcq; done))
    case binOp => exact ⟨_, _, _, _, _, rfl⟩
    all_goals
      exfalso
      revert hcq
      simp only [cq]
      repeat' split
      all_goals simp
      all_goals (intros; simp_all)
  obtain ⟨op, t, x', y', yt, rfl⟩ := hop
  simp only [cq] at hcq
  simp only [Option.some.injEq, Prod.mk.injEq, Q.bin.injEq] at hcq
  obtain ⟨⟨rfl, _⟩, rfl⟩ := hcq
  obtain ⟨e1, e2, he, h1, h2⟩ := all2_two hargs
  simp only [List.cons.injEq, and_true] at he
  obtain ⟨rfl, rfl⟩ := he
  obtain ⟨v1, i1⟩ := rep_int h1
  obtain ⟨v2, i2⟩ := rep_int h2
  refine ev ⟨.int k (k.wrap (a + b)), ?_, .int _ _ (wrap_in _ _)⟩
  have hgd : (eqGuard .add t x' y' (.int k a) (.int k b)).run P w = .ok () w := rfl
  rw [v1, v2]
  simp only [Sem.run_bind, hgd, Result.andThen_ok, binOp, ne_eq, not_true_eq_false, if_false]
  rfl
end Go.DL
namespace Go.DL
open Go Go.Proofs
def law46_BridgeNone.r0 := [qB 2 0, qb 4 false]
def law46_BridgeNone.r1 := [qL 13 5 2, qf 14 4 [.tmp 13], qm 15 14, qn 15 (qm 16 1), qn 15 (qk 17 .lenL 16), qn 15 (qe 18 .gtr 17 400), qo 19 15 18]
def law46_BridgeNone.r2 := [qf 20 5 [], qm 4 20]
def law46_BridgeNone.r3 : List DOp := [⟨some 21, none, .q (.build [.str [], .nilsl, .str [], .str [], .nilsl, .str [], .str [], .nilsl] []) []⟩, qB 22 21, ⟨some 23, none, .bsl 2 1 [.nilptr] [0, 1] [.cst (.nilptr), .tmp 22]⟩, qk 24 .lenL 23, qi 25 0]
def law46_BridgeNone.r4 := [qd 26 .lss 25 24]
def law46_BridgeNone.r5 := [qX 27 1 23 25, ql 28 27, qm 6 28]
def law46_BridgeNone.r6 : List DOp := [qm 30 6, qL 31 5 2, qf 32 6 [.tmp 30, .tmp 31], qm 29 32, qx 33 0 29, qx 34 1 29, qx 35 2 29, ⟨some 7, none, .alloc [.str [], .int .i64 0, .nilsl, .nilsl, .nilsl]⟩, qS 5 7 33, qm 8 34, qm 9 35]
def law46_BridgeNone.r7 := [qm 37 6, qm 38 1, qf 39 7 [.tmp 37, .tmp 38], qm 36 39, qx 40 0 36, qx 41 1 36, qx 42 2 36, qm 10 40, qm 11 41, qm 12 42]
def law46_BridgeNone.r8 : List DOp := [qL 43 5 7, ⟨some 44, none, .q (.build [.str [], .int .i64 0, .nilsl, .nilsl, .nilsl] []) []⟩, qf 45 8 [.tmp 43, .tmp 44], qk 46 .not 45, qm 47 46, qn 47 (qm 48 10), qn 47 (qk 49 .lenL 48), qn 47 (qe 50 .neq 49 0), qo 51 47 50, qm 52 51, qn 52 (qm 53 8), qn 52 ⟨some 54, none, .q (.bin .neq (none)) [.tmp 53, .cst (.str [])]⟩, qo 55 52 54, qm 56 55, qn 56 (qm 57 11), qn 56 ⟨some 58, none, .q (.bin .neq (none)) [.tmp 57, .cst (.str [])]⟩, qo 59 56 58, qm 60 59, qn 60 (qm 61 9), qn 60 (qe 62 .neq 61 1), qo 63 60 62, qm 64 63, qn 64 (qm 65 12), qn 64 (qe 66 .neq 65 1), qo 67 64 66, qm 68 67, qn 68 (qm 69 6), qn 68 (qf 70 10 [.tmp 69]), qn 68 ⟨some 71, none, .q (.build [.str [], .nilsl] []) []⟩, qn 68 (qf 72 9 [.tmp 70, .tmp 71]), qn 68 (qk 73 .not 72), qo 74 68 73]
def law46_BridgeNone.r9 := [qb 4 false]
def law46_BridgeNone.r10 := [qe 75 .add 25 1, qm 25 75]
def law46_BridgeNone.l0 : DC := .seq (qR law46_BridgeNone.r4 [1, 2, 23, 24, 25, 26]) (.seq (qC 26 .skip (.exit 0)) (.seq (.block 1 (.seq (qR law46_BridgeNone.r5 [1, 2, 6, 23, 24, 25]) (.seq (qR law46_BridgeNone.r6 [1, 2, 6, 7, 8, 9, 23, 24, 25]) (.seq (qR law46_BridgeNone.r7 [1, 2, 6, 7, 8, 9, 10, 11, 12, 23, 24, 25]) (.seq (qR law46_BridgeNone.r8 [1, 2, 23, 24, 25, 74]) (qC 74 (.seq (qR law46_BridgeNone.r9 [4]) .ret) .skip)))))) (qR law46_BridgeNone.r10 [1, 2, 23, 24, 25])))
def law46_BridgeNone.r11 := [qf 76 5 [], qm 4 76]
abbrev law46_BridgeNone.id : Nat := 3
def law46_BridgeNone.an : Ann := [(0, [1, 2]), (1, [1, 2, 19]), (2, [4]), (3, [1, 2, 23, 24, 25]), (4, [1, 2, 23, 24, 25, 26]), (5, [1, 2, 6, 23, 24, 25]), (6, [1, 2, 6, 7, 8, 9, 23, 24, 25]), (7, [1, 2, 6, 7, 8, 9, 10, 11, 12, 23, 24, 25]), (8, [1, 2, 23, 24, 25, 74]), (9, [4]), (10, [1, 2, 23, 24, 25]), (11, [4])]
def law46_BridgeNone.body : DC := .seq (qR law46_BridgeNone.r0 [1, 2]) (.seq (.seq (qR law46_BridgeNone.r1 [1, 2, 19]) (qC 19 (.seq (qR law46_BridgeNone.r2 [4]) .ret) .skip)) (.seq (.seq (qR law46_BridgeNone.r3 [1, 2, 23, 24, 25]) (.block 0 (.loop law46_BridgeNone.l0))) (.seq (qR law46_BridgeNone.r11 [4]) .ret)))
def law46_BridgeNone.df : DF := ⟨77, [.tmp 4], law46_BridgeNone.body⟩
theorem law46_BridgeNone.ok : cf Tryz.prog law46_BridgeNone.an law46_BridgeNone.id = some law46_BridgeNone.df := by kernel_rfl
def law46_heavy.r0 := [qB 1 0, qb 2 false]
def law46_heavy.r1 := [qL 4 5 1, qf 5 11 [.tmp 4], qe 6 .gtr 5 200, qm 7 6, qn 7 (qa 8 2 1), qn 7 (ql 9 8), qn 7 (qk 10 .lenL 9), qn 7 (qe 11 .gtr 10 2000), qo 12 7 11, qm 13 12, qn 13 (qa 14 3 1), qn 13 (ql 15 14), qn 13 (qk 16 .lenL 15), qn 13 (qe 17 .gtr 16 20), qo 18 13 17]
def law46_heavy.r2 := [qb 2 true]
def law46_heavy.r3 := [qi 3 0]
def law46_heavy.r4 := [qm 19 3, qa 20 4 1, ql 21 20, qk 22 .lenL 21, qd 23 .lss 19 22]
def law46_heavy.r6 := [qa 26 4 1, ql 27 26, qm 28 3, qX 29 5 27 28, qL 30 5 29, qf 31 4 [.tmp 30]]
def law46_heavy.r7 := [qb 2 true]
def law46_heavy.r5 := [qm 24 3, qe 25 .add 24 1, qm 3 25]
def law46_heavy.l0 : DC := .seq (.seq (qR law46_heavy.r4 [1, 3, 23]) (qC 23 .skip (.exit 0))) (.seq (.block 1 (.seq (qR law46_heavy.r6 [1, 3, 31]) (qC 31 (.seq (qR law46_heavy.r7 [2]) .ret) .skip))) (qR law46_heavy.r5 [1, 3]))
def law46_heavy.r8 := [qb 2 false]
abbrev law46_heavy.id : Nat := 4
def law46_heavy.an : Ann := [(0, [1]), (1, [1, 18]), (2, [2]), (3, [1, 3]), (4, [1, 3, 23]), (5, [1, 3]), (6, [1, 3, 31]), (7, [2]), (8, [2])]
def law46_heavy.body : DC := .seq (qR law46_heavy.r0 [1]) (.seq (.seq (qR law46_heavy.r1 [1, 18]) (qC 18 (.seq (qR law46_heavy.r2 [2]) .ret) .skip)) (.seq (.seq (qR law46_heavy.r3 [1, 3]) (.block 0 (.loop law46_heavy.l0))) (.seq (qR law46_heavy.r8 [2]) .ret)))
def law46_heavy.df : DF := ⟨32, [.tmp 2], law46_heavy.body⟩
theorem law46_heavy.ok : cf Tryz.prog law46_heavy.an law46_heavy.id = some law46_heavy.df := by kernel_rfl
def bridge_Bridge_Value.r0 : List DOp := [qB 3 1, ⟨some 4, none, .alloc [.str [], .int .i64 0, .nilsl, .nilsl, .nilsl]⟩, ⟨some 5, none, .alloc [.str []]⟩, ⟨some 6, none, .alloc [.int .i64 0]⟩]
def bridge_Bridge_Value.r1 := [qm 10 0, qf 11 17 [.tmp 10]]
def bridge_Bridge_Value.r2 : List DOp := [qL 12 5 4, qS 5 4 12, ⟨none, none, .store1 (.tmp 5) (.cst (.str []))⟩, ⟨none, none, .store1 (.tmp 6) (.cst (.int .i64 1))⟩]
def bridge_Bridge_Value.r3 : List DOp := [qm 14 0, qk 15 .nilck 14, qa 16 0 15, qL 17 3 16, qm 18 0, qk 19 .nilck 18, qa 20 0 19, qa 21 2 20, ql 22 21, qL 23 5 3, ⟨some 7, none, .alloc [.str [], .int .i64 0]⟩, qf 24 18 [.tmp 17, .tmp 22, .tmp 23], qm 13 24, qx 25 0 13, qx 26 1 13, qS 2 7 25, qm 8 26]
def bridge_Bridge_Value.r4 := [qm 27 8, qe 28 .neq 27 0]
def bridge_Bridge_Value.r5 : List (DOp × List Nat) := [
  (⟨some 29, none, .q (.loadN 5) [.tmp 4]⟩, []),
  (⟨some 30, none, .q (.faddr 0) [.tmp 7]⟩, []),
  (⟨some 31, none, .q (.load1) [.tmp 30]⟩, []),
  (⟨some 32, none, .q .mv [.tmp 8]⟩, []),
  (⟨none, none, .storeN 5 (.tmp 4) (.tmp 29)⟩, [31]),
  (⟨none, none, .store1 (.tmp 5) (.tmp 31)⟩, []),
  (⟨none, none, .store1 (.tmp 6) (.tmp 32)⟩, [])]
def bridge_Bridge_Value.r6 : List DOp := [⟨some 33, none, .q (.mkfn (.func 19) 0) [.tmp 4, .tmp 5, .tmp 6]⟩, ⟨none, none, .defer (.tmp 33) []⟩]
def bridge_Bridge_Value.r7 : List DOp := [qm 34 0, ⟨some 35, none, .q (.build [.nilptr, .nilsl] [(0, 1)]) [.tmp 34]⟩, qB 36 35, qm 9 36]
def bridge_Bridge_Value.r8 : List DOp := [qm 37 9, qm 38 9, qL 39 5 3, qf 40 22 [.tmp 39], qf 41 21 [.tmp 38, .tmp 40, .cst (.str [])], qf 42 20 [.tmp 37, .tmp 41], qS 5 4 42, ⟨none, none, .store1 (.tmp 5) (.cst (.str []))⟩, ⟨none, none, .store1 (.tmp 6) (.cst (.int .i64 0))⟩]
abbrev bridge_Bridge_Value.id : Nat := 6
def bridge_Bridge_Value.an : Ann := [(0, [0, 3, 4, 5, 6]), (1, [0, 3, 4, 5, 6, 11]), (2, [4, 5, 6]), (3, [0, 3, 4, 5, 6, 7, 8]), (4, [0, 3, 4, 5, 6, 7, 8, 28]), (5, [4, 5, 6]), (6, [0, 3, 4, 5, 6]), (7, [3, 4, 5, 6, 9]), (8, [4, 5, 6]), (1000003, [0, 1, 2, 3, 4, 5, 6, 7, 8, 9, 14, 10, 11, 12, 13, 15, 16]), (1000005, [0, 1, 2, 3, 4, 5, 6]), (8000005, [31])]
def bridge_Bridge_Value.body : DC := .seq (qR bridge_Bridge_Value.r0 [0, 3, 4, 5, 6]) (.seq (.seq (qR bridge_Bridge_Value.r1 [0, 3, 4, 5, 6, 11]) (qC 11 (.seq (qR bridge_Bridge_Value.r2 [4, 5, 6]) .ret) .skip)) (.seq (.seq (.regD [0, 1, 2, 3, 4, 5, 6, 7, 8, 9, 14, 10, 11, 12, 13, 15, 16] (unfl bridge_Bridge_Value.r3) (some [0, 3, 4, 5, 6, 7, 8])) (.seq (qR bridge_Bridge_Value.r4 [0, 3, 4, 5, 6, 7, 8, 28]) (qC 28 (.seq (.regD [0, 1, 2, 3, 4, 5, 6] bridge_Bridge_Value.r5 (some [4, 5, 6])) .ret) .skip))) (.seq (qR bridge_Bridge_Value.r6 [0, 3, 4, 5, 6]) (.seq (qR bridge_Bridge_Value.r7 [3, 4, 5, 6, 9]) (.seq (qR bridge_Bridge_Value.r8 [4, 5, 6]) .ret)))))
def bridge_Bridge_Value.df : DF := ⟨43, [.cellN 4 5, .cell1 5, .cell1 6], bridge_Bridge_Value.body⟩
theorem bridge_Bridge_Value.ok : cf Tryz.prog bridge_Bridge_Value.an bridge_Bridge_Value.id = some bridge_Bridge_Value.df := by kernel_rfl
def bridge_Bridge_Translate.r0 : List DOp := [⟨some 4, none, .q .mv [.cst (.nilsl)]⟩, ⟨some 5, none, .q .mv [.cst (.str [])]⟩, qi 6 0]
def bridge_Bridge_Translate.r1 := [qm 10 0, qf 11 17 [.tmp 10]]
def bridge_Bridge_Translate.r2 : List DOp := [⟨some 4, none, .q .mv [.cst (.nilsl)]⟩, ⟨some 5, none, .q .mv [.cst (.str [])]⟩, qi 6 1]
def bridge_Bridge_Translate.r3 : List DOp := [qm 13 0, qk 14 .nilck 13, qa 15 0 14, qL 16 3 15, qm 17 1, qf 18 23 [.tmp 16, .tmp 17], qm 12 18, qx 19 0 12, qx 20 1 12, qx 21 2 12, ⟨some 7, none, .alloc [.str [], .int .i64 0, .nilsl, .nilsl, .nilsl]⟩, ⟨some 8, none, .alloc [.int .i64 0, .int .i64 0, .str []]⟩, qS 5 7 19, qS 3 8 20, qm 6 21]
def bridge_Bridge_Translate.r4 := [qm 22 6, qe 23 .neq 22 0]
def bridge_Bridge_Translate.r5 : List DOp := [qa 24 2 8, ql 25 24, qm 26 6, ⟨some 4, none, .q .mv [.cst (.nilsl)]⟩, qm 5 25, qm 6 26]
def bridge_Bridge_Translate.r6 : List DOp := [qm 28 0, qL 29 5 7, qf 30 6 [.tmp 28, .tmp 29], qm 27 30, qx 31 0 27, qx 32 1 27, qx 33 2 27, ⟨some 9, none, .alloc [.str [], .int .i64 0, .nilsl, .nilsl, .nilsl]⟩, qS 5 9 31, qm 5 32, qm 6 33]
def bridge_Bridge_Translate.r7 := [qm 34 6, qe 35 .neq 34 0]
def bridge_Bridge_Translate.r8 : List DOp := [qm 36 5, qm 37 6, ⟨some 4, none, .q .mv [.cst (.nilsl)]⟩, qm 5 36, qm 6 37]
def bridge_Bridge_Translate.r9 := [qm 39 0, qk 40 .nilck 39, qa 41 3 40, qL 42 3 41, qL 43 5 9, qf 44 24 [.tmp 42, .tmp 43], qm 38 44, qx 45 0 38, qx 46 1 38, qm 4 45, qm 6 46]
def bridge_Bridge_Translate.r10 : List DOp := [qm 47 4, qm 48 6, qm 4 47, ⟨some 5, none, .q .mv [.cst (.str [])]⟩, qm 6 48]
abbrev bridge_Bridge_Translate.id : Nat := 7
def bridge_Bridge_Translate.an : Ann := [(0, [0, 1]), (1, [0, 1, 11]), (2, [4, 5, 6]), (3, [0, 6, 7, 8]), (4, [0, 6, 7, 8, 23]), (5, [4, 5, 6]), (6, [0, 5, 6, 9]), (7, [0, 5, 6, 9, 35]), (8, [4, 5, 6]), (9, [4, 6]), (10, [4, 5, 6]), (1000005, [0, 1, 2, 3, 4, 5]), (1000009, [0, 1, 2, 3, 4, 5, 6, 7, 8, 9, 10])]
def bridge_Bridge_Translate.body : DC := .seq (qR bridge_Bridge_Translate.r0 [0, 1]) (.seq (.seq (qR bridge_Bridge_Translate.r1 [0, 1, 11]) (qC 11 (.seq (qR bridge_Bridge_Translate.r2 [4, 5, 6]) .ret) .skip)) (.seq (qR bridge_Bridge_Translate.r3 [0, 6, 7, 8]) (.seq (.seq (qR bridge_Bridge_Translate.r4 [0, 6, 7, 8, 23]) (qC 23 (.seq (.regD [0, 1, 2, 3, 4, 5] (unfl bridge_Bridge_Translate.r5) (some [4, 5, 6])) .ret) .skip)) (.seq (qR bridge_Bridge_Translate.r6 [0, 5, 6, 9]) (.seq (.seq (qR bridge_Bridge_Translate.r7 [0, 5, 6, 9, 35]) (qC 35 (.seq (qR bridge_Bridge_Translate.r8 [4, 5, 6]) .ret) .skip)) (.seq (.regD [0, 1, 2, 3, 4, 5, 6, 7, 8, 9, 10] (unfl bridge_Bridge_Translate.r9) (some [4, 6])) (.seq (qR bridge_Bridge_Translate.r10 [4, 5, 6]) .ret)))))))
def bridge_Bridge_Translate.df : DF := ⟨49, [.tmp 4, .tmp 5, .tmp 6], bridge_Bridge_Translate.body⟩
theorem bridge_Bridge_Translate.ok : cf Tryz.prog bridge_Bridge_Translate.an bridge_Bridge_Translate.id = some bridge_Bridge_Translate.df := by kernel_rfl
abbrev r13_Equal.id : Nat := 8
abbrev r45_Same.id : Nat := 9
def bridge_Bridge_Mapping.r0 : List DOp := [⟨some 2, none, .alloc [.str [], .nilsl]⟩]
def bridge_Bridge_Mapping.r1 := [qm 3 0, qf 4 17 [.tmp 3]]
def bridge_Bridge_Mapping.r2 : List DOp := [⟨some 5, none, .q (.build [.str [], .nilsl] []) []⟩, qS 2 2 5]
def bridge_Bridge_Mapping.r3 := [qm 6 0, qk 7 .nilck 6, qa 8 6 7, qL 9 2 8, qf 10 27 [.tmp 9], qS 2 2 10]
abbrev bridge_Bridge_Mapping.id : Nat := 10
def bridge_Bridge_Mapping.an : Ann := [(0, [0, 2]), (1, [0, 2, 4]), (2, [2]), (3, [2])]
def bridge_Bridge_Mapping.body : DC := .seq (qR bridge_Bridge_Mapping.r0 [0, 2]) (.seq (.seq (qR bridge_Bridge_Mapping.r1 [0, 2, 4]) (qC 4 (.seq (qR bridge_Bridge_Mapping.r2 [2]) .ret) .skip)) (.seq (qR bridge_Bridge_Mapping.r3 [2]) .ret))
def bridge_Bridge_Mapping.df : DF := ⟨11, [.cellN 2 2], bridge_Bridge_Mapping.body⟩
theorem bridge_Bridge_Mapping.ok : cf Tryz.prog bridge_Bridge_Mapping.an bridge_Bridge_Mapping.id = some bridge_Bridge_Mapping.df := by kernel_rfl
def r13_Nodes.r0 := [qB 1 0, qi 2 0]
def r13_Nodes.r1 := [qi 3 1]
def r13_Nodes.r2 := [qi 4 0]
def r13_Nodes.r3 := [qm 5 4, qa 6 4 1, ql 7 6, qk 8 .lenL 7, qd 9 .lss 5 8]
def r13_Nodes.r5 := [qm 12 3, qa 13 4 1, ql 14 13, qm 15 4, qX 16 5 14 15, qL 17 5 16, qf 18 11 [.tmp 17], qd 19 .add 12 18, qm 3 19]
def r13_Nodes.r4 := [qm 10 4, qe 11 .add 10 1, qm 4 11]
def r13_Nodes.l0 : DC := .seq (.seq (qR r13_Nodes.r3 [1, 3, 4, 9]) (qC 9 .skip (.exit 0))) (.seq (.block 1 (qR r13_Nodes.r5 [1, 3, 4])) (qR r13_Nodes.r4 [1, 3, 4]))
def r13_Nodes.r6 := [qm 20 3, qm 2 20]
abbrev r13_Nodes.id : Nat := 11
def r13_Nodes.an : Ann := [(0, [1]), (1, [1, 3]), (2, [1, 3, 4]), (3, [1, 3, 4, 9]), (4, [1, 3, 4]), (5, [1, 3, 4]), (6, [2])]
def r13_Nodes.body : DC := .seq (qR r13_Nodes.r0 [1]) (.seq (qR r13_Nodes.r1 [1, 3]) (.seq (.seq (qR r13_Nodes.r2 [1, 3, 4]) (.block 0 (.loop r13_Nodes.l0))) (.seq (qR r13_Nodes.r6 [2]) .ret)))
def r13_Nodes.df : DF := ⟨21, [.tmp 2], r13_Nodes.body⟩
theorem r13_Nodes.ok : cf Tryz.prog r13_Nodes.an r13_Nodes.id = some r13_Nodes.df := by kernel_rfl
def bridge_Bridge_none.r0 := [qb 2 false]
def bridge_Bridge_none.r1 : List DOp := [qm 3 0, ⟨some 4, none, .q (.bin .eql (some .ptr)) [.tmp 3, .cst (.nilptr)]⟩, qm 5 4, qn 5 (qm 6 0), qn 5 (qk 7 .nilck 6), qn 5 (qa 8 6 7), qn 5 (qa 9 1 8), qn 5 (ql 10 9), qn 5 (qk 11 .lenL 10), qn 5 (qe 12 .eql 11 0), qo 13 5 12, qm 2 13]
abbrev bridge_Bridge_none.id : Nat := 17
def bridge_Bridge_none.an : Ann := [(0, [0]), (1, [2])]
def bridge_Bridge_none.body : DC := .seq (qR bridge_Bridge_none.r0 [0]) (.seq (qR bridge_Bridge_none.r1 [2]) .ret)
def bridge_Bridge_none.df : DF := ⟨14, [.tmp 2], bridge_Bridge_none.body⟩
theorem bridge_Bridge_none.ok : cf Tryz.prog bridge_Bridge_none.an bridge_Bridge_none.id = some bridge_Bridge_none.df := by kernel_rfl
end Go.DL
