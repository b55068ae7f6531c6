/- Lemmas: DlA, DlB, DlC, DlD, DlE, DlF, DlG, DlH, DlI, DlJ, DlK, DlL, DlM, DlMa, DlN, DlO, DlAb, DlP, DlQ, DlR, DlS, DlT, DlTa. -/
import Derived.AtR
import Derived.Calls
import Derived.Laws.Cells
import Derived.Laws.StructEq
import Derived.ChangeKeysEq
import Derived.Laws.Tables
import Derived.Laws.Build
import Derived.Laws.BytesString
import Derived.MapKept
import Derived.Laws.CopyRow
import Derived.Great.BuildSlice
import Derived.Laws.MakeOwn
import Derived.Laws.AppendOwn
import Derived.Lib.ConvBytes
import Derived.Defers
import Derived.Orders
import Derived.Lib.AppendStr
import Derived.RangeFuncIn
import Derived.KernelRfl
import Derived.Lib.Bytealg
import Derived.OpenShut
import Derived.WalkKit
import Derived.ProofKit
import Derived.ChangeCalls
import Derived.Lay
import Derived.LaidOnce
import Derived.SevenTiedAt
import Derived.Test.YtgahdekefapllaaGreatDoorProg
set_option maxHeartbeats 16000000
set_option linter.all false
namespace Go.DL
open Go
inductive Tok where
  | none | full | tip (b : Nat)
inductive D where
  | int (k : IntKind) (n : Int)
  | bool (b : Bool)
  | str (s : List UInt8)
  | agg (cells : List D)
  | tup (vs : List D)
  | nilsl
  | sl (t : Tok) (n s : Nat) (row : Nat → List D)
  | ep (cells : List D) (off : Nat)
  | nilptr
  | ptr (b off : Nat)
  | msl (b off n cap s : Nat)
  | map (b : Nat)
  | nilmap
  | fn (f : Fn) (first caps : List D)
  | nilfn
  | iface (t : TypeId) (v : D)
  | niliface
  | stamp (n : Nat)
  | undef
  | any
instance : Inhabited D := ⟨.undef⟩
inductive SK where
  | int | str | bool
inductive KP where
  | sc (k : SK)
  | st (l : List (Nat × SK))
def scalarEq : SK → D → D → Option Bool
  | .int, .int k a, .int k' b => if k = k' then some (decide (a = b)) else none
  | .str, .str a, .str b => some (decide (a = b))
  | .bool, .bool a, .bool b => some (decide (a = b))
  | _, _, _ => none
def cellsEq (xs ys : List D) : List (Nat × SK) → Option Bool
  | [] => some true
  | (o, k) :: r => match xs[o]?, ys[o]? with
    | some x, some y => match scalarEq k x y, cellsEq xs ys r with
      | some b, some c => some (b && c)
      | _, _ => none
    | _, _ => none
def keyEq : KP → D → D → Option Bool
  | .sc k, x, y => scalarEq k x y
  | .st l, .agg xs, .agg ys => if xs.length = l.length ∧ ys.length = l.length then cellsEq xs ys l else none
  | _, _, _ => none
def idxD (kp : KP) (k : D) : List (D × D) → Option (Option Nat)
  | [] => some none
  | e :: r => match keyEq kp k e.1 with
    | some true => some (some 0)
    | some false => (idxD kp k r).map (·.map (· + 1))
    | none => none
def hdr (w : World) (b : Nat) : Option (TypeId × Nat × Nat × Nat) :=
  match w.heap[b]? with
  | some (.cells c t fr) => some (t, c.size, fr.1, fr.2)
  | _ => none
def _root_.Go.Value.one1 : Value → Bool
  | .agg _ | .tuple _ => false
  | _ => true
structure G where
  prot : Nat → Nat
  kept : Nat → Prop
def free (w : World) (b n : Nat) : Prop := ∃ t m, hdr w b = some (t, m, 0, 0) ∧ n ≤ m
def TokOk (w : World) : Tok → Nat → Nat → Nat → Nat → Nat → Prop
  | .none, _, _, _, _, _ => True
  | .full, _, _, n, cap, _ => cap = n
  | .tip t, b, o, _, cap, s => b = t ∧ o = 0 ∧ free w b (cap * s)
def inR (k : IntKind) (n : Int) : Prop := k.min ≤ n ∧ n ≤ k.max
def big : Nat := 9223372036854775807
inductive Rep (g : G) (w : World) : Value → D → Prop where
  | int (k : IntKind) (n : Int) (h : inR k n) : Rep g w (.int k n) (.int k n)
  | bool (b : Bool) : Rep g w (.bool b) (.bool b)
  | str (s : ByteArray) (l : List UInt8) (h : s.data.toList = l) (hb : l.length ≤ big) : Rep g w (.string s) (.str l)
  | agg (vs : List Value) (cells : List D) (hn : vs.length = cells.length) (h : ∀ (i : Nat) (v : Value) (d : D), vs[i]? = some v → cells[i]? = some d → Rep g w v d)
      (one : ∀ v ∈ vs, v.one1 = true) : Rep g w (.agg vs.toArray) (.agg cells)
  | tup (vs : List Value) (ds : List D) (hn : vs.length = ds.length) (h : ∀ (i : Nat) (v : Value) (d : D), vs[i]? = some v → ds[i]? = some d → Rep g w v d) :
      Rep g w (.tuple vs.toArray) (.tup ds)
  | nilsl : Rep g w (.slice none 0 0) .nilsl
  | sl0 (a : Option Addr) (t : Tok) (s : Nat) (row : Nat → List D) (ht : ∀ b, t ≠ .tip b) : Rep g w (.slice a 0 0) (.sl t 0 s row)
  | sl (b o n cap s : Nat) (row : Nat → List D) (t : Tok) (f : Nat → Nat → Value) (hl : ∀ i, i < n → (row i).length = s)
      (hc : ∀ i j, i < n → j < s → w.cell? ⟨b, o + i * s + j, none⟩ = some (f i j)) (hp : ∀ i j, i < n → j < s → o + i * s + j < g.prot b)
      (hr : ∀ (i j : Nat) (d : D), i < n → (row i)[j]? = some d → Rep g w (f i j) d) (one : ∀ i j, i < n → j < s → (f i j).one1 = true)
      (ht : TokOk w t b o n cap s) (hcap : n ≤ cap) (hb : cap ≤ big) :
      Rep g w (.slice (some ⟨b, o, none⟩) n cap) (.sl t n s row)
  | ep (b o off : Nat) (cells : List D) (f : Nat → Value) (hc : ∀ i, i < cells.length → w.cell? ⟨b, o + i, none⟩ = some (f i)) (hp : ∀ i, i < cells.length → o + i < g.prot b)
      (hr : ∀ (i : Nat) (d : D), cells[i]? = some d → Rep g w (f i) d) (one : ∀ i, i < cells.length → (f i).one1 = true) : Rep g w (.pointer (some ⟨b, o + off, none⟩)) (.ep cells off)
  | nilptr : Rep g w (.pointer none) .nilptr
  | ptr (b off : Nat) : Rep g w (.pointer (some ⟨b, off, none⟩)) (.ptr b off)
  | msl (b off n cap s : Nat) (h : n ≤ cap) (hb : cap ≤ big) : Rep g w (.slice (some ⟨b, off, none⟩) n cap) (.msl b off n cap s)
  | mslx (a : Addr) (b off s : Nat) : Rep g w (.slice (some a) 0 0) (.msl b off 0 0 s)
  | map (b : Nat) : Rep g w (.map (some b)) (.map b)
  | nilmap : Rep g w (.map none) .nilmap
  | fn (f : Fn) (fs cs : List Value) (df dc : List D) (hnf : fs.length = df.length) (hnc : cs.length = dc.length)
      (hf : ∀ (i : Nat) (v : Value) (d : D), fs[i]? = some v → df[i]? = some d → Rep g w v d)
      (hc : ∀ (i : Nat) (v : Value) (d : D), cs[i]? = some v → dc[i]? = some d → Rep g w v d) : Rep g w (.func f fs.toArray cs.toArray) (.fn f df dc)
  | nilfn : Rep g w .nilFunc .nilfn
  | iface (t : TypeId) (v : Value) (d : D) (h : Rep g w v d) : Rep g w (.iface t v) (.iface t d)
  | niliface : Rep g w .nilIface .niliface
  | stamp (n : Nat) : Rep g w (.int .i64 n) (.stamp n)
  | undef : Rep g w undef .undef
  | any (v : Value) : Rep g w v .any
structure Ext (g : G) (w : World) (g' : G) (w' : World) : Prop where
  size : w.heap.size ≤ w'.heap.size
  prot : ∀ b, g.prot b ≤ g'.prot b
  cell : ∀ b o, o < g.prot b → w'.cell? ⟨b, o, none⟩ = w.cell? ⟨b, o, none⟩
  hdr : ∀ b x, hdr w b = some x → hdr w' b = some x
  kept : ∀ b, g.kept b → w'.heap[b]? = w.heap[b]?
  keptProt : ∀ b, g.kept b → g'.prot b = g.prot b
  keptEq : g'.kept = g.kept
  os : w'.os = w.os
  output : w'.output = w.output
  tape : w'.tape = w.tape
theorem Ext.refl (g : G) (w : World) : Ext g w g w := ⟨Nat.le_refl _, fun _ => Nat.le_refl _, fun _ _ _ => rfl, fun _ _ h => h, fun _ _ => rfl, fun _ _ => rfl, rfl, rfl, rfl, rfl⟩
theorem Ext.trans {g g' g'' : G} {w w' w'' : World} (h : Ext g w g' w') (h' : Ext g' w' g'' w'') : Ext g w g'' w'' := {
  size := Nat.le_trans h.size h'.size
  prot b := Nat.le_trans (h.prot b) (h'.prot b)
  cell b o ho := (h'.cell b o (Nat.lt_of_lt_of_le ho (h.prot b))).trans (h.cell b o ho)
  hdr b x hx := h'.hdr b x (h.hdr b x hx)
  kept b hb := (h'.kept b (by rw [h.keptEq]; exact hb)).trans (h.kept b hb)
  keptProt b hb := (h'.keptProt b (by rw [h.keptEq]; exact hb)).trans (h.keptProt b hb)
  keptEq := h'.keptEq.trans h.keptEq
  os := h'.os.trans h.os
  output := h'.output.trans h.output
  tape := h'.tape.trans h.tape }
theorem free.mono0 {w w' : World} {b n : Nat} (h : free w b n) (e : ∀ b x, hdr w b = some x → hdr w' b = some x) : free w' b n := by
  obtain ⟨t, m, h1, h2⟩ := h
  exact ⟨t, m, e _ _ h1, h2⟩
theorem Rep.mono0 {g g' : G} {w w' : World} {v : Value} {d : D} (h : Rep g w v d) (ep : ∀ b, g.prot b ≤ g'.prot b) (ec : ∀ b o, o < g.prot b → w'.cell? ⟨b, o, none⟩ = w.cell? ⟨b, o, none⟩)
    (eh : ∀ b x, hdr w b = some x → hdr w' b = some x) : Rep g' w' v d := by
  induction h with
  | int k n h => exact .int k n h
  | bool b => exact .bool b
  | str s l h hb => exact .str s l h hb
  | agg vs cells hn _ one ih => exact .agg vs cells hn ih one
  | tup vs ds hn _ ih => exact .tup vs ds hn ih
  | nilsl => exact .nilsl
  | sl0 a t s row ht => exact .sl0 a t s row ht
  | sl b o n cap s row t f hl hc hp _ one ht hcap hb ih =>
    refine .sl b o n cap s row t f hl (fun i j hi hj => ?_) (fun i j hi hj => Nat.lt_of_lt_of_le (hp i j hi hj) (ep b)) ih one ?_ hcap hb
    · rw [ec _ _ (hp i j hi hj)]; exact hc i j hi hj
    · cases t with
      | none => trivial
      | full => exact ht
      | tip t => exact ⟨ht.1, ht.2.1, ht.2.2.mono0 eh⟩
  | ep b o off cells f hc hp _ one ih =>
    exact .ep b o off cells f (fun i hi => by rw [ec _ _ (hp i hi)]; exact hc i hi) (fun i hi => Nat.lt_of_lt_of_le (hp i hi) (ep b)) ih one
  | nilptr => exact .nilptr
  | ptr b off => exact .ptr b off
  | msl b off n cap s h hb => exact .msl b off n cap s h hb
  | mslx a b off s => exact .mslx a b off s
  | map b => exact .map b
  | nilmap => exact .nilmap
  | fn f fs cs df dc hnf hnc _ _ ihf ihc => exact .fn f fs cs df dc hnf hnc ihf ihc
  | nilfn => exact .nilfn
  | iface t v d _ ih => exact .iface t v d ih
  | niliface => exact .niliface
  | stamp n => exact .stamp n
  | undef => exact .undef
  | any v => exact .any v
theorem Rep.mono {g g' : G} {w w' : World} {v : Value} {d : D} (h : Rep g w v d) (e : Ext g w g' w') : Rep g' w' v d := h.mono0 e.prot e.cell e.hdr
end Go.DL
namespace Go.DL
open Go
inductive E where
  | d (v : D)
  | loc (l off : Nat)
  | when (c : Bool) (e : E)
abbrev Env := List (Nat × E)
abbrev Loc := List (Nat × List D)
def getE : Env → Nat → Option E
  | [], _ => none
  | (k, e) :: r, t => if k = t then some e else getE r t
def getL : Loc → Nat → Option (List D)
  | [], _ => none
  | (k, e) :: r, t => if k = t then some e else getL r t
def RepE (g : G) (ν : Nat → Nat) (w : World) (L : Loc) : Value → E → Prop
  | v, .d x => Rep g w v x
  | v, .loc l off => (∃ cs, getL L l = some cs) ∧ v = .pointer (some ⟨ν l, off, none⟩)
  | v, .when c e => (c = true → RepE g ν w L v e) ∧ (c = false → v = undef)
theorem RepE.mono {g g' : G} {ν : Nat → Nat} {w w' : World} {L : Loc} {v : Value} {e : E} (h : RepE g ν w L v e) (x : Ext g w g' w') : RepE g' ν w' L v e := by
  induction e with
  | d d => exact Rep.mono h x
  | loc l off => exact h
  | when c e ih => exact ⟨fun hc => ih (h.1 hc), h.2⟩
structure LoopRec where
  fn : FuncId
  params : List Nat
  assign : Code
  body : Code
  defers : Nat
  ρ : Env
  N : Nat
inductive LSt where
  | ready | busy
  | done (j : Code)
inductive DObj where
  | cells (ds : List D)
  | map (es : List (D × D))
  | tip (k : Nat)
  | mapE (kp : KP) (es : List (D × D)) (k : D) (n : Nat)
  | loop (r : LoopRec) (st : LSt)
  | dfr
abbrev St := Nat → Option DObj
def St.upd (s : St) (b : Nat) (o : DObj) : St := fun x => if x = b then some o else s x
def St.del (s : St) (b : Nat) : St := fun x => if x = b then none else s x
structure CellsOk (g : G) (w : World) (b : Nat) (ds : List D) : Prop where
  prot : g.prot b = 0
  ex : ∃ (vs : Array Value) (T : TypeId), w.heap[b]? = some (.cells vs T (0, 0)) ∧ vs.size = ds.length ∧
    (∀ (i : Nat) (v : Value) (d : D), vs[i]? = some v → ds[i]? = some d → Rep g w v d) ∧ ∀ v ∈ vs, v.one1 = true
def ObjOk (g : G) (w : World) (b : Nat) : DObj → Prop
  | .cells ds => CellsOk g w b ds
  | .map es => g.prot b = 0 ∧ ∃ (en : Array MapEntry) (clock : Nat), w.heap[b]? = some (.map en clock) ∧ en.size = es.length ∧
      (∀ (i : Nat) (e : MapEntry) (d : D × D), en[i]? = some e → es[i]? = some d → Rep g w e.key d.1) ∧
      (∀ (i : Nat) (e : MapEntry) (d : D × D), en[i]? = some e → es[i]? = some d → Rep g w e.val d.2) ∧
      (∀ (i j : Nat) (e e' : MapEntry), en[i]? = some e → en[j]? = some e' → e.born = e'.born → i = j) ∧ ∀ (i : Nat) (e : MapEntry), en[i]? = some e → e.born < clock
  | .tip k => g.prot b = k ∧ ∃ (vs : Array Value) (T : TypeId), w.heap[b]? = some (.cells vs T (0, 0)) ∧ k ≤ vs.size
  | .mapE kp es k n => g.prot b = 0 ∧ ∃ io, idxD kp k es = some io ∧ ∃ (en : Array MapEntry) (clock : Nat), w.heap[b]? = some (.map en clock) ∧ en.size = (match io with
        | none => es.length + 1
        | some _ => es.length) ∧
      (∀ (i : Nat) (e : MapEntry) (d : D × D), i ≠ io.getD es.length → en[i]? = some e → es[i]? = some d → Rep g w e.key d.1) ∧
      (∀ (i : Nat) (e : MapEntry) (d : D × D), i ≠ io.getD es.length → en[i]? = some e → es[i]? = some d → Rep g w e.val d.2) ∧
      (∀ e, en[io.getD es.length]? = some e → Rep g w e.key k ∧ e.born = n) ∧
      (∀ (i j : Nat) (e e' : MapEntry), en[i]? = some e → en[j]? = some e' → e.born = e'.born → i = j) ∧ ∀ (i : Nat) (e : MapEntry), en[i]? = some e → e.born < clock
  | .loop r st => g.prot b = 0 ∧ ∃ l : Go.Loop, w.heap[b]? = some (.loop l) ∧ l.fn = r.fn ∧ l.params.toList = r.params ∧ l.assign = r.assign ∧ l.body = r.body ∧ l.defers = r.defers ∧ r.N ≤ l.tmps.size ∧
      (∀ t e, getE r.ρ t = some e → RepE g (fun _ => 0) w [] (l.tmps.getD t undef) e) ∧
      (match st with
       | .ready => l.state = .ready ∧ l.pending = none
       | .busy => l.state = .busy
       | .done j => l.state = .done ∧ l.pending = some j)
  | .dfr => g.prot b = 0 ∧ w.heap[b]? = some (.deferred (some []))
structure StOk (g : G) (s : St) (w : World) : Prop where
  obj : ∀ b o, s b = some o → ObjOk g w b o
  kept : ∀ b o, s b = some o → ¬ g.kept b
  fresh : ∀ b, w.heap.size ≤ b → g.prot b = 0 ∧ ¬ g.kept b
theorem CellsOk.lt {g : G} {w : World} {b : Nat} {ds : List D} (h : CellsOk g w b ds) : b < w.heap.size := by
  obtain ⟨_, _, h, _⟩ := h.ex
  exact (Array.getElem?_eq_some_iff.1 h).1
theorem ObjOk.lt {g : G} {w : World} {b : Nat} {o : DObj} (h : ObjOk g w b o) : b < w.heap.size := by
  cases o with
  | cells ds => exact CellsOk.lt h
  | map es => obtain ⟨_, _, _, h, _⟩ := h; exact (Array.getElem?_eq_some_iff.1 h).1
  | tip k => obtain ⟨_, _, _, h, _⟩ := h; exact (Array.getElem?_eq_some_iff.1 h).1
  | mapE kp es k n => obtain ⟨_, _, _, _, _, h, _⟩ := h; exact (Array.getElem?_eq_some_iff.1 h).1
  | loop r st => obtain ⟨_, _, h, _⟩ := h; exact (Array.getElem?_eq_some_iff.1 h).1
  | dfr => exact (Array.getElem?_eq_some_iff.1 h.2).1
theorem CellsOk.mono {g g' : G} {w w' : World} {b : Nat} {ds : List D} (h : CellsOk g w b ds) (e : Ext g w g' w') (hb : w'.heap[b]? = w.heap[b]?) (hp : g'.prot b = g.prot b) :
    CellsOk g' w' b ds := by
  obtain ⟨hp0, vs, T, h1, h2, h4, h5⟩ := h
  exact ⟨hp.trans hp0, vs, T, hb.trans h1, h2, fun i v d hv hd => (h4 i v d hv hd).mono e, h5⟩
theorem ObjOk.mono {g g' : G} {w w' : World} {b : Nat} {o : DObj} (h : ObjOk g w b o) (e : Ext g w g' w') (hb : w'.heap[b]? = w.heap[b]?) (hp : g'.prot b = g.prot b) :
    ObjOk g' w' b o := by
  cases o with
  | cells ds => exact CellsOk.mono h e hb hp
  | map es =>
    obtain ⟨hp0, en, clock, h1, h2, h3, h4, h5, h6⟩ := h
    exact ⟨hp.trans hp0, en, clock, hb.trans h1, h2, fun i x d hv hd => (h3 i x d hv hd).mono e, fun i x d hv hd => (h4 i x d hv hd).mono e, h5, h6⟩
  | tip k =>
    obtain ⟨hp0, vs, T, h1, h2⟩ := h
    exact ⟨hp.trans hp0, vs, T, hb.trans h1, h2⟩
  | mapE kp es k n =>
    obtain ⟨hp0, io, h0, en, clock, h1, h2, h3, h4, h5, h6, h7⟩ := h
    exact ⟨hp.trans hp0, io, h0, en, clock, hb.trans h1, h2, fun i x d hi hv hd => (h3 i x d hi hv hd).mono e, fun i x d hi hv hd => (h4 i x d hi hv hd).mono e, fun x hx => ⟨(h5 x hx).1.mono e, (h5 x hx).2⟩, h6, h7⟩
  | loop r st =>
    obtain ⟨hp0, l, h1, h2, h3, h4, h5, h6, h7, h8, h9⟩ := h
    exact ⟨hp.trans hp0, l, hb.trans h1, h2, h3, h4, h5, h6, h7, fun t x he => (h8 t x he).mono e, h9⟩
  | dfr => exact ⟨hp.trans h.1, hb.trans h.2⟩
structure Models (g : G) (ν : Nat → Nat) (w : World) (tmps : Array Value) (ρ : Env) (L : Loc) (s : St) : Prop where
  st : StOk g s w
  loc : ∀ l cs, getL L l = some cs → CellsOk g w (ν l) cs
  locKept : ∀ l cs, getL L l = some cs → ¬ g.kept (ν l)
  locSt : ∀ l cs, getL L l = some cs → s (ν l) = none
  inj : ∀ l l' cs cs', getL L l = some cs → getL L l' = some cs' → ν l = ν l' → l = l'
  env : ∀ t e, getE ρ t = some e → RepE g ν w L (tmps.getD t undef) e
theorem RepE.locs {g : G} {ν ν' : Nat → Nat} {w : World} {L L' : Loc} {v : Value} {e : E} (h : RepE g ν w L v e)
    (hL : ∀ l cs, getL L l = some cs → (∃ cs', getL L' l = some cs') ∧ ν' l = ν l) : RepE g ν' w L' v e := by
  induction e with
  | d d => exact h
  | loc l off => obtain ⟨⟨cs, hc⟩, hv⟩ := h; obtain ⟨h1, h2⟩ := hL l cs hc; exact ⟨h1, by rw [h2]; exact hv⟩
  | when c e ih => exact ⟨fun hc => ih (h.1 hc), h.2⟩
theorem getD_set (a : Array Value) (t u : Nat) (v : Value) (h : t < a.size) : (a.setIfInBounds t v).getD u undef = if t = u then v else a.getD u undef := by
  simp only [Array.getD_eq_getD_getElem?, Array.getElem?_setIfInBounds]
  by_cases htu : t = u
  · subst htu; simp [h]
  · simp [htu]
theorem Models.put {g : G} {ν : Nat → Nat} {w : World} {tmps : Array Value} {ρ : Env} {L : Loc} {s : St} (m : Models g ν w tmps ρ L s) {t : Nat} {v : Value} {e : E}
    (ht : t < tmps.size) (h : RepE g ν w L v e) : Models g ν w (tmps.setIfInBounds t v) ((t, e) :: ρ) L s :=
  { m with
    env := fun u x hx => by
      rw [getD_set _ _ _ _ ht]
      simp only [getE] at hx
      by_cases htu : t = u
      · simp only [htu, if_true] at hx ⊢; obtain rfl := Option.some.inj hx; exact h
      · simp only [htu, if_false] at hx ⊢; exact m.env u x hx }
structure Grow (g : G) (w : World) (g' : G) (w' : World) : Prop where
  size : w.heap.size ≤ w'.heap.size
  old : ∀ b, b < w.heap.size → w'.heap[b]? = w.heap[b]?
  prot : ∀ b, b < w.heap.size → g'.prot b = g.prot b
  fresh : ∀ b, w'.heap.size ≤ b → g'.prot b = 0
  kept : g'.kept = g.kept
  os : w'.os = w.os
  output : w'.output = w.output
  tape : w'.tape = w.tape
theorem cell_of_heap {w w' : World} {b o : Nat} (h : w'.heap[b]? = w.heap[b]?) : w'.cell? ⟨b, o, none⟩ = w.cell? ⟨b, o, none⟩ := by
  unfold World.cell?; simp only [h]
theorem hdr_of_heap {w w' : World} {b : Nat} (h : w'.heap[b]? = w.heap[b]?) : hdr w' b = hdr w b := by
  unfold hdr; simp only [h]
theorem hdr_lt {w : World} {b : Nat} {x : TypeId × Nat × Nat × Nat} (h : hdr w b = some x) : b < w.heap.size := by
  unfold hdr at h
  rcases Nat.lt_or_ge b w.heap.size with hb | hb
  · exact hb
  · simp [Array.getElem?_eq_none hb] at h
theorem Grow.ext {g g' : G} {w w' : World} (h : Grow g w g' w') (hf : ∀ b, w.heap.size ≤ b → g.prot b = 0 ∧ ¬ g.kept b) : Ext g w g' w' := {
  size := h.size
  prot b := by
    rcases Nat.lt_or_ge b w.heap.size with hb | hb
    · rw [h.prot b hb]; exact Nat.le_refl _
    · rw [(hf b hb).1]; exact Nat.zero_le _
  cell b o ho := by
    rcases Nat.lt_or_ge b w.heap.size with hb | hb
    · exact cell_of_heap (h.old b hb)
    · rw [(hf b hb).1] at ho; exact absurd ho (Nat.not_lt_zero _)
  hdr b x hx := by rw [hdr_of_heap (h.old b (hdr_lt hx))]; exact hx
  kept b hb := by
    rcases Nat.lt_or_ge b w.heap.size with hb' | hb'
    · exact h.old b hb'
    · exact absurd hb (hf b hb').2
  keptProt b hb := by
    rcases Nat.lt_or_ge b w.heap.size with hb' | hb'
    · exact h.prot b hb'
    · exact absurd hb (hf b hb').2
  keptEq := h.kept
  os := h.os
  output := h.output
  tape := h.tape }
theorem StOk.grow {g g' : G} {w w' : World} {s : St} (m : StOk g s w) (h : Grow g w g' w') : StOk g' s w' := {
  obj b o ho := (m.obj b o ho).mono (h.ext m.fresh) (h.old b (m.obj b o ho).lt) (h.prot b (m.obj b o ho).lt)
  kept b o ho := by rw [h.kept]; exact m.kept b o ho
  fresh b hb := ⟨h.fresh b hb, by rw [h.kept]; exact (m.fresh b (Nat.le_trans h.size hb)).2⟩ }
theorem Models.grow {g g' : G} {ν : Nat → Nat} {w w' : World} {tmps : Array Value} {ρ : Env} {L : Loc} {s : St} (m : Models g ν w tmps ρ L s) (h : Grow g w g' w') :
    Models g' ν w' tmps ρ L s := {
  st := m.st.grow h
  loc l cs hl := (m.loc l cs hl).mono (h.ext m.st.fresh) (h.old _ (m.loc l cs hl).lt) (h.prot _ (m.loc l cs hl).lt)
  locKept l cs hl := by rw [h.kept]; exact m.locKept l cs hl
  locSt := m.locSt
  inj := m.inj
  env t e he := (m.env t e he).mono (h.ext m.st.fresh) }
end Go.DL
namespace Go.DL
open Go
inductive Opd where
  | tmp (t : Nat)
  | cst (d : D)
def const1 : Value → Option D
  | .int k n => if k.min ≤ n ∧ n ≤ k.max then some (.int k n) else none
  | .bool b => some (.bool b)
  | .string s => if s.data.toList.length ≤ big then some (.str s.data.toList) else none
  | .pointer none => some .nilptr
  | .slice none 0 0 => some .nilsl
  | .map none => some .nilmap
  | .nilFunc => some .nilfn
  | .nilIface => some .niliface
  | _ => none
def consts : List Value → Option (List D)
  | [] => some []
  | v :: vs => match const1 v, consts vs with
    | some d, some ds => some (d :: ds)
    | _, _ => none
def constD : Value → Option D
  | .agg cs => (consts cs.toList).map .agg
  | v => const1 v
def cOpd : Operand → Option Opd
  | .tmp t => some (.tmp t)
  | .const v => (constD v).map .cst
  | .func f => some (.cst (.fn (.func f) [] []))
  | .global _ => some (.cst .any)
def cOpds : List Operand → Option (List Opd)
  | [] => some []
  | x :: xs => match cOpd x, cOpds xs with
    | some y, some ys => some (y :: ys)
    | _, _ => none
inductive Plan where
  | bool | sl | map | fn | ifc | ptr
  | cells (l : List (Nat × SK))
inductive Cv where
  | int (k : IntKind) | str | i2s | b2s
inductive Q where
  | mv | nilck | load1 | loadN (n : Nat)
  | bin (op : BinOp) (p : Option Plan)
  | not | neg | xorm
  | conv (c : Cv)
  | faddr (off : Nat)
  | fld1 (off : Nat) | fldN (off n : Nat)
  | iaddr (s : Nat) | iaddrA (m s : Nat)
  | idxA (m s : Nat) (one : Bool)
  | sliceA (m s : Nat) (lo hi mx : Bool)
  | idxS
  | lenS | lenL | lenA (n : Nat)
  | ext (k : Nat)
  | build (zero : List D) (parts : List (Nat × Nat))
  | mkfn (f : Fn) (first : Nat)
  | mkif (t : TypeId)
  | sliceS (lo hi : Bool)
  | slice (s : Nat) (lo hi mx : Bool)
  | min | max
  | tassert (t : TypeId) (ok : Bool) (zero : D)
  | lookup (kp : KP) (zero : D) (ok : Bool)
  | lenM
def cellsOf : D → List D
  | .agg cs => cs
  | d => [d]
def okPart : D → Bool
  | .tup _ | .undef | .any => false
  | _ => true
def okCell : D → Bool
  | .tup _ | .undef | .agg _ | .any => false
  | _ => true
def keyOk (kp : KP) (k : D) : Bool := (keyEq kp k k).isSome
def findD (kp : KP) (k : D) : List (D × D) → Option (Option D)
  | [] => some none
  | e :: r => match keyEq kp k e.1 with
    | some true => some (some e.2)
    | some false => findD kp k r
    | none => none
def updD (kp : KP) (k v : D) : List (D × D) → Option (List (D × D))
  | [] => some [(k, v)]
  | e :: r => match keyEq kp k e.1 with
    | some true => some ((k, v) :: r)
    | some false => (updD kp k v r).map (e :: ·)
    | none => none
def delD (kp : KP) (k : D) : List (D × D) → Option (List (D × D))
  | [] => some []
  | e :: r => match keyEq kp k e.1 with
    | some true => some r
    | some false => (delD kp k r).map (e :: ·)
    | none => none
def lookRes (z : D) (ok : Bool) : Option D → D
  | some v => if ok then .tup [v, .bool true] else v
  | none => if ok then .tup [z, .bool false] else z
def planEq : Plan → D → D → Option (Prop × Bool)
  | .bool, .bool a, .bool b => some (True, decide (a = b))
  | .sl, .nilsl, .nilsl => some (True, true)
  | .sl, .sl _ n _ _, .nilsl => some (0 < n, false)
  | .map, .nilmap, .nilmap => some (True, true)
  | .map, .map _, .nilmap => some (True, false)
  | .sl, .msl _ _ _ _ _, .nilsl => some (True, false)
  | .fn, .nilfn, .nilfn => some (True, true)
  | .fn, .fn _ _ _, .nilfn => some (True, false)
  | .ifc, .niliface, .niliface => some (True, true)
  | .ifc, .iface _ _, .niliface => some (True, false)
  | .ptr, .nilptr, .nilptr => some (True, true)
  | .ptr, .ptr _ _, .nilptr => some (True, false)
  | .ptr, .ep _ _, .nilptr => some (True, false)
  | .cells l, .agg xs, .agg ys => (cellsEq xs ys l).map (True, ·)
  | _, _, _ => none
def bitI (op : BinOp) (k : IntKind) (x y : Int) : Int :=
  let a := BitVec.ofInt k.bits x
  let b := BitVec.ofInt k.bits y
  let r : BitVec k.bits := match op with
    | .and => a &&& b
    | .or => a ||| b
    | .xor => a ^^^ b
    | _ => a &&& ~~~b
  k.wrap r.toNat
def shlI (k : IntKind) (x y : Int) : Int := x * 2 ^ (Nat.min y.toNat k.bits)
def shrI (k : IntKind) (x y : Int) : Int := x.fdiv (2 ^ (Nat.min y.toNat k.bits))
def binI (op : BinOp) (k : IntKind) (a b : Int) : Option (Prop × D) :=
  match op with
  | .add => some (inR k (a + b), .int k (a + b))
  | .sub => some (inR k (a - b), .int k (a - b))
  | .mul => some (inR k (a * b), .int k (a * b))
  | .quo => some (b ≠ 0 ∧ inR k (a.tdiv b), .int k (a.tdiv b))
  | .rem => some (b ≠ 0 ∧ inR k (a.tmod b), .int k (a.tmod b))
  | .and | .or | .xor | .andNot => some (True, .int k (bitI op k a b))
  | .eql => some (True, .bool (decide (a = b)))
  | .neq => some (True, .bool (!decide (a = b)))
  | .lss => some (True, .bool (decide (a < b)))
  | .leq => some (True, .bool (decide (a ≤ b)))
  | .gtr => some (True, .bool (decide (b < a)))
  | .geq => some (True, .bool (decide (b ≤ a)))
  | .shl | .shr => none
def binS (op : BinOp) (a b : List UInt8) : Option (Prop × D) :=
  match op with
  | .add => some (a.length + b.length ≤ big, .str (a ++ b))
  | .eql => some (True, .bool (decide (a = b)))
  | .neq => some (True, .bool (!decide (a = b)))
  | .lss => some (True, .bool (Op.bytesLess a b))
  | .leq => some (True, .bool (Op.bytesLess a b || decide (a = b)))
  | .gtr => some (True, .bool !(Op.bytesLess a b || decide (a = b)))
  | .geq => some (True, .bool (!Op.bytesLess a b))
  | _ => none
def eqO (op : BinOp) (p : Option Plan) (x y : D) : Option (Prop × D) :=
  match op, p with
  | .eql, some p => (planEq p x y).map fun r => (r.1, .bool r.2)
  | .neq, some p => (planEq p x y).map fun r => (r.1, .bool (!r.2))
  | _, _ => none
def binD (op : BinOp) (p : Option Plan) : D → D → Option (Prop × D)
  | .int k a, .int k' b =>
    match op with
    | .shl => some (0 ≤ b ∧ inR k (shlI k a b), .int k (shlI k a b))
    | .shr => some (0 ≤ b ∧ inR k (shrI k a b), .int k (shrI k a b))
    | _ => if k = k' then binI op k a b else none
  | .str a, .str b => binS op a b
  | x, y => eqO op p x y
def part (cs : List D) (o n : Nat) : List D := (cs.drop o).take n
def cellsAt (s : St) (b : Nat) : Option (List D) :=
  match s b with
  | some (.cells cs) => some cs
  | _ => none
def mapAt (s : St) (b : Nat) : Option (List (D × D)) :=
  match s b with
  | some (.map es) => some es
  | _ => none
def cellGet (L : Loc) (s : St) : E → Option D
  | .d (.ep cs o) => cs[o]?
  | .d (.ptr b o) => match cellsAt s b with
    | some cs => cs[o]?
    | none => none
  | .loc l o => match getL L l with
    | some cs => cs[o]?
    | none => none
  | _ => none
def partGet (L : Loc) (s : St) (n : Nat) : E → Option (Prop × List D)
  | .d (.ep cs o) => some (o + n ≤ cs.length, part cs o n)
  | .d (.ptr b o) => match cellsAt s b with
    | some cs => some (o + n ≤ cs.length, part cs o n)
    | none => none
  | .loc l o => match getL L l with
    | some cs => some (o + n ≤ cs.length, part cs o n)
    | none => none
  | _ => none
def setPart (cs : List D) (o : Nat) (vs : List D) : List D := cs.take o ++ vs ++ cs.drop (o + vs.length)
def fillD (cells : List D) : List (Nat × Nat) → List D → Option (List D)
  | [], [] => some cells
  | (o, n) :: ps, d :: ds => if okPart d = true ∧ (cellsOf d).length = n ∧ o + n ≤ cells.length then fillD (setPart cells o (cellsOf d)) ps ds else none
  | _, _ => none
def u8of : List D → UInt8
  | [.int _ n] => UInt8.ofNat n.toNat
  | _ => 0
def isU8 (r : List D) : Prop := ∃ n : Int, r = [.int .u8 n]
def dsOf : List E → Option (List D)
  | [] => some []
  | .d x :: r => (dsOf r).map (x :: ·)
  | _ :: _ => none
def tokOf (t : Tok) (n : Nat) (l h : Int) : Option Int → Tok
  | some m => if m = h then .full else .none
  | none => if h = n then (match t with
    | .full => .full
    | .tip b => if l = 0 then .tip b else .none
    | .none => .none) else .none
def sliceD (s : Nat) (lo hi mx : Option Int) : D → Option (Prop × D)
  | .sl t n s' row =>
    if s' = s then
      let h := hi.getD n
      let l := lo.getD 0
      some (0 ≤ l ∧ l ≤ h ∧ h ≤ n ∧ (∀ m ∈ mx, h ≤ m ∧ m ≤ n),
        .sl (tokOf t n l h mx)
          (h - l).toNat s (fun i => row (l.toNat + i)))
    else none
  | .nilsl => some (lo.getD 0 = 0 ∧ hi.getD 0 = 0 ∧ mx.getD 0 = 0, .nilsl)
  | .msl b o n cap s' =>
    if s' = s then
      let h := hi.getD n
      let l := lo.getD 0
      let m := mx.getD cap
      some (0 ≤ l ∧ l ≤ h ∧ h ≤ m ∧ m ≤ cap, .msl b (if m = l then o else o + l.toNat * s) (h - l).toNat (m - l).toNat s)
    else none
  | _ => none
def intArgs : List Bool → List E → Option (List (Option Int))
  | [], [] => some []
  | true :: bs, .d (.int _ n) :: r => (intArgs bs r).map (some n :: ·)
  | false :: bs, r => (intArgs bs r).map (none :: ·)
  | _, _ => none
def qv (L : Loc) (s : St) : Q → List E → Option (Prop × E)
  | .mv, [e] => some (True, e)
  | .nilck, [.loc l o] => some (True, .loc l o)
  | .nilck, [.d (.ep cs o)] => some (True, .d (.ep cs o))
  | .nilck, [.d (.ptr b o)] => some (True, .d (.ptr b o))
  | .nilck, [.d (.fn f x y)] => match f with
    | .func g => some (True, .d (.fn (.func g) x y))
    | .yield l => some (True, .d (.fn (.yield l) x y))
    | _ => none
  | .load1, [a] => (cellGet L s a).map fun d => (True, .d d)
  | .loadN n, [a] => (partGet L s n a).map fun r => (r.1, .d (.agg r.2))
  | .bin op p, [.d x, .d y] => (binD op p x y).map fun r => (r.1, .d r.2)
  | .not, [.d (.bool b)] => some (True, .d (.bool !b))
  | .neg, [.d (.int k n)] => some (inR k (-n), .d (.int k (-n)))
  | .xorm, [.d (.int k n)] => some (True, .d (.int k (bitI .xor k (if k.signed then -1 else k.max) n)))
  | .conv (.int k), [.d (.int k' n)] => if k = k' then some (True, .d (.int k n)) else some (True, .d (.int k (k.wrap n)))
  | .conv .str, [.d (.str s)] => some (True, .d (.str s))
  | .conv .i2s, [.d (.int _ n)] => some ((Utf8.encode n).data.toList.length ≤ big, .d (.str (Utf8.encode n).data.toList))
  | .conv .b2s, [.d .nilsl] => some (True, .d (.str []))
  | .conv .b2s, [.d (.sl _ n s row)] => if s = 1 then some (∀ i, i < n → isU8 (row i), .d (.str ((List.range n).map fun i => u8of (row i)))) else none
  | .conv .b2s, [.d (.msl b o n _ z)] => match cellsAt s b with
    | some cs => if z = 1 then some (o + n ≤ cs.length ∧ ∀ i, i < n → isU8 (part cs (o + i) 1), .d (.str ((List.range n).map fun i => u8of (part cs (o + i) 1)))) else none
    | none => none
  | .faddr off, [.d (.ep cs o)] => some (True, .d (.ep cs (o + off)))
  | .faddr off, [.d (.ptr b o)] => some (True, .d (.ptr b (o + off)))
  | .faddr off, [.loc l o] => some (True, .loc l (o + off))
  | .fld1 off, [.d (.agg cs)] => (cs[off]?).map fun d => (True, .d d)
  | .fldN off n, [.d (.agg cs)] => some (off + n ≤ cs.length, .d (.agg (part cs off n)))
  | .iaddr z, [.d (.sl _ n z' row), .d (.int _ i)] => if z' = z then some (0 ≤ i ∧ i < n, .d (.ep (row i.toNat) 0)) else none
  | .iaddr z, [.d (.msl b o n _ z'), .d (.int _ i)] => if z' = z then some (0 ≤ i ∧ i < n, .d (.ptr b (o + i.toNat * z))) else none
  | .iaddrA m z, [.d (.ptr b o), .d (.int _ i)] => some (0 ≤ i ∧ i < m, .d (.ptr b (o + i.toNat * z)))
  | .iaddrA m s, [.loc l o, .d (.int _ i)] => some (0 ≤ i ∧ i < m, .loc l (o + i.toNat * s))
  | .iaddrA m s, [.d (.ep cs o), .d (.int _ i)] => some (0 ≤ i ∧ i < m, .d (.ep cs (o + i.toNat * s)))
  | .idxA m z true, [.d (.agg cs), .d (.int _ i)] => (cs[i.toNat * z]?).map fun d => (0 ≤ i ∧ i < m, .d d)
  | .idxA m z false, [.d (.agg cs), .d (.int _ i)] => some (0 ≤ i ∧ i < m ∧ i.toNat * z + z ≤ cs.length, .d (.agg (part cs (i.toNat * z) z)))
  | .sliceA m z lo hi mx, .d (.ptr b o) :: r => match intArgs [lo, hi, mx] r with
    | some [l, h, x] => some (0 ≤ l.getD 0 ∧ l.getD 0 ≤ h.getD m ∧ h.getD m ≤ x.getD m ∧ x.getD m ≤ m ∧ m ≤ big,
        .d (.msl b (if x.getD m = l.getD 0 then o else o + (l.getD 0).toNat * z) (h.getD m - l.getD 0).toNat (x.getD m - l.getD 0).toNat z))
    | _ => none
  | .idxS, [.d (.str s), .d (.int _ i)] => some (0 ≤ i ∧ i < s.length, .d (.int .u8 ((s.getD i.toNat 0).toNat : Int)))
  | .lenS, [.d (.str s)] => some (True, .d (.int .i64 s.length))
  | .lenL, [.d (.sl _ n _ _)] => some (True, .d (.int .i64 n))
  | .lenL, [.d (.msl _ _ n _ _)] => some (True, .d (.int .i64 n))
  | .lenL, [.d .nilsl] => some (True, .d (.int .i64 0))
  | .lenA n, [_] => some (inR .i64 n, .d (.int .i64 n))
  | .ext k, [.d (.tup vs)] => (vs[k]?).map fun d => (True, .d d)
  | .build zero parts, es => match dsOf es with
    | some ds => (fillD zero parts ds).map fun cs => (True, .d (.agg cs))
    | none => none
  | .mkfn f k, es => (dsOf es).map fun ds => (True, .d (.fn f (ds.take k) (ds.drop k)))
  | .mkif t, [.d x] => some (True, .d (.iface t x))
  | .sliceS lo hi, .d (.str s) :: r => match intArgs [lo, hi, false] r with
    | some [l, h, _] => some (0 ≤ l.getD 0 ∧ l.getD 0 ≤ h.getD s.length ∧ h.getD s.length ≤ s.length,
        .d (.str ((s.drop (l.getD 0).toNat).take ((h.getD s.length).toNat - (l.getD 0).toNat))))
    | _ => none
  | .slice s lo hi mx, .d x :: r => match intArgs [lo, hi, mx] r with
    | some [l, h, m] => (sliceD s l h m x).map fun r => (r.1, .d r.2)
    | _ => none
  | .min, [.d (.int k a), .d (.int k' b)] => if k = k' then some (True, .d (.int k (Min.min a b))) else none
  | .max, [.d (.int k a), .d (.int k' b)] => if k = k' then some (True, .d (.int k (Max.max a b))) else none
  | .tassert t true _, [.d (.iface t' v)] => if t' = t then some (True, .d (.tup [v, .bool true])) else none
  | .lookup kp z ok, [.d (.map b), .d k] => match mapAt s b with
    | some es => (findD kp k es).map fun r => (keyOk kp k = true, .d (lookRes z ok r))
    | none => none
  | .lookup kp z ok, [.d .nilmap, .d k] => some (keyOk kp k = true, .d (lookRes z ok none))
  | .lenM, [.d (.map b)] => match mapAt s b with
    | some es => some (es.length ≤ big, .d (.int .i64 es.length))
    | none => none
  | .lenM, [.d .nilmap] => some (True, .d (.int .i64 0))
  | .tassert _ true zero, [.d .niliface] => some (True, .d (.tup [zero, .bool false]))
  | .tassert t false _, [.d (.iface t' v)] => if t' = t then some (True, .d v) else none
  | _, _ => none
inductive K where
  | q (q : Q) (args : List Opd)
  | pick (c a b : Opd)
  | alloc (zero : List D)
  | box (x : Opd)
  | bsl (len s : Nat) (zero : List D) (idx : List Nat) (parts : List Opd)
  | s2b (x : Opd)
  | store1 (a v : Opd)
  | storeN (n : Nat) (a v : Opd)
  | call (f : Opd) (args : List Opd)
  | append (elem : TypeId) (s bytes : Nat) (zero : List D) (x y : Opd)
  | mkmap
  | mapupd (kp : KP) (m k v : Opd)
  | mapent (kp : KP) (zero : D) (m k : Opd)
  | entst (m st v : Opd)
  | mkslice (elem : TypeId) (s bytes : Nat) (zero : List D) (l c : Opd)
  | panic (x : Opd)
  | delete (kp : KP) (m k : Opd)
  | clear (s : Nat) (zero : List D) (x : Opd)
  | copy (s : Nat) (x y : Opd)
  | fork (k : K)
  | defer (f : Opd) (args : List Opd)
  | recover
def K.isDefer : K → Bool
  | .defer _ _ => true
  | _ => false
structure DOp where
  dst : Option Nat
  guard : Option (Nat × Bool)
  k : K
inductive DC where
  | skip
  | reg (ops : List DOp) (keep : Option (List Nat))
  | regD (order : List Nat) (ops : List (DOp × List Nat)) (keep : Option (List Nat))
  | seq (a b : DC)
  | cond (c : Opd) (a b : DC)
  | block (id : Nat) (a : DC)
  | loop (a : DC)
  | rangeF (f : Opd) (params : List Nat) (assign body : DC)
  | exit (id : Nat)
  | ret
  | scope (a : DC)
  | label (id : Nat)
  | goto (id : Nat)
def scalarT (P : Program) (t : TypeId) : Option SK :=
  match P.underlying t with
  | some .bool => some .bool
  | some (.int _) => some .int
  | some .string => some .str
  | _ => none
def fieldKinds (P : Program) : List Field → Option (List (Nat × SK))
  | [] => some []
  | f :: r => if f.name = "_" then fieldKinds P r else
    match scalarT P f.type, fieldKinds P r with
    | some k, some l => some ((f.offset, k) :: l)
    | _, _ => none
def aggT (P : Program) (t : TypeId) : Option Bool :=
  match P.underlying t with
  | some (.struct _) | some (.array _ _) => some true
  | some _ => some false
  | none => none
def sizeT (P : Program) (t : TypeId) : Option Nat := (P.info? t).map (·.size)
def isConst : Operand → Bool
  | .const _ => true
  | _ => false
def planOf (P : Program) (t : TypeId) (x y : Operand) : Option Plan :=
  match P.underlying t with
  | some .bool => some .bool
  | some (.slice _) => some .sl
  | some (.map _ _) => some .map
  | some (.func _ _ _) => some .fn
  | some (.interface _) => if isConst x || isConst y then some .ifc else none
  | some (.pointer _) => some .ptr
  | some (.struct fs) => if P.eqGuardType P.depth t || P.stoodInHeld t then none else (fieldKinds P fs.toList).map .cells
  | some (.array n e) =>
    if P.eqGuardType P.depth t then none
    else match scalarT P e, sizeT P e with
      | some k, some 1 => some (.cells ((List.range n).map (·, k)))
      | _, _ => none
  | _ => none
def fieldT (P : Program) (s : TypeId) (k : Nat) : Option Field :=
  match P.underlying s with
  | some (.struct fs) => fs[k]?
  | _ => none
def zeroT (P : Program) (t : TypeId) : Option (List D) :=
  match P.info? t with
  | some i => match i.zero with
    | some z => consts z.cells.toList
    | none => none
  | none => none
def zero1 (P : Program) (t : TypeId) : Option D :=
  match P.info? t with
  | some i => match i.zero with
    | some z => constD z
    | none => none
  | none => none
def placesT (P : Program) (t : TypeId) : List Nat → Option (List (Nat × Nat))
  | [] => some []
  | k :: r =>
    match P.underlying t, placesT P t r with
    | some (.struct fs), some l => match fs[k]? with
      | some f => (sizeT P f.type).map fun n => (f.offset, n) :: l
      | none => none
    | some (.array _ e), some l => (sizeT P e).map fun n => (k * n, n) :: l
    | _, _ => none
def sizedT (P : Program) (t : TypeId) : Bool :=
  match P.underlying t with
  | some (.struct fs) => fs.toList.all fun f => (sizeT P f.type).isSome
  | some (.array _ e) => (sizeT P e).isSome
  | _ => false
def cConv (P : Program) (s d : TypeId) : Option Cv :=
  match P.underlying s, P.underlying d with
  | some (.int _), some (.int k) => some (.int k)
  | some (.int _), some .string => some .i2s
  | some .string, some .string => some .str
  | some (.slice e), some .string => match P.underlying e with
    | some (.int .u8) => some .b2s
    | _ => none
  | _, _ => none
def keyT (P : Program) (t : TypeId) : Option KP :=
  match scalarT P t with
  | some k => some (.sc k)
  | none => match P.underlying t, sizeT P t with
    | some (.struct fs), some n => match fieldKinds P fs.toList with
      | some l => if l.map (·.1) = List.range n ∧ P.stoodInHeld t = false then some (.st l) else none
      | none => none
    | _, _ => none
def optL (x : Option Operand) : List Operand := x.toList
def cq (P : Program) : Op → Option (Q × List Operand)
  | .move x | .assign x => some (.mv, [x])
  | .load t a => match aggT P t, sizeT P t with
    | some true, some n => some (.loadN n, [a])
    | some false, some _ => some (.load1, [a])
    | _, _ => none
  | .nilCheck x => some (.nilck, [x])
  | .binOp op t x y _ => some (.bin op (planOf P t x y), [x, y])
  | .unOp .not _ x => some (.not, [x])
  | .unOp .neg _ x => some (.neg, [x])
  | .unOp .xor _ x => some (.xorm, [x])
  | .convert s d x => (cConv P s d).map fun c => (.conv c, [x])
  | .fieldAddr s x k => match fieldT P s k with
    | some f => match sizeT P f.type with
      | some n => if n = 0 then none else some (.faddr f.offset, [x])
      | none => none
    | none => none
  | .field s x k => match fieldT P s k with
    | some f => match aggT P f.type, sizeT P f.type with
      | some true, some n => some (.fldN f.offset n, [x])
      | some false, some _ => some (.fld1 f.offset, [x])
      | _, _ => none
    | none => none
  | .indexAddr t x i => match P.underlying t with
    | some (.slice e) => (sizeT P e).map fun n => (.iaddr n, [x, i])
    | some (.array m e) => (sizeT P e).map fun n => (.iaddrA m n, [x, i])
    | _ => none
  | .index t x i => match P.underlying t with
    | some .string => some (.idxS, [x, i])
    | some (.array m e) => match aggT P e, sizeT P e with
      | some b, some n => some (.idxA m n !b, [x, i])
      | _, _ => none
    | _ => none
  | .extract x k => some (.ext k, [x])
  | .build t parts => match (P.info? t).bind (·.zero), placesT P t (parts.toList.map (·.1)) with
    | some z, some l => if sizedT P t then (consts z.cells.toList).map fun zs => (.build zs l, parts.toList.map (·.2)) else none
    | _, _ => none
  | .makeFunc f first caps => some (.mkfn f first.size, first.toList ++ caps.toList)
  | .makeInterface t x => match P.underlying t with
    | some (.interface _) => none
    | some _ => some (.mkif t, [x])
    | none => none
  | .slice t x lo hi mx => match P.underlying t with
    | some .string => if mx.isSome then none else some (.sliceS lo.isSome hi.isSome, x :: (optL lo ++ optL hi))
    | some (.slice e) => if mx.isSome && !hi.isSome then none else (sizeT P e).map fun n => (.slice n lo.isSome hi.isSome mx.isSome, x :: (optL lo ++ optL hi ++ optL mx))
    | some (.array m e) => if mx.isSome && !hi.isSome then none else (sizeT P e).map fun n => (.sliceA m n lo.isSome hi.isSome mx.isSome, x :: (optL lo ++ optL hi ++ optL mx))
    | _ => none
  | .typeAssert x _ t ok => match P.underlying t with
    | some (.interface _) => none
    | some _ => (zero1 P t).map fun z => (.tassert t ok z, [x])
    | none => none
  | .lookup t m k ok => match P.underlying t with
    | some (.map kt e) => match keyT P kt, zero1 P e with
      | some kp, some z => some (.lookup kp z ok, [m, k])
      | _, _ => none
    | _ => none
  | .call c => match c.callee with
    | .builtin .len => match c.argTypes[0]?.bind P.underlying with
      | some .string => if c.args.size = 1 then some (.lenS, c.args.toList) else none
      | some (.slice _) => if c.args.size = 1 then some (.lenL, c.args.toList) else none
      | some (.array n _) => if c.args.size = 1 then some (.lenA n, c.args.toList) else none
      | some (.map _ _) => if c.args.size = 1 then some (.lenM, c.args.toList) else none
      | _ => none
    | .builtin .min => if c.args.size = 2 then some (.min, c.args.toList) else none
    | .builtin .max => if c.args.size = 2 then some (.max, c.args.toList) else none
    | _ => none
  | _ => none
end Go.DL
namespace Go.DL
open Go
inductive All2 {α β : Type} (R : α → β → Prop) : List α → List β → Prop where
  | nil : All2 R [] []
  | cons {a b as9 bs} (h : R a b) (t : All2 R as9 bs) : All2 R (a :: as9) (b :: bs)
theorem wrap_in (k : IntKind) (n : Int) : inR k (k.wrap n) := by
  unfold inR IntKind.wrap IntKind.min IntKind.max
  cases k <;> simp [IntKind.signed, IntKind.bits] <;> (try split) <;> omega
theorem wrap_of (k : IntKind) (n : Int) (h : inR k n) : k.wrap n = n := by
  unfold inR IntKind.min IntKind.max at h
  unfold IntKind.wrap
  cases k <;> simp [IntKind.signed, IntKind.bits] at h ⊢ <;> (try split) <;> omega
theorem addr_add (b o n : Nat) : (⟨b, o, none⟩ : Addr).add n = ⟨b, o + n, none⟩ := by
  unfold Addr.add; split
  · subst n; rfl
  · rfl
theorem aggT_true {P : Program} {t : TypeId} (h : aggT P t = some true) (w : World) : (isAgg t).run P w = .ok true w := by
  unfold aggT at h
  unfold isAgg
  split at h <;> simp_all [run_underlying]
theorem aggT_false {P : Program} {t : TypeId} (h : aggT P t = some false) (w : World) : (isAgg t).run P w = .ok false w := by
  unfold aggT at h
  unfold isAgg
  split at h
  · simp at h
  · simp at h
  · rename_i d h1 h2 hd
    simp only [Sem.run_bind, run_underlying hd, Result.andThen_ok]
    cases d <;> simp_all
  · simp at h
theorem sizeT_run {P : Program} {t : TypeId} {n : Nat} (h : sizeT P t = some n) (w : World) : (sizeOf t).run P w = .ok n w := by
  unfold sizeT at h
  cases hi : P.info? t with
  | none => simp [hi] at h
  | some i =>
    simp [hi] at h
    simp [sizeOf, typeInfo, hi, h]
theorem cellsAt_ok {g : G} {w : World} {s : St} (hS : StOk g s w) {b : Nat} {cs : List D} (h : cellsAt s b = some cs) : CellsOk g w b cs := by
  unfold cellsAt at h
  split at h <;> simp at h
  rename_i c hc
  subst h
  exact hS.obj b _ hc
theorem cellGet_ok {g : G} {ν : Nat → Nat} {w : World} {L : Loc} (hL : ∀ l cs, getL L l = some cs → CellsOk g w (ν l) cs) {s : St} (hS : StOk g s w) {v : Value} {e : E} {d : D}
    (h : RepE g ν w L v e) (hc : cellGet L s e = some d) : ∃ b o x, v = .pointer (some ⟨b, o, none⟩) ∧ w.cell? ⟨b, o, none⟩ = some x ∧ Rep g w x d ∧ x.one1 = true := by
  cases e with
  | d v' =>
    cases v' <;> simp only [cellGet] at hc <;> try (simp at hc; done)
    · rename_i cs o
      cases h with
      | ep b o0 _ _ f h1 h2 h3 one =>
        have hlt : o < cs.length := (List.getElem?_eq_some_iff.1 hc).1
        exact ⟨b, o0 + o, f o, rfl, h1 o hlt, h3 o d hc, one o hlt⟩
    · rename_i b o
      split at hc <;> (try (simp at hc; done))
      rename_i cs hcs
      obtain ⟨_, vs, T, h1, h2, h4, h5⟩ := cellsAt_ok hS hcs
      cases h
      have hlt : o < cs.length := (List.getElem?_eq_some_iff.1 hc).1
      have hv : vs[o]? = some (vs[o]'(by omega)) := Array.getElem?_eq_getElem (by omega)
      refine ⟨b, o, vs[o]'(by omega), rfl, ?_, h4 o _ d hv hc, h5 _ (Array.getElem_mem _)⟩
      simp [World.cell?, h1, hv]
  | loc l o =>
    obtain ⟨⟨cs, hcs⟩, rfl⟩ := h
    simp only [cellGet, hcs] at hc
    obtain ⟨_, vs, T, h1, h2, h4, h5⟩ := hL l cs hcs
    have hlt : o < cs.length := (List.getElem?_eq_some_iff.1 hc).1
    have hv : vs[o]? = some (vs[o]'(by omega)) := Array.getElem?_eq_getElem (by omega)
    refine ⟨ν l, o, vs[o]'(by omega), rfl, ?_, h4 o _ d hv hc, h5 _ (Array.getElem_mem _)⟩
    simp [World.cell?, h1, hv]
  | when c e => simp [cellGet] at hc
theorem partCells_ok {P : Program} {g : G} {w : World} {b o n : Nat} {cs : List D} (h : CellsOk g w b cs) (hs : o + n ≤ cs.length) :
    ∃ vs : List Value, (loadCells ⟨b, o, none⟩ n).run P w = .ok vs.toArray w ∧ Rep g w (.agg vs.toArray) (.agg (part cs o n)) := by
  obtain ⟨_, vs, T, h1, h2, h4, h5⟩ := h
  refine ⟨(vs.toList.drop o).take n, ?_, ?_⟩
  · have := run_loadCells (P := P) (w := w) ⟨b, o, none⟩ n (fun i => vs.getD (o + i) undef) (fun j hj => by
      rw [addr_add]; simp only [World.cell?, h1]
      have hj' : o + j < vs.size := by omega
      simp [Array.getD, hj'])
    rw [this]; congr 1
    apply Array.ext_getElem?
    intro i
    simp only [List.getElem?_toArray, List.getElem?_take, List.getElem?_drop, Array.getElem?_toList]
    by_cases hi' : i < n
    · have : o + i < vs.size := by omega
      simp [hi', this]
    · simp [hi']
  · refine .agg _ _ (by simp [part]; omega) (fun i v d hv hd => ?_) (fun v hv => ?_)
    · have hi : i < n := by
        rcases Nat.lt_or_ge i n with h | h
        · exact h
        · simp [List.getElem?_take, Nat.not_lt.2 h] at hv
      simp only [List.getElem?_take, hi, if_true, List.getElem?_drop, Array.getElem?_toList, part] at hv hd
      exact h4 _ _ _ hv hd
    · exact h5 v (by
        have := List.mem_of_mem_drop (List.mem_of_mem_take hv)
        exact Array.mem_toList_iff.1 this)
theorem partGet_ok {P : Program} {g : G} {ν : Nat → Nat} {w : World} {L : Loc} (hL : ∀ l cs, getL L l = some cs → CellsOk g w (ν l) cs) {s : St} (hS : StOk g s w) {v : Value} {e : E} {n : Nat} {side : Prop} {ds : List D}
    (h : RepE g ν w L v e) (hc : partGet L s n e = some (side, ds)) (hs : side) :
    ∃ a, v = .pointer (some a) ∧ ∃ vs : List Value, (loadCells a n).run P w = .ok vs.toArray w ∧ Rep g w (.agg vs.toArray) (.agg ds) := by
  cases e with
  | d v' =>
    cases v' <;> simp only [partGet] at hc <;> try (simp at hc; done)
    · rename_i cs o
      simp only [Option.some.injEq, Prod.mk.injEq] at hc
      obtain ⟨rfl, rfl⟩ := hc
      cases h with
      | ep b o0 _ _ f h1 h2 h3 one =>
        refine ⟨_, rfl, (List.range n).map (fun i => f (o + i)), ?_, ?_⟩
        · have := run_loadCells (P := P) (w := w) ⟨b, o0 + o, none⟩ n (fun i => f (o + i)) (fun j hj => by
            rw [addr_add, Nat.add_assoc]; exact h1 _ (by omega))
          rw [this]
        · refine .agg _ _ (by simp [part]; omega) (fun i v d hv hd => ?_) (fun v hv => ?_)
          · simp only [List.getElem?_map] at hv
            have hi : i < n := by
              rcases Nat.lt_or_ge i n with h | h
              · exact h
              · simp [List.getElem?_eq_none (l := List.range n) (by simpa using h)] at hv
            simp [List.getElem?_range hi] at hv
            subst hv
            refine h3 _ _ ?_
            simpa [part, List.getElem?_take, List.getElem?_drop, hi] using hd
          · simp only [List.mem_map, List.mem_range] at hv
            obtain ⟨i, hi, rfl⟩ := hv
            exact one _ (by omega)
    · rename_i b o
      split at hc <;> (try (simp at hc; done))
      rename_i cs hcs
      simp only [Option.some.injEq, Prod.mk.injEq] at hc
      obtain ⟨rfl, rfl⟩ := hc
      cases h
      obtain ⟨vs, h1, h2⟩ := partCells_ok (P := P) (cellsAt_ok hS hcs) hs
      exact ⟨_, rfl, vs, h1, h2⟩
  | loc l o =>
    obtain ⟨⟨cs, hcs⟩, rfl⟩ := h
    simp only [partGet, hcs, Option.some.injEq, Prod.mk.injEq] at hc
    obtain ⟨rfl, rfl⟩ := hc
    obtain ⟨vs, h1, h2⟩ := partCells_ok (P := P) (hL l cs hcs) hs
    exact ⟨_, rfl, vs, h1, h2⟩
  | when c e => simp [partGet] at hc
end Go.DL
namespace Go.DL
open Go
theorem inR_natCast {n : Nat} (h : n ≤ big) : inR .i64 (n : Int) := by
  unfold big at h; unfold inR IntKind.min IntKind.max; simp [IntKind.signed, IntKind.bits]; omega
theorem inR_u8 (b : UInt8) : inR .u8 (b.toNat : Int) := by
  unfold inR IntKind.min IntKind.max; simp [IntKind.signed, IntKind.bits]; have := b.toNat_lt; omega
theorem binI_ok {P : Program} {g : G} {w : World} {op : BinOp} {k : IntKind} {a b : Int} {side : Prop} {d : D} (hq : binI op k a b = some (side, d)) (hs : side) :
    ∃ v, (match op with
      | .add | .sub | .mul => Op.intArith op k a b
      | .quo | .rem => Op.intDiv op k a b
      | .and | .or | .xor | .andNot => Op.intBits op k a b
      | _ => Op.intCmp op a b).run P w = .ok v w ∧ Rep g w v d := by
  cases op <;> simp only [binI, Option.some.injEq, Prod.mk.injEq, reduceCtorEq] at hq
  all_goals obtain ⟨rfl, rfl⟩ := hq
  case add => exact ⟨_, by simp only [Op.intArith, Sem.run_pure]; rfl, by rw [wrap_of _ _ hs]; exact .int _ _ hs⟩
  case sub => exact ⟨_, by simp only [Op.intArith, Sem.run_pure]; rfl, by rw [wrap_of _ _ hs]; exact .int _ _ hs⟩
  case mul => exact ⟨_, by simp only [Op.intArith, Sem.run_pure]; rfl, by rw [wrap_of _ _ hs]; exact .int _ _ hs⟩
  case quo => exact ⟨_, by simp only [Op.intDiv, hs.1, if_false, Sem.run_pure]; rfl, by rw [wrap_of _ _ hs.2]; exact .int _ _ hs.2⟩
  case rem => exact ⟨_, by simp only [Op.intDiv, hs.1, if_false, Sem.run_pure], .int _ _ hs.2⟩
  case eql => exact ⟨_, by simp only [Op.intCmp, Sem.run_pure]; rfl, .bool _⟩
  case neq => exact ⟨_, by simp only [Op.intCmp, Sem.run_pure]; rfl, .bool _⟩
  case lss => exact ⟨_, by simp only [Op.intCmp, Sem.run_pure], .bool _⟩
  case leq => exact ⟨_, by simp only [Op.intCmp, Sem.run_pure], .bool _⟩
  case gtr => exact ⟨_, by simp only [Op.intCmp, Sem.run_pure], .bool _⟩
  case geq => exact ⟨_, by simp only [Op.intCmp, Sem.run_pure], .bool _⟩
  all_goals exact ⟨_, by simp only [Op.intBits, Sem.run_pure]; rfl, .int _ _ (wrap_in _ _)⟩
theorem str_data {s : ByteArray} {l : List UInt8} (h : s.data.toList = l) : s.toList = l := by rw [ByteArray.toList_eq, h]
theorem binS_ok {P : Program} {g : G} {w : World} {op : BinOp} {s1 s2 : ByteArray} {a b : List UInt8} (h1 : s1.data.toList = a) (h2 : s2.data.toList = b)
    {side : Prop} {d : D} (hq : binS op a b = some (side, d)) (hs : side) :
    ∃ v, (Op.stringOp op s1 s2).run P w = .ok v w ∧ Rep g w v d := by
  have e1 := str_data h1
  have e2 := str_data h2
  cases op <;> simp only [binS, Option.some.injEq, Prod.mk.injEq, reduceCtorEq] at hq
  all_goals obtain ⟨rfl, rfl⟩ := hq
  case add =>
    have hz1 : s1.size = a.length := by rw [← h1]; rfl
    have hz2 : s2.size = b.length := by rw [← h2]; rfl
    refine ⟨.string (s1 ++ s2), ?_, .str _ _ ?_ (by simpa using hs)⟩
    · unfold big at hs
      simp only [Op.stringOp, hz1, hz2, Sem.run_ite]
      rw [if_neg (by simp [IntKind.max, IntKind.signed, IntKind.bits]; omega)]; rfl
    · simp [← h1, ← h2]
  all_goals simp only [Op.stringOp, Sem.run_pure, e1, e2]
  all_goals have hb : (a == b) = decide (a = b) := by rw [Bool.eq_iff_iff]; simp
  all_goals try simp only [hb]
  all_goals exact ⟨_, rfl, .bool _⟩
theorem scalarEq_ok {P : Program} {g : G} {w : World} {t : TypeId} {sk : SK} (ht : scalarT P t = some sk) {v1 v2 : Value} {x y : D} (h1 : Rep g w v1 x) (h2 : Rep g w v2 y) {b : Bool}
    (hq : scalarEq sk x y = some b) (n : Nat) : (Op.equalIn (n + 1) t v1 v2).run P w = .ok b w := by
  unfold scalarT at ht
  cases sk
  · obtain ⟨k0, hk0⟩ : ∃ k0, P.underlying t = some (.int k0) := by split at ht <;> simp_all
    cases h1 <;> cases h2 <;> simp only [scalarEq, reduceCtorEq] at hq
    split at hq
    · rename_i k a ha k' b' hb' hk
      simp only [Option.some.injEq] at hq
      subst hq; subst hk
      rw [run_equalIn_int w n t _ _ _ _ hk0]; rfl
    · simp at hq
  · have hk0 : P.underlying t = some .string := by split at ht <;> simp_all
    cases h1 <;> cases h2 <;> simp only [scalarEq, reduceCtorEq, Option.some.injEq] at hq
    rename_i s1 l1 e1 _ s2 l2 e2 _
    subst hq
    rw [run_equalIn_string w n t _ _ hk0, str_data e1, str_data e2]
    congr 1; rw [Bool.eq_iff_iff]; simp
  · have hk0 : P.underlying t = some .bool := by split at ht <;> simp_all
    cases h1 <;> cases h2 <;> simp only [scalarEq, reduceCtorEq, Option.some.injEq] at hq
    subst hq
    rw [run_equalIn_bool' w n t _ _ hk0]; rfl
theorem scalarT_agg {P : Program} {t : TypeId} {k : SK} (h : scalarT P t = some k) : aggT P t = some false := by
  unfold scalarT at h; unfold aggT
  split at h <;> simp_all
theorem part_run {P : Program} {w : World} {t : TypeId} (h : aggT P t = some false) {cs : Array Value} {o : Nat} {v : Value} (hv : cs[o]? = some v) :
    (Go.part t cs o).run P w = .ok v w := by
  simp [Go.part, aggT_false h, hv]
theorem rep_cell {g : G} {w : World} {vs : List Value} {ds : List D} (hn : vs.length = ds.length) (h : ∀ (i : Nat) (v : Value) (d : D), vs[i]? = some v → ds[i]? = some d → Rep g w v d)
    {o : Nat} {d : D} (hd : ds[o]? = some d) : ∃ v, vs[o]? = some v ∧ Rep g w v d := by
  have hlt : o < ds.length := (List.getElem?_eq_some_iff.1 hd).1
  exact ⟨vs[o]'(by omega), List.getElem?_eq_getElem _, h o _ d (List.getElem?_eq_getElem _) hd⟩
theorem eqFields_ok {P : Program} {g : G} {w : World} {v1 v2 : List Value} {xs ys : List D} (hn1 : v1.length = xs.length) (hn2 : v2.length = ys.length)
    (h1 : ∀ (i : Nat) (v : Value) (d : D), v1[i]? = some v → xs[i]? = some d → Rep g w v d) (h2 : ∀ (i : Nat) (v : Value) (d : D), v2[i]? = some v → ys[i]? = some d → Rep g w v d) (n : Nat) :
    ∀ (fs : List Field) (l : List (Nat × SK)) (b : Bool), fieldKinds P fs = some l → cellsEq xs ys l = some b →
      (Op.eqFields (n + 1) v1.toArray v2.toArray fs).run P w = .ok b w
  | [], l, b, hl, hb => by
    simp only [fieldKinds, Option.some.injEq] at hl
    subst hl
    simp only [cellsEq, Option.some.injEq] at hb
    subst hb
    simp [Op.eqFields]
  | f :: fs, l, b, hl, hb => by
    simp only [fieldKinds] at hl
    by_cases hf : f.name = "_"
    · simp only [hf, if_true] at hl
      have := eqFields_ok hn1 hn2 h1 h2 n fs l b hl hb
      simp only [Op.eqFields, hf, ne_eq, not_true_eq_false, if_false]
      exact this
    · simp only [hf, if_false] at hl
      split at hl
      · rename_i k l' hk hl'
        simp only [Option.some.injEq] at hl
        subst hl
        simp only [cellsEq] at hb
        split at hb
        · rename_i x y hx hy
          split at hb
          · rename_i b1 b2 hb1 hb2
            simp only [Option.some.injEq] at hb
            obtain ⟨u1, hu1, r1⟩ := rep_cell hn1 h1 hx
            obtain ⟨u2, hu2, r2⟩ := rep_cell hn2 h2 hy
            have ih := eqFields_ok hn1 hn2 h1 h2 n fs l' b2 hl' hb2
            have he := scalarEq_ok (P := P) hk r1 r2 hb1 n
            simp only [Op.eqFields, ne_eq, hf, not_false_eq_true, if_true, Sem.run_bind]
            rw [part_run (scalarT_agg hk) (v := u1) (by simpa using hu1)]
            simp only [Result.andThen_ok]
            rw [part_run (scalarT_agg hk) (v := u2) (by simpa using hu2)]
            simp only [Result.andThen_ok, he]
            subst hb
            cases b1
            · simp
            · simpa using ih
          · simp at hb
        · simp at hb
      · simp at hl
end Go.DL
namespace Go.DL
open Go
theorem eqItems_ok {P : Program} {g : G} {w : World} {v1 v2 : List Value} {xs ys : List D} (hn1 : v1.length = xs.length) (hn2 : v2.length = ys.length)
    (h1 : ∀ (i : Nat) (v : Value) (d : D), v1[i]? = some v → xs[i]? = some d → Rep g w v d) (h2 : ∀ (i : Nat) (v : Value) (d : D), v2[i]? = some v → ys[i]? = some d → Rep g w v d) (n : Nat)
    {e : TypeId} {k : SK} (hk : scalarT P e = some k) :
    ∀ (is : List Nat) (b : Bool), cellsEq xs ys (is.map (·, k)) = some b → (Op.eqItems (n + 1) e 1 v1.toArray v2.toArray is).run P w = .ok b w
  | [], b, hb => by
    simp only [List.map_nil, cellsEq, Option.some.injEq] at hb
    subst hb; simp [Op.eqItems]
  | i :: is, b, hb => by
    simp only [List.map_cons, cellsEq] at hb
    split at hb
    · rename_i x y hx hy
      split at hb
      · rename_i b1 b2 hb1 hb2
        simp only [Option.some.injEq] at hb
        obtain ⟨u1, hu1, r1⟩ := rep_cell hn1 h1 hx
        obtain ⟨u2, hu2, r2⟩ := rep_cell hn2 h2 hy
        have ih := eqItems_ok hn1 hn2 h1 h2 n hk is b2 hb2
        have he := scalarEq_ok (P := P) hk r1 r2 hb1 n
        simp only [Op.eqItems, Nat.mul_one, Sem.run_bind]
        rw [part_run (scalarT_agg hk) (v := u1) (by simpa using hu1)]
        simp only [Result.andThen_ok]
        rw [part_run (scalarT_agg hk) (v := u2) (by simpa using hu2)]
        simp only [Result.andThen_ok, he]
        subst hb
        cases b1
        · simp
        · simpa using ih
      · simp at hb
    · simp at hb
theorem equal_of {P : Program} {w : World} {t : TypeId} {v1 v2 : Value} {b : Bool} (h : ∀ n, (Op.equalIn (n + 1) t v1 v2).run P w = .ok b w) : (Op.equal t v1 v2).run P w = .ok b w := h 9999
theorem planEq_ok {P : Program} {g : G} {w : World} {t : TypeId} {x y : Operand} {p : Plan} (hp : planOf P t x y = some p) {v1 v2 : Value} {d1 d2 : D} (h1 : Rep g w v1 d1) (h2 : Rep g w v2 d2)
    {side : Prop} {b : Bool} (hq : planEq p d1 d2 = some (side, b)) (hs : side) :
    (Op.equal t v1 v2).run P w = .ok b w ∧ (eqGuard .eql t x y v1 v2).run P w = .ok () w ∧ (eqGuard .neq t x y v1 v2).run P w = .ok () w := by
  unfold planOf at hp
  split at hp <;> (try (simp at hp; done))
  ·
    rename_i hu
    simp only [Option.some.injEq] at hp; subst hp
    cases h1 <;> cases h2 <;> simp only [planEq, reduceCtorEq, Option.some.injEq, Prod.mk.injEq] at hq
    obtain ⟨rfl, rfl⟩ := hq
    exact ⟨equal_of fun n => by rw [run_equalIn_bool w _ t _ _ hu]; rfl, rfl, rfl⟩
  · rename_i e hu
    simp only [Option.some.injEq] at hp; subst hp
    cases h1 <;> cases h2 <;> simp only [planEq, reduceCtorEq, Option.some.injEq, Prod.mk.injEq] at hq
    all_goals obtain ⟨rfl, rfl⟩ := hq
    all_goals first
      | exact absurd hs (by omega)
      | exact ⟨equal_of fun n => by simp [Op.equalIn, run_underlying hu], rfl, rfl⟩
  · rename_i k e hu
    simp only [Option.some.injEq] at hp; subst hp
    cases h1 <;> cases h2 <;> simp only [planEq, reduceCtorEq, Option.some.injEq, Prod.mk.injEq] at hq
    all_goals obtain ⟨rfl, rfl⟩ := hq
    all_goals exact ⟨equal_of fun n => by simp [Op.equalIn, run_underlying hu], rfl, rfl⟩
  · rename_i a b c hu
    simp only [Option.some.injEq] at hp; subst hp
    cases h1 <;> cases h2 <;> simp only [planEq, reduceCtorEq, Option.some.injEq, Prod.mk.injEq] at hq
    all_goals obtain ⟨rfl, rfl⟩ := hq
    all_goals exact ⟨equal_of fun n => by simp [Op.equalIn, run_underlying hu], rfl, rfl⟩
  · rename_i ms hu
    split at hp
    · rename_i hc
      simp only [Option.some.injEq] at hp; subst hp
      have hc' : isConst x = true ∨ isConst y = true := by simpa using hc
      have hg : ∀ op, (eqGuard op t x y .nilIface .nilIface).run P w = .ok () w := fun op => by
        rcases hc' with h | h
        · cases x <;> simp [isConst] at h
          cases op <;> simp [eqGuard]
        · cases y <;> simp [isConst] at h
          cases op <;> simp [eqGuard]
      cases h1 <;> cases h2 <;> simp only [planEq, reduceCtorEq, Option.some.injEq, Prod.mk.injEq] at hq
      all_goals obtain ⟨rfl, rfl⟩ := hq
      all_goals first
        | exact ⟨equal_of fun n => by simp [Op.equalIn, run_underlying hu], rfl, rfl⟩
        | exact ⟨equal_of fun n => by simp [Op.equalIn, run_underlying hu], hg _, hg _⟩
    · simp at hp
  · rename_i e hu
    simp only [Option.some.injEq] at hp; subst hp
    cases h1 <;> cases h2 <;> simp only [planEq, reduceCtorEq, Option.some.injEq, Prod.mk.injEq] at hq
    all_goals obtain ⟨rfl, rfl⟩ := hq
    all_goals exact ⟨equal_of fun n => by simp [Op.equalIn, run_underlying hu], rfl, rfl⟩
  · rename_i fs hu
    split at hp
    · simp at hp
    · rename_i hgs
      have hg1 : P.eqGuardType P.depth t = false := by simp at hgs; exact hgs.1
      have hg2 : P.stoodInHeld t = false := by simp at hgs; exact hgs.2
      simp only [Option.map_eq_some_iff] at hp
      obtain ⟨l, hl, rfl⟩ := hp
      cases h1 <;> cases h2 <;> simp only [planEq, reduceCtorEq, Option.map_eq_some_iff] at hq
      rename_i v1 xs hn1 r1 o1 v2 ys hn2 r2 o2
      obtain ⟨b', hb, hq⟩ := hq
      simp only [Prod.mk.injEq] at hq
      obtain ⟨rfl, rfl⟩ := hq
      have hf : P.underlying t = some (.struct (P.fieldsOf t)) := by simp [Program.fieldsOf, hu]
      refine ⟨?_, run_eqGuard_agg w _ t x y _ _ hg1, run_eqGuard_agg w _ t x y _ _ hg1⟩
      refine (run_equalIn_struct w 9999 t _ _ hf hg2).trans ?_
      simp only [Program.fieldsOf, hu]
      exact eqFields_ok hn1 hn2 r1 r2 9998 _ l b' hl hb
  · rename_i n e hu
    split at hp
    · simp at hp
    · rename_i hg1
      split at hp
      · rename_i k hk hsz
        simp only [Option.some.injEq] at hp; subst hp
        cases h1 <;> cases h2 <;> simp only [planEq, reduceCtorEq, Option.map_eq_some_iff] at hq
        rename_i v1 xs hn1 r1 o1 v2 ys hn2 r2 o2
        obtain ⟨b', hb, hq⟩ := hq
        simp only [Prod.mk.injEq] at hq
        obtain ⟨rfl, rfl⟩ := hq
        have hg1' : P.eqGuardType P.depth t = false := by simpa using hg1
        refine ⟨?_, run_eqGuard_agg w _ t x y _ _ hg1', run_eqGuard_agg w _ t x y _ _ hg1'⟩
        unfold sizeT at hsz
        cases hi : P.info? e with
        | none => simp [hi] at hsz
        | some i =>
          simp only [hi, Option.map_some, Option.some.injEq] at hsz
          refine (run_equalIn_array w 9999 _ _ hu hi).trans ?_
          have hce : P.cellsOf e = 1 := by simp [Program.cellsOf, hi, hsz]
          rw [hce]
          exact eqItems_ok hn1 hn2 r1 r2 9998 hk _ _ hb
      · simp at hp
theorem binD_ok {P : Program} {g : G} {w : World} {op : BinOp} {t : TypeId} {x y : Operand} {v1 v2 : Value} {d1 d2 d : D} (h1 : Rep g w v1 d1) (h2 : Rep g w v2 d2)
    {side : Prop} (hq : binD op (planOf P t x y) d1 d2 = some (side, d)) (hs : side) :
    ∃ v, (do eqGuard op t x y v1 v2; binOp op t v1 v2).run P w = .ok v w ∧ Rep g w v d := by
  by_cases hi : ∃ k a, d1 = .int k a
  · obtain ⟨k, a, rfl⟩ := hi
    cases h1
    rename_i ha
    have hg : (eqGuard op t x y (.int k a) v2).run P w = .ok () w := by cases op <;> rfl
    by_cases hi2 : ∃ k' b, d2 = .int k' b
    · obtain ⟨k', b, rfl⟩ := hi2
      cases h2
      rename_i hb
      simp only [Sem.run_bind, hg, Result.andThen_ok]
      by_cases hop : op = .shl ∨ op = .shr
      · rcases hop with rfl | rfl
        · simp only [binD, Option.some.injEq, Prod.mk.injEq] at hq
          obtain ⟨rfl, rfl⟩ := hq
          refine ⟨.int k (shlI k a b), ?_, .int _ _ hs.2⟩
          simp only [binOp, Op.shift, Int.not_lt.2 hs.1, if_false]
          rw [show k.wrap (a * 2 ^ min b.toNat k.bits) = shlI k a b from wrap_of _ _ hs.2]; rfl
        · simp only [binD, Option.some.injEq, Prod.mk.injEq] at hq
          obtain ⟨rfl, rfl⟩ := hq
          refine ⟨.int k (shrI k a b), ?_, .int _ _ hs.2⟩
          simp only [binOp, Op.shift, Int.not_lt.2 hs.1, if_false]
          rfl
      · have hq' : (if k = k' then binI op k a b else none) = some (side, d) := by
          cases op <;> first | (simp only [binD] at hq; exact hq) | simp at hop
        split at hq'
        · rename_i hk
          subst hk
          obtain ⟨v, hv, r⟩ := binI_ok (P := P) (g := g) (w := w) hq' hs
          refine ⟨v, ?_, r⟩
          rw [← hv]
          cases op <;> first | (simp at hop; done) | (simp [binOp])
        · simp at hq'
    · have hq' : eqO op (planOf P t x y) (.int k a) d2 = some (side, d) := by
        cases d2 <;> first | (simp only [binD] at hq; exact hq) | (exact absurd ⟨_, _, rfl⟩ hi2)
      unfold eqO at hq'
      split at hq' <;> simp [planEq] at hq'
  · by_cases hst : ∃ a, d1 = .str a
    · obtain ⟨a, rfl⟩ := hst
      cases h1
      rename_i s1 e1 b1
      have hg : (eqGuard op t x y (.string s1) v2).run P w = .ok () w := by cases op <;> rfl
      by_cases hst2 : ∃ b, d2 = .str b
      · obtain ⟨b, rfl⟩ := hst2
        cases h2
        rename_i s2 e2 b2
        simp only [Sem.run_bind, hg, Result.andThen_ok]
        obtain ⟨v, hv, r⟩ := binS_ok (P := P) (g := g) (w := w) (op := op) e1 e2 (by simpa [binD] using hq) hs
        refine ⟨v, ?_, r⟩
        rw [← hv]
        cases op <;> simp [binOp]
      · have hq' : eqO op (planOf P t x y) (.str a) d2 = some (side, d) := by
          cases d2 <;> first | (simp only [binD] at hq; exact hq) | (exact absurd ⟨_, rfl⟩ hst2)
        unfold eqO at hq'
        split at hq' <;> simp [planEq] at hq'
    · have hq' : eqO op (planOf P t x y) d1 d2 = some (side, d) := by
        cases d1 <;> first | (simp only [binD] at hq; exact hq) | (exact absurd ⟨_, _, rfl⟩ hi) | (exact absurd ⟨_, rfl⟩ hst)
      unfold eqO at hq'
      split at hq'
      · rename_i p hp
        simp only [Option.map_eq_some_iff] at hq'
        obtain ⟨⟨s', b⟩, hb, hq'⟩ := hq'
        simp only [Prod.mk.injEq] at hq'
        obtain ⟨rfl, rfl⟩ := hq'
        obtain ⟨he, hg, _⟩ := planEq_ok hp h1 h2 hb hs
        refine ⟨.bool b, ?_, .bool _⟩
        simp only [Sem.run_bind, hg, Result.andThen_ok]
        cases h1 <;> first
          | (exact absurd ⟨_, _, rfl⟩ hi)
          | (exact absurd ⟨_, rfl⟩ hst)
          | (cases h2 <;> first | (simp [binOp, he]; done) | (cases p <;> simp [planEq] at hb; done))
      · rename_i p hp
        simp only [Option.map_eq_some_iff] at hq'
        obtain ⟨⟨s', b⟩, hb, hq'⟩ := hq'
        simp only [Prod.mk.injEq] at hq'
        obtain ⟨rfl, rfl⟩ := hq'
        obtain ⟨he, _, hg⟩ := planEq_ok hp h1 h2 hb hs
        refine ⟨.bool (!b), ?_, .bool _⟩
        simp only [Sem.run_bind, hg, Result.andThen_ok]
        cases h1 <;> first
          | (exact absurd ⟨_, _, rfl⟩ hi)
          | (exact absurd ⟨_, rfl⟩ hst)
          | (cases h2 <;> first | (simp [binOp, he]; done) | (cases p <;> simp [planEq] at hb; done))
      · simp at hq'
end Go.DL
namespace Go.DL
open Go
def Runs (P : Program) (g : G) (ν : Nat → Nat) (w : World) (L : Loc) (s : Sem Value) (e : E) : Prop := ∃ v, s.run P w = .ok v w ∧ RepE g ν w L v e
theorem Runs.next {P : Program} {g : G} {ν : Nat → Nat} {w : World} {L : Loc} {s : Sem Value} {e : E} (h : Runs P g ν w L s e) :
    ∃ v, (do pure (Next.value (← s)) : Sem Next).run P w = .ok (.value v) w ∧ RepE g ν w L v e := by
  obtain ⟨v, h1, h2⟩ := h
  exact ⟨v, by simp [h1], h2⟩
section
variable {P : Program} {g : G} {ν : Nat → Nat} {w : World} {L : Loc}
theorem reps_of_dsOf : ∀ {vs : List Value} {es : List E} {ds : List D}, All2 (RepE g ν w L) vs es → dsOf es = some ds → All2 (Rep g w) vs ds
  | _, _, ds, .nil, hd => by simp only [dsOf, Option.some.injEq] at hd; subst hd; exact .nil
  | _, _, ds, .cons (b := e) h t, hd => by
    cases e with
    | d x =>
      simp only [dsOf, Option.map_eq_some_iff] at hd
      obtain ⟨ds', hd', rfl⟩ := hd
      exact .cons h (reps_of_dsOf t hd')
    | loc l o => simp [dsOf] at hd
    | when c e => simp [dsOf] at hd
theorem All2.len {α β : Type} {R : α → β → Prop} {as9 : List α} {bs : List β} (h : All2 R as9 bs) : as9.length = bs.length := by
  induction h with
  | nil => rfl
  | cons _ _ ih => simp [ih]
theorem All2.get {α β : Type} {R : α → β → Prop} {as9 : List α} {bs : List β} (h : All2 R as9 bs) : ∀ (i : Nat) (a : α) (b : β), as9[i]? = some a → bs[i]? = some b → R a b := by
  induction h with
  | nil => intro i a b ha; simp at ha
  | cons h _ ih =>
    intro i a b ha hb
    cases i with
    | zero => simp at ha hb; subst ha; subst hb; exact h
    | succ i => simp at ha hb; exact ih i a b ha hb
theorem All2.take {α β : Type} {R : α → β → Prop} {as9 : List α} {bs : List β} (h : All2 R as9 bs) : ∀ n, All2 R (as9.take n) (bs.take n) := by
  induction h with
  | nil => intro n; simp; exact .nil
  | cons h _ ih => intro n; cases n with
    | zero => exact .nil
    | succ n => exact .cons h (ih n)
theorem All2.drop {α β : Type} {R : α → β → Prop} {as9 : List α} {bs : List β} (h : All2 R as9 bs) : ∀ n, All2 R (as9.drop n) (bs.drop n) := by
  induction h with
  | nil => intro n; simp; exact .nil
  | cons h t ih => intro n; cases n with
    | zero => exact .cons h t
    | succ n => exact ih n
theorem All2.append {α β : Type} {R : α → β → Prop} {as9 as' : List α} {bs bs' : List β} (h : All2 R as9 bs) (h' : All2 R as' bs') : All2 R (as9 ++ as') (bs ++ bs') := by
  induction h with
  | nil => exact h'
  | cons h _ ih => exact .cons h ih
theorem rep_cells {v : Value} {d : D} (h : Rep g w v d) (ho : okPart d = true) : v.cells.size = (cellsOf d).length ∧ (∀ (i : Nat) (x : Value) (y : D), v.cells.toList[i]? = some x → (cellsOf d)[i]? = some y → Rep g w x y) := by
  cases h with
  | agg vs cells hn h one => exact ⟨by simpa [Value.cells, cellsOf] using hn, by simpa [Value.cells, cellsOf] using h⟩
  | any v => simp [okPart] at ho
  | _ =>
    refine ⟨by simp [Value.cells, cellsOf, Go.undef], fun i x y hx hy => ?_⟩
    simp only [Value.cells, cellsOf, Go.undef] at hx hy
    cases i with
    | zero =>
      simp at hx hy
      subst hx; subst hy
      first | assumption | constructor <;> assumption | constructor
    | succ i => simp at hx
end
end Go.DL
namespace Go.DL
open Go
section
variable {P : Program} {g : G} {ν : Nat → Nat} {w : World} {L : Loc}
theorem rep_one {v : Value} {d : D} (h : Rep g w v d) (ho : okPart d = true) : ∀ x ∈ v.cells, x.one1 = true := by
  cases h with
  | agg vs cells hn h one => simpa [Value.cells] using one
  | _ => first
    | (simp [okPart] at ho; done)
    | (intro x hx; simp [Value.cells] at hx; subst hx; rfl)
theorem foldl_set : ∀ (l : List Value) (k off : Nat) (cs : Array Value), off + k + l.length ≤ cs.size →
    ((l.zipIdx k).foldl (fun (cs : Array Value) (x : Value × Nat) => cs.setIfInBounds (off + x.2) x.1) cs).toList = cs.toList.take (off + k) ++ l ++ cs.toList.drop (off + k + l.length)
  | [], k, off, cs, h => by simp
  | v :: l, k, off, cs, h => by
    simp only [List.length_cons] at h
    simp only [List.zipIdx_cons, List.foldl_cons]
    rw [foldl_set l (k + 1) off _ (by simp; omega)]
    simp only [Array.toList_setIfInBounds, List.length_cons]
    apply List.ext_getElem?
    intro i
    simp only [List.getElem?_append, List.getElem?_take, List.getElem?_drop, List.getElem?_set, List.length_append, List.length_take, List.length_set, Array.length_toList, List.length_cons]
    by_cases h1 : i < off + k
    · simp only [show i < min (off + (k + 1)) cs.size + l.length from by omega, show i < min (off + (k + 1)) cs.size from by omega, show i < min (off + k) cs.size + (l.length + 1) from by omega,
        show i < min (off + k) cs.size from by omega, if_true, show i < off + (k + 1) from by omega, h1, show ¬ off + k = i from by omega, if_false]
    · by_cases h2 : i = off + k
      · subst h2
        simp only [show off + k < min (off + (k + 1)) cs.size + l.length from by omega, show off + k < min (off + (k + 1)) cs.size from by omega, show off + k < min (off + k) cs.size + (l.length + 1) from by omega,
          show ¬ off + k < min (off + k) cs.size from by omega, if_true, if_false, show off + k < off + (k + 1) from by omega, show off + k < cs.size from by omega]
        rw [show off + k - min (off + k) cs.size = 0 from by omega]; rfl
      · by_cases h3 : i < off + k + (l.length + 1)
        · simp only [show i < min (off + (k + 1)) cs.size + l.length from by omega, show ¬ i < min (off + (k + 1)) cs.size from by omega, show i < min (off + k) cs.size + (l.length + 1) from by omega,
            show ¬ i < min (off + k) cs.size from by omega, if_true, if_false]
          rw [show i - min (off + k) cs.size = (i - min (off + (k + 1)) cs.size) + 1 from by omega]; rfl
        · simp only [show ¬ i < min (off + (k + 1)) cs.size + l.length from by omega, show ¬ i < min (off + k) cs.size + (l.length + 1) from by omega, if_false]
          rw [show off + (k + 1) + l.length + (i - (min (off + (k + 1)) cs.size + l.length)) = i from by omega, show off + k + (l.length + 1) + (i - (min (off + k) cs.size + (l.length + 1))) = i from by omega]
          simp [show ¬ off + k = i from by omega]
theorem all2_of_get {α β : Type} {R : α → β → Prop} : ∀ {as9 : List α} {bs : List β}, as9.length = bs.length → (∀ (i : Nat) (a : α) (b : β), as9[i]? = some a → bs[i]? = some b → R a b) → All2 R as9 bs
  | [], [], _, _ => .nil
  | a :: as9, b :: bs, hn, h => .cons (h 0 a b rfl rfl) (all2_of_get (by simpa using hn) (fun i x y hx hy => h (i + 1) x y (by simpa using hx) (by simpa using hy)))
  | [], _ :: _, hn, _ => by simp at hn
  | _ :: _, [], hn, _ => by simp at hn
theorem fill_ok (place : Nat → Option (Nat × Nat)) : ∀ (parts : List (Nat × Value)) (pl : List (Nat × Nat)) (ds cs cells : List D) (cv : Array Value),
    (∀ (i : Nat) (x : Nat × Value) (q : Nat × Nat), parts[i]? = some x → pl[i]? = some q → place x.1 = some q) → parts.length = pl.length → All2 (Rep g w) (parts.map (·.2)) ds →
    All2 (Rep g w) cv.toList cells → (∀ v ∈ cv, v.one1 = true) → fillD cells pl ds = some cs →
    ∃ cv', Instr.fill place cv parts = some cv' ∧ All2 (Rep g w) cv'.toList cs ∧ ∀ v ∈ cv', v.one1 = true
  | [], [], ds, cs, cells, cv, _, _, hd, hc, ho, hf => by
    cases hd
    simp only [fillD, Option.some.injEq] at hf
    subst hf
    exact ⟨cv, rfl, hc, ho⟩
  | x :: parts, q :: pl, ds, cs, cells, cv, hpl, hn, hd, hc, ho, hf => by
    obtain ⟨i, v⟩ := x
    obtain ⟨o, n⟩ := q
    cases hd with
    | cons hv hd =>
      rename_i d ds
      simp only [fillD] at hf
      split at hf
      · rename_i hcond
        obtain ⟨h0, h1, h2⟩ := hcond
        have hp := hpl 0 _ _ rfl rfl
        obtain ⟨hsz, hcell⟩ := rep_cells hv h0
        have hlen := hc.len
        have hfold := foldl_set v.cells.toList 0 o cv (by simp [hsz, h1]; simp at hlen; omega)
        simp only [Nat.add_zero, Array.length_toList, hsz, h1] at hfold
        have ha : All2 (Rep g w) (v.cells.toList) (cellsOf d) := all2_of_get (by simpa using hsz) hcell
        generalize hcv2 : (v.cells.toList.zipIdx 0).foldl (fun (cs : Array Value) (x : Value × Nat) => cs.setIfInBounds (o + x.2) x.1) cv = cv2 at hfold
        have hrep : All2 (Rep g w) cv2.toList (setPart cells o (cellsOf d)) := by
          rw [hfold]; unfold setPart; rw [h1]
          exact ((hc.take o).append ha).append (hc.drop (o + n))
        have hone : ∀ x ∈ cv2, x.one1 = true := fun x hx => by
          have hx' : x ∈ cv2.toList := Array.mem_toList_iff.2 hx
          rw [hfold] at hx'
          simp only [List.mem_append] at hx'
          rcases hx' with (hx' | hx') | hx'
          · exact ho x (Array.mem_toList_iff.1 (List.mem_of_mem_take hx'))
          · exact rep_one hv h0 x (Array.mem_toList_iff.1 hx')
          · exact ho x (Array.mem_toList_iff.1 (List.mem_of_mem_drop hx'))
        obtain ⟨cv', hf', r1, r2⟩ := fill_ok place parts pl ds cs _ cv2 (fun i x q hx hq => hpl (i + 1) x q (by simpa using hx) (by simpa using hq)) (by simpa using hn) hd hrep hone hf
        refine ⟨cv', ?_, r1, r2⟩
        simp only [Instr.fill, hp, hsz, h1]
        have : ¬ (n ≠ n || decide (o + n > cv.size)) = true := by simp at hlen; simp; omega
        rw [if_neg (by simpa using this)]
        rw [← hf', ← hcv2]
        congr 1
        rw [← Array.foldl_toList, Array.toList_zipIdx]
      · simp at hf
  | [], _ :: _, _, _, _, _, _, hn, _, _, _, _ => by simp at hn
  | _ :: _, [], _, _, _, _, _, hn, _, _, _, _ => by simp at hn
end
end Go.DL
namespace Go.DL
open Go
section
variable {P : Program} {g : G} {ν : Nat → Nat} {w : World} {L : Loc}
theorem consts_ok : ∀ {vs : List Value} {ds : List D}, consts vs = some ds → All2 (Rep g w) vs ds ∧ ∀ v ∈ vs, v.one1 = true
  | [], ds, h => by simp only [consts, Option.some.injEq] at h; subst h; exact ⟨.nil, fun v hv => by simp at hv⟩
  | v :: vs, ds, h => by
    simp only [consts] at h
    split at h
    · rename_i d ds' h1 h2
      simp only [Option.some.injEq] at h
      subst h
      obtain ⟨r1, r2⟩ := consts_ok h2
      have h0 : Rep g w v d ∧ v.one1 = true := by
        unfold const1 at h1
        split at h1 <;> (try (simp at h1; done))
        · split at h1
          · rename_i hk; simp only [Option.some.injEq] at h1; subst h1; exact ⟨.int _ _ hk, rfl⟩
          · simp at h1
        · simp only [Option.some.injEq] at h1; subst h1; exact ⟨.bool _, rfl⟩
        · split at h1
          · rename_i hk; simp only [Option.some.injEq] at h1; subst h1; exact ⟨.str _ _ rfl hk, rfl⟩
          · simp at h1
        · simp only [Option.some.injEq] at h1; subst h1; exact ⟨.nilptr, rfl⟩
        · simp only [Option.some.injEq] at h1; subst h1; exact ⟨.nilsl, rfl⟩
        · simp only [Option.some.injEq] at h1; subst h1; exact ⟨.nilmap, rfl⟩
        · simp only [Option.some.injEq] at h1; subst h1; exact ⟨.nilfn, rfl⟩
        · simp only [Option.some.injEq] at h1; subst h1; exact ⟨.niliface, rfl⟩
      exact ⟨.cons h0.1 r1, fun x hx => by
        rcases List.mem_cons.1 hx with rfl | hx
        · exact h0.2
        · exact r2 x hx⟩
    · simp at h
theorem const1_ok {v : Value} {d : D} (h : const1 v = some d) : Rep g w v d ∧ v.one1 = true := by
  have := consts_ok (g := g) (w := w) (vs := [v]) (ds := [d]) (by simp [consts, h])
  obtain ⟨h1, h2⟩ := this
  cases h1 with
  | cons h _ => exact ⟨h, h2 v (by simp)⟩
theorem rep_agg {vs : Array Value} {ds : List D} (h : All2 (Rep g w) vs.toList ds) (ho : ∀ v ∈ vs, v.one1 = true) : Rep g w (.agg vs) (.agg ds) := by
  have := Rep.agg (g := g) (w := w) vs.toList ds h.len h.get (fun v hv => ho v (Array.mem_toList_iff.1 hv))
  simpa using this
theorem constD_ok {v : Value} {d : D} (h : constD v = some d) : Rep g w v d := by
  unfold constD at h
  split at h
  · rename_i cs
    simp only [Option.map_eq_some_iff] at h
    obtain ⟨ds, hd, rfl⟩ := h
    obtain ⟨h1, h2⟩ := consts_ok (g := g) (w := w) hd
    exact rep_agg h1 (fun v hv => h2 v (Array.mem_toList_iff.2 hv))
  · exact (const1_ok h).1
theorem places_ok {t : TypeId} {fs : Array Field} (hu : P.underlying t = some (.struct fs)) : ∀ (is : List Nat) (pl : List (Nat × Nat)), placesT P t is = some pl →
    pl.length = is.length ∧ ∀ (i k : Nat) (q : Nat × Nat), is[i]? = some k → pl[i]? = some q → ∃ f, fs[k]? = some f ∧ sizeT P f.type = some q.2 ∧ f.offset = q.1
  | [], pl, h => by simp only [placesT, Option.some.injEq] at h; subst h; simp
  | k :: is, pl, h => by
    cases hl : placesT P t is with
    | none => simp [placesT, hu, hl] at h
    | some l =>
      simp only [placesT, hu, hl] at h
      split at h
      · rename_i f hf
        simp only [Option.map_eq_some_iff] at h
        obtain ⟨n, hn, rfl⟩ := h
        obtain ⟨h1, h2⟩ := places_ok hu is l hl
        refine ⟨by simp [h1], fun i k' q hi hq => ?_⟩
        cases i with
        | zero => simp at hi hq; subst hi; subst hq; exact ⟨f, hf, hn, rfl⟩
        | succ i => exact h2 i k' q (by simpa using hi) (by simpa using hq)
      · simp at h
theorem placesA_ok {t e : TypeId} {m : Nat} (hu : P.underlying t = some (.array m e)) : ∀ (is : List Nat) (pl : List (Nat × Nat)), placesT P t is = some pl →
    pl.length = is.length ∧ ∀ (i k : Nat) (q : Nat × Nat), is[i]? = some k → pl[i]? = some q → ∃ n, sizeT P e = some n ∧ q = (k * n, n)
  | [], pl, h => by simp only [placesT, Option.some.injEq] at h; subst h; simp
  | k :: is, pl, h => by
    cases hl : placesT P t is with
    | none => simp [placesT, hu, hl] at h
    | some l =>
      simp only [placesT, hu, hl, Option.map_eq_some_iff] at h
      obtain ⟨n, hn, rfl⟩ := h
      obtain ⟨h1, h2⟩ := placesA_ok hu is l hl
      refine ⟨by simp [h1], fun i k' q hi hq => ?_⟩
      cases i with
      | zero => simp at hi hq; subst hi; subst hq; exact ⟨n, hn, rfl⟩
      | succ i => exact h2 i k' q (by simpa using hi) (by simpa using hq)
theorem mapM_places : ∀ (fs : List Field), (fs.all fun f => (sizeT P f.type).isSome) = true →
    ∃ pl, fs.mapM (fun f => (P.info? f.type).map fun i => (f.offset, i.size)) = some pl ∧ ∀ (k : Nat) (f : Field) (n : Nat), fs[k]? = some f → sizeT P f.type = some n → pl[k]? = some (f.offset, n)
  | [], _ => ⟨[], by simp, by simp⟩
  | f :: fs, h => by
    simp only [List.all_cons, Bool.and_eq_true] at h
    obtain ⟨pl, h1, h2⟩ := mapM_places fs h.2
    unfold sizeT at h
    cases hi : P.info? f.type with
    | none => simp [hi] at h
    | some i =>
      refine ⟨(f.offset, i.size) :: pl, by simp [List.mapM_cons, hi, h1], fun k f' n hk hn => ?_⟩
      cases k with
      | zero =>
        simp at hk; subst hk
        simp only [sizeT, hi, Option.map_some, Option.some.injEq] at hn
        subst hn; rfl
      | succ k => simpa using h2 k f' n (by simpa using hk) hn
theorem build_ok {t : TypeId} {parts : List (Nat × Value)} {z : Value} {pl : List (Nat × Nat)} {zs ds cs : List D} (hz : (P.info? t).bind (·.zero) = some z) (hp : placesT P t (parts.map (·.1)) = some pl)
    (hsz : sizedT P t = true) (hzs : consts z.cells.toList = some zs) (hd : All2 (Rep g w) (parts.map (·.2)) ds) (hf : fillD zs pl ds = some cs)
    (hne : ∃ d, P.underlying t = some d ∧ ((∃ fs, d = .struct fs) ∨ ∃ m e i, d = .array m e ∧ P.info? e = some i)) :
    ∃ cv, (Instr.build t parts.toArray).run P w = .ok (.agg cv) w ∧ Rep g w (.agg cv) (.agg cs) := by
  obtain ⟨d, hu, hd'⟩ := hne
  obtain ⟨c1, c2⟩ := consts_ok (g := g) (w := w) hzs
  have c2' : ∀ v ∈ z.cells, v.one1 = true := fun v hv => c2 v (Array.mem_toList_iff.2 hv)
  cases hit : P.info? t with
  | none => simp [hit] at hz
  | some it =>
    simp only [hit, Option.bind_some] at hz
    rcases hd' with ⟨fs, rfl⟩ | ⟨m, e, i, rfl, hi⟩
    · simp only [sizedT, hu] at hsz
      obtain ⟨pls, hm, hpls⟩ := mapM_places (P := P) fs.toList hsz
      obtain ⟨h1, h2⟩ := places_ok hu _ _ hp
      obtain ⟨cv, hfill, hrep, hone⟩ := fill_ok (g := g) (w := w) (pls.toArray[·]?) parts pl ds cs zs z.cells (fun i x q hx hq => by
        obtain ⟨f, hf1, hf2, hf3⟩ := h2 i x.1 q (by simp [hx]) hq
        have := hpls x.1 f q.2 (by simpa using hf1) hf2
        simp only [List.getElem?_toArray, this, hf3]) (by simpa using h1.symm) hd c1 c2' hf
      refine ⟨cv, run_build w t _ cv ?_, rep_agg hrep hone⟩
      simp only [Program.built, hit, hu, hz, hm]
      exact hfill
    · obtain ⟨h1, h2⟩ := placesA_ok hu _ _ hp
      obtain ⟨cv, hfill, hrep, hone⟩ := fill_ok (g := g) (w := w) (fun k => some (k * i.size, i.size)) parts pl ds cs zs z.cells (fun j x q hx hq => by
        obtain ⟨n, hn, rfl⟩ := h2 j x.1 q (by simp [hx]) hq
        simp only [sizeT, hi, Option.map_some, Option.some.injEq] at hn
        rw [hn]) (by simpa using h1.symm) hd c1 c2' hf
      refine ⟨cv, run_build w t _ cv ?_, rep_agg hrep hone⟩
      simp only [Program.built, hit, hu, hz, hi]
      exact hfill
end
end Go.DL
namespace Go.DL
open Go
section
variable {P : Program} {g : G} {ν : Nat → Nat} {w : World} {L : Loc} {σ : St}
theorem all2_one {α β : Type} {R : α → β → Prop} {a : α} {bs : List β} (h : All2 R [a] bs) : ∃ b, bs = [b] ∧ R a b := by
  cases h with
  | cons h t => cases t; exact ⟨_, rfl, h⟩
theorem all2_two {α β : Type} {R : α → β → Prop} {a a' : α} {bs : List β} (h : All2 R [a, a'] bs) : ∃ b b', bs = [b, b'] ∧ R a b ∧ R a' b' := by
  cases h with
  | cons h t => obtain ⟨b', rfl, h'⟩ := all2_one t; exact ⟨_, _, rfl, h, h'⟩
theorem foldl_push : ∀ (ns : List Int) (s : ByteArray), (ns.foldl (fun r n => r.push (UInt8.ofNat n.toNat)) s).data.toList = s.data.toList ++ ns.map fun n => UInt8.ofNat n.toNat
  | [], s => by simp
  | n :: ns, s => by rw [List.foldl_cons, foldl_push ns]; simp [ByteArray.push]
theorem sound_load1 {t : TypeId} {x : Value} {e r : E} {side : Prop} (ha : aggT P t = some false) (hx : RepE g ν w L x e) (hL : ∀ l cs, getL L l = some cs → CellsOk g w (ν l) cs) (hS : StOk g σ w)
    (hq : qv L σ .load1 [e] = some (side, r)) : ∃ v, (Instr.loadAt t x).run P w = .ok v w ∧ RepE g ν w L v r := by
  simp only [qv, Option.map_eq_some_iff, Prod.mk.injEq] at hq
  obtain ⟨d, hd, rfl, rfl⟩ := hq
  obtain ⟨b, o, y, rfl, hy, hr, _⟩ := cellGet_ok hL hS hx hd
  exact ⟨y, by simp [Instr.loadAt, Instr.sureAddr, loadVar, aggT_false ha, hy], hr⟩
theorem sound_loadN {t : TypeId} {n : Nat} {x : Value} {e r : E} {side : Prop} (ha : aggT P t = some true) (hsz : sizeT P t = some n) (hx : RepE g ν w L x e) (hL : ∀ l cs, getL L l = some cs → CellsOk g w (ν l) cs) (hS : StOk g σ w)
    (hq : qv L σ (.loadN n) [e] = some (side, r)) (hs : side) : ∃ v, (Instr.loadAt t x).run P w = .ok v w ∧ RepE g ν w L v r := by
  simp only [qv, Option.map_eq_some_iff, Prod.mk.injEq] at hq
  obtain ⟨⟨s', ds⟩, hd, rfl, rfl⟩ := hq
  obtain ⟨a, rfl, vs, hrun, hr⟩ := partGet_ok (P := P) hL hS hx hd hs
  exact ⟨.agg vs.toArray, by simp [Instr.loadAt, Instr.sureAddr, loadVar, aggT_true ha, sizeT_run hsz, hrun], hr⟩
theorem b2sM_ok {b o n cap : Nat} {cs : List D} {v : Value} (hS : StOk g σ w) (hv : Rep g w v (.msl b o n cap 1)) (hcs : cellsAt σ b = some cs) (hlen : o + n ≤ cs.length) (hu : ∀ i, i < n → isU8 (part cs (o + i) 1)) :
    ∃ x : Value, (Conv.bytesToString v).run P w = .ok x w ∧ Rep g w x (.str ((List.range n).map fun i => u8of (part cs (o + i) 1))) := by
  have main : ∀ cap', n ≤ cap' → cap' ≤ big → ∃ x : Value, (Conv.bytesToString (.slice (some ⟨b, o, none⟩) n cap')).run P w = .ok x w ∧ Rep g w x (.str ((List.range n).map fun i => u8of (part cs (o + i) 1))) := by
    intro cap' h1 h2
    obtain ⟨vs, hr, hp⟩ := partCells_ok (P := P) (cellsAt_ok hS hcs) hlen
    have hvs : vs = ((List.range n).map fun i => ((u8of (part cs (o + i) 1)).toNat : Int)).map (Value.int .u8) := by
      generalize hpe : part cs o n = pc at hp
      have hpl : pc.length = n := by rw [← hpe]; simp [part]; omega
      cases hp with
      | agg vs' _ hn hg _ =>
      rw [List.map_map]
      apply List.ext_getElem?
      intro i
      by_cases hi : i < n
      · have hvi : i < vs.length := by omega
        obtain ⟨m, hm⟩ := hu i hi
        have hci : cs[o + i]? = some (.int .u8 m) := by
          have := congrArg (fun l => l[0]?) hm
          simpa [part] using this
        have hpi : pc[i]? = some (.int .u8 m) := by
          rw [← hpe]; simp only [part, List.getElem?_take, List.getElem?_drop, hi, if_true]; exact hci
        have := hg i vs[i] _ (by simp [List.getElem?_eq_getElem hvi]) hpi
        rw [List.getElem?_eq_getElem hvi]
        generalize vs[i] = xv at this
        cases this
        rename_i hin
        simp [hi, hm, u8of]
        simp [inR, IntKind.min, IntKind.max, IntKind.signed, IntKind.bits] at hin
        omega
      · rw [List.getElem?_eq_none (by omega), List.getElem?_eq_none (by simp; omega)]
    refine ⟨_, run_bytesToString w _ _ cap' _ (by rw [hr, hvs]), .str _ _ ?_ (by simp; omega)⟩
    rw [foldl_push]
    simp [List.map_map, Function.comp_def]
  cases hv with
  | msl _ _ _ _ _ h hb => exact main cap h hb
  | mslx a => exact ⟨.string .empty, by simp [Conv.bytesToString, loadCells, loadCellsFrom], .str _ _ rfl (by simp [big])⟩
theorem sound_conv {s d : TypeId} {c : Cv} {x : Value} {e r : E} {side : Prop} (hS : StOk g σ w) (hc : cConv P s d = some c) (hx : RepE g ν w L x e) (hq : qv L σ (.conv c) [e] = some (side, r)) (hs : side) :
    ∃ v, (convert s d x).run P w = .ok v w ∧ RepE g ν w L v r := by
  unfold cConv at hc
  split at hc <;> (try (simp at hc; done))
  · rename_i k0 k h1 h2
    simp only [Option.some.injEq] at hc; subst hc
    cases e with
    | d y =>
      cases y <;> simp only [qv, reduceCtorEq] at hq
      rename_i k' n
      cases hx
      rename_i hn
      split at hq
      · rename_i hk; subst hk
        simp only [Option.some.injEq, Prod.mk.injEq] at hq
        obtain ⟨rfl, rfl⟩ := hq
        exact ⟨.int k n, by simp [convert, run_underlying h1, run_underlying h2, Conv.intToInt, wrap_of _ _ hn], .int _ _ hn⟩
      · simp only [Option.some.injEq, Prod.mk.injEq] at hq
        obtain ⟨rfl, rfl⟩ := hq
        exact ⟨.int k (k.wrap n), by simp [convert, run_underlying h1, run_underlying h2, Conv.intToInt], .int _ _ (wrap_in _ _)⟩
    | loc l o => simp [qv] at hq
    | when b e => simp [qv] at hq
  · rename_i k0 h1 h2
    simp only [Option.some.injEq] at hc; subst hc
    cases e with
    | d y =>
      cases y <;> simp only [qv, reduceCtorEq] at hq
      rename_i k' n
      cases hx
      simp only [Option.some.injEq, Prod.mk.injEq] at hq
      obtain ⟨rfl, rfl⟩ := hq
      exact ⟨.string (Utf8.encode n), by simp [convert, run_underlying h1, run_underlying h2, Conv.intToString], .str _ _ rfl hs⟩
    | loc l o => simp [qv] at hq
    | when b e => simp [qv] at hq
  · rename_i h1 h2
    simp only [Option.some.injEq] at hc; subst hc
    cases e with
    | d y =>
      cases y <;> simp only [qv, reduceCtorEq] at hq
      simp only [Option.some.injEq, Prod.mk.injEq] at hq
      obtain ⟨rfl, rfl⟩ := hq
      cases hx
      rename_i s0 e0 b0
      exact ⟨.string s0, by simp [convert, run_underlying h1, run_underlying h2], .str _ _ e0 b0⟩
    | loc l o => simp [qv] at hq
    | when b e => simp [qv] at hq
  · rename_i el h1 h2
    split at hc <;> (try (simp at hc; done))
    rename_i h3
    simp only [Option.some.injEq] at hc; subst hc
    cases e with
    | d y =>
      cases y <;> simp only [qv, reduceCtorEq] at hq
      · simp only [Option.some.injEq, Prod.mk.injEq] at hq
        obtain ⟨rfl, rfl⟩ := hq
        cases hx
        exact ⟨.string .empty, by simp [convert, run_underlying h1, run_underlying h2, run_underlying h3, Conv.bytesToString], .str _ _ rfl (by simp [big])⟩
      · split at hq <;> (try (simp at hq; done))
        rename_i t n s row hs1
        simp only [Option.some.injEq, Prod.mk.injEq] at hq
        obtain ⟨rfl, rfl⟩ := hq
        subst hs1
        cases hx with
        | sl0 av => exact ⟨.string .empty, by cases av <;> simp [convert, run_underlying h1, run_underlying h2, run_underlying h3, Conv.bytesToString, loadCells, loadCellsFrom], .str _ _ rfl (by simp [big])⟩
        | sl b o _ cap _ _ _ f hl hc hp hr one ht hcap hb =>
          have hf : ∀ i, i < n → f i 0 = .int .u8 ((u8of (row i)).toNat : Int) := fun i hi => by
            obtain ⟨m, hm⟩ := hs i hi
            have := hr i 0 _ hi (by rw [hm]; rfl)
            generalize f i 0 = fv at this
            cases this
            rename_i hin
            rw [hm]; simp only [u8of]
            congr 1
            simp [inR, IntKind.min, IntKind.max, IntKind.signed, IntKind.bits] at hin
            simp; omega
          have hcells : (loadCells ⟨b, o, none⟩ n).run P w = .ok (((List.range n).map fun i => ((u8of (row i)).toNat : Int)).map (Value.int .u8)).toArray w := by
            rw [run_loadCells (P := P) w ⟨b, o, none⟩ n (fun i => f i 0) (fun j hj => by
              have := hc j 0 hj (by omega)
              rw [addr_add]; simpa using this)]
            congr 2
            rw [List.map_map]
            exact List.map_congr_left fun i hi => hf i (by simpa using hi)
          refine ⟨_, by simp [convert, run_underlying h1, run_underlying h2, run_underlying h3, run_bytesToString w _ _ cap _ hcells]; rfl, .str _ _ ?_ (by simp; omega)⟩
          rw [foldl_push]
          simp [List.map_map, Function.comp_def]
      · split at hq <;> (try (simp at hq; done))
        rename_i b o n cap z cs hcs
        split at hq <;> (try (simp at hq; done))
        rename_i hz
        simp only [Option.some.injEq, Prod.mk.injEq] at hq
        obtain ⟨rfl, rfl⟩ := hq
        subst hz
        obtain ⟨xv, hr, hp⟩ := b2sM_ok (P := P) hS hx hcs hs.1 hs.2
        have hconv : (convert s d x).run P w = (Conv.bytesToString x).run P w := by cases hx <;> simp [convert, run_underlying h1, run_underlying h2, run_underlying h3]
        exact ⟨xv, hconv.trans hr, hp⟩
    | loc l o => simp [qv] at hq
    | when b e => simp [qv] at hq
end
end Go.DL
namespace Go.DL
open Go
section
variable {P : Program} {g : G} {ν : Nat → Nat} {w : World} {L : Loc}
theorem rep_int {v : Value} {k : IntKind} {n : Int} (h : Rep g w v (.int k n)) : v = .int k n ∧ inR k n := by
  cases h with
  | int _ _ h => exact ⟨rfl, h⟩
theorem bound_ok {x : Value} {k : IntKind} {n : Int} (h : Rep g w x (.int k n)) {y : Nat} {code : BoundsCode} (h0 : 0 ≤ n) (h1 : n ≤ y) :
    (Instr.sliceBound x y code).run P w = .ok n.toNat w := by
  obtain ⟨rfl, _⟩ := rep_int h
  simp [Instr.sliceBound, asIntOf, h0, h1]
def BoundRep (g : G) (w : World) : Option Value → Option Int → Prop
  | none, none => True
  | some v, some n => ∃ k, Rep g w v (.int k n)
  | _, _ => False
theorem bounds_ok {is : Bool} {n cap : Nat} {lo hi mx : Option Value} {lo' hi' mx' : Option Int} (h1 : BoundRep g w lo lo') (h2 : BoundRep g w hi hi') (h3 : BoundRep g w mx mx')
    (hmh : mx.isSome = true → hi.isSome = true) (a : 0 ≤ lo'.getD 0) (b : lo'.getD 0 ≤ hi'.getD n) (c : hi'.getD n ≤ mx'.getD cap) (d : mx'.getD cap ≤ cap) :
    (Instr.sliceBounds is n cap lo hi mx).run P w = .ok ((lo'.getD 0).toNat, (hi'.getD n).toNat, (mx'.getD cap).toNat) w := by
  cases mx with
  | none =>
    cases mx' with
    | some _ => exact h3.elim
    | none =>
      simp only [Option.getD_none] at c d ⊢
      cases hi with
      | none =>
        cases hi' with
        | some _ => exact h2.elim
        | none =>
          cases lo with
          | none =>
            cases lo' with
            | some _ => exact h1.elim
            | none => simp [Instr.sliceBounds]
          | some lv =>
            cases lo' with
            | none => exact h1.elim
            | some l =>
              obtain ⟨k, hk⟩ := h1
              simp only [Option.getD_some, Option.getD_none] at a b ⊢
              simp [Instr.sliceBounds, bound_ok hk a b]
      | some hv =>
        cases hi' with
        | none => exact h2.elim
        | some hh =>
          obtain ⟨k2, hk2⟩ := h2
          simp only [Option.getD_some] at b c ⊢
          have bo := bound_ok (P := P) hk2 (y := cap) (code := if is then .sliceAcap else .sliceAlen) (by omega) c
          cases lo with
          | none =>
            cases lo' with
            | some _ => exact h1.elim
            | none => simp [Instr.sliceBounds, bo]
          | some lv =>
            cases lo' with
            | none => exact h1.elim
            | some l =>
              obtain ⟨k, hk⟩ := h1
              simp only [Option.getD_some] at a b ⊢
              have bl := bound_ok (P := P) hk (y := hh.toNat) (code := .sliceB) a (by omega)
              simp [Instr.sliceBounds, bo, bl]
  | some mv =>
    cases mx' with
    | none => exact h3.elim
    | some m =>
      obtain ⟨k3, hk3⟩ := h3
      simp only [Option.getD_some] at c d ⊢
      cases hi with
      | none => simp at hmh
      | some hv =>
        cases hi' with
        | none => exact h2.elim
        | some hh =>
          obtain ⟨k2, hk2⟩ := h2
          simp only [Option.getD_some] at b c ⊢
          have bm := bound_ok (P := P) hk3 (y := cap) (code := if is then .slice3Acap else .slice3Alen) (by omega) d
          have bo := bound_ok (P := P) hk2 (y := m.toNat) (code := .slice3B) (by omega) (by omega)
          cases lo with
          | none =>
            cases lo' with
            | some _ => exact h1.elim
            | none => simp [Instr.sliceBounds, bo, bm]
          | some lv =>
            cases lo' with
            | none => exact h1.elim
            | some l =>
              obtain ⟨k, hk⟩ := h1
              simp only [Option.getD_some] at a b ⊢
              have bl := bound_ok (P := P) hk (y := hh.toNat) (code := .slice3C) a (by omega)
              simp [Instr.sliceBounds, bo, bm, bl]
theorem slice_ok {t e : TypeId} {s : Nat} (hu : P.underlying t = some (.slice e)) (hsz : sizeT P e = some s) {x : Value} {d r : D} (hx : Rep g w x d) {lo hi mx : Option Value} {lo' hi' mx' : Option Int}
    (h1 : BoundRep g w lo lo') (h2 : BoundRep g w hi hi') (h3 : BoundRep g w mx mx') (hmh : mx.isSome = true → hi.isSome = true) {side : Prop} (hq : sliceD s lo' hi' mx' d = some (side, r)) (hs : side) :
    ∃ v, (Instr.sliceAt t x lo hi mx).run P w = .ok v w ∧ Rep g w v r := by
  cases d <;> simp only [sliceD, reduceCtorEq] at hq
  ·
    simp only [Option.some.injEq, Prod.mk.injEq] at hq
    obtain ⟨rfl, rfl⟩ := hq
    cases hx
    obtain ⟨e1, e2, e3⟩ := hs
    refine ⟨.slice none 0 0, ?_, .nilsl⟩
    have hb := bounds_ok (P := P) (is := true) (n := 0) (cap := 0) h1 h2 h3 hmh (by omega) (by simp [e1, e2]) (by simp [e2, e3]) (by simp [e3])
    simp only [Instr.sliceAt, Sem.run_bind, run_underlying hu, Result.andThen_ok, Instr.slice, hb]
    simp [e1, e2, e3, sizeT_run hsz]
  ·
    rename_i t n s' row
    split at hq <;> (try (simp at hq; done))
    rename_i hss
    subst hss
    simp only [Option.some.injEq, Prod.mk.injEq] at hq
    obtain ⟨rfl, rfl⟩ := hq
    obtain ⟨a, b, c, d⟩ := hs
    have mk : ∀ (cap : Nat), n ≤ cap → hi'.getD n ≤ mx'.getD cap ∧ mx'.getD cap ≤ cap := fun cap hcap => by
      cases mx' with
      | none => simp only [Option.getD_none]; omega
      | some m => have := d m rfl; simp only [Option.getD_some]; omega
    cases hx with
    | sl0 av _ _ _ ht =>
      have hb := bounds_ok (P := P) (is := true) (n := 0) (cap := 0) h1 h2 h3 hmh a b (mk 0 (Nat.le_refl _)).1 (mk 0 (Nat.le_refl _)).2
      have e2 : hi'.getD ((0 : Nat) : Int) = 0 := by omega
      have e1 : lo'.getD 0 = 0 := by omega
      have e3 : mx'.getD ((0 : Nat) : Int) = 0 := by have := mk 0 (Nat.le_refl _); omega
      simp only [Int.natCast_zero] at e2 e3
      refine ⟨.slice av 0 0, ?_, ?_⟩
      · cases av <;> simp only [Instr.sliceAt, Sem.run_bind, run_underlying hu, Result.andThen_ok, Instr.slice, hb]
        all_goals simp [e1, e2, e3, sizeT_run hsz]
      · have : (hi'.getD ((0 : Nat) : Int) - lo'.getD 0).toNat = 0 := by simp [e1, e2]
        rw [this]
        refine .sl0 av _ _ _ ?_
        intro b hb
        cases mx' with
        | some m => simp only [tokOf] at hb; split at hb <;> simp at hb
        | none =>
          simp only [tokOf] at hb
          split at hb
          · cases t with
            | tip b' => exact absurd rfl (ht b')
            | _ => simp at hb
          · simp at hb
    | sl bb o _ cap _ _ _ f hl hc hp hr one ht hcap hbig =>
      have hb := bounds_ok (P := P) (is := true) (n := n) (cap := cap) h1 h2 h3 hmh a b (mk cap hcap).1 (mk cap hcap).2
      have hm := mk cap hcap
      simp only [Instr.sliceAt, Sem.run_bind, run_underlying hu, Result.andThen_ok, Instr.slice, hb]
      simp only [sizeT_run hsz, Result.andThen_ok, Sem.run_pure]
      generalize hln : lo'.getD 0 = l at *
      generalize hhn : hi'.getD (n : Int) = h at *
      obtain ⟨l, rfl⟩ := Int.eq_ofNat_of_zero_le a
      obtain ⟨h, rfl⟩ := Int.eq_ofNat_of_zero_le (show 0 ≤ h by omega)
      generalize hmn : mx'.getD (cap : Int) = m at *
      obtain ⟨m, rfl⟩ := Int.eq_ofNat_of_zero_le (show 0 ≤ m by omega)
      simp only [Int.toNat_natCast]
      refine ⟨_, rfl, ?_⟩
      have hsub : ((h : Int) - (l : Int)).toNat = h - l := by omega
      rw [hsub]
      have hle : h ≤ n := by omega
      have hlh : l ≤ h := by omega
      have hhm : h ≤ m := by omega
      have hmc : m ≤ cap := by omega
      generalize htk : tokOf t n l h mx' = tk
      have htok : ∀ o', (l = 0 → o' = o) → TokOk w tk bb o' (h - l) (m - l) s' := by
        intro o' ho'
        cases mx' with
        | some m' =>
          simp only [tokOf] at htk
          simp only [Option.getD_some] at hmn
          split at htk
          · subst htk; simp only [TokOk]; omega
          · subst htk; trivial
        | none =>
          simp only [tokOf] at htk
          simp only [Option.getD_none] at hmn
          have hmcap : m = cap := by omega
          split at htk
          · rename_i hhn'
            cases t with
            | none => simp only at htk; subst htk; trivial
            | full => simp only at htk; subst htk; simp only [TokOk] at ht ⊢; omega
            | tip b' =>
              simp only at htk
              split at htk
              · rename_i hl0
                subst htk
                obtain ⟨t1, t2, t3⟩ := ht
                have hl0' : l = 0 := by omega
                exact ⟨t1, (ho' hl0').trans t2, by rw [hmcap, hl0']; simpa using t3⟩
              · subst htk; trivial
          · subst htk; trivial
      by_cases hml : m = l
      · simp only [hml, if_true]
        have hh : h - l = 0 := by omega
        rw [hh, Nat.sub_self]
        have htok' := htok o (fun _ => rfl)
        rw [hh, hml, Nat.sub_self] at htok'
        exact .sl bb o 0 0 s' _ tk (fun _ _ => undef) (fun i hi => by omega) (fun i j hi => by omega) (fun i j hi => by omega) (fun i j d hi => by omega) (fun i j hi => by omega) htok' (by omega) (by omega)
      · simp only [hml, if_false, Option.map_some, addr_add]
        refine .sl bb (o + l * s') (h - l) (m - l) s' _ tk (fun i j => f (l + i) j) (fun i hi => hl _ (by omega)) (fun i j hi hj => ?_) (fun i j hi hj => ?_) (fun i j d hi hd => hr _ _ _ (by omega) hd)
          (fun i j hi hj => one _ _ (by omega) hj) (htok _ (fun h0 => by rw [h0]; simp)) (by omega) (by omega)
        · have := hc (l + i) j (by omega) hj
          rw [show o + l * s' + i * s' + j = o + (l + i) * s' + j from by rw [Nat.add_mul]; omega]; exact this
        · have := hp (l + i) j (by omega) hj
          rw [show o + l * s' + i * s' + j = o + (l + i) * s' + j from by rw [Nat.add_mul]; omega]; exact this
  ·
    rename_i bb o n cap s'
    split at hq <;> (try (simp at hq; done))
    rename_i hss
    subst hss
    simp only [Option.some.injEq, Prod.mk.injEq] at hq
    obtain ⟨rfl, rfl⟩ := hq
    obtain ⟨a, b, c, d⟩ := hs
    cases hx with
    | mslx av _ _ _ =>
      have hb := bounds_ok (P := P) (is := true) (n := 0) (cap := 0) h1 h2 h3 hmh a b c d
      have e3 : mx'.getD ((0 : Nat) : Int) = 0 := by omega
      have e2 : hi'.getD ((0 : Nat) : Int) = 0 := by omega
      have e1 : lo'.getD 0 = 0 := by omega
      refine ⟨.slice (some av) 0 0, ?_, ?_⟩
      · simp only [Instr.sliceAt, Sem.run_bind, run_underlying hu, Result.andThen_ok, Instr.slice, hb]
        simp only [Int.natCast_zero] at e2 e3
        simp [e1, e2, e3, sizeT_run hsz]
      · rw [e1, e2, e3]; exact .mslx _ _ _ _
    | msl _ _ _ _ _ hn hb' =>
      have hb := bounds_ok (P := P) (is := true) (n := n) (cap := cap) h1 h2 h3 hmh a b c d
      simp only [Instr.sliceAt, Sem.run_bind, run_underlying hu, Result.andThen_ok, Instr.slice, hb]
      simp only [sizeT_run hsz, Result.andThen_ok, Sem.run_pure]
      generalize hln : lo'.getD 0 = l at *
      generalize hhn : hi'.getD (n : Int) = h at *
      generalize hmn : mx'.getD (cap : Int) = m at *
      obtain ⟨l, rfl⟩ := Int.eq_ofNat_of_zero_le a
      obtain ⟨h, rfl⟩ := Int.eq_ofNat_of_zero_le (show 0 ≤ h by omega)
      obtain ⟨m, rfl⟩ := Int.eq_ofNat_of_zero_le (show 0 ≤ m by omega)
      simp only [Int.toNat_natCast, show ((h : Int) - (l : Int)).toNat = h - l by omega, show ((m : Int) - (l : Int)).toNat = m - l by omega]
      refine ⟨_, rfl, ?_⟩
      by_cases hml : m = l
      · subst hml
        simp only [if_true]
        exact .msl _ _ _ _ _ (by omega) (by omega)
      · have : ¬ (m : Int) = l := by omega
        simp only [hml, this, if_false, Option.map_some, addr_add]
        exact .msl _ _ _ _ _ (by omega) (by omega)
end
end Go.DL
namespace Go.DL
open Go
section
variable {P : Program} {g : G} {ν : Nat → Nat} {w : World} {L : Loc} {σ : St}
theorem struct_of {s : TypeId} {k : Nat} {f : Field} (h : fieldT P s k = some f) : ∃ fs, P.underlying s = some (.struct fs) ∧ fs[k]? = some f := by
  unfold fieldT at h
  split at h
  · rename_i fs hu; exact ⟨fs, hu, h⟩
  · simp at h
theorem sound_faddr {s : TypeId} {k n : Nat} {f : Field} {x : Value} {e r : E} {side : Prop} (hf : fieldT P s k = some f) (hsz : sizeT P f.type = some n) (hn : n ≠ 0) (hx : RepE g ν w L x e)
    (hq : qv L σ (.faddr f.offset) [e] = some (side, r)) : ∃ v, (Instr.fieldAt s x k).run P w = .ok v w ∧ RepE g ν w L v r := by
  obtain ⟨fs, hu, hk⟩ := struct_of hf
  have run : ∀ b o, (Instr.fieldAt s (.pointer (some ⟨b, o, none⟩)) k).run P w = .ok (.pointer (some ⟨b, o + f.offset, none⟩)) w := fun b o => by
    simp [Instr.fieldAt, run_underlying hu, hk, Instr.sureAddr, fieldPlace, sizeT_run hsz, hn, addr_add]
  cases e with
  | d y =>
    cases y <;> simp only [qv, reduceCtorEq, Option.some.injEq, Prod.mk.injEq] at hq
    · rename_i cells off
      obtain ⟨rfl, rfl⟩ := hq
      cases hx with
      | ep b o _ _ f' h1 h2 h3 one =>
        have := Rep.ep (g := g) (w := w) b o (off + f.offset) cells f' h1 h2 h3 one
        exact ⟨_, run _ _, by rw [Nat.add_assoc]; exact this⟩
    · obtain ⟨rfl, rfl⟩ := hq
      cases hx
      exact ⟨_, run _ _, .ptr _ _⟩
  | loc l o =>
    simp only [qv, Option.some.injEq, Prod.mk.injEq] at hq
    obtain ⟨rfl, rfl⟩ := hq
    obtain ⟨h1, rfl⟩ := hx
    exact ⟨_, run _ _, h1, rfl⟩
  | when b e => simp [qv] at hq
theorem sound_iaddr {t e : TypeId} {n : Nat} {x i : Value} {ex ei r : E} {side : Prop} (hu : P.underlying t = some (.slice e)) (hsz : sizeT P e = some n) (hx : RepE g ν w L x ex) (hi : RepE g ν w L i ei)
    (hq : qv L σ (.iaddr n) [ex, ei] = some (side, r)) (hs : side) : ∃ v, (Instr.indexAt t x i).run P w = .ok v w ∧ RepE g ν w L v r := by
  cases ex with
  | d y =>
    cases y <;> (try (simp [qv] at hq; done))
    · rename_i tk m s' row
      cases ei with
      | d z =>
        cases z <;> simp only [qv, reduceCtorEq] at hq
        rename_i k j
        obtain ⟨rfl, hin⟩ := rep_int hi
        split at hq <;> (try (simp at hq; done))
        rename_i hss; subst hss
        simp only [Option.some.injEq, Prod.mk.injEq] at hq
        obtain ⟨rfl, rfl⟩ := hq
        obtain ⟨h0, h1⟩ := hs
        cases hx with
        | sl0 => omega
        | sl b o _ cap _ _ _ f hl hc hp hr one ht hcap hbig =>
          have hlt : j.toNat < m := by omega
          have := Rep.ep (g := g) (w := w) b (o + j.toNat * s') 0 (row j.toNat) (fun c => f j.toNat c) (fun c hc' => by
            rw [hl _ hlt] at hc'; exact hc _ _ hlt hc') (fun c hc' => by rw [hl _ hlt] at hc'; exact hp _ _ hlt hc') (fun c d hd => hr _ _ _ hlt hd) (fun c hc' => by rw [hl _ hlt] at hc'; exact one _ _ hlt hc')
          refine ⟨_, ?_, this⟩
          simp [Instr.indexAt, asIntOf, run_underlying hu, h0, h1, sizeT_run hsz, addr_add]
      | loc l o => simp [qv] at hq
      | when b e => simp [qv] at hq
    · rename_i b o m cap s'
      cases ei with
      | d z =>
        cases z <;> simp only [qv, reduceCtorEq] at hq
        rename_i k j
        obtain ⟨rfl, hin⟩ := rep_int hi
        split at hq <;> (try (simp at hq; done))
        rename_i hss; subst hss
        simp only [Option.some.injEq, Prod.mk.injEq] at hq
        obtain ⟨rfl, rfl⟩ := hq
        obtain ⟨h0, h1⟩ := hs
        cases hx <;> try omega
        refine ⟨_, ?_, Rep.ptr b (o + j.toNat * s')⟩
        simp [Instr.indexAt, asIntOf, run_underlying hu, h0, h1, sizeT_run hsz, addr_add]
      | loc l o => simp [qv] at hq
      | when b e => simp [qv] at hq
  | loc l o => cases ei <;> simp [qv] at hq
  | when b e => cases ei <;> simp [qv] at hq
theorem sound_iaddrA {t e : TypeId} {m n : Nat} {x i : Value} {ex ei r : E} {side : Prop} (hu : P.underlying t = some (.array m e)) (hsz : sizeT P e = some n) (hx : RepE g ν w L x ex) (hi : RepE g ν w L i ei)
    (hq : qv L σ (.iaddrA m n) [ex, ei] = some (side, r)) (hs : side) : ∃ v, (Instr.indexAt t x i).run P w = .ok v w ∧ RepE g ν w L v r := by
  cases ei with
  | d z =>
    cases z <;> (try (cases ex <;> (try (rename_i y; cases y)) <;> simp [qv] at hq; done))
    rename_i k j
    obtain ⟨rfl, hin⟩ := rep_int hi
    have run : ∀ b o, (0 ≤ j ∧ j < (m : Int)) → (Instr.indexAt t (.pointer (some ⟨b, o, none⟩)) (.int k j)).run P w = .ok (.pointer (some ⟨b, o + j.toNat * n, none⟩)) w := fun b o h => by
      simp [Instr.indexAt, asIntOf, run_underlying hu, h.1, h.2, sizeT_run hsz, addr_add, Instr.sureAddr]
    cases ex with
    | d y =>
      cases y <;> simp only [qv, reduceCtorEq, Option.some.injEq, Prod.mk.injEq] at hq
      · rename_i cells off
        obtain ⟨rfl, rfl⟩ := hq
        cases hx with
        | ep b o _ _ f' h1 h2 h3 one =>
          have := Rep.ep (g := g) (w := w) b o (off + j.toNat * n) cells f' h1 h2 h3 one
          exact ⟨_, run _ _ hs, by rw [Nat.add_assoc]; exact this⟩
      · rename_i b o
        obtain ⟨rfl, rfl⟩ := hq
        cases hx
        exact ⟨_, run _ _ hs, Rep.ptr _ _⟩
    | loc l o =>
      simp only [qv, Option.some.injEq, Prod.mk.injEq] at hq
      obtain ⟨rfl, rfl⟩ := hq
      obtain ⟨h1, rfl⟩ := hx
      exact ⟨_, run _ _ hs, h1, rfl⟩
    | when b e => simp [qv] at hq
  | loc l o => cases ex <;> (try (rename_i y; cases y)) <;> simp [qv] at hq
  | when b e => cases ex <;> (try (rename_i y; cases y)) <;> simp [qv] at hq
theorem ev {s : Sem Value} {e : E} (h : ∃ v, s.run P w = .ok v w ∧ RepE g ν w L v e) :
    ∃ v, (do pure (Next.value (← s)) : Sem Next).run P w = .ok (.value v) w ∧ RepE g ν w L v e := Runs.next h
theorem sound_nilck {x : Value} {e r : E} {side : Prop} {op : Operand} {ρv : Operand → Value} (hv : ρv op = x) (hx : RepE g ν w L x e) (hq : qv L σ .nilck [e] = some (side, r)) (dst : Option Nat) (ty : TypeId) (pos : String)
    (af : Array Edge) (gd : Option (Nat × Bool)) : ∃ v, (execOp ρv ⟨dst, .nilCheck op, ty, pos, af, gd⟩).run P w = .ok (.value v) w ∧ RepE g ν w L v r := by
  subst hv
  cases e with
  | d y =>
    cases y <;> simp only [qv, reduceCtorEq, Option.some.injEq, Prod.mk.injEq] at hq
    · obtain ⟨rfl, rfl⟩ := hq
      refine ⟨_, ?_, hx⟩
      have hx' : Rep g w (ρv op) _ := hx
      generalize hz : ρv op = z at hx'
      cases hx'
      simp [execOp, hz]
    · obtain ⟨rfl, rfl⟩ := hq
      refine ⟨_, ?_, hx⟩
      have hx' : Rep g w (ρv op) _ := hx
      generalize hz : ρv op = z at hx'
      cases hx'
      simp [execOp, hz]
    · rename_i fn fs cs
      refine ⟨ρv op, ?_, ?_⟩
      · have hx' : Rep g w (ρv op) _ := hx
        generalize hz : ρv op = z at hx'
        cases hx'
        cases fn <;> simp at hq
        · simp [execOp, hz]
        · simp [execOp, hz]
      · cases fn <;> simp at hq
        · obtain ⟨_, rfl⟩ := hq; exact hx
        · obtain ⟨_, rfl⟩ := hq; exact hx
  | loc l o =>
    simp only [qv, Option.some.injEq, Prod.mk.injEq] at hq
    obtain ⟨rfl, rfl⟩ := hq
    refine ⟨_, ?_, hx⟩
    obtain ⟨_, h2⟩ := hx
    simp [execOp, h2]
  | when b e => simp [qv] at hq
end
end Go.DL
namespace Go.DL
open Go
section
variable {P : Program} {g : G} {ν : Nat → Nat} {w : World} {L : Loc} {σ : St}
theorem bounds_rep {ρv : Operand → Value} {lo hi mx : Option Operand} {es : List E} {l h m : Option Int} (hes : All2 (RepE g ν w L) ((optL lo ++ optL hi ++ optL mx).map ρv) es)
    (hl : intArgs [lo.isSome, hi.isSome, mx.isSome] es = some [l, h, m]) : BoundRep g w (lo.map ρv) l ∧ BoundRep g w (hi.map ρv) h ∧ BoundRep g w (mx.map ρv) m := by
  have step : ∀ (o : Option Operand) (rest : List Operand) (es : List E) (bs : List Bool) (r : List (Option Int)), All2 (RepE g ν w L) ((optL o ++ rest).map ρv) es → intArgs (o.isSome :: bs) es = some r →
      ∃ x r' es', r = x :: r' ∧ BoundRep g w (o.map ρv) x ∧ intArgs bs es' = some r' ∧ All2 (RepE g ν w L) (rest.map ρv) es' := by
    intro o rest es bs r hes hl
    cases o with
    | none =>
      simp only [Option.isSome_none, intArgs, Option.map_eq_some_iff] at hl
      obtain ⟨r', hr', rfl⟩ := hl
      exact ⟨none, r', es, rfl, trivial, hr', by simpa [optL] using hes⟩
    | some x =>
      simp only [optL, Option.toList_some, List.singleton_append, List.map_cons] at hes
      cases hes with
      | cons hx ht =>
        rename_i e es
        cases e with
        | d y =>
          cases y <;> simp only [Option.isSome_some, intArgs, reduceCtorEq, Option.map_eq_some_iff] at hl
          obtain ⟨r', hr', rfl⟩ := hl
          exact ⟨_, r', es, rfl, ⟨_, hx⟩, hr', ht⟩
        | loc l o => simp [intArgs] at hl
        | when c e => simp [intArgs] at hl
  rw [List.append_assoc] at hes
  obtain ⟨x, r1, es1, e1, b1, hl1, hes1⟩ := step lo _ es _ _ hes hl
  obtain ⟨y, r2, es2, e2, b2, hl2, hes2⟩ := step hi _ es1 _ _ hes1 hl1
  obtain ⟨z, r3, es3, e3, b3, hl3, hes3⟩ := step mx [] es2 _ _ (by simpa using hes2) hl2
  subst e2; subst e3
  simp only [List.cons.injEq] at e1
  obtain ⟨rfl, rfl, rfl, rfl⟩ := e1
  exact ⟨b1, b2, b3⟩
theorem rep_str {v : Value} {l : List UInt8} (h : Rep g w v (.str l)) : ∃ s : ByteArray, v = .string s ∧ s.data.toList = l ∧ l.length ≤ big := by
  cases h with
  | str s _ h hb => exact ⟨s, rfl, h, hb⟩
theorem rep_bool {v : Value} {b : Bool} (h : Rep g w v (.bool b)) : v = .bool b := by
  cases h; rfl
theorem sound_sliceS {t : TypeId} (hu : P.underlying t = some .string) {ρv : Operand → Value} {x : Operand} {lo hi : Option Operand} {es : List E} (hes : All2 (RepE g ν w L) ((x :: (optL lo ++ optL hi)).map ρv) es)
    {side : Prop} {r : E} (hq : qv L σ (.sliceS lo.isSome hi.isSome) es = some (side, r)) (hs : side) :
    ∃ v, (Instr.sliceAt t (ρv x) (lo.map ρv) (hi.map ρv) none).run P w = .ok v w ∧ RepE g ν w L v r := by
  simp only [List.map_cons] at hes
  cases hes with
  | cons hx ht =>
    rename_i e es
    cases e with
    | loc l o => simp [qv] at hq
    | when c e => simp [qv] at hq
    | d y =>
      cases y <;> (try (simp [qv] at hq; done))
      rename_i s
      simp only [qv] at hq
      split at hq
      · rename_i l h m hl
        simp only [Option.some.injEq, Prod.mk.injEq] at hq
        obtain ⟨rfl, rfl⟩ := hq
        obtain ⟨b1, b2, b3⟩ := bounds_rep (mx := none) (by simpa [optL] using ht) hl
        obtain ⟨a, b, c⟩ := hs
        obtain ⟨s0, hs0, e0, hb0⟩ := rep_str hx
        have hsz : s0.size = s.length := by rw [← e0]; rfl
        have hb := bounds_ok (P := P) (is := false) (n := s0.size) (cap := s0.size) (mx := none) (mx' := none) b1 b2 trivial (by simp) a (by rw [hsz]; exact b) (by rw [hsz]; simpa using c) (by simp)
        simp only [Instr.sliceAt, Sem.run_bind, run_underlying hu, Result.andThen_ok, Instr.slice, hs0]
        simp only [Option.isSome_none, Bool.false_eq_true, if_false, hb, Result.andThen_ok, Sem.run_pure, Sem.run_bind]
        refine ⟨_, rfl, .str _ _ ?_ ?_⟩
        · rw [hsz]
          simp only [ByteArray.data_extract, Array.toList_extract, List.extract_eq_take_drop, e0]
        · simp; omega
      · simp at hq
theorem sound_slice {t el : TypeId} {n : Nat} (hu : P.underlying t = some (.slice el)) (hsz : sizeT P el = some n) {ρv : Operand → Value} {x : Operand} {lo hi mx : Option Operand} {es : List E}
    (hmh : mx.isSome = true → hi.isSome = true) (hes : All2 (RepE g ν w L) ((x :: (optL lo ++ optL hi ++ optL mx)).map ρv) es)
    {side : Prop} {r : E} (hq : qv L σ (.slice n lo.isSome hi.isSome mx.isSome) es = some (side, r)) (hs : side) :
    ∃ v, (Instr.sliceAt t (ρv x) (lo.map ρv) (hi.map ρv) (mx.map ρv)).run P w = .ok v w ∧ RepE g ν w L v r := by
  simp only [List.map_cons] at hes
  cases hes with
  | cons hx ht =>
    rename_i e es
    cases e with
    | loc l o => simp [qv] at hq
    | when c e => simp [qv] at hq
    | d y =>
      simp only [qv] at hq
      split at hq
      · rename_i l h m hl
        simp only [Option.map_eq_some_iff, Prod.mk.injEq] at hq
        obtain ⟨⟨s', r'⟩, hr', rfl, rfl⟩ := hq
        obtain ⟨b1, b2, b3⟩ := bounds_rep ht hl
        exact slice_ok hu hsz hx b1 b2 b3 (by simpa using hmh) hr' hs
      · simp at hq
theorem sound_sliceA {t el : TypeId} {k n : Nat} (hu : P.underlying t = some (.array k el)) (hsz : sizeT P el = some n) {ρv : Operand → Value} {x : Operand} {lo hi mx : Option Operand} {es : List E}
    (hmh : mx.isSome = true → hi.isSome = true) (hes : All2 (RepE g ν w L) ((x :: (optL lo ++ optL hi ++ optL mx)).map ρv) es)
    {side : Prop} {r : E} (hq : qv L σ (.sliceA k n lo.isSome hi.isSome mx.isSome) es = some (side, r)) (hs : side) :
    ∃ v, (Instr.sliceAt t (ρv x) (lo.map ρv) (hi.map ρv) (mx.map ρv)).run P w = .ok v w ∧ RepE g ν w L v r := by
  simp only [List.map_cons] at hes
  cases hes with
  | cons hx ht =>
    rename_i e es
    cases e with
    | loc l o => simp [qv] at hq
    | when c e => simp [qv] at hq
    | d y =>
      cases y <;> (try (simp [qv] at hq; done))
      rename_i b o
      simp only [qv] at hq
      split at hq
      · rename_i l h m hl
        simp only [Option.some.injEq, Prod.mk.injEq] at hq
        obtain ⟨rfl, rfl⟩ := hq
        obtain ⟨b1, b2, b3⟩ := bounds_rep ht hl
        obtain ⟨h1, h2, h3, h4, h5⟩ := hs
        have hb := bounds_ok (P := P) (is := false) (n := k) (cap := k) b1 b2 b3 (by simpa using hmh) h1 h2 h3 h4
        have hxv : ρv x = .pointer (some ⟨b, o, none⟩) := by
          have hx' : Rep g w (ρv x) (.ptr b o) := hx
          generalize ρv x = xv at hx'
          cases hx'; rfl
        have hrep : Rep g w (.slice (some ⟨b, (if m.getD (k : Int) = l.getD 0 then o else o + (l.getD 0).toNat * n), none⟩) (h.getD (k : Int) - l.getD 0).toNat (m.getD (k : Int) - l.getD 0).toNat)
            (.msl b (if m.getD (k : Int) = l.getD 0 then o else o + (l.getD 0).toNat * n) (h.getD (k : Int) - l.getD 0).toNat (m.getD (k : Int) - l.getD 0).toNat n) := .msl _ _ _ _ _ (by omega) (by omega)
        refine ⟨_, ?_, hrep⟩
        have e1 : (h.getD (k : Int) - l.getD 0).toNat = (h.getD (k : Int)).toNat - (l.getD 0).toNat := by omega
        have e2 : (m.getD (k : Int) - l.getD 0).toNat = (m.getD (k : Int)).toNat - (l.getD 0).toNat := by omega
        by_cases hm : m.getD (k : Int) = l.getD 0
        · have hm' : (m.getD (k : Int)).toNat = (l.getD 0).toNat := by omega
          simp only [Instr.sliceAt, hxv, Instr.sureAddr, Sem.run_bind, run_underlying hu, Result.andThen_ok, Sem.run_pure, hb, sizeT_run hsz, hm, if_true, e1, hm']
          simp
        · have hm' : ¬ (m.getD (k : Int)).toNat = (l.getD 0).toNat := by omega
          simp only [Instr.sliceAt, hxv, Instr.sureAddr, Sem.run_bind, run_underlying hu, Result.andThen_ok, Sem.run_pure, hb, sizeT_run hsz, hm, hm', if_false, e1, e2, addr_add]
      · simp at hq
end
end Go.DL
namespace Go.DL
open Go
section
variable {P : Program} {g : G} {ν : Nat → Nat} {w : World} {L : Loc} {σ : St}
theorem sound_fld {s : TypeId} {k : Nat} {f : Field} {x : Value} {e r : E} {side : Prop} {q : Q} (hf : fieldT P s k = some f)
    (hq0 : (aggT P f.type = some true ∧ ∃ n, sizeT P f.type = some n ∧ q = .fldN f.offset n) ∨ (aggT P f.type = some false ∧ q = .fld1 f.offset)) (hx : RepE g ν w L x e)
    (hq : qv L σ q [e] = some (side, r)) (hs : side) : ∃ v, (Instr.field s x k).run P w = .ok v w ∧ RepE g ν w L v r := by
  obtain ⟨fs, hu, hk⟩ := struct_of hf
  rcases hq0 with ⟨ha, n, hn, rfl⟩ | ⟨ha, rfl⟩
  · cases e with
    | d y =>
      cases y <;> simp only [qv, reduceCtorEq, Option.some.injEq, Prod.mk.injEq] at hq
      obtain ⟨rfl, rfl⟩ := hq
      cases hx with
      | agg vs cells hl h one =>
        rename_i cs
        refine ⟨.agg (vs.toArray.extract f.offset (f.offset + n)), ?_, ?_⟩
        · simp [Instr.field, run_underlying hu, hk, asAgg, Go.part, aggT_true ha, sizeT_run hn]
        · have : vs.toArray.extract f.offset (f.offset + n) = ((vs.drop f.offset).take n).toArray := by
            apply Array.ext'
            simp [List.extract_eq_take_drop, Nat.add_sub_cancel_left]
          rw [this]
          exact rep_agg (by simpa [part] using ((all2_of_get hl h).drop f.offset).take n) (fun v hv => one v (List.mem_of_mem_drop (List.mem_of_mem_take (by simpa using hv))))
    | loc l o => simp [qv] at hq
    | when b e => simp [qv] at hq
  · cases e with
    | d y =>
      cases y <;> simp only [qv, reduceCtorEq, Option.map_eq_some_iff, Prod.mk.injEq] at hq
      obtain ⟨d, hd, rfl, rfl⟩ := hq
      cases hx with
      | agg vs cells hl h one =>
        obtain ⟨v, hv, hr⟩ := rep_cell hl h hd
        exact ⟨v, by simp [Instr.field, run_underlying hu, hk, asAgg, Go.part, aggT_false ha, hv], hr⟩
    | loc l o => simp [qv] at hq
    | when b e => simp [qv] at hq
theorem sound_idxS {t : TypeId} {x i : Value} {ex ei r : E} {side : Prop} (hu : P.underlying t = some .string) (hx : RepE g ν w L x ex) (hi : RepE g ν w L i ei)
    (hq : qv L σ .idxS [ex, ei] = some (side, r)) (hs : side) : ∃ v, (Instr.index t x i).run P w = .ok v w ∧ RepE g ν w L v r := by
  cases ex with
  | d y =>
    cases y <;> (try (simp [qv] at hq; done))
    rename_i s
    cases ei with
    | d z =>
      cases z <;> simp only [qv, reduceCtorEq, Option.some.injEq, Prod.mk.injEq] at hq
      rename_i k j
      obtain ⟨rfl, hin⟩ := rep_int hi
      obtain ⟨s0, rfl, e0, hb⟩ := rep_str hx
      obtain ⟨rfl, rfl⟩ := hq
      obtain ⟨h0, h1⟩ := hs
      have hsz : s0.size = s.length := by rw [← e0]; rfl
      have hlt : j.toNat < s0.size := by omega
      have hget : s0[j.toNat]? = some (s.getD j.toNat 0) := by
        have h3 : j.toNat < s.length := by omega
        have : s0[j.toNat]? = s0.data.toList[j.toNat]? := by
          rw [getElem?_pos s0 j.toNat hlt, Array.getElem?_toList, Array.getElem?_eq_getElem (show j.toNat < s0.data.size from hlt)]
          rfl
        rw [this, e0]
        simp [List.getD, List.getElem?_eq_getElem h3]
      refine ⟨_, ?_, .int _ _ (inR_u8 _)⟩
      simp [Instr.index, asIntOf, run_underlying hu, h0, hget]
    | loc l o => simp [qv] at hq
    | when b e => simp [qv] at hq
  | loc l o => cases ei <;> simp [qv] at hq
  | when b e => cases ei <;> simp [qv] at hq
theorem sound_idxA {t e : TypeId} {m n : Nat} {b : Bool} {x i : Value} {ex ei r : E} {side : Prop} (hu : P.underlying t = some (.array m e)) (ha : aggT P e = some b) (hsz : sizeT P e = some n) (hx : RepE g ν w L x ex) (hi : RepE g ν w L i ei)
    (hq : qv L σ (.idxA m n !b) [ex, ei] = some (side, r)) (hs : side) : ∃ v, (Instr.index t x i).run P w = .ok v w ∧ RepE g ν w L v r := by
  cases ex with
  | d y =>
    cases y <;> (try (cases b <;> simp [qv] at hq; done))
    rename_i cs
    cases ei with
    | d z =>
      cases z <;> (try (cases b <;> simp [qv] at hq; done))
      rename_i k j
      obtain ⟨rfl, hin⟩ := rep_int hi
      cases hx with
      | agg vs _ hn h one =>
      cases b with
      | false =>
        simp only [Bool.not_false, qv, Option.map_eq_some_iff, Prod.mk.injEq] at hq
        obtain ⟨d, hd, rfl, rfl⟩ := hq
        obtain ⟨h0, h1⟩ := hs
        obtain ⟨v, hv, hr⟩ := rep_cell hn h hd
        refine ⟨v, ?_, hr⟩
        simp only [Instr.index, asIntOf, Sem.run_bind, Sem.run_pure, Result.andThen_ok, run_underlying hu, sizeT_run hsz]
        rw [if_pos ⟨h0, h1⟩]
        have hv' : vs.toArray[j.toNat * n]? = some v := by rw [List.getElem?_toArray]; exact hv
        rw [Sem.run_bind, sizeT_run hsz]
        exact part_run ha hv'
      | true =>
        simp only [Bool.not_true, qv, Option.some.injEq, Prod.mk.injEq] at hq
        obtain ⟨rfl, rfl⟩ := hq
        obtain ⟨h0, h1, h2⟩ := hs
        have hlen : j.toNat * n + n ≤ vs.length := by omega
        refine ⟨.agg (vs.toArray.extract (j.toNat * n) (j.toNat * n + n)), ?_, ?_⟩
        · simp only [Instr.index, asIntOf, Sem.run_bind, Sem.run_pure, Result.andThen_ok, run_underlying hu, sizeT_run hsz]
          rw [if_pos ⟨h0, h1⟩]
          simp [Go.part, aggT_true ha, sizeT_run hsz]
        · have : (vs.toArray.extract (j.toNat * n) (j.toNat * n + n)) = ((vs.drop (j.toNat * n)).take n).toArray := by
            apply Array.ext'
            simp [List.extract_eq_take_drop]
          rw [this]
          have hs2 : part cs (j.toNat * n) n = (cs.drop (j.toNat * n)).take n := rfl
          rw [hs2]
          have hall := (all2_of_get hn h).drop (j.toNat * n) |>.take n
          exact .agg _ _ hall.len hall.get (fun v hv => one v (List.mem_of_mem_drop (List.mem_of_mem_take hv)))
    | loc l o => cases b <;> simp [qv] at hq
    | when c e => cases b <;> simp [qv] at hq
  | loc l o => cases ei <;> cases b <;> simp [qv] at hq
  | when c e => cases ei <;> cases b <;> simp [qv] at hq
theorem sound_lenS {t : TypeId} {ts : Array TypeId} {x : Value} {e r : E} {side : Prop} (ht : ts[0]? = some t) (hu : P.underlying t = some .string) (hx : RepE g ν w L x e)
    (hq : qv L σ .lenS [e] = some (side, r)) (ty : TypeId) : ∃ v, (Builtin.len_ ts ty #[x]).run P w = .ok v w ∧ RepE g ν w L v r := by
  cases e with
  | d y =>
    cases y <;> simp only [qv, reduceCtorEq, Option.some.injEq, Prod.mk.injEq] at hq
    obtain ⟨rfl, rfl⟩ := hq
    obtain ⟨s0, rfl, e0, hb⟩ := rep_str hx
    rename_i s
    have hsz : s0.size = s.length := by rw [← e0]; rfl
    refine ⟨_, ?_, .int _ _ (inR_natCast hb)⟩
    simp [Builtin.len_, ht, run_underlying hu, goInt, hsz]
  | loc l o => simp [qv] at hq
  | when b e => simp [qv] at hq
theorem sound_lenL {t el : TypeId} {ts : Array TypeId} {x : Value} {e r : E} {side : Prop} (ht : ts[0]? = some t) (hu : P.underlying t = some (.slice el)) (hx : RepE g ν w L x e)
    (hq : qv L σ .lenL [e] = some (side, r)) (ty : TypeId) : ∃ v, (Builtin.len_ ts ty #[x]).run P w = .ok v w ∧ RepE g ν w L v r := by
  cases e with
  | d y =>
    cases y <;> simp only [qv, reduceCtorEq, Option.some.injEq, Prod.mk.injEq] at hq
    · obtain ⟨rfl, rfl⟩ := hq
      cases hx
      exact ⟨_, by simp [Builtin.len_, ht, run_underlying hu, goInt], .int _ _ (inR_natCast (n := 0) (Nat.zero_le _))⟩
    · obtain ⟨rfl, rfl⟩ := hq
      cases hx with
      | sl0 => exact ⟨_, by simp [Builtin.len_, ht, run_underlying hu, goInt], .int _ _ (inR_natCast (n := 0) (Nat.zero_le _))⟩
      | sl b o _ cap _ _ _ f hl hc hp hr one ht' hcap hbig =>
        exact ⟨_, by simp [Builtin.len_, ht, run_underlying hu, goInt], .int _ _ (inR_natCast (by omega))⟩
    · obtain ⟨rfl, rfl⟩ := hq
      cases hx with
      | mslx => exact ⟨_, by simp [Builtin.len_, ht, run_underlying hu, goInt], .int _ _ (inR_natCast (n := 0) (Nat.zero_le _))⟩
      | msl _ _ _ _ _ h1 h2 => exact ⟨_, by simp [Builtin.len_, ht, run_underlying hu, goInt], .int _ _ (inR_natCast (by omega))⟩
  | loc l o => simp [qv] at hq
  | when b e => simp [qv] at hq
theorem sound_lenA {t el : TypeId} {n : Nat} {ts : Array TypeId} {x : Value} {e r : E} {side : Prop} (ht : ts[0]? = some t) (hu : P.underlying t = some (.array n el))
    (hq : qv L σ (.lenA n) [e] = some (side, r)) (hs : side) (ty : TypeId) : ∃ v, (Builtin.len_ ts ty #[x]).run P w = .ok v w ∧ RepE g ν w L v r := by
  simp only [qv, Option.some.injEq, Prod.mk.injEq] at hq
  obtain ⟨rfl, rfl⟩ := hq
  refine ⟨.int .i64 n, ?_, .int _ _ hs⟩
  simp only [Builtin.len_, ht]
  cases x <;> simp [run_underlying hu, goInt]
theorem sound_minmax {x y : Value} {ex ey r : E} {side : Prop} (mx : Bool) (hx : RepE g ν w L x ex) (hy : RepE g ν w L y ey) (hq : qv L σ (if mx then .max else .min) [ex, ey] = some (side, r)) (ts : Array TypeId) (ty : TypeId) :
    ∃ v, (if mx then Builtin.max_ ts ty #[x, y] else Builtin.min_ ts ty #[x, y]).run P w = .ok v w ∧ RepE g ν w L v r := by
  cases ex with
  | d a =>
    cases a <;> (try (cases mx <;> simp [qv] at hq; done))
    rename_i k n
    cases ey with
    | d b =>
      cases b <;> (try (cases mx <;> simp [qv] at hq; done))
      rename_i k' m
      obtain ⟨rfl, h1⟩ := rep_int hx
      obtain ⟨rfl, h2⟩ := rep_int hy
      cases mx
      · simp only [qv, Bool.false_eq_true, if_false] at hq
        split at hq <;> (try (simp at hq; done))
        rename_i hk; subst hk
        simp only [Option.some.injEq, Prod.mk.injEq] at hq
        obtain ⟨rfl, rfl⟩ := hq
        refine ⟨.int k (Min.min n m), ?_, .int _ _ ?_⟩
        · have : (if m < n then m else n) = Min.min n m := by split <;> omega
          simp [Builtin.min_, Builtin.min2, this]
        · unfold inR at *; omega
      · simp only [qv, if_true] at hq
        split at hq <;> (try (simp at hq; done))
        rename_i hk; subst hk
        simp only [Option.some.injEq, Prod.mk.injEq] at hq
        obtain ⟨rfl, rfl⟩ := hq
        refine ⟨.int k (Max.max n m), ?_, .int _ _ ?_⟩
        · have : (if m > n then m else n) = Max.max n m := by split <;> omega
          simp [Builtin.max_, Builtin.max2, this]
        · unfold inR at *; omega
    | loc l o => cases mx <;> simp [qv] at hq
    | when b e => cases mx <;> simp [qv] at hq
  | loc l o => cases mx <;> cases ey <;> simp [qv] at hq
  | when b e => cases mx <;> cases ey <;> simp [qv] at hq
theorem sound_tassert {x : Value} {t xt : TypeId} {ok : Bool} {z : D} {e r : E} {side : Prop} (hu : ∃ d, P.underlying t = some d ∧ ∀ ms, d ≠ .interface ms) (hz : zero1 P t = some z) (hx : RepE g ν w L x e)
    (hq : qv L σ (.tassert t ok z) [e] = some (side, r)) : ∃ v, (Instr.typeAssert x xt t ok).run P w = .ok v w ∧ RepE g ν w L v r := by
  obtain ⟨d, hu, hni⟩ := hu
  have hzero : ∃ zv, (zeroValue t).run P w = .ok zv w ∧ Rep g w zv z := by
    unfold zero1 at hz
    cases hi : P.info? t with
    | none => simp [hi] at hz
    | some i =>
      cases hzz : i.zero with
      | none => simp [hi, hzz] at hz
      | some zv => simp only [hi, hzz] at hz; exact ⟨zv, by simp [zeroValue, typeInfo, hi, hzz], constD_ok hz⟩
  cases e with
  | d y =>
    cases y <;> (try (cases ok <;> simp [qv] at hq; done))
    · rename_i t' v'
      cases hx with
      | iface _ v _ hv =>
        cases ok
        · simp only [qv] at hq
          split at hq <;> (try (simp at hq; done))
          rename_i htt; subst htt
          simp only [Option.some.injEq, Prod.mk.injEq] at hq
          obtain ⟨rfl, rfl⟩ := hq
          refine ⟨v, ?_, hv⟩
          simp only [Instr.typeAssert, Sem.run_bind, run_underlying hu, Result.andThen_ok]
          cases d <;> first | (simp; done) | (exact absurd rfl (hni _))
        · simp only [qv] at hq
          split at hq <;> (try (simp at hq; done))
          rename_i htt; subst htt
          simp only [Option.some.injEq, Prod.mk.injEq] at hq
          obtain ⟨rfl, rfl⟩ := hq
          refine ⟨.tuple #[v, .bool true], ?_, ?_⟩
          · simp only [Instr.typeAssert, Sem.run_bind, run_underlying hu, Result.andThen_ok]
            cases d <;> first | (simp; done) | (exact absurd rfl (hni _))
          · exact .tup [v, .bool true] _ rfl (All2.get (.cons hv (.cons (.bool true) .nil)))
    · cases hx
      cases ok
      · simp [qv] at hq
      · simp only [qv, Option.some.injEq, Prod.mk.injEq] at hq
        obtain ⟨rfl, rfl⟩ := hq
        obtain ⟨zv, h1, h2⟩ := hzero
        refine ⟨.tuple #[zv, .bool false], ?_, ?_⟩
        · simp only [Instr.typeAssert, Sem.run_bind, run_underlying hu, Result.andThen_ok]
          cases d <;> first | (simp [h1]; done) | (exact absurd rfl (hni _))
        · exact .tup [zv, .bool false] _ rfl (All2.get (.cons h2 (.cons (.bool false) .nil)))
  | loc l o => cases ok <;> simp [qv] at hq
  | when b e => cases ok <;> simp [qv] at hq
end
end Go.DL
namespace Go.DL
open Go
section
variable {P : Program} {g : G} {w : World}
theorem scalarT_cases {t : TypeId} {k : SK} (h : scalarT P t = some k) : (k = .bool ∧ P.underlying t = some .bool) ∨ (k = .int ∧ ∃ ik, P.underlying t = some (.int ik)) ∨ (k = .str ∧ P.underlying t = some .string) := by
  unfold scalarT at h
  split at h <;> simp only [Option.some.injEq, reduceCtorEq] at h <;> subst h <;> rename_i hu
  · exact .inl ⟨rfl, hu⟩
  · exact .inr (.inl ⟨rfl, _, hu⟩)
  · exact .inr (.inr ⟨rfl, hu⟩)
theorem keyT_cases {t : TypeId} {kp : KP} (h : keyT P t = some kp) : (∃ k, kp = .sc k ∧ scalarT P t = some k) ∨
    ∃ fs l n, kp = .st l ∧ P.underlying t = some (.struct fs) ∧ sizeT P t = some n ∧ fieldKinds P fs.toList = some l ∧ l.map (·.1) = List.range n ∧ P.stoodInHeld t = false := by
  unfold keyT at h
  split at h
  · rename_i k hk
    simp only [Option.some.injEq] at h
    exact .inl ⟨k, h.symm, hk⟩
  · split at h <;> (try (simp at h; done))
    rename_i fs n hu hn
    split at h <;> (try (simp at h; done))
    rename_i l hl
    split at h <;> simp only [Option.some.injEq, reduceCtorEq] at h
    rename_i hc
    exact .inr ⟨fs, l, n, h.symm, hu, hn, hl, hc.1, hc.2⟩
theorem keyEqual_ok {kt : TypeId} {kp : KP} (hk : keyT P kt = some kp) {k1 k2 : Value} {d1 d2 : D} (h1 : Rep g w k1 d1) (h2 : Rep g w k2 d2) {b : Bool} (h : keyEq kp d1 d2 = some b) :
    (Op.equal kt k1 k2).run P w = .ok b w := by
  rcases keyT_cases hk with ⟨k, rfl, hs⟩ | ⟨fs, l, n, rfl, hu, hn, hl, _, hst⟩
  · exact scalarEq_ok hs h1 h2 h 9999
  · cases h1 <;> cases h2 <;> simp only [keyEq, reduceCtorEq] at h
    rename_i v1 xs hn1 r1 o1 v2 ys hn2 r2 o2
    split at h <;> (try (simp at h; done))
    have hf : P.underlying kt = some (.struct (P.fieldsOf kt)) := by simp [Program.fieldsOf, hu]
    refine (run_equalIn_struct w 9999 kt _ _ hf hst).trans ?_
    simp only [Program.fieldsOf, hu]
    exact eqFields_ok hn1 hn2 r1 r2 9998 _ l b hl h
theorem checkFields_ok (em : Bool) (n : Nat) {vs : List Value} {ds : List D} (hn : vs.length = ds.length) : ∀ (fs : List Field) (l : List (Nat × SK)) (b : Bool), fieldKinds P fs = some l → cellsEq ds ds l = some b →
    (do
      for f in fs do
        if f.name ≠ "_" then Instr.checkKey em (n + 1) f.type (← Go.part f.type vs.toArray f.offset) : Sem Unit).run P w = .ok () w
  | [], _, _, _, _ => by simp
  | f :: fs, l, b, hl, hb => by
    simp only [fieldKinds] at hl
    by_cases hf : f.name = "_"
    · simp only [hf, if_true] at hl
      have := checkFields_ok em n hn fs l b hl hb
      simp only [List.forIn_cons, hf, ne_eq, not_true_eq_false, if_false, Sem.run_bind, Sem.run_pure, Result.andThen_ok] at this ⊢
      exact this
    · simp only [hf, if_false] at hl
      split at hl <;> simp only [Option.some.injEq, reduceCtorEq] at hl
      rename_i k l' hk hl'
      subst hl
      simp only [cellsEq] at hb
      split at hb <;> (try (simp at hb; done))
      rename_i x y hx hy
      split at hb <;> (try (simp at hb; done))
      rename_i b1 b2 hb1 hb2
      have ih := checkFields_ok em n hn fs l' b2 hl' hb2
      have hlt : f.offset < vs.length := by rw [hn]; exact (List.getElem?_eq_some_iff.1 hx).1
      have hv : vs.toArray[f.offset]? = some vs[f.offset] := by simp [hlt]
      have hp := part_run (P := P) (w := w) (scalarT_agg hk) hv
      have hck : (Instr.checkKey em (n + 1) f.type vs[f.offset]).run P w = .ok () w := by
        rcases scalarT_cases hk with ⟨_, hu⟩ | ⟨_, ik, hu⟩ | ⟨_, hu⟩ <;> simp [Instr.checkKey, run_underlying hu]
      simp only [List.forIn_cons, hf, ne_eq, not_false_eq_true, if_true, Sem.run_bind, hp, Result.andThen_ok, hck, Sem.run_pure] at ih ⊢
      exact ih
theorem checkKey_any {kt : TypeId} {kp : KP} (hk : keyT P kt = some kp) {k : Value} {d : D} (h : Rep g w k d) (hok : keyOk kp d = true) (em : Bool) (n : Nat) : (Instr.checkKey em (n + 2) kt k).run P w = .ok () w := by
  rcases keyT_cases hk with ⟨sk, rfl, hs⟩ | ⟨fs, l, m, rfl, hu, hn, hl, _, hst⟩
  · rcases scalarT_cases hs with ⟨_, hu⟩ | ⟨_, ik, hu⟩ | ⟨_, hu⟩ <;> simp [Instr.checkKey, run_underlying hu]
  · cases h <;> simp only [keyOk, keyEq, Option.isSome_none, Bool.false_eq_true] at hok
    rename_i vs cells hn r o
    obtain ⟨b, hb⟩ := Option.isSome_iff_exists.1 hok
    split at hb <;> (try (simp at hb; done))
    have := checkFields_ok (P := P) (w := w) em n hn fs.toList l b hl hb
    rw [Instr.checkKey]
    simp only [Sem.run_bind, run_underlying hu, Result.andThen_ok]
    rw [← Array.forIn_toList]
    simp only [ne_eq, ite_not] at this ⊢
    first
      | (simp at this; simp [this, Result.andThen])
      | simp [this]
theorem checkKey_ok {kt : TypeId} {kp : KP} (hk : keyT P kt = some kp) {k : Value} {d : D} (h : Rep g w k d) (hok : keyOk kp d = true) (em : Bool) : (Instr.checkKey em 10000 kt k).run P w = .ok () w := checkKey_any hk h hok em 9998
theorem findD_idx {kp : KP} {k : D} : ∀ {es : List (D × D)} {r : Option D}, findD kp k es = some r → ∃ io, idxD kp k es = some io ∧ r = io.bind fun i => (es[i]?).map (·.2)
  | [], r, h => by simp only [findD, Option.some.injEq] at h; exact ⟨none, rfl, h.symm⟩
  | e :: es, r, h => by
    simp only [findD] at h
    split at h
    · rename_i he; simp only [Option.some.injEq] at h; exact ⟨some 0, by simp [idxD, he], by simp [h]⟩
    · rename_i he
      obtain ⟨io, h1, h2⟩ := findD_idx h
      refine ⟨io.map (· + 1), by simp [idxD, he, h1], ?_⟩
      rw [h2]; cases io <;> simp
    · simp at h
theorem updD_idx {kp : KP} {k v : D} : ∀ {es es' : List (D × D)}, updD kp k v es = some es' → ∃ io, idxD kp k es = some io ∧ es' = match io with
    | none => es ++ [(k, v)]
    | some i => es.set i (k, v)
  | [], es', h => by simp only [updD, Option.some.injEq] at h; exact ⟨none, rfl, h.symm⟩
  | e :: es, es', h => by
    simp only [updD] at h
    split at h
    · rename_i he; simp only [Option.some.injEq] at h; exact ⟨some 0, by simp [idxD, he], by simp [h]⟩
    · rename_i he
      simp only [Option.map_eq_some_iff] at h
      obtain ⟨r, hr, rfl⟩ := h
      obtain ⟨io, h1, h2⟩ := updD_idx hr
      refine ⟨io.map (· + 1), by simp [idxD, he, h1], ?_⟩
      rw [h2]; cases io <;> simp
    · simp at h
theorem delD_idx {kp : KP} {k : D} : ∀ {es es' : List (D × D)}, delD kp k es = some es' → ∃ io, idxD kp k es = some io ∧ es' = match io with
    | none => es
    | some i => es.eraseIdx i
  | [], es', h => by simp only [delD, Option.some.injEq] at h; exact ⟨none, rfl, h.symm⟩
  | e :: es, es', h => by
    simp only [delD] at h
    split at h
    · rename_i he; simp only [Option.some.injEq] at h; exact ⟨some 0, by simp [idxD, he], by simp [h]⟩
    · rename_i he
      simp only [Option.map_eq_some_iff] at h
      obtain ⟨r, hr, rfl⟩ := h
      obtain ⟨io, h1, h2⟩ := delD_idx hr
      refine ⟨io.map (· + 1), by simp [idxD, he, h1], ?_⟩
      rw [h2]; cases io <;> simp
    · simp at h
theorem idxD_lt {kp : KP} {k : D} : ∀ {es : List (D × D)} {i : Nat}, idxD kp k es = some (some i) → i < es.length ∧ ∀ e, es[i]? = some e → keyEq kp k e.1 = some true
  | [], i, h => by simp [idxD] at h
  | e :: es, i, h => by
    simp only [idxD] at h
    split at h
    · rename_i he; simp only [Option.some.injEq] at h; subst h; exact ⟨by simp, fun x hx => by simp at hx; subst hx; exact he⟩
    · simp only [Option.map_eq_some_iff] at h
      obtain ⟨io, h1, h2⟩ := h
      cases io with
      | none => simp at h2
      | some j =>
        obtain ⟨j', h3, h4⟩ := h2
        simp only [Option.some.injEq] at h3
        subst h3; subst h4
        obtain ⟨a, b⟩ := idxD_lt h1
        exact ⟨by simp; omega, fun x hx => b x (by simpa using hx)⟩
    · simp at h
theorem findAsk_ok {kt : TypeId} {kp : KP} (hk : keyT P kt = some kp) {k : Value} {dk : D} (hr : Rep g w k dk) : ∀ (es : List MapEntry) (ds : List (D × D)) (n : Nat) (io : Option Nat), es.length = ds.length →
    (∀ (i : Nat) (e : MapEntry) (d : D × D), es[i]? = some e → ds[i]? = some d → Rep g w e.key d.1) → idxD kp dk ds = some io →
    (Instr.findAsking kt k es n).run P w = .ok (io.bind fun i => (es[i]?).map fun e => (n + i, e.val)) w
  | [], [], n, io, _, _, h => by simp only [idxD, Option.some.injEq] at h; subst h; simp [Instr.findAsking]
  | e :: es, d :: ds, n, io, hn, hkey, h => by
    simp only [idxD] at h
    have h0 := hkey 0 e d (by simp) (by simp)
    split at h
    · rename_i he
      simp only [Option.some.injEq] at h; subst h
      simp [Instr.findAsking, keyEqual_ok hk hr h0 he]
    · rename_i he
      simp only [Option.map_eq_some_iff] at h
      obtain ⟨io', h1, rfl⟩ := h
      have ih := findAsk_ok hk hr es ds (n + 1) io' (by simpa using hn) (fun i e d a b => hkey (i + 1) e d (by simpa using a) (by simpa using b)) h1
      simp only [Instr.findAsking, Sem.run_bind, keyEqual_ok hk hr h0 he, Result.andThen_ok, Bool.false_eq_true, if_false, ih]
      cases io' <;> simp [Nat.add_assoc, Nat.add_comm 1]
    · simp at h
  | [], _ :: _, _, _, hn, _, _ => by simp at hn
  | _ :: _, [], _, _, hn, _, _ => by simp at hn
theorem sameNow_ok {t : TypeId} {k : SK} {u : TypeDesc} (hs : scalarT P t = some k) (hu : P.underlying t = some u) {k1 k2 : Value} {d1 d2 : D} (h1 : Rep g w k1 d1) (h2 : Rep g w k2 d2) {b : Bool} (h : scalarEq k d1 d2 = some b) :
    Instr.sameNow u k1 k2 = some b := by
  rcases scalarT_cases hs with ⟨rfl, hu'⟩ | ⟨rfl, ik, hu'⟩ | ⟨rfl, hu'⟩ <;> (rw [hu] at hu'; simp only [Option.some.injEq] at hu'; subst hu')
  · cases h1 <;> cases h2 <;> simp only [scalarEq, reduceCtorEq, Option.some.injEq] at h
    subst h
    simp [Instr.sameNow]
    rename_i a b; cases a <;> cases b <;> rfl
  · cases h1 <;> cases h2 <;> simp only [scalarEq, reduceCtorEq] at h
    split at h <;> simp only [reduceCtorEq, Option.some.injEq] at h
    rename_i hk
    subst h
    simp only [Instr.sameNow, hk, if_true, Option.some.injEq]
    rename_i a _ _ b _; rw [Bool.eq_iff_iff]; simp
  · cases h1 <;> cases h2 <;> simp only [scalarEq, reduceCtorEq, Option.some.injEq] at h
    rename_i s1 a e1 _ s2 b e2 _
    subst h
    simp only [Instr.sameNow, Option.some.injEq]
    rw [beq_toListBytes, str_data e1, str_data e2, Bool.eq_iff_iff]; simp
theorem findNow_ok {t : TypeId} {sk : SK} {u : TypeDesc} (hs : scalarT P t = some sk) (hu : P.underlying t = some u) {k : Value} {dk : D} (hr : Rep g w k dk) : ∀ (es : List MapEntry) (ds : List (D × D)) (n : Nat) (io : Option Nat), es.length = ds.length →
    (∀ (i : Nat) (e : MapEntry) (d : D × D), es[i]? = some e → ds[i]? = some d → Rep g w e.key d.1) → idxD (.sc sk) dk ds = some io →
    Instr.findNow u k es n = some (io.bind fun i => (es[i]?).map fun e => (n + i, e.val))
  | [], [], n, io, _, _, h => by simp only [idxD, Option.some.injEq] at h; subst h; simp [Instr.findNow]
  | e :: es, d :: ds, n, io, hn, hkey, h => by
    simp only [idxD] at h
    have h0 := hkey 0 e d (by simp) (by simp)
    split at h
    · rename_i he
      simp only [Option.some.injEq] at h; subst h
      simp [Instr.findNow, sameNow_ok hs hu hr h0 he]
    · rename_i he
      simp only [Option.map_eq_some_iff] at h
      obtain ⟨io', h1, rfl⟩ := h
      have ih := findNow_ok hs hu hr es ds (n + 1) io' (by simpa using hn) (fun i e d a b => hkey (i + 1) e d (by simpa using a) (by simpa using b)) h1
      simp only [Instr.findNow, sameNow_ok hs hu hr h0 he, ih]
      cases io' <;> simp [Nat.add_assoc, Nat.add_comm 1]
    · simp at h
  | [], _ :: _, _, _, hn, _, _ => by simp at hn
  | _ :: _, [], _, _, hn, _, _ => by simp at hn
theorem findKey_ok {kt : TypeId} {kp : KP} (hk : keyT P kt = some kp) {k : Value} {dk : D} (hr : Rep g w k dk) {es : List MapEntry} {ds : List (D × D)} {io : Option Nat} (hn : es.length = ds.length)
    (hkey : ∀ (i : Nat) (e : MapEntry) (d : D × D), es[i]? = some e → ds[i]? = some d → Rep g w e.key d.1) (h : idxD kp dk ds = some io) :
    (Instr.findKey kt k es).run P w = .ok (io.bind fun i => (es[i]?).map fun e => (i, e.val)) w := by
  rcases keyT_cases hk with ⟨sk, rfl, hs⟩ | ⟨fs, l, m, rfl, hu, _, _, _, _⟩
  · obtain ⟨u, hu⟩ : ∃ u, P.underlying kt = some u := by rcases scalarT_cases hs with ⟨_, hu⟩ | ⟨_, ik, hu⟩ | ⟨_, hu⟩ <;> exact ⟨_, hu⟩
    have := findNow_ok hs hu hr es ds 0 io hn hkey h
    simp only [Nat.zero_add] at this
    simp [Instr.findKey, run_underlying hu, this]
  · have ha := findAsk_ok hk hr es ds 0 io hn hkey h
    simp only [Nat.zero_add] at ha
    cases es with
    | nil =>
      cases ds with
      | nil => simp only [idxD, Option.some.injEq] at h; subst h; simp [Instr.findKey, run_underlying hu, Instr.findNow]
      | cons => simp at hn
    | cons e es =>
      have : Instr.findNow (.struct fs) k (e :: es) 0 = none := by
        simp only [Instr.findNow, Instr.sameNow]
      simp only [Instr.findKey, Sem.run_bind, run_underlying hu, Result.andThen_ok, this, ha]
theorem mapAt_ok {σ : St} (hS : StOk g σ w) {b : Nat} {es : List (D × D)} (h : mapAt σ b = some es) : ObjOk g w b (.map es) := by
  unfold mapAt at h
  split at h <;> simp at h
  rename_i c hc
  subst h
  exact hS.obj b _ hc
theorem zero1_ok {t : TypeId} {z : D} (hz : zero1 P t = some z) : ∃ zv, (zeroValue t).run P w = .ok zv w ∧ Rep g w zv z := by
  unfold zero1 at hz
  cases hi : P.info? t with
  | none => simp [hi] at hz
  | some i =>
    cases hzz : i.zero with
    | none => simp [hi, hzz] at hz
    | some zv => simp only [hi, hzz] at hz; exact ⟨zv, by simp [zeroValue, typeInfo, hi, hzz], constD_ok hz⟩
theorem rep_tup2 {a b : Value} {x y : D} (h1 : Rep g w a x) (h2 : Rep g w b y) : Rep g w (.tuple #[a, b]) (.tup [x, y]) :=
  .tup [a, b] _ rfl (All2.get (.cons h1 (.cons h2 .nil)))
theorem sound_lookup {ν : Nat → Nat} {L : Loc} {σ : St} (hS : StOk g σ w) {t kt et : TypeId} {kp : KP} {z : D} {ok : Bool} (hu : P.underlying t = some (.map kt et)) (hk : keyT P kt = some kp) (hz : zero1 P et = some z) {m k : Value} {em ek r : E} {side : Prop}
    (hm : RepE g ν w L m em) (hkk : RepE g ν w L k ek) (hq : qv L σ (.lookup kp z ok) [em, ek] = some (side, r)) (hs : side) : ∃ v, (Instr.lookup t m k ok).run P w = .ok v w ∧ RepE g ν w L v r := by
  obtain ⟨zv, hz1, hz2⟩ := zero1_ok (P := P) (g := g) (w := w) hz
  cases em with
  | loc l o => cases ek <;> simp [qv] at hq
  | when c e => cases ek <;> simp [qv] at hq
  | d dm =>
    cases ek with
    | loc l o => cases dm <;> simp [qv] at hq
    | when c e => cases dm <;> simp [qv] at hq
    | d dk =>
      have hr : Rep g w k dk := hkk
      cases dm <;> (try (simp [qv] at hq; done))
      · rename_i b
        simp only [qv] at hq
        split at hq <;> (try (simp at hq; done))
        rename_i es hes
        simp only [Option.map_eq_some_iff, Prod.mk.injEq] at hq
        obtain ⟨ro, hf, rfl, rfl⟩ := hq
        obtain ⟨hp0, en, clock, hb, hlen, h3, h4, h5, h6⟩ := mapAt_ok hS hes
        obtain ⟨io, hio, hro⟩ := findD_idx hf
        cases hm
        have hfind := findKey_ok (P := P) hk hr (es := en.toList) (by simpa using hlen) (fun i e d a b => h3 i e d (by simpa using a) b) hio
        have hck := checkKey_ok (P := P) hk hr hs en.isEmpty
        have hfz : (en.toList = [] ) ∨ True := .inr trivial
        cases io with
        | none =>
          simp only [Option.bind_none] at hfind hro
          subst hro
          cases ok
          · exact ⟨zv, by simp [Instr.lookup, run_underlying hu, MapKept.run_getObj_map hb, hck, hfind, hz1], by simpa [lookRes, RepE] using hz2⟩
          · exact ⟨.tuple #[zv, .bool false], by simp [Instr.lookup, run_underlying hu, MapKept.run_getObj_map hb, hck, hfind, hz1], by simpa [lookRes, RepE] using rep_tup2 hz2 (.bool false)⟩
        | some i =>
          obtain ⟨hlt, _⟩ := idxD_lt hio
          have hlt' : i < en.size := by omega
          have he : en[i]? = some en[i] := by simp [hlt']
          have hd : es[i]? = some es[i] := by simp [hlt]
          have hrv := h4 i _ _ he hd
          simp only [Option.bind_some, hd, Option.map_some] at hro
          subst hro
          simp only [Option.bind_some, Array.getElem?_toList, he, Option.map_some] at hfind
          cases ok
          · exact ⟨en[i].val, by simp [Instr.lookup, run_underlying hu, MapKept.run_getObj_map hb, hck, hfind], by simpa [lookRes, RepE] using hrv⟩
          · exact ⟨.tuple #[en[i].val, .bool true], by simp [Instr.lookup, run_underlying hu, MapKept.run_getObj_map hb, hck, hfind], by simpa [lookRes, RepE] using rep_tup2 hrv (.bool true)⟩
      · simp only [qv, Option.some.injEq, Prod.mk.injEq] at hq
        obtain ⟨rfl, rfl⟩ := hq
        cases hm
        have hck := checkKey_ok (P := P) hk hr hs true
        have hfind := findKey_ok (P := P) hk hr (es := []) (ds := []) rfl (fun i e d a b => by simp at a) (io := none) rfl
        simp only [Option.bind_none] at hfind
        cases ok
        · exact ⟨zv, by simp [Instr.lookup, run_underlying hu, hck, hfind, hz1], by simpa [lookRes, RepE] using hz2⟩
        · exact ⟨.tuple #[zv, .bool false], by simp [Instr.lookup, run_underlying hu, hck, hfind, hz1], by simpa [lookRes, RepE] using rep_tup2 hz2 (.bool false)⟩
theorem sound_lenM {ν : Nat → Nat} {L : Loc} {σ : St} (hS : StOk g σ w) {t kt et : TypeId} {ts : Array TypeId} {x : Value} {e r : E} {side : Prop} (ht : ts[0]? = some t) (hu : P.underlying t = some (.map kt et)) (hx : RepE g ν w L x e)
    (hq : qv L σ .lenM [e] = some (side, r)) (hs : side) (ty : TypeId) : ∃ v, (Builtin.len_ ts ty #[x]).run P w = .ok v w ∧ RepE g ν w L v r := by
  cases e with
  | loc l o => simp [qv] at hq
  | when c e => simp [qv] at hq
  | d y =>
    cases y <;> (try (simp [qv] at hq; done))
    · simp only [qv] at hq
      split at hq <;> (try (simp at hq; done))
      rename_i es hes
      simp only [Option.some.injEq, Prod.mk.injEq] at hq
      obtain ⟨rfl, rfl⟩ := hq
      obtain ⟨hp0, en, clock, hb, hlen, _⟩ := mapAt_ok hS hes
      cases hx
      exact ⟨.int .i64 es.length, by simp [Builtin.len_, ht, run_underlying hu, MapKept.run_getObj_map hb, goInt, hlen], .int _ _ (inR_natCast hs)⟩
    · simp only [qv, Option.some.injEq, Prod.mk.injEq] at hq
      obtain ⟨rfl, rfl⟩ := hq
      cases hx
      exact ⟨.int .i64 0, by simp [Builtin.len_, ht, run_underlying hu, goInt], .int _ _ (inR_natCast (n := 0) (Nat.zero_le _))⟩
end
end Go.DL
namespace Go.DL
open Go
section
variable {P : Program} {g : G} {ν : Nat → Nat} {w : World} {L : Loc} {σ : St}
theorem sound_build {t : TypeId} {parts : Array (Nat × Operand)} {z : Value} {pl : List (Nat × Nat)} {zs : List D} {ρv : Operand → Value} {es : List E} (hz : (P.info? t).bind (·.zero) = some z)
    (hp : placesT P t (parts.toList.map (·.1)) = some pl) (hsz : sizedT P t = true) (hzs : consts z.cells.toList = some zs) (hes : All2 (RepE g ν w L) ((parts.toList.map (·.2)).map ρv) es) {side : Prop} {r : E}
    (hq : qv L σ (.build zs pl) es = some (side, r)) : ∃ v, (Instr.build t (parts.map fun (i, x) => (i, ρv x))).run P w = .ok v w ∧ RepE g ν w L v r := by
  simp only [qv] at hq
  split at hq <;> (try (simp at hq; done))
  rename_i ds hds
  simp only [Option.map_eq_some_iff, Prod.mk.injEq] at hq
  obtain ⟨cs, hcs, rfl, rfl⟩ := hq
  have hne : ∃ d, P.underlying t = some d ∧ ((∃ fs, d = .struct fs) ∨ ∃ m e i, d = .array m e ∧ P.info? e = some i) := by
    unfold sizedT at hsz
    split at hsz
    · rename_i fs hu; exact ⟨_, hu, .inl ⟨fs, rfl⟩⟩
    · rename_i m e hu
      unfold sizeT at hsz
      cases hi : P.info? e with
      | none => simp [hi] at hsz
      | some i => exact ⟨_, hu, .inr ⟨m, e, i, rfl, hi⟩⟩
    · simp at hsz
  have hreps := reps_of_dsOf hes hds
  obtain ⟨cv, h1, h2⟩ := build_ok (g := g) (w := w) (parts := parts.toList.map fun (i, x) => (i, ρv x)) hz (by simpa [List.map_map, Function.comp_def] using hp) hsz hzs
    (by simpa [List.map_map, Function.comp_def] using hreps) hcs hne
  refine ⟨_, ?_, h2⟩
  rw [← h1]
  congr 2
  apply Array.ext'
  simp
theorem sound_mkfn {f : Fn} {first caps : Array Operand} {ρv : Operand → Value} {es : List E} (hes : All2 (RepE g ν w L) ((first.toList ++ caps.toList).map ρv) es) {side : Prop} {r : E}
    (hq : qv L σ (.mkfn f first.size) es = some (side, r)) : ∃ v, (Instr.makeFunc f (first.map ρv) (caps.map ρv)).run P w = .ok v w ∧ RepE g ν w L v r := by
  simp only [qv, Option.map_eq_some_iff, Prod.mk.injEq] at hq
  obtain ⟨ds, hds, rfl, rfl⟩ := hq
  have h := reps_of_dsOf hes hds
  have h1 := h.take first.size
  have h2 := h.drop first.size
  have e1 : ((first.toList ++ caps.toList).map ρv).take first.size = (first.map ρv).toList := by simp
  have e2 : ((first.toList ++ caps.toList).map ρv).drop first.size = (caps.map ρv).toList := by simp
  rw [e1] at h1
  rw [e2] at h2
  have := Rep.fn (g := g) (w := w) f _ _ _ _ h1.len h2.len h1.get h2.get
  rw [Array.toArray_toList, Array.toArray_toList] at this
  exact ⟨_, by simp only [Instr.makeFunc, Sem.run_pure], this⟩
theorem toList_of_size1 {α : Type} {a : Array α} (h : a.size = 1) : ∃ x, a = #[x] := by
  obtain ⟨l⟩ := a
  match l, h with
  | [x], _ => exact ⟨x, rfl⟩
theorem toList_of_size2 {α : Type} {a : Array α} (h : a.size = 2) : ∃ x y, a = #[x, y] := by
  obtain ⟨l⟩ := a
  match l, h with
  | [x, y], _ => exact ⟨x, y, rfl⟩
theorem q_sound {o : Op} {q : Q} {xs : List Operand} (hc : cq P o = some (q, xs)) {ρv : Operand → Value} {es : List E} (hes : All2 (RepE g ν w L) (xs.map ρv) es)
    (hL : ∀ l cs, getL L l = some cs → CellsOk g w (ν l) cs) (hS : StOk g σ w) {side : Prop} {e : E} (hq : qv L σ q es = some (side, e)) (hs : side)
    (dst : Option Nat) (ty : TypeId) (pos : String) (af : Array Edge) (gd : Option (Nat × Bool)) :
    ∃ v, (execOp ρv ⟨dst, o, ty, pos, af, gd⟩).run P w = .ok (.value v) w ∧ RepE g ν w L v e := by
  cases o <;> (try (simp [cq] at hc; done))
  case move x =>
    simp only [cq, Option.some.injEq, Prod.mk.injEq] at hc
    obtain ⟨rfl, rfl⟩ := hc
    obtain ⟨e0, rfl, h0⟩ := all2_one hes
    simp only [qv, Option.some.injEq, Prod.mk.injEq] at hq
    obtain ⟨rfl, rfl⟩ := hq
    exact ⟨_, rfl, h0⟩
  case assign x =>
    simp only [cq, Option.some.injEq, Prod.mk.injEq] at hc
    obtain ⟨rfl, rfl⟩ := hc
    obtain ⟨e0, rfl, h0⟩ := all2_one hes
    simp only [qv, Option.some.injEq, Prod.mk.injEq] at hq
    obtain ⟨rfl, rfl⟩ := hq
    exact ⟨_, rfl, h0⟩
  case load t a =>
    simp only [cq] at hc
    split at hc <;> (try (simp at hc; done))
    · rename_i n ha hsz
      simp only [Option.some.injEq, Prod.mk.injEq] at hc
      obtain ⟨rfl, rfl⟩ := hc
      obtain ⟨e0, rfl, h0⟩ := all2_one hes
      exact ev (sound_loadN ha hsz h0 hL hS hq hs)
    · rename_i n ha hsz
      simp only [Option.some.injEq, Prod.mk.injEq] at hc
      obtain ⟨rfl, rfl⟩ := hc
      obtain ⟨e0, rfl, h0⟩ := all2_one hes
      exact ev (sound_load1 ha h0 hL hS hq)
  case nilCheck x =>
    simp only [cq, Option.some.injEq, Prod.mk.injEq] at hc
    obtain ⟨rfl, rfl⟩ := hc
    obtain ⟨e0, rfl, h0⟩ := all2_one hes
    exact sound_nilck rfl h0 hq dst ty pos af gd
  case binOp op t x y yt =>
    simp only [cq, Option.some.injEq, Prod.mk.injEq] at hc
    obtain ⟨rfl, rfl⟩ := hc
    obtain ⟨e1, e2, rfl, h1, h2⟩ := all2_two hes
    cases e1 with
    | d a =>
      cases e2 with
      | d b =>
        simp only [qv, Option.map_eq_some_iff, Prod.mk.injEq] at hq
        obtain ⟨⟨s', d⟩, hd, rfl, rfl⟩ := hq
        exact ev (binD_ok (P := P) h1 h2 hd hs)
      | loc l o => simp [qv] at hq
      | when b e => simp [qv] at hq
    | loc l o => cases e2 <;> simp [qv] at hq
    | when b e => cases e2 <;> simp [qv] at hq
  case unOp op t x =>
    cases op <;> simp only [cq, Option.some.injEq, Prod.mk.injEq, reduceCtorEq] at hc
    all_goals obtain ⟨rfl, rfl⟩ := hc
    all_goals obtain ⟨e0, rfl, h0⟩ := all2_one hes
    all_goals cases e0 with
      | loc l o => simp [qv] at hq
      | when b e => simp [qv] at hq
      | d y => ?_
    · cases y <;> simp only [qv, reduceCtorEq, Option.some.injEq, Prod.mk.injEq] at hq
      obtain ⟨rfl, rfl⟩ := hq
      obtain ⟨hv, hin⟩ := rep_int h0
      exact ev ⟨.int _ _, by simp only [hv, Op.unary, Op.intArith, Sem.run_pure, Int.zero_sub]; rw [wrap_of _ _ hs], .int _ _ hs⟩
    · cases y <;> simp only [qv, reduceCtorEq, Option.some.injEq, Prod.mk.injEq] at hq
      obtain ⟨rfl, rfl⟩ := hq
      obtain ⟨hv, hin⟩ := rep_int h0
      exact ev ⟨_, by simp only [hv, Op.unary, Op.intBits, Sem.run_pure]; rfl, .int _ _ (wrap_in _ _)⟩
    · cases y <;> simp only [qv, reduceCtorEq, Option.some.injEq, Prod.mk.injEq] at hq
      obtain ⟨rfl, rfl⟩ := hq
      have hv := rep_bool h0
      exact ev ⟨_, by simp only [hv, Op.unary, Sem.run_pure], .bool _⟩
  case convert s d x =>
    simp only [cq, Option.map_eq_some_iff, Prod.mk.injEq] at hc
    obtain ⟨c, hc, rfl, rfl⟩ := hc
    obtain ⟨e0, rfl, h0⟩ := all2_one hes
    exact ev (sound_conv hS hc h0 hq hs)
  case fieldAddr s x k =>
    simp only [cq] at hc
    split at hc <;> (try (simp at hc; done))
    rename_i f hf
    split at hc <;> (try (simp at hc; done))
    rename_i n hn
    split at hc <;> (try (simp at hc; done))
    rename_i hn0
    simp only [Option.some.injEq, Prod.mk.injEq] at hc
    obtain ⟨rfl, rfl⟩ := hc
    obtain ⟨e0, rfl, h0⟩ := all2_one hes
    exact ev (sound_faddr hf hn hn0 h0 hq)
  case field s x k =>
    simp only [cq] at hc
    split at hc <;> (try (simp at hc; done))
    rename_i f hf
    split at hc <;> (try (simp at hc; done))
    · rename_i n ha hn
      simp only [Option.some.injEq, Prod.mk.injEq] at hc
      obtain ⟨rfl, rfl⟩ := hc
      obtain ⟨e0, rfl, h0⟩ := all2_one hes
      exact ev (sound_fld hf (.inl ⟨ha, n, hn, rfl⟩) h0 hq hs)
    · rename_i n ha hn
      simp only [Option.some.injEq, Prod.mk.injEq] at hc
      obtain ⟨rfl, rfl⟩ := hc
      obtain ⟨e0, rfl, h0⟩ := all2_one hes
      exact ev (sound_fld hf (.inr ⟨ha, rfl⟩) h0 hq hs)
  case indexAddr t x i =>
    simp only [cq] at hc
    split at hc <;> (try (simp at hc; done))
    · rename_i el hu
      simp only [Option.map_eq_some_iff, Prod.mk.injEq] at hc
      obtain ⟨n, hn, rfl, rfl⟩ := hc
      obtain ⟨e1, e2, rfl, h1, h2⟩ := all2_two hes
      exact ev (sound_iaddr hu hn h1 h2 hq hs)
    · rename_i m el hu
      simp only [Option.map_eq_some_iff, Prod.mk.injEq] at hc
      obtain ⟨n, hn, rfl, rfl⟩ := hc
      obtain ⟨e1, e2, rfl, h1, h2⟩ := all2_two hes
      exact ev (sound_iaddrA hu hn h1 h2 hq hs)
  case index t x i =>
    simp only [cq] at hc
    split at hc <;> (try (simp at hc; done))
    · rename_i hu
      simp only [Option.some.injEq, Prod.mk.injEq] at hc
      obtain ⟨rfl, rfl⟩ := hc
      obtain ⟨e1, e2, rfl, h1, h2⟩ := all2_two hes
      exact ev (sound_idxS hu h1 h2 hq hs)
    · rename_i m el hu
      split at hc <;> simp only [Option.some.injEq, Prod.mk.injEq, reduceCtorEq] at hc
      rename_i b n hb hn
      obtain ⟨rfl, rfl⟩ := hc
      obtain ⟨e1, e2, rfl, h1, h2⟩ := all2_two hes
      exact ev (sound_idxA hu hb hn h1 h2 hq hs)
  case extract x k =>
    simp only [cq, Option.some.injEq, Prod.mk.injEq] at hc
    obtain ⟨rfl, rfl⟩ := hc
    obtain ⟨e0, rfl, h0⟩ := all2_one hes
    cases e0 with
    | loc l o => simp [qv] at hq
    | when b e => simp [qv] at hq
    | d y =>
      cases y <;> simp only [qv, reduceCtorEq, Option.map_eq_some_iff, Prod.mk.injEq] at hq
      obtain ⟨d, hd, rfl, rfl⟩ := hq
      have h0' : Rep g w (ρv x) _ := h0
      generalize hz : ρv x = z at h0'
      cases h0' with
      | tup vs _ hn h =>
        obtain ⟨v, hv, hr⟩ := rep_cell hn h hd
        exact ev ⟨v, by simp [Instr.extract, hz, hv], hr⟩
  case build t parts =>
    simp only [cq] at hc
    split at hc <;> (try (simp at hc; done))
    rename_i z pl hz hp
    split at hc <;> (try (simp at hc; done))
    rename_i hsz
    simp only [Option.map_eq_some_iff, Prod.mk.injEq] at hc
    obtain ⟨zs, hzs, rfl, rfl⟩ := hc
    exact ev (sound_build hz hp hsz hzs hes hq)
  case makeFunc f first caps =>
    simp only [cq, Option.some.injEq, Prod.mk.injEq] at hc
    obtain ⟨rfl, rfl⟩ := hc
    exact ev (sound_mkfn hes hq)
  case makeInterface t x =>
    simp only [cq] at hc
    split at hc <;> (try (simp at hc; done))
    rename_i d hni hu
    simp only [Option.some.injEq, Prod.mk.injEq] at hc
    obtain ⟨rfl, rfl⟩ := hc
    obtain ⟨e0, rfl, h0⟩ := all2_one hes
    cases e0 with
    | loc l o => simp [qv] at hq
    | when b e => simp [qv] at hq
    | d y =>
      simp only [qv, Option.some.injEq, Prod.mk.injEq] at hq
      obtain ⟨rfl, rfl⟩ := hq
      refine ev ⟨.iface t (ρv x), ?_, .iface _ _ _ h0⟩
      refine run_makeInterface w t (ρv x) ?_
      unfold Program.concrete
      rw [hu]
      cases d <;> first | rfl | (exact absurd rfl (hni _))
  case slice t x lo hi mx =>
    simp only [cq] at hc
    split at hc <;> (try (simp at hc; done))
    · rename_i hu
      split at hc <;> (try (simp at hc; done))
      rename_i hmx
      simp only [Option.some.injEq, Prod.mk.injEq] at hc
      obtain ⟨rfl, rfl⟩ := hc
      cases mx with
      | some _ => simp at hmx
      | none => exact ev (sound_sliceS hu hes hq hs)
    · rename_i el hu
      split at hc <;> (try (simp at hc; done))
      rename_i hmx
      simp only [Option.map_eq_some_iff, Prod.mk.injEq] at hc
      obtain ⟨n, hn, rfl, rfl⟩ := hc
      exact ev (sound_slice hu hn (by cases mx <;> cases hi <;> simp_all) hes hq hs)
    · rename_i k el hu
      split at hc <;> (try (simp at hc; done))
      rename_i hmx
      simp only [Option.map_eq_some_iff, Prod.mk.injEq] at hc
      obtain ⟨n, hn, rfl, rfl⟩ := hc
      exact ev (sound_sliceA hu hn (by cases mx <;> cases hi <;> simp_all) hes hq hs)
  case typeAssert x xt t ok =>
    simp only [cq] at hc
    split at hc <;> (try (simp at hc; done))
    rename_i d hni hu
    simp only [Option.map_eq_some_iff, Prod.mk.injEq] at hc
    obtain ⟨z, hz, rfl, rfl⟩ := hc
    obtain ⟨e0, rfl, h0⟩ := all2_one hes
    exact ev (sound_tassert ⟨d, hu, fun ms hm => hni ms (hm ▸ rfl)⟩ hz h0 hq)
  case lookup t m k ok =>
    simp only [cq] at hc
    split at hc <;> (try (simp at hc; done))
    rename_i kt et hu
    split at hc <;> (try (simp at hc; done))
    rename_i kp z hk hz
    simp only [Option.some.injEq, Prod.mk.injEq] at hc
    obtain ⟨rfl, rfl⟩ := hc
    obtain ⟨e1, e2, rfl, h1, h2⟩ := all2_two hes
    exact ev (sound_lookup hS hu hk hz h1 h2 hq hs)
  case call c =>
    obtain ⟨callee, args, ats⟩ := c
    simp only [cq] at hc
    split at hc <;> (try (simp at hc; done))
    · split at hc <;> (try (simp at hc; done))
      · rename_i hu
        simp only [Option.bind_eq_some_iff] at hu
        obtain ⟨t, ht, hu⟩ := hu
        split at hc <;> (try (simp at hc; done))
        rename_i hsz
        obtain ⟨x, rfl⟩ := toList_of_size1 hsz
        simp only [Option.some.injEq, Prod.mk.injEq] at hc
        obtain ⟨rfl, rfl⟩ := hc
        obtain ⟨e0, rfl, h0⟩ := all2_one hes
        obtain ⟨v, r1, r2⟩ := sound_lenS ht hu h0 hq ty
        exact ⟨v, by simp [execOp, resolve, invoke, builtin, r1], r2⟩
      · rename_i el hu
        simp only [Option.bind_eq_some_iff] at hu
        obtain ⟨t, ht, hu⟩ := hu
        split at hc <;> (try (simp at hc; done))
        rename_i hsz
        obtain ⟨x, rfl⟩ := toList_of_size1 hsz
        simp only [Option.some.injEq, Prod.mk.injEq] at hc
        obtain ⟨rfl, rfl⟩ := hc
        obtain ⟨e0, rfl, h0⟩ := all2_one hes
        obtain ⟨v, r1, r2⟩ := sound_lenL ht hu h0 hq ty
        exact ⟨v, by simp [execOp, resolve, invoke, builtin, r1], r2⟩
      · rename_i n el hu
        simp only [Option.bind_eq_some_iff] at hu
        obtain ⟨t, ht, hu⟩ := hu
        split at hc <;> (try (simp at hc; done))
        rename_i hsz
        obtain ⟨x, rfl⟩ := toList_of_size1 hsz
        simp only [Option.some.injEq, Prod.mk.injEq] at hc
        obtain ⟨rfl, rfl⟩ := hc
        obtain ⟨e0, rfl, h0⟩ := all2_one hes
        obtain ⟨v, r1, r2⟩ := sound_lenA (x := ρv x) ht hu hq hs ty
        exact ⟨v, by simp [execOp, resolve, invoke, builtin, r1], r2⟩
      · rename_i kt el hu
        simp only [Option.bind_eq_some_iff] at hu
        obtain ⟨t, ht, hu⟩ := hu
        split at hc <;> (try (simp at hc; done))
        rename_i hsz
        obtain ⟨x, rfl⟩ := toList_of_size1 hsz
        simp only [Option.some.injEq, Prod.mk.injEq] at hc
        obtain ⟨rfl, rfl⟩ := hc
        obtain ⟨e0, rfl, h0⟩ := all2_one hes
        obtain ⟨v, r1, r2⟩ := sound_lenM hS ht hu h0 hq hs ty
        exact ⟨v, by simp [execOp, resolve, invoke, builtin, r1], r2⟩
    · split at hc <;> (try (simp at hc; done))
      rename_i hsz
      obtain ⟨x, y, rfl⟩ := toList_of_size2 hsz
      simp only [Option.some.injEq, Prod.mk.injEq] at hc
      obtain ⟨rfl, rfl⟩ := hc
      obtain ⟨e1, e2, rfl, h1, h2⟩ := all2_two hes
      obtain ⟨v, r1, r2⟩ := sound_minmax (P := P) false h1 h2 hq ats ty
      simp at r1
      exact ⟨v, by simp [execOp, resolve, invoke, builtin, r1], r2⟩
    · split at hc <;> (try (simp at hc; done))
      rename_i hsz
      obtain ⟨x, y, rfl⟩ := toList_of_size2 hsz
      simp only [Option.some.injEq, Prod.mk.injEq] at hc
      obtain ⟨rfl, rfl⟩ := hc
      obtain ⟨e1, e2, rfl, h1, h2⟩ := all2_two hes
      obtain ⟨v, r1, r2⟩ := sound_minmax (P := P) true h1 h2 hq ats ty
      simp at r1
      exact ⟨v, by simp [execOp, resolve, invoke, builtin, r1], r2⟩
end
end Go.DL
namespace Go.DL
open Go
def distinctLt (n : Nat) : List Nat → Bool
  | [] => true
  | i :: r => i < n && !r.contains i && distinctLt n r
def ck (P : Program) (op : Op) : Option K :=
  match cq P op with
  | some (q, xs) => (cOpds xs).map (K.q q)
  | none =>
    match op with
    | .pick c a b => match cOpd c, cOpd a, cOpd b with
      | some c, some a, some b => some (.pick c a b)
      | _, _, _ => none
    | .alloc e => (zeroT P e).map .alloc
    | .box _ x => (cOpd x).map .box
    | .buildSlice t len parts => match P.underlying t with
      | some (.slice e) => match sizeT P e, zeroT P e, cOpds (parts.toList.map (·.2)) with
        | some s, some z, some xs =>
          if distinctLt len (parts.toList.map (·.1)) && decide (z.length = s) && decide (0 < s) && decide (len * s ≤ 2 ^ 24) then some (.bsl len s z (parts.toList.map (·.1)) xs) else none
        | _, _, _ => none
      | _ => none
    | .convert s d x => match P.underlying s, P.underlying d with
      | some .string, some (.slice e) => match P.underlying e with
        | some (.int .u8) => (cOpd x).map .s2b
        | _ => none
      | _, _ => none
    | .store t a v => match aggT P t, sizeT P t, cOpd a, cOpd v with
      | some true, some n, some a, some v => some (.storeN n a v)
      | some false, some 1, some a, some v => some (.store1 a v)
      | _, _, _, _ => none
    | .makeMap _ none => some .mkmap
    | .mapUpdate t m k x | .insert t m k x => match P.underlying t with
      | some (.map kt _) => match keyT P kt, cOpd m, cOpd k, cOpd x with
        | some kp, some m, some k, some x => some (.mapupd kp m k x)
        | _, _, _, _ => none
      | _ => none
    | .mapEntry t m k => match P.underlying t with
      | some (.map kt e) => match keyT P kt, zero1 P e, cOpd m, cOpd k with
        | some kp, some z, some m, some k => some (.mapent kp z m k)
        | _, _, _, _ => none
      | _ => none
    | .entryStore _ m k x => match cOpd m, cOpd k, cOpd x with
      | some m, some k, some x => some (.entst m k x)
      | _, _, _ => none
    | .panic x => (cOpd x).map .panic
    | .defer c => match c.callee with
      | .value f => match cOpd f, cOpds c.args.toList with
        | some f, some xs => some (.defer f xs)
        | _, _ => none
      | _ => none
    | .makeSlice t l c => match P.underlying t with
      | some (.slice e) => match sizeT P e, zeroT P e, cOpd l, cOpd c with
        | some s, some z, some l, some c => if decide (0 < s) && decide (z.length = s) then some (.mkslice e s (P.bytesOf e) z l c) else none
        | _, _, _, _ => none
      | _ => none
    | .call c => match c.callee with
      | .value f => match cOpd f, cOpds c.args.toList with
        | some f, some xs => some (.call f xs)
        | _, _ => none
      | .builtin .append => match c.argTypes[0]?.bind P.underlying, c.argTypes[1]?.bind P.underlying, c.args.toList with
        | some (.slice e), some t2, [x, y] => match sizeT P e, zeroT P e, cOpd x, cOpd y with
          | some s, some z, some x, some y =>
            match t2 with
            | .slice _ | .string => if decide (0 < s) && decide (z.length = s) then some (.append e s (P.bytesOf e) z x y) else none
            | _ => none
          | _, _, _, _ => none
        | _, _, _ => none
      | .builtin .recover => some .recover
      | .builtin .delete => match c.argTypes[0]?.bind P.underlying, c.args.toList with
        | some (.map kt _), [m, k] => match keyT P kt, cOpd m, cOpd k with
          | some kp, some m, some k => some (.delete kp m k)
          | _, _, _ => none
        | _, _ => none
      | .builtin .clear => match c.argTypes[0]?.bind P.underlying, c.args.toList with
        | some (.slice e), [x] => match sizeT P e, zeroT P e, cOpd x with
          | some s, some z, some x => if decide (0 < s) && decide (z.length = s) then some (.clear s z x) else none
          | _, _, _ => none
        | _, _ => none
      | .builtin .copy => match c.argTypes[0]?.bind P.underlying, c.args.toList with
        | some (.slice e), [x, y] => match sizeT P e, cOpd x, cOpd y with
          | some s, some x, some y => if decide (0 < s) then some (.copy s x y) else none
          | _, _, _ => none
        | _, _ => none
      | _ => none
    | _ => none
def cguard (ops : Array Oper) : Option (Nat × Bool) → Option (Option (Nat × Bool))
  | none => some none
  | some (j, b) => match (ops[j]?).bind (·.dst) with
    | some t => some (some (t, b))
    | none => none
def cop (P : Program) (N : Nat) (ops : Array Oper) (o : Oper) : Option DOp :=
  match ck P o.op, cguard ops o.guard with
  | some k, some g =>
    match o.dst with
    | none => some ⟨none, g, k⟩
    | some d => if d < N then some ⟨some d, g, k⟩ else none
  | _, _ => none
def cops (P : Program) (N : Nat) (ops : Array Oper) : List Nat → Option (List DOp)
  | [] => some []
  | i :: r => match ops[i]? with
    | some o => match cop P N ops o, cops P N ops r with
      | some d, some ds => some (d :: ds)
      | _, _ => none
    | none => none
abbrev Ann := List (Nat × List Nat)
def Ann.get : Ann → Nat → Option (List Nat)
  | [], _ => none
  | (k, l) :: r, n => if k = n then some l else Ann.get r n
def opdT : Opd → List Nat
  | .tmp t => [t]
  | .cst _ => []
def opdsT (xs : List Opd) : List Nat := xs.flatMap opdT
def namesK : K → List Nat
  | .q _ xs => opdsT xs
  | .pick c a b => opdT c ++ opdT a ++ opdT b
  | .alloc _ | .mkmap | .recover => []
  | .box x | .s2b x | .panic x => opdT x
  | .bsl _ _ _ _ xs => opdsT xs
  | .store1 a v | .storeN _ a v => opdT a ++ opdT v
  | .call f xs | .defer f xs => opdT f ++ opdsT xs
  | .append _ _ _ _ x y => opdT x ++ opdT y
  | .mapupd _ m k v => opdT m ++ opdT k ++ opdT v
  | .mapent _ _ m k => opdT m ++ opdT k
  | .entst m e v => opdT m ++ opdT e ++ opdT v
  | .mkslice _ _ _ _ l c => opdT l ++ opdT c
  | .delete _ m k => opdT m ++ opdT k
  | .clear _ _ x => opdT x
  | .copy _ x y => opdT x ++ opdT y
  | .fork k => namesK k
def guardT : Option (Nat × Bool) → List Nat
  | none => []
  | some (t, _) => [t]
def namesO (o : DOp) : List Nat := guardT o.guard ++ namesK o.k
def pendK : K → Bool
  | .q _ _ | .pick _ _ _ | .bsl _ _ _ _ _ | .s2b _ | .alloc _ | .fork _ => true
  | _ => false
def pqK : K → Bool
  | .q _ _ | .pick _ _ _ | .bsl _ _ _ _ _ | .s2b _ | .alloc _ => true
  | _ => false
def loadK : K → Bool
  | .q .load1 _ | .q (.loadN _) _ => true
  | _ => false
def readK : K → Bool
  | .q .load1 _ | .q (.loadN _) _ | .q (.lookup _ _ _) _ | .q .lenM _ | .q (.conv .b2s) _ => true
  | _ => false
def storeK : K → Bool
  | .store1 _ _ | .storeN _ _ _ => true
  | _ => false
def barK : K → Bool
  | .alloc _ | .fork _ => false
  | _ => true
instance : Inhabited DOp := ⟨⟨none, none, .mkmap⟩⟩
abbrev Tab := List (DOp × List Nat)
def Tab.op (T : Tab) (i : Nat) : DOp := (T.getD i default).1
def Tab.deps (T : Tab) (i : Nat) : List Nat := (T.getD i default).2
def nd (d : Option Nat) (l : List Nat) : Bool :=
  match d with
  | some t => !l.contains t
  | none => true
def ndd : Option Nat → Option Nat → Bool
  | some t, some u => t != u
  | _, _ => true
def maskOf (bs : List Nat) : List Nat → Nat
  | [] => 0
  | d :: ds => (bs.getD d 0 ||| (1 <<< d)) ||| maskOf bs ds
def masks : List (List Nat) → List Nat → List Nat
  | [], acc => acc
  | d :: r, acc => masks r (acc ++ [maskOf acc d])
def chkPend (T : Tab) (A : List Nat) (i : Nat) : Bool :=
  pqK (T.op i).k && nd (T.op i).dst (namesO (T.op i)) && A.all fun a => nd (T.op i).dst (namesO (T.op a)) && ndd (T.op i).dst (T.op a).dst
def tagO (o : DOp) : Nat := o.dst.getD 0
def memB (n : Nat) : List Nat → Bool
  | [] => false
  | a :: l => a == n || memB n l
def chkBar (T : Tab) (fl : List Nat) (free rest : List Nat) (i : Nat) : Bool :=
  barK (T.op i).k && (rest.all fun r => (T.deps r).any fun d => (i :: rest).contains d) &&
    free.all fun a => nd (T.op i).dst (namesO (T.op a)) && ndd (T.op i).dst (T.op a).dst && (memB (tagO (T.op a)) fl || !readK (T.op a).k)
def chk (T : Tab) (ms : List Nat) (fl : Nat → List Nat) : List Nat → List Nat → Bool
  | _, [] => true
  | A, i :: rest =>
    let free := A.filter fun a => !(ms.getD i 0).testBit a
    decide (i < T.length) && ((T.deps i).all fun d => !(i :: rest).contains d) && !rest.contains i && (free.all fun a => nd (T.op a).dst (namesO (T.op i))) &&
      if chkPend T A i then chk T ms fl (i :: A) rest else chkBar T (fl i) free rest i && chk T ms fl free rest
def chkBar2 (T : Tab) (fl : List Nat) (free : List Nat) (i : Nat) : Bool :=
  barK (T.op i).k && !pendK (T.op i).k && (free.all fun a => nd (T.op a).dst (namesO (T.op i))) && free.all fun a => nd (T.op i).dst (namesO (T.op a)) && ndd (T.op i).dst (T.op a).dst && (memB (tagO (T.op a)) fl || !readK (T.op a).k)
def chkFork (T : Tab) (ms : List Nat) (fl : Nat → List Nat) (A : List Nat) (i j : Nat) (rest : List Nat) : Bool :=
  let fi := A.filter fun a => !(ms.getD i 0).testBit a
  let fj := A.filter fun a => !(ms.getD j 0).testBit a
  decide (i < T.length) && decide (j < T.length) && ((T.deps i).all fun d => !(i :: j :: rest).contains d) && ((T.deps j).all fun d => !(i :: j :: rest).contains d) && (i != j) && !rest.contains i && !rest.contains j &&
    (rest.all fun r => (T.deps r).any fun d => (i :: j :: rest).contains d) && chkBar2 T (fl i) fi i && chkBar2 T (fl j) fj j &&
    chk T ms fl fi (j :: rest) && chk T ms fl fj (i :: rest)
def chkTop (T : Tab) (ms : List Nat) (fl : Nat → List Nat) (fk : Option Nat) : List Nat → List Nat → Bool
  | _, [] => true
  | A, i :: rest =>
    if fk = some i then match rest with
      | j :: rest' => chkFork T ms fl A i j rest'
      | [] => false
    else
      let free := A.filter fun a => !(ms.getD i 0).testBit a
      decide (i < T.length) && ((T.deps i).all fun d => !(i :: rest).contains d) && !rest.contains i && (free.all fun a => nd (T.op a).dst (namesO (T.op i))) &&
        if chkPend T A i then chkTop T ms fl fk (i :: A) rest else chkBar T (fl i) free rest i && chkTop T ms fl fk free rest
def forkO (o : DOp) : DOp := { o with k := .fork o.k }
def Tab.mk (T : Tab) (fk : Option Nat) (i : Nat) : DOp := if fk = some i then forkO (T.op i) else T.op i
def opDeps (o : Oper) : List Nat := (o.after.toList.filter (Region.binds .any ·)).map (·.on)
def depsLt : Nat → List (List Nat) → Bool
  | _, [] => true
  | i, d :: r => d.all (fun x => decide (x < i)) && depsLt (i + 1) r
def permOk (n : Nat) (order : List Nat) : Bool := (List.range n).all order.contains
def fkOf (an : Ann) (id : Nat) : Option Nat :=
  match an.get (id + 3000000) with
  | some (i :: _) => some i
  | _ => none
def ccD (P : Program) (an : Ann) (N : Nat) (id : Nat) (ops : Array Oper) : Option (List Nat × List (DOp × List Nat) × Option (List Nat)) :=
  match cops P N ops (List.range ops.size), an.get (id + 1000000), an.get id with
  | some l, some order, some kp =>
    let fl := fun i => (an.get (id + 1000000 * (i + 4))).getD []
    let ds := ops.toList.map opDeps
    let T : Tab := l.zip ds
    if P.follows .mixedOrders && depsLt 0 ds && permOk ops.size order && chkTop T (masks ds []) fl (fkOf an id) [] order then some (order, order.map fun i => (T.mk (fkOf an id) i, fl i), some kp) else none
  | _, _, _ => none
def cc (P : Program) (an : Ann) (N : Nat) : Code → Option DC
  | .skip => some .skip
  | .region id ops true => (ccD P an N id ops).map fun x => .regD x.1 x.2.1 x.2.2
  | .region id ops false => (cops P N ops (List.range ops.size)).map fun l => .reg l (an.get id)
  | .seq a b => match cc P an N a, cc P an N b with
    | some x, some y => some (.seq x y)
    | _, _ => none
  | .cond c a b => match cOpd c, cc P an N a, cc P an N b with
    | some c, some x, some y => some (.cond c x y)
    | _, _, _ => none
  | .block id a => (cc P an N a).map (.block id)
  | .loop a => (cc P an N a).map .loop
  | .exit id => some (.exit id)
  | .ret => some .ret
  | .scope a => (cc P an N a).map .scope
  | .label l => some (.label l)
  | .goto l => some (.goto l)
  | .rangeFunc f params a b => match cOpd f, cc P an N a, cc P an N b with
    | some f, some x, some y => if params.toList.all (· < N) then some (.rangeF f params.toList x y) else none
    | _, _, _ => none
  | _ => none
inductive RV where
  | tmp (t : Nat) | cell1 (t : Nat) | cellN (t n : Nat)
def crv (P : Program) : ResultVar → Option RV
  | .tmp t => some (.tmp t)
  | .cell a t => match aggT P t, sizeT P t with
    | some true, some n => some (.cellN a n)
    | some false, some _ => some (.cell1 a)
    | _, _ => none
def crvs (P : Program) : List ResultVar → Option (List RV)
  | [] => some []
  | r :: rs => match crv P r, crvs P rs with
    | some x, some xs => some (x :: xs)
    | _, _ => none
structure DF where
  n : Nat
  res : List RV
  body : DC
def cf (P : Program) (an : Ann) (f : FuncId) : Option DF :=
  match P.funcs[f]? with
  | some fn => match fn.body with
    | some c => if fn.name == "runtime.NumGoroutine" then none else
      match crvs P fn.results.toList, cc P an fn.ntmps c with
      | some rs, some d => some ⟨fn.ntmps, rs, d⟩
      | _, _ => none
    | none => none
  | none => none
def wantB : Bool → Bool → Bool
  | b, true => b
  | b, false => !b
def guardB (ρ : Env) : Option (Nat × Bool) → Option Bool
  | none => some true
  | some (t, want) => match getE ρ t with
    | some (.d (.bool b)) => some (wantB b want)
    | some (.when c (.d (.bool b))) => some (c && wantB b want)
    | _ => none
def argE (ρ : Env) (c : Bool) : Opd → Option (Prop × E)
  | .cst d => some (True, .d d)
  | .tmp t => match getE ρ t with
    | some (.when c' e) => some (c = true → c' = true, e)
    | some e => some (True, e)
    | none => none
def argsE (ρ : Env) (c : Bool) : List Opd → Option (Prop × List E)
  | [] => some (True, [])
  | x :: xs => match argE ρ c x, argsE ρ c xs with
    | some (p, e), some (q, es) => some (p ∧ q, e :: es)
    | _, _ => none
def putE (ρ : Env) (dst : Option Nat) (e : E) : Env :=
  match dst with
  | some t => (t, e) :: ρ
  | none => ρ
inductive SR where
  | ok (side : Prop) (ρ : Env) (L : Loc) (s : St)
  | all (side : Prop) (pre : Nat → Prop) (ρ : Nat → Env) (s : Nat → St)
  | stop
def hasL (L : Loc) (l : Nat) : Bool := (getL L l).isSome
def pickE (ρ : Env) (c : Bool) (x a b : Opd) : Option (Prop × Bool) :=
  match argE ρ c x with
  | some (p, .d (.bool v)) =>
    match argE ρ (c && v) a, argE ρ (c && !v) b with
    | some (pa, .d (.bool y)), some (pb, .d (.bool z)) => some (p ∧ pa ∧ pb, if v then y else z)
    | _, _ => none
  | _ => none
def litRow (zero : List D) (ps : List (Nat × D)) (i : Nat) : List D :=
  match ps with
  | [] => zero
  | (k, d) :: r => if k = i then cellsOf d else litRow zero r i
def partsOk (s : Nat) : List D → Bool
  | [] => true
  | d :: r => okPart d && decide ((cellsOf d).length = s) && partsOk s r
def zeros (z : List D) (n : Nat) : List D := (List.replicate n z).flatten
def stepSt (ρ : Env) (L : Loc) (s : St) (p q ok : Prop) (a : E) (n : Nat) (xs : List D) : SR :=
  match a with
  | .loc l off => match getL L l with
    | some cs => .ok (p ∧ q ∧ off + n ≤ cs.length ∧ ok) ρ ((l, setPart cs off xs) :: L) s
    | none => .stop
  | .d (.ptr b off) => match cellsAt s b with
    | some cs => .ok (p ∧ q ∧ off + n ≤ cs.length ∧ ok) ρ L (s.upd b (.cells (setPart cs off xs)))
    | none => .stop
  | _ => .stop
def entD (kp : KP) (k z : D) : List (D × D) → Option D
  | [] => some z
  | e :: r => match keyEq kp k e.1 with
    | some true => some e.2
    | some false => entD kp k z r
    | none => none
def stepQ (o : DOp) (ρ : Env) (L : Loc) (s : St) : SR :=
  match guardB ρ o.guard with
  | none => .stop
  | some c =>
    match o.k with
    | .q q xs => match argsE ρ c xs with
      | some (p, es) => match qv L s q es with
        | some (side, e) => match o.guard with
          | none => .ok (p ∧ side) (putE ρ o.dst e) L s
          | some _ => .ok (c = true → p ∧ side) (putE ρ o.dst (.when c e)) L s
        | none => .stop
      | none => .stop
    | .pick x a b => match pickE ρ c x a b with
      | some (p, v) => match o.guard with
        | none => .ok p (putE ρ o.dst (.d (.bool v))) L s
        | some _ => .ok (c = true → p) (putE ρ o.dst (.when c (.d (.bool v)))) L s
      | none => .stop
    | .alloc z => match o.guard, o.dst with
      | none, some t => .ok (hasL L t = false) ((t, .loc t 0) :: ρ) ((t, z) :: L) s
      | _, _ => .stop
    | .box x => match o.guard, o.dst, argE ρ true x with
      | none, some t, some (p, .d v) => .ok (p ∧ hasL L t = false ∧ okPart v = true) ((t, .loc t 0) :: ρ) ((t, cellsOf v) :: L) s
      | _, _, _ => .stop
    | .bsl len n z is xs => match argsE ρ c xs with
      | some (p, es) => match dsOf es with
        | some ds => match o.guard with
          | none => .ok (p ∧ partsOk n ds = true) (putE ρ o.dst (.d (.sl .full len n (litRow z (is.zip ds))))) L s
          | some _ => .ok (c = true → p ∧ partsOk n ds = true) (putE ρ o.dst (.when c (.d (.sl .full len n (litRow z (is.zip ds)))))) L s
        | none => .stop
      | none => .stop
    | .s2b x => match argE ρ c x with
      | some (p, .d (.str l)) => match o.guard with
        | none => .ok p (putE ρ o.dst (.d (.sl .none l.length 1 (fun i => [.int .u8 ((l.getD i 0).toNat : Int)])))) L s
        | some _ => .ok (c = true → p) (putE ρ o.dst (.when c (.d (.sl .none l.length 1 (fun i => [.int .u8 ((l.getD i 0).toNat : Int)]))))) L s
      | _ => .stop
    | .store1 a v => match o.guard, o.dst, argE ρ true a, argE ρ true v with
      | none, none, some (p, a), some (q, .d x) => stepSt ρ L s p q (okCell x = true) a 1 [x]
      | _, _, _, _ => .stop
    | .storeN n a v => match o.guard, o.dst, argE ρ true a, argE ρ true v with
      | none, none, some (p, a), some (q, .d (.agg xs)) => stepSt ρ L s p q (xs.length = n) a n xs
      | _, _, _, _ => .stop
    | .mkmap => match o.guard, o.dst with
      | none, some t => .all True (fun b => s b = none) (fun b => (t, .d (.map b)) :: ρ) (fun b => s.upd b (.map []))
      | _, _ => .stop
    | .mkslice _ n bytes z l h => match o.guard, o.dst, argE ρ true l, argE ρ true h with
      | none, some t, some (p, .d (.int _ l)), some (q, .d (.int _ h)) =>
        .all (p ∧ q ∧ 0 ≤ l ∧ l ≤ h ∧ (bytes : Int) * h ≤ 140737488355328 ∧ h ≤ big) (fun b => s b = none) (fun b => (t, .d (.msl b 0 l.toNat h.toNat n)) :: ρ) (fun b => s.upd b (.cells (zeros z h.toNat)))
      | _, _, _, _ => .stop
    | .mapupd kp m k v => match o.guard, o.dst, argE ρ true m, argE ρ true k, argE ρ true v with
      | none, none, some (p, .d (.map b)), some (q, .d dk), some (r, .d dv) => match mapAt s b with
        | some es => match updD kp dk dv es with
          | some es' => .ok (p ∧ q ∧ r ∧ keyOk kp dk = true) ρ L (s.upd b (.map es'))
          | none => .stop
        | none => .stop
      | _, _, _, _, _ => .stop
    | .delete kp m k => match o.guard, o.dst, argE ρ true m, argE ρ true k with
      | none, none, some (p, .d (.map b)), some (q, .d dk) => match mapAt s b with
        | some es => match delD kp dk es with
          | some es' => .ok (p ∧ q ∧ keyOk kp dk = true) ρ L (s.upd b (.map es'))
          | none => .stop
        | none => .stop
      | _, _, _, _ => .stop
    | .mapent kp z m k => match o.guard, o.dst, argE ρ true m, argE ρ true k with
      | none, some t, some (p, .d (.map b)), some (q, .d dk) => match mapAt s b with
        | some es => match entD kp dk z es with
          | some v => .all (p ∧ q ∧ keyOk kp dk = true) (fun _ => True) (fun n => (t, .d (.tup [v, .stamp n])) :: ρ) (fun n => s.upd b (.mapE kp es dk n))
          | none => .stop
        | none => .stop
      | _, _, _, _ => .stop
    | .entst m st v => match o.guard, o.dst, argE ρ true m, argE ρ true st, argE ρ true v with
      | none, none, some (p, .d (.map b)), some (q, .d (.stamp n)), some (r, .d dv) => match s b with
        | some (.mapE kp es dk n') => match updD kp dk dv es with
          | some es' => .ok (p ∧ q ∧ r ∧ n = n') ρ L (s.upd b (.map es'))
          | none => .stop
        | _ => .stop
      | _, _, _, _, _ => .stop
    | _ => .stop
def drun (K : Env → Loc → St → Prop) (X : List DOp → Env → Loc → St → Prop) : List DOp → Env → Loc → St → Prop
  | [], ρ, L, s => K ρ L s
  | o :: os, ρ, L, s => match stepQ o ρ L s with
    | .ok side ρ' L' s' => side ∧ drun K X os ρ' L' s'
    | .all side pre ρ' s' => side ∧ ∀ b, pre b → drun K X os (ρ' b) L (s' b)
    | .stop => X (o :: os) ρ L s
inductive Rd where
  | blk (b : Nat)
  | loc (l : Nat)
def readsD : E → List Rd
  | .d (.ptr b _) => [.blk b]
  | .d (.map b) => [.blk b]
  | .d (.msl b _ _ _ _) => [.blk b]
  | .loc l _ => [.loc l]
  | _ => []
def readsO (o : DOp) (ρ : Env) : List Rd :=
  match o.k with
  | .q q xs => if readK (.q q xs) then match guardB ρ o.guard with
    | some true => match argsE ρ true xs with
      | some (_, e :: _) => readsD e
      | _ => []
    | _ => []
    else []
  | _ => []
def readsT (o : DOp) (ρ : Env) : List (Nat × Rd) := (readsO o ρ).map fun b => (tagO o, b)
def keepsB (s s' : St) (L L' : Loc) : List (Nat × Rd) → Prop
  | [] => True
  | (_, .blk b) :: B => s' b = s b ∧ keepsB s s' L L' B
  | (_, .loc l) :: B => getL L' l = getL L l ∧ keepsB s s' L L' B
def nextB (fl : List Nat) : List (Nat × Rd) → List (Nat × Rd)
  | [] => []
  | x :: B => if memB x.1 fl then x :: nextB fl B else nextB fl B
def keepsF (fl : List Nat) (s s' : St) (L L' : Loc) (B : List (Nat × Rd)) : Prop := keepsB s s' L L' (nextB fl B)
def locsE : E → List Nat
  | .loc l _ => [l]
  | .when _ e => locsE e
  | _ => []
def keepE (ρ : Env) : List Nat → Env
  | [] => []
  | k :: ks => match getE ρ k with
    | some e => (k, e) :: keepE ρ ks
    | none => keepE ρ ks
def takeL (L : Loc) : List Nat → Loc
  | [] => []
  | l :: ls => match getL L l with
    | some cs => (l, cs) :: takeL L ls
    | none => takeL L ls
def keepL (ρ : Env) (L : Loc) : Loc := takeL L (ρ.flatMap fun x => locsE x.2)
end Go.DL
namespace Go.DL
open Go
def qm (d a : Nat) : DOp := ⟨some d, none, .q .mv [.tmp a]⟩
def qi (d : Nat) (n : Int) : DOp := ⟨some d, none, .q .mv [.cst (.int .i64 n)]⟩
def qb (d : Nat) (b : Bool) : DOp := ⟨some d, none, .q .mv [.cst (.bool b)]⟩
def ql (d a : Nat) : DOp := ⟨some d, none, .q .load1 [.tmp a]⟩
def qL (d n a : Nat) : DOp := ⟨some d, none, .q (.loadN n) [.tmp a]⟩
def qa (d k a : Nat) : DOp := ⟨some d, none, .q (.faddr k) [.tmp a]⟩
def qx (d k a : Nat) : DOp := ⟨some d, none, .q (.ext k) [.tmp a]⟩
def qX (d k a b : Nat) : DOp := ⟨some d, none, .q (.iaddr k) [.tmp a, .tmp b]⟩
def qk (d : Nat) (q : Q) (a : Nat) : DOp := ⟨some d, none, .q q [.tmp a]⟩
def qd (d : Nat) (o : BinOp) (a b : Nat) : DOp := ⟨some d, none, .q (.bin o none) [.tmp a, .tmp b]⟩
def qe (d : Nat) (o : BinOp) (a : Nat) (n : Int) : DOp := ⟨some d, none, .q (.bin o none) [.tmp a, .cst (.int .i64 n)]⟩
def qo (d c a : Nat) : DOp := ⟨some d, none, .pick (.tmp c) (.cst (.bool true)) (.tmp a)⟩
def qO (d c a : Nat) : DOp := ⟨some d, none, .pick (.tmp c) (.tmp a) (.cst (.bool false))⟩
def qf (d f : Nat) (a : List Opd) : DOp := ⟨some d, none, .call (.cst (.fn (.func f) [] [])) a⟩
def qB (d a : Nat) : DOp := ⟨some d, none, .box (.tmp a)⟩
def qS (n a b : Nat) : DOp := ⟨none, none, .storeN n (.tmp a) (.tmp b)⟩
def qs (a b : Nat) : DOp := ⟨none, none, .store1 (.tmp a) (.tmp b)⟩
def qy (g : Nat) (o : DOp) : DOp := ⟨o.dst, some (g, true), o.k⟩
def qn (g : Nat) (o : DOp) : DOp := ⟨o.dst, some (g, false), o.k⟩
abbrev qR (l : List DOp) (k : List Nat) : DC := .reg l (some k)
abbrev qC (c : Nat) (a b : DC) : DC := .cond (.tmp c) a b
end Go.DL
namespace Go.DL
open Go
structure Goal (P : Program) where
  T : G → World → Machine → Prop
  back : ∀ g w m m', Steps P m m' → T g w m' → T g w m
  ext : ∀ g w g' w' m, Ext g w g' w' → T g' w' m → T g w m
structure Fr (P : Program) where
  T : Goal P
  b : Frame
  cs : List Frame
  N : Nat
  ds : List Deferred
  an : Ann
inductive DItem where
  | code (c : DC)
  | inBlock (id : Nat)
  | inLoop (c : DC)
  | inScope (c : DC)
  | beginR
inductive ItemsOk (P : Program) (an : Ann) (N : Nat) : List Item → List DItem → Prop where
  | nil : ItemsOk P an N [] []
  | code {c d k dk} (h : cc P an N c = some d) (t : ItemsOk P an N k dk) : ItemsOk P an N (.code c :: k) (.code d :: dk)
  | inBlock {id k dk} (t : ItemsOk P an N k dk) : ItemsOk P an N (.inBlock id :: k) (.inBlock id :: dk)
  | inLoop {c d k dk} (h : cc P an N c = some d) (t : ItemsOk P an N k dk) : ItemsOk P an N (.inLoop c :: k) (.inLoop d :: dk)
  | inScope {c d k dk} (h : cc P an N c = some d) (t : ItemsOk P an N k dk) : ItemsOk P an N (.inScope c :: k) (.inScope d :: dk)
  | beginR {k dk} (t : ItemsOk P an N k dk) : ItemsOk P an N (.beginRound :: k) (.beginR :: dk)
section
variable {P : Program}
theorem stepR_scope {b : Frame} {a : Act} {k : List Item} {cs : List Frame} {w : World} {c : Code} : step P (lone (b.atR a (.code (.scope c) :: k)) cs w) = .next (lone (b.atR a (.code c :: .inScope c :: k)) cs w) :=
  step_lone_go (by simp [stepG, stepG.exec, Frame.atR])
theorem stepR_inScope {b : Frame} {a : Act} {k : List Item} {cs : List Frame} {w : World} {c : Code} : step P (lone (b.atR a (.inScope c :: k)) cs w) = .next (lone (b.atR a k) cs w) :=
  step_lone_go (by simp [stepG, stepG.exec, Frame.atR])
def Goes (F : Fr P) (todo : List Item) (ρ : Env) (L : Loc) (s : St) : Prop :=
  ∀ g ν w tmps, F.N ≤ tmps.size → Models g ν w tmps ρ L s → F.T.T g w (lone (F.b.atR ⟨tmps, F.ds⟩ todo) F.cs w)
def DRun (F : Fr P) (dk : List DItem) (ρ : Env) (L : Loc) (s : St) : Prop := ∀ k, ItemsOk P F.an F.N k dk → Goes F k ρ L s
def DO (F : Fr P) (_keep : Option (List Nat)) (dk : List DItem) (os : List DOp) (ρ : Env) (L : Loc) (s : St) : Prop :=
  ∀ ops is k, cops P F.N ops is = some os → ItemsOk P F.an F.N k dk → Goes F (.inRegion ops is :: k) ρ L s
theorem Goes.step {F : Fr P} {k k' : List Item} {ρ : Env} {L : Loc} {s : St} (h : ∀ a w, step P (lone (F.b.atR a k) F.cs w) = .next (lone (F.b.atR a k') F.cs w)) (h' : Goes F k' ρ L s) : Goes F k ρ L s :=
  fun g ν w tmps hN m => F.T.back _ _ _ _ (.one (h _ w)) (h' g ν w tmps hN m)
theorem cc_skip {an : Ann} {N : Nat} {c : Code} (h : cc P an N c = some .skip) : c = .skip := by
  unfold cc at h; split at h <;> simp_all
  all_goals (split at h <;> simp at h)
theorem cc_ret {an : Ann} {N : Nat} {c : Code} (h : cc P an N c = some .ret) : c = .ret := by
  unfold cc at h; split at h <;> simp_all
  all_goals (split at h <;> simp at h)
theorem cc_exit {an : Ann} {N id : Nat} {c : Code} (h : cc P an N c = some (.exit id)) : c = .exit id := by
  unfold cc at h; split at h <;> simp_all
  all_goals (split at h <;> simp at h)
theorem cc_seq {an : Ann} {N : Nat} {c : Code} {x y : DC} (h : cc P an N c = some (.seq x y)) : ∃ a b, c = .seq a b ∧ cc P an N a = some x ∧ cc P an N b = some y := by
  unfold cc at h; split at h <;> simp_all
  all_goals (split at h <;> simp_all)
  exact ⟨_, _, ⟨rfl, rfl⟩, ‹_›, ‹_›⟩
theorem cc_cond {an : Ann} {N : Nat} {c : Code} {x y : DC} {o : Opd} (h : cc P an N c = some (.cond o x y)) : ∃ o' a b, c = .cond o' a b ∧ cOpd o' = some o ∧ cc P an N a = some x ∧ cc P an N b = some y := by
  unfold cc at h; split at h <;> simp_all
  all_goals (split at h <;> simp_all)
  exact ⟨_, _, _, ⟨rfl, rfl, rfl⟩, ‹_›, ‹_›, ‹_›⟩
theorem cc_block {an : Ann} {N id : Nat} {c : Code} {x : DC} (h : cc P an N c = some (.block id x)) : ∃ a, c = .block id a ∧ cc P an N a = some x := by
  unfold cc at h; split at h <;> simp_all
  all_goals (split at h <;> simp at h)
theorem cc_loop {an : Ann} {N : Nat} {c : Code} {x : DC} (h : cc P an N c = some (.loop x)) : ∃ a, c = .loop a ∧ cc P an N a = some x := by
  unfold cc at h; split at h <;> simp_all
  all_goals (split at h <;> simp at h)
theorem cc_reg {an : Ann} {N : Nat} {c : Code} {os : List DOp} {ks : Option (List Nat)} (h : cc P an N c = some (.reg os ks)) :
    ∃ id ops, c = .region id ops false ∧ cops P N ops (List.range ops.size) = some os ∧ an.get id = ks := by
  unfold cc at h; split at h <;> simp_all
  · obtain ⟨a, h1, rfl, h2⟩ := h; exact ⟨_, _, ⟨rfl, rfl⟩, h1, h2⟩
  all_goals (split at h <;> simp at h)
theorem cc_scope {an : Ann} {N : Nat} {c : Code} {x : DC} (h : cc P an N c = some (.scope x)) : ∃ a, c = .scope a ∧ cc P an N a = some x := by
  unfold cc at h; split at h <;> simp_all
  all_goals (split at h <;> simp at h)
theorem cc_label {an : Ann} {N l : Nat} {c : Code} (h : cc P an N c = some (.label l)) : c = .label l := by
  unfold cc at h; split at h <;> simp_all
  all_goals (split at h <;> simp at h)
theorem cc_goto {an : Ann} {N l : Nat} {c : Code} (h : cc P an N c = some (.goto l)) : c = .goto l := by
  unfold cc at h; split at h <;> simp_all
  all_goals (split at h <;> simp at h)
theorem cc_rangeF {an : Ann} {N : Nat} {c : Code} {f : Opd} {ps : List Nat} {x y : DC} (h : cc P an N c = some (.rangeF f ps x y)) :
    ∃ f' ps' a b, c = .rangeFunc f' ps' a b ∧ cOpd f' = some f ∧ ps'.toList = ps ∧ cc P an N a = some x ∧ cc P an N b = some y ∧ ∀ t ∈ ps, t < N := by
  unfold cc at h; split at h <;> simp_all
  all_goals (split at h <;> simp_all)
  obtain ⟨hall, rfl, rfl, rfl, rfl⟩ := h
  exact ⟨_, _, _, _, ⟨rfl, rfl, rfl, rfl⟩, ‹_›, rfl, ‹_›, ‹_›, fun t ht => by obtain ⟨i, hi, rfl⟩ := List.getElem_of_mem ht; simpa using hall i (by simpa using hi)⟩
theorem DRun_skip {F : Fr P} {dk : List DItem} {ρ : Env} {L : Loc} {s : St} (h : DRun F dk ρ L s) : DRun F (.code .skip :: dk) ρ L s := by
  intro k hk
  cases hk with
  | code hc ht => obtain rfl := cc_skip hc; exact Goes.step (fun a w => stepR_skip) (h _ ht)
theorem DRun_inBlock {F : Fr P} {id : Nat} {dk : List DItem} {ρ : Env} {L : Loc} {s : St} (h : DRun F dk ρ L s) : DRun F (.inBlock id :: dk) ρ L s := by
  intro k hk
  cases hk with
  | inBlock ht => exact Goes.step (fun a w => stepR_inBlock) (h _ ht)
theorem DRun_seq {F : Fr P} {x y : DC} {dk : List DItem} {ρ : Env} {L : Loc} {s : St} (h : DRun F (.code x :: .code y :: dk) ρ L s) : DRun F (.code (.seq x y) :: dk) ρ L s := by
  intro k hk
  cases hk with
  | code hc ht => obtain ⟨a, b, rfl, ha, hb⟩ := cc_seq hc; exact Goes.step (fun a w => stepR_seq) (h _ (.code ha (.code hb ht)))
theorem DRun_block {F : Fr P} {id : Nat} {x : DC} {dk : List DItem} {ρ : Env} {L : Loc} {s : St} (h : DRun F (.code x :: .inBlock id :: dk) ρ L s) : DRun F (.code (.block id x) :: dk) ρ L s := by
  intro k hk
  cases hk with
  | code hc ht => obtain ⟨a, rfl, ha⟩ := cc_block hc; exact Goes.step (fun a w => stepR_block) (h _ (.code ha (.inBlock ht)))
theorem DRun_loop {F : Fr P} {x : DC} {dk : List DItem} {ρ : Env} {L : Loc} {s : St} (h : DRun F (.code x :: .inLoop x :: dk) ρ L s) : DRun F (.code (.loop x) :: dk) ρ L s := by
  intro k hk
  cases hk with
  | code hc ht => obtain ⟨a, rfl, ha⟩ := cc_loop hc; exact Goes.step (fun a w => stepR_loop) (h _ (.code ha (.inLoop ha ht)))
theorem DRun_inLoop {F : Fr P} {x : DC} {dk : List DItem} {ρ : Env} {L : Loc} {s : St} (h : DRun F (.code x :: .inLoop x :: dk) ρ L s) : DRun F (.inLoop x :: dk) ρ L s := by
  intro k hk
  cases hk with
  | inLoop hc ht => exact Goes.step (fun a w => stepR_inLoop) (h _ (.code hc (.inLoop hc ht)))
theorem DRun_scope {F : Fr P} {x : DC} {dk : List DItem} {ρ : Env} {L : Loc} {s : St} (h : DRun F (.code x :: .inScope x :: dk) ρ L s) : DRun F (.code (.scope x) :: dk) ρ L s := by
  intro k hk
  cases hk with
  | code hc ht => obtain ⟨a, rfl, ha⟩ := cc_scope hc; exact Goes.step (fun a w => stepR_scope) (h _ (.code ha (.inScope ha ht)))
theorem DRun_inScope {F : Fr P} {x : DC} {dk : List DItem} {ρ : Env} {L : Loc} {s : St} (h : DRun F dk ρ L s) : DRun F (.inScope x :: dk) ρ L s := by
  intro k hk
  cases hk with
  | inScope hc ht => exact Goes.step (fun a w => stepR_inScope) (h _ ht)
theorem DRun_label {F : Fr P} {l : Nat} {dk : List DItem} {ρ : Env} {L : Loc} {s : St} (h : DRun F dk ρ L s) : DRun F (.code (.label l) :: dk) ρ L s := by
  intro k hk
  cases hk with
  | code hc ht => obtain rfl := cc_label hc; exact Goes.step (fun a w => stepR_label) (h _ ht)
def findLabelD : DC → Nat → Option DC
  | .seq a b, l => match findLabelD a l with
    | some r => some (.seq r b)
    | none => findLabelD b l
  | .label l', l => if l' = l then some .skip else none
  | _, _ => none
theorem findLabel_ok {an : Ann} {N l : Nat} : ∀ {c : Code} {d : DC}, cc P an N c = some d → (∀ d', findLabelD d l = some d' → ∃ c', findLabel c l = some c' ∧ cc P an N c' = some d') ∧ (findLabelD d l = none → findLabel c l = none) := by
  intro c
  induction c with
  | seq a b iha ihb =>
    intro d h
    unfold cc at h
    split at h <;> simp only [Option.some.injEq, reduceCtorEq] at h
    rename_i x y hx hy
    subst h
    obtain ⟨a1, a2⟩ := iha hx
    obtain ⟨b1, b2⟩ := ihb hy
    refine ⟨fun d' hd => ?_, fun hd => ?_⟩
    · simp only [findLabelD] at hd
      cases hfa : findLabelD x l with
      | some r =>
        simp only [hfa, Option.some.injEq] at hd
        obtain ⟨c', h1, h2⟩ := a1 r hfa
        subst hd
        exact ⟨.seq c' b, by simp [findLabel, h1], by simp [cc, h2, hy]⟩
      | none =>
        simp only [hfa] at hd
        obtain ⟨c', h1, h2⟩ := b1 d' hd
        exact ⟨c', by simp [findLabel, a2 hfa, h1], h2⟩
    · simp only [findLabelD] at hd
      cases hfa : findLabelD x l with
      | some r => simp [hfa] at hd
      | none => simp only [hfa] at hd; simp [findLabel, a2 hfa, b2 hd]
  | label l' =>
    intro d h
    simp only [cc, Option.some.injEq] at h
    subst h
    refine ⟨fun d' hd => ?_, fun hd => ?_⟩
    · simp only [findLabelD] at hd
      split at hd <;> simp only [Option.some.injEq, reduceCtorEq] at hd
      rename_i hl
      subst hd
      exact ⟨.skip, by simp [findLabel, hl], rfl⟩
    · simp only [findLabelD] at hd
      split at hd <;> simp at hd
      rename_i hl
      simp [findLabel, hl]
  | region id ops dr =>
    intro d h
    refine ⟨fun d' hd => ?_, fun _ => rfl⟩
    cases dr <;> simp only [cc, Option.map_eq_some_iff] at h <;> (obtain ⟨_, _, rfl⟩ := h; simp [findLabelD] at hd)
  | _ =>
    intro d h
    refine ⟨fun d' hd => ?_, fun _ => rfl⟩
    first
      | (simp [cc] at h; done)
      | (simp only [cc, Option.map_eq_some_iff] at h; obtain ⟨_, _, rfl⟩ := h; simp [findLabelD] at hd; done)
      | (simp only [cc, Option.some.injEq] at h; subst h; simp [findLabelD] at hd; done)
      | (simp only [cc] at h; split at h <;> (try (split at h)) <;> simp only [Option.some.injEq, reduceCtorEq] at h <;> (subst h; simp [findLabelD] at hd))
def gotoD (l : Nat) : List DItem → Option (List DItem)
  | .inScope body :: k => match findLabelD body l with
    | some r => some (.code r :: .inScope body :: k)
    | none => gotoD l k
  | _ :: k => gotoD l k
  | [] => none
theorem gotoD_ok {an : Ann} {N l : Nat} : ∀ {k : List Item} {dk dk' : List DItem}, ItemsOk P an N k dk → gotoD l dk = some dk' → ∃ k', gotoIn l k = some k' ∧ ItemsOk P an N k' dk'
  | _, _, _, .nil, h => by simp [gotoD] at h
  | _, _, _, .code _ t, h => by simp only [gotoD] at h; obtain ⟨k', h1, h2⟩ := gotoD_ok t h; exact ⟨k', by simpa [gotoIn] using h1, h2⟩
  | _, _, _, .inLoop _ t, h => by simp only [gotoD] at h; obtain ⟨k', h1, h2⟩ := gotoD_ok t h; exact ⟨k', by simpa [gotoIn] using h1, h2⟩
  | _, _, _, .inBlock t, h => by simp only [gotoD] at h; obtain ⟨k', h1, h2⟩ := gotoD_ok t h; exact ⟨k', by simpa [gotoIn] using h1, h2⟩
  | _, _, _, .beginR t, h => by simp only [gotoD] at h; obtain ⟨k', h1, h2⟩ := gotoD_ok t h; exact ⟨k', by simpa [gotoIn] using h1, h2⟩
  | _, _, _, .inScope (c := c) (d := d) hc t, h => by
    simp only [gotoD] at h
    obtain ⟨f1, f2⟩ := findLabel_ok (l := l) hc
    cases hf : findLabelD d l with
    | some r =>
      simp only [hf, Option.some.injEq] at h
      subst h
      obtain ⟨c', h1, h2⟩ := f1 r hf
      exact ⟨_, by simp [gotoIn, h1], .code h2 (.inScope hc t)⟩
    | none =>
      simp only [hf] at h
      obtain ⟨k', h1, h2⟩ := gotoD_ok t h
      exact ⟨k', by simpa [gotoIn, f2 hf] using h1, h2⟩
theorem DRun_goto {F : Fr P} {l : Nat} {dk dk' : List DItem} {ρ : Env} {L : Loc} {s : St} (he : gotoD l dk = some dk') (h : DRun F dk' ρ L s) : DRun F (.code (.goto l) :: dk) ρ L s := by
  intro k hk
  cases hk with
  | code hc ht =>
    obtain rfl := cc_goto hc
    obtain ⟨k', h1, h2⟩ := gotoD_ok ht he
    exact Goes.step (fun a w => stepR_goto h1) (h _ h2)
def exitD (id : Nat) : List DItem → Option (List DItem)
  | .inBlock id' :: k => if id' = id then some k else exitD id k
  | _ :: k => exitD id k
  | [] => none
theorem exitD_ok {an : Ann} {N id : Nat} : ∀ {k : List Item} {dk dk' : List DItem}, ItemsOk P an N k dk → exitD id dk = some dk' → ∃ k', exitTo id k = some k' ∧ ItemsOk P an N k' dk'
  | _, _, _, .nil, h => by simp [exitD] at h
  | _, _, _, .code _ t, h => by simp only [exitD] at h; obtain ⟨k', h1, h2⟩ := exitD_ok t h; exact ⟨k', by simpa [exitTo] using h1, h2⟩
  | _, _, _, .inLoop _ t, h => by simp only [exitD] at h; obtain ⟨k', h1, h2⟩ := exitD_ok t h; exact ⟨k', by simpa [exitTo] using h1, h2⟩
  | _, _, _, .inScope _ t, h => by simp only [exitD] at h; obtain ⟨k', h1, h2⟩ := exitD_ok t h; exact ⟨k', by simpa [exitTo] using h1, h2⟩
  | _, _, _, .beginR t, h => by simp only [exitD] at h; obtain ⟨k', h1, h2⟩ := exitD_ok t h; exact ⟨k', by simpa [exitTo] using h1, h2⟩
  | _, _, _, .inBlock (id := id') t, h => by
    simp only [exitD] at h
    by_cases hid : id' = id
    · simp only [hid, if_true, Option.some.injEq] at h
      subst h
      exact ⟨_, by simp [exitTo, hid], t⟩
    · simp only [hid, if_false] at h
      obtain ⟨k', h1, h2⟩ := exitD_ok t h
      exact ⟨k', by simpa [exitTo, hid] using h1, h2⟩
theorem exitD_none {an : Ann} {N id : Nat} : ∀ {k : List Item} {dk : List DItem}, ItemsOk P an N k dk → exitD id dk = none → exitTo id k = none
  | _, _, .nil, _ => rfl
  | _, _, .code _ t, h => by simp only [exitD] at h; simpa [exitTo] using exitD_none t h
  | _, _, .inLoop _ t, h => by simp only [exitD] at h; simpa [exitTo] using exitD_none t h
  | _, _, .inScope _ t, h => by simp only [exitD] at h; simpa [exitTo] using exitD_none t h
  | _, _, .beginR t, h => by simp only [exitD] at h; simpa [exitTo] using exitD_none t h
  | _, _, .inBlock (id := id') t, h => by
    simp only [exitD] at h
    by_cases hid : id' = id
    · simp [hid] at h
    · simp only [hid, if_false] at h
      simpa [exitTo, hid] using exitD_none t h
theorem DRun_exit {F : Fr P} {id : Nat} {dk dk' : List DItem} {ρ : Env} {L : Loc} {s : St} (he : exitD id dk = some dk') (h : DRun F dk' ρ L s) : DRun F (.code (.exit id) :: dk) ρ L s := by
  intro k hk
  cases hk with
  | code hc ht =>
    obtain rfl := cc_exit hc
    obtain ⟨k', h1, h2⟩ := exitD_ok ht he
    exact Goes.step (fun a w => stepR_exit h1) (h _ h2)
theorem opd_ok {g : G} {ν : Nat → Nat} {w : World} {tmps : Array Value} {ρ : Env} {L : Loc} {s : St} (m : Models g ν w tmps ρ L s) {x : Operand} {y : Opd} (hc : cOpd x = some y) {c : Bool} (hcond : c = true)
    {p : Prop} {e : E} (ha : argE ρ c y = some (p, e)) (hp : p) (ds : List Deferred) : RepE g ν w L ((Act.mk tmps ds).eval x) e := by
  cases x with
  | tmp t =>
    simp only [cOpd, Option.some.injEq] at hc
    subst hc
    simp only [argE] at ha
    split at ha
    · rename_i c' e' hg
      simp only [Option.some.injEq, Prod.mk.injEq] at ha
      obtain ⟨rfl, rfl⟩ := ha
      exact (m.env t _ hg).1 (hp hcond)
    · rename_i e' hne hg
      simp only [Option.some.injEq, Prod.mk.injEq] at ha
      obtain ⟨rfl, rfl⟩ := ha
      exact m.env t _ hg
    · simp at ha
  | const v =>
    simp only [cOpd, Option.map_eq_some_iff] at hc
    obtain ⟨d, hd, rfl⟩ := hc
    simp only [argE, Option.some.injEq, Prod.mk.injEq] at ha
    obtain ⟨rfl, rfl⟩ := ha
    exact constD_ok hd
  | func f =>
    simp only [cOpd, Option.some.injEq] at hc
    subst hc
    simp only [argE, Option.some.injEq, Prod.mk.injEq] at ha
    obtain ⟨rfl, rfl⟩ := ha
    exact .fn (.func f) [] [] [] [] rfl rfl (fun i v d h => by simp at h) (fun i v d h => by simp at h)
  | global g =>
    simp only [cOpd, Option.some.injEq] at hc
    subst hc
    simp only [argE, Option.some.injEq, Prod.mk.injEq] at ha
    obtain ⟨rfl, rfl⟩ := ha
    exact .any _
theorem opds_ok {g : G} {ν : Nat → Nat} {w : World} {tmps : Array Value} {ρ : Env} {L : Loc} {s : St} (m : Models g ν w tmps ρ L s) {c : Bool} (hcond : c = true) (ds : List Deferred) :
    ∀ {xs : List Operand} {ys : List Opd} {p : Prop} {es : List E}, cOpds xs = some ys → argsE ρ c ys = some (p, es) → p → All2 (RepE g ν w L) (xs.map (Act.mk tmps ds).eval) es
  | [], ys, p, es, hc, ha, hp => by
    simp only [cOpds, Option.some.injEq] at hc
    subst hc
    simp only [argsE, Option.some.injEq, Prod.mk.injEq] at ha
    obtain ⟨rfl, rfl⟩ := ha
    exact .nil
  | x :: xs, ys, p, es, hc, ha, hp => by
    simp only [cOpds] at hc
    split at hc <;> simp at hc
    rename_i y ys' hy hys
    subst hc
    simp only [argsE] at ha
    split at ha <;> simp only [Option.some.injEq, Prod.mk.injEq, reduceCtorEq] at ha
    rename_i p1 e1 p2 es' h1 h2
    obtain ⟨rfl, rfl⟩ := ha
    exact .cons (opd_ok m hy hcond h1 hp.1 ds) (opds_ok m hcond ds hys h2 hp.2)
theorem DRun_cond {F : Fr P} {o : Opd} {x y : DC} {dk : List DItem} {ρ : Env} {L : Loc} {s : St} {b : Bool} {p : Prop} (ho : argE ρ true o = some (p, .d (.bool b))) (hp : p)
    (ht : b = true → DRun F (.code x :: dk) ρ L s) (hf : b = false → DRun F (.code y :: dk) ρ L s) : DRun F (.code (.cond o x y) :: dk) ρ L s := by
  intro k hk
  cases hk with
  | code hc htl =>
    obtain ⟨o', a, b', rfl, ho', ha, hb⟩ := cc_cond hc
    intro g ν w tmps hN m
    have hv := opd_ok m ho' rfl ho hp F.ds
    have hv' : (Act.mk tmps F.ds).eval o' = .bool b := rep_bool hv
    refine F.T.back _ _ _ _ (.one (stepR_cond hv')) ?_
    cases b
    · exact hf rfl _ (.code hb htl) g ν w tmps hN m
    · exact ht rfl _ (.code ha htl) g ν w tmps hN m
theorem DRun_reg {F : Fr P} {os : List DOp} {ks : Option (List Nat)} {dk : List DItem} {ρ : Env} {L : Loc} {s : St} (h : DO F ks dk os ρ L s) : DRun F (.code (.reg os ks) :: dk) ρ L s := by
  intro k hk
  cases hk with
  | code hc ht =>
    obtain ⟨id, ops, rfl, hops, _⟩ := cc_reg hc
    exact Goes.step (fun a w => stepR_region) (h _ _ _ hops ht)
end
end Go.DL
namespace Go.DL
open Go
theorem alloc_old (w : World) (o : Obj) {b : Nat} (h : b < w.heap.size) : (w.alloc o).heap[b]? = w.heap[b]? := by
  show (w.heap.push o)[b]? = _
  rw [Array.getElem?_push]; simp [Nat.ne_of_lt h]
theorem alloc_new (w : World) (o : Obj) : (w.alloc o).heap[w.heap.size]? = some o := by
  show (w.heap.push o)[w.heap.size]? = _
  rw [Array.getElem?_push]; simp
theorem one1_eq (v : Value) : v.oneCell' = v.one1 := by cases v <;> rfl
section
variable {P : Program} {g : G} {ν : Nat → Nat} {w : World} {tmps : Array Value} {ρ : Env} {L : Loc} {s : St}
theorem ext_setRow (b : Nat) {cur vs : Array Value} {T : TypeId} (hb : w.heap[b]? = some (.cells cur T (0, 0))) (hsz : vs.size = cur.size) (hp : g.prot b = 0) (hk : ¬ g.kept b) : Ext g w g (w.setRow b vs) := {
  size := by simp
  prot _ := Nat.le_refl _
  cell b' o ho := by
    by_cases h : b' = b
    · subst h; omega
    · exact cell_of_heap (setRow_other w b b' vs h)
  hdr b' x hx := by
    by_cases h : b' = b
    · subst h
      simp only [hdr, hb] at hx
      simp only [hdr, setRow_heap w b' cur vs T (0, 0) hb, hsz]; exact hx
    · rw [hdr_of_heap (setRow_other w b b' vs h)]; exact hx
  kept b' hb' := setRow_other w b b' vs (fun h => hk (h ▸ hb'))
  keptProt _ _ := rfl
  keptEq := rfl
  os := rfl
  output := rfl
  tape := rfl }
theorem StOk.other {g : G} {w w' : World} {s : St} (m : StOk g s w) (e : Ext g w g w') (hs : w'.heap.size = w.heap.size) (hb : ∀ b o, s b = some o → w'.heap[b]? = w.heap[b]?) : StOk g s w' := {
  obj b o ho := (m.obj b o ho).mono e (hb b o ho) rfl
  kept := m.kept
  fresh b h := m.fresh b (by omega) }
theorem Models.store (m : Models g ν w tmps ρ L s) {l : Nat} {cs ds : List D} (hl : getL L l = some cs) {vs : Array Value} (hr : All2 (Rep g w) vs.toList ds) (ho : ∀ v ∈ vs, v.one1 = true) (hn : ds.length = cs.length) :
    Ext g w g (w.setRow (ν l) vs) ∧ Models g ν (w.setRow (ν l) vs) tmps ρ ((l, ds) :: L) s := by
  obtain ⟨hp, cur, T, h1, h2, _, _⟩ := m.loc l cs hl
  have hsz : vs.size = cur.size := by have := hr.len; simp at this; omega
  have he := ext_setRow (g := g) (ν l) h1 hsz hp (m.locKept l cs hl)
  refine ⟨he, ⟨?_, ?_, ?_, ?_, ?_, ?_⟩⟩
  · exact m.st.other he (by simp) (fun b o hb => setRow_other w (ν l) b vs (fun h => by subst h; rw [m.locSt l cs hl] at hb; simp at hb))
  · intro l' cs' hl'
    simp only [getL] at hl'
    by_cases h : l = l'
    · subst h
      simp only [if_true, Option.some.injEq] at hl'
      subst hl'
      refine ⟨hp, vs, T, setRow_heap w (ν l) cur vs T (0, 0) h1, by rw [hsz, h2, hn], fun i v d hv hd => ?_, ho⟩
      exact (hr.get i v d (by simpa using hv) hd).mono he
    · simp only [h, if_false] at hl'
      have hne : ν l' ≠ ν l := fun hh => h (m.inj l l' cs cs' hl hl' hh.symm)
      exact (m.loc l' cs' hl').mono he (setRow_other w (ν l) (ν l') vs hne) rfl
  · intro l' cs' hl'
    simp only [getL] at hl'
    by_cases h : l = l'
    · subst h; exact m.locKept l cs hl
    · simp only [h, if_false] at hl'; exact m.locKept l' cs' hl'
  · intro l' cs' hl'
    simp only [getL] at hl'
    by_cases h : l = l'
    · subst h; exact m.locSt l cs hl
    · simp only [h, if_false] at hl'; exact m.locSt l' cs' hl'
  · intro a b ca cb ha hb hab
    simp only [getL] at ha hb
    by_cases h1 : l = a
    · by_cases h2 : l = b
      · exact h1.symm.trans h2
      · simp only [h2, if_false] at hb
        subst h1; exact m.inj _ _ cs cb hl hb hab
    · simp only [h1, if_false] at ha
      by_cases h2 : l = b
      · subst h2; exact m.inj _ _ ca cs ha hl hab
      · simp only [h2, if_false] at hb
        exact m.inj _ _ ca cb ha hb hab
  · intro t e ht
    refine ((m.env t e ht).mono he).locs (fun l' cs' hl' => ⟨?_, rfl⟩)
    by_cases h : l = l'
    · exact ⟨ds, by simp [getL, h]⟩
    · exact ⟨cs', by simp [getL, h, hl']⟩
theorem grow_alloc (c : Array Value) (T : TypeId) (hf : ∀ b, w.heap.size ≤ b → g.prot b = 0 ∧ ¬ g.kept b) : Grow g w g (w.alloc (.cells c T)) := {
  size := by simp
  old b hb := alloc_old w _ hb
  prot _ _ := rfl
  fresh b hb := (hf b (by simp at hb; omega)).1
  kept := rfl
  os := rfl
  output := rfl
  tape := rfl }
theorem Models.alloc (m : Models g ν w tmps ρ L s) {l : Nat} {ds : List D} (hl : hasL L l = false) {vs : Array Value} (hr : All2 (Rep g w) vs.toList ds) (ho : ∀ v ∈ vs, v.one1 = true) (T : TypeId) :
    Ext g w g (w.alloc (.cells vs T)) ∧ Models g (fun x => if x = l then w.heap.size else ν x) (w.alloc (.cells vs T)) tmps ρ ((l, ds) :: L) s := by
  have hg := grow_alloc (g := g) vs T m.st.fresh
  have he := hg.ext m.st.fresh
  have m' := m.grow hg
  have hn : getL L l = none := by simpa [hasL] using hl
  have hlt : ∀ l' cs', getL L l' = some cs' → l' ≠ l := fun l' cs' h hh => by subst hh; rw [hn] at h; simp at h
  refine ⟨he, ⟨m'.st, ?_, ?_, ?_, ?_, ?_⟩⟩
  · intro l' cs' hl'
    simp only [getL] at hl'
    by_cases h : l = l'
    · subst h
      simp only [if_true, Option.some.injEq] at hl'
      subst hl'
      simp only [if_true]
      refine ⟨(m.st.fresh _ (Nat.le_refl _)).1, vs, T, alloc_new w _, by simpa using hr.len, fun i v d hv hd => ?_, ho⟩
      exact (hr.get i v d (by simpa using hv) hd).mono he
    · simp only [h, if_false] at hl'
      simp only [show ¬ l' = l from fun hh => h hh.symm, if_false]
      exact m'.loc l' cs' hl'
  · intro l' cs' hl'
    simp only [getL] at hl'
    by_cases h : l = l'
    · subst h; simp only [if_true]; exact (m.st.fresh _ (Nat.le_refl _)).2
    · simp only [h, if_false] at hl'
      simp only [show ¬ l' = l from fun hh => h hh.symm, if_false]
      exact m.locKept l' cs' hl'
  · intro l' cs' hl'
    simp only [getL] at hl'
    by_cases h : l = l'
    · subst h
      simp only [if_true]
      cases hs : s w.heap.size with
      | none => rfl
      | some o => exact absurd (m.st.obj _ o hs).lt (Nat.lt_irrefl _)
    · simp only [h, if_false] at hl'
      simp only [show ¬ l' = l from fun hh => h hh.symm, if_false]
      exact m.locSt l' cs' hl'
  · intro a b ca cb ha hb hab
    simp only [getL] at ha hb
    by_cases h1 : l = a
    · by_cases h2 : l = b
      · exact h1.symm.trans h2
      · simp only [h2, if_false] at hb
        simp only [h1.symm, if_true, show ¬ b = l from fun hh => h2 hh.symm, if_false] at hab
        have := (m.loc b cb hb).lt
        omega
    · simp only [h1, if_false] at ha
      by_cases h2 : l = b
      · simp only [h2.symm, if_true, show ¬ a = l from fun hh => h1 hh.symm, if_false] at hab
        have := (m.loc a ca ha).lt
        omega
      · simp only [h2, if_false] at hb
        simp only [show ¬ a = l from fun hh => h1 hh.symm, show ¬ b = l from fun hh => h2 hh.symm, if_false] at hab
        exact m.inj _ _ ca cb ha hb hab
  · intro t e ht
    refine (m'.env t e ht).locs (fun l' cs' hl' => ⟨⟨cs', ?_⟩, ?_⟩)
    · have := hlt l' cs' hl'
      simp [getL, show ¬ l = l' from fun hh => this hh.symm, hl']
    · simp [hlt l' cs' hl']
theorem grow_frozen (c : Array Value) (T : TypeId) (hf : ∀ b, w.heap.size ≤ b → g.prot b = 0 ∧ ¬ g.kept b) :
    Grow g w { g with prot := fun b => if b = w.heap.size then c.size else g.prot b } (w.alloc (.cells c T)) where
  size := by simp
  old b hb := alloc_old w _ hb
  prot b hb := by simp [Nat.ne_of_lt hb]
  fresh b hb := by simp at hb; simp [show b ≠ w.heap.size by omega, (hf b (by omega)).1]
  kept := rfl
  os := rfl
  output := rfl
  tape := rfl
theorem guard_ok (m : Models g ν w tmps ρ L s) {ops : Array Oper} {o : Oper} {gd : Option (Nat × Bool)} (hc : cguard ops o.guard = some gd) {c : Bool} (hg : guardB ρ gd = some c) : Region.wanted o (yielded ops tmps) = c := by
  unfold cguard at hc
  unfold Region.wanted
  split at hc
  · rename_i h0
    simp only [Option.some.injEq] at hc; subst hc
    simp only [guardB, Option.some.injEq] at hg; subst hg
    simp [h0]
  · rename_i j b h0
    split at hc <;> simp at hc
    rename_i t ht
    subst hc
    simp only [h0]
    have hy : yielded ops tmps j = match tmps.getD t undef with
        | .bool b => some b
        | _ => none := by
      unfold yielded
      rw [ht]
      simp only [Option.bind_some]
      rcases Nat.lt_or_ge t tmps.size with hlt | hge
      · simp [Array.getD, hlt]
        split <;> simp_all
      · simp [Array.getD, Nat.not_lt.2 hge, undef]
    simp only [guardB] at hg
    split at hg
    · rename_i b' he
      simp only [Option.some.injEq] at hg; subst hg
      have := rep_bool (m.env t _ he)
      rw [hy, this]
      cases b <;> cases b' <;> rfl
    · rename_i c0 b' he
      simp only [Option.some.injEq] at hg; subst hg
      have h := m.env t _ he
      cases c0
      · have := h.2 rfl
        rw [hy, this]
        simp [undef]
      · have := rep_bool (h.1 rfl)
        rw [hy, this]
        cases b <;> cases b' <;> rfl
    · simp at hg
end
end Go.DL
namespace Go.DL
open Go
section
variable {P : Program}
theorem ck_defer {op : Op} {k : K} (h : ck P op = some k) (hk : k.isDefer = false) (c : Call) : op ≠ .defer c := by
  rintro rfl
  simp only [ck, cq] at h
  split at h <;> (try (simp at h; done))
  split at h <;> simp only [Option.some.injEq, reduceCtorEq] at h
  subst h
  simp [K.isDefer] at hk
theorem step_value {b : Frame} {a : Act} {k : List Item} {cs : List Frame} {w w' : World} {ops : Array Oper} {i : Nat} {rest : List Nat} {o : Oper} {v : Value} (ho : ops[i]? = some o)
    (hw : Region.wanted o (yielded ops a.tmps) = true) (hnd : ∀ c, o.op ≠ .defer c) (hr : (execOp a.eval o).run P w = .ok (.value v) w') :
    step P (lone (b.atR a (.inRegion ops (i :: rest) :: k)) cs w) = .next (lone (b.atR (a.put o.dst v) (.inRegion ops rest :: k)) cs w') := by
  refine step_lone_go ?_
  rw [stepGR_op ho hw, Oper.semAt_eq _ _ _ hnd]
  have hfin : (b.atR a (.inRegion ops (i :: rest) :: k)).finish v = b.atR (a.put o.dst v) (.inRegion ops rest :: k) := by rw [Frame.finish_atR, ho]; rfl
  rw [← hfin]; simp [stepG.apply, hr]
theorem step_skip' {b : Frame} {a : Act} {k : List Item} {cs : List Frame} {w w' : World} {ops : Array Oper} {i : Nat} {rest : List Nat} {o : Oper} (ho : ops[i]? = some o)
    (hw : Region.wanted o (yielded ops a.tmps) = true) (hnd : ∀ c, o.op ≠ .defer c) (hr : (execOp a.eval o).run P w = .ok .skip w') :
    step P (lone (b.atR a (.inRegion ops (i :: rest) :: k)) cs w) = .next (lone (b.atR (a.put o.dst undef) (.inRegion ops rest :: k)) cs w') := by
  refine step_lone_go ?_
  rw [stepGR_op ho hw, Oper.semAt_eq _ _ _ hnd]
  have hfin : (b.atR a (.inRegion ops (i :: rest) :: k)).finish undef = b.atR (a.put o.dst undef) (.inRegion ops rest :: k) := by rw [Frame.finish_atR, ho]; rfl
  rw [← hfin]; simp [stepG.apply, hr]
theorem step_unwanted {b : Frame} {a : Act} {k : List Item} {cs : List Frame} {w : World} {ops : Array Oper} {i : Nat} {rest : List Nat} {o : Oper} (ho : ops[i]? = some o)
    (hw : Region.wanted o (yielded ops a.tmps) = false) :
    step P (lone (b.atR a (.inRegion ops (i :: rest) :: k)) cs w) = .next (lone (b.atR (a.put o.dst undef) (.inRegion ops rest :: k)) cs w) := by
  have := stepR_op_skip (P := P) (b := b) (a := a) (k := k) (cs := cs) (w := w) (ops := ops) (i := i) (rest := rest) (by simp [ho, hw])
  simpa [ho] using this
theorem cops_cons {N : Nat} {ops : Array Oper} {is : List Nat} {o : DOp} {os : List DOp} (h : cops P N ops is = some (o :: os)) :
    ∃ i r oo, is = i :: r ∧ ops[i]? = some oo ∧ cops P N ops r = some os ∧ ck P oo.op = some o.k ∧ cguard ops oo.guard = some o.guard ∧ oo.dst = o.dst ∧ ∀ d, o.dst = some d → d < N := by
  cases is with
  | nil => simp [cops] at h
  | cons i r =>
    simp only [cops] at h
    split at h <;> (try (simp at h; done))
    rename_i oo hoo
    split at h <;> simp only [Option.some.injEq, List.cons.injEq, reduceCtorEq] at h
    rename_i d ds hd hds
    obtain ⟨rfl, rfl⟩ := h
    simp only [cop] at hd
    split at hd <;> (try (simp at hd; done))
    rename_i k g hk hg
    refine ⟨i, r, oo, rfl, hoo, hds, ?_⟩
    split at hd
    · rename_i hdst
      simp only [Option.some.injEq] at hd; subst hd
      exact ⟨hk, hg, hdst, fun d h => by simp at h⟩
    · rename_i d' hdst
      split at hd <;> simp at hd
      rename_i hlt
      subst hd
      exact ⟨hk, hg, hdst, fun d h => by simp only [Option.some.injEq] at h; exact h ▸ hlt⟩
theorem cops_nil {N : Nat} {ops : Array Oper} {is : List Nat} (h : cops P N ops is = some []) : is = [] := by
  cases is with
  | nil => rfl
  | cons i r => simp only [cops] at h; split at h <;> (try (simp at h; done)); split at h <;> simp at h
theorem put_ok {g : G} {ν : Nat → Nat} {w : World} {tmps : Array Value} {ρ : Env} {L : Loc} {s : St} (m : Models g ν w tmps ρ L s) {N : Nat} (hN : N ≤ tmps.size) {dst : Option Nat} (hd : ∀ d, dst = some d → d < N) {v : Value} {e : E}
    (h : RepE g ν w L v e) (ds : List Deferred) : ∃ tmps', (Act.mk tmps ds).put dst v = ⟨tmps', ds⟩ ∧ N ≤ tmps'.size ∧ Models g ν w tmps' (putE ρ dst e) L s := by
  cases dst with
  | none => exact ⟨tmps, rfl, hN, m⟩
  | some d => exact ⟨tmps.setIfInBounds d v, rfl, by simpa using hN, m.put (by have := hd d rfl; omega) h⟩
theorem goes_value {F : Fr P} {ops : Array Oper} {i : Nat} {r : List Nat} {k : List Item} {oo : Oper} {o : DOp} {g : G} {ν : Nat → Nat} {w : World} {tmps : Array Value} {ρ : Env} {L : Loc} {s : St} (hN : F.N ≤ tmps.size)
    (m : Models g ν w tmps ρ L s) (hoo : ops[i]? = some oo) (hdst : oo.dst = o.dst) (hd : ∀ d, o.dst = some d → d < F.N) (hw : Region.wanted oo (yielded ops tmps) = true) (hnd : ∀ c, oo.op ≠ .defer c) {e : E}
    (hv : ∃ v, (execOp (Act.mk tmps F.ds).eval oo).run P w = .ok (.value v) w ∧ RepE g ν w L v e) (h : Goes F (.inRegion ops r :: k) (putE ρ o.dst e) L s) :
    F.T.T g w (lone (F.b.atR ⟨tmps, F.ds⟩ (.inRegion ops (i :: r) :: k)) F.cs w) := by
  obtain ⟨v, hr, hv⟩ := hv
  refine F.T.back _ _ _ _ (.one (step_value hoo hw hnd hr)) ?_
  rw [hdst]
  obtain ⟨tmps', e1, e2, m'⟩ := put_ok m hN hd hv F.ds
  rw [e1]
  exact h g ν w tmps' e2 m'
theorem goes_unwanted {F : Fr P} {ops : Array Oper} {i : Nat} {r : List Nat} {k : List Item} {oo : Oper} {o : DOp} {g : G} {ν : Nat → Nat} {w : World} {tmps : Array Value} {ρ : Env} {L : Loc} {s : St} (hN : F.N ≤ tmps.size)
    (m : Models g ν w tmps ρ L s) (hoo : ops[i]? = some oo) (hdst : oo.dst = o.dst) (hd : ∀ d, o.dst = some d → d < F.N) (hw : Region.wanted oo (yielded ops tmps) = false) {e : E}
    (h : Goes F (.inRegion ops r :: k) (putE ρ o.dst (.when false e)) L s) : F.T.T g w (lone (F.b.atR ⟨tmps, F.ds⟩ (.inRegion ops (i :: r) :: k)) F.cs w) := by
  refine F.T.back _ _ _ _ (.one (step_unwanted hoo hw)) ?_
  rw [hdst]
  obtain ⟨tmps', e1, e2, m'⟩ := put_ok m hN hd (v := undef) (e := .when false e) ⟨fun h => by simp at h, fun _ => rfl⟩ F.ds
  rw [e1]
  exact h g ν w tmps' e2 m'
theorem ck_q {op : Op} {q : Q} {xs : List Opd} (h : ck P op = some (.q q xs)) : ∃ ys, cq P op = some (q, ys) ∧ cOpds ys = some xs := by
  unfold ck at h
  split at h
  · rename_i q' ys hc
    simp only [Option.map_eq_some_iff, K.q.injEq] at h
    obtain ⟨zs, hz, rfl, rfl⟩ := h
    exact ⟨ys, hc, hz⟩
  · exfalso
    split at h <;> (try (simp at h; done))
    all_goals (repeat' (split at h <;> (try (simp at h; done))))
theorem getE_keep (ρ : Env) : ∀ (ks : List Nat) (t : Nat) (e : E), getE (keepE ρ ks) t = some e → getE ρ t = some e
  | [], t, e, h => by simp [keepE, getE] at h
  | k :: ks, t, e, h => by
    simp only [keepE] at h
    split at h
    · rename_i e' he'
      simp only [getE] at h
      by_cases hk : k = t
      · subst hk; simp only [if_true] at h; rw [he', h]
      · simp only [hk, if_false] at h; exact getE_keep ρ ks t e h
    · exact getE_keep ρ ks t e h
theorem mem_of_getE : ∀ {ρ : Env} {t : Nat} {e : E}, getE ρ t = some e → (t, e) ∈ ρ
  | (k, e') :: ρ, t, e, h => by
    simp only [getE] at h
    by_cases hk : k = t
    · simp only [hk, if_true, Option.some.injEq] at h; subst h; subst hk; simp
    · simp only [hk, if_false] at h; exact List.mem_cons_of_mem _ (mem_of_getE h)
theorem getL_take (L : Loc) : ∀ (ls : List Nat) (l : Nat) (cs : List D), getL (takeL L ls) l = some cs → getL L l = some cs
  | [], l, cs, h => by simp [takeL, getL] at h
  | k :: ls, l, cs, h => by
    simp only [takeL] at h
    split at h
    · rename_i c' hc'
      simp only [getL] at h
      by_cases hk : k = l
      · subst hk; simp only [if_true] at h; rw [hc', h]
      · simp only [hk, if_false] at h; exact getL_take L ls l cs h
    · exact getL_take L ls l cs h
theorem takeL_mem (L : Loc) : ∀ (ls : List Nat) (l : Nat) (cs : List D), l ∈ ls → getL L l = some cs → getL (takeL L ls) l = some cs
  | k :: ls, l, cs, hm, h => by
    simp only [takeL]
    by_cases hk : k = l
    · subst hk; simp [h, getL]
    · have hm' : l ∈ ls := by rcases List.mem_cons.1 hm with rfl | h; exact absurd rfl hk; exact h
      split
      · simp only [getL, hk, if_false]; exact takeL_mem L ls l cs hm' h
      · exact takeL_mem L ls l cs hm' h
theorem RepE.keep {g : G} {ν : Nat → Nat} {w : World} {L : Loc} {ls : List Nat} {v : Value} {e : E} (h : RepE g ν w L v e) (hl : ∀ l ∈ locsE e, l ∈ ls) : RepE g ν w (takeL L ls) v e := by
  induction e with
  | d x => exact h
  | loc l o => obtain ⟨⟨cs, hc⟩, hv⟩ := h; exact ⟨⟨cs, takeL_mem L ls l cs (hl l (by simp [locsE])) hc⟩, hv⟩
  | when c e ih => exact ⟨fun hc => ih (h.1 hc) hl, h.2⟩
theorem Models.keep {g : G} {ν : Nat → Nat} {w : World} {tmps : Array Value} {ρ : Env} {L : Loc} {s : St} (m : Models g ν w tmps ρ L s) (ks : List Nat) : Models g ν w tmps (keepE ρ ks) (keepL (keepE ρ ks) L) s := {
  st := m.st
  loc l cs h := m.loc l cs (getL_take _ _ _ _ h)
  locKept l cs h := m.locKept l cs (getL_take _ _ _ _ h)
  locSt l cs h := m.locSt l cs (getL_take _ _ _ _ h)
  inj l l' cs cs' h h' := m.inj l l' cs cs' (getL_take _ _ _ _ h) (getL_take _ _ _ _ h')
  env t e h := (m.env t e (getE_keep ρ ks t e h)).keep (fun l hl => List.mem_flatMap.2 ⟨(t, e), mem_of_getE h, hl⟩) }
theorem DRun_keep {F : Fr P} {dk : List DItem} {ρ : Env} {L : Loc} {s : St} (ks : List Nat) (h : DRun F dk (keepE ρ ks) (keepL (keepE ρ ks) L) s) : DRun F dk ρ L s :=
  fun k hk g ν w tmps hN m => h k hk g ν w tmps hN (m.keep ks)
theorem DO_nil {F : Fr P} {kp : Option (List Nat)} {dk : List DItem} {ρ : Env} {L : Loc} {s : St} (h : DRun F dk ρ L s) : DO F kp dk [] ρ L s := by
  intro ops is k hops hk g ν w tmps hN m
  obtain rfl := cops_nil hops
  exact F.T.back _ _ _ _ (.one stepR_region_end) (h k hk g ν w tmps hN m)
def kept (kp : Option (List Nat)) (ρ : Env) : Env :=
  match kp with
  | some ks => keepE ρ ks
  | none => ρ
def keptL (kp : Option (List Nat)) (ρ : Env) (L : Loc) : Loc :=
  match kp with
  | some ks => keepL (keepE ρ ks) L
  | none => L
theorem DO_end {F : Fr P} {kp : Option (List Nat)} {dk : List DItem} {ρ : Env} {L : Loc} {s : St} (h : DRun F dk (kept kp ρ) (keptL kp ρ L) s) : DO F kp dk [] ρ L s := by
  refine DO_nil ?_
  cases kp with
  | none => exact h
  | some ks => exact DRun_keep ks h
end
end Go.DL
namespace Go.DL
open Go
section
variable {P : Program}
theorem pickE_ok {g : G} {ν : Nat → Nat} {w : World} {tmps : Array Value} {ρ : Env} {L : Loc} {s : St} (m : Models g ν w tmps ρ L s) {x a b : Operand} {x' a' b' : Opd} (hx : cOpd x = some x') (ha : cOpd a = some a')
    (hb : cOpd b = some b') {c : Bool} (hc : c = true) {p : Prop} {v : Bool} (h : pickE ρ c x' a' b' = some (p, v)) (hp : p) (ds : List Deferred) (dst : Option Nat) (ty : TypeId) (pos : String) (af : Array Edge) (gd : Option (Nat × Bool)) :
    (execOp (Act.mk tmps ds).eval ⟨dst, .pick x a b, ty, pos, af, gd⟩).run P w = .ok (.value (.bool v)) w := by
  unfold pickE at h
  split at h <;> (try (simp at h; done))
  rename_i p0 v0 h0
  split at h <;> (try (simp at h; done))
  rename_i pa y pb z h1 h2
  simp only [Option.some.injEq, Prod.mk.injEq] at h
  obtain ⟨rfl, rfl⟩ := h
  subst hc
  have e0 := rep_bool (opd_ok m hx rfl h0 hp.1 ds)
  cases v0
  · have e2 := rep_bool (opd_ok m hb rfl h2 hp.2.2 ds)
    simp [execOp, e0, e2, asBool]
  · have e1 := rep_bool (opd_ok m ha rfl h1 hp.2.1 ds)
    simp [execOp, e0, e1, asBool]
theorem ck_pick {op : Op} {x a b : Opd} (h : ck P op = some (.pick x a b)) : ∃ x' a' b', op = .pick x' a' b' ∧ cOpd x' = some x ∧ cOpd a' = some a ∧ cOpd b' = some b := by
  unfold ck at h
  split at h
  · simp at h
  · split at h <;> (try (simp at h; done))
    all_goals (try (repeat' (split at h <;> (try (simp at h; done)))))
    simp only [Option.some.injEq, K.pick.injEq] at h
    obtain ⟨rfl, rfl, rfl⟩ := h
    exact ⟨_, _, _, rfl, ‹_›, ‹_›, ‹_›⟩
theorem ck_alloc {op : Op} {z : List D} (h : ck P op = some (.alloc z)) : ∃ e, op = .alloc e ∧ zeroT P e = some z := by
  unfold ck at h
  split at h
  · simp at h
  · split at h <;> (try (simp at h; done))
    all_goals (try (repeat' (split at h <;> (try (simp at h; done)))))
    simp only [Option.map_eq_some_iff, K.alloc.injEq, exists_eq_right] at h
    exact ⟨_, rfl, h⟩
theorem ck_box {op : Op} {x : Opd} (h : ck P op = some (.box x)) : ∃ e x', op = .box e x' ∧ cOpd x' = some x := by
  unfold ck at h
  split at h
  · simp at h
  · split at h <;> (try (simp at h; done))
    all_goals (try (repeat' (split at h <;> (try (simp at h; done)))))
    simp only [Option.map_eq_some_iff, K.box.injEq, exists_eq_right] at h
    exact ⟨_, _, rfl, h⟩
theorem ck_store1 {op : Op} {a v : Opd} (h : ck P op = some (.store1 a v)) : ∃ t a' v', op = .store t a' v' ∧ aggT P t = some false ∧ sizeT P t = some 1 ∧ cOpd a' = some a ∧ cOpd v' = some v := by
  unfold ck at h
  split at h
  · simp at h
  · split at h <;> (try (simp at h; done))
    all_goals (try (repeat' (split at h <;> (try (simp at h; done)))))
    simp only [Option.some.injEq, K.store1.injEq] at h
    obtain ⟨rfl, rfl⟩ := h
    exact ⟨_, _, _, rfl, ‹_›, ‹_›, ‹_›, ‹_›⟩
theorem ck_storeN {op : Op} {a v : Opd} {n : Nat} (h : ck P op = some (.storeN n a v)) : ∃ t a' v', op = .store t a' v' ∧ aggT P t = some true ∧ sizeT P t = some n ∧ cOpd a' = some a ∧ cOpd v' = some v := by
  unfold ck at h
  split at h
  · simp at h
  · split at h <;> (try (simp at h; done))
    all_goals (try (repeat' (split at h <;> (try (simp at h; done)))))
    simp only [Option.some.injEq, K.storeN.injEq] at h
    obtain ⟨rfl, rfl, rfl⟩ := h
    exact ⟨_, _, _, rfl, ‹_›, ‹_›, ‹_›, ‹_›⟩
theorem ck_bsl {op : Op} {len n : Nat} {z : List D} {is : List Nat} {xs : List Opd} (h : ck P op = some (.bsl len n z is xs)) :
    ∃ t e parts, op = .buildSlice t len parts ∧ P.underlying t = some (.slice e) ∧ sizeT P e = some n ∧ zeroT P e = some z ∧ cOpds (parts.toList.map (·.2)) = some xs ∧ is = parts.toList.map (·.1) ∧
      distinctLt len is = true ∧ z.length = n ∧ 0 < n ∧ len * n ≤ 2 ^ 24 := by
  unfold ck at h
  split at h
  · simp at h
  · split at h <;> (try (simp at h; done))
    all_goals (try (repeat' (split at h <;> (try (simp at h; done)))))
    rename_i hcond
    simp only [Option.some.injEq, K.bsl.injEq] at h
    obtain ⟨rfl, rfl, rfl, rfl, rfl⟩ := h
    simp only [Bool.and_eq_true, decide_eq_true_eq] at hcond
    exact ⟨_, _, _, rfl, ‹_›, ‹_›, ‹_›, ‹_›, rfl, hcond.1.1.1, hcond.1.1.2, hcond.1.2, hcond.2⟩
theorem zero_ok {g : G} {w : World} {t : TypeId} {z : List D} (h : zeroT P t = some z) : ∃ v, (zeroValue t).run P w = .ok v w ∧ All2 (Rep g w) v.cells.toList z ∧ (∀ x ∈ v.cells, x.one1 = true) ∧ ∃ i, P.info? t = some i ∧ i.zero = some v := by
  unfold zeroT at h
  cases hi : P.info? t with
  | none => simp [hi] at h
  | some i =>
    cases hz : i.zero with
    | none => simp [hi, hz] at h
    | some v =>
      simp only [hi, hz] at h
      obtain ⟨h1, h2⟩ := consts_ok (g := g) (w := w) h
      exact ⟨v, by simp [zeroValue, typeInfo, hi, hz], h1, fun x hx => h2 x (Array.mem_toList_iff.2 hx), i, rfl, hz⟩
theorem DO_of {F : Fr P} {kp : Option (List Nat)} {dk : List DItem} {o : DOp} {os : List DOp} {ρ : Env} {L : Loc} {s : St}
    (h : ∀ (oo : Oper) (g : G) (ν : Nat → Nat) (w : World) (tmps : Array Value) (ops : Array Oper) (i : Nat) (r : List Nat) (k : List Item), ops[i]? = some oo → ck P oo.op = some o.k → cguard ops oo.guard = some o.guard →
      oo.dst = o.dst → (∀ d, o.dst = some d → d < F.N) → F.N ≤ tmps.size → Models g ν w tmps ρ L s → cops P F.N ops r = some os → ItemsOk P F.an F.N k dk →
      F.T.T g w (lone (F.b.atR ⟨tmps, F.ds⟩ (.inRegion ops (i :: r) :: k)) F.cs w)) : DO F kp dk (o :: os) ρ L s := by
  intro ops is k hops hk g ν w tmps hN m
  obtain ⟨i, r, oo, rfl, h1, h2, h3, h4, h5, h6⟩ := cops_cons hops
  exact h oo g ν w tmps ops i r k h1 h3 h4 h5 h6 hN m h2 hk
theorem DO_val {F : Fr P} {kp : Option (List Nat)} {dk : List DItem} {o : DOp} {os : List DOp} {ρ : Env} {L : Loc} {s : St} {c : Bool} (hg : guardB ρ o.guard = some c) (hnk : o.k.isDefer = false) {e e' : E}
    (he : e' = .when c e ∨ (c = true ∧ e' = e))
    (hv : c = true → ∀ (oo : Oper) (g : G) (ν : Nat → Nat) (w : World) (tmps : Array Value), ck P oo.op = some o.k → Models g ν w tmps ρ L s →
      ∃ v, (execOp (Act.mk tmps F.ds).eval oo).run P w = .ok (.value v) w ∧ RepE g ν w L v e)
    (h : DO F kp dk os (putE ρ o.dst e') L s) : DO F kp dk (o :: os) ρ L s := by
  refine DO_of fun oo g ν w tmps ops i r k hoo hck hcg hdst hd hN m hr hkk => ?_
  have hgo := h ops r k hr hkk
  have hw := guard_ok m hcg hg
  have hnd := ck_defer hck hnk
  cases c
  · rcases he with rfl | ⟨h0, _⟩
    · exact goes_unwanted (P := P) hN m hoo hdst hd hw hgo
    · simp at h0
  · obtain ⟨v, h1, h2⟩ := hv rfl oo g ν w tmps hck m
    refine goes_value hN m hoo hdst hd hw hnd ⟨v, h1, ?_⟩ hgo
    rcases he with rfl | ⟨_, rfl⟩
    · exact ⟨fun _ => h2, fun h => by simp at h⟩
    · exact h2
theorem DO_q {F : Fr P} {kp : Option (List Nat)} {dk : List DItem} {o : DOp} {os : List DOp} {ρ : Env} {L : Loc} {s : St} {c : Bool} (hg : guardB ρ o.guard = some c) {q : Q} {xs : List Opd} (hk : o.k = .q q xs)
    {p side : Prop} {es : List E} {e : E} (ha : argsE ρ c xs = some (p, es)) (hq : qv L s q es = some (side, e)) (hs : c = true → p ∧ side) {e' : E} (he : e' = .when c e ∨ (c = true ∧ e' = e))
    (h : DO F kp dk os (putE ρ o.dst e') L s) : DO F kp dk (o :: os) ρ L s := by
  refine DO_val hg (by rw [hk]; rfl) he (fun hc oo g ν w tmps hck m => ?_) h
  rw [hk] at hck
  obtain ⟨ys, hcq, hys⟩ := ck_q hck
  have hargs := opds_ok m hc F.ds hys ha (hs hc).1
  exact q_sound hcq hargs m.loc m.st hq (hs hc).2 _ _ _ _ _
theorem goes_world {F : Fr P} {ops : Array Oper} {i : Nat} {r : List Nat} {k : List Item} {oo : Oper} {o : DOp} {g g' : G} {ν' : Nat → Nat} {w w' : World} {tmps : Array Value} {ρ : Env} {L' : Loc} {s' : St} (hN : F.N ≤ tmps.size)
    (hoo : ops[i]? = some oo) (hdst : oo.dst = o.dst) (hd : ∀ d, o.dst = some d → d < F.N) (hw : Region.wanted oo (yielded ops tmps) = true) (hnd : ∀ c, oo.op ≠ .defer c) {e : E} {v : Value}
    (hr : (execOp (Act.mk tmps F.ds).eval oo).run P w = .ok (.value v) w') (hx : Ext g w g' w') (m' : Models g' ν' w' tmps ρ L' s') (hv : RepE g' ν' w' L' v e)
    (h : Goes F (.inRegion ops r :: k) (putE ρ o.dst e) L' s') : F.T.T g w (lone (F.b.atR ⟨tmps, F.ds⟩ (.inRegion ops (i :: r) :: k)) F.cs w) := by
  refine F.T.back _ _ _ _ (.one (step_value hoo hw hnd hr)) ?_
  rw [hdst]
  obtain ⟨tmps', e1, e2, m''⟩ := put_ok m' hN hd hv F.ds
  rw [e1]
  exact F.T.ext _ _ _ _ _ hx (h g' ν' w' tmps' e2 m'')
theorem DO_alloc {F : Fr P} {kp : Option (List Nat)} {dk : List DItem} {o : DOp} {os : List DOp} {ρ : Env} {L : Loc} {s : St} (hg : o.guard = none) {t : Nat} (hdt : o.dst = some t) {z : List D} (hk : o.k = .alloc z)
    (hl : hasL L t = false) (h : DO F kp dk os ((t, .loc t 0) :: ρ) ((t, z) :: L) s) : DO F kp dk (o :: os) ρ L s := by
  refine DO_of fun oo g ν w tmps ops i r k hoo hck hcg hdst hd hN m hr hkk => ?_
  have hw := guard_ok m hcg (c := true) (by rw [hg]; rfl)
  have hnd := ck_defer hck (by rw [hk]; rfl)
  rw [hk] at hck
  obtain ⟨T, hop, hz⟩ := ck_alloc hck
  obtain ⟨v, hv1, hv2, hv3, _⟩ := zero_ok (g := g) (w := w) hz
  obtain ⟨hx, m'⟩ := m.alloc hl hv2 hv3 T
  refine goes_world (s' := s) hN hoo hdst hd hw hnd (v := .pointer (some ⟨w.heap.size, 0, none⟩)) (e := .loc t 0) ?_ hx m' ⟨⟨z, by simp [getL]⟩, by simp⟩ ?_
  · simp [execOp, hop, Instr.alloc, hv1, newVar, newRow]
  · rw [hdt]; exact h ops r k hr hkk
theorem DO_box {F : Fr P} {kp : Option (List Nat)} {dk : List DItem} {o : DOp} {os : List DOp} {ρ : Env} {L : Loc} {s : St} (hg : o.guard = none) {t : Nat} (hdt : o.dst = some t) {x : Opd} (hk : o.k = .box x)
    {p : Prop} {v : D} (ha : argE ρ true x = some (p, .d v)) (hp : p) (hl : hasL L t = false) (hok : okPart v = true) (h : DO F kp dk os ((t, .loc t 0) :: ρ) ((t, cellsOf v) :: L) s) : DO F kp dk (o :: os) ρ L s := by
  refine DO_of fun oo g ν w tmps ops i r k hoo hck hcg hdst hd hN m hr hkk => ?_
  have hw := guard_ok m hcg (c := true) (by rw [hg]; rfl)
  have hnd := ck_defer hck (by rw [hk]; rfl)
  rw [hk] at hck
  obtain ⟨T, x', hop, hx'⟩ := ck_box hck
  have hrep : Rep g w _ v := opd_ok m hx' rfl ha hp F.ds
  obtain ⟨hc1, hc2⟩ := rep_cells hrep hok
  have hone := rep_one hrep hok
  obtain ⟨hx, m'⟩ := m.alloc hl (all2_of_get (by simpa using hc1) hc2) (fun v hv => hone v hv) T
  refine goes_world (s' := s) hN hoo hdst hd hw hnd (v := .pointer (some ⟨w.heap.size, 0, none⟩)) (e := .loc t 0) ?_ hx m' ⟨⟨cellsOf v, by simp [getL]⟩, by simp⟩ ?_
  · simp [execOp, hop, Instr.box, newVar, newRow]
  · rw [hdt]; exact h ops r k hr hkk
theorem loc_rep {g : G} {ν : Nat → Nat} {w : World} {L : Loc} {v : Value} {l off : Nat} (h : RepE g ν w L v (.loc l off)) : v = .pointer (some ⟨ν l, off, none⟩) := h.2
theorem DO_store {F : Fr P} {kp : Option (List Nat)} {dk : List DItem} {o : DOp} {os : List DOp} {ρ : Env} {L : Loc} {s : St} (hg : o.guard = none) {a v : Opd} (hk : o.k = .store1 a v ∧ True ∨ ∃ n, o.k = .storeN n a v)
    {p q : Prop} {l off : Nat} {d : D} {cs : List D} (ha : argE ρ true a = some (p, .loc l off)) (hv : argE ρ true v = some (q, .d d)) (hp : p) (hq : q) (hL : getL L l = some cs)
    (hd1 : o.k = .store1 a v → okCell d = true) (hd2 : ∀ n, o.k = .storeN n a v → (∃ xs, d = .agg xs) ∧ (cellsOf d).length = n) (hlen : off + (cellsOf d).length ≤ cs.length) (hdst0 : o.dst = none)
    (h : DO F kp dk os ρ ((l, setPart cs off (cellsOf d)) :: L) s) : DO F kp dk (o :: os) ρ L s := by
  refine DO_of fun oo g ν w tmps ops i r k hoo hck hcg hdst hd hN m hr hkk => ?_
  have hw := guard_ok m hcg (c := true) (by rw [hg]; rfl)
  have hnd := ck_defer hck (by rcases hk with ⟨hk, _⟩ | ⟨n, hk⟩ <;> rw [hk] <;> rfl)
  have hform : ∃ t a' v', oo.op = .store t a' v' ∧ cOpd a' = some a ∧ cOpd v' = some v ∧ sizeT P t = some (cellsOf d).length ∧ okPart d = true := by
    rcases hk with ⟨hk, _⟩ | ⟨n, hk⟩
    · have hok := hd1 hk
      rw [hk] at hck
      obtain ⟨t, a', v', h1, h2, h3, h4, h5⟩ := ck_store1 hck
      refine ⟨t, a', v', h1, h4, h5, ?_, ?_⟩
      · rw [h3]; cases d <;> simp [okCell] at hok <;> rfl
      · cases d <;> simp [okCell] at hok <;> rfl
    · obtain ⟨⟨xs, rfl⟩, hn⟩ := hd2 n hk
      rw [hk] at hck
      obtain ⟨t, a', v', h1, h2, h3, h4, h5⟩ := ck_storeN hck
      exact ⟨t, a', v', h1, h4, h5, by rw [h3, hn], rfl⟩
  obtain ⟨t, a', v', hop, ha', hv', hsz, hok⟩ := hform
  have hav := loc_rep (opd_ok m ha' rfl ha hp F.ds)
  have hrep : Rep g w _ d := opd_ok m hv' rfl hv hq F.ds
  obtain ⟨hc1, hc2⟩ := rep_cells hrep hok
  have hone := rep_one hrep hok
  obtain ⟨hpr, cur, T, hb, hcl, hcr, hco⟩ := m.loc l cs hL
  generalize hvv : (Act.mk tmps F.ds).eval v' = vv at *
  have hst := run_storeCells_at (P := P) (ν l) off T vv.cells.toList 0 cur w hb (by simp; omega) (fun x hx => by rw [one1_eq]; exact hone x (Array.mem_toList_iff.1 hx))
  simp only [Nat.add_zero, Array.length_toList] at hst
  have hrepNew : All2 (Rep g w) (cur.toList.take off ++ vv.cells.toList ++ cur.toList.drop (off + vv.cells.size)) (setPart cs off (cellsOf d)) := by
    have hcur : All2 (Rep g w) cur.toList cs := all2_of_get (by simpa using hcl) (fun i v d hv hd => hcr i v d (by simpa using hv) hd)
    unfold setPart
    rw [← hc1]
    exact ((hcur.take off).append (all2_of_get (by simpa using hc1) hc2)).append (hcur.drop _)
  obtain ⟨hx, m'⟩ := m.store hL (vs := (cur.toList.take off ++ vv.cells.toList ++ cur.toList.drop (off + vv.cells.size)).toArray) (ds := setPart cs off (cellsOf d)) (by simpa using hrepNew) (fun x hx => by
    simp only [List.mem_toArray, List.mem_append] at hx
    rcases hx with (hx | hx) | hx
    · exact hco x (Array.mem_toList_iff.1 (List.mem_of_mem_take hx))
    · exact hone x (Array.mem_toList_iff.1 hx)
    · exact hco x (Array.mem_toList_iff.1 (List.mem_of_mem_drop hx))) (by simp [setPart]; omega)
  refine F.T.back _ _ _ _ (.one (step_skip' hoo hw hnd (w' := w.setRow (ν l) (cur.toList.take off ++ vv.cells.toList ++ cur.toList.drop (off + vv.cells.size)).toArray) ?_)) ?_
  · simp only [execOp, hop, hav, hvv, Instr.storeAt, Instr.sureAddr, storeVar, Sem.run_bind, Sem.run_pure, Result.andThen_ok, sizeT_run hsz]
    rw [if_neg (by simp [hc1])]
    rw [hst]; rfl
  · rw [hdst, hdst0]
    exact F.T.ext _ _ _ _ _ hx (h ops r k hr hkk g ν _ tmps hN m')
end
end Go.DL
namespace Go.DL
open Go
theorem part_setPart {cs vs : List D} {s k i : Nat} (hv : vs.length = s) (hk : (k + 1) * s ≤ cs.length) (hi : (i + 1) * s ≤ cs.length) :
    part (setPart cs (k * s) vs) (i * s) s = if i = k then vs else part cs (i * s) s := by
  have hk' : k * s + s ≤ cs.length := by rw [Nat.add_mul, Nat.one_mul] at hk; exact hk
  have hi' : i * s + s ≤ cs.length := by rw [Nat.add_mul, Nat.one_mul] at hi; exact hi
  unfold part setPart
  apply List.ext_getElem?
  intro j
  by_cases hj : j < s
  · simp only [List.getElem?_take, hj, if_true, List.getElem?_drop, List.getElem?_append, List.length_append, List.length_take, hv]
    by_cases hik : i = k
    · subst hik
      simp only [show i * s + j < min (i * s) cs.length + s from by omega, show ¬ i * s + j < min (i * s) cs.length from by omega, if_true, if_false]
      rw [show i * s + j - min (i * s) cs.length = j from by omega]
    · simp only [hik, if_false, List.getElem?_take, hj, if_true, List.getElem?_drop]
      rcases Nat.lt_or_gt_of_ne hik with h | h
      · have : (i + 1) * s ≤ k * s := Nat.mul_le_mul_right s h
        rw [Nat.add_mul, Nat.one_mul] at this
        simp only [show i * s + j < min (k * s) cs.length + s from by omega, show i * s + j < min (k * s) cs.length from by omega, if_true, show i * s + j < k * s from by omega]
      · have : (k + 1) * s ≤ i * s := Nat.mul_le_mul_right s h
        rw [Nat.add_mul, Nat.one_mul] at this
        simp only [show ¬ i * s + j < min (k * s) cs.length + s from by omega, if_false]
        congr 1; omega
  · have e1 : ∀ l : List D, (l.take s)[j]? = none := fun l => by simp [List.getElem?_take, hj]
    rw [e1]
    split
    · exact (List.getElem?_eq_none (l := vs) (i := j) (by omega)).symm
    · rw [e1]
theorem setPart_length {cs vs : List D} {o : Nat} (h : o + vs.length ≤ cs.length) : (setPart cs o vs).length = cs.length := by
  simp [setPart]; omega
theorem distinctLt_mem {n : Nat} : ∀ {is : List Nat}, distinctLt n is = true → ∀ i ∈ is, i < n
  | i :: r, h, j, hj => by
    simp only [distinctLt, Bool.and_eq_true, decide_eq_true_eq] at h
    rcases List.mem_cons.1 hj with rfl | hj
    · exact h.1.1
    · exact distinctLt_mem h.2 j hj
theorem litRow_not {z : List D} : ∀ {ps : List (Nat × D)} {i : Nat}, (∀ p ∈ ps, p.1 ≠ i) → litRow z ps i = z
  | [], _, _ => rfl
  | (k, d) :: r, i, h => by
    have h0 : ¬ k = i := h (k, d) (by simp)
    simp only [litRow, h0, if_false]
    exact litRow_not fun p hp => h p (List.mem_cons_of_mem _ hp)
theorem fill_rows {len s : Nat} : ∀ (is : List Nat) (ds cells : List D), distinctLt len is = true → is.length = ds.length → partsOk s ds = true → cells.length = len * s →
    ∃ cs, fillD cells (is.map fun i => (i * s, s)) ds = some cs ∧ cs.length = len * s ∧ ∀ i, i < len → part cs (i * s) s = litRow (part cells (i * s) s) (is.zip ds) i
  | [], [], cells, _, _, _, hc => ⟨cells, rfl, hc, fun i _ => rfl⟩
  | k :: is, d :: ds, cells, hd, hn, hp, hc => by
    simp only [distinctLt, Bool.and_eq_true, decide_eq_true_eq, Bool.not_eq_true', List.contains_eq_mem, decide_eq_false_iff_not] at hd
    simp only [partsOk, Bool.and_eq_true, decide_eq_true_eq] at hp
    obtain ⟨⟨hk, hnot⟩, hd⟩ := hd
    obtain ⟨⟨hp1, hp2⟩, hp3⟩ := hp
    have hks : (k + 1) * s ≤ cells.length := by rw [hc]; exact Nat.mul_le_mul_right s hk
    have hks' : k * s + s ≤ cells.length := by rw [Nat.add_mul, Nat.one_mul] at hks; exact hks
    obtain ⟨cs, h1, h2, h3⟩ := fill_rows is ds (setPart cells (k * s) (cellsOf d)) hd (by simpa using hn) hp3 (by rw [setPart_length (by omega), hc])
    refine ⟨cs, ?_, h2, fun i hi => ?_⟩
    · simp only [List.map_cons, fillD]
      rw [if_pos ⟨hp1, hp2, hks'⟩]; exact h1
    · rw [h3 i hi, part_setPart hp2 hks (by rw [hc]; exact Nat.mul_le_mul_right s hi)]
      simp only [List.zip_cons_cons, litRow]
      by_cases hik : i = k
      · subst hik
        simp only [if_true]
        exact litRow_not fun p hp => by
          obtain ⟨a, b⟩ := p
          have := (List.of_mem_zip hp).1
          intro h; subst h; exact hnot this
      · simp only [hik, if_false, show ¬ k = i from fun h => hik h.symm]
  | [], _ :: _, _, _, hn, _, _ => by simp at hn
  | _ :: _, [], _, _, hn, _, _ => by simp at hn
theorem zero_part {z : List D} {len s i : Nat} (hzl : z.length = s) (_hs0 : 0 < s) (hi : i < len) : part ((List.range (len * s)).map fun i => z.getD (i % s) .undef) (i * s) s = z := by
  apply List.ext_getElem?
  intro c
  by_cases hc : c < s
  · have hlt : i * s + c < len * s := by
      have : (i + 1) * s ≤ len * s := Nat.mul_le_mul_right s hi
      rw [Nat.add_mul, Nat.one_mul] at this; omega
    have hm : (i * s + c) % s = c := by rw [Nat.mul_comm, Nat.mul_add_mod, Nat.mod_eq_of_lt hc]
    have hcz : c < z.length := by omega
    simp only [part, List.getElem?_take, hc, if_true, List.getElem?_drop, List.getElem?_map, List.getElem?_range hlt, Option.map_some, hm]
    simp [List.getD, hcz]
  · rw [List.getElem?_eq_none (l := z) (by omega)]; simp [part, List.getElem?_take, hc]
section
variable {P : Program}
theorem bsl_ok {g : G} {w : World} {len s : Nat} {z : List D} {t e : TypeId} {parts : List (Nat × Value)} {ds : List D} (hu : P.underlying t = some (.slice e)) (hsz : sizeT P e = some s) (hz : zeroT P e = some z)
    (hdis : distinctLt len (parts.map (·.1)) = true) (hzl : z.length = s) (hs0 : 0 < s) (hbig : len * s ≤ 2 ^ 24) (hd : All2 (Rep g w) (parts.map (·.2)) ds) (hp : partsOk s ds = true)
    (hf : ∀ b, w.heap.size ≤ b → g.prot b = 0 ∧ ¬ g.kept b) :
    ∃ v w' g', (Instr.buildSlice t len parts.toArray).run P w = .ok v w' ∧ Grow g w g' w' ∧ Rep g' w' v (.sl .full len s (litRow z ((parts.map (·.1)).zip ds))) := by
  obtain ⟨zv, hz1, hz2, hz3, ie, hie, hzz⟩ := zero_ok (g := g) (w := w) hz
  have hsize : ie.size = s := by simpa [sizeT, hie] using hsz
  have hzlen : zv.cells.size = s := by have := hz2.len; simp at this; omega
  have hn : (parts.map (·.1)).length = ds.length := by have := hd.len; simpa using this
  let c0 : Array Value := (Array.range (len * s)).map (zv.cells[· % zv.cells.size]!)
  let d0 : List D := (List.range (len * s)).map fun i => z.getD (i % s) .undef
  have hrep0 : All2 (Rep g w) c0.toList d0 := by
    refine all2_of_get (by simp [c0, d0]) (fun i v d hv hd => ?_)
    simp only [c0, d0, Array.toList_map, Array.toList_range, List.getElem?_map, Option.map_eq_some_iff] at hv hd
    obtain ⟨a, ha, rfl⟩ := hv
    obtain ⟨b, hb, rfl⟩ := hd
    rw [ha] at hb
    simp only [Option.some.injEq] at hb
    subst hb
    have hlt : a % s < s := Nat.mod_lt _ hs0
    refine hz2.get (a % s) _ _ ?_ ?_
    · rw [hzlen]; simp [getElem!_pos, hzlen, hlt]
    · simp [List.getD, hzl, hlt]
  have hone0 : ∀ v ∈ c0, v.one1 = true := fun v hv => by
    simp only [c0, Array.mem_map] at hv
    obtain ⟨a, _, rfl⟩ := hv
    have hlt : a % zv.cells.size < zv.cells.size := Nat.mod_lt _ (by omega)
    rw [getElem!_pos zv.cells (a % zv.cells.size) hlt]
    exact hz3 _ (Array.getElem_mem hlt)
  have hlen0 : d0.length = len * s := by simp [d0]
  obtain ⟨cs, hfill, hcl, hrows⟩ := fill_rows (parts.map (·.1)) ds d0 hdis hn hp hlen0
  obtain ⟨cv, hf1, hf2, hf3⟩ := fill_ok (g := g) (w := w) (fun i => some (i * s, s)) parts ((parts.map (·.1)).map fun i => (i * s, s)) ds cs d0 c0 (fun i x q hx hq => by
    simp only [List.map_map, List.getElem?_map, hx, Option.map_some, Option.some.injEq, Function.comp_def] at hq
    rw [← hq]) (by simp) hd hrep0 hone0 hfill
  have hcv : cv.size = len * s := by have := hf2.len; simp at this; omega
  have hrow : ∀ i j, i < len → j < s → i * s + j < len * s := fun i j hi hj => by
    have : (i + 1) * s ≤ len * s := Nat.mul_le_mul_right s hi
    rw [Nat.add_mul, Nat.one_mul] at this; omega
  have hcell : ∀ i j d, i < len → j < s → (litRow z ((parts.map (·.1)).zip ds) i)[j]? = some d → cs[i * s + j]? = some d := fun i j d hi hj hd => by
    have h := hrows i hi
    have hz' : part d0 (i * s) s = z := zero_part hzl hs0 hi
    rw [hz'] at h
    rw [← h] at hd
    simpa [part, List.getElem?_take, hj, List.getElem?_drop] using hd
  have hlrow : ∀ i, i < len → (litRow z ((parts.map (·.1)).zip ds) i).length = s := fun i hi => by
    have hz' := hrows i hi
    have : (part cs (i * s) s).length = s := by have := hrow i (s - 1) hi (by omega); simp [part]; omega
    have hzp : part d0 (i * s) s = z := zero_part hzl hs0 hi
    rw [hz', hzp] at this; exact this
  by_cases hl0 : len = 0
  · subst hl0
    have hp0 : parts = [] := by
      cases parts with
      | nil => rfl
      | cons x r => have := distinctLt_mem hdis x.1 (by simp); omega
    subst hp0
    refine ⟨.slice (some ⟨w.heap.size, 0, none⟩) 0 0, w.alloc (.cells #[] e), { g with prot := fun b => if b = w.heap.size then 0 else g.prot b }, ?_, grow_frozen #[] e hf, ?_⟩
    · simp [Instr.buildSlice, run_underlying hu, sizeT_run hsz, Instr.fill, newRow]
      exact congrArg (fun c => w.alloc (Obj.cells c e)) (Array.ext' (by simp))
    · exact .sl w.heap.size 0 0 0 s _ .full (fun _ _ => undef) (fun i hi => by omega) (fun i j hi => by omega) (fun i j hi => by omega) (fun i j d hi => by omega) (fun i j hi => by omega) rfl (by omega) (by simp [big])
  · have hpos : ¬ len * s = 0 := by simp [Nat.mul_eq_zero]; omega
    have hrun := run_buildSlice (P := P) w t e len parts.toArray cv ie zv hu hie hzz (by rw [hsize]; omega) (by rw [hsize]; exact hpos) (by rw [hsize]; exact hf1)
    have hgr := grow_frozen (g := g) (w := w) cv e hf
    refine ⟨_, _, _, hrun, hgr, ?_⟩
    have hext := hgr.ext hf
    refine .sl w.heap.size 0 len len s _ .full (fun i j => cv.getD (i * s + j) undef) hlrow (fun i j hi hj => ?_) (fun i j hi hj => ?_) (fun i j d hi hd => ?_) (fun i j hi hj => ?_) rfl (Nat.le_refl _) ?_
    · have hlt : i * s + j < cv.size := by rw [hcv]; exact hrow i j hi hj
      have : (w.alloc (.cells cv e)).cell? ⟨w.heap.size, 0 + i * s + j, none⟩ = cv[0 + i * s + j]? := World.cell?_alloc_new w cv e _
      rw [this]; simp [Array.getD, hlt]
    · simp only [if_true, hcv]; have := hrow i j hi hj; omega
    · have hj : j < s := by rw [← hlrow i hi]; exact (List.getElem?_eq_some_iff.1 hd).1
      have hlt : i * s + j < cv.size := by rw [hcv]; exact hrow i j hi hj
      refine (hf2.get (i * s + j) _ d ?_ (hcell i j d hi hj hd)).mono hext
      simp [Array.getD, hlt]
    · have hlt : i * s + j < cv.size := by rw [hcv]; exact hrow i j hi hj
      simp only [Array.getD, hlt, dite_true]
      exact hf3 _ (Array.getElem_mem hlt)
    · unfold big
      have : len ≤ len * s := Nat.le_mul_of_pos_right _ hs0
      omega
end
end Go.DL
namespace Go.DL
open Go
section
variable {P : Program}
theorem StOk.updL {g : G} {s : St} {w : World} (h : StOk g s w) {b : Nat} {o : DObj} (ho : ObjOk g w b o) (hk : ¬ g.kept b) : StOk g (s.upd b o) w := {
  obj c x hx := by
    simp only [St.upd] at hx
    by_cases hb : c = b
    · simp only [hb, if_true, Option.some.injEq] at hx; subst hx; rw [hb]; exact ho
    · simp only [hb, if_false] at hx; exact h.obj c x hx
  kept c x hx := by
    simp only [St.upd] at hx
    by_cases hb : c = b
    · rw [hb]; exact hk
    · simp only [hb, if_false] at hx; exact h.kept c x hx
  fresh := h.fresh }
theorem Models.named {g : G} {ν : Nat → Nat} {w w' : World} {tmps : Array Value} {ρ : Env} {L : Loc} {s : St} (m : Models g ν w tmps ρ L s) {b : Nat} {o o' : DObj} (hb : s b = some o) (he : Ext g w g w') (hsz : w'.heap.size = w.heap.size)
    (hoth : ∀ c, c ≠ b → w'.heap[c]? = w.heap[c]?) (ho : ObjOk g w' b o') : Models g ν w' tmps ρ L (s.upd b o') := {
  st := by
    have h1 : StOk g (s.del b) w' := ⟨fun c x hx => by
        simp only [St.del] at hx
        by_cases hc : c = b
        · simp [hc] at hx
        · simp only [hc, if_false] at hx; exact (m.st.obj c x hx).mono he (hoth c hc) rfl,
      fun c x hx => by
        simp only [St.del] at hx
        by_cases hc : c = b
        · simp [hc] at hx
        · simp only [hc, if_false] at hx; exact m.st.kept c x hx,
      fun c hc => m.st.fresh c (by omega)⟩
    have h2 := h1.updL ho (m.st.kept b o hb)
    have : (s.del b).upd b o' = s.upd b o' := by
      funext c; simp only [St.upd, St.del]; by_cases hc : c = b <;> simp [hc]
    rw [this] at h2; exact h2
  loc l cs hl := (m.loc l cs hl).mono he (hoth _ (fun h => by have := m.locSt l cs hl; rw [h, hb] at this; simp at this)) rfl
  locKept := m.locKept
  locSt l cs hl := by
    have hne : ν l ≠ b := fun h => by have := m.locSt l cs hl; rw [h, hb] at this; simp at this
    simp only [St.upd, hne, if_false]; exact m.locSt l cs hl
  inj := m.inj
  env t e ht := (m.env t e ht).mono he }
theorem Models.newObj {g g' : G} {ν : Nat → Nat} {w w' : World} {tmps : Array Value} {ρ : Env} {L : Loc} {s : St} (m : Models g ν w tmps ρ L s) (hg : Grow g w g' w') {o : DObj} (ho : ObjOk g' w' w.heap.size o) :
    s w.heap.size = none ∧ Models g' ν w' tmps ρ L (s.upd w.heap.size o) := by
  have hn : s w.heap.size = none := by
    cases h : s w.heap.size with
    | none => rfl
    | some x => exact absurd (m.st.obj _ x h).lt (Nat.lt_irrefl _)
  have m' := m.grow hg
  refine ⟨hn, ⟨m'.st.updL ho (by rw [hg.kept]; exact (m.st.fresh _ (Nat.le_refl _)).2), m'.loc, m'.locKept, ?_, m'.inj, m'.env⟩⟩
  intro l cs hl
  have hlt := (m.loc l cs hl).lt
  have hne : ν l ≠ w.heap.size := by omega
  simp only [St.upd, hne, if_false]; exact m'.locSt l cs hl
theorem ext_setMap {g : G} {w : World} (b : Nat) {en : Array MapEntry} {cl : Nat} (o : Obj) (hb : w.heap[b]? = some (.map en cl)) (hp : g.prot b = 0) (hk : ¬ g.kept b) : Ext g w g { w with heap := w.heap.setIfInBounds b o } where
  size := by simp
  prot _ := Nat.le_refl _
  cell b' o' ho := by
    by_cases h : b' = b
    · subst h; omega
    · exact cell_of_heap (by simp [Array.getElem?_setIfInBounds, Ne.symm h])
  hdr b' x hx := by
    by_cases h : b' = b
    · subst h; simp [hdr, hb] at hx
    · rw [hdr_of_heap (w := w) (by simp [Array.getElem?_setIfInBounds, Ne.symm h])]; exact hx
  kept b' hb' := by
    have h : b' ≠ b := fun h => hk (h ▸ hb')
    simp [Array.getElem?_setIfInBounds, Ne.symm h]
  keptProt _ _ := rfl
  keptEq := rfl
  os := rfl
  output := rfl
  tape := rfl
theorem setMap_at {w : World} {b : Nat} {en : Array MapEntry} {cl : Nat} (o : Obj) (hb : w.heap[b]? = some (.map en cl)) : ({ w with heap := w.heap.setIfInBounds b o } : World).heap[b]? = some o := by
  have := (Array.getElem?_eq_some_iff.1 hb).1
  simp [Array.getElem?_setIfInBounds, this]
theorem setMap_other {w : World} {b c : Nat} (o : Obj) (h : c ≠ b) : ({ w with heap := w.heap.setIfInBounds b o } : World).heap[c]? = w.heap[c]? := by
  simp [Array.getElem?_setIfInBounds, Ne.symm h]
theorem ck_mkmap {op : Op} (h : ck P op = some .mkmap) : ∃ t, op = .makeMap t none := by
  unfold ck at h
  split at h
  · simp at h
  · split at h <;> (try (simp at h; done))
    all_goals (try (repeat' (split at h <;> (try (simp at h; done)))))
    exact ⟨_, rfl⟩
theorem ck_mkslice {op : Op} {e : TypeId} {n bytes : Nat} {z : List D} {l c : Opd} (h : ck P op = some (.mkslice e n bytes z l c)) :
    ∃ t l' c', op = .makeSlice t l' c' ∧ P.underlying t = some (.slice e) ∧ sizeT P e = some n ∧ zeroT P e = some z ∧ bytes = P.bytesOf e ∧ cOpd l' = some l ∧ cOpd c' = some c ∧ 0 < n ∧ z.length = n := by
  unfold ck at h
  split at h
  · simp at h
  · split at h <;> (try (simp at h; done))
    all_goals (try (repeat' (split at h <;> (try (simp at h; done)))))
    rename_i hcond
    simp only [Option.some.injEq, K.mkslice.injEq] at h
    obtain ⟨rfl, rfl, rfl, rfl, rfl, rfl⟩ := h
    simp only [Bool.and_eq_true, decide_eq_true_eq] at hcond
    exact ⟨_, _, _, rfl, ‹_›, ‹_›, ‹_›, rfl, ‹_›, ‹_›, hcond.1, hcond.2⟩
theorem ck_s2b {op : Op} {x : Opd} (h : ck P op = some (.s2b x)) : ∃ s d x' e, op = .convert s d x' ∧ P.underlying s = some .string ∧ P.underlying d = some (.slice e) ∧ P.underlying e = some (.int .u8) ∧ cOpd x' = some x := by
  unfold ck at h
  split at h
  · simp at h
  · split at h <;> (try (simp at h; done))
    all_goals (try (repeat' (split at h <;> (try (simp at h; done)))))
    simp only [Option.map_eq_some_iff, K.s2b.injEq, exists_eq_right] at h
    exact ⟨_, _, _, _, rfl, ‹_›, ‹_›, ‹_›, h⟩
theorem ck_mapupd {op : Op} {kp : KP} {m k v : Opd} (h : ck P op = some (.mapupd kp m k v)) :
    ∃ t kt et m' k' v', (op = .mapUpdate t m' k' v' ∨ op = .insert t m' k' v') ∧ P.underlying t = some (.map kt et) ∧ keyT P kt = some kp ∧ cOpd m' = some m ∧ cOpd k' = some k ∧ cOpd v' = some v := by
  unfold ck at h
  split at h
  · simp at h
  · split at h <;> (try (simp at h; done))
    all_goals (try (repeat' (split at h <;> (try (simp at h; done)))))
    all_goals (simp only [Option.some.injEq, K.mapupd.injEq] at h; obtain ⟨rfl, rfl, rfl, rfl⟩ := h)
    · exact ⟨_, _, _, _, _, _, .inl rfl, ‹_›, ‹_›, ‹_›, ‹_›, ‹_›⟩
    · exact ⟨_, _, _, _, _, _, .inr rfl, ‹_›, ‹_›, ‹_›, ‹_›, ‹_›⟩
theorem ck_delete {op : Op} {kp : KP} {m k : Opd} (h : ck P op = some (.delete kp m k)) :
    ∃ ats t kt et m' k', op = .call ⟨.builtin .delete, #[m', k'], ats⟩ ∧ ats[0]? = some t ∧ P.underlying t = some (.map kt et) ∧ keyT P kt = some kp ∧ cOpd m' = some m ∧ cOpd k' = some k := by
  unfold ck at h
  split at h
  · simp at h
  · split at h <;> (try (simp at h; done))
    all_goals (try (repeat' (split at h <;> (try (simp at h; done)))))
    simp only [Option.some.injEq, K.delete.injEq] at h
    obtain ⟨rfl, rfl, rfl⟩ := h
    rename_i c hcq x1 hcal o0 x kt et m' k' hu hargs o1 o2 o3 kp m k hk hm hk'
    clear hcq
    obtain ⟨callee, ⟨al⟩, ats⟩ := c
    have hcal' : callee = _ := hcal
    have hargs' : al = _ := hargs
    subst hcal' hargs'
    simp only [Option.bind_eq_some_iff] at hu
    obtain ⟨t, ht, hu⟩ := hu
    exact ⟨ats, t, kt, et, m', k', rfl, ht, hu, hk, hm, hk'⟩
theorem ck_mapent {op : Op} {kp : KP} {z : D} {m k : Opd} (h : ck P op = some (.mapent kp z m k)) :
    ∃ t kt et m' k', op = .mapEntry t m' k' ∧ P.underlying t = some (.map kt et) ∧ keyT P kt = some kp ∧ zero1 P et = some z ∧ cOpd m' = some m ∧ cOpd k' = some k := by
  unfold ck at h
  split at h
  · simp at h
  · split at h <;> (try (simp at h; done))
    all_goals (try (repeat' (split at h <;> (try (simp at h; done)))))
    simp only [Option.some.injEq, K.mapent.injEq] at h
    obtain ⟨rfl, rfl, rfl, rfl⟩ := h
    exact ⟨_, _, _, _, _, rfl, ‹_›, ‹_›, ‹_›, ‹_›, ‹_›⟩
theorem ck_entst {op : Op} {m k v : Opd} (h : ck P op = some (.entst m k v)) : ∃ t m' k' v', op = .entryStore t m' k' v' ∧ cOpd m' = some m ∧ cOpd k' = some k ∧ cOpd v' = some v := by
  unfold ck at h
  split at h
  · simp at h
  · split at h <;> (try (simp at h; done))
    all_goals (try (repeat' (split at h <;> (try (simp at h; done)))))
    simp only [Option.some.injEq, K.entst.injEq] at h
    obtain ⟨rfl, rfl, rfl⟩ := h
    exact ⟨_, _, _, _, rfl, ‹_›, ‹_›, ‹_›⟩
theorem DO_storeP {F : Fr P} {kp : Option (List Nat)} {dk : List DItem} {o : DOp} {os : List DOp} {ρ : Env} {L : Loc} {s : St} (hg : o.guard = none) {a v : Opd} (hk : o.k = .store1 a v ∧ True ∨ ∃ n, o.k = .storeN n a v)
    {p q : Prop} {b off : Nat} {d : D} {cs : List D} (ha : argE ρ true a = some (p, .d (.ptr b off))) (hv : argE ρ true v = some (q, .d d)) (hp : p) (hq : q) (hL : cellsAt s b = some cs)
    (hd1 : o.k = .store1 a v → okCell d = true) (hd2 : ∀ n, o.k = .storeN n a v → (∃ xs, d = .agg xs) ∧ (cellsOf d).length = n) (hlen : off + (cellsOf d).length ≤ cs.length) (hdst0 : o.dst = none)
    (h : DO F kp dk os ρ L (s.upd b (.cells (setPart cs off (cellsOf d))))) : DO F kp dk (o :: os) ρ L s := by
  refine DO_of fun oo g ν w tmps ops i r k hoo hck hcg hdst hd hN m hr hkk => ?_
  have hw := guard_ok m hcg (c := true) (by rw [hg]; rfl)
  have hnd := ck_defer hck (by rcases hk with ⟨hk, _⟩ | ⟨n, hk⟩ <;> rw [hk] <;> rfl)
  have hform : ∃ t a' v', oo.op = .store t a' v' ∧ cOpd a' = some a ∧ cOpd v' = some v ∧ sizeT P t = some (cellsOf d).length ∧ okPart d = true := by
    rcases hk with ⟨hk, _⟩ | ⟨n, hk⟩
    · have hok := hd1 hk
      rw [hk] at hck
      obtain ⟨t, a', v', h1, h2, h3, h4, h5⟩ := ck_store1 hck
      refine ⟨t, a', v', h1, h4, h5, ?_, ?_⟩
      · rw [h3]; cases d <;> simp [okCell] at hok <;> rfl
      · cases d <;> simp [okCell] at hok <;> rfl
    · obtain ⟨⟨xs, rfl⟩, hn⟩ := hd2 n hk
      rw [hk] at hck
      obtain ⟨t, a', v', h1, h2, h3, h4, h5⟩ := ck_storeN hck
      exact ⟨t, a', v', h1, h4, h5, by rw [h3, hn], rfl⟩
  obtain ⟨t, a', v', hop, ha', hv', hsz, hok⟩ := hform
  have hsb : s b = some (.cells cs) := by
    unfold cellsAt at hL
    split at hL <;> simp only [Option.some.injEq, reduceCtorEq] at hL
    subst hL; assumption
  have hra : Rep g w ((Act.mk tmps F.ds).eval a') (.ptr b off) := opd_ok m ha' rfl ha hp F.ds
  have hrv : Rep g w ((Act.mk tmps F.ds).eval v') d := opd_ok m hv' rfl hv hq F.ds
  have hav : (Act.mk tmps F.ds).eval a' = .pointer (some ⟨b, off, none⟩) := by
    generalize (Act.mk tmps F.ds).eval a' = z at hra
    cases hra; rfl
  obtain ⟨hc1, hc2⟩ := rep_cells hrv hok
  have hone := rep_one hrv hok
  obtain ⟨hpr, cur, T, hb, hcl, hcr, hco⟩ := cellsAt_ok m.st hL
  generalize hvv : (Act.mk tmps F.ds).eval v' = vv at *
  have hst := run_storeCells_at (P := P) b off T vv.cells.toList 0 cur w hb (by simp; omega) (fun x hx => by rw [one1_eq]; exact hone x (Array.mem_toList_iff.1 hx))
  simp only [Nat.add_zero, Array.length_toList] at hst
  have hrepNew : All2 (Rep g w) (cur.toList.take off ++ vv.cells.toList ++ cur.toList.drop (off + vv.cells.size)) (setPart cs off (cellsOf d)) := by
    have hcur : All2 (Rep g w) cur.toList cs := all2_of_get (by simpa using hcl) (fun i v d hv hd => hcr i v d (by simpa using hv) hd)
    unfold setPart
    rw [← hc1]
    exact ((hcur.take off).append (all2_of_get (by simpa using hc1) hc2)).append (hcur.drop _)
  have hsize : ((cur.toList.take off ++ vv.cells.toList ++ cur.toList.drop (off + vv.cells.size)).toArray).size = cur.size := by
    have := hrepNew.len; simp [setPart] at this ⊢; omega
  have he := ext_setRow (g := g) b hb hsize hpr (m.st.kept b _ hsb)
  have m' := m.named (o' := .cells (setPart cs off (cellsOf d))) hsb he (by simp) (fun c hc => setRow_other w b c _ hc) ⟨hpr, _, T, setRow_heap w b cur _ T (0, 0) hb, by rw [hsize, hcl]; simp [setPart]; omega,
    fun i v d hv hd => (hrepNew.get i v d (by simpa using hv) hd).mono he, fun x hx => by
      simp only [List.mem_toArray, List.mem_append] at hx
      rcases hx with (hx | hx) | hx
      · exact hco x (Array.mem_toList_iff.1 (List.mem_of_mem_take hx))
      · exact hone x (Array.mem_toList_iff.1 hx)
      · exact hco x (Array.mem_toList_iff.1 (List.mem_of_mem_drop hx))⟩
  refine F.T.back _ _ _ _ (.one (step_skip' hoo hw hnd (w' := w.setRow b (cur.toList.take off ++ vv.cells.toList ++ cur.toList.drop (off + vv.cells.size)).toArray) ?_)) ?_
  · simp only [execOp, hop, hav, hvv, Instr.storeAt, Instr.sureAddr, storeVar, Sem.run_bind, Sem.run_pure, Result.andThen_ok, sizeT_run hsz]
    rw [if_neg (by simp [hc1])]
    rw [hst]; rfl
  · rw [hdst, hdst0]
    exact F.T.ext _ _ _ _ _ he (h ops r k hr hkk g ν _ tmps hN m')
theorem grow_obj {g : G} {w : World} (o : Obj) (hf : ∀ b, w.heap.size ≤ b → g.prot b = 0 ∧ ¬ g.kept b) : Grow g w g (w.alloc o) := {
  size := by simp
  old b hb := alloc_old w _ hb
  prot _ _ := rfl
  fresh b hb := (hf b (by simp at hb; omega)).1
  kept := rfl
  os := rfl
  output := rfl
  tape := rfl }
theorem DO_mkmap {F : Fr P} {kp : Option (List Nat)} {dk : List DItem} {o : DOp} {os : List DOp} {ρ : Env} {L : Loc} {s : St} (hg : o.guard = none) {t : Nat} (hdt : o.dst = some t) (hk : o.k = .mkmap)
    (h : ∀ b, s b = none → DO F kp dk os ((t, .d (.map b)) :: ρ) L (s.upd b (.map []))) : DO F kp dk (o :: os) ρ L s := by
  refine DO_of fun oo g ν w tmps ops i r k hoo hck hcg hdst hd hN m hr hkk => ?_
  have hw := guard_ok m hcg (c := true) (by rw [hg]; rfl)
  have hnd := ck_defer hck (by rw [hk]; rfl)
  rw [hk] at hck
  obtain ⟨T, hop⟩ := ck_mkmap hck
  have hgr := grow_obj (g := g) (w := w) (.map #[] 0) m.st.fresh
  obtain ⟨hn, m'⟩ := m.newObj hgr (o := .map []) ⟨(m.st.fresh _ (Nat.le_refl _)).1, #[], 0, alloc_new w _, rfl, by simp, by simp, by simp, by simp⟩
  refine goes_world (L' := L) hN hoo hdst hd hw hnd (v := .map (some w.heap.size)) (e := .d (.map w.heap.size)) ?_ (hgr.ext m.st.fresh) m' (Rep.map _) ?_
  · simp [execOp, hop, Instr.makeMap]
  · rw [hdt]; exact h _ hn ops r k hr hkk
theorem zeros_get {z : List D} {n : Nat} : ∀ {c : Nat}, z.length = n → (zeros z c).length = c * n ∧ ∀ i, i < c * n → (zeros z c)[i]? = z[i % n]?
  | 0, hz => by simp [zeros]
  | c + 1, hz => by
    obtain ⟨h1, h2⟩ := zeros_get (c := c) hz
    have he : zeros z (c + 1) = z ++ zeros z c := by simp [zeros, List.replicate_succ]
    rw [he]
    refine ⟨by simp [h1, hz, Nat.add_mul, Nat.add_comm], fun i hi => ?_⟩
    by_cases h : i < n
    · rw [List.getElem?_append_left (by omega), Nat.mod_eq_of_lt h]
    · rw [List.getElem?_append_right (by omega), hz, h2 _ (by rw [Nat.add_mul] at hi; omega)]
      rw [Nat.mod_eq_sub_mod (by omega : n ≤ i)]
theorem DO_mkslice {F : Fr P} {kp : Option (List Nat)} {dk : List DItem} {o : DOp} {os : List DOp} {ρ : Env} {L : Loc} {s : St} (hg : o.guard = none) {t : Nat} (hdt : o.dst = some t) {e : TypeId} {n bytes : Nat} {z : List D} {lx hx : Opd}
    (hk : o.k = .mkslice e n bytes z lx hx) {p q : Prop} {k1 k2 : IntKind} {l c : Int} (hl : argE ρ true lx = some (p, .d (.int k1 l))) (hc : argE ρ true hx = some (q, .d (.int k2 c))) (hp : p) (hq : q) (h0 : 0 ≤ l) (hlc : l ≤ c)
    (hbytes : (bytes : Int) * c ≤ 140737488355328) (h63 : c ≤ big)
    (h : ∀ b, s b = none → DO F kp dk os ((t, .d (.msl b 0 l.toNat c.toNat n)) :: ρ) L (s.upd b (.cells (zeros z c.toNat)))) : DO F kp dk (o :: os) ρ L s := by
  refine DO_of fun oo g ν w tmps ops i r k hoo hck hcg hdst hd hN m hr hkk => ?_
  have hw := guard_ok m hcg (c := true) (by rw [hg]; rfl)
  have hnd := ck_defer hck (by rw [hk]; rfl)
  rw [hk] at hck
  obtain ⟨T, l', c', hop, hu, hsz, hz, hby, hl', hc', hn0, hzn⟩ := ck_mkslice hck
  obtain ⟨zv, hz1, hz2, hz3, ie, hie, hzz⟩ := zero_ok (g := g) (w := w) hz
  obtain ⟨hlv, _⟩ := rep_int (g := g) (w := w) (opd_ok m hl' rfl hl hp F.ds)
  obtain ⟨hcv, _⟩ := rep_int (g := g) (w := w) (opd_ok m hc' rfl hc hq F.ds)
  have hsize : ie.size = n := by simpa [sizeT, hie] using hsz
  have hbt : ie.bytes = bytes := by rw [hby]; simp [Program.bytesOf, hie]
  have hzlen : zv.cells.size = z.length := by have := hz2.len; simpa using this
  have hrun := run_make (P := P) w T e ie zv hu hie hzz k1 k2 l c h0 hlc (by rw [hbt]; omega) (by unfold big at h63; omega)
  obtain ⟨zl1, zl2⟩ := zeros_get (z := z) (n := n) (c := c.toNat) hzn
  have hgr := grow_obj (g := g) (w := w) (.cells (madeCells zv.cells (c.toNat * ie.size)) e) m.st.fresh
  have he := hgr.ext m.st.fresh
  have hob : ObjOk g (w.alloc (.cells (madeCells zv.cells (c.toNat * ie.size)) e)) w.heap.size (.cells (zeros z c.toNat)) := by
    refine ⟨(m.st.fresh _ (Nat.le_refl _)).1, _, e, alloc_new w _, by rw [size_madeCells, zl1, hsize], fun i v d hv hd => ?_, fun x hx => ?_⟩
    · have hi : i < c.toNat * n := by rw [← zl1]; exact (List.getElem?_eq_some_iff.1 hd).1
      rw [zl2 i hi] at hd
      have hm : i % n < n := Nat.mod_lt _ hn0
      have hv' : zv.cells.toList[i % n]? = some v := by
        simp only [madeCells, hsize, Array.getElem?_map, Array.getElem?_range, hi, if_true, Option.map_some, Option.some.injEq, hzlen, hzn] at hv
        rw [getElem!_pos zv.cells (i % n) (by omega)] at hv
        rw [← hv]; simp [hzlen, hzn, hm]
      exact (hz2.get _ v d hv' hd).mono he
    · simp only [madeCells, Array.mem_map] at hx
      obtain ⟨a, _, rfl⟩ := hx
      have hlt : a % zv.cells.size < zv.cells.size := Nat.mod_lt _ (by omega)
      rw [getElem!_pos zv.cells (a % zv.cells.size) hlt]
      exact hz3 _ (Array.getElem_mem hlt)
  obtain ⟨hn, m'⟩ := m.newObj hgr hob
  refine goes_world (L' := L) hN hoo hdst hd hw hnd (v := .slice (some ⟨w.heap.size, 0, none⟩) l.toNat c.toNat) (e := .d (.msl w.heap.size 0 l.toNat c.toNat n)) ?_ he m' (Rep.msl _ _ _ _ _ (by omega) (by omega)) ?_
  · simp [execOp, hop, hlv, hcv, hrun]
  · rw [hdt]; exact h _ hn ops r k hr hkk
end
end Go.DL
