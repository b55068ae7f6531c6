/- Lemmas: DlA, DlB, DlC, DlD, DlE, DlF, DlG, DlH, DlI, DlJ, DlK, DlL, DlM, DlMa, DlN, DlO, DlAb, DlP, DlQ, DlR, DlS, DlT, DlTa, DlTb, DlTc, DlU, DlV. -/
import Derived.AtR
import Derived.Calls
import Derived.Laws.Cells
import Derived.Laws.StructEq
import Derived.ChangeKeysEq
import Derived.Laws.Tables
import Derived.Laws.Build
import Derived.Laws.BytesString
import Derived.MapKept
import Derived.Laws.CopyRow
import Derived.Great.BuildSlice
import Derived.Laws.MakeOwn
import Derived.Laws.AppendOwn
import Derived.Lib.ConvBytes
import Derived.Defers
import Derived.Orders
import Derived.Lib.AppendStr
import Derived.RangeFuncIn
import Derived.KernelRfl
import Derived.OpenShut
import Derived.WalkKit
import Derived.ProofKit
import Derived.ChangeCalls
import Derived.Shelf.Spec.SlicesGrow
import Derived.Shelf.SlIter.Nil
import Derived.Shelf.SortM.Plain
import Derived.Shelf.SortM.SortNone
import Derived.Ground.GgzProg
import Derived.Ground.SlgmProg
import Derived.Shelf.Strings.OnBuilder
import Derived.Ground.NamesProg
import Derived.Test.YtmnhlhenahlilaaGreatProg
set_option maxHeartbeats 16000000
set_option linter.all false
open Bool renaming and_eq_true → ZuA
open List renaming getElem_of_mem → ZuJ, length_append → ZuF, length_cons → ZuI
open Nat renaming le_refl → ZuO
open Option renaming map_eq_some_iff → ZuC
open Option.some renaming injEq → Zuu
open Prod.mk renaming injEq → Zuz
namespace Go.DL
open Go
inductive Tok where
 | none | full | tip (b:Nat)
inductive D where
 | int (k:IntKind) (n:Int)
 | bool (b:Bool)
 | str (s:List UInt8)
 | agg (cells:List D)
 | tup (vs:List D)
 | nilsl
 | sl (t:Tok) (n s:Nat) (row:Nat→List D)
 | ep (cells:List D) (off:Nat)
 | nilptr
 | ptr (b off:Nat)
 | msl (b off n cap s:Nat)
 | map (b:Nat)
 | nilmap
 | fn (f:Fn) (first caps:List D)
 | nilfn
 | iface (t:TypeId) (v:D)
 | niliface
 | stamp (n:Nat)
 | undef
 | any
instance:Inhabited D:=⟨.undef⟩
inductive SK where
 | int | str | bool
inductive KP where
 | sc (k:SK)
 | st (l:List (Nat × SK))
def KV:SK→D→D→Option Bool
 | .int,.int k a,.int k' b=>if k=k' then some (decide (a=b)) else none
 | .str,.str a,.str b=>some (decide (a=b))
 | .bool,.bool a,.bool b=>some (decide (a=b))
 | _,_,_=>none
def QV (xs ys:List D):List (Nat × SK)→Option Bool
 | []=>some true
 | (o,k) :: r=>match xs[o]?,ys[o]? with
  | some x,some y=>match KV k x y,QV xs ys r with
   | some b,some c=>some (b && c)
   | _,_=>none
  | _,_=>none
def JM:KP→D→D→Option Bool
 | .sc k,x,y=>KV k x y
 | .st l,.agg xs,.agg ys=>if xs.length=l.length∧ys.length=l.length then QV xs ys l else none
 | _,_,_=>none
def JY (kp:KP) (k:D):List (D × D)→Option (Option Nat)
 | []=>some none
 | e :: r=>match JM kp k e.1 with
  | some true=>some (some 0)
  | some false=>(JY kp k r).map (·.map (· + 1))
  | none=>none
def hdr (w:World) (b:Nat):Option (TypeId × Nat × Nat × Nat) :=
 match w.heap[b]? with
 | some (.cells c t fr)=>some (t,c.size,fr.1,fr.2)
 | _=>none
def _root_.Go.Value.one1:Value→Bool
 | .agg _ | .tuple _=>false
 | _=>true
structure G where
 prot:Nat→Nat
 kept:Nat→Prop
def Zdi (w:World) (b n:Nat):Prop:=∃ t m,hdr w b=some (t,m,0,0)∧n≤m
def Zjn (w:World):Tok→Nat→Nat→Nat→Nat→Nat→Prop
 | .none,_,_,_,_,_=>True
 | .full,_,_,n,cap,_=>cap=n
 | .tip t,b,o,_,cap,s=>b=t∧o=0∧Zdi w b (cap * s)
def inR (k:IntKind) (n:Int):Prop:=k.min≤n∧n≤k.max
def big:Nat:=9223372036854775807
inductive Rep (g:G) (w:World):Value→D→Prop where
 | int (k:IntKind) (n:Int) (h:inR k n):Rep g w (.int k n) (.int k n)
 | bool (b:Bool):Rep g w (.bool b) (.bool b)
 | str (s:ByteArray) (l:List UInt8) (h:s.data.toList=l) (hb:l.length≤big):Rep g w (.string s) (.str l)
 | agg (vs:List Value) (cells:List D) (hn:vs.length=cells.length) (h:∀ (i:Nat) (v:Value) (d:D),vs[i]? = some v→cells[i]? = some d→Rep g w v d)
   (one:∀ v∈vs,v.one1=true):Rep g w (.agg vs.toArray) (.agg cells)
 | tup (vs:List Value) (ds:List D) (hn:vs.length=ds.length) (h:∀ (i:Nat) (v:Value) (d:D),vs[i]? = some v→ds[i]? = some d→Rep g w v d) :
   Rep g w (.tuple vs.toArray) (.tup ds)
 | nilsl:Rep g w (.slice none 0 0) .nilsl
 | sl0 (a:Option Addr) (t:Tok) (s:Nat) (row:Nat→List D) (ht:∀ b,t≠.tip b):Rep g w (.slice a 0 0) (.sl t 0 s row)
 | sl (b o n cap s:Nat) (row:Nat→List D) (t:Tok) (f:Nat→Nat→Value) (hl:∀ i,i < n→(row i).length=s)
   (hc:∀ i j,i < n→j < s→w.cell? ⟨b,o + i * s + j,none⟩=some (f i j)) (hp:∀ i j,i < n→j < s→o + i * s + j < g.prot b)
   (hr:∀ (i j:Nat) (d:D),i < n→(row i)[j]? = some d→Rep g w (f i j) d) (one:∀ i j,i < n→j < s→(f i j).one1=true)
   (ht:Zjn w t b o n cap s) (hcap:n≤cap) (hb:cap≤big) :
   Rep g w (.slice (some ⟨b,o,none⟩) n cap) (.sl t n s row)
 | ep (b o off:Nat) (cells:List D) (f:Nat→Value) (hc:∀ i,i < cells.length→w.cell? ⟨b,o + i,none⟩=some (f i)) (hp:∀ i,i < cells.length→o + i < g.prot b)
   (hr:∀ (i:Nat) (d:D),cells[i]? = some d→Rep g w (f i) d) (one:∀ i,i < cells.length→(f i).one1=true):Rep g w (.pointer (some ⟨b,o + off,none⟩)) (.ep cells off)
 | nilptr:Rep g w (.pointer none) .nilptr
 | ptr (b off:Nat):Rep g w (.pointer (some ⟨b,off,none⟩)) (.ptr b off)
 | msl (b off n cap s:Nat) (h:n≤cap) (hb:cap≤big):Rep g w (.slice (some ⟨b,off,none⟩) n cap) (.msl b off n cap s)
 | mslx (a:Addr) (b off s:Nat):Rep g w (.slice (some a) 0 0) (.msl b off 0 0 s)
 | map (b:Nat):Rep g w (.map (some b)) (.map b)
 | nilmap:Rep g w (.map none) .nilmap
 | fn (f:Fn) (fs cs:List Value) (df dc:List D) (hnf:fs.length=df.length) (hnc:cs.length=dc.length)
   (hf:∀ (i:Nat) (v:Value) (d:D),fs[i]? = some v→df[i]? = some d→Rep g w v d)
   (hc:∀ (i:Nat) (v:Value) (d:D),cs[i]? = some v→dc[i]? = some d→Rep g w v d):Rep g w (.func f fs.toArray cs.toArray) (.fn f df dc)
 | nilfn:Rep g w .nilFunc .nilfn
 | iface (t:TypeId) (v:Value) (d:D) (h:Rep g w v d):Rep g w (.iface t v) (.iface t d)
 | niliface:Rep g w .nilIface .niliface
 | stamp (n:Nat):Rep g w (.int .i64 n) (.stamp n)
 | undef:Rep g w undef .undef
 | any (v:Value):Rep g w v .any
structure Ext (g:G) (w:World) (g':G) (w':World):Prop where
 size:w.heap.size≤w'.heap.size
 prot:∀ b,g.prot b≤g'.prot b
 cell:∀ b o,o < g.prot b→w'.cell? ⟨b,o,none⟩=w.cell? ⟨b,o,none⟩
 hdr:∀ b x,hdr w b=some x→hdr w' b=some x
 kept:∀ b,g.kept b→w'.heap[b]? = w.heap[b]?
 keptProt:∀ b,g.kept b→g'.prot b=g.prot b
 keptEq:g'.kept=g.kept
 os:w'.os=w.os
 output:w'.output=w.output
 tape:w'.tape=w.tape
theorem Ext.refl (g:G) (w:World):Ext g w g w:=⟨ZuO _,fun _=>ZuO _,fun _ _ _=>rfl,fun _ _ h=>h,fun _ _=>rfl,fun _ _=>rfl,rfl,rfl,rfl,rfl⟩
theorem Ext.trans {g g' g'':G} {w w' w'':World} (h:Ext g w g' w') (h':Ext g' w' g'' w''):Ext g w g'' w'':={
 size:=Nat.le_trans h.size h'.size
 prot b:=Nat.le_trans (h.prot b) (h'.prot b)
 cell b o ho:=(h'.cell b o (Nat.lt_of_lt_of_le ho (h.prot b))).trans (h.cell b o ho)
 hdr b x hx:=h'.hdr b x (h.hdr b x hx)
 kept b hb:=(h'.kept b (by rw [h.keptEq]; exact hb)).trans (h.kept b hb)
 keptProt b hb:=(h'.keptProt b (by rw [h.keptEq]; exact hb)).trans (h.keptProt b hb)
 keptEq:=h'.keptEq.trans h.keptEq
 os:=h'.os.trans h.os
 output:=h'.output.trans h.output
 tape:=h'.tape.trans h.tape }
theorem Zdi.mono0 {w w':World} {b n:Nat} (h:Zdi w b n) (e:∀ b x,hdr w b=some x→hdr w' b=some x):Zdi w' b n:=by
 obtain ⟨t,m,h1,h2⟩:=h
 exact ⟨t,m,e _ _ h1,h2⟩
theorem Rep.mono0 {g g':G} {w w':World} {v:Value} {d:D} (h:Rep g w v d) (ep:∀ b,g.prot b≤g'.prot b) (ec:∀ b o,o < g.prot b→w'.cell? ⟨b,o,none⟩=w.cell? ⟨b,o,none⟩)
  (eh:∀ b x,hdr w b=some x→hdr w' b=some x):Rep g' w' v d:=by
 induction h with
 | int k n h=>exact .int k n h
 | bool b=>exact .bool b
 | str s l h hb=>exact .str s l h hb
 | agg vs cells hn _ one ih=>exact .agg vs cells hn ih one
 | tup vs ds hn _ ih=>exact .tup vs ds hn ih
 | nilsl=>exact .nilsl
 | sl0 a t s row ht=>exact .sl0 a t s row ht
 | sl b o n cap s row t f hl hc hp _ one ht hcap hb ih =>
  refine .sl b o n cap s row t f hl (fun i j hi hj=>?_) (fun i j hi hj=>Nat.lt_of_lt_of_le (hp i j hi hj) (ep b)) ih one ?_ hcap hb
  ·rw [ec _ _ (hp i j hi hj)]; exact hc i j hi hj
  ·cases t with
   | none=>trivial
   | full=>exact ht
   | tip t=>exact ⟨ht.1,ht.2.1,ht.2.2.mono0 eh⟩
 | ep b o off cells f hc hp _ one ih =>
  exact .ep b o off cells f (fun i hi=>by rw [ec _ _ (hp i hi)]; exact hc i hi) (fun i hi=>Nat.lt_of_lt_of_le (hp i hi) (ep b)) ih one
 | nilptr=>exact .nilptr
 | ptr b off=>exact .ptr b off
 | msl b off n cap s h hb=>exact .msl b off n cap s h hb
 | mslx a b off s=>exact .mslx a b off s
 | map b=>exact .map b
 | nilmap=>exact .nilmap
 | fn f fs cs df dc hnf hnc _ _ ihf ihc=>exact .fn f fs cs df dc hnf hnc ihf ihc
 | nilfn=>exact .nilfn
 | iface t v d _ ih=>exact .iface t v d ih
 | niliface=>exact .niliface
 | stamp n=>exact .stamp n
 | undef=>exact .undef
 | any v=>exact .any v
theorem Rep.mono {g g':G} {w w':World} {v:Value} {d:D} (h:Rep g w v d) (e:Ext g w g' w'):Rep g' w' v d:=h.mono0 e.prot e.cell e.hdr
end Go.DL
namespace Go.DL
open Go
inductive E where
 | d (v:D)
 | loc (l off:Nat)
 | when (c:Bool) (e:E)
abbrev Env:=List (Nat × E)
abbrev Loc:=List (Nat × List D)
def WN:Env→Nat→Option E
 | [],_=>none
 | (k,e) :: r,t=>if k=t then some e else WN r t
def ZU:Loc→Nat→Option (List D)
 | [],_=>none
 | (k,e) :: r,t=>if k=t then some e else ZU r t
def YQ (g:G) (ν:Nat→Nat) (w:World) (L:Loc):Value→E→Prop
 | v,.d x=>Rep g w v x
 | v,.loc l off=>(∃ cs,ZU L l=some cs)∧v = .pointer (some ⟨ν l,off,none⟩)
 | v,.when c e=>(c=true→YQ g ν w L v e)∧(c=false→v=undef)
theorem YQ.mono {g g':G} {ν:Nat→Nat} {w w':World} {L:Loc} {v:Value} {e:E} (h:YQ g ν w L v e) (x:Ext g w g' w'):YQ g' ν w' L v e:=by
 induction e with
 | d d=>exact Rep.mono h x
 | loc l off=>exact h
 | when c e ih=>exact ⟨fun hc=>ih (h.1 hc),h.2⟩
structure Jc where
 fn:FuncId
 params:List Nat
 assign:Code
 body:Code
 defers:Nat
 ρ:Env
 N:Nat
inductive LSt where
 | ready | busy
 | done (j:Code)
inductive KC where
 | cells (ds:List D)
 | map (es:List (D × D))
 | tip (k:Nat)
 | mapE (kp:KP) (es:List (D × D)) (k:D) (n:Nat)
 | loop (r:Jc) (st:LSt)
 | dfr
abbrev St:=Nat→Option KC
def St.upd (s:St) (b:Nat) (o:KC):St:=fun x=>if x=b then some o else s x
def St.del (s:St) (b:Nat):St:=fun x=>if x=b then none else s x
structure Qv (g:G) (w:World) (b:Nat) (ds:List D):Prop where
 prot:g.prot b=0
 ex:∃ (vs:Array Value) (T:TypeId),w.heap[b]? = some (.cells vs T (0,0))∧vs.size=ds.length ∧
  (∀ (i:Nat) (v:Value) (d:D),vs[i]? = some v→ds[i]? = some d→Rep g w v d)∧∀ v∈vs,v.one1=true
def Jk (g:G) (w:World) (b:Nat):KC→Prop
  | .cells ds=>Qv g w b ds
  | .map es=>g.prot b=0∧∃ (en:Array MapEntry) (clock:Nat),w.heap[b]? = some (.map en clock)∧en.size=es.length ∧
      (∀ (i:Nat) (e:MapEntry) (d:D × D),en[i]? = some e→es[i]? = some d→Rep g w e.key d.1) ∧
      (∀ (i:Nat) (e:MapEntry) (d:D × D),en[i]? = some e→es[i]? = some d→Rep g w e.val d.2) ∧
      (∀ (i j:Nat) (e e':MapEntry),en[i]? = some e→en[j]? = some e'→e.born=e'.born→i=j)∧∀ (i:Nat) (e:MapEntry),en[i]? = some e→e.born < clock
  | .tip k=>g.prot b=k∧∃ (vs:Array Value) (T:TypeId),w.heap[b]? = some (.cells vs T (0,0))∧k≤vs.size
  | .mapE kp es k n=>g.prot b=0∧∃ io,JY kp k es=some io∧∃ (en:Array MapEntry) (clock:Nat),w.heap[b]? = some (.map en clock)∧en.size=(match io with
        | none=>es.length + 1
        | some _=>es.length) ∧
      (∀ (i:Nat) (e:MapEntry) (d:D × D),i≠io.getD es.length→en[i]? = some e→es[i]? = some d→Rep g w e.key d.1) ∧
      (∀ (i:Nat) (e:MapEntry) (d:D × D),i≠io.getD es.length→en[i]? = some e→es[i]? = some d→Rep g w e.val d.2) ∧
      (∀ e,en[io.getD es.length]? = some e→Rep g w e.key k∧e.born=n) ∧
      (∀ (i j:Nat) (e e':MapEntry),en[i]? = some e→en[j]? = some e'→e.born=e'.born→i=j)∧∀ (i:Nat) (e:MapEntry),en[i]? = some e→e.born < clock
  | .loop r st=>g.prot b=0∧∃ l:Go.Loop,w.heap[b]? = some (.loop l)∧l.fn=r.fn∧l.params.toList=r.params∧l.assign=r.assign∧l.body=r.body∧l.defers=r.defers∧r.N≤l.tmps.size ∧
      (∀ t e,WN r.ρ t=some e→YQ g (fun _=>0) w [] (l.tmps.getD t undef) e) ∧
      (match st with
       | .ready=>l.state = .ready∧l.pending=none
       | .busy=>l.state = .busy
       | .done j=>l.state = .done∧l.pending=some j)
  | .dfr=>g.prot b=0∧w.heap[b]? = some (.deferred (some []))
structure KS (g:G) (s:St) (w:World):Prop where
 obj:∀ b o,s b=some o→Jk g w b o
 kept:∀ b o,s b=some o→¬ g.kept b
 fresh:∀ b,w.heap.size≤b→g.prot b=0∧¬ g.kept b
theorem Qv.lt {g:G} {w:World} {b:Nat} {ds:List D} (h:Qv g w b ds):b < w.heap.size:=by
 obtain ⟨_,_,h,_⟩:=h.ex
 exact (Array.getElem?_eq_some_iff.1 h).1
theorem Jk.lt {g:G} {w:World} {b:Nat} {o:KC} (h:Jk g w b o):b < w.heap.size:=by
 cases o with
 | cells ds=>exact Qv.lt h
 | map es=>obtain ⟨_,_,_,h,_⟩:=h; exact (Array.getElem?_eq_some_iff.1 h).1
 | tip k=>obtain ⟨_,_,_,h,_⟩:=h; exact (Array.getElem?_eq_some_iff.1 h).1
 | mapE kp es k n=>obtain ⟨_,_,_,_,_,h,_⟩:=h; exact (Array.getElem?_eq_some_iff.1 h).1
 | loop r st=>obtain ⟨_,_,h,_⟩:=h; exact (Array.getElem?_eq_some_iff.1 h).1
 | dfr=>exact (Array.getElem?_eq_some_iff.1 h.2).1
theorem Qv.mono {g g':G} {w w':World} {b:Nat} {ds:List D} (h:Qv g w b ds) (e:Ext g w g' w') (hb:w'.heap[b]? = w.heap[b]?) (hp:g'.prot b=g.prot b) :
  Qv g' w' b ds:=by
 obtain ⟨hp0,vs,T,h1,h2,h4,h5⟩:=h
 exact ⟨hp.trans hp0,vs,T,hb.trans h1,h2,fun i v d hv hd=>(h4 i v d hv hd).mono e,h5⟩
theorem Jk.mono {g g':G} {w w':World} {b:Nat} {o:KC} (h:Jk g w b o) (e:Ext g w g' w') (hb:w'.heap[b]? = w.heap[b]?) (hp:g'.prot b=g.prot b) :
  Jk g' w' b o:=by
 cases o with
 | cells ds=>exact Qv.mono h e hb hp
 | map es =>
  obtain ⟨hp0,en,clock,h1,h2,h3,h4,h5,h6⟩:=h
  exact ⟨hp.trans hp0,en,clock,hb.trans h1,h2,fun i x d hv hd=>(h3 i x d hv hd).mono e,fun i x d hv hd=>(h4 i x d hv hd).mono e,h5,h6⟩
 | tip k =>
  obtain ⟨hp0,vs,T,h1,h2⟩:=h
  exact ⟨hp.trans hp0,vs,T,hb.trans h1,h2⟩
 | mapE kp es k n =>
  obtain ⟨hp0,io,h0,en,clock,h1,h2,h3,h4,h5,h6,h7⟩:=h
  exact ⟨hp.trans hp0,io,h0,en,clock,hb.trans h1,h2,fun i x d hi hv hd=>(h3 i x d hi hv hd).mono e,fun i x d hi hv hd=>(h4 i x d hi hv hd).mono e,fun x hx=>⟨(h5 x hx).1.mono e,(h5 x hx).2⟩,h6,h7⟩
 | loop r st =>
  obtain ⟨hp0,l,h1,h2,h3,h4,h5,h6,h7,h8,h9⟩:=h
  exact ⟨hp.trans hp0,l,hb.trans h1,h2,h3,h4,h5,h6,h7,fun t x he=>(h8 t x he).mono e,h9⟩
 | dfr=>exact ⟨hp.trans h.1,hb.trans h.2⟩
structure Yg (g:G) (ν:Nat→Nat) (w:World) (tmps:Array Value) (ρ:Env) (L:Loc) (s:St):Prop where
 st:KS g s w
 loc:∀ l cs,ZU L l=some cs→Qv g w (ν l) cs
 locKept:∀ l cs,ZU L l=some cs→¬ g.kept (ν l)
 locSt:∀ l cs,ZU L l=some cs→s (ν l)=none
 inj:∀ l l' cs cs',ZU L l=some cs→ZU L l'=some cs'→ν l=ν l'→l=l'
 env:∀ t e,WN ρ t=some e→YQ g ν w L (tmps.getD t undef) e
theorem YQ.locs {g:G} {ν ν':Nat→Nat} {w:World} {L L':Loc} {v:Value} {e:E} (h:YQ g ν w L v e)
  (hL:∀ l cs,ZU L l=some cs→(∃ cs',ZU L' l=some cs')∧ν' l=ν l):YQ g ν' w L' v e:=by
 induction e with
 | d d=>exact h
 | loc l off=>obtain ⟨⟨cs,hc⟩,hv⟩:=h; obtain ⟨h1,h2⟩:=hL l cs hc; exact ⟨h1,by rw [h2]; exact hv⟩
 | when c e ih=>exact ⟨fun hc=>ih (h.1 hc),h.2⟩
theorem Zqy (a:Array Value) (t u:Nat) (v:Value) (h:t < a.size):(a.setIfInBounds t v).getD u undef=if t=u then v else a.getD u undef:=by
 simp only [Array.getD_eq_getD_getElem?,Array.getElem?_setIfInBounds]
 by_cases htu:t=u
 ·subst htu; simp [h]
 ·simp [htu]
theorem Yg.put {g:G} {ν:Nat→Nat} {w:World} {tmps:Array Value} {ρ:Env} {L:Loc} {s:St} (m:Yg g ν w tmps ρ L s) {t:Nat} {v:Value} {e:E}
  (ht:t < tmps.size) (h:YQ g ν w L v e):Yg g ν w (tmps.setIfInBounds t v) ((t,e) :: ρ) L s :=
 { m with
  env:=fun u x hx=>by
   rw [Zqy _ _ _ _ ht]
   simp only [WN] at hx
   by_cases htu:t=u
   ·simp only [htu,if_true] at hx ⊢; obtain rfl:=Option.some.inj hx; exact h
   ·simp only [htu,if_false] at hx ⊢; exact m.env u x hx }
structure ZbB (g:G) (w:World) (g':G) (w':World):Prop where
 size:w.heap.size≤w'.heap.size
 old:∀ b,b < w.heap.size→w'.heap[b]? = w.heap[b]?
 prot:∀ b,b < w.heap.size→g'.prot b=g.prot b
 fresh:∀ b,w'.heap.size≤b→g'.prot b=0
 kept:g'.kept=g.kept
 os:w'.os=w.os
 output:w'.output=w.output
 tape:w'.tape=w.tape
theorem ZbF {w w':World} {b o:Nat} (h:w'.heap[b]? = w.heap[b]?):w'.cell? ⟨b,o,none⟩=w.cell? ⟨b,o,none⟩:=by
 unfold World.cell?; simp only [h]
theorem Zb5 {w w':World} {b:Nat} (h:w'.heap[b]? = w.heap[b]?):hdr w' b=hdr w b:=by
 unfold hdr; simp only [h]
theorem Zr8 {w:World} {b:Nat} {x:TypeId × Nat × Nat × Nat} (h:hdr w b=some x):b < w.heap.size:=by
 unfold hdr at h
 rcases Nat.lt_or_ge b w.heap.size with hb | hb
 ·exact hb
 ·simp [Array.getElem?_eq_none hb] at h
theorem ZbB.ext {g g':G} {w w':World} (h:ZbB g w g' w') (hf:∀ b,w.heap.size≤b→g.prot b=0∧¬ g.kept b):Ext g w g' w':={
 size:=h.size
 prot b:=by
  rcases Nat.lt_or_ge b w.heap.size with hb | hb
  ·rw [h.prot b hb]; exact ZuO _
  ·rw [(hf b hb).1]; exact Nat.zero_le _
 cell b o ho:=by
  rcases Nat.lt_or_ge b w.heap.size with hb | hb
  ·exact ZbF (h.old b hb)
  ·rw [(hf b hb).1] at ho; exact absurd ho (Nat.not_lt_zero _)
 hdr b x hx:=by rw [Zb5 (h.old b (Zr8 hx))]; exact hx
 kept b hb:=by
  rcases Nat.lt_or_ge b w.heap.size with hb' | hb'
  ·exact h.old b hb'
  ·exact absurd hb (hf b hb').2
 keptProt b hb:=by
  rcases Nat.lt_or_ge b w.heap.size with hb' | hb'
  ·exact h.prot b hb'
  ·exact absurd hb (hf b hb').2
 keptEq:=h.kept
 os:=h.os
 output:=h.output
 tape:=h.tape }
theorem KS.grow {g g':G} {w w':World} {s:St} (m:KS g s w) (h:ZbB g w g' w'):KS g' s w':={
 obj b o ho:=(m.obj b o ho).mono (h.ext m.fresh) (h.old b (m.obj b o ho).lt) (h.prot b (m.obj b o ho).lt)
 kept b o ho:=by rw [h.kept]; exact m.kept b o ho
 fresh b hb:=⟨h.fresh b hb,by rw [h.kept]; exact (m.fresh b (Nat.le_trans h.size hb)).2⟩ }
theorem Yg.grow {g g':G} {ν:Nat→Nat} {w w':World} {tmps:Array Value} {ρ:Env} {L:Loc} {s:St} (m:Yg g ν w tmps ρ L s) (h:ZbB g w g' w') :
  Yg g' ν w' tmps ρ L s:={
 st:=m.st.grow h
 loc l cs hl:=(m.loc l cs hl).mono (h.ext m.st.fresh) (h.old _ (m.loc l cs hl).lt) (h.prot _ (m.loc l cs hl).lt)
 locKept l cs hl:=by rw [h.kept]; exact m.locKept l cs hl
 locSt:=m.locSt
 inj:=m.inj
 env t e he:=(m.env t e he).mono (h.ext m.st.fresh) }
end Go.DL
namespace Go.DL
open Go
inductive Opd where
 | tmp (t:Nat)
 | cst (d:D)
def Zjz:Value→Option D
 | .int k n=>if k.min≤n∧n≤k.max then some (.int k n) else none
 | .bool b=>some (.bool b)
 | .string s=>if s.data.toList.length≤big then some (.str s.data.toList) else none
 | .pointer none=>some .nilptr
 | .slice none 0 0=>some .nilsl
 | .map none=>some .nilmap
 | .nilFunc=>some .nilfn
 | .nilIface=>some .niliface
 | _=>none
def Zb4:List Value→Option (List D)
 | []=>some []
 | v :: vs=>match Zjz v,Zb4 vs with
  | some d,some ds=>some (d :: ds)
  | _,_=>none
def ZjA:Value→Option D
 | .agg cs=>(Zb4 cs.toList).map .agg
 | v=>Zjz v
def WQ:Operand→Option Opd
 | .tmp t=>some (.tmp t)
 | .const v=>(ZjA v).map .cst
 | .func f=>some (.cst (.fn (.func f) [] []))
 | .global _=>none
def Zcc:List Operand→Option (List Opd)
 | []=>some []
 | x :: xs=>match WQ x,Zcc xs with
  | some y,some ys=>some (y :: ys)
  | _,_=>none
inductive Zkr where
 | bool | sl | map | fn | ifc | ptr
 | cells (l:List (Nat × SK))
inductive Cv where
 | int (k:IntKind) | str | i2s | b2s
inductive Q where
 | mv | nilck | load1 | loadN (n:Nat)
 | bin (op:BinOp) (p:Option Zkr)
 | not | neg | xorm
 | conv (c:Cv)
 | faddr (off:Nat)
 | fld1 (off:Nat) | fldN (off n:Nat)
 | iaddr (s:Nat) | iaddrA (m s:Nat)
 | idxS
 | lenS | lenL | lenA (n:Nat)
 | ext (k:Nat)
 | build (zero:List D) (parts:List (Nat × Nat))
 | mkfn (f:Fn) (first:Nat)
 | mkif (t:TypeId)
 | sliceS (lo hi:Bool)
 | slice (s:Nat) (lo hi mx:Bool)
 | min | max
 | tassert (t:TypeId) (ok:Bool) (zero:D)
 | lookup (kp:KP) (zero:D) (ok:Bool)
 | lenM
def cellsOf:D→List D
 | .agg cs=>cs
 | d=>[d]
def ZaM:D→Bool
 | .tup _ | .undef | .any=>false
 | _=>true
def Za0:D→Bool
 | .tup _ | .undef | .agg _ | .any=>false
 | _=>true
def ZaI (kp:KP) (k:D):Bool:=(JM kp k k).isSome
def ZcQ (kp:KP) (k:D):List (D × D)→Option (Option D)
 | []=>some none
 | e :: r=>match JM kp k e.1 with
  | some true=>some (some e.2)
  | some false=>ZcQ kp k r
  | none=>none
def Zbp (kp:KP) (k v:D):List (D × D)→Option (List (D × D))
 | []=>some [(k,v)]
 | e :: r=>match JM kp k e.1 with
  | some true=>some ((k,v) :: r)
  | some false=>(Zbp kp k v r).map (e :: ·)
  | none=>none
def ZiS (kp:KP) (k:D):List (D × D)→Option (List (D × D))
 | []=>some []
 | e :: r=>match JM kp k e.1 with
  | some true=>some r
  | some false=>(ZiS kp k r).map (e :: ·)
  | none=>none
def JD (z:D) (ok:Bool):Option D→D
 | some v=>if ok then .tup [v,.bool true] else v
 | none=>if ok then .tup [z,.bool false] else z
def Qb:Zkr→D→D→Option (Prop × Bool)
 | .bool,.bool a,.bool b=>some (True,decide (a=b))
 | .sl,.nilsl,.nilsl=>some (True,true)
 | .sl,.sl _ n _ _,.nilsl=>some (0 < n,false)
 | .map,.nilmap,.nilmap=>some (True,true)
 | .map,.map _,.nilmap=>some (True,false)
 | .sl,.msl _ _ _ _ _,.nilsl=>some (True,false)
 | .fn,.nilfn,.nilfn=>some (True,true)
 | .fn,.fn _ _ _,.nilfn=>some (True,false)
 | .ifc,.niliface,.niliface=>some (True,true)
 | .ifc,.iface _ _,.niliface=>some (True,false)
 | .ptr,.nilptr,.nilptr=>some (True,true)
 | .ptr,.ptr _ _,.nilptr=>some (True,false)
 | .ptr,.ep _ _,.nilptr=>some (True,false)
 | .cells l,.agg xs,.agg ys=>(QV xs ys l).map (True,·)
 | _,_,_=>none
def ZrY (op:BinOp) (k:IntKind) (x y:Int):Int :=
 let a:=BitVec.ofInt k.bits x
 let b:=BitVec.ofInt k.bits y
 let r:BitVec k.bits:=match op with
  | .and=>a &&& b
  | .or=>a ||| b
  | .xor=>a ^^^ b
  | _=>a &&& ~~~b
 k.wrap r.toNat
def Zi8 (k:IntKind) (x y:Int):Int:=x * 2 ^ (Nat.min y.toNat k.bits)
def ZmZ (k:IntKind) (x y:Int):Int:=x.fdiv (2 ^ (Nat.min y.toNat k.bits))
def ZaR (op:BinOp) (k:IntKind) (a b:Int):Option (Prop × D) :=
 match op with
 | .add=>some (inR k (a + b),.int k (a + b))
 | .sub=>some (inR k (a - b),.int k (a - b))
 | .mul=>some (inR k (a * b),.int k (a * b))
 | .quo=>some (b≠0∧inR k (a.tdiv b),.int k (a.tdiv b))
 | .rem=>some (b≠0∧inR k (a.tmod b),.int k (a.tmod b))
 | .and | .or | .xor | .andNot=>some (True,.int k (ZrY op k a b))
 | .eql=>some (True,.bool (decide (a=b)))
 | .neq=>some (True,.bool (!decide (a=b)))
 | .lss=>some (True,.bool (decide (a < b)))
 | .leq=>some (True,.bool (decide (a≤b)))
 | .gtr=>some (True,.bool (decide (b < a)))
 | .geq=>some (True,.bool (decide (b≤a)))
 | .shl | .shr=>none
def Zer (op:BinOp) (a b:List UInt8):Option (Prop × D) :=
 match op with
 | .add=>some (a.length + b.length≤big,.str (a++b))
 | .eql=>some (True,.bool (decide (a=b)))
 | .neq=>some (True,.bool (!decide (a=b)))
 | .lss=>some (True,.bool (Op.bytesLess a b))
 | .leq=>some (True,.bool (Op.bytesLess a b || decide (a=b)))
 | .gtr=>some (True,.bool !(Op.bytesLess a b || decide (a=b)))
 | .geq=>some (True,.bool (!Op.bytesLess a b))
 | _=>none
def eqO (op:BinOp) (p:Option Zkr) (x y:D):Option (Prop × D) :=
 match op,p with
 | .eql,some p=>(Qb p x y).map fun r=>(r.1,.bool r.2)
 | .neq,some p=>(Qb p x y).map fun r=>(r.1,.bool (!r.2))
 | _,_=>none
def ZcI (op:BinOp) (p:Option Zkr):D→D→Option (Prop × D)
 | .int k a,.int k' b =>
  match op with
  | .shl=>some (0≤b∧inR k (Zi8 k a b),.int k (Zi8 k a b))
  | .shr=>some (0≤b∧inR k (ZmZ k a b),.int k (ZmZ k a b))
  | _=>if k=k' then ZaR op k a b else none
 | .str a,.str b=>Zer op a b
 | x,y=>eqO op p x y
def part (cs:List D) (o n:Nat):List D:=(cs.drop o).take n
def Zad (s:St) (b:Nat):Option (List D) :=
 match s b with
 | some (.cells cs)=>some cs
 | _=>none
def ZaT (s:St) (b:Nat):Option (List (D × D)) :=
 match s b with
 | some (.map es)=>some es
 | _=>none
def Js (L:Loc) (s:St):E→Option D
 | .d (.ep cs o)=>cs[o]?
 | .d (.ptr b o)=>match Zad s b with
  | some cs=>cs[o]?
  | none=>none
 | .loc l o=>match ZU L l with
  | some cs=>cs[o]?
  | none=>none
 | _=>none
def JE (L:Loc) (s:St) (n:Nat):E→Option (Prop × List D)
 | .d (.ep cs o)=>some (o + n≤cs.length,part cs o n)
 | .d (.ptr b o)=>match Zad s b with
  | some cs=>some (o + n≤cs.length,part cs o n)
  | none=>none
 | .loc l o=>match ZU L l with
  | some cs=>some (o + n≤cs.length,part cs o n)
  | none=>none
 | _=>none
def KR (cs:List D) (o:Nat) (vs:List D):List D:=cs.take o++vs++cs.drop (o + vs.length)
def ZcP (cells:List D):List (Nat × Nat)→List D→Option (List D)
 | [],[]=>some cells
 | (o,n) :: ps,d :: ds=>if ZaM d=true∧(cellsOf d).length=n∧o + n≤cells.length then ZcP (KR cells o (cellsOf d)) ps ds else none
 | _,_=>none
def ZoY:List D→UInt8
 | [.int _ n]=>UInt8.ofNat n.toNat
 | _=>0
def ZsA (r:List D):Prop:=∃ n:Int,r=[.int .u8 n]
def Q3:List E→Option (List D)
 | []=>some []
 | .d x :: r=>(Q3 r).map (x :: ·)
 | _ :: _=>none
def ZdG (t:Tok) (n:Nat) (l h:Int):Option Int→Tok
 | some m=>if m=h then .full else .none
 | none=>if h=n then (match t with
  | .full=>.full
  | .tip b=>if l=0 then .tip b else .none
  | .none=>.none) else .none
def ZeL (s:Nat) (lo hi mx:Option Int):D→Option (Prop × D)
 | .sl t n s' row =>
  if s'=s then
   let h:=hi.getD n
   let l:=lo.getD 0
   some (0≤l∧l≤h∧h≤n∧(∀ m∈mx,h≤m∧m≤n),
    .sl (ZdG t n l h mx)
     (h - l).toNat s (fun i=>row (l.toNat + i)))
  else none
 | .nilsl=>some (lo.getD 0=0∧hi.getD 0=0∧mx.getD 0=0,.nilsl)
 | .msl b o n cap s' =>
  if s'=s then
   let h:=hi.getD n
   let l:=lo.getD 0
   let m:=mx.getD cap
   some (0≤l∧l≤h∧h≤m∧m≤cap,.msl b (if m=l then o else o + l.toNat * s) (h - l).toNat (m - l).toNat s)
  else none
 | _=>none
def JC:List Bool→List E→Option (List (Option Int))
 | [],[]=>some []
 | true :: bs,.d (.int _ n) :: r=>(JC bs r).map (some n :: ·)
 | false :: bs,r=>(JC bs r).map (none :: ·)
 | _,_=>none
def qv (L:Loc) (s:St):Q→List E→Option (Prop × E)
 | .mv,[e]=>some (True,e)
 | .nilck,[.loc l o]=>some (True,.loc l o)
 | .nilck,[.d (.ep cs o)]=>some (True,.d (.ep cs o))
 | .nilck,[.d (.ptr b o)]=>some (True,.d (.ptr b o))
 | .nilck,[.d (.fn f x y)]=>match f with
  | .func g=>some (True,.d (.fn (.func g) x y))
  | .yield l=>some (True,.d (.fn (.yield l) x y))
  | _=>none
 | .load1,[a]=>(Js L s a).map fun d=>(True,.d d)
 | .loadN n,[a]=>(JE L s n a).map fun r=>(r.1,.d (.agg r.2))
 | .bin op p,[.d x,.d y]=>(ZcI op p x y).map fun r=>(r.1,.d r.2)
 | .not,[.d (.bool b)]=>some (True,.d (.bool !b))
 | .neg,[.d (.int k n)]=>some (inR k (-n),.d (.int k (-n)))
 | .xorm,[.d (.int k n)]=>some (True,.d (.int k (ZrY .xor k (if k.signed then -1 else k.max) n)))
 | .conv (.int k),[.d (.int k' n)]=>if k=k' then some (True,.d (.int k n)) else some (True,.d (.int k (k.wrap n)))
 | .conv .str,[.d (.str s)]=>some (True,.d (.str s))
 | .conv .i2s,[.d (.int _ n)]=>some ((Utf8.encode n).data.toList.length≤big,.d (.str (Utf8.encode n).data.toList))
 | .conv .b2s,[.d .nilsl]=>some (True,.d (.str []))
 | .conv .b2s,[.d (.sl _ n s row)]=>if s=1 then some (∀ i,i < n→ZsA (row i),.d (.str ((List.range n).map fun i=>ZoY (row i)))) else none
 | .faddr off,[.d (.ep cs o)]=>some (True,.d (.ep cs (o + off)))
 | .faddr off,[.d (.ptr b o)]=>some (True,.d (.ptr b (o + off)))
 | .faddr off,[.loc l o]=>some (True,.loc l (o + off))
 | .fld1 off,[.d (.agg cs)]=>(cs[off]?).map fun d=>(True,.d d)
 | .fldN off n,[.d (.agg cs)]=>some (off + n≤cs.length,.d (.agg (part cs off n)))
 | .iaddr z,[.d (.sl _ n z' row),.d (.int _ i)]=>if z'=z then some (0≤i∧i < n,.d (.ep (row i.toNat) 0)) else none
 | .iaddr z,[.d (.msl b o n _ z'),.d (.int _ i)]=>if z'=z then some (0≤i∧i < n,.d (.ptr b (o + i.toNat * z))) else none
 | .iaddrA m z,[.d (.ptr b o),.d (.int _ i)]=>some (0≤i∧i < m,.d (.ptr b (o + i.toNat * z)))
 | .iaddrA m s,[.loc l o,.d (.int _ i)]=>some (0≤i∧i < m,.loc l (o + i.toNat * s))
 | .iaddrA m s,[.d (.ep cs o),.d (.int _ i)]=>some (0≤i∧i < m,.d (.ep cs (o + i.toNat * s)))
 | .idxS,[.d (.str s),.d (.int _ i)]=>some (0≤i∧i < s.length,.d (.int .u8 ((s.getD i.toNat 0).toNat:Int)))
 | .lenS,[.d (.str s)]=>some (True,.d (.int .i64 s.length))
 | .lenL,[.d (.sl _ n _ _)]=>some (True,.d (.int .i64 n))
 | .lenL,[.d (.msl _ _ n _ _)]=>some (True,.d (.int .i64 n))
 | .lenL,[.d .nilsl]=>some (True,.d (.int .i64 0))
 | .lenA n,[_]=>some (inR .i64 n,.d (.int .i64 n))
 | .ext k,[.d (.tup vs)]=>(vs[k]?).map fun d=>(True,.d d)
 | .build zero parts,es=>match Q3 es with
  | some ds=>(ZcP zero parts ds).map fun cs=>(True,.d (.agg cs))
  | none=>none
 | .mkfn f k,es=>(Q3 es).map fun ds=>(True,.d (.fn f (ds.take k) (ds.drop k)))
 | .mkif t,[.d x]=>some (True,.d (.iface t x))
 | .sliceS lo hi,.d (.str s) :: r=>match JC [lo,hi,false] r with
  | some [l,h,_]=>some (0≤l.getD 0∧l.getD 0≤h.getD s.length∧h.getD s.length≤s.length,
    .d (.str ((s.drop (l.getD 0).toNat).take ((h.getD s.length).toNat - (l.getD 0).toNat))))
  | _=>none
 | .slice s lo hi mx,.d x :: r=>match JC [lo,hi,mx] r with
  | some [l,h,m]=>(ZeL s l h m x).map fun r=>(r.1,.d r.2)
  | _=>none
 | .min,[.d (.int k a),.d (.int k' b)]=>if k=k' then some (True,.d (.int k (Min.min a b))) else none
 | .max,[.d (.int k a),.d (.int k' b)]=>if k=k' then some (True,.d (.int k (Max.max a b))) else none
 | .tassert t true _,[.d (.iface t' v)]=>if t'=t then some (True,.d (.tup [v,.bool true])) else none
 | .lookup kp z ok,[.d (.map b),.d k]=>match ZaT s b with
  | some es=>(ZcQ kp k es).map fun r=>(ZaI kp k=true,.d (JD z ok r))
  | none=>none
 | .lookup kp z ok,[.d .nilmap,.d k]=>some (ZaI kp k=true,.d (JD z ok none))
 | .lenM,[.d (.map b)]=>match ZaT s b with
  | some es=>some (es.length≤big,.d (.int .i64 es.length))
  | none=>none
 | .lenM,[.d .nilmap]=>some (True,.d (.int .i64 0))
 | .tassert _ true zero,[.d .niliface]=>some (True,.d (.tup [zero,.bool false]))
 | .tassert t false _,[.d (.iface t' v)]=>if t'=t then some (True,.d v) else none
 | _,_=>none
inductive K where
 | q (q:Q) (args:List Opd)
 | pick (c a b:Opd)
 | alloc (zero:List D)
 | box (x:Opd)
 | bsl (len s:Nat) (zero:List D) (idx:List Nat) (parts:List Opd)
 | s2b (x:Opd)
 | store1 (a v:Opd)
 | storeN (n:Nat) (a v:Opd)
 | call (f:Opd) (args:List Opd)
 | append (elem:TypeId) (s bytes:Nat) (zero:List D) (x y:Opd)
 | mkmap
 | mapupd (kp:KP) (m k v:Opd)
 | mapent (kp:KP) (zero:D) (m k:Opd)
 | entst (m st v:Opd)
 | mkslice (elem:TypeId) (s bytes:Nat) (zero:List D) (l c:Opd)
 | panic (x:Opd)
 | delete (kp:KP) (m k:Opd)
 | defer (f:Opd) (args:List Opd)
 | recover
def K.isDefer:K→Bool
 | .defer _ _=>true
 | _=>false
structure DOp where
 dst:Option Nat
 guard:Option (Nat × Bool)
 k:K
inductive DC where
 | skip
 | reg (ops:List DOp) (keep:Option (List Nat))
 | regD (order:List Nat) (ops:List (DOp × Bool)) (keep:Option (List Nat))
 | seq (a b:DC)
 | cond (c:Opd) (a b:DC)
 | block (id:Nat) (a:DC)
 | loop (a:DC)
 | rangeF (f:Opd) (params:List Nat) (assign body:DC)
 | exit (id:Nat)
 | ret
 | scope (a:DC)
 | label (id:Nat)
 | goto (id:Nat)
def Zaf (P:Program) (t:TypeId):Option SK :=
 match P.underlying t with
 | some .bool=>some .bool
 | some (.int _)=>some .int
 | some .string=>some .str
 | _=>none
def JK (P:Program):List Field→Option (List (Nat × SK))
 | []=>some []
 | f :: r=>if f.name = "_" then JK P r else
  match Zaf P f.type,JK P r with
  | some k,some l=>some ((f.offset,k) :: l)
  | _,_=>none
def ZbC (P:Program) (t:TypeId):Option Bool :=
 match P.underlying t with
 | some (.struct _) | some (.array _ _)=>some true
 | some _=>some false
 | none=>none
def WW (P:Program) (t:TypeId):Option Nat:=(P.info? t).map (·.size)
def Zem:Operand→Bool
 | .const _=>true
 | _=>false
def ZeE (P:Program) (t:TypeId) (x y:Operand):Option Zkr :=
 match P.underlying t with
 | some .bool=>some .bool
 | some (.slice _)=>some .sl
 | some (.map _ _)=>some .map
 | some (.func _ _ _)=>some .fn
 | some (.interface _)=>if Zem x || Zem y then some .ifc else none
 | some (.pointer _)=>some .ptr
 | some (.struct fs)=>if P.eqGuardType P.depth t || P.stoodInHeld t then none else (JK P fs.toList).map .cells
 | some (.array n e) =>
  if P.eqGuardType P.depth t then none
  else match Zaf P e,WW P e with
   | some k,some 1=>some (.cells ((List.range n).map (·,k)))
   | _,_=>none
 | _=>none
def Zfy (P:Program) (s:TypeId) (k:Nat):Option Field :=
 match P.underlying s with
 | some (.struct fs)=>fs[k]?
 | _=>none
def ZbU (P:Program) (t:TypeId):Option (List D) :=
 match P.info? t with
 | some i=>match i.zero with
  | some z=>Zb4 z.cells.toList
  | none=>none
 | none=>none
def ZdI (P:Program) (t:TypeId):Option D :=
 match P.info? t with
 | some i=>match i.zero with
  | some z=>ZjA z
  | none=>none
 | none=>none
def JV (P:Program) (t:TypeId):List Nat→Option (List (Nat × Nat))
 | []=>some []
 | k :: r =>
  match P.underlying t,JV P t r with
  | some (.struct fs),some l=>match fs[k]? with
   | some f=>(WW P f.type).map fun n=>(f.offset,n) :: l
   | none=>none
  | some (.array _ e),some l=>(WW P e).map fun n=>(k * n,n) :: l
  | _,_=>none
def Zhz (P:Program) (t:TypeId):Bool :=
 match P.underlying t with
 | some (.struct fs)=>fs.toList.all fun f=>(WW P f.type).isSome
 | some (.array _ e)=>(WW P e).isSome
 | _=>false
def Zoq (P:Program) (s d:TypeId):Option Cv :=
 match P.underlying s,P.underlying d with
 | some (.int _),some (.int k)=>some (.int k)
 | some (.int _),some .string=>some .i2s
 | some .string,some .string=>some .str
 | some (.slice e),some .string=>match P.underlying e with
  | some (.int .u8)=>some .b2s
  | _=>none
 | _,_=>none
def Zbc (P:Program) (t:TypeId):Option KP :=
 match Zaf P t with
 | some k=>some (.sc k)
 | none=>match P.underlying t,WW P t with
  | some (.struct fs),some n=>match JK P fs.toList with
   | some l=>if l.map (·.1)=List.range n∧P.stoodInHeld t=false then some (.st l) else none
   | none=>none
  | _,_=>none
def ZbN (x:Option Operand):List Operand:=x.toList
def cq (P:Program):Op→Option (Q × List Operand)
 | .move x | .assign x=>some (.mv,[x])
 | .load t a=>match ZbC P t,WW P t with
  | some true,some n=>some (.loadN n,[a])
  | some false,some _=>some (.load1,[a])
  | _,_=>none
 | .nilCheck x=>some (.nilck,[x])
 | .binOp op t x y _=>some (.bin op (ZeE P t x y),[x,y])
 | .unOp .not _ x=>some (.not,[x])
 | .unOp .neg _ x=>some (.neg,[x])
 | .unOp .xor _ x=>some (.xorm,[x])
 | .convert s d x=>(Zoq P s d).map fun c=>(.conv c,[x])
 | .fieldAddr s x k=>match Zfy P s k with
  | some f=>match WW P f.type with
   | some n=>if n=0 then none else some (.faddr f.offset,[x])
   | none=>none
  | none=>none
 | .field s x k=>match Zfy P s k with
  | some f=>match ZbC P f.type,WW P f.type with
   | some true,some n=>some (.fldN f.offset n,[x])
   | some false,some _=>some (.fld1 f.offset,[x])
   | _,_=>none
  | none=>none
 | .indexAddr t x i=>match P.underlying t with
  | some (.slice e)=>(WW P e).map fun n=>(.iaddr n,[x,i])
  | some (.array m e)=>(WW P e).map fun n=>(.iaddrA m n,[x,i])
  | _=>none
 | .index t x i=>match P.underlying t with
  | some .string=>some (.idxS,[x,i])
  | _=>none
 | .extract x k=>some (.ext k,[x])
 | .build t parts=>match (P.info? t).bind (·.zero),JV P t (parts.toList.map (·.1)) with
  | some z,some l=>if Zhz P t then (Zb4 z.cells.toList).map fun zs=>(.build zs l,parts.toList.map (·.2)) else none
  | _,_=>none
 | .makeFunc f first caps=>some (.mkfn f first.size,first.toList++caps.toList)
 | .makeInterface t x=>match P.underlying t with
  | some (.interface _)=>none
  | some _=>some (.mkif t,[x])
  | none=>none
 | .slice t x lo hi mx=>match P.underlying t with
  | some .string=>if mx.isSome then none else some (.sliceS lo.isSome hi.isSome,x :: (ZbN lo++ZbN hi))
  | some (.slice e)=>if mx.isSome && !hi.isSome then none else (WW P e).map fun n=>(.slice n lo.isSome hi.isSome mx.isSome,x :: (ZbN lo++ZbN hi++ZbN mx))
  | _=>none
 | .typeAssert x _ t ok=>match P.underlying t with
  | some (.interface _)=>none
  | some _=>(ZdI P t).map fun z=>(.tassert t ok z,[x])
  | none=>none
 | .lookup t m k ok=>match P.underlying t with
  | some (.map kt e)=>match Zbc P kt,ZdI P e with
   | some kp,some z=>some (.lookup kp z ok,[m,k])
   | _,_=>none
  | _=>none
 | .call c=>match c.callee with
  | .builtin .len=>match c.argTypes[0]?.bind P.underlying with
   | some .string=>if c.args.size=1 then some (.lenS,c.args.toList) else none
   | some (.slice _)=>if c.args.size=1 then some (.lenL,c.args.toList) else none
   | some (.array n _)=>if c.args.size=1 then some (.lenA n,c.args.toList) else none
   | some (.map _ _)=>if c.args.size=1 then some (.lenM,c.args.toList) else none
   | _=>none
  | .builtin .min=>if c.args.size=2 then some (.min,c.args.toList) else none
  | .builtin .max=>if c.args.size=2 then some (.max,c.args.toList) else none
  | _=>none
 | _=>none
end Go.DL
namespace Go.DL
open Go
inductive Wh {α β:Type} (R:α→β→Prop):List α→List β→Prop where
 | nil:Wh R [] []
 | cons {a b as9 bs} (h:R a b) (t:Wh R as9 bs):Wh R (a :: as9) (b :: bs)
theorem ZkT (k:IntKind) (n:Int):inR k (k.wrap n):=by
 unfold inR IntKind.wrap IntKind.min IntKind.max
 cases k <;> simp [IntKind.signed,IntKind.bits] <;> (try split) <;> omega
theorem Zdv (k:IntKind) (n:Int) (h:inR k n):k.wrap n=n:=by
 unfold inR IntKind.min IntKind.max at h
 unfold IntKind.wrap
 cases k <;> simp [IntKind.signed,IntKind.bits] at h ⊢ <;> (try split) <;> omega
theorem JA (b o n:Nat):(⟨b,o,none⟩:Addr).add n=⟨b,o + n,none⟩:=by
 unfold Addr.add; split
 ·subst n; rfl
 ·rfl
theorem ZgK {P:Program} {t:TypeId} (h:ZbC P t=some true) (w:World):(isAgg t).run P w = .ok true w:=by
 unfold ZbC at h
 unfold isAgg
 split at h <;> simp_all [run_underlying]
theorem Zea {P:Program} {t:TypeId} (h:ZbC P t=some false) (w:World):(isAgg t).run P w = .ok false w:=by
 unfold ZbC at h
 unfold isAgg
 split at h
 ·simp at h
 ·simp at h
 ·rename_i d h1 h2 hd
  simp only [Sem.run_bind,run_underlying hd,Result.andThen_ok]
  cases d <;> simp_all
 ·simp at h
theorem QT {P:Program} {t:TypeId} {n:Nat} (h:WW P t=some n) (w:World):(sizeOf t).run P w = .ok n w:=by
 unfold WW at h
 cases hi:P.info? t with
 | none=>simp [hi] at h
 | some i =>
  simp [hi] at h
  simp [sizeOf,typeInfo,hi,h]
theorem ZfV {g:G} {w:World} {s:St} (hS:KS g s w) {b:Nat} {cs:List D} (h:Zad s b=some cs):Qv g w b cs:=by
 unfold Zad at h
 split at h <;> simp at h
 rename_i c hc
 subst h
 exact hS.obj b _ hc
theorem Zjq {g:G} {ν:Nat→Nat} {w:World} {L:Loc} (hL:∀ l cs,ZU L l=some cs→Qv g w (ν l) cs) {s:St} (hS:KS g s w) {v:Value} {e:E} {d:D}
  (h:YQ g ν w L v e) (hc:Js L s e=some d):∃ b o x,v = .pointer (some ⟨b,o,none⟩)∧w.cell? ⟨b,o,none⟩=some x∧Rep g w x d∧x.one1=true:=by
 cases e with
 | d v' =>
  cases v' <;> simp only [Js] at hc <;> try (simp at hc; done)
  ·rename_i cs o
   cases h with
   | ep b o0 _ _ f h1 h2 h3 one =>
    have hlt:o < cs.length:=(List.getElem?_eq_some_iff.1 hc).1
    exact ⟨b,o0 + o,f o,rfl,h1 o hlt,h3 o d hc,one o hlt⟩
  ·rename_i b o
   split at hc <;> (try (simp at hc; done))
   rename_i cs hcs
   obtain ⟨_,vs,T,h1,h2,h4,h5⟩:=ZfV hS hcs
   cases h
   have hlt:o < cs.length:=(List.getElem?_eq_some_iff.1 hc).1
   have hv:vs[o]? = some (vs[o]'(by omega)):=Array.getElem?_eq_getElem (by omega)
   refine ⟨b,o,vs[o]'(by omega),rfl,?_,h4 o _ d hv hc,h5 _ (Array.getElem_mem _)⟩
   simp [World.cell?,h1,hv]
 | loc l o =>
  obtain ⟨⟨cs,hcs⟩,rfl⟩:=h
  simp only [Js,hcs] at hc
  obtain ⟨_,vs,T,h1,h2,h4,h5⟩:=hL l cs hcs
  have hlt:o < cs.length:=(List.getElem?_eq_some_iff.1 hc).1
  have hv:vs[o]? = some (vs[o]'(by omega)):=Array.getElem?_eq_getElem (by omega)
  refine ⟨ν l,o,vs[o]'(by omega),rfl,?_,h4 o _ d hv hc,h5 _ (Array.getElem_mem _)⟩
  simp [World.cell?,h1,hv]
 | when c e=>simp [Js] at hc
theorem Zg9 {P:Program} {g:G} {w:World} {b o n:Nat} {cs:List D} (h:Qv g w b cs) (hs:o + n≤cs.length) :
  ∃ vs:List Value,(loadCells ⟨b,o,none⟩ n).run P w = .ok vs.toArray w∧Rep g w (.agg vs.toArray) (.agg (part cs o n)):=by
 obtain ⟨_,vs,T,h1,h2,h4,h5⟩:=h
 refine ⟨(vs.toList.drop o).take n,?_,?_⟩
 ·have:=run_loadCells (P:=P) (w:=w) ⟨b,o,none⟩ n (fun i=>vs.getD (o + i) undef) (fun j hj=>by
   rw [JA]; simp only [World.cell?,h1]
   have hj':o + j < vs.size:=by omega
   simp [Array.getD,hj'])
  rw [this]; congr 1
  apply Array.ext_getElem?
  intro i
  simp only [List.getElem?_toArray,List.getElem?_take,List.getElem?_drop,Array.getElem?_toList]
  by_cases hi':i < n
  ·have:o + i < vs.size:=by omega
   simp [hi',this]
  ·simp [hi']
 ·refine .agg _ _ (by simp [part]; omega) (fun i v d hv hd=>?_) (fun v hv=>?_)
  ·have hi:i < n:=by
    rcases Nat.lt_or_ge i n with h | h
    ·exact h
    ·simp [List.getElem?_take,Nat.not_lt.2 h] at hv
   simp only [List.getElem?_take,hi,if_true,List.getElem?_drop,Array.getElem?_toList,part] at hv hd
   exact h4 _ _ _ hv hd
  ·exact h5 v (by
    have:=List.mem_of_mem_drop (List.mem_of_mem_take hv)
    exact Array.mem_toList_iff.1 this)
theorem Zj9 {P:Program} {g:G} {ν:Nat→Nat} {w:World} {L:Loc} (hL:∀ l cs,ZU L l=some cs→Qv g w (ν l) cs) {s:St} (hS:KS g s w) {v:Value} {e:E} {n:Nat} {side:Prop} {ds:List D}
  (h:YQ g ν w L v e) (hc:JE L s n e=some (side,ds)) (hs:side) :
  ∃ a,v = .pointer (some a)∧∃ vs:List Value,(loadCells a n).run P w = .ok vs.toArray w∧Rep g w (.agg vs.toArray) (.agg ds):=by
 cases e with
 | d v' =>
  cases v' <;> simp only [JE] at hc <;> try (simp at hc; done)
  ·rename_i cs o
   simp only [Zuu,Zuz] at hc
   obtain ⟨rfl,rfl⟩:=hc
   cases h with
   | ep b o0 _ _ f h1 h2 h3 one =>
    refine ⟨_,rfl,(List.range n).map (fun i=>f (o + i)),?_,?_⟩
    ·have:=run_loadCells (P:=P) (w:=w) ⟨b,o0 + o,none⟩ n (fun i=>f (o + i)) (fun j hj=>by
      rw [JA,Nat.add_assoc]; exact h1 _ (by omega))
     rw [this]
    ·refine .agg _ _ (by simp [part]; omega) (fun i v d hv hd=>?_) (fun v hv=>?_)
     ·simp only [List.getElem?_map] at hv
      have hi:i < n:=by
       rcases Nat.lt_or_ge i n with h | h
       ·exact h
       ·simp [List.getElem?_eq_none (l:=List.range n) (by simpa using h)] at hv
      simp [List.getElem?_range hi] at hv
      subst hv
      refine h3 _ _ ?_
      simpa [part,List.getElem?_take,List.getElem?_drop,hi] using hd
     ·simp only [List.mem_map,List.mem_range] at hv
      obtain ⟨i,hi,rfl⟩:=hv
      exact one _ (by omega)
  ·rename_i b o
   split at hc <;> (try (simp at hc; done))
   rename_i cs hcs
   simp only [Zuu,Zuz] at hc
   obtain ⟨rfl,rfl⟩:=hc
   cases h
   obtain ⟨vs,h1,h2⟩:=Zg9 (P:=P) (ZfV hS hcs) hs
   exact ⟨_,rfl,vs,h1,h2⟩
 | loc l o =>
  obtain ⟨⟨cs,hcs⟩,rfl⟩:=h
  simp only [JE,hcs,Zuu,Zuz] at hc
  obtain ⟨rfl,rfl⟩:=hc
  obtain ⟨vs,h1,h2⟩:=Zg9 (P:=P) (hL l cs hcs) hs
  exact ⟨_,rfl,vs,h1,h2⟩
 | when c e=>simp [JE] at hc
end Go.DL
namespace Go.DL
open Go
theorem Zab {n:Nat} (h:n≤big):inR .i64 (n:Int):=by
 unfold big at h; unfold inR IntKind.min IntKind.max; simp [IntKind.signed,IntKind.bits]; omega
theorem Zmz (b:UInt8):inR .u8 (b.toNat:Int):=by
 unfold inR IntKind.min IntKind.max; simp [IntKind.signed,IntKind.bits]; have:=b.toNat_lt; omega
theorem Zrc {P:Program} {g:G} {w:World} {op:BinOp} {k:IntKind} {a b:Int} {side:Prop} {d:D} (hq:ZaR op k a b=some (side,d)) (hs:side) :
  ∃ v,(match op with
   | .add | .sub | .mul=>Op.intArith op k a b
   | .quo | .rem=>Op.intDiv op k a b
   | .and | .or | .xor | .andNot=>Op.intBits op k a b
   | _=>Op.intCmp op a b).run P w = .ok v w∧Rep g w v d:=by
 cases op <;> simp only [ZaR,Zuu,Zuz,reduceCtorEq] at hq
 all_goals obtain ⟨rfl,rfl⟩:=hq
 case add=>exact ⟨_,by simp only [Op.intArith,Sem.run_pure]; rfl,by rw [Zdv _ _ hs]; exact .int _ _ hs⟩
 case sub=>exact ⟨_,by simp only [Op.intArith,Sem.run_pure]; rfl,by rw [Zdv _ _ hs]; exact .int _ _ hs⟩
 case mul=>exact ⟨_,by simp only [Op.intArith,Sem.run_pure]; rfl,by rw [Zdv _ _ hs]; exact .int _ _ hs⟩
 case quo=>exact ⟨_,by simp only [Op.intDiv,hs.1,if_false,Sem.run_pure]; rfl,by rw [Zdv _ _ hs.2]; exact .int _ _ hs.2⟩
 case rem=>exact ⟨_,by simp only [Op.intDiv,hs.1,if_false,Sem.run_pure],.int _ _ hs.2⟩
 case eql=>exact ⟨_,by simp only [Op.intCmp,Sem.run_pure]; rfl,.bool _⟩
 case neq=>exact ⟨_,by simp only [Op.intCmp,Sem.run_pure]; rfl,.bool _⟩
 case lss=>exact ⟨_,by simp only [Op.intCmp,Sem.run_pure],.bool _⟩
 case leq=>exact ⟨_,by simp only [Op.intCmp,Sem.run_pure],.bool _⟩
 case gtr=>exact ⟨_,by simp only [Op.intCmp,Sem.run_pure],.bool _⟩
 case geq=>exact ⟨_,by simp only [Op.intCmp,Sem.run_pure],.bool _⟩
 all_goals exact ⟨_,by simp only [Op.intBits,Sem.run_pure]; rfl,.int _ _ (ZkT _ _)⟩
theorem Zds {s:ByteArray} {l:List UInt8} (h:s.data.toList=l):s.toList=l:=by rw [ByteArray.toList_eq,h]
theorem Zrd {P:Program} {g:G} {w:World} {op:BinOp} {s1 s2:ByteArray} {a b:List UInt8} (h1:s1.data.toList=a) (h2:s2.data.toList=b)
  {side:Prop} {d:D} (hq:Zer op a b=some (side,d)) (hs:side) :
  ∃ v,(Op.stringOp op s1 s2).run P w = .ok v w∧Rep g w v d:=by
 have e1:=Zds h1
 have e2:=Zds h2
 cases op <;> simp only [Zer,Zuu,Zuz,reduceCtorEq] at hq
 all_goals obtain ⟨rfl,rfl⟩:=hq
 case add =>
  have hz1:s1.size=a.length:=by rw [← h1]; rfl
  have hz2:s2.size=b.length:=by rw [← h2]; rfl
  refine ⟨.string (s1++s2),?_,.str _ _ ?_ (by simpa using hs)⟩
  ·unfold big at hs
   simp only [Op.stringOp,hz1,hz2,Sem.run_ite]
   rw [if_neg (by simp [IntKind.max,IntKind.signed,IntKind.bits]; omega)]; rfl
  ·simp [← h1,← h2]
 all_goals simp only [Op.stringOp,Sem.run_pure,e1,e2]
 all_goals have hb:(a == b)=decide (a=b):=by rw [Bool.eq_iff_iff]; simp
 all_goals try simp only [hb]
 all_goals exact ⟨_,rfl,.bool _⟩
theorem Zfi {P:Program} {g:G} {w:World} {t:TypeId} {sk:SK} (ht:Zaf P t=some sk) {v1 v2:Value} {x y:D} (h1:Rep g w v1 x) (h2:Rep g w v2 y) {b:Bool}
  (hq:KV sk x y=some b) (n:Nat):(Op.equalIn (n + 1) t v1 v2).run P w = .ok b w:=by
 unfold Zaf at ht
 cases sk
 ·obtain ⟨k0,hk0⟩:∃ k0,P.underlying t=some (.int k0):=by split at ht <;> simp_all
  cases h1 <;> cases h2 <;> simp only [KV,reduceCtorEq] at hq
  split at hq
  ·rename_i k a ha k' b' hb' hk
   simp only [Zuu] at hq
   subst hq; subst hk
   rw [run_equalIn_int w n t _ _ _ _ hk0]; rfl
  ·simp at hq
 ·have hk0:P.underlying t=some .string:=by split at ht <;> simp_all
  cases h1 <;> cases h2 <;> simp only [KV,reduceCtorEq,Zuu] at hq
  rename_i s1 l1 e1 _ s2 l2 e2 _
  subst hq
  rw [run_equalIn_string w n t _ _ hk0,Zds e1,Zds e2]
  congr 1; rw [Bool.eq_iff_iff]; simp
 ·have hk0:P.underlying t=some .bool:=by split at ht <;> simp_all
  cases h1 <;> cases h2 <;> simp only [KV,reduceCtorEq,Zuu] at hq
  subst hq
  rw [run_equalIn_bool' w n t _ _ hk0]; rfl
theorem Zca {P:Program} {t:TypeId} {k:SK} (h:Zaf P t=some k):ZbC P t=some false:=by
 unfold Zaf at h; unfold ZbC
 split at h <;> simp_all
theorem ZeD {P:Program} {w:World} {t:TypeId} (h:ZbC P t=some false) {cs:Array Value} {o:Nat} {v:Value} (hv:cs[o]? = some v) :
  (Go.part t cs o).run P w = .ok v w:=by
 simp [Go.part,Zea h,hv]
theorem Zdm {g:G} {w:World} {vs:List Value} {ds:List D} (hn:vs.length=ds.length) (h:∀ (i:Nat) (v:Value) (d:D),vs[i]? = some v→ds[i]? = some d→Rep g w v d)
  {o:Nat} {d:D} (hd:ds[o]? = some d):∃ v,vs[o]? = some v∧Rep g w v d:=by
 have hlt:o < ds.length:=(List.getElem?_eq_some_iff.1 hd).1
 exact ⟨vs[o]'(by omega),List.getElem?_eq_getElem _,h o _ d (List.getElem?_eq_getElem _) hd⟩
theorem Zdz {P:Program} {g:G} {w:World} {v1 v2:List Value} {xs ys:List D} (hn1:v1.length=xs.length) (hn2:v2.length=ys.length)
  (h1:∀ (i:Nat) (v:Value) (d:D),v1[i]? = some v→xs[i]? = some d→Rep g w v d) (h2:∀ (i:Nat) (v:Value) (d:D),v2[i]? = some v→ys[i]? = some d→Rep g w v d) (n:Nat) :
  ∀ (fs:List Field) (l:List (Nat × SK)) (b:Bool),JK P fs=some l→QV xs ys l=some b →
   (Op.eqFields (n + 1) v1.toArray v2.toArray fs).run P w = .ok b w
 | [],l,b,hl,hb=>by
  simp only [JK,Zuu] at hl
  subst hl
  simp only [QV,Zuu] at hb
  subst hb
  simp [Op.eqFields]
 | f :: fs,l,b,hl,hb=>by
  simp only [JK] at hl
  by_cases hf:f.name = "_"
  ·simp only [hf,if_true] at hl
   have:=Zdz hn1 hn2 h1 h2 n fs l b hl hb
   simp only [Op.eqFields,hf,ne_eq,not_true_eq_false,if_false]
   exact this
  ·simp only [hf,if_false] at hl
   split at hl
   ·rename_i k l' hk hl'
    simp only [Zuu] at hl
    subst hl
    simp only [QV] at hb
    split at hb
    ·rename_i x y hx hy
     split at hb
     ·rename_i b1 b2 hb1 hb2
      simp only [Zuu] at hb
      obtain ⟨u1,hu1,r1⟩:=Zdm hn1 h1 hx
      obtain ⟨u2,hu2,r2⟩:=Zdm hn2 h2 hy
      have ih:=Zdz hn1 hn2 h1 h2 n fs l' b2 hl' hb2
      have he:=Zfi (P:=P) hk r1 r2 hb1 n
      simp only [Op.eqFields,ne_eq,hf,not_false_eq_true,if_true,Sem.run_bind]
      rw [ZeD (Zca hk) (v:=u1) (by simpa using hu1)]
      simp only [Result.andThen_ok]
      rw [ZeD (Zca hk) (v:=u2) (by simpa using hu2)]
      simp only [Result.andThen_ok,he]
      subst hb
      cases b1
      ·simp
      ·simpa using ih
     ·simp at hb
    ·simp at hb
   ·simp at hl
end Go.DL
namespace Go.DL
open Go
theorem ZjD {P:Program} {g:G} {w:World} {v1 v2:List Value} {xs ys:List D} (hn1:v1.length=xs.length) (hn2:v2.length=ys.length)
  (h1:∀ (i:Nat) (v:Value) (d:D),v1[i]? = some v→xs[i]? = some d→Rep g w v d) (h2:∀ (i:Nat) (v:Value) (d:D),v2[i]? = some v→ys[i]? = some d→Rep g w v d) (n:Nat)
  {e:TypeId} {k:SK} (hk:Zaf P e=some k) :
  ∀ (is:List Nat) (b:Bool),QV xs ys (is.map (·,k))=some b→(Op.eqItems (n + 1) e 1 v1.toArray v2.toArray is).run P w = .ok b w
 | [],b,hb=>by
  simp only [List.map_nil,QV,Zuu] at hb
  subst hb; simp [Op.eqItems]
 | i :: is,b,hb=>by
  simp only [List.map_cons,QV] at hb
  split at hb
  ·rename_i x y hx hy
   split at hb
   ·rename_i b1 b2 hb1 hb2
    simp only [Zuu] at hb
    obtain ⟨u1,hu1,r1⟩:=Zdm hn1 h1 hx
    obtain ⟨u2,hu2,r2⟩:=Zdm hn2 h2 hy
    have ih:=ZjD hn1 hn2 h1 h2 n hk is b2 hb2
    have he:=Zfi (P:=P) hk r1 r2 hb1 n
    simp only [Op.eqItems,Nat.mul_one,Sem.run_bind]
    rw [ZeD (Zca hk) (v:=u1) (by simpa using hu1)]
    simp only [Result.andThen_ok]
    rw [ZeD (Zca hk) (v:=u2) (by simpa using hu2)]
    simp only [Result.andThen_ok,he]
    subst hb
    cases b1
    ·simp
    ·simpa using ih
   ·simp at hb
  ·simp at hb
theorem Zcl {P:Program} {w:World} {t:TypeId} {v1 v2:Value} {b:Bool} (h:∀ n,(Op.equalIn (n + 1) t v1 v2).run P w = .ok b w):(Op.equal t v1 v2).run P w = .ok b w:=h 9999
theorem Zlk {P:Program} {g:G} {w:World} {t:TypeId} {x y:Operand} {p:Zkr} (hp:ZeE P t x y=some p) {v1 v2:Value} {d1 d2:D} (h1:Rep g w v1 d1) (h2:Rep g w v2 d2)
  {side:Prop} {b:Bool} (hq:Qb p d1 d2=some (side,b)) (hs:side) :
  (Op.equal t v1 v2).run P w = .ok b w∧(eqGuard .eql t x y v1 v2).run P w = .ok () w∧(eqGuard .neq t x y v1 v2).run P w = .ok () w:=by
 unfold ZeE at hp
 split at hp <;> (try (simp at hp; done))
 ·
  rename_i hu
  simp only [Zuu] at hp; subst hp
  cases h1 <;> cases h2 <;> simp only [Qb,reduceCtorEq,Zuu,Zuz] at hq
  obtain ⟨rfl,rfl⟩:=hq
  exact ⟨Zcl fun n=>by rw [run_equalIn_bool w _ t _ _ hu]; rfl,rfl,rfl⟩
 ·rename_i e hu
  simp only [Zuu] at hp; subst hp
  cases h1 <;> cases h2 <;> simp only [Qb,reduceCtorEq,Zuu,Zuz] at hq
  all_goals obtain ⟨rfl,rfl⟩:=hq
  all_goals first
   | exact absurd hs (by omega)
   | exact ⟨Zcl fun n=>by simp [Op.equalIn,run_underlying hu],rfl,rfl⟩
 ·rename_i k e hu
  simp only [Zuu] at hp; subst hp
  cases h1 <;> cases h2 <;> simp only [Qb,reduceCtorEq,Zuu,Zuz] at hq
  all_goals obtain ⟨rfl,rfl⟩:=hq
  all_goals exact ⟨Zcl fun n=>by simp [Op.equalIn,run_underlying hu],rfl,rfl⟩
 ·rename_i a b c hu
  simp only [Zuu] at hp; subst hp
  cases h1 <;> cases h2 <;> simp only [Qb,reduceCtorEq,Zuu,Zuz] at hq
  all_goals obtain ⟨rfl,rfl⟩:=hq
  all_goals exact ⟨Zcl fun n=>by simp [Op.equalIn,run_underlying hu],rfl,rfl⟩
 ·rename_i ms hu
  split at hp
  ·rename_i hc
   simp only [Zuu] at hp; subst hp
   have hc':Zem x=true∨Zem y=true:=by simpa using hc
   have hg:∀ op,(eqGuard op t x y .nilIface .nilIface).run P w = .ok () w:=fun op=>by
    rcases hc' with h | h
    ·cases x <;> simp [Zem] at h
     cases op <;> simp [eqGuard]
    ·cases y <;> simp [Zem] at h
     cases op <;> simp [eqGuard]
   cases h1 <;> cases h2 <;> simp only [Qb,reduceCtorEq,Zuu,Zuz] at hq
   all_goals obtain ⟨rfl,rfl⟩:=hq
   all_goals first
    | exact ⟨Zcl fun n=>by simp [Op.equalIn,run_underlying hu],rfl,rfl⟩
    | exact ⟨Zcl fun n=>by simp [Op.equalIn,run_underlying hu],hg _,hg _⟩
  ·simp at hp
 ·rename_i e hu
  simp only [Zuu] at hp; subst hp
  cases h1 <;> cases h2 <;> simp only [Qb,reduceCtorEq,Zuu,Zuz] at hq
  all_goals obtain ⟨rfl,rfl⟩:=hq
  all_goals exact ⟨Zcl fun n=>by simp [Op.equalIn,run_underlying hu],rfl,rfl⟩
 ·rename_i fs hu
  split at hp
  ·simp at hp
  ·rename_i hgs
   have hg1:P.eqGuardType P.depth t=false:=by simp at hgs; exact hgs.1
   have hg2:P.stoodInHeld t=false:=by simp at hgs; exact hgs.2
   simp only [ZuC] at hp
   obtain ⟨l,hl,rfl⟩:=hp
   cases h1 <;> cases h2 <;> simp only [Qb,reduceCtorEq,ZuC] at hq
   rename_i v1 xs hn1 r1 o1 v2 ys hn2 r2 o2
   obtain ⟨b',hb,hq⟩:=hq
   simp only [Zuz] at hq
   obtain ⟨rfl,rfl⟩:=hq
   have hf:P.underlying t=some (.struct (P.fieldsOf t)):=by simp [Program.fieldsOf,hu]
   refine ⟨?_,run_eqGuard_agg w _ t x y _ _ hg1,run_eqGuard_agg w _ t x y _ _ hg1⟩
   refine (run_equalIn_struct w 9999 t _ _ hf hg2).trans ?_
   simp only [Program.fieldsOf,hu]
   exact Zdz hn1 hn2 r1 r2 9998 _ l b' hl hb
 ·rename_i n e hu
  split at hp
  ·simp at hp
  ·rename_i hg1
   split at hp
   ·rename_i k hk hsz
    simp only [Zuu] at hp; subst hp
    cases h1 <;> cases h2 <;> simp only [Qb,reduceCtorEq,ZuC] at hq
    rename_i v1 xs hn1 r1 o1 v2 ys hn2 r2 o2
    obtain ⟨b',hb,hq⟩:=hq
    simp only [Zuz] at hq
    obtain ⟨rfl,rfl⟩:=hq
    have hg1':P.eqGuardType P.depth t=false:=by simpa using hg1
    refine ⟨?_,run_eqGuard_agg w _ t x y _ _ hg1',run_eqGuard_agg w _ t x y _ _ hg1'⟩
    unfold WW at hsz
    cases hi:P.info? e with
    | none=>simp [hi] at hsz
    | some i =>
     simp only [hi,Option.map_some,Zuu] at hsz
     refine (run_equalIn_array w 9999 _ _ hu hi).trans ?_
     have hce:P.cellsOf e=1:=by simp [Program.cellsOf,hi,hsz]
     rw [hce]
     exact ZjD hn1 hn2 r1 r2 9998 hk _ _ hb
   ·simp at hp
theorem Zrb {P:Program} {g:G} {w:World} {op:BinOp} {t:TypeId} {x y:Operand} {v1 v2:Value} {d1 d2 d:D} (h1:Rep g w v1 d1) (h2:Rep g w v2 d2)
  {side:Prop} (hq:ZcI op (ZeE P t x y) d1 d2=some (side,d)) (hs:side) :
  ∃ v,(do eqGuard op t x y v1 v2; binOp op t v1 v2).run P w = .ok v w∧Rep g w v d:=by
 by_cases hi:∃ k a,d1 = .int k a
 ·obtain ⟨k,a,rfl⟩:=hi
  cases h1
  rename_i ha
  have hg:(eqGuard op t x y (.int k a) v2).run P w = .ok () w:=by cases op <;> rfl
  by_cases hi2:∃ k' b,d2 = .int k' b
  ·obtain ⟨k',b,rfl⟩:=hi2
   cases h2
   rename_i hb
   simp only [Sem.run_bind,hg,Result.andThen_ok]
   by_cases hop:op = .shl∨op = .shr
   ·rcases hop with rfl | rfl
    ·simp only [ZcI,Zuu,Zuz] at hq
     obtain ⟨rfl,rfl⟩:=hq
     refine ⟨.int k (Zi8 k a b),?_,.int _ _ hs.2⟩
     simp only [binOp,Op.shift,Int.not_lt.2 hs.1,if_false]
     rw [show k.wrap (a * 2 ^ min b.toNat k.bits)=Zi8 k a b from Zdv _ _ hs.2]; rfl
    ·simp only [ZcI,Zuu,Zuz] at hq
     obtain ⟨rfl,rfl⟩:=hq
     refine ⟨.int k (ZmZ k a b),?_,.int _ _ hs.2⟩
     simp only [binOp,Op.shift,Int.not_lt.2 hs.1,if_false]
     rfl
   ·have hq':(if k=k' then ZaR op k a b else none)=some (side,d):=by
     cases op <;> first | (simp only [ZcI] at hq; exact hq) | simp at hop
    split at hq'
    ·rename_i hk
     subst hk
     obtain ⟨v,hv,r⟩:=Zrc (P:=P) (g:=g) (w:=w) hq' hs
     refine ⟨v,?_,r⟩
     rw [← hv]
     cases op <;> first | (simp at hop; done) | (simp [binOp])
    ·simp at hq'
  ·have hq':eqO op (ZeE P t x y) (.int k a) d2=some (side,d):=by
    cases d2 <;> first | (simp only [ZcI] at hq; exact hq) | (exact absurd ⟨_,_,rfl⟩ hi2)
   unfold eqO at hq'
   split at hq' <;> simp [Qb] at hq'
 ·by_cases hst:∃ a,d1 = .str a
  ·obtain ⟨a,rfl⟩:=hst
   cases h1
   rename_i s1 e1 b1
   have hg:(eqGuard op t x y (.string s1) v2).run P w = .ok () w:=by cases op <;> rfl
   by_cases hst2:∃ b,d2 = .str b
   ·obtain ⟨b,rfl⟩:=hst2
    cases h2
    rename_i s2 e2 b2
    simp only [Sem.run_bind,hg,Result.andThen_ok]
    obtain ⟨v,hv,r⟩:=Zrd (P:=P) (g:=g) (w:=w) (op:=op) e1 e2 (by simpa [ZcI] using hq) hs
    refine ⟨v,?_,r⟩
    rw [← hv]
    cases op <;> simp [binOp]
   ·have hq':eqO op (ZeE P t x y) (.str a) d2=some (side,d):=by
     cases d2 <;> first | (simp only [ZcI] at hq; exact hq) | (exact absurd ⟨_,rfl⟩ hst2)
    unfold eqO at hq'
    split at hq' <;> simp [Qb] at hq'
  ·have hq':eqO op (ZeE P t x y) d1 d2=some (side,d):=by
    cases d1 <;> first | (simp only [ZcI] at hq; exact hq) | (exact absurd ⟨_,_,rfl⟩ hi) | (exact absurd ⟨_,rfl⟩ hst)
   unfold eqO at hq'
   split at hq'
   ·rename_i p hp
    simp only [ZuC] at hq'
    obtain ⟨⟨s',b⟩,hb,hq'⟩:=hq'
    simp only [Zuz] at hq'
    obtain ⟨rfl,rfl⟩:=hq'
    obtain ⟨he,hg,_⟩:=Zlk hp h1 h2 hb hs
    refine ⟨.bool b,?_,.bool _⟩
    simp only [Sem.run_bind,hg,Result.andThen_ok]
    cases h1 <;> first
     | (exact absurd ⟨_,_,rfl⟩ hi)
     | (exact absurd ⟨_,rfl⟩ hst)
     | (cases h2 <;> first | (simp [binOp,he]; done) | (cases p <;> simp [Qb] at hb; done))
   ·rename_i p hp
    simp only [ZuC] at hq'
    obtain ⟨⟨s',b⟩,hb,hq'⟩:=hq'
    simp only [Zuz] at hq'
    obtain ⟨rfl,rfl⟩:=hq'
    obtain ⟨he,_,hg⟩:=Zlk hp h1 h2 hb hs
    refine ⟨.bool (!b),?_,.bool _⟩
    simp only [Sem.run_bind,hg,Result.andThen_ok]
    cases h1 <;> first
     | (exact absurd ⟨_,_,rfl⟩ hi)
     | (exact absurd ⟨_,rfl⟩ hst)
     | (cases h2 <;> first | (simp [binOp,he]; done) | (cases p <;> simp [Qb] at hb; done))
   ·simp at hq'
end Go.DL
namespace Go.DL
open Go
def Zp9 (P:Program) (g:G) (ν:Nat→Nat) (w:World) (L:Loc) (s:Sem Value) (e:E):Prop:=∃ v,s.run P w = .ok v w∧YQ g ν w L v e
theorem Zp9.next {P:Program} {g:G} {ν:Nat→Nat} {w:World} {L:Loc} {s:Sem Value} {e:E} (h:Zp9 P g ν w L s e) :
  ∃ v,(do pure (Next.value (← s)):Sem Next).run P w = .ok (.value v) w∧YQ g ν w L v e:=by
 obtain ⟨v,h1,h2⟩:=h
 exact ⟨v,by simp [h1],h2⟩
section
variable {P:Program} {g:G} {ν:Nat→Nat} {w:World} {L:Loc}
theorem Zar:∀ {vs:List Value} {es:List E} {ds:List D},Wh (YQ g ν w L) vs es→Q3 es=some ds→Wh (Rep g w) vs ds
 | _,_,ds,.nil,hd=>by simp only [Q3,Zuu] at hd; subst hd; exact .nil
 | _,_,ds,.cons (b:=e) h t,hd=>by
  cases e with
  | d x =>
   simp only [Q3,ZuC] at hd
   obtain ⟨ds',hd',rfl⟩:=hd
   exact .cons h (Zar t hd')
  | loc l o=>simp [Q3] at hd
  | when c e=>simp [Q3] at hd
theorem Wh.len {α β:Type} {R:α→β→Prop} {as9:List α} {bs:List β} (h:Wh R as9 bs):as9.length=bs.length:=by
 induction h with
 | nil=>rfl
 | cons _ _ ih=>simp [ih]
theorem Wh.get {α β:Type} {R:α→β→Prop} {as9:List α} {bs:List β} (h:Wh R as9 bs):∀ (i:Nat) (a:α) (b:β),as9[i]? = some a→bs[i]? = some b→R a b:=by
 induction h with
 | nil=>intro i a b ha; simp at ha
 | cons h _ ih =>
  intro i a b ha hb
  cases i with
  | zero=>simp at ha hb; subst ha; subst hb; exact h
  | succ i=>simp at ha hb; exact ih i a b ha hb
theorem Wh.take {α β:Type} {R:α→β→Prop} {as9:List α} {bs:List β} (h:Wh R as9 bs):∀ n,Wh R (as9.take n) (bs.take n):=by
 induction h with
 | nil=>intro n; simp; exact .nil
 | cons h _ ih=>intro n; cases n with
  | zero=>exact .nil
  | succ n=>exact .cons h (ih n)
theorem Wh.drop {α β:Type} {R:α→β→Prop} {as9:List α} {bs:List β} (h:Wh R as9 bs):∀ n,Wh R (as9.drop n) (bs.drop n):=by
 induction h with
 | nil=>intro n; simp; exact .nil
 | cons h t ih=>intro n; cases n with
  | zero=>exact .cons h t
  | succ n=>exact ih n
theorem Wh.append {α β:Type} {R:α→β→Prop} {as9 as':List α} {bs bs':List β} (h:Wh R as9 bs) (h':Wh R as' bs'):Wh R (as9++as') (bs++bs'):=by
 induction h with
 | nil=>exact h'
 | cons h _ ih=>exact .cons h ih
theorem Ze2 {v:Value} {d:D} (h:Rep g w v d) (ho:ZaM d=true):v.cells.size=(cellsOf d).length∧(∀ (i:Nat) (x:Value) (y:D),v.cells.toList[i]? = some x→(cellsOf d)[i]? = some y→Rep g w x y):=by
 cases h with
 | agg vs cells hn h one=>exact ⟨by simpa [Value.cells,cellsOf] using hn,by simpa [Value.cells,cellsOf] using h⟩
 | any v=>simp [ZaM] at ho
 | _ =>
  refine ⟨by simp [Value.cells,cellsOf,Go.undef],fun i x y hx hy=>?_⟩
  simp only [Value.cells,cellsOf,Go.undef] at hx hy
  cases i with
  | zero =>
   simp at hx hy
   subst hx; subst hy
   first | assumption | constructor <;> assumption | constructor
  | succ i=>simp at hx
end
end Go.DL
namespace Go.DL
open Go
section
variable {P:Program} {g:G} {ν:Nat→Nat} {w:World} {L:Loc}
theorem ZhX {v:Value} {d:D} (h:Rep g w v d) (ho:ZaM d=true):∀ x∈v.cells,x.one1=true:=by
 cases h with
 | agg vs cells hn h one=>simpa [Value.cells] using one
 | _=>first
  | (simp [ZaM] at ho; done)
  | (intro x hx; simp [Value.cells] at hx; subst hx; rfl)
theorem Zk9:∀ (l:List Value) (k off:Nat) (cs:Array Value),off + k + l.length≤cs.size →
  ((l.zipIdx k).foldl (fun (cs:Array Value) (x:Value × Nat)=>cs.setIfInBounds (off + x.2) x.1) cs).toList=cs.toList.take (off + k)++l++cs.toList.drop (off + k + l.length)
 | [],k,off,cs,h=>by simp
 | v :: l,k,off,cs,h=>by
  simp only [ZuI] at h
  simp only [List.zipIdx_cons,List.foldl_cons]
  rw [Zk9 l (k + 1) off _ (by simp; omega)]
  simp only [Array.toList_setIfInBounds,ZuI]
  apply List.ext_getElem?
  intro i
  simp only [List.getElem?_append,List.getElem?_take,List.getElem?_drop,List.getElem?_set,ZuF,List.length_take,List.length_set,Array.length_toList,ZuI]
  by_cases h1:i < off + k
  ·simp only [show i < min (off + (k + 1)) cs.size + l.length from by omega,show i < min (off + (k + 1)) cs.size from by omega,show i < min (off + k) cs.size + (l.length + 1) from by omega,
    show i < min (off + k) cs.size from by omega,if_true,show i < off + (k + 1) from by omega,h1,show ¬ off + k=i from by omega,if_false]
  ·by_cases h2:i=off + k
   ·subst h2
    simp only [show off + k < min (off + (k + 1)) cs.size + l.length from by omega,show off + k < min (off + (k + 1)) cs.size from by omega,show off + k < min (off + k) cs.size + (l.length + 1) from by omega,
     show ¬ off + k < min (off + k) cs.size from by omega,if_true,if_false,show off + k < off + (k + 1) from by omega,show off + k < cs.size from by omega]
    rw [show off + k - min (off + k) cs.size=0 from by omega]; rfl
   ·by_cases h3:i < off + k + (l.length + 1)
    ·simp only [show i < min (off + (k + 1)) cs.size + l.length from by omega,show ¬ i < min (off + (k + 1)) cs.size from by omega,show i < min (off + k) cs.size + (l.length + 1) from by omega,
      show ¬ i < min (off + k) cs.size from by omega,if_true,if_false]
     rw [show i - min (off + k) cs.size=(i - min (off + (k + 1)) cs.size) + 1 from by omega]; rfl
    ·simp only [show ¬ i < min (off + (k + 1)) cs.size + l.length from by omega,show ¬ i < min (off + k) cs.size + (l.length + 1) from by omega,if_false]
     rw [show off + (k + 1) + l.length + (i - (min (off + (k + 1)) cs.size + l.length))=i from by omega,show off + k + (l.length + 1) + (i - (min (off + k) cs.size + (l.length + 1)))=i from by omega]
     simp [show ¬ off + k=i from by omega]
theorem K5 {α β:Type} {R:α→β→Prop}:∀ {as9:List α} {bs:List β},as9.length=bs.length→(∀ (i:Nat) (a:α) (b:β),as9[i]? = some a→bs[i]? = some b→R a b)→Wh R as9 bs
 | [],[],_,_=>.nil
 | a :: as9,b :: bs,hn,h=>.cons (h 0 a b rfl rfl) (K5 (by simpa using hn) (fun i x y hx hy=>h (i + 1) x y (by simpa using hx) (by simpa using hy)))
 | [],_ :: _,hn,_=>by simp at hn
 | _ :: _,[],hn,_=>by simp at hn
theorem Zfz (place:Nat→Option (Nat × Nat)):∀ (parts:List (Nat × Value)) (pl:List (Nat × Nat)) (ds cs cells:List D) (cv:Array Value),
  (∀ (i:Nat) (x:Nat × Value) (q:Nat × Nat),parts[i]? = some x→pl[i]? = some q→place x.1=some q)→parts.length=pl.length→Wh (Rep g w) (parts.map (·.2)) ds →
  Wh (Rep g w) cv.toList cells→(∀ v∈cv,v.one1=true)→ZcP cells pl ds=some cs →
  ∃ cv',Instr.fill place cv parts=some cv'∧Wh (Rep g w) cv'.toList cs∧∀ v∈cv',v.one1=true
 | [],[],ds,cs,cells,cv,_,_,hd,hc,ho,hf=>by
  cases hd
  simp only [ZcP,Zuu] at hf
  subst hf
  exact ⟨cv,rfl,hc,ho⟩
 | x :: parts,q :: pl,ds,cs,cells,cv,hpl,hn,hd,hc,ho,hf=>by
  obtain ⟨i,v⟩:=x
  obtain ⟨o,n⟩:=q
  cases hd with
  | cons hv hd =>
   rename_i d ds
   simp only [ZcP] at hf
   split at hf
   ·rename_i hcond
    obtain ⟨h0,h1,h2⟩:=hcond
    have hp:=hpl 0 _ _ rfl rfl
    obtain ⟨hsz,hcell⟩:=Ze2 hv h0
    have hlen:=hc.len
    have hfold:=Zk9 v.cells.toList 0 o cv (by simp [hsz,h1]; simp at hlen; omega)
    simp only [Nat.add_zero,Array.length_toList,hsz,h1] at hfold
    have ha:Wh (Rep g w) (v.cells.toList) (cellsOf d):=K5 (by simpa using hsz) hcell
    generalize hcv2:(v.cells.toList.zipIdx 0).foldl (fun (cs:Array Value) (x:Value × Nat)=>cs.setIfInBounds (o + x.2) x.1) cv=cv2 at hfold
    have hrep:Wh (Rep g w) cv2.toList (KR cells o (cellsOf d)):=by
     rw [hfold]; unfold KR; rw [h1]
     exact ((hc.take o).append ha).append (hc.drop (o + n))
    have hone:∀ x∈cv2,x.one1=true:=fun x hx=>by
     have hx':x∈cv2.toList:=Array.mem_toList_iff.2 hx
     rw [hfold] at hx'
     simp only [List.mem_append] at hx'
     rcases hx' with (hx' | hx') | hx'
     ·exact ho x (Array.mem_toList_iff.1 (List.mem_of_mem_take hx'))
     ·exact ZhX hv h0 x (Array.mem_toList_iff.1 hx')
     ·exact ho x (Array.mem_toList_iff.1 (List.mem_of_mem_drop hx'))
    obtain ⟨cv',hf',r1,r2⟩:=Zfz place parts pl ds cs _ cv2 (fun i x q hx hq=>hpl (i + 1) x q (by simpa using hx) (by simpa using hq)) (by simpa using hn) hd hrep hone hf
    refine ⟨cv',?_,r1,r2⟩
    simp only [Instr.fill,hp,hsz,h1]
    have:¬ (n≠n || decide (o + n > cv.size))=true:=by simp at hlen; simp; omega
    rw [if_neg (by simpa using this)]
    rw [← hf',← hcv2]
    congr 1
    rw [← Array.foldl_toList,Array.toList_zipIdx]
   ·simp at hf
 | [],_ :: _,_,_,_,_,_,hn,_,_,_,_=>by simp at hn
 | _ :: _,[],_,_,_,_,_,hn,_,_,_,_=>by simp at hn
end
end Go.DL
namespace Go.DL
open Go
section
variable {P:Program} {g:G} {ν:Nat→Nat} {w:World} {L:Loc}
theorem ZdO:∀ {vs:List Value} {ds:List D},Zb4 vs=some ds→Wh (Rep g w) vs ds∧∀ v∈vs,v.one1=true
 | [],ds,h=>by simp only [Zb4,Zuu] at h; subst h; exact ⟨.nil,fun v hv=>by simp at hv⟩
 | v :: vs,ds,h=>by
  simp only [Zb4] at h
  split at h
  ·rename_i d ds' h1 h2
   simp only [Zuu] at h
   subst h
   obtain ⟨r1,r2⟩:=ZdO h2
   have h0:Rep g w v d∧v.one1=true:=by
    unfold Zjz at h1
    split at h1 <;> (try (simp at h1; done))
    ·split at h1
     ·rename_i hk; simp only [Zuu] at h1; subst h1; exact ⟨.int _ _ hk,rfl⟩
     ·simp at h1
    ·simp only [Zuu] at h1; subst h1; exact ⟨.bool _,rfl⟩
    ·split at h1
     ·rename_i hk; simp only [Zuu] at h1; subst h1; exact ⟨.str _ _ rfl hk,rfl⟩
     ·simp at h1
    ·simp only [Zuu] at h1; subst h1; exact ⟨.nilptr,rfl⟩
    ·simp only [Zuu] at h1; subst h1; exact ⟨.nilsl,rfl⟩
    ·simp only [Zuu] at h1; subst h1; exact ⟨.nilmap,rfl⟩
    ·simp only [Zuu] at h1; subst h1; exact ⟨.nilfn,rfl⟩
    ·simp only [Zuu] at h1; subst h1; exact ⟨.niliface,rfl⟩
   exact ⟨.cons h0.1 r1,fun x hx=>by
    rcases List.mem_cons.1 hx with rfl | hx
    ·exact h0.2
    ·exact r2 x hx⟩
  ·simp at h
theorem Zpn {v:Value} {d:D} (h:Zjz v=some d):Rep g w v d∧v.one1=true:=by
 have:=ZdO (g:=g) (w:=w) (vs:=[v]) (ds:=[d]) (by simp [Zb4,h])
 obtain ⟨h1,h2⟩:=this
 cases h1 with
 | cons h _=>exact ⟨h,h2 v (by simp)⟩
theorem ZhV {vs:Array Value} {ds:List D} (h:Wh (Rep g w) vs.toList ds) (ho:∀ v∈vs,v.one1=true):Rep g w (.agg vs) (.agg ds):=by
 have:=Rep.agg (g:=g) (w:=w) vs.toList ds h.len h.get (fun v hv=>ho v (Array.mem_toList_iff.1 hv))
 simpa using this
theorem ZgT {v:Value} {d:D} (h:ZjA v=some d):Rep g w v d:=by
 unfold ZjA at h
 split at h
 ·rename_i cs
  simp only [ZuC] at h
  obtain ⟨ds,hd,rfl⟩:=h
  obtain ⟨h1,h2⟩:=ZdO (g:=g) (w:=w) hd
  exact ZhV h1 (fun v hv=>h2 v (Array.mem_toList_iff.2 hv))
 ·exact (Zpn h).1
theorem Zlj {t:TypeId} {fs:Array Field} (hu:P.underlying t=some (.struct fs)):∀ (is:List Nat) (pl:List (Nat × Nat)),JV P t is=some pl →
  pl.length=is.length∧∀ (i k:Nat) (q:Nat × Nat),is[i]? = some k→pl[i]? = some q→∃ f,fs[k]? = some f∧WW P f.type=some q.2∧f.offset=q.1
 | [],pl,h=>by simp only [JV,Zuu] at h; subst h; simp
 | k :: is,pl,h=>by
  cases hl:JV P t is with
  | none=>simp [JV,hu,hl] at h
  | some l =>
   simp only [JV,hu,hl] at h
   split at h
   ·rename_i f hf
    simp only [ZuC] at h
    obtain ⟨n,hn,rfl⟩:=h
    obtain ⟨h1,h2⟩:=Zlj hu is l hl
    refine ⟨by simp [h1],fun i k' q hi hq=>?_⟩
    cases i with
    | zero=>simp at hi hq; subst hi; subst hq; exact ⟨f,hf,hn,rfl⟩
    | succ i=>exact h2 i k' q (by simpa using hi) (by simpa using hq)
   ·simp at h
theorem Zka {t e:TypeId} {m:Nat} (hu:P.underlying t=some (.array m e)):∀ (is:List Nat) (pl:List (Nat × Nat)),JV P t is=some pl →
  pl.length=is.length∧∀ (i k:Nat) (q:Nat × Nat),is[i]? = some k→pl[i]? = some q→∃ n,WW P e=some n∧q=(k * n,n)
 | [],pl,h=>by simp only [JV,Zuu] at h; subst h; simp
 | k :: is,pl,h=>by
  cases hl:JV P t is with
  | none=>simp [JV,hu,hl] at h
  | some l =>
   simp only [JV,hu,hl,ZuC] at h
   obtain ⟨n,hn,rfl⟩:=h
   obtain ⟨h1,h2⟩:=Zka hu is l hl
   refine ⟨by simp [h1],fun i k' q hi hq=>?_⟩
   cases i with
   | zero=>simp at hi hq; subst hi; subst hq; exact ⟨n,hn,rfl⟩
   | succ i=>exact h2 i k' q (by simpa using hi) (by simpa using hq)
theorem ZiB:∀ (fs:List Field),(fs.all fun f=>(WW P f.type).isSome)=true →
  ∃ pl,fs.mapM (fun f=>(P.info? f.type).map fun i=>(f.offset,i.size))=some pl∧∀ (k:Nat) (f:Field) (n:Nat),fs[k]? = some f→WW P f.type=some n→pl[k]? = some (f.offset,n)
 | [],_=>⟨[],by simp,by simp⟩
 | f :: fs,h=>by
  simp only [List.all_cons,ZuA] at h
  obtain ⟨pl,h1,h2⟩:=ZiB fs h.2
  unfold WW at h
  cases hi:P.info? f.type with
  | none=>simp [hi] at h
  | some i =>
   refine ⟨(f.offset,i.size) :: pl,by simp [List.mapM_cons,hi,h1],fun k f' n hk hn=>?_⟩
   cases k with
   | zero =>
    simp at hk; subst hk
    simp only [WW,hi,Option.map_some,Zuu] at hn
    subst hn; rfl
   | succ k=>simpa using h2 k f' n (by simpa using hk) hn
theorem Zqg {t:TypeId} {parts:List (Nat × Value)} {z:Value} {pl:List (Nat × Nat)} {zs ds cs:List D} (hz:(P.info? t).bind (·.zero)=some z) (hp:JV P t (parts.map (·.1))=some pl)
  (hsz:Zhz P t=true) (hzs:Zb4 z.cells.toList=some zs) (hd:Wh (Rep g w) (parts.map (·.2)) ds) (hf:ZcP zs pl ds=some cs)
  (hne:∃ d,P.underlying t=some d∧((∃ fs,d = .struct fs)∨∃ m e i,d = .array m e∧P.info? e=some i)) :
  ∃ cv,(Instr.build t parts.toArray).run P w = .ok (.agg cv) w∧Rep g w (.agg cv) (.agg cs):=by
 obtain ⟨d,hu,hd'⟩:=hne
 obtain ⟨c1,c2⟩:=ZdO (g:=g) (w:=w) hzs
 have c2':∀ v∈z.cells,v.one1=true:=fun v hv=>c2 v (Array.mem_toList_iff.2 hv)
 cases hit:P.info? t with
 | none=>simp [hit] at hz
 | some it =>
  simp only [hit,Option.bind_some] at hz
  rcases hd' with ⟨fs,rfl⟩ | ⟨m,e,i,rfl,hi⟩
  ·simp only [Zhz,hu] at hsz
   obtain ⟨pls,hm,hpls⟩:=ZiB (P:=P) fs.toList hsz
   obtain ⟨h1,h2⟩:=Zlj hu _ _ hp
   obtain ⟨cv,hfill,hrep,hone⟩:=Zfz (g:=g) (w:=w) (pls.toArray[·]?) parts pl ds cs zs z.cells (fun i x q hx hq=>by
    obtain ⟨f,hf1,hf2,hf3⟩:=h2 i x.1 q (by simp [hx]) hq
    have:=hpls x.1 f q.2 (by simpa using hf1) hf2
    simp only [List.getElem?_toArray,this,hf3]) (by simpa using h1.symm) hd c1 c2' hf
   refine ⟨cv,run_build w t _ cv ?_,ZhV hrep hone⟩
   simp only [Program.built,hit,hu,hz,hm]
   exact hfill
  ·obtain ⟨h1,h2⟩:=Zka hu _ _ hp
   obtain ⟨cv,hfill,hrep,hone⟩:=Zfz (g:=g) (w:=w) (fun k=>some (k * i.size,i.size)) parts pl ds cs zs z.cells (fun j x q hx hq=>by
    obtain ⟨n,hn,rfl⟩:=h2 j x.1 q (by simp [hx]) hq
    simp only [WW,hi,Option.map_some,Zuu] at hn
    rw [hn]) (by simpa using h1.symm) hd c1 c2' hf
   refine ⟨cv,run_build w t _ cv ?_,ZhV hrep hone⟩
   simp only [Program.built,hit,hu,hz,hi]
   exact hfill
end
end Go.DL
namespace Go.DL
open Go
section
variable {P:Program} {g:G} {ν:Nat→Nat} {w:World} {L:Loc} {σ:St}
theorem QJ {α β:Type} {R:α→β→Prop} {a:α} {bs:List β} (h:Wh R [a] bs):∃ b,bs=[b]∧R a b:=by
 cases h with
 | cons h t=>cases t; exact ⟨_,rfl,h⟩
theorem Zck {α β:Type} {R:α→β→Prop} {a a':α} {bs:List β} (h:Wh R [a,a'] bs):∃ b b',bs=[b,b']∧R a b∧R a' b':=by
 cases h with
 | cons h t=>obtain ⟨b',rfl,h'⟩:=QJ t; exact ⟨_,_,rfl,h,h'⟩
theorem ZjP:∀ (ns:List Int) (s:ByteArray),(ns.foldl (fun r n=>r.push (UInt8.ofNat n.toNat)) s).data.toList=s.data.toList++ns.map fun n=>UInt8.ofNat n.toNat
 | [],s=>by simp
 | n :: ns,s=>by rw [List.foldl_cons,ZjP ns]; simp [ByteArray.push]
theorem ZnJ {t:TypeId} {x:Value} {e r:E} {side:Prop} (ha:ZbC P t=some false) (hx:YQ g ν w L x e) (hL:∀ l cs,ZU L l=some cs→Qv g w (ν l) cs) (hS:KS g σ w)
  (hq:qv L σ .load1 [e]=some (side,r)):∃ v,(Instr.loadAt t x).run P w = .ok v w∧YQ g ν w L v r:=by
 simp only [qv,ZuC,Zuz] at hq
 obtain ⟨d,hd,rfl,rfl⟩:=hq
 obtain ⟨b,o,y,rfl,hy,hr,_⟩:=Zjq hL hS hx hd
 exact ⟨y,by simp [Instr.loadAt,Instr.sureAddr,loadVar,Zea ha,hy],hr⟩
theorem ZnK {t:TypeId} {n:Nat} {x:Value} {e r:E} {side:Prop} (ha:ZbC P t=some true) (hsz:WW P t=some n) (hx:YQ g ν w L x e) (hL:∀ l cs,ZU L l=some cs→Qv g w (ν l) cs) (hS:KS g σ w)
  (hq:qv L σ (.loadN n) [e]=some (side,r)) (hs:side):∃ v,(Instr.loadAt t x).run P w = .ok v w∧YQ g ν w L v r:=by
 simp only [qv,ZuC,Zuz] at hq
 obtain ⟨⟨s',ds⟩,hd,rfl,rfl⟩:=hq
 obtain ⟨a,rfl,vs,hrun,hr⟩:=Zj9 (P:=P) hL hS hx hd hs
 exact ⟨.agg vs.toArray,by simp [Instr.loadAt,Instr.sureAddr,loadVar,ZgK ha,QT hsz,hrun],hr⟩
theorem ZoP {s d:TypeId} {c:Cv} {x:Value} {e r:E} {side:Prop} (hc:Zoq P s d=some c) (hx:YQ g ν w L x e) (hq:qv L σ (.conv c) [e]=some (side,r)) (hs:side) :
  ∃ v,(convert s d x).run P w = .ok v w∧YQ g ν w L v r:=by
 unfold Zoq at hc
 split at hc <;> (try (simp at hc; done))
 ·rename_i k0 k h1 h2
  simp only [Zuu] at hc; subst hc
  cases e with
  | d y =>
   cases y <;> simp only [qv,reduceCtorEq] at hq
   rename_i k' n
   cases hx
   rename_i hn
   split at hq
   ·rename_i hk; subst hk
    simp only [Zuu,Zuz] at hq
    obtain ⟨rfl,rfl⟩:=hq
    exact ⟨.int k n,by simp [convert,run_underlying h1,run_underlying h2,Conv.intToInt,Zdv _ _ hn],.int _ _ hn⟩
   ·simp only [Zuu,Zuz] at hq
    obtain ⟨rfl,rfl⟩:=hq
    exact ⟨.int k (k.wrap n),by simp [convert,run_underlying h1,run_underlying h2,Conv.intToInt],.int _ _ (ZkT _ _)⟩
  | loc l o=>simp [qv] at hq
  | when b e=>simp [qv] at hq
 ·rename_i k0 h1 h2
  simp only [Zuu] at hc; subst hc
  cases e with
  | d y =>
   cases y <;> simp only [qv,reduceCtorEq] at hq
   rename_i k' n
   cases hx
   simp only [Zuu,Zuz] at hq
   obtain ⟨rfl,rfl⟩:=hq
   exact ⟨.string (Utf8.encode n),by simp [convert,run_underlying h1,run_underlying h2,Conv.intToString],.str _ _ rfl hs⟩
  | loc l o=>simp [qv] at hq
  | when b e=>simp [qv] at hq
 ·rename_i h1 h2
  simp only [Zuu] at hc; subst hc
  cases e with
  | d y =>
   cases y <;> simp only [qv,reduceCtorEq] at hq
   simp only [Zuu,Zuz] at hq
   obtain ⟨rfl,rfl⟩:=hq
   cases hx
   rename_i s0 e0 b0
   exact ⟨.string s0,by simp [convert,run_underlying h1,run_underlying h2],.str _ _ e0 b0⟩
  | loc l o=>simp [qv] at hq
  | when b e=>simp [qv] at hq
 ·rename_i el h1 h2
  split at hc <;> (try (simp at hc; done))
  rename_i h3
  simp only [Zuu] at hc; subst hc
  cases e with
  | d y =>
   cases y <;> simp only [qv,reduceCtorEq] at hq
   ·simp only [Zuu,Zuz] at hq
    obtain ⟨rfl,rfl⟩:=hq
    cases hx
    exact ⟨.string .empty,by simp [convert,run_underlying h1,run_underlying h2,run_underlying h3,Conv.bytesToString],.str _ _ rfl (by simp [big])⟩
   ·split at hq <;> (try (simp at hq; done))
    rename_i t n s row hs1
    simp only [Zuu,Zuz] at hq
    obtain ⟨rfl,rfl⟩:=hq
    subst hs1
    cases hx with
    | sl0 av=>exact ⟨.string .empty,by cases av <;> simp [convert,run_underlying h1,run_underlying h2,run_underlying h3,Conv.bytesToString,loadCells,loadCellsFrom],.str _ _ rfl (by simp [big])⟩
    | sl b o _ cap _ _ _ f hl hc hp hr one ht hcap hb =>
     have hf:∀ i,i < n→f i 0 = .int .u8 ((ZoY (row i)).toNat:Int):=fun i hi=>by
      obtain ⟨m,hm⟩:=hs i hi
      have:=hr i 0 _ hi (by rw [hm]; rfl)
      generalize f i 0=fv at this
      cases this
      rename_i hin
      rw [hm]; simp only [ZoY]
      congr 1
      simp [inR,IntKind.min,IntKind.max,IntKind.signed,IntKind.bits] at hin
      simp; omega
     have hcells:(loadCells ⟨b,o,none⟩ n).run P w = .ok (((List.range n).map fun i=>((ZoY (row i)).toNat:Int)).map (Value.int .u8)).toArray w:=by
      rw [run_loadCells (P:=P) w ⟨b,o,none⟩ n (fun i=>f i 0) (fun j hj=>by
       have:=hc j 0 hj (by omega)
       rw [JA]; simpa using this)]
      congr 2
      rw [List.map_map]
      exact List.map_congr_left fun i hi=>hf i (by simpa using hi)
     refine ⟨_,by simp [convert,run_underlying h1,run_underlying h2,run_underlying h3,run_bytesToString w _ _ cap _ hcells]; rfl,.str _ _ ?_ (by simp; omega)⟩
     rw [ZjP]
     simp [List.map_map,Function.comp_def]
   all_goals simp at hq
  | loc l o=>simp [qv] at hq
  | when b e=>simp [qv] at hq
end
end Go.DL
namespace Go.DL
open Go
section
variable {P:Program} {g:G} {ν:Nat→Nat} {w:World} {L:Loc}
theorem Za4 {v:Value} {k:IntKind} {n:Int} (h:Rep g w v (.int k n)):v = .int k n∧inR k n:=by
 cases h with
 | int _ _ h=>exact ⟨rfl,h⟩
theorem Zde {x:Value} {k:IntKind} {n:Int} (h:Rep g w x (.int k n)) {y:Nat} {code:BoundsCode} (h0:0≤n) (h1:n≤y) :
  (Instr.sliceBound x y code).run P w = .ok n.toNat w:=by
 obtain ⟨rfl,_⟩:=Za4 h
 simp [Instr.sliceBound,asIntOf,h0,h1]
def ZaP (g:G) (w:World):Option Value→Option Int→Prop
 | none,none=>True
 | some v,some n=>∃ k,Rep g w v (.int k n)
 | _,_=>False
theorem Zct {is:Bool} {n cap:Nat} {lo hi mx:Option Value} {lo' hi' mx':Option Int} (h1:ZaP g w lo lo') (h2:ZaP g w hi hi') (h3:ZaP g w mx mx')
  (hmh:mx.isSome=true→hi.isSome=true) (a:0≤lo'.getD 0) (b:lo'.getD 0≤hi'.getD n) (c:hi'.getD n≤mx'.getD cap) (d:mx'.getD cap≤cap) :
  (Instr.sliceBounds is n cap lo hi mx).run P w = .ok ((lo'.getD 0).toNat,(hi'.getD n).toNat,(mx'.getD cap).toNat) w:=by
 cases mx with
 | none =>
  cases mx' with
  | some _=>exact h3.elim
  | none =>
   simp only [Option.getD_none] at c d ⊢
   cases hi with
   | none =>
    cases hi' with
    | some _=>exact h2.elim
    | none =>
     cases lo with
     | none =>
      cases lo' with
      | some _=>exact h1.elim
      | none=>simp [Instr.sliceBounds]
     | some lv =>
      cases lo' with
      | none=>exact h1.elim
      | some l =>
       obtain ⟨k,hk⟩:=h1
       simp only [Option.getD_some,Option.getD_none] at a b ⊢
       simp [Instr.sliceBounds,Zde hk a b]
   | some hv =>
    cases hi' with
    | none=>exact h2.elim
    | some hh =>
     obtain ⟨k2,hk2⟩:=h2
     simp only [Option.getD_some] at b c ⊢
     have bo:=Zde (P:=P) hk2 (y:=cap) (code:=if is then .sliceAcap else .sliceAlen) (by omega) c
     cases lo with
     | none =>
      cases lo' with
      | some _=>exact h1.elim
      | none=>simp [Instr.sliceBounds,bo]
     | some lv =>
      cases lo' with
      | none=>exact h1.elim
      | some l =>
       obtain ⟨k,hk⟩:=h1
       simp only [Option.getD_some] at a b ⊢
       have bl:=Zde (P:=P) hk (y:=hh.toNat) (code:=.sliceB) a (by omega)
       simp [Instr.sliceBounds,bo,bl]
 | some mv =>
  cases mx' with
  | none=>exact h3.elim
  | some m =>
   obtain ⟨k3,hk3⟩:=h3
   simp only [Option.getD_some] at c d ⊢
   cases hi with
   | none=>simp at hmh
   | some hv =>
    cases hi' with
    | none=>exact h2.elim
    | some hh =>
     obtain ⟨k2,hk2⟩:=h2
     simp only [Option.getD_some] at b c ⊢
     have bm:=Zde (P:=P) hk3 (y:=cap) (code:=if is then .slice3Acap else .slice3Alen) (by omega) d
     have bo:=Zde (P:=P) hk2 (y:=m.toNat) (code:=.slice3B) (by omega) (by omega)
     cases lo with
     | none =>
      cases lo' with
      | some _=>exact h1.elim
      | none=>simp [Instr.sliceBounds,bo,bm]
     | some lv =>
      cases lo' with
      | none=>exact h1.elim
      | some l =>
       obtain ⟨k,hk⟩:=h1
       simp only [Option.getD_some] at a b ⊢
       have bl:=Zde (P:=P) hk (y:=hh.toNat) (code:=.slice3C) a (by omega)
       simp [Instr.sliceBounds,bo,bm,bl]
theorem ZqW {t e:TypeId} {s:Nat} (hu:P.underlying t=some (.slice e)) (hsz:WW P e=some s) {x:Value} {d r:D} (hx:Rep g w x d) {lo hi mx:Option Value} {lo' hi' mx':Option Int}
  (h1:ZaP g w lo lo') (h2:ZaP g w hi hi') (h3:ZaP g w mx mx') (hmh:mx.isSome=true→hi.isSome=true) {side:Prop} (hq:ZeL s lo' hi' mx' d=some (side,r)) (hs:side) :
  ∃ v,(Instr.sliceAt t x lo hi mx).run P w = .ok v w∧Rep g w v r:=by
 cases d <;> simp only [ZeL,reduceCtorEq] at hq
 ·
  simp only [Zuu,Zuz] at hq
  obtain ⟨rfl,rfl⟩:=hq
  cases hx
  obtain ⟨e1,e2,e3⟩:=hs
  refine ⟨.slice none 0 0,?_,.nilsl⟩
  have hb:=Zct (P:=P) (is:=true) (n:=0) (cap:=0) h1 h2 h3 hmh (by omega) (by simp [e1,e2]) (by simp [e2,e3]) (by simp [e3])
  simp only [Instr.sliceAt,Sem.run_bind,run_underlying hu,Result.andThen_ok,Instr.slice,hb]
  simp [e1,e2,e3,QT hsz]
 ·
  rename_i t n s' row
  split at hq <;> (try (simp at hq; done))
  rename_i hss
  subst hss
  simp only [Zuu,Zuz] at hq
  obtain ⟨rfl,rfl⟩:=hq
  obtain ⟨a,b,c,d⟩:=hs
  have mk:∀ (cap:Nat),n≤cap→hi'.getD n≤mx'.getD cap∧mx'.getD cap≤cap:=fun cap hcap=>by
   cases mx' with
   | none=>simp only [Option.getD_none]; omega
   | some m=>have:=d m rfl; simp only [Option.getD_some]; omega
  cases hx with
  | sl0 av _ _ _ ht =>
   have hb:=Zct (P:=P) (is:=true) (n:=0) (cap:=0) h1 h2 h3 hmh a b (mk 0 (ZuO _)).1 (mk 0 (ZuO _)).2
   have e2:hi'.getD ((0:Nat):Int)=0:=by omega
   have e1:lo'.getD 0=0:=by omega
   have e3:mx'.getD ((0:Nat):Int)=0:=by have:=mk 0 (ZuO _); omega
   simp only [Int.natCast_zero] at e2 e3
   refine ⟨.slice av 0 0,?_,?_⟩
   ·cases av <;> simp only [Instr.sliceAt,Sem.run_bind,run_underlying hu,Result.andThen_ok,Instr.slice,hb]
    all_goals simp [e1,e2,e3,QT hsz]
   ·have:(hi'.getD ((0:Nat):Int) - lo'.getD 0).toNat=0:=by simp [e1,e2]
    rw [this]
    refine .sl0 av _ _ _ ?_
    intro b hb
    cases mx' with
    | some m=>simp only [ZdG] at hb; split at hb <;> simp at hb
    | none =>
     simp only [ZdG] at hb
     split at hb
     ·cases t with
      | tip b'=>exact absurd rfl (ht b')
      | _=>simp at hb
     ·simp at hb
  | sl bb o _ cap _ _ _ f hl hc hp hr one ht hcap hbig =>
   have hb:=Zct (P:=P) (is:=true) (n:=n) (cap:=cap) h1 h2 h3 hmh a b (mk cap hcap).1 (mk cap hcap).2
   have hm:=mk cap hcap
   simp only [Instr.sliceAt,Sem.run_bind,run_underlying hu,Result.andThen_ok,Instr.slice,hb]
   simp only [QT hsz,Result.andThen_ok,Sem.run_pure]
   generalize hln:lo'.getD 0=l at *
   generalize hhn:hi'.getD (n:Int)=h at *
   obtain ⟨l,rfl⟩:=Int.eq_ofNat_of_zero_le a
   obtain ⟨h,rfl⟩:=Int.eq_ofNat_of_zero_le (show 0≤h by omega)
   generalize hmn:mx'.getD (cap:Int)=m at *
   obtain ⟨m,rfl⟩:=Int.eq_ofNat_of_zero_le (show 0≤m by omega)
   simp only [Int.toNat_natCast]
   refine ⟨_,rfl,?_⟩
   have hsub:((h:Int) - (l:Int)).toNat=h - l:=by omega
   rw [hsub]
   have hle:h≤n:=by omega
   have hlh:l≤h:=by omega
   have hhm:h≤m:=by omega
   have hmc:m≤cap:=by omega
   generalize htk:ZdG t n l h mx'=tk
   have htok:∀ o',(l=0→o'=o)→Zjn w tk bb o' (h - l) (m - l) s':=by
    intro o' ho'
    cases mx' with
    | some m' =>
     simp only [ZdG] at htk
     simp only [Option.getD_some] at hmn
     split at htk
     ·subst htk; simp only [Zjn]; omega
     ·subst htk; trivial
    | none =>
     simp only [ZdG] at htk
     simp only [Option.getD_none] at hmn
     have hmcap:m=cap:=by omega
     split at htk
     ·rename_i hhn'
      cases t with
      | none=>simp only at htk; subst htk; trivial
      | full=>simp only at htk; subst htk; simp only [Zjn] at ht ⊢; omega
      | tip b' =>
       simp only at htk
       split at htk
       ·rename_i hl0
        subst htk
        obtain ⟨t1,t2,t3⟩:=ht
        have hl0':l=0:=by omega
        exact ⟨t1,(ho' hl0').trans t2,by rw [hmcap,hl0']; simpa using t3⟩
       ·subst htk; trivial
     ·subst htk; trivial
   by_cases hml:m=l
   ·simp only [hml,if_true]
    have hh:h - l=0:=by omega
    rw [hh,Nat.sub_self]
    have htok':=htok o (fun _=>rfl)
    rw [hh,hml,Nat.sub_self] at htok'
    exact .sl bb o 0 0 s' _ tk (fun _ _=>undef) (fun i hi=>by omega) (fun i j hi=>by omega) (fun i j hi=>by omega) (fun i j d hi=>by omega) (fun i j hi=>by omega) htok' (by omega) (by omega)
   ·simp only [hml,if_false,Option.map_some,JA]
    refine .sl bb (o + l * s') (h - l) (m - l) s' _ tk (fun i j=>f (l + i) j) (fun i hi=>hl _ (by omega)) (fun i j hi hj=>?_) (fun i j hi hj=>?_) (fun i j d hi hd=>hr _ _ _ (by omega) hd)
     (fun i j hi hj=>one _ _ (by omega) hj) (htok _ (fun h0=>by rw [h0]; simp)) (by omega) (by omega)
    ·have:=hc (l + i) j (by omega) hj
     rw [show o + l * s' + i * s' + j=o + (l + i) * s' + j from by rw [Nat.add_mul]; omega]; exact this
    ·have:=hp (l + i) j (by omega) hj
     rw [show o + l * s' + i * s' + j=o + (l + i) * s' + j from by rw [Nat.add_mul]; omega]; exact this
 ·
  rename_i bb o n cap s'
  split at hq <;> (try (simp at hq; done))
  rename_i hss
  subst hss
  simp only [Zuu,Zuz] at hq
  obtain ⟨rfl,rfl⟩:=hq
  obtain ⟨a,b,c,d⟩:=hs
  cases hx with
  | mslx av _ _ _ =>
   have hb:=Zct (P:=P) (is:=true) (n:=0) (cap:=0) h1 h2 h3 hmh a b c d
   have e3:mx'.getD ((0:Nat):Int)=0:=by omega
   have e2:hi'.getD ((0:Nat):Int)=0:=by omega
   have e1:lo'.getD 0=0:=by omega
   refine ⟨.slice (some av) 0 0,?_,?_⟩
   ·simp only [Instr.sliceAt,Sem.run_bind,run_underlying hu,Result.andThen_ok,Instr.slice,hb]
    simp only [Int.natCast_zero] at e2 e3
    simp [e1,e2,e3,QT hsz]
   ·rw [e1,e2,e3]; exact .mslx _ _ _ _
  | msl _ _ _ _ _ hn hb' =>
   have hb:=Zct (P:=P) (is:=true) (n:=n) (cap:=cap) h1 h2 h3 hmh a b c d
   simp only [Instr.sliceAt,Sem.run_bind,run_underlying hu,Result.andThen_ok,Instr.slice,hb]
   simp only [QT hsz,Result.andThen_ok,Sem.run_pure]
   generalize hln:lo'.getD 0=l at *
   generalize hhn:hi'.getD (n:Int)=h at *
   generalize hmn:mx'.getD (cap:Int)=m at *
   obtain ⟨l,rfl⟩:=Int.eq_ofNat_of_zero_le a
   obtain ⟨h,rfl⟩:=Int.eq_ofNat_of_zero_le (show 0≤h by omega)
   obtain ⟨m,rfl⟩:=Int.eq_ofNat_of_zero_le (show 0≤m by omega)
   simp only [Int.toNat_natCast,show ((h:Int) - (l:Int)).toNat=h - l by omega,show ((m:Int) - (l:Int)).toNat=m - l by omega]
   refine ⟨_,rfl,?_⟩
   by_cases hml:m=l
   ·subst hml
    simp only [if_true]
    exact .msl _ _ _ _ _ (by omega) (by omega)
   ·have:¬ (m:Int)=l:=by omega
    simp only [hml,this,if_false,Option.map_some,JA]
    exact .msl _ _ _ _ _ (by omega) (by omega)
end
end Go.DL
namespace Go.DL
open Go
section
variable {P:Program} {g:G} {ν:Nat→Nat} {w:World} {L:Loc} {σ:St}
theorem Zlr {s:TypeId} {k:Nat} {f:Field} (h:Zfy P s k=some f):∃ fs,P.underlying s=some (.struct fs)∧fs[k]? = some f:=by
 unfold Zfy at h
 split at h
 ·rename_i fs hu; exact ⟨fs,hu,h⟩
 ·simp at h
theorem ZnH {s:TypeId} {k n:Nat} {f:Field} {x:Value} {e r:E} {side:Prop} (hf:Zfy P s k=some f) (hsz:WW P f.type=some n) (hn:n≠0) (hx:YQ g ν w L x e)
  (hq:qv L σ (.faddr f.offset) [e]=some (side,r)):∃ v,(Instr.fieldAt s x k).run P w = .ok v w∧YQ g ν w L v r:=by
 obtain ⟨fs,hu,hk⟩:=Zlr hf
 have run:∀ b o,(Instr.fieldAt s (.pointer (some ⟨b,o,none⟩)) k).run P w = .ok (.pointer (some ⟨b,o + f.offset,none⟩)) w:=fun b o=>by
  simp [Instr.fieldAt,run_underlying hu,hk,Instr.sureAddr,fieldPlace,QT hsz,hn,JA]
 cases e with
 | d y =>
  cases y <;> simp only [qv,reduceCtorEq,Zuu,Zuz] at hq
  ·rename_i cells off
   obtain ⟨rfl,rfl⟩:=hq
   cases hx with
   | ep b o _ _ f' h1 h2 h3 one =>
    have:=Rep.ep (g:=g) (w:=w) b o (off + f.offset) cells f' h1 h2 h3 one
    exact ⟨_,run _ _,by rw [Nat.add_assoc]; exact this⟩
  ·obtain ⟨rfl,rfl⟩:=hq
   cases hx
   exact ⟨_,run _ _,.ptr _ _⟩
 | loc l o =>
  simp only [qv,Zuu,Zuz] at hq
  obtain ⟨rfl,rfl⟩:=hq
  obtain ⟨h1,rfl⟩:=hx
  exact ⟨_,run _ _,h1,rfl⟩
 | when b e=>simp [qv] at hq
theorem ZnI {t e:TypeId} {n:Nat} {x i:Value} {ex ei r:E} {side:Prop} (hu:P.underlying t=some (.slice e)) (hsz:WW P e=some n) (hx:YQ g ν w L x ex) (hi:YQ g ν w L i ei)
  (hq:qv L σ (.iaddr n) [ex,ei]=some (side,r)) (hs:side):∃ v,(Instr.indexAt t x i).run P w = .ok v w∧YQ g ν w L v r:=by
 cases ex with
 | d y =>
  cases y <;> (try (simp [qv] at hq; done))
  ·rename_i tk m s' row
   cases ei with
   | d z =>
    cases z <;> simp only [qv,reduceCtorEq] at hq
    rename_i k j
    obtain ⟨rfl,hin⟩:=Za4 hi
    split at hq <;> (try (simp at hq; done))
    rename_i hss; subst hss
    simp only [Zuu,Zuz] at hq
    obtain ⟨rfl,rfl⟩:=hq
    obtain ⟨h0,h1⟩:=hs
    cases hx with
    | sl0=>omega
    | sl b o _ cap _ _ _ f hl hc hp hr one ht hcap hbig =>
     have hlt:j.toNat < m:=by omega
     have:=Rep.ep (g:=g) (w:=w) b (o + j.toNat * s') 0 (row j.toNat) (fun c=>f j.toNat c) (fun c hc'=>by
      rw [hl _ hlt] at hc'; exact hc _ _ hlt hc') (fun c hc'=>by rw [hl _ hlt] at hc'; exact hp _ _ hlt hc') (fun c d hd=>hr _ _ _ hlt hd) (fun c hc'=>by rw [hl _ hlt] at hc'; exact one _ _ hlt hc')
     refine ⟨_,?_,this⟩
     simp [Instr.indexAt,asIntOf,run_underlying hu,h0,h1,QT hsz,JA]
   | loc l o=>simp [qv] at hq
   | when b e=>simp [qv] at hq
  ·rename_i b o m cap s'
   cases ei with
   | d z =>
    cases z <;> simp only [qv,reduceCtorEq] at hq
    rename_i k j
    obtain ⟨rfl,hin⟩:=Za4 hi
    split at hq <;> (try (simp at hq; done))
    rename_i hss; subst hss
    simp only [Zuu,Zuz] at hq
    obtain ⟨rfl,rfl⟩:=hq
    obtain ⟨h0,h1⟩:=hs
    cases hx <;> try omega
    refine ⟨_,?_,Rep.ptr b (o + j.toNat * s')⟩
    simp [Instr.indexAt,asIntOf,run_underlying hu,h0,h1,QT hsz,JA]
   | loc l o=>simp [qv] at hq
   | when b e=>simp [qv] at hq
 | loc l o=>cases ei <;> simp [qv] at hq
 | when b e=>cases ei <;> simp [qv] at hq
theorem Zm1 {t e:TypeId} {m n:Nat} {x i:Value} {ex ei r:E} {side:Prop} (hu:P.underlying t=some (.array m e)) (hsz:WW P e=some n) (hx:YQ g ν w L x ex) (hi:YQ g ν w L i ei)
  (hq:qv L σ (.iaddrA m n) [ex,ei]=some (side,r)) (hs:side):∃ v,(Instr.indexAt t x i).run P w = .ok v w∧YQ g ν w L v r:=by
 cases ei with
 | d z =>
  cases z <;> (try (cases ex <;> (try (rename_i y; cases y)) <;> simp [qv] at hq; done))
  rename_i k j
  obtain ⟨rfl,hin⟩:=Za4 hi
  have run:∀ b o,(0≤j∧j < (m:Int))→(Instr.indexAt t (.pointer (some ⟨b,o,none⟩)) (.int k j)).run P w = .ok (.pointer (some ⟨b,o + j.toNat * n,none⟩)) w:=fun b o h=>by
   simp [Instr.indexAt,asIntOf,run_underlying hu,h.1,h.2,QT hsz,JA,Instr.sureAddr]
  cases ex with
  | d y =>
   cases y <;> simp only [qv,reduceCtorEq,Zuu,Zuz] at hq
   ·rename_i cells off
    obtain ⟨rfl,rfl⟩:=hq
    cases hx with
    | ep b o _ _ f' h1 h2 h3 one =>
     have:=Rep.ep (g:=g) (w:=w) b o (off + j.toNat * n) cells f' h1 h2 h3 one
     exact ⟨_,run _ _ hs,by rw [Nat.add_assoc]; exact this⟩
   ·rename_i b o
    obtain ⟨rfl,rfl⟩:=hq
    cases hx
    exact ⟨_,run _ _ hs,Rep.ptr _ _⟩
  | loc l o =>
   simp only [qv,Zuu,Zuz] at hq
   obtain ⟨rfl,rfl⟩:=hq
   obtain ⟨h1,rfl⟩:=hx
   exact ⟨_,run _ _ hs,h1,rfl⟩
  | when b e=>simp [qv] at hq
 | loc l o=>cases ex <;> (try (rename_i y; cases y)) <;> simp [qv] at hq
 | when b e=>cases ex <;> (try (rename_i y; cases y)) <;> simp [qv] at hq
theorem ev {s:Sem Value} {e:E} (h:∃ v,s.run P w = .ok v w∧YQ g ν w L v e) :
  ∃ v,(do pure (Next.value (← s)):Sem Next).run P w = .ok (.value v) w∧YQ g ν w L v e:=Zp9.next h
theorem ZnL {x:Value} {e r:E} {side:Prop} {op:Operand} {ρv:Operand→Value} (hv:ρv op=x) (hx:YQ g ν w L x e) (hq:qv L σ .nilck [e]=some (side,r)) (dst:Option Nat) (ty:TypeId) (pos:String)
  (af:Array Edge) (gd:Option (Nat × Bool)):∃ v,(execOp ρv ⟨dst,.nilCheck op,ty,pos,af,gd⟩).run P w = .ok (.value v) w∧YQ g ν w L v r:=by
 subst hv
 cases e with
 | d y =>
  cases y <;> simp only [qv,reduceCtorEq,Zuu,Zuz] at hq
  ·obtain ⟨rfl,rfl⟩:=hq
   refine ⟨_,?_,hx⟩
   have hx':Rep g w (ρv op) _:=hx
   generalize hz:ρv op=z at hx'
   cases hx'
   simp [execOp,hz]
  ·obtain ⟨rfl,rfl⟩:=hq
   refine ⟨_,?_,hx⟩
   have hx':Rep g w (ρv op) _:=hx
   generalize hz:ρv op=z at hx'
   cases hx'
   simp [execOp,hz]
  ·rename_i fn fs cs
   refine ⟨ρv op,?_,?_⟩
   ·have hx':Rep g w (ρv op) _:=hx
    generalize hz:ρv op=z at hx'
    cases hx'
    cases fn <;> simp at hq
    ·simp [execOp,hz]
    ·simp [execOp,hz]
   ·cases fn <;> simp at hq
    ·obtain ⟨_,rfl⟩:=hq; exact hx
    ·obtain ⟨_,rfl⟩:=hq; exact hx
 | loc l o =>
  simp only [qv,Zuu,Zuz] at hq
  obtain ⟨rfl,rfl⟩:=hq
  refine ⟨_,?_,hx⟩
  obtain ⟨_,h2⟩:=hx
  simp [execOp,h2]
 | when b e=>simp [qv] at hq
end
end Go.DL
namespace Go.DL
open Go
section
variable {P:Program} {g:G} {ν:Nat→Nat} {w:World} {L:Loc} {σ:St}
theorem Zjp {ρv:Operand→Value} {lo hi mx:Option Operand} {es:List E} {l h m:Option Int} (hes:Wh (YQ g ν w L) ((ZbN lo++ZbN hi++ZbN mx).map ρv) es)
  (hl:JC [lo.isSome,hi.isSome,mx.isSome] es=some [l,h,m]):ZaP g w (lo.map ρv) l∧ZaP g w (hi.map ρv) h∧ZaP g w (mx.map ρv) m:=by
 have step:∀ (o:Option Operand) (rest:List Operand) (es:List E) (bs:List Bool) (r:List (Option Int)),Wh (YQ g ν w L) ((ZbN o++rest).map ρv) es→JC (o.isSome :: bs) es=some r →
   ∃ x r' es',r=x :: r'∧ZaP g w (o.map ρv) x∧JC bs es'=some r'∧Wh (YQ g ν w L) (rest.map ρv) es':=by
  intro o rest es bs r hes hl
  cases o with
  | none =>
   simp only [Option.isSome_none,JC,ZuC] at hl
   obtain ⟨r',hr',rfl⟩:=hl
   exact ⟨none,r',es,rfl,trivial,hr',by simpa [ZbN] using hes⟩
  | some x =>
   simp only [ZbN,Option.toList_some,List.singleton_append,List.map_cons] at hes
   cases hes with
   | cons hx ht =>
    rename_i e es
    cases e with
    | d y =>
     cases y <;> simp only [Option.isSome_some,JC,reduceCtorEq,ZuC] at hl
     obtain ⟨r',hr',rfl⟩:=hl
     exact ⟨_,r',es,rfl,⟨_,hx⟩,hr',ht⟩
    | loc l o=>simp [JC] at hl
    | when c e=>simp [JC] at hl
 rw [List.append_assoc] at hes
 obtain ⟨x,r1,es1,e1,b1,hl1,hes1⟩:=step lo _ es _ _ hes hl
 obtain ⟨y,r2,es2,e2,b2,hl2,hes2⟩:=step hi _ es1 _ _ hes1 hl1
 obtain ⟨z,r3,es3,e3,b3,hl3,hes3⟩:=step mx [] es2 _ _ (by simpa using hes2) hl2
 subst e2; subst e3
 simp only [List.cons.injEq] at e1
 obtain ⟨rfl,rfl,rfl,rfl⟩:=e1
 exact ⟨b1,b2,b3⟩
theorem ZhY {v:Value} {l:List UInt8} (h:Rep g w v (.str l)):∃ s:ByteArray,v = .string s∧s.data.toList=l∧l.length≤big:=by
 cases h with
 | str s _ h hb=>exact ⟨s,rfl,h,hb⟩
theorem Zco {v:Value} {b:Bool} (h:Rep g w v (.bool b)):v = .bool b:=by
 cases h; rfl
theorem Zm3 {t:TypeId} (hu:P.underlying t=some .string) {ρv:Operand→Value} {x:Operand} {lo hi:Option Operand} {es:List E} (hes:Wh (YQ g ν w L) ((x :: (ZbN lo++ZbN hi)).map ρv) es)
  {side:Prop} {r:E} (hq:qv L σ (.sliceS lo.isSome hi.isSome) es=some (side,r)) (hs:side) :
  ∃ v,(Instr.sliceAt t (ρv x) (lo.map ρv) (hi.map ρv) none).run P w = .ok v w∧YQ g ν w L v r:=by
 simp only [List.map_cons] at hes
 cases hes with
 | cons hx ht =>
  rename_i e es
  cases e with
  | loc l o=>simp [qv] at hq
  | when c e=>simp [qv] at hq
  | d y =>
   cases y <;> (try (simp [qv] at hq; done))
   rename_i s
   simp only [qv] at hq
   split at hq
   ·rename_i l h m hl
    simp only [Zuu,Zuz] at hq
    obtain ⟨rfl,rfl⟩:=hq
    obtain ⟨b1,b2,b3⟩:=Zjp (mx:=none) (by simpa [ZbN] using ht) hl
    obtain ⟨a,b,c⟩:=hs
    obtain ⟨s0,hs0,e0,hb0⟩:=ZhY hx
    have hsz:s0.size=s.length:=by rw [← e0]; rfl
    have hb:=Zct (P:=P) (is:=false) (n:=s0.size) (cap:=s0.size) (mx:=none) (mx':=none) b1 b2 trivial (by simp) a (by rw [hsz]; exact b) (by rw [hsz]; simpa using c) (by simp)
    simp only [Instr.sliceAt,Sem.run_bind,run_underlying hu,Result.andThen_ok,Instr.slice,hs0]
    simp only [Option.isSome_none,Bool.false_eq_true,if_false,hb,Result.andThen_ok,Sem.run_pure,Sem.run_bind]
    refine ⟨_,rfl,.str _ _ ?_ ?_⟩
    ·rw [hsz]
     simp only [ByteArray.data_extract,Array.toList_extract,List.extract_eq_take_drop,e0]
    ·simp; omega
   ·simp at hq
theorem ZnM {t el:TypeId} {n:Nat} (hu:P.underlying t=some (.slice el)) (hsz:WW P el=some n) {ρv:Operand→Value} {x:Operand} {lo hi mx:Option Operand} {es:List E}
  (hmh:mx.isSome=true→hi.isSome=true) (hes:Wh (YQ g ν w L) ((x :: (ZbN lo++ZbN hi++ZbN mx)).map ρv) es)
  {side:Prop} {r:E} (hq:qv L σ (.slice n lo.isSome hi.isSome mx.isSome) es=some (side,r)) (hs:side) :
  ∃ v,(Instr.sliceAt t (ρv x) (lo.map ρv) (hi.map ρv) (mx.map ρv)).run P w = .ok v w∧YQ g ν w L v r:=by
 simp only [List.map_cons] at hes
 cases hes with
 | cons hx ht =>
  rename_i e es
  cases e with
  | loc l o=>simp [qv] at hq
  | when c e=>simp [qv] at hq
  | d y =>
   simp only [qv] at hq
   split at hq
   ·rename_i l h m hl
    simp only [ZuC,Zuz] at hq
    obtain ⟨⟨s',r'⟩,hr',rfl,rfl⟩:=hq
    obtain ⟨b1,b2,b3⟩:=Zjp ht hl
    exact ZqW hu hsz hx b1 b2 b3 (by simpa using hmh) hr' hs
   ·simp at hq
end
end Go.DL
namespace Go.DL
open Go
section
variable {P:Program} {g:G} {ν:Nat→Nat} {w:World} {L:Loc} {σ:St}
theorem Zlq {s:TypeId} {k:Nat} {f:Field} {x:Value} {e r:E} {side:Prop} {q:Q} (hf:Zfy P s k=some f)
  (hq0:(ZbC P f.type=some true∧∃ n,WW P f.type=some n∧q = .fldN f.offset n)∨(ZbC P f.type=some false∧q = .fld1 f.offset)) (hx:YQ g ν w L x e)
  (hq:qv L σ q [e]=some (side,r)) (hs:side):∃ v,(Instr.field s x k).run P w = .ok v w∧YQ g ν w L v r:=by
 obtain ⟨fs,hu,hk⟩:=Zlr hf
 rcases hq0 with ⟨ha,n,hn,rfl⟩ | ⟨ha,rfl⟩
 ·cases e with
  | d y =>
   cases y <;> simp only [qv,reduceCtorEq,Zuu,Zuz] at hq
   obtain ⟨rfl,rfl⟩:=hq
   cases hx with
   | agg vs cells hl h one =>
    rename_i cs
    refine ⟨.agg (vs.toArray.extract f.offset (f.offset + n)),?_,?_⟩
    ·simp [Instr.field,run_underlying hu,hk,asAgg,Go.part,ZgK ha,QT hn]
    ·have:vs.toArray.extract f.offset (f.offset + n)=((vs.drop f.offset).take n).toArray:=by
      apply Array.ext'
      simp [List.extract_eq_take_drop,Nat.add_sub_cancel_left]
     rw [this]
     exact ZhV (by simpa [part] using ((K5 hl h).drop f.offset).take n) (fun v hv=>one v (List.mem_of_mem_drop (List.mem_of_mem_take (by simpa using hv))))
  | loc l o=>simp [qv] at hq
  | when b e=>simp [qv] at hq
 ·cases e with
  | d y =>
   cases y <;> simp only [qv,reduceCtorEq,ZuC,Zuz] at hq
   obtain ⟨d,hd,rfl,rfl⟩:=hq
   cases hx with
   | agg vs cells hl h one =>
    obtain ⟨v,hv,hr⟩:=Zdm hl h hd
    exact ⟨v,by simp [Instr.field,run_underlying hu,hk,asAgg,Go.part,Zea ha,hv],hr⟩
  | loc l o=>simp [qv] at hq
  | when b e=>simp [qv] at hq
theorem ZoQ {t:TypeId} {x i:Value} {ex ei r:E} {side:Prop} (hu:P.underlying t=some .string) (hx:YQ g ν w L x ex) (hi:YQ g ν w L i ei)
  (hq:qv L σ .idxS [ex,ei]=some (side,r)) (hs:side):∃ v,(Instr.index t x i).run P w = .ok v w∧YQ g ν w L v r:=by
 cases ex with
 | d y =>
  cases y <;> (try (simp [qv] at hq; done))
  rename_i s
  cases ei with
  | d z =>
   cases z <;> simp only [qv,reduceCtorEq,Zuu,Zuz] at hq
   rename_i k j
   obtain ⟨rfl,hin⟩:=Za4 hi
   obtain ⟨s0,rfl,e0,hb⟩:=ZhY hx
   obtain ⟨rfl,rfl⟩:=hq
   obtain ⟨h0,h1⟩:=hs
   have hsz:s0.size=s.length:=by rw [← e0]; rfl
   have hlt:j.toNat < s0.size:=by omega
   have hget:s0[j.toNat]? = some (s.getD j.toNat 0):=by
    have h3:j.toNat < s.length:=by omega
    have:s0[j.toNat]? = s0.data.toList[j.toNat]?:=by
     rw [getElem?_pos s0 j.toNat hlt,Array.getElem?_toList,Array.getElem?_eq_getElem (show j.toNat < s0.data.size from hlt)]
     rfl
    rw [this,e0]
    simp [List.getD,List.getElem?_eq_getElem h3]
   refine ⟨_,?_,.int _ _ (Zmz _)⟩
   simp [Instr.index,asIntOf,run_underlying hu,h0,hget]
  | loc l o=>simp [qv] at hq
  | when b e=>simp [qv] at hq
 | loc l o=>cases ei <;> simp [qv] at hq
 | when b e=>cases ei <;> simp [qv] at hq
theorem ZoU {t:TypeId} {ts:Array TypeId} {x:Value} {e r:E} {side:Prop} (ht:ts[0]? = some t) (hu:P.underlying t=some .string) (hx:YQ g ν w L x e)
  (hq:qv L σ .lenS [e]=some (side,r)) (ty:TypeId):∃ v,(Builtin.len_ ts ty #[x]).run P w = .ok v w∧YQ g ν w L v r:=by
 cases e with
 | d y =>
  cases y <;> simp only [qv,reduceCtorEq,Zuu,Zuz] at hq
  obtain ⟨rfl,rfl⟩:=hq
  obtain ⟨s0,rfl,e0,hb⟩:=ZhY hx
  rename_i s
  have hsz:s0.size=s.length:=by rw [← e0]; rfl
  refine ⟨_,?_,.int _ _ (Zab hb)⟩
  simp [Builtin.len_,ht,run_underlying hu,goInt,hsz]
 | loc l o=>simp [qv] at hq
 | when b e=>simp [qv] at hq
theorem ZoS {t el:TypeId} {ts:Array TypeId} {x:Value} {e r:E} {side:Prop} (ht:ts[0]? = some t) (hu:P.underlying t=some (.slice el)) (hx:YQ g ν w L x e)
  (hq:qv L σ .lenL [e]=some (side,r)) (ty:TypeId):∃ v,(Builtin.len_ ts ty #[x]).run P w = .ok v w∧YQ g ν w L v r:=by
 cases e with
 | d y =>
  cases y <;> simp only [qv,reduceCtorEq,Zuu,Zuz] at hq
  ·obtain ⟨rfl,rfl⟩:=hq
   cases hx
   exact ⟨_,by simp [Builtin.len_,ht,run_underlying hu,goInt],.int _ _ (Zab (n:=0) (Nat.zero_le _))⟩
  ·obtain ⟨rfl,rfl⟩:=hq
   cases hx with
   | sl0=>exact ⟨_,by simp [Builtin.len_,ht,run_underlying hu,goInt],.int _ _ (Zab (n:=0) (Nat.zero_le _))⟩
   | sl b o _ cap _ _ _ f hl hc hp hr one ht' hcap hbig =>
    exact ⟨_,by simp [Builtin.len_,ht,run_underlying hu,goInt],.int _ _ (Zab (by omega))⟩
  ·obtain ⟨rfl,rfl⟩:=hq
   cases hx with
   | mslx=>exact ⟨_,by simp [Builtin.len_,ht,run_underlying hu,goInt],.int _ _ (Zab (n:=0) (Nat.zero_le _))⟩
   | msl _ _ _ _ _ h1 h2=>exact ⟨_,by simp [Builtin.len_,ht,run_underlying hu,goInt],.int _ _ (Zab (by omega))⟩
 | loc l o=>simp [qv] at hq
 | when b e=>simp [qv] at hq
theorem ZoR {t el:TypeId} {n:Nat} {ts:Array TypeId} {x:Value} {e r:E} {side:Prop} (ht:ts[0]? = some t) (hu:P.underlying t=some (.array n el))
  (hq:qv L σ (.lenA n) [e]=some (side,r)) (hs:side) (ty:TypeId):∃ v,(Builtin.len_ ts ty #[x]).run P w = .ok v w∧YQ g ν w L v r:=by
 simp only [qv,Zuu,Zuz] at hq
 obtain ⟨rfl,rfl⟩:=hq
 refine ⟨.int .i64 n,?_,.int _ _ hs⟩
 simp only [Builtin.len_,ht]
 cases x <;> simp [run_underlying hu,goInt]
theorem ZhA {x y:Value} {ex ey r:E} {side:Prop} (mx:Bool) (hx:YQ g ν w L x ex) (hy:YQ g ν w L y ey) (hq:qv L σ (if mx then .max else .min) [ex,ey]=some (side,r)) (ts:Array TypeId) (ty:TypeId) :
  ∃ v,(if mx then Builtin.max_ ts ty #[x,y] else Builtin.min_ ts ty #[x,y]).run P w = .ok v w∧YQ g ν w L v r:=by
 cases ex with
 | d a =>
  cases a <;> (try (cases mx <;> simp [qv] at hq; done))
  rename_i k n
  cases ey with
  | d b =>
   cases b <;> (try (cases mx <;> simp [qv] at hq; done))
   rename_i k' m
   obtain ⟨rfl,h1⟩:=Za4 hx
   obtain ⟨rfl,h2⟩:=Za4 hy
   cases mx
   ·simp only [qv,Bool.false_eq_true,if_false] at hq
    split at hq <;> (try (simp at hq; done))
    rename_i hk; subst hk
    simp only [Zuu,Zuz] at hq
    obtain ⟨rfl,rfl⟩:=hq
    refine ⟨.int k (Min.min n m),?_,.int _ _ ?_⟩
    ·have:(if m < n then m else n)=Min.min n m:=by split <;> omega
     simp [Builtin.min_,Builtin.min2,this]
    ·unfold inR at *; omega
   ·simp only [qv,if_true] at hq
    split at hq <;> (try (simp at hq; done))
    rename_i hk; subst hk
    simp only [Zuu,Zuz] at hq
    obtain ⟨rfl,rfl⟩:=hq
    refine ⟨.int k (Max.max n m),?_,.int _ _ ?_⟩
    ·have:(if m > n then m else n)=Max.max n m:=by split <;> omega
     simp [Builtin.max_,Builtin.max2,this]
    ·unfold inR at *; omega
  | loc l o=>cases mx <;> simp [qv] at hq
  | when b e=>cases mx <;> simp [qv] at hq
 | loc l o=>cases mx <;> cases ey <;> simp [qv] at hq
 | when b e=>cases mx <;> cases ey <;> simp [qv] at hq
theorem ZlL {x:Value} {t xt:TypeId} {ok:Bool} {z:D} {e r:E} {side:Prop} (hu:∃ d,P.underlying t=some d∧∀ ms,d≠.interface ms) (hz:ZdI P t=some z) (hx:YQ g ν w L x e)
  (hq:qv L σ (.tassert t ok z) [e]=some (side,r)):∃ v,(Instr.typeAssert x xt t ok).run P w = .ok v w∧YQ g ν w L v r:=by
 obtain ⟨d,hu,hni⟩:=hu
 have hzero:∃ zv,(zeroValue t).run P w = .ok zv w∧Rep g w zv z:=by
  unfold ZdI at hz
  cases hi:P.info? t with
  | none=>simp [hi] at hz
  | some i =>
   cases hzz:i.zero with
   | none=>simp [hi,hzz] at hz
   | some zv=>simp only [hi,hzz] at hz; exact ⟨zv,by simp [zeroValue,typeInfo,hi,hzz],ZgT hz⟩
 cases e with
 | d y =>
  cases y <;> (try (cases ok <;> simp [qv] at hq; done))
  ·rename_i t' v'
   cases hx with
   | iface _ v _ hv =>
    cases ok
    ·simp only [qv] at hq
     split at hq <;> (try (simp at hq; done))
     rename_i htt; subst htt
     simp only [Zuu,Zuz] at hq
     obtain ⟨rfl,rfl⟩:=hq
     refine ⟨v,?_,hv⟩
     simp only [Instr.typeAssert,Sem.run_bind,run_underlying hu,Result.andThen_ok]
     cases d <;> first | (simp; done) | (exact absurd rfl (hni _))
    ·simp only [qv] at hq
     split at hq <;> (try (simp at hq; done))
     rename_i htt; subst htt
     simp only [Zuu,Zuz] at hq
     obtain ⟨rfl,rfl⟩:=hq
     refine ⟨.tuple #[v,.bool true],?_,?_⟩
     ·simp only [Instr.typeAssert,Sem.run_bind,run_underlying hu,Result.andThen_ok]
      cases d <;> first | (simp; done) | (exact absurd rfl (hni _))
     ·exact .tup [v,.bool true] _ rfl (Wh.get (.cons hv (.cons (.bool true) .nil)))
  ·cases hx
   cases ok
   ·simp [qv] at hq
   ·simp only [qv,Zuu,Zuz] at hq
    obtain ⟨rfl,rfl⟩:=hq
    obtain ⟨zv,h1,h2⟩:=hzero
    refine ⟨.tuple #[zv,.bool false],?_,?_⟩
    ·simp only [Instr.typeAssert,Sem.run_bind,run_underlying hu,Result.andThen_ok]
     cases d <;> first | (simp [h1]; done) | (exact absurd rfl (hni _))
    ·exact .tup [zv,.bool false] _ rfl (Wh.get (.cons h2 (.cons (.bool false) .nil)))
 | loc l o=>cases ok <;> simp [qv] at hq
 | when b e=>cases ok <;> simp [qv] at hq
end
end Go.DL
namespace Go.DL
open Go
section
variable {P:Program} {g:G} {w:World}
theorem Zcg {t:TypeId} {k:SK} (h:Zaf P t=some k):(k = .bool∧P.underlying t=some .bool)∨(k = .int∧∃ ik,P.underlying t=some (.int ik))∨(k = .str∧P.underlying t=some .string):=by
 unfold Zaf at h
 split at h <;> simp only [Zuu,reduceCtorEq] at h <;> subst h <;> rename_i hu
 ·exact .inl ⟨rfl,hu⟩
 ·exact .inr (.inl ⟨rfl,_,hu⟩)
 ·exact .inr (.inr ⟨rfl,hu⟩)
theorem Zed {t:TypeId} {kp:KP} (h:Zbc P t=some kp):(∃ k,kp = .sc k∧Zaf P t=some k) ∨
  ∃ fs l n,kp = .st l∧P.underlying t=some (.struct fs)∧WW P t=some n∧JK P fs.toList=some l∧l.map (·.1)=List.range n∧P.stoodInHeld t=false:=by
 unfold Zbc at h
 split at h
 ·rename_i k hk
  simp only [Zuu] at h
  exact .inl ⟨k,h.symm,hk⟩
 ·split at h <;> (try (simp at h; done))
  rename_i fs n hu hn
  split at h <;> (try (simp at h; done))
  rename_i l hl
  split at h <;> simp only [Zuu,reduceCtorEq] at h
  rename_i hc
  exact .inr ⟨fs,l,n,h.symm,hu,hn,hl,hc.1,hc.2⟩
theorem ZiA {kt:TypeId} {kp:KP} (hk:Zbc P kt=some kp) {k1 k2:Value} {d1 d2:D} (h1:Rep g w k1 d1) (h2:Rep g w k2 d2) {b:Bool} (h:JM kp d1 d2=some b) :
  (Op.equal kt k1 k2).run P w = .ok b w:=by
 rcases Zed hk with ⟨k,rfl,hs⟩ | ⟨fs,l,n,rfl,hu,hn,hl,_,hst⟩
 ·exact Zfi hs h1 h2 h 9999
 ·cases h1 <;> cases h2 <;> simp only [JM,reduceCtorEq] at h
  rename_i v1 xs hn1 r1 o1 v2 ys hn2 r2 o2
  split at h <;> (try (simp at h; done))
  have hf:P.underlying kt=some (.struct (P.fieldsOf kt)):=by simp [Program.fieldsOf,hu]
  refine (run_equalIn_struct w 9999 kt _ _ hf hst).trans ?_
  simp only [Program.fieldsOf,hu]
  exact Zdz hn1 hn2 r1 r2 9998 _ l b hl h
theorem Zdf (em:Bool) (n:Nat) {vs:List Value} {ds:List D} (hn:vs.length=ds.length):∀ (fs:List Field) (l:List (Nat × SK)) (b:Bool),JK P fs=some l→QV ds ds l=some b →
  (do
   for f in fs do
    if f.name ≠ "_" then Instr.checkKey em (n + 1) f.type (← Go.part f.type vs.toArray f.offset):Sem Unit).run P w = .ok () w
 | [],_,_,_,_=>by simp
 | f :: fs,l,b,hl,hb=>by
  simp only [JK] at hl
  by_cases hf:f.name = "_"
  ·simp only [hf,if_true] at hl
   have:=Zdf em n hn fs l b hl hb
   simp only [List.forIn_cons,hf,ne_eq,not_true_eq_false,if_false,Sem.run_bind,Sem.run_pure,Result.andThen_ok] at this ⊢
   exact this
  ·simp only [hf,if_false] at hl
   split at hl <;> simp only [Zuu,reduceCtorEq] at hl
   rename_i k l' hk hl'
   subst hl
   simp only [QV] at hb
   split at hb <;> (try (simp at hb; done))
   rename_i x y hx hy
   split at hb <;> (try (simp at hb; done))
   rename_i b1 b2 hb1 hb2
   have ih:=Zdf em n hn fs l' b2 hl' hb2
   have hlt:f.offset < vs.length:=by rw [hn]; exact (List.getElem?_eq_some_iff.1 hx).1
   have hv:vs.toArray[f.offset]? = some vs[f.offset]:=by simp [hlt]
   have hp:=ZeD (P:=P) (w:=w) (Zca hk) hv
   have hck:(Instr.checkKey em (n + 1) f.type vs[f.offset]).run P w = .ok () w:=by
    rcases Zcg hk with ⟨_,hu⟩ | ⟨_,ik,hu⟩ | ⟨_,hu⟩ <;> simp [Instr.checkKey,run_underlying hu]
   simp only [List.forIn_cons,hf,ne_eq,not_false_eq_true,if_true,Sem.run_bind,hp,Result.andThen_ok,hck,Sem.run_pure] at ih ⊢
   exact ih
theorem Zl9 {kt:TypeId} {kp:KP} (hk:Zbc P kt=some kp) {k:Value} {d:D} (h:Rep g w k d) (hok:ZaI kp d=true) (em:Bool) (n:Nat):(Instr.checkKey em (n + 2) kt k).run P w = .ok () w:=by
 rcases Zed hk with ⟨sk,rfl,hs⟩ | ⟨fs,l,m,rfl,hu,hn,hl,_,hst⟩
 ·rcases Zcg hs with ⟨_,hu⟩ | ⟨_,ik,hu⟩ | ⟨_,hu⟩ <;> simp [Instr.checkKey,run_underlying hu]
 ·cases h <;> simp only [ZaI,JM,Option.isSome_none,Bool.false_eq_true] at hok
  rename_i vs cells hn r o
  obtain ⟨b,hb⟩:=Option.isSome_iff_exists.1 hok
  split at hb <;> (try (simp at hb; done))
  have:=Zdf (P:=P) (w:=w) em n hn fs.toList l b hl hb
  rw [Instr.checkKey]
  simp only [Sem.run_bind,run_underlying hu,Result.andThen_ok]
  rw [← Array.forIn_toList]
  simp only [ne_eq,ite_not] at this ⊢
  first
   | (simp at this; simp [this,Result.andThen])
   | simp [this]
theorem Zb2 {kt:TypeId} {kp:KP} (hk:Zbc P kt=some kp) {k:Value} {d:D} (h:Rep g w k d) (hok:ZaI kp d=true) (em:Bool):(Instr.checkKey em 10000 kt k).run P w = .ok () w:=Zl9 hk h hok em 9998
theorem Zk8 {kp:KP} {k:D}:∀ {es:List (D × D)} {r:Option D},ZcQ kp k es=some r→∃ io,JY kp k es=some io∧r=io.bind fun i=>(es[i]?).map (·.2)
 | [],r,h=>by simp only [ZcQ,Zuu] at h; exact ⟨none,rfl,h.symm⟩
 | e :: es,r,h=>by
  simp only [ZcQ] at h
  split at h
  ·rename_i he; simp only [Zuu] at h; exact ⟨some 0,by simp [JY,he],by simp [h]⟩
  ·rename_i he
   obtain ⟨io,h1,h2⟩:=Zk8 h
   refine ⟨io.map (· + 1),by simp [JY,he,h1],?_⟩
   rw [h2]; cases io <;> simp
  ·simp at h
theorem Zjb {kp:KP} {k v:D}:∀ {es es':List (D × D)},Zbp kp k v es=some es'→∃ io,JY kp k es=some io∧es'=match io with
  | none=>es++[(k,v)]
  | some i=>es.set i (k,v)
 | [],es',h=>by simp only [Zbp,Zuu] at h; exact ⟨none,rfl,h.symm⟩
 | e :: es,es',h=>by
  simp only [Zbp] at h
  split at h
  ·rename_i he; simp only [Zuu] at h; exact ⟨some 0,by simp [JY,he],by simp [h]⟩
  ·rename_i he
   simp only [ZuC] at h
   obtain ⟨r,hr,rfl⟩:=h
   obtain ⟨io,h1,h2⟩:=Zjb hr
   refine ⟨io.map (· + 1),by simp [JY,he,h1],?_⟩
   rw [h2]; cases io <;> simp
  ·simp at h
theorem Zmo {kp:KP} {k:D}:∀ {es es':List (D × D)},ZiS kp k es=some es'→∃ io,JY kp k es=some io∧es'=match io with
  | none=>es
  | some i=>es.eraseIdx i
 | [],es',h=>by simp only [ZiS,Zuu] at h; exact ⟨none,rfl,h.symm⟩
 | e :: es,es',h=>by
  simp only [ZiS] at h
  split at h
  ·rename_i he; simp only [Zuu] at h; exact ⟨some 0,by simp [JY,he],by simp [h]⟩
  ·rename_i he
   simp only [ZuC] at h
   obtain ⟨r,hr,rfl⟩:=h
   obtain ⟨io,h1,h2⟩:=Zmo hr
   refine ⟨io.map (· + 1),by simp [JY,he,h1],?_⟩
   rw [h2]; cases io <;> simp
  ·simp at h
theorem Zdk {kp:KP} {k:D}:∀ {es:List (D × D)} {i:Nat},JY kp k es=some (some i)→i < es.length∧∀ e,es[i]? = some e→JM kp k e.1=some true
 | [],i,h=>by simp [JY] at h
 | e :: es,i,h=>by
  simp only [JY] at h
  split at h
  ·rename_i he; simp only [Zuu] at h; subst h; exact ⟨by simp,fun x hx=>by simp at hx; subst hx; exact he⟩
  ·simp only [ZuC] at h
   obtain ⟨io,h1,h2⟩:=h
   cases io with
   | none=>simp at h2
   | some j =>
    obtain ⟨j',h3,h4⟩:=h2
    simp only [Zuu] at h3
    subst h3; subst h4
    obtain ⟨a,b⟩:=Zdk h1
    exact ⟨by simp; omega,fun x hx=>b x (by simpa using hx)⟩
  ·simp at h
theorem ZjI {kt:TypeId} {kp:KP} (hk:Zbc P kt=some kp) {k:Value} {dk:D} (hr:Rep g w k dk):∀ (es:List MapEntry) (ds:List (D × D)) (n:Nat) (io:Option Nat),es.length=ds.length →
  (∀ (i:Nat) (e:MapEntry) (d:D × D),es[i]? = some e→ds[i]? = some d→Rep g w e.key d.1)→JY kp dk ds=some io →
  (Instr.findAsking kt k es n).run P w = .ok (io.bind fun i=>(es[i]?).map fun e=>(n + i,e.val)) w
 | [],[],n,io,_,_,h=>by simp only [JY,Zuu] at h; subst h; simp [Instr.findAsking]
 | e :: es,d :: ds,n,io,hn,hkey,h=>by
  simp only [JY] at h
  have h0:=hkey 0 e d (by simp) (by simp)
  split at h
  ·rename_i he
   simp only [Zuu] at h; subst h
   simp [Instr.findAsking,ZiA hk hr h0 he]
  ·rename_i he
   simp only [ZuC] at h
   obtain ⟨io',h1,rfl⟩:=h
   have ih:=ZjI hk hr es ds (n + 1) io' (by simpa using hn) (fun i e d a b=>hkey (i + 1) e d (by simpa using a) (by simpa using b)) h1
   simp only [Instr.findAsking,Sem.run_bind,ZiA hk hr h0 he,Result.andThen_ok,Bool.false_eq_true,if_false,ih]
   cases io' <;> simp [Nat.add_assoc,Nat.add_comm 1]
  ·simp at h
 | [],_ :: _,_,_,hn,_,_=>by simp at hn
 | _ :: _,[],_,_,hn,_,_=>by simp at hn
theorem Zkg {t:TypeId} {k:SK} {u:TypeDesc} (hs:Zaf P t=some k) (hu:P.underlying t=some u) {k1 k2:Value} {d1 d2:D} (h1:Rep g w k1 d1) (h2:Rep g w k2 d2) {b:Bool} (h:KV k d1 d2=some b) :
  Instr.sameNow u k1 k2=some b:=by
 rcases Zcg hs with ⟨rfl,hu'⟩ | ⟨rfl,ik,hu'⟩ | ⟨rfl,hu'⟩ <;> (rw [hu] at hu'; simp only [Zuu] at hu'; subst hu')
 ·cases h1 <;> cases h2 <;> simp only [KV,reduceCtorEq,Zuu] at h
  subst h
  simp [Instr.sameNow]
  rename_i a b; cases a <;> cases b <;> rfl
 ·cases h1 <;> cases h2 <;> simp only [KV,reduceCtorEq] at h
  split at h <;> simp only [reduceCtorEq,Zuu] at h
  rename_i hk
  subst h
  simp only [Instr.sameNow,hk,if_true,Zuu]
  rename_i a _ _ b _; rw [Bool.eq_iff_iff]; simp
 ·cases h1 <;> cases h2 <;> simp only [KV,reduceCtorEq,Zuu] at h
  rename_i s1 a e1 _ s2 b e2 _
  subst h
  simp only [Instr.sameNow,Zuu]
  rw [beq_toListBytes,Zds e1,Zds e2,Bool.eq_iff_iff]; simp
theorem ZjM {t:TypeId} {sk:SK} {u:TypeDesc} (hs:Zaf P t=some sk) (hu:P.underlying t=some u) {k:Value} {dk:D} (hr:Rep g w k dk):∀ (es:List MapEntry) (ds:List (D × D)) (n:Nat) (io:Option Nat),es.length=ds.length →
  (∀ (i:Nat) (e:MapEntry) (d:D × D),es[i]? = some e→ds[i]? = some d→Rep g w e.key d.1)→JY (.sc sk) dk ds=some io →
  Instr.findNow u k es n=some (io.bind fun i=>(es[i]?).map fun e=>(n + i,e.val))
 | [],[],n,io,_,_,h=>by simp only [JY,Zuu] at h; subst h; simp [Instr.findNow]
 | e :: es,d :: ds,n,io,hn,hkey,h=>by
  simp only [JY] at h
  have h0:=hkey 0 e d (by simp) (by simp)
  split at h
  ·rename_i he
   simp only [Zuu] at h; subst h
   simp [Instr.findNow,Zkg hs hu hr h0 he]
  ·rename_i he
   simp only [ZuC] at h
   obtain ⟨io',h1,rfl⟩:=h
   have ih:=ZjM hs hu hr es ds (n + 1) io' (by simpa using hn) (fun i e d a b=>hkey (i + 1) e d (by simpa using a) (by simpa using b)) h1
   simp only [Instr.findNow,Zkg hs hu hr h0 he,ih]
   cases io' <;> simp [Nat.add_assoc,Nat.add_comm 1]
  ·simp at h
 | [],_ :: _,_,_,hn,_,_=>by simp at hn
 | _ :: _,[],_,_,hn,_,_=>by simp at hn
theorem ZcR {kt:TypeId} {kp:KP} (hk:Zbc P kt=some kp) {k:Value} {dk:D} (hr:Rep g w k dk) {es:List MapEntry} {ds:List (D × D)} {io:Option Nat} (hn:es.length=ds.length)
  (hkey:∀ (i:Nat) (e:MapEntry) (d:D × D),es[i]? = some e→ds[i]? = some d→Rep g w e.key d.1) (h:JY kp dk ds=some io) :
  (Instr.findKey kt k es).run P w = .ok (io.bind fun i=>(es[i]?).map fun e=>(i,e.val)) w:=by
 rcases Zed hk with ⟨sk,rfl,hs⟩ | ⟨fs,l,m,rfl,hu,_,_,_,_⟩
 ·obtain ⟨u,hu⟩:∃ u,P.underlying kt=some u:=by rcases Zcg hs with ⟨_,hu⟩ | ⟨_,ik,hu⟩ | ⟨_,hu⟩ <;> exact ⟨_,hu⟩
  have:=ZjM hs hu hr es ds 0 io hn hkey h
  simp only [Nat.zero_add] at this
  simp [Instr.findKey,run_underlying hu,this]
 ·have ha:=ZjI hk hr es ds 0 io hn hkey h
  simp only [Nat.zero_add] at ha
  cases es with
  | nil =>
   cases ds with
   | nil=>simp only [JY,Zuu] at h; subst h; simp [Instr.findKey,run_underlying hu,Instr.findNow]
   | cons=>simp at hn
  | cons e es =>
   have:Instr.findNow (.struct fs) k (e :: es) 0=none:=by
    simp only [Instr.findNow,Instr.sameNow]
   simp only [Instr.findKey,Sem.run_bind,run_underlying hu,Result.andThen_ok,this,ha]
theorem ZeC {σ:St} (hS:KS g σ w) {b:Nat} {es:List (D × D)} (h:ZaT σ b=some es):Jk g w b (.map es):=by
 unfold ZaT at h
 split at h <;> simp at h
 rename_i c hc
 subst h
 exact hS.obj b _ hc
theorem Zm7 {t:TypeId} {z:D} (hz:ZdI P t=some z):∃ zv,(zeroValue t).run P w = .ok zv w∧Rep g w zv z:=by
 unfold ZdI at hz
 cases hi:P.info? t with
 | none=>simp [hi] at hz
 | some i =>
  cases hzz:i.zero with
  | none=>simp [hi,hzz] at hz
  | some zv=>simp only [hi,hzz] at hz; exact ⟨zv,by simp [zeroValue,typeInfo,hi,hzz],ZgT hz⟩
theorem Zgd {a b:Value} {x y:D} (h1:Rep g w a x) (h2:Rep g w b y):Rep g w (.tuple #[a,b]) (.tup [x,y]) :=
 .tup [a,b] _ rfl (Wh.get (.cons h1 (.cons h2 .nil)))
theorem Zm2 {ν:Nat→Nat} {L:Loc} {σ:St} (hS:KS g σ w) {t kt et:TypeId} {kp:KP} {z:D} {ok:Bool} (hu:P.underlying t=some (.map kt et)) (hk:Zbc P kt=some kp) (hz:ZdI P et=some z) {m k:Value} {em ek r:E} {side:Prop}
  (hm:YQ g ν w L m em) (hkk:YQ g ν w L k ek) (hq:qv L σ (.lookup kp z ok) [em,ek]=some (side,r)) (hs:side):∃ v,(Instr.lookup t m k ok).run P w = .ok v w∧YQ g ν w L v r:=by
 obtain ⟨zv,hz1,hz2⟩:=Zm7 (P:=P) (g:=g) (w:=w) hz
 cases em with
 | loc l o=>cases ek <;> simp [qv] at hq
 | when c e=>cases ek <;> simp [qv] at hq
 | d dm =>
  cases ek with
  | loc l o=>cases dm <;> simp [qv] at hq
  | when c e=>cases dm <;> simp [qv] at hq
  | d dk =>
   have hr:Rep g w k dk:=hkk
   cases dm <;> (try (simp [qv] at hq; done))
   ·rename_i b
    simp only [qv] at hq
    split at hq <;> (try (simp at hq; done))
    rename_i es hes
    simp only [ZuC,Zuz] at hq
    obtain ⟨ro,hf,rfl,rfl⟩:=hq
    obtain ⟨hp0,en,clock,hb,hlen,h3,h4,h5,h6⟩:=ZeC hS hes
    obtain ⟨io,hio,hro⟩:=Zk8 hf
    cases hm
    have hfind:=ZcR (P:=P) hk hr (es:=en.toList) (by simpa using hlen) (fun i e d a b=>h3 i e d (by simpa using a) b) hio
    have hck:=Zb2 (P:=P) hk hr hs en.isEmpty
    have hfz:(en.toList=[] )∨True:=.inr trivial
    cases io with
    | none =>
     simp only [Option.bind_none] at hfind hro
     subst hro
     cases ok
     ·exact ⟨zv,by simp [Instr.lookup,run_underlying hu,MapKept.run_getObj_map hb,hck,hfind,hz1],by simpa [JD,YQ] using hz2⟩
     ·exact ⟨.tuple #[zv,.bool false],by simp [Instr.lookup,run_underlying hu,MapKept.run_getObj_map hb,hck,hfind,hz1],by simpa [JD,YQ] using Zgd hz2 (.bool false)⟩
    | some i =>
     obtain ⟨hlt,_⟩:=Zdk hio
     have hlt':i < en.size:=by omega
     have he:en[i]? = some en[i]:=by simp [hlt']
     have hd:es[i]? = some es[i]:=by simp [hlt]
     have hrv:=h4 i _ _ he hd
     simp only [Option.bind_some,hd,Option.map_some] at hro
     subst hro
     simp only [Option.bind_some,Array.getElem?_toList,he,Option.map_some] at hfind
     cases ok
     ·exact ⟨en[i].val,by simp [Instr.lookup,run_underlying hu,MapKept.run_getObj_map hb,hck,hfind],by simpa [JD,YQ] using hrv⟩
     ·exact ⟨.tuple #[en[i].val,.bool true],by simp [Instr.lookup,run_underlying hu,MapKept.run_getObj_map hb,hck,hfind],by simpa [JD,YQ] using Zgd hrv (.bool true)⟩
   ·simp only [qv,Zuu,Zuz] at hq
    obtain ⟨rfl,rfl⟩:=hq
    cases hm
    have hck:=Zb2 (P:=P) hk hr hs true
    have hfind:=ZcR (P:=P) hk hr (es:=[]) (ds:=[]) rfl (fun i e d a b=>by simp at a) (io:=none) rfl
    simp only [Option.bind_none] at hfind
    cases ok
    ·exact ⟨zv,by simp [Instr.lookup,run_underlying hu,hck,hfind,hz1],by simpa [JD,YQ] using hz2⟩
    ·exact ⟨.tuple #[zv,.bool false],by simp [Instr.lookup,run_underlying hu,hck,hfind,hz1],by simpa [JD,YQ] using Zgd hz2 (.bool false)⟩
theorem ZoT {ν:Nat→Nat} {L:Loc} {σ:St} (hS:KS g σ w) {t kt et:TypeId} {ts:Array TypeId} {x:Value} {e r:E} {side:Prop} (ht:ts[0]? = some t) (hu:P.underlying t=some (.map kt et)) (hx:YQ g ν w L x e)
  (hq:qv L σ .lenM [e]=some (side,r)) (hs:side) (ty:TypeId):∃ v,(Builtin.len_ ts ty #[x]).run P w = .ok v w∧YQ g ν w L v r:=by
 cases e with
 | loc l o=>simp [qv] at hq
 | when c e=>simp [qv] at hq
 | d y =>
  cases y <;> (try (simp [qv] at hq; done))
  ·simp only [qv] at hq
   split at hq <;> (try (simp at hq; done))
   rename_i es hes
   simp only [Zuu,Zuz] at hq
   obtain ⟨rfl,rfl⟩:=hq
   obtain ⟨hp0,en,clock,hb,hlen,_⟩:=ZeC hS hes
   cases hx
   exact ⟨.int .i64 es.length,by simp [Builtin.len_,ht,run_underlying hu,MapKept.run_getObj_map hb,goInt,hlen],.int _ _ (Zab hs)⟩
  ·simp only [qv,Zuu,Zuz] at hq
   obtain ⟨rfl,rfl⟩:=hq
   cases hx
   exact ⟨.int .i64 0,by simp [Builtin.len_,ht,run_underlying hu,goInt],.int _ _ (Zab (n:=0) (Nat.zero_le _))⟩
end
end Go.DL
namespace Go.DL
open Go
section
variable {P:Program} {g:G} {ν:Nat→Nat} {w:World} {L:Loc} {σ:St}
theorem ZnG {t:TypeId} {parts:Array (Nat × Operand)} {z:Value} {pl:List (Nat × Nat)} {zs:List D} {ρv:Operand→Value} {es:List E} (hz:(P.info? t).bind (·.zero)=some z)
  (hp:JV P t (parts.toList.map (·.1))=some pl) (hsz:Zhz P t=true) (hzs:Zb4 z.cells.toList=some zs) (hes:Wh (YQ g ν w L) ((parts.toList.map (·.2)).map ρv) es) {side:Prop} {r:E}
  (hq:qv L σ (.build zs pl) es=some (side,r)):∃ v,(Instr.build t (parts.map fun (i,x)=>(i,ρv x))).run P w = .ok v w∧YQ g ν w L v r:=by
 simp only [qv] at hq
 split at hq <;> (try (simp at hq; done))
 rename_i ds hds
 simp only [ZuC,Zuz] at hq
 obtain ⟨cs,hcs,rfl,rfl⟩:=hq
 have hne:∃ d,P.underlying t=some d∧((∃ fs,d = .struct fs)∨∃ m e i,d = .array m e∧P.info? e=some i):=by
  unfold Zhz at hsz
  split at hsz
  ·rename_i fs hu; exact ⟨_,hu,.inl ⟨fs,rfl⟩⟩
  ·rename_i m e hu
   unfold WW at hsz
   cases hi:P.info? e with
   | none=>simp [hi] at hsz
   | some i=>exact ⟨_,hu,.inr ⟨m,e,i,rfl,hi⟩⟩
  ·simp at hsz
 have hreps:=Zar hes hds
 obtain ⟨cv,h1,h2⟩:=Zqg (g:=g) (w:=w) (parts:=parts.toList.map fun (i,x)=>(i,ρv x)) hz (by simpa [List.map_map,Function.comp_def] using hp) hsz hzs
  (by simpa [List.map_map,Function.comp_def] using hreps) hcs hne
 refine ⟨_,?_,h2⟩
 rw [← h1]
 congr 2
 apply Array.ext'
 simp
theorem ZoV {f:Fn} {first caps:Array Operand} {ρv:Operand→Value} {es:List E} (hes:Wh (YQ g ν w L) ((first.toList++caps.toList).map ρv) es) {side:Prop} {r:E}
  (hq:qv L σ (.mkfn f first.size) es=some (side,r)):∃ v,(Instr.makeFunc f (first.map ρv) (caps.map ρv)).run P w = .ok v w∧YQ g ν w L v r:=by
 simp only [qv,ZuC,Zuz] at hq
 obtain ⟨ds,hds,rfl,rfl⟩:=hq
 have h:=Zar hes hds
 have h1:=h.take first.size
 have h2:=h.drop first.size
 have e1:((first.toList++caps.toList).map ρv).take first.size=(first.map ρv).toList:=by simp
 have e2:((first.toList++caps.toList).map ρv).drop first.size=(caps.map ρv).toList:=by simp
 rw [e1] at h1
 rw [e2] at h2
 have:=Rep.fn (g:=g) (w:=w) f _ _ _ _ h1.len h2.len h1.get h2.get
 rw [Array.toArray_toList,Array.toArray_toList] at this
 exact ⟨_,by simp only [Instr.makeFunc,Sem.run_pure],this⟩
theorem Zbz {α:Type} {a:Array α} (h:a.size=1):∃ x,a = #[x]:=by
 obtain ⟨l⟩:=a
 match l,h with
 | [x],_=>exact ⟨x,rfl⟩
theorem Ze9 {α:Type} {a:Array α} (h:a.size=2):∃ x y,a = #[x,y]:=by
 obtain ⟨l⟩:=a
 match l,h with
 | [x,y],_=>exact ⟨x,y,rfl⟩
theorem ZrD {o:Op} {q:Q} {xs:List Operand} (hc:cq P o=some (q,xs)) {ρv:Operand→Value} {es:List E} (hes:Wh (YQ g ν w L) (xs.map ρv) es)
  (hL:∀ l cs,ZU L l=some cs→Qv g w (ν l) cs) (hS:KS g σ w) {side:Prop} {e:E} (hq:qv L σ q es=some (side,e)) (hs:side)
  (dst:Option Nat) (ty:TypeId) (pos:String) (af:Array Edge) (gd:Option (Nat × Bool)) :
  ∃ v,(execOp ρv ⟨dst,o,ty,pos,af,gd⟩).run P w = .ok (.value v) w∧YQ g ν w L v e:=by
 cases o <;> (try (simp [cq] at hc; done))
 case move x =>
  simp only [cq,Zuu,Zuz] at hc
  obtain ⟨rfl,rfl⟩:=hc
  obtain ⟨e0,rfl,h0⟩:=QJ hes
  simp only [qv,Zuu,Zuz] at hq
  obtain ⟨rfl,rfl⟩:=hq
  exact ⟨_,rfl,h0⟩
 case assign x =>
  simp only [cq,Zuu,Zuz] at hc
  obtain ⟨rfl,rfl⟩:=hc
  obtain ⟨e0,rfl,h0⟩:=QJ hes
  simp only [qv,Zuu,Zuz] at hq
  obtain ⟨rfl,rfl⟩:=hq
  exact ⟨_,rfl,h0⟩
 case load t a =>
  simp only [cq] at hc
  split at hc <;> (try (simp at hc; done))
  ·rename_i n ha hsz
   simp only [Zuu,Zuz] at hc
   obtain ⟨rfl,rfl⟩:=hc
   obtain ⟨e0,rfl,h0⟩:=QJ hes
   exact ev (ZnK ha hsz h0 hL hS hq hs)
  ·rename_i n ha hsz
   simp only [Zuu,Zuz] at hc
   obtain ⟨rfl,rfl⟩:=hc
   obtain ⟨e0,rfl,h0⟩:=QJ hes
   exact ev (ZnJ ha h0 hL hS hq)
 case nilCheck x =>
  simp only [cq,Zuu,Zuz] at hc
  obtain ⟨rfl,rfl⟩:=hc
  obtain ⟨e0,rfl,h0⟩:=QJ hes
  exact ZnL rfl h0 hq dst ty pos af gd
 case binOp op t x y yt =>
  simp only [cq,Zuu,Zuz] at hc
  obtain ⟨rfl,rfl⟩:=hc
  obtain ⟨e1,e2,rfl,h1,h2⟩:=Zck hes
  cases e1 with
  | d a =>
   cases e2 with
   | d b =>
    simp only [qv,ZuC,Zuz] at hq
    obtain ⟨⟨s',d⟩,hd,rfl,rfl⟩:=hq
    exact ev (Zrb (P:=P) h1 h2 hd hs)
   | loc l o=>simp [qv] at hq
   | when b e=>simp [qv] at hq
  | loc l o=>cases e2 <;> simp [qv] at hq
  | when b e=>cases e2 <;> simp [qv] at hq
 case unOp op t x =>
  cases op <;> simp only [cq,Zuu,Zuz,reduceCtorEq] at hc
  all_goals obtain ⟨rfl,rfl⟩:=hc
  all_goals obtain ⟨e0,rfl,h0⟩:=QJ hes
  all_goals cases e0 with
   | loc l o=>simp [qv] at hq
   | when b e=>simp [qv] at hq
   | d y=>?_
  ·cases y <;> simp only [qv,reduceCtorEq,Zuu,Zuz] at hq
   obtain ⟨rfl,rfl⟩:=hq
   obtain ⟨hv,hin⟩:=Za4 h0
   exact ev ⟨.int _ _,by simp only [hv,Op.unary,Op.intArith,Sem.run_pure,Int.zero_sub]; rw [Zdv _ _ hs],.int _ _ hs⟩
  ·cases y <;> simp only [qv,reduceCtorEq,Zuu,Zuz] at hq
   obtain ⟨rfl,rfl⟩:=hq
   obtain ⟨hv,hin⟩:=Za4 h0
   exact ev ⟨_,by simp only [hv,Op.unary,Op.intBits,Sem.run_pure]; rfl,.int _ _ (ZkT _ _)⟩
  ·cases y <;> simp only [qv,reduceCtorEq,Zuu,Zuz] at hq
   obtain ⟨rfl,rfl⟩:=hq
   have hv:=Zco h0
   exact ev ⟨_,by simp only [hv,Op.unary,Sem.run_pure],.bool _⟩
 case convert s d x =>
  simp only [cq,ZuC,Zuz] at hc
  obtain ⟨c,hc,rfl,rfl⟩:=hc
  obtain ⟨e0,rfl,h0⟩:=QJ hes
  exact ev (ZoP hc h0 hq hs)
 case fieldAddr s x k =>
  simp only [cq] at hc
  split at hc <;> (try (simp at hc; done))
  rename_i f hf
  split at hc <;> (try (simp at hc; done))
  rename_i n hn
  split at hc <;> (try (simp at hc; done))
  rename_i hn0
  simp only [Zuu,Zuz] at hc
  obtain ⟨rfl,rfl⟩:=hc
  obtain ⟨e0,rfl,h0⟩:=QJ hes
  exact ev (ZnH hf hn hn0 h0 hq)
 case field s x k =>
  simp only [cq] at hc
  split at hc <;> (try (simp at hc; done))
  rename_i f hf
  split at hc <;> (try (simp at hc; done))
  ·rename_i n ha hn
   simp only [Zuu,Zuz] at hc
   obtain ⟨rfl,rfl⟩:=hc
   obtain ⟨e0,rfl,h0⟩:=QJ hes
   exact ev (Zlq hf (.inl ⟨ha,n,hn,rfl⟩) h0 hq hs)
  ·rename_i n ha hn
   simp only [Zuu,Zuz] at hc
   obtain ⟨rfl,rfl⟩:=hc
   obtain ⟨e0,rfl,h0⟩:=QJ hes
   exact ev (Zlq hf (.inr ⟨ha,rfl⟩) h0 hq hs)
 case indexAddr t x i =>
  simp only [cq] at hc
  split at hc <;> (try (simp at hc; done))
  ·rename_i el hu
   simp only [ZuC,Zuz] at hc
   obtain ⟨n,hn,rfl,rfl⟩:=hc
   obtain ⟨e1,e2,rfl,h1,h2⟩:=Zck hes
   exact ev (ZnI hu hn h1 h2 hq hs)
  ·rename_i m el hu
   simp only [ZuC,Zuz] at hc
   obtain ⟨n,hn,rfl,rfl⟩:=hc
   obtain ⟨e1,e2,rfl,h1,h2⟩:=Zck hes
   exact ev (Zm1 hu hn h1 h2 hq hs)
 case index t x i =>
  simp only [cq] at hc
  split at hc <;> (try (simp at hc; done))
  rename_i hu
  simp only [Zuu,Zuz] at hc
  obtain ⟨rfl,rfl⟩:=hc
  obtain ⟨e1,e2,rfl,h1,h2⟩:=Zck hes
  exact ev (ZoQ hu h1 h2 hq hs)
 case extract x k =>
  simp only [cq,Zuu,Zuz] at hc
  obtain ⟨rfl,rfl⟩:=hc
  obtain ⟨e0,rfl,h0⟩:=QJ hes
  cases e0 with
  | loc l o=>simp [qv] at hq
  | when b e=>simp [qv] at hq
  | d y =>
   cases y <;> simp only [qv,reduceCtorEq,ZuC,Zuz] at hq
   obtain ⟨d,hd,rfl,rfl⟩:=hq
   have h0':Rep g w (ρv x) _:=h0
   generalize hz:ρv x=z at h0'
   cases h0' with
   | tup vs _ hn h =>
    obtain ⟨v,hv,hr⟩:=Zdm hn h hd
    exact ev ⟨v,by simp [Instr.extract,hz,hv],hr⟩
 case build t parts =>
  simp only [cq] at hc
  split at hc <;> (try (simp at hc; done))
  rename_i z pl hz hp
  split at hc <;> (try (simp at hc; done))
  rename_i hsz
  simp only [ZuC,Zuz] at hc
  obtain ⟨zs,hzs,rfl,rfl⟩:=hc
  exact ev (ZnG hz hp hsz hzs hes hq)
 case makeFunc f first caps =>
  simp only [cq,Zuu,Zuz] at hc
  obtain ⟨rfl,rfl⟩:=hc
  exact ev (ZoV hes hq)
 case makeInterface t x =>
  simp only [cq] at hc
  split at hc <;> (try (simp at hc; done))
  rename_i d hni hu
  simp only [Zuu,Zuz] at hc
  obtain ⟨rfl,rfl⟩:=hc
  obtain ⟨e0,rfl,h0⟩:=QJ hes
  cases e0 with
  | loc l o=>simp [qv] at hq
  | when b e=>simp [qv] at hq
  | d y =>
   simp only [qv,Zuu,Zuz] at hq
   obtain ⟨rfl,rfl⟩:=hq
   refine ev ⟨.iface t (ρv x),?_,.iface _ _ _ h0⟩
   refine run_makeInterface w t (ρv x) ?_
   unfold Program.concrete
   rw [hu]
   cases d <;> first | rfl | (exact absurd rfl (hni _))
 case slice t x lo hi mx =>
  simp only [cq] at hc
  split at hc <;> (try (simp at hc; done))
  ·rename_i hu
   split at hc <;> (try (simp at hc; done))
   rename_i hmx
   simp only [Zuu,Zuz] at hc
   obtain ⟨rfl,rfl⟩:=hc
   cases mx with
   | some _=>simp at hmx
   | none=>exact ev (Zm3 hu hes hq hs)
  ·rename_i el hu
   split at hc <;> (try (simp at hc; done))
   rename_i hmx
   simp only [ZuC,Zuz] at hc
   obtain ⟨n,hn,rfl,rfl⟩:=hc
   exact ev (ZnM hu hn (by cases mx <;> cases hi <;> simp_all) hes hq hs)
 case typeAssert x xt t ok =>
  simp only [cq] at hc
  split at hc <;> (try (simp at hc; done))
  rename_i d hni hu
  simp only [ZuC,Zuz] at hc
  obtain ⟨z,hz,rfl,rfl⟩:=hc
  obtain ⟨e0,rfl,h0⟩:=QJ hes
  exact ev (ZlL ⟨d,hu,fun ms hm=>hni ms (hm ▸ rfl)⟩ hz h0 hq)
 case lookup t m k ok =>
  simp only [cq] at hc
  split at hc <;> (try (simp at hc; done))
  rename_i kt et hu
  split at hc <;> (try (simp at hc; done))
  rename_i kp z hk hz
  simp only [Zuu,Zuz] at hc
  obtain ⟨rfl,rfl⟩:=hc
  obtain ⟨e1,e2,rfl,h1,h2⟩:=Zck hes
  exact ev (Zm2 hS hu hk hz h1 h2 hq hs)
 case call c =>
  obtain ⟨callee,args,ats⟩:=c
  simp only [cq] at hc
  split at hc <;> (try (simp at hc; done))
  ·split at hc <;> (try (simp at hc; done))
   ·rename_i hu
    simp only [Option.bind_eq_some_iff] at hu
    obtain ⟨t,ht,hu⟩:=hu
    split at hc <;> (try (simp at hc; done))
    rename_i hsz
    obtain ⟨x,rfl⟩:=Zbz hsz
    simp only [Zuu,Zuz] at hc
    obtain ⟨rfl,rfl⟩:=hc
    obtain ⟨e0,rfl,h0⟩:=QJ hes
    obtain ⟨v,r1,r2⟩:=ZoU ht hu h0 hq ty
    exact ⟨v,by simp [execOp,resolve,invoke,builtin,r1],r2⟩
   ·rename_i el hu
    simp only [Option.bind_eq_some_iff] at hu
    obtain ⟨t,ht,hu⟩:=hu
    split at hc <;> (try (simp at hc; done))
    rename_i hsz
    obtain ⟨x,rfl⟩:=Zbz hsz
    simp only [Zuu,Zuz] at hc
    obtain ⟨rfl,rfl⟩:=hc
    obtain ⟨e0,rfl,h0⟩:=QJ hes
    obtain ⟨v,r1,r2⟩:=ZoS ht hu h0 hq ty
    exact ⟨v,by simp [execOp,resolve,invoke,builtin,r1],r2⟩
   ·rename_i n el hu
    simp only [Option.bind_eq_some_iff] at hu
    obtain ⟨t,ht,hu⟩:=hu
    split at hc <;> (try (simp at hc; done))
    rename_i hsz
    obtain ⟨x,rfl⟩:=Zbz hsz
    simp only [Zuu,Zuz] at hc
    obtain ⟨rfl,rfl⟩:=hc
    obtain ⟨e0,rfl,h0⟩:=QJ hes
    obtain ⟨v,r1,r2⟩:=ZoR (x:=ρv x) ht hu hq hs ty
    exact ⟨v,by simp [execOp,resolve,invoke,builtin,r1],r2⟩
   ·rename_i kt el hu
    simp only [Option.bind_eq_some_iff] at hu
    obtain ⟨t,ht,hu⟩:=hu
    split at hc <;> (try (simp at hc; done))
    rename_i hsz
    obtain ⟨x,rfl⟩:=Zbz hsz
    simp only [Zuu,Zuz] at hc
    obtain ⟨rfl,rfl⟩:=hc
    obtain ⟨e0,rfl,h0⟩:=QJ hes
    obtain ⟨v,r1,r2⟩:=ZoT hS ht hu h0 hq hs ty
    exact ⟨v,by simp [execOp,resolve,invoke,builtin,r1],r2⟩
  ·split at hc <;> (try (simp at hc; done))
   rename_i hsz
   obtain ⟨x,y,rfl⟩:=Ze9 hsz
   simp only [Zuu,Zuz] at hc
   obtain ⟨rfl,rfl⟩:=hc
   obtain ⟨e1,e2,rfl,h1,h2⟩:=Zck hes
   obtain ⟨v,r1,r2⟩:=ZhA (P:=P) false h1 h2 hq ats ty
   simp at r1
   exact ⟨v,by simp [execOp,resolve,invoke,builtin,r1],r2⟩
  ·split at hc <;> (try (simp at hc; done))
   rename_i hsz
   obtain ⟨x,y,rfl⟩:=Ze9 hsz
   simp only [Zuu,Zuz] at hc
   obtain ⟨rfl,rfl⟩:=hc
   obtain ⟨e1,e2,rfl,h1,h2⟩:=Zck hes
   obtain ⟨v,r1,r2⟩:=ZhA (P:=P) true h1 h2 hq ats ty
   simp at r1
   exact ⟨v,by simp [execOp,resolve,invoke,builtin,r1],r2⟩
end
end Go.DL
namespace Go.DL
open Go
def J4 (n:Nat):List Nat→Bool
 | []=>true
 | i :: r=>i < n && !r.contains i && J4 n r
def ck (P:Program) (op:Op):Option K :=
 match cq P op with
 | some (q,xs)=>(Zcc xs).map (K.q q)
 | none =>
  match op with
  | .pick c a b=>match WQ c,WQ a,WQ b with
   | some c,some a,some b=>some (.pick c a b)
   | _,_,_=>none
  | .alloc e=>(ZbU P e).map .alloc
  | .box _ x=>(WQ x).map .box
  | .buildSlice t len parts=>match P.underlying t with
   | some (.slice e)=>match WW P e,ZbU P e,Zcc (parts.toList.map (·.2)) with
    | some s,some z,some xs =>
     if J4 len (parts.toList.map (·.1)) && decide (z.length=s) && decide (0 < s) && decide (len * s≤2 ^ 24) then some (.bsl len s z (parts.toList.map (·.1)) xs) else none
    | _,_,_=>none
   | _=>none
  | .convert s d x=>match P.underlying s,P.underlying d with
   | some .string,some (.slice e)=>match P.underlying e with
    | some (.int .u8)=>(WQ x).map .s2b
    | _=>none
   | _,_=>none
  | .store t a v=>match ZbC P t,WW P t,WQ a,WQ v with
   | some true,some n,some a,some v=>some (.storeN n a v)
   | some false,some 1,some a,some v=>some (.store1 a v)
   | _,_,_,_=>none
  | .makeMap _ none=>some .mkmap
  | .mapUpdate t m k x | .insert t m k x=>match P.underlying t with
   | some (.map kt _)=>match Zbc P kt,WQ m,WQ k,WQ x with
    | some kp,some m,some k,some x=>some (.mapupd kp m k x)
    | _,_,_,_=>none
   | _=>none
  | .mapEntry t m k=>match P.underlying t with
   | some (.map kt e)=>match Zbc P kt,ZdI P e,WQ m,WQ k with
    | some kp,some z,some m,some k=>some (.mapent kp z m k)
    | _,_,_,_=>none
   | _=>none
  | .entryStore _ m k x=>match WQ m,WQ k,WQ x with
   | some m,some k,some x=>some (.entst m k x)
   | _,_,_=>none
  | .panic x=>(WQ x).map .panic
  | .defer c=>match c.callee with
   | .value f=>match WQ f,Zcc c.args.toList with
    | some f,some xs=>some (.defer f xs)
    | _,_=>none
   | _=>none
  | .makeSlice t l c=>match P.underlying t with
   | some (.slice e)=>match WW P e,ZbU P e,WQ l,WQ c with
    | some s,some z,some l,some c=>if decide (0 < s) && decide (z.length=s) then some (.mkslice e s (P.bytesOf e) z l c) else none
    | _,_,_,_=>none
   | _=>none
  | .call c=>match c.callee with
   | .value f=>match WQ f,Zcc c.args.toList with
    | some f,some xs=>some (.call f xs)
    | _,_=>none
   | .builtin .append=>match c.argTypes[0]?.bind P.underlying,c.argTypes[1]?.bind P.underlying,c.args.toList with
    | some (.slice e),some t2,[x,y]=>match WW P e,ZbU P e,WQ x,WQ y with
     | some s,some z,some x,some y =>
      match t2 with
      | .slice _ | .string=>if decide (0 < s) && decide (z.length=s) then some (.append e s (P.bytesOf e) z x y) else none
      | _=>none
     | _,_,_,_=>none
    | _,_,_=>none
   | .builtin .recover=>some .recover
   | .builtin .delete=>match c.argTypes[0]?.bind P.underlying,c.args.toList with
    | some (.map kt _),[m,k]=>match Zbc P kt,WQ m,WQ k with
     | some kp,some m,some k=>some (.delete kp m k)
     | _,_,_=>none
    | _,_=>none
   | _=>none
  | _=>none
def ZgP (ops:Array Oper):Option (Nat × Bool)→Option (Option (Nat × Bool))
 | none=>some none
 | some (j,b)=>match (ops[j]?).bind (·.dst) with
  | some t=>some (some (t,b))
  | none=>none
def cop (P:Program) (N:Nat) (ops:Array Oper) (o:Oper):Option DOp :=
 match ck P o.op,ZgP ops o.guard with
 | some k,some g =>
  match o.dst with
  | none=>some ⟨none,g,k⟩
  | some d=>if d < N then some ⟨some d,g,k⟩ else none
 | _,_=>none
def ZbG (P:Program) (N:Nat) (ops:Array Oper):List Nat→Option (List DOp)
 | []=>some []
 | i :: r=>match ops[i]? with
  | some o=>match cop P N ops o,ZbG P N ops r with
   | some d,some ds=>some (d :: ds)
   | _,_=>none
  | none=>none
abbrev Ann:=List (Nat × List Nat)
def Ann.get:Ann→Nat→Option (List Nat)
 | [],_=>none
 | (k,l) :: r,n=>if k=n then some l else Ann.get r n
def Kl:Opd→List Nat
 | .tmp t=>[t]
 | .cst _=>[]
def ZcY (xs:List Opd):List Nat:=xs.flatMap Kl
def KX:K→List Nat
 | .q _ xs=>ZcY xs
 | .pick c a b=>Kl c++Kl a++Kl b
 | .alloc _ | .mkmap | .recover=>[]
 | .box x | .s2b x | .panic x=>Kl x
 | .bsl _ _ _ _ xs=>ZcY xs
 | .store1 a v | .storeN _ a v=>Kl a++Kl v
 | .call f xs | .defer f xs=>Kl f++ZcY xs
 | .append _ _ _ _ x y=>Kl x++Kl y
 | .mapupd _ m k v=>Kl m++Kl k++Kl v
 | .mapent _ _ m k=>Kl m++Kl k
 | .entst m e v=>Kl m++Kl e++Kl v
 | .mkslice _ _ _ _ l c=>Kl l++Kl c
 | .delete _ m k=>Kl m++Kl k
def ZdR:Option (Nat × Bool)→List Nat
 | none=>[]
 | some (t,_)=>[t]
def YO (o:DOp):List Nat:=ZdR o.guard++KX o.k
def Q0:K→Bool
 | .q _ _ | .pick _ _ _ | .bsl _ _ _ _ _ | .s2b _ | .alloc _=>true
 | _=>false
def ZcW:K→Bool
 | .q .load1 _ | .q (.loadN _) _=>true
 | _=>false
def Jw:K→Bool
 | .q .load1 _ | .q (.loadN _) _ | .q (.lookup _ _ _) _ | .q .lenM _=>true
 | _=>false
def Zd2:K→Bool
 | .store1 _ _ | .storeN _ _ _=>true
 | _=>false
def Zoo:K→Bool
 | .alloc _ | .box _=>false
 | _=>true
instance:Inhabited DOp:=⟨⟨none,none,.mkmap⟩⟩
abbrev Tab:=List (DOp × List Nat)
def Tab.op (T:Tab) (i:Nat):DOp:=(T.getD i default).1
def Tab.deps (T:Tab) (i:Nat):List Nat:=(T.getD i default).2
def nd (d:Option Nat) (l:List Nat):Bool :=
 match d with
 | some t=>!l.contains t
 | none=>true
def ndd:Option Nat→Option Nat→Bool
 | some t,some u=>t != u
 | _,_=>true
def ZcX (bs:List Nat):List Nat→Nat
 | []=>0
 | d :: ds=>(bs.getD d 0 ||| (1 <<< d)) ||| ZcX bs ds
def ZhQ:List (List Nat)→List Nat→List Nat
 | [],acc=>acc
 | d :: r,acc=>ZhQ r (acc++[ZcX acc d])
def Zfr (T:Tab) (A:List Nat) (i:Nat):Bool :=
 Q0 (T.op i).k && nd (T.op i).dst (YO (T.op i)) && A.all fun a=>nd (T.op i).dst (YO (T.op a)) && ndd (T.op i).dst (T.op a).dst
def Zjr (T:Tab) (fl:Bool) (Zdi rest:List Nat) (i:Nat):Bool :=
 Zoo (T.op i).k && (rest.all fun r=>(T.deps r).any fun d=>(i :: rest).contains d) &&
  Zdi.all fun a=>nd (T.op i).dst (YO (T.op a)) && ndd (T.op i).dst (T.op a).dst && (fl || !Jw (T.op a).k)
def chk (T:Tab) (ms fl:List Nat):List Nat→List Nat→Bool
 | _,[]=>true
 | A,i :: rest =>
  let Zdi:=A.filter fun a=>!(ms.getD i 0).testBit a
  decide (i < T.length) && ((T.deps i).all fun d=>!(i :: rest).contains d) && !rest.contains i && (Zdi.all fun a=>nd (T.op a).dst (YO (T.op i))) &&
   if Zfr T A i then chk T ms fl (i :: A) rest else Zjr T (fl.contains i) Zdi rest i && chk T ms fl Zdi rest
def Zb8 (o:Oper):List Nat:=(o.after.toList.filter (Region.binds .any ·)).map (·.on)
def ZjB:Nat→List (List Nat)→Bool
 | _,[]=>true
 | i,d :: r=>d.all (fun x=>decide (x < i)) && ZjB (i + 1) r
def ZpH (n:Nat) (order:List Nat):Bool:=(List.range n).all order.contains
def ccD (P:Program) (an:Ann) (N:Nat) (id:Nat) (ops:Array Oper):Option (List Nat × List (DOp × Bool) × Option (List Nat)) :=
 match ZbG P N ops (List.range ops.size),an.get (id + 1000000),an.get id with
 | some l,some order,some kp =>
  let fl:=(an.get (id + 2000000)).getD []
  let ds:=ops.toList.map Zb8
  let T:Tab:=l.zip ds
  if P.follows .mixedOrders && ZjB 0 ds && ZpH ops.size order && chk T (ZhQ ds []) fl [] order then some (order,order.map fun i=>(T.op i,fl.contains i),some kp) else none
 | _,_,_=>none
def cc (P:Program) (an:Ann) (N:Nat):Code→Option DC
 | .skip=>some .skip
 | .region id ops true=>(ccD P an N id ops).map fun x=>.regD x.1 x.2.1 x.2.2
 | .region id ops false=>(ZbG P N ops (List.range ops.size)).map fun l=>.reg l (an.get id)
 | .seq a b=>match cc P an N a,cc P an N b with
  | some x,some y=>some (.seq x y)
  | _,_=>none
 | .cond c a b=>match WQ c,cc P an N a,cc P an N b with
  | some c,some x,some y=>some (.cond c x y)
  | _,_,_=>none
 | .block id a=>(cc P an N a).map (.block id)
 | .loop a=>(cc P an N a).map .loop
 | .exit id=>some (.exit id)
 | .ret=>some .ret
 | .scope a=>(cc P an N a).map .scope
 | .label l=>some (.label l)
 | .goto l=>some (.goto l)
 | .rangeFunc f params a b=>match WQ f,cc P an N a,cc P an N b with
  | some f,some x,some y=>if params.toList.all (· < N) then some (.rangeF f params.toList x y) else none
  | _,_,_=>none
 | _=>none
inductive RV where
 | tmp (t:Nat) | cell1 (t:Nat) | cellN (t n:Nat)
def crv (P:Program):ResultVar→Option RV
 | .tmp t=>some (.tmp t)
 | .cell a t=>match ZbC P t,WW P t with
  | some true,some n=>some (.cellN a n)
  | some false,some _=>some (.cell1 a)
  | _,_=>none
def Zkx (P:Program):List ResultVar→Option (List RV)
 | []=>some []
 | r :: rs=>match crv P r,Zkx P rs with
  | some x,some xs=>some (x :: xs)
  | _,_=>none
structure DF where
 n:Nat
 res:List RV
 body:DC
def cf (P:Program) (an:Ann) (f:FuncId):Option DF :=
 match P.funcs[f]? with
 | some fn=>match fn.body with
  | some c=>if fn.name == "runtime.NumGoroutine" then none else
   match Zkx P fn.results.toList,cc P an fn.ntmps c with
   | some rs,some d=>some ⟨fn.ntmps,rs,d⟩
   | _,_=>none
  | none=>none
 | none=>none
def Qu:Bool→Bool→Bool
 | b,true=>b
 | b,false=>!b
def Yu (ρ:Env):Option (Nat × Bool)→Option Bool
 | none=>some true
 | some (t,want)=>match WN ρ t with
  | some (.d (.bool b))=>some (Qu b want)
  | some (.when c (.d (.bool b)))=>some (c && Qu b want)
  | _=>none
def YW (ρ:Env) (c:Bool):Opd→Option (Prop × E)
 | .cst d=>some (True,.d d)
 | .tmp t=>match WN ρ t with
  | some (.when c' e)=>some (c=true→c'=true,e)
  | some e=>some (True,e)
  | none=>none
def KT (ρ:Env) (c:Bool):List Opd→Option (Prop × List E)
 | []=>some (True,[])
 | x :: xs=>match YW ρ c x,KT ρ c xs with
  | some (p,e),some (q,es)=>some (p∧q,e :: es)
  | _,_=>none
def Wi (ρ:Env) (dst:Option Nat) (e:E):Env :=
 match dst with
 | some t=>(t,e) :: ρ
 | none=>ρ
inductive SR where
 | ok (side:Prop) (ρ:Env) (L:Loc) (s:St)
 | all (side:Prop) (pre:Nat→Prop) (ρ:Nat→Env) (s:Nat→St)
 | stop
def Zff (L:Loc) (l:Nat):Bool:=(ZU L l).isSome
def Ze0 (ρ:Env) (c:Bool) (x a b:Opd):Option (Prop × Bool) :=
 match YW ρ c x with
 | some (p,.d (.bool v)) =>
  match YW ρ (c && v) a,YW ρ (c && !v) b with
  | some (pa,.d (.bool y)),some (pb,.d (.bool z))=>some (p∧pa∧pb,if v then y else z)
  | _,_=>none
 | _=>none
def Wy (zero:List D) (ps:List (Nat × D)) (i:Nat):List D :=
 match ps with
 | []=>zero
 | (k,d) :: r=>if k=i then cellsOf d else Wy zero r i
def Za1 (s:Nat):List D→Bool
 | []=>true
 | d :: r=>ZaM d && decide ((cellsOf d).length=s) && Za1 s r
def ZbV (z:List D) (n:Nat):List D:=(List.replicate n z).flatten
def Zau (ρ:Env) (L:Loc) (s:St) (p q ok:Prop) (a:E) (n:Nat) (xs:List D):SR :=
 match a with
 | .loc l off=>match ZU L l with
  | some cs=>.ok (p∧q∧off + n≤cs.length∧ok) ρ ((l,KR cs off xs) :: L) s
  | none=>.stop
 | .d (.ptr b off)=>match Zad s b with
  | some cs=>.ok (p∧q∧off + n≤cs.length∧ok) ρ L (s.upd b (.cells (KR cs off xs)))
  | none=>.stop
 | _=>.stop
def Zf2 (kp:KP) (k z:D):List (D × D)→Option D
 | []=>some z
 | e :: r=>match JM kp k e.1 with
  | some true=>some e.2
  | some false=>Zf2 kp k z r
  | none=>none
def Y8 (o:DOp) (ρ:Env) (L:Loc) (s:St):SR :=
 match Yu ρ o.guard with
 | none=>.stop
 | some c =>
  match o.k with
  | .q q xs=>match KT ρ c xs with
   | some (p,es)=>match qv L s q es with
    | some (side,e)=>match o.guard with
     | none=>.ok (p∧side) (Wi ρ o.dst e) L s
     | some _=>.ok (c=true→p∧side) (Wi ρ o.dst (.when c e)) L s
    | none=>.stop
   | none=>.stop
  | .pick x a b=>match Ze0 ρ c x a b with
   | some (p,v)=>match o.guard with
    | none=>.ok p (Wi ρ o.dst (.d (.bool v))) L s
    | some _=>.ok (c=true→p) (Wi ρ o.dst (.when c (.d (.bool v)))) L s
   | none=>.stop
  | .alloc z=>match o.guard,o.dst with
   | none,some t=>.ok (Zff L t=false) ((t,.loc t 0) :: ρ) ((t,z) :: L) s
   | _,_=>.stop
  | .box x=>match o.guard,o.dst,YW ρ true x with
   | none,some t,some (p,.d v)=>.ok (p∧Zff L t=false∧ZaM v=true) ((t,.loc t 0) :: ρ) ((t,cellsOf v) :: L) s
   | _,_,_=>.stop
  | .bsl len n z is xs=>match KT ρ c xs with
   | some (p,es)=>match Q3 es with
    | some ds=>match o.guard with
     | none=>.ok (p∧Za1 n ds=true) (Wi ρ o.dst (.d (.sl .full len n (Wy z (is.zip ds))))) L s
     | some _=>.ok (c=true→p∧Za1 n ds=true) (Wi ρ o.dst (.when c (.d (.sl .full len n (Wy z (is.zip ds)))))) L s
    | none=>.stop
   | none=>.stop
  | .s2b x=>match YW ρ c x with
   | some (p,.d (.str l))=>match o.guard with
    | none=>.ok p (Wi ρ o.dst (.d (.sl .none l.length 1 (fun i=>[.int .u8 ((l.getD i 0).toNat:Int)])))) L s
    | some _=>.ok (c=true→p) (Wi ρ o.dst (.when c (.d (.sl .none l.length 1 (fun i=>[.int .u8 ((l.getD i 0).toNat:Int)]))))) L s
   | _=>.stop
  | .store1 a v=>match o.guard,o.dst,YW ρ true a,YW ρ true v with
   | none,none,some (p,a),some (q,.d x)=>Zau ρ L s p q (Za0 x=true) a 1 [x]
   | _,_,_,_=>.stop
  | .storeN n a v=>match o.guard,o.dst,YW ρ true a,YW ρ true v with
   | none,none,some (p,a),some (q,.d (.agg xs))=>Zau ρ L s p q (xs.length=n) a n xs
   | _,_,_,_=>.stop
  | .mkmap=>match o.guard,o.dst with
   | none,some t=>.all True (fun b=>s b=none) (fun b=>(t,.d (.map b)) :: ρ) (fun b=>s.upd b (.map []))
   | _,_=>.stop
  | .mkslice _ n bytes z l h=>match o.guard,o.dst,YW ρ true l,YW ρ true h with
   | none,some t,some (p,.d (.int _ l)),some (q,.d (.int _ h)) =>
    .all (p∧q∧0≤l∧l≤h∧(bytes:Int) * h≤140737488355328∧h≤big) (fun b=>s b=none) (fun b=>(t,.d (.msl b 0 l.toNat h.toNat n)) :: ρ) (fun b=>s.upd b (.cells (ZbV z h.toNat)))
   | _,_,_,_=>.stop
  | .mapupd kp m k v=>match o.guard,o.dst,YW ρ true m,YW ρ true k,YW ρ true v with
   | none,none,some (p,.d (.map b)),some (q,.d dk),some (r,.d dv)=>match ZaT s b with
    | some es=>match Zbp kp dk dv es with
     | some es'=>.ok (p∧q∧r∧ZaI kp dk=true) ρ L (s.upd b (.map es'))
     | none=>.stop
    | none=>.stop
   | _,_,_,_,_=>.stop
  | .delete kp m k=>match o.guard,o.dst,YW ρ true m,YW ρ true k with
   | none,none,some (p,.d (.map b)),some (q,.d dk)=>match ZaT s b with
    | some es=>match ZiS kp dk es with
     | some es'=>.ok (p∧q∧ZaI kp dk=true) ρ L (s.upd b (.map es'))
     | none=>.stop
    | none=>.stop
   | _,_,_,_=>.stop
  | .mapent kp z m k=>match o.guard,o.dst,YW ρ true m,YW ρ true k with
   | none,some t,some (p,.d (.map b)),some (q,.d dk)=>match ZaT s b with
    | some es=>match Zf2 kp dk z es with
     | some v=>.all (p∧q∧ZaI kp dk=true) (fun _=>True) (fun n=>(t,.d (.tup [v,.stamp n])) :: ρ) (fun n=>s.upd b (.mapE kp es dk n))
     | none=>.stop
    | none=>.stop
   | _,_,_,_=>.stop
  | .entst m st v=>match o.guard,o.dst,YW ρ true m,YW ρ true st,YW ρ true v with
   | none,none,some (p,.d (.map b)),some (q,.d (.stamp n)),some (r,.d dv)=>match s b with
    | some (.mapE kp es dk n')=>match Zbp kp dk dv es with
     | some es'=>.ok (p∧q∧r∧n=n') ρ L (s.upd b (.map es'))
     | none=>.stop
    | _=>.stop
   | _,_,_,_,_=>.stop
  | _=>.stop
def ZgV (K:Env→Loc→St→Prop) (X:List DOp→Env→Loc→St→Prop):List DOp→Env→Loc→St→Prop
 | [],ρ,L,s=>K ρ L s
 | o :: os,ρ,L,s=>match Y8 o ρ L s with
  | .ok side ρ' L' s'=>side∧ZgV K X os ρ' L' s'
  | .all side pre ρ' s'=>side∧∀ b,pre b→ZgV K X os (ρ' b) L (s' b)
  | .stop=>X (o :: os) ρ L s
inductive Rd where
 | blk (b:Nat)
 | loc (l:Nat)
def Za2:E→List Rd
 | .d (.ptr b _)=>[.blk b]
 | .d (.map b)=>[.blk b]
 | .loc l _=>[.loc l]
 | _=>[]
def Qn (o:DOp) (ρ:Env):List Rd :=
 match o.k with
 | .q q xs=>if Jw (.q q xs) then match Yu ρ o.guard with
  | some c=>match KT ρ c xs with
   | some (_,e :: _)=>Za2 e
   | _=>[]
  | none=>[]
  else []
 | _=>[]
def Jy (s s':St) (L L':Loc):List Rd→Prop
 | []=>True
 | .blk b :: B=>s' b=s b∧Jy s s' L L' B
 | .loc l :: B=>ZU L' l=ZU L l∧Jy s s' L L' B
def Qx (fl:Bool) (s s':St) (L L':Loc) (B:List Rd):Prop:=if fl then Jy s s' L L' B else True
def Jn (fl:Bool) (B:List Rd):List Rd:=if fl then B else []
def ZfZ (K:Env→Loc→St→Prop) (X:List (DOp × Bool)→Env→Loc→St→List Rd→Prop):List (DOp × Bool)→Env→Loc→St→List Rd→Prop
 | [],ρ,L,s,_=>K ρ L s
 | o :: os,ρ,L,s,B=>match Y8 o.1 ρ L s with
  | .ok side ρ' L' s'=>if Q0 o.1.k then side∧ZfZ K X os ρ' L' s' (Qn o.1 ρ++B) else side∧Qx o.2 s s' L L' B∧ZfZ K X os ρ' L' s' (Qn o.1 ρ++Jn o.2 B)
  | .all side pre ρ' s'=>side∧∀ b,pre b→Qx o.2 s (s' b) L L B∧ZfZ K X os (ρ' b) L (s' b) (Jn o.2 B)
  | .stop=>X (o :: os) ρ L s B
def ZaK:E→List Nat
 | .loc l _=>[l]
 | .when _ e=>ZaK e
 | _=>[]
def QA (ρ:Env):List Nat→Env
 | []=>[]
 | k :: ks=>match WN ρ k with
  | some e=>(k,e) :: QA ρ ks
  | none=>QA ρ ks
def Zby (L:Loc):List Nat→Loc
 | []=>[]
 | l :: ls=>match ZU L l with
  | some cs=>(l,cs) :: Zby L ls
  | none=>Zby L ls
def ZcT (ρ:Env) (L:Loc):Loc:=Zby L (ρ.flatMap fun x=>ZaK x.2)
end Go.DL
namespace Go.DL
open Go
def qm (d a:Nat):DOp:=⟨some d,none,.q .mv [.tmp a]⟩
def qi (d:Nat) (n:Int):DOp:=⟨some d,none,.q .mv [.cst (.int .i64 n)]⟩
def qb (d:Nat) (b:Bool):DOp:=⟨some d,none,.q .mv [.cst (.bool b)]⟩
def ql (d a:Nat):DOp:=⟨some d,none,.q .load1 [.tmp a]⟩
def qL (d n a:Nat):DOp:=⟨some d,none,.q (.loadN n) [.tmp a]⟩
def qa (d k a:Nat):DOp:=⟨some d,none,.q (.faddr k) [.tmp a]⟩
def qx (d k a:Nat):DOp:=⟨some d,none,.q (.ext k) [.tmp a]⟩
def qX (d k a b:Nat):DOp:=⟨some d,none,.q (.iaddr k) [.tmp a,.tmp b]⟩
def qk (d:Nat) (q:Q) (a:Nat):DOp:=⟨some d,none,.q q [.tmp a]⟩
def qd (d:Nat) (o:BinOp) (a b:Nat):DOp:=⟨some d,none,.q (.bin o none) [.tmp a,.tmp b]⟩
def qe (d:Nat) (o:BinOp) (a:Nat) (n:Int):DOp:=⟨some d,none,.q (.bin o none) [.tmp a,.cst (.int .i64 n)]⟩
def qo (d c a:Nat):DOp:=⟨some d,none,.pick (.tmp c) (.cst (.bool true)) (.tmp a)⟩
def qO (d c a:Nat):DOp:=⟨some d,none,.pick (.tmp c) (.tmp a) (.cst (.bool false))⟩
def qf (d f:Nat) (a:List Opd):DOp:=⟨some d,none,.call (.cst (.fn (.func f) [] [])) a⟩
def qB (d a:Nat):DOp:=⟨some d,none,.box (.tmp a)⟩
def qS (n a b:Nat):DOp:=⟨none,none,.storeN n (.tmp a) (.tmp b)⟩
def qs (a b:Nat):DOp:=⟨none,none,.store1 (.tmp a) (.tmp b)⟩
def qy (g:Nat) (o:DOp):DOp:=⟨o.dst,some (g,true),o.k⟩
def qn (g:Nat) (o:DOp):DOp:=⟨o.dst,some (g,false),o.k⟩
abbrev qR (l:List DOp) (k:List Nat):DC:=.reg l (some k)
abbrev qC (c:Nat) (a b:DC):DC:=.cond (.tmp c) a b
end Go.DL
namespace Go.DL
open Go
structure Zoj (P:Program) where
 T:G→World→Machine→Prop
 back:∀ g w m m',Steps P m m'→T g w m'→T g w m
 ext:∀ g w g' w' m,Ext g w g' w'→T g' w' m→T g w m
structure Fr (P:Program) where
 T:Zoj P
 b:Frame
 cs:List Frame
 N:Nat
 ds:List Deferred
 an:Ann
inductive Z4 where
 | code (c:DC)
 | inBlock (id:Nat)
 | inLoop (c:DC)
 | inScope (c:DC)
 | beginR
inductive Q1 (P:Program) (an:Ann) (N:Nat):List Item→List Z4→Prop where
 | nil:Q1 P an N [] []
 | code {c d k dk} (h:cc P an N c=some d) (t:Q1 P an N k dk):Q1 P an N (.code c :: k) (.code d :: dk)
 | inBlock {id k dk} (t:Q1 P an N k dk):Q1 P an N (.inBlock id :: k) (.inBlock id :: dk)
 | inLoop {c d k dk} (h:cc P an N c=some d) (t:Q1 P an N k dk):Q1 P an N (.inLoop c :: k) (.inLoop d :: dk)
 | inScope {c d k dk} (h:cc P an N c=some d) (t:Q1 P an N k dk):Q1 P an N (.inScope c :: k) (.inScope d :: dk)
 | beginR {k dk} (t:Q1 P an N k dk):Q1 P an N (.beginRound :: k) (.beginR :: dk)
section
variable {P:Program}
theorem ZnS {b:Frame} {a:Act} {k:List Item} {cs:List Frame} {w:World} {c:Code}:step P (lone (b.atR a (.code (.scope c) :: k)) cs w) = .next (lone (b.atR a (.code c :: .inScope c :: k)) cs w) :=
 step_lone_go (by simp [stepG,stepG.exec,Frame.atR])
def Za8 (F:Fr P) (todo:List Item) (ρ:Env) (L:Loc) (s:St):Prop :=
 ∀ g ν w tmps,F.N≤tmps.size→Yg g ν w tmps ρ L s→F.T.T g w (lone (F.b.atR ⟨tmps,F.ds⟩ todo) F.cs w)
def ZT (F:Fr P) (dk:List Z4) (ρ:Env) (L:Loc) (s:St):Prop:=∀ k,Q1 P F.an F.N k dk→Za8 F k ρ L s
def DO (F:Fr P) (_keep:Option (List Nat)) (dk:List Z4) (os:List DOp) (ρ:Env) (L:Loc) (s:St):Prop :=
 ∀ ops is k,ZbG P F.N ops is=some os→Q1 P F.an F.N k dk→Za8 F (.inRegion ops is :: k) ρ L s
theorem Za8.step {F:Fr P} {k k':List Item} {ρ:Env} {L:Loc} {s:St} (h:∀ a w,step P (lone (F.b.atR a k) F.cs w) = .next (lone (F.b.atR a k') F.cs w)) (h':Za8 F k' ρ L s):Za8 F k ρ L s :=
 fun g ν w tmps hN m=>F.T.back _ _ _ _ (.one (h _ w)) (h' g ν w tmps hN m)
theorem Zrj {an:Ann} {N:Nat} {c:Code} (h:cc P an N c=some .skip):c = .skip:=by
 unfold cc at h; split at h <;> simp_all
 all_goals (split at h <;> simp at h)
theorem Zpf {an:Ann} {N:Nat} {c:Code} (h:cc P an N c=some .ret):c = .ret:=by
 unfold cc at h; split at h <;> simp_all
 all_goals (split at h <;> simp at h)
theorem Zn0 {an:Ann} {N id:Nat} {c:Code} (h:cc P an N c=some (.exit id)):c = .exit id:=by
 unfold cc at h; split at h <;> simp_all
 all_goals (split at h <;> simp at h)
theorem Zr1 {an:Ann} {N:Nat} {c:Code} {x y:DC} (h:cc P an N c=some (.seq x y)):∃ a b,c = .seq a b∧cc P an N a=some x∧cc P an N b=some y:=by
 unfold cc at h; split at h <;> simp_all
 all_goals (split at h <;> simp_all)
 exact ⟨_,_,⟨rfl,rfl⟩,‹_›,‹_›⟩
theorem Zrg {an:Ann} {N:Nat} {c:Code} {x y:DC} {o:Opd} (h:cc P an N c=some (.cond o x y)):∃ o' a b,c = .cond o' a b∧WQ o'=some o∧cc P an N a=some x∧cc P an N b=some y:=by
 unfold cc at h; split at h <;> simp_all
 all_goals (split at h <;> simp_all)
 exact ⟨_,_,_,⟨rfl,rfl,rfl⟩,‹_›,‹_›,‹_›⟩
theorem Zqi {an:Ann} {N id:Nat} {c:Code} {x:DC} (h:cc P an N c=some (.block id x)):∃ a,c = .block id a∧cc P an N a=some x:=by
 unfold cc at h; split at h <;> simp_all
 all_goals (split at h <;> simp at h)
theorem Zrh {an:Ann} {N:Nat} {c:Code} {x:DC} (h:cc P an N c=some (.loop x)):∃ a,c = .loop a∧cc P an N a=some x:=by
 unfold cc at h; split at h <;> simp_all
 all_goals (split at h <;> simp at h)
theorem Zr0 {an:Ann} {N:Nat} {c:Code} {os:List DOp} {ks:Option (List Nat)} (h:cc P an N c=some (.reg os ks)) :
  ∃ id ops,c = .region id ops false∧ZbG P N ops (List.range ops.size)=some os∧an.get id=ks:=by
 unfold cc at h; split at h <;> simp_all
 ·obtain ⟨a,h1,rfl,h2⟩:=h; exact ⟨_,_,⟨rfl,rfl⟩,h1,h2⟩
 all_goals (split at h <;> simp at h)
theorem Zqk {an:Ann} {N:Nat} {c:Code} {x:DC} (h:cc P an N c=some (.scope x)):∃ a,c = .scope a∧cc P an N a=some x:=by
 unfold cc at h; split at h <;> simp_all
 all_goals (split at h <;> simp at h)
theorem Zqj {an:Ann} {N l:Nat} {c:Code} (h:cc P an N c=some (.label l)):c = .label l:=by
 unfold cc at h; split at h <;> simp_all
 all_goals (split at h <;> simp at h)
theorem Zpe {an:Ann} {N:Nat} {c:Code} {f:Opd} {ps:List Nat} {x y:DC} (h:cc P an N c=some (.rangeF f ps x y)) :
  ∃ f' ps' a b,c = .rangeFunc f' ps' a b∧WQ f'=some f∧ps'.toList=ps∧cc P an N a=some x∧cc P an N b=some y∧∀ t∈ps,t < N:=by
 unfold cc at h; split at h <;> simp_all
 all_goals (split at h <;> simp_all)
 obtain ⟨hall,rfl,rfl,rfl,rfl⟩:=h
 exact ⟨_,_,_,_,⟨rfl,rfl,rfl,rfl⟩,‹_›,rfl,‹_›,‹_›,fun t ht=>by obtain ⟨i,hi,rfl⟩:=ZuJ ht; simpa using hall i (by simpa using hi)⟩
theorem Zg {F:Fr P} {dk:List Z4} {ρ:Env} {L:Loc} {s:St} (h:ZT F dk ρ L s):ZT F (.code .skip :: dk) ρ L s:=by
 intro k hk
 cases hk with
 | code hc ht=>obtain rfl:=Zrj hc; exact Za8.step (fun a w=>stepR_skip) (h _ ht)
theorem Zm {F:Fr P} {id:Nat} {dk:List Z4} {ρ:Env} {L:Loc} {s:St} (h:ZT F dk ρ L s):ZT F (.inBlock id :: dk) ρ L s:=by
 intro k hk
 cases hk with
 | inBlock ht=>exact Za8.step (fun a w=>stepR_inBlock) (h _ ht)
theorem Za {F:Fr P} {x y:DC} {dk:List Z4} {ρ:Env} {L:Loc} {s:St} (h:ZT F (.code x :: .code y :: dk) ρ L s):ZT F (.code (.seq x y) :: dk) ρ L s:=by
 intro k hk
 cases hk with
 | code hc ht=>obtain ⟨a,b,rfl,ha,hb⟩:=Zr1 hc; exact Za8.step (fun a w=>stepR_seq) (h _ (.code ha (.code hb ht)))
theorem Zj {F:Fr P} {id:Nat} {x:DC} {dk:List Z4} {ρ:Env} {L:Loc} {s:St} (h:ZT F (.code x :: .inBlock id :: dk) ρ L s):ZT F (.code (.block id x) :: dk) ρ L s:=by
 intro k hk
 cases hk with
 | code hc ht=>obtain ⟨a,rfl,ha⟩:=Zqi hc; exact Za8.step (fun a w=>stepR_block) (h _ (.code ha (.inBlock ht)))
theorem ZX {F:Fr P} {x:DC} {dk:List Z4} {ρ:Env} {L:Loc} {s:St} (h:ZT F (.code x :: .inLoop x :: dk) ρ L s):ZT F (.code (.loop x) :: dk) ρ L s:=by
 intro k hk
 cases hk with
 | code hc ht=>obtain ⟨a,rfl,ha⟩:=Zrh hc; exact Za8.step (fun a w=>stepR_loop) (h _ (.code ha (.inLoop ha ht)))
theorem Zy {F:Fr P} {x:DC} {dk:List Z4} {ρ:Env} {L:Loc} {s:St} (h:ZT F (.code x :: .inLoop x :: dk) ρ L s):ZT F (.inLoop x :: dk) ρ L s:=by
 intro k hk
 cases hk with
 | inLoop hc ht=>exact Za8.step (fun a w=>stepR_inLoop) (h _ (.code hc (.inLoop hc ht)))
theorem Zjh {F:Fr P} {x:DC} {dk:List Z4} {ρ:Env} {L:Loc} {s:St} (h:ZT F (.code x :: .inScope x :: dk) ρ L s):ZT F (.code (.scope x) :: dk) ρ L s:=by
 intro k hk
 cases hk with
 | code hc ht=>obtain ⟨a,rfl,ha⟩:=Zqk hc; exact Za8.step (fun a w=>ZnS) (h _ (.code ha (.inScope ha ht)))
theorem Zjg {F:Fr P} {l:Nat} {dk:List Z4} {ρ:Env} {L:Loc} {s:St} (h:ZT F dk ρ L s):ZT F (.code (.label l) :: dk) ρ L s:=by
 intro k hk
 cases hk with
 | code hc ht=>obtain rfl:=Zqj hc; exact Za8.step (fun a w=>stepR_label) (h _ ht)
def QO:DC→Nat→Option DC
 | .seq a b,l=>match QO a l with
  | some r=>some (.seq r b)
  | none=>QO b l
 | .label l',l=>if l'=l then some .skip else none
 | _,_=>none
theorem Zr7 {an:Ann} {N l:Nat}:∀ {c:Code} {d:DC},cc P an N c=some d→(∀ d',QO d l=some d'→∃ c',findLabel c l=some c'∧cc P an N c'=some d')∧(QO d l=none→findLabel c l=none):=by
 intro c
 induction c with
 | seq a b iha ihb =>
  intro d h
  unfold cc at h
  split at h <;> simp only [Zuu,reduceCtorEq] at h
  rename_i x y hx hy
  subst h
  obtain ⟨a1,a2⟩:=iha hx
  obtain ⟨b1,b2⟩:=ihb hy
  refine ⟨fun d' hd=>?_,fun hd=>?_⟩
  ·simp only [QO] at hd
   cases hfa:QO x l with
   | some r =>
    simp only [hfa,Zuu] at hd
    obtain ⟨c',h1,h2⟩:=a1 r hfa
    subst hd
    exact ⟨.seq c' b,by simp [findLabel,h1],by simp [cc,h2,hy]⟩
   | none =>
    simp only [hfa] at hd
    obtain ⟨c',h1,h2⟩:=b1 d' hd
    exact ⟨c',by simp [findLabel,a2 hfa,h1],h2⟩
  ·simp only [QO] at hd
   cases hfa:QO x l with
   | some r=>simp [hfa] at hd
   | none=>simp only [hfa] at hd; simp [findLabel,a2 hfa,b2 hd]
 | label l' =>
  intro d h
  simp only [cc,Zuu] at h
  subst h
  refine ⟨fun d' hd=>?_,fun hd=>?_⟩
  ·simp only [QO] at hd
   split at hd <;> simp only [Zuu,reduceCtorEq] at hd
   rename_i hl
   subst hd
   exact ⟨.skip,by simp [findLabel,hl],rfl⟩
  ·simp only [QO] at hd
   split at hd <;> simp at hd
   rename_i hl
   simp [findLabel,hl]
 | region id ops dr =>
  intro d h
  refine ⟨fun d' hd=>?_,fun _=>rfl⟩
  cases dr <;> simp only [cc,ZuC] at h <;> (obtain ⟨_,_,rfl⟩:=h; simp [QO] at hd)
 | _ =>
  intro d h
  refine ⟨fun d' hd=>?_,fun _=>rfl⟩
  first
   | (simp [cc] at h; done)
   | (simp only [cc,ZuC] at h; obtain ⟨_,_,rfl⟩:=h; simp [QO] at hd; done)
   | (simp only [cc,Zuu] at h; subst h; simp [QO] at hd; done)
   | (simp only [cc] at h; split at h <;> (try (split at h)) <;> simp only [Zuu,reduceCtorEq] at h <;> (subst h; simp [QO] at hd))
def Zax (id:Nat):List Z4→Option (List Z4)
 | .inBlock id' :: k=>if id'=id then some k else Zax id k
 | _ :: k=>Zax id k
 | []=>none
theorem Zdh {an:Ann} {N id:Nat}:∀ {k:List Item} {dk dk':List Z4},Q1 P an N k dk→Zax id dk=some dk'→∃ k',exitTo id k=some k'∧Q1 P an N k' dk'
 | _,_,_,.nil,h=>by simp [Zax] at h
 | _,_,_,.code _ t,h=>by simp only [Zax] at h; obtain ⟨k',h1,h2⟩:=Zdh t h; exact ⟨k',by simpa [exitTo] using h1,h2⟩
 | _,_,_,.inLoop _ t,h=>by simp only [Zax] at h; obtain ⟨k',h1,h2⟩:=Zdh t h; exact ⟨k',by simpa [exitTo] using h1,h2⟩
 | _,_,_,.inScope _ t,h=>by simp only [Zax] at h; obtain ⟨k',h1,h2⟩:=Zdh t h; exact ⟨k',by simpa [exitTo] using h1,h2⟩
 | _,_,_,.beginR t,h=>by simp only [Zax] at h; obtain ⟨k',h1,h2⟩:=Zdh t h; exact ⟨k',by simpa [exitTo] using h1,h2⟩
 | _,_,_,.inBlock (id:=id') t,h=>by
  simp only [Zax] at h
  by_cases hid:id'=id
  ·simp only [hid,if_true,Zuu] at h
   subst h
   exact ⟨_,by simp [exitTo,hid],t⟩
  ·simp only [hid,if_false] at h
   obtain ⟨k',h1,h2⟩:=Zdh t h
   exact ⟨k',by simpa [exitTo,hid] using h1,h2⟩
theorem ZbS {an:Ann} {N id:Nat}:∀ {k:List Item} {dk:List Z4},Q1 P an N k dk→Zax id dk=none→exitTo id k=none
 | _,_,.nil,_=>rfl
 | _,_,.code _ t,h=>by simp only [Zax] at h; simpa [exitTo] using ZbS t h
 | _,_,.inLoop _ t,h=>by simp only [Zax] at h; simpa [exitTo] using ZbS t h
 | _,_,.inScope _ t,h=>by simp only [Zax] at h; simpa [exitTo] using ZbS t h
 | _,_,.beginR t,h=>by simp only [Zax] at h; simpa [exitTo] using ZbS t h
 | _,_,.inBlock (id:=id') t,h=>by
  simp only [Zax] at h
  by_cases hid:id'=id
  ·simp [hid] at h
  ·simp only [hid,if_false] at h
   simpa [exitTo,hid] using ZbS t h
theorem ZQ {F:Fr P} {id:Nat} {dk dk':List Z4} {ρ:Env} {L:Loc} {s:St} (he:Zax id dk=some dk') (h:ZT F dk' ρ L s):ZT F (.code (.exit id) :: dk) ρ L s:=by
 intro k hk
 cases hk with
 | code hc ht =>
  obtain rfl:=Zn0 hc
  obtain ⟨k',h1,h2⟩:=Zdh ht he
  exact Za8.step (fun a w=>stepR_exit h1) (h _ h2)
theorem K2 {g:G} {ν:Nat→Nat} {w:World} {tmps:Array Value} {ρ:Env} {L:Loc} {s:St} (m:Yg g ν w tmps ρ L s) {x:Operand} {y:Opd} (hc:WQ x=some y) {c:Bool} (hcond:c=true)
  {p:Prop} {e:E} (ha:YW ρ c y=some (p,e)) (hp:p) (ds:List Deferred):YQ g ν w L ((Act.mk tmps ds).eval x) e:=by
 cases x with
 | tmp t =>
  simp only [WQ,Zuu] at hc
  subst hc
  simp only [YW] at ha
  split at ha
  ·rename_i c' e' hg
   simp only [Zuu,Zuz] at ha
   obtain ⟨rfl,rfl⟩:=ha
   exact (m.env t _ hg).1 (hp hcond)
  ·rename_i e' hne hg
   simp only [Zuu,Zuz] at ha
   obtain ⟨rfl,rfl⟩:=ha
   exact m.env t _ hg
  ·simp at ha
 | const v =>
  simp only [WQ,ZuC] at hc
  obtain ⟨d,hd,rfl⟩:=hc
  simp only [YW,Zuu,Zuz] at ha
  obtain ⟨rfl,rfl⟩:=ha
  exact ZgT hd
 | func f =>
  simp only [WQ,Zuu] at hc
  subst hc
  simp only [YW,Zuu,Zuz] at ha
  obtain ⟨rfl,rfl⟩:=ha
  exact .fn (.func f) [] [] [] [] rfl rfl (fun i v d h=>by simp at h) (fun i v d h=>by simp at h)
 | global g=>simp [WQ] at hc
theorem Zen {g:G} {ν:Nat→Nat} {w:World} {tmps:Array Value} {ρ:Env} {L:Loc} {s:St} (m:Yg g ν w tmps ρ L s) {c:Bool} (hcond:c=true) (ds:List Deferred) :
  ∀ {xs:List Operand} {ys:List Opd} {p:Prop} {es:List E},Zcc xs=some ys→KT ρ c ys=some (p,es)→p→Wh (YQ g ν w L) (xs.map (Act.mk tmps ds).eval) es
 | [],ys,p,es,hc,ha,hp=>by
  simp only [Zcc,Zuu] at hc
  subst hc
  simp only [KT,Zuu,Zuz] at ha
  obtain ⟨rfl,rfl⟩:=ha
  exact .nil
 | x :: xs,ys,p,es,hc,ha,hp=>by
  simp only [Zcc] at hc
  split at hc <;> simp at hc
  rename_i y ys' hy hys
  subst hc
  simp only [KT] at ha
  split at ha <;> simp only [Zuu,Zuz,reduceCtorEq] at ha
  rename_i p1 e1 p2 es' h1 h2
  obtain ⟨rfl,rfl⟩:=ha
  exact .cons (K2 m hy hcond h1 hp.1 ds) (Zen m hcond ds hys h2 hp.2)
theorem Ze {F:Fr P} {o:Opd} {x y:DC} {dk:List Z4} {ρ:Env} {L:Loc} {s:St} {b:Bool} {p:Prop} (ho:YW ρ true o=some (p,.d (.bool b))) (hp:p)
  (ht:b=true→ZT F (.code x :: dk) ρ L s) (hf:b=false→ZT F (.code y :: dk) ρ L s):ZT F (.code (.cond o x y) :: dk) ρ L s:=by
 intro k hk
 cases hk with
 | code hc htl =>
  obtain ⟨o',a,b',rfl,ho',ha,hb⟩:=Zrg hc
  intro g ν w tmps hN m
  have hv:=K2 m ho' rfl ho hp F.ds
  have hv':(Act.mk tmps F.ds).eval o' = .bool b:=Zco hv
  refine F.T.back _ _ _ _ (.one (stepR_cond hv')) ?_
  cases b
  ·exact hf rfl _ (.code hb htl) g ν w tmps hN m
  ·exact ht rfl _ (.code ha htl) g ν w tmps hN m
theorem Zb {F:Fr P} {os:List DOp} {ks:Option (List Nat)} {dk:List Z4} {ρ:Env} {L:Loc} {s:St} (h:DO F ks dk os ρ L s):ZT F (.code (.reg os ks) :: dk) ρ L s:=by
 intro k hk
 cases hk with
 | code hc ht =>
  obtain ⟨id,ops,rfl,hops,_⟩:=Zr0 hc
  exact Za8.step (fun a w=>stepR_region) (h _ _ _ hops ht)
end
end Go.DL
namespace Go.DL
open Go
theorem ZgM (w:World) (o:Obj) {b:Nat} (h:b < w.heap.size):(w.alloc o).heap[b]? = w.heap[b]?:=by
 show (w.heap.push o)[b]? = _
 rw [Array.getElem?_push]; simp [Nat.ne_of_lt h]
theorem ZbD (w:World) (o:Obj):(w.alloc o).heap[w.heap.size]? = some o:=by
 show (w.heap.push o)[w.heap.size]? = _
 rw [Array.getElem?_push]; simp
theorem ZhT (v:Value):v.oneCell'=v.one1:=by cases v <;> rfl
section
variable {P:Program} {g:G} {ν:Nat→Nat} {w:World} {tmps:Array Value} {ρ:Env} {L:Loc} {s:St}
theorem ZjF (b:Nat) {cur vs:Array Value} {T:TypeId} (hb:w.heap[b]? = some (.cells cur T (0,0))) (hsz:vs.size=cur.size) (hp:g.prot b=0) (hk:¬ g.kept b):Ext g w g (w.setRow b vs):={
 size:=by simp
 prot _:=ZuO _
 cell b' o ho:=by
  by_cases h:b'=b
  ·subst h; omega
  ·exact ZbF (setRow_other w b b' vs h)
 hdr b' x hx:=by
  by_cases h:b'=b
  ·subst h
   simp only [hdr,hb] at hx
   simp only [hdr,setRow_heap w b' cur vs T (0,0) hb,hsz]; exact hx
  ·rw [Zb5 (setRow_other w b b' vs h)]; exact hx
 kept b' hb':=setRow_other w b b' vs (fun h=>hk (h ▸ hb'))
 keptProt _ _:=rfl
 keptEq:=rfl
 os:=rfl
 output:=rfl
 tape:=rfl }
theorem KS.other {g:G} {w w':World} {s:St} (m:KS g s w) (e:Ext g w g w') (hs:w'.heap.size=w.heap.size) (hb:∀ b o,s b=some o→w'.heap[b]? = w.heap[b]?):KS g s w':={
 obj b o ho:=(m.obj b o ho).mono e (hb b o ho) rfl
 kept:=m.kept
 fresh b h:=m.fresh b (by omega) }
theorem Yg.store (m:Yg g ν w tmps ρ L s) {l:Nat} {cs ds:List D} (hl:ZU L l=some cs) {vs:Array Value} (hr:Wh (Rep g w) vs.toList ds) (ho:∀ v∈vs,v.one1=true) (hn:ds.length=cs.length) :
  Ext g w g (w.setRow (ν l) vs)∧Yg g ν (w.setRow (ν l) vs) tmps ρ ((l,ds) :: L) s:=by
 obtain ⟨hp,cur,T,h1,h2,_,_⟩:=m.loc l cs hl
 have hsz:vs.size=cur.size:=by have:=hr.len; simp at this; omega
 have he:=ZjF (g:=g) (ν l) h1 hsz hp (m.locKept l cs hl)
 refine ⟨he,⟨?_,?_,?_,?_,?_,?_⟩⟩
 ·exact m.st.other he (by simp) (fun b o hb=>setRow_other w (ν l) b vs (fun h=>by subst h; rw [m.locSt l cs hl] at hb; simp at hb))
 ·intro l' cs' hl'
  simp only [ZU] at hl'
  by_cases h:l=l'
  ·subst h
   simp only [if_true,Zuu] at hl'
   subst hl'
   refine ⟨hp,vs,T,setRow_heap w (ν l) cur vs T (0,0) h1,by rw [hsz,h2,hn],fun i v d hv hd=>?_,ho⟩
   exact (hr.get i v d (by simpa using hv) hd).mono he
  ·simp only [h,if_false] at hl'
   have hne:ν l'≠ν l:=fun hh=>h (m.inj l l' cs cs' hl hl' hh.symm)
   exact (m.loc l' cs' hl').mono he (setRow_other w (ν l) (ν l') vs hne) rfl
 ·intro l' cs' hl'
  simp only [ZU] at hl'
  by_cases h:l=l'
  ·subst h; exact m.locKept l cs hl
  ·simp only [h,if_false] at hl'; exact m.locKept l' cs' hl'
 ·intro l' cs' hl'
  simp only [ZU] at hl'
  by_cases h:l=l'
  ·subst h; exact m.locSt l cs hl
  ·simp only [h,if_false] at hl'; exact m.locSt l' cs' hl'
 ·intro a b ca cb ha hb hab
  simp only [ZU] at ha hb
  by_cases h1:l=a
  ·by_cases h2:l=b
   ·exact h1.symm.trans h2
   ·simp only [h2,if_false] at hb
    subst h1; exact m.inj _ _ cs cb hl hb hab
  ·simp only [h1,if_false] at ha
   by_cases h2:l=b
   ·subst h2; exact m.inj _ _ ca cs ha hl hab
   ·simp only [h2,if_false] at hb
    exact m.inj _ _ ca cb ha hb hab
 ·intro t e ht
  refine ((m.env t e ht).mono he).locs (fun l' cs' hl'=>⟨?_,rfl⟩)
  by_cases h:l=l'
  ·exact ⟨ds,by simp [ZU,h]⟩
  ·exact ⟨cs',by simp [ZU,h,hl']⟩
theorem ZoC (c:Array Value) (T:TypeId) (hf:∀ b,w.heap.size≤b→g.prot b=0∧¬ g.kept b):ZbB g w g (w.alloc (.cells c T)):={
 size:=by simp
 old b hb:=ZgM w _ hb
 prot _ _:=rfl
 fresh b hb:=(hf b (by simp at hb; omega)).1
 kept:=rfl
 os:=rfl
 output:=rfl
 tape:=rfl }
theorem Yg.alloc (m:Yg g ν w tmps ρ L s) {l:Nat} {ds:List D} (hl:Zff L l=false) {vs:Array Value} (hr:Wh (Rep g w) vs.toList ds) (ho:∀ v∈vs,v.one1=true) (T:TypeId) :
  Ext g w g (w.alloc (.cells vs T))∧Yg g (fun x=>if x=l then w.heap.size else ν x) (w.alloc (.cells vs T)) tmps ρ ((l,ds) :: L) s:=by
 have hg:=ZoC (g:=g) vs T m.st.fresh
 have he:=hg.ext m.st.fresh
 have m':=m.grow hg
 have hn:ZU L l=none:=by simpa [Zff] using hl
 have hlt:∀ l' cs',ZU L l'=some cs'→l'≠l:=fun l' cs' h hh=>by subst hh; rw [hn] at h; simp at h
 refine ⟨he,⟨m'.st,?_,?_,?_,?_,?_⟩⟩
 ·intro l' cs' hl'
  simp only [ZU] at hl'
  by_cases h:l=l'
  ·subst h
   simp only [if_true,Zuu] at hl'
   subst hl'
   simp only [if_true]
   refine ⟨(m.st.fresh _ (ZuO _)).1,vs,T,ZbD w _,by simpa using hr.len,fun i v d hv hd=>?_,ho⟩
   exact (hr.get i v d (by simpa using hv) hd).mono he
  ·simp only [h,if_false] at hl'
   simp only [show ¬ l'=l from fun hh=>h hh.symm,if_false]
   exact m'.loc l' cs' hl'
 ·intro l' cs' hl'
  simp only [ZU] at hl'
  by_cases h:l=l'
  ·subst h; simp only [if_true]; exact (m.st.fresh _ (ZuO _)).2
  ·simp only [h,if_false] at hl'
   simp only [show ¬ l'=l from fun hh=>h hh.symm,if_false]
   exact m.locKept l' cs' hl'
 ·intro l' cs' hl'
  simp only [ZU] at hl'
  by_cases h:l=l'
  ·subst h
   simp only [if_true]
   cases hs:s w.heap.size with
   | none=>rfl
   | some o=>exact absurd (m.st.obj _ o hs).lt (Nat.lt_irrefl _)
  ·simp only [h,if_false] at hl'
   simp only [show ¬ l'=l from fun hh=>h hh.symm,if_false]
   exact m.locSt l' cs' hl'
 ·intro a b ca cb ha hb hab
  simp only [ZU] at ha hb
  by_cases h1:l=a
  ·by_cases h2:l=b
   ·exact h1.symm.trans h2
   ·simp only [h2,if_false] at hb
    simp only [h1.symm,if_true,show ¬ b=l from fun hh=>h2 hh.symm,if_false] at hab
    have:=(m.loc b cb hb).lt
    omega
  ·simp only [h1,if_false] at ha
   by_cases h2:l=b
   ·simp only [h2.symm,if_true,show ¬ a=l from fun hh=>h1 hh.symm,if_false] at hab
    have:=(m.loc a ca ha).lt
    omega
   ·simp only [h2,if_false] at hb
    simp only [show ¬ a=l from fun hh=>h1 hh.symm,show ¬ b=l from fun hh=>h2 hh.symm,if_false] at hab
    exact m.inj _ _ ca cb ha hb hab
 ·intro t e ht
  refine (m'.env t e ht).locs (fun l' cs' hl'=>⟨⟨cs',?_⟩,?_⟩)
  ·have:=hlt l' cs' hl'
   simp [ZU,show ¬ l=l' from fun hh=>this hh.symm,hl']
  ·simp [hlt l' cs' hl']
theorem Zix (c:Array Value) (T:TypeId) (hf:∀ b,w.heap.size≤b→g.prot b=0∧¬ g.kept b) :
  ZbB g w { g with prot:=fun b=>if b=w.heap.size then c.size else g.prot b } (w.alloc (.cells c T)) where
 size:=by simp
 old b hb:=ZgM w _ hb
 prot b hb:=by simp [Nat.ne_of_lt hb]
 fresh b hb:=by simp at hb; simp [show b≠w.heap.size by omega,(hf b (by omega)).1]
 kept:=rfl
 os:=rfl
 output:=rfl
 tape:=rfl
theorem Qc (m:Yg g ν w tmps ρ L s) {ops:Array Oper} {o:Oper} {gd:Option (Nat × Bool)} (hc:ZgP ops o.guard=some gd) {c:Bool} (hg:Yu ρ gd=some c):Region.wanted o (yielded ops tmps)=c:=by
 unfold ZgP at hc
 unfold Region.wanted
 split at hc
 ·rename_i h0
  simp only [Zuu] at hc; subst hc
  simp only [Yu,Zuu] at hg; subst hg
  simp [h0]
 ·rename_i j b h0
  split at hc <;> simp at hc
  rename_i t ht
  subst hc
  simp only [h0]
  have hy:yielded ops tmps j=match tmps.getD t undef with
    | .bool b=>some b
    | _=>none:=by
   unfold yielded
   rw [ht]
   simp only [Option.bind_some]
   rcases Nat.lt_or_ge t tmps.size with hlt | hge
   ·simp [Array.getD,hlt]
    split <;> simp_all
   ·simp [Array.getD,Nat.not_lt.2 hge,undef]
  simp only [Yu] at hg
  split at hg
  ·rename_i b' he
   simp only [Zuu] at hg; subst hg
   have:=Zco (m.env t _ he)
   rw [hy,this]
   cases b <;> cases b' <;> rfl
  ·rename_i c0 b' he
   simp only [Zuu] at hg; subst hg
   have h:=m.env t _ he
   cases c0
   ·have:=h.2 rfl
    rw [hy,this]
    simp [undef]
   ·have:=Zco (h.1 rfl)
    rw [hy,this]
    cases b <;> cases b' <;> rfl
  ·simp at hg
end
end Go.DL
namespace Go.DL
open Go
section
variable {P:Program}
theorem Qw {op:Op} {k:K} (h:ck P op=some k) (hk:k.isDefer=false) (c:Call):op≠.defer c:=by
 rintro rfl
 simp only [ck,cq] at h
 split at h <;> (try (simp at h; done))
 split at h <;> simp only [Zuu,reduceCtorEq] at h
 subst h
 simp [K.isDefer] at hk
theorem Zgo {b:Frame} {a:Act} {k:List Item} {cs:List Frame} {w w':World} {ops:Array Oper} {i:Nat} {rest:List Nat} {o:Oper} {v:Value} (ho:ops[i]? = some o)
  (hw:Region.wanted o (yielded ops a.tmps)=true) (hnd:∀ c,o.op≠.defer c) (hr:(execOp a.eval o).run P w = .ok (.value v) w') :
  step P (lone (b.atR a (.inRegion ops (i :: rest) :: k)) cs w) = .next (lone (b.atR (a.put o.dst v) (.inRegion ops rest :: k)) cs w'):=by
 refine step_lone_go ?_
 rw [stepGR_op ho hw,Oper.semAt_eq _ _ _ hnd]
 have hfin:(b.atR a (.inRegion ops (i :: rest) :: k)).finish v=b.atR (a.put o.dst v) (.inRegion ops rest :: k):=by rw [Frame.finish_atR,ho]; rfl
 rw [← hfin]; simp [stepG.apply,hr]
theorem Zgn {b:Frame} {a:Act} {k:List Item} {cs:List Frame} {w w':World} {ops:Array Oper} {i:Nat} {rest:List Nat} {o:Oper} (ho:ops[i]? = some o)
  (hw:Region.wanted o (yielded ops a.tmps)=true) (hnd:∀ c,o.op≠.defer c) (hr:(execOp a.eval o).run P w = .ok .skip w') :
  step P (lone (b.atR a (.inRegion ops (i :: rest) :: k)) cs w) = .next (lone (b.atR (a.put o.dst undef) (.inRegion ops rest :: k)) cs w'):=by
 refine step_lone_go ?_
 rw [stepGR_op ho hw,Oper.semAt_eq _ _ _ hnd]
 have hfin:(b.atR a (.inRegion ops (i :: rest) :: k)).finish undef=b.atR (a.put o.dst undef) (.inRegion ops rest :: k):=by rw [Frame.finish_atR,ho]; rfl
 rw [← hfin]; simp [stepG.apply,hr]
theorem ZlM {b:Frame} {a:Act} {k:List Item} {cs:List Frame} {w:World} {ops:Array Oper} {i:Nat} {rest:List Nat} {o:Oper} (ho:ops[i]? = some o)
  (hw:Region.wanted o (yielded ops a.tmps)=false) :
  step P (lone (b.atR a (.inRegion ops (i :: rest) :: k)) cs w) = .next (lone (b.atR (a.put o.dst undef) (.inRegion ops rest :: k)) cs w):=by
 have:=stepR_op_skip (P:=P) (b:=b) (a:=a) (k:=k) (cs:=cs) (w:=w) (ops:=ops) (i:=i) (rest:=rest) (by simp [ho,hw])
 simpa [ho] using this
theorem Zpo {N:Nat} {ops:Array Oper} {is:List Nat} {o:DOp} {os:List DOp} (h:ZbG P N ops is=some (o :: os)) :
  ∃ i r oo,is=i :: r∧ops[i]? = some oo∧ZbG P N ops r=some os∧ck P oo.op=some o.k∧ZgP ops oo.guard=some o.guard∧oo.dst=o.dst∧∀ d,o.dst=some d→d < N:=by
 cases is with
 | nil=>simp [ZbG] at h
 | cons i r =>
  simp only [ZbG] at h
  split at h <;> (try (simp at h; done))
  rename_i oo hoo
  split at h <;> simp only [Zuu,List.cons.injEq,reduceCtorEq] at h
  rename_i d ds hd hds
  obtain ⟨rfl,rfl⟩:=h
  simp only [cop] at hd
  split at hd <;> (try (simp at hd; done))
  rename_i k g hk hg
  refine ⟨i,r,oo,rfl,hoo,hds,?_⟩
  split at hd
  ·rename_i hdst
   simp only [Zuu] at hd; subst hd
   exact ⟨hk,hg,hdst,fun d h=>by simp at h⟩
  ·rename_i d' hdst
   split at hd <;> simp at hd
   rename_i hlt
   subst hd
   exact ⟨hk,hg,hdst,fun d h=>by simp only [Zuu] at h; exact h ▸ hlt⟩
theorem Zqp {N:Nat} {ops:Array Oper} {is:List Nat} (h:ZbG P N ops is=some []):is=[]:=by
 cases is with
 | nil=>rfl
 | cons i r=>simp only [ZbG] at h; split at h <;> (try (simp at h; done)); split at h <;> simp at h
theorem ZfE {g:G} {ν:Nat→Nat} {w:World} {tmps:Array Value} {ρ:Env} {L:Loc} {s:St} (m:Yg g ν w tmps ρ L s) {N:Nat} (hN:N≤tmps.size) {dst:Option Nat} (hd:∀ d,dst=some d→d < N) {v:Value} {e:E}
  (h:YQ g ν w L v e) (ds:List Deferred):∃ tmps',(Act.mk tmps ds).put dst v=⟨tmps',ds⟩∧N≤tmps'.size∧Yg g ν w tmps' (Wi ρ dst e) L s:=by
 cases dst with
 | none=>exact ⟨tmps,rfl,hN,m⟩
 | some d=>exact ⟨tmps.setIfInBounds d v,rfl,by simpa using hN,m.put (by have:=hd d rfl; omega) h⟩
theorem ZoB {F:Fr P} {ops:Array Oper} {i:Nat} {r:List Nat} {k:List Item} {oo:Oper} {o:DOp} {g:G} {ν:Nat→Nat} {w:World} {tmps:Array Value} {ρ:Env} {L:Loc} {s:St} (hN:F.N≤tmps.size)
  (m:Yg g ν w tmps ρ L s) (hoo:ops[i]? = some oo) (hdst:oo.dst=o.dst) (hd:∀ d,o.dst=some d→d < F.N) (hw:Region.wanted oo (yielded ops tmps)=true) (hnd:∀ c,oo.op≠.defer c) {e:E}
  (hv:∃ v,(execOp (Act.mk tmps F.ds).eval oo).run P w = .ok (.value v) w∧YQ g ν w L v e) (h:Za8 F (.inRegion ops r :: k) (Wi ρ o.dst e) L s) :
  F.T.T g w (lone (F.b.atR ⟨tmps,F.ds⟩ (.inRegion ops (i :: r) :: k)) F.cs w):=by
 obtain ⟨v,hr,hv⟩:=hv
 refine F.T.back _ _ _ _ (.one (Zgo hoo hw hnd hr)) ?_
 rw [hdst]
 obtain ⟨tmps',e1,e2,m'⟩:=ZfE m hN hd hv F.ds
 rw [e1]
 exact h g ν w tmps' e2 m'
theorem Zcd {F:Fr P} {ops:Array Oper} {i:Nat} {r:List Nat} {k:List Item} {oo:Oper} {o:DOp} {g:G} {ν:Nat→Nat} {w:World} {tmps:Array Value} {ρ:Env} {L:Loc} {s:St} (hN:F.N≤tmps.size)
  (m:Yg g ν w tmps ρ L s) (hoo:ops[i]? = some oo) (hdst:oo.dst=o.dst) (hd:∀ d,o.dst=some d→d < F.N) (hw:Region.wanted oo (yielded ops tmps)=false) {e:E}
  (h:Za8 F (.inRegion ops r :: k) (Wi ρ o.dst (.when false e)) L s):F.T.T g w (lone (F.b.atR ⟨tmps,F.ds⟩ (.inRegion ops (i :: r) :: k)) F.cs w):=by
 refine F.T.back _ _ _ _ (.one (ZlM hoo hw)) ?_
 rw [hdst]
 obtain ⟨tmps',e1,e2,m'⟩:=ZfE m hN hd (v:=undef) (e:=.when false e) ⟨fun h=>by simp at h,fun _=>rfl⟩ F.ds
 rw [e1]
 exact h g ν w tmps' e2 m'
theorem Zsz {op:Op} {q:Q} {xs:List Opd} (h:ck P op=some (.q q xs)):∃ ys,cq P op=some (q,ys)∧Zcc ys=some xs:=by
 unfold ck at h
 split at h
 ·rename_i q' ys hc
  simp only [ZuC,K.q.injEq] at h
  obtain ⟨zs,hz,rfl,rfl⟩:=h
  exact ⟨ys,hc,hz⟩
 ·exfalso
  split at h <;> (try (simp at h; done))
  all_goals (repeat' (split at h <;> (try (simp at h; done))))
theorem ZeY (ρ:Env):∀ (ks:List Nat) (t:Nat) (e:E),WN (QA ρ ks) t=some e→WN ρ t=some e
 | [],t,e,h=>by simp [QA,WN] at h
 | k :: ks,t,e,h=>by
  simp only [QA] at h
  split at h
  ·rename_i e' he'
   simp only [WN] at h
   by_cases hk:k=t
   ·subst hk; simp only [if_true] at h; rw [he',h]
   ·simp only [hk,if_false] at h; exact ZeY ρ ks t e h
  ·exact ZeY ρ ks t e h
theorem Zfh:∀ {ρ:Env} {t:Nat} {e:E},WN ρ t=some e→(t,e)∈ρ
 | (k,e') :: ρ,t,e,h=>by
  simp only [WN] at h
  by_cases hk:k=t
  ·simp only [hk,if_true,Zuu] at h; subst h; subst hk; simp
  ·simp only [hk,if_false] at h; exact List.mem_cons_of_mem _ (Zfh h)
theorem ZbJ (L:Loc):∀ (ls:List Nat) (l:Nat) (cs:List D),ZU (Zby L ls) l=some cs→ZU L l=some cs
 | [],l,cs,h=>by simp [Zby,ZU] at h
 | k :: ls,l,cs,h=>by
  simp only [Zby] at h
  split at h
  ·rename_i c' hc'
   simp only [ZU] at h
   by_cases hk:k=l
   ·subst hk; simp only [if_true] at h; rw [hc',h]
   ·simp only [hk,if_false] at h; exact ZbJ L ls l cs h
  ·exact ZbJ L ls l cs h
theorem ZhC (L:Loc):∀ (ls:List Nat) (l:Nat) (cs:List D),l∈ls→ZU L l=some cs→ZU (Zby L ls) l=some cs
 | k :: ls,l,cs,hm,h=>by
  simp only [Zby]
  by_cases hk:k=l
  ·subst hk; simp [h,ZU]
  ·have hm':l∈ls:=by rcases List.mem_cons.1 hm with rfl | h; exact absurd rfl hk; exact h
   split
   ·simp only [ZU,hk,if_false]; exact ZhC L ls l cs hm' h
   ·exact ZhC L ls l cs hm' h
theorem YQ.keep {g:G} {ν:Nat→Nat} {w:World} {L:Loc} {ls:List Nat} {v:Value} {e:E} (h:YQ g ν w L v e) (hl:∀ l∈ZaK e,l∈ls):YQ g ν w (Zby L ls) v e:=by
 induction e with
 | d x=>exact h
 | loc l o=>obtain ⟨⟨cs,hc⟩,hv⟩:=h; exact ⟨⟨cs,ZhC L ls l cs (hl l (by simp [ZaK])) hc⟩,hv⟩
 | when c e ih=>exact ⟨fun hc=>ih (h.1 hc) hl,h.2⟩
theorem Yg.keep {g:G} {ν:Nat→Nat} {w:World} {tmps:Array Value} {ρ:Env} {L:Loc} {s:St} (m:Yg g ν w tmps ρ L s) (ks:List Nat):Yg g ν w tmps (QA ρ ks) (ZcT (QA ρ ks) L) s:={
 st:=m.st
 loc l cs h:=m.loc l cs (ZbJ _ _ _ _ h)
 locKept l cs h:=m.locKept l cs (ZbJ _ _ _ _ h)
 locSt l cs h:=m.locSt l cs (ZbJ _ _ _ _ h)
 inj l l' cs cs' h h':=m.inj l l' cs cs' (ZbJ _ _ _ _ h) (ZbJ _ _ _ _ h')
 env t e h:=(m.env t e (ZeY ρ ks t e h)).keep (fun l hl=>List.mem_flatMap.2 ⟨(t,e),Zfh h,hl⟩) }
theorem JP {F:Fr P} {dk:List Z4} {ρ:Env} {L:Loc} {s:St} (ks:List Nat) (h:ZT F dk (QA ρ ks) (ZcT (QA ρ ks) L) s):ZT F dk ρ L s :=
 fun k hk g ν w tmps hN m=>h k hk g ν w tmps hN (m.keep ks)
theorem ZrV {F:Fr P} {kp:Option (List Nat)} {dk:List Z4} {ρ:Env} {L:Loc} {s:St} (h:ZT F dk ρ L s):DO F kp dk [] ρ L s:=by
 intro ops is k hops hk g ν w tmps hN m
 obtain rfl:=Zqp hops
 exact F.T.back _ _ _ _ (.one stepR_region_end) (h k hk g ν w tmps hN m)
def kept (kp:Option (List Nat)) (ρ:Env):Env :=
 match kp with
 | some ks=>QA ρ ks
 | none=>ρ
def ZjW (kp:Option (List Nat)) (ρ:Env) (L:Loc):Loc :=
 match kp with
 | some ks=>ZcT (QA ρ ks) L
 | none=>L
theorem ZlY {F:Fr P} {kp:Option (List Nat)} {dk:List Z4} {ρ:Env} {L:Loc} {s:St} (h:ZT F dk (kept kp ρ) (ZjW kp ρ L) s):DO F kp dk [] ρ L s:=by
 refine ZrV ?_
 cases kp with
 | none=>exact h
 | some ks=>exact JP ks h
end
end Go.DL
namespace Go.DL
open Go
section
variable {P:Program}
theorem ZqM {g:G} {ν:Nat→Nat} {w:World} {tmps:Array Value} {ρ:Env} {L:Loc} {s:St} (m:Yg g ν w tmps ρ L s) {x a b:Operand} {x' a' b':Opd} (hx:WQ x=some x') (ha:WQ a=some a')
  (hb:WQ b=some b') {c:Bool} (hc:c=true) {p:Prop} {v:Bool} (h:Ze0 ρ c x' a' b'=some (p,v)) (hp:p) (ds:List Deferred) (dst:Option Nat) (ty:TypeId) (pos:String) (af:Array Edge) (gd:Option (Nat × Bool)) :
  (execOp (Act.mk tmps ds).eval ⟨dst,.pick x a b,ty,pos,af,gd⟩).run P w = .ok (.value (.bool v)) w:=by
 unfold Ze0 at h
 split at h <;> (try (simp at h; done))
 rename_i p0 v0 h0
 split at h <;> (try (simp at h; done))
 rename_i pa y pb z h1 h2
 simp only [Zuu,Zuz] at h
 obtain ⟨rfl,rfl⟩:=h
 subst hc
 have e0:=Zco (K2 m hx rfl h0 hp.1 ds)
 cases v0
 ·have e2:=Zco (K2 m hb rfl h2 hp.2.2 ds)
  simp [execOp,e0,e2,asBool]
 ·have e1:=Zco (K2 m ha rfl h1 hp.2.1 ds)
  simp [execOp,e0,e1,asBool]
theorem Zrm {op:Op} {x a b:Opd} (h:ck P op=some (.pick x a b)):∃ x' a' b',op = .pick x' a' b'∧WQ x'=some x∧WQ a'=some a∧WQ b'=some b:=by
 unfold ck at h
 split at h
 ·simp at h
 ·split at h <;> (try (simp at h; done))
  all_goals (try (repeat' (split at h <;> (try (simp at h; done)))))
  simp only [Zuu,K.pick.injEq] at h
  obtain ⟨rfl,rfl,rfl⟩:=h
  exact ⟨_,_,_,rfl,‹_›,‹_›,‹_›⟩
theorem Zql {op:Op} {z:List D} (h:ck P op=some (.alloc z)):∃ e,op = .alloc e∧ZbU P e=some z:=by
 unfold ck at h
 split at h
 ·simp at h
 ·split at h <;> (try (simp at h; done))
  all_goals (try (repeat' (split at h <;> (try (simp at h; done)))))
  simp only [ZuC,K.alloc.injEq,exists_eq_right] at h
  exact ⟨_,rfl,h⟩
theorem Zr2 {op:Op} {x:Opd} (h:ck P op=some (.box x)):∃ e x',op = .box e x'∧WQ x'=some x:=by
 unfold ck at h
 split at h
 ·simp at h
 ·split at h <;> (try (simp at h; done))
  all_goals (try (repeat' (split at h <;> (try (simp at h; done)))))
  simp only [ZuC,K.box.injEq,exists_eq_right] at h
  exact ⟨_,_,rfl,h⟩
theorem Zk1 {op:Op} {a v:Opd} (h:ck P op=some (.store1 a v)):∃ t a' v',op = .store t a' v'∧ZbC P t=some false∧WW P t=some 1∧WQ a'=some a∧WQ v'=some v:=by
 unfold ck at h
 split at h
 ·simp at h
 ·split at h <;> (try (simp at h; done))
  all_goals (try (repeat' (split at h <;> (try (simp at h; done)))))
  simp only [Zuu,K.store1.injEq] at h
  obtain ⟨rfl,rfl⟩:=h
  exact ⟨_,_,_,rfl,‹_›,‹_›,‹_›,‹_›⟩
theorem Zk2 {op:Op} {a v:Opd} {n:Nat} (h:ck P op=some (.storeN n a v)):∃ t a' v',op = .store t a' v'∧ZbC P t=some true∧WW P t=some n∧WQ a'=some a∧WQ v'=some v:=by
 unfold ck at h
 split at h
 ·simp at h
 ·split at h <;> (try (simp at h; done))
  all_goals (try (repeat' (split at h <;> (try (simp at h; done)))))
  simp only [Zuu,K.storeN.injEq] at h
  obtain ⟨rfl,rfl,rfl⟩:=h
  exact ⟨_,_,_,rfl,‹_›,‹_›,‹_›,‹_›⟩
theorem Zpg {op:Op} {len n:Nat} {z:List D} {is:List Nat} {xs:List Opd} (h:ck P op=some (.bsl len n z is xs)) :
  ∃ t e parts,op = .buildSlice t len parts∧P.underlying t=some (.slice e)∧WW P e=some n∧ZbU P e=some z∧Zcc (parts.toList.map (·.2))=some xs∧is=parts.toList.map (·.1) ∧
   J4 len is=true∧z.length=n∧0 < n∧len * n≤2 ^ 24:=by
 unfold ck at h
 split at h
 ·simp at h
 ·split at h <;> (try (simp at h; done))
  all_goals (try (repeat' (split at h <;> (try (simp at h; done)))))
  rename_i hcond
  simp only [Zuu,K.bsl.injEq] at h
  obtain ⟨rfl,rfl,rfl,rfl,rfl⟩:=h
  simp only [ZuA,decide_eq_true_eq] at hcond
  exact ⟨_,_,_,rfl,‹_›,‹_›,‹_›,‹_›,rfl,hcond.1.1.1,hcond.1.1.2,hcond.1.2,hcond.2⟩
theorem Zdw {g:G} {w:World} {t:TypeId} {z:List D} (h:ZbU P t=some z):∃ v,(zeroValue t).run P w = .ok v w∧Wh (Rep g w) v.cells.toList z∧(∀ x∈v.cells,x.one1=true)∧∃ i,P.info? t=some i∧i.zero=some v:=by
 unfold ZbU at h
 cases hi:P.info? t with
 | none=>simp [hi] at h
 | some i =>
  cases hz:i.zero with
  | none=>simp [hi,hz] at h
  | some v =>
   simp only [hi,hz] at h
   obtain ⟨h1,h2⟩:=ZdO (g:=g) (w:=w) h
   exact ⟨v,by simp [zeroValue,typeInfo,hi,hz],h1,fun x hx=>h2 x (Array.mem_toList_iff.2 hx),i,rfl,hz⟩
theorem Jt {F:Fr P} {kp:Option (List Nat)} {dk:List Z4} {o:DOp} {os:List DOp} {ρ:Env} {L:Loc} {s:St}
  (h:∀ (oo:Oper) (g:G) (ν:Nat→Nat) (w:World) (tmps:Array Value) (ops:Array Oper) (i:Nat) (r:List Nat) (k:List Item),ops[i]? = some oo→ck P oo.op=some o.k→ZgP ops oo.guard=some o.guard →
   oo.dst=o.dst→(∀ d,o.dst=some d→d < F.N)→F.N≤tmps.size→Yg g ν w tmps ρ L s→ZbG P F.N ops r=some os→Q1 P F.an F.N k dk →
   F.T.T g w (lone (F.b.atR ⟨tmps,F.ds⟩ (.inRegion ops (i :: r) :: k)) F.cs w)):DO F kp dk (o :: os) ρ L s:=by
 intro ops is k hops hk g ν w tmps hN m
 obtain ⟨i,r,oo,rfl,h1,h2,h3,h4,h5,h6⟩:=Zpo hops
 exact h oo g ν w tmps ops i r k h1 h3 h4 h5 h6 hN m h2 hk
theorem Zo5 {F:Fr P} {kp:Option (List Nat)} {dk:List Z4} {o:DOp} {os:List DOp} {ρ:Env} {L:Loc} {s:St} {c:Bool} (hg:Yu ρ o.guard=some c) (hnk:o.k.isDefer=false) {e e':E}
  (he:e' = .when c e∨(c=true∧e'=e))
  (hv:c=true→∀ (oo:Oper) (g:G) (ν:Nat→Nat) (w:World) (tmps:Array Value),ck P oo.op=some o.k→Yg g ν w tmps ρ L s →
   ∃ v,(execOp (Act.mk tmps F.ds).eval oo).run P w = .ok (.value v) w∧YQ g ν w L v e)
  (h:DO F kp dk os (Wi ρ o.dst e') L s):DO F kp dk (o :: os) ρ L s:=by
 refine Jt fun oo g ν w tmps ops i r k hoo hck hcg hdst hd hN m hr hkk=>?_
 have hgo:=h ops r k hr hkk
 have hw:=Qc m hcg hg
 have hnd:=Qw hck hnk
 cases c
 ·rcases he with rfl | ⟨h0,_⟩
  ·exact Zcd (P:=P) hN m hoo hdst hd hw hgo
  ·simp at h0
 ·obtain ⟨v,h1,h2⟩:=hv rfl oo g ν w tmps hck m
  refine ZoB hN m hoo hdst hd hw hnd ⟨v,h1,?_⟩ hgo
  rcases he with rfl | ⟨_,rfl⟩
  ·exact ⟨fun _=>h2,fun h=>by simp at h⟩
  ·exact h2
theorem ZrW {F:Fr P} {kp:Option (List Nat)} {dk:List Z4} {o:DOp} {os:List DOp} {ρ:Env} {L:Loc} {s:St} {c:Bool} (hg:Yu ρ o.guard=some c) {q:Q} {xs:List Opd} (hk:o.k = .q q xs)
  {p side:Prop} {es:List E} {e:E} (ha:KT ρ c xs=some (p,es)) (hq:qv L s q es=some (side,e)) (hs:c=true→p∧side) {e':E} (he:e' = .when c e∨(c=true∧e'=e))
  (h:DO F kp dk os (Wi ρ o.dst e') L s):DO F kp dk (o :: os) ρ L s:=by
 refine Zo5 hg (by rw [hk]; rfl) he (fun hc oo g ν w tmps hck m=>?_) h
 rw [hk] at hck
 obtain ⟨ys,hcq,hys⟩:=Zsz hck
 have hargs:=Zen m hc F.ds hys ha (hs hc).1
 exact ZrD hcq hargs m.loc m.st hq (hs hc).2 _ _ _ _ _
theorem JL {F:Fr P} {ops:Array Oper} {i:Nat} {r:List Nat} {k:List Item} {oo:Oper} {o:DOp} {g g':G} {ν':Nat→Nat} {w w':World} {tmps:Array Value} {ρ:Env} {L':Loc} {s':St} (hN:F.N≤tmps.size)
  (hoo:ops[i]? = some oo) (hdst:oo.dst=o.dst) (hd:∀ d,o.dst=some d→d < F.N) (hw:Region.wanted oo (yielded ops tmps)=true) (hnd:∀ c,oo.op≠.defer c) {e:E} {v:Value}
  (hr:(execOp (Act.mk tmps F.ds).eval oo).run P w = .ok (.value v) w') (hx:Ext g w g' w') (m':Yg g' ν' w' tmps ρ L' s') (hv:YQ g' ν' w' L' v e)
  (h:Za8 F (.inRegion ops r :: k) (Wi ρ o.dst e) L' s'):F.T.T g w (lone (F.b.atR ⟨tmps,F.ds⟩ (.inRegion ops (i :: r) :: k)) F.cs w):=by
 refine F.T.back _ _ _ _ (.one (Zgo hoo hw hnd hr)) ?_
 rw [hdst]
 obtain ⟨tmps',e1,e2,m''⟩:=ZfE m' hN hd hv F.ds
 rw [e1]
 exact F.T.ext _ _ _ _ _ hx (h g' ν' w' tmps' e2 m'')
theorem ZlW {F:Fr P} {kp:Option (List Nat)} {dk:List Z4} {o:DOp} {os:List DOp} {ρ:Env} {L:Loc} {s:St} (hg:o.guard=none) {t:Nat} (hdt:o.dst=some t) {z:List D} (hk:o.k = .alloc z)
  (hl:Zff L t=false) (h:DO F kp dk os ((t,.loc t 0) :: ρ) ((t,z) :: L) s):DO F kp dk (o :: os) ρ L s:=by
 refine Jt fun oo g ν w tmps ops i r k hoo hck hcg hdst hd hN m hr hkk=>?_
 have hw:=Qc m hcg (c:=true) (by rw [hg]; rfl)
 have hnd:=Qw hck (by rw [hk]; rfl)
 rw [hk] at hck
 obtain ⟨T,hop,hz⟩:=Zql hck
 obtain ⟨v,hv1,hv2,hv3,_⟩:=Zdw (g:=g) (w:=w) hz
 obtain ⟨hx,m'⟩:=m.alloc hl hv2 hv3 T
 refine JL (s':=s) hN hoo hdst hd hw hnd (v:=.pointer (some ⟨w.heap.size,0,none⟩)) (e:=.loc t 0) ?_ hx m' ⟨⟨z,by simp [ZU]⟩,by simp⟩ ?_
 ·simp [execOp,hop,Instr.alloc,hv1,newVar,newRow]
 ·rw [hdt]; exact h ops r k hr hkk
theorem ZrT {F:Fr P} {kp:Option (List Nat)} {dk:List Z4} {o:DOp} {os:List DOp} {ρ:Env} {L:Loc} {s:St} (hg:o.guard=none) {t:Nat} (hdt:o.dst=some t) {x:Opd} (hk:o.k = .box x)
  {p:Prop} {v:D} (ha:YW ρ true x=some (p,.d v)) (hp:p) (hl:Zff L t=false) (hok:ZaM v=true) (h:DO F kp dk os ((t,.loc t 0) :: ρ) ((t,cellsOf v) :: L) s):DO F kp dk (o :: os) ρ L s:=by
 refine Jt fun oo g ν w tmps ops i r k hoo hck hcg hdst hd hN m hr hkk=>?_
 have hw:=Qc m hcg (c:=true) (by rw [hg]; rfl)
 have hnd:=Qw hck (by rw [hk]; rfl)
 rw [hk] at hck
 obtain ⟨T,x',hop,hx'⟩:=Zr2 hck
 have hrep:Rep g w _ v:=K2 m hx' rfl ha hp F.ds
 obtain ⟨hc1,hc2⟩:=Ze2 hrep hok
 have hone:=ZhX hrep hok
 obtain ⟨hx,m'⟩:=m.alloc hl (K5 (by simpa using hc1) hc2) (fun v hv=>hone v hv) T
 refine JL (s':=s) hN hoo hdst hd hw hnd (v:=.pointer (some ⟨w.heap.size,0,none⟩)) (e:=.loc t 0) ?_ hx m' ⟨⟨cellsOf v,by simp [ZU]⟩,by simp⟩ ?_
 ·simp [execOp,hop,Instr.box,newVar,newRow]
 ·rw [hdt]; exact h ops r k hr hkk
theorem Zrx {g:G} {ν:Nat→Nat} {w:World} {L:Loc} {v:Value} {l off:Nat} (h:YQ g ν w L v (.loc l off)):v = .pointer (some ⟨ν l,off,none⟩):=h.2
theorem ZlZ {F:Fr P} {kp:Option (List Nat)} {dk:List Z4} {o:DOp} {os:List DOp} {ρ:Env} {L:Loc} {s:St} (hg:o.guard=none) {a v:Opd} (hk:o.k = .store1 a v∧True∨∃ n,o.k = .storeN n a v)
  {p q:Prop} {l off:Nat} {d:D} {cs:List D} (ha:YW ρ true a=some (p,.loc l off)) (hv:YW ρ true v=some (q,.d d)) (hp:p) (hq:q) (hL:ZU L l=some cs)
  (hd1:o.k = .store1 a v→Za0 d=true) (hd2:∀ n,o.k = .storeN n a v→(∃ xs,d = .agg xs)∧(cellsOf d).length=n) (hlen:off + (cellsOf d).length≤cs.length) (hdst0:o.dst=none)
  (h:DO F kp dk os ρ ((l,KR cs off (cellsOf d)) :: L) s):DO F kp dk (o :: os) ρ L s:=by
 refine Jt fun oo g ν w tmps ops i r k hoo hck hcg hdst hd hN m hr hkk=>?_
 have hw:=Qc m hcg (c:=true) (by rw [hg]; rfl)
 have hnd:=Qw hck (by rcases hk with ⟨hk,_⟩ | ⟨n,hk⟩ <;> rw [hk] <;> rfl)
 have hform:∃ t a' v',oo.op = .store t a' v'∧WQ a'=some a∧WQ v'=some v∧WW P t=some (cellsOf d).length∧ZaM d=true:=by
  rcases hk with ⟨hk,_⟩ | ⟨n,hk⟩
  ·have hok:=hd1 hk
   rw [hk] at hck
   obtain ⟨t,a',v',h1,h2,h3,h4,h5⟩:=Zk1 hck
   refine ⟨t,a',v',h1,h4,h5,?_,?_⟩
   ·rw [h3]; cases d <;> simp [Za0] at hok <;> rfl
   ·cases d <;> simp [Za0] at hok <;> rfl
  ·obtain ⟨⟨xs,rfl⟩,hn⟩:=hd2 n hk
   rw [hk] at hck
   obtain ⟨t,a',v',h1,h2,h3,h4,h5⟩:=Zk2 hck
   exact ⟨t,a',v',h1,h4,h5,by rw [h3,hn],rfl⟩
 obtain ⟨t,a',v',hop,ha',hv',hsz,hok⟩:=hform
 have hav:=Zrx (K2 m ha' rfl ha hp F.ds)
 have hrep:Rep g w _ d:=K2 m hv' rfl hv hq F.ds
 obtain ⟨hc1,hc2⟩:=Ze2 hrep hok
 have hone:=ZhX hrep hok
 obtain ⟨hpr,cur,T,hb,hcl,hcr,hco⟩:=m.loc l cs hL
 generalize hvv:(Act.mk tmps F.ds).eval v'=vv at *
 have hst:=run_storeCells_at (P:=P) (ν l) off T vv.cells.toList 0 cur w hb (by simp; omega) (fun x hx=>by rw [ZhT]; exact hone x (Array.mem_toList_iff.1 hx))
 simp only [Nat.add_zero,Array.length_toList] at hst
 have hrepNew:Wh (Rep g w) (cur.toList.take off++vv.cells.toList++cur.toList.drop (off + vv.cells.size)) (KR cs off (cellsOf d)):=by
  have hcur:Wh (Rep g w) cur.toList cs:=K5 (by simpa using hcl) (fun i v d hv hd=>hcr i v d (by simpa using hv) hd)
  unfold KR
  rw [← hc1]
  exact ((hcur.take off).append (K5 (by simpa using hc1) hc2)).append (hcur.drop _)
 obtain ⟨hx,m'⟩:=m.store hL (vs:=(cur.toList.take off++vv.cells.toList++cur.toList.drop (off + vv.cells.size)).toArray) (ds:=KR cs off (cellsOf d)) (by simpa using hrepNew) (fun x hx=>by
  simp only [List.mem_toArray,List.mem_append] at hx
  rcases hx with (hx | hx) | hx
  ·exact hco x (Array.mem_toList_iff.1 (List.mem_of_mem_take hx))
  ·exact hone x (Array.mem_toList_iff.1 hx)
  ·exact hco x (Array.mem_toList_iff.1 (List.mem_of_mem_drop hx))) (by simp [KR]; omega)
 refine F.T.back _ _ _ _ (.one (Zgn hoo hw hnd (w':=w.setRow (ν l) (cur.toList.take off++vv.cells.toList++cur.toList.drop (off + vv.cells.size)).toArray) ?_)) ?_
 ·simp only [execOp,hop,hav,hvv,Instr.storeAt,Instr.sureAddr,storeVar,Sem.run_bind,Sem.run_pure,Result.andThen_ok,QT hsz]
  rw [if_neg (by simp [hc1])]
  rw [hst]; rfl
 ·rw [hdst,hdst0]
  exact F.T.ext _ _ _ _ _ hx (h ops r k hr hkk g ν _ tmps hN m')
end
end Go.DL
namespace Go.DL
open Go
theorem ZmK {cs vs:List D} {s k i:Nat} (hv:vs.length=s) (hk:(k + 1) * s≤cs.length) (hi:(i + 1) * s≤cs.length) :
  part (KR cs (k * s) vs) (i * s) s=if i=k then vs else part cs (i * s) s:=by
 have hk':k * s + s≤cs.length:=by rw [Nat.add_mul,Nat.one_mul] at hk; exact hk
 have hi':i * s + s≤cs.length:=by rw [Nat.add_mul,Nat.one_mul] at hi; exact hi
 unfold part KR
 apply List.ext_getElem?
 intro j
 by_cases hj:j < s
 ·simp only [List.getElem?_take,hj,if_true,List.getElem?_drop,List.getElem?_append,ZuF,List.length_take,hv]
  by_cases hik:i=k
  ·subst hik
   simp only [show i * s + j < min (i * s) cs.length + s from by omega,show ¬ i * s + j < min (i * s) cs.length from by omega,if_true,if_false]
   rw [show i * s + j - min (i * s) cs.length=j from by omega]
  ·simp only [hik,if_false,List.getElem?_take,hj,if_true,List.getElem?_drop]
   rcases Nat.lt_or_gt_of_ne hik with h | h
   ·have:(i + 1) * s≤k * s:=Nat.mul_le_mul_right s h
    rw [Nat.add_mul,Nat.one_mul] at this
    simp only [show i * s + j < min (k * s) cs.length + s from by omega,show i * s + j < min (k * s) cs.length from by omega,if_true,show i * s + j < k * s from by omega]
   ·have:(k + 1) * s≤i * s:=Nat.mul_le_mul_right s h
    rw [Nat.add_mul,Nat.one_mul] at this
    simp only [show ¬ i * s + j < min (k * s) cs.length + s from by omega,if_false]
    congr 1; omega
 ·have e1:∀ l:List D,(l.take s)[j]? = none:=fun l=>by simp [List.getElem?_take,hj]
  rw [e1]
  split
  ·exact (List.getElem?_eq_none (l:=vs) (i:=j) (by omega)).symm
  ·rw [e1]
theorem ZkJ {cs vs:List D} {o:Nat} (h:o + vs.length≤cs.length):(KR cs o vs).length=cs.length:=by
 simp [KR]; omega
theorem Zfx {n:Nat}:∀ {is:List Nat},J4 n is=true→∀ i∈is,i < n
 | i :: r,h,j,hj=>by
  simp only [J4,ZuA,decide_eq_true_eq] at h
  rcases List.mem_cons.1 hj with rfl | hj
  ·exact h.1.1
  ·exact Zfx h.2 j hj
theorem ZjY {z:List D}:∀ {ps:List (Nat × D)} {i:Nat},(∀ p∈ps,p.1≠i)→Wy z ps i=z
 | [],_,_=>rfl
 | (k,d) :: r,i,h=>by
  have h0:¬ k=i:=h (k,d) (by simp)
  simp only [Wy,h0,if_false]
  exact ZjY fun p hp=>h p (List.mem_cons_of_mem _ hp)
theorem ZgZ {len s:Nat}:∀ (is:List Nat) (ds cells:List D),J4 len is=true→is.length=ds.length→Za1 s ds=true→cells.length=len * s →
  ∃ cs,ZcP cells (is.map fun i=>(i * s,s)) ds=some cs∧cs.length=len * s∧∀ i,i < len→part cs (i * s) s=Wy (part cells (i * s) s) (is.zip ds) i
 | [],[],cells,_,_,_,hc=>⟨cells,rfl,hc,fun i _=>rfl⟩
 | k :: is,d :: ds,cells,hd,hn,hp,hc=>by
  simp only [J4,ZuA,decide_eq_true_eq,Bool.not_eq_true',List.contains_eq_mem,decide_eq_false_iff_not] at hd
  simp only [Za1,ZuA,decide_eq_true_eq] at hp
  obtain ⟨⟨hk,hnot⟩,hd⟩:=hd
  obtain ⟨⟨hp1,hp2⟩,hp3⟩:=hp
  have hks:(k + 1) * s≤cells.length:=by rw [hc]; exact Nat.mul_le_mul_right s hk
  have hks':k * s + s≤cells.length:=by rw [Nat.add_mul,Nat.one_mul] at hks; exact hks
  obtain ⟨cs,h1,h2,h3⟩:=ZgZ is ds (KR cells (k * s) (cellsOf d)) hd (by simpa using hn) hp3 (by rw [ZkJ (by omega),hc])
  refine ⟨cs,?_,h2,fun i hi=>?_⟩
  ·simp only [List.map_cons,ZcP]
   rw [if_pos ⟨hp1,hp2,hks'⟩]; exact h1
  ·rw [h3 i hi,ZmK hp2 hks (by rw [hc]; exact Nat.mul_le_mul_right s hi)]
   simp only [List.zip_cons_cons,Wy]
   by_cases hik:i=k
   ·subst hik
    simp only [if_true]
    exact ZjY fun p hp=>by
     obtain ⟨a,b⟩:=p
     have:=(List.of_mem_zip hp).1
     intro h; subst h; exact hnot this
   ·simp only [hik,if_false,show ¬ k=i from fun h=>hik h.symm]
 | [],_ :: _,_,_,hn,_,_=>by simp at hn
 | _ :: _,[],_,_,hn,_,_=>by simp at hn
theorem ZhE {z:List D} {len s i:Nat} (hzl:z.length=s) (_hs0:0 < s) (hi:i < len):part ((List.range (len * s)).map fun i=>z.getD (i % s) .undef) (i * s) s=z:=by
 apply List.ext_getElem?
 intro c
 by_cases hc:c < s
 ·have hlt:i * s + c < len * s:=by
   have:(i + 1) * s≤len * s:=Nat.mul_le_mul_right s hi
   rw [Nat.add_mul,Nat.one_mul] at this; omega
  have hm:(i * s + c) % s=c:=by rw [Nat.mul_comm,Nat.mul_add_mod,Nat.mod_eq_of_lt hc]
  have hcz:c < z.length:=by omega
  simp only [part,List.getElem?_take,hc,if_true,List.getElem?_drop,List.getElem?_map,List.getElem?_range hlt,Option.map_some,hm]
  simp [List.getD,hcz]
 ·rw [List.getElem?_eq_none (l:=z) (by omega)]; simp [part,List.getElem?_take,hc]
section
variable {P:Program}
theorem ZrZ {g:G} {w:World} {len s:Nat} {z:List D} {t e:TypeId} {parts:List (Nat × Value)} {ds:List D} (hu:P.underlying t=some (.slice e)) (hsz:WW P e=some s) (hz:ZbU P e=some z)
  (hdis:J4 len (parts.map (·.1))=true) (hzl:z.length=s) (hs0:0 < s) (hbig:len * s≤2 ^ 24) (hd:Wh (Rep g w) (parts.map (·.2)) ds) (hp:Za1 s ds=true)
  (hf:∀ b,w.heap.size≤b→g.prot b=0∧¬ g.kept b) :
  ∃ v w' g',(Instr.buildSlice t len parts.toArray).run P w = .ok v w'∧ZbB g w g' w'∧Rep g' w' v (.sl .full len s (Wy z ((parts.map (·.1)).zip ds))):=by
 obtain ⟨zv,hz1,hz2,hz3,ie,hie,hzz⟩:=Zdw (g:=g) (w:=w) hz
 have hsize:ie.size=s:=by simpa [WW,hie] using hsz
 have hzlen:zv.cells.size=s:=by have:=hz2.len; simp at this; omega
 have hn:(parts.map (·.1)).length=ds.length:=by have:=hd.len; simpa using this
 let c0:Array Value:=(Array.range (len * s)).map (zv.cells[· % zv.cells.size]!)
 let d0:List D:=(List.range (len * s)).map fun i=>z.getD (i % s) .undef
 have hrep0:Wh (Rep g w) c0.toList d0:=by
  refine K5 (by simp [c0,d0]) (fun i v d hv hd=>?_)
  simp only [c0,d0,Array.toList_map,Array.toList_range,List.getElem?_map,ZuC] at hv hd
  obtain ⟨a,ha,rfl⟩:=hv
  obtain ⟨b,hb,rfl⟩:=hd
  rw [ha] at hb
  simp only [Zuu] at hb
  subst hb
  have hlt:a % s < s:=Nat.mod_lt _ hs0
  refine hz2.get (a % s) _ _ ?_ ?_
  ·rw [hzlen]; simp [getElem!_pos,hzlen,hlt]
  ·simp [List.getD,hzl,hlt]
 have hone0:∀ v∈c0,v.one1=true:=fun v hv=>by
  simp only [c0,Array.mem_map] at hv
  obtain ⟨a,_,rfl⟩:=hv
  have hlt:a % zv.cells.size < zv.cells.size:=Nat.mod_lt _ (by omega)
  rw [getElem!_pos zv.cells (a % zv.cells.size) hlt]
  exact hz3 _ (Array.getElem_mem hlt)
 have hlen0:d0.length=len * s:=by simp [d0]
 obtain ⟨cs,hfill,hcl,hrows⟩:=ZgZ (parts.map (·.1)) ds d0 hdis hn hp hlen0
 obtain ⟨cv,hf1,hf2,hf3⟩:=Zfz (g:=g) (w:=w) (fun i=>some (i * s,s)) parts ((parts.map (·.1)).map fun i=>(i * s,s)) ds cs d0 c0 (fun i x q hx hq=>by
  simp only [List.map_map,List.getElem?_map,hx,Option.map_some,Zuu,Function.comp_def] at hq
  rw [← hq]) (by simp) hd hrep0 hone0 hfill
 have hcv:cv.size=len * s:=by have:=hf2.len; simp at this; omega
 have hrow:∀ i j,i < len→j < s→i * s + j < len * s:=fun i j hi hj=>by
  have:(i + 1) * s≤len * s:=Nat.mul_le_mul_right s hi
  rw [Nat.add_mul,Nat.one_mul] at this; omega
 have hcell:∀ i j d,i < len→j < s→(Wy z ((parts.map (·.1)).zip ds) i)[j]? = some d→cs[i * s + j]? = some d:=fun i j d hi hj hd=>by
  have h:=hrows i hi
  have hz':part d0 (i * s) s=z:=ZhE hzl hs0 hi
  rw [hz'] at h
  rw [← h] at hd
  simpa [part,List.getElem?_take,hj,List.getElem?_drop] using hd
 have hlrow:∀ i,i < len→(Wy z ((parts.map (·.1)).zip ds) i).length=s:=fun i hi=>by
  have hz':=hrows i hi
  have:(part cs (i * s) s).length=s:=by have:=hrow i (s - 1) hi (by omega); simp [part]; omega
  have hzp:part d0 (i * s) s=z:=ZhE hzl hs0 hi
  rw [hz',hzp] at this; exact this
 by_cases hl0:len=0
 ·subst hl0
  have hp0:parts=[]:=by
   cases parts with
   | nil=>rfl
   | cons x r=>have:=Zfx hdis x.1 (by simp); omega
  subst hp0
  refine ⟨.slice (some ⟨w.heap.size,0,none⟩) 0 0,w.alloc (.cells #[] e),{ g with prot:=fun b=>if b=w.heap.size then 0 else g.prot b },?_,Zix #[] e hf,?_⟩
  ·simp [Instr.buildSlice,run_underlying hu,QT hsz,Instr.fill,newRow]
   exact congrArg (fun c=>w.alloc (Obj.cells c e)) (Array.ext' (by simp))
  ·exact .sl w.heap.size 0 0 0 s _ .full (fun _ _=>undef) (fun i hi=>by omega) (fun i j hi=>by omega) (fun i j hi=>by omega) (fun i j d hi=>by omega) (fun i j hi=>by omega) rfl (by omega) (by simp [big])
 ·have hpos:¬ len * s=0:=by simp [Nat.mul_eq_zero]; omega
  have hrun:=run_buildSlice (P:=P) w t e len parts.toArray cv ie zv hu hie hzz (by rw [hsize]; omega) (by rw [hsize]; exact hpos) (by rw [hsize]; exact hf1)
  have hgr:=Zix (g:=g) (w:=w) cv e hf
  refine ⟨_,_,_,hrun,hgr,?_⟩
  have hext:=hgr.ext hf
  refine .sl w.heap.size 0 len len s _ .full (fun i j=>cv.getD (i * s + j) undef) hlrow (fun i j hi hj=>?_) (fun i j hi hj=>?_) (fun i j d hi hd=>?_) (fun i j hi hj=>?_) rfl (ZuO _) ?_
  ·have hlt:i * s + j < cv.size:=by rw [hcv]; exact hrow i j hi hj
   have:(w.alloc (.cells cv e)).cell? ⟨w.heap.size,0 + i * s + j,none⟩=cv[0 + i * s + j]?:=World.cell?_alloc_new w cv e _
   rw [this]; simp [Array.getD,hlt]
  ·simp only [if_true,hcv]; have:=hrow i j hi hj; omega
  ·have hj:j < s:=by rw [← hlrow i hi]; exact (List.getElem?_eq_some_iff.1 hd).1
   have hlt:i * s + j < cv.size:=by rw [hcv]; exact hrow i j hi hj
   refine (hf2.get (i * s + j) _ d ?_ (hcell i j d hi hj hd)).mono hext
   simp [Array.getD,hlt]
  ·have hlt:i * s + j < cv.size:=by rw [hcv]; exact hrow i j hi hj
   simp only [Array.getD,hlt,dite_true]
   exact hf3 _ (Array.getElem_mem hlt)
  ·unfold big
   have:len≤len * s:=Nat.le_mul_of_pos_right _ hs0
   omega
end
end Go.DL
namespace Go.DL
open Go
section
variable {P:Program}
theorem KS.updL {g:G} {s:St} {w:World} (h:KS g s w) {b:Nat} {o:KC} (ho:Jk g w b o) (hk:¬ g.kept b):KS g (s.upd b o) w:={
 obj c x hx:=by
  simp only [St.upd] at hx
  by_cases hb:c=b
  ·simp only [hb,if_true,Zuu] at hx; subst hx; rw [hb]; exact ho
  ·simp only [hb,if_false] at hx; exact h.obj c x hx
 kept c x hx:=by
  simp only [St.upd] at hx
  by_cases hb:c=b
  ·rw [hb]; exact hk
  ·simp only [hb,if_false] at hx; exact h.kept c x hx
 fresh:=h.fresh }
theorem Yg.named {g:G} {ν:Nat→Nat} {w w':World} {tmps:Array Value} {ρ:Env} {L:Loc} {s:St} (m:Yg g ν w tmps ρ L s) {b:Nat} {o o':KC} (hb:s b=some o) (he:Ext g w g w') (hsz:w'.heap.size=w.heap.size)
  (hoth:∀ c,c≠b→w'.heap[c]? = w.heap[c]?) (ho:Jk g w' b o'):Yg g ν w' tmps ρ L (s.upd b o'):={
 st:=by
  have h1:KS g (s.del b) w':=⟨fun c x hx=>by
    simp only [St.del] at hx
    by_cases hc:c=b
    ·simp [hc] at hx
    ·simp only [hc,if_false] at hx; exact (m.st.obj c x hx).mono he (hoth c hc) rfl,
   fun c x hx=>by
    simp only [St.del] at hx
    by_cases hc:c=b
    ·simp [hc] at hx
    ·simp only [hc,if_false] at hx; exact m.st.kept c x hx,
   fun c hc=>m.st.fresh c (by omega)⟩
  have h2:=h1.updL ho (m.st.kept b o hb)
  have:(s.del b).upd b o'=s.upd b o':=by
   funext c; simp only [St.upd,St.del]; by_cases hc:c=b <;> simp [hc]
  rw [this] at h2; exact h2
 loc l cs hl:=(m.loc l cs hl).mono he (hoth _ (fun h=>by have:=m.locSt l cs hl; rw [h,hb] at this; simp at this)) rfl
 locKept:=m.locKept
 locSt l cs hl:=by
  have hne:ν l≠b:=fun h=>by have:=m.locSt l cs hl; rw [h,hb] at this; simp at this
  simp only [St.upd,hne,if_false]; exact m.locSt l cs hl
 inj:=m.inj
 env t e ht:=(m.env t e ht).mono he }
theorem Yg.newObj {g g':G} {ν:Nat→Nat} {w w':World} {tmps:Array Value} {ρ:Env} {L:Loc} {s:St} (m:Yg g ν w tmps ρ L s) (hg:ZbB g w g' w') {o:KC} (ho:Jk g' w' w.heap.size o) :
  s w.heap.size=none∧Yg g' ν w' tmps ρ L (s.upd w.heap.size o):=by
 have hn:s w.heap.size=none:=by
  cases h:s w.heap.size with
  | none=>rfl
  | some x=>exact absurd (m.st.obj _ x h).lt (Nat.lt_irrefl _)
 have m':=m.grow hg
 refine ⟨hn,⟨m'.st.updL ho (by rw [hg.kept]; exact (m.st.fresh _ (ZuO _)).2),m'.loc,m'.locKept,?_,m'.inj,m'.env⟩⟩
 intro l cs hl
 have hlt:=(m.loc l cs hl).lt
 have hne:ν l≠w.heap.size:=by omega
 simp only [St.upd,hne,if_false]; exact m'.locSt l cs hl
theorem ZjE {g:G} {w:World} (b:Nat) {en:Array MapEntry} {cl:Nat} (o:Obj) (hb:w.heap[b]? = some (.map en cl)) (hp:g.prot b=0) (hk:¬ g.kept b):Ext g w g { w with heap:=w.heap.setIfInBounds b o } where
 size:=by simp
 prot _:=ZuO _
 cell b' o' ho:=by
  by_cases h:b'=b
  ·subst h; omega
  ·exact ZbF (by simp [Array.getElem?_setIfInBounds,Ne.symm h])
 hdr b' x hx:=by
  by_cases h:b'=b
  ·subst h; simp [hdr,hb] at hx
  ·rw [Zb5 (w:=w) (by simp [Array.getElem?_setIfInBounds,Ne.symm h])]; exact hx
 kept b' hb':=by
  have h:b'≠b:=fun h=>hk (h ▸ hb')
  simp [Array.getElem?_setIfInBounds,Ne.symm h]
 keptProt _ _:=rfl
 keptEq:=rfl
 os:=rfl
 output:=rfl
 tape:=rfl
theorem Zlo {w:World} {b:Nat} {en:Array MapEntry} {cl:Nat} (o:Obj) (hb:w.heap[b]? = some (.map en cl)):({ w with heap:=w.heap.setIfInBounds b o }:World).heap[b]? = some o:=by
 have:=(Array.getElem?_eq_some_iff.1 hb).1
 simp [Array.getElem?_setIfInBounds,this]
theorem Za5 {w:World} {b c:Nat} (o:Obj) (h:c≠b):({ w with heap:=w.heap.setIfInBounds b o }:World).heap[c]? = w.heap[c]?:=by
 simp [Array.getElem?_setIfInBounds,Ne.symm h]
theorem Zqn {op:Op} (h:ck P op=some .mkmap):∃ t,op = .makeMap t none:=by
 unfold ck at h
 split at h
 ·simp at h
 ·split at h <;> (try (simp at h; done))
  all_goals (try (repeat' (split at h <;> (try (simp at h; done)))))
  exact ⟨_,rfl⟩
theorem Zov {op:Op} {e:TypeId} {n bytes:Nat} {z:List D} {l c:Opd} (h:ck P op=some (.mkslice e n bytes z l c)) :
  ∃ t l' c',op = .makeSlice t l' c'∧P.underlying t=some (.slice e)∧WW P e=some n∧ZbU P e=some z∧bytes=P.bytesOf e∧WQ l'=some l∧WQ c'=some c∧0 < n∧z.length=n:=by
 unfold ck at h
 split at h
 ·simp at h
 ·split at h <;> (try (simp at h; done))
  all_goals (try (repeat' (split at h <;> (try (simp at h; done)))))
  rename_i hcond
  simp only [Zuu,K.mkslice.injEq] at h
  obtain ⟨rfl,rfl,rfl,rfl,rfl,rfl⟩:=h
  simp only [ZuA,decide_eq_true_eq] at hcond
  exact ⟨_,_,_,rfl,‹_›,‹_›,‹_›,rfl,‹_›,‹_›,hcond.1,hcond.2⟩
theorem Zr3 {op:Op} {x:Opd} (h:ck P op=some (.s2b x)):∃ s d x' e,op = .convert s d x'∧P.underlying s=some .string∧P.underlying d=some (.slice e)∧P.underlying e=some (.int .u8)∧WQ x'=some x:=by
 unfold ck at h
 split at h
 ·simp at h
 ·split at h <;> (try (simp at h; done))
  all_goals (try (repeat' (split at h <;> (try (simp at h; done)))))
  simp only [ZuC,K.s2b.injEq,exists_eq_right] at h
  exact ⟨_,_,_,_,rfl,‹_›,‹_›,‹_›,h⟩
theorem Zpk {op:Op} {kp:KP} {m k v:Opd} (h:ck P op=some (.mapupd kp m k v)) :
  ∃ t kt et m' k' v',(op = .mapUpdate t m' k' v'∨op = .insert t m' k' v')∧P.underlying t=some (.map kt et)∧Zbc P kt=some kp∧WQ m'=some m∧WQ k'=some k∧WQ v'=some v:=by
 unfold ck at h
 split at h
 ·simp at h
 ·split at h <;> (try (simp at h; done))
  all_goals (try (repeat' (split at h <;> (try (simp at h; done)))))
  all_goals (simp only [Zuu,K.mapupd.injEq] at h; obtain ⟨rfl,rfl,rfl,rfl⟩:=h)
  ·exact ⟨_,_,_,_,_,_,.inl rfl,‹_›,‹_›,‹_›,‹_›,‹_›⟩
  ·exact ⟨_,_,_,_,_,_,.inr rfl,‹_›,‹_›,‹_›,‹_›,‹_›⟩
theorem Zpi {op:Op} {kp:KP} {m k:Opd} (h:ck P op=some (.delete kp m k)) :
  ∃ ats t kt et m' k',op = .call ⟨.builtin .delete,#[m',k'],ats⟩∧ats[0]? = some t∧P.underlying t=some (.map kt et)∧Zbc P kt=some kp∧WQ m'=some m∧WQ k'=some k:=by
 unfold ck at h
 split at h
 ·simp at h
 ·split at h <;> (try (simp at h; done))
  all_goals (try (repeat' (split at h <;> (try (simp at h; done)))))
  simp only [Zuu,K.delete.injEq] at h
  obtain ⟨rfl,rfl,rfl⟩:=h
  rename_i c hcq x1 hcal o0 x kt et m' k' hu hargs o1 o2 o3 kp m k hk hm hk'
  clear hcq
  obtain ⟨callee,⟨al⟩,ats⟩:=c
  have hcal':callee=_:=hcal
  have hargs':al=_:=hargs
  subst hcal' hargs'
  simp only [Option.bind_eq_some_iff] at hu
  obtain ⟨t,ht,hu⟩:=hu
  exact ⟨ats,t,kt,et,m',k',rfl,ht,hu,hk,hm,hk'⟩
theorem Zpj {op:Op} {kp:KP} {z:D} {m k:Opd} (h:ck P op=some (.mapent kp z m k)) :
  ∃ t kt et m' k',op = .mapEntry t m' k'∧P.underlying t=some (.map kt et)∧Zbc P kt=some kp∧ZdI P et=some z∧WQ m'=some m∧WQ k'=some k:=by
 unfold ck at h
 split at h
 ·simp at h
 ·split at h <;> (try (simp at h; done))
  all_goals (try (repeat' (split at h <;> (try (simp at h; done)))))
  simp only [Zuu,K.mapent.injEq] at h
  obtain ⟨rfl,rfl,rfl,rfl⟩:=h
  exact ⟨_,_,_,_,_,rfl,‹_›,‹_›,‹_›,‹_›,‹_›⟩
theorem Zqm {op:Op} {m k v:Opd} (h:ck P op=some (.entst m k v)):∃ t m' k' v',op = .entryStore t m' k' v'∧WQ m'=some m∧WQ k'=some k∧WQ v'=some v:=by
 unfold ck at h
 split at h
 ·simp at h
 ·split at h <;> (try (simp at h; done))
  all_goals (try (repeat' (split at h <;> (try (simp at h; done)))))
  simp only [Zuu,K.entst.injEq] at h
  obtain ⟨rfl,rfl,rfl⟩:=h
  exact ⟨_,_,_,_,rfl,‹_›,‹_›,‹_›⟩
theorem ZkW {F:Fr P} {kp:Option (List Nat)} {dk:List Z4} {o:DOp} {os:List DOp} {ρ:Env} {L:Loc} {s:St} (hg:o.guard=none) {a v:Opd} (hk:o.k = .store1 a v∧True∨∃ n,o.k = .storeN n a v)
  {p q:Prop} {b off:Nat} {d:D} {cs:List D} (ha:YW ρ true a=some (p,.d (.ptr b off))) (hv:YW ρ true v=some (q,.d d)) (hp:p) (hq:q) (hL:Zad s b=some cs)
  (hd1:o.k = .store1 a v→Za0 d=true) (hd2:∀ n,o.k = .storeN n a v→(∃ xs,d = .agg xs)∧(cellsOf d).length=n) (hlen:off + (cellsOf d).length≤cs.length) (hdst0:o.dst=none)
  (h:DO F kp dk os ρ L (s.upd b (.cells (KR cs off (cellsOf d))))):DO F kp dk (o :: os) ρ L s:=by
 refine Jt fun oo g ν w tmps ops i r k hoo hck hcg hdst hd hN m hr hkk=>?_
 have hw:=Qc m hcg (c:=true) (by rw [hg]; rfl)
 have hnd:=Qw hck (by rcases hk with ⟨hk,_⟩ | ⟨n,hk⟩ <;> rw [hk] <;> rfl)
 have hform:∃ t a' v',oo.op = .store t a' v'∧WQ a'=some a∧WQ v'=some v∧WW P t=some (cellsOf d).length∧ZaM d=true:=by
  rcases hk with ⟨hk,_⟩ | ⟨n,hk⟩
  ·have hok:=hd1 hk
   rw [hk] at hck
   obtain ⟨t,a',v',h1,h2,h3,h4,h5⟩:=Zk1 hck
   refine ⟨t,a',v',h1,h4,h5,?_,?_⟩
   ·rw [h3]; cases d <;> simp [Za0] at hok <;> rfl
   ·cases d <;> simp [Za0] at hok <;> rfl
  ·obtain ⟨⟨xs,rfl⟩,hn⟩:=hd2 n hk
   rw [hk] at hck
   obtain ⟨t,a',v',h1,h2,h3,h4,h5⟩:=Zk2 hck
   exact ⟨t,a',v',h1,h4,h5,by rw [h3,hn],rfl⟩
 obtain ⟨t,a',v',hop,ha',hv',hsz,hok⟩:=hform
 have hsb:s b=some (.cells cs):=by
  unfold Zad at hL
  split at hL <;> simp only [Zuu,reduceCtorEq] at hL
  subst hL; assumption
 have hra:Rep g w ((Act.mk tmps F.ds).eval a') (.ptr b off):=K2 m ha' rfl ha hp F.ds
 have hrv:Rep g w ((Act.mk tmps F.ds).eval v') d:=K2 m hv' rfl hv hq F.ds
 have hav:(Act.mk tmps F.ds).eval a' = .pointer (some ⟨b,off,none⟩):=by
  generalize (Act.mk tmps F.ds).eval a'=z at hra
  cases hra; rfl
 obtain ⟨hc1,hc2⟩:=Ze2 hrv hok
 have hone:=ZhX hrv hok
 obtain ⟨hpr,cur,T,hb,hcl,hcr,hco⟩:=ZfV m.st hL
 generalize hvv:(Act.mk tmps F.ds).eval v'=vv at *
 have hst:=run_storeCells_at (P:=P) b off T vv.cells.toList 0 cur w hb (by simp; omega) (fun x hx=>by rw [ZhT]; exact hone x (Array.mem_toList_iff.1 hx))
 simp only [Nat.add_zero,Array.length_toList] at hst
 have hrepNew:Wh (Rep g w) (cur.toList.take off++vv.cells.toList++cur.toList.drop (off + vv.cells.size)) (KR cs off (cellsOf d)):=by
  have hcur:Wh (Rep g w) cur.toList cs:=K5 (by simpa using hcl) (fun i v d hv hd=>hcr i v d (by simpa using hv) hd)
  unfold KR
  rw [← hc1]
  exact ((hcur.take off).append (K5 (by simpa using hc1) hc2)).append (hcur.drop _)
 have hsize:((cur.toList.take off++vv.cells.toList++cur.toList.drop (off + vv.cells.size)).toArray).size=cur.size:=by
  have:=hrepNew.len; simp [KR] at this ⊢; omega
 have he:=ZjF (g:=g) b hb hsize hpr (m.st.kept b _ hsb)
 have m':=m.named (o':=.cells (KR cs off (cellsOf d))) hsb he (by simp) (fun c hc=>setRow_other w b c _ hc) ⟨hpr,_,T,setRow_heap w b cur _ T (0,0) hb,by rw [hsize,hcl]; simp [KR]; omega,
  fun i v d hv hd=>(hrepNew.get i v d (by simpa using hv) hd).mono he,fun x hx=>by
   simp only [List.mem_toArray,List.mem_append] at hx
   rcases hx with (hx | hx) | hx
   ·exact hco x (Array.mem_toList_iff.1 (List.mem_of_mem_take hx))
   ·exact hone x (Array.mem_toList_iff.1 hx)
   ·exact hco x (Array.mem_toList_iff.1 (List.mem_of_mem_drop hx))⟩
 refine F.T.back _ _ _ _ (.one (Zgn hoo hw hnd (w':=w.setRow b (cur.toList.take off++vv.cells.toList++cur.toList.drop (off + vv.cells.size)).toArray) ?_)) ?_
 ·simp only [execOp,hop,hav,hvv,Instr.storeAt,Instr.sureAddr,storeVar,Sem.run_bind,Sem.run_pure,Result.andThen_ok,QT hsz]
  rw [if_neg (by simp [hc1])]
  rw [hst]; rfl
 ·rw [hdst,hdst0]
  exact F.T.ext _ _ _ _ _ he (h ops r k hr hkk g ν _ tmps hN m')
theorem Zdj {g:G} {w:World} (o:Obj) (hf:∀ b,w.heap.size≤b→g.prot b=0∧¬ g.kept b):ZbB g w g (w.alloc o):={
 size:=by simp
 old b hb:=ZgM w _ hb
 prot _ _:=rfl
 fresh b hb:=(hf b (by simp at hb; omega)).1
 kept:=rfl
 os:=rfl
 output:=rfl
 tape:=rfl }
theorem Zp6 {F:Fr P} {kp:Option (List Nat)} {dk:List Z4} {o:DOp} {os:List DOp} {ρ:Env} {L:Loc} {s:St} (hg:o.guard=none) {t:Nat} (hdt:o.dst=some t) (hk:o.k = .mkmap)
  (h:∀ b,s b=none→DO F kp dk os ((t,.d (.map b)) :: ρ) L (s.upd b (.map []))):DO F kp dk (o :: os) ρ L s:=by
 refine Jt fun oo g ν w tmps ops i r k hoo hck hcg hdst hd hN m hr hkk=>?_
 have hw:=Qc m hcg (c:=true) (by rw [hg]; rfl)
 have hnd:=Qw hck (by rw [hk]; rfl)
 rw [hk] at hck
 obtain ⟨T,hop⟩:=Zqn hck
 have hgr:=Zdj (g:=g) (w:=w) (.map #[] 0) m.st.fresh
 obtain ⟨hn,m'⟩:=m.newObj hgr (o:=.map []) ⟨(m.st.fresh _ (ZuO _)).1,#[],0,ZbD w _,rfl,by simp,by simp,by simp,by simp⟩
 refine JL (L':=L) hN hoo hdst hd hw hnd (v:=.map (some w.heap.size)) (e:=.d (.map w.heap.size)) ?_ (hgr.ext m.st.fresh) m' (Rep.map _) ?_
 ·simp [execOp,hop,Instr.makeMap]
 ·rw [hdt]; exact h _ hn ops r k hr hkk
theorem Zls {z:List D} {n:Nat}:∀ {c:Nat},z.length=n→(ZbV z c).length=c * n∧∀ i,i < c * n→(ZbV z c)[i]? = z[i % n]?
 | 0,hz=>by simp [ZbV]
 | c + 1,hz=>by
  obtain ⟨h1,h2⟩:=Zls (c:=c) hz
  have he:ZbV z (c + 1)=z++ZbV z c:=by simp [ZbV,List.replicate_succ]
  rw [he]
  refine ⟨by simp [h1,hz,Nat.add_mul,Nat.add_comm],fun i hi=>?_⟩
  by_cases h:i < n
  ·rw [List.getElem?_append_left (by omega),Nat.mod_eq_of_lt h]
  ·rw [List.getElem?_append_right (by omega),hz,h2 _ (by rw [Nat.add_mul] at hi; omega)]
   rw [Nat.mod_eq_sub_mod (by omega:n≤i)]
theorem Zog {F:Fr P} {kp:Option (List Nat)} {dk:List Z4} {o:DOp} {os:List DOp} {ρ:Env} {L:Loc} {s:St} (hg:o.guard=none) {t:Nat} (hdt:o.dst=some t) {e:TypeId} {n bytes:Nat} {z:List D} {lx hx:Opd}
  (hk:o.k = .mkslice e n bytes z lx hx) {p q:Prop} {k1 k2:IntKind} {l c:Int} (hl:YW ρ true lx=some (p,.d (.int k1 l))) (hc:YW ρ true hx=some (q,.d (.int k2 c))) (hp:p) (hq:q) (h0:0≤l) (hlc:l≤c)
  (hbytes:(bytes:Int) * c≤140737488355328) (h63:c≤big)
  (h:∀ b,s b=none→DO F kp dk os ((t,.d (.msl b 0 l.toNat c.toNat n)) :: ρ) L (s.upd b (.cells (ZbV z c.toNat)))):DO F kp dk (o :: os) ρ L s:=by
 refine Jt fun oo g ν w tmps ops i r k hoo hck hcg hdst hd hN m hr hkk=>?_
 have hw:=Qc m hcg (c:=true) (by rw [hg]; rfl)
 have hnd:=Qw hck (by rw [hk]; rfl)
 rw [hk] at hck
 obtain ⟨T,l',c',hop,hu,hsz,hz,hby,hl',hc',hn0,hzn⟩:=Zov hck
 obtain ⟨zv,hz1,hz2,hz3,ie,hie,hzz⟩:=Zdw (g:=g) (w:=w) hz
 obtain ⟨hlv,_⟩:=Za4 (g:=g) (w:=w) (K2 m hl' rfl hl hp F.ds)
 obtain ⟨hcv,_⟩:=Za4 (g:=g) (w:=w) (K2 m hc' rfl hc hq F.ds)
 have hsize:ie.size=n:=by simpa [WW,hie] using hsz
 have hbt:ie.bytes=bytes:=by rw [hby]; simp [Program.bytesOf,hie]
 have hzlen:zv.cells.size=z.length:=by have:=hz2.len; simpa using this
 have hrun:=run_make (P:=P) w T e ie zv hu hie hzz k1 k2 l c h0 hlc (by rw [hbt]; omega) (by unfold big at h63; omega)
 obtain ⟨zl1,zl2⟩:=Zls (z:=z) (n:=n) (c:=c.toNat) hzn
 have hgr:=Zdj (g:=g) (w:=w) (.cells (madeCells zv.cells (c.toNat * ie.size)) e) m.st.fresh
 have he:=hgr.ext m.st.fresh
 have hob:Jk g (w.alloc (.cells (madeCells zv.cells (c.toNat * ie.size)) e)) w.heap.size (.cells (ZbV z c.toNat)):=by
  refine ⟨(m.st.fresh _ (ZuO _)).1,_,e,ZbD w _,by rw [size_madeCells,zl1,hsize],fun i v d hv hd=>?_,fun x hx=>?_⟩
  ·have hi:i < c.toNat * n:=by rw [← zl1]; exact (List.getElem?_eq_some_iff.1 hd).1
   rw [zl2 i hi] at hd
   have hm:i % n < n:=Nat.mod_lt _ hn0
   have hv':zv.cells.toList[i % n]? = some v:=by
    simp only [madeCells,hsize,Array.getElem?_map,Array.getElem?_range,hi,if_true,Option.map_some,Zuu,hzlen,hzn] at hv
    rw [getElem!_pos zv.cells (i % n) (by omega)] at hv
    rw [← hv]; simp [hzlen,hzn,hm]
   exact (hz2.get _ v d hv' hd).mono he
  ·simp only [madeCells,Array.mem_map] at hx
   obtain ⟨a,_,rfl⟩:=hx
   have hlt:a % zv.cells.size < zv.cells.size:=Nat.mod_lt _ (by omega)
   rw [getElem!_pos zv.cells (a % zv.cells.size) hlt]
   exact hz3 _ (Array.getElem_mem hlt)
 obtain ⟨hn,m'⟩:=m.newObj hgr hob
 refine JL (L':=L) hN hoo hdst hd hw hnd (v:=.slice (some ⟨w.heap.size,0,none⟩) l.toNat c.toNat) (e:=.d (.msl w.heap.size 0 l.toNat c.toNat n)) ?_ he m' (Rep.msl _ _ _ _ _ (by omega) (by omega)) ?_
 ·simp [execOp,hop,hlv,hcv,hrun]
 ·rw [hdt]; exact h _ hn ops r k hr hkk
end
end Go.DL
namespace Go.DL
open Go
section
variable {P:Program}
theorem ZiH {g:G} {w:World} {k:SK} {k1 k2:Value} {d1 d2:D} (h1:Rep g w k1 d1) (h2:Rep g w k2 d2) (h:KV k d1 d2=some true) (n:Nat):Instr.sameBits n k1 k2=true:=by
 cases k
 ·cases h1 <;> cases h2 <;> simp only [KV,reduceCtorEq] at h
  split at h <;> simp only [reduceCtorEq,Zuu,decide_eq_true_eq] at h
  rename_i hk
  subst hk; subst h
  cases n <;> simp [Instr.sameBits]
 ·cases h1 <;> cases h2 <;> simp only [KV,reduceCtorEq,Zuu,decide_eq_true_eq] at h
  rename_i s1 a e1 _ s2 b e2 _
  subst h
  have:s1=s2:=by
   cases s1; cases s2
   simp only [ByteArray.mk.injEq]
   apply Array.ext'
   simp only at e1 e2
   rw [e1,e2]
  subst this
  cases n <;> simp [Instr.sameBits,MapKept.bytes_beq]
 ·cases h1 <;> cases h2 <;> simp only [KV,reduceCtorEq,Zuu,decide_eq_true_eq] at h
  subst h
  cases n <;> simp [Instr.sameBits]
theorem Zeu {xs ys:List D}:∀ {l:List (Nat × SK)},QV xs ys l=some true→∀ o k,(o,k)∈l→∃ x y,xs[o]? = some x∧ys[o]? = some y∧KV k x y=some true
 | [],_,o,k,hm=>by simp at hm
 | (o',k') :: r,h,o,k,hm=>by
  simp only [QV] at h
  split at h <;> (try (simp at h; done))
  rename_i x y hx hy
  split at h <;> (try (simp at h; done))
  rename_i b c hb hc
  simp only [Zuu,ZuA] at h
  obtain ⟨rfl,rfl⟩:=h
  rcases List.mem_cons.1 hm with he | hm
  ·simp only [Zuz] at he
   obtain ⟨rfl,rfl⟩:=he
   exact ⟨x,y,hx,hy,hb⟩
  ·exact Zeu hc o k hm
theorem ZiG {g:G} {w:World} {kt:TypeId} {kp:KP} (hk:Zbc P kt=some kp) {k1 k2:Value} {d1 d2:D} (h1:Rep g w k1 d1) (h2:Rep g w k2 d2) (h:JM kp d1 d2=some true) (n:Nat):Instr.sameBits (n + 1) k1 k2=true:=by
 rcases Zed hk with ⟨sk,rfl,hs⟩ | ⟨fs,l,m,rfl,hu,hn,hl,hrange,hst⟩
 ·exact ZiH h1 h2 h _
 ·cases h1 <;> cases h2 <;> simp only [JM,reduceCtorEq] at h
  rename_i v1 xs hn1 r1 o1 v2 ys hn2 r2 o2
  split at h <;> (try (simp at h; done))
  rename_i hlen
  simp only [Instr.sameBits,List.size_toArray,ZuA,beq_iff_eq]
  refine ⟨by omega,?_⟩
  rw [List.all_eq_true]
  intro p hp
  obtain ⟨i,hi,hpi⟩:=ZuJ hp
  simp only [List.length_zip] at hi
  have hi1:i < v1.length:=by omega
  have hi2:i < v2.length:=by omega
  have hil:i < l.length:=by omega
  have hm:(l[i].1,l[i].2)∈l:=List.getElem_mem hil
  have hoi:l[i].1=i:=by
   have h3:(l.map (·.1))[i]? = some l[i].1:=by simp [hil]
   rw [hrange] at h3
   have hlm:l.length=m:=by have:=congrArg List.length hrange; simpa using this
   rw [List.getElem?_range (by omega)] at h3
   exact (Option.some.inj h3).symm
  rw [hoi] at hm
  obtain ⟨x,y,hx,hy,he⟩:=Zeu h i _ hm
  have e1:p=(v1[i],v2[i]):=by rw [← hpi]; simp
  rw [e1]
  exact ZiH (r1 i _ x (by simp [hi1]) hx) (r2 i _ y (by simp [hi2]) hy) he n
theorem ZjX {kp:KP} {a b:D} (h:JM kp a b=some true):JM kp b a=some true:=by
 have sc:∀ (k:SK) (a b:D),KV k a b=some true→KV k b a=some true:=by
  intro k a b h
  cases k <;> cases a <;> cases b <;> simp only [KV,reduceCtorEq] at h ⊢
  ·split at h <;> simp only [reduceCtorEq,Zuu,decide_eq_true_eq] at h
   rename_i hk
   simp [hk,h]
  ·simp only [Zuu,decide_eq_true_eq] at h ⊢; exact h.symm
  ·simp only [Zuu,decide_eq_true_eq] at h ⊢; exact h.symm
 cases kp with
 | sc k=>exact sc k a b h
 | st l =>
  cases a <;> cases b <;> simp only [JM,reduceCtorEq] at h ⊢
  rename_i xs ys
  split at h <;> (try (simp at h; done))
  rename_i hl
  rw [if_pos ⟨hl.2,hl.1⟩]
  clear hl
  induction l with
  | nil=>rfl
  | cons p r ih =>
   obtain ⟨x,y,hx,hy,he⟩:=Zeu h p.1 p.2 (by simp)
   have hr:QV xs ys r=some true:=by
    simp only [QV,hx,hy,he] at h
    split at h <;> (try (simp at h; done))
    rename_i b c hb hc
    simp only [Zuu,ZuA] at h
    rw [hc,h.2]
   simp only [QV,hx,hy,sc _ _ _ he,ih hr,Bool.and_self]
def Zjl (g:G) (w:World) (b:Nat) (en':Array MapEntry) (cl':Nat) (o:KC):Prop :=
 ∀ w',Ext g w g w'→w'.heap[b]? = some (.map en' cl')→Jk g w' b o
theorem ZmE {g:G} {w:World} {t kt et:TypeId} {kp:KP} (hu:P.underlying t=some (.map kt et)) (hk:Zbc P kt=some kp) {b:Nat} {es es':List (D × D)} {k v:Value} {dk dv:D} (ho:Jk g w b (.map es))
  (hrk:Rep g w k dk) (hrv:Rep g w v dv) (hok:ZaI kp dk=true) (hupd:Zbp kp dk dv es=some es') :
  ∃ en' cl',(Instr.mapUpdate t (.map (some b)) k v).run P w = .ok () { w with heap:=w.heap.setIfInBounds b (.map en' cl') }∧Zjl g w b en' cl' (.map es'):=by
 obtain ⟨hp0,en,clock,hb,hlen,h3,h4,h5,h6⟩:=ho
 obtain ⟨io,hio,hes⟩:=Zjb hupd
 have hfind:=ZcR (P:=P) hk hrk (es:=en.toList) (by simpa using hlen) (fun i e d a b=>h3 i e d (by simpa using a) b) hio
 have hck:=Zb2 (P:=P) hk hrk hok false
 cases io with
 | none =>
  simp only [Option.bind_none] at hfind
  simp only at hes
  subst hes
  refine ⟨en.push { key:=k,val:=v,born:=clock },clock + 1,by simp [Instr.mapUpdate,run_underlying hu,MapKept.run_getObj_map hb,hck,hfind,MapKept.run_setObj_map _ hb],fun w' he hw'=>?_⟩
  refine ⟨hp0,_,_,hw',by simp [hlen],fun i e d hi hd=>?_,fun i e d hi hd=>?_,fun i j e e' hi hj hbn=>?_,fun i e hi=>?_⟩
  ·rw [Array.getElem?_push] at hi
   split at hi
   ·rename_i hie
    simp only [Zuu] at hi; subst hi
    simp [hie,hlen] at hd; subst hd; exact hrk.mono he
   ·have hlt:i < es.length:=by rw [← hlen]; exact (Array.getElem?_eq_some_iff.1 hi).1
    rw [List.getElem?_append_left hlt] at hd
    exact (h3 i e d hi hd).mono he
  ·rw [Array.getElem?_push] at hi
   split at hi
   ·rename_i hie
    simp only [Zuu] at hi; subst hi
    simp [hie,hlen] at hd; subst hd; exact hrv.mono he
   ·have hlt:i < es.length:=by rw [← hlen]; exact (Array.getElem?_eq_some_iff.1 hi).1
    rw [List.getElem?_append_left hlt] at hd
    exact (h4 i e d hi hd).mono he
  ·rw [Array.getElem?_push] at hi hj
   split at hi <;> split at hj
   ·omega
   ·simp only [Zuu] at hi; subst hi
    have:=h6 j e' hj; simp only at hbn; omega
   ·simp only [Zuu] at hj; subst hj
    have:=h6 i e hi; simp only at hbn; omega
   ·exact h5 i j e e' hi hj hbn
  ·rw [Array.getElem?_push] at hi
   split at hi
   ·simp only [Zuu] at hi; subst hi; simp
   ·have:=h6 i e hi; omega
 | some i0 =>
  simp only at hes
  subst hes
  obtain ⟨hlt,hkeq⟩:=Zdk hio
  have hlt':i0 < en.size:=by omega
  have he0:en[i0]? = some en[i0]:=by simp [hlt']
  have hd0:es[i0]? = some es[i0]:=by simp [hlt]
  simp only [Option.bind_some,Array.getElem?_toList,he0,Option.map_some] at hfind
  have hstay:(Instr.keyThatStays en[i0].key k).run P w = .ok k w:=by
   have:=ZiG (P:=P) hk (h3 i0 _ _ he0 hd0) hrk (ZjX (hkeq _ hd0)) 9999
   simp [Instr.keyThatStays,this]
  refine ⟨en.modify i0 fun e=>{ e with key:=k,val:=v },clock,by simp [Instr.mapUpdate,run_underlying hu,MapKept.run_getObj_map hb,hck,hfind,MapKept.run_setObj_map _ hb,he0,hstay],fun w' he hw'=>?_⟩
  refine ⟨hp0,_,_,hw',by simp [hlen],fun i e d hi hd=>?_,fun i e d hi hd=>?_,fun i j e e' hi hj hbn=>?_,fun i e hi=>?_⟩
  ·rw [Array.getElem?_modify] at hi
   split at hi
   ·rename_i hie
    subst hie
    simp only [ZuC] at hi
    obtain ⟨e1,h1,rfl⟩:=hi
    simp [hlt] at hd; subst hd; exact hrk.mono he
   ·rename_i hie
    rw [List.getElem?_set_ne hie] at hd
    exact (h3 i e d hi hd).mono he
  ·rw [Array.getElem?_modify] at hi
   split at hi
   ·rename_i hie
    subst hie
    simp only [ZuC] at hi
    obtain ⟨e1,h1,rfl⟩:=hi
    simp [hlt] at hd; subst hd; exact hrv.mono he
   ·rename_i hie
    rw [List.getElem?_set_ne hie] at hd
    exact (h4 i e d hi hd).mono he
  ·have hbi:∀ {i:Nat} {e:MapEntry},(en.modify i0 fun e=>{ e with key:=k,val:=v })[i]? = some e→∃ e1,en[i]? = some e1∧e1.born=e.born:=by
    intro i e hi
    rw [Array.getElem?_modify] at hi
    split at hi
    ·simp only [ZuC] at hi
     obtain ⟨e1,h1,rfl⟩:=hi
     exact ⟨e1,h1,rfl⟩
    ·exact ⟨e,hi,rfl⟩
   obtain ⟨a,ha,ha'⟩:=hbi hi
   obtain ⟨c,hc,hc'⟩:=hbi hj
   exact h5 i j a c ha hc (by omega)
  ·rw [Array.getElem?_modify] at hi
   split at hi
   ·simp only [ZuC] at hi
    obtain ⟨e1,h1,rfl⟩:=hi
    exact h6 i e1 h1
   ·exact h6 i e hi
theorem ZmC {g:G} {w:World} {t kt et:TypeId} {kp:KP} {ats:Array TypeId} (ht:ats[0]? = some t) (hu:P.underlying t=some (.map kt et)) (hk:Zbc P kt=some kp) {b:Nat} {es es':List (D × D)} {k:Value} {dk:D} (ho:Jk g w b (.map es))
  (hrk:Rep g w k dk) (hok:ZaI kp dk=true) (hdel:ZiS kp dk es=some es') (ty:TypeId) :
  ∃ en' cl',(Builtin.delete_ ats ty #[.map (some b),k]).run P w = .ok (.tuple #[]) { w with heap:=w.heap.setIfInBounds b (.map en' cl') }∧Zjl g w b en' cl' (.map es'):=by
 obtain ⟨hp0,en,clock,hb,hlen,h3,h4,h5,h6⟩:=ho
 obtain ⟨io,hio,hes⟩:=Zmo hdel
 have hfind:=ZcR (P:=P) hk hrk (es:=en.toList) (by simpa using hlen) (fun i e d a b=>h3 i e d (by simpa using a) b) hio
 have hck:=Zb2 (P:=P) hk hrk hok en.isEmpty
 cases io with
 | none =>
  simp only [Option.bind_none] at hfind
  simp only at hes
  subst hes
  refine ⟨en,clock,by simp [Builtin.delete_,ht,run_underlying hu,MapKept.run_getObj_map hb,hck,hfind,MapKept.run_setObj_map _ hb],fun w' he hw'=>?_⟩
  exact ⟨hp0,_,_,hw',hlen,fun i e d hi hd=>(h3 i e d hi hd).mono he,fun i e d hi hd=>(h4 i e d hi hd).mono he,h5,h6⟩
 | some i0 =>
  simp only at hes
  subst hes
  obtain ⟨hlt,hkeq⟩:=Zdk hio
  have hlt':i0 < en.size:=by omega
  have he0:en[i0]? = some en[i0]:=by simp [hlt']
  simp only [Option.bind_some,Array.getElem?_toList,he0,Option.map_some] at hfind
  have hers:en.eraseIdxIfInBounds i0=en.eraseIdx i0 hlt':=by simp [Array.eraseIdxIfInBounds,hlt']
  have hget:∀ i,(en.eraseIdxIfInBounds i0)[i]? = if i < i0 then en[i]? else en[i + 1]?:=fun i=>by
   rw [hers,← Array.getElem?_toList,Array.toList_eraseIdx,List.getElem?_eraseIdx]; simp
  have hgetl:∀ i,(es.eraseIdx i0)[i]? = if i < i0 then es[i]? else es[i + 1]?:=fun i=>List.getElem?_eraseIdx ..
  refine ⟨en.eraseIdxIfInBounds i0,clock,by simp [Builtin.delete_,ht,run_underlying hu,MapKept.run_getObj_map hb,hck,hfind,MapKept.run_setObj_map _ hb],fun w' he hw'=>?_⟩
  refine ⟨hp0,_,_,hw',by rw [hers]; simp [hlt,hlen,List.length_eraseIdx],fun i e d hi hd=>?_,fun i e d hi hd=>?_,fun i j e e' hi hj hbn=>?_,fun i e hi=>?_⟩
  ·rw [hget] at hi; rw [hgetl] at hd
   split at hi
   ·rename_i h; rw [if_pos h] at hd; exact (h3 i e d hi hd).mono he
   ·rename_i h; rw [if_neg h] at hd; exact (h3 _ e d hi hd).mono he
  ·rw [hget] at hi; rw [hgetl] at hd
   split at hi
   ·rename_i h; rw [if_pos h] at hd; exact (h4 i e d hi hd).mono he
   ·rename_i h; rw [if_neg h] at hd; exact (h4 _ e d hi hd).mono he
  ·rw [hget] at hi hj
   split at hi <;> split at hj
   ·exact h5 i j e e' hi hj hbn
   ·have:=h5 i (j + 1) e e' hi hj hbn; omega
   ·have:=h5 (i + 1) j e e' hi hj hbn; omega
   ·have:=h5 (i + 1) (j + 1) e e' hi hj hbn; omega
  ·rw [hget] at hi
   split at hi <;> exact h6 _ e hi
theorem Zmt {kp:KP} {k z:D}:∀ {es:List (D × D)} {v:D},Zf2 kp k z es=some v→∃ io,JY kp k es=some io∧v=match io with
  | none=>z
  | some i=>((es[i]?).map (·.2)).getD z
 | [],v,h=>by simp only [Zf2,Zuu] at h; exact ⟨none,rfl,h.symm⟩
 | e :: es,v,h=>by
  simp only [Zf2] at h
  split at h
  ·rename_i he; simp only [Zuu] at h; exact ⟨some 0,by simp [JY,he],by simp [h]⟩
  ·rename_i he
   obtain ⟨io,h1,h2⟩:=Zmt h
   refine ⟨io.map (· + 1),by simp [JY,he,h1],?_⟩
   rw [h2]; cases io <;> simp
  ·simp at h
theorem Znm {g:G} {w:World} {t kt et:TypeId} {kp:KP} {z:D} (hu:P.underlying t=some (.map kt et)) (hk:Zbc P kt=some kp) (hz:ZdI P et=some z) {b:Nat} {es:List (D × D)} {k:Value} {dk dv:D} (ho:Jk g w b (.map es))
  (hrk:Rep g w k dk) (hok:ZaI kp dk=true) (hent:Zf2 kp dk z es=some dv) :
  ∃ en' cl' v n,(Instr.mapEntry t (.map (some b)) k).run P w = .ok (.tuple #[v,.int .i64 (n:Nat)]) { w with heap:=w.heap.setIfInBounds b (.map en' cl') }∧Rep g w v dv∧Zjl g w b en' cl' (.mapE kp es dk n):=by
 obtain ⟨hp0,en,clock,hb,hlen,h3,h4,h5,h6⟩:=ho
 obtain ⟨io,hio,hdv⟩:=Zmt hent
 have hfind:=ZcR (P:=P) hk hrk (es:=en.toList) (by simpa using hlen) (fun i e d a b=>h3 i e d (by simpa using a) b) hio
 have hck:=Zb2 (P:=P) hk hrk hok false
 cases io with
 | none =>
  obtain ⟨zv,hz1,hz2⟩:=Zm7 (P:=P) (g:=g) (w:=w) hz
  simp only [Option.bind_none] at hfind
  simp only at hdv
  subst hdv
  refine ⟨en.push { key:=k,val:=zv,born:=clock },clock + 1,zv,clock,by simp [Instr.mapEntry,run_underlying hu,MapKept.run_getObj_map hb,hck,hfind,MapKept.run_setObj_map _ hb,hz1,goInt],hz2,fun w' he hw'=>?_⟩
  refine ⟨hp0,none,hio,_,_,hw',by simp [hlen],fun i e d hne hi hd=>?_,fun i e d hne hi hd=>?_,fun e hi=>?_,fun i j e e' hi hj hbn=>?_,fun i e hi=>?_⟩
  ·have hlt:i < es.length:=(List.getElem?_eq_some_iff.1 hd).1
   rw [Array.getElem?_push,if_neg (by omega)] at hi
   exact (h3 i e d hi hd).mono he
  ·have hlt:i < es.length:=(List.getElem?_eq_some_iff.1 hd).1
   rw [Array.getElem?_push,if_neg (by omega)] at hi
   exact (h4 i e d hi hd).mono he
  ·simp only [Option.getD_none,← hlen,Array.getElem?_push,if_true,Zuu] at hi
   subst hi; exact ⟨hrk.mono he,rfl⟩
  ·rw [Array.getElem?_push] at hi hj
   split at hi <;> split at hj
   ·omega
   ·simp only [Zuu] at hi; subst hi
    have:=h6 j e' hj; simp only at hbn; omega
   ·simp only [Zuu] at hj; subst hj
    have:=h6 i e hi; simp only at hbn; omega
   ·exact h5 i j e e' hi hj hbn
  ·rw [Array.getElem?_push] at hi
   split at hi
   ·simp only [Zuu] at hi; subst hi; simp
   ·have:=h6 i e hi; omega
 | some i0 =>
  obtain ⟨hlt,hkeq⟩:=Zdk hio
  have hlt':i0 < en.size:=by omega
  have he0:en[i0]? = some en[i0]:=by simp [hlt']
  have hd0:es[i0]? = some es[i0]:=by simp [hlt]
  simp only [hd0,Option.map_some,Option.getD_some] at hdv
  subst hdv
  simp only [Option.bind_some,Array.getElem?_toList,he0,Option.map_some] at hfind
  have hstay:(Instr.keyThatStays en[i0].key k).run P w = .ok k w:=by
   have:=ZiG (P:=P) hk (h3 i0 _ _ he0 hd0) hrk (ZjX (hkeq _ hd0)) 9999
   simp [Instr.keyThatStays,this]
  have hbi:∀ {i:Nat} {e:MapEntry},(en.modify i0 fun e=>{ e with key:=k })[i]? = some e→∃ e1,en[i]? = some e1∧e1.born=e.born∧e.val=e1.val∧(i≠i0→e=e1)∧(i=i0→e.key=k):=by
   intro i e hi
   rw [Array.getElem?_modify] at hi
   split at hi
   ·rename_i hie
    simp only [ZuC] at hi
    obtain ⟨e1,h1,rfl⟩:=hi
    exact ⟨e1,h1,rfl,rfl,fun h=>absurd hie.symm h,fun _=>rfl⟩
   ·rename_i hie
    exact ⟨e,hi,rfl,rfl,fun _=>rfl,fun h=>absurd h.symm hie⟩
  refine ⟨en.modify i0 fun e=>{ e with key:=k },clock,en[i0].val,en[i0].born,by simp [Instr.mapEntry,run_underlying hu,MapKept.run_getObj_map hb,hck,hfind,MapKept.run_setObj_map _ hb,he0,hstay,goInt],h4 i0 _ _ he0 hd0,fun w' he hw'=>?_⟩
  refine ⟨hp0,some i0,hio,_,_,hw',by simp [hlen],fun i e d hne hi hd=>?_,fun i e d hne hi hd=>?_,fun e hi=>?_,fun i j e e' hi hj hbn=>?_,fun i e hi=>?_⟩
  ·obtain ⟨e1,ha,_,_,hc,_⟩:=hbi hi
   rw [hc (by simpa using hne)]; exact (h3 i e1 d ha hd).mono he
  ·obtain ⟨e1,ha,_,hv,_⟩:=hbi hi
   rw [hv]; exact (h4 i e1 d ha hd).mono he
  ·simp only [Option.getD_some] at hi
   obtain ⟨e1,ha,hbn,hv,_,hkk⟩:=hbi hi
   rw [he0] at ha
   simp only [Zuu] at ha
   exact ⟨by rw [hkk rfl]; exact hrk.mono he,by rw [← hbn,← ha]⟩
  ·obtain ⟨a,ha,ha',_⟩:=hbi hi
   obtain ⟨c,hc,hc',_⟩:=hbi hj
   exact h5 i j a c ha hc (by omega)
  ·obtain ⟨a,ha,ha',_⟩:=hbi hi
   have:=h6 i a ha; omega
theorem Zly {g:G} {w:World} {t:TypeId} {kp:KP} {b n:Nat} {es es':List (D × D)} {v:Value} {dk dv:D} (ho:Jk g w b (.mapE kp es dk n)) (hrv:Rep g w v dv) (hupd:Zbp kp dk dv es=some es') :
  ∃ en' cl',(Instr.entryStore t (.map (some b)) (.int .i64 n) v).run P w = .ok () { w with heap:=w.heap.setIfInBounds b (.map en' cl') }∧Zjl g w b en' cl' (.map es'):=by
 obtain ⟨hp0,io,hio,en,clock,hb,hlen,h3,h4,h5,h6,h7⟩:=ho
 obtain ⟨io',hio',hes⟩:=Zjb hupd
 rw [hio] at hio'
 simp only [Zuu] at hio'
 subst hio'
 generalize hix:io.getD es.length=ix at *
 have hlt:ix < en.size:=by
  cases io with
  | none=>simp only [Option.getD_none] at hix; simp only at hlen; omega
  | some i=>simp only [Option.getD_some] at hix; simp only at hlen; have:=(Zdk hio).1; omega
 have he0:en[ix]? = some en[ix]:=by simp [hlt]
 obtain ⟨hkx,hbx⟩:=h5 _ he0
 have hfi:en.findIdx? (fun e=>(e.born:Int) == (n:Int))=some ix:=by
  rw [Array.findIdx?_eq_some_iff_getElem]
  refine ⟨hlt,by simp [hbx],fun j hj=>?_⟩
  simp only [beq_iff_eq,Int.natCast_inj]
  intro hjn
  have:=h6 j ix en[j] en[ix] (by simp [show j < en.size by omega]) he0 (by omega)
  omega
 have hsz:en.size=es'.length:=by
  cases io with
  | none=>simp only at hes hlen; rw [hes]; simp [hlen]
  | some i=>simp only at hes hlen; rw [hes]; simp [hlen]
 have hes':∀ i d,es'[i]? = some d→(i=ix∧d=(dk,dv))∨(i≠ix∧es[i]? = some d):=by
  intro i d hd
  cases io with
  | none =>
   simp only [Option.getD_none] at hix
   subst hix
   simp only at hes
   rw [hes] at hd
   by_cases hi:i < es.length
   ·rw [List.getElem?_append_left hi] at hd; exact .inr ⟨by omega,hd⟩
   ·rw [List.getElem?_append_right (by omega)] at hd
    have h0:i - es.length=0:=by
     rcases Nat.eq_zero_or_pos (i - es.length) with h | h
     ·exact h
     ·rw [List.getElem?_eq_none (by simp; omega)] at hd; simp at hd
    rw [h0] at hd
    simp at hd; exact .inl ⟨by omega,hd.symm⟩
  | some j =>
   simp only [Option.getD_some] at hix
   subst hix
   simp only at hes
   rw [hes] at hd
   by_cases hi:j=i
   ·subst hi
    have:=(Zdk hio).1
    simp [this] at hd; exact .inl ⟨rfl,hd.symm⟩
   ·rw [List.getElem?_set_ne hi] at hd; exact .inr ⟨fun h=>hi h.symm,hd⟩
 have hbi:∀ {i:Nat} {e:MapEntry},(en.modify ix fun e=>{ e with val:=v })[i]? = some e→∃ e1,en[i]? = some e1∧e1.born=e.born∧e.key=e1.key∧(i≠ix→e=e1)∧(i=ix→e.val=v):=by
  intro i e hi
  rw [Array.getElem?_modify] at hi
  split at hi
  ·rename_i hie
   simp only [ZuC] at hi
   obtain ⟨e1,h1,rfl⟩:=hi
   exact ⟨e1,h1,rfl,rfl,fun h=>absurd hie.symm h,fun _=>rfl⟩
  ·rename_i hie
   exact ⟨e,hi,rfl,rfl,fun _=>rfl,fun h=>absurd h.symm hie⟩
 refine ⟨en.modify ix fun e=>{ e with val:=v },clock,by simp [Instr.entryStore,MapKept.run_getObj_map hb,asInt,asIntOf,hfi,MapKept.run_setObj_map _ hb],fun w' he hw'=>?_⟩
 refine ⟨hp0,_,_,hw',by simp [hsz],fun i e d hi hd=>?_,fun i e d hi hd=>?_,fun i j e e' hi hj hbn=>?_,fun i e hi=>?_⟩
 ·obtain ⟨e1,ha,_,hk,_⟩:=hbi hi
  rw [hk]
  rcases hes' i d hd with ⟨rfl,rfl⟩ | ⟨hne,hd'⟩
  ·rw [he0] at ha; simp only [Zuu] at ha; rw [← ha]; exact hkx.mono he
  ·exact (h3 i e1 d hne ha hd').mono he
 ·obtain ⟨e1,ha,_,_,hc,hv⟩:=hbi hi
  rcases hes' i d hd with ⟨rfl,rfl⟩ | ⟨hne,hd'⟩
  ·rw [hv rfl]; exact hrv.mono he
  ·rw [hc hne]; exact (h4 i e1 d hne ha hd').mono he
 ·obtain ⟨a,ha,ha',_⟩:=hbi hi
  obtain ⟨c,hc,hc',_⟩:=hbi hj
  exact h6 i j a c ha hc (by omega)
 ·obtain ⟨a,ha,ha',_⟩:=hbi hi
  have:=h7 i a ha; omega
end
end Go.DL
namespace Go.DL
open Go
section
variable {P:Program}
theorem ZhW {g:G} {w:World} {v:Value} {b:Nat} (h:Rep g w v (.map b)):v = .map (some b):=by cases h; rfl
theorem Zga {s:St} {b:Nat} {es:List (D × D)} (h:ZaT s b=some es):s b=some (.map es):=by
 unfold ZaT at h
 split at h <;> simp only [Zuu,reduceCtorEq] at h
 subst h; assumption
theorem ZiV {F:Fr P} {ops:Array Oper} {i:Nat} {r:List Nat} {k:List Item} {oo:Oper} {o:DOp} {g:G} {ν:Nat→Nat} {w:World} {tmps:Array Value} {ρ:Env} {L:Loc} {s:St} (hN:F.N≤tmps.size) (m:Yg g ν w tmps ρ L s)
  (hoo:ops[i]? = some oo) (hdst:oo.dst=o.dst) (hdst0:o.dst=none) (hw:Region.wanted oo (yielded ops tmps)=true) (hnd:∀ c,oo.op≠.defer c) {b:Nat} {o1 o':KC} (hb:s b=some o1) {en en':Array MapEntry} {cl cl':Nat}
  (hh:w.heap[b]? = some (.map en cl)) (hp:g.prot b=0) (hmap:Zjl g w b en' cl' o') {x:Value}
  (hrun:(execOp (Act.mk tmps F.ds).eval oo).run P w = .ok .skip { w with heap:=w.heap.setIfInBounds b (.map en' cl') }∨(execOp (Act.mk tmps F.ds).eval oo).run P w = .ok (.value x) { w with heap:=w.heap.setIfInBounds b (.map en' cl') })
  (h:Za8 F (.inRegion ops r :: k) ρ L (s.upd b o')):F.T.T g w (lone (F.b.atR ⟨tmps,F.ds⟩ (.inRegion ops (i :: r) :: k)) F.cs w):=by
 have he:=ZjE (g:=g) b (.map en' cl') hh hp (m.st.kept b _ hb)
 have m':=m.named hb he (by simp) (fun c hc=>Za5 _ hc) (hmap _ he (Zlo _ hh))
 rcases hrun with hrun | hrun
 ·refine F.T.back _ _ _ _ (.one (Zgn hoo hw hnd hrun)) ?_
  rw [hdst,hdst0]
  exact F.T.ext _ _ _ _ _ he (h g ν _ tmps hN m')
 ·refine F.T.back _ _ _ _ (.one (Zgo hoo hw hnd hrun)) ?_
  rw [hdst,hdst0]
  exact F.T.ext _ _ _ _ _ he (h g ν _ tmps hN m')
theorem Zo3 {F:Fr P} {kp:Option (List Nat)} {dk:List Z4} {o:DOp} {os:List DOp} {ρ:Env} {L:Loc} {s:St} (hg:o.guard=none) (hdn:o.dst=none) {mk:KP} {mx kx vx:Opd} (hk:o.k = .mapupd mk mx kx vx)
  {p q r:Prop} {b:Nat} {kd vd:D} (hm:YW ρ true mx=some (p,.d (.map b))) (hkk:YW ρ true kx=some (q,.d kd)) (hv:YW ρ true vx=some (r,.d vd)) (hp:p) (hq:q) (hr:r) {es es':List (D × D)} (hb:ZaT s b=some es)
  (hupd:Zbp mk kd vd es=some es') (hok:ZaI mk kd=true) (h:DO F kp dk os ρ L (s.upd b (.map es'))):DO F kp dk (o :: os) ρ L s:=by
 refine Jt fun oo g ν w tmps ops i r' k hoo hck hcg hdst hd hN m hro hkk'=>?_
 have hw:=Qc m hcg (c:=true) (by rw [hg]; rfl)
 have hnd:=Qw hck (by rw [hk]; rfl)
 rw [hk] at hck
 obtain ⟨t,kt,et,m',k',v',hop,hu,hkt,hm',hk',hv'⟩:=Zpk hck
 have e1:=ZhW (g:=g) (w:=w) (K2 m hm' rfl hm hp F.ds)
 have e2:Rep g w _ _:=K2 m hk' rfl hkk hq F.ds
 have e3:Rep g w _ _:=K2 m hv' rfl hv hr F.ds
 have ho:=ZeC m.st hb
 obtain ⟨en',cl',hrun,hto⟩:=ZmE hu hkt ho e2 e3 hok hupd
 obtain ⟨hp0,en,cl,hh,_⟩:=ho
 refine ZiV (x:=undef) hN m hoo hdst hdn hw hnd (Zga hb) hh hp0 hto (.inl ?_) (h ops r' k hro hkk')
 rcases hop with hop | hop <;> simp [execOp,hop,e1,hrun]
theorem Zo1 {F:Fr P} {kp:Option (List Nat)} {dk:List Z4} {o:DOp} {os:List DOp} {ρ:Env} {L:Loc} {s:St} (hg:o.guard=none) (hdn:o.dst=none) {mk:KP} {mx kx:Opd} (hk:o.k = .delete mk mx kx)
  {p q:Prop} {b:Nat} {kd:D} (hm:YW ρ true mx=some (p,.d (.map b))) (hkk:YW ρ true kx=some (q,.d kd)) (hp:p) (hq:q) {es es':List (D × D)} (hb:ZaT s b=some es)
  (hupd:ZiS mk kd es=some es') (hok:ZaI mk kd=true) (h:DO F kp dk os ρ L (s.upd b (.map es'))):DO F kp dk (o :: os) ρ L s:=by
 refine Jt fun oo g ν w tmps ops i r' k hoo hck hcg hdst hd hN m hro hkk'=>?_
 have hw:=Qc m hcg (c:=true) (by rw [hg]; rfl)
 have hnd:=Qw hck (by rw [hk]; rfl)
 rw [hk] at hck
 obtain ⟨ats,t,kt,et,m',k',hop,ht,hu,hkt,hm',hk'⟩:=Zpi hck
 have e1:=ZhW (g:=g) (w:=w) (K2 m hm' rfl hm hp F.ds)
 have e2:Rep g w _ _:=K2 m hk' rfl hkk hq F.ds
 have ho:=ZeC m.st hb
 obtain ⟨en',cl',hrun,hto⟩:=ZmC ht hu hkt ho e2 hok hupd oo.type
 obtain ⟨hp0,en,cl,hh,_⟩:=ho
 refine ZiV (x:=.tuple #[]) hN m hoo hdst hdn hw hnd (Zga hb) hh hp0 hto (.inr ?_) (h ops r' k hro hkk')
 simp [execOp,hop,resolve,invoke,builtin,e1,hrun]
theorem Zo2 {F:Fr P} {kp:Option (List Nat)} {dk:List Z4} {o:DOp} {os:List DOp} {ρ:Env} {L:Loc} {s:St} (hg:o.guard=none) {t:Nat} (hdt:o.dst=some t) {mk:KP} {z:D} {mx kx:Opd} (hk:o.k = .mapent mk z mx kx)
  {p q:Prop} {b:Nat} {kd v:D} (hm:YW ρ true mx=some (p,.d (.map b))) (hkk:YW ρ true kx=some (q,.d kd)) (hp:p) (hq:q) {es:List (D × D)} (hb:ZaT s b=some es)
  (hent:Zf2 mk kd z es=some v) (hok:ZaI mk kd=true) (h:∀ n,DO F kp dk os ((t,.d (.tup [v,.stamp n])) :: ρ) L (s.upd b (.mapE mk es kd n))):DO F kp dk (o :: os) ρ L s:=by
 refine Jt fun oo g ν w tmps ops i r' k hoo hck hcg hdst hd hN m hro hkk'=>?_
 have hw:=Qc m hcg (c:=true) (by rw [hg]; rfl)
 have hnd:=Qw hck (by rw [hk]; rfl)
 rw [hk] at hck
 obtain ⟨ty,kt,et,m',k',hop,hu,hkt,hz,hm',hk'⟩:=Zpj hck
 have e1:=ZhW (g:=g) (w:=w) (K2 m hm' rfl hm hp F.ds)
 have e2:Rep g w _ _:=K2 m hk' rfl hkk hq F.ds
 have ho:=ZeC m.st hb
 obtain ⟨en',cl',vv,n,hrun,hrv,hto⟩:=Znm hu hkt hz ho e2 hok hent
 obtain ⟨hp0,en,cl,hh,_⟩:=ho
 have hsb:=Zga hb
 have he:=ZjE (g:=g) b (.map en' cl') hh hp0 (m.st.kept b _ hsb)
 have m'':=m.named hsb he (by simp) (fun c hc=>Za5 _ hc) (hto _ he (Zlo _ hh))
 refine JL (L':=L) hN hoo hdst hd hw hnd (v:=.tuple #[vv,.int .i64 n]) (e:=.d (.tup [v,.stamp n])) ?_ he m'' ((Zgd hrv (.stamp n)).mono he) ?_
 ·simp [execOp,hop,e1,hrun]
 ·rw [hdt]; exact h n ops r' k hro hkk'
theorem Zp5 {F:Fr P} {kp:Option (List Nat)} {dk:List Z4} {o:DOp} {os:List DOp} {ρ:Env} {L:Loc} {s:St} (hg:o.guard=none) (hdn:o.dst=none) {mk:KP} {mx kx vx:Opd} (hk:o.k = .entst mx kx vx)
  {p q r:Prop} {b n:Nat} {kd vd:D} (hm:YW ρ true mx=some (p,.d (.map b))) (hkk:YW ρ true kx=some (q,.d (.stamp n))) (hv:YW ρ true vx=some (r,.d vd)) (hp:p) (hq:q) (hr:r) {es es':List (D × D)} (hb:s b=some (.mapE mk es kd n))
  (hupd:Zbp mk kd vd es=some es') (h:DO F kp dk os ρ L (s.upd b (.map es'))):DO F kp dk (o :: os) ρ L s:=by
 refine Jt fun oo g ν w tmps ops i r' k hoo hck hcg hdst hd hN m hro hkk'=>?_
 have hw:=Qc m hcg (c:=true) (by rw [hg]; rfl)
 have hnd:=Qw hck (by rw [hk]; rfl)
 rw [hk] at hck
 obtain ⟨t,m',k',v',hop,hm',hk',hv'⟩:=Zqm hck
 have e1:=ZhW (g:=g) (w:=w) (K2 m hm' rfl hm hp F.ds)
 have e2:Rep g w _ _:=K2 m hk' rfl hkk hq F.ds
 have e3:Rep g w _ _:=K2 m hv' rfl hv hr F.ds
 have e2':(Act.mk tmps F.ds).eval k' = .int .i64 n:=by
  generalize (Act.mk tmps F.ds).eval k'=z at e2
  cases e2; rfl
 have ho:=m.st.obj b _ hb
 obtain ⟨en',cl',hrun,hto⟩:=Zly (P:=P) (t:=t) ho e3 hupd
 obtain ⟨hp0,io,_,en,cl,hh,_⟩:=ho
 refine ZiV (x:=undef) hN m hoo hdst hdn hw hnd hb hh hp0 hto (.inl ?_) (h ops r' k hro hkk')
 simp [execOp,hop,e1,e2',hrun]
theorem Zo4 {F:Fr P} {kp:Option (List Nat)} {dk:List Z4} {o:DOp} {os:List DOp} {ρ:Env} {L:Loc} {s:St} {c:Bool} (hg:Yu ρ o.guard=some c) {x:Opd} (hk:o.k = .s2b x) {p:Prop} {l:List UInt8}
  (ha:YW ρ c x=some (p,.d (.str l))) (hs:c=true→p) {e':E}
  (he:e' = .when c (.d (.sl .none l.length 1 (fun i=>[.int .u8 ((l.getD i 0).toNat:Int)])))∨(c=true∧e' = .d (.sl .none l.length 1 (fun i=>[.int .u8 ((l.getD i 0).toNat:Int)]))))
  (h:DO F kp dk os (Wi ρ o.dst e') L s):DO F kp dk (o :: os) ρ L s:=by
 refine Jt fun oo g ν w tmps ops i r k hoo hck hcg hdst hd hN m hr hkk=>?_
 have hgo:=h ops r k hr hkk
 have hw:=Qc m hcg hg
 have hnd:=Qw hck (by rw [hk]; rfl)
 cases c
 ·rcases he with rfl | ⟨h0,_⟩
  ·exact Zcd (P:=P) hN m hoo hdst hd hw hgo
  ·simp at h0
 ·rw [hk] at hck
  obtain ⟨sT,dT,x',e,hop,hus,hud,hue,hx'⟩:=Zr3 hck
  obtain ⟨s0,hs0,e0,hb0⟩:=ZhY (g:=g) (w:=w) (K2 m hx' rfl ha (hs rfl) F.ds)
  have hsz:s0.size=l.length:=by rw [← e0]; rfl
  have hrun:=Lib.run_convert_string_bytes (P:=P) w sT dT e s0 hus hud hue
  have hle:=grownCap_le_maxLen w s0.size 0 e (by rw [hsz]; unfold big at hb0; unfold maxLen; omega)
  have hge:=grownCap_ge w s0.size 0 e
  let g':G:={ g with prot:=fun b=>if b=w.heap.size then l.length else g.prot b }
  have hgr:ZbB g w g' (Lib.bytesWorld w e s0):=by
   refine ⟨by rw [Lib.bytesWorld_size]; omega,fun b hb=>Lib.bytesWorld_at_old w e s0 b hb,fun b hb=>by simp [g',Nat.ne_of_lt hb],fun b hb=>?_,rfl,?_,?_,?_⟩
   ·rw [Lib.bytesWorld_size] at hb
    simp [g',show b≠w.heap.size by omega,(m.st.fresh b (by omega)).1]
   ·rfl
   ·rfl
   ·rfl
  have hrep:Rep g' (Lib.bytesWorld w e s0) (.slice (some ⟨w.heap.size,0,none⟩) s0.size (grownCap w s0.size 0 e)) (.sl .none l.length 1 (fun i=>[.int .u8 ((l.getD i 0).toNat:Int)])):=by
   rw [hsz] at hle hge ⊢
   refine .sl w.heap.size 0 l.length _ 1 _ .none (fun i _=>.int .u8 ((l.getD i 0).toNat:Int)) (fun i hi=>rfl) (fun i j hi hj=>?_) (fun i j hi hj=>?_) (fun i j d hi hd=>?_) (fun i j _ _=>rfl) trivial (by omega) (by unfold big; unfold maxLen at hle; omega)
   ·have:=Lib.bytesWorld_cell w e s0 (0 + i * 1 + j) (by omega)
    rw [this,e0]
    have:0 + i * 1 + j=i:=by omega
    rw [this]
   ·simp [g']; omega
   ·cases j with
    | zero=>simp only [List.getElem?_cons_zero,Zuu] at hd; subst hd; exact .int _ _ (Zmz _)
    | succ j=>simp at hd
  refine JL hN hoo hdst hd hw hnd (v:=.slice (some ⟨w.heap.size,0,none⟩) s0.size (grownCap w s0.size 0 e)) ?_ (hgr.ext m.st.fresh) (m.grow hgr) ?_ hgo
  ·simp [execOp,hop,hs0,hrun]
  ·rcases he with rfl | ⟨_,rfl⟩
   ·exact ⟨fun _=>hrep,fun h=>by simp at h⟩
   ·exact hrep
end
end Go.DL
namespace Go.DL
open Go
section
variable {P:Program}
theorem ZlX {F:Fr P} {kp:Option (List Nat)} {dk:List Z4} {o:DOp} {os:List DOp} {ρ:Env} {L:Loc} {s:St} {c:Bool} (hg:Yu ρ o.guard=some c) {len n:Nat} {z:List D} {is:List Nat} {xs:List Opd}
  (hk:o.k = .bsl len n z is xs) {p:Prop} {es:List E} {ds:List D} (ha:KT ρ c xs=some (p,es)) (hds:Q3 es=some ds) (hs:c=true→p∧Za1 n ds=true) {e':E}
  (he:e' = .when c (.d (.sl .full len n (Wy z (is.zip ds))))∨(c=true∧e' = .d (.sl .full len n (Wy z (is.zip ds)))))
  (h:DO F kp dk os (Wi ρ o.dst e') L s):DO F kp dk (o :: os) ρ L s:=by
 refine Jt fun oo g ν w tmps ops i r k hoo hck hcg hdst hd hN m hr hkk=>?_
 have hgo:=h ops r k hr hkk
 have hw:=Qc m hcg hg
 have hnd:=Qw hck (by rw [hk]; rfl)
 cases c
 ·rcases he with rfl | ⟨h0,_⟩
  ·exact Zcd (P:=P) hN m hoo hdst hd hw hgo
  ·simp at h0
 ·rw [hk] at hck
  obtain ⟨t,e,parts,hop,hu,hsz,hz,hxs,rfl,hdis,hzl,hs0,hbig⟩:=Zpg hck
  have hargs:=Zen m rfl F.ds hxs ha (hs rfl).1
  have hreps:=Zar hargs hds
  obtain ⟨v,w',g',h1,h2,h3⟩:=ZrZ (P:=P) (g:=g) (w:=w) (parts:=parts.toList.map fun x=>(x.1,(Act.mk tmps F.ds).eval x.2)) hu hsz hz (by simpa [List.map_map,Function.comp_def] using hdis) hzl hs0 hbig
   (by simpa [List.map_map,Function.comp_def] using hreps) (hs rfl).2 m.st.fresh
  have hx:=h2.ext m.st.fresh
  have hrun:(execOp (Act.mk tmps F.ds).eval oo).run P w = .ok (.value v) w':=by
   simp only [execOp,hop,Sem.run_bind]
   have e1:(parts.map fun x=>(x.1,(Act.mk tmps F.ds).eval x.2))=(parts.toList.map fun x=>(x.1,(Act.mk tmps F.ds).eval x.2)).toArray:=by apply Array.ext'; simp
   rw [e1,h1]
   rfl
  have h3':Rep g' w' v (.sl .full len n (Wy z ((parts.toList.map (·.1)).zip ds))):=by simpa [List.map_map,Function.comp_def] using h3
  refine JL hN hoo hdst hd hw hnd hrun hx (m.grow h2) ?_ hgo
  rcases he with rfl | ⟨_,rfl⟩
  ·exact ⟨fun _=>h3',fun h=>by simp at h⟩
  ·exact h3'
theorem ZnX {F:Fr P} {kp:Option (List Nat)} {dk:List Z4} {o:DOp} {os:List DOp} {ρ:Env} {L:Loc} {s:St} {c:Bool} (hg:Yu ρ o.guard=some c) {x a b:Opd} (hk:o.k = .pick x a b)
  {p:Prop} {v:Bool} (ha:Ze0 ρ c x a b=some (p,v)) (hs:c=true→p) {e':E} (he:e' = .when c (.d (.bool v))∨(c=true∧e' = .d (.bool v)))
  (h:DO F kp dk os (Wi ρ o.dst e') L s):DO F kp dk (o :: os) ρ L s:=by
 refine Zo5 hg (by rw [hk]; rfl) he (fun hc oo g ν w tmps hck m=>?_) h
 rw [hk] at hck
 obtain ⟨x',a',b',hop,h1,h2,h3⟩:=Zrm hck
 refine ⟨.bool v,?_,.bool v⟩
 obtain ⟨dst,op,ty,pos,af,gd⟩:=oo
 simp only at hop
 subst hop
 exact ZqM m h1 h2 h3 hc ha (hs hc) _ _ _ _ _ _
theorem Ze7 {ρ ρ':Env} {L L':Loc} {s s':St} {p q ok side:Prop} {a:E} {n:Nat} {xs:List D} (h:Zau ρ L s p q ok a n xs = .ok side ρ' L' s') :
  ρ'=ρ∧((∃ l off cs,a = .loc l off∧ZU L l=some cs∧side=(p∧q∧off + n≤cs.length∧ok)∧L'=(l,KR cs off xs) :: L∧s'=s) ∨
   ∃ b off cs,a = .d (.ptr b off)∧Zad s b=some cs∧side=(p∧q∧off + n≤cs.length∧ok)∧L'=L∧s'=s.upd b (.cells (KR cs off xs))):=by
 unfold Zau at h
 split at h <;> (try (simp at h; done))
 ·rename_i l off
  split at h <;> simp only [SR.ok.injEq,reduceCtorEq] at h
  rename_i cs hcs
  obtain ⟨rfl,rfl,rfl,rfl⟩:=h
  exact ⟨rfl,.inl ⟨l,off,cs,rfl,hcs,rfl,rfl,rfl⟩⟩
 ·rename_i b off
  split at h <;> simp only [SR.ok.injEq,reduceCtorEq] at h
  rename_i cs hcs
  obtain ⟨rfl,rfl,rfl,rfl⟩:=h
  exact ⟨rfl,.inr ⟨b,off,cs,rfl,hcs,rfl,rfl,rfl⟩⟩
theorem Zei {ρ:Env} {L:Loc} {s:St} {p q ok side:Prop} {a:E} {n:Nat} {xs:List D} {pre:Nat→Prop} {ρ':Nat→Env} {s':Nat→St}:Zau ρ L s p q ok a n xs≠.all side pre ρ' s':=by
 unfold Zau
 split <;> (try (split <;> simp)) <;> simp
theorem Zek {F:Fr P} {kp:Option (List Nat)} {dk:List Z4} {o:DOp} {os:List DOp} {ρ ρ':Env} {L L':Loc} {s s':St} {side:Prop} (hst:Y8 o ρ L s = .ok side ρ' L' s') (hs:side)
  (h:DO F kp dk os ρ' L' s'):DO F kp dk (o :: os) ρ L s:=by
 obtain ⟨dst,gd,k⟩:=o
 unfold Y8 at hst
 cases hg:Yu ρ gd with
 | none=>simp [hg] at hst
 | some c =>
  simp only [hg] at hst
  have hc0:gd=none→c=true:=fun h0=>by subst h0; simpa [Yu] using hg.symm
  cases k with
  | q q xs =>
   simp only at hst
   split at hst <;> (try (simp at hst; done))
   rename_i p es ha
   split at hst <;> (try (simp at hst; done))
   rename_i sd e hq
   split at hst <;> (simp only [SR.ok.injEq] at hst; obtain ⟨rfl,rfl,rfl,rfl⟩:=hst)
   ·obtain rfl:=hc0 rfl
    exact ZrW hg rfl ha hq (fun _=>hs) (.inr ⟨rfl,rfl⟩) h
   ·exact ZrW hg rfl ha hq hs (.inl rfl) h
  | pick x a b =>
   simp only at hst
   split at hst <;> (try (simp at hst; done))
   rename_i p v ha
   split at hst <;> (simp only [SR.ok.injEq] at hst; obtain ⟨rfl,rfl,rfl,rfl⟩:=hst)
   ·obtain rfl:=hc0 rfl
    exact ZnX hg rfl ha (fun _=>hs) (.inr ⟨rfl,rfl⟩) h
   ·exact ZnX hg rfl ha hs (.inl rfl) h
  | alloc z =>
   simp only at hst
   split at hst <;> (try (simp at hst; done))
   rename_i t
   simp only [SR.ok.injEq] at hst
   obtain ⟨rfl,rfl,rfl,rfl⟩:=hst
   exact ZlW rfl rfl rfl hs h
  | box x =>
   simp only at hst
   split at hst <;> (try (simp at hst; done))
   rename_i t p v ha
   simp only [SR.ok.injEq] at hst
   obtain ⟨rfl,rfl,rfl,rfl⟩:=hst
   exact ZrT rfl rfl rfl ha hs.1 hs.2.1 hs.2.2 h
  | bsl len n z is xs =>
   simp only at hst
   split at hst <;> (try (simp at hst; done))
   rename_i p es ha
   split at hst <;> (try (simp at hst; done))
   rename_i ds hds
   split at hst <;> (simp only [SR.ok.injEq] at hst; obtain ⟨rfl,rfl,rfl,rfl⟩:=hst)
   ·obtain rfl:=hc0 rfl
    exact ZlX hg rfl ha hds (fun _=>hs) (.inr ⟨rfl,rfl⟩) h
   ·exact ZlX hg rfl ha hds hs (.inl rfl) h
  | s2b x =>
   simp only at hst
   split at hst <;> (try (simp at hst; done))
   rename_i p l ha
   split at hst <;> (simp only [SR.ok.injEq] at hst; obtain ⟨rfl,rfl,rfl,rfl⟩:=hst)
   ·obtain rfl:=hc0 rfl
    exact Zo4 hg rfl ha (fun _=>hs) (.inr ⟨rfl,rfl⟩) h
   ·exact Zo4 hg rfl ha hs (.inl rfl) h
  | store1 a v =>
   simp only at hst
   split at hst <;> (try (simp at hst; done))
   rename_i p ea q x ha hv
   obtain ⟨rfl,⟨l,off,cs,rfl,hL,rfl,rfl,rfl⟩ | ⟨b,off,cs,rfl,hL,rfl,rfl,rfl⟩⟩:=Ze7 hst
   all_goals obtain ⟨h1,h2,h3,h4⟩:=hs
   all_goals have hx:cellsOf x=[x]:=by cases x <;> simp [Za0] at h4 <;> rfl
   ·exact ZlZ rfl (.inl ⟨rfl,trivial⟩) ha hv h1 h2 hL (fun _=>h4) (fun n hn=>by simp at hn) (by rw [hx]; simpa using h3) rfl (by rw [hx]; exact h)
   ·exact ZkW rfl (.inl ⟨rfl,trivial⟩) ha hv h1 h2 hL (fun _=>h4) (fun n hn=>by simp at hn) (by rw [hx]; simpa using h3) rfl (by rw [hx]; exact h)
  | storeN n a v =>
   simp only at hst
   split at hst <;> (try (simp at hst; done))
   rename_i p ea q xs ha hv
   obtain ⟨rfl,⟨l,off,cs,rfl,hL,rfl,rfl,rfl⟩ | ⟨b,off,cs,rfl,hL,rfl,rfl,rfl⟩⟩:=Ze7 hst
   all_goals obtain ⟨h1,h2,h3,h4⟩:=hs
   ·exact ZlZ rfl (.inr ⟨n,rfl⟩) ha hv h1 h2 hL (fun hn=>by simp at hn) (fun n' hn=>by simp only [K.storeN.injEq] at hn; exact ⟨⟨xs,rfl⟩,by rw [← hn.1]; exact h4⟩) (by simp only [cellsOf]; omega) rfl h
   ·exact ZkW rfl (.inr ⟨n,rfl⟩) ha hv h1 h2 hL (fun hn=>by simp at hn) (fun n' hn=>by simp only [K.storeN.injEq] at hn; exact ⟨⟨xs,rfl⟩,by rw [← hn.1]; exact h4⟩) (by simp only [cellsOf]; omega) rfl h
  | mkmap =>
   simp only at hst
   split at hst <;> simp at hst
  | mkslice e n by_ z l c =>
   simp only at hst
   split at hst <;> simp at hst
  | mapent kp z m k =>
   simp only at hst
   split at hst <;> (try (simp at hst; done))
   split at hst <;> (try (simp at hst; done))
   split at hst <;> simp at hst
  | mapupd kp m k v =>
   simp only at hst
   split at hst <;> (try (simp at hst; done))
   rename_i p b q dk r dv hm hk hv
   split at hst <;> (try (simp at hst; done))
   rename_i es hes
   split at hst <;> simp only [SR.ok.injEq,reduceCtorEq] at hst
   rename_i es' hes'
   obtain ⟨rfl,rfl,rfl,rfl⟩:=hst
   exact Zo3 rfl rfl rfl hm hk hv hs.1 hs.2.1 hs.2.2.1 hes hes' hs.2.2.2 h
  | delete kp m k =>
   simp only at hst
   split at hst <;> (try (simp at hst; done))
   rename_i p b q dk hm hk
   split at hst <;> (try (simp at hst; done))
   rename_i es hes
   split at hst <;> simp only [SR.ok.injEq,reduceCtorEq] at hst
   rename_i es' hes'
   obtain ⟨rfl,rfl,rfl,rfl⟩:=hst
   exact Zo1 rfl rfl rfl hm hk hs.1 hs.2.1 hes hes' hs.2.2 h
  | entst m k v =>
   simp only at hst
   split at hst <;> (try (simp at hst; done))
   rename_i p b q n r dv hm hk hv
   split at hst <;> (try (simp at hst; done))
   rename_i kp es dk n' hes
   split at hst <;> simp only [SR.ok.injEq,reduceCtorEq] at hst
   rename_i es' hes'
   obtain ⟨rfl,rfl,rfl,rfl⟩:=hst
   obtain ⟨h1,h2,h3,rfl⟩:=hs
   exact Zp5 rfl rfl rfl hm hk hv h1 h2 h3 hes hes' h
  | _=>simp at hst
theorem ZlV {F:Fr P} {kp:Option (List Nat)} {dk:List Z4} {o:DOp} {os:List DOp} {ρ:Env} {L:Loc} {s:St} {side:Prop} {pre:Nat→Prop} {ρ':Nat→Env} {s':Nat→St} (hst:Y8 o ρ L s = .all side pre ρ' s') (hs:side)
  (h:∀ b,pre b→DO F kp dk os (ρ' b) L (s' b)):DO F kp dk (o :: os) ρ L s:=by
 obtain ⟨dst,gd,k⟩:=o
 unfold Y8 at hst
 cases hg:Yu ρ gd with
 | none=>simp [hg] at hst
 | some c =>
  simp only [hg] at hst
  cases k with
  | mkmap =>
   simp only at hst
   split at hst <;> simp only [SR.all.injEq,reduceCtorEq] at hst
   obtain ⟨rfl,rfl,rfl,rfl⟩:=hst
   exact Zp6 rfl rfl rfl h
  | mkslice e n by_ z l c =>
   simp only at hst
   split at hst <;> simp only [SR.all.injEq,reduceCtorEq] at hst
   obtain ⟨rfl,rfl,rfl,rfl⟩:=hst
   obtain ⟨h1,h2,h3,h4,h5,h6⟩:=hs
   exact Zog rfl rfl rfl ‹_› ‹_› h1 h2 h3 h4 h5 h6 h
  | mapent kp z m k =>
   simp only at hst
   split at hst <;> (try (simp at hst; done))
   split at hst <;> (try (simp at hst; done))
   split at hst <;> simp only [SR.all.injEq,reduceCtorEq] at hst
   obtain ⟨rfl,rfl,rfl,rfl⟩:=hst
   exact Zo2 rfl rfl rfl ‹_› ‹_› hs.1 hs.2.1 ‹_› ‹_› hs.2.2 (fun n=>h n trivial)
  | store1 a v =>
   simp only at hst
   split at hst <;> (try (simp at hst; done))
   exact absurd hst Zei
  | storeN n a v =>
   simp only at hst
   split at hst <;> (try (simp at hst; done))
   exact absurd hst Zei
  | _ =>
   simp only at hst
   first
    | (simp at hst; done)
    | repeat' (split at hst <;> (try (simp at hst; done)))
theorem Zc {F:Fr P} {kp:Option (List Nat)} {dk:List Z4}:∀ {os:List DOp} {ρ:Env} {L:Loc} {s:St},
  ZgV (fun ρ L s=>ZT F dk (kept kp ρ) (ZjW kp ρ L) s) (fun os ρ L s=>DO F kp dk os ρ L s) os ρ L s→DO F kp dk os ρ L s
 | [],ρ,L,s,h=>ZlY h
 | o :: os,ρ,L,s,h=>by
  simp only [ZgV] at h
  split at h
  ·rename_i sd ρ' L' s' hst
   exact Zek hst h.1 (Zc h.2)
  ·rename_i sd pre ρ' s' hst
   exact ZlV hst h.1 fun b hb=>Zc (h.2 b hb)
  ·exact h
end
end Go.DL
namespace Go.DL
open Go
inductive Res where
 | ret (d:D)
 | panic (d:D)
def Zq1 (g:G) (w:World):Ending→Res→Prop
 | .returned v,.ret d=>Rep g w v d
 | .panicked ch,.panic d=>∃ v,ch=[{ v,recovered:=false }]∧Rep g w v d
 | _,_=>False
def Zfo (g:G) (w:World) (Φ:Res→St→Prop) (e:Ending) (w':World):Prop :=
 ∃ g' s' r,Ext g w g' w'∧KS g' s' w'∧Zq1 g' w' e r∧Φ r s'
section
variable {P:Program}
def Yf (P:Program) (f:FuncId) (args:List D) (s:St) (Φ:Res→St→Prop):Prop :=
 (∃ fn,P.funcs[f]? = some fn∧fn.body.isSome=true∧(fn.name == "runtime.NumGoroutine")=false) ∧
 ∀ g w (vs:List Value),KS g s w→Wh (Rep g w) vs args→Calls P f vs.toArray w (Zfo g w Φ)
theorem Yf.mono {f:FuncId} {args:List D} {s:St} {Φ Φ':Res→St→Prop} (h:Yf P f args s Φ) (hp:∀ r s',Φ r s'→Φ' r s'):Yf P f args s Φ' :=
 ⟨h.1,fun g w vs hs ha=>(h.2 g w vs hs ha).mono fun _ _ ⟨g',s',r,a,b,c,d⟩=>⟨g',s',r,a,b,c,hp _ _ d⟩⟩
def ZhP (P:Program) (f:FuncId) (cs:List Frame) (Φ:Res→St→Prop):Zoj P where
 T g w m:=∃ e w' fr,Comes P m (lone fr cs w') e∧fr.fn=f∧fr.leaving P w' e∧Zfo g w Φ e w'
 back g w m m' hs h:=let ⟨e,w',fr,a,b⟩:=h; ⟨e,w',fr,a.of_steps hs,b⟩
 ext g w g' w' m hx h:=by
  obtain ⟨e,w2,fr,a,b,c,g2,s2,r,d1,d2,d3,d4⟩:=h
  exact ⟨e,w2,fr,a,b,c,g2,s2,r,hx.trans d1,d2,d3,d4⟩
def ZjR (P:Program) (an:Ann) (f:FuncId) (N:Nat) (cs:List Frame) (Φ:Res→St→Prop):Fr P where
 T:=ZhP P f cs Φ
 b:={ (default:Frame) with fn:=f,kind:=.normal,roundOf:=none }
 cs:=cs
 N:=N
 ds:=[]
 an:=an
def Zbs:Nat→List D→Env
 | _,[]=>[]
 | i,d :: ds=>(i,.d d) :: Zbs (i + 1) ds
theorem Zla:∀ (ds:List D) (i t:Nat) (e:E),WN (Zbs i ds) t=some e→∃ d,e = .d d∧i≤t∧ds[t - i]? = some d
 | [],i,t,e,h=>by simp [Zbs,WN] at h
 | d :: ds,i,t,e,h=>by
  simp only [Zbs,WN] at h
  by_cases hit:i=t
  ·subst hit; simp only [if_true,Zuu] at h; subst h; exact ⟨d,rfl,ZuO _,by simp⟩
  ·simp only [hit,if_false] at h
   obtain ⟨d',h1,h2,h3⟩:=Zla ds (i + 1) t e h
   refine ⟨d',h1,by omega,?_⟩
   rw [show t - i=(t - (i + 1)) + 1 from by omega,List.getElem?_cons_succ]; exact h3
theorem ZiC {g:G} {w:World} {s:St} (hs:KS g s w) {vs:List Value} {args:List D} (ha:Wh (Rep g w) vs args) (n:Nat) :
  Yg g (fun _=>0) w (vs.toArray++Array.replicate n undef) (Zbs 0 args) [] s:={
 st:=hs
 loc l cs h:=by simp [ZU] at h
 locKept l cs h:=by simp [ZU] at h
 locSt l cs h:=by simp [ZU] at h
 inj l l' cs cs' h:=by simp [ZU] at h
 env t e h:=by
  obtain ⟨d,rfl,_,hd⟩:=Zla args 0 t e h
  simp only [Nat.sub_zero] at hd
  have hlt:t < vs.length:=by rw [ha.len]; exact (List.getElem?_eq_some_iff.1 hd).1
  have:(vs.toArray++Array.replicate n undef).getD t undef=vs[t]:=by
   simp [Array.getD_eq_getD_getElem?,Array.getElem?_append,hlt]
  rw [this]
  exact ha.get t _ d (by simp [hlt]) hd }
theorem ZlU {an:Ann} {f:FuncId} {df:DF} (hf:cf P an f=some df) {args:List D} {s:St} {Φ:Res→St→Prop}
  (h:∀ cs,ZT (ZjR P an f df.n cs Φ) [.code df.body] (Zbs 0 args) [] s):Yf P f args s Φ:=by
 unfold cf at hf
 split at hf <;> (try (simp at hf; done))
 rename_i fn hfn
 split at hf <;> (try (simp at hf; done))
 rename_i c hc
 split at hf <;> (try (simp at hf; done))
 rename_i hname
 split at hf <;> simp at hf
 rename_i rs d hrs hd
 subst hf
 refine ⟨⟨fn,hfn,by simp [hc],by simpa using hname⟩,fun g w vs hs ha=>?_⟩
 intro cs
 have henter:Frame.enter P f vs.toArray .normal =
   (ZjR P an f fn.ntmps cs Φ).b.atR { tmps:=vs.toArray++Array.replicate (fn.ntmps - vs.length) undef,defers:=[] } [.code c]:=by
  simp [Frame.enter,Frame.atR,hfn,hc,ZjR]
 have:=h cs [.code c] (.code hd .nil) g (fun _=>0) w (vs.toArray++Array.replicate (fn.ntmps - vs.length) undef) (by simp [ZjR]; omega) (ZiC hs ha _)
 obtain ⟨e,w',fr,a,b,c',d'⟩:=this
 refine ⟨e,w',fr,d',?_,b,c'⟩
 rw [henter]
 exact a
def ZbT (ρ:Env) (L:Loc) (s:St):RV→Option (Prop × D)
 | .tmp t=>match WN ρ t with
  | some (.d x)=>some (True,x)
  | some (.when c (.d x))=>some (c=true,x)
  | _=>none
 | .cell1 t=>match WN ρ t with
  | some e=>(Js L s e).map (True,·)
  | none=>none
 | .cellN t n=>match WN ρ t with
  | some e=>(JE L s n e).map fun r=>(r.1,.agg r.2)
  | none=>none
def QQ (ρ:Env) (L:Loc) (s:St):List RV→Option (Prop × List D)
 | []=>some (True,[])
 | r :: rs=>match ZbT ρ L s r,QQ ρ L s rs with
  | some (p,d),some (q,ds)=>some (p∧q,d :: ds)
  | _,_=>none
def J8:List D→D
 | [d]=>d
 | ds=>.tup ds
def ZhZ (tmps:Array Value):ResultVar→Sem Value
 | .tmp t=>pure (tmps.getD t undef)
 | .cell a t=>do loadVar t (← asAddr (tmps.getD a undef))
theorem Zkc (fn:Func) (tmps:Array Value):results fn tmps=(do
  let vs ← fn.results.mapM (ZhZ tmps)
  pure (if h:vs.size=1 then vs[0] else .tuple vs)):=by
 unfold results
 congr 1
theorem Zsx {g:G} {ν:Nat→Nat} {w:World} {tmps:Array Value} {ρ:Env} {L:Loc} {s:St} (m:Yg g ν w tmps ρ L s) {r:ResultVar} {rv:RV} (hc:crv P r=some rv) {p:Prop} {d:D} (h:ZbT ρ L s rv=some (p,d)) (hp:p) :
  ∃ v,(ZhZ tmps r).run P w = .ok v w∧Rep g w v d:=by
 cases r with
 | tmp t =>
  simp only [crv,Zuu] at hc
  subst hc
  simp only [ZbT] at h
  split at h <;> simp only [Zuu,Zuz,reduceCtorEq] at h
  ·rename_i x hx
   obtain ⟨rfl,rfl⟩:=h
   exact ⟨_,rfl,m.env t _ hx⟩
  ·rename_i c x hx
   obtain ⟨rfl,rfl⟩:=h
   exact ⟨_,rfl,(m.env t _ hx).1 hp⟩
 | cell a t =>
  simp only [crv] at hc
  split at hc <;> simp at hc
  ·rename_i n ha hsz
   subst hc
   simp only [ZbT] at h
   split at h <;> (try (simp at h; done))
   rename_i e he
   simp only [ZuC,Zuz] at h
   obtain ⟨⟨q,ds⟩,hq,rfl,rfl⟩:=h
   obtain ⟨ad,hv,vs,hrun,hrep⟩:=Zj9 (P:=P) m.loc m.st (m.env a e he) hq hp
   exact ⟨.agg vs.toArray,by simp only [ZhZ,hv,asAddr]; simp [loadVar,ZgK ha,QT hsz,hrun],hrep⟩
  ·rename_i n ha hsz
   subst hc
   simp only [ZbT] at h
   split at h <;> (try (simp at h; done))
   rename_i e he
   simp only [ZuC,Zuz] at h
   obtain ⟨x,hx,_,rfl⟩:=h
   obtain ⟨b,o,y,hv,hy,hr,_⟩:=Zjq m.loc m.st (m.env a e he) hx
   exact ⟨y,by simp only [ZhZ,hv,asAddr]; simp [loadVar,Zea ha,hy],hr⟩
theorem ZpS {g:G} {ν:Nat→Nat} {w:World} {tmps:Array Value} {ρ:Env} {L:Loc} {s:St} (m:Yg g ν w tmps ρ L s):∀ {rs:List ResultVar} {rvs:List RV},Zkx P rs=some rvs→∀ {p:Prop} {ds:List D},
  QQ ρ L s rvs=some (p,ds)→p→∃ vs:List Value,(rs.mapM (ZhZ tmps)).run P w = .ok vs w∧Wh (Rep g w) vs ds
 | [],rvs,hc,p,ds,h,hp=>by
  simp only [Zkx,Zuu] at hc
  subst hc
  simp only [QQ,Zuu,Zuz] at h
  obtain ⟨rfl,rfl⟩:=h
  exact ⟨[],by simp,.nil⟩
 | r :: rs,rvs,hc,p,ds,h,hp=>by
  simp only [Zkx] at hc
  split at hc <;> simp at hc
  rename_i x xs hx hxs
  subst hc
  simp only [QQ] at h
  split at h <;> simp only [Zuu,Zuz,reduceCtorEq] at h
  rename_i p1 d1 p2 ds' h1 h2
  obtain ⟨rfl,rfl⟩:=h
  obtain ⟨v,hv1,hv2⟩:=Zsx m hx h1 hp.1
  obtain ⟨vs,hvs1,hvs2⟩:=ZpS m hxs h2 hp.2
  exact ⟨v :: vs,by simp only [List.mapM_cons,Sem.run_bind]; rw [hv1]; simp only [Result.andThen_ok,hvs1,Sem.run_pure],.cons hv2 hvs2⟩
def D.Le (d d':D):Prop:=∀ g w v,Rep g w v d→Rep g w v d'
theorem D.Le.refl (d:D):d.Le d:=fun _ _ _ h=>h
theorem Zkd {g:G} {ν:Nat→Nat} {w:World} {tmps:Array Value} {ρ:Env} {L:Loc} {s:St} (m:Yg g ν w tmps ρ L s) {fn:Func} {rvs:List RV} (hc:Zkx P fn.results.toList=some rvs) {p:Prop} {ds:List D}
  (h:QQ ρ L s rvs=some (p,ds)) (hp:p):∃ v,(results fn tmps).run P w = .ok v w∧Rep g w v (J8 ds):=by
 obtain ⟨vs,h1,h2⟩:=ZpS m hc h hp
 have hmap:(fn.results.mapM (ZhZ tmps)).run P w = .ok vs.toArray w:=by
  rw [Array.mapM_eq_mapM_toList]
  simp [h1]
 by_cases hone:vs.length=1
 ·match vs,hone,h2 with
  | [v],_,.cons hv .nil =>
   refine ⟨v,?_,hv⟩
   rw [Zkc]
   simp [hmap]
 ·refine ⟨.tuple vs.toArray,?_,?_⟩
  ·rw [Zkc]
   simp [hmap,hone]
  ·have hlen:=h2.len
   have:J8 ds = .tup ds:=by
    match ds,hlen with
    | [],_=>rfl
    | [_],hl=>exact absurd hl hone
    | _ :: _ :: _,_=>rfl
   rw [this]
   exact .tup vs ds hlen h2.get
def St.sub (s' s:St):Prop:=∀ b o,s' b=some o→s b=some o
theorem KS.sub {g:G} {w:World} {s s':St} (h:KS g s w) (hs:s'.sub s):KS g s' w:={
 obj b o ho:=h.obj b o (hs b o ho)
 kept b o ho:=h.kept b o (hs b o ho)
 fresh:=h.fresh }
end
end Go.DL
