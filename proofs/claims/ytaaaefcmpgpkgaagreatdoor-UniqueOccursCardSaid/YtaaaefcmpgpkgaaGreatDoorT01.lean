/- Lemmas: DlA, DlB, DlC, DlD, DlE, DlF, DlG, DlH, DlI, DlJ, DlK, DlL, DlM, DlMa, DlN, DlO, DlAb, Tab0, DlP, DlQ, DlR, DlS, DlT, DlTa, DlTb, DlTc, DlU. -/
import Derived.AtR
import Derived.Calls
import Derived.Laws.Cells
import Derived.Laws.StructEq
import Derived.ChangeKeysEq
import Derived.Laws.Tables
import Derived.Laws.Build
import Derived.Laws.BytesString
import Derived.MapKept
import Derived.Laws.CopyRow
import Derived.Great.BuildSlice
import Derived.Laws.MakeOwn
import Derived.Laws.AppendOwn
import Derived.Lib.ConvBytes
import Derived.Defers
import Derived.Orders
import Derived.Lib.AppendStr
import Derived.RangeFuncIn
import Derived.KernelRfl
import Derived.Lib.Bytealg
import Derived.Shelf.Strings.OnBuilder
import Derived.Ground.NamesProg
import Derived.OpenShut
import Derived.WalkKit
import Derived.ProofKit
import Derived.ChangeCalls
import Derived.Lay
import Derived.LaidOnce
import Derived.Lib.LaidTab
import Derived.Stop.LaidErr
import Derived.SevenTiedAt
import Derived.Test.YtaaaefcmpgpkgaaGreatDoorProg
set_option maxHeartbeats 16000000
set_option linter.all false
open Bool renaming and_eq_true → ZvN
open List renaming getElem_of_mem → ZvX, length_append → ZvT, length_cons → Zv0
open Nat renaming le_refl → ZvR
open Option renaming map_eq_some_iff → ZvO
open Option.some renaming injEq → ZvD
open Prod.mk renaming injEq → ZvL
namespace Go.DL
open Go
inductive Tok where
 | none | full | tip (b:Nat)
inductive D where
 | int (k:IntKind) (n:Int)
 | bool (b:Bool)
 | str (s:List UInt8)
 | agg (cells:List D)
 | tup (vs:List D)
 | nilsl
 | sl (t:Tok) (n s:Nat) (row:Nat→List D)
 | ep (cells:List D) (off:Nat)
 | nilptr
 | ptr (b off:Nat)
 | msl (b off n cap s:Nat)
 | map (b:Nat)
 | nilmap
 | fn (f:Fn) (first caps:List D)
 | nilfn
 | iface (t:TypeId) (v:D)
 | niliface
 | stamp (n:Nat)
 | undef
 | any
instance:Inhabited D:=⟨.undef⟩
inductive SK where
 | int | str | bool
inductive KP where
 | sc (k:SK)
 | st (l:List (Nat × SK))
def Wg:SK→D→D→Option Bool
 | .int,.int k a,.int k' b=>if k=k' then some (decide (a=b)) else none
 | .str,.str a,.str b=>some (decide (a=b))
 | .bool,.bool a,.bool b=>some (decide (a=b))
 | _,_,_=>none
def KN (xs ys:List D):List (Nat × SK)→Option Bool
 | []=>some true
 | (o,k) :: r=>match xs[o]?,ys[o]? with
  | some x,some y=>match Wg k x y,KN xs ys r with
   | some b,some c=>some (b && c)
   | _,_=>none
  | _,_=>none
def Qt:KP→D→D→Option Bool
 | .sc k,x,y=>Wg k x y
 | .st l,.agg xs,.agg ys=>if xs.length=l.length∧ys.length=l.length then KN xs ys l else none
 | _,_,_=>none
def Q7 (kp:KP) (k:D):List (D × D)→Option (Option Nat)
 | []=>some none
 | e :: r=>match Qt kp k e.1 with
  | some true=>some (some 0)
  | some false=>(Q7 kp k r).map (·.map (· + 1))
  | none=>none
def hdr (w:World) (b:Nat):Option (TypeId × Nat × Nat × Nat) :=
 match w.heap[b]? with
 | some (.cells c t fr)=>some (t,c.size,fr.1,fr.2)
 | _=>none
def _root_.Go.Value.one1:Value→Bool
 | .agg _ | .tuple _=>false
 | _=>true
structure G where
 prot:Nat→Nat
 kept:Nat→Prop
def free (w:World) (b n:Nat):Prop:=∃ t m,hdr w b=some (t,m,0,0)∧n≤m
def Zil (w:World):Tok→Nat→Nat→Nat→Nat→Nat→Prop
 | .none,_,_,_,_,_=>True
 | .full,_,_,n,cap,_=>cap=n
 | .tip t,b,o,_,cap,s=>b=t∧o=0∧free w b (cap * s)
def inR (k:IntKind) (n:Int):Prop:=k.min≤n∧n≤k.max
def big:Nat:=9223372036854775807
inductive Rep (g:G) (w:World):Value→D→Prop where
 | int (k:IntKind) (n:Int) (h:inR k n):Rep g w (.int k n) (.int k n)
 | bool (b:Bool):Rep g w (.bool b) (.bool b)
 | str (s:ByteArray) (l:List UInt8) (h:s.data.toList=l) (hb:l.length≤big):Rep g w (.string s) (.str l)
 | agg (vs:List Value) (cells:List D) (hn:vs.length=cells.length) (h:∀ (i:Nat) (v:Value) (d:D),vs[i]? = some v→cells[i]? = some d→Rep g w v d)
   (one:∀ v∈vs,v.one1=true):Rep g w (.agg vs.toArray) (.agg cells)
 | tup (vs:List Value) (ds:List D) (hn:vs.length=ds.length) (h:∀ (i:Nat) (v:Value) (d:D),vs[i]? = some v→ds[i]? = some d→Rep g w v d) :
   Rep g w (.tuple vs.toArray) (.tup ds)
 | nilsl:Rep g w (.slice none 0 0) .nilsl
 | sl0 (a:Option Addr) (t:Tok) (s:Nat) (row:Nat→List D) (ht:∀ b,t≠.tip b):Rep g w (.slice a 0 0) (.sl t 0 s row)
 | sl (b o n cap s:Nat) (row:Nat→List D) (t:Tok) (f:Nat→Nat→Value) (hl:∀ i,i < n→(row i).length=s)
   (hc:∀ i j,i < n→j < s→w.cell? ⟨b,o + i * s + j,none⟩=some (f i j)) (hp:∀ i j,i < n→j < s→o + i * s + j < g.prot b)
   (hr:∀ (i j:Nat) (d:D),i < n→(row i)[j]? = some d→Rep g w (f i j) d) (one:∀ i j,i < n→j < s→(f i j).one1=true)
   (ht:Zil w t b o n cap s) (hcap:n≤cap) (hb:cap≤big) :
   Rep g w (.slice (some ⟨b,o,none⟩) n cap) (.sl t n s row)
 | ep (b o off:Nat) (cells:List D) (f:Nat→Value) (hc:∀ i,i < cells.length→w.cell? ⟨b,o + i,none⟩=some (f i)) (hp:∀ i,i < cells.length→o + i < g.prot b)
   (hr:∀ (i:Nat) (d:D),cells[i]? = some d→Rep g w (f i) d) (one:∀ i,i < cells.length→(f i).one1=true):Rep g w (.pointer (some ⟨b,o + off,none⟩)) (.ep cells off)
 | nilptr:Rep g w (.pointer none) .nilptr
 | ptr (b off:Nat):Rep g w (.pointer (some ⟨b,off,none⟩)) (.ptr b off)
 | msl (b off n cap s:Nat) (h:n≤cap) (hb:cap≤big):Rep g w (.slice (some ⟨b,off,none⟩) n cap) (.msl b off n cap s)
 | mslx (a:Addr) (b off s:Nat):Rep g w (.slice (some a) 0 0) (.msl b off 0 0 s)
 | map (b:Nat):Rep g w (.map (some b)) (.map b)
 | nilmap:Rep g w (.map none) .nilmap
 | fn (f:Fn) (fs cs:List Value) (df dc:List D) (hnf:fs.length=df.length) (hnc:cs.length=dc.length)
   (hf:∀ (i:Nat) (v:Value) (d:D),fs[i]? = some v→df[i]? = some d→Rep g w v d)
   (hc:∀ (i:Nat) (v:Value) (d:D),cs[i]? = some v→dc[i]? = some d→Rep g w v d):Rep g w (.func f fs.toArray cs.toArray) (.fn f df dc)
 | nilfn:Rep g w .nilFunc .nilfn
 | iface (t:TypeId) (v:Value) (d:D) (h:Rep g w v d):Rep g w (.iface t v) (.iface t d)
 | niliface:Rep g w .nilIface .niliface
 | stamp (n:Nat):Rep g w (.int .i64 n) (.stamp n)
 | undef:Rep g w undef .undef
 | any (v:Value):Rep g w v .any
structure Ext (g:G) (w:World) (g':G) (w':World):Prop where
 size:w.heap.size≤w'.heap.size
 prot:∀ b,g.prot b≤g'.prot b
 cell:∀ b o,o < g.prot b→w'.cell? ⟨b,o,none⟩=w.cell? ⟨b,o,none⟩
 hdr:∀ b x,hdr w b=some x→hdr w' b=some x
 kept:∀ b,g.kept b→w'.heap[b]? = w.heap[b]?
 keptProt:∀ b,g.kept b→g'.prot b=g.prot b
 keptEq:g'.kept=g.kept
 os:w'.os=w.os
 output:w'.output=w.output
 tape:w'.tape=w.tape
theorem Ext.refl (g:G) (w:World):Ext g w g w:=⟨ZvR _,fun _=>ZvR _,fun _ _ _=>rfl,fun _ _ h=>h,fun _ _=>rfl,fun _ _=>rfl,rfl,rfl,rfl,rfl⟩
theorem Ext.trans {g g' g'':G} {w w' w'':World} (h:Ext g w g' w') (h':Ext g' w' g'' w''):Ext g w g'' w'':={
 size:=Nat.le_trans h.size h'.size
 prot b:=Nat.le_trans (h.prot b) (h'.prot b)
 cell b o ho:=(h'.cell b o (Nat.lt_of_lt_of_le ho (h.prot b))).trans (h.cell b o ho)
 hdr b x hx:=h'.hdr b x (h.hdr b x hx)
 kept b hb:=(h'.kept b (by rw [h.keptEq]; exact hb)).trans (h.kept b hb)
 keptProt b hb:=(h'.keptProt b (by rw [h.keptEq]; exact hb)).trans (h.keptProt b hb)
 keptEq:=h'.keptEq.trans h.keptEq
 os:=h'.os.trans h.os
 output:=h'.output.trans h.output
 tape:=h'.tape.trans h.tape }
theorem free.mono0 {w w':World} {b n:Nat} (h:free w b n) (e:∀ b x,hdr w b=some x→hdr w' b=some x):free w' b n:=by
 obtain ⟨t,m,h1,h2⟩:=h
 exact ⟨t,m,e _ _ h1,h2⟩
theorem Rep.mono0 {g g':G} {w w':World} {v:Value} {d:D} (h:Rep g w v d) (ep:∀ b,g.prot b≤g'.prot b) (ec:∀ b o,o < g.prot b→w'.cell? ⟨b,o,none⟩=w.cell? ⟨b,o,none⟩)
  (eh:∀ b x,hdr w b=some x→hdr w' b=some x):Rep g' w' v d:=by
 induction h with
 | int k n h=>exact .int k n h
 | bool b=>exact .bool b
 | str s l h hb=>exact .str s l h hb
 | agg vs cells hn _ one ih=>exact .agg vs cells hn ih one
 | tup vs ds hn _ ih=>exact .tup vs ds hn ih
 | nilsl=>exact .nilsl
 | sl0 a t s row ht=>exact .sl0 a t s row ht
 | sl b o n cap s row t f hl hc hp _ one ht hcap hb ih =>
  refine .sl b o n cap s row t f hl (fun i j hi hj=>?_) (fun i j hi hj=>Nat.lt_of_lt_of_le (hp i j hi hj) (ep b)) ih one ?_ hcap hb
  ·rw [ec _ _ (hp i j hi hj)]; exact hc i j hi hj
  ·cases t with
   | none=>trivial
   | full=>exact ht
   | tip t=>exact ⟨ht.1,ht.2.1,ht.2.2.mono0 eh⟩
 | ep b o off cells f hc hp _ one ih =>
  exact .ep b o off cells f (fun i hi=>by rw [ec _ _ (hp i hi)]; exact hc i hi) (fun i hi=>Nat.lt_of_lt_of_le (hp i hi) (ep b)) ih one
 | nilptr=>exact .nilptr
 | ptr b off=>exact .ptr b off
 | msl b off n cap s h hb=>exact .msl b off n cap s h hb
 | mslx a b off s=>exact .mslx a b off s
 | map b=>exact .map b
 | nilmap=>exact .nilmap
 | fn f fs cs df dc hnf hnc _ _ ihf ihc=>exact .fn f fs cs df dc hnf hnc ihf ihc
 | nilfn=>exact .nilfn
 | iface t v d _ ih=>exact .iface t v d ih
 | niliface=>exact .niliface
 | stamp n=>exact .stamp n
 | undef=>exact .undef
 | any v=>exact .any v
theorem Rep.mono {g g':G} {w w':World} {v:Value} {d:D} (h:Rep g w v d) (e:Ext g w g' w'):Rep g' w' v d:=h.mono0 e.prot e.cell e.hdr
end Go.DL
namespace Go.DL
open Go
inductive E where
 | d (v:D)
 | loc (l off:Nat)
 | when (c:Bool) (e:E)
abbrev Env:=List (Nat × E)
abbrev Loc:=List (Nat × List D)
def Ye:Env→Nat→Option E
 | [],_=>none
 | (k,e) :: r,t=>if k=t then some e else Ye r t
def Zl:Loc→Nat→Option (List D)
 | [],_=>none
 | (k,e) :: r,t=>if k=t then some e else Zl r t
def Z5 (g:G) (ν:Nat→Nat) (w:World) (L:Loc):Value→E→Prop
 | v,.d x=>Rep g w v x
 | v,.loc l off=>(∃ cs,Zl L l=some cs)∧v = .pointer (some ⟨ν l,off,none⟩)
 | v,.when c e=>(c=true→Z5 g ν w L v e)∧(c=false→v=undef)
theorem Z5.mono {g g':G} {ν:Nat→Nat} {w w':World} {L:Loc} {v:Value} {e:E} (h:Z5 g ν w L v e) (x:Ext g w g' w'):Z5 g' ν w' L v e:=by
 induction e with
 | d d=>exact Rep.mono h x
 | loc l off=>exact h
 | when c e ih=>exact ⟨fun hc=>ih (h.1 hc),h.2⟩
structure KM where
 fn:FuncId
 params:List Nat
 assign:Code
 body:Code
 defers:Nat
 ρ:Env
 N:Nat
inductive LSt where
 | ready | busy
 | done (j:Code)
inductive Y6 where
 | cells (ds:List D)
 | map (es:List (D × D))
 | tip (k:Nat)
 | mapE (kp:KP) (es:List (D × D)) (k:D) (n:Nat)
 | loop (r:KM) (st:LSt)
 | dfr
abbrev St:=Nat→Option Y6
def St.upd (s:St) (b:Nat) (o:Y6):St:=fun x=>if x=b then some o else s x
def St.del (s:St) (b:Nat):St:=fun x=>if x=b then none else s x
structure Kn (g:G) (w:World) (b:Nat) (ds:List D):Prop where
 prot:g.prot b=0
 ex:∃ (vs:Array Value) (T:TypeId),w.heap[b]? = some (.cells vs T (0,0))∧vs.size=ds.length ∧
  (∀ (i:Nat) (v:Value) (d:D),vs[i]? = some v→ds[i]? = some d→Rep g w v d)∧∀ v∈vs,v.one1=true
def Qb (g:G) (w:World) (b:Nat):Y6→Prop
  | .cells ds=>Kn g w b ds
  | .map es=>g.prot b=0∧∃ (en:Array MapEntry) (clock:Nat),w.heap[b]? = some (.map en clock)∧en.size=es.length ∧
      (∀ (i:Nat) (e:MapEntry) (d:D × D),en[i]? = some e→es[i]? = some d→Rep g w e.key d.1) ∧
      (∀ (i:Nat) (e:MapEntry) (d:D × D),en[i]? = some e→es[i]? = some d→Rep g w e.val d.2) ∧
      (∀ (i j:Nat) (e e':MapEntry),en[i]? = some e→en[j]? = some e'→e.born=e'.born→i=j)∧∀ (i:Nat) (e:MapEntry),en[i]? = some e→e.born < clock
  | .tip k=>g.prot b=k∧∃ (vs:Array Value) (T:TypeId),w.heap[b]? = some (.cells vs T (0,0))∧k≤vs.size
  | .mapE kp es k n=>g.prot b=0∧∃ io,Q7 kp k es=some io∧∃ (en:Array MapEntry) (clock:Nat),w.heap[b]? = some (.map en clock)∧en.size=(match io with
        | none=>es.length + 1
        | some _=>es.length) ∧
      (∀ (i:Nat) (e:MapEntry) (d:D × D),i≠io.getD es.length→en[i]? = some e→es[i]? = some d→Rep g w e.key d.1) ∧
      (∀ (i:Nat) (e:MapEntry) (d:D × D),i≠io.getD es.length→en[i]? = some e→es[i]? = some d→Rep g w e.val d.2) ∧
      (∀ e,en[io.getD es.length]? = some e→Rep g w e.key k∧e.born=n) ∧
      (∀ (i j:Nat) (e e':MapEntry),en[i]? = some e→en[j]? = some e'→e.born=e'.born→i=j)∧∀ (i:Nat) (e:MapEntry),en[i]? = some e→e.born < clock
  | .loop r st=>g.prot b=0∧∃ l:Go.Loop,w.heap[b]? = some (.loop l)∧l.fn=r.fn∧l.params.toList=r.params∧l.assign=r.assign∧l.body=r.body∧l.defers=r.defers∧r.N≤l.tmps.size ∧
      (∀ t e,Ye r.ρ t=some e→Z5 g (fun _=>0) w [] (l.tmps.getD t undef) e) ∧
      (match st with
       | .ready=>l.state = .ready∧l.pending=none
       | .busy=>l.state = .busy
       | .done j=>l.state = .done∧l.pending=some j)
  | .dfr=>g.prot b=0∧w.heap[b]? = some (.deferred (some []))
class Znt where
 tab:Nat→Option (List D)
variable [Znt]
structure Wo (g:G) (s:St) (w:World):Prop where
 obj:∀ b o,s b=some o→Qb g w b o
 kept:∀ b o,s b=some o→¬ g.kept b
 fresh:∀ b,w.heap.size≤b→g.prot b=0∧¬ g.kept b
 tabs:∀ n cs,Znt.tab n=some cs→Rep g w (.pointer (some ⟨n,0,none⟩)) (.ep cs 0)
theorem Kn.lt {g:G} {w:World} {b:Nat} {ds:List D} (h:Kn g w b ds):b < w.heap.size:=by
 obtain ⟨_,_,h,_⟩:=h.ex
 exact (Array.getElem?_eq_some_iff.1 h).1
theorem Qb.lt {g:G} {w:World} {b:Nat} {o:Y6} (h:Qb g w b o):b < w.heap.size:=by
 cases o with
 | cells ds=>exact Kn.lt h
 | map es=>obtain ⟨_,_,_,h,_⟩:=h; exact (Array.getElem?_eq_some_iff.1 h).1
 | tip k=>obtain ⟨_,_,_,h,_⟩:=h; exact (Array.getElem?_eq_some_iff.1 h).1
 | mapE kp es k n=>obtain ⟨_,_,_,_,_,h,_⟩:=h; exact (Array.getElem?_eq_some_iff.1 h).1
 | loop r st=>obtain ⟨_,_,h,_⟩:=h; exact (Array.getElem?_eq_some_iff.1 h).1
 | dfr=>exact (Array.getElem?_eq_some_iff.1 h.2).1
theorem Kn.mono {g g':G} {w w':World} {b:Nat} {ds:List D} (h:Kn g w b ds) (e:Ext g w g' w') (hb:w'.heap[b]? = w.heap[b]?) (hp:g'.prot b=g.prot b) :
  Kn g' w' b ds:=by
 obtain ⟨hp0,vs,T,h1,h2,h4,h5⟩:=h
 exact ⟨hp.trans hp0,vs,T,hb.trans h1,h2,fun i v d hv hd=>(h4 i v d hv hd).mono e,h5⟩
theorem Qb.mono {g g':G} {w w':World} {b:Nat} {o:Y6} (h:Qb g w b o) (e:Ext g w g' w') (hb:w'.heap[b]? = w.heap[b]?) (hp:g'.prot b=g.prot b) :
  Qb g' w' b o:=by
 cases o with
 | cells ds=>exact Kn.mono h e hb hp
 | map es =>
  obtain ⟨hp0,en,clock,h1,h2,h3,h4,h5,h6⟩:=h
  exact ⟨hp.trans hp0,en,clock,hb.trans h1,h2,fun i x d hv hd=>(h3 i x d hv hd).mono e,fun i x d hv hd=>(h4 i x d hv hd).mono e,h5,h6⟩
 | tip k =>
  obtain ⟨hp0,vs,T,h1,h2⟩:=h
  exact ⟨hp.trans hp0,vs,T,hb.trans h1,h2⟩
 | mapE kp es k n =>
  obtain ⟨hp0,io,h0,en,clock,h1,h2,h3,h4,h5,h6,h7⟩:=h
  exact ⟨hp.trans hp0,io,h0,en,clock,hb.trans h1,h2,fun i x d hi hv hd=>(h3 i x d hi hv hd).mono e,fun i x d hi hv hd=>(h4 i x d hi hv hd).mono e,fun x hx=>⟨(h5 x hx).1.mono e,(h5 x hx).2⟩,h6,h7⟩
 | loop r st =>
  obtain ⟨hp0,l,h1,h2,h3,h4,h5,h6,h7,h8,h9⟩:=h
  exact ⟨hp.trans hp0,l,hb.trans h1,h2,h3,h4,h5,h6,h7,fun t x he=>(h8 t x he).mono e,h9⟩
 | dfr=>exact ⟨hp.trans h.1,hb.trans h.2⟩
structure ZI (g:G) (ν:Nat→Nat) (w:World) (tmps:Array Value) (ρ:Env) (L:Loc) (s:St):Prop where
 st:Wo g s w
 loc:∀ l cs,Zl L l=some cs→Kn g w (ν l) cs
 locKept:∀ l cs,Zl L l=some cs→¬ g.kept (ν l)
 locSt:∀ l cs,Zl L l=some cs→s (ν l)=none
 inj:∀ l l' cs cs',Zl L l=some cs→Zl L l'=some cs'→ν l=ν l'→l=l'
 env:∀ t e,Ye ρ t=some e→Z5 g ν w L (tmps.getD t undef) e
theorem Z5.locs {g:G} {ν ν':Nat→Nat} {w:World} {L L':Loc} {v:Value} {e:E} (h:Z5 g ν w L v e)
  (hL:∀ l cs,Zl L l=some cs→(∃ cs',Zl L' l=some cs')∧ν' l=ν l):Z5 g ν' w L' v e:=by
 induction e with
 | d d=>exact h
 | loc l off=>obtain ⟨⟨cs,hc⟩,hv⟩:=h; obtain ⟨h1,h2⟩:=hL l cs hc; exact ⟨h1,by rw [h2]; exact hv⟩
 | when c e ih=>exact ⟨fun hc=>ih (h.1 hc),h.2⟩
theorem Zs1 (a:Array Value) (t u:Nat) (v:Value) (h:t < a.size):(a.setIfInBounds t v).getD u undef=if t=u then v else a.getD u undef:=by
 simp only [Array.getD_eq_getD_getElem?,Array.getElem?_setIfInBounds]
 by_cases htu:t=u
 ·subst htu; simp [h]
 ·simp [htu]
theorem ZI.put {g:G} {ν:Nat→Nat} {w:World} {tmps:Array Value} {ρ:Env} {L:Loc} {s:St} (m:ZI g ν w tmps ρ L s) {t:Nat} {v:Value} {e:E}
  (ht:t < tmps.size) (h:Z5 g ν w L v e):ZI g ν w (tmps.setIfInBounds t v) ((t,e) :: ρ) L s :=
 { m with
  env:=fun u x hx=>by
   rw [Zs1 _ _ _ _ ht]
   simp only [Ye] at hx
   by_cases htu:t=u
   ·simp only [htu,if_true] at hx ⊢; obtain rfl:=Option.some.inj hx; exact h
   ·simp only [htu,if_false] at hx ⊢; exact m.env u x hx }
structure Zau (g:G) (w:World) (g':G) (w':World):Prop where
 size:w.heap.size≤w'.heap.size
 old:∀ b,b < w.heap.size→w'.heap[b]? = w.heap[b]?
 prot:∀ b,b < w.heap.size→g'.prot b=g.prot b
 fresh:∀ b,w'.heap.size≤b→g'.prot b=0
 kept:g'.kept=g.kept
 os:w'.os=w.os
 output:w'.output=w.output
 tape:w'.tape=w.tape
theorem JY {w w':World} {b o:Nat} (h:w'.heap[b]? = w.heap[b]?):w'.cell? ⟨b,o,none⟩=w.cell? ⟨b,o,none⟩:=by
 unfold World.cell?; simp only [h]
theorem Zbs {w w':World} {b:Nat} (h:w'.heap[b]? = w.heap[b]?):hdr w' b=hdr w b:=by
 unfold hdr; simp only [h]
theorem ZuP {w:World} {b:Nat} {x:TypeId × Nat × Nat × Nat} (h:hdr w b=some x):b < w.heap.size:=by
 unfold hdr at h
 rcases Nat.lt_or_ge b w.heap.size with hb | hb
 ·exact hb
 ·simp [Array.getElem?_eq_none hb] at h
theorem Zau.ext {g g':G} {w w':World} (h:Zau g w g' w') (hf:∀ b,w.heap.size≤b→g.prot b=0∧¬ g.kept b):Ext g w g' w':={
 size:=h.size
 prot b:=by
  rcases Nat.lt_or_ge b w.heap.size with hb | hb
  ·rw [h.prot b hb]; exact ZvR _
  ·rw [(hf b hb).1]; exact Nat.zero_le _
 cell b o ho:=by
  rcases Nat.lt_or_ge b w.heap.size with hb | hb
  ·exact JY (h.old b hb)
  ·rw [(hf b hb).1] at ho; exact absurd ho (Nat.not_lt_zero _)
 hdr b x hx:=by rw [Zbs (h.old b (ZuP hx))]; exact hx
 kept b hb:=by
  rcases Nat.lt_or_ge b w.heap.size with hb' | hb'
  ·exact h.old b hb'
  ·exact absurd hb (hf b hb').2
 keptProt b hb:=by
  rcases Nat.lt_or_ge b w.heap.size with hb' | hb'
  ·exact h.prot b hb'
  ·exact absurd hb (hf b hb').2
 keptEq:=h.kept
 os:=h.os
 output:=h.output
 tape:=h.tape }
theorem Wo.grow {g g':G} {w w':World} {s:St} (m:Wo g s w) (h:Zau g w g' w'):Wo g' s w':={
 obj b o ho:=(m.obj b o ho).mono (h.ext m.fresh) (h.old b (m.obj b o ho).lt) (h.prot b (m.obj b o ho).lt)
 kept b o ho:=by rw [h.kept]; exact m.kept b o ho
 fresh b hb:=⟨h.fresh b hb,by rw [h.kept]; exact (m.fresh b (Nat.le_trans h.size hb)).2⟩
 tabs n cs hc:=(m.tabs n cs hc).mono (h.ext m.fresh) }
theorem ZI.grow {g g':G} {ν:Nat→Nat} {w w':World} {tmps:Array Value} {ρ:Env} {L:Loc} {s:St} (m:ZI g ν w tmps ρ L s) (h:Zau g w g' w') :
  ZI g' ν w' tmps ρ L s:={
 st:=m.st.grow h
 loc l cs hl:=(m.loc l cs hl).mono (h.ext m.st.fresh) (h.old _ (m.loc l cs hl).lt) (h.prot _ (m.loc l cs hl).lt)
 locKept l cs hl:=by rw [h.kept]; exact m.locKept l cs hl
 locSt:=m.locSt
 inj:=m.inj
 env t e he:=(m.env t e he).mono (h.ext m.st.fresh) }
end Go.DL
namespace Go.DL
open Go
variable [Znt]
inductive Opd where
 | tmp (t:Nat)
 | cst (d:D)
def Zkk:Value→Option D
 | .int k n=>if k.min≤n∧n≤k.max then some (.int k n) else none
 | .bool b=>some (.bool b)
 | .string s=>if s.data.toList.length≤big then some (.str s.data.toList) else none
 | .pointer none=>some .nilptr
 | .slice none 0 0=>some .nilsl
 | .map none=>some .nilmap
 | .nilFunc=>some .nilfn
 | .nilIface=>some .niliface
 | _=>none
def Zbq:List Value→Option (List D)
 | []=>some []
 | v :: vs=>match Zkk v,Zbq vs with
  | some d,some ds=>some (d :: ds)
  | _,_=>none
def Zkl:Value→Option D
 | .agg cs=>(Zbq cs.toList).map .agg
 | v=>Zkk v
def YJ:Operand→Option Opd
 | .tmp t=>some (.tmp t)
 | .const v=>(Zkl v).map .cst
 | .func f=>some (.cst (.fn (.func f) [] []))
 | .global n=>some (.cst (match Znt.tab n with
  | some cs=>.ep cs 0
  | none=>.any))
def ZbE:List Operand→Option (List Opd)
 | []=>some []
 | x :: xs=>match YJ x,ZbE xs with
  | some y,some ys=>some (y :: ys)
  | _,_=>none
inductive Zdt where
 | bool | sl | map | fn | ifc | ptr
 | cells (l:List (Nat × SK))
inductive Cv where
 | int (k:IntKind) | str | i2s | b2s
inductive Q where
 | mv | nilck | load1 | loadN (n:Nat)
 | bin (op:BinOp) (p:Option Zdt)
 | not | neg | xorm
 | conv (c:Cv)
 | faddr (off:Nat)
 | fld1 (off:Nat) | fldN (off n:Nat)
 | iaddr (s:Nat) | iaddrA (m s:Nat)
 | idxA (m s:Nat) (one:Bool)
 | sliceA (m s:Nat) (lo hi mx:Bool)
 | idxS
 | lenS | lenL | lenA (n:Nat)
 | ext (k:Nat)
 | build (zero:List D) (parts:List (Nat × Nat))
 | mkfn (f:Fn) (first:Nat)
 | mkif (t:TypeId)
 | sliceS (lo hi:Bool)
 | slice (s:Nat) (lo hi mx:Bool)
 | min | max
 | tassert (t:TypeId) (ok:Bool) (zero:D)
 | lookup (kp:KP) (zero:D) (ok:Bool)
 | lenM
def cellsOf:D→List D
 | .agg cs=>cs
 | d=>[d]
def Qi:D→Bool
 | .tup _ | .undef | .any=>false
 | _=>true
def Jb:D→Bool
 | .tup _ | .undef | .agg _ | .any=>false
 | _=>true
def Jg (kp:KP) (k:D):Bool:=(Qt kp k k).isSome
def ZbG (kp:KP) (k:D):List (D × D)→Option (Option D)
 | []=>some none
 | e :: r=>match Qt kp k e.1 with
  | some true=>some (some e.2)
  | some false=>ZbG kp k r
  | none=>none
def ZaC (kp:KP) (k v:D):List (D × D)→Option (List (D × D))
 | []=>some [(k,v)]
 | e :: r=>match Qt kp k e.1 with
  | some true=>some ((k,v) :: r)
  | some false=>(ZaC kp k v r).map (e :: ·)
  | none=>none
def Zfc (kp:KP) (k:D):List (D × D)→Option (List (D × D))
 | []=>some []
 | e :: r=>match Qt kp k e.1 with
  | some true=>some r
  | some false=>(Zfc kp k r).map (e :: ·)
  | none=>none
def KJ (z:D) (ok:Bool):Option D→D
 | some v=>if ok then .tup [v,.bool true] else v
 | none=>if ok then .tup [z,.bool false] else z
def WV:Zdt→D→D→Option (Prop × Bool)
 | .bool,.bool a,.bool b=>some (True,decide (a=b))
 | .sl,.nilsl,.nilsl=>some (True,true)
 | .sl,.sl _ n _ _,.nilsl=>some (0 < n,false)
 | .map,.nilmap,.nilmap=>some (True,true)
 | .map,.map _,.nilmap=>some (True,false)
 | .sl,.msl _ _ _ _ _,.nilsl=>some (True,false)
 | .fn,.nilfn,.nilfn=>some (True,true)
 | .fn,.fn _ _ _,.nilfn=>some (True,false)
 | .ifc,.niliface,.niliface=>some (True,true)
 | .ifc,.iface _ _,.niliface=>some (True,false)
 | .ptr,.nilptr,.nilptr=>some (True,true)
 | .ptr,.ptr _ _,.nilptr=>some (True,false)
 | .ptr,.ep _ _,.nilptr=>some (True,false)
 | .cells l,.agg xs,.agg ys=>(KN xs ys l).map (True,·)
 | _,_,_=>none
def Zjr (op:BinOp) (k:IntKind) (x y:Int):Int :=
 let a:=BitVec.ofInt k.bits x
 let b:=BitVec.ofInt k.bits y
 let r:BitVec k.bits:=match op with
  | .and=>a &&& b
  | .or=>a ||| b
  | .xor=>a ^^^ b
  | _=>a &&& ~~~b
 k.wrap r.toNat
def ZjP (k:IntKind) (x y:Int):Int:=x * 2 ^ (Nat.min y.toNat k.bits)
def ZqZ (k:IntKind) (x y:Int):Int:=x.fdiv (2 ^ (Nat.min y.toNat k.bits))
def Jy (op:BinOp) (k:IntKind) (a b:Int):Option (Prop × D) :=
 match op with
 | .add=>some (inR k (a + b),.int k (a + b))
 | .sub=>some (inR k (a - b),.int k (a - b))
 | .mul=>some (inR k (a * b),.int k (a * b))
 | .quo=>some (b≠0∧inR k (a.tdiv b),.int k (a.tdiv b))
 | .rem=>some (b≠0∧inR k (a.tmod b),.int k (a.tmod b))
 | .and | .or | .xor | .andNot=>some (True,.int k (Zjr op k a b))
 | .eql=>some (True,.bool (decide (a=b)))
 | .neq=>some (True,.bool (!decide (a=b)))
 | .lss=>some (True,.bool (decide (a < b)))
 | .leq=>some (True,.bool (decide (a≤b)))
 | .gtr=>some (True,.bool (decide (b < a)))
 | .geq=>some (True,.bool (decide (b≤a)))
 | .shl | .shr=>none
def Zdw (op:BinOp) (a b:List UInt8):Option (Prop × D) :=
 match op with
 | .add=>some (a.length + b.length≤big,.str (a++b))
 | .eql=>some (True,.bool (decide (a=b)))
 | .neq=>some (True,.bool (!decide (a=b)))
 | .lss=>some (True,.bool (Op.bytesLess a b))
 | .leq=>some (True,.bool (Op.bytesLess a b || decide (a=b)))
 | .gtr=>some (True,.bool !(Op.bytesLess a b || decide (a=b)))
 | .geq=>some (True,.bool (!Op.bytesLess a b))
 | _=>none
def eqO (op:BinOp) (p:Option Zdt) (x y:D):Option (Prop × D) :=
 match op,p with
 | .eql,some p=>(WV p x y).map fun r=>(r.1,.bool r.2)
 | .neq,some p=>(WV p x y).map fun r=>(r.1,.bool (!r.2))
 | _,_=>none
def Zaw (op:BinOp) (p:Option Zdt):D→D→Option (Prop × D)
 | .int k a,.int k' b =>
  match op with
  | .shl=>some (0≤b∧inR k (ZjP k a b),.int k (ZjP k a b))
  | .shr=>some (0≤b∧inR k (ZqZ k a b),.int k (ZqZ k a b))
  | _=>if k=k' then Jy op k a b else none
 | .str a,.str b=>Zdw op a b
 | x,y=>eqO op p x y
def part (cs:List D) (o n:Nat):List D:=(cs.drop o).take n
def YS (s:St) (b:Nat):Option (List D) :=
 match s b with
 | some (.cells cs)=>some cs
 | _=>none
def QM (s:St) (b:Nat):Option (List (D × D)) :=
 match s b with
 | some (.map es)=>some es
 | _=>none
def K3 (L:Loc) (s:St):E→Option D
 | .d (.ep cs o)=>cs[o]?
 | .d (.ptr b o)=>match YS s b with
  | some cs=>cs[o]?
  | none=>none
 | .loc l o=>match Zl L l with
  | some cs=>cs[o]?
  | none=>none
 | _=>none
def Qe (L:Loc) (s:St) (n:Nat):E→Option (Prop × List D)
 | .d (.ep cs o)=>some (o + n≤cs.length,part cs o n)
 | .d (.ptr b o)=>match YS s b with
  | some cs=>some (o + n≤cs.length,part cs o n)
  | none=>none
 | .loc l o=>match Zl L l with
  | some cs=>some (o + n≤cs.length,part cs o n)
  | none=>none
 | _=>none
def ZC (cs:List D) (o:Nat) (vs:List D):List D:=cs.take o++vs++cs.drop (o + vs.length)
def Za8 (cells:List D):List (Nat × Nat)→List D→Option (List D)
 | [],[]=>some cells
 | (o,n) :: ps,d :: ds=>if Qi d=true∧(cellsOf d).length=n∧o + n≤cells.length then Za8 (ZC cells o (cellsOf d)) ps ds else none
 | _,_=>none
def ZcD:List D→UInt8
 | [.int _ n]=>UInt8.ofNat n.toNat
 | _=>0
def Zlw (r:List D):Prop:=∃ n:Int,r=[.int .u8 n]
def K4:List E→Option (List D)
 | []=>some []
 | .d x :: r=>(K4 r).map (x :: ·)
 | _ :: _=>none
def ZbL (t:Tok) (n:Nat) (l h:Int):Option Int→Tok
 | some m=>if m=h then .full else .none
 | none=>if h=n then (match t with
  | .full=>.full
  | .tip b=>if l=0 then .tip b else .none
  | .none=>.none) else .none
def Za3 (s:Nat) (lo hi mx:Option Int):D→Option (Prop × D)
 | .sl t n s' row =>
  if s'=s then
   let h:=hi.getD n
   let l:=lo.getD 0
   some (0≤l∧l≤h∧h≤n∧(∀ m∈mx,h≤m∧m≤n),
    .sl (ZbL t n l h mx)
     (h - l).toNat s (fun i=>row (l.toNat + i)))
  else none
 | .nilsl=>some (lo.getD 0=0∧hi.getD 0=0∧mx.getD 0=0,.nilsl)
 | .msl b o n cap s' =>
  if s'=s then
   let h:=hi.getD n
   let l:=lo.getD 0
   let m:=mx.getD cap
   some (0≤l∧l≤h∧h≤m∧m≤cap,.msl b (if m=l then o else o + l.toNat * s) (h - l).toNat (m - l).toNat s)
  else none
 | _=>none
def K0:List Bool→List E→Option (List (Option Int))
 | [],[]=>some []
 | true :: bs,.d (.int _ n) :: r=>(K0 bs r).map (some n :: ·)
 | false :: bs,r=>(K0 bs r).map (none :: ·)
 | _,_=>none
def qv (L:Loc) (s:St):Q→List E→Option (Prop × E)
 | .mv,[e]=>some (True,e)
 | .nilck,[.loc l o]=>some (True,.loc l o)
 | .nilck,[.d (.ep cs o)]=>some (True,.d (.ep cs o))
 | .nilck,[.d (.ptr b o)]=>some (True,.d (.ptr b o))
 | .nilck,[.d (.fn f x y)]=>match f with
  | .func g=>some (True,.d (.fn (.func g) x y))
  | .yield l=>some (True,.d (.fn (.yield l) x y))
  | _=>none
 | .load1,[a]=>(K3 L s a).map fun d=>(True,.d d)
 | .loadN n,[a]=>(Qe L s n a).map fun r=>(r.1,.d (.agg r.2))
 | .bin op p,[.d x,.d y]=>(Zaw op p x y).map fun r=>(r.1,.d r.2)
 | .not,[.d (.bool b)]=>some (True,.d (.bool !b))
 | .neg,[.d (.int k n)]=>some (inR k (-n),.d (.int k (-n)))
 | .xorm,[.d (.int k n)]=>some (True,.d (.int k (Zjr .xor k (if k.signed then -1 else k.max) n)))
 | .conv (.int k),[.d (.int k' n)]=>if k=k' then some (True,.d (.int k n)) else some (True,.d (.int k (k.wrap n)))
 | .conv .str,[.d (.str s)]=>some (True,.d (.str s))
 | .conv .i2s,[.d (.int _ n)]=>some ((Utf8.encode n).data.toList.length≤big,.d (.str (Utf8.encode n).data.toList))
 | .conv .b2s,[.d .nilsl]=>some (True,.d (.str []))
 | .conv .b2s,[.d (.sl _ n s row)]=>if s=1 then some (∀ i,i < n→Zlw (row i),.d (.str ((List.range n).map fun i=>ZcD (row i)))) else none
 | .conv .b2s,[.d (.msl b o n _ z)]=>match YS s b with
  | some cs=>if z=1 then some (o + n≤cs.length∧∀ i,i < n→Zlw (part cs (o + i) 1),.d (.str ((List.range n).map fun i=>ZcD (part cs (o + i) 1)))) else none
  | none=>none
 | .faddr off,[.d (.ep cs o)]=>some (True,.d (.ep cs (o + off)))
 | .faddr off,[.d (.ptr b o)]=>some (True,.d (.ptr b (o + off)))
 | .faddr off,[.loc l o]=>some (True,.loc l (o + off))
 | .fld1 off,[.d (.agg cs)]=>(cs[off]?).map fun d=>(True,.d d)
 | .fldN off n,[.d (.agg cs)]=>some (off + n≤cs.length,.d (.agg (part cs off n)))
 | .iaddr z,[.d (.sl _ n z' row),.d (.int _ i)]=>if z'=z then some (0≤i∧i < n,.d (.ep (row i.toNat) 0)) else none
 | .iaddr z,[.d (.msl b o n _ z'),.d (.int _ i)]=>if z'=z then some (0≤i∧i < n,.d (.ptr b (o + i.toNat * z))) else none
 | .iaddrA m z,[.d (.ptr b o),.d (.int _ i)]=>some (0≤i∧i < m,.d (.ptr b (o + i.toNat * z)))
 | .iaddrA m s,[.loc l o,.d (.int _ i)]=>some (0≤i∧i < m,.loc l (o + i.toNat * s))
 | .iaddrA m s,[.d (.ep cs o),.d (.int _ i)]=>some (0≤i∧i < m,.d (.ep cs (o + i.toNat * s)))
 | .idxA m z true,[.d (.agg cs),.d (.int _ i)]=>(cs[i.toNat * z]?).map fun d=>(0≤i∧i < m,.d d)
 | .idxA m z false,[.d (.agg cs),.d (.int _ i)]=>some (0≤i∧i < m∧i.toNat * z + z≤cs.length,.d (.agg (part cs (i.toNat * z) z)))
 | .sliceA m z lo hi mx,.d (.ptr b o) :: r=>match K0 [lo,hi,mx] r with
  | some [l,h,x]=>some (0≤l.getD 0∧l.getD 0≤h.getD m∧h.getD m≤x.getD m∧x.getD m≤m∧m≤big,
    .d (.msl b (if x.getD m=l.getD 0 then o else o + (l.getD 0).toNat * z) (h.getD m - l.getD 0).toNat (x.getD m - l.getD 0).toNat z))
  | _=>none
 | .idxS,[.d (.str s),.d (.int _ i)]=>some (0≤i∧i < s.length,.d (.int .u8 ((s.getD i.toNat 0).toNat:Int)))
 | .lenS,[.d (.str s)]=>some (True,.d (.int .i64 s.length))
 | .lenL,[.d (.sl _ n _ _)]=>some (True,.d (.int .i64 n))
 | .lenL,[.d (.msl _ _ n _ _)]=>some (True,.d (.int .i64 n))
 | .lenL,[.d .nilsl]=>some (True,.d (.int .i64 0))
 | .lenA n,[_]=>some (inR .i64 n,.d (.int .i64 n))
 | .ext k,[.d (.tup vs)]=>(vs[k]?).map fun d=>(True,.d d)
 | .build zero parts,es=>match K4 es with
  | some ds=>(Za8 zero parts ds).map fun cs=>(True,.d (.agg cs))
  | none=>none
 | .mkfn f k,es=>(K4 es).map fun ds=>(True,.d (.fn f (ds.take k) (ds.drop k)))
 | .mkif t,[.d x]=>some (True,.d (.iface t x))
 | .sliceS lo hi,.d (.str s) :: r=>match K0 [lo,hi,false] r with
  | some [l,h,_]=>some (0≤l.getD 0∧l.getD 0≤h.getD s.length∧h.getD s.length≤s.length,
    .d (.str ((s.drop (l.getD 0).toNat).take ((h.getD s.length).toNat - (l.getD 0).toNat))))
  | _=>none
 | .slice s lo hi mx,.d x :: r=>match K0 [lo,hi,mx] r with
  | some [l,h,m]=>(Za3 s l h m x).map fun r=>(r.1,.d r.2)
  | _=>none
 | .min,[.d (.int k a),.d (.int k' b)]=>if k=k' then some (True,.d (.int k (Min.min a b))) else none
 | .max,[.d (.int k a),.d (.int k' b)]=>if k=k' then some (True,.d (.int k (Max.max a b))) else none
 | .tassert t true _,[.d (.iface t' v)]=>if t'=t then some (True,.d (.tup [v,.bool true])) else none
 | .lookup kp z ok,[.d (.map b),.d k]=>match QM s b with
  | some es=>(ZbG kp k es).map fun r=>(Jg kp k=true,.d (KJ z ok r))
  | none=>none
 | .lookup kp z ok,[.d .nilmap,.d k]=>some (Jg kp k=true,.d (KJ z ok none))
 | .lenM,[.d (.map b)]=>match QM s b with
  | some es=>some (es.length≤big,.d (.int .i64 es.length))
  | none=>none
 | .lenM,[.d .nilmap]=>some (True,.d (.int .i64 0))
 | .tassert _ true zero,[.d .niliface]=>some (True,.d (.tup [zero,.bool false]))
 | .tassert t false _,[.d (.iface t' v)]=>if t'=t then some (True,.d v) else none
 | _,_=>none
inductive K where
 | q (q:Q) (args:List Opd)
 | pick (c a b:Opd)
 | alloc (zero:List D)
 | box (x:Opd)
 | bsl (len s:Nat) (zero:List D) (idx:List Nat) (parts:List Opd)
 | s2b (x:Opd)
 | store1 (a v:Opd)
 | storeN (n:Nat) (a v:Opd)
 | call (f:Opd) (args:List Opd)
 | append (elem:TypeId) (s bytes:Nat) (zero:List D) (x y:Opd)
 | mkmap
 | mapupd (kp:KP) (m k v:Opd)
 | mapent (kp:KP) (zero:D) (m k:Opd)
 | entst (m st v:Opd)
 | mkslice (elem:TypeId) (s bytes:Nat) (zero:List D) (l c:Opd)
 | panic (x:Opd)
 | delete (kp:KP) (m k:Opd)
 | clear (s:Nat) (zero:List D) (x:Opd)
 | copy (s:Nat) (x y:Opd)
 | fork (k:K)
 | defer (f:Opd) (args:List Opd)
 | recover
def K.isDefer:K→Bool
 | .defer _ _=>true
 | _=>false
structure DOp where
 dst:Option Nat
 guard:Option (Nat × Bool)
 k:K
inductive DC where
 | skip
 | reg (ops:List DOp) (keep:Option (List Nat))
 | regD (order:List Nat) (ops:List (DOp × List Nat)) (keep:Option (List Nat))
 | seq (a b:DC)
 | cond (c:Opd) (a b:DC)
 | block (id:Nat) (a:DC)
 | loop (a:DC)
 | rangeF (f:Opd) (params:List Nat) (assign body:DC)
 | exit (id:Nat)
 | ret
 | scope (a:DC)
 | label (id:Nat)
 | goto (id:Nat)
def Jl (P:Program) (t:TypeId):Option SK :=
 match P.underlying t with
 | some .bool=>some .bool
 | some (.int _)=>some .int
 | some .string=>some .str
 | _=>none
def QJ (P:Program):List Field→Option (List (Nat × SK))
 | []=>some []
 | f :: r=>if f.name = "_" then QJ P r else
  match Jl P f.type,QJ P r with
  | some k,some l=>some ((f.offset,k) :: l)
  | _,_=>none
def Zae (P:Program) (t:TypeId):Option Bool :=
 match P.underlying t with
 | some (.struct _) | some (.array _ _)=>some true
 | some _=>some false
 | none=>none
def YD (P:Program) (t:TypeId):Option Nat:=(P.info? t).map (·.size)
def ZdU:Operand→Bool
 | .const _=>true
 | _=>false
def Zep (P:Program) (t:TypeId) (x y:Operand):Option Zdt :=
 match P.underlying t with
 | some .bool=>some .bool
 | some (.slice _)=>some .sl
 | some (.map _ _)=>some .map
 | some (.func _ _ _)=>some .fn
 | some (.interface _)=>if ZdU x || ZdU y then some .ifc else none
 | some (.pointer _)=>some .ptr
 | some (.struct fs)=>if P.eqGuardType P.depth t || P.stoodInHeld t then none else (QJ P fs.toList).map .cells
 | some (.array n e) =>
  if P.eqGuardType P.depth t then none
  else match Jl P e,YD P e with
   | some k,some 1=>some (.cells ((List.range n).map (·,k)))
   | _,_=>none
 | _=>none
def ZfC (P:Program) (s:TypeId) (k:Nat):Option Field :=
 match P.underlying s with
 | some (.struct fs)=>fs[k]?
 | _=>none
def ZaL (P:Program) (t:TypeId):Option (List D) :=
 match P.info? t with
 | some i=>match i.zero with
  | some z=>Zbq z.cells.toList
  | none=>none
 | none=>none
def Zda (P:Program) (t:TypeId):Option D :=
 match P.info? t with
 | some i=>match i.zero with
  | some z=>Zkl z
  | none=>none
 | none=>none
def Q3 (P:Program) (t:TypeId):List Nat→Option (List (Nat × Nat))
 | []=>some []
 | k :: r =>
  match P.underlying t,Q3 P t r with
  | some (.struct fs),some l=>match fs[k]? with
   | some f=>(YD P f.type).map fun n=>(f.offset,n) :: l
   | none=>none
  | some (.array _ e),some l=>(YD P e).map fun n=>(k * n,n) :: l
  | _,_=>none
def Zh4 (P:Program) (t:TypeId):Bool :=
 match P.underlying t with
 | some (.struct fs)=>fs.toList.all fun f=>(YD P f.type).isSome
 | some (.array _ e)=>(YD P e).isSome
 | _=>false
def Zqg (P:Program) (s d:TypeId):Option Cv :=
 match P.underlying s,P.underlying d with
 | some (.int _),some (.int k)=>some (.int k)
 | some (.int _),some .string=>some .i2s
 | some .string,some .string=>some .str
 | some (.slice e),some .string=>match P.underlying e with
  | some (.int .u8)=>some .b2s
  | _=>none
 | _,_=>none
def Zaj (P:Program) (t:TypeId):Option KP :=
 match Jl P t with
 | some k=>some (.sc k)
 | none=>match P.underlying t,YD P t with
  | some (.struct fs),some n=>match QJ P fs.toList with
   | some l=>if l.map (·.1)=List.range n∧P.stoodInHeld t=false then some (.st l) else none
   | none=>none
  | _,_=>none
def Jq (x:Option Operand):List Operand:=x.toList
def cq (P:Program):Op→Option (Q × List Operand)
 | .move x | .assign x=>some (.mv,[x])
 | .load t a=>match Zae P t,YD P t with
  | some true,some n=>some (.loadN n,[a])
  | some false,some _=>some (.load1,[a])
  | _,_=>none
 | .nilCheck x=>some (.nilck,[x])
 | .binOp op t x y _=>some (.bin op (Zep P t x y),[x,y])
 | .unOp .not _ x=>some (.not,[x])
 | .unOp .neg _ x=>some (.neg,[x])
 | .unOp .xor _ x=>some (.xorm,[x])
 | .convert s d x=>(Zqg P s d).map fun c=>(.conv c,[x])
 | .fieldAddr s x k=>match ZfC P s k with
  | some f=>match YD P f.type with
   | some n=>if n=0 then none else some (.faddr f.offset,[x])
   | none=>none
  | none=>none
 | .field s x k=>match ZfC P s k with
  | some f=>match Zae P f.type,YD P f.type with
   | some true,some n=>some (.fldN f.offset n,[x])
   | some false,some _=>some (.fld1 f.offset,[x])
   | _,_=>none
  | none=>none
 | .indexAddr t x i=>match P.underlying t with
  | some (.slice e)=>(YD P e).map fun n=>(.iaddr n,[x,i])
  | some (.array m e)=>(YD P e).map fun n=>(.iaddrA m n,[x,i])
  | _=>none
 | .index t x i=>match P.underlying t with
  | some .string=>some (.idxS,[x,i])
  | some (.array m e)=>match Zae P e,YD P e with
   | some b,some n=>some (.idxA m n !b,[x,i])
   | _,_=>none
  | _=>none
 | .extract x k=>some (.ext k,[x])
 | .build t parts=>match (P.info? t).bind (·.zero),Q3 P t (parts.toList.map (·.1)) with
  | some z,some l=>if Zh4 P t then (Zbq z.cells.toList).map fun zs=>(.build zs l,parts.toList.map (·.2)) else none
  | _,_=>none
 | .makeFunc f first caps=>some (.mkfn f first.size,first.toList++caps.toList)
 | .makeInterface t x=>match P.underlying t with
  | some (.interface _)=>none
  | some _=>some (.mkif t,[x])
  | none=>none
 | .slice t x lo hi mx=>match P.underlying t with
  | some .string=>if mx.isSome then none else some (.sliceS lo.isSome hi.isSome,x :: (Jq lo++Jq hi))
  | some (.slice e)=>if mx.isSome && !hi.isSome then none else (YD P e).map fun n=>(.slice n lo.isSome hi.isSome mx.isSome,x :: (Jq lo++Jq hi++Jq mx))
  | some (.array m e)=>if mx.isSome && !hi.isSome then none else (YD P e).map fun n=>(.sliceA m n lo.isSome hi.isSome mx.isSome,x :: (Jq lo++Jq hi++Jq mx))
  | _=>none
 | .typeAssert x _ t ok=>match P.underlying t with
  | some (.interface _)=>none
  | some _=>(Zda P t).map fun z=>(.tassert t ok z,[x])
  | none=>none
 | .lookup t m k ok=>match P.underlying t with
  | some (.map kt e)=>match Zaj P kt,Zda P e with
   | some kp,some z=>some (.lookup kp z ok,[m,k])
   | _,_=>none
  | _=>none
 | .call c=>match c.callee with
  | .builtin .len=>match c.argTypes[0]?.bind P.underlying with
   | some .string=>if c.args.size=1 then some (.lenS,c.args.toList) else none
   | some (.slice _)=>if c.args.size=1 then some (.lenL,c.args.toList) else none
   | some (.array n _)=>if c.args.size=1 then some (.lenA n,c.args.toList) else none
   | some (.map _ _)=>if c.args.size=1 then some (.lenM,c.args.toList) else none
   | _=>none
  | .builtin .min=>if c.args.size=2 then some (.min,c.args.toList) else none
  | .builtin .max=>if c.args.size=2 then some (.max,c.args.toList) else none
  | _=>none
 | _=>none
end Go.DL
namespace Go.DL
open Go
variable [Znt]
inductive ZZ {α β:Type} (R:α→β→Prop):List α→List β→Prop where
 | nil:ZZ R [] []
 | cons {a b as9 bs} (h:R a b) (t:ZZ R as9 bs):ZZ R (a :: as9) (b :: bs)
theorem ZlV (k:IntKind) (n:Int):inR k (k.wrap n):=by
 unfold inR IntKind.wrap IntKind.min IntKind.max
 cases k <;> simp [IntKind.signed,IntKind.bits] <;> (try split) <;> omega
theorem ZcX (k:IntKind) (n:Int) (h:inR k n):k.wrap n=n:=by
 unfold inR IntKind.min IntKind.max at h
 unfold IntKind.wrap
 cases k <;> simp [IntKind.signed,IntKind.bits] at h ⊢ <;> (try split) <;> omega
theorem Qj (b o n:Nat):(⟨b,o,none⟩:Addr).add n=⟨b,o + n,none⟩:=by
 unfold Addr.add; split
 ·subst n; rfl
 ·rfl
theorem ZeP {P:Program} {t:TypeId} (h:Zae P t=some true) (w:World):(isAgg t).run P w = .ok true w:=by
 unfold Zae at h
 unfold isAgg
 split at h <;> simp_all [run_underlying]
theorem ZdG {P:Program} {t:TypeId} (h:Zae P t=some false) (w:World):(isAgg t).run P w = .ok false w:=by
 unfold Zae at h
 unfold isAgg
 split at h
 ·simp at h
 ·simp at h
 ·rename_i d h1 h2 hd
  simp only [Sem.run_bind,run_underlying hd,Result.andThen_ok]
  cases d <;> simp_all
 ·simp at h
theorem WX {P:Program} {t:TypeId} {n:Nat} (h:YD P t=some n) (w:World):(sizeOf t).run P w = .ok n w:=by
 unfold YD at h
 cases hi:P.info? t with
 | none=>simp [hi] at h
 | some i =>
  simp [hi] at h
  simp [sizeOf,typeInfo,hi,h]
theorem JH {g:G} {w:World} {s:St} (hS:Wo g s w) {b:Nat} {cs:List D} (h:YS s b=some cs):Kn g w b cs:=by
 unfold YS at h
 split at h <;> simp at h
 rename_i c hc
 subst h
 exact hS.obj b _ hc
theorem Zkf {g:G} {ν:Nat→Nat} {w:World} {L:Loc} (hL:∀ l cs,Zl L l=some cs→Kn g w (ν l) cs) {s:St} (hS:Wo g s w) {v:Value} {e:E} {d:D}
  (h:Z5 g ν w L v e) (hc:K3 L s e=some d):∃ b o x,v = .pointer (some ⟨b,o,none⟩)∧w.cell? ⟨b,o,none⟩=some x∧Rep g w x d∧x.one1=true:=by
 cases e with
 | d v' =>
  cases v' <;> simp only [K3] at hc <;> try (simp at hc; done)
  ·rename_i cs o
   cases h with
   | ep b o0 _ _ f h1 h2 h3 one =>
    have hlt:o < cs.length:=(List.getElem?_eq_some_iff.1 hc).1
    exact ⟨b,o0 + o,f o,rfl,h1 o hlt,h3 o d hc,one o hlt⟩
  ·rename_i b o
   split at hc <;> (try (simp at hc; done))
   rename_i cs hcs
   obtain ⟨_,vs,T,h1,h2,h4,h5⟩:=JH hS hcs
   cases h
   have hlt:o < cs.length:=(List.getElem?_eq_some_iff.1 hc).1
   have hv:vs[o]? = some (vs[o]'(by omega)):=Array.getElem?_eq_getElem (by omega)
   refine ⟨b,o,vs[o]'(by omega),rfl,?_,h4 o _ d hv hc,h5 _ (Array.getElem_mem _)⟩
   simp [World.cell?,h1,hv]
 | loc l o =>
  obtain ⟨⟨cs,hcs⟩,rfl⟩:=h
  simp only [K3,hcs] at hc
  obtain ⟨_,vs,T,h1,h2,h4,h5⟩:=hL l cs hcs
  have hlt:o < cs.length:=(List.getElem?_eq_some_iff.1 hc).1
  have hv:vs[o]? = some (vs[o]'(by omega)):=Array.getElem?_eq_getElem (by omega)
  refine ⟨ν l,o,vs[o]'(by omega),rfl,?_,h4 o _ d hv hc,h5 _ (Array.getElem_mem _)⟩
  simp [World.cell?,h1,hv]
 | when c e=>simp [K3] at hc
theorem Zen {P:Program} {g:G} {w:World} {b o n:Nat} {cs:List D} (h:Kn g w b cs) (hs:o + n≤cs.length) :
  ∃ vs:List Value,(loadCells ⟨b,o,none⟩ n).run P w = .ok vs.toArray w∧Rep g w (.agg vs.toArray) (.agg (part cs o n)):=by
 obtain ⟨_,vs,T,h1,h2,h4,h5⟩:=h
 refine ⟨(vs.toList.drop o).take n,?_,?_⟩
 ·have:=run_loadCells (P:=P) (w:=w) ⟨b,o,none⟩ n (fun i=>vs.getD (o + i) undef) (fun j hj=>by
   rw [Qj]; simp only [World.cell?,h1]
   have hj':o + j < vs.size:=by omega
   simp [Array.getD,hj'])
  rw [this]; congr 1
  apply Array.ext_getElem?
  intro i
  simp only [List.getElem?_toArray,List.getElem?_take,List.getElem?_drop,Array.getElem?_toList]
  by_cases hi':i < n
  ·have:o + i < vs.size:=by omega
   simp [hi',this]
  ·simp [hi']
 ·refine .agg _ _ (by simp [part]; omega) (fun i v d hv hd=>?_) (fun v hv=>?_)
  ·have hi:i < n:=by
    rcases Nat.lt_or_ge i n with h | h
    ·exact h
    ·simp [List.getElem?_take,Nat.not_lt.2 h] at hv
   simp only [List.getElem?_take,hi,if_true,List.getElem?_drop,Array.getElem?_toList,part] at hv hd
   exact h4 _ _ _ hv hd
  ·exact h5 v (by
    have:=List.mem_of_mem_drop (List.mem_of_mem_take hv)
    exact Array.mem_toList_iff.1 this)
theorem ZkP {P:Program} {g:G} {ν:Nat→Nat} {w:World} {L:Loc} (hL:∀ l cs,Zl L l=some cs→Kn g w (ν l) cs) {s:St} (hS:Wo g s w) {v:Value} {e:E} {n:Nat} {side:Prop} {ds:List D}
  (h:Z5 g ν w L v e) (hc:Qe L s n e=some (side,ds)) (hs:side) :
  ∃ a,v = .pointer (some a)∧∃ vs:List Value,(loadCells a n).run P w = .ok vs.toArray w∧Rep g w (.agg vs.toArray) (.agg ds):=by
 cases e with
 | d v' =>
  cases v' <;> simp only [Qe] at hc <;> try (simp at hc; done)
  ·rename_i cs o
   simp only [ZvD,ZvL] at hc
   obtain ⟨rfl,rfl⟩:=hc
   cases h with
   | ep b o0 _ _ f h1 h2 h3 one =>
    refine ⟨_,rfl,(List.range n).map (fun i=>f (o + i)),?_,?_⟩
    ·have:=run_loadCells (P:=P) (w:=w) ⟨b,o0 + o,none⟩ n (fun i=>f (o + i)) (fun j hj=>by
      rw [Qj,Nat.add_assoc]; exact h1 _ (by omega))
     rw [this]
    ·refine .agg _ _ (by simp [part]; omega) (fun i v d hv hd=>?_) (fun v hv=>?_)
     ·simp only [List.getElem?_map] at hv
      have hi:i < n:=by
       rcases Nat.lt_or_ge i n with h | h
       ·exact h
       ·simp [List.getElem?_eq_none (l:=List.range n) (by simpa using h)] at hv
      simp [List.getElem?_range hi] at hv
      subst hv
      refine h3 _ _ ?_
      simpa [part,List.getElem?_take,List.getElem?_drop,hi] using hd
     ·simp only [List.mem_map,List.mem_range] at hv
      obtain ⟨i,hi,rfl⟩:=hv
      exact one _ (by omega)
  ·rename_i b o
   split at hc <;> (try (simp at hc; done))
   rename_i cs hcs
   simp only [ZvD,ZvL] at hc
   obtain ⟨rfl,rfl⟩:=hc
   cases h
   obtain ⟨vs,h1,h2⟩:=Zen (P:=P) (JH hS hcs) hs
   exact ⟨_,rfl,vs,h1,h2⟩
 | loc l o =>
  obtain ⟨⟨cs,hcs⟩,rfl⟩:=h
  simp only [Qe,hcs,ZvD,ZvL] at hc
  obtain ⟨rfl,rfl⟩:=hc
  obtain ⟨vs,h1,h2⟩:=Zen (P:=P) (hL l cs hcs) hs
  exact ⟨_,rfl,vs,h1,h2⟩
 | when c e=>simp [Qe] at hc
end Go.DL
namespace Go.DL
open Go
variable [Znt]
theorem QK {n:Nat} (h:n≤big):inR .i64 (n:Int):=by
 unfold big at h; unfold inR IntKind.min IntKind.max; simp [IntKind.signed,IntKind.bits]; omega
theorem Zod (b:UInt8):inR .u8 (b.toNat:Int):=by
 unfold inR IntKind.min IntKind.max; simp [IntKind.signed,IntKind.bits]; have:=b.toNat_lt; omega
theorem ZtP {P:Program} {g:G} {w:World} {op:BinOp} {k:IntKind} {a b:Int} {side:Prop} {d:D} (hq:Jy op k a b=some (side,d)) (hs:side) :
  ∃ v,(match op with
   | .add | .sub | .mul=>Op.intArith op k a b
   | .quo | .rem=>Op.intDiv op k a b
   | .and | .or | .xor | .andNot=>Op.intBits op k a b
   | _=>Op.intCmp op a b).run P w = .ok v w∧Rep g w v d:=by
 cases op <;> simp only [Jy,ZvD,ZvL,reduceCtorEq] at hq
 all_goals obtain ⟨rfl,rfl⟩:=hq
 case add=>exact ⟨_,by simp only [Op.intArith,Sem.run_pure]; rfl,by rw [ZcX _ _ hs]; exact .int _ _ hs⟩
 case sub=>exact ⟨_,by simp only [Op.intArith,Sem.run_pure]; rfl,by rw [ZcX _ _ hs]; exact .int _ _ hs⟩
 case mul=>exact ⟨_,by simp only [Op.intArith,Sem.run_pure]; rfl,by rw [ZcX _ _ hs]; exact .int _ _ hs⟩
 case quo=>exact ⟨_,by simp only [Op.intDiv,hs.1,if_false,Sem.run_pure]; rfl,by rw [ZcX _ _ hs.2]; exact .int _ _ hs.2⟩
 case rem=>exact ⟨_,by simp only [Op.intDiv,hs.1,if_false,Sem.run_pure],.int _ _ hs.2⟩
 case eql=>exact ⟨_,by simp only [Op.intCmp,Sem.run_pure]; rfl,.bool _⟩
 case neq=>exact ⟨_,by simp only [Op.intCmp,Sem.run_pure]; rfl,.bool _⟩
 case lss=>exact ⟨_,by simp only [Op.intCmp,Sem.run_pure],.bool _⟩
 case leq=>exact ⟨_,by simp only [Op.intCmp,Sem.run_pure],.bool _⟩
 case gtr=>exact ⟨_,by simp only [Op.intCmp,Sem.run_pure],.bool _⟩
 case geq=>exact ⟨_,by simp only [Op.intCmp,Sem.run_pure],.bool _⟩
 all_goals exact ⟨_,by simp only [Op.intBits,Sem.run_pure]; rfl,.int _ _ (ZlV _ _)⟩
theorem ZcV {s:ByteArray} {l:List UInt8} (h:s.data.toList=l):s.toList=l:=by rw [ByteArray.toList_eq,h]
theorem ZtQ {P:Program} {g:G} {w:World} {op:BinOp} {s1 s2:ByteArray} {a b:List UInt8} (h1:s1.data.toList=a) (h2:s2.data.toList=b)
  {side:Prop} {d:D} (hq:Zdw op a b=some (side,d)) (hs:side) :
  ∃ v,(Op.stringOp op s1 s2).run P w = .ok v w∧Rep g w v d:=by
 have e1:=ZcV h1
 have e2:=ZcV h2
 cases op <;> simp only [Zdw,ZvD,ZvL,reduceCtorEq] at hq
 all_goals obtain ⟨rfl,rfl⟩:=hq
 case add =>
  have hz1:s1.size=a.length:=by rw [← h1]; rfl
  have hz2:s2.size=b.length:=by rw [← h2]; rfl
  refine ⟨.string (s1++s2),?_,.str _ _ ?_ (by simpa using hs)⟩
  ·unfold big at hs
   simp only [Op.stringOp,hz1,hz2,Sem.run_ite]
   rw [if_neg (by simp [IntKind.max,IntKind.signed,IntKind.bits]; omega)]; rfl
  ·simp [← h1,← h2]
 all_goals simp only [Op.stringOp,Sem.run_pure,e1,e2]
 all_goals have hb:(a == b)=decide (a=b):=by rw [Bool.eq_iff_iff]; simp
 all_goals try simp only [hb]
 all_goals exact ⟨_,rfl,.bool _⟩
theorem Zfn {P:Program} {g:G} {w:World} {t:TypeId} {sk:SK} (ht:Jl P t=some sk) {v1 v2:Value} {x y:D} (h1:Rep g w v1 x) (h2:Rep g w v2 y) {b:Bool}
  (hq:Wg sk x y=some b) (n:Nat):(Op.equalIn (n + 1) t v1 v2).run P w = .ok b w:=by
 unfold Jl at ht
 cases sk
 ·obtain ⟨k0,hk0⟩:∃ k0,P.underlying t=some (.int k0):=by split at ht <;> simp_all
  cases h1 <;> cases h2 <;> simp only [Wg,reduceCtorEq] at hq
  split at hq
  ·rename_i k a ha k' b' hb' hk
   simp only [ZvD] at hq
   subst hq; subst hk
   rw [run_equalIn_int w n t _ _ _ _ hk0]; rfl
  ·simp at hq
 ·have hk0:P.underlying t=some .string:=by split at ht <;> simp_all
  cases h1 <;> cases h2 <;> simp only [Wg,reduceCtorEq,ZvD] at hq
  rename_i s1 l1 e1 _ s2 l2 e2 _
  subst hq
  rw [run_equalIn_string w n t _ _ hk0,ZcV e1,ZcV e2]
  congr 1; rw [Bool.eq_iff_iff]; simp
 ·have hk0:P.underlying t=some .bool:=by split at ht <;> simp_all
  cases h1 <;> cases h2 <;> simp only [Wg,reduceCtorEq,ZvD] at hq
  subst hq
  rw [run_equalIn_bool' w n t _ _ hk0]; rfl
theorem Zbx {P:Program} {t:TypeId} {k:SK} (h:Jl P t=some k):Zae P t=some false:=by
 unfold Jl at h; unfold Zae
 split at h <;> simp_all
theorem ZcS {P:Program} {w:World} {t:TypeId} (h:Zae P t=some false) {cs:Array Value} {o:Nat} {v:Value} (hv:cs[o]? = some v) :
  (Go.part t cs o).run P w = .ok v w:=by
 simp [Go.part,ZdG h,hv]
theorem ZbR {g:G} {w:World} {vs:List Value} {ds:List D} (hn:vs.length=ds.length) (h:∀ (i:Nat) (v:Value) (d:D),vs[i]? = some v→ds[i]? = some d→Rep g w v d)
  {o:Nat} {d:D} (hd:ds[o]? = some d):∃ v,vs[o]? = some v∧Rep g w v d:=by
 have hlt:o < ds.length:=(List.getElem?_eq_some_iff.1 hd).1
 exact ⟨vs[o]'(by omega),List.getElem?_eq_getElem _,h o _ d (List.getElem?_eq_getElem _) hd⟩
theorem Zc1 {P:Program} {g:G} {w:World} {v1 v2:List Value} {xs ys:List D} (hn1:v1.length=xs.length) (hn2:v2.length=ys.length)
  (h1:∀ (i:Nat) (v:Value) (d:D),v1[i]? = some v→xs[i]? = some d→Rep g w v d) (h2:∀ (i:Nat) (v:Value) (d:D),v2[i]? = some v→ys[i]? = some d→Rep g w v d) (n:Nat) :
  ∀ (fs:List Field) (l:List (Nat × SK)) (b:Bool),QJ P fs=some l→KN xs ys l=some b →
   (Op.eqFields (n + 1) v1.toArray v2.toArray fs).run P w = .ok b w
 | [],l,b,hl,hb=>by
  simp only [QJ,ZvD] at hl
  subst hl
  simp only [KN,ZvD] at hb
  subst hb
  simp [Op.eqFields]
 | f :: fs,l,b,hl,hb=>by
  simp only [QJ] at hl
  by_cases hf:f.name = "_"
  ·simp only [hf,if_true] at hl
   have:=Zc1 hn1 hn2 h1 h2 n fs l b hl hb
   simp only [Op.eqFields,hf,ne_eq,not_true_eq_false,if_false]
   exact this
  ·simp only [hf,if_false] at hl
   split at hl
   ·rename_i k l' hk hl'
    simp only [ZvD] at hl
    subst hl
    simp only [KN] at hb
    split at hb
    ·rename_i x y hx hy
     split at hb
     ·rename_i b1 b2 hb1 hb2
      simp only [ZvD] at hb
      obtain ⟨u1,hu1,r1⟩:=ZbR hn1 h1 hx
      obtain ⟨u2,hu2,r2⟩:=ZbR hn2 h2 hy
      have ih:=Zc1 hn1 hn2 h1 h2 n fs l' b2 hl' hb2
      have he:=Zfn (P:=P) hk r1 r2 hb1 n
      simp only [Op.eqFields,ne_eq,hf,not_false_eq_true,if_true,Sem.run_bind]
      rw [ZcS (Zbx hk) (v:=u1) (by simpa using hu1)]
      simp only [Result.andThen_ok]
      rw [ZcS (Zbx hk) (v:=u2) (by simpa using hu2)]
      simp only [Result.andThen_ok,he]
      subst hb
      cases b1
      ·simp
      ·simpa using ih
     ·simp at hb
    ·simp at hb
   ·simp at hl
end Go.DL
namespace Go.DL
open Go
variable [Znt]
theorem Zkp {P:Program} {g:G} {w:World} {v1 v2:List Value} {xs ys:List D} (hn1:v1.length=xs.length) (hn2:v2.length=ys.length)
  (h1:∀ (i:Nat) (v:Value) (d:D),v1[i]? = some v→xs[i]? = some d→Rep g w v d) (h2:∀ (i:Nat) (v:Value) (d:D),v2[i]? = some v→ys[i]? = some d→Rep g w v d) (n:Nat)
  {e:TypeId} {k:SK} (hk:Jl P e=some k) :
  ∀ (is:List Nat) (b:Bool),KN xs ys (is.map (·,k))=some b→(Op.eqItems (n + 1) e 1 v1.toArray v2.toArray is).run P w = .ok b w
 | [],b,hb=>by
  simp only [List.map_nil,KN,ZvD] at hb
  subst hb; simp [Op.eqItems]
 | i :: is,b,hb=>by
  simp only [List.map_cons,KN] at hb
  split at hb
  ·rename_i x y hx hy
   split at hb
   ·rename_i b1 b2 hb1 hb2
    simp only [ZvD] at hb
    obtain ⟨u1,hu1,r1⟩:=ZbR hn1 h1 hx
    obtain ⟨u2,hu2,r2⟩:=ZbR hn2 h2 hy
    have ih:=Zkp hn1 hn2 h1 h2 n hk is b2 hb2
    have he:=Zfn (P:=P) hk r1 r2 hb1 n
    simp only [Op.eqItems,Nat.mul_one,Sem.run_bind]
    rw [ZcS (Zbx hk) (v:=u1) (by simpa using hu1)]
    simp only [Result.andThen_ok]
    rw [ZcS (Zbx hk) (v:=u2) (by simpa using hu2)]
    simp only [Result.andThen_ok,he]
    subst hb
    cases b1
    ·simp
    ·simpa using ih
   ·simp at hb
  ·simp at hb
theorem ZbP {P:Program} {w:World} {t:TypeId} {v1 v2:Value} {b:Bool} (h:∀ n,(Op.equalIn (n + 1) t v1 v2).run P w = .ok b w):(Op.equal t v1 v2).run P w = .ok b w:=h 9999
theorem Zmq {P:Program} {g:G} {w:World} {t:TypeId} {x y:Operand} {p:Zdt} (hp:Zep P t x y=some p) {v1 v2:Value} {d1 d2:D} (h1:Rep g w v1 d1) (h2:Rep g w v2 d2)
  {side:Prop} {b:Bool} (hq:WV p d1 d2=some (side,b)) (hs:side) :
  (Op.equal t v1 v2).run P w = .ok b w∧(eqGuard .eql t x y v1 v2).run P w = .ok () w∧(eqGuard .neq t x y v1 v2).run P w = .ok () w:=by
 unfold Zep at hp
 split at hp <;> (try (simp at hp; done))
 ·
  rename_i hu
  simp only [ZvD] at hp; subst hp
  cases h1 <;> cases h2 <;> simp only [WV,reduceCtorEq,ZvD,ZvL] at hq
  obtain ⟨rfl,rfl⟩:=hq
  exact ⟨ZbP fun n=>by rw [run_equalIn_bool w _ t _ _ hu]; rfl,rfl,rfl⟩
 ·rename_i e hu
  simp only [ZvD] at hp; subst hp
  cases h1 <;> cases h2 <;> simp only [WV,reduceCtorEq,ZvD,ZvL] at hq
  all_goals obtain ⟨rfl,rfl⟩:=hq
  all_goals first
   | exact absurd hs (by omega)
   | exact ⟨ZbP fun n=>by simp [Op.equalIn,run_underlying hu],rfl,rfl⟩
 ·rename_i k e hu
  simp only [ZvD] at hp; subst hp
  cases h1 <;> cases h2 <;> simp only [WV,reduceCtorEq,ZvD,ZvL] at hq
  all_goals obtain ⟨rfl,rfl⟩:=hq
  all_goals exact ⟨ZbP fun n=>by simp [Op.equalIn,run_underlying hu],rfl,rfl⟩
 ·rename_i a b c hu
  simp only [ZvD] at hp; subst hp
  cases h1 <;> cases h2 <;> simp only [WV,reduceCtorEq,ZvD,ZvL] at hq
  all_goals obtain ⟨rfl,rfl⟩:=hq
  all_goals exact ⟨ZbP fun n=>by simp [Op.equalIn,run_underlying hu],rfl,rfl⟩
 ·rename_i ms hu
  split at hp
  ·rename_i hc
   simp only [ZvD] at hp; subst hp
   have hc':ZdU x=true∨ZdU y=true:=by simpa using hc
   have hg:∀ op,(eqGuard op t x y .nilIface .nilIface).run P w = .ok () w:=fun op=>by
    rcases hc' with h | h
    ·cases x <;> simp [ZdU] at h
     cases op <;> simp [eqGuard]
    ·cases y <;> simp [ZdU] at h
     cases op <;> simp [eqGuard]
   cases h1 <;> cases h2 <;> simp only [WV,reduceCtorEq,ZvD,ZvL] at hq
   all_goals obtain ⟨rfl,rfl⟩:=hq
   all_goals first
    | exact ⟨ZbP fun n=>by simp [Op.equalIn,run_underlying hu],rfl,rfl⟩
    | exact ⟨ZbP fun n=>by simp [Op.equalIn,run_underlying hu],hg _,hg _⟩
  ·simp at hp
 ·rename_i e hu
  simp only [ZvD] at hp; subst hp
  cases h1 <;> cases h2 <;> simp only [WV,reduceCtorEq,ZvD,ZvL] at hq
  all_goals obtain ⟨rfl,rfl⟩:=hq
  all_goals exact ⟨ZbP fun n=>by simp [Op.equalIn,run_underlying hu],rfl,rfl⟩
 ·rename_i fs hu
  split at hp
  ·simp at hp
  ·rename_i hgs
   have hg1:P.eqGuardType P.depth t=false:=by simp at hgs; exact hgs.1
   have hg2:P.stoodInHeld t=false:=by simp at hgs; exact hgs.2
   simp only [ZvO] at hp
   obtain ⟨l,hl,rfl⟩:=hp
   cases h1 <;> cases h2 <;> simp only [WV,reduceCtorEq,ZvO] at hq
   rename_i v1 xs hn1 r1 o1 v2 ys hn2 r2 o2
   obtain ⟨b',hb,hq⟩:=hq
   simp only [ZvL] at hq
   obtain ⟨rfl,rfl⟩:=hq
   have hf:P.underlying t=some (.struct (P.fieldsOf t)):=by simp [Program.fieldsOf,hu]
   refine ⟨?_,run_eqGuard_agg w _ t x y _ _ hg1,run_eqGuard_agg w _ t x y _ _ hg1⟩
   refine (run_equalIn_struct w 9999 t _ _ hf hg2).trans ?_
   simp only [Program.fieldsOf,hu]
   exact Zc1 hn1 hn2 r1 r2 9998 _ l b' hl hb
 ·rename_i n e hu
  split at hp
  ·simp at hp
  ·rename_i hg1
   split at hp
   ·rename_i k hk hsz
    simp only [ZvD] at hp; subst hp
    cases h1 <;> cases h2 <;> simp only [WV,reduceCtorEq,ZvO] at hq
    rename_i v1 xs hn1 r1 o1 v2 ys hn2 r2 o2
    obtain ⟨b',hb,hq⟩:=hq
    simp only [ZvL] at hq
    obtain ⟨rfl,rfl⟩:=hq
    have hg1':P.eqGuardType P.depth t=false:=by simpa using hg1
    refine ⟨?_,run_eqGuard_agg w _ t x y _ _ hg1',run_eqGuard_agg w _ t x y _ _ hg1'⟩
    unfold YD at hsz
    cases hi:P.info? e with
    | none=>simp [hi] at hsz
    | some i =>
     simp only [hi,Option.map_some,ZvD] at hsz
     refine (run_equalIn_array w 9999 _ _ hu hi).trans ?_
     have hce:P.cellsOf e=1:=by simp [Program.cellsOf,hi,hsz]
     rw [hce]
     exact Zkp hn1 hn2 r1 r2 9998 hk _ _ hb
   ·simp at hp
theorem ZtO {P:Program} {g:G} {w:World} {op:BinOp} {t:TypeId} {x y:Operand} {v1 v2:Value} {d1 d2 d:D} (h1:Rep g w v1 d1) (h2:Rep g w v2 d2)
  {side:Prop} (hq:Zaw op (Zep P t x y) d1 d2=some (side,d)) (hs:side) :
  ∃ v,(do eqGuard op t x y v1 v2; binOp op t v1 v2).run P w = .ok v w∧Rep g w v d:=by
 by_cases hi:∃ k a,d1 = .int k a
 ·obtain ⟨k,a,rfl⟩:=hi
  cases h1
  rename_i ha
  have hg:(eqGuard op t x y (.int k a) v2).run P w = .ok () w:=by cases op <;> rfl
  by_cases hi2:∃ k' b,d2 = .int k' b
  ·obtain ⟨k',b,rfl⟩:=hi2
   cases h2
   rename_i hb
   simp only [Sem.run_bind,hg,Result.andThen_ok]
   by_cases hop:op = .shl∨op = .shr
   ·rcases hop with rfl | rfl
    ·simp only [Zaw,ZvD,ZvL] at hq
     obtain ⟨rfl,rfl⟩:=hq
     refine ⟨.int k (ZjP k a b),?_,.int _ _ hs.2⟩
     simp only [binOp,Op.shift,Int.not_lt.2 hs.1,if_false]
     rw [show k.wrap (a * 2 ^ min b.toNat k.bits)=ZjP k a b from ZcX _ _ hs.2]; rfl
    ·simp only [Zaw,ZvD,ZvL] at hq
     obtain ⟨rfl,rfl⟩:=hq
     refine ⟨.int k (ZqZ k a b),?_,.int _ _ hs.2⟩
     simp only [binOp,Op.shift,Int.not_lt.2 hs.1,if_false]
     rfl
   ·have hq':(if k=k' then Jy op k a b else none)=some (side,d):=by
     cases op <;> first | (simp only [Zaw] at hq; exact hq) | simp at hop
    split at hq'
    ·rename_i hk
     subst hk
     obtain ⟨v,hv,r⟩:=ZtP (P:=P) (g:=g) (w:=w) hq' hs
     refine ⟨v,?_,r⟩
     rw [← hv]
     cases op <;> first | (simp at hop; done) | (simp [binOp])
    ·simp at hq'
  ·have hq':eqO op (Zep P t x y) (.int k a) d2=some (side,d):=by
    cases d2 <;> first | (simp only [Zaw] at hq; exact hq) | (exact absurd ⟨_,_,rfl⟩ hi2)
   unfold eqO at hq'
   split at hq' <;> simp [WV] at hq'
 ·by_cases hst:∃ a,d1 = .str a
  ·obtain ⟨a,rfl⟩:=hst
   cases h1
   rename_i s1 e1 b1
   have hg:(eqGuard op t x y (.string s1) v2).run P w = .ok () w:=by cases op <;> rfl
   by_cases hst2:∃ b,d2 = .str b
   ·obtain ⟨b,rfl⟩:=hst2
    cases h2
    rename_i s2 e2 b2
    simp only [Sem.run_bind,hg,Result.andThen_ok]
    obtain ⟨v,hv,r⟩:=ZtQ (P:=P) (g:=g) (w:=w) (op:=op) e1 e2 (by simpa [Zaw] using hq) hs
    refine ⟨v,?_,r⟩
    rw [← hv]
    cases op <;> simp [binOp]
   ·have hq':eqO op (Zep P t x y) (.str a) d2=some (side,d):=by
     cases d2 <;> first | (simp only [Zaw] at hq; exact hq) | (exact absurd ⟨_,rfl⟩ hst2)
    unfold eqO at hq'
    split at hq' <;> simp [WV] at hq'
  ·have hq':eqO op (Zep P t x y) d1 d2=some (side,d):=by
    cases d1 <;> first | (simp only [Zaw] at hq; exact hq) | (exact absurd ⟨_,_,rfl⟩ hi) | (exact absurd ⟨_,rfl⟩ hst)
   unfold eqO at hq'
   split at hq'
   ·rename_i p hp
    simp only [ZvO] at hq'
    obtain ⟨⟨s',b⟩,hb,hq'⟩:=hq'
    simp only [ZvL] at hq'
    obtain ⟨rfl,rfl⟩:=hq'
    obtain ⟨he,hg,_⟩:=Zmq hp h1 h2 hb hs
    refine ⟨.bool b,?_,.bool _⟩
    simp only [Sem.run_bind,hg,Result.andThen_ok]
    cases h1 <;> first
     | (exact absurd ⟨_,_,rfl⟩ hi)
     | (exact absurd ⟨_,rfl⟩ hst)
     | (cases h2 <;> first | (simp [binOp,he]; done) | (cases p <;> simp [WV] at hb; done))
   ·rename_i p hp
    simp only [ZvO] at hq'
    obtain ⟨⟨s',b⟩,hb,hq'⟩:=hq'
    simp only [ZvL] at hq'
    obtain ⟨rfl,rfl⟩:=hq'
    obtain ⟨he,_,hg⟩:=Zmq hp h1 h2 hb hs
    refine ⟨.bool (!b),?_,.bool _⟩
    simp only [Sem.run_bind,hg,Result.andThen_ok]
    cases h1 <;> first
     | (exact absurd ⟨_,_,rfl⟩ hi)
     | (exact absurd ⟨_,rfl⟩ hst)
     | (cases h2 <;> first | (simp [binOp,he]; done) | (cases p <;> simp [WV] at hb; done))
   ·simp at hq'
end Go.DL
namespace Go.DL
open Go
variable [Znt]
def ZsD (P:Program) (g:G) (ν:Nat→Nat) (w:World) (L:Loc) (s:Sem Value) (e:E):Prop:=∃ v,s.run P w = .ok v w∧Z5 g ν w L v e
theorem ZsD.next {P:Program} {g:G} {ν:Nat→Nat} {w:World} {L:Loc} {s:Sem Value} {e:E} (h:ZsD P g ν w L s e) :
  ∃ v,(do pure (Next.value (← s)):Sem Next).run P w = .ok (.value v) w∧Z5 g ν w L v e:=by
 obtain ⟨v,h1,h2⟩:=h
 exact ⟨v,by simp [h1],h2⟩
section
variable {P:Program} {g:G} {ν:Nat→Nat} {w:World} {L:Loc}
theorem QU:∀ {vs:List Value} {es:List E} {ds:List D},ZZ (Z5 g ν w L) vs es→K4 es=some ds→ZZ (Rep g w) vs ds
 | _,_,ds,.nil,hd=>by simp only [K4,ZvD] at hd; subst hd; exact .nil
 | _,_,ds,.cons (b:=e) h t,hd=>by
  cases e with
  | d x =>
   simp only [K4,ZvO] at hd
   obtain ⟨ds',hd',rfl⟩:=hd
   exact .cons h (QU t hd')
  | loc l o=>simp [K4] at hd
  | when c e=>simp [K4] at hd
theorem ZZ.len {α β:Type} {R:α→β→Prop} {as9:List α} {bs:List β} (h:ZZ R as9 bs):as9.length=bs.length:=by
 induction h with
 | nil=>rfl
 | cons _ _ ih=>simp [ih]
theorem ZZ.get {α β:Type} {R:α→β→Prop} {as9:List α} {bs:List β} (h:ZZ R as9 bs):∀ (i:Nat) (a:α) (b:β),as9[i]? = some a→bs[i]? = some b→R a b:=by
 induction h with
 | nil=>intro i a b ha; simp at ha
 | cons h _ ih =>
  intro i a b ha hb
  cases i with
  | zero=>simp at ha hb; subst ha; subst hb; exact h
  | succ i=>simp at ha hb; exact ih i a b ha hb
theorem ZZ.take {α β:Type} {R:α→β→Prop} {as9:List α} {bs:List β} (h:ZZ R as9 bs):∀ n,ZZ R (as9.take n) (bs.take n):=by
 induction h with
 | nil=>intro n; simp; exact .nil
 | cons h _ ih=>intro n; cases n with
  | zero=>exact .nil
  | succ n=>exact .cons h (ih n)
theorem ZZ.drop {α β:Type} {R:α→β→Prop} {as9:List α} {bs:List β} (h:ZZ R as9 bs):∀ n,ZZ R (as9.drop n) (bs.drop n):=by
 induction h with
 | nil=>intro n; simp; exact .nil
 | cons h t ih=>intro n; cases n with
  | zero=>exact .cons h t
  | succ n=>exact ih n
theorem ZZ.append {α β:Type} {R:α→β→Prop} {as9 as':List α} {bs bs':List β} (h:ZZ R as9 bs) (h':ZZ R as' bs'):ZZ R (as9++as') (bs++bs'):=by
 induction h with
 | nil=>exact h'
 | cons h _ ih=>exact .cons h ih
theorem Zdl {v:Value} {d:D} (h:Rep g w v d) (ho:Qi d=true):v.cells.size=(cellsOf d).length∧(∀ (i:Nat) (x:Value) (y:D),v.cells.toList[i]? = some x→(cellsOf d)[i]? = some y→Rep g w x y):=by
 cases h with
 | agg vs cells hn h one=>exact ⟨by simpa [Value.cells,cellsOf] using hn,by simpa [Value.cells,cellsOf] using h⟩
 | any v=>simp [Qi] at ho
 | _ =>
  refine ⟨by simp [Value.cells,cellsOf,Go.undef],fun i x y hx hy=>?_⟩
  simp only [Value.cells,cellsOf,Go.undef] at hx hy
  cases i with
  | zero =>
   simp at hx hy
   subst hx; subst hy
   first | assumption | constructor <;> assumption | constructor
  | succ i=>simp at hx
end
end Go.DL
namespace Go.DL
open Go
variable [Znt]
section
variable {P:Program} {g:G} {ν:Nat→Nat} {w:World} {L:Loc}
theorem ZfP {v:Value} {d:D} (h:Rep g w v d) (ho:Qi d=true):∀ x∈v.cells,x.one1=true:=by
 cases h with
 | agg vs cells hn h one=>simpa [Value.cells] using one
 | _=>first
  | (simp [Qi] at ho; done)
  | (intro x hx; simp [Value.cells] at hx; subst hx; rfl)
theorem Zmc:∀ (l:List Value) (k off:Nat) (cs:Array Value),off + k + l.length≤cs.size →
  ((l.zipIdx k).foldl (fun (cs:Array Value) (x:Value × Nat)=>cs.setIfInBounds (off + x.2) x.1) cs).toList=cs.toList.take (off + k)++l++cs.toList.drop (off + k + l.length)
 | [],k,off,cs,h=>by simp
 | v :: l,k,off,cs,h=>by
  simp only [Zv0] at h
  simp only [List.zipIdx_cons,List.foldl_cons]
  rw [Zmc l (k + 1) off _ (by simp; omega)]
  simp only [Array.toList_setIfInBounds,Zv0]
  apply List.ext_getElem?
  intro i
  simp only [List.getElem?_append,List.getElem?_take,List.getElem?_drop,List.getElem?_set,ZvT,List.length_take,List.length_set,Array.length_toList,Zv0]
  by_cases h1:i < off + k
  ·simp only [show i < min (off + (k + 1)) cs.size + l.length from by omega,show i < min (off + (k + 1)) cs.size from by omega,show i < min (off + k) cs.size + (l.length + 1) from by omega,
    show i < min (off + k) cs.size from by omega,if_true,show i < off + (k + 1) from by omega,h1,show ¬ off + k=i from by omega,if_false]
  ·by_cases h2:i=off + k
   ·subst h2
    simp only [show off + k < min (off + (k + 1)) cs.size + l.length from by omega,show off + k < min (off + (k + 1)) cs.size from by omega,show off + k < min (off + k) cs.size + (l.length + 1) from by omega,
     show ¬ off + k < min (off + k) cs.size from by omega,if_true,if_false,show off + k < off + (k + 1) from by omega,show off + k < cs.size from by omega]
    rw [show off + k - min (off + k) cs.size=0 from by omega]; rfl
   ·by_cases h3:i < off + k + (l.length + 1)
    ·simp only [show i < min (off + (k + 1)) cs.size + l.length from by omega,show ¬ i < min (off + (k + 1)) cs.size from by omega,show i < min (off + k) cs.size + (l.length + 1) from by omega,
      show ¬ i < min (off + k) cs.size from by omega,if_true,if_false]
     rw [show i - min (off + k) cs.size=(i - min (off + (k + 1)) cs.size) + 1 from by omega]; rfl
    ·simp only [show ¬ i < min (off + (k + 1)) cs.size + l.length from by omega,show ¬ i < min (off + k) cs.size + (l.length + 1) from by omega,if_false]
     rw [show off + (k + 1) + l.length + (i - (min (off + (k + 1)) cs.size + l.length))=i from by omega,show off + k + (l.length + 1) + (i - (min (off + k) cs.size + (l.length + 1)))=i from by omega]
     simp [show ¬ off + k=i from by omega]
theorem Wa {α β:Type} {R:α→β→Prop}:∀ {as9:List α} {bs:List β},as9.length=bs.length→(∀ (i:Nat) (a:α) (b:β),as9[i]? = some a→bs[i]? = some b→R a b)→ZZ R as9 bs
 | [],[],_,_=>.nil
 | a :: as9,b :: bs,hn,h=>.cons (h 0 a b rfl rfl) (Wa (by simpa using hn) (fun i x y hx hy=>h (i + 1) x y (by simpa using hx) (by simpa using hy)))
 | [],_ :: _,hn,_=>by simp at hn
 | _ :: _,[],hn,_=>by simp at hn
theorem ZfD (place:Nat→Option (Nat × Nat)):∀ (parts:List (Nat × Value)) (pl:List (Nat × Nat)) (ds cs cells:List D) (cv:Array Value),
  (∀ (i:Nat) (x:Nat × Value) (q:Nat × Nat),parts[i]? = some x→pl[i]? = some q→place x.1=some q)→parts.length=pl.length→ZZ (Rep g w) (parts.map (·.2)) ds →
  ZZ (Rep g w) cv.toList cells→(∀ v∈cv,v.one1=true)→Za8 cells pl ds=some cs →
  ∃ cv',Instr.fill place cv parts=some cv'∧ZZ (Rep g w) cv'.toList cs∧∀ v∈cv',v.one1=true
 | [],[],ds,cs,cells,cv,_,_,hd,hc,ho,hf=>by
  cases hd
  simp only [Za8,ZvD] at hf
  subst hf
  exact ⟨cv,rfl,hc,ho⟩
 | x :: parts,q :: pl,ds,cs,cells,cv,hpl,hn,hd,hc,ho,hf=>by
  obtain ⟨i,v⟩:=x
  obtain ⟨o,n⟩:=q
  cases hd with
  | cons hv hd =>
   rename_i d ds
   simp only [Za8] at hf
   split at hf
   ·rename_i hcond
    obtain ⟨h0,h1,h2⟩:=hcond
    have hp:=hpl 0 _ _ rfl rfl
    obtain ⟨hsz,hcell⟩:=Zdl hv h0
    have hlen:=hc.len
    have hfold:=Zmc v.cells.toList 0 o cv (by simp [hsz,h1]; simp at hlen; omega)
    simp only [Nat.add_zero,Array.length_toList,hsz,h1] at hfold
    have ha:ZZ (Rep g w) (v.cells.toList) (cellsOf d):=Wa (by simpa using hsz) hcell
    generalize hcv2:(v.cells.toList.zipIdx 0).foldl (fun (cs:Array Value) (x:Value × Nat)=>cs.setIfInBounds (o + x.2) x.1) cv=cv2 at hfold
    have hrep:ZZ (Rep g w) cv2.toList (ZC cells o (cellsOf d)):=by
     rw [hfold]; unfold ZC; rw [h1]
     exact ((hc.take o).append ha).append (hc.drop (o + n))
    have hone:∀ x∈cv2,x.one1=true:=fun x hx=>by
     have hx':x∈cv2.toList:=Array.mem_toList_iff.2 hx
     rw [hfold] at hx'
     simp only [List.mem_append] at hx'
     rcases hx' with (hx' | hx') | hx'
     ·exact ho x (Array.mem_toList_iff.1 (List.mem_of_mem_take hx'))
     ·exact ZfP hv h0 x (Array.mem_toList_iff.1 hx')
     ·exact ho x (Array.mem_toList_iff.1 (List.mem_of_mem_drop hx'))
    obtain ⟨cv',hf',r1,r2⟩:=ZfD place parts pl ds cs _ cv2 (fun i x q hx hq=>hpl (i + 1) x q (by simpa using hx) (by simpa using hq)) (by simpa using hn) hd hrep hone hf
    refine ⟨cv',?_,r1,r2⟩
    simp only [Instr.fill,hp,hsz,h1]
    have:¬ (n≠n || decide (o + n > cv.size))=true:=by simp at hlen; simp; omega
    rw [if_neg (by simpa using this)]
    rw [← hf',← hcv2]
    congr 1
    rw [← Array.foldl_toList,Array.toList_zipIdx]
   ·simp at hf
 | [],_ :: _,_,_,_,_,_,hn,_,_,_,_=>by simp at hn
 | _ :: _,[],_,_,_,_,_,hn,_,_,_,_=>by simp at hn
end
end Go.DL
namespace Go.DL
open Go
variable [Znt]
section
variable {P:Program} {g:G} {ν:Nat→Nat} {w:World} {L:Loc}
theorem Zdg:∀ {vs:List Value} {ds:List D},Zbq vs=some ds→ZZ (Rep g w) vs ds∧∀ v∈vs,v.one1=true
 | [],ds,h=>by simp only [Zbq,ZvD] at h; subst h; exact ⟨.nil,fun v hv=>by simp at hv⟩
 | v :: vs,ds,h=>by
  simp only [Zbq] at h
  split at h
  ·rename_i d ds' h1 h2
   simp only [ZvD] at h
   subst h
   obtain ⟨r1,r2⟩:=Zdg h2
   have h0:Rep g w v d∧v.one1=true:=by
    unfold Zkk at h1
    split at h1 <;> (try (simp at h1; done))
    ·split at h1
     ·rename_i hk; simp only [ZvD] at h1; subst h1; exact ⟨.int _ _ hk,rfl⟩
     ·simp at h1
    ·simp only [ZvD] at h1; subst h1; exact ⟨.bool _,rfl⟩
    ·split at h1
     ·rename_i hk; simp only [ZvD] at h1; subst h1; exact ⟨.str _ _ rfl hk,rfl⟩
     ·simp at h1
    ·simp only [ZvD] at h1; subst h1; exact ⟨.nilptr,rfl⟩
    ·simp only [ZvD] at h1; subst h1; exact ⟨.nilsl,rfl⟩
    ·simp only [ZvD] at h1; subst h1; exact ⟨.nilmap,rfl⟩
    ·simp only [ZvD] at h1; subst h1; exact ⟨.nilfn,rfl⟩
    ·simp only [ZvD] at h1; subst h1; exact ⟨.niliface,rfl⟩
   exact ⟨.cons h0.1 r1,fun x hx=>by
    rcases List.mem_cons.1 hx with rfl | hx
    ·exact h0.2
    ·exact r2 x hx⟩
  ·simp at h
theorem ZrE {v:Value} {d:D} (h:Zkk v=some d):Rep g w v d∧v.one1=true:=by
 have:=Zdg (g:=g) (w:=w) (vs:=[v]) (ds:=[d]) (by simp [Zbq,h])
 obtain ⟨h1,h2⟩:=this
 cases h1 with
 | cons h _=>exact ⟨h,h2 v (by simp)⟩
theorem Ziy {vs:Array Value} {ds:List D} (h:ZZ (Rep g w) vs.toList ds) (ho:∀ v∈vs,v.one1=true):Rep g w (.agg vs) (.agg ds):=by
 have:=Rep.agg (g:=g) (w:=w) vs.toList ds h.len h.get (fun v hv=>ho v (Array.mem_toList_iff.1 hv))
 simpa using this
theorem Zhg {v:Value} {d:D} (h:Zkl v=some d):Rep g w v d:=by
 unfold Zkl at h
 split at h
 ·rename_i cs
  simp only [ZvO] at h
  obtain ⟨ds,hd,rfl⟩:=h
  obtain ⟨h1,h2⟩:=Zdg (g:=g) (w:=w) hd
  exact Ziy h1 (fun v hv=>h2 v (Array.mem_toList_iff.2 hv))
 ·exact (ZrE h).1
theorem Zmp {t:TypeId} {fs:Array Field} (hu:P.underlying t=some (.struct fs)):∀ (is:List Nat) (pl:List (Nat × Nat)),Q3 P t is=some pl →
  pl.length=is.length∧∀ (i k:Nat) (q:Nat × Nat),is[i]? = some k→pl[i]? = some q→∃ f,fs[k]? = some f∧YD P f.type=some q.2∧f.offset=q.1
 | [],pl,h=>by simp only [Q3,ZvD] at h; subst h; simp
 | k :: is,pl,h=>by
  cases hl:Q3 P t is with
  | none=>simp [Q3,hu,hl] at h
  | some l =>
   simp only [Q3,hu,hl] at h
   split at h
   ·rename_i f hf
    simp only [ZvO] at h
    obtain ⟨n,hn,rfl⟩:=h
    obtain ⟨h1,h2⟩:=Zmp hu is l hl
    refine ⟨by simp [h1],fun i k' q hi hq=>?_⟩
    cases i with
    | zero=>simp at hi hq; subst hi; subst hq; exact ⟨f,hf,hn,rfl⟩
    | succ i=>exact h2 i k' q (by simpa using hi) (by simpa using hq)
   ·simp at h
theorem ZkQ {t e:TypeId} {m:Nat} (hu:P.underlying t=some (.array m e)):∀ (is:List Nat) (pl:List (Nat × Nat)),Q3 P t is=some pl →
  pl.length=is.length∧∀ (i k:Nat) (q:Nat × Nat),is[i]? = some k→pl[i]? = some q→∃ n,YD P e=some n∧q=(k * n,n)
 | [],pl,h=>by simp only [Q3,ZvD] at h; subst h; simp
 | k :: is,pl,h=>by
  cases hl:Q3 P t is with
  | none=>simp [Q3,hu,hl] at h
  | some l =>
   simp only [Q3,hu,hl,ZvO] at h
   obtain ⟨n,hn,rfl⟩:=h
   obtain ⟨h1,h2⟩:=ZkQ hu is l hl
   refine ⟨by simp [h1],fun i k' q hi hq=>?_⟩
   cases i with
   | zero=>simp at hi hq; subst hi; subst hq; exact ⟨n,hn,rfl⟩
   | succ i=>exact h2 i k' q (by simpa using hi) (by simpa using hq)
theorem Zi7:∀ (fs:List Field),(fs.all fun f=>(YD P f.type).isSome)=true →
  ∃ pl,fs.mapM (fun f=>(P.info? f.type).map fun i=>(f.offset,i.size))=some pl∧∀ (k:Nat) (f:Field) (n:Nat),fs[k]? = some f→YD P f.type=some n→pl[k]? = some (f.offset,n)
 | [],_=>⟨[],by simp,by simp⟩
 | f :: fs,h=>by
  simp only [List.all_cons,ZvN] at h
  obtain ⟨pl,h1,h2⟩:=Zi7 fs h.2
  unfold YD at h
  cases hi:P.info? f.type with
  | none=>simp [hi] at h
  | some i =>
   refine ⟨(f.offset,i.size) :: pl,by simp [List.mapM_cons,hi,h1],fun k f' n hk hn=>?_⟩
   cases k with
   | zero =>
    simp at hk; subst hk
    simp only [YD,hi,Option.map_some,ZvD] at hn
    subst hn; rfl
   | succ k=>simpa using h2 k f' n (by simpa using hk) hn
theorem ZsI {t:TypeId} {parts:List (Nat × Value)} {z:Value} {pl:List (Nat × Nat)} {zs ds cs:List D} (hz:(P.info? t).bind (·.zero)=some z) (hp:Q3 P t (parts.map (·.1))=some pl)
  (hsz:Zh4 P t=true) (hzs:Zbq z.cells.toList=some zs) (hd:ZZ (Rep g w) (parts.map (·.2)) ds) (hf:Za8 zs pl ds=some cs)
  (hne:∃ d,P.underlying t=some d∧((∃ fs,d = .struct fs)∨∃ m e i,d = .array m e∧P.info? e=some i)) :
  ∃ cv,(Instr.build t parts.toArray).run P w = .ok (.agg cv) w∧Rep g w (.agg cv) (.agg cs):=by
 obtain ⟨d,hu,hd'⟩:=hne
 obtain ⟨c1,c2⟩:=Zdg (g:=g) (w:=w) hzs
 have c2':∀ v∈z.cells,v.one1=true:=fun v hv=>c2 v (Array.mem_toList_iff.2 hv)
 cases hit:P.info? t with
 | none=>simp [hit] at hz
 | some it =>
  simp only [hit,Option.bind_some] at hz
  rcases hd' with ⟨fs,rfl⟩ | ⟨m,e,i,rfl,hi⟩
  ·simp only [Zh4,hu] at hsz
   obtain ⟨pls,hm,hpls⟩:=Zi7 (P:=P) fs.toList hsz
   obtain ⟨h1,h2⟩:=Zmp hu _ _ hp
   obtain ⟨cv,hfill,hrep,hone⟩:=ZfD (g:=g) (w:=w) (pls.toArray[·]?) parts pl ds cs zs z.cells (fun i x q hx hq=>by
    obtain ⟨f,hf1,hf2,hf3⟩:=h2 i x.1 q (by simp [hx]) hq
    have:=hpls x.1 f q.2 (by simpa using hf1) hf2
    simp only [List.getElem?_toArray,this,hf3]) (by simpa using h1.symm) hd c1 c2' hf
   refine ⟨cv,run_build w t _ cv ?_,Ziy hrep hone⟩
   simp only [Program.built,hit,hu,hz,hm]
   exact hfill
  ·obtain ⟨h1,h2⟩:=ZkQ hu _ _ hp
   obtain ⟨cv,hfill,hrep,hone⟩:=ZfD (g:=g) (w:=w) (fun k=>some (k * i.size,i.size)) parts pl ds cs zs z.cells (fun j x q hx hq=>by
    obtain ⟨n,hn,rfl⟩:=h2 j x.1 q (by simp [hx]) hq
    simp only [YD,hi,Option.map_some,ZvD] at hn
    rw [hn]) (by simpa using h1.symm) hd c1 c2' hf
   refine ⟨cv,run_build w t _ cv ?_,Ziy hrep hone⟩
   simp only [Program.built,hit,hu,hz,hi]
   exact hfill
end
end Go.DL
namespace Go.DL
open Go
variable [Znt]
section
variable {P:Program} {g:G} {ν:Nat→Nat} {w:World} {L:Loc} {σ:St}
theorem KR {α β:Type} {R:α→β→Prop} {a:α} {bs:List β} (h:ZZ R [a] bs):∃ b,bs=[b]∧R a b:=by
 cases h with
 | cons h t=>cases t; exact ⟨_,rfl,h⟩
theorem ZaO {α β:Type} {R:α→β→Prop} {a a':α} {bs:List β} (h:ZZ R [a,a'] bs):∃ b b',bs=[b,b']∧R a b∧R a' b':=by
 cases h with
 | cons h t=>obtain ⟨b',rfl,h'⟩:=KR t; exact ⟨_,_,rfl,h,h'⟩
theorem Zgg:∀ (ns:List Int) (s:ByteArray),(ns.foldl (fun r n=>r.push (UInt8.ofNat n.toNat)) s).data.toList=s.data.toList++ns.map fun n=>UInt8.ofNat n.toNat
 | [],s=>by simp
 | n :: ns,s=>by rw [List.foldl_cons,Zgg ns]; simp [ByteArray.push]
theorem Zph {t:TypeId} {x:Value} {e r:E} {side:Prop} (ha:Zae P t=some false) (hx:Z5 g ν w L x e) (hL:∀ l cs,Zl L l=some cs→Kn g w (ν l) cs) (hS:Wo g σ w)
  (hq:qv L σ .load1 [e]=some (side,r)):∃ v,(Instr.loadAt t x).run P w = .ok v w∧Z5 g ν w L v r:=by
 simp only [qv,ZvO,ZvL] at hq
 obtain ⟨d,hd,rfl,rfl⟩:=hq
 obtain ⟨b,o,y,rfl,hy,hr,_⟩:=Zkf hL hS hx hd
 exact ⟨y,by simp [Instr.loadAt,Instr.sureAddr,loadVar,ZdG ha,hy],hr⟩
theorem Zpi {t:TypeId} {n:Nat} {x:Value} {e r:E} {side:Prop} (ha:Zae P t=some true) (hsz:YD P t=some n) (hx:Z5 g ν w L x e) (hL:∀ l cs,Zl L l=some cs→Kn g w (ν l) cs) (hS:Wo g σ w)
  (hq:qv L σ (.loadN n) [e]=some (side,r)) (hs:side):∃ v,(Instr.loadAt t x).run P w = .ok v w∧Z5 g ν w L v r:=by
 simp only [qv,ZvO,ZvL] at hq
 obtain ⟨⟨s',ds⟩,hd,rfl,rfl⟩:=hq
 obtain ⟨a,rfl,vs,hrun,hr⟩:=ZkP (P:=P) hL hS hx hd hs
 exact ⟨.agg vs.toArray,by simp [Instr.loadAt,Instr.sureAddr,loadVar,ZeP ha,WX hsz,hrun],hr⟩
theorem ZtN {b o n cap:Nat} {cs:List D} {v:Value} (hS:Wo g σ w) (hv:Rep g w v (.msl b o n cap 1)) (hcs:YS σ b=some cs) (hlen:o + n≤cs.length) (hu:∀ i,i < n→Zlw (part cs (o + i) 1)) :
  ∃ x:Value,(Conv.bytesToString v).run P w = .ok x w∧Rep g w x (.str ((List.range n).map fun i=>ZcD (part cs (o + i) 1))):=by
 have main:∀ cap',n≤cap'→cap'≤big→∃ x:Value,(Conv.bytesToString (.slice (some ⟨b,o,none⟩) n cap')).run P w = .ok x w∧Rep g w x (.str ((List.range n).map fun i=>ZcD (part cs (o + i) 1))):=by
  intro cap' h1 h2
  obtain ⟨vs,hr,hp⟩:=Zen (P:=P) (JH hS hcs) hlen
  have hvs:vs=((List.range n).map fun i=>((ZcD (part cs (o + i) 1)).toNat:Int)).map (Value.int .u8):=by
   generalize hpe:part cs o n=pc at hp
   have hpl:pc.length=n:=by rw [← hpe]; simp [part]; omega
   cases hp with
   | agg vs' _ hn hg _ =>
   rw [List.map_map]
   apply List.ext_getElem?
   intro i
   by_cases hi:i < n
   ·have hvi:i < vs.length:=by omega
    obtain ⟨m,hm⟩:=hu i hi
    have hci:cs[o + i]? = some (.int .u8 m):=by
     have:=congrArg (fun l=>l[0]?) hm
     simpa [part] using this
    have hpi:pc[i]? = some (.int .u8 m):=by
     rw [← hpe]; simp only [part,List.getElem?_take,List.getElem?_drop,hi,if_true]; exact hci
    have:=hg i vs[i] _ (by simp [List.getElem?_eq_getElem hvi]) hpi
    rw [List.getElem?_eq_getElem hvi]
    generalize vs[i]=xv at this
    cases this
    rename_i hin
    simp [hi,hm,ZcD]
    simp [inR,IntKind.min,IntKind.max,IntKind.signed,IntKind.bits] at hin
    omega
   ·rw [List.getElem?_eq_none (by omega),List.getElem?_eq_none (by simp; omega)]
  refine ⟨_,run_bytesToString w _ _ cap' _ (by rw [hr,hvs]),.str _ _ ?_ (by simp; omega)⟩
  rw [Zgg]
  simp [List.map_map,Function.comp_def]
 cases hv with
 | msl _ _ _ _ _ h hb=>exact main cap h hb
 | mslx a=>exact ⟨.string .empty,by simp [Conv.bytesToString,loadCells,loadCellsFrom],.str _ _ rfl (by simp [big])⟩
theorem Zq1 {s d:TypeId} {c:Cv} {x:Value} {e r:E} {side:Prop} (hS:Wo g σ w) (hc:Zqg P s d=some c) (hx:Z5 g ν w L x e) (hq:qv L σ (.conv c) [e]=some (side,r)) (hs:side) :
  ∃ v,(convert s d x).run P w = .ok v w∧Z5 g ν w L v r:=by
 unfold Zqg at hc
 split at hc <;> (try (simp at hc; done))
 ·rename_i k0 k h1 h2
  simp only [ZvD] at hc; subst hc
  cases e with
  | d y =>
   cases y <;> simp only [qv,reduceCtorEq] at hq
   rename_i k' n
   cases hx
   rename_i hn
   split at hq
   ·rename_i hk; subst hk
    simp only [ZvD,ZvL] at hq
    obtain ⟨rfl,rfl⟩:=hq
    exact ⟨.int k n,by simp [convert,run_underlying h1,run_underlying h2,Conv.intToInt,ZcX _ _ hn],.int _ _ hn⟩
   ·simp only [ZvD,ZvL] at hq
    obtain ⟨rfl,rfl⟩:=hq
    exact ⟨.int k (k.wrap n),by simp [convert,run_underlying h1,run_underlying h2,Conv.intToInt],.int _ _ (ZlV _ _)⟩
  | loc l o=>simp [qv] at hq
  | when b e=>simp [qv] at hq
 ·rename_i k0 h1 h2
  simp only [ZvD] at hc; subst hc
  cases e with
  | d y =>
   cases y <;> simp only [qv,reduceCtorEq] at hq
   rename_i k' n
   cases hx
   simp only [ZvD,ZvL] at hq
   obtain ⟨rfl,rfl⟩:=hq
   exact ⟨.string (Utf8.encode n),by simp [convert,run_underlying h1,run_underlying h2,Conv.intToString],.str _ _ rfl hs⟩
  | loc l o=>simp [qv] at hq
  | when b e=>simp [qv] at hq
 ·rename_i h1 h2
  simp only [ZvD] at hc; subst hc
  cases e with
  | d y =>
   cases y <;> simp only [qv,reduceCtorEq] at hq
   simp only [ZvD,ZvL] at hq
   obtain ⟨rfl,rfl⟩:=hq
   cases hx
   rename_i s0 e0 b0
   exact ⟨.string s0,by simp [convert,run_underlying h1,run_underlying h2],.str _ _ e0 b0⟩
  | loc l o=>simp [qv] at hq
  | when b e=>simp [qv] at hq
 ·rename_i el h1 h2
  split at hc <;> (try (simp at hc; done))
  rename_i h3
  simp only [ZvD] at hc; subst hc
  cases e with
  | d y =>
   cases y <;> simp only [qv,reduceCtorEq] at hq
   ·simp only [ZvD,ZvL] at hq
    obtain ⟨rfl,rfl⟩:=hq
    cases hx
    exact ⟨.string .empty,by simp [convert,run_underlying h1,run_underlying h2,run_underlying h3,Conv.bytesToString],.str _ _ rfl (by simp [big])⟩
   ·split at hq <;> (try (simp at hq; done))
    rename_i t n s row hs1
    simp only [ZvD,ZvL] at hq
    obtain ⟨rfl,rfl⟩:=hq
    subst hs1
    cases hx with
    | sl0 av=>exact ⟨.string .empty,by cases av <;> simp [convert,run_underlying h1,run_underlying h2,run_underlying h3,Conv.bytesToString,loadCells,loadCellsFrom],.str _ _ rfl (by simp [big])⟩
    | sl b o _ cap _ _ _ f hl hc hp hr one ht hcap hb =>
     have hf:∀ i,i < n→f i 0 = .int .u8 ((ZcD (row i)).toNat:Int):=fun i hi=>by
      obtain ⟨m,hm⟩:=hs i hi
      have:=hr i 0 _ hi (by rw [hm]; rfl)
      generalize f i 0=fv at this
      cases this
      rename_i hin
      rw [hm]; simp only [ZcD]
      congr 1
      simp [inR,IntKind.min,IntKind.max,IntKind.signed,IntKind.bits] at hin
      simp; omega
     have hcells:(loadCells ⟨b,o,none⟩ n).run P w = .ok (((List.range n).map fun i=>((ZcD (row i)).toNat:Int)).map (Value.int .u8)).toArray w:=by
      rw [run_loadCells (P:=P) w ⟨b,o,none⟩ n (fun i=>f i 0) (fun j hj=>by
       have:=hc j 0 hj (by omega)
       rw [Qj]; simpa using this)]
      congr 2
      rw [List.map_map]
      exact List.map_congr_left fun i hi=>hf i (by simpa using hi)
     refine ⟨_,by simp [convert,run_underlying h1,run_underlying h2,run_underlying h3,run_bytesToString w _ _ cap _ hcells]; rfl,.str _ _ ?_ (by simp; omega)⟩
     rw [Zgg]
     simp [List.map_map,Function.comp_def]
   ·split at hq <;> (try (simp at hq; done))
    rename_i b o n cap z cs hcs
    split at hq <;> (try (simp at hq; done))
    rename_i hz
    simp only [ZvD,ZvL] at hq
    obtain ⟨rfl,rfl⟩:=hq
    subst hz
    obtain ⟨xv,hr,hp⟩:=ZtN (P:=P) hS hx hcs hs.1 hs.2
    have hconv:(convert s d x).run P w=(Conv.bytesToString x).run P w:=by cases hx <;> simp [convert,run_underlying h1,run_underlying h2,run_underlying h3]
    exact ⟨xv,hconv.trans hr,hp⟩
  | loc l o=>simp [qv] at hq
  | when b e=>simp [qv] at hq
end
end Go.DL
namespace Go.DL
open Go
variable [Znt]
section
variable {P:Program} {g:G} {ν:Nat→Nat} {w:World} {L:Loc}
theorem JD {v:Value} {k:IntKind} {n:Int} (h:Rep g w v (.int k n)):v = .int k n∧inR k n:=by
 cases h with
 | int _ _ h=>exact ⟨rfl,h⟩
theorem ZcF {x:Value} {k:IntKind} {n:Int} (h:Rep g w x (.int k n)) {y:Nat} {code:BoundsCode} (h0:0≤n) (h1:n≤y) :
  (Instr.sliceBound x y code).run P w = .ok n.toNat w:=by
 obtain ⟨rfl,_⟩:=JD h
 simp [Instr.sliceBound,asIntOf,h0,h1]
def JL (g:G) (w:World):Option Value→Option Int→Prop
 | none,none=>True
 | some v,some n=>∃ k,Rep g w v (.int k n)
 | _,_=>False
theorem ZaR {is:Bool} {n cap:Nat} {lo hi mx:Option Value} {lo' hi' mx':Option Int} (h1:JL g w lo lo') (h2:JL g w hi hi') (h3:JL g w mx mx')
  (hmh:mx.isSome=true→hi.isSome=true) (a:0≤lo'.getD 0) (b:lo'.getD 0≤hi'.getD n) (c:hi'.getD n≤mx'.getD cap) (d:mx'.getD cap≤cap) :
  (Instr.sliceBounds is n cap lo hi mx).run P w = .ok ((lo'.getD 0).toNat,(hi'.getD n).toNat,(mx'.getD cap).toNat) w:=by
 cases mx with
 | none =>
  cases mx' with
  | some _=>exact h3.elim
  | none =>
   simp only [Option.getD_none] at c d ⊢
   cases hi with
   | none =>
    cases hi' with
    | some _=>exact h2.elim
    | none =>
     cases lo with
     | none =>
      cases lo' with
      | some _=>exact h1.elim
      | none=>simp [Instr.sliceBounds]
     | some lv =>
      cases lo' with
      | none=>exact h1.elim
      | some l =>
       obtain ⟨k,hk⟩:=h1
       simp only [Option.getD_some,Option.getD_none] at a b ⊢
       simp [Instr.sliceBounds,ZcF hk a b]
   | some hv =>
    cases hi' with
    | none=>exact h2.elim
    | some hh =>
     obtain ⟨k2,hk2⟩:=h2
     simp only [Option.getD_some] at b c ⊢
     have bo:=ZcF (P:=P) hk2 (y:=cap) (code:=if is then .sliceAcap else .sliceAlen) (by omega) c
     cases lo with
     | none =>
      cases lo' with
      | some _=>exact h1.elim
      | none=>simp [Instr.sliceBounds,bo]
     | some lv =>
      cases lo' with
      | none=>exact h1.elim
      | some l =>
       obtain ⟨k,hk⟩:=h1
       simp only [Option.getD_some] at a b ⊢
       have bl:=ZcF (P:=P) hk (y:=hh.toNat) (code:=.sliceB) a (by omega)
       simp [Instr.sliceBounds,bo,bl]
 | some mv =>
  cases mx' with
  | none=>exact h3.elim
  | some m =>
   obtain ⟨k3,hk3⟩:=h3
   simp only [Option.getD_some] at c d ⊢
   cases hi with
   | none=>simp at hmh
   | some hv =>
    cases hi' with
    | none=>exact h2.elim
    | some hh =>
     obtain ⟨k2,hk2⟩:=h2
     simp only [Option.getD_some] at b c ⊢
     have bm:=ZcF (P:=P) hk3 (y:=cap) (code:=if is then .slice3Acap else .slice3Alen) (by omega) d
     have bo:=ZcF (P:=P) hk2 (y:=m.toNat) (code:=.slice3B) (by omega) (by omega)
     cases lo with
     | none =>
      cases lo' with
      | some _=>exact h1.elim
      | none=>simp [Instr.sliceBounds,bo,bm]
     | some lv =>
      cases lo' with
      | none=>exact h1.elim
      | some l =>
       obtain ⟨k,hk⟩:=h1
       simp only [Option.getD_some] at a b ⊢
       have bl:=ZcF (P:=P) hk (y:=hh.toNat) (code:=.slice3C) a (by omega)
       simp [Instr.sliceBounds,bo,bm,bl]
theorem Ztv {t e:TypeId} {s:Nat} (hu:P.underlying t=some (.slice e)) (hsz:YD P e=some s) {x:Value} {d r:D} (hx:Rep g w x d) {lo hi mx:Option Value} {lo' hi' mx':Option Int}
  (h1:JL g w lo lo') (h2:JL g w hi hi') (h3:JL g w mx mx') (hmh:mx.isSome=true→hi.isSome=true) {side:Prop} (hq:Za3 s lo' hi' mx' d=some (side,r)) (hs:side) :
  ∃ v,(Instr.sliceAt t x lo hi mx).run P w = .ok v w∧Rep g w v r:=by
 cases d <;> simp only [Za3,reduceCtorEq] at hq
 ·
  simp only [ZvD,ZvL] at hq
  obtain ⟨rfl,rfl⟩:=hq
  cases hx
  obtain ⟨e1,e2,e3⟩:=hs
  refine ⟨.slice none 0 0,?_,.nilsl⟩
  have hb:=ZaR (P:=P) (is:=true) (n:=0) (cap:=0) h1 h2 h3 hmh (by omega) (by simp [e1,e2]) (by simp [e2,e3]) (by simp [e3])
  simp only [Instr.sliceAt,Sem.run_bind,run_underlying hu,Result.andThen_ok,Instr.slice,hb]
  simp [e1,e2,e3,WX hsz]
 ·
  rename_i t n s' row
  split at hq <;> (try (simp at hq; done))
  rename_i hss
  subst hss
  simp only [ZvD,ZvL] at hq
  obtain ⟨rfl,rfl⟩:=hq
  obtain ⟨a,b,c,d⟩:=hs
  have mk:∀ (cap:Nat),n≤cap→hi'.getD n≤mx'.getD cap∧mx'.getD cap≤cap:=fun cap hcap=>by
   cases mx' with
   | none=>simp only [Option.getD_none]; omega
   | some m=>have:=d m rfl; simp only [Option.getD_some]; omega
  cases hx with
  | sl0 av _ _ _ ht =>
   have hb:=ZaR (P:=P) (is:=true) (n:=0) (cap:=0) h1 h2 h3 hmh a b (mk 0 (ZvR _)).1 (mk 0 (ZvR _)).2
   have e2:hi'.getD ((0:Nat):Int)=0:=by omega
   have e1:lo'.getD 0=0:=by omega
   have e3:mx'.getD ((0:Nat):Int)=0:=by have:=mk 0 (ZvR _); omega
   simp only [Int.natCast_zero] at e2 e3
   refine ⟨.slice av 0 0,?_,?_⟩
   ·cases av <;> simp only [Instr.sliceAt,Sem.run_bind,run_underlying hu,Result.andThen_ok,Instr.slice,hb]
    all_goals simp [e1,e2,e3,WX hsz]
   ·have:(hi'.getD ((0:Nat):Int) - lo'.getD 0).toNat=0:=by simp [e1,e2]
    rw [this]
    refine .sl0 av _ _ _ ?_
    intro b hb
    cases mx' with
    | some m=>simp only [ZbL] at hb; split at hb <;> simp at hb
    | none =>
     simp only [ZbL] at hb
     split at hb
     ·cases t with
      | tip b'=>exact absurd rfl (ht b')
      | _=>simp at hb
     ·simp at hb
  | sl bb o _ cap _ _ _ f hl hc hp hr one ht hcap hbig =>
   have hb:=ZaR (P:=P) (is:=true) (n:=n) (cap:=cap) h1 h2 h3 hmh a b (mk cap hcap).1 (mk cap hcap).2
   have hm:=mk cap hcap
   simp only [Instr.sliceAt,Sem.run_bind,run_underlying hu,Result.andThen_ok,Instr.slice,hb]
   simp only [WX hsz,Result.andThen_ok,Sem.run_pure]
   generalize hln:lo'.getD 0=l at *
   generalize hhn:hi'.getD (n:Int)=h at *
   obtain ⟨l,rfl⟩:=Int.eq_ofNat_of_zero_le a
   obtain ⟨h,rfl⟩:=Int.eq_ofNat_of_zero_le (show 0≤h by omega)
   generalize hmn:mx'.getD (cap:Int)=m at *
   obtain ⟨m,rfl⟩:=Int.eq_ofNat_of_zero_le (show 0≤m by omega)
   simp only [Int.toNat_natCast]
   refine ⟨_,rfl,?_⟩
   have hsub:((h:Int) - (l:Int)).toNat=h - l:=by omega
   rw [hsub]
   have hle:h≤n:=by omega
   have hlh:l≤h:=by omega
   have hhm:h≤m:=by omega
   have hmc:m≤cap:=by omega
   generalize htk:ZbL t n l h mx'=tk
   have htok:∀ o',(l=0→o'=o)→Zil w tk bb o' (h - l) (m - l) s':=by
    intro o' ho'
    cases mx' with
    | some m' =>
     simp only [ZbL] at htk
     simp only [Option.getD_some] at hmn
     split at htk
     ·subst htk; simp only [Zil]; omega
     ·subst htk; trivial
    | none =>
     simp only [ZbL] at htk
     simp only [Option.getD_none] at hmn
     have hmcap:m=cap:=by omega
     split at htk
     ·rename_i hhn'
      cases t with
      | none=>simp only at htk; subst htk; trivial
      | full=>simp only at htk; subst htk; simp only [Zil] at ht ⊢; omega
      | tip b' =>
       simp only at htk
       split at htk
       ·rename_i hl0
        subst htk
        obtain ⟨t1,t2,t3⟩:=ht
        have hl0':l=0:=by omega
        exact ⟨t1,(ho' hl0').trans t2,by rw [hmcap,hl0']; simpa using t3⟩
       ·subst htk; trivial
     ·subst htk; trivial
   by_cases hml:m=l
   ·simp only [hml,if_true]
    have hh:h - l=0:=by omega
    rw [hh,Nat.sub_self]
    have htok':=htok o (fun _=>rfl)
    rw [hh,hml,Nat.sub_self] at htok'
    exact .sl bb o 0 0 s' _ tk (fun _ _=>undef) (fun i hi=>by omega) (fun i j hi=>by omega) (fun i j hi=>by omega) (fun i j d hi=>by omega) (fun i j hi=>by omega) htok' (by omega) (by omega)
   ·simp only [hml,if_false,Option.map_some,Qj]
    refine .sl bb (o + l * s') (h - l) (m - l) s' _ tk (fun i j=>f (l + i) j) (fun i hi=>hl _ (by omega)) (fun i j hi hj=>?_) (fun i j hi hj=>?_) (fun i j d hi hd=>hr _ _ _ (by omega) hd)
     (fun i j hi hj=>one _ _ (by omega) hj) (htok _ (fun h0=>by rw [h0]; simp)) (by omega) (by omega)
    ·have:=hc (l + i) j (by omega) hj
     rw [show o + l * s' + i * s' + j=o + (l + i) * s' + j from by rw [Nat.add_mul]; omega]; exact this
    ·have:=hp (l + i) j (by omega) hj
     rw [show o + l * s' + i * s' + j=o + (l + i) * s' + j from by rw [Nat.add_mul]; omega]; exact this
 ·
  rename_i bb o n cap s'
  split at hq <;> (try (simp at hq; done))
  rename_i hss
  subst hss
  simp only [ZvD,ZvL] at hq
  obtain ⟨rfl,rfl⟩:=hq
  obtain ⟨a,b,c,d⟩:=hs
  cases hx with
  | mslx av _ _ _ =>
   have hb:=ZaR (P:=P) (is:=true) (n:=0) (cap:=0) h1 h2 h3 hmh a b c d
   have e3:mx'.getD ((0:Nat):Int)=0:=by omega
   have e2:hi'.getD ((0:Nat):Int)=0:=by omega
   have e1:lo'.getD 0=0:=by omega
   refine ⟨.slice (some av) 0 0,?_,?_⟩
   ·simp only [Instr.sliceAt,Sem.run_bind,run_underlying hu,Result.andThen_ok,Instr.slice,hb]
    simp only [Int.natCast_zero] at e2 e3
    simp [e1,e2,e3,WX hsz]
   ·rw [e1,e2,e3]; exact .mslx _ _ _ _
  | msl _ _ _ _ _ hn hb' =>
   have hb:=ZaR (P:=P) (is:=true) (n:=n) (cap:=cap) h1 h2 h3 hmh a b c d
   simp only [Instr.sliceAt,Sem.run_bind,run_underlying hu,Result.andThen_ok,Instr.slice,hb]
   simp only [WX hsz,Result.andThen_ok,Sem.run_pure]
   generalize hln:lo'.getD 0=l at *
   generalize hhn:hi'.getD (n:Int)=h at *
   generalize hmn:mx'.getD (cap:Int)=m at *
   obtain ⟨l,rfl⟩:=Int.eq_ofNat_of_zero_le a
   obtain ⟨h,rfl⟩:=Int.eq_ofNat_of_zero_le (show 0≤h by omega)
   obtain ⟨m,rfl⟩:=Int.eq_ofNat_of_zero_le (show 0≤m by omega)
   simp only [Int.toNat_natCast,show ((h:Int) - (l:Int)).toNat=h - l by omega,show ((m:Int) - (l:Int)).toNat=m - l by omega]
   refine ⟨_,rfl,?_⟩
   by_cases hml:m=l
   ·subst hml
    simp only [if_true]
    exact .msl _ _ _ _ _ (by omega) (by omega)
   ·have:¬ (m:Int)=l:=by omega
    simp only [hml,this,if_false,Option.map_some,Qj]
    exact .msl _ _ _ _ _ (by omega) (by omega)
end
end Go.DL
namespace Go.DL
open Go
variable [Znt]
section
variable {P:Program} {g:G} {ν:Nat→Nat} {w:World} {L:Loc} {σ:St}
theorem ZmB {s:TypeId} {k:Nat} {f:Field} (h:ZfC P s k=some f):∃ fs,P.underlying s=some (.struct fs)∧fs[k]? = some f:=by
 unfold ZfC at h
 split at h
 ·rename_i fs hu; exact ⟨fs,hu,h⟩
 ·simp at h
theorem Zpf {s:TypeId} {k n:Nat} {f:Field} {x:Value} {e r:E} {side:Prop} (hf:ZfC P s k=some f) (hsz:YD P f.type=some n) (hn:n≠0) (hx:Z5 g ν w L x e)
  (hq:qv L σ (.faddr f.offset) [e]=some (side,r)):∃ v,(Instr.fieldAt s x k).run P w = .ok v w∧Z5 g ν w L v r:=by
 obtain ⟨fs,hu,hk⟩:=ZmB hf
 have run:∀ b o,(Instr.fieldAt s (.pointer (some ⟨b,o,none⟩)) k).run P w = .ok (.pointer (some ⟨b,o + f.offset,none⟩)) w:=fun b o=>by
  simp [Instr.fieldAt,run_underlying hu,hk,Instr.sureAddr,fieldPlace,WX hsz,hn,Qj]
 cases e with
 | d y =>
  cases y <;> simp only [qv,reduceCtorEq,ZvD,ZvL] at hq
  ·rename_i cells off
   obtain ⟨rfl,rfl⟩:=hq
   cases hx with
   | ep b o _ _ f' h1 h2 h3 one =>
    have:=Rep.ep (g:=g) (w:=w) b o (off + f.offset) cells f' h1 h2 h3 one
    exact ⟨_,run _ _,by rw [Nat.add_assoc]; exact this⟩
  ·obtain ⟨rfl,rfl⟩:=hq
   cases hx
   exact ⟨_,run _ _,.ptr _ _⟩
 | loc l o =>
  simp only [qv,ZvD,ZvL] at hq
  obtain ⟨rfl,rfl⟩:=hq
  obtain ⟨h1,rfl⟩:=hx
  exact ⟨_,run _ _,h1,rfl⟩
 | when b e=>simp [qv] at hq
theorem Zpg {t e:TypeId} {n:Nat} {x i:Value} {ex ei r:E} {side:Prop} (hu:P.underlying t=some (.slice e)) (hsz:YD P e=some n) (hx:Z5 g ν w L x ex) (hi:Z5 g ν w L i ei)
  (hq:qv L σ (.iaddr n) [ex,ei]=some (side,r)) (hs:side):∃ v,(Instr.indexAt t x i).run P w = .ok v w∧Z5 g ν w L v r:=by
 cases ex with
 | d y =>
  cases y <;> (try (simp [qv] at hq; done))
  ·rename_i tk m s' row
   cases ei with
   | d z =>
    cases z <;> simp only [qv,reduceCtorEq] at hq
    rename_i k j
    obtain ⟨rfl,hin⟩:=JD hi
    split at hq <;> (try (simp at hq; done))
    rename_i hss; subst hss
    simp only [ZvD,ZvL] at hq
    obtain ⟨rfl,rfl⟩:=hq
    obtain ⟨h0,h1⟩:=hs
    cases hx with
    | sl0=>omega
    | sl b o _ cap _ _ _ f hl hc hp hr one ht hcap hbig =>
     have hlt:j.toNat < m:=by omega
     have:=Rep.ep (g:=g) (w:=w) b (o + j.toNat * s') 0 (row j.toNat) (fun c=>f j.toNat c) (fun c hc'=>by
      rw [hl _ hlt] at hc'; exact hc _ _ hlt hc') (fun c hc'=>by rw [hl _ hlt] at hc'; exact hp _ _ hlt hc') (fun c d hd=>hr _ _ _ hlt hd) (fun c hc'=>by rw [hl _ hlt] at hc'; exact one _ _ hlt hc')
     refine ⟨_,?_,this⟩
     simp [Instr.indexAt,asIntOf,run_underlying hu,h0,h1,WX hsz,Qj]
   | loc l o=>simp [qv] at hq
   | when b e=>simp [qv] at hq
  ·rename_i b o m cap s'
   cases ei with
   | d z =>
    cases z <;> simp only [qv,reduceCtorEq] at hq
    rename_i k j
    obtain ⟨rfl,hin⟩:=JD hi
    split at hq <;> (try (simp at hq; done))
    rename_i hss; subst hss
    simp only [ZvD,ZvL] at hq
    obtain ⟨rfl,rfl⟩:=hq
    obtain ⟨h0,h1⟩:=hs
    cases hx <;> try omega
    refine ⟨_,?_,Rep.ptr b (o + j.toNat * s')⟩
    simp [Instr.indexAt,asIntOf,run_underlying hu,h0,h1,WX hsz,Qj]
   | loc l o=>simp [qv] at hq
   | when b e=>simp [qv] at hq
 | loc l o=>cases ei <;> simp [qv] at hq
 | when b e=>cases ei <;> simp [qv] at hq
theorem ZoO {t e:TypeId} {m n:Nat} {x i:Value} {ex ei r:E} {side:Prop} (hu:P.underlying t=some (.array m e)) (hsz:YD P e=some n) (hx:Z5 g ν w L x ex) (hi:Z5 g ν w L i ei)
  (hq:qv L σ (.iaddrA m n) [ex,ei]=some (side,r)) (hs:side):∃ v,(Instr.indexAt t x i).run P w = .ok v w∧Z5 g ν w L v r:=by
 cases ei with
 | d z =>
  cases z <;> (try (cases ex <;> (try (rename_i y; cases y)) <;> simp [qv] at hq; done))
  rename_i k j
  obtain ⟨rfl,hin⟩:=JD hi
  have run:∀ b o,(0≤j∧j < (m:Int))→(Instr.indexAt t (.pointer (some ⟨b,o,none⟩)) (.int k j)).run P w = .ok (.pointer (some ⟨b,o + j.toNat * n,none⟩)) w:=fun b o h=>by
   simp [Instr.indexAt,asIntOf,run_underlying hu,h.1,h.2,WX hsz,Qj,Instr.sureAddr]
  cases ex with
  | d y =>
   cases y <;> simp only [qv,reduceCtorEq,ZvD,ZvL] at hq
   ·rename_i cells off
    obtain ⟨rfl,rfl⟩:=hq
    cases hx with
    | ep b o _ _ f' h1 h2 h3 one =>
     have:=Rep.ep (g:=g) (w:=w) b o (off + j.toNat * n) cells f' h1 h2 h3 one
     exact ⟨_,run _ _ hs,by rw [Nat.add_assoc]; exact this⟩
   ·rename_i b o
    obtain ⟨rfl,rfl⟩:=hq
    cases hx
    exact ⟨_,run _ _ hs,Rep.ptr _ _⟩
  | loc l o =>
   simp only [qv,ZvD,ZvL] at hq
   obtain ⟨rfl,rfl⟩:=hq
   obtain ⟨h1,rfl⟩:=hx
   exact ⟨_,run _ _ hs,h1,rfl⟩
  | when b e=>simp [qv] at hq
 | loc l o=>cases ex <;> (try (rename_i y; cases y)) <;> simp [qv] at hq
 | when b e=>cases ex <;> (try (rename_i y; cases y)) <;> simp [qv] at hq
theorem ev {s:Sem Value} {e:E} (h:∃ v,s.run P w = .ok v w∧Z5 g ν w L v e) :
  ∃ v,(do pure (Next.value (← s)):Sem Next).run P w = .ok (.value v) w∧Z5 g ν w L v e:=ZsD.next h
theorem Zpj {x:Value} {e r:E} {side:Prop} {op:Operand} {ρv:Operand→Value} (hv:ρv op=x) (hx:Z5 g ν w L x e) (hq:qv L σ .nilck [e]=some (side,r)) (dst:Option Nat) (ty:TypeId) (pos:String)
  (af:Array Edge) (gd:Option (Nat × Bool)):∃ v,(execOp ρv ⟨dst,.nilCheck op,ty,pos,af,gd⟩).run P w = .ok (.value v) w∧Z5 g ν w L v r:=by
 subst hv
 cases e with
 | d y =>
  cases y <;> simp only [qv,reduceCtorEq,ZvD,ZvL] at hq
  ·obtain ⟨rfl,rfl⟩:=hq
   refine ⟨_,?_,hx⟩
   have hx':Rep g w (ρv op) _:=hx
   generalize hz:ρv op=z at hx'
   cases hx'
   simp [execOp,hz]
  ·obtain ⟨rfl,rfl⟩:=hq
   refine ⟨_,?_,hx⟩
   have hx':Rep g w (ρv op) _:=hx
   generalize hz:ρv op=z at hx'
   cases hx'
   simp [execOp,hz]
  ·rename_i fn fs cs
   refine ⟨ρv op,?_,?_⟩
   ·have hx':Rep g w (ρv op) _:=hx
    generalize hz:ρv op=z at hx'
    cases hx'
    cases fn <;> simp at hq
    ·simp [execOp,hz]
    ·simp [execOp,hz]
   ·cases fn <;> simp at hq
    ·obtain ⟨_,rfl⟩:=hq; exact hx
    ·obtain ⟨_,rfl⟩:=hq; exact hx
 | loc l o =>
  simp only [qv,ZvD,ZvL] at hq
  obtain ⟨rfl,rfl⟩:=hq
  refine ⟨_,?_,hx⟩
  obtain ⟨_,h2⟩:=hx
  simp [execOp,h2]
 | when b e=>simp [qv] at hq
end
end Go.DL
namespace Go.DL
open Go
variable [Znt]
section
variable {P:Program} {g:G} {ν:Nat→Nat} {w:World} {L:Loc} {σ:St}
theorem Zf4 {ρv:Operand→Value} {lo hi mx:Option Operand} {es:List E} {l h m:Option Int} (hes:ZZ (Z5 g ν w L) ((Jq lo++Jq hi++Jq mx).map ρv) es)
  (hl:K0 [lo.isSome,hi.isSome,mx.isSome] es=some [l,h,m]):JL g w (lo.map ρv) l∧JL g w (hi.map ρv) h∧JL g w (mx.map ρv) m:=by
 have step:∀ (o:Option Operand) (rest:List Operand) (es:List E) (bs:List Bool) (r:List (Option Int)),ZZ (Z5 g ν w L) ((Jq o++rest).map ρv) es→K0 (o.isSome :: bs) es=some r →
   ∃ x r' es',r=x :: r'∧JL g w (o.map ρv) x∧K0 bs es'=some r'∧ZZ (Z5 g ν w L) (rest.map ρv) es':=by
  intro o rest es bs r hes hl
  cases o with
  | none =>
   simp only [Option.isSome_none,K0,ZvO] at hl
   obtain ⟨r',hr',rfl⟩:=hl
   exact ⟨none,r',es,rfl,trivial,hr',by simpa [Jq] using hes⟩
  | some x =>
   simp only [Jq,Option.toList_some,List.singleton_append,List.map_cons] at hes
   cases hes with
   | cons hx ht =>
    rename_i e es
    cases e with
    | d y =>
     cases y <;> simp only [Option.isSome_some,K0,reduceCtorEq,ZvO] at hl
     obtain ⟨r',hr',rfl⟩:=hl
     exact ⟨_,r',es,rfl,⟨_,hx⟩,hr',ht⟩
    | loc l o=>simp [K0] at hl
    | when c e=>simp [K0] at hl
 rw [List.append_assoc] at hes
 obtain ⟨x,r1,es1,e1,b1,hl1,hes1⟩:=step lo _ es _ _ hes hl
 obtain ⟨y,r2,es2,e2,b2,hl2,hes2⟩:=step hi _ es1 _ _ hes1 hl1
 obtain ⟨z,r3,es3,e3,b3,hl3,hes3⟩:=step mx [] es2 _ _ (by simpa using hes2) hl2
 subst e2; subst e3
 simp only [List.cons.injEq] at e1
 obtain ⟨rfl,rfl,rfl,rfl⟩:=e1
 exact ⟨b1,b2,b3⟩
theorem ZiA {v:Value} {l:List UInt8} (h:Rep g w v (.str l)):∃ s:ByteArray,v = .string s∧s.data.toList=l∧l.length≤big:=by
 cases h with
 | str s _ h hb=>exact ⟨s,rfl,h,hb⟩
theorem ZbQ {v:Value} {b:Bool} (h:Rep g w v (.bool b)):v = .bool b:=by
 cases h; rfl
theorem ZoR {t:TypeId} (hu:P.underlying t=some .string) {ρv:Operand→Value} {x:Operand} {lo hi:Option Operand} {es:List E} (hes:ZZ (Z5 g ν w L) ((x :: (Jq lo++Jq hi)).map ρv) es)
  {side:Prop} {r:E} (hq:qv L σ (.sliceS lo.isSome hi.isSome) es=some (side,r)) (hs:side) :
  ∃ v,(Instr.sliceAt t (ρv x) (lo.map ρv) (hi.map ρv) none).run P w = .ok v w∧Z5 g ν w L v r:=by
 simp only [List.map_cons] at hes
 cases hes with
 | cons hx ht =>
  rename_i e es
  cases e with
  | loc l o=>simp [qv] at hq
  | when c e=>simp [qv] at hq
  | d y =>
   cases y <;> (try (simp [qv] at hq; done))
   rename_i s
   simp only [qv] at hq
   split at hq
   ·rename_i l h m hl
    simp only [ZvD,ZvL] at hq
    obtain ⟨rfl,rfl⟩:=hq
    obtain ⟨b1,b2,b3⟩:=Zf4 (mx:=none) (by simpa [Jq] using ht) hl
    obtain ⟨a,b,c⟩:=hs
    obtain ⟨s0,hs0,e0,hb0⟩:=ZiA hx
    have hsz:s0.size=s.length:=by rw [← e0]; rfl
    have hb:=ZaR (P:=P) (is:=false) (n:=s0.size) (cap:=s0.size) (mx:=none) (mx':=none) b1 b2 trivial (by simp) a (by rw [hsz]; exact b) (by rw [hsz]; simpa using c) (by simp)
    simp only [Instr.sliceAt,Sem.run_bind,run_underlying hu,Result.andThen_ok,Instr.slice,hs0]
    simp only [Option.isSome_none,Bool.false_eq_true,if_false,hb,Result.andThen_ok,Sem.run_pure,Sem.run_bind]
    refine ⟨_,rfl,.str _ _ ?_ ?_⟩
    ·rw [hsz]
     simp only [ByteArray.data_extract,Array.toList_extract,List.extract_eq_take_drop,e0]
    ·simp; omega
   ·simp at hq
theorem Zpk {t el:TypeId} {n:Nat} (hu:P.underlying t=some (.slice el)) (hsz:YD P el=some n) {ρv:Operand→Value} {x:Operand} {lo hi mx:Option Operand} {es:List E}
  (hmh:mx.isSome=true→hi.isSome=true) (hes:ZZ (Z5 g ν w L) ((x :: (Jq lo++Jq hi++Jq mx)).map ρv) es)
  {side:Prop} {r:E} (hq:qv L σ (.slice n lo.isSome hi.isSome mx.isSome) es=some (side,r)) (hs:side) :
  ∃ v,(Instr.sliceAt t (ρv x) (lo.map ρv) (hi.map ρv) (mx.map ρv)).run P w = .ok v w∧Z5 g ν w L v r:=by
 simp only [List.map_cons] at hes
 cases hes with
 | cons hx ht =>
  rename_i e es
  cases e with
  | loc l o=>simp [qv] at hq
  | when c e=>simp [qv] at hq
  | d y =>
   simp only [qv] at hq
   split at hq
   ·rename_i l h m hl
    simp only [ZvO,ZvL] at hq
    obtain ⟨⟨s',r'⟩,hr',rfl,rfl⟩:=hq
    obtain ⟨b1,b2,b3⟩:=Zf4 ht hl
    exact Ztv hu hsz hx b1 b2 b3 (by simpa using hmh) hr' hs
   ·simp at hq
theorem ZoQ {t el:TypeId} {k n:Nat} (hu:P.underlying t=some (.array k el)) (hsz:YD P el=some n) {ρv:Operand→Value} {x:Operand} {lo hi mx:Option Operand} {es:List E}
  (hmh:mx.isSome=true→hi.isSome=true) (hes:ZZ (Z5 g ν w L) ((x :: (Jq lo++Jq hi++Jq mx)).map ρv) es)
  {side:Prop} {r:E} (hq:qv L σ (.sliceA k n lo.isSome hi.isSome mx.isSome) es=some (side,r)) (hs:side) :
  ∃ v,(Instr.sliceAt t (ρv x) (lo.map ρv) (hi.map ρv) (mx.map ρv)).run P w = .ok v w∧Z5 g ν w L v r:=by
 simp only [List.map_cons] at hes
 cases hes with
 | cons hx ht =>
  rename_i e es
  cases e with
  | loc l o=>simp [qv] at hq
  | when c e=>simp [qv] at hq
  | d y =>
   cases y <;> (try (simp [qv] at hq; done))
   rename_i b o
   simp only [qv] at hq
   split at hq
   ·rename_i l h m hl
    simp only [ZvD,ZvL] at hq
    obtain ⟨rfl,rfl⟩:=hq
    obtain ⟨b1,b2,b3⟩:=Zf4 ht hl
    obtain ⟨h1,h2,h3,h4,h5⟩:=hs
    have hb:=ZaR (P:=P) (is:=false) (n:=k) (cap:=k) b1 b2 b3 (by simpa using hmh) h1 h2 h3 h4
    have hxv:ρv x = .pointer (some ⟨b,o,none⟩):=by
     have hx':Rep g w (ρv x) (.ptr b o):=hx
     generalize ρv x=xv at hx'
     cases hx'; rfl
    have hrep:Rep g w (.slice (some ⟨b,(if m.getD (k:Int)=l.getD 0 then o else o + (l.getD 0).toNat * n),none⟩) (h.getD (k:Int) - l.getD 0).toNat (m.getD (k:Int) - l.getD 0).toNat)
      (.msl b (if m.getD (k:Int)=l.getD 0 then o else o + (l.getD 0).toNat * n) (h.getD (k:Int) - l.getD 0).toNat (m.getD (k:Int) - l.getD 0).toNat n):=.msl _ _ _ _ _ (by omega) (by omega)
    refine ⟨_,?_,hrep⟩
    have e1:(h.getD (k:Int) - l.getD 0).toNat=(h.getD (k:Int)).toNat - (l.getD 0).toNat:=by omega
    have e2:(m.getD (k:Int) - l.getD 0).toNat=(m.getD (k:Int)).toNat - (l.getD 0).toNat:=by omega
    by_cases hm:m.getD (k:Int)=l.getD 0
    ·have hm':(m.getD (k:Int)).toNat=(l.getD 0).toNat:=by omega
     simp only [Instr.sliceAt,hxv,Instr.sureAddr,Sem.run_bind,run_underlying hu,Result.andThen_ok,Sem.run_pure,hb,WX hsz,hm,if_true,e1,hm']
     simp
    ·have hm':¬ (m.getD (k:Int)).toNat=(l.getD 0).toNat:=by omega
     simp only [Instr.sliceAt,hxv,Instr.sureAddr,Sem.run_bind,run_underlying hu,Result.andThen_ok,Sem.run_pure,hb,WX hsz,hm,hm',if_false,e1,e2,Qj]
   ·simp at hq
end
end Go.DL
namespace Go.DL
open Go
variable [Znt]
section
variable {P:Program} {g:G} {ν:Nat→Nat} {w:World} {L:Loc} {σ:St}
theorem Zmz {s:TypeId} {k:Nat} {f:Field} {x:Value} {e r:E} {side:Prop} {q:Q} (hf:ZfC P s k=some f)
  (hq0:(Zae P f.type=some true∧∃ n,YD P f.type=some n∧q = .fldN f.offset n)∨(Zae P f.type=some false∧q = .fld1 f.offset)) (hx:Z5 g ν w L x e)
  (hq:qv L σ q [e]=some (side,r)) (hs:side):∃ v,(Instr.field s x k).run P w = .ok v w∧Z5 g ν w L v r:=by
 obtain ⟨fs,hu,hk⟩:=ZmB hf
 rcases hq0 with ⟨ha,n,hn,rfl⟩ | ⟨ha,rfl⟩
 ·cases e with
  | d y =>
   cases y <;> simp only [qv,reduceCtorEq,ZvD,ZvL] at hq
   obtain ⟨rfl,rfl⟩:=hq
   cases hx with
   | agg vs cells hl h one =>
    rename_i cs
    refine ⟨.agg (vs.toArray.extract f.offset (f.offset + n)),?_,?_⟩
    ·simp [Instr.field,run_underlying hu,hk,asAgg,Go.part,ZeP ha,WX hn]
    ·have:vs.toArray.extract f.offset (f.offset + n)=((vs.drop f.offset).take n).toArray:=by
      apply Array.ext'
      simp [List.extract_eq_take_drop,Nat.add_sub_cancel_left]
     rw [this]
     exact Ziy (by simpa [part] using ((Wa hl h).drop f.offset).take n) (fun v hv=>one v (List.mem_of_mem_drop (List.mem_of_mem_take (by simpa using hv))))
  | loc l o=>simp [qv] at hq
  | when b e=>simp [qv] at hq
 ·cases e with
  | d y =>
   cases y <;> simp only [qv,reduceCtorEq,ZvO,ZvL] at hq
   obtain ⟨d,hd,rfl,rfl⟩:=hq
   cases hx with
   | agg vs cells hl h one =>
    obtain ⟨v,hv,hr⟩:=ZbR hl h hd
    exact ⟨v,by simp [Instr.field,run_underlying hu,hk,asAgg,Go.part,ZdG ha,hv],hr⟩
  | loc l o=>simp [qv] at hq
  | when b e=>simp [qv] at hq
theorem Zq3 {t:TypeId} {x i:Value} {ex ei r:E} {side:Prop} (hu:P.underlying t=some .string) (hx:Z5 g ν w L x ex) (hi:Z5 g ν w L i ei)
  (hq:qv L σ .idxS [ex,ei]=some (side,r)) (hs:side):∃ v,(Instr.index t x i).run P w = .ok v w∧Z5 g ν w L v r:=by
 cases ex with
 | d y =>
  cases y <;> (try (simp [qv] at hq; done))
  rename_i s
  cases ei with
  | d z =>
   cases z <;> simp only [qv,reduceCtorEq,ZvD,ZvL] at hq
   rename_i k j
   obtain ⟨rfl,hin⟩:=JD hi
   obtain ⟨s0,rfl,e0,hb⟩:=ZiA hx
   obtain ⟨rfl,rfl⟩:=hq
   obtain ⟨h0,h1⟩:=hs
   have hsz:s0.size=s.length:=by rw [← e0]; rfl
   have hlt:j.toNat < s0.size:=by omega
   have hget:s0[j.toNat]? = some (s.getD j.toNat 0):=by
    have h3:j.toNat < s.length:=by omega
    have:s0[j.toNat]? = s0.data.toList[j.toNat]?:=by
     rw [getElem?_pos s0 j.toNat hlt,Array.getElem?_toList,Array.getElem?_eq_getElem (show j.toNat < s0.data.size from hlt)]
     rfl
    rw [this,e0]
    simp [List.getD,List.getElem?_eq_getElem h3]
   refine ⟨_,?_,.int _ _ (Zod _)⟩
   simp [Instr.index,asIntOf,run_underlying hu,h0,hget]
  | loc l o=>simp [qv] at hq
  | when b e=>simp [qv] at hq
 | loc l o=>cases ei <;> simp [qv] at hq
 | when b e=>cases ei <;> simp [qv] at hq
theorem Zq2 {t e:TypeId} {m n:Nat} {b:Bool} {x i:Value} {ex ei r:E} {side:Prop} (hu:P.underlying t=some (.array m e)) (ha:Zae P e=some b) (hsz:YD P e=some n) (hx:Z5 g ν w L x ex) (hi:Z5 g ν w L i ei)
  (hq:qv L σ (.idxA m n !b) [ex,ei]=some (side,r)) (hs:side):∃ v,(Instr.index t x i).run P w = .ok v w∧Z5 g ν w L v r:=by
 cases ex with
 | d y =>
  cases y <;> (try (cases b <;> simp [qv] at hq; done))
  rename_i cs
  cases ei with
  | d z =>
   cases z <;> (try (cases b <;> simp [qv] at hq; done))
   rename_i k j
   obtain ⟨rfl,hin⟩:=JD hi
   cases hx with
   | agg vs _ hn h one =>
   cases b with
   | false =>
    simp only [Bool.not_false,qv,ZvO,ZvL] at hq
    obtain ⟨d,hd,rfl,rfl⟩:=hq
    obtain ⟨h0,h1⟩:=hs
    obtain ⟨v,hv,hr⟩:=ZbR hn h hd
    refine ⟨v,?_,hr⟩
    simp only [Instr.index,asIntOf,Sem.run_bind,Sem.run_pure,Result.andThen_ok,run_underlying hu,WX hsz]
    rw [if_pos ⟨h0,h1⟩]
    have hv':vs.toArray[j.toNat * n]? = some v:=by rw [List.getElem?_toArray]; exact hv
    rw [Sem.run_bind,WX hsz]
    exact ZcS ha hv'
   | true =>
    simp only [Bool.not_true,qv,ZvD,ZvL] at hq
    obtain ⟨rfl,rfl⟩:=hq
    obtain ⟨h0,h1,h2⟩:=hs
    have hlen:j.toNat * n + n≤vs.length:=by omega
    refine ⟨.agg (vs.toArray.extract (j.toNat * n) (j.toNat * n + n)),?_,?_⟩
    ·simp only [Instr.index,asIntOf,Sem.run_bind,Sem.run_pure,Result.andThen_ok,run_underlying hu,WX hsz]
     rw [if_pos ⟨h0,h1⟩]
     simp [Go.part,ZeP ha,WX hsz]
    ·have:(vs.toArray.extract (j.toNat * n) (j.toNat * n + n))=((vs.drop (j.toNat * n)).take n).toArray:=by
      apply Array.ext'
      simp [List.extract_eq_take_drop]
     rw [this]
     have hs2:part cs (j.toNat * n) n=(cs.drop (j.toNat * n)).take n:=rfl
     rw [hs2]
     have hall:=(Wa hn h).drop (j.toNat * n) |>.take n
     exact .agg _ _ hall.len hall.get (fun v hv=>one v (List.mem_of_mem_drop (List.mem_of_mem_take hv)))
  | loc l o=>cases b <;> simp [qv] at hq
  | when c e=>cases b <;> simp [qv] at hq
 | loc l o=>cases ei <;> cases b <;> simp [qv] at hq
 | when c e=>cases ei <;> cases b <;> simp [qv] at hq
theorem Zq7 {t:TypeId} {ts:Array TypeId} {x:Value} {e r:E} {side:Prop} (ht:ts[0]? = some t) (hu:P.underlying t=some .string) (hx:Z5 g ν w L x e)
  (hq:qv L σ .lenS [e]=some (side,r)) (ty:TypeId):∃ v,(Builtin.len_ ts ty #[x]).run P w = .ok v w∧Z5 g ν w L v r:=by
 cases e with
 | d y =>
  cases y <;> simp only [qv,reduceCtorEq,ZvD,ZvL] at hq
  obtain ⟨rfl,rfl⟩:=hq
  obtain ⟨s0,rfl,e0,hb⟩:=ZiA hx
  rename_i s
  have hsz:s0.size=s.length:=by rw [← e0]; rfl
  refine ⟨_,?_,.int _ _ (QK hb)⟩
  simp [Builtin.len_,ht,run_underlying hu,goInt,hsz]
 | loc l o=>simp [qv] at hq
 | when b e=>simp [qv] at hq
theorem Zq5 {t el:TypeId} {ts:Array TypeId} {x:Value} {e r:E} {side:Prop} (ht:ts[0]? = some t) (hu:P.underlying t=some (.slice el)) (hx:Z5 g ν w L x e)
  (hq:qv L σ .lenL [e]=some (side,r)) (ty:TypeId):∃ v,(Builtin.len_ ts ty #[x]).run P w = .ok v w∧Z5 g ν w L v r:=by
 cases e with
 | d y =>
  cases y <;> simp only [qv,reduceCtorEq,ZvD,ZvL] at hq
  ·obtain ⟨rfl,rfl⟩:=hq
   cases hx
   exact ⟨_,by simp [Builtin.len_,ht,run_underlying hu,goInt],.int _ _ (QK (n:=0) (Nat.zero_le _))⟩
  ·obtain ⟨rfl,rfl⟩:=hq
   cases hx with
   | sl0=>exact ⟨_,by simp [Builtin.len_,ht,run_underlying hu,goInt],.int _ _ (QK (n:=0) (Nat.zero_le _))⟩
   | sl b o _ cap _ _ _ f hl hc hp hr one ht' hcap hbig =>
    exact ⟨_,by simp [Builtin.len_,ht,run_underlying hu,goInt],.int _ _ (QK (by omega))⟩
  ·obtain ⟨rfl,rfl⟩:=hq
   cases hx with
   | mslx=>exact ⟨_,by simp [Builtin.len_,ht,run_underlying hu,goInt],.int _ _ (QK (n:=0) (Nat.zero_le _))⟩
   | msl _ _ _ _ _ h1 h2=>exact ⟨_,by simp [Builtin.len_,ht,run_underlying hu,goInt],.int _ _ (QK (by omega))⟩
 | loc l o=>simp [qv] at hq
 | when b e=>simp [qv] at hq
theorem Zq4 {t el:TypeId} {n:Nat} {ts:Array TypeId} {x:Value} {e r:E} {side:Prop} (ht:ts[0]? = some t) (hu:P.underlying t=some (.array n el))
  (hq:qv L σ (.lenA n) [e]=some (side,r)) (hs:side) (ty:TypeId):∃ v,(Builtin.len_ ts ty #[x]).run P w = .ok v w∧Z5 g ν w L v r:=by
 simp only [qv,ZvD,ZvL] at hq
 obtain ⟨rfl,rfl⟩:=hq
 refine ⟨.int .i64 n,?_,.int _ _ hs⟩
 simp only [Builtin.len_,ht]
 cases x <;> simp [run_underlying hu,goInt]
theorem Zh5 {x y:Value} {ex ey r:E} {side:Prop} (mx:Bool) (hx:Z5 g ν w L x ex) (hy:Z5 g ν w L y ey) (hq:qv L σ (if mx then .max else .min) [ex,ey]=some (side,r)) (ts:Array TypeId) (ty:TypeId) :
  ∃ v,(if mx then Builtin.max_ ts ty #[x,y] else Builtin.min_ ts ty #[x,y]).run P w = .ok v w∧Z5 g ν w L v r:=by
 cases ex with
 | d a =>
  cases a <;> (try (cases mx <;> simp [qv] at hq; done))
  rename_i k n
  cases ey with
  | d b =>
   cases b <;> (try (cases mx <;> simp [qv] at hq; done))
   rename_i k' m
   obtain ⟨rfl,h1⟩:=JD hx
   obtain ⟨rfl,h2⟩:=JD hy
   cases mx
   ·simp only [qv,Bool.false_eq_true,if_false] at hq
    split at hq <;> (try (simp at hq; done))
    rename_i hk; subst hk
    simp only [ZvD,ZvL] at hq
    obtain ⟨rfl,rfl⟩:=hq
    refine ⟨.int k (Min.min n m),?_,.int _ _ ?_⟩
    ·have:(if m < n then m else n)=Min.min n m:=by split <;> omega
     simp [Builtin.min_,Builtin.min2,this]
    ·unfold inR at *; omega
   ·simp only [qv,if_true] at hq
    split at hq <;> (try (simp at hq; done))
    rename_i hk; subst hk
    simp only [ZvD,ZvL] at hq
    obtain ⟨rfl,rfl⟩:=hq
    refine ⟨.int k (Max.max n m),?_,.int _ _ ?_⟩
    ·have:(if m > n then m else n)=Max.max n m:=by split <;> omega
     simp [Builtin.max_,Builtin.max2,this]
    ·unfold inR at *; omega
  | loc l o=>cases mx <;> simp [qv] at hq
  | when b e=>cases mx <;> simp [qv] at hq
 | loc l o=>cases mx <;> cases ey <;> simp [qv] at hq
 | when b e=>cases mx <;> cases ey <;> simp [qv] at hq
theorem ZmP {x:Value} {t xt:TypeId} {ok:Bool} {z:D} {e r:E} {side:Prop} (hu:∃ d,P.underlying t=some d∧∀ ms,d≠.interface ms) (hz:Zda P t=some z) (hx:Z5 g ν w L x e)
  (hq:qv L σ (.tassert t ok z) [e]=some (side,r)):∃ v,(Instr.typeAssert x xt t ok).run P w = .ok v w∧Z5 g ν w L v r:=by
 obtain ⟨d,hu,hni⟩:=hu
 have hzero:∃ zv,(zeroValue t).run P w = .ok zv w∧Rep g w zv z:=by
  unfold Zda at hz
  cases hi:P.info? t with
  | none=>simp [hi] at hz
  | some i =>
   cases hzz:i.zero with
   | none=>simp [hi,hzz] at hz
   | some zv=>simp only [hi,hzz] at hz; exact ⟨zv,by simp [zeroValue,typeInfo,hi,hzz],Zhg hz⟩
 cases e with
 | d y =>
  cases y <;> (try (cases ok <;> simp [qv] at hq; done))
  ·rename_i t' v'
   cases hx with
   | iface _ v _ hv =>
    cases ok
    ·simp only [qv] at hq
     split at hq <;> (try (simp at hq; done))
     rename_i htt; subst htt
     simp only [ZvD,ZvL] at hq
     obtain ⟨rfl,rfl⟩:=hq
     refine ⟨v,?_,hv⟩
     simp only [Instr.typeAssert,Sem.run_bind,run_underlying hu,Result.andThen_ok]
     cases d <;> first | (simp; done) | (exact absurd rfl (hni _))
    ·simp only [qv] at hq
     split at hq <;> (try (simp at hq; done))
     rename_i htt; subst htt
     simp only [ZvD,ZvL] at hq
     obtain ⟨rfl,rfl⟩:=hq
     refine ⟨.tuple #[v,.bool true],?_,?_⟩
     ·simp only [Instr.typeAssert,Sem.run_bind,run_underlying hu,Result.andThen_ok]
      cases d <;> first | (simp; done) | (exact absurd rfl (hni _))
     ·exact .tup [v,.bool true] _ rfl (ZZ.get (.cons hv (.cons (.bool true) .nil)))
  ·cases hx
   cases ok
   ·simp [qv] at hq
   ·simp only [qv,ZvD,ZvL] at hq
    obtain ⟨rfl,rfl⟩:=hq
    obtain ⟨zv,h1,h2⟩:=hzero
    refine ⟨.tuple #[zv,.bool false],?_,?_⟩
    ·simp only [Instr.typeAssert,Sem.run_bind,run_underlying hu,Result.andThen_ok]
     cases d <;> first | (simp [h1]; done) | (exact absurd rfl (hni _))
    ·exact .tup [zv,.bool false] _ rfl (ZZ.get (.cons h2 (.cons (.bool false) .nil)))
 | loc l o=>cases ok <;> simp [qv] at hq
 | when b e=>cases ok <;> simp [qv] at hq
end
end Go.DL
namespace Go.DL
open Go
variable [Znt]
section
variable {P:Program} {g:G} {w:World}
theorem ZbK {t:TypeId} {k:SK} (h:Jl P t=some k):(k = .bool∧P.underlying t=some .bool)∨(k = .int∧∃ ik,P.underlying t=some (.int ik))∨(k = .str∧P.underlying t=some .string):=by
 unfold Jl at h
 split at h <;> simp only [ZvD,reduceCtorEq] at h <;> subst h <;> rename_i hu
 ·exact .inl ⟨rfl,hu⟩
 ·exact .inr (.inl ⟨rfl,_,hu⟩)
 ·exact .inr (.inr ⟨rfl,hu⟩)
theorem ZdK {t:TypeId} {kp:KP} (h:Zaj P t=some kp):(∃ k,kp = .sc k∧Jl P t=some k) ∨
  ∃ fs l n,kp = .st l∧P.underlying t=some (.struct fs)∧YD P t=some n∧QJ P fs.toList=some l∧l.map (·.1)=List.range n∧P.stoodInHeld t=false:=by
 unfold Zaj at h
 split at h
 ·rename_i k hk
  simp only [ZvD] at h
  exact .inl ⟨k,h.symm,hk⟩
 ·split at h <;> (try (simp at h; done))
  rename_i fs n hu hn
  split at h <;> (try (simp at h; done))
  rename_i l hl
  split at h <;> simp only [ZvD,reduceCtorEq] at h
  rename_i hc
  exact .inr ⟨fs,l,n,h.symm,hu,hn,hl,hc.1,hc.2⟩
theorem Zi6 {kt:TypeId} {kp:KP} (hk:Zaj P kt=some kp) {k1 k2:Value} {d1 d2:D} (h1:Rep g w k1 d1) (h2:Rep g w k2 d2) {b:Bool} (h:Qt kp d1 d2=some b) :
  (Op.equal kt k1 k2).run P w = .ok b w:=by
 rcases ZdK hk with ⟨k,rfl,hs⟩ | ⟨fs,l,n,rfl,hu,hn,hl,_,hst⟩
 ·exact Zfn hs h1 h2 h 9999
 ·cases h1 <;> cases h2 <;> simp only [Qt,reduceCtorEq] at h
  rename_i v1 xs hn1 r1 o1 v2 ys hn2 r2 o2
  split at h <;> (try (simp at h; done))
  have hf:P.underlying kt=some (.struct (P.fieldsOf kt)):=by simp [Program.fieldsOf,hu]
  refine (run_equalIn_struct w 9999 kt _ _ hf hst).trans ?_
  simp only [Program.fieldsOf,hu]
  exact Zc1 hn1 hn2 r1 r2 9998 _ l b hl h
theorem ZcG (em:Bool) (n:Nat) {vs:List Value} {ds:List D} (hn:vs.length=ds.length):∀ (fs:List Field) (l:List (Nat × SK)) (b:Bool),QJ P fs=some l→KN ds ds l=some b →
  (do
   for f in fs do
    if f.name ≠ "_" then Instr.checkKey em (n + 1) f.type (← Go.part f.type vs.toArray f.offset):Sem Unit).run P w = .ok () w
 | [],_,_,_,_=>by simp
 | f :: fs,l,b,hl,hb=>by
  simp only [QJ] at hl
  by_cases hf:f.name = "_"
  ·simp only [hf,if_true] at hl
   have:=ZcG em n hn fs l b hl hb
   simp only [List.forIn_cons,hf,ne_eq,not_true_eq_false,if_false,Sem.run_bind,Sem.run_pure,Result.andThen_ok] at this ⊢
   exact this
  ·simp only [hf,if_false] at hl
   split at hl <;> simp only [ZvD,reduceCtorEq] at hl
   rename_i k l' hk hl'
   subst hl
   simp only [KN] at hb
   split at hb <;> (try (simp at hb; done))
   rename_i x y hx hy
   split at hb <;> (try (simp at hb; done))
   rename_i b1 b2 hb1 hb2
   have ih:=ZcG em n hn fs l' b2 hl' hb2
   have hlt:f.offset < vs.length:=by rw [hn]; exact (List.getElem?_eq_some_iff.1 hx).1
   have hv:vs.toArray[f.offset]? = some vs[f.offset]:=by simp [hlt]
   have hp:=ZcS (P:=P) (w:=w) (Zbx hk) hv
   have hck:(Instr.checkKey em (n + 1) f.type vs[f.offset]).run P w = .ok () w:=by
    rcases ZbK hk with ⟨_,hu⟩ | ⟨_,ik,hu⟩ | ⟨_,hu⟩ <;> simp [Instr.checkKey,run_underlying hu]
   simp only [List.forIn_cons,hf,ne_eq,not_false_eq_true,if_true,Sem.run_bind,hp,Result.andThen_ok,hck,Sem.run_pure] at ih ⊢
   exact ih
theorem ZnH {kt:TypeId} {kp:KP} (hk:Zaj P kt=some kp) {k:Value} {d:D} (h:Rep g w k d) (hok:Jg kp d=true) (em:Bool) (n:Nat):(Instr.checkKey em (n + 2) kt k).run P w = .ok () w:=by
 rcases ZdK hk with ⟨sk,rfl,hs⟩ | ⟨fs,l,m,rfl,hu,hn,hl,_,hst⟩
 ·rcases ZbK hs with ⟨_,hu⟩ | ⟨_,ik,hu⟩ | ⟨_,hu⟩ <;> simp [Instr.checkKey,run_underlying hu]
 ·cases h <;> simp only [Jg,Qt,Option.isSome_none,Bool.false_eq_true] at hok
  rename_i vs cells hn r o
  obtain ⟨b,hb⟩:=Option.isSome_iff_exists.1 hok
  split at hb <;> (try (simp at hb; done))
  have:=ZcG (P:=P) (w:=w) em n hn fs.toList l b hl hb
  rw [Instr.checkKey]
  simp only [Sem.run_bind,run_underlying hu,Result.andThen_ok]
  rw [← Array.forIn_toList]
  simp only [ne_eq,ite_not] at this ⊢
  first
   | (simp at this; simp [this,Result.andThen])
   | simp [this]
theorem Zbp {kt:TypeId} {kp:KP} (hk:Zaj P kt=some kp) {k:Value} {d:D} (h:Rep g w k d) (hok:Jg kp d=true) (em:Bool):(Instr.checkKey em 10000 kt k).run P w = .ok () w:=ZnH hk h hok em 9998
theorem Zma {kp:KP} {k:D}:∀ {es:List (D × D)} {r:Option D},ZbG kp k es=some r→∃ io,Q7 kp k es=some io∧r=io.bind fun i=>(es[i]?).map (·.2)
 | [],r,h=>by simp only [ZbG,ZvD] at h; exact ⟨none,rfl,h.symm⟩
 | e :: es,r,h=>by
  simp only [ZbG] at h
  split at h
  ·rename_i he; simp only [ZvD] at h; exact ⟨some 0,by simp [Q7,he],by simp [h]⟩
  ·rename_i he
   obtain ⟨io,h1,h2⟩:=Zma h
   refine ⟨io.map (· + 1),by simp [Q7,he,h1],?_⟩
   rw [h2]; cases io <;> simp
  ·simp at h
theorem ZjT {kp:KP} {k v:D}:∀ {es es':List (D × D)},ZaC kp k v es=some es'→∃ io,Q7 kp k es=some io∧es'=match io with
  | none=>es++[(k,v)]
  | some i=>es.set i (k,v)
 | [],es',h=>by simp only [ZaC,ZvD] at h; exact ⟨none,rfl,h.symm⟩
 | e :: es,es',h=>by
  simp only [ZaC] at h
  split at h
  ·rename_i he; simp only [ZvD] at h; exact ⟨some 0,by simp [Q7,he],by simp [h]⟩
  ·rename_i he
   simp only [ZvO] at h
   obtain ⟨r,hr,rfl⟩:=h
   obtain ⟨io,h1,h2⟩:=ZjT hr
   refine ⟨io.map (· + 1),by simp [Q7,he,h1],?_⟩
   rw [h2]; cases io <;> simp
  ·simp at h
theorem ZnW {kp:KP} {k:D}:∀ {es es':List (D × D)},Zfc kp k es=some es'→∃ io,Q7 kp k es=some io∧es'=match io with
  | none=>es
  | some i=>es.eraseIdx i
 | [],es',h=>by simp only [Zfc,ZvD] at h; exact ⟨none,rfl,h.symm⟩
 | e :: es,es',h=>by
  simp only [Zfc] at h
  split at h
  ·rename_i he; simp only [ZvD] at h; exact ⟨some 0,by simp [Q7,he],by simp [h]⟩
  ·rename_i he
   simp only [ZvO] at h
   obtain ⟨r,hr,rfl⟩:=h
   obtain ⟨io,h1,h2⟩:=ZnW hr
   refine ⟨io.map (· + 1),by simp [Q7,he,h1],?_⟩
   rw [h2]; cases io <;> simp
  ·simp at h
theorem ZcL {kp:KP} {k:D}:∀ {es:List (D × D)} {i:Nat},Q7 kp k es=some (some i)→i < es.length∧∀ e,es[i]? = some e→Qt kp k e.1=some true
 | [],i,h=>by simp [Q7] at h
 | e :: es,i,h=>by
  simp only [Q7] at h
  split at h
  ·rename_i he; simp only [ZvD] at h; subst h; exact ⟨by simp,fun x hx=>by simp at hx; subst hx; exact he⟩
  ·simp only [ZvO] at h
   obtain ⟨io,h1,h2⟩:=h
   cases io with
   | none=>simp at h2
   | some j =>
    obtain ⟨j',h3,h4⟩:=h2
    simp only [ZvD] at h3
    subst h3; subst h4
    obtain ⟨a,b⟩:=ZcL h1
    exact ⟨by simp; omega,fun x hx=>b x (by simpa using hx)⟩
  ·simp at h
theorem Zkt {kt:TypeId} {kp:KP} (hk:Zaj P kt=some kp) {k:Value} {dk:D} (hr:Rep g w k dk):∀ (es:List MapEntry) (ds:List (D × D)) (n:Nat) (io:Option Nat),es.length=ds.length →
  (∀ (i:Nat) (e:MapEntry) (d:D × D),es[i]? = some e→ds[i]? = some d→Rep g w e.key d.1)→Q7 kp dk ds=some io →
  (Instr.findAsking kt k es n).run P w = .ok (io.bind fun i=>(es[i]?).map fun e=>(n + i,e.val)) w
 | [],[],n,io,_,_,h=>by simp only [Q7,ZvD] at h; subst h; simp [Instr.findAsking]
 | e :: es,d :: ds,n,io,hn,hkey,h=>by
  simp only [Q7] at h
  have h0:=hkey 0 e d (by simp) (by simp)
  split at h
  ·rename_i he
   simp only [ZvD] at h; subst h
   simp [Instr.findAsking,Zi6 hk hr h0 he]
  ·rename_i he
   simp only [ZvO] at h
   obtain ⟨io',h1,rfl⟩:=h
   have ih:=Zkt hk hr es ds (n + 1) io' (by simpa using hn) (fun i e d a b=>hkey (i + 1) e d (by simpa using a) (by simpa using b)) h1
   simp only [Instr.findAsking,Sem.run_bind,Zi6 hk hr h0 he,Result.andThen_ok,Bool.false_eq_true,if_false,ih]
   cases io' <;> simp [Nat.add_assoc,Nat.add_comm 1]
  ·simp at h
 | [],_ :: _,_,_,hn,_,_=>by simp at hn
 | _ :: _,[],_,_,hn,_,_=>by simp at hn
theorem ZkY {t:TypeId} {k:SK} {u:TypeDesc} (hs:Jl P t=some k) (hu:P.underlying t=some u) {k1 k2:Value} {d1 d2:D} (h1:Rep g w k1 d1) (h2:Rep g w k2 d2) {b:Bool} (h:Wg k d1 d2=some b) :
  Instr.sameNow u k1 k2=some b:=by
 rcases ZbK hs with ⟨rfl,hu'⟩ | ⟨rfl,ik,hu'⟩ | ⟨rfl,hu'⟩ <;> (rw [hu] at hu'; simp only [ZvD] at hu'; subst hu')
 ·cases h1 <;> cases h2 <;> simp only [Wg,reduceCtorEq,ZvD] at h
  subst h
  simp [Instr.sameNow]
  rename_i a b; cases a <;> cases b <;> rfl
 ·cases h1 <;> cases h2 <;> simp only [Wg,reduceCtorEq] at h
  split at h <;> simp only [reduceCtorEq,ZvD] at h
  rename_i hk
  subst h
  simp only [Instr.sameNow,hk,if_true,ZvD]
  rename_i a _ _ b _; rw [Bool.eq_iff_iff]; simp
 ·cases h1 <;> cases h2 <;> simp only [Wg,reduceCtorEq,ZvD] at h
  rename_i s1 a e1 _ s2 b e2 _
  subst h
  simp only [Instr.sameNow,ZvD]
  rw [beq_toListBytes,ZcV e1,ZcV e2,Bool.eq_iff_iff]; simp
theorem Zkv {t:TypeId} {sk:SK} {u:TypeDesc} (hs:Jl P t=some sk) (hu:P.underlying t=some u) {k:Value} {dk:D} (hr:Rep g w k dk):∀ (es:List MapEntry) (ds:List (D × D)) (n:Nat) (io:Option Nat),es.length=ds.length →
  (∀ (i:Nat) (e:MapEntry) (d:D × D),es[i]? = some e→ds[i]? = some d→Rep g w e.key d.1)→Q7 (.sc sk) dk ds=some io →
  Instr.findNow u k es n=some (io.bind fun i=>(es[i]?).map fun e=>(n + i,e.val))
 | [],[],n,io,_,_,h=>by simp only [Q7,ZvD] at h; subst h; simp [Instr.findNow]
 | e :: es,d :: ds,n,io,hn,hkey,h=>by
  simp only [Q7] at h
  have h0:=hkey 0 e d (by simp) (by simp)
  split at h
  ·rename_i he
   simp only [ZvD] at h; subst h
   simp [Instr.findNow,ZkY hs hu hr h0 he]
  ·rename_i he
   simp only [ZvO] at h
   obtain ⟨io',h1,rfl⟩:=h
   have ih:=Zkv hs hu hr es ds (n + 1) io' (by simpa using hn) (fun i e d a b=>hkey (i + 1) e d (by simpa using a) (by simpa using b)) h1
   simp only [Instr.findNow,ZkY hs hu hr h0 he,ih]
   cases io' <;> simp [Nat.add_assoc,Nat.add_comm 1]
  ·simp at h
 | [],_ :: _,_,_,hn,_,_=>by simp at hn
 | _ :: _,[],_,_,hn,_,_=>by simp at hn
theorem Zcl {kt:TypeId} {kp:KP} (hk:Zaj P kt=some kp) {k:Value} {dk:D} (hr:Rep g w k dk) {es:List MapEntry} {ds:List (D × D)} {io:Option Nat} (hn:es.length=ds.length)
  (hkey:∀ (i:Nat) (e:MapEntry) (d:D × D),es[i]? = some e→ds[i]? = some d→Rep g w e.key d.1) (h:Q7 kp dk ds=some io) :
  (Instr.findKey kt k es).run P w = .ok (io.bind fun i=>(es[i]?).map fun e=>(i,e.val)) w:=by
 rcases ZdK hk with ⟨sk,rfl,hs⟩ | ⟨fs,l,m,rfl,hu,_,_,_,_⟩
 ·obtain ⟨u,hu⟩:∃ u,P.underlying kt=some u:=by rcases ZbK hs with ⟨_,hu⟩ | ⟨_,ik,hu⟩ | ⟨_,hu⟩ <;> exact ⟨_,hu⟩
  have:=Zkv hs hu hr es ds 0 io hn hkey h
  simp only [Nat.zero_add] at this
  simp [Instr.findKey,run_underlying hu,this]
 ·have ha:=Zkt hk hr es ds 0 io hn hkey h
  simp only [Nat.zero_add] at ha
  cases es with
  | nil =>
   cases ds with
   | nil=>simp only [Q7,ZvD] at h; subst h; simp [Instr.findKey,run_underlying hu,Instr.findNow]
   | cons=>simp at hn
  | cons e es =>
   have:Instr.findNow (.struct fs) k (e :: es) 0=none:=by
    simp only [Instr.findNow,Instr.sameNow]
   simp only [Instr.findKey,Sem.run_bind,run_underlying hu,Result.andThen_ok,this,ha]
theorem Zek {σ:St} (hS:Wo g σ w) {b:Nat} {es:List (D × D)} (h:QM σ b=some es):Qb g w b (.map es):=by
 unfold QM at h
 split at h <;> simp at h
 rename_i c hc
 subst h
 exact hS.obj b _ hc
theorem ZoX {t:TypeId} {z:D} (hz:Zda P t=some z):∃ zv,(zeroValue t).run P w = .ok zv w∧Rep g w zv z:=by
 unfold Zda at hz
 cases hi:P.info? t with
 | none=>simp [hi] at hz
 | some i =>
  cases hzz:i.zero with
  | none=>simp [hi,hzz] at hz
  | some zv=>simp only [hi,hzz] at hz; exact ⟨zv,by simp [zeroValue,typeInfo,hi,hzz],Zhg hz⟩
theorem ZgA {a b:Value} {x y:D} (h1:Rep g w a x) (h2:Rep g w b y):Rep g w (.tuple #[a,b]) (.tup [x,y]) :=
 .tup [a,b] _ rfl (ZZ.get (.cons h1 (.cons h2 .nil)))
theorem ZoP {ν:Nat→Nat} {L:Loc} {σ:St} (hS:Wo g σ w) {t kt et:TypeId} {kp:KP} {z:D} {ok:Bool} (hu:P.underlying t=some (.map kt et)) (hk:Zaj P kt=some kp) (hz:Zda P et=some z) {m k:Value} {em ek r:E} {side:Prop}
  (hm:Z5 g ν w L m em) (hkk:Z5 g ν w L k ek) (hq:qv L σ (.lookup kp z ok) [em,ek]=some (side,r)) (hs:side):∃ v,(Instr.lookup t m k ok).run P w = .ok v w∧Z5 g ν w L v r:=by
 obtain ⟨zv,hz1,hz2⟩:=ZoX (P:=P) (g:=g) (w:=w) hz
 cases em with
 | loc l o=>cases ek <;> simp [qv] at hq
 | when c e=>cases ek <;> simp [qv] at hq
 | d dm =>
  cases ek with
  | loc l o=>cases dm <;> simp [qv] at hq
  | when c e=>cases dm <;> simp [qv] at hq
  | d dk =>
   have hr:Rep g w k dk:=hkk
   cases dm <;> (try (simp [qv] at hq; done))
   ·rename_i b
    simp only [qv] at hq
    split at hq <;> (try (simp at hq; done))
    rename_i es hes
    simp only [ZvO,ZvL] at hq
    obtain ⟨ro,hf,rfl,rfl⟩:=hq
    obtain ⟨hp0,en,clock,hb,hlen,h3,h4,h5,h6⟩:=Zek hS hes
    obtain ⟨io,hio,hro⟩:=Zma hf
    cases hm
    have hfind:=Zcl (P:=P) hk hr (es:=en.toList) (by simpa using hlen) (fun i e d a b=>h3 i e d (by simpa using a) b) hio
    have hck:=Zbp (P:=P) hk hr hs en.isEmpty
    have hfz:(en.toList=[] )∨True:=.inr trivial
    cases io with
    | none =>
     simp only [Option.bind_none] at hfind hro
     subst hro
     cases ok
     ·exact ⟨zv,by simp [Instr.lookup,run_underlying hu,MapKept.run_getObj_map hb,hck,hfind,hz1],by simpa [KJ,Z5] using hz2⟩
     ·exact ⟨.tuple #[zv,.bool false],by simp [Instr.lookup,run_underlying hu,MapKept.run_getObj_map hb,hck,hfind,hz1],by simpa [KJ,Z5] using ZgA hz2 (.bool false)⟩
    | some i =>
     obtain ⟨hlt,_⟩:=ZcL hio
     have hlt':i < en.size:=by omega
     have he:en[i]? = some en[i]:=by simp [hlt']
     have hd:es[i]? = some es[i]:=by simp [hlt]
     have hrv:=h4 i _ _ he hd
     simp only [Option.bind_some,hd,Option.map_some] at hro
     subst hro
     simp only [Option.bind_some,Array.getElem?_toList,he,Option.map_some] at hfind
     cases ok
     ·exact ⟨en[i].val,by simp [Instr.lookup,run_underlying hu,MapKept.run_getObj_map hb,hck,hfind],by simpa [KJ,Z5] using hrv⟩
     ·exact ⟨.tuple #[en[i].val,.bool true],by simp [Instr.lookup,run_underlying hu,MapKept.run_getObj_map hb,hck,hfind],by simpa [KJ,Z5] using ZgA hrv (.bool true)⟩
   ·simp only [qv,ZvD,ZvL] at hq
    obtain ⟨rfl,rfl⟩:=hq
    cases hm
    have hck:=Zbp (P:=P) hk hr hs true
    have hfind:=Zcl (P:=P) hk hr (es:=[]) (ds:=[]) rfl (fun i e d a b=>by simp at a) (io:=none) rfl
    simp only [Option.bind_none] at hfind
    cases ok
    ·exact ⟨zv,by simp [Instr.lookup,run_underlying hu,hck,hfind,hz1],by simpa [KJ,Z5] using hz2⟩
    ·exact ⟨.tuple #[zv,.bool false],by simp [Instr.lookup,run_underlying hu,hck,hfind,hz1],by simpa [KJ,Z5] using ZgA hz2 (.bool false)⟩
theorem Zq6 {ν:Nat→Nat} {L:Loc} {σ:St} (hS:Wo g σ w) {t kt et:TypeId} {ts:Array TypeId} {x:Value} {e r:E} {side:Prop} (ht:ts[0]? = some t) (hu:P.underlying t=some (.map kt et)) (hx:Z5 g ν w L x e)
  (hq:qv L σ .lenM [e]=some (side,r)) (hs:side) (ty:TypeId):∃ v,(Builtin.len_ ts ty #[x]).run P w = .ok v w∧Z5 g ν w L v r:=by
 cases e with
 | loc l o=>simp [qv] at hq
 | when c e=>simp [qv] at hq
 | d y =>
  cases y <;> (try (simp [qv] at hq; done))
  ·simp only [qv] at hq
   split at hq <;> (try (simp at hq; done))
   rename_i es hes
   simp only [ZvD,ZvL] at hq
   obtain ⟨rfl,rfl⟩:=hq
   obtain ⟨hp0,en,clock,hb,hlen,_⟩:=Zek hS hes
   cases hx
   exact ⟨.int .i64 es.length,by simp [Builtin.len_,ht,run_underlying hu,MapKept.run_getObj_map hb,goInt,hlen],.int _ _ (QK hs)⟩
  ·simp only [qv,ZvD,ZvL] at hq
   obtain ⟨rfl,rfl⟩:=hq
   cases hx
   exact ⟨.int .i64 0,by simp [Builtin.len_,ht,run_underlying hu,goInt],.int _ _ (QK (n:=0) (Nat.zero_le _))⟩
end
end Go.DL
namespace Go.DL
open Go
variable [Znt]
section
variable {P:Program} {g:G} {ν:Nat→Nat} {w:World} {L:Loc} {σ:St}
theorem Zpe {t:TypeId} {parts:Array (Nat × Operand)} {z:Value} {pl:List (Nat × Nat)} {zs:List D} {ρv:Operand→Value} {es:List E} (hz:(P.info? t).bind (·.zero)=some z)
  (hp:Q3 P t (parts.toList.map (·.1))=some pl) (hsz:Zh4 P t=true) (hzs:Zbq z.cells.toList=some zs) (hes:ZZ (Z5 g ν w L) ((parts.toList.map (·.2)).map ρv) es) {side:Prop} {r:E}
  (hq:qv L σ (.build zs pl) es=some (side,r)):∃ v,(Instr.build t (parts.map fun (i,x)=>(i,ρv x))).run P w = .ok v w∧Z5 g ν w L v r:=by
 simp only [qv] at hq
 split at hq <;> (try (simp at hq; done))
 rename_i ds hds
 simp only [ZvO,ZvL] at hq
 obtain ⟨cs,hcs,rfl,rfl⟩:=hq
 have hne:∃ d,P.underlying t=some d∧((∃ fs,d = .struct fs)∨∃ m e i,d = .array m e∧P.info? e=some i):=by
  unfold Zh4 at hsz
  split at hsz
  ·rename_i fs hu; exact ⟨_,hu,.inl ⟨fs,rfl⟩⟩
  ·rename_i m e hu
   unfold YD at hsz
   cases hi:P.info? e with
   | none=>simp [hi] at hsz
   | some i=>exact ⟨_,hu,.inr ⟨m,e,i,rfl,hi⟩⟩
  ·simp at hsz
 have hreps:=QU hes hds
 obtain ⟨cv,h1,h2⟩:=ZsI (g:=g) (w:=w) (parts:=parts.toList.map fun (i,x)=>(i,ρv x)) hz (by simpa [List.map_map,Function.comp_def] using hp) hsz hzs
  (by simpa [List.map_map,Function.comp_def] using hreps) hcs hne
 refine ⟨_,?_,h2⟩
 rw [← h1]
 congr 2
 apply Array.ext'
 simp
theorem Zq8 {f:Fn} {first caps:Array Operand} {ρv:Operand→Value} {es:List E} (hes:ZZ (Z5 g ν w L) ((first.toList++caps.toList).map ρv) es) {side:Prop} {r:E}
  (hq:qv L σ (.mkfn f first.size) es=some (side,r)):∃ v,(Instr.makeFunc f (first.map ρv) (caps.map ρv)).run P w = .ok v w∧Z5 g ν w L v r:=by
 simp only [qv,ZvO,ZvL] at hq
 obtain ⟨ds,hds,rfl,rfl⟩:=hq
 have h:=QU hes hds
 have h1:=h.take first.size
 have h2:=h.drop first.size
 have e1:((first.toList++caps.toList).map ρv).take first.size=(first.map ρv).toList:=by simp
 have e2:((first.toList++caps.toList).map ρv).drop first.size=(caps.map ρv).toList:=by simp
 rw [e1] at h1
 rw [e2] at h2
 have:=Rep.fn (g:=g) (w:=w) f _ _ _ _ h1.len h2.len h1.get h2.get
 rw [Array.toArray_toList,Array.toArray_toList] at this
 exact ⟨_,by simp only [Instr.makeFunc,Sem.run_pure],this⟩
theorem ZaK {α:Type} {a:Array α} (h:a.size=1):∃ x,a = #[x]:=by
 obtain ⟨l⟩:=a
 match l,h with
 | [x],_=>exact ⟨x,rfl⟩
theorem Ze8 {α:Type} {a:Array α} (h:a.size=2):∃ x y,a = #[x,y]:=by
 obtain ⟨l⟩:=a
 match l,h with
 | [x,y],_=>exact ⟨x,y,rfl⟩
theorem Zue {o:Op} {q:Q} {xs:List Operand} (hc:cq P o=some (q,xs)) {ρv:Operand→Value} {es:List E} (hes:ZZ (Z5 g ν w L) (xs.map ρv) es)
  (hL:∀ l cs,Zl L l=some cs→Kn g w (ν l) cs) (hS:Wo g σ w) {side:Prop} {e:E} (hq:qv L σ q es=some (side,e)) (hs:side)
  (dst:Option Nat) (ty:TypeId) (pos:String) (af:Array Edge) (gd:Option (Nat × Bool)) :
  ∃ v,(execOp ρv ⟨dst,o,ty,pos,af,gd⟩).run P w = .ok (.value v) w∧Z5 g ν w L v e:=by
 cases o <;> (try (simp [cq] at hc; done))
 case move x =>
  simp only [cq,ZvD,ZvL] at hc
  obtain ⟨rfl,rfl⟩:=hc
  obtain ⟨e0,rfl,h0⟩:=KR hes
  simp only [qv,ZvD,ZvL] at hq
  obtain ⟨rfl,rfl⟩:=hq
  exact ⟨_,rfl,h0⟩
 case assign x =>
  simp only [cq,ZvD,ZvL] at hc
  obtain ⟨rfl,rfl⟩:=hc
  obtain ⟨e0,rfl,h0⟩:=KR hes
  simp only [qv,ZvD,ZvL] at hq
  obtain ⟨rfl,rfl⟩:=hq
  exact ⟨_,rfl,h0⟩
 case load t a =>
  simp only [cq] at hc
  split at hc <;> (try (simp at hc; done))
  ·rename_i n ha hsz
   simp only [ZvD,ZvL] at hc
   obtain ⟨rfl,rfl⟩:=hc
   obtain ⟨e0,rfl,h0⟩:=KR hes
   exact ev (Zpi ha hsz h0 hL hS hq hs)
  ·rename_i n ha hsz
   simp only [ZvD,ZvL] at hc
   obtain ⟨rfl,rfl⟩:=hc
   obtain ⟨e0,rfl,h0⟩:=KR hes
   exact ev (Zph ha h0 hL hS hq)
 case nilCheck x =>
  simp only [cq,ZvD,ZvL] at hc
  obtain ⟨rfl,rfl⟩:=hc
  obtain ⟨e0,rfl,h0⟩:=KR hes
  exact Zpj rfl h0 hq dst ty pos af gd
 case binOp op t x y yt =>
  simp only [cq,ZvD,ZvL] at hc
  obtain ⟨rfl,rfl⟩:=hc
  obtain ⟨e1,e2,rfl,h1,h2⟩:=ZaO hes
  cases e1 with
  | d a =>
   cases e2 with
   | d b =>
    simp only [qv,ZvO,ZvL] at hq
    obtain ⟨⟨s',d⟩,hd,rfl,rfl⟩:=hq
    exact ev (ZtO (P:=P) h1 h2 hd hs)
   | loc l o=>simp [qv] at hq
   | when b e=>simp [qv] at hq
  | loc l o=>cases e2 <;> simp [qv] at hq
  | when b e=>cases e2 <;> simp [qv] at hq
 case unOp op t x =>
  cases op <;> simp only [cq,ZvD,ZvL,reduceCtorEq] at hc
  all_goals obtain ⟨rfl,rfl⟩:=hc
  all_goals obtain ⟨e0,rfl,h0⟩:=KR hes
  all_goals cases e0 with
   | loc l o=>simp [qv] at hq
   | when b e=>simp [qv] at hq
   | d y=>?_
  ·cases y <;> simp only [qv,reduceCtorEq,ZvD,ZvL] at hq
   obtain ⟨rfl,rfl⟩:=hq
   obtain ⟨hv,hin⟩:=JD h0
   exact ev ⟨.int _ _,by simp only [hv,Op.unary,Op.intArith,Sem.run_pure,Int.zero_sub]; rw [ZcX _ _ hs],.int _ _ hs⟩
  ·cases y <;> simp only [qv,reduceCtorEq,ZvD,ZvL] at hq
   obtain ⟨rfl,rfl⟩:=hq
   obtain ⟨hv,hin⟩:=JD h0
   exact ev ⟨_,by simp only [hv,Op.unary,Op.intBits,Sem.run_pure]; rfl,.int _ _ (ZlV _ _)⟩
  ·cases y <;> simp only [qv,reduceCtorEq,ZvD,ZvL] at hq
   obtain ⟨rfl,rfl⟩:=hq
   have hv:=ZbQ h0
   exact ev ⟨_,by simp only [hv,Op.unary,Sem.run_pure],.bool _⟩
 case convert s d x =>
  simp only [cq,ZvO,ZvL] at hc
  obtain ⟨c,hc,rfl,rfl⟩:=hc
  obtain ⟨e0,rfl,h0⟩:=KR hes
  exact ev (Zq1 hS hc h0 hq hs)
 case fieldAddr s x k =>
  simp only [cq] at hc
  split at hc <;> (try (simp at hc; done))
  rename_i f hf
  split at hc <;> (try (simp at hc; done))
  rename_i n hn
  split at hc <;> (try (simp at hc; done))
  rename_i hn0
  simp only [ZvD,ZvL] at hc
  obtain ⟨rfl,rfl⟩:=hc
  obtain ⟨e0,rfl,h0⟩:=KR hes
  exact ev (Zpf hf hn hn0 h0 hq)
 case field s x k =>
  simp only [cq] at hc
  split at hc <;> (try (simp at hc; done))
  rename_i f hf
  split at hc <;> (try (simp at hc; done))
  ·rename_i n ha hn
   simp only [ZvD,ZvL] at hc
   obtain ⟨rfl,rfl⟩:=hc
   obtain ⟨e0,rfl,h0⟩:=KR hes
   exact ev (Zmz hf (.inl ⟨ha,n,hn,rfl⟩) h0 hq hs)
  ·rename_i n ha hn
   simp only [ZvD,ZvL] at hc
   obtain ⟨rfl,rfl⟩:=hc
   obtain ⟨e0,rfl,h0⟩:=KR hes
   exact ev (Zmz hf (.inr ⟨ha,rfl⟩) h0 hq hs)
 case indexAddr t x i =>
  simp only [cq] at hc
  split at hc <;> (try (simp at hc; done))
  ·rename_i el hu
   simp only [ZvO,ZvL] at hc
   obtain ⟨n,hn,rfl,rfl⟩:=hc
   obtain ⟨e1,e2,rfl,h1,h2⟩:=ZaO hes
   exact ev (Zpg hu hn h1 h2 hq hs)
  ·rename_i m el hu
   simp only [ZvO,ZvL] at hc
   obtain ⟨n,hn,rfl,rfl⟩:=hc
   obtain ⟨e1,e2,rfl,h1,h2⟩:=ZaO hes
   exact ev (ZoO hu hn h1 h2 hq hs)
 case index t x i =>
  simp only [cq] at hc
  split at hc <;> (try (simp at hc; done))
  ·rename_i hu
   simp only [ZvD,ZvL] at hc
   obtain ⟨rfl,rfl⟩:=hc
   obtain ⟨e1,e2,rfl,h1,h2⟩:=ZaO hes
   exact ev (Zq3 hu h1 h2 hq hs)
  ·rename_i m el hu
   split at hc <;> simp only [ZvD,ZvL,reduceCtorEq] at hc
   rename_i b n hb hn
   obtain ⟨rfl,rfl⟩:=hc
   obtain ⟨e1,e2,rfl,h1,h2⟩:=ZaO hes
   exact ev (Zq2 hu hb hn h1 h2 hq hs)
 case extract x k =>
  simp only [cq,ZvD,ZvL] at hc
  obtain ⟨rfl,rfl⟩:=hc
  obtain ⟨e0,rfl,h0⟩:=KR hes
  cases e0 with
  | loc l o=>simp [qv] at hq
  | when b e=>simp [qv] at hq
  | d y =>
   cases y <;> simp only [qv,reduceCtorEq,ZvO,ZvL] at hq
   obtain ⟨d,hd,rfl,rfl⟩:=hq
   have h0':Rep g w (ρv x) _:=h0
   generalize hz:ρv x=z at h0'
   cases h0' with
   | tup vs _ hn h =>
    obtain ⟨v,hv,hr⟩:=ZbR hn h hd
    exact ev ⟨v,by simp [Instr.extract,hz,hv],hr⟩
 case build t parts =>
  simp only [cq] at hc
  split at hc <;> (try (simp at hc; done))
  rename_i z pl hz hp
  split at hc <;> (try (simp at hc; done))
  rename_i hsz
  simp only [ZvO,ZvL] at hc
  obtain ⟨zs,hzs,rfl,rfl⟩:=hc
  exact ev (Zpe hz hp hsz hzs hes hq)
 case makeFunc f first caps =>
  simp only [cq,ZvD,ZvL] at hc
  obtain ⟨rfl,rfl⟩:=hc
  exact ev (Zq8 hes hq)
 case makeInterface t x =>
  simp only [cq] at hc
  split at hc <;> (try (simp at hc; done))
  rename_i d hni hu
  simp only [ZvD,ZvL] at hc
  obtain ⟨rfl,rfl⟩:=hc
  obtain ⟨e0,rfl,h0⟩:=KR hes
  cases e0 with
  | loc l o=>simp [qv] at hq
  | when b e=>simp [qv] at hq
  | d y =>
   simp only [qv,ZvD,ZvL] at hq
   obtain ⟨rfl,rfl⟩:=hq
   refine ev ⟨.iface t (ρv x),?_,.iface _ _ _ h0⟩
   refine run_makeInterface w t (ρv x) ?_
   unfold Program.concrete
   rw [hu]
   cases d <;> first | rfl | (exact absurd rfl (hni _))
 case slice t x lo hi mx =>
  simp only [cq] at hc
  split at hc <;> (try (simp at hc; done))
  ·rename_i hu
   split at hc <;> (try (simp at hc; done))
   rename_i hmx
   simp only [ZvD,ZvL] at hc
   obtain ⟨rfl,rfl⟩:=hc
   cases mx with
   | some _=>simp at hmx
   | none=>exact ev (ZoR hu hes hq hs)
  ·rename_i el hu
   split at hc <;> (try (simp at hc; done))
   rename_i hmx
   simp only [ZvO,ZvL] at hc
   obtain ⟨n,hn,rfl,rfl⟩:=hc
   exact ev (Zpk hu hn (by cases mx <;> cases hi <;> simp_all) hes hq hs)
  ·rename_i k el hu
   split at hc <;> (try (simp at hc; done))
   rename_i hmx
   simp only [ZvO,ZvL] at hc
   obtain ⟨n,hn,rfl,rfl⟩:=hc
   exact ev (ZoQ hu hn (by cases mx <;> cases hi <;> simp_all) hes hq hs)
 case typeAssert x xt t ok =>
  simp only [cq] at hc
  split at hc <;> (try (simp at hc; done))
  rename_i d hni hu
  simp only [ZvO,ZvL] at hc
  obtain ⟨z,hz,rfl,rfl⟩:=hc
  obtain ⟨e0,rfl,h0⟩:=KR hes
  exact ev (ZmP ⟨d,hu,fun ms hm=>hni ms (hm ▸ rfl)⟩ hz h0 hq)
 case lookup t m k ok =>
  simp only [cq] at hc
  split at hc <;> (try (simp at hc; done))
  rename_i kt et hu
  split at hc <;> (try (simp at hc; done))
  rename_i kp z hk hz
  simp only [ZvD,ZvL] at hc
  obtain ⟨rfl,rfl⟩:=hc
  obtain ⟨e1,e2,rfl,h1,h2⟩:=ZaO hes
  exact ev (ZoP hS hu hk hz h1 h2 hq hs)
 case call c =>
  obtain ⟨callee,args,ats⟩:=c
  simp only [cq] at hc
  split at hc <;> (try (simp at hc; done))
  ·split at hc <;> (try (simp at hc; done))
   ·rename_i hu
    simp only [Option.bind_eq_some_iff] at hu
    obtain ⟨t,ht,hu⟩:=hu
    split at hc <;> (try (simp at hc; done))
    rename_i hsz
    obtain ⟨x,rfl⟩:=ZaK hsz
    simp only [ZvD,ZvL] at hc
    obtain ⟨rfl,rfl⟩:=hc
    obtain ⟨e0,rfl,h0⟩:=KR hes
    obtain ⟨v,r1,r2⟩:=Zq7 ht hu h0 hq ty
    exact ⟨v,by simp [execOp,resolve,invoke,builtin,r1],r2⟩
   ·rename_i el hu
    simp only [Option.bind_eq_some_iff] at hu
    obtain ⟨t,ht,hu⟩:=hu
    split at hc <;> (try (simp at hc; done))
    rename_i hsz
    obtain ⟨x,rfl⟩:=ZaK hsz
    simp only [ZvD,ZvL] at hc
    obtain ⟨rfl,rfl⟩:=hc
    obtain ⟨e0,rfl,h0⟩:=KR hes
    obtain ⟨v,r1,r2⟩:=Zq5 ht hu h0 hq ty
    exact ⟨v,by simp [execOp,resolve,invoke,builtin,r1],r2⟩
   ·rename_i n el hu
    simp only [Option.bind_eq_some_iff] at hu
    obtain ⟨t,ht,hu⟩:=hu
    split at hc <;> (try (simp at hc; done))
    rename_i hsz
    obtain ⟨x,rfl⟩:=ZaK hsz
    simp only [ZvD,ZvL] at hc
    obtain ⟨rfl,rfl⟩:=hc
    obtain ⟨e0,rfl,h0⟩:=KR hes
    obtain ⟨v,r1,r2⟩:=Zq4 (x:=ρv x) ht hu hq hs ty
    exact ⟨v,by simp [execOp,resolve,invoke,builtin,r1],r2⟩
   ·rename_i kt el hu
    simp only [Option.bind_eq_some_iff] at hu
    obtain ⟨t,ht,hu⟩:=hu
    split at hc <;> (try (simp at hc; done))
    rename_i hsz
    obtain ⟨x,rfl⟩:=ZaK hsz
    simp only [ZvD,ZvL] at hc
    obtain ⟨rfl,rfl⟩:=hc
    obtain ⟨e0,rfl,h0⟩:=KR hes
    obtain ⟨v,r1,r2⟩:=Zq6 hS ht hu h0 hq hs ty
    exact ⟨v,by simp [execOp,resolve,invoke,builtin,r1],r2⟩
  ·split at hc <;> (try (simp at hc; done))
   rename_i hsz
   obtain ⟨x,y,rfl⟩:=Ze8 hsz
   simp only [ZvD,ZvL] at hc
   obtain ⟨rfl,rfl⟩:=hc
   obtain ⟨e1,e2,rfl,h1,h2⟩:=ZaO hes
   obtain ⟨v,r1,r2⟩:=Zh5 (P:=P) false h1 h2 hq ats ty
   simp at r1
   exact ⟨v,by simp [execOp,resolve,invoke,builtin,r1],r2⟩
  ·split at hc <;> (try (simp at hc; done))
   rename_i hsz
   obtain ⟨x,y,rfl⟩:=Ze8 hsz
   simp only [ZvD,ZvL] at hc
   obtain ⟨rfl,rfl⟩:=hc
   obtain ⟨e1,e2,rfl,h1,h2⟩:=ZaO hes
   obtain ⟨v,r1,r2⟩:=Zh5 (P:=P) true h1 h2 hq ats ty
   simp at r1
   exact ⟨v,by simp [execOp,resolve,invoke,builtin,r1],r2⟩
end
end Go.DL
namespace Go.DL
open Go
variable [Znt]
def Jd (n:Nat):List Nat→Bool
 | []=>true
 | i :: r=>i < n && !r.contains i && Jd n r
def ck (P:Program) (op:Op):Option K :=
 match cq P op with
 | some (q,xs)=>(ZbE xs).map (K.q q)
 | none =>
  match op with
  | .pick c a b=>match YJ c,YJ a,YJ b with
   | some c,some a,some b=>some (.pick c a b)
   | _,_,_=>none
  | .alloc e=>(ZaL P e).map .alloc
  | .box _ x=>(YJ x).map .box
  | .buildSlice t len parts=>match P.underlying t with
   | some (.slice e)=>match YD P e,ZaL P e,ZbE (parts.toList.map (·.2)) with
    | some s,some z,some xs =>
     if Jd len (parts.toList.map (·.1)) && decide (z.length=s) && decide (0 < s) && decide (len * s≤2 ^ 24) then some (.bsl len s z (parts.toList.map (·.1)) xs) else none
    | _,_,_=>none
   | _=>none
  | .convert s d x=>match P.underlying s,P.underlying d with
   | some .string,some (.slice e)=>match P.underlying e with
    | some (.int .u8)=>(YJ x).map .s2b
    | _=>none
   | _,_=>none
  | .store t a v=>match Zae P t,YD P t,YJ a,YJ v with
   | some true,some n,some a,some v=>some (.storeN n a v)
   | some false,some 1,some a,some v=>some (.store1 a v)
   | _,_,_,_=>none
  | .makeMap _ none=>some .mkmap
  | .mapUpdate t m k x | .insert t m k x=>match P.underlying t with
   | some (.map kt _)=>match Zaj P kt,YJ m,YJ k,YJ x with
    | some kp,some m,some k,some x=>some (.mapupd kp m k x)
    | _,_,_,_=>none
   | _=>none
  | .mapEntry t m k=>match P.underlying t with
   | some (.map kt e)=>match Zaj P kt,Zda P e,YJ m,YJ k with
    | some kp,some z,some m,some k=>some (.mapent kp z m k)
    | _,_,_,_=>none
   | _=>none
  | .entryStore _ m k x=>match YJ m,YJ k,YJ x with
   | some m,some k,some x=>some (.entst m k x)
   | _,_,_=>none
  | .panic x=>(YJ x).map .panic
  | .defer c=>match c.callee with
   | .value f=>match YJ f,ZbE c.args.toList with
    | some f,some xs=>some (.defer f xs)
    | _,_=>none
   | _=>none
  | .makeSlice t l c=>match P.underlying t with
   | some (.slice e)=>match YD P e,ZaL P e,YJ l,YJ c with
    | some s,some z,some l,some c=>if decide (0 < s) && decide (z.length=s) then some (.mkslice e s (P.bytesOf e) z l c) else none
    | _,_,_,_=>none
   | _=>none
  | .call c=>match c.callee with
   | .value f=>match YJ f,ZbE c.args.toList with
    | some f,some xs=>some (.call f xs)
    | _,_=>none
   | .builtin .append=>match c.argTypes[0]?.bind P.underlying,c.argTypes[1]?.bind P.underlying,c.args.toList with
    | some (.slice e),some t2,[x,y]=>match YD P e,ZaL P e,YJ x,YJ y with
     | some s,some z,some x,some y =>
      match t2 with
      | .slice _ | .string=>if decide (0 < s) && decide (z.length=s) then some (.append e s (P.bytesOf e) z x y) else none
      | _=>none
     | _,_,_,_=>none
    | _,_,_=>none
   | .builtin .recover=>some .recover
   | .builtin .delete=>match c.argTypes[0]?.bind P.underlying,c.args.toList with
    | some (.map kt _),[m,k]=>match Zaj P kt,YJ m,YJ k with
     | some kp,some m,some k=>some (.delete kp m k)
     | _,_,_=>none
    | _,_=>none
   | .builtin .clear=>match c.argTypes[0]?.bind P.underlying,c.args.toList with
    | some (.slice e),[x]=>match YD P e,ZaL P e,YJ x with
     | some s,some z,some x=>if decide (0 < s) && decide (z.length=s) then some (.clear s z x) else none
     | _,_,_=>none
    | _,_=>none
   | .builtin .copy=>match c.argTypes[0]?.bind P.underlying,c.args.toList with
    | some (.slice e),[x,y]=>match YD P e,YJ x,YJ y with
     | some s,some x,some y=>if decide (0 < s) then some (.copy s x y) else none
     | _,_,_=>none
    | _,_=>none
   | _=>none
  | _=>none
def Zhd (ops:Array Oper):Option (Nat × Bool)→Option (Option (Nat × Bool))
 | none=>some none
 | some (j,b)=>match (ops[j]?).bind (·.dst) with
  | some t=>some (some (t,b))
  | none=>none
def cop (P:Program) (N:Nat) (ops:Array Oper) (o:Oper):Option DOp :=
 match ck P o.op,Zhd ops o.guard with
 | some k,some g =>
  match o.dst with
  | none=>some ⟨none,g,k⟩
  | some d=>if d < N then some ⟨some d,g,k⟩ else none
 | _,_=>none
def Zax (P:Program) (N:Nat) (ops:Array Oper):List Nat→Option (List DOp)
 | []=>some []
 | i :: r=>match ops[i]? with
  | some o=>match cop P N ops o,Zax P N ops r with
   | some d,some ds=>some (d :: ds)
   | _,_=>none
  | none=>none
abbrev Ann:=List (Nat × List Nat)
def Ann.get:Ann→Nat→Option (List Nat)
 | [],_=>none
 | (k,l) :: r,n=>if k=n then some l else Ann.get r n
def Yw:Opd→List Nat
 | .tmp t=>[t]
 | .cst _=>[]
def ZbJ (xs:List Opd):List Nat:=xs.flatMap Yw
def Wn:K→List Nat
 | .q _ xs=>ZbJ xs
 | .pick c a b=>Yw c++Yw a++Yw b
 | .alloc _ | .mkmap | .recover=>[]
 | .box x | .s2b x | .panic x=>Yw x
 | .bsl _ _ _ _ xs=>ZbJ xs
 | .store1 a v | .storeN _ a v=>Yw a++Yw v
 | .call f xs | .defer f xs=>Yw f++ZbJ xs
 | .append _ _ _ _ x y=>Yw x++Yw y
 | .mapupd _ m k v=>Yw m++Yw k++Yw v
 | .mapent _ _ m k=>Yw m++Yw k
 | .entst m e v=>Yw m++Yw e++Yw v
 | .mkslice _ _ _ _ l c=>Yw l++Yw c
 | .delete _ m k=>Yw m++Yw k
 | .clear _ _ x=>Yw x
 | .copy _ x y=>Yw x++Yw y
 | .fork k=>Wn k
def Zeg:Option (Nat × Bool)→List Nat
 | none=>[]
 | some (t,_)=>[t]
def ZN (o:DOp):List Nat:=Zeg o.guard++Wn o.k
def WB:K→Bool
 | .q _ _ | .pick _ _ _ | .bsl _ _ _ _ _ | .s2b _ | .alloc _ | .fork _=>true
 | _=>false
def pqK:K→Bool
 | .q _ _ | .pick _ _ _ | .bsl _ _ _ _ _ | .s2b _ | .alloc _=>true
 | _=>false
def Zcq:K→Bool
 | .q .load1 _ | .q (.loadN _) _=>true
 | _=>false
def Kg:K→Bool
 | .q .load1 _ | .q (.loadN _) _ | .q (.lookup _ _ _) _ | .q .lenM _ | .q (.conv .b2s) _=>true
 | _=>false
def Zdq:K→Bool
 | .store1 _ _ | .storeN _ _ _=>true
 | _=>false
def Zlm:K→Bool
 | .alloc _ | .fork _=>false
 | _=>true
instance:Inhabited DOp:=⟨⟨none,none,.mkmap⟩⟩
abbrev Tab:=List (DOp × List Nat)
def Tab.op (T:Tab) (i:Nat):DOp:=(T.getD i default).1
def Tab.deps (T:Tab) (i:Nat):List Nat:=(T.getD i default).2
def nd (d:Option Nat) (l:List Nat):Bool :=
 match d with
 | some t=>!l.contains t
 | none=>true
def ndd:Option Nat→Option Nat→Bool
 | some t,some u=>t != u
 | _,_=>true
def Zcr (bs:List Nat):List Nat→Nat
 | []=>0
 | d :: ds=>(bs.getD d 0 ||| (1 <<< d)) ||| Zcr bs ds
def Zgu:List (List Nat)→List Nat→List Nat
 | [],acc=>acc
 | d :: r,acc=>Zgu r (acc++[Zcr acc d])
def ZbX (T:Tab) (A:List Nat) (i:Nat):Bool :=
 pqK (T.op i).k && nd (T.op i).dst (ZN (T.op i)) && A.all fun a=>nd (T.op i).dst (ZN (T.op a)) && ndd (T.op i).dst (T.op a).dst
def Zbl (o:DOp):Nat:=o.dst.getD 0
def ZaA (n:Nat):List Nat→Bool
 | []=>false
 | a :: l=>a == n || ZaA n l
def Zhe (T:Tab) (fl:List Nat) (free rest:List Nat) (i:Nat):Bool :=
 Zlm (T.op i).k && (rest.all fun r=>(T.deps r).any fun d=>(i :: rest).contains d) &&
  free.all fun a=>nd (T.op i).dst (ZN (T.op a)) && ndd (T.op i).dst (T.op a).dst && (ZaA (Zbl (T.op a)) fl || !Kg (T.op a).k)
def chk (T:Tab) (ms:List Nat) (fl:Nat→List Nat):List Nat→List Nat→Bool
 | _,[]=>true
 | A,i :: rest =>
  let free:=A.filter fun a=>!(ms.getD i 0).testBit a
  decide (i < T.length) && ((T.deps i).all fun d=>!(i :: rest).contains d) && !rest.contains i && (free.all fun a=>nd (T.op a).dst (ZN (T.op i))) &&
   if ZbX T A i then chk T ms fl (i :: A) rest else Zhe T (fl i) free rest i && chk T ms fl free rest
def ZfA (T:Tab) (fl:List Nat) (free:List Nat) (i:Nat):Bool :=
 Zlm (T.op i).k && !WB (T.op i).k && (free.all fun a=>nd (T.op a).dst (ZN (T.op i))) && free.all fun a=>nd (T.op i).dst (ZN (T.op a)) && ndd (T.op i).dst (T.op a).dst && (ZaA (Zbl (T.op a)) fl || !Kg (T.op a).k)
def Zpy (T:Tab) (ms:List Nat) (fl:Nat→List Nat) (A:List Nat) (i j:Nat) (rest:List Nat):Bool :=
 let fi:=A.filter fun a=>!(ms.getD i 0).testBit a
 let fj:=A.filter fun a=>!(ms.getD j 0).testBit a
 decide (i < T.length) && decide (j < T.length) && ((T.deps i).all fun d=>!(i :: j :: rest).contains d) && ((T.deps j).all fun d=>!(i :: j :: rest).contains d) && (i != j) && !rest.contains i && !rest.contains j &&
  (rest.all fun r=>(T.deps r).any fun d=>(i :: j :: rest).contains d) && ZfA T (fl i) fi i && ZfA T (fl j) fj j &&
  chk T ms fl fi (j :: rest) && chk T ms fl fj (i :: rest)
def ZaS (T:Tab) (ms:List Nat) (fl:Nat→List Nat) (fk:Option Nat):List Nat→List Nat→Bool
 | _,[]=>true
 | A,i :: rest =>
  if fk=some i then match rest with
   | j :: rest'=>Zpy T ms fl A i j rest'
   | []=>false
  else
   let free:=A.filter fun a=>!(ms.getD i 0).testBit a
   decide (i < T.length) && ((T.deps i).all fun d=>!(i :: rest).contains d) && !rest.contains i && (free.all fun a=>nd (T.op a).dst (ZN (T.op i))) &&
    if ZbX T A i then ZaS T ms fl fk (i :: A) rest else Zhe T (fl i) free rest i && ZaS T ms fl fk free rest
def Zis (o:DOp):DOp:={ o with k:=.fork o.k }
def Tab.mk (T:Tab) (fk:Option Nat) (i:Nat):DOp:=if fk=some i then Zis (T.op i) else T.op i
def Za0 (o:Oper):List Nat:=(o.after.toList.filter (Region.binds .any ·)).map (·.on)
def Zkm:Nat→List (List Nat)→Bool
 | _,[]=>true
 | i,d :: r=>d.all (fun x=>decide (x < i)) && Zkm (i + 1) r
def Zsc (n:Nat) (order:List Nat):Bool:=(List.range n).all order.contains
def ZsX (an:Ann) (id:Nat):Option Nat :=
 match an.get (id + 3000000) with
 | some (i :: _)=>some i
 | _=>none
def ccD (P:Program) (an:Ann) (N:Nat) (id:Nat) (ops:Array Oper):Option (List Nat × List (DOp × List Nat) × Option (List Nat)) :=
 match Zax P N ops (List.range ops.size),an.get (id + 1000000),an.get id with
 | some l,some order,some kp =>
  let fl:=fun i=>(an.get (id + 1000000 * (i + 4))).getD []
  let ds:=ops.toList.map Za0
  let T:Tab:=l.zip ds
  if P.follows .mixedOrders && Zkm 0 ds && Zsc ops.size order && ZaS T (Zgu ds []) fl (ZsX an id) [] order then some (order,order.map fun i=>(T.mk (ZsX an id) i,fl i),some kp) else none
 | _,_,_=>none
def cc (P:Program) (an:Ann) (N:Nat):Code→Option DC
 | .skip=>some .skip
 | .region id ops true=>(ccD P an N id ops).map fun x=>.regD x.1 x.2.1 x.2.2
 | .region id ops false=>(Zax P N ops (List.range ops.size)).map fun l=>.reg l (an.get id)
 | .seq a b=>match cc P an N a,cc P an N b with
  | some x,some y=>some (.seq x y)
  | _,_=>none
 | .cond c a b=>match YJ c,cc P an N a,cc P an N b with
  | some c,some x,some y=>some (.cond c x y)
  | _,_,_=>none
 | .block id a=>(cc P an N a).map (.block id)
 | .loop a=>(cc P an N a).map .loop
 | .exit id=>some (.exit id)
 | .ret=>some .ret
 | .scope a=>(cc P an N a).map .scope
 | .label l=>some (.label l)
 | .goto l=>some (.goto l)
 | .rangeFunc f params a b=>match YJ f,cc P an N a,cc P an N b with
  | some f,some x,some y=>if params.toList.all (· < N) then some (.rangeF f params.toList x y) else none
  | _,_,_=>none
 | _=>none
inductive RV where
 | tmp (t:Nat) | cell1 (t:Nat) | cellN (t n:Nat)
def crv (P:Program):ResultVar→Option RV
 | .tmp t=>some (.tmp t)
 | .cell a t=>match Zae P t,YD P t with
  | some true,some n=>some (.cellN a n)
  | some false,some _=>some (.cell1 a)
  | _,_=>none
def Zlr (P:Program):List ResultVar→Option (List RV)
 | []=>some []
 | r :: rs=>match crv P r,Zlr P rs with
  | some x,some xs=>some (x :: xs)
  | _,_=>none
structure DF where
 n:Nat
 res:List RV
 body:DC
def cf (P:Program) (an:Ann) (f:FuncId):Option DF :=
 match P.funcs[f]? with
 | some fn=>match fn.body with
  | some c=>if fn.name == "runtime.NumGoroutine" then none else
   match Zlr P fn.results.toList,cc P an fn.ntmps c with
   | some rs,some d=>some ⟨fn.ntmps,rs,d⟩
   | _,_=>none
  | none=>none
 | none=>none
def Zbg:Bool→Bool→Bool
 | b,true=>b
 | b,false=>!b
def Zu (ρ:Env):Option (Nat × Bool)→Option Bool
 | none=>some true
 | some (t,want)=>match Ye ρ t with
  | some (.d (.bool b))=>some (Zbg b want)
  | some (.when c (.d (.bool b)))=>some (c && Zbg b want)
  | _=>none
def ZV (ρ:Env) (c:Bool):Opd→Option (Prop × E)
 | .cst d=>some (True,.d d)
 | .tmp t=>match Ye ρ t with
  | some (.when c' e)=>some (c=true→c'=true,e)
  | some e=>some (True,e)
  | none=>none
def Wc (ρ:Env) (c:Bool):List Opd→Option (Prop × List E)
 | []=>some (True,[])
 | x :: xs=>match ZV ρ c x,Wc ρ c xs with
  | some (p,e),some (q,es)=>some (p∧q,e :: es)
  | _,_=>none
def ZQ (ρ:Env) (dst:Option Nat) (e:E):Env :=
 match dst with
 | some t=>(t,e) :: ρ
 | none=>ρ
inductive SR where
 | ok (side:Prop) (ρ:Env) (L:Loc) (s:St)
 | all (side:Prop) (pre:Nat→Prop) (ρ:Nat→Env) (s:Nat→St)
 | stop
def Zay (L:Loc) (l:Nat):Bool:=(Zl L l).isSome
def Zc8 (ρ:Env) (c:Bool) (x a b:Opd):Option (Prop × Bool) :=
 match ZV ρ c x with
 | some (p,.d (.bool v)) =>
  match ZV ρ (c && v) a,ZV ρ (c && !v) b with
  | some (pa,.d (.bool y)),some (pb,.d (.bool z))=>some (p∧pa∧pb,if v then y else z)
  | _,_=>none
 | _=>none
def Wm (zero:List D) (ps:List (Nat × D)) (i:Nat):List D :=
 match ps with
 | []=>zero
 | (k,d) :: r=>if k=i then cellsOf d else Wm zero r i
def Q2 (s:Nat):List D→Bool
 | []=>true
 | d :: r=>Qi d && decide ((cellsOf d).length=s) && Q2 s r
def QC (z:List D) (n:Nat):List D:=(List.replicate n z).flatten
def QV (ρ:Env) (L:Loc) (s:St) (p q ok:Prop) (a:E) (n:Nat) (xs:List D):SR :=
 match a with
 | .loc l off=>match Zl L l with
  | some cs=>.ok (p∧q∧off + n≤cs.length∧ok) ρ ((l,ZC cs off xs) :: L) s
  | none=>.stop
 | .d (.ptr b off)=>match YS s b with
  | some cs=>.ok (p∧q∧off + n≤cs.length∧ok) ρ L (s.upd b (.cells (ZC cs off xs)))
  | none=>.stop
 | _=>.stop
def Zdy (kp:KP) (k z:D):List (D × D)→Option D
 | []=>some z
 | e :: r=>match Qt kp k e.1 with
  | some true=>some e.2
  | some false=>Zdy kp k z r
  | none=>none
def ZU (o:DOp) (ρ:Env) (L:Loc) (s:St):SR :=
 match Zu ρ o.guard with
 | none=>.stop
 | some c =>
  match o.k with
  | .q q xs=>match Wc ρ c xs with
   | some (p,es)=>match qv L s q es with
    | some (side,e)=>match o.guard with
     | none=>.ok (p∧side) (ZQ ρ o.dst e) L s
     | some _=>.ok (c=true→p∧side) (ZQ ρ o.dst (.when c e)) L s
    | none=>.stop
   | none=>.stop
  | .pick x a b=>match Zc8 ρ c x a b with
   | some (p,v)=>match o.guard with
    | none=>.ok p (ZQ ρ o.dst (.d (.bool v))) L s
    | some _=>.ok (c=true→p) (ZQ ρ o.dst (.when c (.d (.bool v)))) L s
   | none=>.stop
  | .alloc z=>match o.guard,o.dst with
   | none,some t=>.ok (Zay L t=false) ((t,.loc t 0) :: ρ) ((t,z) :: L) s
   | _,_=>.stop
  | .box x=>match o.guard,o.dst,ZV ρ true x with
   | none,some t,some (p,.d v)=>.ok (p∧Zay L t=false∧Qi v=true) ((t,.loc t 0) :: ρ) ((t,cellsOf v) :: L) s
   | _,_,_=>.stop
  | .bsl len n z is xs=>match Wc ρ c xs with
   | some (p,es)=>match K4 es with
    | some ds=>match o.guard with
     | none=>.ok (p∧Q2 n ds=true) (ZQ ρ o.dst (.d (.sl .full len n (Wm z (is.zip ds))))) L s
     | some _=>.ok (c=true→p∧Q2 n ds=true) (ZQ ρ o.dst (.when c (.d (.sl .full len n (Wm z (is.zip ds)))))) L s
    | none=>.stop
   | none=>.stop
  | .s2b x=>match ZV ρ c x with
   | some (p,.d (.str l))=>match o.guard with
    | none=>.ok p (ZQ ρ o.dst (.d (.sl .none l.length 1 (fun i=>[.int .u8 ((l.getD i 0).toNat:Int)])))) L s
    | some _=>.ok (c=true→p) (ZQ ρ o.dst (.when c (.d (.sl .none l.length 1 (fun i=>[.int .u8 ((l.getD i 0).toNat:Int)]))))) L s
   | _=>.stop
  | .store1 a v=>match o.guard,o.dst,ZV ρ true a,ZV ρ true v with
   | none,none,some (p,a),some (q,.d x)=>QV ρ L s p q (Jb x=true) a 1 [x]
   | _,_,_,_=>.stop
  | .storeN n a v=>match o.guard,o.dst,ZV ρ true a,ZV ρ true v with
   | none,none,some (p,a),some (q,.d (.agg xs))=>QV ρ L s p q (xs.length=n) a n xs
   | _,_,_,_=>.stop
  | .mkmap=>match o.guard,o.dst with
   | none,some t=>.all True (fun b=>s b=none) (fun b=>(t,.d (.map b)) :: ρ) (fun b=>s.upd b (.map []))
   | _,_=>.stop
  | .mkslice _ n bytes z l h=>match o.guard,o.dst,ZV ρ true l,ZV ρ true h with
   | none,some t,some (p,.d (.int _ l)),some (q,.d (.int _ h)) =>
    .all (p∧q∧0≤l∧l≤h∧(bytes:Int) * h≤140737488355328∧h≤big) (fun b=>s b=none) (fun b=>(t,.d (.msl b 0 l.toNat h.toNat n)) :: ρ) (fun b=>s.upd b (.cells (QC z h.toNat)))
   | _,_,_,_=>.stop
  | .mapupd kp m k v=>match o.guard,o.dst,ZV ρ true m,ZV ρ true k,ZV ρ true v with
   | none,none,some (p,.d (.map b)),some (q,.d dk),some (r,.d dv)=>match QM s b with
    | some es=>match ZaC kp dk dv es with
     | some es'=>.ok (p∧q∧r∧Jg kp dk=true) ρ L (s.upd b (.map es'))
     | none=>.stop
    | none=>.stop
   | _,_,_,_,_=>.stop
  | .delete kp m k=>match o.guard,o.dst,ZV ρ true m,ZV ρ true k with
   | none,none,some (p,.d (.map b)),some (q,.d dk)=>match QM s b with
    | some es=>match Zfc kp dk es with
     | some es'=>.ok (p∧q∧Jg kp dk=true) ρ L (s.upd b (.map es'))
     | none=>.stop
    | none=>.stop
   | _,_,_,_=>.stop
  | .mapent kp z m k=>match o.guard,o.dst,ZV ρ true m,ZV ρ true k with
   | none,some t,some (p,.d (.map b)),some (q,.d dk)=>match QM s b with
    | some es=>match Zdy kp dk z es with
     | some v=>.all (p∧q∧Jg kp dk=true) (fun _=>True) (fun n=>(t,.d (.tup [v,.stamp n])) :: ρ) (fun n=>s.upd b (.mapE kp es dk n))
     | none=>.stop
    | none=>.stop
   | _,_,_,_=>.stop
  | .entst m st v=>match o.guard,o.dst,ZV ρ true m,ZV ρ true st,ZV ρ true v with
   | none,none,some (p,.d (.map b)),some (q,.d (.stamp n)),some (r,.d dv)=>match s b with
    | some (.mapE kp es dk n')=>match ZaC kp dk dv es with
     | some es'=>.ok (p∧q∧r∧n=n') ρ L (s.upd b (.map es'))
     | none=>.stop
    | _=>.stop
   | _,_,_,_,_=>.stop
  | _=>.stop
def Zhi (K:Env→Loc→St→Prop) (X:List DOp→Env→Loc→St→Prop):List DOp→Env→Loc→St→Prop
 | [],ρ,L,s=>K ρ L s
 | o :: os,ρ,L,s=>match ZU o ρ L s with
  | .ok side ρ' L' s'=>side∧Zhi K X os ρ' L' s'
  | .all side pre ρ' s'=>side∧∀ b,pre b→Zhi K X os (ρ' b) L (s' b)
  | .stop=>X (o :: os) ρ L s
inductive Rd where
 | blk (b:Nat)
 | loc (l:Nat)
def QT:E→List Rd
 | .d (.ptr b _)=>[.blk b]
 | .d (.map b)=>[.blk b]
 | .d (.msl b _ _ _ _)=>[.blk b]
 | .loc l _=>[.loc l]
 | _=>[]
def KE (o:DOp) (ρ:Env):List Rd :=
 match o.k with
 | .q q xs=>if Kg (.q q xs) then match Zu ρ o.guard with
  | some true=>match Wc ρ true xs with
   | some (_,e :: _)=>QT e
   | _=>[]
  | _=>[]
  else []
 | _=>[]
def Qq (o:DOp) (ρ:Env):List (Nat × Rd):=(KE o ρ).map fun b=>(Zbl o,b)
def QR (s s':St) (L L':Loc):List (Nat × Rd)→Prop
 | []=>True
 | (_,.blk b) :: B=>s' b=s b∧QR s s' L L' B
 | (_,.loc l) :: B=>Zl L' l=Zl L l∧QR s s' L L' B
def WP (fl:List Nat):List (Nat × Rd)→List (Nat × Rd)
 | []=>[]
 | x :: B=>if ZaA x.1 fl then x :: WP fl B else WP fl B
def Kl (fl:List Nat) (s s':St) (L L':Loc) (B:List (Nat × Rd)):Prop:=QR s s' L L' (WP fl B)
def Zf9 (K:Env→Loc→St→Prop) (X:List (DOp × List Nat)→Env→Loc→St→List (Nat × Rd)→Prop):List (DOp × List Nat)→Env→Loc→St→List (Nat × Rd)→Prop
 | [],ρ,L,s,_=>K ρ L s
 | o :: os,ρ,L,s,B=>match ZU o.1 ρ L s with
  | .ok side ρ' L' s'=>if WB o.1.k then side∧Zf9 K X os ρ' L' s' (Qq o.1 ρ++B) else side∧Kl o.2 s s' L L' B∧Zf9 K X os ρ' L' s' (Qq o.1 ρ++WP o.2 B)
  | .all side pre ρ' s'=>side∧∀ b,pre b→Kl o.2 s (s' b) L L B∧Zf9 K X os (ρ' b) L (s' b) (WP o.2 B)
  | .stop=>X (o :: os) ρ L s B
def Q1:E→List Nat
 | .loc l _=>[l]
 | .when _ e=>Q1 e
 | _=>[]
def Wy (ρ:Env):List Nat→Env
 | []=>[]
 | k :: ks=>match Ye ρ k with
  | some e=>(k,e) :: Wy ρ ks
  | none=>Wy ρ ks
def ZaJ (L:Loc):List Nat→Loc
 | []=>[]
 | l :: ls=>match Zl L l with
  | some cs=>(l,cs) :: ZaJ L ls
  | none=>ZaJ L ls
def ZbI (ρ:Env) (L:Loc):Loc:=ZaJ L (ρ.flatMap fun x=>Q1 x.2)
end Go.DL
namespace Go.DL
open Go
variable [Znt]
theorem Zr2 (n a:Nat) (l:List Nat):ZaA n (a :: l)=if a=n then true else ZaA n l:=by
 show (a == n || ZaA n l)=_
 by_cases h:a=n <;> simp [h]
def qm (d a:Nat):DOp:=⟨some d,none,.q .mv [.tmp a]⟩
def qi (d:Nat) (n:Int):DOp:=⟨some d,none,.q .mv [.cst (.int .i64 n)]⟩
def qb (d:Nat) (b:Bool):DOp:=⟨some d,none,.q .mv [.cst (.bool b)]⟩
def ql (d a:Nat):DOp:=⟨some d,none,.q .load1 [.tmp a]⟩
def qL (d n a:Nat):DOp:=⟨some d,none,.q (.loadN n) [.tmp a]⟩
def qa (d k a:Nat):DOp:=⟨some d,none,.q (.faddr k) [.tmp a]⟩
def qx (d k a:Nat):DOp:=⟨some d,none,.q (.ext k) [.tmp a]⟩
def qX (d k a b:Nat):DOp:=⟨some d,none,.q (.iaddr k) [.tmp a,.tmp b]⟩
def qk (d:Nat) (q:Q) (a:Nat):DOp:=⟨some d,none,.q q [.tmp a]⟩
def qd (d:Nat) (o:BinOp) (a b:Nat):DOp:=⟨some d,none,.q (.bin o none) [.tmp a,.tmp b]⟩
def qe (d:Nat) (o:BinOp) (a:Nat) (n:Int):DOp:=⟨some d,none,.q (.bin o none) [.tmp a,.cst (.int .i64 n)]⟩
def qo (d c a:Nat):DOp:=⟨some d,none,.pick (.tmp c) (.cst (.bool true)) (.tmp a)⟩
def qO (d c a:Nat):DOp:=⟨some d,none,.pick (.tmp c) (.tmp a) (.cst (.bool false))⟩
def qf (d f:Nat) (a:List Opd):DOp:=⟨some d,none,.call (.cst (.fn (.func f) [] [])) a⟩
def qB (d a:Nat):DOp:=⟨some d,none,.box (.tmp a)⟩
def qS (n a b:Nat):DOp:=⟨none,none,.storeN n (.tmp a) (.tmp b)⟩
def qs (a b:Nat):DOp:=⟨none,none,.store1 (.tmp a) (.tmp b)⟩
def qy (g:Nat) (o:DOp):DOp:=⟨o.dst,some (g,true),o.k⟩
def qn (g:Nat) (o:DOp):DOp:=⟨o.dst,some (g,false),o.k⟩
abbrev qR (l:List DOp) (k:List Nat):DC:=.reg l (some k)
abbrev qC (c:Nat) (a b:DC):DC:=.cond (.tmp c) a b
end Go.DL
namespace Go.DL
open Go
def ZoC:List Int:=[1,10,100,1000,10000,100000,1000000,10000000,100000000,1000000000,10000000000,100000000000,1000000000000,10000000000000,100000000000000,1000000000000000,10000000000000000,100000000000000000,1000000000000000000,10000000000000000000]
instance theTabs:Znt:=⟨fun n=>match Nat.beq n 3 with
 | true=>some (ZoC.map fun z=>.int .u64 z)
 | false=>none⟩
end Go.DL
namespace Go.DL
open Go
variable [Znt]
structure Zp9 (P:Program) where
 T:G→World→Machine→Prop
 back:∀ g w m m',Steps P m m'→T g w m'→T g w m
 ext:∀ g w g' w' m,Ext g w g' w'→T g' w' m→T g w m
structure Fr (P:Program) where
 T:Zp9 P
 b:Frame
 cs:List Frame
 N:Nat
 ds:List Deferred
 an:Ann
inductive Zp where
 | code (c:DC)
 | inBlock (id:Nat)
 | inLoop (c:DC)
 | inScope (c:DC)
 | beginR
inductive KX (P:Program) (an:Ann) (N:Nat):List Item→List Zp→Prop where
 | nil:KX P an N [] []
 | code {c d k dk} (h:cc P an N c=some d) (t:KX P an N k dk):KX P an N (.code c :: k) (.code d :: dk)
 | inBlock {id k dk} (t:KX P an N k dk):KX P an N (.inBlock id :: k) (.inBlock id :: dk)
 | inLoop {c d k dk} (h:cc P an N c=some d) (t:KX P an N k dk):KX P an N (.inLoop c :: k) (.inLoop d :: dk)
 | inScope {c d k dk} (h:cc P an N c=some d) (t:KX P an N k dk):KX P an N (.inScope c :: k) (.inScope d :: dk)
 | beginR {k dk} (t:KX P an N k dk):KX P an N (.beginRound :: k) (.beginR :: dk)
section
variable {P:Program}
theorem Zpp {b:Frame} {a:Act} {k:List Item} {cs:List Frame} {w:World} {c:Code}:step P (lone (b.atR a (.code (.scope c) :: k)) cs w) = .next (lone (b.atR a (.code c :: .inScope c :: k)) cs w) :=
 step_lone_go (by simp [stepG,stepG.exec,Frame.atR])
theorem ZmQ {b:Frame} {a:Act} {k:List Item} {cs:List Frame} {w:World} {c:Code}:step P (lone (b.atR a (.inScope c :: k)) cs w) = .next (lone (b.atR a k) cs w) :=
 step_lone_go (by simp [stepG,stepG.exec,Frame.atR])
def JO (F:Fr P) (todo:List Item) (ρ:Env) (L:Loc) (s:St):Prop :=
 ∀ g ν w tmps,F.N≤tmps.size→ZI g ν w tmps ρ L s→F.T.T g w (lone (F.b.atR ⟨tmps,F.ds⟩ todo) F.cs w)
def ZD (F:Fr P) (dk:List Zp) (ρ:Env) (L:Loc) (s:St):Prop:=∀ k,KX P F.an F.N k dk→JO F k ρ L s
def DO (F:Fr P) (_keep:Option (List Nat)) (dk:List Zp) (os:List DOp) (ρ:Env) (L:Loc) (s:St):Prop :=
 ∀ ops is k,Zax P F.N ops is=some os→KX P F.an F.N k dk→JO F (.inRegion ops is :: k) ρ L s
theorem JO.step {F:Fr P} {k k':List Item} {ρ:Env} {L:Loc} {s:St} (h:∀ a w,step P (lone (F.b.atR a k) F.cs w) = .next (lone (F.b.atR a k') F.cs w)) (h':JO F k' ρ L s):JO F k ρ L s :=
 fun g ν w tmps hN m=>F.T.back _ _ _ _ (.one (h _ w)) (h' g ν w tmps hN m)
theorem ZtY {an:Ann} {N:Nat} {c:Code} (h:cc P an N c=some .skip):c = .skip:=by
 unfold cc at h; split at h <;> simp_all
 all_goals (split at h <;> simp at h)
theorem ZnF {an:Ann} {N:Nat} {c:Code} (h:cc P an N c=some .ret):c = .ret:=by
 unfold cc at h; split at h <;> simp_all
 all_goals (split at h <;> simp at h)
theorem Zpx {an:Ann} {N id:Nat} {c:Code} (h:cc P an N c=some (.exit id)):c = .exit id:=by
 unfold cc at h; split at h <;> simp_all
 all_goals (split at h <;> simp at h)
theorem ZuK {an:Ann} {N:Nat} {c:Code} {x y:DC} (h:cc P an N c=some (.seq x y)):∃ a b,c = .seq a b∧cc P an N a=some x∧cc P an N b=some y:=by
 unfold cc at h; split at h <;> simp_all
 all_goals (split at h <;> simp_all)
 exact ⟨_,_,⟨rfl,rfl⟩,‹_›,‹_›⟩
theorem ZtU {an:Ann} {N:Nat} {c:Code} {x y:DC} {o:Opd} (h:cc P an N c=some (.cond o x y)):∃ o' a b,c = .cond o' a b∧YJ o'=some o∧cc P an N a=some x∧cc P an N b=some y:=by
 unfold cc at h; split at h <;> simp_all
 all_goals (split at h <;> simp_all)
 exact ⟨_,_,_,⟨rfl,rfl,rfl⟩,‹_›,‹_›,‹_›⟩
theorem ZsL {an:Ann} {N id:Nat} {c:Code} {x:DC} (h:cc P an N c=some (.block id x)):∃ a,c = .block id a∧cc P an N a=some x:=by
 unfold cc at h; split at h <;> simp_all
 all_goals (split at h <;> simp at h)
theorem ZtW {an:Ann} {N:Nat} {c:Code} {x:DC} (h:cc P an N c=some (.loop x)):∃ a,c = .loop a∧cc P an N a=some x:=by
 unfold cc at h; split at h <;> simp_all
 all_goals (split at h <;> simp at h)
theorem ZuJ {an:Ann} {N:Nat} {c:Code} {os:List DOp} {ks:Option (List Nat)} (h:cc P an N c=some (.reg os ks)) :
  ∃ id ops,c = .region id ops false∧Zax P N ops (List.range ops.size)=some os∧an.get id=ks:=by
 unfold cc at h; split at h <;> simp_all
 ·obtain ⟨a,h1,rfl,h2⟩:=h; exact ⟨_,_,⟨rfl,rfl⟩,h1,h2⟩
 all_goals (split at h <;> simp at h)
theorem ZsN {an:Ann} {N:Nat} {c:Code} {x:DC} (h:cc P an N c=some (.scope x)):∃ a,c = .scope a∧cc P an N a=some x:=by
 unfold cc at h; split at h <;> simp_all
 all_goals (split at h <;> simp at h)
theorem ZsM {an:Ann} {N l:Nat} {c:Code} (h:cc P an N c=some (.label l)):c = .label l:=by
 unfold cc at h; split at h <;> simp_all
 all_goals (split at h <;> simp at h)
theorem ZtV {an:Ann} {N l:Nat} {c:Code} (h:cc P an N c=some (.goto l)):c = .goto l:=by
 unfold cc at h; split at h <;> simp_all
 all_goals (split at h <;> simp at h)
theorem Zl3 {an:Ann} {N:Nat} {c:Code} {f:Opd} {ps:List Nat} {x y:DC} (h:cc P an N c=some (.rangeF f ps x y)) :
  ∃ f' ps' a b,c = .rangeFunc f' ps' a b∧YJ f'=some f∧ps'.toList=ps∧cc P an N a=some x∧cc P an N b=some y∧∀ t∈ps,t < N:=by
 unfold cc at h; split at h <;> simp_all
 all_goals (split at h <;> simp_all)
 obtain ⟨hall,rfl,rfl,rfl,rfl⟩:=h
 exact ⟨_,_,_,_,⟨rfl,rfl,rfl,rfl⟩,‹_›,rfl,‹_›,‹_›,fun t ht=>by obtain ⟨i,hi,rfl⟩:=ZvX ht; simpa using hall i (by simpa using hi)⟩
theorem YY {F:Fr P} {dk:List Zp} {ρ:Env} {L:Loc} {s:St} (h:ZD F dk ρ L s):ZD F (.code .skip :: dk) ρ L s:=by
 intro k hk
 cases hk with
 | code hc ht=>obtain rfl:=ZtY hc; exact JO.step (fun a w=>stepR_skip) (h _ ht)
theorem Yb {F:Fr P} {id:Nat} {dk:List Zp} {ρ:Env} {L:Loc} {s:St} (h:ZD F dk ρ L s):ZD F (.inBlock id :: dk) ρ L s:=by
 intro k hk
 cases hk with
 | inBlock ht=>exact JO.step (fun a w=>stepR_inBlock) (h _ ht)
theorem Zi {F:Fr P} {x y:DC} {dk:List Zp} {ρ:Env} {L:Loc} {s:St} (h:ZD F (.code x :: .code y :: dk) ρ L s):ZD F (.code (.seq x y) :: dk) ρ L s:=by
 intro k hk
 cases hk with
 | code hc ht=>obtain ⟨a,b,rfl,ha,hb⟩:=ZuK hc; exact JO.step (fun a w=>stepR_seq) (h _ (.code ha (.code hb ht)))
theorem ZF {F:Fr P} {id:Nat} {x:DC} {dk:List Zp} {ρ:Env} {L:Loc} {s:St} (h:ZD F (.code x :: .inBlock id :: dk) ρ L s):ZD F (.code (.block id x) :: dk) ρ L s:=by
 intro k hk
 cases hk with
 | code hc ht=>obtain ⟨a,rfl,ha⟩:=ZsL hc; exact JO.step (fun a w=>stepR_block) (h _ (.code ha (.inBlock ht)))
theorem Yh {F:Fr P} {x:DC} {dk:List Zp} {ρ:Env} {L:Loc} {s:St} (h:ZD F (.code x :: .inLoop x :: dk) ρ L s):ZD F (.code (.loop x) :: dk) ρ L s:=by
 intro k hk
 cases hk with
 | code hc ht=>obtain ⟨a,rfl,ha⟩:=ZtW hc; exact JO.step (fun a w=>stepR_loop) (h _ (.code ha (.inLoop ha ht)))
theorem ZG {F:Fr P} {x:DC} {dk:List Zp} {ρ:Env} {L:Loc} {s:St} (h:ZD F (.code x :: .inLoop x :: dk) ρ L s):ZD F (.inLoop x :: dk) ρ L s:=by
 intro k hk
 cases hk with
 | inLoop hc ht=>exact JO.step (fun a w=>stepR_inLoop) (h _ (.code hc (.inLoop hc ht)))
theorem ZdE {F:Fr P} {x:DC} {dk:List Zp} {ρ:Env} {L:Loc} {s:St} (h:ZD F (.code x :: .inScope x :: dk) ρ L s):ZD F (.code (.scope x) :: dk) ρ L s:=by
 intro k hk
 cases hk with
 | code hc ht=>obtain ⟨a,rfl,ha⟩:=ZsN hc; exact JO.step (fun a w=>Zpp) (h _ (.code ha (.inScope ha ht)))
theorem Zb5 {F:Fr P} {x:DC} {dk:List Zp} {ρ:Env} {L:Loc} {s:St} (h:ZD F dk ρ L s):ZD F (.inScope x :: dk) ρ L s:=by
 intro k hk
 cases hk with
 | inScope hc ht=>exact JO.step (fun a w=>ZmQ) (h _ ht)
theorem ZdD {F:Fr P} {l:Nat} {dk:List Zp} {ρ:Env} {L:Loc} {s:St} (h:ZD F dk ρ L s):ZD F (.code (.label l) :: dk) ρ L s:=by
 intro k hk
 cases hk with
 | code hc ht=>obtain rfl:=ZsM hc; exact JO.step (fun a w=>stepR_label) (h _ ht)
def KA:DC→Nat→Option DC
 | .seq a b,l=>match KA a l with
  | some r=>some (.seq r b)
  | none=>KA b l
 | .label l',l=>if l'=l then some .skip else none
 | _,_=>none
theorem Zn7 {an:Ann} {N l:Nat}:∀ {c:Code} {d:DC},cc P an N c=some d→(∀ d',KA d l=some d'→∃ c',findLabel c l=some c'∧cc P an N c'=some d')∧(KA d l=none→findLabel c l=none):=by
 intro c
 induction c with
 | seq a b iha ihb =>
  intro d h
  unfold cc at h
  split at h <;> simp only [ZvD,reduceCtorEq] at h
  rename_i x y hx hy
  subst h
  obtain ⟨a1,a2⟩:=iha hx
  obtain ⟨b1,b2⟩:=ihb hy
  refine ⟨fun d' hd=>?_,fun hd=>?_⟩
  ·simp only [KA] at hd
   cases hfa:KA x l with
   | some r =>
    simp only [hfa,ZvD] at hd
    obtain ⟨c',h1,h2⟩:=a1 r hfa
    subst hd
    exact ⟨.seq c' b,by simp [findLabel,h1],by simp [cc,h2,hy]⟩
   | none =>
    simp only [hfa] at hd
    obtain ⟨c',h1,h2⟩:=b1 d' hd
    exact ⟨c',by simp [findLabel,a2 hfa,h1],h2⟩
  ·simp only [KA] at hd
   cases hfa:KA x l with
   | some r=>simp [hfa] at hd
   | none=>simp only [hfa] at hd; simp [findLabel,a2 hfa,b2 hd]
 | label l' =>
  intro d h
  simp only [cc,ZvD] at h
  subst h
  refine ⟨fun d' hd=>?_,fun hd=>?_⟩
  ·simp only [KA] at hd
   split at hd <;> simp only [ZvD,reduceCtorEq] at hd
   rename_i hl
   subst hd
   exact ⟨.skip,by simp [findLabel,hl],rfl⟩
  ·simp only [KA] at hd
   split at hd <;> simp at hd
   rename_i hl
   simp [findLabel,hl]
 | region id ops dr =>
  intro d h
  refine ⟨fun d' hd=>?_,fun _=>rfl⟩
  cases dr <;> simp only [cc,ZvO] at h <;> (obtain ⟨_,_,rfl⟩:=h; simp [KA] at hd)
 | _ =>
  intro d h
  refine ⟨fun d' hd=>?_,fun _=>rfl⟩
  first
   | (simp [cc] at h; done)
   | (simp only [cc,ZvO] at h; obtain ⟨_,_,rfl⟩:=h; simp [KA] at hd; done)
   | (simp only [cc,ZvD] at h; subst h; simp [KA] at hd; done)
   | (simp only [cc] at h; split at h <;> (try (split at h)) <;> simp only [ZvD,reduceCtorEq] at h <;> (subst h; simp [KA] at hd))
def Zcm (l:Nat):List Zp→Option (List Zp)
 | .inScope body :: k=>match KA body l with
  | some r=>some (.code r :: .inScope body :: k)
  | none=>Zcm l k
 | _ :: k=>Zcm l k
 | []=>none
theorem ZcK {an:Ann} {N l:Nat}:∀ {k:List Item} {dk dk':List Zp},KX P an N k dk→Zcm l dk=some dk'→∃ k',gotoIn l k=some k'∧KX P an N k' dk'
 | _,_,_,.nil,h=>by simp [Zcm] at h
 | _,_,_,.code _ t,h=>by simp only [Zcm] at h; obtain ⟨k',h1,h2⟩:=ZcK t h; exact ⟨k',by simpa [gotoIn] using h1,h2⟩
 | _,_,_,.inLoop _ t,h=>by simp only [Zcm] at h; obtain ⟨k',h1,h2⟩:=ZcK t h; exact ⟨k',by simpa [gotoIn] using h1,h2⟩
 | _,_,_,.inBlock t,h=>by simp only [Zcm] at h; obtain ⟨k',h1,h2⟩:=ZcK t h; exact ⟨k',by simpa [gotoIn] using h1,h2⟩
 | _,_,_,.beginR t,h=>by simp only [Zcm] at h; obtain ⟨k',h1,h2⟩:=ZcK t h; exact ⟨k',by simpa [gotoIn] using h1,h2⟩
 | _,_,_,.inScope (c:=c) (d:=d) hc t,h=>by
  simp only [Zcm] at h
  obtain ⟨f1,f2⟩:=Zn7 (l:=l) hc
  cases hf:KA d l with
  | some r =>
   simp only [hf,ZvD] at h
   subst h
   obtain ⟨c',h1,h2⟩:=f1 r hf
   exact ⟨_,by simp [gotoIn,h1],.code h2 (.inScope hc t)⟩
  | none =>
   simp only [hf] at h
   obtain ⟨k',h1,h2⟩:=ZcK t h
   exact ⟨k',by simpa [gotoIn,f2 hf] using h1,h2⟩
theorem Zrq {F:Fr P} {l:Nat} {dk dk':List Zp} {ρ:Env} {L:Loc} {s:St} (he:Zcm l dk=some dk') (h:ZD F dk' ρ L s):ZD F (.code (.goto l) :: dk) ρ L s:=by
 intro k hk
 cases hk with
 | code hc ht =>
  obtain rfl:=ZtV hc
  obtain ⟨k',h1,h2⟩:=ZcK ht he
  exact JO.step (fun a w=>stepR_goto h1) (h _ h2)
def Jf (id:Nat):List Zp→Option (List Zp)
 | .inBlock id' :: k=>if id'=id then some k else Jf id k
 | _ :: k=>Jf id k
 | []=>none
theorem ZcH {an:Ann} {N id:Nat}:∀ {k:List Item} {dk dk':List Zp},KX P an N k dk→Jf id dk=some dk'→∃ k',exitTo id k=some k'∧KX P an N k' dk'
 | _,_,_,.nil,h=>by simp [Jf] at h
 | _,_,_,.code _ t,h=>by simp only [Jf] at h; obtain ⟨k',h1,h2⟩:=ZcH t h; exact ⟨k',by simpa [exitTo] using h1,h2⟩
 | _,_,_,.inLoop _ t,h=>by simp only [Jf] at h; obtain ⟨k',h1,h2⟩:=ZcH t h; exact ⟨k',by simpa [exitTo] using h1,h2⟩
 | _,_,_,.inScope _ t,h=>by simp only [Jf] at h; obtain ⟨k',h1,h2⟩:=ZcH t h; exact ⟨k',by simpa [exitTo] using h1,h2⟩
 | _,_,_,.beginR t,h=>by simp only [Jf] at h; obtain ⟨k',h1,h2⟩:=ZcH t h; exact ⟨k',by simpa [exitTo] using h1,h2⟩
 | _,_,_,.inBlock (id:=id') t,h=>by
  simp only [Jf] at h
  by_cases hid:id'=id
  ·simp only [hid,if_true,ZvD] at h
   subst h
   exact ⟨_,by simp [exitTo,hid],t⟩
  ·simp only [hid,if_false] at h
   obtain ⟨k',h1,h2⟩:=ZcH t h
   exact ⟨k',by simpa [exitTo,hid] using h1,h2⟩
theorem Za7 {an:Ann} {N id:Nat}:∀ {k:List Item} {dk:List Zp},KX P an N k dk→Jf id dk=none→exitTo id k=none
 | _,_,.nil,_=>rfl
 | _,_,.code _ t,h=>by simp only [Jf] at h; simpa [exitTo] using Za7 t h
 | _,_,.inLoop _ t,h=>by simp only [Jf] at h; simpa [exitTo] using Za7 t h
 | _,_,.inScope _ t,h=>by simp only [Jf] at h; simpa [exitTo] using Za7 t h
 | _,_,.beginR t,h=>by simp only [Jf] at h; simpa [exitTo] using Za7 t h
 | _,_,.inBlock (id:=id') t,h=>by
  simp only [Jf] at h
  by_cases hid:id'=id
  ·simp [hid] at h
  ·simp only [hid,if_false] at h
   simpa [exitTo,hid] using Za7 t h
theorem KO {F:Fr P} {id:Nat} {dk dk':List Zp} {ρ:Env} {L:Loc} {s:St} (he:Jf id dk=some dk') (h:ZD F dk' ρ L s):ZD F (.code (.exit id) :: dk) ρ L s:=by
 intro k hk
 cases hk with
 | code hc ht =>
  obtain rfl:=Zpx hc
  obtain ⟨k',h1,h2⟩:=ZcH ht he
  exact JO.step (fun a w=>stepR_exit h1) (h _ h2)
theorem Y2 {g:G} {ν:Nat→Nat} {w:World} {tmps:Array Value} {ρ:Env} {L:Loc} {s:St} (m:ZI g ν w tmps ρ L s) {x:Operand} {y:Opd} (hc:YJ x=some y) {c:Bool} (hcond:c=true)
  {p:Prop} {e:E} (ha:ZV ρ c y=some (p,e)) (hp:p) (ds:List Deferred):Z5 g ν w L ((Act.mk tmps ds).eval x) e:=by
 cases x with
 | tmp t =>
  simp only [YJ,ZvD] at hc
  subst hc
  simp only [ZV] at ha
  split at ha
  ·rename_i c' e' hg
   simp only [ZvD,ZvL] at ha
   obtain ⟨rfl,rfl⟩:=ha
   exact (m.env t _ hg).1 (hp hcond)
  ·rename_i e' hne hg
   simp only [ZvD,ZvL] at ha
   obtain ⟨rfl,rfl⟩:=ha
   exact m.env t _ hg
  ·simp at ha
 | const v =>
  simp only [YJ,ZvO] at hc
  obtain ⟨d,hd,rfl⟩:=hc
  simp only [ZV,ZvD,ZvL] at ha
  obtain ⟨rfl,rfl⟩:=ha
  exact Zhg hd
 | func f =>
  simp only [YJ,ZvD] at hc
  subst hc
  simp only [ZV,ZvD,ZvL] at ha
  obtain ⟨rfl,rfl⟩:=ha
  exact .fn (.func f) [] [] [] [] rfl rfl (fun i v d h=>by simp at h) (fun i v d h=>by simp at h)
 | global g =>
  simp only [YJ,ZvD] at hc
  subst hc
  simp only [ZV,ZvD,ZvL] at ha
  obtain ⟨rfl,rfl⟩:=ha
  cases ht:Znt.tab g with
  | none=>exact .any _
  | some cs=>exact m.st.tabs g cs ht
theorem ZcR {g:G} {ν:Nat→Nat} {w:World} {tmps:Array Value} {ρ:Env} {L:Loc} {s:St} (m:ZI g ν w tmps ρ L s) {c:Bool} (hcond:c=true) (ds:List Deferred) :
  ∀ {xs:List Operand} {ys:List Opd} {p:Prop} {es:List E},ZbE xs=some ys→Wc ρ c ys=some (p,es)→p→ZZ (Z5 g ν w L) (xs.map (Act.mk tmps ds).eval) es
 | [],ys,p,es,hc,ha,hp=>by
  simp only [ZbE,ZvD] at hc
  subst hc
  simp only [Wc,ZvD,ZvL] at ha
  obtain ⟨rfl,rfl⟩:=ha
  exact .nil
 | x :: xs,ys,p,es,hc,ha,hp=>by
  simp only [ZbE] at hc
  split at hc <;> simp at hc
  rename_i y ys' hy hys
  subst hc
  simp only [Wc] at ha
  split at ha <;> simp only [ZvD,ZvL,reduceCtorEq] at ha
  rename_i p1 e1 p2 es' h1 h2
  obtain ⟨rfl,rfl⟩:=ha
  exact .cons (Y2 m hy hcond h1 hp.1 ds) (ZcR m hcond ds hys h2 hp.2)
theorem Zv {F:Fr P} {o:Opd} {x y:DC} {dk:List Zp} {ρ:Env} {L:Loc} {s:St} {b:Bool} {p:Prop} (ho:ZV ρ true o=some (p,.d (.bool b))) (hp:p)
  (ht:b=true→ZD F (.code x :: dk) ρ L s) (hf:b=false→ZD F (.code y :: dk) ρ L s):ZD F (.code (.cond o x y) :: dk) ρ L s:=by
 intro k hk
 cases hk with
 | code hc htl =>
  obtain ⟨o',a,b',rfl,ho',ha,hb⟩:=ZtU hc
  intro g ν w tmps hN m
  have hv:=Y2 m ho' rfl ho hp F.ds
  have hv':(Act.mk tmps F.ds).eval o' = .bool b:=ZbQ hv
  refine F.T.back _ _ _ _ (.one (stepR_cond hv')) ?_
  cases b
  ·exact hf rfl _ (.code hb htl) g ν w tmps hN m
  ·exact ht rfl _ (.code ha htl) g ν w tmps hN m
theorem Yr {F:Fr P} {os:List DOp} {ks:Option (List Nat)} {dk:List Zp} {ρ:Env} {L:Loc} {s:St} (h:DO F ks dk os ρ L s):ZD F (.code (.reg os ks) :: dk) ρ L s:=by
 intro k hk
 cases hk with
 | code hc ht =>
  obtain ⟨id,ops,rfl,hops,_⟩:=ZuJ hc
  exact JO.step (fun a w=>stepR_region) (h _ _ _ hops ht)
end
end Go.DL
namespace Go.DL
open Go
variable [Znt]
theorem Zg8 (w:World) (o:Obj) {b:Nat} (h:b < w.heap.size):(w.alloc o).heap[b]? = w.heap[b]?:=by
 show (w.heap.push o)[b]? = _
 rw [Array.getElem?_push]; simp [Nat.ne_of_lt h]
theorem QB (w:World) (o:Obj):(w.alloc o).heap[w.heap.size]? = some o:=by
 show (w.heap.push o)[w.heap.size]? = _
 rw [Array.getElem?_push]; simp
theorem ZcQ (v:Value):v.oneCell'=v.one1:=by cases v <;> rfl
section
variable {P:Program} {g:G} {ν:Nat→Nat} {w:World} {tmps:Array Value} {ρ:Env} {L:Loc} {s:St}
theorem Zgb (b:Nat) {cur vs:Array Value} {T:TypeId} (hb:w.heap[b]? = some (.cells cur T (0,0))) (hsz:vs.size=cur.size) (hp:g.prot b=0) (hk:¬ g.kept b):Ext g w g (w.setRow b vs):={
 size:=by simp
 prot _:=ZvR _
 cell b' o ho:=by
  by_cases h:b'=b
  ·subst h; omega
  ·exact JY (setRow_other w b b' vs h)
 hdr b' x hx:=by
  by_cases h:b'=b
  ·subst h
   simp only [hdr,hb] at hx
   simp only [hdr,setRow_heap w b' cur vs T (0,0) hb,hsz]; exact hx
  ·rw [Zbs (setRow_other w b b' vs h)]; exact hx
 kept b' hb':=setRow_other w b b' vs (fun h=>hk (h ▸ hb'))
 keptProt _ _:=rfl
 keptEq:=rfl
 os:=rfl
 output:=rfl
 tape:=rfl }
theorem Wo.other {g:G} {w w':World} {s:St} (m:Wo g s w) (e:Ext g w g w') (hs:w'.heap.size=w.heap.size) (hb:∀ b o,s b=some o→w'.heap[b]? = w.heap[b]?):Wo g s w':={
 obj b o ho:=(m.obj b o ho).mono e (hb b o ho) rfl
 kept:=m.kept
 fresh b h:=m.fresh b (by omega)
 tabs n cs hc:=(m.tabs n cs hc).mono e }
theorem ZI.store (m:ZI g ν w tmps ρ L s) {l:Nat} {cs ds:List D} (hl:Zl L l=some cs) {vs:Array Value} (hr:ZZ (Rep g w) vs.toList ds) (ho:∀ v∈vs,v.one1=true) (hn:ds.length=cs.length) :
  Ext g w g (w.setRow (ν l) vs)∧ZI g ν (w.setRow (ν l) vs) tmps ρ ((l,ds) :: L) s:=by
 obtain ⟨hp,cur,T,h1,h2,_,_⟩:=m.loc l cs hl
 have hsz:vs.size=cur.size:=by have:=hr.len; simp at this; omega
 have he:=Zgb (g:=g) (ν l) h1 hsz hp (m.locKept l cs hl)
 refine ⟨he,⟨?_,?_,?_,?_,?_,?_⟩⟩
 ·exact m.st.other he (by simp) (fun b o hb=>setRow_other w (ν l) b vs (fun h=>by subst h; rw [m.locSt l cs hl] at hb; simp at hb))
 ·intro l' cs' hl'
  simp only [Zl] at hl'
  by_cases h:l=l'
  ·subst h
   simp only [if_true,ZvD] at hl'
   subst hl'
   refine ⟨hp,vs,T,setRow_heap w (ν l) cur vs T (0,0) h1,by rw [hsz,h2,hn],fun i v d hv hd=>?_,ho⟩
   exact (hr.get i v d (by simpa using hv) hd).mono he
  ·simp only [h,if_false] at hl'
   have hne:ν l'≠ν l:=fun hh=>h (m.inj l l' cs cs' hl hl' hh.symm)
   exact (m.loc l' cs' hl').mono he (setRow_other w (ν l) (ν l') vs hne) rfl
 ·intro l' cs' hl'
  simp only [Zl] at hl'
  by_cases h:l=l'
  ·subst h; exact m.locKept l cs hl
  ·simp only [h,if_false] at hl'; exact m.locKept l' cs' hl'
 ·intro l' cs' hl'
  simp only [Zl] at hl'
  by_cases h:l=l'
  ·subst h; exact m.locSt l cs hl
  ·simp only [h,if_false] at hl'; exact m.locSt l' cs' hl'
 ·intro a b ca cb ha hb hab
  simp only [Zl] at ha hb
  by_cases h1:l=a
  ·by_cases h2:l=b
   ·exact h1.symm.trans h2
   ·simp only [h2,if_false] at hb
    subst h1; exact m.inj _ _ cs cb hl hb hab
  ·simp only [h1,if_false] at ha
   by_cases h2:l=b
   ·subst h2; exact m.inj _ _ ca cs ha hl hab
   ·simp only [h2,if_false] at hb
    exact m.inj _ _ ca cb ha hb hab
 ·intro t e ht
  refine ((m.env t e ht).mono he).locs (fun l' cs' hl'=>⟨?_,rfl⟩)
  by_cases h:l=l'
  ·exact ⟨ds,by simp [Zl,h]⟩
  ·exact ⟨cs',by simp [Zl,h,hl']⟩
theorem Zqz (c:Array Value) (T:TypeId) (hf:∀ b,w.heap.size≤b→g.prot b=0∧¬ g.kept b):Zau g w g (w.alloc (.cells c T)):={
 size:=by simp
 old b hb:=Zg8 w _ hb
 prot _ _:=rfl
 fresh b hb:=(hf b (by simp at hb; omega)).1
 kept:=rfl
 os:=rfl
 output:=rfl
 tape:=rfl }
theorem ZI.alloc (m:ZI g ν w tmps ρ L s) {l:Nat} {ds:List D} (hl:Zay L l=false) {vs:Array Value} (hr:ZZ (Rep g w) vs.toList ds) (ho:∀ v∈vs,v.one1=true) (T:TypeId) :
  Ext g w g (w.alloc (.cells vs T))∧ZI g (fun x=>if x=l then w.heap.size else ν x) (w.alloc (.cells vs T)) tmps ρ ((l,ds) :: L) s:=by
 have hg:=Zqz (g:=g) vs T m.st.fresh
 have he:=hg.ext m.st.fresh
 have m':=m.grow hg
 have hn:Zl L l=none:=by simpa [Zay] using hl
 have hlt:∀ l' cs',Zl L l'=some cs'→l'≠l:=fun l' cs' h hh=>by subst hh; rw [hn] at h; simp at h
 refine ⟨he,⟨m'.st,?_,?_,?_,?_,?_⟩⟩
 ·intro l' cs' hl'
  simp only [Zl] at hl'
  by_cases h:l=l'
  ·subst h
   simp only [if_true,ZvD] at hl'
   subst hl'
   simp only [if_true]
   refine ⟨(m.st.fresh _ (ZvR _)).1,vs,T,QB w _,by simpa using hr.len,fun i v d hv hd=>?_,ho⟩
   exact (hr.get i v d (by simpa using hv) hd).mono he
  ·simp only [h,if_false] at hl'
   simp only [show ¬ l'=l from fun hh=>h hh.symm,if_false]
   exact m'.loc l' cs' hl'
 ·intro l' cs' hl'
  simp only [Zl] at hl'
  by_cases h:l=l'
  ·subst h; simp only [if_true]; exact (m.st.fresh _ (ZvR _)).2
  ·simp only [h,if_false] at hl'
   simp only [show ¬ l'=l from fun hh=>h hh.symm,if_false]
   exact m.locKept l' cs' hl'
 ·intro l' cs' hl'
  simp only [Zl] at hl'
  by_cases h:l=l'
  ·subst h
   simp only [if_true]
   cases hs:s w.heap.size with
   | none=>rfl
   | some o=>exact absurd (m.st.obj _ o hs).lt (Nat.lt_irrefl _)
  ·simp only [h,if_false] at hl'
   simp only [show ¬ l'=l from fun hh=>h hh.symm,if_false]
   exact m.locSt l' cs' hl'
 ·intro a b ca cb ha hb hab
  simp only [Zl] at ha hb
  by_cases h1:l=a
  ·by_cases h2:l=b
   ·exact h1.symm.trans h2
   ·simp only [h2,if_false] at hb
    simp only [h1.symm,if_true,show ¬ b=l from fun hh=>h2 hh.symm,if_false] at hab
    have:=(m.loc b cb hb).lt
    omega
  ·simp only [h1,if_false] at ha
   by_cases h2:l=b
   ·simp only [h2.symm,if_true,show ¬ a=l from fun hh=>h1 hh.symm,if_false] at hab
    have:=(m.loc a ca ha).lt
    omega
   ·simp only [h2,if_false] at hb
    simp only [show ¬ a=l from fun hh=>h1 hh.symm,show ¬ b=l from fun hh=>h2 hh.symm,if_false] at hab
    exact m.inj _ _ ca cb ha hb hab
 ·intro t e ht
  refine (m'.env t e ht).locs (fun l' cs' hl'=>⟨⟨cs',?_⟩,?_⟩)
  ·have:=hlt l' cs' hl'
   simp [Zl,show ¬ l=l' from fun hh=>this hh.symm,hl']
  ·simp [hlt l' cs' hl']
theorem Zi4 (c:Array Value) (T:TypeId) (hf:∀ b,w.heap.size≤b→g.prot b=0∧¬ g.kept b) :
  Zau g w { g with prot:=fun b=>if b=w.heap.size then c.size else g.prot b } (w.alloc (.cells c T)) where
 size:=by simp
 old b hb:=Zg8 w _ hb
 prot b hb:=by simp [Nat.ne_of_lt hb]
 fresh b hb:=by simp at hb; simp [show b≠w.heap.size by omega,(hf b (by omega)).1]
 kept:=rfl
 os:=rfl
 output:=rfl
 tape:=rfl
theorem Y7 (m:ZI g ν w tmps ρ L s) {ops:Array Oper} {o:Oper} {gd:Option (Nat × Bool)} (hc:Zhd ops o.guard=some gd) {c:Bool} (hg:Zu ρ gd=some c):Region.wanted o (yielded ops tmps)=c:=by
 unfold Zhd at hc
 unfold Region.wanted
 split at hc
 ·rename_i h0
  simp only [ZvD] at hc; subst hc
  simp only [Zu,ZvD] at hg; subst hg
  simp [h0]
 ·rename_i j b h0
  split at hc <;> simp at hc
  rename_i t ht
  subst hc
  simp only [h0]
  have hy:yielded ops tmps j=match tmps.getD t undef with
    | .bool b=>some b
    | _=>none:=by
   unfold yielded
   rw [ht]
   simp only [Option.bind_some]
   rcases Nat.lt_or_ge t tmps.size with hlt | hge
   ·simp [Array.getD,hlt]
    split <;> simp_all
   ·simp [Array.getD,Nat.not_lt.2 hge,undef]
  simp only [Zu] at hg
  split at hg
  ·rename_i b' he
   simp only [ZvD] at hg; subst hg
   have:=ZbQ (m.env t _ he)
   rw [hy,this]
   cases b <;> cases b' <;> rfl
  ·rename_i c0 b' he
   simp only [ZvD] at hg; subst hg
   have h:=m.env t _ he
   cases c0
   ·have:=h.2 rfl
    rw [hy,this]
    simp [undef]
   ·have:=ZbQ (h.1 rfl)
    rw [hy,this]
    cases b <;> cases b' <;> rfl
  ·simp at hg
end
end Go.DL
namespace Go.DL
open Go
variable [Znt]
section
variable {P:Program}
theorem Wp {op:Op} {k:K} (h:ck P op=some k) (hk:k.isDefer=false) (c:Call):op≠.defer c:=by
 rintro rfl
 simp only [ck,cq] at h
 split at h <;> (try (simp at h; done))
 split at h <;> simp only [ZvD,reduceCtorEq] at h
 subst h
 simp [K.isDefer] at hk
theorem ZgM {b:Frame} {a:Act} {k:List Item} {cs:List Frame} {w w':World} {ops:Array Oper} {i:Nat} {rest:List Nat} {o:Oper} {v:Value} (ho:ops[i]? = some o)
  (hw:Region.wanted o (yielded ops a.tmps)=true) (hnd:∀ c,o.op≠.defer c) (hr:(execOp a.eval o).run P w = .ok (.value v) w') :
  step P (lone (b.atR a (.inRegion ops (i :: rest) :: k)) cs w) = .next (lone (b.atR (a.put o.dst v) (.inRegion ops rest :: k)) cs w'):=by
 refine step_lone_go ?_
 rw [stepGR_op ho hw,Oper.semAt_eq _ _ _ hnd]
 have hfin:(b.atR a (.inRegion ops (i :: rest) :: k)).finish v=b.atR (a.put o.dst v) (.inRegion ops rest :: k):=by rw [Frame.finish_atR,ho]; rfl
 rw [← hfin]; simp [stepG.apply,hr]
theorem ZgL {b:Frame} {a:Act} {k:List Item} {cs:List Frame} {w w':World} {ops:Array Oper} {i:Nat} {rest:List Nat} {o:Oper} (ho:ops[i]? = some o)
  (hw:Region.wanted o (yielded ops a.tmps)=true) (hnd:∀ c,o.op≠.defer c) (hr:(execOp a.eval o).run P w = .ok .skip w') :
  step P (lone (b.atR a (.inRegion ops (i :: rest) :: k)) cs w) = .next (lone (b.atR (a.put o.dst undef) (.inRegion ops rest :: k)) cs w'):=by
 refine step_lone_go ?_
 rw [stepGR_op ho hw,Oper.semAt_eq _ _ _ hnd]
 have hfin:(b.atR a (.inRegion ops (i :: rest) :: k)).finish undef=b.atR (a.put o.dst undef) (.inRegion ops rest :: k):=by rw [Frame.finish_atR,ho]; rfl
 rw [← hfin]; simp [stepG.apply,hr]
theorem ZmR {b:Frame} {a:Act} {k:List Item} {cs:List Frame} {w:World} {ops:Array Oper} {i:Nat} {rest:List Nat} {o:Oper} (ho:ops[i]? = some o)
  (hw:Region.wanted o (yielded ops a.tmps)=false) :
  step P (lone (b.atR a (.inRegion ops (i :: rest) :: k)) cs w) = .next (lone (b.atR (a.put o.dst undef) (.inRegion ops rest :: k)) cs w):=by
 have:=stepR_op_skip (P:=P) (b:=b) (a:=a) (k:=k) (cs:=cs) (w:=w) (ops:=ops) (i:=i) (rest:=rest) (by simp [ho,hw])
 simpa [ho] using this
theorem ZrF {N:Nat} {ops:Array Oper} {is:List Nat} {o:DOp} {os:List DOp} (h:Zax P N ops is=some (o :: os)) :
  ∃ i r oo,is=i :: r∧ops[i]? = some oo∧Zax P N ops r=some os∧ck P oo.op=some o.k∧Zhd ops oo.guard=some o.guard∧oo.dst=o.dst∧∀ d,o.dst=some d→d < N:=by
 cases is with
 | nil=>simp [Zax] at h
 | cons i r =>
  simp only [Zax] at h
  split at h <;> (try (simp at h; done))
  rename_i oo hoo
  split at h <;> simp only [ZvD,List.cons.injEq,reduceCtorEq] at h
  rename_i d ds hd hds
  obtain ⟨rfl,rfl⟩:=h
  simp only [cop] at hd
  split at hd <;> (try (simp at hd; done))
  rename_i k g hk hg
  refine ⟨i,r,oo,rfl,hoo,hds,?_⟩
  split at hd
  ·rename_i hdst
   simp only [ZvD] at hd; subst hd
   exact ⟨hk,hg,hdst,fun d h=>by simp at h⟩
  ·rename_i d' hdst
   split at hd <;> simp at hd
   rename_i hlt
   subst hd
   exact ⟨hk,hg,hdst,fun d h=>by simp only [ZvD] at h; exact h ▸ hlt⟩
theorem ZsS {N:Nat} {ops:Array Oper} {is:List Nat} (h:Zax P N ops is=some []):is=[]:=by
 cases is with
 | nil=>rfl
 | cons i r=>simp only [Zax] at h; split at h <;> (try (simp at h; done)); split at h <;> simp at h
theorem Zer {g:G} {ν:Nat→Nat} {w:World} {tmps:Array Value} {ρ:Env} {L:Loc} {s:St} (m:ZI g ν w tmps ρ L s) {N:Nat} (hN:N≤tmps.size) {dst:Option Nat} (hd:∀ d,dst=some d→d < N) {v:Value} {e:E}
  (h:Z5 g ν w L v e) (ds:List Deferred):∃ tmps',(Act.mk tmps ds).put dst v=⟨tmps',ds⟩∧N≤tmps'.size∧ZI g ν w tmps' (ZQ ρ dst e) L s:=by
 cases dst with
 | none=>exact ⟨tmps,rfl,hN,m⟩
 | some d=>exact ⟨tmps.setIfInBounds d v,rfl,by simpa using hN,m.put (by have:=hd d rfl; omega) h⟩
theorem ZkC {F:Fr P} {ops:Array Oper} {i:Nat} {r:List Nat} {k:List Item} {oo:Oper} {o:DOp} {g:G} {ν:Nat→Nat} {w:World} {tmps:Array Value} {ρ:Env} {L:Loc} {s:St} (hN:F.N≤tmps.size)
  (m:ZI g ν w tmps ρ L s) (hoo:ops[i]? = some oo) (hdst:oo.dst=o.dst) (hd:∀ d,o.dst=some d→d < F.N) (hw:Region.wanted oo (yielded ops tmps)=true) (hnd:∀ c,oo.op≠.defer c) {e:E}
  (hv:∃ v,(execOp (Act.mk tmps F.ds).eval oo).run P w = .ok (.value v) w∧Z5 g ν w L v e) (h:JO F (.inRegion ops r :: k) (ZQ ρ o.dst e) L s) :
  F.T.T g w (lone (F.b.atR ⟨tmps,F.ds⟩ (.inRegion ops (i :: r) :: k)) F.cs w):=by
 obtain ⟨v,hr,hv⟩:=hv
 refine F.T.back _ _ _ _ (.one (ZgM hoo hw hnd hr)) ?_
 rw [hdst]
 obtain ⟨tmps',e1,e2,m'⟩:=Zer m hN hd hv F.ds
 rw [e1]
 exact h g ν w tmps' e2 m'
theorem ZbH {F:Fr P} {ops:Array Oper} {i:Nat} {r:List Nat} {k:List Item} {oo:Oper} {o:DOp} {g:G} {ν:Nat→Nat} {w:World} {tmps:Array Value} {ρ:Env} {L:Loc} {s:St} (hN:F.N≤tmps.size)
  (m:ZI g ν w tmps ρ L s) (hoo:ops[i]? = some oo) (hdst:oo.dst=o.dst) (hd:∀ d,o.dst=some d→d < F.N) (hw:Region.wanted oo (yielded ops tmps)=false) {e:E}
  (h:JO F (.inRegion ops r :: k) (ZQ ρ o.dst (.when false e)) L s):F.T.T g w (lone (F.b.atR ⟨tmps,F.ds⟩ (.inRegion ops (i :: r) :: k)) F.cs w):=by
 refine F.T.back _ _ _ _ (.one (ZmR hoo hw)) ?_
 rw [hdst]
 obtain ⟨tmps',e1,e2,m'⟩:=Zer m hN hd (v:=undef) (e:=.when false e) ⟨fun h=>by simp at h,fun _=>rfl⟩ F.ds
 rw [e1]
 exact h g ν w tmps' e2 m'
theorem Zvz {op:Op} {q:Q} {xs:List Opd} (h:ck P op=some (.q q xs)):∃ ys,cq P op=some (q,ys)∧ZbE ys=some xs:=by
 unfold ck at h
 split at h
 ·rename_i q' ys hc
  simp only [ZvO,K.q.injEq] at h
  obtain ⟨zs,hz,rfl,rfl⟩:=h
  exact ⟨ys,hc,hz⟩
 ·exfalso
  split at h <;> (try (simp at h; done))
  all_goals (repeat' (split at h <;> (try (simp at h; done))))
theorem Zdi (ρ:Env):∀ (ks:List Nat) (t:Nat) (e:E),Ye (Wy ρ ks) t=some e→Ye ρ t=some e
 | [],t,e,h=>by simp [Wy,Ye] at h
 | k :: ks,t,e,h=>by
  simp only [Wy] at h
  split at h
  ·rename_i e' he'
   simp only [Ye] at h
   by_cases hk:k=t
   ·subst hk; simp only [if_true] at h; rw [he',h]
   ·simp only [hk,if_false] at h; exact Zdi ρ ks t e h
  ·exact Zdi ρ ks t e h
theorem Zfk:∀ {ρ:Env} {t:Nat} {e:E},Ye ρ t=some e→(t,e)∈ρ
 | (k,e') :: ρ,t,e,h=>by
  simp only [Ye] at h
  by_cases hk:k=t
  ·simp only [hk,if_true,ZvD] at h; subst h; subst hk; simp
  ·simp only [hk,if_false] at h; exact List.mem_cons_of_mem _ (Zfk h)
theorem Zac (L:Loc):∀ (ls:List Nat) (l:Nat) (cs:List D),Zl (ZaJ L ls) l=some cs→Zl L l=some cs
 | [],l,cs,h=>by simp [ZaJ,Zl] at h
 | k :: ls,l,cs,h=>by
  simp only [ZaJ] at h
  split at h
  ·rename_i c' hc'
   simp only [Zl] at h
   by_cases hk:k=l
   ·subst hk; simp only [if_true] at h; rw [hc',h]
   ·simp only [hk,if_false] at h; exact Zac L ls l cs h
  ·exact Zac L ls l cs h
theorem Ze7 (L:Loc):∀ (ls:List Nat) (l:Nat) (cs:List D),l∈ls→Zl L l=some cs→Zl (ZaJ L ls) l=some cs
 | k :: ls,l,cs,hm,h=>by
  simp only [ZaJ]
  by_cases hk:k=l
  ·subst hk; simp [h,Zl]
  ·have hm':l∈ls:=by rcases List.mem_cons.1 hm with rfl | h; exact absurd rfl hk; exact h
   split
   ·simp only [Zl,hk,if_false]; exact Ze7 L ls l cs hm' h
   ·exact Ze7 L ls l cs hm' h
theorem Z5.keep {g:G} {ν:Nat→Nat} {w:World} {L:Loc} {ls:List Nat} {v:Value} {e:E} (h:Z5 g ν w L v e) (hl:∀ l∈Q1 e,l∈ls):Z5 g ν w (ZaJ L ls) v e:=by
 induction e with
 | d x=>exact h
 | loc l o=>obtain ⟨⟨cs,hc⟩,hv⟩:=h; exact ⟨⟨cs,Ze7 L ls l cs (hl l (by simp [Q1])) hc⟩,hv⟩
 | when c e ih=>exact ⟨fun hc=>ih (h.1 hc) hl,h.2⟩
theorem ZI.keep {g:G} {ν:Nat→Nat} {w:World} {tmps:Array Value} {ρ:Env} {L:Loc} {s:St} (m:ZI g ν w tmps ρ L s) (ks:List Nat):ZI g ν w tmps (Wy ρ ks) (ZbI (Wy ρ ks) L) s:={
 st:=m.st
 loc l cs h:=m.loc l cs (Zac _ _ _ _ h)
 locKept l cs h:=m.locKept l cs (Zac _ _ _ _ h)
 locSt l cs h:=m.locSt l cs (Zac _ _ _ _ h)
 inj l l' cs cs' h h':=m.inj l l' cs cs' (Zac _ _ _ _ h) (Zac _ _ _ _ h')
 env t e h:=(m.env t e (Zdi ρ ks t e h)).keep (fun l hl=>List.mem_flatMap.2 ⟨(t,e),Zfk h,hl⟩) }
theorem ZbU {F:Fr P} {dk:List Zp} {ρ:Env} {L:Loc} {s:St} (ks:List Nat) (h:ZD F dk (Wy ρ ks) (ZbI (Wy ρ ks) L) s):ZD F dk ρ L s :=
 fun k hk g ν w tmps hN m=>h k hk g ν w tmps hN (m.keep ks)
theorem ZuC {F:Fr P} {kp:Option (List Nat)} {dk:List Zp} {ρ:Env} {L:Loc} {s:St} (h:ZD F dk ρ L s):DO F kp dk [] ρ L s:=by
 intro ops is k hops hk g ν w tmps hN m
 obtain rfl:=ZsS hops
 exact F.T.back _ _ _ _ (.one stepR_region_end) (h k hk g ν w tmps hN m)
def kept (kp:Option (List Nat)) (ρ:Env):Env :=
 match kp with
 | some ks=>Wy ρ ks
 | none=>ρ
def Zm4 (kp:Option (List Nat)) (ρ:Env) (L:Loc):Loc :=
 match kp with
 | some ks=>ZbI (Wy ρ ks) L
 | none=>L
theorem Zg4 {F:Fr P} {kp:Option (List Nat)} {dk:List Zp} {ρ:Env} {L:Loc} {s:St} (h:ZD F dk (kept kp ρ) (Zm4 kp ρ L) s):DO F kp dk [] ρ L s:=by
 refine ZuC ?_
 cases kp with
 | none=>exact h
 | some ks=>exact ZbU ks h
end
end Go.DL
namespace Go.DL
open Go
variable [Znt]
section
variable {P:Program}
theorem Ztj {g:G} {ν:Nat→Nat} {w:World} {tmps:Array Value} {ρ:Env} {L:Loc} {s:St} (m:ZI g ν w tmps ρ L s) {x a b:Operand} {x' a' b':Opd} (hx:YJ x=some x') (ha:YJ a=some a')
  (hb:YJ b=some b') {c:Bool} (hc:c=true) {p:Prop} {v:Bool} (h:Zc8 ρ c x' a' b'=some (p,v)) (hp:p) (ds:List Deferred) (dst:Option Nat) (ty:TypeId) (pos:String) (af:Array Edge) (gd:Option (Nat × Bool)) :
  (execOp (Act.mk tmps ds).eval ⟨dst,.pick x a b,ty,pos,af,gd⟩).run P w = .ok (.value (.bool v)) w:=by
 unfold Zc8 at h
 split at h <;> (try (simp at h; done))
 rename_i p0 v0 h0
 split at h <;> (try (simp at h; done))
 rename_i pa y pb z h1 h2
 simp only [ZvD,ZvL] at h
 obtain ⟨rfl,rfl⟩:=h
 subst hc
 have e0:=ZbQ (Y2 m hx rfl h0 hp.1 ds)
 cases v0
 ·have e2:=ZbQ (Y2 m hb rfl h2 hp.2.2 ds)
  simp [execOp,e0,e2,asBool]
 ·have e1:=ZbQ (Y2 m ha rfl h1 hp.2.1 ds)
  simp [execOp,e0,e1,asBool]
theorem Zt0 {op:Op} {x a b:Opd} (h:ck P op=some (.pick x a b)):∃ x' a' b',op = .pick x' a' b'∧YJ x'=some x∧YJ a'=some a∧YJ b'=some b:=by
 unfold ck at h
 split at h
 ·simp at h
 ·split at h <;> (try (simp at h; done))
  all_goals (try (repeat' (split at h <;> (try (simp at h; done)))))
  simp only [ZvD,K.pick.injEq] at h
  obtain ⟨rfl,rfl,rfl⟩:=h
  exact ⟨_,_,_,rfl,‹_›,‹_›,‹_›⟩
theorem ZnK {op:Op} {z:List D} (h:ck P op=some (.alloc z)):∃ e,op = .alloc e∧ZaL P e=some z:=by
 unfold ck at h
 split at h
 ·simp at h
 ·split at h <;> (try (simp at h; done))
  all_goals (try (repeat' (split at h <;> (try (simp at h; done)))))
  simp only [ZvO,K.alloc.injEq,exists_eq_right] at h
  exact ⟨_,rfl,h⟩
theorem Zrx {op:Op} {x:Opd} (h:ck P op=some (.box x)):∃ e x',op = .box e x'∧YJ x'=some x:=by
 unfold ck at h
 split at h
 ·simp at h
 ·split at h <;> (try (simp at h; done))
  all_goals (try (repeat' (split at h <;> (try (simp at h; done)))))
  simp only [ZvO,K.box.injEq,exists_eq_right] at h
  exact ⟨_,_,rfl,h⟩
theorem Zl6 {op:Op} {a v:Opd} (h:ck P op=some (.store1 a v)):∃ t a' v',op = .store t a' v'∧Zae P t=some false∧YD P t=some 1∧YJ a'=some a∧YJ v'=some v:=by
 unfold ck at h
 split at h
 ·simp at h
 ·split at h <;> (try (simp at h; done))
  all_goals (try (repeat' (split at h <;> (try (simp at h; done)))))
  simp only [ZvD,K.store1.injEq] at h
  obtain ⟨rfl,rfl⟩:=h
  exact ⟨_,_,_,rfl,‹_›,‹_›,‹_›,‹_›⟩
theorem Zl7 {op:Op} {a v:Opd} {n:Nat} (h:ck P op=some (.storeN n a v)):∃ t a' v',op = .store t a' v'∧Zae P t=some true∧YD P t=some n∧YJ a'=some a∧YJ v'=some v:=by
 unfold ck at h
 split at h
 ·simp at h
 ·split at h <;> (try (simp at h; done))
  all_goals (try (repeat' (split at h <;> (try (simp at h; done)))))
  simp only [ZvD,K.storeN.injEq] at h
  obtain ⟨rfl,rfl,rfl⟩:=h
  exact ⟨_,_,_,rfl,‹_›,‹_›,‹_›,‹_›⟩
theorem Zry {op:Op} {len n:Nat} {z:List D} {is:List Nat} {xs:List Opd} (h:ck P op=some (.bsl len n z is xs)) :
  ∃ t e parts,op = .buildSlice t len parts∧P.underlying t=some (.slice e)∧YD P e=some n∧ZaL P e=some z∧ZbE (parts.toList.map (·.2))=some xs∧is=parts.toList.map (·.1) ∧
   Jd len is=true∧z.length=n∧0 < n∧len * n≤2 ^ 24:=by
 unfold ck at h
 split at h
 ·simp at h
 ·split at h <;> (try (simp at h; done))
  all_goals (try (repeat' (split at h <;> (try (simp at h; done)))))
  rename_i hcond
  simp only [ZvD,K.bsl.injEq] at h
  obtain ⟨rfl,rfl,rfl,rfl,rfl⟩:=h
  simp only [ZvN,decide_eq_true_eq] at hcond
  exact ⟨_,_,_,rfl,‹_›,‹_›,‹_›,‹_›,rfl,hcond.1.1.1,hcond.1.1.2,hcond.1.2,hcond.2⟩
theorem J8 {g:G} {w:World} {t:TypeId} {z:List D} (h:ZaL P t=some z):∃ v,(zeroValue t).run P w = .ok v w∧ZZ (Rep g w) v.cells.toList z∧(∀ x∈v.cells,x.one1=true)∧∃ i,P.info? t=some i∧i.zero=some v:=by
 unfold ZaL at h
 cases hi:P.info? t with
 | none=>simp [hi] at h
 | some i =>
  cases hz:i.zero with
  | none=>simp [hi,hz] at h
  | some v =>
   simp only [hi,hz] at h
   obtain ⟨h1,h2⟩:=Zdg (g:=g) (w:=w) h
   exact ⟨v,by simp [zeroValue,typeInfo,hi,hz],h1,fun x hx=>h2 x (Array.mem_toList_iff.2 hx),i,rfl,hz⟩
theorem KL {F:Fr P} {kp:Option (List Nat)} {dk:List Zp} {o:DOp} {os:List DOp} {ρ:Env} {L:Loc} {s:St}
  (h:∀ (oo:Oper) (g:G) (ν:Nat→Nat) (w:World) (tmps:Array Value) (ops:Array Oper) (i:Nat) (r:List Nat) (k:List Item),ops[i]? = some oo→ck P oo.op=some o.k→Zhd ops oo.guard=some o.guard →
   oo.dst=o.dst→(∀ d,o.dst=some d→d < F.N)→F.N≤tmps.size→ZI g ν w tmps ρ L s→Zax P F.N ops r=some os→KX P F.an F.N k dk →
   F.T.T g w (lone (F.b.atR ⟨tmps,F.ds⟩ (.inRegion ops (i :: r) :: k)) F.cs w)):DO F kp dk (o :: os) ρ L s:=by
 intro ops is k hops hk g ν w tmps hN m
 obtain ⟨i,r,oo,rfl,h1,h2,h3,h4,h5,h6⟩:=ZrF hops
 exact h oo g ν w tmps ops i r k h1 h3 h4 h5 h6 hN m h2 hk
theorem Zro {F:Fr P} {kp:Option (List Nat)} {dk:List Zp} {o:DOp} {os:List DOp} {ρ:Env} {L:Loc} {s:St} {c:Bool} (hg:Zu ρ o.guard=some c) (hnk:o.k.isDefer=false) {e e':E}
  (he:e' = .when c e∨(c=true∧e'=e))
  (hv:c=true→∀ (oo:Oper) (g:G) (ν:Nat→Nat) (w:World) (tmps:Array Value),ck P oo.op=some o.k→ZI g ν w tmps ρ L s →
   ∃ v,(execOp (Act.mk tmps F.ds).eval oo).run P w = .ok (.value v) w∧Z5 g ν w L v e)
  (h:DO F kp dk os (ZQ ρ o.dst e') L s):DO F kp dk (o :: os) ρ L s:=by
 refine KL fun oo g ν w tmps ops i r k hoo hck hcg hdst hd hN m hr hkk=>?_
 have hgo:=h ops r k hr hkk
 have hw:=Y7 m hcg hg
 have hnd:=Wp hck hnk
 cases c
 ·rcases he with rfl | ⟨h0,_⟩
  ·exact ZbH (P:=P) hN m hoo hdst hd hw hgo
  ·simp at h0
 ·obtain ⟨v,h1,h2⟩:=hv rfl oo g ν w tmps hck m
  refine ZkC hN m hoo hdst hd hw hnd ⟨v,h1,?_⟩ hgo
  rcases he with rfl | ⟨_,rfl⟩
  ·exact ⟨fun _=>h2,fun h=>by simp at h⟩
  ·exact h2
theorem ZuD {F:Fr P} {kp:Option (List Nat)} {dk:List Zp} {o:DOp} {os:List DOp} {ρ:Env} {L:Loc} {s:St} {c:Bool} (hg:Zu ρ o.guard=some c) {q:Q} {xs:List Opd} (hk:o.k = .q q xs)
  {p side:Prop} {es:List E} {e:E} (ha:Wc ρ c xs=some (p,es)) (hq:qv L s q es=some (side,e)) (hs:c=true→p∧side) {e':E} (he:e' = .when c e∨(c=true∧e'=e))
  (h:DO F kp dk os (ZQ ρ o.dst e') L s):DO F kp dk (o :: os) ρ L s:=by
 refine Zro hg (by rw [hk]; rfl) he (fun hc oo g ν w tmps hck m=>?_) h
 rw [hk] at hck
 obtain ⟨ys,hcq,hys⟩:=Zvz hck
 have hargs:=ZcR m hc F.ds hys ha (hs hc).1
 exact Zue hcq hargs m.loc m.st hq (hs hc).2 _ _ _ _ _
theorem Kf {F:Fr P} {ops:Array Oper} {i:Nat} {r:List Nat} {k:List Item} {oo:Oper} {o:DOp} {g g':G} {ν':Nat→Nat} {w w':World} {tmps:Array Value} {ρ:Env} {L':Loc} {s':St} (hN:F.N≤tmps.size)
  (hoo:ops[i]? = some oo) (hdst:oo.dst=o.dst) (hd:∀ d,o.dst=some d→d < F.N) (hw:Region.wanted oo (yielded ops tmps)=true) (hnd:∀ c,oo.op≠.defer c) {e:E} {v:Value}
  (hr:(execOp (Act.mk tmps F.ds).eval oo).run P w = .ok (.value v) w') (hx:Ext g w g' w') (m':ZI g' ν' w' tmps ρ L' s') (hv:Z5 g' ν' w' L' v e)
  (h:JO F (.inRegion ops r :: k) (ZQ ρ o.dst e) L' s'):F.T.T g w (lone (F.b.atR ⟨tmps,F.ds⟩ (.inRegion ops (i :: r) :: k)) F.cs w):=by
 refine F.T.back _ _ _ _ (.one (ZgM hoo hw hnd hr)) ?_
 rw [hdst]
 obtain ⟨tmps',e1,e2,m''⟩:=Zer m' hN hd hv F.ds
 rw [e1]
 exact F.T.ext _ _ _ _ _ hx (h g' ν' w' tmps' e2 m'')
theorem Zng {F:Fr P} {kp:Option (List Nat)} {dk:List Zp} {o:DOp} {os:List DOp} {ρ:Env} {L:Loc} {s:St} (hg:o.guard=none) {t:Nat} (hdt:o.dst=some t) {z:List D} (hk:o.k = .alloc z)
  (hl:Zay L t=false) (h:DO F kp dk os ((t,.loc t 0) :: ρ) ((t,z) :: L) s):DO F kp dk (o :: os) ρ L s:=by
 refine KL fun oo g ν w tmps ops i r k hoo hck hcg hdst hd hN m hr hkk=>?_
 have hw:=Y7 m hcg (c:=true) (by rw [hg]; rfl)
 have hnd:=Wp hck (by rw [hk]; rfl)
 rw [hk] at hck
 obtain ⟨T,hop,hz⟩:=ZnK hck
 obtain ⟨v,hv1,hv2,hv3,_⟩:=J8 (g:=g) (w:=w) hz
 obtain ⟨hx,m'⟩:=m.alloc hl hv2 hv3 T
 refine Kf (s':=s) hN hoo hdst hd hw hnd (v:=.pointer (some ⟨w.heap.size,0,none⟩)) (e:=.loc t 0) ?_ hx m' ⟨⟨z,by simp [Zl]⟩,by simp⟩ ?_
 ·simp [execOp,hop,Instr.alloc,hv1,newVar,newRow]
 ·rw [hdt]; exact h ops r k hr hkk
theorem ZuA {F:Fr P} {kp:Option (List Nat)} {dk:List Zp} {o:DOp} {os:List DOp} {ρ:Env} {L:Loc} {s:St} (hg:o.guard=none) {t:Nat} (hdt:o.dst=some t) {x:Opd} (hk:o.k = .box x)
  {p:Prop} {v:D} (ha:ZV ρ true x=some (p,.d v)) (hp:p) (hl:Zay L t=false) (hok:Qi v=true) (h:DO F kp dk os ((t,.loc t 0) :: ρ) ((t,cellsOf v) :: L) s):DO F kp dk (o :: os) ρ L s:=by
 refine KL fun oo g ν w tmps ops i r k hoo hck hcg hdst hd hN m hr hkk=>?_
 have hw:=Y7 m hcg (c:=true) (by rw [hg]; rfl)
 have hnd:=Wp hck (by rw [hk]; rfl)
 rw [hk] at hck
 obtain ⟨T,x',hop,hx'⟩:=Zrx hck
 have hrep:Rep g w _ v:=Y2 m hx' rfl ha hp F.ds
 obtain ⟨hc1,hc2⟩:=Zdl hrep hok
 have hone:=ZfP hrep hok
 obtain ⟨hx,m'⟩:=m.alloc hl (Wa (by simpa using hc1) hc2) (fun v hv=>hone v hv) T
 refine Kf (s':=s) hN hoo hdst hd hw hnd (v:=.pointer (some ⟨w.heap.size,0,none⟩)) (e:=.loc t 0) ?_ hx m' ⟨⟨cellsOf v,by simp [Zl]⟩,by simp⟩ ?_
 ·simp [execOp,hop,Instr.box,newVar,newRow]
 ·rw [hdt]; exact h ops r k hr hkk
theorem Zub {g:G} {ν:Nat→Nat} {w:World} {L:Loc} {v:Value} {l off:Nat} (h:Z5 g ν w L v (.loc l off)):v = .pointer (some ⟨ν l,off,none⟩):=h.2
theorem Znl {F:Fr P} {kp:Option (List Nat)} {dk:List Zp} {o:DOp} {os:List DOp} {ρ:Env} {L:Loc} {s:St} (hg:o.guard=none) {a v:Opd} (hk:o.k = .store1 a v∧True∨∃ n,o.k = .storeN n a v)
  {p q:Prop} {l off:Nat} {d:D} {cs:List D} (ha:ZV ρ true a=some (p,.loc l off)) (hv:ZV ρ true v=some (q,.d d)) (hp:p) (hq:q) (hL:Zl L l=some cs)
  (hd1:o.k = .store1 a v→Jb d=true) (hd2:∀ n,o.k = .storeN n a v→(∃ xs,d = .agg xs)∧(cellsOf d).length=n) (hlen:off + (cellsOf d).length≤cs.length) (hdst0:o.dst=none)
  (h:DO F kp dk os ρ ((l,ZC cs off (cellsOf d)) :: L) s):DO F kp dk (o :: os) ρ L s:=by
 refine KL fun oo g ν w tmps ops i r k hoo hck hcg hdst hd hN m hr hkk=>?_
 have hw:=Y7 m hcg (c:=true) (by rw [hg]; rfl)
 have hnd:=Wp hck (by rcases hk with ⟨hk,_⟩ | ⟨n,hk⟩ <;> rw [hk] <;> rfl)
 have hform:∃ t a' v',oo.op = .store t a' v'∧YJ a'=some a∧YJ v'=some v∧YD P t=some (cellsOf d).length∧Qi d=true:=by
  rcases hk with ⟨hk,_⟩ | ⟨n,hk⟩
  ·have hok:=hd1 hk
   rw [hk] at hck
   obtain ⟨t,a',v',h1,h2,h3,h4,h5⟩:=Zl6 hck
   refine ⟨t,a',v',h1,h4,h5,?_,?_⟩
   ·rw [h3]; cases d <;> simp [Jb] at hok <;> rfl
   ·cases d <;> simp [Jb] at hok <;> rfl
  ·obtain ⟨⟨xs,rfl⟩,hn⟩:=hd2 n hk
   rw [hk] at hck
   obtain ⟨t,a',v',h1,h2,h3,h4,h5⟩:=Zl7 hck
   exact ⟨t,a',v',h1,h4,h5,by rw [h3,hn],rfl⟩
 obtain ⟨t,a',v',hop,ha',hv',hsz,hok⟩:=hform
 have hav:=Zub (Y2 m ha' rfl ha hp F.ds)
 have hrep:Rep g w _ d:=Y2 m hv' rfl hv hq F.ds
 obtain ⟨hc1,hc2⟩:=Zdl hrep hok
 have hone:=ZfP hrep hok
 obtain ⟨hpr,cur,T,hb,hcl,hcr,hco⟩:=m.loc l cs hL
 generalize hvv:(Act.mk tmps F.ds).eval v'=vv at *
 have hst:=run_storeCells_at (P:=P) (ν l) off T vv.cells.toList 0 cur w hb (by simp; omega) (fun x hx=>by rw [ZcQ]; exact hone x (Array.mem_toList_iff.1 hx))
 simp only [Nat.add_zero,Array.length_toList] at hst
 have hrepNew:ZZ (Rep g w) (cur.toList.take off++vv.cells.toList++cur.toList.drop (off + vv.cells.size)) (ZC cs off (cellsOf d)):=by
  have hcur:ZZ (Rep g w) cur.toList cs:=Wa (by simpa using hcl) (fun i v d hv hd=>hcr i v d (by simpa using hv) hd)
  unfold ZC
  rw [← hc1]
  exact ((hcur.take off).append (Wa (by simpa using hc1) hc2)).append (hcur.drop _)
 obtain ⟨hx,m'⟩:=m.store hL (vs:=(cur.toList.take off++vv.cells.toList++cur.toList.drop (off + vv.cells.size)).toArray) (ds:=ZC cs off (cellsOf d)) (by simpa using hrepNew) (fun x hx=>by
  simp only [List.mem_toArray,List.mem_append] at hx
  rcases hx with (hx | hx) | hx
  ·exact hco x (Array.mem_toList_iff.1 (List.mem_of_mem_take hx))
  ·exact hone x (Array.mem_toList_iff.1 hx)
  ·exact hco x (Array.mem_toList_iff.1 (List.mem_of_mem_drop hx))) (by simp [ZC]; omega)
 refine F.T.back _ _ _ _ (.one (ZgL hoo hw hnd (w':=w.setRow (ν l) (cur.toList.take off++vv.cells.toList++cur.toList.drop (off + vv.cells.size)).toArray) ?_)) ?_
 ·simp only [execOp,hop,hav,hvv,Instr.storeAt,Instr.sureAddr,storeVar,Sem.run_bind,Sem.run_pure,Result.andThen_ok,WX hsz]
  rw [if_neg (by simp [hc1])]
  rw [hst]; rfl
 ·rw [hdst,hdst0]
  exact F.T.ext _ _ _ _ _ hx (h ops r k hr hkk g ν _ tmps hN m')
end
end Go.DL
namespace Go.DL
open Go
variable [Znt]
theorem ZoA {cs vs:List D} {s k i:Nat} (hv:vs.length=s) (hk:(k + 1) * s≤cs.length) (hi:(i + 1) * s≤cs.length) :
  part (ZC cs (k * s) vs) (i * s) s=if i=k then vs else part cs (i * s) s:=by
 have hk':k * s + s≤cs.length:=by rw [Nat.add_mul,Nat.one_mul] at hk; exact hk
 have hi':i * s + s≤cs.length:=by rw [Nat.add_mul,Nat.one_mul] at hi; exact hi
 unfold part ZC
 apply List.ext_getElem?
 intro j
 by_cases hj:j < s
 ·simp only [List.getElem?_take,hj,if_true,List.getElem?_drop,List.getElem?_append,ZvT,List.length_take,hv]
  by_cases hik:i=k
  ·subst hik
   simp only [show i * s + j < min (i * s) cs.length + s from by omega,show ¬ i * s + j < min (i * s) cs.length from by omega,if_true,if_false]
   rw [show i * s + j - min (i * s) cs.length=j from by omega]
  ·simp only [hik,if_false,List.getElem?_take,hj,if_true,List.getElem?_drop]
   rcases Nat.lt_or_gt_of_ne hik with h | h
   ·have:(i + 1) * s≤k * s:=Nat.mul_le_mul_right s h
    rw [Nat.add_mul,Nat.one_mul] at this
    simp only [show i * s + j < min (k * s) cs.length + s from by omega,show i * s + j < min (k * s) cs.length from by omega,if_true,show i * s + j < k * s from by omega]
   ·have:(k + 1) * s≤i * s:=Nat.mul_le_mul_right s h
    rw [Nat.add_mul,Nat.one_mul] at this
    simp only [show ¬ i * s + j < min (k * s) cs.length + s from by omega,if_false]
    congr 1; omega
 ·have e1:∀ l:List D,(l.take s)[j]? = none:=fun l=>by simp [List.getElem?_take,hj]
  rw [e1]
  split
  ·exact (List.getElem?_eq_none (l:=vs) (i:=j) (by omega)).symm
  ·rw [e1]
theorem ZlL {cs vs:List D} {o:Nat} (h:o + vs.length≤cs.length):(ZC cs o vs).length=cs.length:=by
 simp [ZC]; omega
theorem ZfB {n:Nat}:∀ {is:List Nat},Jd n is=true→∀ i∈is,i < n
 | i :: r,h,j,hj=>by
  simp only [Jd,ZvN,decide_eq_true_eq] at h
  rcases List.mem_cons.1 hj with rfl | hj
  ·exact h.1.1
  ·exact ZfB h.2 j hj
theorem ZkH {z:List D}:∀ {ps:List (Nat × D)} {i:Nat},(∀ p∈ps,p.1≠i)→Wm z ps i=z
 | [],_,_=>rfl
 | (k,d) :: r,i,h=>by
  have h0:¬ k=i:=h (k,d) (by simp)
  simp only [Wm,h0,if_false]
  exact ZkH fun p hp=>h p (List.mem_cons_of_mem _ hp)
theorem Zho {len s:Nat}:∀ (is:List Nat) (ds cells:List D),Jd len is=true→is.length=ds.length→Q2 s ds=true→cells.length=len * s →
  ∃ cs,Za8 cells (is.map fun i=>(i * s,s)) ds=some cs∧cs.length=len * s∧∀ i,i < len→part cs (i * s) s=Wm (part cells (i * s) s) (is.zip ds) i
 | [],[],cells,_,_,_,hc=>⟨cells,rfl,hc,fun i _=>rfl⟩
 | k :: is,d :: ds,cells,hd,hn,hp,hc=>by
  simp only [Jd,ZvN,decide_eq_true_eq,Bool.not_eq_true',List.contains_eq_mem,decide_eq_false_iff_not] at hd
  simp only [Q2,ZvN,decide_eq_true_eq] at hp
  obtain ⟨⟨hk,hnot⟩,hd⟩:=hd
  obtain ⟨⟨hp1,hp2⟩,hp3⟩:=hp
  have hks:(k + 1) * s≤cells.length:=by rw [hc]; exact Nat.mul_le_mul_right s hk
  have hks':k * s + s≤cells.length:=by rw [Nat.add_mul,Nat.one_mul] at hks; exact hks
  obtain ⟨cs,h1,h2,h3⟩:=Zho is ds (ZC cells (k * s) (cellsOf d)) hd (by simpa using hn) hp3 (by rw [ZlL (by omega),hc])
  refine ⟨cs,?_,h2,fun i hi=>?_⟩
  ·simp only [List.map_cons,Za8]
   rw [if_pos ⟨hp1,hp2,hks'⟩]; exact h1
  ·rw [h3 i hi,ZoA hp2 hks (by rw [hc]; exact Nat.mul_le_mul_right s hi)]
   simp only [List.zip_cons_cons,Wm]
   by_cases hik:i=k
   ·subst hik
    simp only [if_true]
    exact ZkH fun p hp=>by
     obtain ⟨a,b⟩:=p
     have:=(List.of_mem_zip hp).1
     intro h; subst h; exact hnot this
   ·simp only [hik,if_false,show ¬ k=i from fun h=>hik h.symm]
 | [],_ :: _,_,_,hn,_,_=>by simp at hn
 | _ :: _,[],_,_,hn,_,_=>by simp at hn
theorem Zie {z:List D} {len s i:Nat} (hzl:z.length=s) (_hs0:0 < s) (hi:i < len):part ((List.range (len * s)).map fun i=>z.getD (i % s) .undef) (i * s) s=z:=by
 apply List.ext_getElem?
 intro c
 by_cases hc:c < s
 ·have hlt:i * s + c < len * s:=by
   have:(i + 1) * s≤len * s:=Nat.mul_le_mul_right s hi
   rw [Nat.add_mul,Nat.one_mul] at this; omega
  have hm:(i * s + c) % s=c:=by rw [Nat.mul_comm,Nat.mul_add_mod,Nat.mod_eq_of_lt hc]
  have hcz:c < z.length:=by omega
  simp only [part,List.getElem?_take,hc,if_true,List.getElem?_drop,List.getElem?_map,List.getElem?_range hlt,Option.map_some,hm]
  simp [List.getD,hcz]
 ·rw [List.getElem?_eq_none (l:=z) (by omega)]; simp [part,List.getElem?_take,hc]
section
variable {P:Program}
theorem ZuI {g:G} {w:World} {len s:Nat} {z:List D} {t e:TypeId} {parts:List (Nat × Value)} {ds:List D} (hu:P.underlying t=some (.slice e)) (hsz:YD P e=some s) (hz:ZaL P e=some z)
  (hdis:Jd len (parts.map (·.1))=true) (hzl:z.length=s) (hs0:0 < s) (hbig:len * s≤2 ^ 24) (hd:ZZ (Rep g w) (parts.map (·.2)) ds) (hp:Q2 s ds=true)
  (hf:∀ b,w.heap.size≤b→g.prot b=0∧¬ g.kept b) :
  ∃ v w' g',(Instr.buildSlice t len parts.toArray).run P w = .ok v w'∧Zau g w g' w'∧Rep g' w' v (.sl .full len s (Wm z ((parts.map (·.1)).zip ds))):=by
 obtain ⟨zv,hz1,hz2,hz3,ie,hie,hzz⟩:=J8 (g:=g) (w:=w) hz
 have hsize:ie.size=s:=by simpa [YD,hie] using hsz
 have hzlen:zv.cells.size=s:=by have:=hz2.len; simp at this; omega
 have hn:(parts.map (·.1)).length=ds.length:=by have:=hd.len; simpa using this
 let c0:Array Value:=(Array.range (len * s)).map (zv.cells[· % zv.cells.size]!)
 let d0:List D:=(List.range (len * s)).map fun i=>z.getD (i % s) .undef
 have hrep0:ZZ (Rep g w) c0.toList d0:=by
  refine Wa (by simp [c0,d0]) (fun i v d hv hd=>?_)
  simp only [c0,d0,Array.toList_map,Array.toList_range,List.getElem?_map,ZvO] at hv hd
  obtain ⟨a,ha,rfl⟩:=hv
  obtain ⟨b,hb,rfl⟩:=hd
  rw [ha] at hb
  simp only [ZvD] at hb
  subst hb
  have hlt:a % s < s:=Nat.mod_lt _ hs0
  refine hz2.get (a % s) _ _ ?_ ?_
  ·rw [hzlen]; simp [getElem!_pos,hzlen,hlt]
  ·simp [List.getD,hzl,hlt]
 have hone0:∀ v∈c0,v.one1=true:=fun v hv=>by
  simp only [c0,Array.mem_map] at hv
  obtain ⟨a,_,rfl⟩:=hv
  have hlt:a % zv.cells.size < zv.cells.size:=Nat.mod_lt _ (by omega)
  rw [getElem!_pos zv.cells (a % zv.cells.size) hlt]
  exact hz3 _ (Array.getElem_mem hlt)
 have hlen0:d0.length=len * s:=by simp [d0]
 obtain ⟨cs,hfill,hcl,hrows⟩:=Zho (parts.map (·.1)) ds d0 hdis hn hp hlen0
 obtain ⟨cv,hf1,hf2,hf3⟩:=ZfD (g:=g) (w:=w) (fun i=>some (i * s,s)) parts ((parts.map (·.1)).map fun i=>(i * s,s)) ds cs d0 c0 (fun i x q hx hq=>by
  simp only [List.map_map,List.getElem?_map,hx,Option.map_some,ZvD,Function.comp_def] at hq
  rw [← hq]) (by simp) hd hrep0 hone0 hfill
 have hcv:cv.size=len * s:=by have:=hf2.len; simp at this; omega
 have hrow:∀ i j,i < len→j < s→i * s + j < len * s:=fun i j hi hj=>by
  have:(i + 1) * s≤len * s:=Nat.mul_le_mul_right s hi
  rw [Nat.add_mul,Nat.one_mul] at this; omega
 have hcell:∀ i j d,i < len→j < s→(Wm z ((parts.map (·.1)).zip ds) i)[j]? = some d→cs[i * s + j]? = some d:=fun i j d hi hj hd=>by
  have h:=hrows i hi
  have hz':part d0 (i * s) s=z:=Zie hzl hs0 hi
  rw [hz'] at h
  rw [← h] at hd
  simpa [part,List.getElem?_take,hj,List.getElem?_drop] using hd
 have hlrow:∀ i,i < len→(Wm z ((parts.map (·.1)).zip ds) i).length=s:=fun i hi=>by
  have hz':=hrows i hi
  have:(part cs (i * s) s).length=s:=by have:=hrow i (s - 1) hi (by omega); simp [part]; omega
  have hzp:part d0 (i * s) s=z:=Zie hzl hs0 hi
  rw [hz',hzp] at this; exact this
 by_cases hl0:len=0
 ·subst hl0
  have hp0:parts=[]:=by
   cases parts with
   | nil=>rfl
   | cons x r=>have:=ZfB hdis x.1 (by simp); omega
  subst hp0
  refine ⟨.slice (some ⟨w.heap.size,0,none⟩) 0 0,w.alloc (.cells #[] e),{ g with prot:=fun b=>if b=w.heap.size then 0 else g.prot b },?_,Zi4 #[] e hf,?_⟩
  ·simp [Instr.buildSlice,run_underlying hu,WX hsz,Instr.fill,newRow]
   exact congrArg (fun c=>w.alloc (Obj.cells c e)) (Array.ext' (by simp))
  ·exact .sl w.heap.size 0 0 0 s _ .full (fun _ _=>undef) (fun i hi=>by omega) (fun i j hi=>by omega) (fun i j hi=>by omega) (fun i j d hi=>by omega) (fun i j hi=>by omega) rfl (by omega) (by simp [big])
 ·have hpos:¬ len * s=0:=by simp [Nat.mul_eq_zero]; omega
  have hrun:=run_buildSlice (P:=P) w t e len parts.toArray cv ie zv hu hie hzz (by rw [hsize]; omega) (by rw [hsize]; exact hpos) (by rw [hsize]; exact hf1)
  have hgr:=Zi4 (g:=g) (w:=w) cv e hf
  refine ⟨_,_,_,hrun,hgr,?_⟩
  have hext:=hgr.ext hf
  refine .sl w.heap.size 0 len len s _ .full (fun i j=>cv.getD (i * s + j) undef) hlrow (fun i j hi hj=>?_) (fun i j hi hj=>?_) (fun i j d hi hd=>?_) (fun i j hi hj=>?_) rfl (ZvR _) ?_
  ·have hlt:i * s + j < cv.size:=by rw [hcv]; exact hrow i j hi hj
   have:(w.alloc (.cells cv e)).cell? ⟨w.heap.size,0 + i * s + j,none⟩=cv[0 + i * s + j]?:=World.cell?_alloc_new w cv e _
   rw [this]; simp [Array.getD,hlt]
  ·simp only [if_true,hcv]; have:=hrow i j hi hj; omega
  ·have hj:j < s:=by rw [← hlrow i hi]; exact (List.getElem?_eq_some_iff.1 hd).1
   have hlt:i * s + j < cv.size:=by rw [hcv]; exact hrow i j hi hj
   refine (hf2.get (i * s + j) _ d ?_ (hcell i j d hi hj hd)).mono hext
   simp [Array.getD,hlt]
  ·have hlt:i * s + j < cv.size:=by rw [hcv]; exact hrow i j hi hj
   simp only [Array.getD,hlt,dite_true]
   exact hf3 _ (Array.getElem_mem hlt)
  ·unfold big
   have:len≤len * s:=Nat.le_mul_of_pos_right _ hs0
   omega
end
end Go.DL
namespace Go.DL
open Go
variable [Znt]
section
variable {P:Program}
theorem Wo.updL {g:G} {s:St} {w:World} (h:Wo g s w) {b:Nat} {o:Y6} (ho:Qb g w b o) (hk:¬ g.kept b):Wo g (s.upd b o) w:={
 obj c x hx:=by
  simp only [St.upd] at hx
  by_cases hb:c=b
  ·simp only [hb,if_true,ZvD] at hx; subst hx; rw [hb]; exact ho
  ·simp only [hb,if_false] at hx; exact h.obj c x hx
 kept c x hx:=by
  simp only [St.upd] at hx
  by_cases hb:c=b
  ·rw [hb]; exact hk
  ·simp only [hb,if_false] at hx; exact h.kept c x hx
 fresh:=h.fresh
 tabs:=h.tabs }
theorem ZI.named {g:G} {ν:Nat→Nat} {w w':World} {tmps:Array Value} {ρ:Env} {L:Loc} {s:St} (m:ZI g ν w tmps ρ L s) {b:Nat} {o o':Y6} (hb:s b=some o) (he:Ext g w g w') (hsz:w'.heap.size=w.heap.size)
  (hoth:∀ c,c≠b→w'.heap[c]? = w.heap[c]?) (ho:Qb g w' b o'):ZI g ν w' tmps ρ L (s.upd b o'):={
 st:=by
  have h1:Wo g (s.del b) w':=⟨fun c x hx=>by
    simp only [St.del] at hx
    by_cases hc:c=b
    ·simp [hc] at hx
    ·simp only [hc,if_false] at hx; exact (m.st.obj c x hx).mono he (hoth c hc) rfl,
   fun c x hx=>by
    simp only [St.del] at hx
    by_cases hc:c=b
    ·simp [hc] at hx
    ·simp only [hc,if_false] at hx; exact m.st.kept c x hx,
   fun c hc=>m.st.fresh c (by omega),fun n cs hc=>(m.st.tabs n cs hc).mono he⟩
  have h2:=h1.updL ho (m.st.kept b o hb)
  have:(s.del b).upd b o'=s.upd b o':=by
   funext c; simp only [St.upd,St.del]; by_cases hc:c=b <;> simp [hc]
  rw [this] at h2; exact h2
 loc l cs hl:=(m.loc l cs hl).mono he (hoth _ (fun h=>by have:=m.locSt l cs hl; rw [h,hb] at this; simp at this)) rfl
 locKept:=m.locKept
 locSt l cs hl:=by
  have hne:ν l≠b:=fun h=>by have:=m.locSt l cs hl; rw [h,hb] at this; simp at this
  simp only [St.upd,hne,if_false]; exact m.locSt l cs hl
 inj:=m.inj
 env t e ht:=(m.env t e ht).mono he }
theorem ZI.newObj {g g':G} {ν:Nat→Nat} {w w':World} {tmps:Array Value} {ρ:Env} {L:Loc} {s:St} (m:ZI g ν w tmps ρ L s) (hg:Zau g w g' w') {o:Y6} (ho:Qb g' w' w.heap.size o) :
  s w.heap.size=none∧ZI g' ν w' tmps ρ L (s.upd w.heap.size o):=by
 have hn:s w.heap.size=none:=by
  cases h:s w.heap.size with
  | none=>rfl
  | some x=>exact absurd (m.st.obj _ x h).lt (Nat.lt_irrefl _)
 have m':=m.grow hg
 refine ⟨hn,⟨m'.st.updL ho (by rw [hg.kept]; exact (m.st.fresh _ (ZvR _)).2),m'.loc,m'.locKept,?_,m'.inj,m'.env⟩⟩
 intro l cs hl
 have hlt:=(m.loc l cs hl).lt
 have hne:ν l≠w.heap.size:=by omega
 simp only [St.upd,hne,if_false]; exact m'.locSt l cs hl
theorem Zkr {g:G} {w:World} (b:Nat) {en:Array MapEntry} {cl:Nat} (o:Obj) (hb:w.heap[b]? = some (.map en cl)) (hp:g.prot b=0) (hk:¬ g.kept b):Ext g w g { w with heap:=w.heap.setIfInBounds b o } where
 size:=by simp
 prot _:=ZvR _
 cell b' o' ho:=by
  by_cases h:b'=b
  ·subst h; omega
  ·exact JY (by simp [Array.getElem?_setIfInBounds,Ne.symm h])
 hdr b' x hx:=by
  by_cases h:b'=b
  ·subst h; simp [hdr,hb] at hx
  ·rw [Zbs (w:=w) (by simp [Array.getElem?_setIfInBounds,Ne.symm h])]; exact hx
 kept b' hb':=by
  have h:b'≠b:=fun h=>hk (h ▸ hb')
  simp [Array.getElem?_setIfInBounds,Ne.symm h]
 keptProt _ _:=rfl
 keptEq:=rfl
 os:=rfl
 output:=rfl
 tape:=rfl
theorem Zmx {w:World} {b:Nat} {en:Array MapEntry} {cl:Nat} (o:Obj) (hb:w.heap[b]? = some (.map en cl)):({ w with heap:=w.heap.setIfInBounds b o }:World).heap[b]? = some o:=by
 have:=(Array.getElem?_eq_some_iff.1 hb).1
 simp [Array.getElem?_setIfInBounds,this]
theorem J5 {w:World} {b c:Nat} (o:Obj) (h:c≠b):({ w with heap:=w.heap.setIfInBounds b o }:World).heap[c]? = w.heap[c]?:=by
 simp [Array.getElem?_setIfInBounds,Ne.symm h]
theorem ZsQ {op:Op} (h:ck P op=some .mkmap):∃ t,op = .makeMap t none:=by
 unfold ck at h
 split at h
 ·simp at h
 ·split at h <;> (try (simp at h; done))
  all_goals (try (repeat' (split at h <;> (try (simp at h; done)))))
  exact ⟨_,rfl⟩
theorem Zql {op:Op} {e:TypeId} {n bytes:Nat} {z:List D} {l c:Opd} (h:ck P op=some (.mkslice e n bytes z l c)) :
  ∃ t l' c',op = .makeSlice t l' c'∧P.underlying t=some (.slice e)∧YD P e=some n∧ZaL P e=some z∧bytes=P.bytesOf e∧YJ l'=some l∧YJ c'=some c∧0 < n∧z.length=n:=by
 unfold ck at h
 split at h
 ·simp at h
 ·split at h <;> (try (simp at h; done))
  all_goals (try (repeat' (split at h <;> (try (simp at h; done)))))
  rename_i hcond
  simp only [ZvD,K.mkslice.injEq] at h
  obtain ⟨rfl,rfl,rfl,rfl,rfl,rfl⟩:=h
  simp only [ZvN,decide_eq_true_eq] at hcond
  exact ⟨_,_,_,rfl,‹_›,‹_›,‹_›,rfl,‹_›,‹_›,hcond.1,hcond.2⟩
theorem ZuL {op:Op} {x:Opd} (h:ck P op=some (.s2b x)):∃ s d x' e,op = .convert s d x'∧P.underlying s=some .string∧P.underlying d=some (.slice e)∧P.underlying e=some (.int .u8)∧YJ x'=some x:=by
 unfold ck at h
 split at h
 ·simp at h
 ·split at h <;> (try (simp at h; done))
  all_goals (try (repeat' (split at h <;> (try (simp at h; done)))))
  simp only [ZvO,K.s2b.injEq,exists_eq_right] at h
  exact ⟨_,_,_,_,rfl,‹_›,‹_›,‹_›,h⟩
theorem ZrC {op:Op} {kp:KP} {m k v:Opd} (h:ck P op=some (.mapupd kp m k v)) :
  ∃ t kt et m' k' v',(op = .mapUpdate t m' k' v'∨op = .insert t m' k' v')∧P.underlying t=some (.map kt et)∧Zaj P kt=some kp∧YJ m'=some m∧YJ k'=some k∧YJ v'=some v:=by
 unfold ck at h
 split at h
 ·simp at h
 ·split at h <;> (try (simp at h; done))
  all_goals (try (repeat' (split at h <;> (try (simp at h; done)))))
  all_goals (simp only [ZvD,K.mapupd.injEq] at h; obtain ⟨rfl,rfl,rfl,rfl⟩:=h)
  ·exact ⟨_,_,_,_,_,_,.inl rfl,‹_›,‹_›,‹_›,‹_›,‹_›⟩
  ·exact ⟨_,_,_,_,_,_,.inr rfl,‹_›,‹_›,‹_›,‹_›,‹_›⟩
theorem ZrA {op:Op} {kp:KP} {m k:Opd} (h:ck P op=some (.delete kp m k)) :
  ∃ ats t kt et m' k',op = .call ⟨.builtin .delete,#[m',k'],ats⟩∧ats[0]? = some t∧P.underlying t=some (.map kt et)∧Zaj P kt=some kp∧YJ m'=some m∧YJ k'=some k:=by
 unfold ck at h
 split at h
 ·simp at h
 ·split at h <;> (try (simp at h; done))
  all_goals (try (repeat' (split at h <;> (try (simp at h; done)))))
  simp only [ZvD,K.delete.injEq] at h
  obtain ⟨rfl,rfl,rfl⟩:=h
  rename_i c hcq x1 hcal o0 x kt et m' k' hu hargs o1 o2 o3 kp m k hk hm hk'
  clear hcq
  obtain ⟨callee,⟨al⟩,ats⟩:=c
  have hcal':callee=_:=hcal
  have hargs':al=_:=hargs
  subst hcal' hargs'
  simp only [Option.bind_eq_some_iff] at hu
  obtain ⟨t,ht,hu⟩:=hu
  exact ⟨ats,t,kt,et,m',k',rfl,ht,hu,hk,hm,hk'⟩
theorem ZrB {op:Op} {kp:KP} {z:D} {m k:Opd} (h:ck P op=some (.mapent kp z m k)) :
  ∃ t kt et m' k',op = .mapEntry t m' k'∧P.underlying t=some (.map kt et)∧Zaj P kt=some kp∧Zda P et=some z∧YJ m'=some m∧YJ k'=some k:=by
 unfold ck at h
 split at h
 ·simp at h
 ·split at h <;> (try (simp at h; done))
  all_goals (try (repeat' (split at h <;> (try (simp at h; done)))))
  simp only [ZvD,K.mapent.injEq] at h
  obtain ⟨rfl,rfl,rfl,rfl⟩:=h
  exact ⟨_,_,_,_,_,rfl,‹_›,‹_›,‹_›,‹_›,‹_›⟩
theorem ZsP {op:Op} {m k v:Opd} (h:ck P op=some (.entst m k v)):∃ t m' k' v',op = .entryStore t m' k' v'∧YJ m'=some m∧YJ k'=some k∧YJ v'=some v:=by
 unfold ck at h
 split at h
 ·simp at h
 ·split at h <;> (try (simp at h; done))
  all_goals (try (repeat' (split at h <;> (try (simp at h; done)))))
  simp only [ZvD,K.entst.injEq] at h
  obtain ⟨rfl,rfl,rfl⟩:=h
  exact ⟨_,_,_,_,rfl,‹_›,‹_›,‹_›⟩
theorem ZbT {F:Fr P} {kp:Option (List Nat)} {dk:List Zp} {o:DOp} {os:List DOp} {ρ:Env} {L:Loc} {s:St} (hg:o.guard=none) {a v:Opd} (hk:o.k = .store1 a v∧True∨∃ n,o.k = .storeN n a v)
  {p q:Prop} {b off:Nat} {d:D} {cs:List D} (ha:ZV ρ true a=some (p,.d (.ptr b off))) (hv:ZV ρ true v=some (q,.d d)) (hp:p) (hq:q) (hL:YS s b=some cs)
  (hd1:o.k = .store1 a v→Jb d=true) (hd2:∀ n,o.k = .storeN n a v→(∃ xs,d = .agg xs)∧(cellsOf d).length=n) (hlen:off + (cellsOf d).length≤cs.length) (hdst0:o.dst=none)
  (h:DO F kp dk os ρ L (s.upd b (.cells (ZC cs off (cellsOf d))))):DO F kp dk (o :: os) ρ L s:=by
 refine KL fun oo g ν w tmps ops i r k hoo hck hcg hdst hd hN m hr hkk=>?_
 have hw:=Y7 m hcg (c:=true) (by rw [hg]; rfl)
 have hnd:=Wp hck (by rcases hk with ⟨hk,_⟩ | ⟨n,hk⟩ <;> rw [hk] <;> rfl)
 have hform:∃ t a' v',oo.op = .store t a' v'∧YJ a'=some a∧YJ v'=some v∧YD P t=some (cellsOf d).length∧Qi d=true:=by
  rcases hk with ⟨hk,_⟩ | ⟨n,hk⟩
  ·have hok:=hd1 hk
   rw [hk] at hck
   obtain ⟨t,a',v',h1,h2,h3,h4,h5⟩:=Zl6 hck
   refine ⟨t,a',v',h1,h4,h5,?_,?_⟩
   ·rw [h3]; cases d <;> simp [Jb] at hok <;> rfl
   ·cases d <;> simp [Jb] at hok <;> rfl
  ·obtain ⟨⟨xs,rfl⟩,hn⟩:=hd2 n hk
   rw [hk] at hck
   obtain ⟨t,a',v',h1,h2,h3,h4,h5⟩:=Zl7 hck
   exact ⟨t,a',v',h1,h4,h5,by rw [h3,hn],rfl⟩
 obtain ⟨t,a',v',hop,ha',hv',hsz,hok⟩:=hform
 have hsb:s b=some (.cells cs):=by
  unfold YS at hL
  split at hL <;> simp only [ZvD,reduceCtorEq] at hL
  subst hL; assumption
 have hra:Rep g w ((Act.mk tmps F.ds).eval a') (.ptr b off):=Y2 m ha' rfl ha hp F.ds
 have hrv:Rep g w ((Act.mk tmps F.ds).eval v') d:=Y2 m hv' rfl hv hq F.ds
 have hav:(Act.mk tmps F.ds).eval a' = .pointer (some ⟨b,off,none⟩):=by
  generalize (Act.mk tmps F.ds).eval a'=z at hra
  cases hra; rfl
 obtain ⟨hc1,hc2⟩:=Zdl hrv hok
 have hone:=ZfP hrv hok
 obtain ⟨hpr,cur,T,hb,hcl,hcr,hco⟩:=JH m.st hL
 generalize hvv:(Act.mk tmps F.ds).eval v'=vv at *
 have hst:=run_storeCells_at (P:=P) b off T vv.cells.toList 0 cur w hb (by simp; omega) (fun x hx=>by rw [ZcQ]; exact hone x (Array.mem_toList_iff.1 hx))
 simp only [Nat.add_zero,Array.length_toList] at hst
 have hrepNew:ZZ (Rep g w) (cur.toList.take off++vv.cells.toList++cur.toList.drop (off + vv.cells.size)) (ZC cs off (cellsOf d)):=by
  have hcur:ZZ (Rep g w) cur.toList cs:=Wa (by simpa using hcl) (fun i v d hv hd=>hcr i v d (by simpa using hv) hd)
  unfold ZC
  rw [← hc1]
  exact ((hcur.take off).append (Wa (by simpa using hc1) hc2)).append (hcur.drop _)
 have hsize:((cur.toList.take off++vv.cells.toList++cur.toList.drop (off + vv.cells.size)).toArray).size=cur.size:=by
  have:=hrepNew.len; simp [ZC] at this ⊢; omega
 have he:=Zgb (g:=g) b hb hsize hpr (m.st.kept b _ hsb)
 have m':=m.named (o':=.cells (ZC cs off (cellsOf d))) hsb he (by simp) (fun c hc=>setRow_other w b c _ hc) ⟨hpr,_,T,setRow_heap w b cur _ T (0,0) hb,by rw [hsize,hcl]; simp [ZC]; omega,
  fun i v d hv hd=>(hrepNew.get i v d (by simpa using hv) hd).mono he,fun x hx=>by
   simp only [List.mem_toArray,List.mem_append] at hx
   rcases hx with (hx | hx) | hx
   ·exact hco x (Array.mem_toList_iff.1 (List.mem_of_mem_take hx))
   ·exact hone x (Array.mem_toList_iff.1 hx)
   ·exact hco x (Array.mem_toList_iff.1 (List.mem_of_mem_drop hx))⟩
 refine F.T.back _ _ _ _ (.one (ZgL hoo hw hnd (w':=w.setRow b (cur.toList.take off++vv.cells.toList++cur.toList.drop (off + vv.cells.size)).toArray) ?_)) ?_
 ·simp only [execOp,hop,hav,hvv,Instr.storeAt,Instr.sureAddr,storeVar,Sem.run_bind,Sem.run_pure,Result.andThen_ok,WX hsz]
  rw [if_neg (by simp [hc1])]
  rw [hst]; rfl
 ·rw [hdst,hdst0]
  exact F.T.ext _ _ _ _ _ he (h ops r k hr hkk g ν _ tmps hN m')
theorem Zah {g:G} {w:World} (o:Obj) (hf:∀ b,w.heap.size≤b→g.prot b=0∧¬ g.kept b):Zau g w g (w.alloc o):={
 size:=by simp
 old b hb:=Zg8 w _ hb
 prot _ _:=rfl
 fresh b hb:=(hf b (by simp at hb; omega)).1
 kept:=rfl
 os:=rfl
 output:=rfl
 tape:=rfl }
theorem Zji {F:Fr P} {kp:Option (List Nat)} {dk:List Zp} {o:DOp} {os:List DOp} {ρ:Env} {L:Loc} {s:St} (hg:o.guard=none) {t:Nat} (hdt:o.dst=some t) (hk:o.k = .mkmap)
  (h:∀ b,s b=none→DO F kp dk os ((t,.d (.map b)) :: ρ) L (s.upd b (.map []))):DO F kp dk (o :: os) ρ L s:=by
 refine KL fun oo g ν w tmps ops i r k hoo hck hcg hdst hd hN m hr hkk=>?_
 have hw:=Y7 m hcg (c:=true) (by rw [hg]; rfl)
 have hnd:=Wp hck (by rw [hk]; rfl)
 rw [hk] at hck
 obtain ⟨T,hop⟩:=ZsQ hck
 have hgr:=Zah (g:=g) (w:=w) (.map #[] 0) m.st.fresh
 obtain ⟨hn,m'⟩:=m.newObj hgr (o:=.map []) ⟨(m.st.fresh _ (ZvR _)).1,#[],0,QB w _,rfl,by simp,by simp,by simp,by simp⟩
 refine Kf (L':=L) hN hoo hdst hd hw hnd (v:=.map (some w.heap.size)) (e:=.d (.map w.heap.size)) ?_ (hgr.ext m.st.fresh) m' (Rep.map _) ?_
 ·simp [execOp,hop,Instr.makeMap]
 ·rw [hdt]; exact h _ hn ops r k hr hkk
theorem Zig {z:List D} {n:Nat}:∀ {c:Nat},z.length=n→(QC z c).length=c * n∧∀ i,i < c * n→(QC z c)[i]? = z[i % n]?
 | 0,hz=>by simp [QC]
 | c + 1,hz=>by
  obtain ⟨h1,h2⟩:=Zig (c:=c) hz
  have he:QC z (c + 1)=z++QC z c:=by simp [QC,List.replicate_succ]
  rw [he]
  refine ⟨by simp [h1,hz,Nat.add_mul,Nat.add_comm],fun i hi=>?_⟩
  by_cases h:i < n
  ·rw [List.getElem?_append_left (by omega),Nat.mod_eq_of_lt h]
  ·rw [List.getElem?_append_right (by omega),hz,h2 _ (by rw [Nat.add_mul] at hi; omega)]
   rw [Nat.mod_eq_sub_mod (by omega:n≤i)]
theorem ZjZ {F:Fr P} {kp:Option (List Nat)} {dk:List Zp} {o:DOp} {os:List DOp} {ρ:Env} {L:Loc} {s:St} (hg:o.guard=none) {t:Nat} (hdt:o.dst=some t) {e:TypeId} {n bytes:Nat} {z:List D} {lx hx:Opd}
  (hk:o.k = .mkslice e n bytes z lx hx) {p q:Prop} {k1 k2:IntKind} {l c:Int} (hl:ZV ρ true lx=some (p,.d (.int k1 l))) (hc:ZV ρ true hx=some (q,.d (.int k2 c))) (hp:p) (hq:q) (h0:0≤l) (hlc:l≤c)
  (hbytes:(bytes:Int) * c≤140737488355328) (h63:c≤big)
  (h:∀ b,s b=none→DO F kp dk os ((t,.d (.msl b 0 l.toNat c.toNat n)) :: ρ) L (s.upd b (.cells (QC z c.toNat)))):DO F kp dk (o :: os) ρ L s:=by
 refine KL fun oo g ν w tmps ops i r k hoo hck hcg hdst hd hN m hr hkk=>?_
 have hw:=Y7 m hcg (c:=true) (by rw [hg]; rfl)
 have hnd:=Wp hck (by rw [hk]; rfl)
 rw [hk] at hck
 obtain ⟨T,l',c',hop,hu,hsz,hz,hby,hl',hc',hn0,hzn⟩:=Zql hck
 obtain ⟨zv,hz1,hz2,hz3,ie,hie,hzz⟩:=J8 (g:=g) (w:=w) hz
 obtain ⟨hlv,_⟩:=JD (g:=g) (w:=w) (Y2 m hl' rfl hl hp F.ds)
 obtain ⟨hcv,_⟩:=JD (g:=g) (w:=w) (Y2 m hc' rfl hc hq F.ds)
 have hsize:ie.size=n:=by simpa [YD,hie] using hsz
 have hbt:ie.bytes=bytes:=by rw [hby]; simp [Program.bytesOf,hie]
 have hzlen:zv.cells.size=z.length:=by have:=hz2.len; simpa using this
 have hrun:=run_make (P:=P) w T e ie zv hu hie hzz k1 k2 l c h0 hlc (by rw [hbt]; omega) (by unfold big at h63; omega)
 obtain ⟨zl1,zl2⟩:=Zig (z:=z) (n:=n) (c:=c.toNat) hzn
 have hgr:=Zah (g:=g) (w:=w) (.cells (madeCells zv.cells (c.toNat * ie.size)) e) m.st.fresh
 have he:=hgr.ext m.st.fresh
 have hob:Qb g (w.alloc (.cells (madeCells zv.cells (c.toNat * ie.size)) e)) w.heap.size (.cells (QC z c.toNat)):=by
  refine ⟨(m.st.fresh _ (ZvR _)).1,_,e,QB w _,by rw [size_madeCells,zl1,hsize],fun i v d hv hd=>?_,fun x hx=>?_⟩
  ·have hi:i < c.toNat * n:=by rw [← zl1]; exact (List.getElem?_eq_some_iff.1 hd).1
   rw [zl2 i hi] at hd
   have hm:i % n < n:=Nat.mod_lt _ hn0
   have hv':zv.cells.toList[i % n]? = some v:=by
    simp only [madeCells,hsize,Array.getElem?_map,Array.getElem?_range,hi,if_true,Option.map_some,ZvD,hzlen,hzn] at hv
    rw [getElem!_pos zv.cells (i % n) (by omega)] at hv
    rw [← hv]; simp [hzlen,hzn,hm]
   exact (hz2.get _ v d hv' hd).mono he
  ·simp only [madeCells,Array.mem_map] at hx
   obtain ⟨a,_,rfl⟩:=hx
   have hlt:a % zv.cells.size < zv.cells.size:=Nat.mod_lt _ (by omega)
   rw [getElem!_pos zv.cells (a % zv.cells.size) hlt]
   exact hz3 _ (Array.getElem_mem hlt)
 obtain ⟨hn,m'⟩:=m.newObj hgr hob
 refine Kf (L':=L) hN hoo hdst hd hw hnd (v:=.slice (some ⟨w.heap.size,0,none⟩) l.toNat c.toNat) (e:=.d (.msl w.heap.size 0 l.toNat c.toNat n)) ?_ he m' (Rep.msl _ _ _ _ _ (by omega) (by omega)) ?_
 ·simp [execOp,hop,hlv,hcv,hrun]
 ·rw [hdt]; exact h _ hn ops r k hr hkk
end
end Go.DL
namespace Go.DL
open Go
variable [Znt]
section
variable {P:Program}
theorem Zjc {g:G} {w:World} {k:SK} {k1 k2:Value} {d1 d2:D} (h1:Rep g w k1 d1) (h2:Rep g w k2 d2) (h:Wg k d1 d2=some true) (n:Nat):Instr.sameBits n k1 k2=true:=by
 cases k
 ·cases h1 <;> cases h2 <;> simp only [Wg,reduceCtorEq] at h
  split at h <;> simp only [reduceCtorEq,ZvD,decide_eq_true_eq] at h
  rename_i hk
  subst hk; subst h
  cases n <;> simp [Instr.sameBits]
 ·cases h1 <;> cases h2 <;> simp only [Wg,reduceCtorEq,ZvD,decide_eq_true_eq] at h
  rename_i s1 a e1 _ s2 b e2 _
  subst h
  have:s1=s2:=by
   cases s1; cases s2
   simp only [ByteArray.mk.injEq]
   apply Array.ext'
   simp only at e1 e2
   rw [e1,e2]
  subst this
  cases n <;> simp [Instr.sameBits,MapKept.bytes_beq]
 ·cases h1 <;> cases h2 <;> simp only [Wg,reduceCtorEq,ZvD,decide_eq_true_eq] at h
  subst h
  cases n <;> simp [Instr.sameBits]
theorem Zd7 {xs ys:List D}:∀ {l:List (Nat × SK)},KN xs ys l=some true→∀ o k,(o,k)∈l→∃ x y,xs[o]? = some x∧ys[o]? = some y∧Wg k x y=some true
 | [],_,o,k,hm=>by simp at hm
 | (o',k') :: r,h,o,k,hm=>by
  simp only [KN] at h
  split at h <;> (try (simp at h; done))
  rename_i x y hx hy
  split at h <;> (try (simp at h; done))
  rename_i b c hb hc
  simp only [ZvD,ZvN] at h
  obtain ⟨rfl,rfl⟩:=h
  rcases List.mem_cons.1 hm with he | hm
  ·simp only [ZvL] at he
   obtain ⟨rfl,rfl⟩:=he
   exact ⟨x,y,hx,hy,hb⟩
  ·exact Zd7 hc o k hm
theorem Zjb {g:G} {w:World} {kt:TypeId} {kp:KP} (hk:Zaj P kt=some kp) {k1 k2:Value} {d1 d2:D} (h1:Rep g w k1 d1) (h2:Rep g w k2 d2) (h:Qt kp d1 d2=some true) (n:Nat):Instr.sameBits (n + 1) k1 k2=true:=by
 rcases ZdK hk with ⟨sk,rfl,hs⟩ | ⟨fs,l,m,rfl,hu,hn,hl,hrange,hst⟩
 ·exact Zjc h1 h2 h _
 ·cases h1 <;> cases h2 <;> simp only [Qt,reduceCtorEq] at h
  rename_i v1 xs hn1 r1 o1 v2 ys hn2 r2 o2
  split at h <;> (try (simp at h; done))
  rename_i hlen
  simp only [Instr.sameBits,List.size_toArray,ZvN,beq_iff_eq]
  refine ⟨by omega,?_⟩
  rw [List.all_eq_true]
  intro p hp
  obtain ⟨i,hi,hpi⟩:=ZvX hp
  simp only [List.length_zip] at hi
  have hi1:i < v1.length:=by omega
  have hi2:i < v2.length:=by omega
  have hil:i < l.length:=by omega
  have hm:(l[i].1,l[i].2)∈l:=List.getElem_mem hil
  have hoi:l[i].1=i:=by
   have h3:(l.map (·.1))[i]? = some l[i].1:=by simp [hil]
   rw [hrange] at h3
   have hlm:l.length=m:=by have:=congrArg List.length hrange; simpa using this
   rw [List.getElem?_range (by omega)] at h3
   exact (Option.some.inj h3).symm
  rw [hoi] at hm
  obtain ⟨x,y,hx,hy,he⟩:=Zd7 h i _ hm
  have e1:p=(v1[i],v2[i]):=by rw [← hpi]; simp
  rw [e1]
  exact Zjc (r1 i _ x (by simp [hi1]) hx) (r2 i _ y (by simp [hi2]) hy) he n
theorem ZkG {kp:KP} {a b:D} (h:Qt kp a b=some true):Qt kp b a=some true:=by
 have sc:∀ (k:SK) (a b:D),Wg k a b=some true→Wg k b a=some true:=by
  intro k a b h
  cases k <;> cases a <;> cases b <;> simp only [Wg,reduceCtorEq] at h ⊢
  ·split at h <;> simp only [reduceCtorEq,ZvD,decide_eq_true_eq] at h
   rename_i hk
   simp [hk,h]
  ·simp only [ZvD,decide_eq_true_eq] at h ⊢; exact h.symm
  ·simp only [ZvD,decide_eq_true_eq] at h ⊢; exact h.symm
 cases kp with
 | sc k=>exact sc k a b h
 | st l =>
  cases a <;> cases b <;> simp only [Qt,reduceCtorEq] at h ⊢
  rename_i xs ys
  split at h <;> (try (simp at h; done))
  rename_i hl
  rw [if_pos ⟨hl.2,hl.1⟩]
  clear hl
  induction l with
  | nil=>rfl
  | cons p r ih =>
   obtain ⟨x,y,hx,hy,he⟩:=Zd7 h p.1 p.2 (by simp)
   have hr:KN xs ys r=some true:=by
    simp only [KN,hx,hy,he] at h
    split at h <;> (try (simp at h; done))
    rename_i b c hb hc
    simp only [ZvD,ZvN] at h
    rw [hc,h.2]
   simp only [KN,hx,hy,sc _ _ _ he,ih hr,Bool.and_self]
def Zj1 (g:G) (w:World) (b:Nat) (en':Array MapEntry) (cl':Nat) (o:Y6):Prop :=
 ∀ w',Ext g w g w'→w'.heap[b]? = some (.map en' cl')→Qb g w' b o
theorem Zoq {g:G} {w:World} {t kt et:TypeId} {kp:KP} (hu:P.underlying t=some (.map kt et)) (hk:Zaj P kt=some kp) {b:Nat} {es es':List (D × D)} {k v:Value} {dk dv:D} (ho:Qb g w b (.map es))
  (hrk:Rep g w k dk) (hrv:Rep g w v dv) (hok:Jg kp dk=true) (hupd:ZaC kp dk dv es=some es') :
  ∃ en' cl',(Instr.mapUpdate t (.map (some b)) k v).run P w = .ok () { w with heap:=w.heap.setIfInBounds b (.map en' cl') }∧Zj1 g w b en' cl' (.map es'):=by
 obtain ⟨hp0,en,clock,hb,hlen,h3,h4,h5,h6⟩:=ho
 obtain ⟨io,hio,hes⟩:=ZjT hupd
 have hfind:=Zcl (P:=P) hk hrk (es:=en.toList) (by simpa using hlen) (fun i e d a b=>h3 i e d (by simpa using a) b) hio
 have hck:=Zbp (P:=P) hk hrk hok false
 cases io with
 | none =>
  simp only [Option.bind_none] at hfind
  simp only at hes
  subst hes
  refine ⟨en.push { key:=k,val:=v,born:=clock },clock + 1,by simp [Instr.mapUpdate,run_underlying hu,MapKept.run_getObj_map hb,hck,hfind,MapKept.run_setObj_map _ hb],fun w' he hw'=>?_⟩
  refine ⟨hp0,_,_,hw',by simp [hlen],fun i e d hi hd=>?_,fun i e d hi hd=>?_,fun i j e e' hi hj hbn=>?_,fun i e hi=>?_⟩
  ·rw [Array.getElem?_push] at hi
   split at hi
   ·rename_i hie
    simp only [ZvD] at hi; subst hi
    simp [hie,hlen] at hd; subst hd; exact hrk.mono he
   ·have hlt:i < es.length:=by rw [← hlen]; exact (Array.getElem?_eq_some_iff.1 hi).1
    rw [List.getElem?_append_left hlt] at hd
    exact (h3 i e d hi hd).mono he
  ·rw [Array.getElem?_push] at hi
   split at hi
   ·rename_i hie
    simp only [ZvD] at hi; subst hi
    simp [hie,hlen] at hd; subst hd; exact hrv.mono he
   ·have hlt:i < es.length:=by rw [← hlen]; exact (Array.getElem?_eq_some_iff.1 hi).1
    rw [List.getElem?_append_left hlt] at hd
    exact (h4 i e d hi hd).mono he
  ·rw [Array.getElem?_push] at hi hj
   split at hi <;> split at hj
   ·omega
   ·simp only [ZvD] at hi; subst hi
    have:=h6 j e' hj; simp only at hbn; omega
   ·simp only [ZvD] at hj; subst hj
    have:=h6 i e hi; simp only at hbn; omega
   ·exact h5 i j e e' hi hj hbn
  ·rw [Array.getElem?_push] at hi
   split at hi
   ·simp only [ZvD] at hi; subst hi; simp
   ·have:=h6 i e hi; omega
 | some i0 =>
  simp only at hes
  subst hes
  obtain ⟨hlt,hkeq⟩:=ZcL hio
  have hlt':i0 < en.size:=by omega
  have he0:en[i0]? = some en[i0]:=by simp [hlt']
  have hd0:es[i0]? = some es[i0]:=by simp [hlt]
  simp only [Option.bind_some,Array.getElem?_toList,he0,Option.map_some] at hfind
  have hstay:(Instr.keyThatStays en[i0].key k).run P w = .ok k w:=by
   have:=Zjb (P:=P) hk (h3 i0 _ _ he0 hd0) hrk (ZkG (hkeq _ hd0)) 9999
   simp [Instr.keyThatStays,this]
  refine ⟨en.modify i0 fun e=>{ e with key:=k,val:=v },clock,by simp [Instr.mapUpdate,run_underlying hu,MapKept.run_getObj_map hb,hck,hfind,MapKept.run_setObj_map _ hb,he0,hstay],fun w' he hw'=>?_⟩
  refine ⟨hp0,_,_,hw',by simp [hlen],fun i e d hi hd=>?_,fun i e d hi hd=>?_,fun i j e e' hi hj hbn=>?_,fun i e hi=>?_⟩
  ·rw [Array.getElem?_modify] at hi
   split at hi
   ·rename_i hie
    subst hie
    simp only [ZvO] at hi
    obtain ⟨e1,h1,rfl⟩:=hi
    simp [hlt] at hd; subst hd; exact hrk.mono he
   ·rename_i hie
    rw [List.getElem?_set_ne hie] at hd
    exact (h3 i e d hi hd).mono he
  ·rw [Array.getElem?_modify] at hi
   split at hi
   ·rename_i hie
    subst hie
    simp only [ZvO] at hi
    obtain ⟨e1,h1,rfl⟩:=hi
    simp [hlt] at hd; subst hd; exact hrv.mono he
   ·rename_i hie
    rw [List.getElem?_set_ne hie] at hd
    exact (h4 i e d hi hd).mono he
  ·have hbi:∀ {i:Nat} {e:MapEntry},(en.modify i0 fun e=>{ e with key:=k,val:=v })[i]? = some e→∃ e1,en[i]? = some e1∧e1.born=e.born:=by
    intro i e hi
    rw [Array.getElem?_modify] at hi
    split at hi
    ·simp only [ZvO] at hi
     obtain ⟨e1,h1,rfl⟩:=hi
     exact ⟨e1,h1,rfl⟩
    ·exact ⟨e,hi,rfl⟩
   obtain ⟨a,ha,ha'⟩:=hbi hi
   obtain ⟨c,hc,hc'⟩:=hbi hj
   exact h5 i j a c ha hc (by omega)
  ·rw [Array.getElem?_modify] at hi
   split at hi
   ·simp only [ZvO] at hi
    obtain ⟨e1,h1,rfl⟩:=hi
    exact h6 i e1 h1
   ·exact h6 i e hi
theorem Zoo {g:G} {w:World} {t kt et:TypeId} {kp:KP} {ats:Array TypeId} (ht:ats[0]? = some t) (hu:P.underlying t=some (.map kt et)) (hk:Zaj P kt=some kp) {b:Nat} {es es':List (D × D)} {k:Value} {dk:D} (ho:Qb g w b (.map es))
  (hrk:Rep g w k dk) (hok:Jg kp dk=true) (hdel:Zfc kp dk es=some es') (ty:TypeId) :
  ∃ en' cl',(Builtin.delete_ ats ty #[.map (some b),k]).run P w = .ok (.tuple #[]) { w with heap:=w.heap.setIfInBounds b (.map en' cl') }∧Zj1 g w b en' cl' (.map es'):=by
 obtain ⟨hp0,en,clock,hb,hlen,h3,h4,h5,h6⟩:=ho
 obtain ⟨io,hio,hes⟩:=ZnW hdel
 have hfind:=Zcl (P:=P) hk hrk (es:=en.toList) (by simpa using hlen) (fun i e d a b=>h3 i e d (by simpa using a) b) hio
 have hck:=Zbp (P:=P) hk hrk hok en.isEmpty
 cases io with
 | none =>
  simp only [Option.bind_none] at hfind
  simp only at hes
  subst hes
  refine ⟨en,clock,by simp [Builtin.delete_,ht,run_underlying hu,MapKept.run_getObj_map hb,hck,hfind,MapKept.run_setObj_map _ hb],fun w' he hw'=>?_⟩
  exact ⟨hp0,_,_,hw',hlen,fun i e d hi hd=>(h3 i e d hi hd).mono he,fun i e d hi hd=>(h4 i e d hi hd).mono he,h5,h6⟩
 | some i0 =>
  simp only at hes
  subst hes
  obtain ⟨hlt,hkeq⟩:=ZcL hio
  have hlt':i0 < en.size:=by omega
  have he0:en[i0]? = some en[i0]:=by simp [hlt']
  simp only [Option.bind_some,Array.getElem?_toList,he0,Option.map_some] at hfind
  have hers:en.eraseIdxIfInBounds i0=en.eraseIdx i0 hlt':=by simp [Array.eraseIdxIfInBounds,hlt']
  have hget:∀ i,(en.eraseIdxIfInBounds i0)[i]? = if i < i0 then en[i]? else en[i + 1]?:=fun i=>by
   rw [hers,← Array.getElem?_toList,Array.toList_eraseIdx,List.getElem?_eraseIdx]; simp
  have hgetl:∀ i,(es.eraseIdx i0)[i]? = if i < i0 then es[i]? else es[i + 1]?:=fun i=>List.getElem?_eraseIdx ..
  refine ⟨en.eraseIdxIfInBounds i0,clock,by simp [Builtin.delete_,ht,run_underlying hu,MapKept.run_getObj_map hb,hck,hfind,MapKept.run_setObj_map _ hb],fun w' he hw'=>?_⟩
  refine ⟨hp0,_,_,hw',by rw [hers]; simp [hlt,hlen,List.length_eraseIdx],fun i e d hi hd=>?_,fun i e d hi hd=>?_,fun i j e e' hi hj hbn=>?_,fun i e hi=>?_⟩
  ·rw [hget] at hi; rw [hgetl] at hd
   split at hi
   ·rename_i h; rw [if_pos h] at hd; exact (h3 i e d hi hd).mono he
   ·rename_i h; rw [if_neg h] at hd; exact (h3 _ e d hi hd).mono he
  ·rw [hget] at hi; rw [hgetl] at hd
   split at hi
   ·rename_i h; rw [if_pos h] at hd; exact (h4 i e d hi hd).mono he
   ·rename_i h; rw [if_neg h] at hd; exact (h4 _ e d hi hd).mono he
  ·rw [hget] at hi hj
   split at hi <;> split at hj
   ·exact h5 i j e e' hi hj hbn
   ·have:=h5 i (j + 1) e e' hi hj hbn; omega
   ·have:=h5 (i + 1) j e e' hi hj hbn; omega
   ·have:=h5 (i + 1) (j + 1) e e' hi hj hbn; omega
  ·rw [hget] at hi
   split at hi <;> exact h6 _ e hi
theorem Zn2 {kp:KP} {k z:D}:∀ {es:List (D × D)} {v:D},Zdy kp k z es=some v→∃ io,Q7 kp k es=some io∧v=match io with
  | none=>z
  | some i=>((es[i]?).map (·.2)).getD z
 | [],v,h=>by simp only [Zdy,ZvD] at h; exact ⟨none,rfl,h.symm⟩
 | e :: es,v,h=>by
  simp only [Zdy] at h
  split at h
  ·rename_i he; simp only [ZvD] at h; exact ⟨some 0,by simp [Q7,he],by simp [h]⟩
  ·rename_i he
   obtain ⟨io,h1,h2⟩:=Zn2 h
   refine ⟨io.map (· + 1),by simp [Q7,he,h1],?_⟩
   rw [h2]; cases io <;> simp
  ·simp at h
theorem Zo6 {g:G} {w:World} {t kt et:TypeId} {kp:KP} {z:D} (hu:P.underlying t=some (.map kt et)) (hk:Zaj P kt=some kp) (hz:Zda P et=some z) {b:Nat} {es:List (D × D)} {k:Value} {dk dv:D} (ho:Qb g w b (.map es))
  (hrk:Rep g w k dk) (hok:Jg kp dk=true) (hent:Zdy kp dk z es=some dv) :
  ∃ en' cl' v n,(Instr.mapEntry t (.map (some b)) k).run P w = .ok (.tuple #[v,.int .i64 (n:Nat)]) { w with heap:=w.heap.setIfInBounds b (.map en' cl') }∧Rep g w v dv∧Zj1 g w b en' cl' (.mapE kp es dk n):=by
 obtain ⟨hp0,en,clock,hb,hlen,h3,h4,h5,h6⟩:=ho
 obtain ⟨io,hio,hdv⟩:=Zn2 hent
 have hfind:=Zcl (P:=P) hk hrk (es:=en.toList) (by simpa using hlen) (fun i e d a b=>h3 i e d (by simpa using a) b) hio
 have hck:=Zbp (P:=P) hk hrk hok false
 cases io with
 | none =>
  obtain ⟨zv,hz1,hz2⟩:=ZoX (P:=P) (g:=g) (w:=w) hz
  simp only [Option.bind_none] at hfind
  simp only at hdv
  subst hdv
  refine ⟨en.push { key:=k,val:=zv,born:=clock },clock + 1,zv,clock,by simp [Instr.mapEntry,run_underlying hu,MapKept.run_getObj_map hb,hck,hfind,MapKept.run_setObj_map _ hb,hz1,goInt],hz2,fun w' he hw'=>?_⟩
  refine ⟨hp0,none,hio,_,_,hw',by simp [hlen],fun i e d hne hi hd=>?_,fun i e d hne hi hd=>?_,fun e hi=>?_,fun i j e e' hi hj hbn=>?_,fun i e hi=>?_⟩
  ·have hlt:i < es.length:=(List.getElem?_eq_some_iff.1 hd).1
   rw [Array.getElem?_push,if_neg (by omega)] at hi
   exact (h3 i e d hi hd).mono he
  ·have hlt:i < es.length:=(List.getElem?_eq_some_iff.1 hd).1
   rw [Array.getElem?_push,if_neg (by omega)] at hi
   exact (h4 i e d hi hd).mono he
  ·simp only [Option.getD_none,← hlen,Array.getElem?_push,if_true,ZvD] at hi
   subst hi; exact ⟨hrk.mono he,rfl⟩
  ·rw [Array.getElem?_push] at hi hj
   split at hi <;> split at hj
   ·omega
   ·simp only [ZvD] at hi; subst hi
    have:=h6 j e' hj; simp only at hbn; omega
   ·simp only [ZvD] at hj; subst hj
    have:=h6 i e hi; simp only at hbn; omega
   ·exact h5 i j e e' hi hj hbn
  ·rw [Array.getElem?_push] at hi
   split at hi
   ·simp only [ZvD] at hi; subst hi; simp
   ·have:=h6 i e hi; omega
 | some i0 =>
  obtain ⟨hlt,hkeq⟩:=ZcL hio
  have hlt':i0 < en.size:=by omega
  have he0:en[i0]? = some en[i0]:=by simp [hlt']
  have hd0:es[i0]? = some es[i0]:=by simp [hlt]
  simp only [hd0,Option.map_some,Option.getD_some] at hdv
  subst hdv
  simp only [Option.bind_some,Array.getElem?_toList,he0,Option.map_some] at hfind
  have hstay:(Instr.keyThatStays en[i0].key k).run P w = .ok k w:=by
   have:=Zjb (P:=P) hk (h3 i0 _ _ he0 hd0) hrk (ZkG (hkeq _ hd0)) 9999
   simp [Instr.keyThatStays,this]
  have hbi:∀ {i:Nat} {e:MapEntry},(en.modify i0 fun e=>{ e with key:=k })[i]? = some e→∃ e1,en[i]? = some e1∧e1.born=e.born∧e.val=e1.val∧(i≠i0→e=e1)∧(i=i0→e.key=k):=by
   intro i e hi
   rw [Array.getElem?_modify] at hi
   split at hi
   ·rename_i hie
    simp only [ZvO] at hi
    obtain ⟨e1,h1,rfl⟩:=hi
    exact ⟨e1,h1,rfl,rfl,fun h=>absurd hie.symm h,fun _=>rfl⟩
   ·rename_i hie
    exact ⟨e,hi,rfl,rfl,fun _=>rfl,fun h=>absurd h.symm hie⟩
  refine ⟨en.modify i0 fun e=>{ e with key:=k },clock,en[i0].val,en[i0].born,by simp [Instr.mapEntry,run_underlying hu,MapKept.run_getObj_map hb,hck,hfind,MapKept.run_setObj_map _ hb,he0,hstay,goInt],h4 i0 _ _ he0 hd0,fun w' he hw'=>?_⟩
  refine ⟨hp0,some i0,hio,_,_,hw',by simp [hlen],fun i e d hne hi hd=>?_,fun i e d hne hi hd=>?_,fun e hi=>?_,fun i j e e' hi hj hbn=>?_,fun i e hi=>?_⟩
  ·obtain ⟨e1,ha,_,_,hc,_⟩:=hbi hi
   rw [hc (by simpa using hne)]; exact (h3 i e1 d ha hd).mono he
  ·obtain ⟨e1,ha,_,hv,_⟩:=hbi hi
   rw [hv]; exact (h4 i e1 d ha hd).mono he
  ·simp only [Option.getD_some] at hi
   obtain ⟨e1,ha,hbn,hv,_,hkk⟩:=hbi hi
   rw [he0] at ha
   simp only [ZvD] at ha
   exact ⟨by rw [hkk rfl]; exact hrk.mono he,by rw [← hbn,← ha]⟩
  ·obtain ⟨a,ha,ha',_⟩:=hbi hi
   obtain ⟨c,hc,hc',_⟩:=hbi hj
   exact h5 i j a c ha hc (by omega)
  ·obtain ⟨a,ha,ha',_⟩:=hbi hi
   have:=h6 i a ha; omega
theorem ZmI {g:G} {w:World} {t:TypeId} {kp:KP} {b n:Nat} {es es':List (D × D)} {v:Value} {dk dv:D} (ho:Qb g w b (.mapE kp es dk n)) (hrv:Rep g w v dv) (hupd:ZaC kp dk dv es=some es') :
  ∃ en' cl',(Instr.entryStore t (.map (some b)) (.int .i64 n) v).run P w = .ok () { w with heap:=w.heap.setIfInBounds b (.map en' cl') }∧Zj1 g w b en' cl' (.map es'):=by
 obtain ⟨hp0,io,hio,en,clock,hb,hlen,h3,h4,h5,h6,h7⟩:=ho
 obtain ⟨io',hio',hes⟩:=ZjT hupd
 rw [hio] at hio'
 simp only [ZvD] at hio'
 subst hio'
 generalize hix:io.getD es.length=ix at *
 have hlt:ix < en.size:=by
  cases io with
  | none=>simp only [Option.getD_none] at hix; simp only at hlen; omega
  | some i=>simp only [Option.getD_some] at hix; simp only at hlen; have:=(ZcL hio).1; omega
 have he0:en[ix]? = some en[ix]:=by simp [hlt]
 obtain ⟨hkx,hbx⟩:=h5 _ he0
 have hfi:en.findIdx? (fun e=>(e.born:Int) == (n:Int))=some ix:=by
  rw [Array.findIdx?_eq_some_iff_getElem]
  refine ⟨hlt,by simp [hbx],fun j hj=>?_⟩
  simp only [beq_iff_eq,Int.natCast_inj]
  intro hjn
  have:=h6 j ix en[j] en[ix] (by simp [show j < en.size by omega]) he0 (by omega)
  omega
 have hsz:en.size=es'.length:=by
  cases io with
  | none=>simp only at hes hlen; rw [hes]; simp [hlen]
  | some i=>simp only at hes hlen; rw [hes]; simp [hlen]
 have hes':∀ i d,es'[i]? = some d→(i=ix∧d=(dk,dv))∨(i≠ix∧es[i]? = some d):=by
  intro i d hd
  cases io with
  | none =>
   simp only [Option.getD_none] at hix
   subst hix
   simp only at hes
   rw [hes] at hd
   by_cases hi:i < es.length
   ·rw [List.getElem?_append_left hi] at hd; exact .inr ⟨by omega,hd⟩
   ·rw [List.getElem?_append_right (by omega)] at hd
    have h0:i - es.length=0:=by
     rcases Nat.eq_zero_or_pos (i - es.length) with h | h
     ·exact h
     ·rw [List.getElem?_eq_none (by simp; omega)] at hd; simp at hd
    rw [h0] at hd
    simp at hd; exact .inl ⟨by omega,hd.symm⟩
  | some j =>
   simp only [Option.getD_some] at hix
   subst hix
   simp only at hes
   rw [hes] at hd
   by_cases hi:j=i
   ·subst hi
    have:=(ZcL hio).1
    simp [this] at hd; exact .inl ⟨rfl,hd.symm⟩
   ·rw [List.getElem?_set_ne hi] at hd; exact .inr ⟨fun h=>hi h.symm,hd⟩
 have hbi:∀ {i:Nat} {e:MapEntry},(en.modify ix fun e=>{ e with val:=v })[i]? = some e→∃ e1,en[i]? = some e1∧e1.born=e.born∧e.key=e1.key∧(i≠ix→e=e1)∧(i=ix→e.val=v):=by
  intro i e hi
  rw [Array.getElem?_modify] at hi
  split at hi
  ·rename_i hie
   simp only [ZvO] at hi
   obtain ⟨e1,h1,rfl⟩:=hi
   exact ⟨e1,h1,rfl,rfl,fun h=>absurd hie.symm h,fun _=>rfl⟩
  ·rename_i hie
   exact ⟨e,hi,rfl,rfl,fun _=>rfl,fun h=>absurd h.symm hie⟩
 refine ⟨en.modify ix fun e=>{ e with val:=v },clock,by simp [Instr.entryStore,MapKept.run_getObj_map hb,asInt,asIntOf,hfi,MapKept.run_setObj_map _ hb],fun w' he hw'=>?_⟩
 refine ⟨hp0,_,_,hw',by simp [hsz],fun i e d hi hd=>?_,fun i e d hi hd=>?_,fun i j e e' hi hj hbn=>?_,fun i e hi=>?_⟩
 ·obtain ⟨e1,ha,_,hk,_⟩:=hbi hi
  rw [hk]
  rcases hes' i d hd with ⟨rfl,rfl⟩ | ⟨hne,hd'⟩
  ·rw [he0] at ha; simp only [ZvD] at ha; rw [← ha]; exact hkx.mono he
  ·exact (h3 i e1 d hne ha hd').mono he
 ·obtain ⟨e1,ha,_,_,hc,hv⟩:=hbi hi
  rcases hes' i d hd with ⟨rfl,rfl⟩ | ⟨hne,hd'⟩
  ·rw [hv rfl]; exact hrv.mono he
  ·rw [hc hne]; exact (h4 i e1 d hne ha hd').mono he
 ·obtain ⟨a,ha,ha',_⟩:=hbi hi
  obtain ⟨c,hc,hc',_⟩:=hbi hj
  exact h6 i j a c ha hc (by omega)
 ·obtain ⟨a,ha,ha',_⟩:=hbi hi
  have:=h7 i a ha; omega
end
end Go.DL
namespace Go.DL
open Go
variable [Znt]
section
variable {P:Program}
theorem Ziz {g:G} {w:World} {v:Value} {b:Nat} (h:Rep g w v (.map b)):v = .map (some b):=by cases h; rfl
theorem Zgt {s:St} {b:Nat} {es:List (D × D)} (h:QM s b=some es):s b=some (.map es):=by
 unfold QM at h
 split at h <;> simp only [ZvD,reduceCtorEq] at h
 subst h; assumption
theorem ZjA {F:Fr P} {ops:Array Oper} {i:Nat} {r:List Nat} {k:List Item} {oo:Oper} {o:DOp} {g:G} {ν:Nat→Nat} {w:World} {tmps:Array Value} {ρ:Env} {L:Loc} {s:St} (hN:F.N≤tmps.size) (m:ZI g ν w tmps ρ L s)
  (hoo:ops[i]? = some oo) (hdst:oo.dst=o.dst) (hdst0:o.dst=none) (hw:Region.wanted oo (yielded ops tmps)=true) (hnd:∀ c,oo.op≠.defer c) {b:Nat} {o1 o':Y6} (hb:s b=some o1) {en en':Array MapEntry} {cl cl':Nat}
  (hh:w.heap[b]? = some (.map en cl)) (hp:g.prot b=0) (hmap:Zj1 g w b en' cl' o') {x:Value}
  (hrun:(execOp (Act.mk tmps F.ds).eval oo).run P w = .ok .skip { w with heap:=w.heap.setIfInBounds b (.map en' cl') }∨(execOp (Act.mk tmps F.ds).eval oo).run P w = .ok (.value x) { w with heap:=w.heap.setIfInBounds b (.map en' cl') })
  (h:JO F (.inRegion ops r :: k) ρ L (s.upd b o')):F.T.T g w (lone (F.b.atR ⟨tmps,F.ds⟩ (.inRegion ops (i :: r) :: k)) F.cs w):=by
 have he:=Zkr (g:=g) b (.map en' cl') hh hp (m.st.kept b _ hb)
 have m':=m.named hb he (by simp) (fun c hc=>J5 _ hc) (hmap _ he (Zmx _ hh))
 rcases hrun with hrun | hrun
 ·refine F.T.back _ _ _ _ (.one (ZgL hoo hw hnd hrun)) ?_
  rw [hdst,hdst0]
  exact F.T.ext _ _ _ _ _ he (h g ν _ tmps hN m')
 ·refine F.T.back _ _ _ _ (.one (ZgM hoo hw hnd hrun)) ?_
  rw [hdst,hdst0]
  exact F.T.ext _ _ _ _ _ he (h g ν _ tmps hN m')
theorem ZlZ {F:Fr P} {kp:Option (List Nat)} {dk:List Zp} {o:DOp} {os:List DOp} {ρ:Env} {L:Loc} {s:St} (hg:o.guard=none) (hdn:o.dst=none) {mk:KP} {mx kx vx:Opd} (hk:o.k = .mapupd mk mx kx vx)
  {p q r:Prop} {b:Nat} {kd vd:D} (hm:ZV ρ true mx=some (p,.d (.map b))) (hkk:ZV ρ true kx=some (q,.d kd)) (hv:ZV ρ true vx=some (r,.d vd)) (hp:p) (hq:q) (hr:r) {es es':List (D × D)} (hb:QM s b=some es)
  (hupd:ZaC mk kd vd es=some es') (hok:Jg mk kd=true) (h:DO F kp dk os ρ L (s.upd b (.map es'))):DO F kp dk (o :: os) ρ L s:=by
 refine KL fun oo g ν w tmps ops i r' k hoo hck hcg hdst hd hN m hro hkk'=>?_
 have hw:=Y7 m hcg (c:=true) (by rw [hg]; rfl)
 have hnd:=Wp hck (by rw [hk]; rfl)
 rw [hk] at hck
 obtain ⟨t,kt,et,m',k',v',hop,hu,hkt,hm',hk',hv'⟩:=ZrC hck
 have e1:=Ziz (g:=g) (w:=w) (Y2 m hm' rfl hm hp F.ds)
 have e2:Rep g w _ _:=Y2 m hk' rfl hkk hq F.ds
 have e3:Rep g w _ _:=Y2 m hv' rfl hv hr F.ds
 have ho:=Zek m.st hb
 obtain ⟨en',cl',hrun,hto⟩:=Zoq hu hkt ho e2 e3 hok hupd
 obtain ⟨hp0,en,cl,hh,_⟩:=ho
 refine ZjA (x:=undef) hN m hoo hdst hdn hw hnd (Zgt hb) hh hp0 hto (.inl ?_) (h ops r' k hro hkk')
 rcases hop with hop | hop <;> simp [execOp,hop,e1,hrun]
theorem ZlX {F:Fr P} {kp:Option (List Nat)} {dk:List Zp} {o:DOp} {os:List DOp} {ρ:Env} {L:Loc} {s:St} (hg:o.guard=none) (hdn:o.dst=none) {mk:KP} {mx kx:Opd} (hk:o.k = .delete mk mx kx)
  {p q:Prop} {b:Nat} {kd:D} (hm:ZV ρ true mx=some (p,.d (.map b))) (hkk:ZV ρ true kx=some (q,.d kd)) (hp:p) (hq:q) {es es':List (D × D)} (hb:QM s b=some es)
  (hupd:Zfc mk kd es=some es') (hok:Jg mk kd=true) (h:DO F kp dk os ρ L (s.upd b (.map es'))):DO F kp dk (o :: os) ρ L s:=by
 refine KL fun oo g ν w tmps ops i r' k hoo hck hcg hdst hd hN m hro hkk'=>?_
 have hw:=Y7 m hcg (c:=true) (by rw [hg]; rfl)
 have hnd:=Wp hck (by rw [hk]; rfl)
 rw [hk] at hck
 obtain ⟨ats,t,kt,et,m',k',hop,ht,hu,hkt,hm',hk'⟩:=ZrA hck
 have e1:=Ziz (g:=g) (w:=w) (Y2 m hm' rfl hm hp F.ds)
 have e2:Rep g w _ _:=Y2 m hk' rfl hkk hq F.ds
 have ho:=Zek m.st hb
 obtain ⟨en',cl',hrun,hto⟩:=Zoo ht hu hkt ho e2 hok hupd oo.type
 obtain ⟨hp0,en,cl,hh,_⟩:=ho
 refine ZjA (x:=.tuple #[]) hN m hoo hdst hdn hw hnd (Zgt hb) hh hp0 hto (.inr ?_) (h ops r' k hro hkk')
 simp [execOp,hop,resolve,invoke,builtin,e1,hrun]
theorem ZlY {F:Fr P} {kp:Option (List Nat)} {dk:List Zp} {o:DOp} {os:List DOp} {ρ:Env} {L:Loc} {s:St} (hg:o.guard=none) {t:Nat} (hdt:o.dst=some t) {mk:KP} {z:D} {mx kx:Opd} (hk:o.k = .mapent mk z mx kx)
  {p q:Prop} {b:Nat} {kd v:D} (hm:ZV ρ true mx=some (p,.d (.map b))) (hkk:ZV ρ true kx=some (q,.d kd)) (hp:p) (hq:q) {es:List (D × D)} (hb:QM s b=some es)
  (hent:Zdy mk kd z es=some v) (hok:Jg mk kd=true) (h:∀ n,DO F kp dk os ((t,.d (.tup [v,.stamp n])) :: ρ) L (s.upd b (.mapE mk es kd n))):DO F kp dk (o :: os) ρ L s:=by
 refine KL fun oo g ν w tmps ops i r' k hoo hck hcg hdst hd hN m hro hkk'=>?_
 have hw:=Y7 m hcg (c:=true) (by rw [hg]; rfl)
 have hnd:=Wp hck (by rw [hk]; rfl)
 rw [hk] at hck
 obtain ⟨ty,kt,et,m',k',hop,hu,hkt,hz,hm',hk'⟩:=ZrB hck
 have e1:=Ziz (g:=g) (w:=w) (Y2 m hm' rfl hm hp F.ds)
 have e2:Rep g w _ _:=Y2 m hk' rfl hkk hq F.ds
 have ho:=Zek m.st hb
 obtain ⟨en',cl',vv,n,hrun,hrv,hto⟩:=Zo6 hu hkt hz ho e2 hok hent
 obtain ⟨hp0,en,cl,hh,_⟩:=ho
 have hsb:=Zgt hb
 have he:=Zkr (g:=g) b (.map en' cl') hh hp0 (m.st.kept b _ hsb)
 have m'':=m.named hsb he (by simp) (fun c hc=>J5 _ hc) (hto _ he (Zmx _ hh))
 refine Kf (L':=L) hN hoo hdst hd hw hnd (v:=.tuple #[vv,.int .i64 n]) (e:=.d (.tup [v,.stamp n])) ?_ he m'' ((ZgA hrv (.stamp n)).mono he) ?_
 ·simp [execOp,hop,e1,hrun]
 ·rw [hdt]; exact h n ops r' k hro hkk'
theorem Znj {F:Fr P} {kp:Option (List Nat)} {dk:List Zp} {o:DOp} {os:List DOp} {ρ:Env} {L:Loc} {s:St} (hg:o.guard=none) (hdn:o.dst=none) {mk:KP} {mx kx vx:Opd} (hk:o.k = .entst mx kx vx)
  {p q r:Prop} {b n:Nat} {kd vd:D} (hm:ZV ρ true mx=some (p,.d (.map b))) (hkk:ZV ρ true kx=some (q,.d (.stamp n))) (hv:ZV ρ true vx=some (r,.d vd)) (hp:p) (hq:q) (hr:r) {es es':List (D × D)} (hb:s b=some (.mapE mk es kd n))
  (hupd:ZaC mk kd vd es=some es') (h:DO F kp dk os ρ L (s.upd b (.map es'))):DO F kp dk (o :: os) ρ L s:=by
 refine KL fun oo g ν w tmps ops i r' k hoo hck hcg hdst hd hN m hro hkk'=>?_
 have hw:=Y7 m hcg (c:=true) (by rw [hg]; rfl)
 have hnd:=Wp hck (by rw [hk]; rfl)
 rw [hk] at hck
 obtain ⟨t,m',k',v',hop,hm',hk',hv'⟩:=ZsP hck
 have e1:=Ziz (g:=g) (w:=w) (Y2 m hm' rfl hm hp F.ds)
 have e2:Rep g w _ _:=Y2 m hk' rfl hkk hq F.ds
 have e3:Rep g w _ _:=Y2 m hv' rfl hv hr F.ds
 have e2':(Act.mk tmps F.ds).eval k' = .int .i64 n:=by
  generalize (Act.mk tmps F.ds).eval k'=z at e2
  cases e2; rfl
 have ho:=m.st.obj b _ hb
 obtain ⟨en',cl',hrun,hto⟩:=ZmI (P:=P) (t:=t) ho e3 hupd
 obtain ⟨hp0,io,_,en,cl,hh,_⟩:=ho
 refine ZjA (x:=undef) hN m hoo hdst hdn hw hnd hb hh hp0 hto (.inl ?_) (h ops r' k hro hkk')
 simp [execOp,hop,e1,e2',hrun]
theorem Zrn {F:Fr P} {kp:Option (List Nat)} {dk:List Zp} {o:DOp} {os:List DOp} {ρ:Env} {L:Loc} {s:St} {c:Bool} (hg:Zu ρ o.guard=some c) {x:Opd} (hk:o.k = .s2b x) {p:Prop} {l:List UInt8}
  (ha:ZV ρ c x=some (p,.d (.str l))) (hs:c=true→p) {e':E}
  (he:e' = .when c (.d (.sl .none l.length 1 (fun i=>[.int .u8 ((l.getD i 0).toNat:Int)])))∨(c=true∧e' = .d (.sl .none l.length 1 (fun i=>[.int .u8 ((l.getD i 0).toNat:Int)]))))
  (h:DO F kp dk os (ZQ ρ o.dst e') L s):DO F kp dk (o :: os) ρ L s:=by
 refine KL fun oo g ν w tmps ops i r k hoo hck hcg hdst hd hN m hr hkk=>?_
 have hgo:=h ops r k hr hkk
 have hw:=Y7 m hcg hg
 have hnd:=Wp hck (by rw [hk]; rfl)
 cases c
 ·rcases he with rfl | ⟨h0,_⟩
  ·exact ZbH (P:=P) hN m hoo hdst hd hw hgo
  ·simp at h0
 ·rw [hk] at hck
  obtain ⟨sT,dT,x',e,hop,hus,hud,hue,hx'⟩:=ZuL hck
  obtain ⟨s0,hs0,e0,hb0⟩:=ZiA (g:=g) (w:=w) (Y2 m hx' rfl ha (hs rfl) F.ds)
  have hsz:s0.size=l.length:=by rw [← e0]; rfl
  have hrun:=Lib.run_convert_string_bytes (P:=P) w sT dT e s0 hus hud hue
  have hle:=grownCap_le_maxLen w s0.size 0 e (by rw [hsz]; unfold big at hb0; unfold maxLen; omega)
  have hge:=grownCap_ge w s0.size 0 e
  let g':G:={ g with prot:=fun b=>if b=w.heap.size then l.length else g.prot b }
  have hgr:Zau g w g' (Lib.bytesWorld w e s0):=by
   refine ⟨by rw [Lib.bytesWorld_size]; omega,fun b hb=>Lib.bytesWorld_at_old w e s0 b hb,fun b hb=>by simp [g',Nat.ne_of_lt hb],fun b hb=>?_,rfl,?_,?_,?_⟩
   ·rw [Lib.bytesWorld_size] at hb
    simp [g',show b≠w.heap.size by omega,(m.st.fresh b (by omega)).1]
   ·rfl
   ·rfl
   ·rfl
  have hrep:Rep g' (Lib.bytesWorld w e s0) (.slice (some ⟨w.heap.size,0,none⟩) s0.size (grownCap w s0.size 0 e)) (.sl .none l.length 1 (fun i=>[.int .u8 ((l.getD i 0).toNat:Int)])):=by
   rw [hsz] at hle hge ⊢
   refine .sl w.heap.size 0 l.length _ 1 _ .none (fun i _=>.int .u8 ((l.getD i 0).toNat:Int)) (fun i hi=>rfl) (fun i j hi hj=>?_) (fun i j hi hj=>?_) (fun i j d hi hd=>?_) (fun i j _ _=>rfl) trivial (by omega) (by unfold big; unfold maxLen at hle; omega)
   ·have:=Lib.bytesWorld_cell w e s0 (0 + i * 1 + j) (by omega)
    rw [this,e0]
    have:0 + i * 1 + j=i:=by omega
    rw [this]
   ·simp [g']; omega
   ·cases j with
    | zero=>simp only [List.getElem?_cons_zero,ZvD] at hd; subst hd; exact .int _ _ (Zod _)
    | succ j=>simp at hd
  refine Kf hN hoo hdst hd hw hnd (v:=.slice (some ⟨w.heap.size,0,none⟩) s0.size (grownCap w s0.size 0 e)) ?_ (hgr.ext m.st.fresh) (m.grow hgr) ?_ hgo
  ·simp [execOp,hop,hs0,hrun]
  ·rcases he with rfl | ⟨_,rfl⟩
   ·exact ⟨fun _=>hrep,fun h=>by simp at h⟩
   ·exact hrep
end
end Go.DL
namespace Go.DL
open Go
variable [Znt]
section
variable {P:Program}
theorem Zrl {F:Fr P} {kp:Option (List Nat)} {dk:List Zp} {o:DOp} {os:List DOp} {ρ:Env} {L:Loc} {s:St} {c:Bool} (hg:Zu ρ o.guard=some c) {len n:Nat} {z:List D} {is:List Nat} {xs:List Opd}
  (hk:o.k = .bsl len n z is xs) {p:Prop} {es:List E} {ds:List D} (ha:Wc ρ c xs=some (p,es)) (hds:K4 es=some ds) (hs:c=true→p∧Q2 n ds=true) {e':E}
  (he:e' = .when c (.d (.sl .full len n (Wm z (is.zip ds))))∨(c=true∧e' = .d (.sl .full len n (Wm z (is.zip ds)))))
  (h:DO F kp dk os (ZQ ρ o.dst e') L s):DO F kp dk (o :: os) ρ L s:=by
 refine KL fun oo g ν w tmps ops i r k hoo hck hcg hdst hd hN m hr hkk=>?_
 have hgo:=h ops r k hr hkk
 have hw:=Y7 m hcg hg
 have hnd:=Wp hck (by rw [hk]; rfl)
 cases c
 ·rcases he with rfl | ⟨h0,_⟩
  ·exact ZbH (P:=P) hN m hoo hdst hd hw hgo
  ·simp at h0
 ·rw [hk] at hck
  obtain ⟨t,e,parts,hop,hu,hsz,hz,hxs,rfl,hdis,hzl,hs0,hbig⟩:=Zry hck
  have hargs:=ZcR m rfl F.ds hxs ha (hs rfl).1
  have hreps:=QU hargs hds
  obtain ⟨v,w',g',h1,h2,h3⟩:=ZuI (P:=P) (g:=g) (w:=w) (parts:=parts.toList.map fun x=>(x.1,(Act.mk tmps F.ds).eval x.2)) hu hsz hz (by simpa [List.map_map,Function.comp_def] using hdis) hzl hs0 hbig
   (by simpa [List.map_map,Function.comp_def] using hreps) (hs rfl).2 m.st.fresh
  have hx:=h2.ext m.st.fresh
  have hrun:(execOp (Act.mk tmps F.ds).eval oo).run P w = .ok (.value v) w':=by
   simp only [execOp,hop,Sem.run_bind]
   have e1:(parts.map fun x=>(x.1,(Act.mk tmps F.ds).eval x.2))=(parts.toList.map fun x=>(x.1,(Act.mk tmps F.ds).eval x.2)).toArray:=by apply Array.ext'; simp
   rw [e1,h1]
   rfl
  have h3':Rep g' w' v (.sl .full len n (Wm z ((parts.toList.map (·.1)).zip ds))):=by simpa [List.map_map,Function.comp_def] using h3
  refine Kf hN hoo hdst hd hw hnd hrun hx (m.grow h2) ?_ hgo
  rcases he with rfl | ⟨_,rfl⟩
  ·exact ⟨fun _=>h3',fun h=>by simp at h⟩
  ·exact h3'
theorem Zpu {F:Fr P} {kp:Option (List Nat)} {dk:List Zp} {o:DOp} {os:List DOp} {ρ:Env} {L:Loc} {s:St} {c:Bool} (hg:Zu ρ o.guard=some c) {x a b:Opd} (hk:o.k = .pick x a b)
  {p:Prop} {v:Bool} (ha:Zc8 ρ c x a b=some (p,v)) (hs:c=true→p) {e':E} (he:e' = .when c (.d (.bool v))∨(c=true∧e' = .d (.bool v)))
  (h:DO F kp dk os (ZQ ρ o.dst e') L s):DO F kp dk (o :: os) ρ L s:=by
 refine Zro hg (by rw [hk]; rfl) he (fun hc oo g ν w tmps hck m=>?_) h
 rw [hk] at hck
 obtain ⟨x',a',b',hop,h1,h2,h3⟩:=Zt0 hck
 refine ⟨.bool v,?_,.bool v⟩
 obtain ⟨dst,op,ty,pos,af,gd⟩:=oo
 simp only at hop
 subst hop
 exact Ztj m h1 h2 h3 hc ha (hs hc) _ _ _ _ _ _
theorem Ze6 {ρ ρ':Env} {L L':Loc} {s s':St} {p q ok side:Prop} {a:E} {n:Nat} {xs:List D} (h:QV ρ L s p q ok a n xs = .ok side ρ' L' s') :
  ρ'=ρ∧((∃ l off cs,a = .loc l off∧Zl L l=some cs∧side=(p∧q∧off + n≤cs.length∧ok)∧L'=(l,ZC cs off xs) :: L∧s'=s) ∨
   ∃ b off cs,a = .d (.ptr b off)∧YS s b=some cs∧side=(p∧q∧off + n≤cs.length∧ok)∧L'=L∧s'=s.upd b (.cells (ZC cs off xs))):=by
 unfold QV at h
 split at h <;> (try (simp at h; done))
 ·rename_i l off
  split at h <;> simp only [SR.ok.injEq,reduceCtorEq] at h
  rename_i cs hcs
  obtain ⟨rfl,rfl,rfl,rfl⟩:=h
  exact ⟨rfl,.inl ⟨l,off,cs,rfl,hcs,rfl,rfl,rfl⟩⟩
 ·rename_i b off
  split at h <;> simp only [SR.ok.injEq,reduceCtorEq] at h
  rename_i cs hcs
  obtain ⟨rfl,rfl,rfl,rfl⟩:=h
  exact ⟨rfl,.inr ⟨b,off,cs,rfl,hcs,rfl,rfl,rfl⟩⟩
theorem ZdQ {ρ:Env} {L:Loc} {s:St} {p q ok side:Prop} {a:E} {n:Nat} {xs:List D} {pre:Nat→Prop} {ρ':Nat→Env} {s':Nat→St}:QV ρ L s p q ok a n xs≠.all side pre ρ' s':=by
 unfold QV
 split <;> (try (split <;> simp)) <;> simp
theorem JW {F:Fr P} {kp:Option (List Nat)} {dk:List Zp} {o:DOp} {os:List DOp} {ρ ρ':Env} {L L':Loc} {s s':St} {side:Prop} (hst:ZU o ρ L s = .ok side ρ' L' s') (hs:side)
  (h:DO F kp dk os ρ' L' s'):DO F kp dk (o :: os) ρ L s:=by
 obtain ⟨dst,gd,k⟩:=o
 unfold ZU at hst
 cases hg:Zu ρ gd with
 | none=>simp [hg] at hst
 | some c =>
  simp only [hg] at hst
  have hc0:gd=none→c=true:=fun h0=>by subst h0; simpa [Zu] using hg.symm
  cases k with
  | q q xs =>
   simp only at hst
   split at hst <;> (try (simp at hst; done))
   rename_i p es ha
   split at hst <;> (try (simp at hst; done))
   rename_i sd e hq
   split at hst <;> (simp only [SR.ok.injEq] at hst; obtain ⟨rfl,rfl,rfl,rfl⟩:=hst)
   ·obtain rfl:=hc0 rfl
    exact ZuD hg rfl ha hq (fun _=>hs) (.inr ⟨rfl,rfl⟩) h
   ·exact ZuD hg rfl ha hq hs (.inl rfl) h
  | pick x a b =>
   simp only at hst
   split at hst <;> (try (simp at hst; done))
   rename_i p v ha
   split at hst <;> (simp only [SR.ok.injEq] at hst; obtain ⟨rfl,rfl,rfl,rfl⟩:=hst)
   ·obtain rfl:=hc0 rfl
    exact Zpu hg rfl ha (fun _=>hs) (.inr ⟨rfl,rfl⟩) h
   ·exact Zpu hg rfl ha hs (.inl rfl) h
  | alloc z =>
   simp only at hst
   split at hst <;> (try (simp at hst; done))
   rename_i t
   simp only [SR.ok.injEq] at hst
   obtain ⟨rfl,rfl,rfl,rfl⟩:=hst
   exact Zng rfl rfl rfl hs h
  | box x =>
   simp only at hst
   split at hst <;> (try (simp at hst; done))
   rename_i t p v ha
   simp only [SR.ok.injEq] at hst
   obtain ⟨rfl,rfl,rfl,rfl⟩:=hst
   exact ZuA rfl rfl rfl ha hs.1 hs.2.1 hs.2.2 h
  | bsl len n z is xs =>
   simp only at hst
   split at hst <;> (try (simp at hst; done))
   rename_i p es ha
   split at hst <;> (try (simp at hst; done))
   rename_i ds hds
   split at hst <;> (simp only [SR.ok.injEq] at hst; obtain ⟨rfl,rfl,rfl,rfl⟩:=hst)
   ·obtain rfl:=hc0 rfl
    exact Zrl hg rfl ha hds (fun _=>hs) (.inr ⟨rfl,rfl⟩) h
   ·exact Zrl hg rfl ha hds hs (.inl rfl) h
  | s2b x =>
   simp only at hst
   split at hst <;> (try (simp at hst; done))
   rename_i p l ha
   split at hst <;> (simp only [SR.ok.injEq] at hst; obtain ⟨rfl,rfl,rfl,rfl⟩:=hst)
   ·obtain rfl:=hc0 rfl
    exact Zrn hg rfl ha (fun _=>hs) (.inr ⟨rfl,rfl⟩) h
   ·exact Zrn hg rfl ha hs (.inl rfl) h
  | store1 a v =>
   simp only at hst
   split at hst <;> (try (simp at hst; done))
   rename_i p ea q x ha hv
   obtain ⟨rfl,⟨l,off,cs,rfl,hL,rfl,rfl,rfl⟩ | ⟨b,off,cs,rfl,hL,rfl,rfl,rfl⟩⟩:=Ze6 hst
   all_goals obtain ⟨h1,h2,h3,h4⟩:=hs
   all_goals have hx:cellsOf x=[x]:=by cases x <;> simp [Jb] at h4 <;> rfl
   ·exact Znl rfl (.inl ⟨rfl,trivial⟩) ha hv h1 h2 hL (fun _=>h4) (fun n hn=>by simp at hn) (by rw [hx]; simpa using h3) rfl (by rw [hx]; exact h)
   ·exact ZbT rfl (.inl ⟨rfl,trivial⟩) ha hv h1 h2 hL (fun _=>h4) (fun n hn=>by simp at hn) (by rw [hx]; simpa using h3) rfl (by rw [hx]; exact h)
  | storeN n a v =>
   simp only at hst
   split at hst <;> (try (simp at hst; done))
   rename_i p ea q xs ha hv
   obtain ⟨rfl,⟨l,off,cs,rfl,hL,rfl,rfl,rfl⟩ | ⟨b,off,cs,rfl,hL,rfl,rfl,rfl⟩⟩:=Ze6 hst
   all_goals obtain ⟨h1,h2,h3,h4⟩:=hs
   ·exact Znl rfl (.inr ⟨n,rfl⟩) ha hv h1 h2 hL (fun hn=>by simp at hn) (fun n' hn=>by simp only [K.storeN.injEq] at hn; exact ⟨⟨xs,rfl⟩,by rw [← hn.1]; exact h4⟩) (by simp only [cellsOf]; omega) rfl h
   ·exact ZbT rfl (.inr ⟨n,rfl⟩) ha hv h1 h2 hL (fun hn=>by simp at hn) (fun n' hn=>by simp only [K.storeN.injEq] at hn; exact ⟨⟨xs,rfl⟩,by rw [← hn.1]; exact h4⟩) (by simp only [cellsOf]; omega) rfl h
  | mkmap =>
   simp only at hst
   split at hst <;> simp at hst
  | mkslice e n by_ z l c =>
   simp only at hst
   split at hst <;> simp at hst
  | mapent kp z m k =>
   simp only at hst
   split at hst <;> (try (simp at hst; done))
   split at hst <;> (try (simp at hst; done))
   split at hst <;> simp at hst
  | mapupd kp m k v =>
   simp only at hst
   split at hst <;> (try (simp at hst; done))
   rename_i p b q dk r dv hm hk hv
   split at hst <;> (try (simp at hst; done))
   rename_i es hes
   split at hst <;> simp only [SR.ok.injEq,reduceCtorEq] at hst
   rename_i es' hes'
   obtain ⟨rfl,rfl,rfl,rfl⟩:=hst
   exact ZlZ rfl rfl rfl hm hk hv hs.1 hs.2.1 hs.2.2.1 hes hes' hs.2.2.2 h
  | delete kp m k =>
   simp only at hst
   split at hst <;> (try (simp at hst; done))
   rename_i p b q dk hm hk
   split at hst <;> (try (simp at hst; done))
   rename_i es hes
   split at hst <;> simp only [SR.ok.injEq,reduceCtorEq] at hst
   rename_i es' hes'
   obtain ⟨rfl,rfl,rfl,rfl⟩:=hst
   exact ZlX rfl rfl rfl hm hk hs.1 hs.2.1 hes hes' hs.2.2 h
  | entst m k v =>
   simp only at hst
   split at hst <;> (try (simp at hst; done))
   rename_i p b q n r dv hm hk hv
   split at hst <;> (try (simp at hst; done))
   rename_i kp es dk n' hes
   split at hst <;> simp only [SR.ok.injEq,reduceCtorEq] at hst
   rename_i es' hes'
   obtain ⟨rfl,rfl,rfl,rfl⟩:=hst
   obtain ⟨h1,h2,h3,rfl⟩:=hs
   exact Znj rfl rfl rfl hm hk hv h1 h2 h3 hes hes' h
  | _=>simp at hst
theorem Zri {F:Fr P} {kp:Option (List Nat)} {dk:List Zp} {o:DOp} {os:List DOp} {ρ:Env} {L:Loc} {s:St} {side:Prop} {pre:Nat→Prop} {ρ':Nat→Env} {s':Nat→St} (hst:ZU o ρ L s = .all side pre ρ' s') (hs:side)
  (h:∀ b,pre b→DO F kp dk os (ρ' b) L (s' b)):DO F kp dk (o :: os) ρ L s:=by
 obtain ⟨dst,gd,k⟩:=o
 unfold ZU at hst
 cases hg:Zu ρ gd with
 | none=>simp [hg] at hst
 | some c =>
  simp only [hg] at hst
  cases k with
  | mkmap =>
   simp only at hst
   split at hst <;> simp only [SR.all.injEq,reduceCtorEq] at hst
   obtain ⟨rfl,rfl,rfl,rfl⟩:=hst
   exact Zji rfl rfl rfl h
  | mkslice e n by_ z l c =>
   simp only at hst
   split at hst <;> simp only [SR.all.injEq,reduceCtorEq] at hst
   obtain ⟨rfl,rfl,rfl,rfl⟩:=hst
   obtain ⟨h1,h2,h3,h4,h5,h6⟩:=hs
   exact ZjZ rfl rfl rfl ‹_› ‹_› h1 h2 h3 h4 h5 h6 h
  | mapent kp z m k =>
   simp only at hst
   split at hst <;> (try (simp at hst; done))
   split at hst <;> (try (simp at hst; done))
   split at hst <;> simp only [SR.all.injEq,reduceCtorEq] at hst
   obtain ⟨rfl,rfl,rfl,rfl⟩:=hst
   exact ZlY rfl rfl rfl ‹_› ‹_› hs.1 hs.2.1 ‹_› ‹_› hs.2.2 (fun n=>h n trivial)
  | store1 a v =>
   simp only at hst
   split at hst <;> (try (simp at hst; done))
   exact absurd hst ZdQ
  | storeN n a v =>
   simp only at hst
   split at hst <;> (try (simp at hst; done))
   exact absurd hst ZdQ
  | _ =>
   simp only at hst
   first
    | (simp at hst; done)
    | repeat' (split at hst <;> (try (simp at hst; done)))
theorem Zc {F:Fr P} {kp:Option (List Nat)} {dk:List Zp}:∀ {os:List DOp} {ρ:Env} {L:Loc} {s:St},
  Zhi (fun ρ L s=>ZD F dk (kept kp ρ) (Zm4 kp ρ L) s) (fun os ρ L s=>DO F kp dk os ρ L s) os ρ L s→DO F kp dk os ρ L s
 | [],ρ,L,s,h=>Zg4 h
 | o :: os,ρ,L,s,h=>by
  simp only [Zhi] at h
  split at h
  ·rename_i sd ρ' L' s' hst
   exact JW hst h.1 (Zc h.2)
  ·rename_i sd pre ρ' s' hst
   exact Zri hst h.1 fun b hb=>Zc (h.2 b hb)
  ·exact h
end
end Go.DL
