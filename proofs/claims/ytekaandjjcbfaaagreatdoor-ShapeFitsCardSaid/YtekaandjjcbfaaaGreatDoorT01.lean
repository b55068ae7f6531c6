/- Lemmas: DlA, DlB, DlC, DlD, DlE, DlF, DlG, DlH, DlI, DlJ, DlK, DlL, DlM, DlMa, DlN, DlO, DlP, DlQ, DlR, DlS, DlT, DlTa, DlTb, DlTc, DlU, DlV. -/
import Derived.AtR
import Derived.Calls
import Derived.Laws.Cells
import Derived.Laws.StructEq
import Derived.ChangeKeysEq
import Derived.Laws.Tables
import Derived.Laws.Build
import Derived.Laws.BytesString
import Derived.MapKept
import Derived.Laws.CopyRow
import Derived.Great.BuildSlice
import Derived.Laws.MakeOwn
import Derived.Laws.AppendOwn
import Derived.Lib.ConvBytes
import Derived.Defers
import Derived.Orders
import Derived.Lib.AppendStr
import Derived.RangeFuncIn
import Derived.OpenShut
import Derived.WalkKit
import Derived.ProofKit
import Derived.ChangeCalls
import Derived.KernelRfl
import Derived.Shelf.Strings.OnBuilder
import Derived.Ground.NamesProg
import Derived.Lib.Bytealg
import Derived.Lay
import Derived.LaidOnce
import Derived.Lib.LaidTab
import Derived.Stop.LaidErr
import Derived.SevenTiedAt
import Derived.Test.YtekaandjjcbfaaaGreatDoorProg
set_option maxHeartbeats 16000000
set_option maxRecDepth 100000
set_option linter.all false
open Option renaming some → sO, none → nO
open Inhabited renaming default → dE
open Decidable renaming decide → dC
open Bool renaming and_eq_true → ZEY, false_eq_true → ZFn
open List renaming append_assoc → ZFt, getD → ZE8, getElem?_append_left → ZFp, getElem?_append_right → ZFz, getElem?_eq_getElem → ZFq, getElem?_eq_none → ZFA, getElem?_take → ZFu, getElem_of_mem → ZFa, length_append → ZE1, length_cons → ZE5, length_take → ZE9, map_cons → ZE7, map_nil → ZFo, range → ZE4
open Nat renaming add_mul → ZFk, le_refl → ZE6, mul_le_mul_right → ZFg
open Option renaming getD_some → ZFs, map_eq_some_iff → ZE3, map_some → ZFl
open Option.some renaming injEq → ZEP
open Prod.mk renaming injEq → ZE2
namespace Go.DL
open Go
variable {kp:Option (List Nat)}{w:World}{dst:Option Nat}{tmps:Array Value}{ν:Nat→Nat}{side:Prop}
inductive Tok where
 |none|full|tip (b:Nat)
inductive D where
 |int (k:IntKind) (n:Int)
 |bool (b:Bool)
 |str (s:List UInt8)
 |agg (cells:List D)
 |tup (vs:List D)
 |nilsl
 |sl (t:Tok) (n s:Nat) (row:Nat→List D)
 |ep (cells:List D) (off:Nat)
 |nilptr
 |ptr (b off:Nat)
 |msl (b off n cap s:Nat)
 |map (b:Nat)
 |nilmap
 |fn (f:Fn) (first caps:List D)
 |nilfn
 |iface (t:TypeId) (v:D)
 |niliface
 |stamp (n:Nat)
 |undef
 |any
instance:Inhabited D:=⟨.undef⟩
inductive SK where
 |int|str|bool
inductive KP where
 |sc (k:SK)
 |st (l:List (Nat×SK))
def Yo:SK→D→D→Option Bool
 |.int,.int k a,.int k' b=>if k=k' then sO (dC (a=b)) else nO
 |.str,.str a,.str b=>sO (dC (a=b))
 |.bool,.bool a,.bool b=>sO (dC (a=b))
 |_,_,_=>nO
def Ws(xs ys:List D):List (Nat×SK)→Option Bool
 | []=>sO true
 | (o,k)::r=>match xs[o]?,ys[o]? with
  |some x,sO y=>match Yo k x y,Ws xs ys r with
   |some b,sO c=>sO (b&&c)
   |_,_=>nO
  |_,_=>nO
def Kn:KP→D→D→Option Bool
 |.sc k,x,y=>Yo k x y
 |.st l,.agg xs,.agg ys=>if xs.length=l.length∧ys.length=l.length then Ws xs ys l else nO
 |_,_,_=>nO
def Q0(kp:KP)(k:D):List (D×D)→Option (Option Nat)
 | []=>sO nO
 |e::r=>match Kn kp k e.1 with
  |some true=>sO (sO 0)
  |some false=>(Q0 kp k r).map (·.map (· + 1))
  |none=>nO
def hdr(w:World)(b:Nat):Option (TypeId×Nat×Nat×Nat) :=
 match w.heap[b]? with
 |some (.cells c t fr)=>sO (t,c.size,fr.1,fr.2)
 |_=>nO
def _root_.Go.Value.one1:Value→Bool
 |.agg _|.tuple _=>false
 |_=>true
structure G where
 prot:Nat→Nat
 kept:Nat→Prop
def free(w:World)(b n:Nat):Prop:=∃t m,hdr w b=sO (t,m,0,0)∧n≤m
def ZjM(w:World):Tok→Nat→Nat→Nat→Nat→Nat→Prop
 |.none,_,_,_,_,_=>True
 |.full,_,_,n,cap,_=>cap=n
 |.tip t,b,o,_,cap,s=>b=t∧o=0∧free w b (cap*s)
def inR(k:IntKind)(n:Int):Prop:=k.min≤n∧n≤k.max
def big:Nat:=9223372036854775807
inductive Rep(g:G)(w:World):Value→D→Prop where
 |int (k:IntKind) (n:Int) (h:inR k n):Rep g w (.int k n) (.int k n)
 |bool (b:Bool):Rep g w (.bool b) (.bool b)
 |str (s:ByteArray) (l:List UInt8) (h:s.data.toList=l) (hb:l.length≤big):Rep g w (.string s) (.str l)
 |agg (vs:List Value) (cells:List D) (hn:vs.length=cells.length) (h:∀(i:Nat) (v:Value) (d:D),vs[i]?=some v→cells[i]?=some d→Rep g w v d)
   (one:∀v∈vs,v.one1=true):Rep g w (.agg vs.toArray) (.agg cells)
 |tup (vs:List Value) (ds:List D) (hn:vs.length=ds.length) (h:∀(i:Nat) (v:Value) (d:D),vs[i]?=some v→ds[i]?=some d→Rep g w v d) :
   Rep g w (.tuple vs.toArray) (.tup ds)
 |nilsl:Rep g w (.slice none 0 0) .nilsl
 |sl0 (a:Option Addr) (t:Tok) (s:Nat) (row:Nat→List D) (ht:∀b,t≠.tip b):Rep g w (.slice a 0 0) (.sl t 0 s row)
 |sl (b o n cap s:Nat) (row:Nat→List D) (t:Tok) (f:Nat→Nat→Value) (hl:∀i,i<n→(row i).length=s)
   (hc:∀i j,i<n→j<s→w.cell? ⟨b,o+i*s+j,none⟩=some (f i j)) (hp:∀i j,i<n→j<s→o+i*s+j<g.prot b)
   (hr:∀(i j:Nat) (d:D),i<n→(row i)[j]?=some d→Rep g w (f i j) d) (one:∀i j,i<n→j<s→(f i j).one1=true)
   (ht:ZjM w t b o n cap s) (hcap:n≤cap) (hb:cap≤big) :
   Rep g w (.slice (some ⟨b,o,none⟩) n cap) (.sl t n s row)
 |ep (b o off:Nat) (cells:List D) (f:Nat→Value) (hc:∀i,i<cells.length→w.cell? ⟨b,o+i,none⟩=some (f i)) (hp:∀i,i<cells.length→o+i<g.prot b)
   (hr:∀(i:Nat) (d:D),cells[i]?=some d→Rep g w (f i) d) (one:∀i,i<cells.length→(f i).one1=true):Rep g w (.pointer (some ⟨b,o+off,none⟩)) (.ep cells off)
 |nilptr:Rep g w (.pointer none) .nilptr
 |ptr (b off:Nat):Rep g w (.pointer (some ⟨b,off,none⟩)) (.ptr b off)
 |msl (b off n cap s:Nat) (h:n≤cap) (hb:cap≤big):Rep g w (.slice (some ⟨b,off,none⟩) n cap) (.msl b off n cap s)
 |mslx (a:Addr) (b off s:Nat):Rep g w (.slice (some a) 0 0) (.msl b off 0 0 s)
 |map (b:Nat):Rep g w (.map (some b)) (.map b)
 |nilmap:Rep g w (.map none) .nilmap
 |fn (f:Fn) (fs cs:List Value) (df dc:List D) (hnf:fs.length=df.length) (hnc:cs.length=dc.length)
   (hf:∀(i:Nat) (v:Value) (d:D),fs[i]?=some v→df[i]?=some d→Rep g w v d)
   (hc:∀(i:Nat) (v:Value) (d:D),cs[i]?=some v→dc[i]?=some d→Rep g w v d):Rep g w (.func f fs.toArray cs.toArray) (.fn f df dc)
 |nilfn:Rep g w .nilFunc .nilfn
 |iface (t:TypeId) (v:Value) (d:D) (h:Rep g w v d):Rep g w (.iface t v) (.iface t d)
 |niliface:Rep g w .nilIface .niliface
 |stamp (n:Nat):Rep g w (.int .i64 n) (.stamp n)
 |undef:Rep g w undef .undef
 |any (v:Value):Rep g w v .any
structure Ext(g:G)(w:World)(g':G)(w':World):Prop where
 size:w.heap.size≤w'.heap.size
 prot:∀b,g.prot b≤g'.prot b
 cell:∀b o,o<g.prot b→w'.cell? ⟨b,o,none⟩=w.cell? ⟨b,o,none⟩
 hdr:∀b x,hdr w b=some x→hdr w' b=some x
 kept:∀b,g.kept b→w'.heap[b]?=w.heap[b]?
 keptProt:∀b,g.kept b→g'.prot b=g.prot b
 keptEq:g'.kept=g.kept
 os:w'.os=w.os
 output:w'.output=w.output
 tape:w'.tape=w.tape
theorem Ext.refl(g:G)(w:World):Ext g w g w:=⟨ZE6 _,fun _=>ZE6 _,fun _ _ _=>rfl,fun _ _ h=>h,fun _ _=>rfl,fun _ _=>rfl,rfl,rfl,rfl,rfl⟩
theorem Ext.trans{g g' g'':G}{w w' w'':World}(h:Ext g w g' w')(h':Ext g' w' g'' w''):Ext g w g'' w'':={
 size:=Nat.le_trans h.size h'.size
 prot b:=Nat.le_trans (h.prot b) (h'.prot b)
 cell b o ho:=(h'.cell b o (Nat.lt_of_lt_of_le ho (h.prot b))).trans (h.cell b o ho)
 hdr b x hx:=h'.hdr b x (h.hdr b x hx)
 kept b hb:=(h'.kept b (by rw[h.keptEq];exact hb)).trans (h.kept b hb)
 keptProt b hb:=(h'.keptProt b (by rw[h.keptEq];exact hb)).trans (h.keptProt b hb)
 keptEq:=h'.keptEq.trans h.keptEq
 os:=h'.os.trans h.os
 output:=h'.output.trans h.output
 tape:=h'.tape.trans h.tape }
theorem free.mono0{w w':World}{b n:Nat}(h:free w b n)(e:∀b x,hdr w b=sO x→hdr w' b=sO x):free w' b n:=by
 obtain⟨t,m,h1,h2⟩:=h
 exact⟨t,m,e _ _ h1,h2⟩
theorem Rep.mono0{g g':G}{w w':World}{v:Value}{d:D}(h:Rep g w v d)(ep:∀b,g.prot b≤g'.prot b)(ec:∀b o,o<g.prot b→w'.cell? ⟨b,o,nO⟩=w.cell? ⟨b,o,nO⟩)(eh:∀b x,hdr w b=sO x→hdr w' b=sO x):Rep g' w' v d:=by
 induction h with
 |int k n h=>exact .int k n h
 |bool b=>exact .bool b
 |str s l h hb=>exact .str s l h hb
 |agg vs cells hn _ one ih=>exact .agg vs cells hn ih one
 |tup vs ds hn _ ih=>exact .tup vs ds hn ih
 |nilsl=>exact .nilsl
 |sl0 a t s row ht=>exact .sl0 a t s row ht
 |sl b o n cap s row t f hl hc hp _ one ht hcap hb ih =>
  refine .sl b o n cap s row t f hl (fun i j hi hj=>?_) (fun i j hi hj=>Nat.lt_of_lt_of_le (hp i j hi hj) (ep b)) ih one ?_ hcap hb
  ·rw[ec _ _ (hp i j hi hj)];exact hc i j hi hj
  cases t with
  |none=>trivial
  |full=>exact ht
  |tip t=>exact⟨ht.1,ht.2.1,ht.2.2.mono0 eh⟩
 |ep b o off cells f hc hp _ one ih =>
  exact .ep b o off cells f (fun i hi=>by rw[ec _ _ (hp i hi)];exact hc i hi) (fun i hi=>Nat.lt_of_lt_of_le (hp i hi) (ep b)) ih one
 |nilptr=>exact .nilptr
 |ptr b off=>exact .ptr b off
 |msl b off n cap s h hb=>exact .msl b off n cap s h hb
 |mslx a b off s=>exact .mslx a b off s
 |map b=>exact .map b
 |nilmap=>exact .nilmap
 |fn f fs cs df dc hnf hnc _ _ ihf ihc=>exact .fn f fs cs df dc hnf hnc ihf ihc
 |nilfn=>exact .nilfn
 |iface t v d _ ih=>exact .iface t v d ih
 |niliface=>exact .niliface
 |stamp n=>exact .stamp n
 |undef=>exact .undef
 |any v=>exact .any v
theorem Rep.mono{g g':G}{w w':World}{v:Value}{d:D}(h:Rep g w v d)(e:Ext g w g' w'):Rep g' w' v d:=h.mono0 e.prot e.cell e.hdr
inductive E where
 |d (v:D)
 |loc (l off:Nat)
 |when (c:Bool) (e:E)
abbrev Env:=List (Nat×E)
abbrev Loc:=List (Nat×List D)
def ZL:Env→Nat→Option E
 | [],_=>nO
 | (k,e)::r,t=>if k=t then sO e else ZL r t
def Zg:Loc→Nat→Option (List D)
 | [],_=>nO
 | (k,e)::r,t=>if k=t then sO e else Zg r t
def ZI(g:G)(ν:Nat→Nat)(w:World)(L:Loc):Value→E→Prop
 |v,.d x=>Rep g w v x
 |v,.loc l off=>(∃cs,Zg L l=sO cs)∧v=.pointer (sO ⟨ν l,off,nO⟩)
 |v,.when c e=>(c=true→ZI g ν w L v e)∧(c=false→v=undef)
theorem ZI.mono{g g':G}{w w':World}{L:Loc}{v:Value}{e:E}(h:ZI g ν w L v e)(x:Ext g w g' w'):ZI g' ν w' L v e:=by
 induction e with
 |d d=>exact Rep.mono h x
 |loc l off=>exact h
 |when c e ih=>exact⟨fun hc=>ih (h.1 hc),h.2⟩
structure Wq where
 fn:FuncId
 params:List Nat
 assign:Code
 body:Code
 defers:Nat
 ρ:Env
 N:Nat
inductive LSt where
 |ready|busy
 |done (j:Code)
inductive Ya where
 |cells (ds:List D)
 |map (es:List (D×D))
 |tip (k:Nat)
 |mapE (kp:KP) (es:List (D×D)) (k:D) (n:Nat)
 |loop (r:Wq) (st:LSt)
 |dfr
abbrev St:=Nat→Option Ya
def St.upd(s:St)(b:Nat)(o:Ya):St:=fun x=>if x=b then sO o else s x
def St.del(s:St)(b:Nat):St:=fun x=>if x=b then nO else s x
structure Y0(g:G)(w:World)(b:Nat)(ds:List D):Prop where
 prot:g.prot b=0
 ex:∃(vs:Array Value) (T:TypeId),w.heap[b]?=some (.cells vs T (0,0))∧vs.size=ds.length ∧
  (∀(i:Nat) (v:Value) (d:D),vs[i]?=some v→ds[i]?=some d→Rep g w v d)∧∀v∈vs,v.one1=true
def WO(g:G)(w:World)(b:Nat):Ya→Prop
  |.cells ds=>Y0 g w b ds
  |.map es=>g.prot b=0∧∃(en:Array MapEntry) (clock:Nat),w.heap[b]?=sO (.map en clock)∧en.size=es.length ∧
      (∀(i:Nat) (e:MapEntry) (d:D×D),en[i]?=sO e→es[i]?=sO d→Rep g w e.key d.1) ∧
      (∀(i:Nat) (e:MapEntry) (d:D×D),en[i]?=sO e→es[i]?=sO d→Rep g w e.val d.2) ∧
      (∀(i j:Nat) (e e':MapEntry),en[i]?=sO e→en[j]?=sO e'→e.born=e'.born→i=j)∧∀(i:Nat) (e:MapEntry),en[i]?=sO e→e.born<clock
  |.tip k=>g.prot b=k∧∃(vs:Array Value) (T:TypeId),w.heap[b]?=sO (.cells vs T (0,0))∧k≤vs.size
  |.mapE kp es k n=>g.prot b=0∧∃io,Q0 kp k es=sO io∧∃(en:Array MapEntry) (clock:Nat),w.heap[b]?=sO (.map en clock)∧en.size=(match io with
        |none=>es.length+1
        |some _=>es.length) ∧
      (∀(i:Nat) (e:MapEntry) (d:D×D),i≠io.getD es.length→en[i]?=sO e→es[i]?=sO d→Rep g w e.key d.1) ∧
      (∀(i:Nat) (e:MapEntry) (d:D×D),i≠io.getD es.length→en[i]?=sO e→es[i]?=sO d→Rep g w e.val d.2) ∧
      (∀e,en[io.getD es.length]?=sO e→Rep g w e.key k∧e.born=n) ∧
      (∀(i j:Nat) (e e':MapEntry),en[i]?=sO e→en[j]?=sO e'→e.born=e'.born→i=j)∧∀(i:Nat) (e:MapEntry),en[i]?=sO e→e.born<clock
  |.loop r st=>g.prot b=0∧∃l:Go.Loop,w.heap[b]?=sO (.loop l)∧l.fn=r.fn∧l.params.toList=r.params∧l.assign=r.assign∧l.body=r.body∧l.defers=r.defers∧r.N≤l.tmps.size ∧
      (∀t e,ZL r.ρ t=sO e→ZI g (fun _=>0) w [] (l.tmps.getD t undef) e) ∧
      (match st with
       |.ready=>l.state=.ready∧l.pending=nO
       |.busy=>l.state=.busy
       |.done j=>l.state=.done∧l.pending=sO j)
  |.dfr=>g.prot b=0∧w.heap[b]?=sO (.deferred (sO []))
class Zqw where
 tab:Nat→Option (List D)
variable [Zqw]
structure Ym(g:G)(s:St)(w:World):Prop where
 obj:∀b o,s b=some o→WO g w b o
 kept:∀b o,s b=some o→¬g.kept b
 fresh:∀b,w.heap.size≤b→g.prot b=0∧¬g.kept b
 tabs:∀n cs,Zqw.tab n=some cs→Rep g w (.pointer (some ⟨n,0,none⟩)) (.ep cs 0)
theorem Y0.lt{g:G}{b:Nat}{ds:List D}(h:Y0 g w b ds):b<w.heap.size:=by
 obtain⟨_,_,h,_⟩:=h.ex
 grind
theorem WO.lt{g:G}{b:Nat}{o:Ya}(h:WO g w b o):b<w.heap.size:=by
 cases o with
 |cells ds=>exact Y0.lt h
 |map es=>obtain⟨_,_,_,h,_⟩:=h;exact(Array.getElem?_eq_some_iff.1 h).1
 |tip k=>obtain⟨_,_,_,h,_⟩:=h;exact(Array.getElem?_eq_some_iff.1 h).1
 |mapE kp es k n=>obtain⟨_,_,_,_,_,h,_⟩:=h;exact(Array.getElem?_eq_some_iff.1 h).1
 |loop r st=>obtain⟨_,_,h,_⟩:=h;exact(Array.getElem?_eq_some_iff.1 h).1
 |dfr=>exact(Array.getElem?_eq_some_iff.1 h.2).1
theorem Y0.mono{g g':G}{w w':World}{b:Nat}{ds:List D}(h:Y0 g w b ds)(e:Ext g w g' w')(hb:w'.heap[b]?=w.heap[b]?)(hp:g'.prot b=g.prot b):
  Y0 g' w' b ds:=by
 obtain⟨c,vs,T,h1,h2,h4,h5⟩:=h
 exact⟨hp.trans c,vs,T,hb.trans h1,h2,fun i v d hv hd=>(h4 i v d hv hd).mono e,h5⟩
theorem WO.mono{g g':G}{w w':World}{b:Nat}{o:Ya}(h:WO g w b o)(e:Ext g w g' w')(hb:w'.heap[b]?=w.heap[b]?)(hp:g'.prot b=g.prot b):
  WO g' w' b o:=by
 cases o with
 |cells ds=>exact Y0.mono h e hb hp
 |map es =>
  obtain⟨c,en,j,h1,h2,h3,h4,h5,h6⟩:=h
  exact⟨hp.trans c,en,j,hb.trans h1,h2,fun i x d hv hd=>(h3 i x d hv hd).mono e,fun i x d hv hd=>(h4 i x d hv hd).mono e,h5,h6⟩
 |tip k =>
  obtain⟨c,vs,T,h1,h2⟩:=h
  exact⟨hp.trans c,vs,T,hb.trans h1,h2⟩
 |mapE kp es k n =>
  obtain⟨c,io,h0,en,j,h1,h2,h3,h4,h5,h6,h7⟩:=h
  exact⟨hp.trans c,io,h0,en,j,hb.trans h1,h2,fun i x d hi hv hd=>(h3 i x d hi hv hd).mono e,fun i x d hi hv hd=>(h4 i x d hi hv hd).mono e,fun x hx=>⟨(h5 x hx).1.mono e,(h5 x hx).2⟩,h6,h7⟩
 |loop r st =>
  obtain⟨c,l,h1,h2,h3,h4,h5,h6,h7,h8,h9⟩:=h
  exact⟨hp.trans c,l,hb.trans h1,h2,h3,h4,h5,h6,h7,fun t x he=>(h8 t x he).mono e,h9⟩
 |dfr=>exact⟨hp.trans h.1,hb.trans h.2⟩
structure Zr(g:G)(ν:Nat→Nat)(w:World)(tmps:Array Value)(ρ:Env)(L:Loc)(s:St):Prop where
 st:Ym g s w
 loc:∀l cs,Zg L l=some cs→Y0 g w (ν l) cs
 locKept:∀l cs,Zg L l=some cs→¬g.kept (ν l)
 locSt:∀l cs,Zg L l=some cs→s (ν l)=none
 inj:∀l l' cs cs',Zg L l=some cs→Zg L l'=some cs'→ν l=ν l'→l=l'
 env:∀t e,ZL ρ t=some e→ZI g ν w L (tmps.getD t undef) e
theorem ZI.locs{g:G}{ν ν':Nat→Nat}{L L':Loc}{v:Value}{e:E}(h:ZI g ν w L v e)(hL:∀l cs,Zg L l=sO cs→(∃cs',Zg L' l=sO cs')∧ν' l=ν l):ZI g ν' w L' v e:=by
 induction e with
 |d d=>exact h
 |loc l off=>obtain⟨⟨cs,hc⟩,hv⟩:=h;obtain⟨h1,h2⟩:=hL l cs hc;exact⟨h1,by grind⟩
 |when c e ih=>exact⟨fun hc=>ih (h.1 hc),h.2⟩
theorem Zxv(a:Array Value)(t u:Nat)(v:Value)(h:t<a.size):(a.setIfInBounds t v).getD u undef=if t=u then v else a.getD u undef:=by
 simp
 grind
theorem Zr.put{g:G}{ρ:Env}{L:Loc}{s:St}(m:Zr g ν w tmps ρ L s){t:Nat}{v:Value}{e:E}(ht:t<tmps.size)(h:ZI g ν w L v e):Zr g ν w (tmps.setIfInBounds t v) ((t,e)::ρ) L s :=
 { m with
  env:=fun u x hx=>by
   rw[Zxv _ _ _ _ ht]
   simp[ZL]at hx
   by_cases c:t=u
   ·grind
   simp only[c]at hx⊢;exact m.env u x hx }
structure JR(g:G)(w:World)(g':G)(w':World):Prop where
 size:w.heap.size≤w'.heap.size
 old:∀b,b<w.heap.size→w'.heap[b]?=w.heap[b]?
 prot:∀b,b<w.heap.size→g'.prot b=g.prot b
 fresh:∀b,w'.heap.size≤b→g'.prot b=0
 kept:g'.kept=g.kept
 os:w'.os=w.os
 output:w'.output=w.output
 tape:w'.tape=w.tape
theorem JC{w w':World}{b o:Nat}(h:w'.heap[b]?=w.heap[b]?):w'.cell? ⟨b,o,nO⟩=w.cell? ⟨b,o,nO⟩:=by
 unfold World.cell?;simp[h]
theorem Zbj{w w':World}{b:Nat}(h:w'.heap[b]?=w.heap[b]?):hdr w' b=hdr w b:=by grind [hdr]
theorem ZzU{b:Nat}{x:TypeId×Nat×Nat×Nat}(h:hdr w b=sO x):b<w.heap.size:=by grind [hdr]
theorem JR.ext{g g':G}{w w':World}(h:JR g w g' w')(hf:∀b,w.heap.size≤b→g.prot b=0∧¬g.kept b):Ext g w g' w':={
 size:=h.size
 prot b:=by
  rcases Nat.lt_or_ge b w.heap.size with hb|hb
  ·rw[h.prot b hb];exact ZE6 _
  rw[(hf b hb).1];exact Nat.zero_le _
 cell b o ho:=by
  rcases Nat.lt_or_ge b w.heap.size with hb|hb
  ·exact JC (h.old b hb)
  simp_all
 hdr b x hx:=by rw[Zbj (h.old b (ZzU hx))];exact hx
 kept b hb:=by
  rcases Nat.lt_or_ge b w.heap.size with c |c
  ·exact h.old b c
  exact absurd hb (hf b c).2
 keptProt b hb:=by
  rcases Nat.lt_or_ge b w.heap.size with c |c
  ·exact h.prot b c
  exact absurd hb (hf b c).2
 keptEq:=h.kept
 os:=h.os
 output:=h.output
 tape:=h.tape }
theorem Ym.grow{g g':G}{w w':World}{s:St}(m:Ym g s w)(h:JR g w g' w'):Ym g' s w':={
 obj b o ho:=(m.obj b o ho).mono (h.ext m.fresh) (h.old b (m.obj b o ho).lt) (h.prot b (m.obj b o ho).lt)
 kept b o ho:=by rw[h.kept];exact m.kept b o ho
 fresh b hb:=⟨h.fresh b hb,by rw[h.kept];exact(m.fresh b (Nat.le_trans h.size hb)).2⟩
 tabs n cs hc:=(m.tabs n cs hc).mono (h.ext m.fresh) }
theorem Zr.grow{g g':G}{w w':World}{ρ:Env}{L:Loc}{s:St}(m:Zr g ν w tmps ρ L s)(h:JR g w g' w'):
  Zr g' ν w' tmps ρ L s:={
 st:=m.st.grow h
 loc l cs hl:=(m.loc l cs hl).mono (h.ext m.st.fresh) (h.old _ (m.loc l cs hl).lt) (h.prot _ (m.loc l cs hl).lt)
 locKept l cs hl:=by rw[h.kept];exact m.locKept l cs hl
 locSt:=m.locSt
 inj:=m.inj
 env t e he:=(m.env t e he).mono (h.ext m.st.fresh) }
end Go.DL
namespace Go.DL
open Go
variable [Zqw]
variable {kp:Option (List Nat)}{L:Loc}{ρ:Env}{s:St}{w:World}{ds:List D}{dst:Option Nat}{tmps:Array Value}{g:G}{ν:Nat→Nat}{side:Prop}{row:Nat→List D}
inductive Opd where
 |tmp (t:Nat)
 |cst (d:D)
def Zl8:Value→Option D
 |.int k n=>if k.min≤n∧n≤k.max then sO (.int k n) else nO
 |.bool b=>sO (.bool b)
 |.string s=>if s.data.toList.length≤big then sO (.str s.data.toList) else nO
 |.pointer nO=>sO .nilptr
 |.slice nO 0 0=>sO .nilsl
 |.map nO=>sO .nilmap
 |.nilFunc=>sO .nilfn
 |.nilIface=>sO .niliface
 |_=>nO
def Zbi:List Value→Option (List D)
 | []=>sO []
 |v::vs=>match Zl8 v,Zbi vs with
  |some d,sO ds=>sO (d::ds)
  |_,_=>nO
def Zl9:Value→Option D
 |.agg cs=>(Zbi cs.toList).map .agg
 |v=>Zl8 v
def Z3:Operand→Option Opd
 |.tmp t=>sO (.tmp t)
 |.const v=>(Zl9 v).map .cst
 |.func f=>sO (.cst (.fn (.func f) [] []))
 |.global n=>sO (.cst (match Zqw.tab n with
  |some cs=>.ep cs 0
  |none=>.any))
def Zca:List Operand→Option (List Opd)
 | []=>sO []
 |x::xs=>match Z3 x,Zca xs with
  |some y,sO ys=>sO (y::ys)
  |_,_=>nO
inductive Zaf where
 |bool|sl|map|fn|ifc|ptr
 |cells (l:List (Nat×SK))
inductive Cv where
 |int (k:IntKind)|str|i2s|b2s
inductive Q where
 |mv|nilck|load1|loadN (n:Nat)
 |bin (op:BinOp) (p:Option Zaf)
 |not|neg|xorm
 |conv (c:Cv)
 |faddr (off:Nat)
 |fld1 (off:Nat)|fldN (off n:Nat)
 |iaddr (s:Nat)|iaddrA (m s:Nat)
 |idxA (m s:Nat) (one:Bool)
 |sliceA (m s:Nat) (lo hi mx:Bool)
 |idxS
 |lenS|lenL|lenA (n:Nat)
 |ext (k:Nat)
 |build (zero:List D) (parts:List (Nat×Nat))
 |mkfn (f:Fn) (first:Nat)
 |mkif (t:TypeId)
 |sliceS (lo hi:Bool)
 |slice (s:Nat) (lo hi mx:Bool)
 |min|max
 |tassert (t:TypeId) (ok:Bool) (zero:D)
 |lookup (kp:KP) (zero:D) (ok:Bool)
 |lenM
def cellsOf:D→List D
 |.agg cs=>cs
 |d=>[d]
def W4:D→Bool
 |.tup _|.undef|.any=>false
 |_=>true
def Jl:D→Bool
 |.tup _|.undef|.agg _|.any=>false
 |_=>true
def Qo(kp:KP)(k:D):Bool:=(Kn kp k k).isSome
def Zbv(kp:KP)(k:D):List (D×D)→Option (Option D)
 | []=>sO nO
 |e::r=>match Kn kp k e.1 with
  |some true=>sO (sO e.2)
  |some false=>Zbv kp k r
  |none=>nO
def J5(kp:KP)(k v:D):List (D×D)→Option (List (D×D))
 | []=>sO [(k,v)]
 |e::r=>match Kn kp k e.1 with
  |some true=>sO ((k,v)::r)
  |some false=>(J5 kp k v r).map (e::·)
  |none=>nO
def ZfI(kp:KP)(k:D):List (D×D)→Option (List (D×D))
 | []=>sO []
 |e::r=>match Kn kp k e.1 with
  |some true=>sO r
  |some false=>(ZfI kp k r).map (e::·)
  |none=>nO
def Wl(z:D)(ok:Bool):Option D→D
 |some v=>if ok then .tup [v,.bool true] else v
 |none=>if ok then .tup [z,.bool false] else z
def YN:Zaf→D→D→Option (Prop×Bool)
 |.bool,.bool a,.bool b=>sO (True,dC (a=b))
 |.sl,.nilsl,.nilsl=>sO (True,true)
 |.sl,.sl _ n _ _,.nilsl=>sO (0<n,false)
 |.map,.nilmap,.nilmap=>sO (True,true)
 |.map,.map _,.nilmap=>sO (True,false)
 |.sl,.msl _ _ _ _ _,.nilsl=>sO (True,false)
 |.fn,.nilfn,.nilfn=>sO (True,true)
 |.fn,.fn _ _ _,.nilfn=>sO (True,false)
 |.ifc,.niliface,.niliface=>sO (True,true)
 |.ifc,.iface _ _,.niliface=>sO (True,false)
 |.ptr,.nilptr,.nilptr=>sO (True,true)
 |.ptr,.ptr _ _,.nilptr=>sO (True,false)
 |.ptr,.ep _ _,.nilptr=>sO (True,false)
 |.cells l,.agg xs,.agg ys=>(Ws xs ys l).map (True,·)
 |_,_,_=>nO
def Zlf(op:BinOp)(k:IntKind)(x y:Int):Int :=
 let a:=BitVec.ofInt k.bits x
 let b:=BitVec.ofInt k.bits y
 let r:BitVec k.bits:=match op with
  |.and=>a &&& b
  |.or=>a |||b
  |.xor=>a ^^^ b
  |_=>a &&& ~~~b
 k.wrap r.toNat
def Zji(k:IntKind)(x y:Int):Int:=x*2 ^ (Nat.min y.toNat k.bits)
def Zjj(k:IntKind)(x y:Int):Int:=x.fdiv (2 ^ (Nat.min y.toNat k.bits))
def QX(op:BinOp)(k:IntKind)(a b:Int):Option (Prop×D) :=
 match op with
 |.add=>sO (inR k (a+b),.int k (a+b))
 |.sub=>sO (inR k (a-b),.int k (a-b))
 |.mul=>sO (inR k (a*b),.int k (a*b))
 |.quo=>sO (b≠0∧inR k (a.tdiv b),.int k (a.tdiv b))
 |.rem=>sO (b≠0∧inR k (a.tmod b),.int k (a.tmod b))
 |.and|.or|.xor|.andNot=>sO (True,.int k (Zlf op k a b))
 |.eql=>sO (True,.bool (dC (a=b)))
 |.neq=>sO (True,.bool (!dC (a=b)))
 |.lss=>sO (True,.bool (dC (a<b)))
 |.leq=>sO (True,.bool (dC (a≤b)))
 |.gtr=>sO (True,.bool (dC (b<a)))
 |.geq=>sO (True,.bool (dC (b≤a)))
 |.shl|.shr=>nO
def ZdF(op:BinOp)(a b:List UInt8):Option (Prop×D) :=
 match op with
 |.add=>sO (a.length+b.length≤big,.str (a++b))
 |.eql=>sO (True,.bool (dC (a=b)))
 |.neq=>sO (True,.bool (!dC (a=b)))
 |.lss=>sO (True,.bool (Op.bytesLess a b))
 |.leq=>sO (True,.bool (Op.bytesLess a b ||decide (a=b)))
 |.gtr=>sO (True,.bool !(Op.bytesLess a b ||decide (a=b)))
 |.geq=>sO (True,.bool (!Op.bytesLess a b))
 |_=>nO
def eqO(op:BinOp)(p:Option Zaf)(x y:D):Option (Prop×D) :=
 match op,p with
 |.eql,sO p=>(YN p x y).map fun r=>(r.1,.bool r.2)
 |.neq,sO p=>(YN p x y).map fun r=>(r.1,.bool (!r.2))
 |_,_=>nO
def Zah(op:BinOp)(p:Option Zaf):D→D→Option (Prop×D)
 |.int k a,.int k' b =>
  match op with
  |.shl=>sO (0≤b∧inR k (Zji k a b),.int k (Zji k a b))
  |.shr=>sO (0≤b∧inR k (Zjj k a b),.int k (Zjj k a b))
  |_=>if k=k' then QX op k a b else nO
 |.str a,.str b=>ZdF op a b
 |x,y=>eqO op p x y
def part(cs:List D)(o n:Nat):List D:=(cs.drop o).take n
def Yj(s:St)(b:Nat):Option (List D) :=
 match s b with
 |some (.cells cs)=>sO cs
 |_=>nO
def KM(s:St)(b:Nat):Option (List (D×D)) :=
 match s b with
 |some (.map es)=>sO es
 |_=>nO
def Wr(L:Loc)(s:St):E→Option D
 |.d (.ep cs o)=>cs[o]?
 |.d (.ptr b o)=>match Yj s b with
  |some cs=>cs[o]?
  |none=>nO
 |.loc l o=>match Zg L l with
  |some cs=>cs[o]?
  |none=>nO
 |_=>nO
def Ki(L:Loc)(s:St)(n:Nat):E→Option (Prop×List D)
 |.d (.ep cs o)=>sO (o+n≤cs.length,part cs o n)
 |.d (.ptr b o)=>match Yj s b with
  |some cs=>sO (o+n≤cs.length,part cs o n)
  |none=>nO
 |.loc l o=>match Zg L l with
  |some cs=>sO (o+n≤cs.length,part cs o n)
  |none=>nO
 |_=>nO
def ZE(cs:List D)(o:Nat)(vs:List D):List D:=cs.take o++vs++cs.drop (o+vs.length)
def Zbu(cells:List D):List (Nat×Nat)→List D→Option (List D)
 | [],[]=>sO cells
 | (o,n)::ps,d::ds=>if W4 d=true∧(cellsOf d).length=n∧o+n≤cells.length then Zbu (ZE cells o (cellsOf d)) ps ds else nO
 |_,_=>nO
def Zcy:List D→UInt8
 | [.int _ n]=>UInt8.ofNat n.toNat
 |_=>0
def ZnY(r:List D):Prop:=∃n:Int,r=[.int .u8 n]
def W2:List E→Option (List D)
 | []=>sO []
 |.d x::r=>(W2 r).map (x::·)
 |_::_=>nO
def ZbB(t:Tok)(n:Nat)(l h:Int):Option Int→Tok
 |some m=>if m=h then .full else .none
 |none=>if h=n then (match t with
  |.full=>.full
  |.tip b=>if l=0 then .tip b else .none
  |.none=>.none) else .none
def ZaU(s:Nat)(lo hi mx:Option Int):D→Option (Prop×D)
 |.sl t n s' row =>
  if s'=s then
   let h:=hi.getD n
   let l:=lo.getD 0
   sO (0≤l∧l≤h∧h≤n∧(∀m∈mx,h≤m∧m≤n),
    .sl (ZbB t n l h mx)
     (h-l).toNat s (fun i=>row (l.toNat+i)))
  else nO
 |.nilsl=>sO (lo.getD 0=0∧hi.getD 0=0∧mx.getD 0=0,.nilsl)
 |.msl b o n cap s' =>
  if s'=s then
   let h:=hi.getD n
   let l:=lo.getD 0
   let m:=mx.getD cap
   sO (0≤l∧l≤h∧h≤m∧m≤cap,.msl b (if m=l then o else o+l.toNat*s) (h-l).toNat (m-l).toNat s)
  else nO
 |_=>nO
def WE:List Bool→List E→Option (List (Option Int))
 | [],[]=>sO []
 |true::bs,.d (.int _ n)::r=>(WE bs r).map (sO n::·)
 |false::bs,r=>(WE bs r).map (nO::·)
 |_,_=>nO
def qv(L:Loc)(s:St):Q→List E→Option (Prop×E)
 |.mv,[e]=>sO (True,e)
 |.nilck,[.loc l o]=>sO (True,.loc l o)
 |.nilck,[.d (.ep cs o)]=>sO (True,.d (.ep cs o))
 |.nilck,[.d (.ptr b o)]=>sO (True,.d (.ptr b o))
 |.nilck,[.d (.fn f x y)]=>match f with
  |.func g=>sO (True,.d (.fn (.func g) x y))
  |.yield l=>sO (True,.d (.fn (.yield l) x y))
  |_=>nO
 |.load1,[a]=>(Wr L s a).map fun d=>(True,.d d)
 |.loadN n,[a]=>(Ki L s n a).map fun r=>(r.1,.d (.agg r.2))
 |.bin op p,[.d x,.d y]=>(Zah op p x y).map fun r=>(r.1,.d r.2)
 |.not,[.d (.bool b)]=>sO (True,.d (.bool !b))
 |.neg,[.d (.int k n)]=>sO (inR k (-n),.d (.int k (-n)))
 |.xorm,[.d (.int k n)]=>sO (True,.d (.int k (Zlf .xor k (if k.signed then -1 else k.max) n)))
 |.conv (.int k),[.d (.int k' n)]=>if k=k' then sO (True,.d (.int k n)) else sO (True,.d (.int k (k.wrap n)))
 |.conv .str,[.d (.str s)]=>sO (True,.d (.str s))
 |.conv .i2s,[.d (.int _ n)]=>sO ((Utf8.encode n).data.toList.length≤big,.d (.str (Utf8.encode n).data.toList))
 |.conv .b2s,[.d .nilsl]=>sO (True,.d (.str []))
 |.conv .b2s,[.d (.sl _ n s row)]=>if s=1 then sO (∀i,i<n→ZnY (row i),.d (.str ((ZE4 n).map fun i=>Zcy (row i)))) else nO
 |.conv .b2s,[.d (.msl b o n _ z)]=>match Yj s b with
  |some cs=>if z=1 then sO (o+n≤cs.length∧∀i,i<n→ZnY (part cs (o+i) 1),.d (.str ((ZE4 n).map fun i=>Zcy (part cs (o+i) 1)))) else nO
  |none=>nO
 |.faddr off,[.d (.ep cs o)]=>sO (True,.d (.ep cs (o+off)))
 |.faddr off,[.d (.ptr b o)]=>sO (True,.d (.ptr b (o+off)))
 |.faddr off,[.loc l o]=>sO (True,.loc l (o+off))
 |.fld1 off,[.d (.agg cs)]=>(cs[off]?).map fun d=>(True,.d d)
 |.fldN off n,[.d (.agg cs)]=>sO (off+n≤cs.length,.d (.agg (part cs off n)))
 |.iaddr z,[.d (.sl _ n z' row),.d (.int _ i)]=>if z'=z then sO (0≤i∧i<n,.d (.ep (row i.toNat) 0)) else nO
 |.iaddr z,[.d (.msl b o n _ z'),.d (.int _ i)]=>if z'=z then sO (0≤i∧i<n,.d (.ptr b (o+i.toNat*z))) else nO
 |.iaddrA m z,[.d (.ptr b o),.d (.int _ i)]=>sO (0≤i∧i<m,.d (.ptr b (o+i.toNat*z)))
 |.iaddrA m s,[.loc l o,.d (.int _ i)]=>sO (0≤i∧i<m,.loc l (o+i.toNat*s))
 |.iaddrA m s,[.d (.ep cs o),.d (.int _ i)]=>sO (0≤i∧i<m,.d (.ep cs (o+i.toNat*s)))
 |.idxA m z true,[.d (.agg cs),.d (.int _ i)]=>(cs[i.toNat*z]?).map fun d=>(0≤i∧i<m,.d d)
 |.idxA m z false,[.d (.agg cs),.d (.int _ i)]=>sO (0≤i∧i<m∧i.toNat*z+z≤cs.length,.d (.agg (part cs (i.toNat*z) z)))
 |.sliceA m z lo hi mx,.d (.ptr b o)::r=>match WE [lo,hi,mx] r with
  |some [l,h,x]=>sO (0≤l.getD 0∧l.getD 0≤h.getD m∧h.getD m≤x.getD m∧x.getD m≤m∧m≤big,
    .d (.msl b (if x.getD m=l.getD 0 then o else o+(l.getD 0).toNat*z) (h.getD m-l.getD 0).toNat (x.getD m-l.getD 0).toNat z))
  |_=>nO
 |.idxS,[.d (.str s),.d (.int _ i)]=>sO (0≤i∧i<s.length,.d (.int .u8 ((s.getD i.toNat 0).toNat:Int)))
 |.lenS,[.d (.str s)]=>sO (True,.d (.int .i64 s.length))
 |.lenL,[.d (.sl _ n _ _)]=>sO (True,.d (.int .i64 n))
 |.lenL,[.d (.msl _ _ n _ _)]=>sO (True,.d (.int .i64 n))
 |.lenL,[.d .nilsl]=>sO (True,.d (.int .i64 0))
 |.lenA n,[_]=>sO (inR .i64 n,.d (.int .i64 n))
 |.ext k,[.d (.tup vs)]=>(vs[k]?).map fun d=>(True,.d d)
 |.build zero parts,es=>match W2 es with
  |some ds=>(Zbu zero parts ds).map fun cs=>(True,.d (.agg cs))
  |none=>nO
 |.mkfn f k,es=>(W2 es).map fun ds=>(True,.d (.fn f (ds.take k) (ds.drop k)))
 |.mkif t,[.d x]=>sO (True,.d (.iface t x))
 |.sliceS lo hi,.d (.str s)::r=>match WE [lo,hi,false] r with
  |some [l,h,_]=>sO (0≤l.getD 0∧l.getD 0≤h.getD s.length∧h.getD s.length≤s.length,
    .d (.str ((s.drop (l.getD 0).toNat).take ((h.getD s.length).toNat-(l.getD 0).toNat))))
  |_=>nO
 |.slice s lo hi mx,.d x::r=>match WE [lo,hi,mx] r with
  |some [l,h,m]=>(ZaU s l h m x).map fun r=>(r.1,.d r.2)
  |_=>nO
 |.min,[.d (.int k a),.d (.int k' b)]=>if k=k' then sO (True,.d (.int k (Min.min a b))) else nO
 |.max,[.d (.int k a),.d (.int k' b)]=>if k=k' then sO (True,.d (.int k (Max.max a b))) else nO
 |.tassert t true _,[.d (.iface t' v)]=>if t'=t then sO (True,.d (.tup [v,.bool true])) else nO
 |.lookup kp z ok,[.d (.map b),.d k]=>match KM s b with
  |some es=>(Zbv kp k es).map fun r=>(Qo kp k=true,.d (Wl z ok r))
  |none=>nO
 |.lookup kp z ok,[.d .nilmap,.d k]=>sO (Qo kp k=true,.d (Wl z ok nO))
 |.lenM,[.d (.map b)]=>match KM s b with
  |some es=>sO (es.length≤big,.d (.int .i64 es.length))
  |none=>nO
 |.lenM,[.d .nilmap]=>sO (True,.d (.int .i64 0))
 |.tassert _ true zero,[.d .niliface]=>sO (True,.d (.tup [zero,.bool false]))
 |.tassert t false _,[.d (.iface t' v)]=>if t'=t then sO (True,.d v) else nO
 |_,_=>nO
inductive K where
 |q (q:Q) (args:List Opd)
 |pick (c a b:Opd)
 |alloc (zero:List D)
 |box (x:Opd)
 |bsl (len s:Nat) (zero:List D) (idx:List Nat) (parts:List Opd)
 |s2b (x:Opd)
 |store1 (a v:Opd)
 |storeN (n:Nat) (a v:Opd)
 |call (f:Opd) (args:List Opd)
 |append (elem:TypeId) (s bytes:Nat) (zero:List D) (x y:Opd)
 |mkmap
 |mapupd (kp:KP) (m k v:Opd)
 |mapent (kp:KP) (zero:D) (m k:Opd)
 |entst (m st v:Opd)
 |mkslice (elem:TypeId) (s bytes:Nat) (zero:List D) (l c:Opd)
 |panic (x:Opd)
 |delete (kp:KP) (m k:Opd)
 |clear (s:Nat) (zero:List D) (x:Opd)
 |copy (s:Nat) (x y:Opd)
 |fork (k:K)
 |defer (f:Opd) (args:List Opd)
 |recover
def K.isDefer:K→Bool
 |.defer _ _=>true
 |_=>false
structure DOp where
 dst:Option Nat
 guard:Option (Nat×Bool)
 k:K
inductive DC where
 |skip
 |reg (ops:List DOp) (keep:Option (List Nat))
 |regD (order:List Nat) (ops:List (DOp×List Nat)) (keep:Option (List Nat))
 |seq (a b:DC)
 |cond (c:Opd) (a b:DC)
 |block (id:Nat) (a:DC)
 |loop (a:DC)
 |rangeF (f:Opd) (params:List Nat) (assign body:DC)
 |exit (id:Nat)
 |ret
 |scope (a:DC)
 |label (id:Nat)
 |goto (id:Nat)
def K7(P:Program)(t:TypeId):Option SK :=
 match P.underlying t with
 |some .bool=>sO .bool
 |some (.int _)=>sO .int
 |some .string=>sO .str
 |_=>nO
def Ku(P:Program):List Field→Option (List (Nat×SK))
 | []=>sO []
 |f::r=>if f.name = "_" then Ku P r else
  match K7 P f.type,Ku P r with
  |some k,sO l=>sO ((f.offset,k)::l)
  |_,_=>nO
def JS(P:Program)(t:TypeId):Option Bool :=
 match P.underlying t with
 |some (.struct _)|some (.array _ _)=>sO true
 |some _=>sO false
 |none=>nO
def ZW(P:Program)(t:TypeId):Option Nat:=(P.info? t).map (·.size)
def Zef:Operand→Bool
 |.const _=>true
 |_=>false
def Zds(P:Program)(t:TypeId)(x y:Operand):Option Zaf :=
 match P.underlying t with
 |some .bool=>sO .bool
 |some (.slice _)=>sO .sl
 |some (.map _ _)=>sO .map
 |some (.func _ _ _)=>sO .fn
 |some (.interface _)=>if Zef x ||Zef y then sO .ifc else nO
 |some (.pointer _)=>sO .ptr
 |some (.struct fs)=>if P.eqGuardType P.depth t ||P.stoodInHeld t then nO else (Ku P fs.toList).map .cells
 |some (.array n e) =>
  if P.eqGuardType P.depth t then nO
  else match K7 P e,ZW P e with
   |some k,sO 1=>sO (.cells ((ZE4 n).map (·,k)))
   |_,_=>nO
 |_=>nO
def Zgk(P:Program)(s:TypeId)(k:Nat):Option Field :=
 match P.underlying s with
 |some (.struct fs)=>fs[k]?
 |_=>nO
def Zaz(P:Program)(t:TypeId):Option (List D) :=
 match P.info? t with
 |some i=>match i.zero with
  |some z=>Zbi z.cells.toList
  |none=>nO
 |none=>nO
def Zdd(P:Program)(t:TypeId):Option D :=
 match P.info? t with
 |some i=>match i.zero with
  |some z=>Zl9 z
  |none=>nO
 |none=>nO
def K5(P:Program)(t:TypeId):List Nat→Option (List (Nat×Nat))
 | []=>sO []
 |k::r =>
  match P.underlying t,K5 P t r with
  |some (.struct fs),sO l=>match fs[k]? with
   |some f=>(ZW P f.type).map fun n=>(f.offset,n)::l
   |none=>nO
  |some (.array _ e),sO l=>(ZW P e).map fun n=>(k*n,n)::l
  |_,_=>nO
def Zjm(P:Program)(t:TypeId):Bool :=
 match P.underlying t with
 |some (.struct fs)=>fs.toList.all fun f=>(ZW P f.type).isSome
 |some (.array _ e)=>(ZW P e).isSome
 |_=>false
def Zue(P:Program)(s d:TypeId):Option Cv :=
 match P.underlying s,P.underlying d with
 |some (.int _),sO (.int k)=>sO (.int k)
 |some (.int _),sO .string=>sO .i2s
 |some .string,sO .string=>sO .str
 |some (.slice e),sO .string=>match P.underlying e with
  |some (.int .u8)=>sO .b2s
  |_=>nO
 |_,_=>nO
def J0(P:Program)(t:TypeId):Option KP :=
 match K7 P t with
 |some k=>sO (.sc k)
 |none=>match P.underlying t,ZW P t with
  |some (.struct fs),sO n=>match Ku P fs.toList with
   |some l=>if l.map (·.1)=ZE4 n∧P.stoodInHeld t=false then sO (.st l) else nO
   |none=>nO
  |_,_=>nO
def QL(x:Option Operand):List Operand:=x.toList
def cq(P:Program):Op→Option (Q×List Operand)
 |.move x|.assign x=>sO (.mv,[x])
 |.load t a=>match JS P t,ZW P t with
  |some true,sO n=>sO (.loadN n,[a])
  |some false,sO _=>sO (.load1,[a])
  |_,_=>nO
 |.nilCheck x=>sO (.nilck,[x])
 |.binOp op t x y _=>sO (.bin op (Zds P t x y),[x,y])
 |.unOp .not _ x=>sO (.not,[x])
 |.unOp .neg _ x=>sO (.neg,[x])
 |.unOp .xor _ x=>sO (.xorm,[x])
 |.convert s d x=>(Zue P s d).map fun c=>(.conv c,[x])
 |.fieldAddr s x k=>match Zgk P s k with
  |some f=>match ZW P f.type with
   |some n=>if n=0 then nO else sO (.faddr f.offset,[x])
   |none=>nO
  |none=>nO
 |.field s x k=>match Zgk P s k with
  |some f=>match JS P f.type,ZW P f.type with
   |some true,sO n=>sO (.fldN f.offset n,[x])
   |some false,sO _=>sO (.fld1 f.offset,[x])
   |_,_=>nO
  |none=>nO
 |.indexAddr t x i=>match P.underlying t with
  |some (.slice e)=>(ZW P e).map fun n=>(.iaddr n,[x,i])
  |some (.array m e)=>(ZW P e).map fun n=>(.iaddrA m n,[x,i])
  |_=>nO
 |.index t x i=>match P.underlying t with
  |some .string=>sO (.idxS,[x,i])
  |some (.array m e)=>match JS P e,ZW P e with
   |some b,sO n=>sO (.idxA m n !b,[x,i])
   |_,_=>nO
  |_=>nO
 |.extract x k=>sO (.ext k,[x])
 |.build t parts=>match (P.info? t).bind (·.zero),K5 P t (parts.toList.map (·.1)) with
  |some z,sO l=>if Zjm P t then (Zbi z.cells.toList).map fun zs=>(.build zs l,parts.toList.map (·.2)) else nO
  |_,_=>nO
 |.makeFunc f first caps=>sO (.mkfn f first.size,first.toList++caps.toList)
 |.makeInterface t x=>match P.underlying t with
  |some (.interface _)=>nO
  |some _=>sO (.mkif t,[x])
  |none=>nO
 |.slice t x lo hi mx=>match P.underlying t with
  |some .string=>if mx.isSome then nO else sO (.sliceS lo.isSome hi.isSome,x::(QL lo++QL hi))
  |some (.slice e)=>if mx.isSome&&!hi.isSome then nO else (ZW P e).map fun n=>(.slice n lo.isSome hi.isSome mx.isSome,x::(QL lo++QL hi++QL mx))
  |some (.array m e)=>if mx.isSome&&!hi.isSome then nO else (ZW P e).map fun n=>(.sliceA m n lo.isSome hi.isSome mx.isSome,x::(QL lo++QL hi++QL mx))
  |_=>nO
 |.typeAssert x _ t ok=>match P.underlying t with
  |some (.interface _)=>nO
  |some _=>(Zdd P t).map fun z=>(.tassert t ok z,[x])
  |none=>nO
 |.lookup t m k ok=>match P.underlying t with
  |some (.map kt e)=>match J0 P kt,Zdd P e with
   |some kp,sO z=>sO (.lookup kp z ok,[m,k])
   |_,_=>nO
  |_=>nO
 |.call c=>match c.callee with
  |.builtin .len=>match c.argTypes[0]?.bind P.underlying with
   |some .string=>if c.args.size=1 then sO (.lenS,c.args.toList) else nO
   |some (.slice _)=>if c.args.size=1 then sO (.lenL,c.args.toList) else nO
   |some (.array n _)=>if c.args.size=1 then sO (.lenA n,c.args.toList) else nO
   |some (.map _ _)=>if c.args.size=1 then sO (.lenM,c.args.toList) else nO
   |_=>nO
  |.builtin .min=>if c.args.size=2 then sO (.min,c.args.toList) else nO
  |.builtin .max=>if c.args.size=2 then sO (.max,c.args.toList) else nO
  |_=>nO
 |_=>nO
inductive ZH{α β:Type}(R:α→β→Prop):List α→List β→Prop where
 |nil:ZH R [] []
 |cons {a b as9 bs} (h:R a b) (t:ZH R as9 bs):ZH R (a::as9) (b::bs)
theorem Zkf(k:IntKind)(n:Int):inR k (k.wrap n):=by
 unfold inR IntKind.wrap IntKind.min IntKind.max
 cases k<;>simp[IntKind.signed,IntKind.bits]<;>(try split)<;>omega
theorem Zae(k:IntKind)(n:Int)(h:inR k n):k.wrap n=n:=by
 unfold inR IntKind.min IntKind.max at h
 unfold IntKind.wrap
 cases k<;>simp[IntKind.signed,IntKind.bits]at h⊢<;>(try split)<;>omega
theorem Ka(b o n:Nat):(⟨b,o,nO⟩:Addr).add n=⟨b,o+n,nO⟩:=by grind [Addr.add]
theorem Zfd{P:Program}{t:TypeId}(h:JS P t=sO true)(w:World):(isAgg t).run P w=.ok true w:=by
 unfold JS at h
 unfold isAgg
 split at h<;>simp_all[run_underlying]
theorem ZdR{P:Program}{t:TypeId}(h:JS P t=sO false)(w:World):(isAgg t).run P w=.ok false w:=by
 unfold JS at h
 unfold isAgg
 split at h
 ·simp at h
 ·simp at h
 ·rename_i d h1 h2 hd
  simp only[Sem.run_bind,run_underlying hd,Result.andThen_ok]
  simp_all
 simp at h
theorem YO{P:Program}{t:TypeId}{n:Nat}(h:ZW P t=sO n)(w:World):(sizeOf t).run P w=.ok n w:=by
 unfold ZW at h
 cases hi:P.info? t with
 |none=>simp[hi]at h
 |some i =>
  simp_all[hi,sizeOf,typeInfo]
theorem Ja(hS:Ym g s w){b:Nat}{cs:List D}(h:Yj s b=sO cs):Y0 g w b cs:=by
 unfold Yj at h
 split at h<;>simp at h
 rename_i c hc
 subst h
 exact hS.obj b _ hc
theorem Zl3(hL:∀l cs,Zg L l=sO cs→Y0 g w (ν l) cs)(hS:Ym g s w){v:Value}{e:E}{d:D}(h:ZI g ν w L v e)(hc:Wr L s e=sO d):∃b o x,v=.pointer (sO ⟨b,o,nO⟩)∧w.cell? ⟨b,o,nO⟩=sO x∧Rep g w x d∧x.one1=true:=by
 cases e with
 |d v' =>
  cases v'<;>simp only[Wr]at hc<;>try(simp at hc;done)
  ·rename_i cs o
   cases h with
   |ep b o0 _ _ f h1 h2 h3 one =>
    have i:o<cs.length:=(List.getElem?_eq_some_iff.1 hc).1
    exact⟨b,o0+o,f o,rfl,h1 o i,h3 o d hc,one o i⟩
  rename_i b o
  split at hc<;>(try(simp at hc;done))
  rename_i cs j
  obtain⟨_,vs,T,h1,h2,h4,h5⟩:=Ja hS j
  cases h
  have i:o<cs.length:=(List.getElem?_eq_some_iff.1 hc).1
  have hv:vs[o]?=sO (vs[o]'(by omega)):=Array.getElem?_eq_getElem (by omega)
  refine⟨b,o,vs[o]'(by omega),rfl,?_,h4 o _ d hv hc,h5 _ (Array.getElem_mem _)⟩
  simp[World.cell?,h1,hv]
 |loc l o =>
  obtain⟨⟨cs,j⟩,rfl⟩:=h
  simp only[Wr,j]at hc
  obtain⟨_,vs,T,h1,h2,h4,h5⟩:=hL l cs j
  have i:o<cs.length:=(List.getElem?_eq_some_iff.1 hc).1
  have hv:vs[o]?=sO (vs[o]'(by omega)):=Array.getElem?_eq_getElem (by omega)
  refine⟨ν l,o,vs[o]'(by omega),rfl,?_,h4 o _ d hv hc,h5 _ (Array.getElem_mem _)⟩
  simp[World.cell?,h1,hv]
 |when c e=>simp[Wr]at hc
theorem ZeH{P:Program}{b o n:Nat}{cs:List D}(h:Y0 g w b cs)(hs:o+n≤cs.length):
  ∃vs:List Value,(loadCells ⟨b,o,nO⟩ n).run P w=.ok vs.toArray w∧Rep g w (.agg vs.toArray) (.agg (part cs o n)):=by
 obtain⟨_,vs,T,h1,h2,h4,h5⟩:=h
 refine⟨(vs.toList.drop o).take n,?_,?_⟩
 ·have:=run_loadCells (P:=P) (w:=w) ⟨b,o,nO⟩ n (fun i=>vs.getD (o+i) undef) (fun j hj=>by
   rw[Ka];simp[World.cell?,h1]
   have t:o+j<vs.size:=by omega
   simp[t])
  rw[this];congr 1
  apply Array.ext_getElem?
  intro i
  simp[List.getElem?_toArray,ZFu,Array.getElem?_toList]
  by_cases c:i<n
  ·have:o+i<vs.size:=by omega
   simp[c,this]
  simp[c]
 refine .agg _ _ (by simp[part];omega) (fun i v d hv hd=>?_) (fun v hv=>?_)
 ·have hi:i<n:=by
   rcases Nat.lt_or_ge i n with h|h
   ·exact h
   grind
  simp[hi,part]at hv hd
  exact h4 _ _ _ hv hd
 exact h5 v (by
  have:=List.mem_of_mem_drop (List.mem_of_mem_take hv)
  exact Array.mem_toList_iff.1 this)
theorem ZmP{P:Program}(hL:∀l cs,Zg L l=sO cs→Y0 g w (ν l) cs)(hS:Ym g s w){v:Value}{e:E}{n:Nat}(h:ZI g ν w L v e)(hc:Ki L s n e=sO (side,ds))(hs:side):
  ∃a,v=.pointer (sO a)∧∃vs:List Value,(loadCells a n).run P w=.ok vs.toArray w∧Rep g w (.agg vs.toArray) (.agg ds):=by
 cases e with
 |d v' =>
  cases v'<;>simp only[Ki]at hc<;>try(grind;done)
  ·rename_i cs o
   cases hc
   cases h with
   |ep b o0 _ _ f h1 h2 h3 one =>
    refine⟨_,rfl,(ZE4 n).map (fun i=>f (o+i)),?_,?_⟩
    ·have:=run_loadCells (P:=P) (w:=w) ⟨b,o0+o,nO⟩ n (fun i=>f (o+i)) (fun j hj=>by
      rw[Ka,Nat.add_assoc];exact h1 _ (by omega))
     rw[this]
    refine .agg _ _ (by simp[part];omega) (fun i v d hv hd=>?_) (fun v hv=>?_)
    ·simp at hv
     have hi:i<n:=by
      rcases Nat.lt_or_ge i n with h|h
      ·exact h
      simp_all
     simp[List.getElem?_range hi]at hv
     subst hv
     refine h3 _ _ ?_
     simpa[part,ZFu,hi]using hd
    simp at hv
    obtain⟨i,hi,rfl⟩:=hv
    exact one _ (by omega)
  rename_i b o
  split at hc<;>(try(grind;done))
  rename_i cs t
  cases hc
  cases h
  obtain⟨vs,h1,h2⟩:=ZeH (P:=P) (Ja hS t) hs
  exact⟨_,rfl,vs,h1,h2⟩
 |loc l o =>
  obtain⟨⟨cs,t⟩,rfl⟩:=h
  simp only[Ki,t]at hc
  obtain⟨rfl,rfl⟩:=hc
  obtain⟨vs,h1,h2⟩:=ZeH (P:=P) (hL l cs t) hs
  exact⟨_,rfl,vs,h1,h2⟩
 |when c e=>cases hc
theorem KL{n:Nat}(h:n≤big):inR .i64 (n:Int):=by
 unfold big at h;unfold inR IntKind.min IntKind.max;simp[IntKind.signed,IntKind.bits];omega
theorem Zrr(b:UInt8):inR .u8 (b.toNat:Int):=by
 unfold inR IntKind.min IntKind.max;simp[IntKind.signed,IntKind.bits];have:=b.toNat_lt;omega
theorem ZyG{P:Program}{op:BinOp}{k:IntKind}{a b:Int}{d:D}(hq:QX op k a b=sO (side,d))(hs:side):
  ∃v,(match op with
   |.add|.sub|.mul=>Op.intArith op k a b
   |.quo|.rem=>Op.intDiv op k a b
   |.and|.or|.xor|.andNot=>Op.intBits op k a b
   |_=>Op.intCmp op a b).run P w=.ok v w∧Rep g w v d:=by
 cases op<;>simp only[QX,ZEP,ZE2,reduceCtorEq]at hq
 all_goals obtain⟨rfl,rfl⟩:=hq
 case add=>exact⟨_,by simp only[Op.intArith,Sem.run_pure];rfl,by rw[Zae _ _ hs];exact .int _ _ hs⟩
 case sub=>exact⟨_,by simp only[Op.intArith,Sem.run_pure];rfl,by rw[Zae _ _ hs];exact .int _ _ hs⟩
 case mul=>exact⟨_,by simp only[Op.intArith,Sem.run_pure];rfl,by rw[Zae _ _ hs];exact .int _ _ hs⟩
 case quo=>exact⟨_,by simp only[Op.intDiv,hs.1,if_false,Sem.run_pure];rfl,by rw[Zae _ _ hs.2];exact .int _ _ hs.2⟩
 case rem=>exact⟨_,by simp only[Op.intDiv,hs.1,if_false,Sem.run_pure],.int _ _ hs.2⟩
 case eql=>exact⟨_,by simp only[Op.intCmp,Sem.run_pure];rfl,.bool _⟩
 case neq=>exact⟨_,by simp only[Op.intCmp,Sem.run_pure];rfl,.bool _⟩
 case lss=>exact⟨_,by simp only[Op.intCmp,Sem.run_pure],.bool _⟩
 case leq=>exact⟨_,by simp only[Op.intCmp,Sem.run_pure],.bool _⟩
 case gtr=>exact⟨_,by simp only[Op.intCmp,Sem.run_pure],.bool _⟩
 case geq=>exact⟨_,by simp only[Op.intCmp,Sem.run_pure],.bool _⟩
 all_goals exact⟨_,by simp only[Op.intBits,Sem.run_pure];rfl,.int _ _ (Zkf _ _)⟩
theorem ZcX{s:ByteArray}{l:List UInt8}(h:s.data.toList=l):s.toList=l:=by rw[ByteArray.toList_eq,h]
theorem ZyH{P:Program}{op:BinOp}{s1 s2:ByteArray}{a b:List UInt8}(h1:s1.data.toList=a)(h2:s2.data.toList=b){d:D}(hq:ZdF op a b=sO (side,d))(hs:side):
  ∃v,(Op.stringOp op s1 s2).run P w=.ok v w∧Rep g w v d:=by
 have e1:=ZcX h1
 have e2:=ZcX h2
 cases op<;>simp only[ZdF,ZEP,ZE2,reduceCtorEq]at hq
 all_goals obtain⟨rfl,rfl⟩:=hq
 case add =>
  have c:s1.size=a.length:=by rw[←h1];rfl
  have i:s2.size=b.length:=by rw[←h2];rfl
  refine⟨.string (s1++s2),?_,.str _ _ ?_ (by simpa using hs)⟩
  ·unfold big at hs
   simp only[Op.stringOp,c,i,Sem.run_ite]
   rw[if_neg (by simp[IntKind.max,IntKind.signed,IntKind.bits];omega)];rfl
  simp[←h1,←h2]
 all_goals simp only[Op.stringOp,Sem.run_pure,e1,e2]
 all_goals have hb:(a==b)=dC (a=b):=by rw[Bool.eq_iff_iff];simp
 all_goals try simp only[hb]
 all_goals exact⟨_,rfl,.bool _⟩
theorem Zf0{P:Program}{t:TypeId}{sk:SK}(ht:K7 P t=sO sk){v1 v2:Value}{x y:D}(h1:Rep g w v1 x)(h2:Rep g w v2 y){b:Bool}(hq:Yo sk x y=sO b)(n:Nat):(Op.equalIn (n+1) t v1 v2).run P w=.ok b w:=by
 unfold K7 at ht
 cases sk
 ·obtain⟨k0,c⟩:∃k0,P.underlying t=sO (.int k0):=by split at ht<;>simp_all
  cases h1<;>cases h2<;>simp only[Yo,reduceCtorEq]at hq
  split at hq
  ·rename_i k a ha k' b' hb' hk
   simp only[ZEP]at hq
   subst hq;subst hk
   rw[run_equalIn_int w n t _ _ _ _ c];rfl
  simp at hq
 ·have c:P.underlying t=sO .string:=by split at ht<;>simp_all
  cases h1<;>cases h2<;>simp only[Yo,reduceCtorEq,ZEP]at hq
  rename_i s1 l1 e1 _ s2 l2 e2 _
  subst hq
  rw[run_equalIn_string w n t _ _ c,ZcX e1,ZcX e2]
  congr 1;rw[Bool.eq_iff_iff];simp
 have c:P.underlying t=sO .bool:=by split at ht<;>simp_all
 cases h1<;>cases h2<;>simp only[Yo,reduceCtorEq,ZEP]at hq
 subst hq
 rw[run_equalIn_bool' w n t _ _ c];rfl
theorem Zbq{P:Program}{t:TypeId}{k:SK}(h:K7 P t=sO k):JS P t=sO false:=by
 unfold K7 at h;unfold JS
 split at h<;>simp_all
theorem ZcR{P:Program}{t:TypeId}(h:JS P t=sO false){cs:Array Value}{o:Nat}{v:Value}(hv:cs[o]?=sO v):
  (Go.part t cs o).run P w=.ok v w:=by
 simp[Go.part,ZdR h,hv]
theorem ZbK{vs:List Value}(hn:vs.length=ds.length)(h:∀(i:Nat) (v:Value) (d:D),vs[i]?=sO v→ds[i]?=sO d→Rep g w v d){o:Nat}{d:D}(hd:ds[o]?=sO d):∃v,vs[o]?=sO v∧Rep g w v d:=by
 have hlt:o<ds.length:=(List.getElem?_eq_some_iff.1 hd).1
 exact⟨vs[o]'(by omega),ZFq _,h o _ d (ZFq _) hd⟩
theorem Zc4{P:Program}{g:G}{w:World}{v1 v2:List Value}{xs ys:List D}(hn1:v1.length=xs.length)(hn2:v2.length=ys.length)
  (h1:∀(i:Nat) (v:Value) (d:D),v1[i]?=sO v→xs[i]?=sO d→Rep g w v d) (h2:∀(i:Nat) (v:Value) (d:D),v2[i]?=sO v→ys[i]?=sO d→Rep g w v d) (n:Nat) :
  ∀(fs:List Field) (l:List (Nat×SK)) (b:Bool),Ku P fs=sO l→Ws xs ys l=sO b →
   (Op.eqFields (n+1) v1.toArray v2.toArray fs).run P w=.ok b w
 | [],l,b,hl,hb=>by
  simp only[Ku,ZEP]at hl
  subst hl
  simp only[Ws,ZEP]at hb
  subst hb
  simp[Op.eqFields]
 |f::fs,l,b,hl,hb=>by
  simp only[Ku]at hl
  by_cases hf:f.name = "_"
  ·simp only[hf,if_true]at hl
   have:=Zc4 hn1 hn2 h1 h2 n fs l b hl hb
   simp only[Op.eqFields,hf,ne_eq,not_true_eq_false,if_false]
   exact this
  simp only[hf,if_false]at hl
  split at hl
  ·rename_i k l' hk t
   simp only[ZEP]at hl
   subst hl
   simp only[Ws]at hb
   split at hb
   ·rename_i x y hx hy
    split at hb
    ·rename_i b1 b2 c j
     simp only[ZEP]at hb
     obtain⟨u1,z,r1⟩:=ZbK hn1 h1 hx
     obtain⟨u2,u,r2⟩:=ZbK hn2 h2 hy
     have ih:=Zc4 hn1 hn2 h1 h2 n fs l' b2 t j
     have he:=Zf0 (P:=P) hk r1 r2 c n
     simp only[Op.eqFields,ne_eq,hf,not_false_eq_true,if_true,Sem.run_bind]
     rw[ZcR (Zbq hk) (v:=u1) (by simpa using z)]
     simp only[Result.andThen_ok]
     rw[ZcR (Zbq hk) (v:=u2) (by simpa using u)]
     simp only[Result.andThen_ok,he]
     subst hb
     cases b1
     ·simp
     simpa using ih
    simp at hb
   simp at hb
  simp at hl
theorem Zme{P:Program}{g:G}{w:World}{v1 v2:List Value}{xs ys:List D}(hn1:v1.length=xs.length)(hn2:v2.length=ys.length)
  (h1:∀(i:Nat) (v:Value) (d:D),v1[i]?=sO v→xs[i]?=sO d→Rep g w v d) (h2:∀(i:Nat) (v:Value) (d:D),v2[i]?=sO v→ys[i]?=sO d→Rep g w v d) (n:Nat)
  {e:TypeId} {k:SK} (hk:K7 P e=sO k) :
  ∀(is:List Nat) (b:Bool),Ws xs ys (is.map (·,k))=sO b→(Op.eqItems (n+1) e 1 v1.toArray v2.toArray is).run P w=.ok b w
 | [],b,hb=>by
  simp only[ZFo,Ws,ZEP]at hb
  subst hb;simp[Op.eqItems]
 |i::is,b,hb=>by
  simp only[ZE7,Ws]at hb
  split at hb
  ·rename_i x y hx hy
   split at hb
   ·rename_i b1 b2 t c
    simp only[ZEP]at hb
    obtain⟨u1,u,r1⟩:=ZbK hn1 h1 hx
    obtain⟨u2,j,r2⟩:=ZbK hn2 h2 hy
    have ih:=Zme hn1 hn2 h1 h2 n hk is b2 c
    have he:=Zf0 (P:=P) hk r1 r2 t n
    simp only[Op.eqItems,Nat.mul_one,Sem.run_bind]
    rw[ZcR (Zbq hk) (v:=u1) (by simpa using u)]
    simp only[Result.andThen_ok]
    rw[ZcR (Zbq hk) (v:=u2) (by simpa using j)]
    simp only[Result.andThen_ok,he]
    subst hb
    cases b1
    ·simp
    simpa using ih
   simp at hb
  simp at hb
theorem ZbF{P:Program}{t:TypeId}{v1 v2:Value}{b:Bool}(h:∀n,(Op.equalIn (n+1) t v1 v2).run P w=.ok b w):(Op.equal t v1 v2).run P w=.ok b w:=h 9999
theorem Zpj{P:Program}{t:TypeId}{x y:Operand}{p:Zaf}(hp:Zds P t x y=sO p){v1 v2:Value}{d1 d2:D}(h1:Rep g w v1 d1)(h2:Rep g w v2 d2){b:Bool}(hq:YN p d1 d2=sO (side,b))(hs:side):
  (Op.equal t v1 v2).run P w=.ok b w∧(eqGuard .eql t x y v1 v2).run P w=.ok () w∧(eqGuard .neq t x y v1 v2).run P w=.ok () w:=by
 unfold Zds at hp
 split at hp<;>(try(simp at hp;done))
 ·
  rename_i hu
  simp only[ZEP]at hp;subst hp
  cases h1<;>cases h2<;>simp only[YN,reduceCtorEq,ZEP,ZE2]at hq
  obtain⟨rfl,rfl⟩:=hq
  exact⟨ZbF fun n=>by rw[run_equalIn_bool w _ t _ _ hu];rfl,rfl,rfl⟩
 ·rename_i e hu
  simp only[ZEP]at hp;subst hp
  cases h1<;>cases h2<;>simp only[YN,reduceCtorEq,ZEP,ZE2]at hq
  all_goals obtain⟨rfl,rfl⟩:=hq
  all_goals first
   |exact absurd hs (by omega)
   |exact⟨ZbF fun n=>by simp[Op.equalIn,run_underlying hu],rfl,rfl⟩
 ·rename_i k e hu
  simp only[ZEP]at hp;subst hp
  cases h1<;>cases h2<;>simp only[YN,reduceCtorEq,ZEP,ZE2]at hq
  all_goals obtain⟨rfl,rfl⟩:=hq
  all_goals exact⟨ZbF fun n=>by simp[Op.equalIn,run_underlying hu],rfl,rfl⟩
 ·rename_i a b c hu
  simp only[ZEP]at hp;subst hp
  cases h1<;>cases h2<;>simp only[YN,reduceCtorEq,ZEP,ZE2]at hq
  all_goals obtain⟨rfl,rfl⟩:=hq
  all_goals exact⟨ZbF fun n=>by simp[Op.equalIn,run_underlying hu],rfl,rfl⟩
 ·rename_i ms hu
  split at hp
  ·rename_i hc
   simp only[ZEP]at hp;subst hp
   have ae:Zef x=true∨Zef y=true:=by simpa using hc
   have hg:∀op,(eqGuard op t x y .nilIface .nilIface).run P w=.ok () w:=fun op=>by
    rcases ae with h|h
    ·cases x<;>simp[Zef]at h
     cases op<;>simp[eqGuard]
    cases y<;>simp[Zef]at h
    cases op<;>simp[eqGuard]
   cases h1<;>cases h2<;>simp only[YN,reduceCtorEq,ZEP,ZE2]at hq
   all_goals obtain⟨rfl,rfl⟩:=hq
   all_goals first
    |exact⟨ZbF fun n=>by simp[Op.equalIn,run_underlying hu],rfl,rfl⟩
    |exact⟨ZbF fun n=>by simp[Op.equalIn,run_underlying hu],hg _,hg _⟩
  simp at hp
 ·rename_i e hu
  simp only[ZEP]at hp;subst hp
  cases h1<;>cases h2<;>simp only[YN,reduceCtorEq,ZEP,ZE2]at hq
  all_goals obtain⟨rfl,rfl⟩:=hq
  all_goals exact⟨ZbF fun n=>by simp[Op.equalIn,run_underlying hu],rfl,rfl⟩
 ·rename_i fs hu
  split at hp
  ·simp at hp
  rename_i u
  have j:P.eqGuardType P.depth t=false:=by simp at u;exact u.1
  have ad:P.stoodInHeld t=false:=by simp at u;exact u.2
  simp only[ZE3]at hp
  obtain⟨l,hl,rfl⟩:=hp
  cases h1<;>cases h2<;>simp only[YN,reduceCtorEq,ZE3]at hq
  rename_i v1 xs ac r1 o1 v2 ys ab r2 o2
  obtain⟨b',hb,hq⟩:=hq
  simp only[ZE2]at hq
  obtain⟨rfl,rfl⟩:=hq
  have hf:P.underlying t=sO (.struct (P.fieldsOf t)):=by simp[Program.fieldsOf,hu]
  refine⟨?_,run_eqGuard_agg w _ t x y _ _ j,run_eqGuard_agg w _ t x y _ _ j⟩
  refine(run_equalIn_struct w 9999 t _ _ hf ad).trans ?_
  simp only[Program.fieldsOf,hu]
  exact Zc4 ac ab r1 r2 9998 _ l b' hl hb
 rename_i n e hu
 split at hp
 ·simp at hp
 rename_i j
 split at hp
 ·rename_i k hk v
  simp only[ZEP]at hp;subst hp
  cases h1<;>cases h2<;>simp only[YN,reduceCtorEq,ZE3]at hq
  rename_i v1 xs ac r1 o1 v2 ys ab r2 o2
  obtain⟨b',hb,hq⟩:=hq
  simp only[ZE2]at hq
  obtain⟨rfl,rfl⟩:=hq
  have z:P.eqGuardType P.depth t=false:=by simpa using j
  refine⟨?_,run_eqGuard_agg w _ t x y _ _ z,run_eqGuard_agg w _ t x y _ _ z⟩
  unfold ZW at v
  cases hi:P.info? e with
  |none=>simp[hi]at v
  |some i =>
   simp only[hi,ZFl,ZEP]at v
   refine(run_equalIn_array w 9999 _ _ hu hi).trans ?_
   have af:P.cellsOf e=1:=by simp[Program.cellsOf,hi,v]
   rw[af]
   exact Zme ac ab r1 r2 9998 hk _ _ hb
 simp at hp
theorem ZyF{P:Program}{op:BinOp}{t:TypeId}{x y:Operand}{v1 v2:Value}{d1 d2 d:D}(h1:Rep g w v1 d1)(h2:Rep g w v2 d2)(hq:Zah op (Zds P t x y) d1 d2=sO (side,d))(hs:side):
  ∃v,(do eqGuard op t x y v1 v2;binOp op t v1 v2).run P w=.ok v w∧Rep g w v d:=by
 by_cases hi:∃k a,d1=.int k a
 ·obtain⟨k,a,rfl⟩:=hi
  cases h1
  rename_i ha
  have hg:(eqGuard op t x y (.int k a) v2).run P w=.ok () w:=by cases op<;>rfl
  by_cases u:∃k' b,d2=.int k' b
  ·obtain⟨k',b,rfl⟩:=u
   cases h2
   rename_i hb
   simp only[Sem.run_bind,hg,Result.andThen_ok]
   by_cases n:op=.shl∨op=.shr
   ·rcases n with rfl|rfl
    ·simp only[Zah,ZEP,ZE2]at hq
     obtain⟨rfl,rfl⟩:=hq
     refine⟨.int k (Zji k a b),?_,.int _ _ hs.2⟩
     simp only[binOp,Op.shift,Int.not_lt.2 hs.1,if_false]
     rw[show k.wrap (a*2 ^ min b.toNat k.bits)=Zji k a b from Zae _ _ hs.2];rfl
    simp only[Zah,ZEP,ZE2]at hq
    obtain⟨rfl,rfl⟩:=hq
    refine⟨.int k (Zjj k a b),?_,.int _ _ hs.2⟩
    simp only[binOp,Op.shift,Int.not_lt.2 hs.1,if_false]
    rfl
   have c:(if k=k' then QX op k a b else nO)=sO (side,d):=by
    cases op<;>first|(simp only[Zah]at hq;exact hq)|simp at n
   split at c
   ·rename_i hk
    subst hk
    obtain⟨v,hv,r⟩:=ZyG (P:=P) (g:=g) (w:=w) c hs
    refine⟨v,?_,r⟩
    rw[←hv]
    cases op<;>first|(simp at n;done)|(simp[binOp])
   simp at c
  have c:eqO op (Zds P t x y) (.int k a) d2=sO (side,d):=by
   cases d2<;>first|(simp only[Zah]at hq;exact hq)|(exact absurd ⟨_,_,rfl⟩ u)
  unfold eqO at c
  split at c<;>simp[YN]at c
 by_cases i:∃a,d1=.str a
 ·obtain⟨a,rfl⟩:=i
  cases h1
  rename_i s1 e1 b1
  have hg:(eqGuard op t x y (.string s1) v2).run P w=.ok () w:=by cases op<;>rfl
  by_cases j:∃b,d2=.str b
  ·obtain⟨b,rfl⟩:=j
   cases h2
   rename_i s2 e2 b2
   simp only[Sem.run_bind,hg,Result.andThen_ok]
   obtain⟨v,hv,r⟩:=ZyH (P:=P) (g:=g) (w:=w) (op:=op) e1 e2 (by simpa[Zah]using hq) hs
   refine⟨v,?_,r⟩
   rw[←hv]
   cases op<;>simp[binOp]
  have c:eqO op (Zds P t x y) (.str a) d2=sO (side,d):=by
   cases d2<;>first|(simp only[Zah]at hq;exact hq)|(exact absurd ⟨_,rfl⟩ j)
  unfold eqO at c
  split at c<;>simp[YN]at c
 have c:eqO op (Zds P t x y) d1 d2=sO (side,d):=by
  cases d1<;>first|(simp only[Zah]at hq;exact hq)|(exact absurd ⟨_,_,rfl⟩ hi)|(exact absurd ⟨_,rfl⟩ i)
 unfold eqO at c
 split at c
 ·rename_i p hp
  simp only[ZE3]at c
  obtain⟨⟨s',b⟩,hb,c⟩:=c
  simp only[ZE2]at c
  obtain⟨rfl,rfl⟩:=c
  obtain⟨he,hg,_⟩:=Zpj hp h1 h2 hb hs
  refine⟨.bool b,?_,.bool _⟩
  simp only[Sem.run_bind,hg,Result.andThen_ok]
  cases h1<;>first
   | (exact absurd ⟨_,_,rfl⟩ hi)
   | (exact absurd ⟨_,rfl⟩ i)
   | (cases h2<;>first|(simp[binOp,he];done)|(cases p<;>simp[YN]at hb;done))
 ·rename_i p hp
  simp only[ZE3]at c
  obtain⟨⟨s',b⟩,hb,c⟩:=c
  simp only[ZE2]at c
  obtain⟨rfl,rfl⟩:=c
  obtain⟨he,_,hg⟩:=Zpj hp h1 h2 hb hs
  refine⟨.bool (!b),?_,.bool _⟩
  simp only[Sem.run_bind,hg,Result.andThen_ok]
  cases h1<;>first
   | (exact absurd ⟨_,_,rfl⟩ hi)
   | (exact absurd ⟨_,rfl⟩ i)
   | (cases h2<;>first|(simp[binOp,he];done)|(cases p<;>simp[YN]at hb;done))
 simp at c
end Go.DL
namespace Go.DL
open Go
variable [Zqw]
def Zw7(P:Program)(g:G)(ν:Nat→Nat)(w:World)(L:Loc)(s:Sem Value)(e:E):Prop:=∃v,s.run P w=.ok v w∧ZI g ν w L v e
theorem Zw7.next{P:Program}{g:G}{ν:Nat→Nat}{w:World}{L:Loc}{s:Sem Value}{e:E}(h:Zw7 P g ν w L s e) :
  ∃v,(do pure (Next.value (←s)):Sem Next).run P w=.ok (.value v) w∧ZI g ν w L v e:=by
 obtain⟨v,h1,h2⟩:=h
 simp_all
section
variable {P:Program} {g:G} {ν:Nat→Nat} {w:World} {L:Loc}
theorem KW:∀{vs:List Value} {es:List E} {ds:List D},ZH (ZI g ν w L) vs es→W2 es=sO ds→ZH (Rep g w) vs ds
 |_,_,ds,.nil,hd=>by cases hd;exact .nil
 |_,_,ds,.cons (b:=e) h t,hd=>by
  cases e with
  |d x =>
   simp[W2]at hd
   obtain⟨ds',hd',rfl⟩:=hd
   exact .cons h (KW t hd')
  |loc l o=>cases hd
  |when c e=>cases hd
theorem ZH.len{α β:Type}{R:α→β→Prop}{as9:List α}{bs:List β}(h:ZH R as9 bs):as9.length=bs.length:=by
 induction h with
 |nil=>rfl
 |cons _ _ ih=>simp[ih]
theorem ZH.get{α β:Type}{R:α→β→Prop}{as9:List α}{bs:List β}(h:ZH R as9 bs):∀(i:Nat) (a:α) (b:β),as9[i]?=sO a→bs[i]?=sO b→R a b:=by
 induction h with
 |nil=>intro i a b ha;grind
 |cons h _ ih =>
  grind
theorem ZH.take{α β:Type}{R:α→β→Prop}{as9:List α}{bs:List β}(h:ZH R as9 bs):∀n,ZH R (as9.take n) (bs.take n):=by
 induction h with
 |nil=>intro n;simp;exact .nil
 |cons h _ ih=>intro n;cases n with
  |zero=>exact .nil
  |succ n=>exact .cons h (ih n)
theorem ZH.drop{α β:Type}{R:α→β→Prop}{as9:List α}{bs:List β}(h:ZH R as9 bs):∀n,ZH R (as9.drop n) (bs.drop n):=by
 induction h with
 |nil=>intro n;simp;exact .nil
 |cons h t ih=>intro n;cases n with
  |zero=>exact .cons h t
  |succ n=>exact ih n
theorem ZH.append{α β:Type}{R:α→β→Prop}{as9 as':List α}{bs bs':List β}(h:ZH R as9 bs)(h':ZH R as' bs'):ZH R (as9++as') (bs++bs'):=by
 induction h with
 |nil=>exact h'
 |cons h _ ih=>exact .cons h ih
theorem Zdv{v:Value}{d:D}(h:Rep g w v d)(ho:W4 d=true):v.cells.size=(cellsOf d).length∧(∀(i:Nat) (x:Value) (y:D),v.cells.toList[i]?=sO x→(cellsOf d)[i]?=sO y→Rep g w x y):=by
 cases h with
 |agg vs cells hn h one=>exact⟨by simpa[Value.cells,cellsOf]using hn,by simpa[Value.cells,cellsOf]using h⟩
 |any v=>simp[W4]at ho
 |_ =>
  refine⟨by simp[Value.cells,cellsOf,Go.undef],fun i x y hx hy=>?_⟩
  simp only[Value.cells,cellsOf,Go.undef]at hx hy
  cases i with
  |zero =>
   simp at hx hy
   subst hx;subst hy
   first|assumption|constructor<;>assumption|constructor
  |succ i=>simp at hx
end
end Go.DL
namespace Go.DL
open Go
variable [Zqw]
section
variable {P:Program} {g:G} {ν:Nat→Nat} {w:World} {L:Loc}
theorem Zgy{v:Value}{d:D}(h:Rep g w v d)(ho:W4 d=true):∀x∈v.cells,x.one1=true:=by
 cases h with
 |agg vs cells hn h one=>simpa[Value.cells]using one
 |_=>first
  | (simp[W4]at ho;done)
  | (intro x hx;simp[Value.cells]at hx;subst hx;rfl)
theorem Zo0:∀(l:List Value) (k off:Nat) (cs:Array Value),off+k+l.length≤cs.size →
  ((l.zipIdx k).foldl (fun(cs:Array Value) (x:Value×Nat)=>cs.setIfInBounds (off+x.2) x.1) cs).toList=cs.toList.take (off+k)++l++cs.toList.drop (off+k+l.length)
 | [],k,off,cs,h=>by simp
 |v::l,k,off,cs,h=>by
  simp at h
  simp only[List.zipIdx_cons,List.foldl_cons]
  rw[Zo0 l (k+1) off _ (by simp;omega)]
  simp only[Array.toList_setIfInBounds]
  apply List.ext_getElem?
  intro i
  simp only[List.getElem?_append,ZFu,List.getElem?_drop,List.getElem?_set,ZE1,ZE9,List.length_set,Array.length_toList,ZE5]
  by_cases h1:i<off+k
  ·simp[show i<min (off+(k+1)) cs.size+l.length from by omega,show i<min (off+(k+1)) cs.size from by omega,show i<min (off+k) cs.size+(l.length+1) from by omega,
    show i<min (off+k) cs.size from by omega,show i<off+(k+1) from by omega,h1,show ¬off+k=i from by omega]
  by_cases h2:i=off+k
  ·subst h2
   simp[show off+k<min (off+(k+1)) cs.size+l.length from by omega,show off+k<min (off+(k+1)) cs.size from by omega,show off+k<min (off+k) cs.size+(l.length+1) from by omega,
    show ¬off+k<min (off+k) cs.size from by omega,show off+k<off+(k+1) from by omega,show off+k<cs.size from by omega]
   rw[show off+k-min (off+k) cs.size=0 from by omega];rfl
  by_cases h3:i<off+k+(l.length+1)
  ·simp[show i<min (off+(k+1)) cs.size+l.length from by omega,show ¬i<min (off+(k+1)) cs.size from by omega,show i<min (off+k) cs.size+(l.length+1) from by omega,
    show ¬i<min (off+k) cs.size from by omega]
   rw[show i-min (off+k) cs.size=(i-min (off+(k+1)) cs.size)+1 from by omega];rfl
  simp[show ¬i<min (off+(k+1)) cs.size+l.length from by omega,show ¬i<min (off+k) cs.size+(l.length+1) from by omega]
  rw[show off+(k+1)+l.length+(i-(min (off+(k+1)) cs.size+l.length))=i from by omega,show off+k+(l.length+1)+(i-(min (off+k) cs.size+(l.length+1)))=i from by omega]
  simp[show ¬off+k=i from by omega]
theorem Yh{α β:Type}{R:α→β→Prop}:∀{as9:List α} {bs:List β},as9.length=bs.length→(∀(i:Nat) (a:α) (b:β),as9[i]?=sO a→bs[i]?=sO b→R a b)→ZH R as9 bs
 | [],[],_,_=>.nil
 |a::as9,b::bs,hn,h=>.cons (h 0 a b rfl rfl) (Yh (by simpa using hn) (fun i x y hx hy=>h (i+1) x y (by simpa using hx) (by simpa using hy)))
 | [],_::_,hn,_=>by grind
 |_::_,[],hn,_=>by grind
theorem Zgl(place:Nat→Option (Nat×Nat)):∀(parts:List (Nat×Value)) (pl:List (Nat×Nat)) (ds cs cells:List D) (cv:Array Value),
  (∀(i:Nat) (x:Nat×Value) (q:Nat×Nat),parts[i]?=sO x→pl[i]?=sO q→place x.1=sO q)→parts.length=pl.length→ZH (Rep g w) (parts.map (·.2)) ds →
  ZH (Rep g w) cv.toList cells→(∀v∈cv,v.one1=true)→Zbu cells pl ds=sO cs →
  ∃cv',Instr.fill place cv parts=sO cv'∧ZH (Rep g w) cv'.toList cs∧∀v∈cv',v.one1=true
 | [],[],ds,cs,cells,cv,_,_,hd,hc,ho,hf=>by
  cases hd
  cases hf
  exact⟨cv,rfl,hc,ho⟩
 |x::parts,q::pl,ds,cs,cells,cv,hpl,hn,hd,hc,ho,hf=>by
  obtain⟨i,v⟩:=x
  obtain⟨o,n⟩:=q
  cases hd with
  |cons hv hd =>
   rename_i d ds
   simp only[Zbu]at hf
   split at hf
   ·rename_i u
    obtain⟨h0,h1,h2⟩:=u
    have hp:=hpl 0 _ _ rfl rfl
    obtain⟨ac,t⟩:=Zdv hv h0
    have hlen:=hc.len
    have j:=Zo0 v.cells.toList 0 o cv (by grind)
    simp only[Nat.add_zero,Array.length_toList,ac,h1]at j
    have ha:ZH (Rep g w) (v.cells.toList) (cellsOf d):=Yh (by omega) t
    generalize y:(v.cells.toList.zipIdx 0).foldl (fun(cs:Array Value) (x:Value×Nat)=>cs.setIfInBounds (o+x.2) x.1) cv=cv2 at j
    have z:ZH (Rep g w) cv2.toList (ZE cells o (cellsOf d)):=by
     rw[j];unfold ZE;rw[h1]
     exact((hc.take o).append ha).append (hc.drop (o+n))
    have ab:∀x∈cv2,x.one1=true:=fun x hx=>by
     have c:x∈cv2.toList:=Array.mem_toList_iff.2 hx
     rw[j]at c
     simp only[List.mem_append]at c
     rcases c with (c |c)|c
     ·exact ho x (Array.mem_toList_iff.1 (List.mem_of_mem_take c))
     ·exact Zgy hv h0 x (Array.mem_toList_iff.1 c)
     exact ho x (Array.mem_toList_iff.1 (List.mem_of_mem_drop c))
    obtain⟨cv',ad,r1,r2⟩:=Zgl place parts pl ds cs _ cv2 (fun i x q hx hq=>hpl (i+1) x q (by grind) (by grind)) (by grind) hd z ab hf
    refine⟨cv',?_,r1,r2⟩
    simp only[Instr.fill,hp,ac,h1]
    have:¬(n≠n ||decide (o+n > cv.size))=true:=by grind
    rw[if_neg (by omega)]
    rw[←ad,←y]
    congr 1
    rw[←Array.foldl_toList,Array.toList_zipIdx]
   simp at hf
 | [],_::_,_,_,_,_,_,hn,_,_,_,_=>by simp at hn
 |_::_,[],_,_,_,_,_,hn,_,_,_,_=>by simp at hn
end
end Go.DL
namespace Go.DL
open Go
variable [Zqw]
variable {kp:Option (List Nat)}{L:Loc}{ρ:Env}{s:St}{w:World}{os:List DOp}{ds:List D}{dst:Option Nat}{tmps:Array Value}{g:G}{ν:Nat→Nat}{xs:List Opd}{side:Prop}{row:Nat→List D}
section
variable {P:Program} {g:G} {ν:Nat→Nat} {w:World} {L:Loc}
theorem Zdl:∀{vs:List Value} {ds:List D},Zbi vs=sO ds→ZH (Rep g w) vs ds∧∀v∈vs,v.one1=true
 | [],ds,h=>by simp only[Zbi,ZEP]at h;subst h;exact⟨.nil,fun v hv=>by simp at hv⟩
 |v::vs,ds,h=>by
  simp only[Zbi]at h
  split at h
  ·rename_i d ds' h1 h2
   simp only[ZEP]at h
   subst h
   obtain⟨r1,r2⟩:=Zdl h2
   have h0:Rep g w v d∧v.one1=true:=by
    unfold Zl8 at h1
    split at h1<;>(try(simp at h1;done))
    ·split at h1
     ·rename_i hk;simp only[ZEP]at h1;subst h1;exact⟨.int _ _ hk,rfl⟩
     simp at h1
    ·simp only[ZEP]at h1;subst h1;exact⟨.bool _,rfl⟩
    ·split at h1
     ·rename_i hk;simp only[ZEP]at h1;subst h1;exact⟨.str _ _ rfl hk,rfl⟩
     simp at h1
    ·simp only[ZEP]at h1;subst h1;exact⟨.nilptr,rfl⟩
    ·simp only[ZEP]at h1;subst h1;exact⟨.nilsl,rfl⟩
    ·simp only[ZEP]at h1;subst h1;exact⟨.nilmap,rfl⟩
    ·simp only[ZEP]at h1;subst h1;exact⟨.nilfn,rfl⟩
    simp only[ZEP]at h1;subst h1;exact⟨.niliface,rfl⟩
   exact⟨.cons h0.1 r1,fun x hx=>by
    rcases List.mem_cons.1 hx with rfl|hx
    ·exact h0.2
    exact r2 x hx⟩
  simp at h
theorem ZvM{v:Value}{d:D}(h:Zl8 v=sO d):Rep g w v d∧v.one1=true:=by
 have:=Zdl (g:=g) (w:=w) (vs:=[v]) (ds:=[d]) (by simp[Zbi,h])
 obtain⟨h1,h2⟩:=this
 cases h1 with
 |cons h _=>exact⟨h,h2 v (by simp)⟩
theorem Zj3{vs:Array Value}(h:ZH (Rep g w) vs.toList ds)(ho:∀v∈vs,v.one1=true):Rep g w (.agg vs) (.agg ds):=by
 have:=Rep.agg (g:=g) (w:=w) vs.toList ds h.len h.get (fun v hv=>ho v (Array.mem_toList_iff.1 hv))
 simpa using this
theorem Zia{v:Value}{d:D}(h:Zl9 v=sO d):Rep g w v d:=by
 unfold Zl9 at h
 split at h
 ·rename_i cs
  simp only[ZE3]at h
  obtain⟨ds,hd,rfl⟩:=h
  obtain⟨h1,h2⟩:=Zdl (g:=g) (w:=w) hd
  exact Zj3 h1 (fun v hv=>h2 v (Array.mem_toList_iff.2 hv))
 exact(ZvM h).1
theorem Zpi{t:TypeId}{fs:Array Field}(hu:P.underlying t=sO (.struct fs)):∀(is:List Nat) (pl:List (Nat×Nat)),K5 P t is=sO pl →
  pl.length=is.length∧∀(i k:Nat) (q:Nat×Nat),is[i]?=sO k→pl[i]?=sO q→∃f,fs[k]?=sO f∧ZW P f.type=sO q.2∧f.offset=q.1
 | [],pl,h=>by simp only[K5,ZEP]at h;subst h;simp
 |k::is,pl,h=>by
  cases hl:K5 P t is with
  |none=>simp[K5,hu,hl]at h
  |some l =>
   simp only[K5,hu,hl]at h
   split at h
   ·rename_i f hf
    simp only[ZE3]at h
    obtain⟨n,hn,rfl⟩:=h
    obtain⟨h1,h2⟩:=Zpi hu is l hl
    refine⟨by simp[h1],fun i k' q hi hq=>?_⟩
    cases i with
    |zero=>simp at hi hq;subst hi;subst hq;exact⟨f,hf,hn,rfl⟩
    |succ i=>exact h2 i k' q (by simpa using hi) (by simpa using hq)
   simp at h
theorem ZmQ{t e:TypeId}{m:Nat}(hu:P.underlying t=sO (.array m e)):∀(is:List Nat) (pl:List (Nat×Nat)),K5 P t is=sO pl →
  pl.length=is.length∧∀(i k:Nat) (q:Nat×Nat),is[i]?=sO k→pl[i]?=sO q→∃n,ZW P e=sO n∧q=(k*n,n)
 | [],pl,h=>by simp only[K5,ZEP]at h;subst h;simp
 |k::is,pl,h=>by
  cases hl:K5 P t is with
  |none=>simp[K5,hu,hl]at h
  |some l =>
   simp only[K5,hu,hl,ZE3]at h
   obtain⟨n,hn,rfl⟩:=h
   obtain⟨h1,h2⟩:=ZmQ hu is l hl
   refine⟨by simp[h1],fun i k' q hi hq=>?_⟩
   cases i with
   |zero=>simp at hi hq;subst hi;subst hq;exact⟨n,hn,rfl⟩
   |succ i=>exact h2 i k' q (by simpa using hi) (by simpa using hq)
theorem ZkM:∀(fs:List Field),(fs.all fun f=>(ZW P f.type).isSome)=true →
  ∃pl,fs.mapM (fun f=>(P.info? f.type).map fun i=>(f.offset,i.size))=sO pl∧∀(k:Nat) (f:Field) (n:Nat),fs[k]?=sO f→ZW P f.type=sO n→pl[k]?=sO (f.offset,n)
 | [],_=>⟨[],by simp,by simp⟩
 |f::fs,h=>by
  simp only[List.all_cons,ZEY]at h
  obtain⟨pl,h1,h2⟩:=ZkM fs h.2
  unfold ZW at h
  cases hi:P.info? f.type with
  |none=>simp[hi]at h
  |some i =>
   refine⟨(f.offset,i.size)::pl,by simp[List.mapM_cons,hi,h1],fun k f' n hk hn=>?_⟩
   cases k with
   |zero =>
    simp at hk;subst hk
    simp only[ZW,hi,ZFl,ZEP]at hn
    subst hn;rfl
   |succ k=>simpa using h2 k f' n (by simpa using hk) hn
theorem Zxc{t:TypeId}{parts:List (Nat×Value)}{z:Value}{pl:List (Nat×Nat)}{zs ds cs:List D}(hz:(P.info? t).bind (·.zero)=sO z)(hp:K5 P t (parts.map (·.1))=sO pl)(hsz:Zjm P t=true)(hzs:Zbi z.cells.toList=sO zs)(hd:ZH (Rep g w) (parts.map (·.2)) ds)(hf:Zbu zs pl ds=sO cs)(hne:∃d,P.underlying t=sO d∧((∃fs,d=.struct fs)∨∃m e i,d=.array m e∧P.info? e=sO i)):
  ∃cv,(Instr.build t parts.toArray).run P w=.ok (.agg cv) w∧Rep g w (.agg cv) (.agg cs):=by
 obtain⟨d,hu,ai⟩:=hne
 obtain⟨c1,c2⟩:=Zdl (g:=g) (w:=w) hzs
 have ad:∀v∈z.cells,v.one1=true:=fun v hv=>c2 v (Array.mem_toList_iff.2 hv)
 cases ab:P.info? t with
 |none=>simp[ab]at hz
 |some it =>
  simp only[ab,Option.bind_some]at hz
  rcases ai with ⟨fs,rfl⟩|⟨m,e,i,rfl,hi⟩
  ·simp only[Zjm,hu]at hsz
   obtain⟨af,hm,ac⟩:=ZkM (P:=P) fs.toList hsz
   obtain⟨h1,h2⟩:=Zpi hu _ _ hp
   obtain⟨cv,c,u,y⟩:=Zgl (g:=g) (w:=w) (af.toArray[·]?) parts pl ds cs zs z.cells (fun i x q hx hq=>by
    obtain⟨f,ag,ah,ae⟩:=h2 i x.1 q (by simp[hx]) hq
    have:=ac x.1 f q.2 (by simpa using ag) ah
    simp only[List.getElem?_toArray,this,ae]) (by simpa using h1.symm) hd c1 ad hf
   refine⟨cv,run_build w t _ cv ?_,Zj3 u y⟩
   simp only[Program.built,ab,hu,hz,hm]
   exact c
  obtain⟨h1,h2⟩:=ZmQ hu _ _ hp
  obtain⟨cv,c,u,y⟩:=Zgl (g:=g) (w:=w) (fun k=>sO (k*i.size,i.size)) parts pl ds cs zs z.cells (fun j x q hx hq=>by
   obtain⟨n,hn,rfl⟩:=h2 j x.1 q (by simp[hx]) hq
   simp only[ZW,hi,ZFl,ZEP]at hn
   rw[hn]) (by simpa using h1.symm) hd c1 ad hf
  refine⟨cv,run_build w t _ cv ?_,Zj3 u y⟩
  simp only[Program.built,ab,hu,hz,hi]
  exact c
end
section
variable {P:Program} {g:G} {ν:Nat→Nat} {w:World} {L:Loc} {σ:St}
theorem Wv{α β:Type}{R:α→β→Prop}{a:α}{bs:List β}(h:ZH R [a] bs):∃b,bs=[b]∧R a b:=by
 cases h with
 |cons h t=>cases t;exact⟨_,rfl,h⟩
theorem JT{α β:Type}{R:α→β→Prop}{a a':α}{bs:List β}(h:ZH R [a,a'] bs):∃b b',bs=[b,b']∧R a b∧R a' b':=by
 cases h with
 |cons h t=>obtain⟨b',rfl,h'⟩:=Wv t;exact⟨_,_,rfl,h,h'⟩
theorem Zg4:∀(ns:List Int) (s:ByteArray),(ns.foldl (fun r n=>r.push (UInt8.ofNat n.toNat)) s).data.toList=s.data.toList++ns.map fun n=>UInt8.ofNat n.toNat
 | [],s=>by simp
 |n::ns,s=>by rw[List.foldl_cons,Zg4 ns];simp
theorem Zs2{t:TypeId}{x:Value}{e r:E}(ha:JS P t=sO false)(hx:ZI g ν w L x e)(hL:∀l cs,Zg L l=sO cs→Y0 g w (ν l) cs)(hS:Ym g σ w)(hq:qv L σ .load1 [e]=sO (side,r)):∃v,(Instr.loadAt t x).run P w=.ok v w∧ZI g ν w L v r:=by
 simp only[qv,ZE3]at hq
 obtain⟨d,hd,rfl,rfl⟩:=hq
 obtain⟨b,o,y,rfl,hy,hr,_⟩:=Zl3 hL hS hx hd
 exact⟨y,by simp[Instr.loadAt,Instr.sureAddr,loadVar,ZdR ha,hy],hr⟩
theorem Zs3{t:TypeId}{n:Nat}{x:Value}{e r:E}(ha:JS P t=sO true)(hsz:ZW P t=sO n)(hx:ZI g ν w L x e)(hL:∀l cs,Zg L l=sO cs→Y0 g w (ν l) cs)(hS:Ym g σ w)(hq:qv L σ (.loadN n) [e]=sO (side,r))(hs:side):∃v,(Instr.loadAt t x).run P w=.ok v w∧ZI g ν w L v r:=by
 simp only[qv,ZE3]at hq
 obtain⟨⟨s',ds⟩,hd,rfl,rfl⟩:=hq
 obtain⟨a,rfl,vs,c,hr⟩:=ZmP (P:=P) hL hS hx hd hs
 exact⟨.agg vs.toArray,by simp[Instr.loadAt,Instr.sureAddr,loadVar,Zfd ha,YO hsz,c],hr⟩
theorem ZyE{b o n cap:Nat}{cs:List D}{v:Value}(hS:Ym g σ w)(hv:Rep g w v (.msl b o n cap 1))(hcs:Yj σ b=sO cs)(hlen:o+n≤cs.length)(hu:∀i,i<n→ZnY (part cs (o+i) 1)):
  ∃x:Value,(Conv.bytesToString v).run P w=.ok x w∧Rep g w x (.str ((ZE4 n).map fun i=>Zcy (part cs (o+i) 1))):=by
 have t:∀c,n≤c→c≤big→∃x:Value,(Conv.bytesToString (.slice (sO ⟨b,o,nO⟩) n c)).run P w=.ok x w∧Rep g w x (.str ((ZE4 n).map fun i=>Zcy (part cs (o+i) 1))):=by
  intro c h1 h2
  obtain⟨vs,hr,hp⟩:=ZeH (P:=P) (Ja hS hcs) hlen
  have y:vs=((ZE4 n).map fun i=>((Zcy (part cs (o+i) 1)).toNat:Int)).map (Value.int .u8):=by
   generalize j:part cs o n=pc at hp
   have hpl:pc.length=n:=by rw[←j];simp[part];omega
   cases hp with
   |agg vs' _ hn hg _ =>
   apply List.ext_getElem?
   intro i
   by_cases hi:i<n
   ·have hvi:i<vs.length:=by omega
    obtain⟨m,hm⟩:=hu i hi
    have u:cs[o+i]?=sO (.int .u8 m):=by
     have:=congrArg (fun l=>l[0]?) hm
     simpa[part]using this
    have ab:pc[i]?=sO (.int .u8 m):=by
     rw[←j];simp[part,hi];exact u
    have:=hg i vs[i] _ (by grind) ab
    simp_all
    generalize vs[i]=xv at this
    cases this
    rename_i z
    simp[hi,Zcy]
    simp[inR,IntKind.min,IntKind.max,IntKind.signed,IntKind.bits]at z
    omega
   simp_all
  refine⟨_,run_bytesToString w _ _ c _ (by rw[hr,y]),.str _ _ ?_ (by grind)⟩
  rw[Zg4]
  simp
 cases hv with
 |msl _ _ _ _ _ h hb=>exact t cap h hb
 |mslx a=>exact⟨.string .empty,by simp[Conv.bytesToString,loadCells,loadCellsFrom],.str _ _ rfl (by simp)⟩
theorem Zu9{s d:TypeId}{c:Cv}{x:Value}{e r:E}(hS:Ym g σ w)(hc:Zue P s d=sO c)(hx:ZI g ν w L x e)(hq:qv L σ (.conv c) [e]=sO (side,r))(hs:side):
  ∃v,(convert s d x).run P w=.ok v w∧ZI g ν w L v r:=by
 unfold Zue at hc
 split at hc<;>(try(simp at hc;done))
 ·rename_i k0 k h1 h2
  cases hc
  cases e with
  |d y =>
   cases y<;>simp only[qv,reduceCtorEq]at hq
   rename_i k' n
   cases hx
   rename_i hn
   split at hq
   ·rename_i hk;subst hk
    cases hq
    exact⟨.int k n,by simp[convert,run_underlying h1,run_underlying h2,Conv.intToInt,Zae _ _ hn],.int _ _ hn⟩
   cases hq
   exact⟨.int k (k.wrap n),by simp[convert,run_underlying h1,run_underlying h2,Conv.intToInt],.int _ _ (Zkf _ _)⟩
  |loc l o=>simp[qv]at hq
  |when b e=>simp[qv]at hq
 ·rename_i k0 h1 h2
  cases hc
  cases e with
  |d y =>
   cases y<;>simp only[qv,reduceCtorEq]at hq
   rename_i k' n
   cases hx
   cases hq
   exact⟨.string (Utf8.encode n),by simp[convert,run_underlying h1,run_underlying h2,Conv.intToString],.str _ _ rfl hs⟩
  |loc l o=>simp[qv]at hq
  |when b e=>simp[qv]at hq
 ·rename_i h1 h2
  cases hc
  cases e with
  |d y =>
   cases y<;>simp only[qv,reduceCtorEq]at hq
   cases hq
   cases hx
   rename_i s0 e0 b0
   exact⟨.string s0,by simp[convert,run_underlying h1,run_underlying h2],.str _ _ e0 b0⟩
  |loc l o=>simp[qv]at hq
  |when b e=>simp[qv]at hq
 rename_i el h1 h2
 split at hc<;>(try(simp at hc;done))
 rename_i h3
 cases hc
 cases e with
 |d y =>
  cases y<;>simp only[qv,reduceCtorEq]at hq
  ·cases hq
   cases hx
   exact⟨.string .empty,by simp[convert,run_underlying h1,run_underlying h2,run_underlying h3,Conv.bytesToString],.str _ _ rfl (by simp[big])⟩
  ·split at hq<;>(try(simp at hq;done))
   rename_i t n s row ad
   cases hq
   subst ad
   cases hx with
   |sl0 av=>exact⟨.string .empty,by cases av<;>simp[convert,run_underlying h1,run_underlying h2,run_underlying h3,Conv.bytesToString,loadCells,loadCellsFrom],.str _ _ rfl (by simp[big])⟩
   |sl b o _ ac _ _ _ f hl hc hp hr one ht hcap hb =>
    have hf:∀i,i<n→f i 0=.int .u8 ((Zcy (row i)).toNat:Int):=fun i hi=>by
     obtain⟨m,hm⟩:=hs i hi
     have:=hr i 0 _ hi (by rw[hm];rfl)
     generalize f i 0=fv at this
     cases this
     rename_i af
     rw[hm];simp only[Zcy]
     congr 1
     simp[inR,IntKind.min,IntKind.max,IntKind.signed,IntKind.bits]at af
     simp;omega
    have u:(loadCells ⟨b,o,nO⟩ n).run P w=.ok (((ZE4 n).map fun i=>((Zcy (row i)).toNat:Int)).map (Value.int .u8)).toArray w:=by
     rw[run_loadCells (P:=P) w ⟨b,o,nO⟩ n (fun i=>f i 0) (fun j hj=>by
      have:=hc j 0 hj (by omega)
      rw[Ka];simpa using this)]
     congr 2
     rw[List.map_map]
     exact List.map_congr_left fun i hi=>hf i (by simpa using hi)
    refine⟨_,by simp[convert,run_underlying h1,run_underlying h2,run_underlying h3,run_bytesToString w _ _ ac _ u];rfl,.str _ _ ?_ (by simp;omega)⟩
    rw[Zg4]
    simp[List.map_map,Function.comp_def]
  split at hq<;>(try(simp at hq;done))
  rename_i b o n ac z cs ae
  split at hq<;>(try(simp at hq;done))
  rename_i hz
  cases hq
  subst hz
  obtain⟨xv,hr,hp⟩:=ZyE (P:=P) hS hx ae hs.1 hs.2
  have ab:(convert s d x).run P w=(Conv.bytesToString x).run P w:=by cases hx<;>simp[convert,run_underlying h1,run_underlying h2,run_underlying h3]
  exact⟨xv,ab.trans hr,hp⟩
 |loc l o=>simp[qv]at hq
 |when b e=>simp[qv]at hq
end
section
variable {P:Program} {g:G} {ν:Nat→Nat} {w:World} {L:Loc}
theorem K6{v:Value}{k:IntKind}{n:Int}(h:Rep g w v (.int k n)):v=.int k n∧inR k n:=by
 cases h with
 |int _ _ h=>exact⟨rfl,h⟩
theorem ZcD{x:Value}{k:IntKind}{n:Int}(h:Rep g w x (.int k n)){y:Nat}{code:BoundsCode}(h0:0≤n)(h1:n≤y):
  (Instr.sliceBound x y code).run P w=.ok n.toNat w:=by
 obtain⟨rfl,_⟩:=K6 h
 simp[Instr.sliceBound,asIntOf,h0,h1]
def Jp(g:G)(w:World):Option Value→Option Int→Prop
 |none,nO=>True
 |some v,sO n=>∃k,Rep g w v (.int k n)
 |_,_=>False
theorem ZaE{is:Bool}{n cap:Nat}{lo hi mx:Option Value}{lo' hi' mx':Option Int}(h1:Jp g w lo lo')(h2:Jp g w hi hi')(h3:Jp g w mx mx')(hmh:mx.isSome=true→hi.isSome=true)(a:0≤lo'.getD 0)(b:lo'.getD 0≤hi'.getD n)(c:hi'.getD n≤mx'.getD cap)(d:mx'.getD cap≤cap):
  (Instr.sliceBounds is n cap lo hi mx).run P w=.ok ((lo'.getD 0).toNat,(hi'.getD n).toNat,(mx'.getD cap).toNat) w:=by
 cases mx with
 |none =>
  cases mx' with
  |some _=>exact h3.elim
  |none =>
   cases hi with
   |none =>
    cases hi' with
    |some _=>exact h2.elim
    |none =>
     cases lo with
     |none =>
      cases lo' with
      |some _=>exact h1.elim
      |none=>simp[Instr.sliceBounds]
     |some lv =>
      cases lo' with
      |none=>exact h1.elim
      |some l =>
       obtain⟨k,hk⟩:=h1
       simp[Instr.sliceBounds,ZcD hk a b]
   |some hv =>
    cases hi' with
    |none=>exact h2.elim
    |some hh =>
     obtain⟨k2,i⟩:=h2
     simp at b c⊢
     have bo:=ZcD (P:=P) i (y:=cap) (code:=if is then .sliceAcap else .sliceAlen) (by omega) c
     cases lo with
     |none =>
      cases lo' with
      |some _=>exact h1.elim
      |none=>simp[Instr.sliceBounds,bo]
     |some lv =>
      cases lo' with
      |none=>exact h1.elim
      |some l =>
       obtain⟨k,hk⟩:=h1
       simp at a b⊢
       have bl:=ZcD (P:=P) hk (y:=hh.toNat) (code:=.sliceB) a (by omega)
       simp[Instr.sliceBounds,bo,bl]
 |some mv =>
  cases mx' with
  |none=>exact h3.elim
  |some m =>
   obtain⟨k3,j⟩:=h3
   cases hi with
   |none=>grind
   |some hv =>
    cases hi' with
    |none=>exact h2.elim
    |some hh =>
     obtain⟨k2,i⟩:=h2
     simp at b c⊢
     have bm:=ZcD (P:=P) j (y:=cap) (code:=if is then .slice3Acap else .slice3Alen) (by omega) d
     have bo:=ZcD (P:=P) i (y:=m.toNat) (code:=.slice3B) (by omega) (by omega)
     cases lo with
     |none =>
      cases lo' with
      |some _=>exact h1.elim
      |none=>simp[Instr.sliceBounds,bo,bm]
     |some lv =>
      cases lo' with
      |none=>exact h1.elim
      |some l =>
       obtain⟨k,hk⟩:=h1
       simp at a b⊢
       have bl:=ZcD (P:=P) hk (y:=hh.toNat) (code:=.slice3C) a (by omega)
       simp[Instr.sliceBounds,bo,bm,bl]
theorem Zyh{t e:TypeId}{s:Nat}(hu:P.underlying t=sO (.slice e))(hsz:ZW P e=sO s){x:Value}{d r:D}(hx:Rep g w x d){lo hi mx:Option Value}{lo' hi' mx':Option Int}(h1:Jp g w lo lo')(h2:Jp g w hi hi')(h3:Jp g w mx mx')(hmh:mx.isSome=true→hi.isSome=true)(hq:ZaU s lo' hi' mx' d=sO (side,r))(hs:side):
  ∃v,(Instr.sliceAt t x lo hi mx).run P w=.ok v w∧Rep g w v r:=by
 cases d<;>simp only[ZaU,reduceCtorEq]at hq
 ·
  simp only[ZEP,ZE2]at hq
  obtain⟨rfl,rfl⟩:=hq
  cases hx
  obtain⟨e1,e2,e3⟩:=hs
  refine⟨.slice nO 0 0,?_,.nilsl⟩
  have hb:=ZaE (P:=P) (is:=true) (n:=0) (cap:=0) h1 h2 h3 hmh (by omega) (by simp[e1,e2]) (by simp[e2,e3]) (by simp[e3])
  simp only[Instr.sliceAt,Sem.run_bind,run_underlying hu,Result.andThen_ok,Instr.slice,hb]
  simp[e1,e2,e3,YO hsz]
 ·
  rename_i t n s' row
  split at hq<;>(try(simp at hq;done))
  rename_i ae
  subst ae
  simp only[ZEP,ZE2]at hq
  obtain⟨rfl,rfl⟩:=hq
  obtain⟨a,b,c,d⟩:=hs
  have mk:∀(cap:Nat),n≤cap→hi'.getD n≤mx'.getD cap∧mx'.getD cap≤cap:=fun cap y=>by
   cases mx' with
   |none=>simp only[Option.getD_none];omega
   |some m=>have:=d m rfl;simp only[ZFs];omega
  cases hx with
  |sl0 av _ _ _ ht =>
   have hb:=ZaE (P:=P) (is:=true) (n:=0) (cap:=0) h1 h2 h3 hmh a b (mk 0 (ZE6 _)).1 (mk 0 (ZE6 _)).2
   have e2:hi'.getD ((0:Nat):Int)=0:=by omega
   have e1:lo'.getD 0=0:=by omega
   have e3:mx'.getD ((0:Nat):Int)=0:=by have:=mk 0 (ZE6 _);omega
   simp only[Int.natCast_zero]at e2 e3
   refine⟨.slice av 0 0,?_,?_⟩
   ·cases av<;>simp only[Instr.sliceAt,Sem.run_bind,run_underlying hu,Result.andThen_ok,Instr.slice,hb]
    all_goals simp[e1,e2,e3,YO hsz]
   have:(hi'.getD ((0:Nat):Int)-lo'.getD 0).toNat=0:=by simp[e1,e2]
   rw[this]
   refine .sl0 av _ _ _ ?_
   intro b hb
   cases mx' with
   |some m=>simp only[ZbB]at hb;split at hb<;>simp at hb
   |none =>
    simp only[ZbB]at hb
    split at hb
    ·cases t with
     |tip b'=>exact absurd rfl (ht b')
     |_=>simp at hb
    simp at hb
  |sl bb o _ cap _ _ _ f hl hc hp hr one ht y hbig =>
   have hb:=ZaE (P:=P) (is:=true) (n:=n) (cap:=cap) h1 h2 h3 hmh a b (mk cap y).1 (mk cap y).2
   have hm:=mk cap y
   simp only[Instr.sliceAt,Sem.run_bind,run_underlying hu,Result.andThen_ok,Instr.slice,hb]
   simp only[YO hsz,Result.andThen_ok,Sem.run_pure]
   generalize aj:lo'.getD 0=l at *
   generalize ak:hi'.getD (n:Int)=h at *
   obtain⟨l,rfl⟩:=Int.eq_ofNat_of_zero_le a
   obtain⟨h,rfl⟩:=Int.eq_ofNat_of_zero_le (show 0≤h by omega)
   generalize af:mx'.getD (cap:Int)=m at *
   obtain⟨m,rfl⟩:=Int.eq_ofNat_of_zero_le (show 0≤m by omega)
   simp only[Int.toNat_natCast]
   refine⟨_,rfl,?_⟩
   have ah:((h:Int)-(l:Int)).toNat=h-l:=by omega
   rw[ah]
   have hle:h≤n:=by omega
   have hlh:l≤h:=by omega
   have hhm:h≤m:=by omega
   have hmc:m≤cap:=by omega
   generalize u:ZbB t n l h mx'=tk
   have ac:∀o',(l=0→o'=o)→ZjM w tk bb o' (h-l) (m-l) s':=by
    intro o' ai
    cases mx' with
    |some m' =>
     simp only[ZbB]at u
     simp only[ZFs]at af
     split at u
     ·subst u;simp only[ZjM];omega
     subst u;trivial
    |none =>
     simp only[ZbB]at u
     simp only[Option.getD_none]at af
     have ag:m=cap:=by omega
     split at u
     ·rename_i hhn'
      cases t with
      |none=>simp only at u;subst u;trivial
      |full=>simp only at u;subst u;simp only[ZjM]at ht⊢;omega
      |tip b' =>
       simp only at u
       split at u
       ·rename_i hl0
        subst u
        obtain⟨t1,t2,t3⟩:=ht
        have ad:l=0:=by omega
        exact⟨t1,(ai ad).trans t2,by rw[ag,ad];simpa using t3⟩
       subst u;trivial
     subst u;trivial
   by_cases z:m=l
   ·simp only[z,if_true]
    have hh:h-l=0:=by omega
    rw[hh,Nat.sub_self]
    have ab:=ac o (fun _=>rfl)
    rw[hh,z,Nat.sub_self]at ab
    exact .sl bb o 0 0 s' _ tk (fun _ _=>undef) (fun i hi=>by omega) (fun i j hi=>by omega) (fun i j hi=>by omega) (fun i j d hi=>by omega) (fun i j hi=>by omega) ab (by omega) (by omega)
   simp only[z,if_false,ZFl,Ka]
   refine .sl bb (o+l*s') (h-l) (m-l) s' _ tk (fun i j=>f (l+i) j) (fun i hi=>hl _ (by omega)) (fun i j hi hj=>?_) (fun i j hi hj=>?_) (fun i j d hi hd=>hr _ _ _ (by omega) hd)
    (fun i j hi hj=>one _ _ (by omega) hj) (ac _ (fun h0=>by rw[h0];simp)) (by omega) (by omega)
   ·have:=hc (l+i) j (by omega) hj
    rw[show o+l*s'+i*s'+j=o+(l+i)*s'+j from by rw[ZFk];omega];exact this
   have:=hp (l+i) j (by omega) hj
   rw[show o+l*s'+i*s'+j=o+(l+i)*s'+j from by rw[ZFk];omega];exact this
 ·
  rename_i bb o n cap s'
  split at hq<;>(try(simp at hq;done))
  rename_i ae
  subst ae
  simp only[ZEP,ZE2]at hq
  obtain⟨rfl,rfl⟩:=hq
  obtain⟨a,b,c,d⟩:=hs
  cases hx with
  |mslx av _ _ _ =>
   have hb:=ZaE (P:=P) (is:=true) (n:=0) (cap:=0) h1 h2 h3 hmh a b c d
   have e3:mx'.getD ((0:Nat):Int)=0:=by omega
   have e2:hi'.getD ((0:Nat):Int)=0:=by omega
   have e1:lo'.getD 0=0:=by omega
   refine⟨.slice (sO av) 0 0,?_,?_⟩
   ·simp only[Instr.sliceAt,Sem.run_bind,run_underlying hu,Result.andThen_ok,Instr.slice,hb]
    simp only[Int.natCast_zero]at e2 e3
    simp[e1,e2,e3,YO hsz]
   rw[e1,e2,e3];exact .mslx _ _ _ _
  |msl _ _ _ _ _ hn hb' =>
   have hb:=ZaE (P:=P) (is:=true) (n:=n) (cap:=cap) h1 h2 h3 hmh a b c d
   simp only[Instr.sliceAt,Sem.run_bind,run_underlying hu,Result.andThen_ok,Instr.slice,hb]
   simp only[YO hsz,Result.andThen_ok,Sem.run_pure]
   generalize aj:lo'.getD 0=l at *
   generalize ak:hi'.getD (n:Int)=h at *
   generalize af:mx'.getD (cap:Int)=m at *
   obtain⟨l,rfl⟩:=Int.eq_ofNat_of_zero_le a
   obtain⟨h,rfl⟩:=Int.eq_ofNat_of_zero_le (show 0≤h by omega)
   obtain⟨m,rfl⟩:=Int.eq_ofNat_of_zero_le (show 0≤m by omega)
   simp only[Int.toNat_natCast,show((h:Int)-(l:Int)).toNat=h-l by omega,show((m:Int)-(l:Int)).toNat=m-l by omega]
   refine⟨_,rfl,?_⟩
   by_cases z:m=l
   ·subst z
    simp only[if_true]
    exact .msl _ _ _ _ _ (by omega) (by omega)
   have:¬(m:Int)=l:=by omega
   simp only[z,this,if_false,ZFl,Ka]
   exact .msl _ _ _ _ _ (by omega) (by omega)
end
section
variable {P:Program} {g:G} {ν:Nat→Nat} {w:World} {L:Loc} {σ:St}
theorem Zpv{s:TypeId}{k:Nat}{f:Field}(h:Zgk P s k=sO f):∃fs,P.underlying s=sO (.struct fs)∧fs[k]?=sO f:=by
 unfold Zgk at h
 split at h
 ·rename_i fs hu;exact⟨fs,hu,h⟩
 simp at h
theorem Zs0{s:TypeId}{k n:Nat}{f:Field}{x:Value}{e r:E}(hf:Zgk P s k=sO f)(hsz:ZW P f.type=sO n)(hn:n≠0)(hx:ZI g ν w L x e)(hq:qv L σ (.faddr f.offset) [e]=sO (side,r)):∃v,(Instr.fieldAt s x k).run P w=.ok v w∧ZI g ν w L v r:=by
 obtain⟨fs,hu,hk⟩:=Zpv hf
 have run:∀b o,(Instr.fieldAt s (.pointer (sO ⟨b,o,nO⟩)) k).run P w=.ok (.pointer (sO ⟨b,o+f.offset,nO⟩)) w:=fun b o=>by
  simp[Instr.fieldAt,run_underlying hu,hk,Instr.sureAddr,fieldPlace,YO hsz,hn,Ka]
 cases e with
 |d y =>
  cases y<;>simp only[qv,reduceCtorEq,ZEP,ZE2]at hq
  ·rename_i cells off
   obtain⟨rfl,rfl⟩:=hq
   cases hx with
   |ep b o _ _ f' h1 h2 h3 one =>
    have:=Rep.ep (g:=g) (w:=w) b o (off+f.offset) cells f' h1 h2 h3 one
    exact⟨_,run _ _,by rw[Nat.add_assoc];exact this⟩
  obtain⟨rfl,rfl⟩:=hq
  cases hx
  exact⟨_,run _ _,.ptr _ _⟩
 |loc l o =>
  simp only[qv,ZEP,ZE2]at hq
  obtain⟨rfl,rfl⟩:=hq
  obtain⟨h1,rfl⟩:=hx
  exact⟨_,run _ _,h1,rfl⟩
 |when b e=>simp[qv]at hq
theorem Zs1{t e:TypeId}{n:Nat}{x i:Value}{ex ei r:E}(hu:P.underlying t=sO (.slice e))(hsz:ZW P e=sO n)(hx:ZI g ν w L x ex)(hi:ZI g ν w L i ei)(hq:qv L σ (.iaddr n) [ex,ei]=sO (side,r))(hs:side):∃v,(Instr.indexAt t x i).run P w=.ok v w∧ZI g ν w L v r:=by
 cases ex with
 |d y =>
  cases y<;>(try(simp[qv]at hq;done))
  ·rename_i tk m s' row
   cases ei with
   |d z =>
    cases z<;>simp only[qv,reduceCtorEq]at hq
    rename_i k j
    obtain⟨rfl,ae⟩:=K6 hi
    split at hq<;>(try(simp at hq;done))
    rename_i ac;subst ac
    simp only[ZEP,ZE2]at hq
    obtain⟨rfl,rfl⟩:=hq
    obtain⟨h0,h1⟩:=hs
    cases hx with
    |sl0=>omega
    |sl b o _ ad _ _ _ f hl hc hp hr one ht hcap hbig =>
     have ab:j.toNat<m:=by omega
     have:=Rep.ep (g:=g) (w:=w) b (o+j.toNat*s') 0 (row j.toNat) (fun c=>f j.toNat c) (fun c u=>by
      rw[hl _ ab]at u;exact hc _ _ ab u) (fun c u=>by rw[hl _ ab]at u;exact hp _ _ ab u) (fun c d hd=>hr _ _ _ ab hd) (fun c u=>by rw[hl _ ab]at u;exact one _ _ ab u)
     refine⟨_,?_,this⟩
     simp[Instr.indexAt,asIntOf,run_underlying hu,h0,h1,YO hsz,Ka]
   |loc l o=>simp[qv]at hq
   |when b e=>simp[qv]at hq
  rename_i b o m ad s'
  cases ei with
  |d z =>
   cases z<;>simp only[qv,reduceCtorEq]at hq
   rename_i k j
   obtain⟨rfl,ae⟩:=K6 hi
   split at hq<;>(try(simp at hq;done))
   rename_i ac;subst ac
   simp only[ZEP,ZE2]at hq
   obtain⟨rfl,rfl⟩:=hq
   obtain⟨h0,h1⟩:=hs
   cases hx<;>try omega
   refine⟨_,?_,Rep.ptr b (o+j.toNat*s')⟩
   simp[Instr.indexAt,asIntOf,run_underlying hu,h0,h1,YO hsz,Ka]
  |loc l o=>simp[qv]at hq
  |when b e=>simp[qv]at hq
 |loc l o=>cases ei<;>simp[qv]at hq
 |when b e=>cases ei<;>simp[qv]at hq
theorem Zsg{t e:TypeId}{m n:Nat}{x i:Value}{ex ei r:E}(hu:P.underlying t=sO (.array m e))(hsz:ZW P e=sO n)(hx:ZI g ν w L x ex)(hi:ZI g ν w L i ei)(hq:qv L σ (.iaddrA m n) [ex,ei]=sO (side,r))(hs:side):∃v,(Instr.indexAt t x i).run P w=.ok v w∧ZI g ν w L v r:=by
 cases ei with
 |d z =>
  cases z<;>(try(cases ex<;>(try(rename_i y;cases y))<;>simp[qv]at hq;done))
  rename_i k j
  obtain⟨rfl,hin⟩:=K6 hi
  have run:∀b o,(0≤j∧j<(m:Int))→(Instr.indexAt t (.pointer (sO ⟨b,o,nO⟩)) (.int k j)).run P w=.ok (.pointer (sO ⟨b,o+j.toNat*n,nO⟩)) w:=fun b o h=>by
   simp[Instr.indexAt,asIntOf,run_underlying hu,h.1,h.2,YO hsz,Ka,Instr.sureAddr]
  cases ex with
  |d y =>
   cases y<;>simp only[qv,reduceCtorEq,ZEP,ZE2]at hq
   ·rename_i cells off
    obtain⟨rfl,rfl⟩:=hq
    cases hx with
    |ep b o _ _ f' h1 h2 h3 one =>
     have:=Rep.ep (g:=g) (w:=w) b o (off+j.toNat*n) cells f' h1 h2 h3 one
     exact⟨_,run _ _ hs,by rw[Nat.add_assoc];exact this⟩
   rename_i b o
   obtain⟨rfl,rfl⟩:=hq
   cases hx
   exact⟨_,run _ _ hs,Rep.ptr _ _⟩
  |loc l o =>
   simp only[qv,ZEP,ZE2]at hq
   obtain⟨rfl,rfl⟩:=hq
   obtain⟨h1,rfl⟩:=hx
   exact⟨_,run _ _ hs,h1,rfl⟩
  |when b e=>simp[qv]at hq
 |loc l o=>cases ex<;>(try(rename_i y;cases y))<;>simp[qv]at hq
 |when b e=>cases ex<;>(try(rename_i y;cases y))<;>simp[qv]at hq
theorem ev{s:Sem Value}{e:E}(h:∃v,s.run P w=.ok v w∧ZI g ν w L v e):
  ∃v,(do pure (Next.value (←s)):Sem Next).run P w=.ok (.value v) w∧ZI g ν w L v e:=Zw7.next h
theorem Zs4{x:Value}{e r:E}{op:Operand}{ρv:Operand→Value}(hv:ρv op=x)(hx:ZI g ν w L x e)(hq:qv L σ .nilck [e]=sO (side,r))(dst:Option Nat)(ty:TypeId)(pos:String)(af:Array Edge)(gd:Option (Nat×Bool)):∃v,(execOp ρv ⟨dst,.nilCheck op,ty,pos,af,gd⟩).run P w=.ok (.value v) w∧ZI g ν w L v r:=by
 subst hv
 cases e with
 |d y =>
  cases y<;>simp only[qv,reduceCtorEq,ZEP,ZE2]at hq
  ·obtain⟨rfl,rfl⟩:=hq
   refine⟨_,?_,hx⟩
   have c:Rep g w (ρv op) _:=hx
   generalize hz:ρv op=z at c
   cases c
   simp[execOp,hz]
  ·obtain⟨rfl,rfl⟩:=hq
   refine⟨_,?_,hx⟩
   have c:Rep g w (ρv op) _:=hx
   generalize hz:ρv op=z at c
   cases c
   simp[execOp,hz]
  rename_i fn fs cs
  refine⟨ρv op,?_,?_⟩
  ·have c:Rep g w (ρv op) _:=hx
   generalize hz:ρv op=z at c
   cases c
   cases fn<;>simp at hq
   ·simp[execOp,hz]
   simp[execOp,hz]
  cases fn<;>simp at hq
  ·obtain⟨_,rfl⟩:=hq;exact hx
  obtain⟨_,rfl⟩:=hq;exact hx
 |loc l o =>
  simp only[qv,ZEP,ZE2]at hq
  obtain⟨rfl,rfl⟩:=hq
  refine⟨_,?_,hx⟩
  obtain⟨_,h2⟩:=hx
  simp[execOp,h2]
 |when b e=>simp[qv]at hq
end
section
variable {P:Program} {g:G} {ν:Nat→Nat} {w:World} {L:Loc} {σ:St}
theorem ZgS{ρv:Operand→Value}{lo hi mx:Option Operand}{es:List E}{l h m:Option Int}(hes:ZH (ZI g ν w L) ((QL lo++QL hi++QL mx).map ρv) es)(hl:WE [lo.isSome,hi.isSome,mx.isSome] es=sO [l,h,m]):Jp g w (lo.map ρv) l∧Jp g w (hi.map ρv) h∧Jp g w (mx.map ρv) m:=by
 have step:∀(o:Option Operand) (rest:List Operand) (es:List E) (bs:List Bool) (r:List (Option Int)),ZH (ZI g ν w L) ((QL o++rest).map ρv) es→WE (o.isSome::bs) es=sO r →
   ∃x r' es',r=x::r'∧Jp g w (o.map ρv) x∧WE bs es'=sO r'∧ZH (ZI g ν w L) (rest.map ρv) es':=by
  intro o rest es bs r hes hl
  cases o with
  |none =>
   simp only[Option.isSome_none,WE,ZE3]at hl
   obtain⟨r',i,rfl⟩:=hl
   exact⟨nO,r',es,rfl,trivial,i,by simpa[QL]using hes⟩
  |some x =>
   simp only[QL,Option.toList_some,List.singleton_append,ZE7]at hes
   cases hes with
   |cons hx ht =>
    rename_i e es
    cases e with
    |d y =>
     cases y<;>simp only[Option.isSome_some,WE,reduceCtorEq,ZE3]at hl
     obtain⟨r',i,rfl⟩:=hl
     exact⟨_,r',es,rfl,⟨_,hx⟩,i,ht⟩
    |loc l o=>simp[WE]at hl
    |when c e=>simp[WE]at hl
 rw[ZFt]at hes
 obtain⟨x,r1,v,e1,b1,t,j⟩:=step lo _ es _ _ hes hl
 obtain⟨y,r2,u,e2,b2,ab,n⟩:=step hi _ v _ _ j t
 obtain⟨z,r3,es3,e3,b3,hl3,hes3⟩:=step mx [] u _ _ (by simpa using n) ab
 subst e2;subst e3
 simp only[List.cons.injEq]at e1
 obtain⟨rfl,rfl,rfl,rfl⟩:=e1
 exact⟨b1,b2,b3⟩
theorem Zj5{v:Value}{l:List UInt8}(h:Rep g w v (.str l)):∃s:ByteArray,v=.string s∧s.data.toList=l∧l.length≤big:=by
 cases h with
 |str s _ h hb=>exact⟨s,rfl,h,hb⟩
theorem ZbJ{v:Value}{b:Bool}(h:Rep g w v (.bool b)):v=.bool b:=by
 cases h;rfl
theorem Zsj{t:TypeId}(hu:P.underlying t=sO .string){ρv:Operand→Value}{x:Operand}{lo hi:Option Operand}{es:List E}(hes:ZH (ZI g ν w L) ((x::(QL lo++QL hi)).map ρv) es){r:E}(hq:qv L σ (.sliceS lo.isSome hi.isSome) es=sO (side,r))(hs:side):
  ∃v,(Instr.sliceAt t (ρv x) (lo.map ρv) (hi.map ρv) nO).run P w=.ok v w∧ZI g ν w L v r:=by
 simp only[ZE7]at hes
 cases hes with
 |cons hx ht =>
  rename_i e es
  cases e with
  |loc l o=>simp[qv]at hq
  |when c e=>simp[qv]at hq
  |d y =>
   cases y<;>(try(simp[qv]at hq;done))
   rename_i s
   simp only[qv]at hq
   split at hq
   ·rename_i l h m hl
    simp only[ZEP,ZE2]at hq
    obtain⟨rfl,rfl⟩:=hq
    obtain⟨b1,b2,b3⟩:=ZgS (mx:=nO) (by simpa[QL]using ht) hl
    obtain⟨a,b,c⟩:=hs
    obtain⟨s0,j,e0,hb0⟩:=Zj5 hx
    have i:s0.size=s.length:=by rw[←e0];rfl
    have hb:=ZaE (P:=P) (is:=false) (n:=s0.size) (cap:=s0.size) (mx:=nO) (mx':=nO) b1 b2 trivial (by simp) a (by rw[i];exact b) (by rw[i];simpa using c) (by simp)
    simp only[Instr.sliceAt,Sem.run_bind,run_underlying hu,Result.andThen_ok,Instr.slice,j]
    simp only[Option.isSome_none,ZFn,if_false,hb,Result.andThen_ok,Sem.run_pure,Sem.run_bind]
    refine⟨_,rfl,.str _ _ ?_ ?_⟩
    ·rw[i]
     simp only[ByteArray.data_extract,Array.toList_extract,List.extract_eq_take_drop,e0]
    simp;omega
   simp at hq
theorem Zs5{t el:TypeId}{n:Nat}(hu:P.underlying t=sO (.slice el))(hsz:ZW P el=sO n){ρv:Operand→Value}{x:Operand}{lo hi mx:Option Operand}{es:List E}(hmh:mx.isSome=true→hi.isSome=true)(hes:ZH (ZI g ν w L) ((x::(QL lo++QL hi++QL mx)).map ρv) es){r:E}(hq:qv L σ (.slice n lo.isSome hi.isSome mx.isSome) es=sO (side,r))(hs:side):
  ∃v,(Instr.sliceAt t (ρv x) (lo.map ρv) (hi.map ρv) (mx.map ρv)).run P w=.ok v w∧ZI g ν w L v r:=by
 simp only[ZE7]at hes
 cases hes with
 |cons hx ht =>
  rename_i e es
  cases e with
  |loc l o=>simp[qv]at hq
  |when c e=>simp[qv]at hq
  |d y =>
   simp only[qv]at hq
   split at hq
   ·rename_i l h m hl
    simp only[ZE3,ZE2]at hq
    obtain⟨⟨s',r'⟩,i,rfl,rfl⟩:=hq
    obtain⟨b1,b2,b3⟩:=ZgS ht hl
    exact Zyh hu hsz hx b1 b2 b3 (by simpa using hmh) i hs
   simp at hq
theorem Zsi{t el:TypeId}{k n:Nat}(hu:P.underlying t=sO (.array k el))(hsz:ZW P el=sO n){ρv:Operand→Value}{x:Operand}{lo hi mx:Option Operand}{es:List E}(hmh:mx.isSome=true→hi.isSome=true)(hes:ZH (ZI g ν w L) ((x::(QL lo++QL hi++QL mx)).map ρv) es){r:E}(hq:qv L σ (.sliceA k n lo.isSome hi.isSome mx.isSome) es=sO (side,r))(hs:side):
  ∃v,(Instr.sliceAt t (ρv x) (lo.map ρv) (hi.map ρv) (mx.map ρv)).run P w=.ok v w∧ZI g ν w L v r:=by
 simp only[ZE7]at hes
 cases hes with
 |cons hx ht =>
  rename_i e es
  cases e with
  |loc l o=>simp[qv]at hq
  |when c e=>simp[qv]at hq
  |d y =>
   cases y<;>(try(simp[qv]at hq;done))
   rename_i b o
   simp only[qv]at hq
   split at hq
   ·rename_i l h m hl
    simp only[ZEP,ZE2]at hq
    obtain⟨rfl,rfl⟩:=hq
    obtain⟨b1,b2,b3⟩:=ZgS ht hl
    obtain⟨h1,h2,h3,h4,h5⟩:=hs
    have hb:=ZaE (P:=P) (is:=false) (n:=k) (cap:=k) b1 b2 b3 (by simpa using hmh) h1 h2 h3 h4
    have u:ρv x=.pointer (sO ⟨b,o,nO⟩):=by
     have z:Rep g w (ρv x) (.ptr b o):=hx
     generalize ρv x=xv at z
     cases z;rfl
    have j:Rep g w (.slice (sO ⟨b,(if m.getD (k:Int)=l.getD 0 then o else o+(l.getD 0).toNat*n),nO⟩) (h.getD (k:Int)-l.getD 0).toNat (m.getD (k:Int)-l.getD 0).toNat)
      (.msl b (if m.getD (k:Int)=l.getD 0 then o else o+(l.getD 0).toNat*n) (h.getD (k:Int)-l.getD 0).toNat (m.getD (k:Int)-l.getD 0).toNat n):=.msl _ _ _ _ _ (by omega) (by omega)
    refine⟨_,?_,j⟩
    have e1:(h.getD (k:Int)-l.getD 0).toNat=(h.getD (k:Int)).toNat-(l.getD 0).toNat:=by omega
    have e2:(m.getD (k:Int)-l.getD 0).toNat=(m.getD (k:Int)).toNat-(l.getD 0).toNat:=by omega
    by_cases hm:m.getD (k:Int)=l.getD 0
    ·have i:(m.getD (k:Int)).toNat=(l.getD 0).toNat:=by omega
     simp only[Instr.sliceAt,u,Instr.sureAddr,Sem.run_bind,run_underlying hu,Result.andThen_ok,Sem.run_pure,hb,YO hsz,hm,if_true,e1,i]
     simp
    have i:¬(m.getD (k:Int)).toNat=(l.getD 0).toNat:=by omega
    simp only[Instr.sliceAt,u,Instr.sureAddr,Sem.run_bind,run_underlying hu,Result.andThen_ok,Sem.run_pure,hb,YO hsz,hm,i,if_false,e1,e2,Ka]
   simp at hq
end
section
variable {P:Program} {g:G} {ν:Nat→Nat} {w:World} {L:Loc} {σ:St}
theorem Zpu{s:TypeId}{k:Nat}{f:Field}{x:Value}{e r:E}{q:Q}(hf:Zgk P s k=sO f)(hq0:(JS P f.type=sO true∧∃n,ZW P f.type=sO n∧q=.fldN f.offset n)∨(JS P f.type=sO false∧q=.fld1 f.offset))(hx:ZI g ν w L x e)(hq:qv L σ q [e]=sO (side,r))(hs:side):∃v,(Instr.field s x k).run P w=.ok v w∧ZI g ν w L v r:=by
 obtain⟨fs,hu,hk⟩:=Zpv hf
 rcases hq0 with ⟨ha,n,hn,rfl⟩|⟨ha,rfl⟩
 ·cases e with
  |d y =>
   cases y<;>simp only[qv,reduceCtorEq,ZEP,ZE2]at hq
   obtain⟨rfl,rfl⟩:=hq
   cases hx with
   |agg vs cells hl h one =>
    rename_i cs
    refine⟨.agg (vs.toArray.extract f.offset (f.offset+n)),?_,?_⟩
    ·simp[Instr.field,run_underlying hu,hk,asAgg,Go.part,Zfd ha,YO hn]
    have:vs.toArray.extract f.offset (f.offset+n)=((vs.drop f.offset).take n).toArray:=by
     apply Array.ext'
     simp[List.extract_eq_take_drop,Nat.add_sub_cancel_left]
    rw[this]
    exact Zj3 (by simpa[part]using((Yh hl h).drop f.offset).take n) (fun v hv=>one v (List.mem_of_mem_drop (List.mem_of_mem_take (by simpa using hv))))
  |loc l o=>simp[qv]at hq
  |when b e=>simp[qv]at hq
 cases e with
 |d y =>
  cases y<;>simp only[qv,reduceCtorEq,ZE3,ZE2]at hq
  obtain⟨d,hd,rfl,rfl⟩:=hq
  cases hx with
  |agg vs cells hl h one =>
   obtain⟨v,hv,hr⟩:=ZbK hl h hd
   exact⟨v,by simp[Instr.field,run_underlying hu,hk,asAgg,Go.part,ZdR ha,hv],hr⟩
 |loc l o=>simp[qv]at hq
 |when b e=>simp[qv]at hq
theorem Zvb{t:TypeId}{x i:Value}{ex ei r:E}(hu:P.underlying t=sO .string)(hx:ZI g ν w L x ex)(hi:ZI g ν w L i ei)(hq:qv L σ .idxS [ex,ei]=sO (side,r))(hs:side):∃v,(Instr.index t x i).run P w=.ok v w∧ZI g ν w L v r:=by
 cases ex with
 |d y =>
  cases y<;>(try(simp[qv]at hq;done))
  rename_i s
  cases ei with
  |d z =>
   cases z<;>simp only[qv,reduceCtorEq,ZEP,ZE2]at hq
   rename_i k j
   obtain⟨rfl,hin⟩:=K6 hi
   obtain⟨s0,rfl,e0,hb⟩:=Zj5 hx
   obtain⟨rfl,rfl⟩:=hq
   obtain⟨h0,h1⟩:=hs
   have hsz:s0.size=s.length:=by rw[←e0];rfl
   have n:j.toNat<s0.size:=by omega
   have c:s0[j.toNat]?=sO (s.getD j.toNat 0):=by
    have h3:j.toNat<s.length:=by omega
    have:s0[j.toNat]?=s0.data.toList[j.toNat]?:=by
     rw[getElem?_pos s0 j.toNat n,Array.getElem?_toList,Array.getElem?_eq_getElem (show j.toNat<s0.data.size from n)]
     rfl
    rw[this,e0]
    simp[ZE8,ZFq h3]
   refine⟨_,?_,.int _ _ (Zrr _)⟩
   simp[Instr.index,asIntOf,run_underlying hu,h0,c]
  |loc l o=>simp[qv]at hq
  |when b e=>simp[qv]at hq
 |loc l o=>cases ei<;>simp[qv]at hq
 |when b e=>cases ei<;>simp[qv]at hq
theorem Zva{t e:TypeId}{m n:Nat}{b:Bool}{x i:Value}{ex ei r:E}(hu:P.underlying t=sO (.array m e))(ha:JS P e=sO b)(hsz:ZW P e=sO n)(hx:ZI g ν w L x ex)(hi:ZI g ν w L i ei)(hq:qv L σ (.idxA m n !b) [ex,ei]=sO (side,r))(hs:side):∃v,(Instr.index t x i).run P w=.ok v w∧ZI g ν w L v r:=by
 cases ex with
 |d y =>
  cases y<;>(try(cases b<;>simp[qv]at hq;done))
  rename_i cs
  cases ei with
  |d z =>
   cases z<;>(try(cases b<;>simp[qv]at hq;done))
   rename_i k j
   obtain⟨rfl,hin⟩:=K6 hi
   cases hx with
   |agg vs _ hn h one =>
   cases b with
   |false =>
    simp only[Bool.not_false,qv,ZE3,ZE2]at hq
    obtain⟨d,hd,rfl,rfl⟩:=hq
    obtain⟨h0,h1⟩:=hs
    obtain⟨v,hv,hr⟩:=ZbK hn h hd
    refine⟨v,?_,hr⟩
    simp only[Instr.index,asIntOf,Sem.run_bind,Sem.run_pure,Result.andThen_ok,run_underlying hu,YO hsz]
    rw[if_pos ⟨h0,h1⟩]
    have ab:vs.toArray[j.toNat*n]?=sO v:=by rw[List.getElem?_toArray];exact hv
    rw[Sem.run_bind,YO hsz]
    exact ZcR ha ab
   |true =>
    simp only[Bool.not_true,qv,ZEP,ZE2]at hq
    obtain⟨rfl,rfl⟩:=hq
    obtain⟨h0,h1,h2⟩:=hs
    have hlen:j.toNat*n+n≤vs.length:=by omega
    refine⟨.agg (vs.toArray.extract (j.toNat*n) (j.toNat*n+n)),?_,?_⟩
    ·simp only[Instr.index,asIntOf,Sem.run_bind,Sem.run_pure,Result.andThen_ok,run_underlying hu,YO hsz]
     rw[if_pos ⟨h0,h1⟩]
     simp[Go.part,Zfd ha,YO hsz]
    have:(vs.toArray.extract (j.toNat*n) (j.toNat*n+n))=((vs.drop (j.toNat*n)).take n).toArray:=by
     apply Array.ext'
     simp[List.extract_eq_take_drop]
    rw[this]
    have ac:part cs (j.toNat*n) n=(cs.drop (j.toNat*n)).take n:=rfl
    rw[ac]
    have u:=(Yh hn h).drop (j.toNat*n) |>.take n
    exact .agg _ _ u.len u.get (fun v hv=>one v (List.mem_of_mem_drop (List.mem_of_mem_take hv)))
  |loc l o=>cases b<;>simp[qv]at hq
  |when c e=>cases b<;>simp[qv]at hq
 |loc l o=>cases ei<;>cases b<;>simp[qv]at hq
 |when c e=>cases ei<;>cases b<;>simp[qv]at hq
theorem Zvf{t:TypeId}{ts:Array TypeId}{x:Value}{e r:E}(ht:ts[0]?=sO t)(hu:P.underlying t=sO .string)(hx:ZI g ν w L x e)(hq:qv L σ .lenS [e]=sO (side,r))(ty:TypeId):∃v,(Builtin.len_ ts ty #[x]).run P w=.ok v w∧ZI g ν w L v r:=by
 cases e with
 |d y =>
  cases y<;>simp only[qv,reduceCtorEq,ZEP,ZE2]at hq
  obtain⟨rfl,rfl⟩:=hq
  obtain⟨s0,rfl,e0,hb⟩:=Zj5 hx
  rename_i s
  have c:s0.size=s.length:=by rw[←e0];rfl
  refine⟨_,?_,.int _ _ (KL hb)⟩
  simp[Builtin.len_,ht,run_underlying hu,goInt,c]
 |loc l o=>simp[qv]at hq
 |when b e=>simp[qv]at hq
theorem Zvd{t el:TypeId}{ts:Array TypeId}{x:Value}{e r:E}(ht:ts[0]?=sO t)(hu:P.underlying t=sO (.slice el))(hx:ZI g ν w L x e)(hq:qv L σ .lenL [e]=sO (side,r))(ty:TypeId):∃v,(Builtin.len_ ts ty #[x]).run P w=.ok v w∧ZI g ν w L v r:=by
 cases e with
 |d y =>
  cases y<;>simp only[qv,reduceCtorEq,ZEP,ZE2]at hq
  ·obtain⟨rfl,rfl⟩:=hq
   cases hx
   exact⟨_,by simp[Builtin.len_,ht,run_underlying hu,goInt],.int _ _ (KL (n:=0) (Nat.zero_le _))⟩
  ·obtain⟨rfl,rfl⟩:=hq
   cases hx with
   |sl0=>exact⟨_,by simp[Builtin.len_,ht,run_underlying hu,goInt],.int _ _ (KL (n:=0) (Nat.zero_le _))⟩
   |sl b o _ cap _ _ _ f hl hc hp hr one ht' hcap hbig =>
    exact⟨_,by simp[Builtin.len_,ht,run_underlying hu,goInt],.int _ _ (KL (by omega))⟩
  obtain⟨rfl,rfl⟩:=hq
  cases hx with
  |mslx=>exact⟨_,by simp[Builtin.len_,ht,run_underlying hu,goInt],.int _ _ (KL (n:=0) (Nat.zero_le _))⟩
  |msl _ _ _ _ _ h1 h2=>exact⟨_,by simp[Builtin.len_,ht,run_underlying hu,goInt],.int _ _ (KL (by omega))⟩
 |loc l o=>simp[qv]at hq
 |when b e=>simp[qv]at hq
theorem Zvc{t el:TypeId}{n:Nat}{ts:Array TypeId}{x:Value}{e r:E}(ht:ts[0]?=sO t)(hu:P.underlying t=sO (.array n el))(hq:qv L σ (.lenA n) [e]=sO (side,r))(hs:side)(ty:TypeId):∃v,(Builtin.len_ ts ty #[x]).run P w=.ok v w∧ZI g ν w L v r:=by
 simp only[qv,ZEP,ZE2]at hq
 obtain⟨rfl,rfl⟩:=hq
 refine⟨.int .i64 n,?_,.int _ _ hs⟩
 simp only[Builtin.len_,ht]
 cases x<;>simp[run_underlying hu,goInt]
theorem Zjn{x y:Value}{ex ey r:E}(mx:Bool)(hx:ZI g ν w L x ex)(hy:ZI g ν w L y ey)(hq:qv L σ (if mx then .max else .min) [ex,ey]=sO (side,r))(ts:Array TypeId)(ty:TypeId):
  ∃v,(if mx then Builtin.max_ ts ty #[x,y] else Builtin.min_ ts ty #[x,y]).run P w=.ok v w∧ZI g ν w L v r:=by
 cases ex with
 |d a =>
  cases a<;>(try(cases mx<;>simp[qv]at hq;done))
  rename_i k n
  cases ey with
  |d b =>
   cases b<;>(try(cases mx<;>simp[qv]at hq;done))
   rename_i k' m
   obtain⟨rfl,h1⟩:=K6 hx
   obtain⟨rfl,h2⟩:=K6 hy
   cases mx
   ·simp only[qv,ZFn,if_false]at hq
    split at hq<;>(try(simp at hq;done))
    rename_i hk;subst hk
    simp only[ZEP,ZE2]at hq
    obtain⟨rfl,rfl⟩:=hq
    refine⟨.int k (Min.min n m),?_,.int _ _ ?_⟩
    ·have:(if m<n then m else n)=Min.min n m:=by split<;>omega
     simp[Builtin.min_,Builtin.min2,this]
    unfold inR at *;omega
   simp only[qv,if_true]at hq
   split at hq<;>(try(simp at hq;done))
   rename_i hk;subst hk
   simp only[ZEP,ZE2]at hq
   obtain⟨rfl,rfl⟩:=hq
   refine⟨.int k (Max.max n m),?_,.int _ _ ?_⟩
   ·have:(if m > n then m else n)=Max.max n m:=by split<;>omega
    simp[Builtin.max_,Builtin.max2,this]
   unfold inR at *;omega
  |loc l o=>cases mx<;>simp[qv]at hq
  |when b e=>cases mx<;>simp[qv]at hq
 |loc l o=>cases mx<;>cases ey<;>simp[qv]at hq
 |when b e=>cases mx<;>cases ey<;>simp[qv]at hq
theorem ZpZ{x:Value}{t xt:TypeId}{ok:Bool}{z:D}{e r:E}(hu:∃d,P.underlying t=sO d∧∀ms,d≠.interface ms)(hz:Zdd P t=sO z)(hx:ZI g ν w L x e)(hq:qv L σ (.tassert t ok z) [e]=sO (side,r)):∃v,(Instr.typeAssert x xt t ok).run P w=.ok v w∧ZI g ν w L v r:=by
 obtain⟨d,hu,u⟩:=hu
 have c:∃zv,(zeroValue t).run P w=.ok zv w∧Rep g w zv z:=by
  unfold Zdd at hz
  cases hi:P.info? t with
  |none=>simp[hi]at hz
  |some i =>
   cases j:i.zero with
   |none=>simp[hi,j]at hz
   |some zv=>simp only[hi,j]at hz;exact⟨zv,by simp[zeroValue,typeInfo,hi,j],Zia hz⟩
 cases e with
 |d y =>
  cases y<;>(try(cases ok<;>simp[qv]at hq;done))
  ·rename_i t' v'
   cases hx with
   |iface _ v _ hv =>
    cases ok
    ·simp only[qv]at hq
     split at hq<;>(try(simp at hq;done))
     rename_i n;subst n
     simp only[ZEP,ZE2]at hq
     obtain⟨rfl,rfl⟩:=hq
     refine⟨v,?_,hv⟩
     simp only[Instr.typeAssert,Sem.run_bind,run_underlying hu,Result.andThen_ok]
     cases d<;>first|(simp;done)|(exact absurd rfl (u _))
    simp only[qv]at hq
    split at hq<;>(try(simp at hq;done))
    rename_i n;subst n
    simp only[ZEP,ZE2]at hq
    obtain⟨rfl,rfl⟩:=hq
    refine⟨.tuple #[v,.bool true],?_,?_⟩
    ·simp only[Instr.typeAssert,Sem.run_bind,run_underlying hu,Result.andThen_ok]
     cases d<;>first|(simp;done)|(exact absurd rfl (u _))
    exact .tup [v,.bool true] _ rfl (ZH.get (.cons hv (.cons (.bool true) .nil)))
  cases hx
  cases ok
  ·simp[qv]at hq
  simp only[qv,ZEP,ZE2]at hq
  obtain⟨rfl,rfl⟩:=hq
  obtain⟨zv,h1,h2⟩:=c
  refine⟨.tuple #[zv,.bool false],?_,?_⟩
  ·simp only[Instr.typeAssert,Sem.run_bind,run_underlying hu,Result.andThen_ok]
   cases d<;>first|(simp[h1];done)|(exact absurd rfl (u _))
  exact .tup [zv,.bool false] _ rfl (ZH.get (.cons h2 (.cons (.bool false) .nil)))
 |loc l o=>cases ok<;>simp[qv]at hq
 |when b e=>cases ok<;>simp[qv]at hq
end
section
variable {P:Program} {g:G} {w:World}
theorem Zbz{t:TypeId}{k:SK}(h:K7 P t=sO k):(k=.bool∧P.underlying t=sO .bool)∨(k=.int∧∃ik,P.underlying t=sO (.int ik))∨(k=.str∧P.underlying t=sO .string):=by
 unfold K7 at h
 split at h<;>simp at h<;>subst h<;>rename_i hu
 ·exact .inl ⟨rfl,hu⟩
 ·exact .inr (.inl ⟨rfl,_,hu⟩)
 exact .inr (.inr ⟨rfl,hu⟩)
theorem ZdY{t:TypeId}{kp:KP}(h:J0 P t=sO kp):(∃k,kp=.sc k∧K7 P t=sO k) ∨
  ∃fs l n,kp=.st l∧P.underlying t=sO (.struct fs)∧ZW P t=sO n∧Ku P fs.toList=sO l∧l.map (·.1)=ZE4 n∧P.stoodInHeld t=false:=by
 unfold J0 at h
 split at h
 ·rename_i k hk
  simp at h
  exact .inl ⟨k,h.symm,hk⟩
 split at h<;>(try(simp at h;done))
 rename_i fs n hu hn
 split at h<;>(try(simp at h;done))
 rename_i l hl
 split at h<;>simp at h
 rename_i hc
 exact .inr ⟨fs,l,n,h.symm,hu,hn,hl,hc.1,hc.2⟩
theorem ZkL{kt:TypeId}{kp:KP}(hk:J0 P kt=sO kp){k1 k2:Value}{d1 d2:D}(h1:Rep g w k1 d1)(h2:Rep g w k2 d2){b:Bool}(h:Kn kp d1 d2=sO b):
  (Op.equal kt k1 k2).run P w=.ok b w:=by
 rcases ZdY hk with ⟨k,rfl,hs⟩|⟨fs,l,n,rfl,hu,hn,hl,_,i⟩
 ·exact Zf0 hs h1 h2 h 9999
 cases h1<;>cases h2<;>simp only[Kn,reduceCtorEq]at h
 rename_i v1 xs j r1 o1 v2 ys c r2 o2
 split at h<;>(try(simp at h;done))
 have hf:P.underlying kt=sO (.struct (P.fieldsOf kt)):=by simp[Program.fieldsOf,hu]
 refine(run_equalIn_struct w 9999 kt _ _ hf i).trans ?_
 simp only[Program.fieldsOf,hu]
 exact Zc4 j c r1 r2 9998 _ l b hl h
theorem ZcE(em:Bool)(n:Nat){vs:List Value}{ds:List D}(hn:vs.length=ds.length):∀(fs:List Field) (l:List (Nat×SK)) (b:Bool),Ku P fs=sO l→Ws ds ds l=sO b →
  (do
   for f in fs do
    if f.name ≠ "_" then Instr.checkKey em (n+1) f.type (←Go.part f.type vs.toArray f.offset):Sem Unit).run P w=.ok () w
 | [],_,_,_,_=>by simp
 |f::fs,l,b,hl,hb=>by
  simp only[Ku]at hl
  by_cases hf:f.name = "_"
  ·simp only[hf,if_true]at hl
   have:=ZcE em n hn fs l b hl hb
   simp only[List.forIn_cons,hf,ne_eq,not_true_eq_false,if_false,Sem.run_bind,Sem.run_pure,Result.andThen_ok]at this⊢
   exact this
  simp only[hf,if_false]at hl
  split at hl<;>simp only[ZEP,reduceCtorEq]at hl
  rename_i k l' hk j
  subst hl
  simp only[Ws]at hb
  split at hb<;>(try(simp at hb;done))
  rename_i x y hx hy
  split at hb<;>(try(simp at hb;done))
  rename_i b1 b2 hb1 i
  have ih:=ZcE em n hn fs l' b2 j i
  have c:f.offset<vs.length:=by rw[hn];exact(List.getElem?_eq_some_iff.1 hx).1
  have hv:vs.toArray[f.offset]?=sO vs[f.offset]:=by simp[c]
  have hp:=ZcR (P:=P) (w:=w) (Zbq hk) hv
  have t:(Instr.checkKey em (n+1) f.type vs[f.offset]).run P w=.ok () w:=by
   rcases Zbz hk with ⟨_,hu⟩|⟨_,ik,hu⟩|⟨_,hu⟩<;>simp[Instr.checkKey,run_underlying hu]
  simp only[List.forIn_cons,hf,ne_eq,not_false_eq_true,if_true,Sem.run_bind,hp,Result.andThen_ok,t,Sem.run_pure]at ih⊢
  exact ih
theorem ZqQ{kt:TypeId}{kp:KP}(hk:J0 P kt=sO kp){k:Value}{d:D}(h:Rep g w k d)(hok:Qo kp d=true)(em:Bool)(n:Nat):(Instr.checkKey em (n+2) kt k).run P w=.ok () w:=by
 rcases ZdY hk with ⟨sk,rfl,hs⟩|⟨fs,l,m,rfl,hu,hn,hl,_,hst⟩
 ·rcases Zbz hs with ⟨_,hu⟩|⟨_,ik,hu⟩|⟨_,hu⟩<;>simp[Instr.checkKey,run_underlying hu]
 cases h<;>simp[Qo,Kn]at hok
 rename_i vs cells hn r o
 obtain⟨b,hb⟩:=Option.isSome_iff_exists.1 hok
 split at hb<;>(try(grind;done))
 have:=ZcE (P:=P) (w:=w) em n hn fs.toList l b hl hb
 rw[Instr.checkKey]
 simp[run_underlying hu]
 first
  | (simp at this;simp[this])
  |simp
theorem Zbg{kt:TypeId}{kp:KP}(hk:J0 P kt=sO kp){k:Value}{d:D}(h:Rep g w k d)(hok:Qo kp d=true)(em:Bool):(Instr.checkKey em 10000 kt k).run P w=.ok () w:=ZqQ hk h hok em 9998
theorem ZoX{kp:KP}{k:D}:∀{es:List (D×D)} {r:Option D},Zbv kp k es=sO r→∃io,Q0 kp k es=sO io∧r=io.bind fun i=>(es[i]?).map (·.2)
 | [],r,h=>by simp[Zbv]at h;exact⟨nO,rfl,h.symm⟩
 |e::es,r,h=>by
  simp[Zbv]at h
  split at h
  ·rename_i he;simp at h;exact⟨sO 0,by simp[Q0,he],by simp[h]⟩
  ·rename_i he
   obtain⟨io,h1,h2⟩:=ZoX h
   refine⟨io.map (· + 1),by simp[Q0,he,h1],?_⟩
   rw[h2];cases io<;>simp
  grind
theorem ZlK{kp:KP}{k v:D}:∀{es es':List (D×D)},J5 kp k v es=sO es'→∃io,Q0 kp k es=sO io∧es'=match io with
  |none=>es++[(k,v)]
  |some i=>es.set i (k,v)
 | [],es',h=>by simp[J5]at h;exact⟨nO,rfl,h.symm⟩
 |e::es,es',h=>by
  simp[J5]at h
  split at h
  ·rename_i he;simp at h;exact⟨sO 0,by simp[Q0,he],by simp[h]⟩
  ·rename_i he
   simp at h
   obtain⟨r,hr,rfl⟩:=h
   obtain⟨io,h1,h2⟩:=ZlK hr
   refine⟨io.map (· + 1),by simp[Q0,he,h1],?_⟩
   rw[h2];cases io<;>simp
  grind
theorem Zq3{kp:KP}{k:D}:∀{es es':List (D×D)},ZfI kp k es=sO es'→∃io,Q0 kp k es=sO io∧es'=match io with
  |none=>es
  |some i=>es.eraseIdx i
 | [],es',h=>by simp only[ZfI,ZEP]at h;exact⟨nO,rfl,h.symm⟩
 |e::es,es',h=>by
  simp[ZfI]at h
  split at h
  ·rename_i he;simp at h;exact⟨sO 0,by simp[Q0,he],by simp[h]⟩
  ·rename_i he
   simp at h
   obtain⟨r,hr,rfl⟩:=h
   obtain⟨io,h1,h2⟩:=Zq3 hr
   refine⟨io.map (· + 1),by simp[Q0,he,h1],?_⟩
   rw[h2];cases io<;>simp
  grind
theorem ZcN{kp:KP}{k:D}:∀{es:List (D×D)} {i:Nat},Q0 kp k es=sO (sO i)→i<es.length∧∀e,es[i]?=sO e→Kn kp k e.1=sO true
 | [],i,h=>by cases h
 |e::es,i,h=>by
  simp[Q0]at h
  split at h
  ·rename_i he;cases h;exact⟨by simp,fun x hx=>by cases hx;exact he⟩
  ·simp at h
   obtain⟨io,h1,h2⟩:=h
   cases io with
   |none=>grind
   |some j =>
    obtain⟨j',h3,h4⟩:=h2
    cases h3;subst h4
    obtain⟨a,b⟩:=ZcN h1
    exact⟨by simp;omega,fun x hx=>b x (by simpa using hx)⟩
  grind
theorem Zmi{kt:TypeId}{kp:KP}(hk:J0 P kt=sO kp){k:Value}{dk:D}(hr:Rep g w k dk):∀(es:List MapEntry) (ds:List (D×D)) (n:Nat) (io:Option Nat),es.length=ds.length →
  (∀(i:Nat) (e:MapEntry) (d:D×D),es[i]?=sO e→ds[i]?=sO d→Rep g w e.key d.1)→Q0 kp dk ds=sO io →
  (Instr.findAsking kt k es n).run P w=.ok (io.bind fun i=>(es[i]?).map fun e=>(n+i,e.val)) w
 | [],[],n,io,_,_,h=>by cases h;simp[Instr.findAsking]
 |e::es,d::ds,n,io,hn,hkey,h=>by
  simp[Q0]at h
  have h0:=hkey 0 e d (by simp) (by simp)
  split at h
  ·rename_i he
   cases h
   simp[Instr.findAsking,ZkL hk hr h0 he]
  ·rename_i he
   simp at h
   obtain⟨c,h1,rfl⟩:=h
   have ih:=Zmi hk hr es ds (n+1) c (by simpa using hn) (fun i e d a b=>hkey (i+1) e d (by simpa using a) (by simpa using b)) h1
   simp[Instr.findAsking,ZkL hk hr h0 he,ih]
   cases c<;>simp[Nat.add_assoc,Nat.add_comm 1]
  grind
 | [],_::_,_,_,hn,_,_=>by grind
 |_::_,[],_,_,hn,_,_=>by grind
theorem Zm5{t:TypeId}{k:SK}{u:TypeDesc}(hs:K7 P t=sO k)(hu:P.underlying t=sO u){k1 k2:Value}{d1 d2:D}(h1:Rep g w k1 d1)(h2:Rep g w k2 d2){b:Bool}(h:Yo k d1 d2=sO b):
  Instr.sameNow u k1 k2=sO b:=by
 rcases Zbz hs with ⟨rfl,c⟩|⟨rfl,ik,c⟩|⟨rfl,c⟩<;>(rw[hu]at c;simp only[ZEP]at c;subst c)
 ·cases h1<;>cases h2<;>cases h
  simp[Instr.sameNow]
  rename_i a b;cases a<;>cases b<;>rfl
 ·cases h1<;>cases h2<;>simp only[Yo,reduceCtorEq]at h
  split at h<;>simp only[reduceCtorEq,ZEP]at h
  rename_i hk
  subst h
  simp only[Instr.sameNow,hk,if_true,ZEP]
  rename_i a _ _ b _;rw[Bool.eq_iff_iff];simp
 cases h1<;>cases h2<;>simp only[Yo,reduceCtorEq,ZEP]at h
 rename_i s1 a e1 _ s2 b e2 _
 subst h
 simp only[Instr.sameNow,ZEP]
 rw[beq_toListBytes,ZcX e1,ZcX e2,Bool.eq_iff_iff];simp
theorem Zml{t:TypeId}{sk:SK}{u:TypeDesc}(hs:K7 P t=sO sk)(hu:P.underlying t=sO u){k:Value}{dk:D}(hr:Rep g w k dk):∀(es:List MapEntry) (ds:List (D×D)) (n:Nat) (io:Option Nat),es.length=ds.length →
  (∀(i:Nat) (e:MapEntry) (d:D×D),es[i]?=sO e→ds[i]?=sO d→Rep g w e.key d.1)→Q0 (.sc sk) dk ds=sO io →
  Instr.findNow u k es n=sO (io.bind fun i=>(es[i]?).map fun e=>(n+i,e.val))
 | [],[],n,io,_,_,h=>by simp only[Q0,ZEP]at h;subst h;simp[Instr.findNow]
 |e::es,d::ds,n,io,hn,hkey,h=>by
  simp only[Q0]at h
  have h0:=hkey 0 e d (by simp) (by simp)
  split at h
  ·rename_i he
   simp only[ZEP]at h;subst h
   simp[Instr.findNow,Zm5 hs hu hr h0 he]
  ·rename_i he
   simp only[ZE3]at h
   obtain⟨c,h1,rfl⟩:=h
   have ih:=Zml hs hu hr es ds (n+1) c (by simpa using hn) (fun i e d a b=>hkey (i+1) e d (by simpa using a) (by simpa using b)) h1
   simp only[Instr.findNow,Zm5 hs hu hr h0 he,ih]
   cases c<;>simp[Nat.add_assoc,Nat.add_comm 1]
  simp at h
 | [],_::_,_,_,hn,_,_=>by simp at hn
 |_::_,[],_,_,hn,_,_=>by simp at hn
theorem Zcd{kt:TypeId}{kp:KP}(hk:J0 P kt=sO kp){k:Value}{dk:D}(hr:Rep g w k dk){es:List MapEntry}{ds:List (D×D)}{io:Option Nat}(hn:es.length=ds.length)(hkey:∀(i:Nat) (e:MapEntry) (d:D×D),es[i]?=sO e→ds[i]?=sO d→Rep g w e.key d.1)(h:Q0 kp dk ds=sO io):
  (Instr.findKey kt k es).run P w=.ok (io.bind fun i=>(es[i]?).map fun e=>(i,e.val)) w:=by
 rcases ZdY hk with ⟨sk,rfl,hs⟩|⟨fs,l,m,rfl,hu,_,_,_,_⟩
 ·obtain⟨u,hu⟩:∃u,P.underlying kt=sO u:=by rcases Zbz hs with ⟨_,hu⟩|⟨_,ik,hu⟩|⟨_,hu⟩<;>exact⟨_,hu⟩
  have:=Zml hs hu hr es ds 0 io hn hkey h
  simp[Instr.findKey,run_underlying hu,this]
 have ha:=Zmi hk hr es ds 0 io hn hkey h
 cases es with
 |nil =>
  cases ds with
  |nil=>cases h;simp[Instr.findKey,run_underlying hu,Instr.findNow]
  |cons=>grind
 |cons e es =>
  have:Instr.findNow (.struct fs) k (e::es) 0=nO:=by
   simp[Instr.findNow,Instr.sameNow]
  simp[Instr.findKey,run_underlying hu,this,ha]
theorem Zez{σ:St}(hS:Ym g σ w){b:Nat}{es:List (D×D)}(h:KM σ b=sO es):WO g w b (.map es):=by
 unfold KM at h
 split at h<;>simp at h
 rename_i c hc
 subst h
 exact hS.obj b _ hc
theorem Zsp{t:TypeId}{z:D}(hz:Zdd P t=sO z):∃zv,(zeroValue t).run P w=.ok zv w∧Rep g w zv z:=by
 unfold Zdd at hz
 cases hi:P.info? t with
 |none=>grind
 |some i =>
  cases c:i.zero with
  |none=>grind
  |some zv=>simp[hi,c]at hz;exact⟨zv,by simp[zeroValue,typeInfo,hi,c],Zia hz⟩
theorem Zhj{a b:Value}{x y:D}(h1:Rep g w a x)(h2:Rep g w b y):Rep g w (.tuple #[a,b]) (.tup [x,y]) :=
 .tup [a,b] _ rfl (ZH.get (.cons h1 (.cons h2 .nil)))
theorem Zsh{σ:St}(hS:Ym g σ w){t kt et:TypeId}{kp:KP}{z:D}{ok:Bool}(hu:P.underlying t=sO (.map kt et))(hk:J0 P kt=sO kp)(hz:Zdd P et=sO z){m k:Value}{em ek r:E}(hm:ZI g ν w L m em)(hkk:ZI g ν w L k ek)(hq:qv L σ (.lookup kp z ok) [em,ek]=sO (side,r))(hs:side):∃v,(Instr.lookup t m k ok).run P w=.ok v w∧ZI g ν w L v r:=by
 obtain⟨zv,y,u⟩:=Zsp (P:=P) (g:=g) (w:=w) hz
 cases em with
 |loc l o=>cases ek<;>simp[qv]at hq
 |when c e=>cases ek<;>simp[qv]at hq
 |d dm =>
  cases ek with
  |loc l o=>cases dm<;>simp[qv]at hq
  |when c e=>cases dm<;>simp[qv]at hq
  |d dk =>
   have hr:Rep g w k dk:=hkk
   cases dm<;>(try(simp[qv]at hq;done))
   ·rename_i b
    simp only[qv]at hq
    split at hq<;>(try(simp at hq;done))
    rename_i es ah
    simp only[ZE3,ZE2]at hq
    obtain⟨ro,hf,rfl,rfl⟩:=hq
    obtain⟨hp0,en,clock,hb,ac,h3,h4,h5,h6⟩:=Zez hS ah
    obtain⟨io,af,ab⟩:=ZoX hf
    cases hm
    have j:=Zcd (P:=P) hk hr (es:=en.toList) (by simpa using ac) (fun i e d a b=>h3 i e d (by simpa using a) b) af
    have n:=Zbg (P:=P) hk hr hs en.isEmpty
    cases io with
    |none =>
     subst ab
     cases ok
     ·exact⟨zv,by simp[Instr.lookup,run_underlying hu,MapKept.run_getObj_map hb,n,j,y],by simpa[Wl,ZI]using u⟩
     exact⟨.tuple #[zv,.bool false],by simp[Instr.lookup,run_underlying hu,MapKept.run_getObj_map hb,n,j,y],by simpa[Wl,ZI]using Zhj u (.bool false)⟩
    |some i =>
     obtain⟨ag,_⟩:=ZcN af
     have ae:i<en.size:=by omega
     have he:en[i]?=sO en[i]:=by simp[ae]
     have hd:es[i]?=sO es[i]:=by simp[ag]
     have ad:=h4 i _ _ he hd
     simp[hd]at ab
     subst ab
     simp[he]at j
     cases ok
     ·exact⟨en[i].val,by simp[Instr.lookup,run_underlying hu,MapKept.run_getObj_map hb,n,j],by simpa[Wl,ZI]using ad⟩
     exact⟨.tuple #[en[i].val,.bool true],by simp[Instr.lookup,run_underlying hu,MapKept.run_getObj_map hb,n,j],by simpa[Wl,ZI]using Zhj ad (.bool true)⟩
   cases hq
   cases hm
   have n:=Zbg (P:=P) hk hr hs true
   have j:=Zcd (P:=P) hk hr (es:=[]) (ds:=[]) rfl (fun i e d a b=>by simp at a) (io:=nO) rfl
   cases ok
   ·exact⟨zv,by simp[Instr.lookup,run_underlying hu,n,j,y],by simpa[Wl,ZI]using u⟩
   exact⟨.tuple #[zv,.bool false],by simp[Instr.lookup,run_underlying hu,n,j,y],by simpa[Wl,ZI]using Zhj u (.bool false)⟩
theorem Zve{σ:St}(hS:Ym g σ w){t kt et:TypeId}{ts:Array TypeId}{x:Value}{e r:E}(ht:ts[0]?=sO t)(hu:P.underlying t=sO (.map kt et))(hx:ZI g ν w L x e)(hq:qv L σ .lenM [e]=sO (side,r))(hs:side)(ty:TypeId):∃v,(Builtin.len_ ts ty #[x]).run P w=.ok v w∧ZI g ν w L v r:=by
 cases e with
 |loc l o=>cases hq
 |when c e=>cases hq
 |d y =>
  cases y<;>(try(cases hq;done))
  ·simp[qv]at hq
   split at hq<;>(try(grind;done))
   rename_i es j
   cases hq
   obtain⟨hp0,en,clock,hb,i,_⟩:=Zez hS j
   cases hx
   exact⟨.int .i64 es.length,by simp[Builtin.len_,ht,run_underlying hu,MapKept.run_getObj_map hb,goInt,i],.int _ _ (KL hs)⟩
  cases hq
  cases hx
  exact⟨.int .i64 0,by simp[Builtin.len_,ht,run_underlying hu,goInt],.int _ _ (KL (n:=0) (Nat.zero_le _))⟩
end
section
variable {P:Program} {g:G} {ν:Nat→Nat} {w:World} {L:Loc} {σ:St}
theorem ZsZ{t:TypeId}{parts:Array (Nat×Operand)}{z:Value}{pl:List (Nat×Nat)}{zs:List D}{ρv:Operand→Value}{es:List E}(hz:(P.info? t).bind (·.zero)=sO z)(hp:K5 P t (parts.toList.map (·.1))=sO pl)(hsz:Zjm P t=true)(hzs:Zbi z.cells.toList=sO zs)(hes:ZH (ZI g ν w L) ((parts.toList.map (·.2)).map ρv) es){r:E}(hq:qv L σ (.build zs pl) es=sO (side,r)):∃v,(Instr.build t (parts.map fun(i,x)=>(i,ρv x))).run P w=.ok v w∧ZI g ν w L v r:=by
 simp[qv]at hq
 split at hq<;>(try(grind;done))
 rename_i ds j
 simp only[ZE3]at hq
 obtain⟨cs,n,rfl,rfl⟩:=hq
 have u:∃d,P.underlying t=sO d∧((∃fs,d=.struct fs)∨∃m e i,d=.array m e∧P.info? e=sO i):=by
  unfold Zjm at hsz
  split at hsz
  ·rename_i fs hu;exact⟨_,hu,.inl ⟨fs,rfl⟩⟩
  ·rename_i m e hu
   unfold ZW at hsz
   cases hi:P.info? e with
   |none=>grind
   |some i=>exact⟨_,hu,.inr ⟨m,e,i,rfl,hi⟩⟩
  grind
 have c:=KW hes j
 obtain⟨cv,h1,h2⟩:=Zxc (g:=g) (w:=w) (parts:=parts.toList.map fun(i,x)=>(i,ρv x)) hz (by simpa[Function.comp_def]using hp) hsz hzs
  (by simpa[Function.comp_def]using c) n u
 refine⟨_,?_,h2⟩
 rw[←h1]
 congr 2
 apply Array.ext'
 simp
theorem Zvg{f:Fn}{first caps:Array Operand}{ρv:Operand→Value}{es:List E}(hes:ZH (ZI g ν w L) ((first.toList++caps.toList).map ρv) es){r:E}(hq:qv L σ (.mkfn f first.size) es=sO (side,r)):∃v,(Instr.makeFunc f (first.map ρv) (caps.map ρv)).run P w=.ok v w∧ZI g ν w L v r:=by
 simp only[qv,ZE3]at hq
 obtain⟨ds,c,rfl,rfl⟩:=hq
 have h:=KW hes c
 have h1:=h.take first.size
 have h2:=h.drop first.size
 have e1:((first.toList++caps.toList).map ρv).take first.size=(first.map ρv).toList:=by simp
 have e2:((first.toList++caps.toList).map ρv).drop first.size=(caps.map ρv).toList:=by simp
 rw[e1]at h1
 rw[e2]at h2
 have:=Rep.fn (g:=g) (w:=w) f _ _ _ _ h1.len h2.len h1.get h2.get
 exact⟨_,by simp only[Instr.makeFunc,Sem.run_pure],this⟩
theorem Zay{α:Type}{a:Array α}(h:a.size=1):∃x,a = #[x]:=by
 obtain⟨l⟩:=a
 match l,h with
 | [x],_=>exact⟨x,rfl⟩
theorem ZfA{α:Type}{a:Array α}(h:a.size=2):∃x y,a = #[x,y]:=by
 obtain⟨l⟩:=a
 match l,h with
 | [x,y],_=>exact⟨x,y,rfl⟩
theorem Zzc{o:Op}{q:Q}{xs:List Operand}(hc:cq P o=sO (q,xs)){ρv:Operand→Value}{es:List E}(hes:ZH (ZI g ν w L) (xs.map ρv) es)(hL:∀l cs,Zg L l=sO cs→Y0 g w (ν l) cs)(hS:Ym g σ w){e:E}(hq:qv L σ q es=sO (side,e))(hs:side)(dst:Option Nat)(ty:TypeId)(pos:String)(af:Array Edge)(gd:Option (Nat×Bool)):
  ∃v,(execOp ρv ⟨dst,o,ty,pos,af,gd⟩).run P w=.ok (.value v) w∧ZI g ν w L v e:=by
 cases o<;>(try(simp[cq]at hc;done))
 case move x =>
  simp only[cq,ZEP,ZE2]at hc
  obtain⟨rfl,rfl⟩:=hc
  obtain⟨e0,rfl,h0⟩:=Wv hes
  simp only[qv,ZEP,ZE2]at hq
  obtain⟨rfl,rfl⟩:=hq
  exact⟨_,rfl,h0⟩
 case assign x =>
  simp only[cq,ZEP,ZE2]at hc
  obtain⟨rfl,rfl⟩:=hc
  obtain⟨e0,rfl,h0⟩:=Wv hes
  simp only[qv,ZEP,ZE2]at hq
  obtain⟨rfl,rfl⟩:=hq
  exact⟨_,rfl,h0⟩
 case load t a =>
  simp only[cq]at hc
  split at hc<;>(try(simp at hc;done))
  ·rename_i n ha j
   simp only[ZEP,ZE2]at hc
   obtain⟨rfl,rfl⟩:=hc
   obtain⟨e0,rfl,h0⟩:=Wv hes
   exact ev (Zs3 ha j h0 hL hS hq hs)
  rename_i n ha j
  simp only[ZEP,ZE2]at hc
  obtain⟨rfl,rfl⟩:=hc
  obtain⟨e0,rfl,h0⟩:=Wv hes
  exact ev (Zs2 ha h0 hL hS hq)
 case nilCheck x =>
  simp only[cq,ZEP,ZE2]at hc
  obtain⟨rfl,rfl⟩:=hc
  obtain⟨e0,rfl,h0⟩:=Wv hes
  exact Zs4 rfl h0 hq dst ty pos af gd
 case binOp op t x y yt =>
  simp only[cq,ZEP,ZE2]at hc
  obtain⟨rfl,rfl⟩:=hc
  obtain⟨e1,e2,rfl,h1,h2⟩:=JT hes
  cases e1 with
  |d a =>
   cases e2 with
   |d b =>
    simp only[qv,ZE3,ZE2]at hq
    obtain⟨⟨s',d⟩,hd,rfl,rfl⟩:=hq
    exact ev (ZyF (P:=P) h1 h2 hd hs)
   |loc l o=>simp[qv]at hq
   |when b e=>simp[qv]at hq
  |loc l o=>cases e2<;>simp[qv]at hq
  |when b e=>cases e2<;>simp[qv]at hq
 case unOp op t x =>
  cases op<;>simp only[cq,ZEP,ZE2,reduceCtorEq]at hc
  all_goals obtain⟨rfl,rfl⟩:=hc
  all_goals obtain⟨e0,rfl,h0⟩:=Wv hes
  all_goals cases e0 with
   |loc l o=>simp[qv]at hq
   |when b e=>simp[qv]at hq
   |d y=>?_
  ·cases y<;>simp only[qv,reduceCtorEq,ZEP,ZE2]at hq
   obtain⟨rfl,rfl⟩:=hq
   obtain⟨hv,ah⟩:=K6 h0
   exact ev ⟨.int _ _,by simp only[hv,Op.unary,Op.intArith,Sem.run_pure,Int.zero_sub];rw[Zae _ _ hs],.int _ _ hs⟩
  ·cases y<;>simp only[qv,reduceCtorEq,ZEP,ZE2]at hq
   obtain⟨rfl,rfl⟩:=hq
   obtain⟨hv,ah⟩:=K6 h0
   exact ev ⟨_,by simp only[hv,Op.unary,Op.intBits,Sem.run_pure];rfl,.int _ _ (Zkf _ _)⟩
  cases y<;>simp only[qv,reduceCtorEq,ZEP,ZE2]at hq
  obtain⟨rfl,rfl⟩:=hq
  have hv:=ZbJ h0
  exact ev ⟨_,by simp only[hv,Op.unary,Sem.run_pure],.bool _⟩
 case convert s d x =>
  simp only[cq,ZE3,ZE2]at hc
  obtain⟨c,hc,rfl,rfl⟩:=hc
  obtain⟨e0,rfl,h0⟩:=Wv hes
  exact ev (Zu9 hS hc h0 hq hs)
 case fieldAddr s x k =>
  simp only[cq]at hc
  split at hc<;>(try(simp at hc;done))
  rename_i f hf
  split at hc<;>(try(simp at hc;done))
  rename_i n hn
  split at hc<;>(try(simp at hc;done))
  rename_i ag
  simp only[ZEP,ZE2]at hc
  obtain⟨rfl,rfl⟩:=hc
  obtain⟨e0,rfl,h0⟩:=Wv hes
  exact ev (Zs0 hf hn ag h0 hq)
 case field s x k =>
  simp only[cq]at hc
  split at hc<;>(try(simp at hc;done))
  rename_i f hf
  split at hc<;>(try(simp at hc;done))
  ·rename_i n ha hn
   simp only[ZEP,ZE2]at hc
   obtain⟨rfl,rfl⟩:=hc
   obtain⟨e0,rfl,h0⟩:=Wv hes
   exact ev (Zpu hf (.inl ⟨ha,n,hn,rfl⟩) h0 hq hs)
  rename_i n ha hn
  simp only[ZEP,ZE2]at hc
  obtain⟨rfl,rfl⟩:=hc
  obtain⟨e0,rfl,h0⟩:=Wv hes
  exact ev (Zpu hf (.inr ⟨ha,rfl⟩) h0 hq hs)
 case indexAddr t x i =>
  simp only[cq]at hc
  split at hc<;>(try(simp at hc;done))
  ·rename_i el hu
   simp only[ZE3,ZE2]at hc
   obtain⟨n,hn,rfl,rfl⟩:=hc
   obtain⟨e1,e2,rfl,h1,h2⟩:=JT hes
   exact ev (Zs1 hu hn h1 h2 hq hs)
  rename_i m el hu
  simp only[ZE3,ZE2]at hc
  obtain⟨n,hn,rfl,rfl⟩:=hc
  obtain⟨e1,e2,rfl,h1,h2⟩:=JT hes
  exact ev (Zsg hu hn h1 h2 hq hs)
 case index t x i =>
  simp only[cq]at hc
  split at hc<;>(try(simp at hc;done))
  ·rename_i hu
   simp only[ZEP,ZE2]at hc
   obtain⟨rfl,rfl⟩:=hc
   obtain⟨e1,e2,rfl,h1,h2⟩:=JT hes
   exact ev (Zvb hu h1 h2 hq hs)
  rename_i m el hu
  split at hc<;>simp only[ZEP,ZE2,reduceCtorEq]at hc
  rename_i b n hb hn
  obtain⟨rfl,rfl⟩:=hc
  obtain⟨e1,e2,rfl,h1,h2⟩:=JT hes
  exact ev (Zva hu hb hn h1 h2 hq hs)
 case extract x k =>
  simp only[cq,ZEP,ZE2]at hc
  obtain⟨rfl,rfl⟩:=hc
  obtain⟨e0,rfl,h0⟩:=Wv hes
  cases e0 with
  |loc l o=>simp[qv]at hq
  |when b e=>simp[qv]at hq
  |d y =>
   cases y<;>simp only[qv,reduceCtorEq,ZE3,ZE2]at hq
   obtain⟨d,hd,rfl,rfl⟩:=hq
   have ad:Rep g w (ρv x) _:=h0
   generalize hz:ρv x=z at ad
   cases ad with
   |tup vs _ hn h =>
    obtain⟨v,hv,hr⟩:=ZbK hn h hd
    exact ev ⟨v,by simp[Instr.extract,hz,hv],hr⟩
 case build t parts =>
  simp only[cq]at hc
  split at hc<;>(try(simp at hc;done))
  rename_i z pl hz hp
  split at hc<;>(try(simp at hc;done))
  rename_i j
  simp only[ZE3,ZE2]at hc
  obtain⟨zs,ae,rfl,rfl⟩:=hc
  exact ev (ZsZ hz hp j ae hes hq)
 case makeFunc f first caps =>
  simp only[cq,ZEP,ZE2]at hc
  obtain⟨rfl,rfl⟩:=hc
  exact ev (Zvg hes hq)
 case makeInterface t x =>
  simp only[cq]at hc
  split at hc<;>(try(simp at hc;done))
  rename_i d u hu
  simp only[ZEP,ZE2]at hc
  obtain⟨rfl,rfl⟩:=hc
  obtain⟨e0,rfl,h0⟩:=Wv hes
  cases e0 with
  |loc l o=>simp[qv]at hq
  |when b e=>simp[qv]at hq
  |d y =>
   simp only[qv,ZEP,ZE2]at hq
   obtain⟨rfl,rfl⟩:=hq
   refine ev ⟨.iface t (ρv x),?_,.iface _ _ _ h0⟩
   refine run_makeInterface w t (ρv x) ?_
   unfold Program.concrete
   rw[hu]
   cases d<;>first|rfl|(exact absurd rfl (u _))
 case slice t x lo hi mx =>
  simp only[cq]at hc
  split at hc<;>(try(simp at hc;done))
  ·rename_i hu
   split at hc<;>(try(simp at hc;done))
   rename_i ab
   simp only[ZEP,ZE2]at hc
   obtain⟨rfl,rfl⟩:=hc
   cases mx with
   |some _=>simp at ab
   |none=>exact ev (Zsj hu hes hq hs)
  ·rename_i el hu
   split at hc<;>(try(simp at hc;done))
   rename_i ab
   simp only[ZE3,ZE2]at hc
   obtain⟨n,hn,rfl,rfl⟩:=hc
   exact ev (Zs5 hu hn (by cases mx<;>cases hi<;>simp_all) hes hq hs)
  rename_i k el hu
  split at hc<;>(try(simp at hc;done))
  rename_i ab
  simp only[ZE3,ZE2]at hc
  obtain⟨n,hn,rfl,rfl⟩:=hc
  exact ev (Zsi hu hn (by cases mx<;>cases hi<;>simp_all) hes hq hs)
 case typeAssert x xt t ok =>
  simp only[cq]at hc
  split at hc<;>(try(simp at hc;done))
  rename_i d u hu
  simp only[ZE3,ZE2]at hc
  obtain⟨z,hz,rfl,rfl⟩:=hc
  obtain⟨e0,rfl,h0⟩:=Wv hes
  exact ev (ZpZ ⟨d,hu,fun ms hm=>u ms (hm▸rfl)⟩ hz h0 hq)
 case lookup t m k ok =>
  simp only[cq]at hc
  split at hc<;>(try(simp at hc;done))
  rename_i kt et hu
  split at hc<;>(try(simp at hc;done))
  rename_i kp z hk hz
  simp only[ZEP,ZE2]at hc
  obtain⟨rfl,rfl⟩:=hc
  obtain⟨e1,e2,rfl,h1,h2⟩:=JT hes
  exact ev (Zsh hS hu hk hz h1 h2 hq hs)
 case call c =>
  obtain⟨callee,args,ac⟩:=c
  simp only[cq]at hc
  split at hc<;>(try(simp at hc;done))
  ·split at hc<;>(try(simp at hc;done))
   ·rename_i hu
    simp only[Option.bind_eq_some_iff]at hu
    obtain⟨t,ht,hu⟩:=hu
    split at hc<;>(try(simp at hc;done))
    rename_i j
    obtain⟨x,rfl⟩:=Zay j
    simp only[ZEP,ZE2]at hc
    obtain⟨rfl,rfl⟩:=hc
    obtain⟨e0,rfl,h0⟩:=Wv hes
    obtain⟨v,r1,r2⟩:=Zvf ht hu h0 hq ty
    exact⟨v,by simp[execOp,resolve,invoke,builtin,r1],r2⟩
   ·rename_i el hu
    simp only[Option.bind_eq_some_iff]at hu
    obtain⟨t,ht,hu⟩:=hu
    split at hc<;>(try(simp at hc;done))
    rename_i j
    obtain⟨x,rfl⟩:=Zay j
    simp only[ZEP,ZE2]at hc
    obtain⟨rfl,rfl⟩:=hc
    obtain⟨e0,rfl,h0⟩:=Wv hes
    obtain⟨v,r1,r2⟩:=Zvd ht hu h0 hq ty
    exact⟨v,by simp[execOp,resolve,invoke,builtin,r1],r2⟩
   ·rename_i n el hu
    simp only[Option.bind_eq_some_iff]at hu
    obtain⟨t,ht,hu⟩:=hu
    split at hc<;>(try(simp at hc;done))
    rename_i j
    obtain⟨x,rfl⟩:=Zay j
    simp only[ZEP,ZE2]at hc
    obtain⟨rfl,rfl⟩:=hc
    obtain⟨e0,rfl,h0⟩:=Wv hes
    obtain⟨v,r1,r2⟩:=Zvc (x:=ρv x) ht hu hq hs ty
    exact⟨v,by simp[execOp,resolve,invoke,builtin,r1],r2⟩
   rename_i kt el hu
   simp only[Option.bind_eq_some_iff]at hu
   obtain⟨t,ht,hu⟩:=hu
   split at hc<;>(try(simp at hc;done))
   rename_i j
   obtain⟨x,rfl⟩:=Zay j
   simp only[ZEP,ZE2]at hc
   obtain⟨rfl,rfl⟩:=hc
   obtain⟨e0,rfl,h0⟩:=Wv hes
   obtain⟨v,r1,r2⟩:=Zve hS ht hu h0 hq hs ty
   exact⟨v,by simp[execOp,resolve,invoke,builtin,r1],r2⟩
  ·split at hc<;>(try(simp at hc;done))
   rename_i j
   obtain⟨x,y,rfl⟩:=ZfA j
   simp only[ZEP,ZE2]at hc
   obtain⟨rfl,rfl⟩:=hc
   obtain⟨e1,e2,rfl,h1,h2⟩:=JT hes
   obtain⟨v,r1,r2⟩:=Zjn (P:=P) false h1 h2 hq ac ty
   simp at r1
   exact⟨v,by simp[execOp,resolve,invoke,builtin,r1],r2⟩
  split at hc<;>(try(simp at hc;done))
  rename_i j
  obtain⟨x,y,rfl⟩:=ZfA j
  simp only[ZEP,ZE2]at hc
  obtain⟨rfl,rfl⟩:=hc
  obtain⟨e1,e2,rfl,h1,h2⟩:=JT hes
  obtain⟨v,r1,r2⟩:=Zjn (P:=P) true h1 h2 hq ac ty
  simp at r1
  exact⟨v,by simp[execOp,resolve,invoke,builtin,r1],r2⟩
end
def Qm(n:Nat):List Nat→Bool
 | []=>true
 |i::r=>i<n&&!r.contains i&&Qm n r
def ck(P:Program)(op:Op):Option K :=
 match cq P op with
 |some (q,xs)=>(Zca xs).map (K.q q)
 |none =>
  match op with
  |.pick c a b=>match Z3 c,Z3 a,Z3 b with
   |some c,sO a,sO b=>sO (.pick c a b)
   |_,_,_=>nO
  |.alloc e=>(Zaz P e).map .alloc
  |.box _ x=>(Z3 x).map .box
  |.buildSlice t len parts=>match P.underlying t with
   |some (.slice e)=>match ZW P e,Zaz P e,Zca (parts.toList.map (·.2)) with
    |some s,sO z,sO xs =>
     if Qm len (parts.toList.map (·.1))&&dC (z.length=s)&&dC (0<s)&&dC (len*s≤2 ^ 24) then sO (.bsl len s z (parts.toList.map (·.1)) xs) else nO
    |_,_,_=>nO
   |_=>nO
  |.convert s d x=>match P.underlying s,P.underlying d with
   |some .string,sO (.slice e)=>match P.underlying e with
    |some (.int .u8)=>(Z3 x).map .s2b
    |_=>nO
   |_,_=>nO
  |.store t a v=>match JS P t,ZW P t,Z3 a,Z3 v with
   |some true,sO n,sO a,sO v=>sO (.storeN n a v)
   |some false,sO 1,sO a,sO v=>sO (.store1 a v)
   |_,_,_,_=>nO
  |.makeMap _ nO=>sO .mkmap
  |.mapUpdate t m k x|.insert t m k x=>match P.underlying t with
   |some (.map kt _)=>match J0 P kt,Z3 m,Z3 k,Z3 x with
    |some kp,sO m,sO k,sO x=>sO (.mapupd kp m k x)
    |_,_,_,_=>nO
   |_=>nO
  |.mapEntry t m k=>match P.underlying t with
   |some (.map kt e)=>match J0 P kt,Zdd P e,Z3 m,Z3 k with
    |some kp,sO z,sO m,sO k=>sO (.mapent kp z m k)
    |_,_,_,_=>nO
   |_=>nO
  |.entryStore _ m k x=>match Z3 m,Z3 k,Z3 x with
   |some m,sO k,sO x=>sO (.entst m k x)
   |_,_,_=>nO
  |.panic x=>(Z3 x).map .panic
  |.defer c=>match c.callee with
   |.value f=>match Z3 f,Zca c.args.toList with
    |some f,sO xs=>sO (.defer f xs)
    |_,_=>nO
   |_=>nO
  |.makeSlice t l c=>match P.underlying t with
   |some (.slice e)=>match ZW P e,Zaz P e,Z3 l,Z3 c with
    |some s,sO z,sO l,sO c=>if dC (0<s)&&dC (z.length=s) then sO (.mkslice e s (P.bytesOf e) z l c) else nO
    |_,_,_,_=>nO
   |_=>nO
  |.call c=>match c.callee with
   |.value f=>match Z3 f,Zca c.args.toList with
    |some f,sO xs=>sO (.call f xs)
    |_,_=>nO
   |.builtin .append=>match c.argTypes[0]?.bind P.underlying,c.argTypes[1]?.bind P.underlying,c.args.toList with
    |some (.slice e),sO t2,[x,y]=>match ZW P e,Zaz P e,Z3 x,Z3 y with
     |some s,sO z,sO x,sO y =>
      match t2 with
      |.slice _|.string=>if dC (0<s)&&dC (z.length=s) then sO (.append e s (P.bytesOf e) z x y) else nO
      |_=>nO
     |_,_,_,_=>nO
    |_,_,_=>nO
   |.builtin .recover=>sO .recover
   |.builtin .delete=>match c.argTypes[0]?.bind P.underlying,c.args.toList with
    |some (.map kt _),[m,k]=>match J0 P kt,Z3 m,Z3 k with
     |some kp,sO m,sO k=>sO (.delete kp m k)
     |_,_,_=>nO
    |_,_=>nO
   |.builtin .clear=>match c.argTypes[0]?.bind P.underlying,c.args.toList with
    |some (.slice e),[x]=>match ZW P e,Zaz P e,Z3 x with
     |some s,sO z,sO x=>if dC (0<s)&&dC (z.length=s) then sO (.clear s z x) else nO
     |_,_,_=>nO
    |_,_=>nO
   |.builtin .copy=>match c.argTypes[0]?.bind P.underlying,c.args.toList with
    |some (.slice e),[x,y]=>match ZW P e,Z3 x,Z3 y with
     |some s,sO x,sO y=>if dC (0<s) then sO (.copy s x y) else nO
     |_,_,_=>nO
    |_,_=>nO
   |_=>nO
  |_=>nO
def Zh8(ops:Array Oper):Option (Nat×Bool)→Option (Option (Nat×Bool))
 |none=>sO nO
 |some (j,b)=>match (ops[j]?).bind (·.dst) with
  |some t=>sO (sO (t,b))
  |none=>nO
def cop(P:Program)(N:Nat)(ops:Array Oper)(o:Oper):Option DOp :=
 match ck P o.op,Zh8 ops o.guard with
 |some k,sO g =>
  match o.dst with
  |none=>sO ⟨nO,g,k⟩
  |some d=>if d<N then sO ⟨sO d,g,k⟩ else nO
 |_,_=>nO
def Jt(P:Program)(N:Nat)(ops:Array Oper):List Nat→Option (List DOp)
 | []=>sO []
 |i::r=>match ops[i]? with
  |some o=>match cop P N ops o,Jt P N ops r with
   |some d,sO ds=>sO (d::ds)
   |_,_=>nO
  |none=>nO
abbrev Ann:=List (Nat×List Nat)
def Ann.get:Ann→Nat→Option (List Nat)
 | [],_=>nO
 | (k,l)::r,n=>if k=n then sO l else Ann.get r n
def ZR:Opd→List Nat
 |.tmp t=>[t]
 |.cst _=>[]
def Za2(xs:List Opd):List Nat:=xs.flatMap ZR
def Yq:K→List Nat
 |.q _ xs=>Za2 xs
 |.pick c a b=>ZR c++ZR a++ZR b
 |.alloc _|.mkmap|.recover=>[]
 |.box x|.s2b x|.panic x=>ZR x
 |.bsl _ _ _ _ xs=>Za2 xs
 |.store1 a v|.storeN _ a v=>ZR a++ZR v
 |.call f xs|.defer f xs=>ZR f++Za2 xs
 |.append _ _ _ _ x y=>ZR x++ZR y
 |.mapupd _ m k v=>ZR m++ZR k++ZR v
 |.mapent _ _ m k=>ZR m++ZR k
 |.entst m e v=>ZR m++ZR e++ZR v
 |.mkslice _ _ _ _ l c=>ZR l++ZR c
 |.delete _ m k=>ZR m++ZR k
 |.clear _ _ x=>ZR x
 |.copy _ x y=>ZR x++ZR y
 |.fork k=>Yq k
def Zdp:Option (Nat×Bool)→List Nat
 |none=>[]
 |some (t,_)=>[t]
def ZA(o:DOp):List Nat:=Zdp o.guard++Yq o.k
def Y5:K→Bool
 |.q _ _|.pick _ _ _|.bsl _ _ _ _ _|.s2b _|.alloc _|.fork _=>true
 |_=>false
def pqK:K→Bool
 |.q _ _|.pick _ _ _|.bsl _ _ _ _ _|.s2b _|.alloc _=>true
 |_=>false
def Zch:K→Bool
 |.q .load1 _|.q (.loadN _) _=>true
 |_=>false
def YY:K→Bool
 |.q .load1 _|.q (.loadN _) _|.q (.lookup _ _ _) _|.q .lenM _|.q (.conv .b2s) _=>true
 |_=>false
def ZdC:K→Bool
 |.store1 _ _|.storeN _ _ _=>true
 |_=>false
def Zud:K→Bool
 |.alloc _|.fork _=>false
 |_=>true
instance:Inhabited DOp:=⟨⟨nO,nO,.mkmap⟩⟩
abbrev Tab:=List (DOp×List Nat)
def Tab.op(T:Tab)(i:Nat):DOp:=(T.getD i dE).1
def Tab.deps(T:Tab)(i:Nat):List Nat:=(T.getD i dE).2
def nd(d:Option Nat)(l:List Nat):Bool :=
 match d with
 |some t=>!l.contains t
 |none=>true
def ndd:Option Nat→Option Nat→Bool
 |some t,sO u=>t != u
 |_,_=>true
def Zci(bs:List Nat):List Nat→Nat
 | []=>0
 |d::ds=>(bs.getD d 0 |||(1 <<< d)) |||Zci bs ds
def Zfp:List (List Nat)→List Nat→List Nat
 | [],acc=>acc
 |d::r,acc=>Zfp r (acc++[Zci acc d])
def ZcF(T:Tab)(A:List Nat)(i:Nat):Bool :=
 pqK (T.op i).k&&nd (T.op i).dst (ZA (T.op i))&&A.all fun a=>nd (T.op i).dst (ZA (T.op a))&&ndd (T.op i).dst (T.op a).dst
def ZbM(o:DOp):Nat:=o.dst.getD 0
def Zal(n:Nat):List Nat→Bool
 | []=>false
 |a::l=>a==n ||Zal n l
def Zh9(T:Tab)(fl:List Nat)(free rest:List Nat)(i:Nat):Bool :=
 Zud (T.op i).k&&(rest.all fun r=>(T.deps r).any fun d=>(i::rest).contains d) &&
  free.all fun a=>nd (T.op i).dst (ZA (T.op a))&&ndd (T.op i).dst (T.op a).dst&&(Zal (ZbM (T.op a)) fl||!YY (T.op a).k)
def chk(T:Tab)(ms:List Nat)(fl:Nat→List Nat):List Nat→List Nat→Bool
 |_,[]=>true
 |A,i::rest =>
  let free:=A.filter fun a=>!(ms.getD i 0).testBit a
  dC (i<T.length)&&((T.deps i).all fun d=>!(i::rest).contains d)&&!rest.contains i&&(free.all fun a=>nd (T.op a).dst (ZA (T.op i))) &&
   if ZcF T A i then chk T ms fl (i::A) rest else Zh9 T (fl i) free rest i&&chk T ms fl free rest
def Ztj(T:Tab)(fl:List Nat)(free:List Nat)(i:Nat):Bool :=
 Zud (T.op i).k&&!Y5 (T.op i).k&&(free.all fun a=>nd (T.op a).dst (ZA (T.op i)))&&free.all fun a=>nd (T.op i).dst (ZA (T.op a))&&ndd (T.op i).dst (T.op a).dst&&(Zal (ZbM (T.op a)) fl||!YY (T.op a).k)
def ZyR(T:Tab)(ms:List Nat)(fl:Nat→List Nat)(A:List Nat)(i j:Nat)(rest:List Nat):Bool :=
 let fi:=A.filter fun a=>!(ms.getD i 0).testBit a
 let fj:=A.filter fun a=>!(ms.getD j 0).testBit a
 dC (i<T.length)&&dC (j<T.length)&&((T.deps i).all fun d=>!(i::j::rest).contains d)&&((T.deps j).all fun d=>!(i::j::rest).contains d)&&(i != j)&&!rest.contains i&&!rest.contains j &&
  (rest.all fun r=>(T.deps r).any fun d=>(i::j::rest).contains d)&&Ztj T (fl i) fi i&&Ztj T (fl j) fj j &&
  chk T ms fl fi (j::rest)&&chk T ms fl fj (i::rest)
def Zdk(T:Tab)(ms:List Nat)(fl:Nat→List Nat)(fk:Option Nat):List Nat→List Nat→Bool
 |_,[]=>true
 |A,i::rest =>
  if fk=sO i then match rest with
   |j::rest'=>ZyR T ms fl A i j rest'
   | []=>false
  else
   let free:=A.filter fun a=>!(ms.getD i 0).testBit a
   dC (i<T.length)&&((T.deps i).all fun d=>!(i::rest).contains d)&&!rest.contains i&&(free.all fun a=>nd (T.op a).dst (ZA (T.op i))) &&
    if ZcF T A i then Zdk T ms fl fk (i::A) rest else Zh9 T (fl i) free rest i&&Zdk T ms fl fk free rest
def ZAx(o:DOp):DOp:={ o with k:=.fork o.k }
def Tab.mk(T:Tab)(fk:Option Nat)(i:Nat):DOp:=if fk=sO i then ZAx (T.op i) else T.op i
def JI(o:Oper):List Nat:=(o.after.toList.filter (Region.binds .any ·)).map (·.on)
def Zma:Nat→List (List Nat)→Bool
 |_,[]=>true
 |i,d::r=>d.all (fun x=>dC (x<i))&&Zma (i+1) r
def Zwu(n:Nat)(order:List Nat):Bool:=(ZE4 n).all order.contains
def Zxs(an:Ann)(id:Nat):Option Nat :=
 match an.get (id+3000000) with
 |some (i::_)=>sO i
 |_=>nO
def ccD(P:Program)(an:Ann)(N:Nat)(id:Nat)(ops:Array Oper):Option (List Nat×List (DOp×List Nat)×Option (List Nat)) :=
 match Jt P N ops (ZE4 ops.size),an.get (id+1000000),an.get id with
 |some l,sO order,sO kp =>
  let fl:=fun i=>(an.get (id+1000000*(i+4))).getD []
  let ds:=ops.toList.map JI
  let T:Tab:=l.zip ds
  if P.follows .mixedOrders&&Zma 0 ds&&Zwu ops.size order&&Zdk T (Zfp ds []) fl (Zxs an id) [] order then sO (order,order.map fun i=>(T.mk (Zxs an id) i,fl i),sO kp) else nO
 |_,_,_=>nO
def cc(P:Program)(an:Ann)(N:Nat):Code→Option DC
 |.skip=>sO .skip
 |.region id ops true=>(ccD P an N id ops).map fun x=>.regD x.1 x.2.1 x.2.2
 |.region id ops false=>(Jt P N ops (ZE4 ops.size)).map fun l=>.reg l (an.get id)
 |.seq a b=>match cc P an N a,cc P an N b with
  |some x,sO y=>sO (.seq x y)
  |_,_=>nO
 |.cond c a b=>match Z3 c,cc P an N a,cc P an N b with
  |some c,sO x,sO y=>sO (.cond c x y)
  |_,_,_=>nO
 |.block id a=>(cc P an N a).map (.block id)
 |.loop a=>(cc P an N a).map .loop
 |.exit id=>sO (.exit id)
 |.ret=>sO .ret
 |.scope a=>(cc P an N a).map .scope
 |.label l=>sO (.label l)
 |.goto l=>sO (.goto l)
 |.rangeFunc f params a b=>match Z3 f,cc P an N a,cc P an N b with
  |some f,sO x,sO y=>if params.toList.all (· < N) then sO (.rangeF f params.toList x y) else nO
  |_,_,_=>nO
 |_=>nO
inductive RV where
 |tmp (t:Nat)|cell1 (t:Nat)|cellN (t n:Nat)
def crv(P:Program):ResultVar→Option RV
 |.tmp t=>sO (.tmp t)
 |.cell a t=>match JS P t,ZW P t with
  |some true,sO n=>sO (.cellN a n)
  |some false,sO _=>sO (.cell1 a)
  |_,_=>nO
def Zic(P:Program):List ResultVar→Option (List RV)
 | []=>sO []
 |r::rs=>match crv P r,Zic P rs with
  |some x,sO xs=>sO (x::xs)
  |_,_=>nO
structure DF where
 n:Nat
 res:List RV
 body:DC
def cf(P:Program)(an:Ann)(f:FuncId):Option DF :=
 match P.funcs[f]? with
 |some fn=>match fn.body with
  |some c=>if fn.name == "runtime.NumGoroutine" then nO else
   match Zic P fn.results.toList,cc P an fn.ntmps c with
   |some rs,sO d=>sO ⟨fn.ntmps,rs,d⟩
   |_,_=>nO
  |none=>nO
 |none=>nO
def Za8:Bool→Bool→Bool
 |b,true=>b
 |b,false=>!b
def Zl(ρ:Env):Option (Nat×Bool)→Option Bool
 |none=>sO true
 |some (t,want)=>match ZL ρ t with
  |some (.d (.bool b))=>sO (Za8 b want)
  |some (.when c (.d (.bool b)))=>sO (c&&Za8 b want)
  |_=>nO
def ZC(ρ:Env)(c:Bool):Opd→Option (Prop×E)
 |.cst d=>sO (True,.d d)
 |.tmp t=>match ZL ρ t with
  |some (.when c' e)=>sO (c=true→c'=true,e)
  |some e=>sO (True,e)
  |none=>nO
def Yd(ρ:Env)(c:Bool):List Opd→Option (Prop×List E)
 | []=>sO (True,[])
 |x::xs=>match ZC ρ c x,Yd ρ c xs with
  |some (p,e),sO (q,es)=>sO (p∧q,e::es)
  |_,_=>nO
def Zt(ρ:Env)(dst:Option Nat)(e:E):Env :=
 match dst with
 |some t=>(t,e)::ρ
 |none=>ρ
inductive SR where
 |ok (side:Prop) (ρ:Env) (L:Loc) (s:St)
 |all (side:Prop) (pre:Nat→Prop) (ρ:Nat→Env) (s:Nat→St)
 |stop
def Zak(L:Loc)(l:Nat):Bool:=(Zg L l).isSome
def Zdc(ρ:Env)(c:Bool)(x a b:Opd):Option (Prop×Bool) :=
 match ZC ρ c x with
 |some (p,.d (.bool v)) =>
  match ZC ρ (c&&v) a,ZC ρ (c&&!v) b with
  |some (pa,.d (.bool y)),sO (pb,.d (.bool z))=>sO (p∧pa∧pb,if v then y else z)
  |_,_=>nO
 |_=>nO
def Z4(zero:List D)(ps:List (Nat×D))(i:Nat):List D :=
 match ps with
 | []=>zero
 | (k,d)::r=>if k=i then cellsOf d else Z4 zero r i
def K4(s:Nat):List D→Bool
 | []=>true
 |d::r=>W4 d&&dC ((cellsOf d).length=s)&&K4 s r
def KC(z:List D)(n:Nat):List D:=(List.replicate n z).flatten
def KZ(ρ:Env)(L:Loc)(s:St)(p q ok:Prop)(a:E)(n:Nat)(xs:List D):SR :=
 match a with
 |.loc l off=>match Zg L l with
  |some cs=>.ok (p∧q∧off+n≤cs.length∧ok) ρ ((l,ZE cs off xs)::L) s
  |none=>.stop
 |.d (.ptr b off)=>match Yj s b with
  |some cs=>.ok (p∧q∧off+n≤cs.length∧ok) ρ L (s.upd b (.cells (ZE cs off xs)))
  |none=>.stop
 |_=>.stop
def ZdH(kp:KP)(k z:D):List (D×D)→Option D
 | []=>sO z
 |e::r=>match Kn kp k e.1 with
  |some true=>sO e.2
  |some false=>ZdH kp k z r
  |none=>nO
def ZB(o:DOp)(ρ:Env)(L:Loc)(s:St):SR :=
 match Zl ρ o.guard with
 |none=>.stop
 |some c =>
  match o.k with
  |.q q xs=>match Yd ρ c xs with
   |some (p,es)=>match qv L s q es with
    |some (side,e)=>match o.guard with
     |none=>.ok (p∧side) (Zt ρ o.dst e) L s
     |some _=>.ok (c=true→p∧side) (Zt ρ o.dst (.when c e)) L s
    |none=>.stop
   |none=>.stop
  |.pick x a b=>match Zdc ρ c x a b with
   |some (p,v)=>match o.guard with
    |none=>.ok p (Zt ρ o.dst (.d (.bool v))) L s
    |some _=>.ok (c=true→p) (Zt ρ o.dst (.when c (.d (.bool v)))) L s
   |none=>.stop
  |.alloc z=>match o.guard,o.dst with
   |none,sO t=>.ok (Zak L t=false) ((t,.loc t 0)::ρ) ((t,z)::L) s
   |_,_=>.stop
  |.box x=>match o.guard,o.dst,ZC ρ true x with
   |none,sO t,sO (p,.d v)=>.ok (p∧Zak L t=false∧W4 v=true) ((t,.loc t 0)::ρ) ((t,cellsOf v)::L) s
   |_,_,_=>.stop
  |.bsl len n z is xs=>match Yd ρ c xs with
   |some (p,es)=>match W2 es with
    |some ds=>match o.guard with
     |none=>.ok (p∧K4 n ds=true) (Zt ρ o.dst (.d (.sl .full len n (Z4 z (is.zip ds))))) L s
     |some _=>.ok (c=true→p∧K4 n ds=true) (Zt ρ o.dst (.when c (.d (.sl .full len n (Z4 z (is.zip ds)))))) L s
    |none=>.stop
   |none=>.stop
  |.s2b x=>match ZC ρ c x with
   |some (p,.d (.str l))=>match o.guard with
    |none=>.ok p (Zt ρ o.dst (.d (.sl .none l.length 1 (fun i=>[.int .u8 ((l.getD i 0).toNat:Int)])))) L s
    |some _=>.ok (c=true→p) (Zt ρ o.dst (.when c (.d (.sl .none l.length 1 (fun i=>[.int .u8 ((l.getD i 0).toNat:Int)]))))) L s
   |_=>.stop
  |.store1 a v=>match o.guard,o.dst,ZC ρ true a,ZC ρ true v with
   |none,nO,sO (p,a),sO (q,.d x)=>KZ ρ L s p q (Jl x=true) a 1 [x]
   |_,_,_,_=>.stop
  |.storeN n a v=>match o.guard,o.dst,ZC ρ true a,ZC ρ true v with
   |none,nO,sO (p,a),sO (q,.d (.agg xs))=>KZ ρ L s p q (xs.length=n) a n xs
   |_,_,_,_=>.stop
  |.mkmap=>match o.guard,o.dst with
   |none,sO t=>.all True (fun b=>s b=nO) (fun b=>(t,.d (.map b))::ρ) (fun b=>s.upd b (.map []))
   |_,_=>.stop
  |.mkslice _ n bytes z l h=>match o.guard,o.dst,ZC ρ true l,ZC ρ true h with
   |none,sO t,sO (p,.d (.int _ l)),sO (q,.d (.int _ h)) =>
    .all (p∧q∧0≤l∧l≤h∧(bytes:Int)*h≤140737488355328∧h≤big) (fun b=>s b=nO) (fun b=>(t,.d (.msl b 0 l.toNat h.toNat n))::ρ) (fun b=>s.upd b (.cells (KC z h.toNat)))
   |_,_,_,_=>.stop
  |.mapupd kp m k v=>match o.guard,o.dst,ZC ρ true m,ZC ρ true k,ZC ρ true v with
   |none,nO,sO (p,.d (.map b)),sO (q,.d dk),sO (r,.d dv)=>match KM s b with
    |some es=>match J5 kp dk dv es with
     |some es'=>.ok (p∧q∧r∧Qo kp dk=true) ρ L (s.upd b (.map es'))
     |none=>.stop
    |none=>.stop
   |_,_,_,_,_=>.stop
  |.delete kp m k=>match o.guard,o.dst,ZC ρ true m,ZC ρ true k with
   |none,nO,sO (p,.d (.map b)),sO (q,.d dk)=>match KM s b with
    |some es=>match ZfI kp dk es with
     |some es'=>.ok (p∧q∧Qo kp dk=true) ρ L (s.upd b (.map es'))
     |none=>.stop
    |none=>.stop
   |_,_,_,_=>.stop
  |.mapent kp z m k=>match o.guard,o.dst,ZC ρ true m,ZC ρ true k with
   |none,sO t,sO (p,.d (.map b)),sO (q,.d dk)=>match KM s b with
    |some es=>match ZdH kp dk z es with
     |some v=>.all (p∧q∧Qo kp dk=true) (fun _=>True) (fun n=>(t,.d (.tup [v,.stamp n]))::ρ) (fun n=>s.upd b (.mapE kp es dk n))
     |none=>.stop
    |none=>.stop
   |_,_,_,_=>.stop
  |.entst m st v=>match o.guard,o.dst,ZC ρ true m,ZC ρ true st,ZC ρ true v with
   |none,nO,sO (p,.d (.map b)),sO (q,.d (.stamp n)),sO (r,.d dv)=>match s b with
    |some (.mapE kp es dk n')=>match J5 kp dk dv es with
     |some es'=>.ok (p∧q∧r∧n=n') ρ L (s.upd b (.map es'))
     |none=>.stop
    |_=>.stop
   |_,_,_,_,_=>.stop
  |_=>.stop
def Zie(K:Env→Loc→St→Prop)(X:List DOp→Env→Loc→St→Prop):List DOp→Env→Loc→St→Prop
 | [],ρ,L,s=>K ρ L s
 |o::os,ρ,L,s=>match ZB o ρ L s with
  |.ok side ρ' L' s'=>side∧Zie K X os ρ' L' s'
  |.all side pre ρ' s'=>side∧∀b,pre b→Zie K X os (ρ' b) L (s' b)
  |.stop=>X (o::os) ρ L s
inductive Rd where
 |blk (b:Nat)
 |loc (l:Nat)
def KT:E→List Rd
 |.d (.ptr b _)=>[.blk b]
 |.d (.map b)=>[.blk b]
 |.d (.msl b _ _ _ _)=>[.blk b]
 |.loc l _=>[.loc l]
 |_=>[]
def Y7(o:DOp)(ρ:Env):List Rd :=
 match o.k with
 |.q q xs=>if YY (.q q xs) then match Zl ρ o.guard with
  |some true=>match Yd ρ true xs with
   |some (_,e::_)=>KT e
   |_=>[]
  |_=>[]
  else []
 |_=>[]
def Kj(o:DOp)(ρ:Env):List (Nat×Rd):=(Y7 o ρ).map fun b=>(ZbM o,b)
def KS(s s':St)(L L':Loc):List (Nat×Rd)→Prop
 | []=>True
 | (_,.blk b)::B=>s' b=s b∧KS s s' L L' B
 | (_,.loc l)::B=>Zg L' l=Zg L l∧KS s s' L L' B
def YX(fl:List Nat):List (Nat×Rd)→List (Nat×Rd)
 | []=>[]
 |x::B=>if Zal x.1 fl then x::YX fl B else YX fl B
def Wg(fl:List Nat)(s s':St)(L L':Loc)(B:List (Nat×Rd)):Prop:=KS s s' L L' (YX fl B)
def ZgY(K:Env→Loc→St→Prop)(X:List (DOp×List Nat)→Env→Loc→St→List (Nat×Rd)→Prop):List (DOp×List Nat)→Env→Loc→St→List (Nat×Rd)→Prop
 | [],ρ,L,s,_=>K ρ L s
 |o::os,ρ,L,s,B=>match ZB o.1 ρ L s with
  |.ok side ρ' L' s'=>if Y5 o.1.k then side∧ZgY K X os ρ' L' s' (Kj o.1 ρ++B) else side∧Wg o.2 s s' L L' B∧ZgY K X os ρ' L' s' (Kj o.1 ρ++YX o.2 B)
  |.all side pre ρ' s'=>side∧∀b,pre b→Wg o.2 s (s' b) L L B∧ZgY K X os (ρ' b) L (s' b) (YX o.2 B)
  |.stop=>X (o::os) ρ L s B
def Ko:E→List Nat
 |.loc l _=>[l]
 |.when _ e=>Ko e
 |_=>[]
def Yp(ρ:Env):List Nat→Env
 | []=>[]
 |k::ks=>match ZL ρ k with
  |some e=>(k,e)::Yp ρ ks
  |none=>Yp ρ ks
def Zax(L:Loc):List Nat→Loc
 | []=>[]
 |l::ls=>match Zg L l with
  |some cs=>(l,cs)::Zax L ls
  |none=>Zax L ls
def ZaY(ρ:Env)(L:Loc):Loc:=Zax L (ρ.flatMap fun x=>Ko x.2)
structure Zt6(P:Program) where
 T:G→World→Machine→Prop
 back:∀g w m m',Steps P m m'→T g w m'→T g w m
 ext:∀g w g' w' m,Ext g w g' w'→T g' w' m→T g w m
structure Fr(P:Program) where
 T:Zt6 P
 b:Frame
 cs:List Frame
 N:Nat
 ds:List Deferred
 an:Ann
inductive Zi where
 |code (c:DC)
 |inBlock (id:Nat)
 |inLoop (c:DC)
 |inScope (c:DC)
 |beginR
inductive WC(P:Program)(an:Ann)(N:Nat):List Item→List Zi→Prop where
 |nil:WC P an N [] []
 |code {c d k dk} (h:cc P an N c=some d) (t:WC P an N k dk):WC P an N (.code c::k) (.code d::dk)
 |inBlock {id k dk} (t:WC P an N k dk):WC P an N (.inBlock id::k) (.inBlock id::dk)
 |inLoop {c d k dk} (h:cc P an N c=some d) (t:WC P an N k dk):WC P an N (.inLoop c::k) (.inLoop d::dk)
 |inScope {c d k dk} (h:cc P an N c=some d) (t:WC P an N k dk):WC P an N (.inScope c::k) (.inScope d::dk)
 |beginR {k dk} (t:WC P an N k dk):WC P an N (.beginRound::k) (.beginR::dk)
section
variable {P:Program}
theorem Zta{b:Frame}{a:Act}{k:List Item}{cs:List Frame}{c:Code}:step P (lone (b.atR a (.code (.scope c)::k)) cs w)=.next (lone (b.atR a (.code c::.inScope c::k)) cs w) :=
 step_lone_go (by simp[stepG,stepG.exec,Frame.atR])
theorem Zp0{b:Frame}{a:Act}{k:List Item}{cs:List Frame}{c:Code}:step P (lone (b.atR a (.inScope c::k)) cs w)=.next (lone (b.atR a k) cs w) :=
 step_lone_go (by simp[stepG,stepG.exec,Frame.atR])
def Jr(F:Fr P)(todo:List Item)(ρ:Env)(L:Loc)(s:St):Prop :=
 ∀g ν w tmps,F.N≤tmps.size→Zr g ν w tmps ρ L s→F.T.T g w (lone (F.b.atR ⟨tmps,F.ds⟩ todo) F.cs w)
def Zu(F:Fr P)(dk:List Zi)(ρ:Env)(L:Loc)(s:St):Prop:=∀k,WC P F.an F.N k dk→Jr F k ρ L s
def DO(F:Fr P)(_keep:Option (List Nat))(dk:List Zi)(os:List DOp)(ρ:Env)(L:Loc)(s:St):Prop :=
 ∀ops is k,Jt P F.N ops is=sO os→WC P F.an F.N k dk→Jr F (.inRegion ops is::k) ρ L s
theorem Jr.step{F:Fr P}{k k':List Item}(h:∀a w,step P (lone (F.b.atR a k) F.cs w)=.next (lone (F.b.atR a k') F.cs w))(h':Jr F k' ρ L s):Jr F k ρ L s :=
 fun g ν w tmps hN m=>F.T.back _ _ _ _ (.one (h _ w)) (h' g ν w tmps hN m)
theorem ZyP{an:Ann}{N:Nat}{c:Code}(h:cc P an N c=sO .skip):c=.skip:=by
 unfold cc at h;split at h<;>simp_all
 all_goals (split at h<;>grind)
theorem ZqO{an:Ann}{N:Nat}{c:Code}(h:cc P an N c=sO .ret):c=.ret:=by
 unfold cc at h;split at h<;>simp_all
 all_goals (split at h<;>grind)
theorem Zti{an:Ann}{N id:Nat}{c:Code}(h:cc P an N c=sO (.exit id)):c=.exit id:=by
 unfold cc at h;split at h<;>simp_all
 all_goals (split at h<;>grind)
theorem ZzO{an:Ann}{N:Nat}{c:Code}{x y:DC}(h:cc P an N c=sO (.seq x y)):∃a b,c=.seq a b∧cc P an N a=sO x∧cc P an N b=sO y:=by
 unfold cc at h;split at h<;>simp_all
 all_goals (split at h<;>simp_all)
 grind
theorem ZyL{an:Ann}{N:Nat}{c:Code}{x y:DC}{o:Opd}(h:cc P an N c=sO (.cond o x y)):∃o' a b,c=.cond o' a b∧Z3 o'=sO o∧cc P an N a=sO x∧cc P an N b=sO y:=by
 unfold cc at h;split at h<;>simp_all
 all_goals (split at h<;>simp_all)
 grind
theorem Zxf{an:Ann}{N id:Nat}{c:Code}{x:DC}(h:cc P an N c=sO (.block id x)):∃a,c=.block id a∧cc P an N a=sO x:=by
 unfold cc at h;split at h<;>simp_all
 all_goals (split at h<;>grind)
theorem ZyN{an:Ann}{N:Nat}{c:Code}{x:DC}(h:cc P an N c=sO (.loop x)):∃a,c=.loop a∧cc P an N a=sO x:=by
 unfold cc at h;split at h<;>simp_all
 all_goals (split at h<;>grind)
theorem ZzN{an:Ann}{N:Nat}{c:Code}{ks:Option (List Nat)}(h:cc P an N c=sO (.reg os ks)):
  ∃id ops,c=.region id ops false∧Jt P N ops (ZE4 ops.size)=sO os∧an.get id=ks:=by
 unfold cc at h;split at h<;>simp_all
 ·grind
 all_goals (split at h<;>grind)
theorem Zxh{an:Ann}{N:Nat}{c:Code}{x:DC}(h:cc P an N c=sO (.scope x)):∃a,c=.scope a∧cc P an N a=sO x:=by
 unfold cc at h;split at h<;>simp_all
 all_goals (split at h<;>grind)
theorem Zxg{an:Ann}{N l:Nat}{c:Code}(h:cc P an N c=sO (.label l)):c=.label l:=by
 unfold cc at h;split at h<;>simp_all
 all_goals (split at h<;>grind)
theorem ZyM{an:Ann}{N l:Nat}{c:Code}(h:cc P an N c=sO (.goto l)):c=.goto l:=by
 unfold cc at h;split at h<;>simp_all
 all_goals (split at h<;>grind)
theorem ZoO{an:Ann}{N:Nat}{c:Code}{f:Opd}{ps:List Nat}{x y:DC}(h:cc P an N c=sO (.rangeF f ps x y)):
  ∃f' ps' a b,c=.rangeFunc f' ps' a b∧Z3 f'=sO f∧ps'.toList=ps∧cc P an N a=sO x∧cc P an N b=sO y∧∀t∈ps,t<N:=by
 unfold cc at h;split at h<;>simp_all
 all_goals (split at h<;>simp_all)
 obtain⟨j,rfl,rfl,rfl,rfl⟩:=h
 exact⟨_,_,_,_,⟨rfl,rfl,rfl,rfl⟩,‹_›,rfl,‹_›,‹_›,fun t ht=>by obtain⟨i,hi,rfl⟩:=ZFa ht;simpa using j i (by omega)⟩
theorem Zv{F:Fr P}{dk:List Zi}(h:Zu F dk ρ L s):Zu F (.code .skip::dk) ρ L s:=by
 intro k hk
 cases hk with
 |code hc ht=>obtain rfl:=ZyP hc;exact Jr.step (fun a w=>stepR_skip) (h _ ht)
theorem Zj{F:Fr P}{id:Nat}{dk:List Zi}(h:Zu F dk ρ L s):Zu F (.inBlock id::dk) ρ L s:=by
 intro k hk
 cases hk with
 |inBlock ht=>exact Jr.step (fun a w=>stepR_inBlock) (h _ ht)
theorem Zd{F:Fr P}{x y:DC}{dk:List Zi}(h:Zu F (.code x::.code y::dk) ρ L s):Zu F (.code (.seq x y)::dk) ρ L s:=by
 intro k hk
 cases hk with
 |code hc ht=>obtain⟨a,b,rfl,ha,hb⟩:=ZzO hc;exact Jr.step (fun a w=>stepR_seq) (h _ (.code ha (.code hb ht)))
theorem Zb{F:Fr P}{id:Nat}{x:DC}{dk:List Zi}(h:Zu F (.code x::.inBlock id::dk) ρ L s):Zu F (.code (.block id x)::dk) ρ L s:=by
 intro k hk
 cases hk with
 |code hc ht=>obtain⟨a,rfl,ha⟩:=Zxf hc;exact Jr.step (fun a w=>stepR_block) (h _ (.code ha (.inBlock ht)))
theorem Zfc{F:Fr P}{x:DC}{dk:List Zi}(h:Zu F (.code x::.inLoop x::dk) ρ L s):Zu F (.code (.loop x)::dk) ρ L s:=by
 intro k hk
 cases hk with
 |code hc ht=>obtain⟨a,rfl,ha⟩:=ZyN hc;exact Jr.step (fun a w=>stepR_loop) (h _ (.code ha (.inLoop ha ht)))
theorem Za{F:Fr P}{x:DC}{dk:List Zi}(h:Zu F (.code x::.inLoop x::dk) ρ L s):Zu F (.inLoop x::dk) ρ L s:=by
 intro k hk
 cases hk with
 |inLoop hc ht=>exact Jr.step (fun a w=>stepR_inLoop) (h _ (.code hc (.inLoop hc ht)))
theorem Yr{F:Fr P}{x:DC}{dk:List Zi}(h:Zu F (.code x::.inScope x::dk) ρ L s):Zu F (.code (.scope x)::dk) ρ L s:=by
 intro k hk
 cases hk with
 |code hc ht=>obtain⟨a,rfl,ha⟩:=Zxh hc;exact Jr.step (fun a w=>Zta) (h _ (.code ha (.inScope ha ht)))
theorem Z7{F:Fr P}{x:DC}{dk:List Zi}(h:Zu F dk ρ L s):Zu F (.inScope x::dk) ρ L s:=by
 intro k hk
 cases hk with
 |inScope hc ht=>exact Jr.step (fun a w=>Zp0) (h _ ht)
theorem Yx{F:Fr P}{l:Nat}{dk:List Zi}(h:Zu F dk ρ L s):Zu F (.code (.label l)::dk) ρ L s:=by
 intro k hk
 cases hk with
 |code hc ht=>obtain rfl:=Zxg hc;exact Jr.step (fun a w=>stepR_label) (h _ ht)
def W7:DC→Nat→Option DC
 |.seq a b,l=>match W7 a l with
  |some r=>sO (.seq r b)
  |none=>W7 b l
 |.label l',l=>if l'=l then sO .skip else nO
 |_,_=>nO
theorem Zrg{an:Ann}{N l:Nat}:∀{c:Code} {d:DC},cc P an N c=sO d→(∀d',W7 d l=sO d'→∃c',findLabel c l=sO c'∧cc P an N c'=sO d')∧(W7 d l=nO→findLabel c l=nO):=by
 intro c
 induction c with
 |seq a b iha ihb =>
  intro d h
  unfold cc at h
  split at h<;>simp at h
  rename_i x y hx hy
  subst h
  obtain⟨a1,a2⟩:=iha hx
  obtain⟨b1,b2⟩:=ihb hy
  refine⟨fun d' hd=>?_,fun hd=>?_⟩
  ·simp[W7]at hd
   cases i:W7 x l with
   |some r =>
    simp[i]at hd
    obtain⟨c',h1,h2⟩:=a1 r i
    subst hd
    exact⟨.seq c' b,by simp[findLabel,h1],by simp[cc,h2,hy]⟩
   |none =>
    simp[i]at hd
    obtain⟨c',h1,h2⟩:=b1 d' hd
    exact⟨c',by simp[findLabel,a2 i,h1],h2⟩
  simp[W7]at hd
  cases i:W7 x l with
  |some r=>grind
  |none=>simp[i]at hd;simp[findLabel,a2 i,b2 hd]
 |label l' =>
  intro d h
  cases h
  refine⟨fun d' hd=>?_,fun hd=>?_⟩
  ·simp only[W7]at hd
   split at hd<;>simp at hd
   rename_i hl
   subst hd
   exact⟨.skip,by simp[findLabel,hl],rfl⟩
  simp only[W7]at hd
  split at hd<;>simp at hd
  rename_i hl
  simp[findLabel,hl]
 |region id ops dr =>
  intro d h
  refine⟨fun d' hd=>?_,fun _=>rfl⟩
  cases dr<;>simp only[cc,ZE3]at h<;>(obtain⟨_,_,rfl⟩:=h;cases hd)
 |_ =>
  intro d h
  refine⟨fun d' hd=>?_,fun _=>rfl⟩
  first
   | (cases h;done)
   | (simp[cc]at h;obtain⟨_,_,rfl⟩:=h;cases hd;done)
   | (cases h;done)
   | (simp[cc]at h;split at h<;>(try(split at h))<;>simp at h<;>(subst h;cases hd))
def Zc7(l:Nat):List Zi→Option (List Zi)
 |.inScope body::k=>match W7 body l with
  |some r=>sO (.code r::.inScope body::k)
  |none=>Zc7 l k
 |_::k=>Zc7 l k
 | []=>nO
theorem ZcM{an:Ann}{N l:Nat}:∀{k:List Item} {dk dk':List Zi},WC P an N k dk→Zc7 l dk=sO dk'→∃k',gotoIn l k=sO k'∧WC P an N k' dk'
 |_,_,_,.nil,h=>by cases h
 |_,_,_,.code _ t,h=>by simp[Zc7]at h;obtain⟨k',h1,h2⟩:=ZcM t h;exact⟨k',by simpa[gotoIn]using h1,h2⟩
 |_,_,_,.inLoop _ t,h=>by simp[Zc7]at h;obtain⟨k',h1,h2⟩:=ZcM t h;exact⟨k',by simpa[gotoIn]using h1,h2⟩
 |_,_,_,.inBlock t,h=>by simp[Zc7]at h;obtain⟨k',h1,h2⟩:=ZcM t h;exact⟨k',by simpa[gotoIn]using h1,h2⟩
 |_,_,_,.beginR t,h=>by simp[Zc7]at h;obtain⟨k',h1,h2⟩:=ZcM t h;exact⟨k',by simpa[gotoIn]using h1,h2⟩
 |_,_,_,.inScope (c:=c) (d:=d) hc t,h=>by
  simp[Zc7]at h
  obtain⟨f1,f2⟩:=Zrg (l:=l) hc
  cases hf:W7 d l with
  |some r =>
   simp[hf]at h
   subst h
   obtain⟨c',h1,h2⟩:=f1 r hf
   exact⟨_,by simp[gotoIn,h1],.code h2 (.inScope hc t)⟩
  |none =>
   simp[hf]at h
   obtain⟨k',h1,h2⟩:=ZcM t h
   exact⟨k',by simpa[gotoIn,f2 hf]using h1,h2⟩
theorem Zvy{F:Fr P}{l:Nat}{dk dk':List Zi}(he:Zc7 l dk=sO dk')(h:Zu F dk' ρ L s):Zu F (.code (.goto l)::dk) ρ L s:=by
 intro k hk
 cases hk with
 |code hc ht =>
  obtain rfl:=ZyM hc
  obtain⟨k',h1,h2⟩:=ZcM ht he
  exact Jr.step (fun a w=>stepR_goto h1) (h _ h2)
def QS(id:Nat):List Zi→Option (List Zi)
 |.inBlock id'::k=>if id'=id then sO k else QS id k
 |_::k=>QS id k
 | []=>nO
theorem ZcI{an:Ann}{N id:Nat}:∀{k:List Item} {dk dk':List Zi},WC P an N k dk→QS id dk=sO dk'→∃k',exitTo id k=sO k'∧WC P an N k' dk'
 |_,_,_,.nil,h=>by cases h
 |_,_,_,.code _ t,h=>by simp[QS]at h;obtain⟨k',h1,h2⟩:=ZcI t h;exact⟨k',by simpa[exitTo]using h1,h2⟩
 |_,_,_,.inLoop _ t,h=>by simp[QS]at h;obtain⟨k',h1,h2⟩:=ZcI t h;exact⟨k',by simpa[exitTo]using h1,h2⟩
 |_,_,_,.inScope _ t,h=>by simp[QS]at h;obtain⟨k',h1,h2⟩:=ZcI t h;exact⟨k',by simpa[exitTo]using h1,h2⟩
 |_,_,_,.beginR t,h=>by simp[QS]at h;obtain⟨k',h1,h2⟩:=ZcI t h;exact⟨k',by simpa[exitTo]using h1,h2⟩
 |_,_,_,.inBlock (id:=id') t,h=>by
  simp[QS]at h
  by_cases c:id'=id
  ·simp[c]at h
   subst h
   exact⟨_,by simp[exitTo,c],t⟩
  simp[c]at h
  obtain⟨k',h1,h2⟩:=ZcI t h
  exact⟨k',by simpa[exitTo,c]using h1,h2⟩
theorem ZaX{an:Ann}{N id:Nat}:∀{k:List Item} {dk:List Zi},WC P an N k dk→QS id dk=nO→exitTo id k=nO
 |_,_,.nil,_=>rfl
 |_,_,.code _ t,h=>by simp[QS]at h;simpa[exitTo]using ZaX t h
 |_,_,.inLoop _ t,h=>by simp[QS]at h;simpa[exitTo]using ZaX t h
 |_,_,.inScope _ t,h=>by simp[QS]at h;simpa[exitTo]using ZaX t h
 |_,_,.beginR t,h=>by simp[QS]at h;simpa[exitTo]using ZaX t h
 |_,_,.inBlock (id:=id') t,h=>by
  simp[QS]at h
  by_cases hid:id'=id
  ·grind
  simp[hid]at h
  simpa[exitTo,hid]using ZaX t h
theorem ZP{F:Fr P}{id:Nat}{dk dk':List Zi}(he:QS id dk=sO dk')(h:Zu F dk' ρ L s):Zu F (.code (.exit id)::dk) ρ L s:=by
 intro k hk
 cases hk with
 |code hc ht =>
  obtain rfl:=Zti hc
  obtain⟨k',h1,h2⟩:=ZcI ht he
  exact Jr.step (fun a w=>stepR_exit h1) (h _ h2)
theorem Yc(m:Zr g ν w tmps ρ L s){x:Operand}{y:Opd}(hc:Z3 x=sO y){c:Bool}(hcond:c=true){p:Prop}{e:E}(ha:ZC ρ c y=sO (p,e))(hp:p)(ds:List Deferred):ZI g ν w L ((Act.mk tmps ds).eval x) e:=by
 cases x with
 |tmp t =>
  cases hc
  simp[ZC]at ha
  split at ha
  ·rename_i c' e' hg
   cases ha
   exact(m.env t _ hg).1 (hp hcond)
  ·rename_i e' hne hg
   cases ha
   exact m.env t _ hg
  grind
 |const v =>
  simp[Z3]at hc
  obtain⟨d,hd,rfl⟩:=hc
  cases ha
  exact Zia hd
 |func f =>
  cases hc
  cases ha
  exact .fn (.func f) [] [] [] [] rfl rfl (fun i v d h=>by grind) (fun i v d h=>by grind)
 |global g =>
  cases hc
  cases ha
  cases ht:Zqw.tab g with
  |none=>exact .any _
  |some cs=>exact m.st.tabs g cs ht
theorem ZbV{g:G}{ν:Nat→Nat}{w:World}{tmps:Array Value}{ρ:Env}{L:Loc}{s:St}(m:Zr g ν w tmps ρ L s){c:Bool}(hcond:c=true)(ds:List Deferred) :
  ∀{xs:List Operand} {ys:List Opd} {p:Prop} {es:List E},Zca xs=sO ys→Yd ρ c ys=sO (p,es)→p→ZH (ZI g ν w L) (xs.map (Act.mk tmps ds).eval) es
 | [],ys,p,es,hc,ha,hp=>by
  cases hc
  cases ha
  exact .nil
 |x::xs,ys,p,es,hc,ha,hp=>by
  simp[Zca]at hc
  split at hc<;>simp at hc
  rename_i y ys' hy i
  subst hc
  simp[Yd]at ha
  split at ha<;>simp only[ZEP,reduceCtorEq]at ha
  rename_i p1 e1 p2 es' h1 h2
  obtain⟨rfl,rfl⟩:=ha
  exact .cons (Yc m hy hcond h1 hp.1 ds) (ZbV m hcond ds i h2 hp.2)
theorem Zs{F:Fr P}{o:Opd}{x y:DC}{dk:List Zi}{b:Bool}{p:Prop}(ho:ZC ρ true o=sO (p,.d (.bool b)))(hp:p)(ht:b=true→Zu F (.code x::dk) ρ L s)(hf:b=false→Zu F (.code y::dk) ρ L s):Zu F (.code (.cond o x y)::dk) ρ L s:=by
 intro k hk
 cases hk with
 |code hc htl =>
  obtain⟨o',a,b',rfl,i,ha,hb⟩:=ZyL hc
  intro g ν w tmps hN m
  have hv:=Yc m i rfl ho hp F.ds
  have c:(Act.mk tmps F.ds).eval o'=.bool b:=ZbJ hv
  refine F.T.back _ _ _ _ (.one (stepR_cond c)) ?_
  cases b
  ·exact hf rfl _ (.code hb htl) g ν w tmps hN m
  exact ht rfl _ (.code ha htl) g ν w tmps hN m
theorem ZgO{F:Fr P}{ks:Option (List Nat)}{dk:List Zi}(h:DO F ks dk os ρ L s):Zu F (.code (.reg os ks)::dk) ρ L s:=by
 intro k hk
 cases hk with
 |code hc ht =>
  obtain⟨id,ops,rfl,c,_⟩:=ZzN hc
  exact Jr.step (fun a w=>stepR_region) (h _ _ _ c ht)
end
theorem Zh2(w:World)(o:Obj){b:Nat}(h:b<w.heap.size):(w.alloc o).heap[b]?=w.heap[b]?:=by
 show(w.heap.push o)[b]?=_
 rw[Array.getElem?_push];simp[Nat.ne_of_lt h]
theorem Kc(w:World)(o:Obj):(w.alloc o).heap[w.heap.size]?=sO o:=by
 show(w.heap.push o)[w.heap.size]?=_
 rw[Array.getElem?_push];simp
theorem ZcQ(v:Value):v.oneCell'=v.one1:=by cases v<;>rfl
section
variable {P:Program} {g:G} {ν:Nat→Nat} {w:World} {tmps:Array Value} {ρ:Env} {L:Loc} {s:St}
theorem Zg0(b:Nat){cur vs:Array Value}{T:TypeId}(hb:w.heap[b]?=sO (.cells cur T (0,0)))(hsz:vs.size=cur.size)(hp:g.prot b=0)(hk:¬g.kept b):Ext g w g (w.setRow b vs):={
 size:=by simp
 prot _:=ZE6 _
 cell b' o ho:=by
  by_cases h:b'=b
  ·subst h;omega
  exact JC (setRow_other w b b' vs h)
 hdr b' x hx:=by
  by_cases h:b'=b
  ·subst h
   simp only[hdr,hb]at hx
   simp only[hdr,setRow_heap w b' cur vs T (0,0) hb,hsz];exact hx
  rw[Zbj (setRow_other w b b' vs h)];exact hx
 kept b' hb':=setRow_other w b b' vs (fun h=>hk (h▸hb'))
 keptProt _ _:=rfl
 keptEq:=rfl
 os:=rfl
 output:=rfl
 tape:=rfl }
theorem Ym.other{g:G}{w w':World}{s:St}(m:Ym g s w)(e:Ext g w g w')(hs:w'.heap.size=w.heap.size)(hb:∀b o,s b=sO o→w'.heap[b]?=w.heap[b]?):Ym g s w':={
 obj b o ho:=(m.obj b o ho).mono e (hb b o ho) rfl
 kept:=m.kept
 fresh b h:=m.fresh b (by omega)
 tabs n cs hc:=(m.tabs n cs hc).mono e }
theorem Zr.store(m:Zr g ν w tmps ρ L s){l:Nat}{cs ds:List D}(hl:Zg L l=sO cs){vs:Array Value}(hr:ZH (Rep g w) vs.toList ds)(ho:∀v∈vs,v.one1=true)(hn:ds.length=cs.length):
  Ext g w g (w.setRow (ν l) vs)∧Zr g ν (w.setRow (ν l) vs) tmps ρ ((l,ds)::L) s:=by
 obtain⟨hp,u,T,h1,h2,_,_⟩:=m.loc l cs hl
 have y:vs.size=u.size:=by have:=hr.len;simp at this;omega
 have he:=Zg0 (g:=g) (ν l) h1 y hp (m.locKept l cs hl)
 refine⟨he,⟨?_,?_,?_,?_,?_,?_⟩⟩
 ·exact m.st.other he (by simp) (fun b o hb=>setRow_other w (ν l) b vs (fun h=>by subst h;rw[m.locSt l cs hl]at hb;simp at hb))
 ·intro l' j c
  simp only[Zg]at c
  by_cases h:l=l'
  ·subst h
   simp only[if_true,ZEP]at c
   subst c
   refine⟨hp,vs,T,setRow_heap w (ν l) u vs T (0,0) h1,by rw[y,h2,hn],fun i v d hv hd=>?_,ho⟩
   exact(hr.get i v d (by simpa using hv) hd).mono he
  simp only[h,if_false]at c
  have z:ν l'≠ν l:=fun hh=>h (m.inj l l' cs j hl c hh.symm)
  exact(m.loc l' j c).mono he (setRow_other w (ν l) (ν l') vs z) rfl
 ·intro l' j c
  simp only[Zg]at c
  by_cases h:l=l'
  ·subst h;exact m.locKept l cs hl
  simp only[h,if_false]at c;exact m.locKept l' j c
 ·intro l' j c
  simp only[Zg]at c
  by_cases h:l=l'
  ·subst h;exact m.locSt l cs hl
  simp only[h,if_false]at c;exact m.locSt l' j c
 ·intro a b ca cb ha hb n
  simp only[Zg]at ha hb
  by_cases h1:l=a
  ·by_cases h2:l=b
   ·exact h1.symm.trans h2
   simp only[h2,if_false]at hb
   subst h1;exact m.inj _ _ cs cb hl hb n
  simp only[h1,if_false]at ha
  by_cases h2:l=b
  ·subst h2;exact m.inj _ _ ca cs ha hl n
  simp only[h2,if_false]at hb
  exact m.inj _ _ ca cb ha hb n
 intro t e ht
 refine((m.env t e ht).mono he).locs (fun l' j c=>⟨?_,rfl⟩)
 by_cases h:l=l'
 ·exact⟨ds,by simp[Zg,h]⟩
 exact⟨j,by simp[Zg,h,c]⟩
theorem Zux(c:Array Value)(T:TypeId)(hf:∀b,w.heap.size≤b→g.prot b=0∧¬g.kept b):JR g w g (w.alloc (.cells c T)):={
 size:=by simp
 old b hb:=Zh2 w _ hb
 prot _ _:=rfl
 fresh b hb:=(hf b (by simp at hb;omega)).1
 kept:=rfl
 os:=rfl
 output:=rfl
 tape:=rfl }
theorem Zr.alloc(m:Zr g ν w tmps ρ L s){l:Nat}(hl:Zak L l=false){vs:Array Value}(hr:ZH (Rep g w) vs.toList ds)(ho:∀v∈vs,v.one1=true)(T:TypeId):
  Ext g w g (w.alloc (.cells vs T))∧Zr g (fun x=>if x=l then w.heap.size else ν x) (w.alloc (.cells vs T)) tmps ρ ((l,ds)::L) s:=by
 have hg:=Zux (g:=g) vs T m.st.fresh
 have he:=hg.ext m.st.fresh
 have m':=m.grow hg
 have hn:Zg L l=nO:=by simpa[Zak]using hl
 have u:∀l' j,Zg L l'=sO j→l'≠l:=fun l' j h hh=>by subst hh;rw[hn]at h;simp at h
 refine⟨he,⟨m'.st,?_,?_,?_,?_,?_⟩⟩
 ·intro l' j c
  simp only[Zg]at c
  by_cases h:l=l'
  ·subst h
   simp only[if_true,ZEP]at c
   subst c
   simp only[if_true]
   refine⟨(m.st.fresh _ (ZE6 _)).1,vs,T,Kc w _,by simpa using hr.len,fun i v d hv hd=>?_,ho⟩
   exact(hr.get i v d (by simpa using hv) hd).mono he
  simp only[h,if_false]at c
  simp only[show ¬l'=l from fun hh=>h hh.symm,if_false]
  exact m'.loc l' j c
 ·intro l' j c
  simp only[Zg]at c
  by_cases h:l=l'
  ·subst h;simp only[if_true];exact(m.st.fresh _ (ZE6 _)).2
  simp only[h,if_false]at c
  simp only[show ¬l'=l from fun hh=>h hh.symm,if_false]
  exact m.locKept l' j c
 ·intro l' j c
  simp only[Zg]at c
  by_cases h:l=l'
  ·subst h
   simp only[if_true]
   cases hs:s w.heap.size with
   |none=>rfl
   |some o=>exact absurd (m.st.obj _ o hs).lt (Nat.lt_irrefl _)
  simp only[h,if_false]at c
  simp only[show ¬l'=l from fun hh=>h hh.symm,if_false]
  exact m.locSt l' j c
 ·intro a b ca cb ha hb n
  simp only[Zg]at ha hb
  by_cases h1:l=a
  ·by_cases h2:l=b
   ·exact h1.symm.trans h2
   simp only[h2,if_false]at hb
   simp only[h1.symm,if_true,show ¬b=l from fun hh=>h2 hh.symm,if_false]at n
   have:=(m.loc b cb hb).lt
   omega
  simp only[h1,if_false]at ha
  by_cases h2:l=b
  ·simp only[h2.symm,if_true,show ¬a=l from fun hh=>h1 hh.symm,if_false]at n
   have:=(m.loc a ca ha).lt
   omega
  simp only[h2,if_false]at hb
  simp only[show ¬a=l from fun hh=>h1 hh.symm,show ¬b=l from fun hh=>h2 hh.symm,if_false]at n
  exact m.inj _ _ ca cb ha hb n
 intro t e ht
 refine(m'.env t e ht).locs (fun l' j c=>⟨⟨j,?_⟩,?_⟩)
 ·have:=u l' j c
  simp[Zg,show ¬l=l' from fun hh=>this hh.symm,c]
 simp[u l' j c]
theorem ZkG(c:Array Value)(T:TypeId)(hf:∀b,w.heap.size≤b→g.prot b=0∧¬g.kept b):
  JR g w { g with prot:=fun b=>if b=w.heap.size then c.size else g.prot b } (w.alloc (.cells c T)) where
 size:=by simp
 old b hb:=Zh2 w _ hb
 prot b hb:=by simp[Nat.ne_of_lt hb]
 fresh b hb:=by simp at hb;simp[show b≠w.heap.size by omega,(hf b (by omega)).1]
 kept:=rfl
 os:=rfl
 output:=rfl
 tape:=rfl
theorem Yf(m:Zr g ν w tmps ρ L s){ops:Array Oper}{o:Oper}{gd:Option (Nat×Bool)}(hc:Zh8 ops o.guard=sO gd){c:Bool}(hg:Zl ρ gd=sO c):Region.wanted o (yielded ops tmps)=c:=by
 unfold Zh8 at hc
 unfold Region.wanted
 split at hc
 ·rename_i h0
  simp only[ZEP]at hc;subst hc
  simp only[Zl,ZEP]at hg;subst hg
  simp[h0]
 rename_i j b h0
 split at hc<;>simp at hc
 rename_i t ht
 subst hc
 simp only[h0]
 have hy:yielded ops tmps j=match tmps.getD t undef with
   |.bool b=>sO b
   |_=>nO:=by
  unfold yielded
  rw[ht]
  simp only[Option.bind_some]
  rcases Nat.lt_or_ge t tmps.size with i|hge
  ·simp[Array.getD,i]
   split<;>simp_all
  simp[Array.getD,Nat.not_lt.2 hge,undef]
 simp only[Zl]at hg
 split at hg
 ·rename_i b' he
  simp only[ZEP]at hg;subst hg
  have:=ZbJ (m.env t _ he)
  rw[hy,this]
  cases b<;>cases b'<;>rfl
 ·rename_i c0 b' he
  simp only[ZEP]at hg;subst hg
  have h:=m.env t _ he
  cases c0
  ·have:=h.2 rfl
   rw[hy,this]
   simp[undef]
  have:=ZbJ (h.1 rfl)
  rw[hy,this]
  cases b<;>cases b'<;>rfl
 simp at hg
end
section
variable {P:Program}
theorem Yi{op:Op}{k:K}(h:ck P op=sO k)(hk:k.isDefer=false)(c:Call):op≠.defer c:=by
 rintro rfl
 simp only[ck,cq]at h
 split at h<;>(try(simp at h;done))
 split at h<;>simp only[ZEP,reduceCtorEq]at h
 subst h
 simp[K.isDefer]at hk
theorem Zhx{b:Frame}{a:Act}{k:List Item}{cs:List Frame}{w w':World}{ops:Array Oper}{i:Nat}{rest:List Nat}{o:Oper}{v:Value}(ho:ops[i]?=sO o)(hw:Region.wanted o (yielded ops a.tmps)=true)(hnd:∀c,o.op≠.defer c)(hr:(execOp a.eval o).run P w=.ok (.value v) w'):
  step P (lone (b.atR a (.inRegion ops (i::rest)::k)) cs w)=.next (lone (b.atR (a.put o.dst v) (.inRegion ops rest::k)) cs w'):=by
 refine step_lone_go ?_
 rw[stepGR_op ho hw,Oper.semAt_eq _ _ _ hnd]
 have j:(b.atR a (.inRegion ops (i::rest)::k)).finish v=b.atR (a.put o.dst v) (.inRegion ops rest::k):=by rw[Frame.finish_atR,ho];rfl
 rw[←j];simp[stepG.apply,hr]
theorem Zhw{b:Frame}{a:Act}{k:List Item}{cs:List Frame}{w w':World}{ops:Array Oper}{i:Nat}{rest:List Nat}{o:Oper}(ho:ops[i]?=sO o)(hw:Region.wanted o (yielded ops a.tmps)=true)(hnd:∀c,o.op≠.defer c)(hr:(execOp a.eval o).run P w=.ok .skip w'):
  step P (lone (b.atR a (.inRegion ops (i::rest)::k)) cs w)=.next (lone (b.atR (a.put o.dst undef) (.inRegion ops rest::k)) cs w'):=by
 refine step_lone_go ?_
 rw[stepGR_op ho hw,Oper.semAt_eq _ _ _ hnd]
 have j:(b.atR a (.inRegion ops (i::rest)::k)).finish undef=b.atR (a.put o.dst undef) (.inRegion ops rest::k):=by rw[Frame.finish_atR,ho];rfl
 rw[←j];simp[stepG.apply,hr]
theorem Zp1{b:Frame}{a:Act}{k:List Item}{cs:List Frame}{ops:Array Oper}{i:Nat}{rest:List Nat}{o:Oper}(ho:ops[i]?=sO o)(hw:Region.wanted o (yielded ops a.tmps)=false):
  step P (lone (b.atR a (.inRegion ops (i::rest)::k)) cs w)=.next (lone (b.atR (a.put o.dst undef) (.inRegion ops rest::k)) cs w):=by
 have:=stepR_op_skip (P:=P) (b:=b) (a:=a) (k:=k) (cs:=cs) (w:=w) (ops:=ops) (i:=i) (rest:=rest) (by simp[ho,hw])
 simpa[ho]using this
theorem ZvN{N:Nat}{ops:Array Oper}{is:List Nat}{o:DOp}(h:Jt P N ops is=sO (o::os)):
  ∃i r oo,is=i::r∧ops[i]?=sO oo∧Jt P N ops r=sO os∧ck P oo.op=sO o.k∧Zh8 ops oo.guard=sO o.guard∧oo.dst=o.dst∧∀d,o.dst=sO d→d<N:=by
 cases is with
 |nil=>simp[Jt]at h
 |cons i r =>
  simp only[Jt]at h
  split at h<;>(try(simp at h;done))
  rename_i oo t
  split at h<;>simp only[ZEP,List.cons.injEq,reduceCtorEq]at h
  rename_i d ds hd j
  obtain⟨rfl,rfl⟩:=h
  simp only[cop]at hd
  split at hd<;>(try(simp at hd;done))
  rename_i k g hk hg
  refine⟨i,r,oo,rfl,t,j,?_⟩
  split at hd
  ·rename_i c
   simp only[ZEP]at hd;subst hd
   exact⟨hk,hg,c,fun d h=>by simp at h⟩
  rename_i d' c
  split at hd<;>simp at hd
  rename_i n
  subst hd
  exact⟨hk,hg,c,fun d h=>by simp only[ZEP]at h;exact h▸n⟩
theorem Zxm{N:Nat}{ops:Array Oper}{is:List Nat}(h:Jt P N ops is=sO []):is=[]:=by
 cases is with
 |nil=>rfl
 |cons i r=>simp only[Jt]at h;split at h<;>(try(simp at h;done));split at h<;>simp at h
theorem ZeL(m:Zr g ν w tmps ρ L s){N:Nat}(hN:N≤tmps.size)(hd:∀d,dst=sO d→d<N){v:Value}{e:E}(h:ZI g ν w L v e)(ds:List Deferred):∃tmps',(Act.mk tmps ds).put dst v=⟨tmps',ds⟩∧N≤tmps'.size∧Zr g ν w tmps' (Zt ρ dst e) L s:=by
 cases dst with
 |none=>exact⟨tmps,rfl,hN,m⟩
 |some d=>exact⟨tmps.setIfInBounds d v,rfl,by simpa using hN,m.put (by have:=hd d rfl;omega) h⟩
theorem Zmv{F:Fr P}{ops:Array Oper}{i:Nat}{r:List Nat}{k:List Item}{oo:Oper}{o:DOp}(hN:F.N≤tmps.size)(m:Zr g ν w tmps ρ L s)(hoo:ops[i]?=sO oo)(hdst:oo.dst=o.dst)(hd:∀d,o.dst=sO d→d<F.N)(hw:Region.wanted oo (yielded ops tmps)=true)(hnd:∀c,oo.op≠.defer c){e:E}(hv:∃v,(execOp (Act.mk tmps F.ds).eval oo).run P w=.ok (.value v) w∧ZI g ν w L v e)(h:Jr F (.inRegion ops r::k) (Zt ρ o.dst e) L s):
  F.T.T g w (lone (F.b.atR ⟨tmps,F.ds⟩ (.inRegion ops (i::r)::k)) F.cs w):=by
 obtain⟨v,hr,hv⟩:=hv
 refine F.T.back _ _ _ _ (.one (Zhx hoo hw hnd hr)) ?_
 rw[hdst]
 obtain⟨j,e1,e2,m'⟩:=ZeL m hN hd hv F.ds
 rw[e1]
 exact h g ν w j e2 m'
theorem Zbw{F:Fr P}{ops:Array Oper}{i:Nat}{r:List Nat}{k:List Item}{oo:Oper}{o:DOp}(hN:F.N≤tmps.size)(m:Zr g ν w tmps ρ L s)(hoo:ops[i]?=sO oo)(hdst:oo.dst=o.dst)(hd:∀d,o.dst=sO d→d<F.N)(hw:Region.wanted oo (yielded ops tmps)=false){e:E}(h:Jr F (.inRegion ops r::k) (Zt ρ o.dst (.when false e)) L s):F.T.T g w (lone (F.b.atR ⟨tmps,F.ds⟩ (.inRegion ops (i::r)::k)) F.cs w):=by
 refine F.T.back _ _ _ _ (.one (Zp1 hoo hw)) ?_
 rw[hdst]
 obtain⟨c,e1,e2,m'⟩:=ZeL m hN hd (v:=undef) (e:=.when false e) ⟨fun h=>by simp at h,fun _=>rfl⟩ F.ds
 rw[e1]
 exact h g ν w c e2 m'
theorem ZzP{op:Op}{q:Q}(h:ck P op=sO (.q q xs)):∃ys,cq P op=sO (q,ys)∧Zca ys=sO xs:=by
 unfold ck at h
 split at h
 ·rename_i q' ys hc
  simp only[ZE3,K.q.injEq]at h
  obtain⟨zs,hz,rfl,rfl⟩:=h
  exact⟨ys,hc,hz⟩
 exfalso
 split at h<;>(try(simp at h;done))
 all_goals (repeat' (split at h<;>(try(simp at h;done))))
theorem Zdo(ρ:Env):∀(ks:List Nat) (t:Nat) (e:E),ZL (Yp ρ ks) t=sO e→ZL ρ t=sO e
 | [],t,e,h=>by simp[Yp,ZL]at h
 |k::ks,t,e,h=>by
  simp only[Yp]at h
  split at h
  ·rename_i e' c
   simp only[ZL]at h
   by_cases hk:k=t
   ·subst hk;simp only[if_true]at h;rw[c,h]
   simp only[hk,if_false]at h;exact Zdo ρ ks t e h
  exact Zdo ρ ks t e h
theorem ZfT:∀{ρ:Env} {t:Nat} {e:E},ZL ρ t=sO e→(t,e)∈ρ
 | (k,e')::ρ,t,e,h=>by
  simp only[ZL]at h
  by_cases hk:k=t
  ·simp only[hk,if_true,ZEP]at h;subst h;subst hk;simp
  simp only[hk,if_false]at h;exact List.mem_cons_of_mem _ (ZfT h)
theorem JO(L:Loc):∀(ls:List Nat) (l:Nat) (cs:List D),Zg (Zax L ls) l=sO cs→Zg L l=sO cs
 | [],l,cs,h=>by simp[Zax,Zg]at h
 |k::ls,l,cs,h=>by
  simp only[Zax]at h
  split at h
  ·rename_i c' c
   simp only[Zg]at h
   by_cases hk:k=l
   ·subst hk;simp only[if_true]at h;rw[c,h]
   simp only[hk,if_false]at h;exact JO L ls l cs h
  exact JO L ls l cs h
theorem Zfz(L:Loc):∀(ls:List Nat) (l:Nat) (cs:List D),l∈ls→Zg L l=sO cs→Zg (Zax L ls) l=sO cs
 |k::ls,l,cs,hm,h=>by
  simp only[Zax]
  by_cases hk:k=l
  ·subst hk;simp[h,Zg]
  have hm':l∈ls:=by rcases List.mem_cons.1 hm with rfl|h;exact absurd rfl hk;exact h
  split
  ·simp only[Zg,hk,if_false];exact Zfz L ls l cs hm' h
  exact Zfz L ls l cs hm' h
theorem ZI.keep{ls:List Nat}{v:Value}{e:E}(h:ZI g ν w L v e)(hl:∀l∈Ko e,l∈ls):ZI g ν w (Zax L ls) v e:=by
 induction e with
 |d x=>exact h
 |loc l o=>obtain⟨⟨cs,hc⟩,hv⟩:=h;exact⟨⟨cs,Zfz L ls l cs (hl l (by simp[Ko])) hc⟩,hv⟩
 |when c e ih=>exact⟨fun hc=>ih (h.1 hc) hl,h.2⟩
theorem Zr.keep(m:Zr g ν w tmps ρ L s)(ks:List Nat):Zr g ν w tmps (Yp ρ ks) (ZaY (Yp ρ ks) L) s:={
 st:=m.st
 loc l cs h:=m.loc l cs (JO _ _ _ _ h)
 locKept l cs h:=m.locKept l cs (JO _ _ _ _ h)
 locSt l cs h:=m.locSt l cs (JO _ _ _ _ h)
 inj l l' cs cs' h h':=m.inj l l' cs cs' (JO _ _ _ _ h) (JO _ _ _ _ h')
 env t e h:=(m.env t e (Zdo ρ ks t e h)).keep (fun l hl=>List.mem_flatMap.2 ⟨(t,e),ZfT h,hl⟩) }
theorem Zdf{F:Fr P}{dk:List Zi}(ks:List Nat)(h:Zu F dk (Yp ρ ks) (ZaY (Yp ρ ks) L) s):Zu F dk ρ L s :=
 fun k hk g ν w tmps hN m=>h k hk g ν w tmps hN (m.keep ks)
theorem ZzF{F:Fr P}{dk:List Zi}(h:Zu F dk ρ L s):DO F kp dk [] ρ L s:=by
 intro ops is k c hk g ν w tmps hN m
 obtain rfl:=Zxm c
 exact F.T.back _ _ _ _ (.one stepR_region_end) (h k hk g ν w tmps hN m)
def kept(kp:Option (List Nat))(ρ:Env):Env :=
 match kp with
 |some ks=>Yp ρ ks
 |none=>ρ
def ZjV(kp:Option (List Nat))(ρ:Env)(L:Loc):Loc :=
 match kp with
 |some ks=>ZaY (Yp ρ ks) L
 |none=>L
theorem Zei{F:Fr P}{dk:List Zi}(h:Zu F dk (kept kp ρ) (ZjV kp ρ L) s):DO F kp dk [] ρ L s:=by
 refine ZzF ?_
 cases kp with
 |none=>exact h
 |some ks=>exact Zdf ks h
end
section
variable {P:Program}
theorem ZxY(m:Zr g ν w tmps ρ L s){x a b:Operand}{x' a' b':Opd}(hx:Z3 x=sO x')(ha:Z3 a=sO a')(hb:Z3 b=sO b'){c:Bool}(hc:c=true){p:Prop}{v:Bool}(h:Zdc ρ c x' a' b'=sO (p,v))(hp:p)(ds:List Deferred)(dst:Option Nat)(ty:TypeId)(pos:String)(af:Array Edge)(gd:Option (Nat×Bool)):
  (execOp (Act.mk tmps ds).eval ⟨dst,.pick x a b,ty,pos,af,gd⟩).run P w=.ok (.value (.bool v)) w:=by
 unfold Zdc at h
 split at h<;>(try(grind;done))
 rename_i p0 v0 h0
 split at h<;>(try(grind;done))
 rename_i pa y pb z h1 h2
 cases h
 subst hc
 have e0:=ZbJ (Yc m hx rfl h0 hp.1 ds)
 cases v0
 ·have e2:=ZbJ (Yc m hb rfl h2 hp.2.2 ds)
  simp[execOp,e0,e2,asBool]
 have e1:=ZbJ (Yc m ha rfl h1 hp.2.1 ds)
 simp[execOp,e0,e1,asBool]
theorem ZyS{op:Op}{x a b:Opd}(h:ck P op=sO (.pick x a b)):∃x' a' b',op=.pick x' a' b'∧Z3 x'=sO x∧Z3 a'=sO a∧Z3 b'=sO b:=by
 unfold ck at h
 split at h
 ·simp at h
 split at h<;>(try(simp at h;done))
 all_goals (try(repeat' (split at h<;>(try(simp at h;done)))))
 cases h
 exact⟨_,_,_,rfl,‹_›,‹_›,‹_›⟩
theorem ZqR{op:Op}{z:List D}(h:ck P op=sO (.alloc z)):∃e,op=.alloc e∧Zaz P e=sO z:=by
 unfold ck at h
 split at h
 ·simp at h
 split at h<;>(try(simp at h;done))
 all_goals (try(repeat' (split at h<;>(try(simp at h;done)))))
 simp at h
 exact⟨_,rfl,h⟩
theorem ZvF{op:Op}{x:Opd}(h:ck P op=sO (.box x)):∃e x',op=.box e x'∧Z3 x'=sO x:=by
 unfold ck at h
 split at h
 ·simp at h
 split at h<;>(try(simp at h;done))
 all_goals (try(repeat' (split at h<;>(try(simp at h;done)))))
 simp at h
 exact⟨_,_,rfl,h⟩
theorem ZoQ{op:Op}{a v:Opd}(h:ck P op=sO (.store1 a v)):∃t a' v',op=.store t a' v'∧JS P t=sO false∧ZW P t=sO 1∧Z3 a'=sO a∧Z3 v'=sO v:=by
 unfold ck at h
 split at h
 ·simp at h
 split at h<;>(try(simp at h;done))
 all_goals (try(repeat' (split at h<;>(try(simp at h;done)))))
 cases h
 exact⟨_,_,_,rfl,‹_›,‹_›,‹_›,‹_›⟩
theorem ZoR{op:Op}{a v:Opd}{n:Nat}(h:ck P op=sO (.storeN n a v)):∃t a' v',op=.store t a' v'∧JS P t=sO true∧ZW P t=sO n∧Z3 a'=sO a∧Z3 v'=sO v:=by
 unfold ck at h
 split at h
 ·simp at h
 split at h<;>(try(simp at h;done))
 all_goals (try(repeat' (split at h<;>(try(simp at h;done)))))
 cases h
 exact⟨_,_,_,rfl,‹_›,‹_›,‹_›,‹_›⟩
theorem ZvG{op:Op}{len n:Nat}{z:List D}{is:List Nat}(h:ck P op=sO (.bsl len n z is xs)):
  ∃t e parts,op=.buildSlice t len parts∧P.underlying t=sO (.slice e)∧ZW P e=sO n∧Zaz P e=sO z∧Zca (parts.toList.map (·.2))=sO xs∧is=parts.toList.map (·.1) ∧
   Qm len is=true∧z.length=n∧0<n∧len*n≤2 ^ 24:=by
 unfold ck at h
 split at h
 ·simp at h
 split at h<;>(try(simp at h;done))
 all_goals (try(repeat' (split at h<;>(try(simp at h;done)))))
 rename_i c
 cases h
 simp at c
 exact⟨_,_,_,rfl,‹_›,‹_›,‹_›,‹_›,rfl,c.1.1.1,c.1.1.2,c.1.2,c.2⟩
theorem Q7{t:TypeId}{z:List D}(h:Zaz P t=sO z):∃v,(zeroValue t).run P w=.ok v w∧ZH (Rep g w) v.cells.toList z∧(∀x∈v.cells,x.one1=true)∧∃i,P.info? t=sO i∧i.zero=sO v:=by
 unfold Zaz at h
 cases hi:P.info? t with
 |none=>grind
 |some i =>
  cases hz:i.zero with
  |none=>grind
  |some v =>
   simp[hi,hz]at h
   obtain⟨h1,h2⟩:=Zdl (g:=g) (w:=w) h
   exact⟨v,by simp[zeroValue,typeInfo,hi,hz],h1,fun x hx=>h2 x (Array.mem_toList_iff.2 hx),i,rfl,hz⟩
theorem Wn{F:Fr P}{dk:List Zi}{o:DOp}(h:∀(oo:Oper) (g:G) (ν:Nat→Nat) (w:World) (tmps:Array Value) (ops:Array Oper) (i:Nat) (r:List Nat) (k:List Item),ops[i]?=sO oo→ck P oo.op=sO o.k→Zh8 ops oo.guard=sO o.guard →
   oo.dst=o.dst→(∀d,o.dst=sO d→d<F.N)→F.N≤tmps.size→Zr g ν w tmps ρ L s→Jt P F.N ops r=sO os→WC P F.an F.N k dk →
   F.T.T g w (lone (F.b.atR ⟨tmps,F.ds⟩ (.inRegion ops (i::r)::k)) F.cs w)):DO F kp dk (o::os) ρ L s:=by
 intro ops is k c hk g ν w tmps hN m
 obtain⟨i,r,oo,rfl,h1,h2,h3,h4,h5,h6⟩:=ZvN c
 exact h oo g ν w tmps ops i r k h1 h3 h4 h5 h6 hN m h2 hk
theorem Zqo{F:Fr P}{dk:List Zi}{o:DOp}{c:Bool}(hg:Zl ρ o.guard=sO c)(hnk:o.k.isDefer=false){e e':E}(he:e'=.when c e∨(c=true∧e'=e))(hv:c=true→∀(oo:Oper) (g:G) (ν:Nat→Nat) (w:World) (tmps:Array Value),ck P oo.op=sO o.k→Zr g ν w tmps ρ L s →
   ∃v,(execOp (Act.mk tmps F.ds).eval oo).run P w=.ok (.value v) w∧ZI g ν w L v e)(h:DO F kp dk os (Zt ρ o.dst e') L s):DO F kp dk (o::os) ρ L s:=by
 refine Wn fun oo g ν w tmps z i r k n t ac j hd hN m hr y=>?_
 have u:=h z r k hr y
 have hw:=Yf m ac hg
 have ab:=Yi t hnk
 cases c
 ·rcases he with rfl|⟨h0,_⟩
  ·exact Zbw (P:=P) hN m n j hd hw u
  grind
 obtain⟨v,h1,h2⟩:=hv rfl oo g ν w tmps t m
 refine Zmv hN m n j hd hw ab ⟨v,h1,?_⟩ u
 rcases he with rfl|⟨_,rfl⟩
 ·exact⟨fun _=>h2,fun h=>by simp at h⟩
 exact h2
theorem ZzG{F:Fr P}{dk:List Zi}{o:DOp}{c:Bool}(hg:Zl ρ o.guard=sO c){q:Q}(hk:o.k=.q q xs){p side:Prop}{es:List E}{e:E}(ha:Yd ρ c xs=sO (p,es))(hq:qv L s q es=sO (side,e))(hs:c=true→p∧side){e':E}(he:e'=.when c e∨(c=true∧e'=e))(h:DO F kp dk os (Zt ρ o.dst e') L s):DO F kp dk (o::os) ρ L s:=by
 refine Zqo hg (by rw[hk];rfl) he (fun hc oo g ν w tmps j m=>?_) h
 rw[hk]at j
 obtain⟨ys,t,n⟩:=ZzP j
 have i:=ZbV m hc F.ds n ha (hs hc).1
 exact Zzc t i m.loc m.st hq (hs hc).2 _ _ _ _ _
theorem YK{F:Fr P}{ops:Array Oper}{i:Nat}{r:List Nat}{k:List Item}{oo:Oper}{o:DOp}{g g':G}{ν':Nat→Nat}{w w':World}{L':Loc}{s':St}(hN:F.N≤tmps.size)(hoo:ops[i]?=sO oo)(hdst:oo.dst=o.dst)(hd:∀d,o.dst=sO d→d<F.N)(hw:Region.wanted oo (yielded ops tmps)=true)(hnd:∀c,oo.op≠.defer c){e:E}{v:Value}(hr:(execOp (Act.mk tmps F.ds).eval oo).run P w=.ok (.value v) w')(hx:Ext g w g' w')(m':Zr g' ν' w' tmps ρ L' s')(hv:ZI g' ν' w' L' v e)(h:Jr F (.inRegion ops r::k) (Zt ρ o.dst e) L' s'):F.T.T g w (lone (F.b.atR ⟨tmps,F.ds⟩ (.inRegion ops (i::r)::k)) F.cs w):=by
 refine F.T.back _ _ _ _ (.one (Zhx hoo hw hnd hr)) ?_
 rw[hdst]
 obtain⟨j,e1,e2,n⟩:=ZeL m' hN hd hv F.ds
 rw[e1]
 exact F.T.ext _ _ _ _ _ hx (h g' ν' w' j e2 n)
theorem Zqk{F:Fr P}{dk:List Zi}{o:DOp}(hg:o.guard=nO){t:Nat}(hdt:o.dst=sO t){z:List D}(hk:o.k=.alloc z)(hl:Zak L t=false)(h:DO F kp dk os ((t,.loc t 0)::ρ) ((t,z)::L) s):DO F kp dk (o::os) ρ L s:=by
 refine Wn fun oo g ν w tmps ac i r k ab j ag n hd hN m hr y=>?_
 have hw:=Yf m ag (c:=true) (by rw[hg];rfl)
 have ad:=Yi j (by rw[hk];rfl)
 rw[hk]at j
 obtain⟨T,u,hz⟩:=ZqR j
 obtain⟨v,ae,af,ah,_⟩:=Q7 (g:=g) (w:=w) hz
 obtain⟨hx,m'⟩:=m.alloc hl af ah T
 refine YK (s':=s) hN ab n hd hw ad (v:=.pointer (sO ⟨w.heap.size,0,nO⟩)) (e:=.loc t 0) ?_ hx m' ⟨⟨z,by simp[Zg]⟩,by simp⟩ ?_
 ·simp[execOp,u,Instr.alloc,ae,newVar,newRow]
 rw[hdt];exact h ac r k hr y
theorem ZzD{F:Fr P}{dk:List Zi}{o:DOp}(hg:o.guard=nO){t:Nat}(hdt:o.dst=sO t){x:Opd}(hk:o.k=.box x){p:Prop}{v:D}(ha:ZC ρ true x=sO (p,.d v))(hp:p)(hl:Zak L t=false)(hok:W4 v=true)(h:DO F kp dk os ((t,.loc t 0)::ρ) ((t,cellsOf v)::L) s):DO F kp dk (o::os) ρ L s:=by
 refine Wn fun oo g ν w tmps af i r k ae n ai u hd hN m hr ac=>?_
 have hw:=Yf m ai (c:=true) (by rw[hg];rfl)
 have ag:=Yi n (by rw[hk];rfl)
 rw[hk]at n
 obtain⟨T,x',z,ad⟩:=ZvF n
 have j:Rep g w _ v:=Yc m ad rfl ha hp F.ds
 obtain⟨ah,ab⟩:=Zdv j hok
 have y:=Zgy j hok
 obtain⟨hx,m'⟩:=m.alloc hl (Yh (by simpa using ah) ab) (fun v hv=>y v hv) T
 refine YK (s':=s) hN ae u hd hw ag (v:=.pointer (sO ⟨w.heap.size,0,nO⟩)) (e:=.loc t 0) ?_ hx m' ⟨⟨cellsOf v,by simp[Zg]⟩,by simp⟩ ?_
 ·simp[execOp,z,Instr.box,newVar,newRow]
 rw[hdt];exact h af r k hr ac
theorem Zzb{v:Value}{l off:Nat}(h:ZI g ν w L v (.loc l off)):v=.pointer (sO ⟨ν l,off,nO⟩):=h.2
theorem Zqn{F:Fr P}{dk:List Zi}{o:DOp}(hg:o.guard=nO){a v:Opd}(hk:o.k=.store1 a v∧True∨∃n,o.k=.storeN n a v){p q:Prop}{l off:Nat}{d:D}{cs:List D}(ha:ZC ρ true a=sO (p,.loc l off))(hv:ZC ρ true v=sO (q,.d d))(hp:p)(hq:q)(hL:Zg L l=sO cs)(hd1:o.k=.store1 a v→Jl d=true)(hd2:∀n,o.k=.storeN n a v→(∃xs,d=.agg xs)∧(cellsOf d).length=n)(hlen:off+(cellsOf d).length≤cs.length)(hdst0:o.dst=nO)(h:DO F kp dk os ρ ((l,ZE cs off (cellsOf d))::L) s):DO F kp dk (o::os) ρ L s:=by
 refine Wn fun oo g ν w tmps av i r k au z ay ah hd hN m hr ao=>?_
 have hw:=Yf m ay (c:=true) (by rw[hg];rfl)
 have aw:=Yi z (by rcases hk with ⟨hk,_⟩|⟨n,hk⟩<;>rw[hk]<;>rfl)
 have ae:∃t a' v',oo.op=.store t a' v'∧Z3 a'=sO a∧Z3 v'=sO v∧ZW P t=sO (cellsOf d).length∧W4 d=true:=by
  rcases hk with ⟨hk,_⟩|⟨n,hk⟩
  ·have y:=hd1 hk
   rw[hk]at z
   obtain⟨t,a',v',h1,h2,h3,h4,h5⟩:=ZoQ z
   refine⟨t,a',v',h1,h4,h5,?_,?_⟩
   ·rw[h3];cases d<;>simp[Jl]at y<;>rfl
   cases d<;>simp[Jl]at y<;>rfl
  obtain⟨⟨xs,rfl⟩,hn⟩:=hd2 n hk
  rw[hk]at z
  obtain⟨t,a',v',h1,h2,h3,h4,h5⟩:=ZoR z
  exact⟨t,a',v',h1,h4,h5,by rw[h3,hn],rfl⟩
 obtain⟨t,a',v',ak,ap,aq,az,y⟩:=ae
 have ar:=Zzb (Yc m ap rfl ha hp F.ds)
 have ab:Rep g w _ d:=Yc m aq rfl hv hq F.ds
 obtain⟨af,al⟩:=Zdv ab y
 have ac:=Zgy ab y
 obtain⟨hpr,j,T,hb,ax,am,ag⟩:=m.loc l cs hL
 generalize ai:(Act.mk tmps F.ds).eval v'=vv at *
 have aj:=run_storeCells_at (P:=P) (ν l) off T vv.cells.toList 0 j w hb (by simp;omega) (fun x hx=>by rw[ZcQ];exact ac x (Array.mem_toList_iff.1 hx))
 have u:ZH (Rep g w) (j.toList.take off++vv.cells.toList++j.toList.drop (off+vv.cells.size)) (ZE cs off (cellsOf d)):=by
  have ad:ZH (Rep g w) j.toList cs:=Yh (by simpa using ax) (fun i v d hv hd=>am i v d (by simpa using hv) hd)
  unfold ZE
  rw[←af]
  exact((ad.take off).append (Yh (by simpa using af) al)).append (ad.drop _)
 obtain⟨hx,m'⟩:=m.store hL (vs:=(j.toList.take off++vv.cells.toList++j.toList.drop (off+vv.cells.size)).toArray) (ds:=ZE cs off (cellsOf d)) (by simpa using u) (fun x hx=>by
  simp only[List.mem_toArray,List.mem_append]at hx
  rcases hx with (hx|hx)|hx
  ·exact ag x (Array.mem_toList_iff.1 (List.mem_of_mem_take hx))
  ·exact ac x (Array.mem_toList_iff.1 hx)
  exact ag x (Array.mem_toList_iff.1 (List.mem_of_mem_drop hx))) (by simp[ZE];omega)
 refine F.T.back _ _ _ _ (.one (Zhw au hw aw (w':=w.setRow (ν l) (j.toList.take off++vv.cells.toList++j.toList.drop (off+vv.cells.size)).toArray) ?_)) ?_
 ·simp only[execOp,ak,ar,ai,Instr.storeAt,Instr.sureAddr,storeVar,Sem.run_bind,Sem.run_pure,Result.andThen_ok,YO az]
  rw[if_neg (by simp[af])]
  rw[aj];rfl
 rw[ah,hdst0]
 exact F.T.ext _ _ _ _ _ hx (h av r k hr ao g ν _ tmps hN m')
end
theorem ZrN{cs vs:List D}{s k i:Nat}(hv:vs.length=s)(hk:(k+1)*s≤cs.length)(hi:(i+1)*s≤cs.length):
  part (ZE cs (k*s) vs) (i*s) s=if i=k then vs else part cs (i*s) s:=by
 have hk':k*s+s≤cs.length:=by rw[ZFk,Nat.one_mul]at hk;exact hk
 unfold part ZE
 apply List.ext_getElem?
 intro j
 by_cases hj:j<s
 ·simp only[ZFu,hj,if_true,List.getElem?_drop,List.getElem?_append,ZE1,ZE9,hv]
  by_cases c:i=k
  ·subst c
   simp only[show i*s+j<min (i*s) cs.length+s from by omega,show ¬i*s+j<min (i*s) cs.length from by omega,if_true,if_false]
   rw[show i*s+j-min (i*s) cs.length=j from by omega]
  simp only[c,if_false,ZFu,hj,if_true,List.getElem?_drop]
  rcases Nat.lt_or_gt_of_ne c with h|h
  ·have:(i+1)*s≤k*s:=ZFg s h
   rw[ZFk,Nat.one_mul]at this
   simp only[show i*s+j<min (k*s) cs.length+s from by omega,show i*s+j<min (k*s) cs.length from by omega,if_true,show i*s+j<k*s from by omega]
  have:(k+1)*s≤i*s:=ZFg s h
  rw[ZFk,Nat.one_mul]at this
  simp only[show ¬i*s+j<min (k*s) cs.length+s from by omega,if_false]
  congr 1;omega
 have e1:∀l:List D,(l.take s)[j]?=nO:=fun l=>by simp[ZFu,hj]
 rw[e1]
 split
 ·exact(ZFA (l:=vs) (i:=j) (by omega)).symm
 rw[e1]
theorem Zok{cs vs:List D}{o:Nat}(h:o+vs.length≤cs.length):(ZE cs o vs).length=cs.length:=by
 simp[ZE];omega
theorem Zgi{n:Nat}:∀{is:List Nat},Qm n is=true→∀i∈is,i<n
 |i::r,h,j,hj=>by
  simp[Qm]at h
  rcases List.mem_cons.1 hj with rfl|hj
  ·exact h.1.1
  exact Zgi h.2 j hj
theorem ZmG{z:List D}:∀{ps:List (Nat×D)} {i:Nat},(∀p∈ps,p.1≠i)→Z4 z ps i=z
 | [],_,_=>rfl
 | (k,d)::r,i,h=>by
  have h0:¬k=i:=h (k,d) (by simp)
  simp[Z4,h0]
  exact ZmG fun p hp=>h p (List.mem_cons_of_mem _ hp)
theorem Zii{len s:Nat}:∀(is:List Nat) (ds cells:List D),Qm len is=true→is.length=ds.length→K4 s ds=true→cells.length=len*s →
  ∃cs,Zbu cells (is.map fun i=>(i*s,s)) ds=sO cs∧cs.length=len*s∧∀i,i<len→part cs (i*s) s=Z4 (part cells (i*s) s) (is.zip ds) i
 | [],[],cells,_,_,_,hc=>⟨cells,rfl,hc,fun i _=>rfl⟩
 |k::is,d::ds,cells,hd,hn,hp,hc=>by
  simp[Qm]at hd
  simp[K4]at hp
  obtain⟨⟨hk,t⟩,hd⟩:=hd
  obtain⟨⟨y,n⟩,v⟩:=hp
  have c:(k+1)*s≤cells.length:=by rw[hc];exact ZFg s hk
  have u:k*s+s≤cells.length:=by rw[ZFk,Nat.one_mul]at c;exact c
  obtain⟨cs,h1,h2,h3⟩:=Zii is ds (ZE cells (k*s) (cellsOf d)) hd (by simpa using hn) v (by rw[Zok (by omega),hc])
  refine⟨cs,?_,h2,fun i hi=>?_⟩
  ·simp only[ZE7,Zbu]
   rw[if_pos ⟨y,n,u⟩];exact h1
  rw[h3 i hi,ZrN n c (by rw[hc];exact ZFg s hi)]
  simp[Z4]
  by_cases j:i=k
  ·subst j
   simp
   exact ZmG fun p hp=>by
    have:=(List.of_mem_zip hp).1
    intro h;subst h;exact t this
  simp[j,show ¬k=i from fun h=>j h.symm]
 | [],_::_,_,_,hn,_,_=>by grind
 |_::_,[],_,_,hn,_,_=>by grind
theorem ZjB{z:List D}{len s i:Nat}(hzl:z.length=s)(_hs0:0<s)(hi:i<len):part ((ZE4 (len*s)).map fun i=>z.getD (i % s) .undef) (i*s) s=z:=by
 apply List.ext_getElem?
 intro c
 by_cases hc:c<s
 ·have j:i*s+c<len*s:=by
   have:(i+1)*s≤len*s:=ZFg s hi
   rw[ZFk,Nat.one_mul]at this;omega
  have hm:(i*s+c) % s=c:=by rw[Nat.mul_comm,Nat.mul_add_mod,Nat.mod_eq_of_lt hc]
  have n:c<z.length:=by omega
  simp only[part,ZFu,hc,List.getElem?_drop,List.getElem?_map,List.getElem?_range j,ZFl,hm]
  simp[n]
 rw[ZFA (l:=z) (by omega)];simp[part,ZFu,hc]
section
variable {P:Program}
theorem ZzM{len s:Nat}{z:List D}{t e:TypeId}{parts:List (Nat×Value)}(hu:P.underlying t=sO (.slice e))(hsz:ZW P e=sO s)(hz:Zaz P e=sO z)(hdis:Qm len (parts.map (·.1))=true)(hzl:z.length=s)(hs0:0<s)(hbig:len*s≤2 ^ 24)(hd:ZH (Rep g w) (parts.map (·.2)) ds)(hp:K4 s ds=true)(hf:∀b,w.heap.size≤b→g.prot b=0∧¬g.kept b):
  ∃v w' g',(Instr.buildSlice t len parts.toArray).run P w=.ok v w'∧JR g w g' w'∧Rep g' w' v (.sl .full len s (Z4 z ((parts.map (·.1)).zip ds))):=by
 obtain⟨zv,hz1,al,ay,ie,ao,a3⟩:=Q7 (g:=g) (w:=w) hz
 have y:ie.size=s:=by simpa[ZW,ao]using hsz
 have ac:zv.cells.size=s:=by have:=al.len;simp at this;omega
 have hn:(parts.map (·.1)).length=ds.length:=by have:=hd.len;simpa using this
 let c0:Array Value:=(Array.range (len*s)).map (zv.cells[· % zv.cells.size]!)
 let d0:List D:=(ZE4 (len*s)).map fun i=>z.getD (i % s) .undef
 have ae:ZH (Rep g w) c0.toList d0:=by
  refine Yh (by simp[c0,d0]) (fun i v d hv hd=>?_)
  simp[c0,d0]at hv hd
  obtain⟨a,ha,rfl⟩:=hv
  obtain⟨b,hb,rfl⟩:=hd
  rw[ha]at hb
  cases hb
  have n:a % s<s:=Nat.mod_lt _ hs0
  refine al.get (a % s) _ _ ?_ ?_
  ·rw[ac];simp[ac,n]
  simp[hzl,n]
 have ak:∀v∈c0,v.one1=true:=fun v hv=>by
  simp[c0]at hv
  obtain⟨a,_,rfl⟩:=hv
  have n:a % zv.cells.size<zv.cells.size:=Nat.mod_lt _ (by omega)
  rw[getElem!_pos zv.cells (a % zv.cells.size) n]
  exact ay _ (Array.getElem_mem n)
 have aj:d0.length=len*s:=by simp[d0]
 obtain⟨cs,ah,hcl,ad⟩:=Zii (parts.map (·.1)) ds d0 hdis hn hp aj
 obtain⟨cv,a0,aq,ax⟩:=Zgl (g:=g) (w:=w) (fun i=>sO (i*s,s)) parts ((parts.map (·.1)).map fun i=>(i*s,s)) ds cs d0 c0 (fun i x q hx hq=>by
  simp[hx,Function.comp_def]at hq
  rw[←hq]) (by simp) hd ae ak ah
 have af:cv.size=len*s:=by have:=aq.len;simp at this;omega
 have u:∀i j,i<len→j<s→i*s+j<len*s:=fun i j hi hj=>by
  have:(i+1)*s≤len*s:=ZFg s hi
  rw[ZFk,Nat.one_mul]at this;omega
 have ag:∀i j d,i<len→j<s→(Z4 z ((parts.map (·.1)).zip ds) i)[j]?=sO d→cs[i*s+j]?=sO d:=fun i j d hi hj hd=>by
  have h:=ad i hi
  have ai:part d0 (i*s) s=z:=ZjB hzl hs0 hi
  rw[ai]at h
  rw[←h]at hd
  simpa[part,hj]using hd
 have ab:∀i,i<len→(Z4 z ((parts.map (·.1)).zip ds) i).length=s:=fun i hi=>by
  have ai:=ad i hi
  have:(part cs (i*s) s).length=s:=by have:=u i (s-1) hi (by omega);simp[part];omega
  have aw:part d0 (i*s) s=z:=ZjB hzl hs0 hi
  rw[ai,aw]at this;exact this
 by_cases av:len=0
 ·subst av
  have az:parts=[]:=by
   cases parts with
   |nil=>rfl
   |cons x r=>have:=Zgi hdis x.1 (by simp);omega
  subst az
  refine⟨.slice (sO ⟨w.heap.size,0,nO⟩) 0 0,w.alloc (.cells #[] e),{ g with prot:=fun b=>if b=w.heap.size then 0 else g.prot b },?_,ZkG #[] e hf,?_⟩
  ·simp[Instr.buildSlice,run_underlying hu,YO hsz,Instr.fill,newRow]
   exact congrArg (fun c=>w.alloc (Obj.cells c e)) (Array.ext' (by simp))
  exact .sl w.heap.size 0 0 0 s _ .full (fun _ _=>undef) (fun i hi=>by omega) (fun i j hi=>by omega) (fun i j hi=>by omega) (fun i j d hi=>by omega) (fun i j hi=>by omega) rfl (by omega) (by simp)
 have ap:¬len*s=0:=by simp[Nat.mul_eq_zero];omega
 have au:=run_buildSlice (P:=P) w t e len parts.toArray cv ie zv hu ao a3 (by rw[y];omega) (by rw[y];exact ap) (by rw[y];exact a0)
 have am:=ZkG (g:=g) (w:=w) cv e hf
 refine⟨_,_,_,au,am,?_⟩
 have ar:=am.ext hf
 refine .sl w.heap.size 0 len len s _ .full (fun i j=>cv.getD (i*s+j) undef) ab (fun i j hi hj=>?_) (fun i j hi hj=>?_) (fun i j d hi hd=>?_) (fun i j hi hj=>?_) rfl (ZE6 _) ?_
 ·have n:i*s+j<cv.size:=by rw[af];exact u i j hi hj
  have:(w.alloc (.cells cv e)).cell? ⟨w.heap.size,0+i*s+j,nO⟩=cv[0+i*s+j]?:=World.cell?_alloc_new w cv e _
  rw[this];simp[n]
 ·simp;have:=u i j hi hj;omega
 ·have hj:j<s:=by rw[←ab i hi];exact(List.getElem?_eq_some_iff.1 hd).1
  have n:i*s+j<cv.size:=by rw[af];exact u i j hi hj
  refine(aq.get (i*s+j) _ d ?_ (ag i j d hi hj hd)).mono ar
  simp[n]
 ·have n:i*s+j<cv.size:=by rw[af];exact u i j hi hj
  simp[n,dite_true]
  exact ax _ (Array.getElem_mem n)
 unfold big
 have:len≤len*s:=Nat.le_mul_of_pos_right _ hs0
 omega
end
section
variable {P:Program}
theorem Ym.updL(h:Ym g s w){b:Nat}{o:Ya}(ho:WO g w b o)(hk:¬g.kept b):Ym g (s.upd b o) w:={
 obj c x hx:=by
  simp[St.upd]at hx
  by_cases hb:c=b
  ·grind
  simp[hb]at hx;exact h.obj c x hx
 kept c x hx:=by
  simp[St.upd]at hx
  by_cases hb:c=b
  ·grind
  simp[hb]at hx;exact h.kept c x hx
 fresh:=h.fresh
 tabs:=h.tabs }
theorem Zr.named{w w':World}(m:Zr g ν w tmps ρ L s){b:Nat}{o o':Ya}(hb:s b=sO o)(he:Ext g w g w')(hsz:w'.heap.size=w.heap.size)(hoth:∀c,c≠b→w'.heap[c]?=w.heap[c]?)(ho:WO g w' b o'):Zr g ν w' tmps ρ L (s.upd b o'):={
 st:=by
  have h1:Ym g (s.del b) w':=⟨fun c x hx=>by
    simp[St.del]at hx
    by_cases hc:c=b
    ·grind
    simp[hc]at hx;exact(m.st.obj c x hx).mono he (hoth c hc) rfl,
   fun c x hx=>by
    simp[St.del]at hx
    by_cases hc:c=b
    ·grind
    simp[hc]at hx;exact m.st.kept c x hx,
   fun c hc=>m.st.fresh c (by omega),fun n cs hc=>(m.st.tabs n cs hc).mono he⟩
  have h2:=h1.updL ho (m.st.kept b o hb)
  have:(s.del b).upd b o'=s.upd b o':=by
   funext c;simp[St.upd,St.del];by_cases hc:c=b<;>simp[hc]
  rw[this]at h2;exact h2
 loc l cs hl:=(m.loc l cs hl).mono he (hoth _ (fun h=>by have:=m.locSt l cs hl;grind)) rfl
 locKept:=m.locKept
 locSt l cs hl:=by
  have i:ν l≠b:=fun h=>by have:=m.locSt l cs hl;grind
  simp[St.upd,i];exact m.locSt l cs hl
 inj:=m.inj
 env t e ht:=(m.env t e ht).mono he }
theorem Zr.newObj{g g':G}{w w':World}(m:Zr g ν w tmps ρ L s)(hg:JR g w g' w'){o:Ya}(ho:WO g' w' w.heap.size o):
  s w.heap.size=nO∧Zr g' ν w' tmps ρ L (s.upd w.heap.size o):=by
 have hn:s w.heap.size=nO:=by
  cases h:s w.heap.size with
  |none=>rfl
  |some x=>exact absurd (m.st.obj _ x h).lt (Nat.lt_irrefl _)
 have m':=m.grow hg
 refine⟨hn,⟨m'.st.updL ho (by rw[hg.kept];exact(m.st.fresh _ (ZE6 _)).2),m'.loc,m'.locKept,?_,m'.inj,m'.env⟩⟩
 intro l cs hl
 have hlt:=(m.loc l cs hl).lt
 have c:ν l≠w.heap.size:=by omega
 simp[St.upd,c];exact m'.locSt l cs hl
theorem Zmg(b:Nat){en:Array MapEntry}{cl:Nat}(o:Obj)(hb:w.heap[b]?=sO (.map en cl))(hp:g.prot b=0)(hk:¬g.kept b):Ext g w g { w with heap:=w.heap.setIfInBounds b o } where
 size:=by simp
 prot _:=ZE6 _
 cell b' o' ho:=by
  by_cases h:b'=b
  ·subst h;omega
  exact JC (by simp[Ne.symm h])
 hdr b' x hx:=by
  by_cases h:b'=b
  ·subst h;simp[hdr,hb]at hx
  rw[Zbj (w:=w) (by simp[Ne.symm h])];exact hx
 kept b' hb':=by
  have h:b'≠b:=fun h=>hk (h▸hb')
  simp[Ne.symm h]
 keptProt _ _:=rfl
 keptEq:=rfl
 os:=rfl
 output:=rfl
 tape:=rfl
theorem Zps{b:Nat}{en:Array MapEntry}{cl:Nat}(o:Obj)(hb:w.heap[b]?=sO (.map en cl)):({ w with heap:=w.heap.setIfInBounds b o }:World).heap[b]?=sO o:=by grind
theorem JL{b c:Nat}(o:Obj)(h:c≠b):({ w with heap:=w.heap.setIfInBounds b o }:World).heap[c]?=w.heap[c]?:=by grind
theorem Zxk{op:Op}(h:ck P op=sO .mkmap):∃t,op=.makeMap t nO:=by
 unfold ck at h
 split at h
 ·simp at h
 split at h<;>(try(simp at h;done))
 all_goals (try(repeat' (split at h<;>(try(simp at h;done)))))
 grind
theorem Zuj{op:Op}{e:TypeId}{n bytes:Nat}{z:List D}{l c:Opd}(h:ck P op=sO (.mkslice e n bytes z l c)):
  ∃t l' c',op=.makeSlice t l' c'∧P.underlying t=sO (.slice e)∧ZW P e=sO n∧Zaz P e=sO z∧bytes=P.bytesOf e∧Z3 l'=sO l∧Z3 c'=sO c∧0<n∧z.length=n:=by
 unfold ck at h
 split at h
 ·simp at h
 split at h<;>(try(simp at h;done))
 all_goals (try(repeat' (split at h<;>(try(simp at h;done)))))
 rename_i i
 cases h
 simp at i
 exact⟨_,_,_,rfl,‹_›,‹_›,‹_›,rfl,‹_›,‹_›,i.1,i.2⟩
theorem ZzQ{op:Op}{x:Opd}(h:ck P op=sO (.s2b x)):∃s d x' e,op=.convert s d x'∧P.underlying s=sO .string∧P.underlying d=sO (.slice e)∧P.underlying e=sO (.int .u8)∧Z3 x'=sO x:=by
 unfold ck at h
 split at h
 ·simp at h
 split at h<;>(try(simp at h;done))
 all_goals (try(repeat' (split at h<;>(try(grind;done)))))
 simp at h
 grind
theorem ZvK{op:Op}{kp:KP}{m k v:Opd}(h:ck P op=sO (.mapupd kp m k v)):
  ∃t kt et m' k' v',(op=.mapUpdate t m' k' v'∨op=.insert t m' k' v')∧P.underlying t=sO (.map kt et)∧J0 P kt=sO kp∧Z3 m'=sO m∧Z3 k'=sO k∧Z3 v'=sO v:=by
 unfold ck at h
 split at h
 ·simp at h
 split at h<;>(try(simp at h;done))
 all_goals (try(repeat' (split at h<;>(try(simp at h;done)))))
 all_goals (cases h)
 ·grind
 grind
theorem ZvI{op:Op}{kp:KP}{m k:Opd}(h:ck P op=sO (.delete kp m k)):
  ∃ats t kt et m' k',op=.call ⟨.builtin .delete,#[m',k'],ats⟩∧ats[0]?=sO t∧P.underlying t=sO (.map kt et)∧J0 P kt=sO kp∧Z3 m'=sO m∧Z3 k'=sO k:=by
 unfold ck at h
 split at h
 ·simp at h
 split at h<;>(try(simp at h;done))
 all_goals (try(repeat' (split at h<;>(try(simp at h;done)))))
 simp at h
 obtain⟨rfl,rfl,rfl⟩:=h
 rename_i c hcq x1 v o0 x kt et m' k' hu n o1 o2 o3 kp m k hk hm y
 obtain⟨i,⟨al⟩,ats⟩:=c
 have u:i=_:=v
 have j:al=_:=n
 subst u j
 simp[Option.bind_eq_some_iff]at hu
 obtain⟨t,ht,hu⟩:=hu
 exact⟨ats,t,kt,et,m',k',rfl,ht,hu,hk,hm,y⟩
theorem ZvJ{op:Op}{kp:KP}{z:D}{m k:Opd}(h:ck P op=sO (.mapent kp z m k)):
  ∃t kt et m' k',op=.mapEntry t m' k'∧P.underlying t=sO (.map kt et)∧J0 P kt=sO kp∧Zdd P et=sO z∧Z3 m'=sO m∧Z3 k'=sO k:=by
 unfold ck at h
 split at h
 ·simp at h
 split at h<;>(try(simp at h;done))
 all_goals (try(repeat' (split at h<;>(try(simp at h;done)))))
 grind
theorem Zxj{op:Op}{m k v:Opd}(h:ck P op=sO (.entst m k v)):∃t m' k' v',op=.entryStore t m' k' v'∧Z3 m'=sO m∧Z3 k'=sO k∧Z3 v'=sO v:=by
 unfold ck at h
 split at h
 ·simp at h
 split at h<;>(try(simp at h;done))
 all_goals (try(repeat' (split at h<;>(try(simp at h;done)))))
 grind
theorem Zfb{F:Fr P}{dk:List Zi}{o:DOp}(hg:o.guard=nO){a v:Opd}(hk:o.k=.store1 a v∧True∨∃n,o.k=.storeN n a v){p q:Prop}{b off:Nat}{d:D}{cs:List D}(ha:ZC ρ true a=sO (p,.d (.ptr b off)))(hv:ZC ρ true v=sO (q,.d d))(hp:p)(hq:q)(hL:Yj s b=sO cs)(hd1:o.k=.store1 a v→Jl d=true)(hd2:∀n,o.k=.storeN n a v→(∃xs,d=.agg xs)∧(cellsOf d).length=n)(hlen:off+(cellsOf d).length≤cs.length)(hdst0:o.dst=nO)(h:DO F kp dk os ρ L (s.upd b (.cells (ZE cs off (cellsOf d))))):DO F kp dk (o::os) ρ L s:=by
 refine Wn fun oo g ν w tmps aw i r k av ab a3 ag hd hN m hr ap=>?_
 have hw:=Yf m a3 (c:=true) (by rw[hg];rfl)
 have ax:=Yi ab (by rcases hk with ⟨hk,_⟩|⟨n,hk⟩<;>rw[hk]<;>rfl)
 have ae:∃t a' v',oo.op=.store t a' v'∧Z3 a'=sO a∧Z3 v'=sO v∧ZW P t=sO (cellsOf d).length∧W4 d=true:=by
  rcases hk with ⟨hk,_⟩|⟨n,hk⟩
  ·have y:=hd1 hk
   rw[hk]at ab
   obtain⟨t,a',v',h1,h2,h3,h4,h5⟩:=ZoQ ab
   refine⟨t,a',v',h1,h4,h5,?_,?_⟩
   ·rw[h3];cases d<;>simp[Jl]at y<;>rfl
   cases d<;>simp[Jl]at y<;>rfl
  obtain⟨⟨xs,rfl⟩,hn⟩:=hd2 n hk
  rw[hk]at ab
  obtain⟨t,a',v',h1,h2,h3,h4,h5⟩:=ZoR ab
  exact⟨t,a',v',h1,h4,h5,by grind,rfl⟩
 obtain⟨t,a',v',am,aq,ar,a4,y⟩:=ae
 have ah:s b=sO (.cells cs):=by
  unfold Yj at hL
  split at hL<;>cases hL;assumption
 have al:Rep g w ((Act.mk tmps F.ds).eval a') (.ptr b off):=Yc m aq rfl ha hp F.ds
 have aj:Rep g w ((Act.mk tmps F.ds).eval v') d:=Yc m ar rfl hv hq F.ds
 have au:(Act.mk tmps F.ds).eval a'=.pointer (sO ⟨b,off,nO⟩):=by
  generalize (Act.mk tmps F.ds).eval a'=z at al
  cases al;rfl
 obtain⟨a0,ao⟩:=Zdv aj y
 have ai:=Zgy aj y
 obtain⟨ak,j,T,hb,ay,az,af⟩:=Ja m.st hL
 generalize hvv:(Act.mk tmps F.ds).eval v'=vv at *
 have hst:=run_storeCells_at (P:=P) b off T vv.cells.toList 0 j w hb (by grind) (fun x hx=>by rw[ZcQ];exact ai x (Array.mem_toList_iff.1 hx))
 have u:ZH (Rep g w) (j.toList.take off++vv.cells.toList++j.toList.drop (off+vv.cells.size)) (ZE cs off (cellsOf d)):=by
  have ad:ZH (Rep g w) j.toList cs:=Yh (by omega) (fun i v d hv hd=>az i v d (by grind) hd)
  unfold ZE
  rw[←a0]
  exact((ad.take off).append (Yh (by omega) ao)).append (ad.drop _)
 have ac:((j.toList.take off++vv.cells.toList++j.toList.drop (off+vv.cells.size)).toArray).size=j.size:=by
  have:=u.len;simp at this⊢;omega
 have he:=Zg0 (g:=g) b hb ac ak (m.st.kept b _ ah)
 have m':=m.named (o':=.cells (ZE cs off (cellsOf d))) ah he (by simp) (fun c hc=>setRow_other w b c _ hc) ⟨ak,_,T,setRow_heap w b j _ T (0,0) hb,by rw[ac,ay];simp[ZE];omega,
  fun i v d hv hd=>(u.get i v d (by grind) hd).mono he,fun x hx=>by
   simp only[List.mem_toArray,List.mem_append]at hx
   rcases hx with (hx|hx)|hx
   ·exact af x (Array.mem_toList_iff.1 (List.mem_of_mem_take hx))
   ·simp_all
   exact af x (Array.mem_toList_iff.1 (List.mem_of_mem_drop hx))⟩
 refine F.T.back _ _ _ _ (.one (Zhw av hw ax (w':=w.setRow b (j.toList.take off++vv.cells.toList++j.toList.drop (off+vv.cells.size)).toArray) ?_)) ?_
 ·simp only[execOp,am,au,Instr.storeAt,Instr.sureAddr,storeVar,Sem.run_bind,Sem.run_pure,YO a4]
  simp_all
 rw[ag,hdst0]
 exact F.T.ext _ _ _ _ _ he (h aw r k hr ap g ν _ tmps hN m')
theorem JW(o:Obj)(hf:∀b,w.heap.size≤b→g.prot b=0∧¬g.kept b):JR g w g (w.alloc o):={
 size:=by simp
 old b hb:=Zh2 w _ hb
 prot _ _:=rfl
 fresh b hb:=(hf b (by simp at hb;omega)).1
 kept:=rfl
 os:=rfl
 output:=rfl
 tape:=rfl }
theorem Zqm{F:Fr P}{dk:List Zi}{o:DOp}(hg:o.guard=nO){t:Nat}(hdt:o.dst=sO t)(hk:o.k=.mkmap)(h:∀b,s b=nO→DO F kp dk os ((t,.d (.map b))::ρ) L (s.upd b (.map []))):DO F kp dk (o::os) ρ L s:=by
 refine Wn fun oo g ν w tmps ac i r k ab j ae n hd hN m hr z=>?_
 have hw:=Yf m ae (c:=true) (by rw[hg];rfl)
 have ad:=Yi j (by rw[hk];rfl)
 rw[hk]at j
 obtain⟨T,y⟩:=Zxk j
 have u:=JW (g:=g) (w:=w) (.map #[] 0) m.st.fresh
 obtain⟨hn,m'⟩:=m.newObj u (o:=.map []) ⟨(m.st.fresh _ (ZE6 _)).1,#[],0,Kc w _,rfl,by simp,by simp,by simp,by simp⟩
 refine YK (L':=L) hN ab n hd hw ad (v:=.map (sO w.heap.size)) (e:=.d (.map w.heap.size)) ?_ (u.ext m.st.fresh) m' (Rep.map _) ?_
 ·simp[execOp,y,Instr.makeMap]
 rw[hdt];exact h _ hn ac r k hr z
theorem ZjD{z:List D}{n:Nat}:∀{c:Nat},z.length=n→(KC z c).length=c*n∧∀i,i<c*n→(KC z c)[i]?=z[i % n]?
 |0,hz=>by simp[KC]
 |c+1,hz=>by
  obtain⟨h1,h2⟩:=ZjD (c:=c) hz
  have he:KC z (c+1)=z++KC z c:=by simp[KC,List.replicate_succ]
  rw[he]
  refine⟨by grind,fun i hi=>?_⟩
  by_cases h:i<n
  ·rw[ZFp (by omega),Nat.mod_eq_of_lt h]
  rw[ZFz (by omega),hz,h2 _ (by grind)]
  rw[Nat.mod_eq_sub_mod (by omega:n≤i)]
theorem ZlQ{F:Fr P}{dk:List Zi}{o:DOp}(hg:o.guard=nO){t:Nat}(hdt:o.dst=sO t){e:TypeId}{n bytes:Nat}{z:List D}{lx hx:Opd}(hk:o.k=.mkslice e n bytes z lx hx){p q:Prop}{k1 k2:IntKind}{l c:Int}(hl:ZC ρ true lx=sO (p,.d (.int k1 l)))(hc:ZC ρ true hx=sO (q,.d (.int k2 c)))(hp:p)(hq:q)(h0:0≤l)(hlc:l≤c)(hbytes:(bytes:Int)*c≤140737488355328)(h63:c≤big)(h:∀b,s b=nO→DO F kp dk os ((t,.d (.msl b 0 l.toNat c.toNat n))::ρ) L (s.upd b (.cells (KC z c.toNat)))):DO F kp dk (o::os) ρ L s:=by
 refine Wn fun oo g ν w tmps aq i r k ap ab az ad hd hN m hr am=>?_
 have hw:=Yf m az (c:=true) (by rw[hg];rfl)
 have au:=Yi ab (by rw[hk];rfl)
 rw[hk]at ab
 obtain⟨T,l',c',aj,hu,a3,hz,ay,ar,av,ax,af⟩:=Zuj ab
 obtain⟨zv,hz1,ac,hz3,ie,y,a0⟩:=Q7 (g:=g) (w:=w) hz
 obtain⟨aw,_⟩:=K6 (g:=g) (w:=w) (Yc m ar rfl hl hp F.ds)
 obtain⟨ak,_⟩:=K6 (g:=g) (w:=w) (Yc m av rfl hc hq F.ds)
 have j:ie.size=n:=by simpa[ZW,y]using a3
 have hbt:ie.bytes=bytes:=by rw[ay];simp[Program.bytesOf,y]
 have u:zv.cells.size=z.length:=by have:=ac.len;simpa using this
 have ag:=run_make (P:=P) w T e ie zv hu y a0 k1 k2 l c h0 hlc (by grind) (by unfold big at h63;omega)
 obtain⟨ao,ai⟩:=ZjD (z:=z) (n:=n) (c:=c.toNat) af
 have ae:=JW (g:=g) (w:=w) (.cells (madeCells zv.cells (c.toNat*ie.size)) e) m.st.fresh
 have he:=ae.ext m.st.fresh
 have ah:WO g (w.alloc (.cells (madeCells zv.cells (c.toNat*ie.size)) e)) w.heap.size (.cells (KC z c.toNat)):=by
  refine⟨(m.st.fresh _ (ZE6 _)).1,_,e,Kc w _,by rw[size_madeCells,ao,j],fun i v d hv hd=>?_,fun x hx=>?_⟩
  ·have hi:i<c.toNat*n:=by grind
   rw[ai i hi]at hd
   have hm:i % n<n:=Nat.mod_lt _ ax
   have al:zv.cells.toList[i % n]?=sO v:=by
    simp[madeCells,j,hi,u,af]at hv
    simp_all
   exact(ac.get _ v d al hd).mono he
  simp only[madeCells,Array.mem_map]at hx
  obtain⟨a,_,rfl⟩:=hx
  have hlt:a % zv.cells.size<zv.cells.size:=Nat.mod_lt _ (by omega)
  simp_all
 obtain⟨hn,m'⟩:=m.newObj ae ah
 refine YK (L':=L) hN ap ad hd hw au (v:=.slice (sO ⟨w.heap.size,0,nO⟩) l.toNat c.toNat) (e:=.d (.msl w.heap.size 0 l.toNat c.toNat n)) ?_ he m' (Rep.msl _ _ _ _ _ (by omega) (by omega)) ?_
 ·simp[execOp,aj,aw,ak,ag]
 rw[hdt];exact h _ hn aq r k hr am
end
section
variable {P:Program}
theorem ZkU{k:SK}{k1 k2:Value}{d1 d2:D}(h1:Rep g w k1 d1)(h2:Rep g w k2 d2)(h:Yo k d1 d2=sO true)(n:Nat):Instr.sameBits n k1 k2=true:=by
 cases k
 ·cases h1<;>cases h2<;>simp only[Yo,reduceCtorEq]at h
  split at h<;>simp only[reduceCtorEq,ZEP,decide_eq_true_eq]at h
  rename_i hk
  subst hk;subst h
  cases n<;>simp[Instr.sameBits]
 ·cases h1<;>cases h2<;>simp only[Yo,reduceCtorEq,ZEP,decide_eq_true_eq]at h
  rename_i s1 a e1 _ s2 b e2 _
  subst h
  have:s1=s2:=by
   cases s1;cases s2
   simp only[ByteArray.mk.injEq]
   apply Array.ext'
   simp only at e1 e2
   rw[e1,e2]
  subst this
  cases n<;>simp[Instr.sameBits,MapKept.bytes_beq]
 cases h1<;>cases h2<;>simp only[Yo,reduceCtorEq,ZEP,decide_eq_true_eq]at h
 subst h
 cases n<;>simp[Instr.sameBits]
theorem Zen{xs ys:List D}:∀{l:List (Nat×SK)},Ws xs ys l=sO true→∀o k,(o,k)∈l→∃x y,xs[o]?=sO x∧ys[o]?=sO y∧Yo k x y=sO true
 | [],_,o,k,hm=>by simp at hm
 | (o',k')::r,h,o,k,hm=>by
  simp only[Ws]at h
  split at h<;>(try(simp at h;done))
  rename_i x y hx hy
  split at h<;>(try(simp at h;done))
  rename_i b c hb hc
  simp only[ZEP,ZEY]at h
  obtain⟨rfl,rfl⟩:=h
  rcases List.mem_cons.1 hm with he|hm
  ·simp only[ZE2]at he
   obtain⟨rfl,rfl⟩:=he
   exact⟨x,y,hx,hy,hb⟩
  exact Zen hc o k hm
theorem ZkT{kt:TypeId}{kp:KP}(hk:J0 P kt=sO kp){k1 k2:Value}{d1 d2:D}(h1:Rep g w k1 d1)(h2:Rep g w k2 d2)(h:Kn kp d1 d2=sO true)(n:Nat):Instr.sameBits (n+1) k1 k2=true:=by
 rcases ZdY hk with ⟨sk,rfl,hs⟩|⟨fs,l,m,rfl,hu,hn,hl,c,hst⟩
 ·exact ZkU h1 h2 h _
 cases h1<;>cases h2<;>simp only[Kn,reduceCtorEq]at h
 rename_i v1 xs hn1 r1 o1 v2 ys hn2 r2 o2
 split at h<;>(try(simp at h;done))
 rename_i hlen
 simp only[Instr.sameBits,List.size_toArray,ZEY,beq_iff_eq]
 refine⟨by omega,?_⟩
 rw[List.all_eq_true]
 intro p hp
 obtain⟨i,hi,z⟩:=ZFa hp
 simp only[List.length_zip]at hi
 have u:i<v1.length:=by omega
 have t:i<v2.length:=by omega
 have j:i<l.length:=by omega
 have hm:(l[i].1,l[i].2)∈l:=List.getElem_mem j
 have v:l[i].1=i:=by
  have h3:(l.map (·.1))[i]?=sO l[i].1:=by simp[j]
  rw[c]at h3
  have hlm:l.length=m:=by have:=congrArg List.length c;simpa using this
  rw[List.getElem?_range (by omega)]at h3
  exact(Option.some.inj h3).symm
 rw[v]at hm
 obtain⟨x,y,hx,hy,he⟩:=Zen h i _ hm
 have e1:p=(v1[i],v2[i]):=by rw[←z];simp
 rw[e1]
 exact ZkU (r1 i _ x (by simp[u]) hx) (r2 i _ y (by simp[t]) hy) he n
theorem ZmC{kp:KP}{a b:D}(h:Kn kp a b=sO true):Kn kp b a=sO true:=by
 have sc:∀(k:SK) (a b:D),Yo k a b=sO true→Yo k b a=sO true:=by
  intro k a b h
  cases k<;>cases a<;>cases b<;>simp only[Yo,reduceCtorEq]at h⊢
  ·split at h<;>simp only[reduceCtorEq,ZEP,decide_eq_true_eq]at h
   rename_i hk
   simp[hk,h]
  ·simp only[ZEP,decide_eq_true_eq]at h⊢;exact h.symm
  simp only[ZEP,decide_eq_true_eq]at h⊢;exact h.symm
 cases kp with
 |sc k=>exact sc k a b h
 |st l =>
  cases a<;>cases b<;>simp only[Kn,reduceCtorEq]at h⊢
  rename_i xs ys
  split at h<;>(try(simp at h;done))
  rename_i hl
  rw[if_pos ⟨hl.2,hl.1⟩]
  clear hl
  induction l with
  |nil=>rfl
  |cons p r ih =>
   obtain⟨x,y,hx,hy,he⟩:=Zen h p.1 p.2 (by simp)
   have hr:Ws xs ys r=sO true:=by
    simp only[Ws,hx,hy,he]at h
    split at h<;>(try(simp at h;done))
    rename_i b c hb hc
    simp only[ZEP,ZEY]at h
    rw[hc,h.2]
   simp only[Ws,hx,hy,sc _ _ _ he,ih hr,Bool.and_self]
def ZlS(g:G)(w:World)(b:Nat)(en':Array MapEntry)(cl':Nat)(o:Ya):Prop :=
 ∀w',Ext g w g w'→w'.heap[b]?=sO (.map en' cl')→WO g w' b o
theorem ZrC{t kt et:TypeId}{kp:KP}(hu:P.underlying t=sO (.map kt et))(hk:J0 P kt=sO kp){b:Nat}{es es':List (D×D)}{k v:Value}{dk dv:D}(ho:WO g w b (.map es))(hrk:Rep g w k dk)(hrv:Rep g w v dv)(hok:Qo kp dk=true)(hupd:J5 kp dk dv es=sO es'):
  ∃en' cl',(Instr.mapUpdate t (.map (sO b)) k v).run P w=.ok () { w with heap:=w.heap.setIfInBounds b (.map en' cl') }∧ZlS g w b en' cl' (.map es'):=by
 obtain⟨aj,en,ab,hb,n,h3,h4,h5,h6⟩:=ho
 obtain⟨io,al,ac⟩:=ZlK hupd
 have y:=Zcd (P:=P) hk hrk (es:=en.toList) (by simpa using n) (fun i e d a b=>h3 i e d (by simpa using a) b) al
 have am:=Zbg (P:=P) hk hrk hok false
 cases io with
 |none =>
  simp only[Option.bind_none]at y
  simp only at ac
  subst ac
  refine⟨en.push { key:=k,val:=v,born:=ab },ab+1,by simp[Instr.mapUpdate,run_underlying hu,MapKept.run_getObj_map hb,am,y,MapKept.run_setObj_map _ hb],fun w' he ag=>?_⟩
  refine⟨aj,_,_,ag,by simp[n],fun i e d hi hd=>?_,fun i e d hi hd=>?_,fun i j e e' hi hj ad=>?_,fun i e hi=>?_⟩
  ·rw[Array.getElem?_push]at hi
   split at hi
   ·rename_i u
    simp only[ZEP]at hi;subst hi
    simp[u,n]at hd;subst hd;exact hrk.mono he
   have z:i<es.length:=by rw[←n];exact(Array.getElem?_eq_some_iff.1 hi).1
   rw[ZFp z]at hd
   exact(h3 i e d hi hd).mono he
  ·rw[Array.getElem?_push]at hi
   split at hi
   ·rename_i u
    simp only[ZEP]at hi;subst hi
    simp[u,n]at hd;subst hd;exact hrv.mono he
   have z:i<es.length:=by rw[←n];exact(Array.getElem?_eq_some_iff.1 hi).1
   rw[ZFp z]at hd
   exact(h4 i e d hi hd).mono he
  ·rw[Array.getElem?_push]at hi hj
   split at hi<;>split at hj
   ·omega
   ·simp only[ZEP]at hi;subst hi
    have:=h6 j e' hj;simp only at ad;omega
   ·simp only[ZEP]at hj;subst hj
    have:=h6 i e hi;simp only at ad;omega
   exact h5 i j e e' hi hj ad
  rw[Array.getElem?_push]at hi
  split at hi
  ·simp only[ZEP]at hi;subst hi;simp
  have:=h6 i e hi;omega
 |some i0 =>
  simp only at ac
  subst ac
  obtain⟨z,ai⟩:=ZcN al
  have ak:i0<en.size:=by omega
  have af:en[i0]?=sO en[i0]:=by simp[ak]
  have ah:es[i0]?=sO es[i0]:=by simp[z]
  simp only[Option.bind_some,Array.getElem?_toList,af,ZFl]at y
  have ae:(Instr.keyThatStays en[i0].key k).run P w=.ok k w:=by
   have:=ZkT (P:=P) hk (h3 i0 _ _ af ah) hrk (ZmC (ai _ ah)) 9999
   simp[Instr.keyThatStays,this]
  refine⟨en.modify i0 fun e=>{ e with key:=k,val:=v },ab,by simp[Instr.mapUpdate,run_underlying hu,MapKept.run_getObj_map hb,am,y,MapKept.run_setObj_map _ hb,af,ae],fun w' he ag=>?_⟩
  refine⟨aj,_,_,ag,by simp[n],fun i e d hi hd=>?_,fun i e d hi hd=>?_,fun i j e e' hi hj ad=>?_,fun i e hi=>?_⟩
  ·rw[Array.getElem?_modify]at hi
   split at hi
   ·rename_i u
    subst u
    simp only[ZE3]at hi
    obtain⟨e1,h1,rfl⟩:=hi
    simp[z]at hd;subst hd;exact hrk.mono he
   rename_i u
   rw[List.getElem?_set_ne u]at hd
   exact(h3 i e d hi hd).mono he
  ·rw[Array.getElem?_modify]at hi
   split at hi
   ·rename_i u
    subst u
    simp only[ZE3]at hi
    obtain⟨e1,h1,rfl⟩:=hi
    simp[z]at hd;subst hd;exact hrv.mono he
   rename_i u
   rw[List.getElem?_set_ne u]at hd
   exact(h4 i e d hi hd).mono he
  ·have ao:∀{i:Nat} {e:MapEntry},(en.modify i0 fun e=>{ e with key:=k,val:=v })[i]?=sO e→∃e1,en[i]?=sO e1∧e1.born=e.born:=by
    intro i e hi
    rw[Array.getElem?_modify]at hi
    split at hi
    ·simp only[ZE3]at hi
     obtain⟨e1,h1,rfl⟩:=hi
     exact⟨e1,h1,rfl⟩
    exact⟨e,hi,rfl⟩
   obtain⟨a,ha,ha'⟩:=ao hi
   obtain⟨c,hc,hc'⟩:=ao hj
   exact h5 i j a c ha hc (by omega)
  rw[Array.getElem?_modify]at hi
  split at hi
  ·simp only[ZE3]at hi
   obtain⟨e1,h1,rfl⟩:=hi
   exact h6 i e1 h1
  exact h6 i e hi
theorem ZrA{t kt et:TypeId}{kp:KP}{ats:Array TypeId}(ht:ats[0]?=sO t)(hu:P.underlying t=sO (.map kt et))(hk:J0 P kt=sO kp){b:Nat}{es es':List (D×D)}{k:Value}{dk:D}(ho:WO g w b (.map es))(hrk:Rep g w k dk)(hok:Qo kp dk=true)(hdel:ZfI kp dk es=sO es')(ty:TypeId):
  ∃en' cl',(Builtin.delete_ ats ty #[.map (sO b),k]).run P w=.ok (.tuple #[]) { w with heap:=w.heap.setIfInBounds b (.map en' cl') }∧ZlS g w b en' cl' (.map es'):=by
 obtain⟨af,en,y,hb,u,h3,h4,h5,h6⟩:=ho
 obtain⟨io,ag,ab⟩:=Zq3 hdel
 have c:=Zcd (P:=P) hk hrk (es:=en.toList) (by simpa using u) (fun i e d a b=>h3 i e d (by simpa using a) b) ag
 have ah:=Zbg (P:=P) hk hrk hok en.isEmpty
 cases io with
 |none =>
  simp only[Option.bind_none]at c
  simp only at ab
  subst ab
  refine⟨en,y,by simp[Builtin.delete_,ht,run_underlying hu,MapKept.run_getObj_map hb,ah,c,MapKept.run_setObj_map _ hb],fun w' he ae=>?_⟩
  exact⟨af,_,_,ae,u,fun i e d hi hd=>(h3 i e d hi hd).mono he,fun i e d hi hd=>(h4 i e d hi hd).mono he,h5,h6⟩
 |some i0 =>
  simp only at ab
  subst ab
  obtain⟨ai,hkeq⟩:=ZcN ag
  have v:i0<en.size:=by omega
  have aj:en[i0]?=sO en[i0]:=by simp[v]
  simp only[Option.bind_some,Array.getElem?_toList,aj,ZFl]at c
  have ad:en.eraseIdxIfInBounds i0=en.eraseIdx i0 v:=by simp[Array.eraseIdxIfInBounds,v]
  have n:∀i,(en.eraseIdxIfInBounds i0)[i]?=if i<i0 then en[i]? else en[i+1]?:=fun i=>by
   rw[ad,←Array.getElem?_toList,Array.toList_eraseIdx,List.getElem?_eraseIdx];simp
  have z:∀i,(es.eraseIdx i0)[i]?=if i<i0 then es[i]? else es[i+1]?:=fun i=>List.getElem?_eraseIdx ..
  refine⟨en.eraseIdxIfInBounds i0,y,by simp[Builtin.delete_,ht,run_underlying hu,MapKept.run_getObj_map hb,ah,c,MapKept.run_setObj_map _ hb],fun w' he ae=>?_⟩
  refine⟨af,_,_,ae,by rw[ad];simp[ai,u,List.length_eraseIdx],fun i e d hi hd=>?_,fun i e d hi hd=>?_,fun i j e e' hi hj ac=>?_,fun i e hi=>?_⟩
  ·rw[n]at hi;rw[z]at hd
   split at hi
   ·rename_i h;rw[if_pos h]at hd;exact(h3 i e d hi hd).mono he
   rename_i h;rw[if_neg h]at hd;exact(h3 _ e d hi hd).mono he
  ·rw[n]at hi;rw[z]at hd
   split at hi
   ·rename_i h;rw[if_pos h]at hd;exact(h4 i e d hi hd).mono he
   rename_i h;rw[if_neg h]at hd;exact(h4 _ e d hi hd).mono he
  ·rw[n]at hi hj
   split at hi<;>split at hj
   ·exact h5 i j e e' hi hj ac
   ·have:=h5 i (j+1) e e' hi hj ac;omega
   ·have:=h5 (i+1) j e e' hi hj ac;omega
   have:=h5 (i+1) (j+1) e e' hi hj ac;omega
  rw[n]at hi
  split at hi<;>exact h6 _ e hi
theorem Zrb{kp:KP}{k z:D}:∀{es:List (D×D)} {v:D},ZdH kp k z es=sO v→∃io,Q0 kp k es=sO io∧v=match io with
  |none=>z
  |some i=>((es[i]?).map (·.2)).getD z
 | [],v,h=>by simp[ZdH]at h;exact⟨nO,rfl,h.symm⟩
 |e::es,v,h=>by
  simp[ZdH]at h
  split at h
  ·rename_i he;exact⟨sO 0,by simp[Q0,he],by simp[h]⟩
  ·rename_i he
   obtain⟨io,h1,h2⟩:=Zrb h
   refine⟨io.map (· + 1),by simp[Q0,he,h1],?_⟩
   rw[h2];cases io<;>simp
  grind
theorem ZsD{t kt et:TypeId}{kp:KP}{z:D}(hu:P.underlying t=sO (.map kt et))(hk:J0 P kt=sO kp)(hz:Zdd P et=sO z){b:Nat}{es:List (D×D)}{k:Value}{dk dv:D}(ho:WO g w b (.map es))(hrk:Rep g w k dk)(hok:Qo kp dk=true)(hent:ZdH kp dk z es=sO dv):
  ∃en' cl' v n,(Instr.mapEntry t (.map (sO b)) k).run P w=.ok (.tuple #[v,.int .i64 (n:Nat)]) { w with heap:=w.heap.setIfInBounds b (.map en' cl') }∧Rep g w v dv∧ZlS g w b en' cl' (.mapE kp es dk n):=by
 obtain⟨ap,en,y,hb,ab,h3,h4,h5,h6⟩:=ho
 obtain⟨io,ag,ai⟩:=Zrb hent
 have u:=Zcd (P:=P) hk hrk (es:=en.toList) (by simpa using ab) (fun i e d a b=>h3 i e d (by simpa using a) b) ag
 have ar:=Zbg (P:=P) hk hrk hok false
 cases io with
 |none =>
  obtain⟨zv,ax,au⟩:=Zsp (P:=P) (g:=g) (w:=w) hz
  simp only[Option.bind_none]at u
  simp only at ai
  subst ai
  refine⟨en.push { key:=k,val:=zv,born:=y },y+1,zv,y,by simp[Instr.mapEntry,run_underlying hu,MapKept.run_getObj_map hb,ar,u,MapKept.run_setObj_map _ hb,ax,goInt],au,fun w' he am=>?_⟩
  refine⟨ap,nO,ag,_,_,am,by simp[ab],fun i e d ah hi hd=>?_,fun i e d ah hi hd=>?_,fun e hi=>?_,fun i j e e' hi hj ac=>?_,fun i e hi=>?_⟩
  ·have ak:i<es.length:=(List.getElem?_eq_some_iff.1 hd).1
   rw[Array.getElem?_push,if_neg (by omega)]at hi
   exact(h3 i e d hi hd).mono he
  ·have ak:i<es.length:=(List.getElem?_eq_some_iff.1 hd).1
   rw[Array.getElem?_push,if_neg (by omega)]at hi
   exact(h4 i e d hi hd).mono he
  ·simp only[Option.getD_none,←ab,Array.getElem?_push,if_true,ZEP]at hi
   subst hi;exact⟨hrk.mono he,rfl⟩
  ·rw[Array.getElem?_push]at hi hj
   split at hi<;>split at hj
   ·omega
   ·simp only[ZEP]at hi;subst hi
    have:=h6 j e' hj;simp only at ac;omega
   ·simp only[ZEP]at hj;subst hj
    have:=h6 i e hi;simp only at ac;omega
   exact h5 i j e e' hi hj ac
  rw[Array.getElem?_push]at hi
  split at hi
  ·simp only[ZEP]at hi;subst hi;simp
  have:=h6 i e hi;omega
 |some i0 =>
  obtain⟨ak,ao⟩:=ZcN ag
  have aq:i0<en.size:=by omega
  have ae:en[i0]?=sO en[i0]:=by simp[aq]
  have af:es[i0]?=sO es[i0]:=by simp[ak]
  simp only[af,ZFl,ZFs]at ai
  subst ai
  simp only[Option.bind_some,Array.getElem?_toList,ae,ZFl]at u
  have aj:(Instr.keyThatStays en[i0].key k).run P w=.ok k w:=by
   have:=ZkT (P:=P) hk (h3 i0 _ _ ae af) hrk (ZmC (ao _ af)) 9999
   simp[Instr.keyThatStays,this]
  have ad:∀{i:Nat} {e:MapEntry},(en.modify i0 fun e=>{ e with key:=k })[i]?=sO e→∃e1,en[i]?=sO e1∧e1.born=e.born∧e.val=e1.val∧(i≠i0→e=e1)∧(i=i0→e.key=k):=by
   intro i e hi
   rw[Array.getElem?_modify]at hi
   split at hi
   ·rename_i al
    simp only[ZE3]at hi
    obtain⟨e1,h1,rfl⟩:=hi
    exact⟨e1,h1,rfl,rfl,fun h=>absurd al.symm h,fun _=>rfl⟩
   rename_i al
   exact⟨e,hi,rfl,rfl,fun _=>rfl,fun h=>absurd h.symm al⟩
  refine⟨en.modify i0 fun e=>{ e with key:=k },y,en[i0].val,en[i0].born,by simp[Instr.mapEntry,run_underlying hu,MapKept.run_getObj_map hb,ar,u,MapKept.run_setObj_map _ hb,ae,aj,goInt],h4 i0 _ _ ae af,fun w' he am=>?_⟩
  refine⟨ap,sO i0,ag,_,_,am,by simp[ab],fun i e d ah hi hd=>?_,fun i e d ah hi hd=>?_,fun e hi=>?_,fun i j e e' hi hj ac=>?_,fun i e hi=>?_⟩
  ·obtain⟨e1,ha,_,_,hc,_⟩:=ad hi
   rw[hc (by simpa using ah)];exact(h3 i e1 d ha hd).mono he
  ·obtain⟨e1,ha,_,hv,_⟩:=ad hi
   rw[hv];exact(h4 i e1 d ha hd).mono he
  ·simp only[ZFs]at hi
   obtain⟨e1,ha,ac,hv,_,av⟩:=ad hi
   rw[ae]at ha
   simp only[ZEP]at ha
   exact⟨by rw[av rfl];exact hrk.mono he,by rw[←ac,←ha]⟩
  ·obtain⟨a,ha,aw,_⟩:=ad hi
   obtain⟨c,hc,hc',_⟩:=ad hj
   exact h5 i j a c ha hc (by omega)
  obtain⟨a,ha,aw,_⟩:=ad hi
  have:=h6 i a ha;omega
theorem ZpI{t:TypeId}{kp:KP}{b n:Nat}{es es':List (D×D)}{v:Value}{dk dv:D}(ho:WO g w b (.mapE kp es dk n))(hrv:Rep g w v dv)(hupd:J5 kp dk dv es=sO es'):
  ∃en' cl',(Instr.entryStore t (.map (sO b)) (.int .i64 n) v).run P w=.ok () { w with heap:=w.heap.setIfInBounds b (.map en' cl') }∧ZlS g w b en' cl' (.map es'):=by
 obtain⟨ao,io,ag,en,ai,hb,u,h3,h4,h5,h6,h7⟩:=ho
 obtain⟨io',ab,y⟩:=ZlK hupd
 rw[ag]at ab
 simp only[ZEP]at ab
 subst ab
 generalize z:io.getD es.length=ix at *
 have ak:ix<en.size:=by
  cases io with
  |none=>simp only[Option.getD_none]at z;simp only at u;omega
  |some i=>simp only[ZFs]at z;simp only at u;have:=(ZcN ag).1;omega
 have af:en[ix]?=sO en[ix]:=by simp[ak]
 obtain⟨al,ap⟩:=h5 _ af
 have aq:en.findIdx? (fun e=>(e.born:Int)==(n:Int))=sO ix:=by
  rw[Array.findIdx?_eq_some_iff_getElem]
  refine⟨ak,by simp[ap],fun j hj=>?_⟩
  simp only[beq_iff_eq,Int.natCast_inj]
  intro hjn
  have:=h6 j ix en[j] en[ix] (by simp[show j<en.size by omega]) af (by omega)
  omega
 have au:en.size=es'.length:=by
  cases io with
  |none=>simp only at y u;rw[y];simp[u]
  |some i=>simp only at y u;rw[y];simp[u]
 have ae:∀i d,es'[i]?=sO d→(i=ix∧d=(dk,dv))∨(i≠ix∧es[i]?=sO d):=by
  intro i d hd
  cases io with
  |none =>
   simp only[Option.getD_none]at z
   subst z
   simp only at y
   rw[y]at hd
   by_cases hi:i<es.length
   ·rw[ZFp hi]at hd;exact .inr ⟨by omega,hd⟩
   rw[ZFz (by omega)]at hd
   have h0:i-es.length=0:=by
    rcases Nat.eq_zero_or_pos (i-es.length) with h|h
    ·exact h
    rw[ZFA (by simp;omega)]at hd;simp at hd
   rw[h0]at hd
   simp at hd;exact .inl ⟨by omega,hd.symm⟩
  |some j =>
   simp only[ZFs]at z
   subst z
   simp only at y
   rw[y]at hd
   by_cases hi:j=i
   ·subst hi
    have:=(ZcN ag).1
    simp[this]at hd;exact .inl ⟨rfl,hd.symm⟩
   rw[List.getElem?_set_ne hi]at hd;exact .inr ⟨fun h=>hi h.symm,hd⟩
 have ac:∀{i:Nat} {e:MapEntry},(en.modify ix fun e=>{ e with val:=v })[i]?=sO e→∃e1,en[i]?=sO e1∧e1.born=e.born∧e.key=e1.key∧(i≠ix→e=e1)∧(i=ix→e.val=v):=by
  intro i e hi
  rw[Array.getElem?_modify]at hi
  split at hi
  ·rename_i ah
   simp only[ZE3]at hi
   obtain⟨e1,h1,rfl⟩:=hi
   exact⟨e1,h1,rfl,rfl,fun h=>absurd ah.symm h,fun _=>rfl⟩
  rename_i ah
  exact⟨e,hi,rfl,rfl,fun _=>rfl,fun h=>absurd h.symm ah⟩
 refine⟨en.modify ix fun e=>{ e with val:=v },ai,by simp[Instr.entryStore,MapKept.run_getObj_map hb,asInt,asIntOf,aq,MapKept.run_setObj_map _ hb],fun w' he ar=>?_⟩
 refine⟨ao,_,_,ar,by simp[au],fun i e d hi hd=>?_,fun i e d hi hd=>?_,fun i j e e' hi hj hbn=>?_,fun i e hi=>?_⟩
 ·obtain⟨e1,ha,_,hk,_⟩:=ac hi
  rw[hk]
  rcases ae i d hd with ⟨rfl,rfl⟩|⟨ad,aj⟩
  ·rw[af]at ha;simp only[ZEP]at ha;rw[←ha];exact al.mono he
  exact(h3 i e1 d ad ha aj).mono he
 ·obtain⟨e1,ha,_,_,hc,hv⟩:=ac hi
  rcases ae i d hd with ⟨rfl,rfl⟩|⟨ad,aj⟩
  ·rw[hv rfl];exact hrv.mono he
  rw[hc ad];exact(h4 i e1 d ad ha aj).mono he
 ·obtain⟨a,ha,am,_⟩:=ac hi
  obtain⟨c,hc,hc',_⟩:=ac hj
  exact h6 i j a c ha hc (by omega)
 obtain⟨a,ha,am,_⟩:=ac hi
 have:=h7 i a ha;omega
end
section
variable {P:Program}
theorem Zj4{v:Value}{b:Nat}(h:Rep g w v (.map b)):v=.map (sO b):=by cases h;rfl
theorem Zhf{b:Nat}{es:List (D×D)}(h:KM s b=sO es):s b=sO (.map es):=by
 unfold KM at h
 split at h<;>simp only[ZEP,reduceCtorEq]at h
 subst h;assumption
theorem Zlt{F:Fr P}{ops:Array Oper}{i:Nat}{r:List Nat}{k:List Item}{oo:Oper}{o:DOp}(hN:F.N≤tmps.size)(m:Zr g ν w tmps ρ L s)(hoo:ops[i]?=sO oo)(hdst:oo.dst=o.dst)(hdst0:o.dst=nO)(hw:Region.wanted oo (yielded ops tmps)=true)(hnd:∀c,oo.op≠.defer c){b:Nat}{o1 o':Ya}(hb:s b=sO o1){en en':Array MapEntry}{cl cl':Nat}(hh:w.heap[b]?=sO (.map en cl))(hp:g.prot b=0)(hmap:ZlS g w b en' cl' o'){x:Value}(hrun:(execOp (Act.mk tmps F.ds).eval oo).run P w=.ok .skip { w with heap:=w.heap.setIfInBounds b (.map en' cl') }∨(execOp (Act.mk tmps F.ds).eval oo).run P w=.ok (.value x) { w with heap:=w.heap.setIfInBounds b (.map en' cl') })(h:Jr F (.inRegion ops r::k) ρ L (s.upd b o')):F.T.T g w (lone (F.b.atR ⟨tmps,F.ds⟩ (.inRegion ops (i::r)::k)) F.cs w):=by
 have he:=Zmg (g:=g) b (.map en' cl') hh hp (m.st.kept b _ hb)
 have m':=m.named hb he (by simp) (fun c hc=>JL _ hc) (hmap _ he (Zps _ hh))
 rcases hrun with hrun|hrun
 ·refine F.T.back _ _ _ _ (.one (Zhw hoo hw hnd hrun)) ?_
  rw[hdst,hdst0]
  exact F.T.ext _ _ _ _ _ he (h g ν _ tmps hN m')
 refine F.T.back _ _ _ _ (.one (Zhx hoo hw hnd hrun)) ?_
 rw[hdst,hdst0]
 exact F.T.ext _ _ _ _ _ he (h g ν _ tmps hN m')
theorem ZoJ{F:Fr P}{dk:List Zi}{o:DOp}(hg:o.guard=nO)(hdn:o.dst=nO){mk:KP}{mx kx vx:Opd}(hk:o.k=.mapupd mk mx kx vx){p q r:Prop}{b:Nat}{kd vd:D}(hm:ZC ρ true mx=sO (p,.d (.map b)))(hkk:ZC ρ true kx=sO (q,.d kd))(hv:ZC ρ true vx=sO (r,.d vd))(hp:p)(hq:q)(hr:r){es es':List (D×D)}(hb:KM s b=sO es)(hupd:J5 mk kd vd es=sO es')(hok:Qo mk kd=true)(h:DO F kp dk os ρ L (s.upd b (.map es'))):DO F kp dk (o::os) ρ L s:=by
 refine Wn fun oo g ν w tmps ae i r' k ad j ai n hd hN m aj u=>?_
 have hw:=Yf m ai (c:=true) (by rw[hg];rfl)
 have af:=Yi j (by rw[hk];rfl)
 rw[hk]at j
 obtain⟨t,kt,et,m',k',v',hop,hu,y,ag,ab,z⟩:=ZvK j
 have e1:=Zj4 (g:=g) (w:=w) (Yc m ag rfl hm hp F.ds)
 have e2:Rep g w _ _:=Yc m ab rfl hkk hq F.ds
 have e3:Rep g w _ _:=Yc m z rfl hv hr F.ds
 have ho:=Zez m.st hb
 obtain⟨en',cl',v,ah⟩:=ZrC hu y ho e2 e3 hok hupd
 obtain⟨ac,en,cl,hh,_⟩:=ho
 refine Zlt (x:=undef) hN m ad n hdn hw af (Zhf hb) hh ac ah (.inl ?_) (h ae r' k aj u)
 rcases hop with hop|hop<;>simp[execOp,hop,e1,v]
theorem ZoH{F:Fr P}{dk:List Zi}{o:DOp}(hg:o.guard=nO)(hdn:o.dst=nO){mk:KP}{mx kx:Opd}(hk:o.k=.delete mk mx kx){p q:Prop}{b:Nat}{kd:D}(hm:ZC ρ true mx=sO (p,.d (.map b)))(hkk:ZC ρ true kx=sO (q,.d kd))(hp:p)(hq:q){es es':List (D×D)}(hb:KM s b=sO es)(hupd:ZfI mk kd es=sO es')(hok:Qo mk kd=true)(h:DO F kp dk os ρ L (s.upd b (.map es'))):DO F kp dk (o::os) ρ L s:=by
 refine Wn fun oo g ν w tmps ae i r' k ad j ai n hd hN m aj u=>?_
 have hw:=Yf m ai (c:=true) (by rw[hg];rfl)
 have af:=Yi j (by rw[hk];rfl)
 rw[hk]at j
 obtain⟨ats,t,kt,et,m',k',y,ht,hu,z,ag,ab⟩:=ZvI j
 have e1:=Zj4 (g:=g) (w:=w) (Yc m ag rfl hm hp F.ds)
 have e2:Rep g w _ _:=Yc m ab rfl hkk hq F.ds
 have ho:=Zez m.st hb
 obtain⟨en',cl',v,ah⟩:=ZrA ht hu z ho e2 hok hupd oo.type
 obtain⟨ac,en,cl,hh,_⟩:=ho
 refine Zlt (x:=.tuple #[]) hN m ad n hdn hw af (Zhf hb) hh ac ah (.inr ?_) (h ae r' k aj u)
 simp[execOp,y,resolve,invoke,builtin,e1,v]
theorem ZoI{F:Fr P}{dk:List Zi}{o:DOp}(hg:o.guard=nO){t:Nat}(hdt:o.dst=sO t){mk:KP}{z:D}{mx kx:Opd}(hk:o.k=.mapent mk z mx kx){p q:Prop}{b:Nat}{kd v:D}(hm:ZC ρ true mx=sO (p,.d (.map b)))(hkk:ZC ρ true kx=sO (q,.d kd))(hp:p)(hq:q){es:List (D×D)}(hb:KM s b=sO es)(hent:ZdH mk kd z es=sO v)(hok:Qo mk kd=true)(h:∀n,DO F kp dk os ((t,.d (.tup [v,.stamp n]))::ρ) L (s.upd b (.mapE mk es kd n))):DO F kp dk (o::os) ρ L s:=by
 refine Wn fun oo g ν w tmps aj i r' k ai j ap u hd hN m au ab=>?_
 have hw:=Yf m ap (c:=true) (by rw[hg];rfl)
 have al:=Yi j (by rw[hk];rfl)
 rw[hk]at j
 obtain⟨ty,kt,et,m',k',ad,hu,ae,hz,am,af⟩:=ZvJ j
 have e1:=Zj4 (g:=g) (w:=w) (Yc m am rfl hm hp F.ds)
 have e2:Rep g w _ _:=Yc m af rfl hkk hq F.ds
 have ho:=Zez m.st hb
 obtain⟨aq,ak,vv,n,ac,ag,ao⟩:=ZsD hu ae hz ho e2 hok hent
 obtain⟨ah,en,cl,hh,_⟩:=ho
 have y:=Zhf hb
 have he:=Zmg (g:=g) b (.map aq ak) hh ah (m.st.kept b _ y)
 have ar:=m.named y he (by simp) (fun c hc=>JL _ hc) (ao _ he (Zps _ hh))
 refine YK (L':=L) hN ai u hd hw al (v:=.tuple #[vv,.int .i64 n]) (e:=.d (.tup [v,.stamp n])) ?_ he ar ((Zhj ag (.stamp n)).mono he) ?_
 ·simp[execOp,ad,e1,ac]
 rw[hdt];exact h n aj r' k au ab
theorem Zql{F:Fr P}{dk:List Zi}{o:DOp}(hg:o.guard=nO)(hdn:o.dst=nO){mk:KP}{mx kx vx:Opd}(hk:o.k=.entst mx kx vx){p q r:Prop}{b n:Nat}{kd vd:D}(hm:ZC ρ true mx=sO (p,.d (.map b)))(hkk:ZC ρ true kx=sO (q,.d (.stamp n)))(hv:ZC ρ true vx=sO (r,.d vd))(hp:p)(hq:q)(hr:r){es es':List (D×D)}(hb:s b=sO (.mapE mk es kd n))(hupd:J5 mk kd vd es=sO es')(h:DO F kp dk os ρ L (s.upd b (.map es'))):DO F kp dk (o::os) ρ L s:=by
 refine Wn fun oo g ν w tmps ah i r' k ag j al u hd hN m am v=>?_
 have hw:=Yf m al (c:=true) (by rw[hg];rfl)
 have ai:=Yi j (by rw[hk];rfl)
 rw[hk]at j
 obtain⟨t,m',k',v',ac,aj,ae,ad⟩:=Zxj j
 have e1:=Zj4 (g:=g) (w:=w) (Yc m aj rfl hm hp F.ds)
 have e2:Rep g w _ _:=Yc m ae rfl hkk hq F.ds
 have e3:Rep g w _ _:=Yc m ad rfl hv hr F.ds
 have ab:(Act.mk tmps F.ds).eval k'=.int .i64 n:=by
  generalize (Act.mk tmps F.ds).eval k'=z at e2
  cases e2;rfl
 have ho:=m.st.obj b _ hb
 obtain⟨en',cl',y,ak⟩:=ZpI (P:=P) (t:=t) ho e3 hupd
 obtain⟨af,io,_,en,cl,hh,_⟩:=ho
 refine Zlt (x:=undef) hN m ag u hdn hw ai hb hh af ak (.inl ?_) (h ah r' k am v)
 simp[execOp,ac,e1,ab,y]
theorem Zvw{F:Fr P}{dk:List Zi}{o:DOp}{c:Bool}(hg:Zl ρ o.guard=sO c){x:Opd}(hk:o.k=.s2b x){p:Prop}{l:List UInt8}(ha:ZC ρ c x=sO (p,.d (.str l)))(hs:c=true→p){e':E}(he:e'=.when c (.d (.sl .none l.length 1 (fun i=>[.int .u8 ((l.getD i 0).toNat:Int)])))∨(c=true∧e'=.d (.sl .none l.length 1 (fun i=>[.int .u8 ((l.getD i 0).toNat:Int)]))))(h:DO F kp dk os (Zt ρ o.dst e') L s):DO F kp dk (o::os) ρ L s:=by
 refine Wn fun oo g ν w tmps ai i r k y u ar t hd hN m hr ag=>?_
 have ab:=h ai r k hr ag
 have hw:=Yf m ar hg
 have aj:=Yi u (by rw[hk];rfl)
 cases c
 ·rcases he with rfl|⟨h0,_⟩
  ·exact Zbw (P:=P) hN m y t hd hw ab
  simp at h0
 rw[hk]at u
 obtain⟨sT,dT,x',e,af,am,ao,ak,ah⟩:=ZzQ u
 obtain⟨s0,aq,e0,al⟩:=Zj5 (g:=g) (w:=w) (Yc m ah rfl ha (hs rfl) F.ds)
 have ae:s0.size=l.length:=by rw[←e0];rfl
 have ad:=Lib.run_convert_string_bytes (P:=P) w sT dT e s0 am ao ak
 have ac:=grownCap_le_maxLen w s0.size 0 e (by rw[ae];unfold big at al;unfold maxLen;omega)
 have ap:=grownCap_ge w s0.size 0 e
 let g':G:={ g with prot:=fun b=>if b=w.heap.size then l.length else g.prot b }
 have z:JR g w g' (Lib.bytesWorld w e s0):=by
  refine⟨by rw[Lib.bytesWorld_size];omega,fun b hb=>Lib.bytesWorld_at_old w e s0 b hb,fun b hb=>by simp[g',Nat.ne_of_lt hb],fun b hb=>?_,rfl,?_,?_,?_⟩
  ·rw[Lib.bytesWorld_size]at hb
   simp[g',show b≠w.heap.size by omega,(m.st.fresh b (by omega)).1]
  ·rfl
  ·rfl
  rfl
 have n:Rep g' (Lib.bytesWorld w e s0) (.slice (sO ⟨w.heap.size,0,nO⟩) s0.size (grownCap w s0.size 0 e)) (.sl .none l.length 1 (fun i=>[.int .u8 ((l.getD i 0).toNat:Int)])):=by
  rw[ae]at ac ap⊢
  refine .sl w.heap.size 0 l.length _ 1 _ .none (fun i _=>.int .u8 ((l.getD i 0).toNat:Int)) (fun i hi=>rfl) (fun i j hi hj=>?_) (fun i j hi hj=>?_) (fun i j d hi hd=>?_) (fun i j _ _=>rfl) trivial (by omega) (by unfold big;unfold maxLen at ac;omega)
  ·have:=Lib.bytesWorld_cell w e s0 (0+i*1+j) (by omega)
   rw[this,e0]
   have:0+i*1+j=i:=by omega
   rw[this]
  ·simp[g'];omega
  cases j with
  |zero=>simp only[List.getElem?_cons_zero,ZEP]at hd;subst hd;exact .int _ _ (Zrr _)
  |succ j=>simp at hd
 refine YK hN y t hd hw aj (v:=.slice (sO ⟨w.heap.size,0,nO⟩) s0.size (grownCap w s0.size 0 e)) ?_ (z.ext m.st.fresh) (m.grow z) ?_ ab
 ·simp[execOp,af,aq,ad]
 rcases he with rfl|⟨_,rfl⟩
 ·exact⟨fun _=>n,fun h=>by simp at h⟩
 exact n
end
section
variable {P:Program}
theorem Zvu{F:Fr P}{dk:List Zi}{o:DOp}{c:Bool}(hg:Zl ρ o.guard=sO c){len n:Nat}{z:List D}{is:List Nat}(hk:o.k=.bsl len n z is xs){p:Prop}{es:List E}(ha:Yd ρ c xs=sO (p,es))(hds:W2 es=sO ds)(hs:c=true→p∧K4 n ds=true){e':E}(he:e'=.when c (.d (.sl .full len n (Z4 z (is.zip ds))))∨(c=true∧e'=.d (.sl .full len n (Z4 z (is.zip ds)))))(h:DO F kp dk os (Zt ρ o.dst e') L s):DO F kp dk (o::os) ρ L s:=by
 refine Wn fun oo g ν w tmps al i r k ae ab ar j hd hN m hr ak=>?_
 have af:=h al r k hr ak
 have hw:=Yf m ar hg
 have am:=Yi ab (by rw[hk];rfl)
 cases c
 ·rcases he with rfl|⟨h0,_⟩
  ·exact Zbw (P:=P) hN m ae j hd hw af
  grind
 rw[hk]at ab
 obtain⟨t,e,parts,ai,hu,ap,hz,aj,rfl,ag,ao,aq,ac⟩:=ZvG ab
 have u:=ZbV m rfl F.ds aj ha (hs rfl).1
 have y:=KW u hds
 obtain⟨v,w',g',h1,h2,h3⟩:=ZzM (P:=P) (g:=g) (w:=w) (parts:=parts.toList.map fun x=>(x.1,(Act.mk tmps F.ds).eval x.2)) hu ap hz (by simpa[Function.comp_def]using ag) ao aq ac
  (by simpa[Function.comp_def]using y) (hs rfl).2 m.st.fresh
 have hx:=h2.ext m.st.fresh
 have ah:(execOp (Act.mk tmps F.ds).eval oo).run P w=.ok (.value v) w':=by
  simp[execOp,ai,Sem.run_bind]
  have e1:(parts.map fun x=>(x.1,(Act.mk tmps F.ds).eval x.2))=(parts.toList.map fun x=>(x.1,(Act.mk tmps F.ds).eval x.2)).toArray:=by apply Array.ext';simp
  rw[e1,h1]
  rfl
 have ad:Rep g' w' v (.sl .full len n (Z4 z ((parts.toList.map (·.1)).zip ds))):=by simpa[Function.comp_def]using h3
 refine YK hN ae j hd hw am ah hx (m.grow h2) ?_ af
 rcases he with rfl|⟨_,rfl⟩
 ·exact⟨fun _=>ad,fun h=>by simp at h⟩
 exact ad
theorem Zte{F:Fr P}{dk:List Zi}{o:DOp}{c:Bool}(hg:Zl ρ o.guard=sO c){x a b:Opd}(hk:o.k=.pick x a b){p:Prop}{v:Bool}(ha:Zdc ρ c x a b=sO (p,v))(hs:c=true→p){e':E}(he:e'=.when c (.d (.bool v))∨(c=true∧e'=.d (.bool v)))(h:DO F kp dk os (Zt ρ o.dst e') L s):DO F kp dk (o::os) ρ L s:=by
 refine Zqo hg (by rw[hk];rfl) he (fun hc oo g ν w tmps i m=>?_) h
 rw[hk]at i
 obtain⟨x',a',b',j,h1,h2,h3⟩:=ZyS i
 refine⟨.bool v,?_,.bool v⟩
 obtain⟨dst,op,ty,pos,af,gd⟩:=oo
 cases j
 exact ZxY m h1 h2 h3 hc ha (hs hc) _ _ _ _ _ _
theorem Zfy{ρ ρ':Env}{L L':Loc}{s s':St}{p q ok side:Prop}{a:E}{n:Nat}{xs:List D}(h:KZ ρ L s p q ok a n xs=.ok side ρ' L' s'):
  ρ'=ρ∧((∃l off cs,a=.loc l off∧Zg L l=sO cs∧side=(p∧q∧off+n≤cs.length∧ok)∧L'=(l,ZE cs off xs)::L∧s'=s) ∨
   ∃b off cs,a=.d (.ptr b off)∧Yj s b=sO cs∧side=(p∧q∧off+n≤cs.length∧ok)∧L'=L∧s'=s.upd b (.cells (ZE cs off xs))):=by
 unfold KZ at h
 split at h<;>(try(simp at h;done))
 ·rename_i l off
  split at h<;>simp only[SR.ok.injEq,reduceCtorEq]at h
  rename_i cs c
  obtain⟨rfl,rfl,rfl,rfl⟩:=h
  exact⟨rfl,.inl ⟨l,off,cs,rfl,c,rfl,rfl,rfl⟩⟩
 rename_i b off
 split at h<;>simp only[SR.ok.injEq,reduceCtorEq]at h
 rename_i cs c
 obtain⟨rfl,rfl,rfl,rfl⟩:=h
 exact⟨rfl,.inr ⟨b,off,cs,rfl,c,rfl,rfl,rfl⟩⟩
theorem Zea{p q ok side:Prop}{a:E}{n:Nat}{xs:List D}{pre:Nat→Prop}{ρ':Nat→Env}{s':Nat→St}:KZ ρ L s p q ok a n xs≠.all side pre ρ' s':=by
 unfold KZ
 split<;>(try(split<;>simp))<;>simp
theorem QB{F:Fr P}{dk:List Zi}{o:DOp}{ρ ρ':Env}{L L':Loc}{s s':St}(hst:ZB o ρ L s=.ok side ρ' L' s')(hs:side)(h:DO F kp dk os ρ' L' s'):DO F kp dk (o::os) ρ L s:=by
 obtain⟨dst,gd,k⟩:=o
 unfold ZB at hst
 cases hg:Zl ρ gd with
 |none=>simp[hg]at hst
 |some c =>
  simp only[hg]at hst
  have u:gd=nO→c=true:=fun h0=>by subst h0;simpa[Zl]using hg.symm
  cases k with
  |q q xs =>
   simp only at hst
   split at hst<;>(try(simp at hst;done))
   rename_i p es ha
   split at hst<;>(try(simp at hst;done))
   rename_i sd e hq
   split at hst<;>(cases hst)
   ·obtain rfl:=u rfl
    exact ZzG hg rfl ha hq (fun _=>hs) (.inr ⟨rfl,rfl⟩) h
   exact ZzG hg rfl ha hq hs (.inl rfl) h
  |pick x a b =>
   simp only at hst
   split at hst<;>(try(simp at hst;done))
   rename_i p v ha
   split at hst<;>(cases hst)
   ·obtain rfl:=u rfl
    exact Zte hg rfl ha (fun _=>hs) (.inr ⟨rfl,rfl⟩) h
   exact Zte hg rfl ha hs (.inl rfl) h
  |alloc z =>
   simp only at hst
   split at hst<;>(try(simp at hst;done))
   rename_i t
   cases hst
   exact Zqk rfl rfl rfl hs h
  |box x =>
   simp only at hst
   split at hst<;>(try(simp at hst;done))
   rename_i t p v ha
   cases hst
   exact ZzD rfl rfl rfl ha hs.1 hs.2.1 hs.2.2 h
  |bsl len n z is xs =>
   simp only at hst
   split at hst<;>(try(simp at hst;done))
   rename_i p es ha
   split at hst<;>(try(simp at hst;done))
   rename_i ds y
   split at hst<;>(cases hst)
   ·obtain rfl:=u rfl
    exact Zvu hg rfl ha y (fun _=>hs) (.inr ⟨rfl,rfl⟩) h
   exact Zvu hg rfl ha y hs (.inl rfl) h
  |s2b x =>
   simp only at hst
   split at hst<;>(try(simp at hst;done))
   rename_i p l ha
   split at hst<;>(cases hst)
   ·obtain rfl:=u rfl
    exact Zvw hg rfl ha (fun _=>hs) (.inr ⟨rfl,rfl⟩) h
   exact Zvw hg rfl ha hs (.inl rfl) h
  |store1 a v =>
   simp only at hst
   split at hst<;>(try(simp at hst;done))
   rename_i p ea q x ha hv
   obtain⟨rfl,⟨l,off,cs,rfl,hL,rfl,rfl,rfl⟩|⟨b,off,cs,rfl,hL,rfl,rfl,rfl⟩⟩:=Zfy hst
   all_goals obtain⟨h1,h2,h3,h4⟩:=hs
   all_goals have hx:cellsOf x=[x]:=by cases x<;>simp[Jl]at h4<;>rfl
   ·exact Zqn rfl (.inl ⟨rfl,trivial⟩) ha hv h1 h2 hL (fun _=>h4) (fun n hn=>by simp at hn) (by rw[hx];simpa using h3) rfl (by rw[hx];exact h)
   exact Zfb rfl (.inl ⟨rfl,trivial⟩) ha hv h1 h2 hL (fun _=>h4) (fun n hn=>by simp at hn) (by rw[hx];simpa using h3) rfl (by rw[hx];exact h)
  |storeN n a v =>
   simp only at hst
   split at hst<;>(try(simp at hst;done))
   rename_i p ea q xs ha hv
   obtain⟨rfl,⟨l,off,cs,rfl,hL,rfl,rfl,rfl⟩|⟨b,off,cs,rfl,hL,rfl,rfl,rfl⟩⟩:=Zfy hst
   all_goals obtain⟨h1,h2,h3,h4⟩:=hs
   ·exact Zqn rfl (.inr ⟨n,rfl⟩) ha hv h1 h2 hL (fun hn=>by simp at hn) (fun n' hn=>by simp only[K.storeN.injEq]at hn;exact⟨⟨xs,rfl⟩,by rw[←hn.1];exact h4⟩) (by simp only[cellsOf];omega) rfl h
   exact Zfb rfl (.inr ⟨n,rfl⟩) ha hv h1 h2 hL (fun hn=>by simp at hn) (fun n' hn=>by simp only[K.storeN.injEq]at hn;exact⟨⟨xs,rfl⟩,by rw[←hn.1];exact h4⟩) (by simp only[cellsOf];omega) rfl h
  |mkmap =>
   simp only at hst
   split at hst<;>simp at hst
  |mkslice e n by_ z l c =>
   simp only at hst
   split at hst<;>simp at hst
  |mapent kp z m k =>
   simp only at hst
   split at hst<;>(try(simp at hst;done))
   split at hst<;>(try(simp at hst;done))
   split at hst<;>simp at hst
  |mapupd kp m k v =>
   simp only at hst
   split at hst<;>(try(simp at hst;done))
   rename_i p b q dk r dv hm hk hv
   split at hst<;>(try(simp at hst;done))
   rename_i es j
   split at hst<;>simp only[SR.ok.injEq,reduceCtorEq]at hst
   rename_i ab i
   obtain⟨rfl,rfl,rfl,rfl⟩:=hst
   exact ZoJ rfl rfl rfl hm hk hv hs.1 hs.2.1 hs.2.2.1 j i hs.2.2.2 h
  |delete kp m k =>
   simp only at hst
   split at hst<;>(try(simp at hst;done))
   rename_i p b q dk hm hk
   split at hst<;>(try(simp at hst;done))
   rename_i es j
   split at hst<;>simp only[SR.ok.injEq,reduceCtorEq]at hst
   rename_i ab i
   obtain⟨rfl,rfl,rfl,rfl⟩:=hst
   exact ZoH rfl rfl rfl hm hk hs.1 hs.2.1 j i hs.2.2 h
  |entst m k v =>
   simp only at hst
   split at hst<;>(try(simp at hst;done))
   rename_i p b q n r dv hm hk hv
   split at hst<;>(try(simp at hst;done))
   rename_i kp es dk n' j
   split at hst<;>simp only[SR.ok.injEq,reduceCtorEq]at hst
   rename_i ab i
   obtain⟨rfl,rfl,rfl,rfl⟩:=hst
   obtain⟨h1,h2,h3,rfl⟩:=hs
   exact Zql rfl rfl rfl hm hk hv h1 h2 h3 j i h
  |_=>simp at hst
theorem ZlP{F:Fr P}{dk:List Zi}{o:DOp}{pre:Nat→Prop}{ρ':Nat→Env}{s':Nat→St}(hst:ZB o ρ L s=.all side pre ρ' s')(hs:side)(h:∀b,pre b→DO F kp dk os (ρ' b) L (s' b)):DO F kp dk (o::os) ρ L s:=by
 obtain⟨dst,gd,k⟩:=o
 unfold ZB at hst
 cases hg:Zl ρ gd with
 |none=>grind
 |some c =>
  simp[hg]at hst
  cases k with
  |mkmap =>
   simp only at hst
   split at hst<;>cases hst
   exact Zqm rfl rfl rfl h
  |mkslice e n by_ z l c =>
   simp only at hst
   split at hst<;>cases hst
   obtain⟨h1,h2,h3,h4,h5,h6⟩:=hs
   exact ZlQ rfl rfl rfl ‹_› ‹_› h1 h2 h3 h4 h5 h6 h
  |mapent kp z m k =>
   simp only at hst
   split at hst<;>(try(grind;done))
   split at hst<;>(try(grind;done))
   split at hst<;>cases hst
   exact ZoI rfl rfl rfl ‹_› ‹_› hs.1 hs.2.1 ‹_› ‹_› hs.2.2 (fun n=>h n trivial)
  |store1 a v =>
   simp only at hst
   split at hst<;>(try(grind;done))
   exact absurd hst Zea
  |storeN n a v =>
   simp only at hst
   split at hst<;>(try(grind;done))
   exact absurd hst Zea
  |_ =>
   grind
   first
    | (grind;done)
    |repeat' (split at hst<;>(try(grind;done)))
theorem Zm{F:Fr P}{kp:Option (List Nat)}{dk:List Zi}:∀{os:List DOp} {ρ:Env} {L:Loc} {s:St},
  Zie (fun ρ L s=>Zu F dk (kept kp ρ) (ZjV kp ρ L) s) (fun os ρ L s=>DO F kp dk os ρ L s) os ρ L s→DO F kp dk os ρ L s
 | [],ρ,L,s,h=>Zei h
 |o::os,ρ,L,s,h=>by
  simp[Zie]at h
  split at h
  ·rename_i sd ρ' L' s' c
   exact QB c h.1 (Zm h.2)
  ·rename_i sd pre ρ' s' c
   exact ZlP c h.1 fun b hb=>Zm (h.2 b hb)
  exact h
end
inductive Res where
 |ret (d:D)
 |panic (d:D)
def Zua(g:G)(w:World):Ending→Res→Prop
 |.returned v,.ret d=>Rep g w v d
 |.panicked ch,.panic d=>∃v,ch=[{ v,recovered:=false }]∧Rep g w v d
 |_,_=>False
def Zga(g:G)(w:World)(Φ:Res→St→Prop)(e:Ending)(w':World):Prop :=
 ∃g' s' r,Ext g w g' w'∧Ym g' s' w'∧Zua g' w' e r∧Φ r s'
section
variable {P:Program}
def Zf(P:Program)(f:FuncId)(args:List D)(s:St)(Φ:Res→St→Prop):Prop :=
 (∃fn,P.funcs[f]?=sO fn∧fn.body.isSome=true∧(fn.name == "runtime.NumGoroutine")=false) ∧
 ∀g w (vs:List Value),Ym g s w→ZH (Rep g w) vs args→Calls P f vs.toArray w (Zga g w Φ)
theorem Zf.mono{f:FuncId}{args:List D}{Φ Φ':Res→St→Prop}(h:Zf P f args s Φ)(hp:∀r s',Φ r s'→Φ' r s'):Zf P f args s Φ' :=
 ⟨h.1,fun g w vs hs ha=>(h.2 g w vs hs ha).mono fun _ _ ⟨g',s',r,a,b,c,d⟩=>⟨g',s',r,a,b,c,hp _ _ d⟩⟩
def ZjT(P:Program)(f:FuncId)(cs:List Frame)(Φ:Res→St→Prop):Zt6 P where
 T g w m:=∃e w' fr,Comes P m (lone fr cs w') e∧fr.fn=f∧fr.leaving P w' e∧Zga g w Φ e w'
 back g w m m' hs h:=let ⟨e,w',fr,a,b⟩:=h;⟨e,w',fr,a.of_steps hs,b⟩
 ext g w g' w' m hx h:=by
  obtain⟨e,w2,fr,a,b,c,g2,s2,r,d1,d2,d3,d4⟩:=h
  exact⟨e,w2,fr,a,b,c,g2,s2,r,hx.trans d1,d2,d3,d4⟩
def Zmu(P:Program)(an:Ann)(f:FuncId)(N:Nat)(cs:List Frame)(Φ:Res→St→Prop):Fr P where
 T:=ZjT P f cs Φ
 b:={ (dE:Frame) with fn:=f,kind:=.normal,roundOf:=nO }
 cs:=cs
 N:=N
 ds:=[]
 an:=an
def K2:Nat→List D→Env
 |_,[]=>[]
 |i,d::ds=>(i,.d d)::K2 (i+1) ds
theorem Zo4:∀(ds:List D) (i t:Nat) (e:E),ZL (K2 i ds) t=sO e→∃d,e=.d d∧i≤t∧ds[t-i]?=sO d
 | [],i,t,e,h=>by simp[K2,ZL]at h
 |d::ds,i,t,e,h=>by
  simp only[K2,ZL]at h
  by_cases c:i=t
  ·subst c;simp only[if_true,ZEP]at h;subst h;exact⟨d,rfl,ZE6 _,by simp⟩
  simp only[c,if_false]at h
  obtain⟨d',h1,h2,h3⟩:=Zo4 ds (i+1) t e h
  refine⟨d',h1,by omega,?_⟩
  rw[show t-i=(t-(i+1))+1 from by omega,List.getElem?_cons_succ];exact h3
theorem ZfU(hs:Ym g s w){vs:List Value}{args:List D}(ha:ZH (Rep g w) vs args)(n:Nat):
  Zr g (fun _=>0) w (vs.toArray++Array.replicate n undef) (K2 0 args) [] s:={
 st:=hs
 loc l cs h:=by simp[Zg]at h
 locKept l cs h:=by simp[Zg]at h
 locSt l cs h:=by simp[Zg]at h
 inj l l' cs cs' h:=by simp[Zg]at h
 env t e h:=by
  obtain⟨d,rfl,_,hd⟩:=Zo4 args 0 t e h
  simp only[Nat.sub_zero]at hd
  have c:t<vs.length:=by rw[ha.len];exact(List.getElem?_eq_some_iff.1 hd).1
  have:(vs.toArray++Array.replicate n undef).getD t undef=vs[t]:=by
   simp[Array.getD_eq_getD_getElem?,Array.getElem?_append,c]
  rw[this]
  exact ha.get t _ d (by simp[c]) hd }
theorem ZhR{an:Ann}{f:FuncId}{df:DF}(hf:cf P an f=sO df){args:List D}{Φ:Res→St→Prop}(h:∀cs,Zu (Zmu P an f df.n cs Φ) [.code df.body] (K2 0 args) [] s):Zf P f args s Φ:=by
 unfold cf at hf
 split at hf<;>(try(simp at hf;done))
 rename_i fn t
 split at hf<;>(try(simp at hf;done))
 rename_i c hc
 split at hf<;>(try(simp at hf;done))
 rename_i j
 split at hf<;>simp at hf
 rename_i rs d hrs hd
 subst hf
 refine⟨⟨fn,t,by simp[hc],by simpa using j⟩,fun g w vs hs ha=>?_⟩
 intro cs
 have i:Frame.enter P f vs.toArray .normal =
   (Zmu P an f fn.ntmps cs Φ).b.atR { tmps:=vs.toArray++Array.replicate (fn.ntmps-vs.length) undef,defers:=[] } [.code c]:=by
  simp[Frame.enter,Frame.atR,t,hc,Zmu]
 have:=h cs [.code c] (.code hd .nil) g (fun _=>0) w (vs.toArray++Array.replicate (fn.ntmps-vs.length) undef) (by simp[Zmu];omega) (ZfU hs ha _)
 obtain⟨e,w',fr,a,b,c',d'⟩:=this
 refine⟨e,w',fr,d',?_,b,c'⟩
 rw[i]
 exact a
def Kp(ρ:Env)(L:Loc)(s:St):RV→Option (Prop×D)
 |.tmp t=>match ZL ρ t with
  |some (.d x)=>sO (True,x)
  |some (.when c (.d x))=>sO (c=true,x)
  |_=>nO
 |.cell1 t=>match ZL ρ t with
  |some e=>(Wr L s e).map (True,·)
  |none=>nO
 |.cellN t n=>match ZL ρ t with
  |some e=>(Ki L s n e).map fun r=>(r.1,.agg r.2)
  |none=>nO
def YI(ρ:Env)(L:Loc)(s:St):List RV→Option (Prop×List D)
 | []=>sO (True,[])
 |r::rs=>match Kp ρ L s r,YI ρ L s rs with
  |some (p,d),sO (q,ds)=>sO (p∧q,d::ds)
  |_,_=>nO
def K3:List D→D
 | [d]=>d
 |ds=>.tup ds
def Zj6(tmps:Array Value):ResultVar→Sem Value
 |.tmp t=>pure (tmps.getD t undef)
 |.cell a t=>do loadVar t (←asAddr (tmps.getD a undef))
theorem Zm2(fn:Func)(tmps:Array Value):results fn tmps=(do
  let vs ←fn.results.mapM (Zj6 tmps)
  pure (if h:vs.size=1 then vs[0] else .tuple vs)):=by
 unfold results
 congr 1
theorem ZAK(m:Zr g ν w tmps ρ L s){r:ResultVar}{rv:RV}(hc:crv P r=sO rv){p:Prop}{d:D}(h:Kp ρ L s rv=sO (p,d))(hp:p):
  ∃v,(Zj6 tmps r).run P w=.ok v w∧Rep g w v d:=by
 cases r with
 |tmp t =>
  simp only[crv,ZEP]at hc
  subst hc
  simp only[Kp]at h
  split at h<;>simp only[ZEP,ZE2,reduceCtorEq]at h
  ·rename_i x hx
   obtain⟨rfl,rfl⟩:=h
   exact⟨_,rfl,m.env t _ hx⟩
  rename_i c x hx
  obtain⟨rfl,rfl⟩:=h
  exact⟨_,rfl,(m.env t _ hx).1 hp⟩
 |cell a t =>
  simp only[crv]at hc
  split at hc<;>simp at hc
  ·rename_i n ha u
   subst hc
   simp only[Kp]at h
   split at h<;>(try(simp at h;done))
   rename_i e he
   simp only[ZE3,ZE2]at h
   obtain⟨⟨q,ds⟩,hq,rfl,rfl⟩:=h
   obtain⟨ad,hv,vs,j,i⟩:=ZmP (P:=P) m.loc m.st (m.env a e he) hq hp
   exact⟨.agg vs.toArray,by simp only[Zj6,hv,asAddr];simp[loadVar,Zfd ha,YO u,j],i⟩
  rename_i n ha u
  subst hc
  simp only[Kp]at h
  split at h<;>(try(simp at h;done))
  rename_i e he
  simp only[ZE3,ZE2]at h
  obtain⟨x,hx,_,rfl⟩:=h
  obtain⟨b,o,y,hv,hy,hr,_⟩:=Zl3 m.loc m.st (m.env a e he) hx
  exact⟨y,by simp only[Zj6,hv,asAddr];simp[loadVar,ZdR ha,hy],hr⟩
theorem ZwI{g:G}{ν:Nat→Nat}{w:World}{tmps:Array Value}{ρ:Env}{L:Loc}{s:St}(m:Zr g ν w tmps ρ L s):∀{rs:List ResultVar} {rvs:List RV},Zic P rs=sO rvs→∀{p:Prop} {ds:List D},
  YI ρ L s rvs=sO (p,ds)→p→∃vs:List Value,(rs.mapM (Zj6 tmps)).run P w=.ok vs w∧ZH (Rep g w) vs ds
 | [],rvs,hc,p,ds,h,hp=>by
  simp only[Zic,ZEP]at hc
  subst hc
  simp only[YI,ZEP,ZE2]at h
  obtain⟨rfl,rfl⟩:=h
  exact⟨[],by simp,.nil⟩
 |r::rs,rvs,hc,p,ds,h,hp=>by
  simp only[Zic]at hc
  split at hc<;>simp at hc
  rename_i x xs hx t
  subst hc
  simp only[YI]at h
  split at h<;>simp only[ZEP,ZE2,reduceCtorEq]at h
  rename_i p1 d1 p2 ds' h1 h2
  obtain⟨rfl,rfl⟩:=h
  obtain⟨v,n,j⟩:=ZAK m hx h1 hp.1
  obtain⟨vs,c,i⟩:=ZwI m t h2 hp.2
  exact⟨v::vs,by simp only[List.mapM_cons,Sem.run_bind];rw[n];simp only[Result.andThen_ok,c,Sem.run_pure],.cons j i⟩
def D.Le(d d':D):Prop:=∀g w v,Rep g w v d→Rep g w v d'
theorem D.Le.refl(d:D):d.Le d:=fun _ _ _ h=>h
theorem Zm3(m:Zr g ν w tmps ρ L s){fn:Func}{rvs:List RV}(hc:Zic P fn.results.toList=sO rvs){p:Prop}(h:YI ρ L s rvs=sO (p,ds))(hp:p):∃v,(results fn tmps).run P w=.ok v w∧Rep g w v (K3 ds):=by
 obtain⟨vs,h1,h2⟩:=ZwI m hc h hp
 have j:(fn.results.mapM (Zj6 tmps)).run P w=.ok vs.toArray w:=by
  rw[Array.mapM_eq_mapM_toList]
  simp[h1]
 by_cases c:vs.length=1
 ·match vs,c,h2 with
  | [v],_,.cons hv .nil =>
   refine⟨v,?_,hv⟩
   rw[Zm2]
   simp[j]
 refine⟨.tuple vs.toArray,?_,?_⟩
 ·rw[Zm2]
  simp[j,c]
 have i:=h2.len
 have:K3 ds=.tup ds:=by
  match ds,i with
  | [],_=>rfl
  | [_],hl=>exact absurd hl c
  |_::_::_,_=>rfl
 rw[this]
 exact .tup vs ds i h2.get
def St.sub(s' s:St):Prop:=∀b o,s' b=sO o→s b=sO o
theorem Ym.sub{s s':St}(h:Ym g s w)(hs:s'.sub s):Ym g s' w:={
 obj b o ho:=h.obj b o (hs b o ho)
 kept b o ho:=h.kept b o (hs b o ho)
 fresh:=h.fresh
 tabs:=h.tabs }
end
end Go.DL
