/- Lemmas: DlA, DlB, DlC, DlD, DlE, DlF, DlG, DlH, DlI, DlJ, DlK, DlL, DlM, DlMa, DlN, DlO, DlP, DlQ, DlR, DlS, DlT, DlTa, DlTb, DlTc, DlU, DlV, DlW, DlWa. -/
import Derived.AtR
import Derived.Calls
import Derived.Laws.Cells
import Derived.Laws.StructEq
import Derived.ChangeKeysEq
import Derived.Laws.Tables
import Derived.Laws.Build
import Derived.Laws.BytesString
import Derived.MapKept
import Derived.Laws.CopyRow
import Derived.Great.BuildSlice
import Derived.Laws.MakeOwn
import Derived.Laws.AppendOwn
import Derived.Lib.ConvBytes
import Derived.Defers
import Derived.Orders
import Derived.Lib.AppendStr
import Derived.RangeFuncIn
import Derived.OpenShut
import Derived.WalkKit
import Derived.ProofKit
import Derived.ChangeCalls
import Derived.KernelRfl
import Derived.Shelf.Strings.OnBuilder
import Derived.Ground.NamesProg
import Derived.Lib.Bytealg
import Derived.Lay
import Derived.LaidOnce
import Derived.Lib.LaidTab
import Derived.Stop.LaidErr
import Derived.SevenTiedAt
import Derived.Test.YtjahcdhapcomnaaGreatDoorProg
set_option maxHeartbeats 16000000
set_option maxRecDepth 100000
set_option linter.all false
open Option renaming some → sO, none → nO
open Inhabited renaming default → dE
open Decidable renaming decide → dC
open Bool renaming and_eq_true → ZEK, false_eq_true → ZE3
open List renaming append_assoc → ZE9, getD → ZES, getElem?_append_left → ZE7, getElem?_append_right → ZFj, getElem?_eq_getElem → ZE5, getElem?_eq_none → ZFi, getElem?_take → ZFg, getElem_of_mem → ZEV, length_append → ZEM, length_cons → ZER, length_take → ZEU, map_cons → ZEQ, map_nil → ZE6, mem_cons → ZFd, range → ZEO
open Nat renaming add_mul → ZE2, le_refl → ZEP, mul_le_mul_right → ZEW
open Option renaming getD_some → ZFe, map_eq_some_iff → ZEN, map_some → ZE4
open Option.some renaming injEq → ZEz
open Prod.mk renaming injEq → ZEL
namespace Go.DL
open Go
variable {kp:Option (List Nat)}{w:World}{dst:Option Nat}{tmps:Array Value}{ν:Nat→Nat}{side:Prop}
inductive Tok where
 |none|full|tip (b:Nat)
inductive D where
 |int (k:IntKind) (n:Int)
 |bool (b:Bool)
 |str (s:List UInt8)
 |agg (cells:List D)
 |tup (vs:List D)
 |nilsl
 |sl (t:Tok) (n s:Nat) (row:Nat→List D)
 |ep (cells:List D) (off:Nat)
 |nilptr
 |ptr (b off:Nat)
 |msl (b off n cap s:Nat)
 |map (b:Nat)
 |nilmap
 |fn (f:Fn) (first caps:List D)
 |nilfn
 |iface (t:TypeId) (v:D)
 |niliface
 |stamp (n:Nat)
 |undef
 |any
instance:Inhabited D:=⟨.undef⟩
inductive SK where
 |int|str|bool
inductive KP where
 |sc (k:SK)
 |st (l:List (Nat×SK))
def Yf:SK→D→D→Option Bool
 |.int,.int k a,.int k' b=>if k=k' then sO (dC (a=b)) else nO
 |.str,.str a,.str b=>sO (dC (a=b))
 |.bool,.bool a,.bool b=>sO (dC (a=b))
 |_,_,_=>nO
def Wk(xs ys:List D):List (Nat×SK)→Option Bool
 | []=>sO true
 | (o,k)::r=>match xs[o]?,ys[o]? with
  |some x,sO y=>match Yf k x y,Wk xs ys r with
   |some b,sO c=>sO (b&&c)
   |_,_=>nO
  |_,_=>nO
def Kh:KP→D→D→Option Bool
 |.sc k,x,y=>Yf k x y
 |.st l,.agg xs,.agg ys=>if xs.length=l.length∧ys.length=l.length then Wk xs ys l else nO
 |_,_,_=>nO
def QE(kp:KP)(k:D):List (D×D)→Option (Option Nat)
 | []=>sO nO
 |e::r=>match Kh kp k e.1 with
  |some true=>sO (sO 0)
  |some false=>(QE kp k r).map (·.map (· + 1))
  |none=>nO
def hdr(w:World)(b:Nat):Option (TypeId×Nat×Nat×Nat) :=
 match w.heap[b]? with
 |some (.cells c t fr)=>sO (t,c.size,fr.1,fr.2)
 |_=>nO
def _root_.Go.Value.one1:Value→Bool
 |.agg _|.tuple _=>false
 |_=>true
structure G where
 prot:Nat→Nat
 kept:Nat→Prop
def free(w:World)(b n:Nat):Prop:=∃t m,hdr w b=sO (t,m,0,0)∧n≤m
def ZjO(w:World):Tok→Nat→Nat→Nat→Nat→Nat→Prop
 |.none,_,_,_,_,_=>True
 |.full,_,_,n,cap,_=>cap=n
 |.tip t,b,o,_,cap,s=>b=t∧o=0∧free w b (cap*s)
def inR(k:IntKind)(n:Int):Prop:=k.min≤n∧n≤k.max
def big:Nat:=9223372036854775807
inductive Rep(g:G)(w:World):Value→D→Prop where
 |int (k:IntKind) (n:Int) (h:inR k n):Rep g w (.int k n) (.int k n)
 |bool (b:Bool):Rep g w (.bool b) (.bool b)
 |str (s:ByteArray) (l:List UInt8) (h:s.data.toList=l) (hb:l.length≤big):Rep g w (.string s) (.str l)
 |agg (vs:List Value) (cells:List D) (hn:vs.length=cells.length) (h:∀(i:Nat) (v:Value) (d:D),vs[i]?=some v→cells[i]?=some d→Rep g w v d)
   (one:∀v∈vs,v.one1=true):Rep g w (.agg vs.toArray) (.agg cells)
 |tup (vs:List Value) (ds:List D) (hn:vs.length=ds.length) (h:∀(i:Nat) (v:Value) (d:D),vs[i]?=some v→ds[i]?=some d→Rep g w v d) :
   Rep g w (.tuple vs.toArray) (.tup ds)
 |nilsl:Rep g w (.slice none 0 0) .nilsl
 |sl0 (a:Option Addr) (t:Tok) (s:Nat) (row:Nat→List D) (ht:∀b,t≠.tip b):Rep g w (.slice a 0 0) (.sl t 0 s row)
 |sl (b o n cap s:Nat) (row:Nat→List D) (t:Tok) (f:Nat→Nat→Value) (hl:∀i,i<n→(row i).length=s)
   (hc:∀i j,i<n→j<s→w.cell? ⟨b,o+i*s+j,none⟩=some (f i j)) (hp:∀i j,i<n→j<s→o+i*s+j<g.prot b)
   (hr:∀(i j:Nat) (d:D),i<n→(row i)[j]?=some d→Rep g w (f i j) d) (one:∀i j,i<n→j<s→(f i j).one1=true)
   (ht:ZjO w t b o n cap s) (hcap:n≤cap) (hb:cap≤big) :
   Rep g w (.slice (some ⟨b,o,none⟩) n cap) (.sl t n s row)
 |ep (b o off:Nat) (cells:List D) (f:Nat→Value) (hc:∀i,i<cells.length→w.cell? ⟨b,o+i,none⟩=some (f i)) (hp:∀i,i<cells.length→o+i<g.prot b)
   (hr:∀(i:Nat) (d:D),cells[i]?=some d→Rep g w (f i) d) (one:∀i,i<cells.length→(f i).one1=true):Rep g w (.pointer (some ⟨b,o+off,none⟩)) (.ep cells off)
 |nilptr:Rep g w (.pointer none) .nilptr
 |ptr (b off:Nat):Rep g w (.pointer (some ⟨b,off,none⟩)) (.ptr b off)
 |msl (b off n cap s:Nat) (h:n≤cap) (hb:cap≤big):Rep g w (.slice (some ⟨b,off,none⟩) n cap) (.msl b off n cap s)
 |mslx (a:Addr) (b off s:Nat):Rep g w (.slice (some a) 0 0) (.msl b off 0 0 s)
 |map (b:Nat):Rep g w (.map (some b)) (.map b)
 |nilmap:Rep g w (.map none) .nilmap
 |fn (f:Fn) (fs cs:List Value) (df dc:List D) (hnf:fs.length=df.length) (hnc:cs.length=dc.length)
   (hf:∀(i:Nat) (v:Value) (d:D),fs[i]?=some v→df[i]?=some d→Rep g w v d)
   (hc:∀(i:Nat) (v:Value) (d:D),cs[i]?=some v→dc[i]?=some d→Rep g w v d):Rep g w (.func f fs.toArray cs.toArray) (.fn f df dc)
 |nilfn:Rep g w .nilFunc .nilfn
 |iface (t:TypeId) (v:Value) (d:D) (h:Rep g w v d):Rep g w (.iface t v) (.iface t d)
 |niliface:Rep g w .nilIface .niliface
 |stamp (n:Nat):Rep g w (.int .i64 n) (.stamp n)
 |undef:Rep g w undef .undef
 |any (v:Value):Rep g w v .any
structure Ext(g:G)(w:World)(g':G)(w':World):Prop where
 size:w.heap.size≤w'.heap.size
 prot:∀b,g.prot b≤g'.prot b
 cell:∀b o,o<g.prot b→w'.cell? ⟨b,o,none⟩=w.cell? ⟨b,o,none⟩
 hdr:∀b x,hdr w b=some x→hdr w' b=some x
 kept:∀b,g.kept b→w'.heap[b]?=w.heap[b]?
 keptProt:∀b,g.kept b→g'.prot b=g.prot b
 keptEq:g'.kept=g.kept
 os:w'.os=w.os
 output:w'.output=w.output
 tape:w'.tape=w.tape
theorem Ext.refl(g w):Ext g w g w:=⟨ZEP _,fun _=>ZEP _,fun _ _ _=>rfl,fun _ _ h=>h,fun _ _=>rfl,fun _ _=>rfl,rfl,rfl,rfl,rfl⟩
theorem Ext.trans{g g' g'':G}{w w' w'':World}(h:Ext g w g' w')(h':Ext g' w' g'' w''):Ext g w g'' w'':={
 size:=Nat.le_trans h.size h'.size
 prot b:=Nat.le_trans (h.prot b) (h'.prot b)
 cell b o ho:=(h'.cell b o (Nat.lt_of_lt_of_le ho (h.prot b))).trans (h.cell b o ho)
 hdr b x hx:=h'.hdr b x (h.hdr b x hx)
 kept b hb:=(h'.kept b (by rw[h.keptEq];exact hb)).trans (h.kept b hb)
 keptProt b hb:=(h'.keptProt b (by rw[h.keptEq];exact hb)).trans (h.keptProt b hb)
 keptEq:=h'.keptEq.trans h.keptEq
 os:=h'.os.trans h.os
 output:=h'.output.trans h.output
 tape:=h'.tape.trans h.tape }
theorem free.mono0{w w' b n}(h:free w b n)(e:∀b x,hdr w b=sO x→hdr w' b=sO x):free w' b n:=by
 obtain⟨t,m,h1,h2⟩:=h
 exact⟨t,m,e _ _ h1,h2⟩
theorem Rep.mono0{g g' w w' v d}(h:Rep g w v d)(ep:∀b,g.prot b≤g'.prot b)(ec:∀b o,o<g.prot b→w'.cell? ⟨b,o,nO⟩=w.cell? ⟨b,o,nO⟩)(eh:∀b x,hdr w b=sO x→hdr w' b=sO x):Rep g' w' v d:=by
 induction h with
 |int k n h=>exact .int k n h
 |bool b=>exact .bool b
 |str s l h hb=>exact .str s l h hb
 |agg vs cells hn _ one ih=>exact .agg vs cells hn ih one
 |tup vs ds hn _ ih=>exact .tup vs ds hn ih
 |nilsl=>exact .nilsl
 |sl0 a t s row ht=>exact .sl0 a t s row ht
 |sl b o n cap s row t f hl hc hp _ one ht hcap hb ih =>
  refine .sl b o n cap s row t f hl (fun i j hi hj=>?_) (fun i j hi hj=>Nat.lt_of_lt_of_le (hp i j hi hj) (ep b)) ih one ?_ hcap hb
  ·rw[ec _ _ (hp i j hi hj)];exact hc i j hi hj
  ·cases t with
   |none=>trivial
   |full=>exact ht
   |tip t=>exact⟨ht.1,ht.2.1,ht.2.2.mono0 eh⟩
 |ep b o off cells f hc hp _ one ih =>
  exact .ep b o off cells f (fun i hi=>by rw[ec _ _ (hp i hi)];exact hc i hi) (fun i hi=>Nat.lt_of_lt_of_le (hp i hi) (ep b)) ih one
 |nilptr=>exact .nilptr
 |ptr b off=>exact .ptr b off
 |msl b off n cap s h hb=>exact .msl b off n cap s h hb
 |mslx a b off s=>exact .mslx a b off s
 |map b=>exact .map b
 |nilmap=>exact .nilmap
 |fn f fs cs df dc hnf hnc _ _ ihf ihc=>exact .fn f fs cs df dc hnf hnc ihf ihc
 |nilfn=>exact .nilfn
 |iface t v d _ ih=>exact .iface t v d ih
 |niliface=>exact .niliface
 |stamp n=>exact .stamp n
 |undef=>exact .undef
 |any v=>exact .any v
theorem Rep.mono{g g' w w' v d}(h:Rep g w v d)(e:Ext g w g' w'):Rep g' w' v d:=h.mono0 e.prot e.cell e.hdr
inductive E where
 |d (v:D)
 |loc (l off:Nat)
 |when (c:Bool) (e:E)
abbrev Env:=List (Nat×E)
abbrev Loc:=List (Nat×List D)
def ZH:Env→Nat→Option E
 | [],_=>nO
 | (k,e)::r,t=>if k=t then sO e else ZH r t
def Zf:Loc→Nat→Option (List D)
 | [],_=>nO
 | (k,e)::r,t=>if k=t then sO e else Zf r t
def ZI(g:G)(ν:Nat→Nat)(w:World)(L:Loc):Value→E→Prop
 |v,.d x=>Rep g w v x
 |v,.loc l off=>(∃cs,Zf L l=sO cs)∧v=.pointer (sO ⟨ν l,off,nO⟩)
 |v,.when c e=>(c=true→ZI g ν w L v e)∧(c=false→v=undef)
theorem ZI.mono{g g' ν w w' L v e}(h:ZI g ν w L v e)(x:Ext g w g' w'):ZI g' ν w' L v e:=by
 induction e with
 |d d=>exact Rep.mono h x
 |loc l off=>exact h
 |when c e ih=>exact⟨fun hc=>ih (h.1 hc),h.2⟩
structure Zbt where
 fn:FuncId
 params:List Nat
 assign:Code
 body:Code
 defers:Nat
 ρ:Env
 N:Nat
inductive LSt where
 |ready|busy
 |done (j:Code)
inductive W4 where
 |cells (ds:List D)
 |map (es:List (D×D))
 |tip (k:Nat)
 |mapE (kp:KP) (es:List (D×D)) (k:D) (n:Nat)
 |loop (r:Zbt) (st:LSt)
 |dfr
abbrev St:=Nat→Option W4
def St.upd(s:St)(b:Nat)(o:W4):St:=fun x=>if x=b then sO o else s x
def St.del(s:St)(b:Nat):St:=fun x=>if x=b then nO else s x
structure YM(g:G)(w:World)(b:Nat)(ds:List D):Prop where
 prot:g.prot b=0
 ex:∃(vs:Array Value) (T:TypeId),w.heap[b]?=some (.cells vs T (0,0))∧vs.size=ds.length ∧
  (∀(i:Nat) (v:Value) (d:D),vs[i]?=some v→ds[i]?=some d→Rep g w v d)∧∀v∈vs,v.one1=true
def WD(g:G)(w:World)(b:Nat):W4→Prop
  |.cells ds=>YM g w b ds
  |.map es=>g.prot b=0∧∃(en:Array MapEntry) (clock:Nat),w.heap[b]?=sO (.map en clock)∧en.size=es.length ∧
      (∀(i:Nat) (e:MapEntry) (d:D×D),en[i]?=sO e→es[i]?=sO d→Rep g w e.key d.1) ∧
      (∀(i:Nat) (e:MapEntry) (d:D×D),en[i]?=sO e→es[i]?=sO d→Rep g w e.val d.2) ∧
      (∀(i j:Nat) (e e':MapEntry),en[i]?=sO e→en[j]?=sO e'→e.born=e'.born→i=j)∧∀(i:Nat) (e:MapEntry),en[i]?=sO e→e.born<clock
  |.tip k=>g.prot b=k∧∃(vs:Array Value) (T:TypeId),w.heap[b]?=sO (.cells vs T (0,0))∧k≤vs.size
  |.mapE kp es k n=>g.prot b=0∧∃io,QE kp k es=sO io∧∃(en:Array MapEntry) (clock:Nat),w.heap[b]?=sO (.map en clock)∧en.size=(match io with
        |none=>es.length+1
        |some _=>es.length) ∧
      (∀(i:Nat) (e:MapEntry) (d:D×D),i≠io.getD es.length→en[i]?=sO e→es[i]?=sO d→Rep g w e.key d.1) ∧
      (∀(i:Nat) (e:MapEntry) (d:D×D),i≠io.getD es.length→en[i]?=sO e→es[i]?=sO d→Rep g w e.val d.2) ∧
      (∀e,en[io.getD es.length]?=sO e→Rep g w e.key k∧e.born=n) ∧
      (∀(i j:Nat) (e e':MapEntry),en[i]?=sO e→en[j]?=sO e'→e.born=e'.born→i=j)∧∀(i:Nat) (e:MapEntry),en[i]?=sO e→e.born<clock
  |.loop r st=>g.prot b=0∧∃l:Go.Loop,w.heap[b]?=sO (.loop l)∧l.fn=r.fn∧l.params.toList=r.params∧l.assign=r.assign∧l.body=r.body∧l.defers=r.defers∧r.N≤l.tmps.size ∧
      (∀t e,ZH r.ρ t=sO e→ZI g (fun _=>0) w [] (l.tmps.getD t undef) e) ∧
      (match st with
       |.ready=>l.state=.ready∧l.pending=nO
       |.busy=>l.state=.busy
       |.done j=>l.state=.done∧l.pending=sO j)
  |.dfr=>g.prot b=0∧w.heap[b]?=sO (.deferred (sO []))
class Zqy where
 tab:Nat→Option (List D)
variable [Zqy]
structure Yb(g:G)(s:St)(w:World):Prop where
 obj:∀b o,s b=some o→WD g w b o
 kept:∀b o,s b=some o→¬g.kept b
 fresh:∀b,w.heap.size≤b→g.prot b=0∧¬g.kept b
 tabs:∀n cs,Zqy.tab n=some cs→Rep g w (.pointer (some ⟨n,0,none⟩)) (.ep cs 0)
theorem YM.lt{g w b ds}(h:YM g w b ds):b<w.heap.size:=by
 obtain⟨_,_,h,_⟩:=h.ex
 grind
theorem WD.lt{g w b o}(h:WD g w b o):b<w.heap.size:=by
 cases o with
 |cells ds=>exact YM.lt h
 |map es=>obtain⟨_,_,_,h,_⟩:=h;exact(Array.getElem?_eq_some_iff.1 h).1
 |tip k=>obtain⟨_,_,_,h,_⟩:=h;exact(Array.getElem?_eq_some_iff.1 h).1
 |mapE kp es k n=>obtain⟨_,_,_,_,_,h,_⟩:=h;exact(Array.getElem?_eq_some_iff.1 h).1
 |loop r st=>obtain⟨_,_,h,_⟩:=h;exact(Array.getElem?_eq_some_iff.1 h).1
 |dfr=>exact(Array.getElem?_eq_some_iff.1 h.2).1
theorem YM.mono{g g' w w' b ds}(h:YM g w b ds)(e:Ext g w g' w')(hb:w'.heap[b]?=w.heap[b]?)(hp:g'.prot b=g.prot b):
  YM g' w' b ds:=by
 obtain⟨hp0,vs,T,h1,h2,h4,h5⟩:=h
 exact⟨hp.trans hp0,vs,T,hb.trans h1,h2,fun i v d hv hd=>(h4 i v d hv hd).mono e,h5⟩
theorem WD.mono{g g' w w' b o}(h:WD g w b o)(e:Ext g w g' w')(hb:w'.heap[b]?=w.heap[b]?)(hp:g'.prot b=g.prot b):
  WD g' w' b o:=by
 cases o with
 |cells ds=>exact YM.mono h e hb hp
 |map es =>
  obtain⟨hp0,en,clock,h1,h2,h3,h4,h5,h6⟩:=h
  exact⟨hp.trans hp0,en,clock,hb.trans h1,h2,fun i x d hv hd=>(h3 i x d hv hd).mono e,fun i x d hv hd=>(h4 i x d hv hd).mono e,h5,h6⟩
 |tip k =>
  obtain⟨hp0,vs,T,h1,h2⟩:=h
  exact⟨hp.trans hp0,vs,T,hb.trans h1,h2⟩
 |mapE kp es k n =>
  obtain⟨hp0,io,h0,en,clock,h1,h2,h3,h4,h5,h6,h7⟩:=h
  exact⟨hp.trans hp0,io,h0,en,clock,hb.trans h1,h2,fun i x d hi hv hd=>(h3 i x d hi hv hd).mono e,fun i x d hi hv hd=>(h4 i x d hi hv hd).mono e,fun x hx=>⟨(h5 x hx).1.mono e,(h5 x hx).2⟩,h6,h7⟩
 |loop r st =>
  obtain⟨hp0,l,h1,h2,h3,h4,h5,h6,h7,h8,h9⟩:=h
  exact⟨hp.trans hp0,l,hb.trans h1,h2,h3,h4,h5,h6,h7,fun t x he=>(h8 t x he).mono e,h9⟩
 |dfr=>exact⟨hp.trans h.1,hb.trans h.2⟩
structure Zt(g:G)(ν:Nat→Nat)(w:World)(tmps:Array Value)(ρ:Env)(L:Loc)(s:St):Prop where
 st:Yb g s w
 loc:∀l cs,Zf L l=some cs→YM g w (ν l) cs
 locKept:∀l cs,Zf L l=some cs→¬g.kept (ν l)
 locSt:∀l cs,Zf L l=some cs→s (ν l)=none
 inj:∀l l' cs cs',Zf L l=some cs→Zf L l'=some cs'→ν l=ν l'→l=l'
 env:∀t e,ZH ρ t=some e→ZI g ν w L (tmps.getD t undef) e
theorem ZI.locs{g ν ν' w L L' v e}(h:ZI g ν w L v e)(hL:∀l cs,Zf L l=sO cs→(∃cs',Zf L' l=sO cs')∧ν' l=ν l):ZI g ν' w L' v e:=by
 induction e with
 |d d=>exact h
 |loc l off=>obtain⟨⟨cs,hc⟩,hv⟩:=h;obtain⟨h1,h2⟩:=hL l cs hc;exact⟨h1,by grind⟩
 |when c e ih=>exact⟨fun hc=>ih (h.1 hc),h.2⟩
theorem Zxw(a:Array Value)(t u v)(h:t<a.size):(a.setIfInBounds t v).getD u undef=if t=u then v else a.getD u undef:=by
 simp
 grind
theorem Zt.put{g ν w tmps ρ L s}(m:Zt g ν w tmps ρ L s){t v e}(ht:t<tmps.size)(h:ZI g ν w L v e):Zt g ν w (tmps.setIfInBounds t v) ((t,e)::ρ) L s :=
 { m with
  env:=fun u x hx=>by
   rw[Zxw _ _ _ _ ht]
   simp[ZH]at hx
   by_cases htu:t=u
   ·grind
   ·simp only[htu]at hx⊢;exact m.env u x hx }
structure JB(g:G)(w:World)(g':G)(w':World):Prop where
 size:w.heap.size≤w'.heap.size
 old:∀b,b<w.heap.size→w'.heap[b]?=w.heap[b]?
 prot:∀b,b<w.heap.size→g'.prot b=g.prot b
 fresh:∀b,w'.heap.size≤b→g'.prot b=0
 kept:g'.kept=g.kept
 os:w'.os=w.os
 output:w'.output=w.output
 tape:w'.tape=w.tape
theorem Jg{w w':World}{b o}(h:w'.heap[b]?=w.heap[b]?):w'.cell? ⟨b,o,nO⟩=w.cell? ⟨b,o,nO⟩:=by
 unfold World.cell?;simp[h]
theorem Za0{w w' b}(h:w'.heap[b]?=w.heap[b]?):hdr w' b=hdr w b:=by grind [hdr]
theorem Zz4{w b x}(h:hdr w b=sO x):b<w.heap.size:=by grind [hdr]
theorem JB.ext{g g':G}{w w':World}(h:JB g w g' w')(hf:∀b,w.heap.size≤b→g.prot b=0∧¬g.kept b):Ext g w g' w':={
 size:=h.size
 prot b:=by
  rcases Nat.lt_or_ge b w.heap.size with hb|hb
  ·rw[h.prot b hb];exact ZEP _
  ·rw[(hf b hb).1];exact Nat.zero_le _
 cell b o ho:=by
  rcases Nat.lt_or_ge b w.heap.size with hb|hb
  ·exact Jg (h.old b hb)
  simp_all
 hdr b x hx:=by rw[Za0 (h.old b (Zz4 hx))];exact hx
 kept b hb:=by
  rcases Nat.lt_or_ge b w.heap.size with hb' |hb'
  ·exact h.old b hb'
  ·exact absurd hb (hf b hb').2
 keptProt b hb:=by
  rcases Nat.lt_or_ge b w.heap.size with hb' |hb'
  ·exact h.prot b hb'
  ·exact absurd hb (hf b hb').2
 keptEq:=h.kept
 os:=h.os
 output:=h.output
 tape:=h.tape }
theorem Yb.grow{g g':G}{w w':World}{s:St}(m:Yb g s w)(h:JB g w g' w'):Yb g' s w':={
 obj b o ho:=(m.obj b o ho).mono (h.ext m.fresh) (h.old b (m.obj b o ho).lt) (h.prot b (m.obj b o ho).lt)
 kept b o ho:=by rw[h.kept];exact m.kept b o ho
 fresh b hb:=⟨h.fresh b hb,by rw[h.kept];exact(m.fresh b (Nat.le_trans h.size hb)).2⟩
 tabs n cs hc:=(m.tabs n cs hc).mono (h.ext m.fresh) }
theorem Zt.grow{g g':G}{w w':World}{ρ:Env}{L:Loc}{s:St}(m:Zt g ν w tmps ρ L s)(h:JB g w g' w'):
  Zt g' ν w' tmps ρ L s:={
 st:=m.st.grow h
 loc l cs hl:=(m.loc l cs hl).mono (h.ext m.st.fresh) (h.old _ (m.loc l cs hl).lt) (h.prot _ (m.loc l cs hl).lt)
 locKept l cs hl:=by rw[h.kept];exact m.locKept l cs hl
 locSt:=m.locSt
 inj:=m.inj
 env t e he:=(m.env t e he).mono (h.ext m.st.fresh) }
end Go.DL
namespace Go.DL
open Go
variable [Zqy]
variable {kp:Option (List Nat)}{L:Loc}{ρ:Env}{s:St}{w:World}{ds:List D}{dst:Option Nat}{tmps:Array Value}{g:G}{ν:Nat→Nat}{side:Prop}{row:Nat→List D}
inductive Opd where
 |tmp (t:Nat)
 |cst (d:D)
def Zmf:Value→Option D
 |.int k n=>if k.min≤n∧n≤k.max then sO (.int k n) else nO
 |.bool b=>sO (.bool b)
 |.string s=>if s.data.toList.length≤big then sO (.str s.data.toList) else nO
 |.pointer nO=>sO .nilptr
 |.slice nO 0 0=>sO .nilsl
 |.map nO=>sO .nilmap
 |.nilFunc=>sO .nilfn
 |.nilIface=>sO .niliface
 |_=>nO
def ZaZ:List Value→Option (List D)
 | []=>sO []
 |v::vs=>match Zmf v,ZaZ vs with
  |some d,sO ds=>sO (d::ds)
  |_,_=>nO
def Zmg:Value→Option D
 |.agg cs=>(ZaZ cs.toList).map .agg
 |v=>Zmf v
def ZU:Operand→Option Opd
 |.tmp t=>sO (.tmp t)
 |.const v=>(Zmg v).map .cst
 |.func f=>sO (.cst (.fn (.func f) [] []))
 |.global n=>sO (.cst (match Zqy.tab n with
  |some cs=>.ep cs 0
  |none=>.any))
def ZbQ:List Operand→Option (List Opd)
 | []=>sO []
 |x::xs=>match ZU x,ZbQ xs with
  |some y,sO ys=>sO (y::ys)
  |_,_=>nO
inductive Zed where
 |bool|sl|map|fn|ifc|ptr
 |cells (l:List (Nat×SK))
inductive Cv where
 |int (k:IntKind)|str|i2s|b2s
inductive Q where
 |mv|nilck|load1|loadN (n:Nat)
 |bin (op:BinOp) (p:Option Zed)
 |not|neg|xorm
 |conv (c:Cv)
 |faddr (off:Nat)
 |fld1 (off:Nat)|fldN (off n:Nat)
 |iaddr (s:Nat)|iaddrA (m s:Nat)
 |idxA (m s:Nat) (one:Bool)
 |sliceA (m s:Nat) (lo hi mx:Bool)
 |idxS
 |lenS|lenL|lenA (n:Nat)
 |ext (k:Nat)
 |build (zero:List D) (parts:List (Nat×Nat))
 |mkfn (f:Fn) (first:Nat)
 |mkif (t:TypeId)
 |sliceS (lo hi:Bool)
 |slice (s:Nat) (lo hi mx:Bool)
 |min|max
 |tassert (t:TypeId) (ok:Bool) (zero:D)
 |lookup (kp:KP) (zero:D) (ok:Bool)
 |lenM
def cellsOf:D→List D
 |.agg cs=>cs
 |d=>[d]
def W1:D→Bool
 |.tup _|.undef|.any=>false
 |_=>true
def QQ:D→Bool
 |.tup _|.undef|.agg _|.any=>false
 |_=>true
def K8(kp:KP)(k:D):Bool:=(Kh kp k k).isSome
def Zbb(kp:KP)(k:D):List (D×D)→Option (Option D)
 | []=>sO nO
 |e::r=>match Kh kp k e.1 with
  |some true=>sO (sO e.2)
  |some false=>Zbb kp k r
  |none=>nO
def JP(kp:KP)(k v:D):List (D×D)→Option (List (D×D))
 | []=>sO [(k,v)]
 |e::r=>match Kh kp k e.1 with
  |some true=>sO ((k,v)::r)
  |some false=>(JP kp k v r).map (e::·)
  |none=>nO
def ZfM(kp:KP)(k:D):List (D×D)→Option (List (D×D))
 | []=>sO []
 |e::r=>match Kh kp k e.1 with
  |some true=>sO r
  |some false=>(ZfM kp k r).map (e::·)
  |none=>nO
def Y8(z:D)(ok:Bool):Option D→D
 |some v=>if ok then .tup [v,.bool true] else v
 |none=>if ok then .tup [z,.bool false] else z
def YF:Zed→D→D→Option (Prop×Bool)
 |.bool,.bool a,.bool b=>sO (True,dC (a=b))
 |.sl,.nilsl,.nilsl=>sO (True,true)
 |.sl,.sl _ n _ _,.nilsl=>sO (0<n,false)
 |.map,.nilmap,.nilmap=>sO (True,true)
 |.map,.map _,.nilmap=>sO (True,false)
 |.sl,.msl _ _ _ _ _,.nilsl=>sO (True,false)
 |.fn,.nilfn,.nilfn=>sO (True,true)
 |.fn,.fn _ _ _,.nilfn=>sO (True,false)
 |.ifc,.niliface,.niliface=>sO (True,true)
 |.ifc,.iface _ _,.niliface=>sO (True,false)
 |.ptr,.nilptr,.nilptr=>sO (True,true)
 |.ptr,.ptr _ _,.nilptr=>sO (True,false)
 |.ptr,.ep _ _,.nilptr=>sO (True,false)
 |.cells l,.agg xs,.agg ys=>(Wk xs ys l).map (True,·)
 |_,_,_=>nO
def Zli(op:BinOp)(k:IntKind)(x y:Int):Int :=
 let a:=BitVec.ofInt k.bits x
 let b:=BitVec.ofInt k.bits y
 let r:BitVec k.bits:=match op with
  |.and=>a &&& b
  |.or=>a |||b
  |.xor=>a ^^^ b
  |_=>a &&& ~~~b
 k.wrap r.toNat
def Zhu(k:IntKind)(x y:Int):Int:=x*2 ^ (Nat.min y.toNat k.bits)
def Zor(k:IntKind)(x y:Int):Int:=x.fdiv (2 ^ (Nat.min y.toNat k.bits))
def QB(op:BinOp)(k:IntKind)(a b:Int):Option (Prop×D) :=
 match op with
 |.add=>sO (inR k (a+b),.int k (a+b))
 |.sub=>sO (inR k (a-b),.int k (a-b))
 |.mul=>sO (inR k (a*b),.int k (a*b))
 |.quo=>sO (b≠0∧inR k (a.tdiv b),.int k (a.tdiv b))
 |.rem=>sO (b≠0∧inR k (a.tmod b),.int k (a.tmod b))
 |.and|.or|.xor|.andNot=>sO (True,.int k (Zli op k a b))
 |.eql=>sO (True,.bool (dC (a=b)))
 |.neq=>sO (True,.bool (!dC (a=b)))
 |.lss=>sO (True,.bool (dC (a<b)))
 |.leq=>sO (True,.bool (dC (a≤b)))
 |.gtr=>sO (True,.bool (dC (b<a)))
 |.geq=>sO (True,.bool (dC (b≤a)))
 |.shl|.shr=>nO
def Zdg(op:BinOp)(a b:List UInt8):Option (Prop×D) :=
 match op with
 |.add=>sO (a.length+b.length≤big,.str (a++b))
 |.eql=>sO (True,.bool (dC (a=b)))
 |.neq=>sO (True,.bool (!dC (a=b)))
 |.lss=>sO (True,.bool (Op.bytesLess a b))
 |.leq=>sO (True,.bool (Op.bytesLess a b ||decide (a=b)))
 |.gtr=>sO (True,.bool !(Op.bytesLess a b ||decide (a=b)))
 |.geq=>sO (True,.bool (!Op.bytesLess a b))
 |_=>nO
def eqO(op:BinOp)(p:Option Zed)(x y:D):Option (Prop×D) :=
 match op,p with
 |.eql,sO p=>(YF p x y).map fun r=>(r.1,.bool r.2)
 |.neq,sO p=>(YF p x y).map fun r=>(r.1,.bool (!r.2))
 |_,_=>nO
def J1(op:BinOp)(p:Option Zed):D→D→Option (Prop×D)
 |.int k a,.int k' b =>
  match op with
  |.shl=>sO (0≤b∧inR k (Zhu k a b),.int k (Zhu k a b))
  |.shr=>sO (0≤b∧inR k (Zor k a b),.int k (Zor k a b))
  |_=>if k=k' then QB op k a b else nO
 |.str a,.str b=>Zdg op a b
 |x,y=>eqO op p x y
def part(cs:List D)(o n:Nat):List D:=(cs.drop o).take n
def Z5(s:St)(b:Nat):Option (List D) :=
 match s b with
 |some (.cells cs)=>sO cs
 |_=>nO
def KA(s:St)(b:Nat):Option (List (D×D)) :=
 match s b with
 |some (.map es)=>sO es
 |_=>nO
def YS(L:Loc)(s:St):E→Option D
 |.d (.ep cs o)=>cs[o]?
 |.d (.ptr b o)=>match Z5 s b with
  |some cs=>cs[o]?
  |none=>nO
 |.loc l o=>match Zf L l with
  |some cs=>cs[o]?
  |none=>nO
 |_=>nO
def Kc(L:Loc)(s:St)(n:Nat):E→Option (Prop×List D)
 |.d (.ep cs o)=>sO (o+n≤cs.length,part cs o n)
 |.d (.ptr b o)=>match Z5 s b with
  |some cs=>sO (o+n≤cs.length,part cs o n)
  |none=>nO
 |.loc l o=>match Zf L l with
  |some cs=>sO (o+n≤cs.length,part cs o n)
  |none=>nO
 |_=>nO
def Zu(cs:List D)(o:Nat)(vs:List D):List D:=cs.take o++vs++cs.drop (o+vs.length)
def Zba(cells:List D):List (Nat×Nat)→List D→Option (List D)
 | [],[]=>sO cells
 | (o,n)::ps,d::ds=>if W1 d=true∧(cellsOf d).length=n∧o+n≤cells.length then Zba (Zu cells o (cellsOf d)) ps ds else nO
 |_,_=>nO
def Zch:List D→UInt8
 | [.int _ n]=>UInt8.ofNat n.toNat
 |_=>0
def Zn5(r:List D):Prop:=∃n:Int,r=[.int .u8 n]
def W6:List E→Option (List D)
 | []=>sO []
 |.d x::r=>(W6 r).map (x::·)
 |_::_=>nO
def Zbf(t:Tok)(n:Nat)(l h:Int):Option Int→Tok
 |some m=>if m=h then .full else .none
 |none=>if h=n then (match t with
  |.full=>.full
  |.tip b=>if l=0 then .tip b else .none
  |.none=>.none) else .none
def ZaC(s:Nat)(lo hi mx:Option Int):D→Option (Prop×D)
 |.sl t n s' row =>
  if s'=s then
   let h:=hi.getD n
   let l:=lo.getD 0
   sO (0≤l∧l≤h∧h≤n∧(∀m∈mx,h≤m∧m≤n),
    .sl (Zbf t n l h mx)
     (h-l).toNat s (fun i=>row (l.toNat+i)))
  else nO
 |.nilsl=>sO (lo.getD 0=0∧hi.getD 0=0∧mx.getD 0=0,.nilsl)
 |.msl b o n cap s' =>
  if s'=s then
   let h:=hi.getD n
   let l:=lo.getD 0
   let m:=mx.getD cap
   sO (0≤l∧l≤h∧h≤m∧m≤cap,.msl b (if m=l then o else o+l.toNat*s) (h-l).toNat (m-l).toNat s)
  else nO
 |_=>nO
def Wx:List Bool→List E→Option (List (Option Int))
 | [],[]=>sO []
 |true::bs,.d (.int _ n)::r=>(Wx bs r).map (sO n::·)
 |false::bs,r=>(Wx bs r).map (nO::·)
 |_,_=>nO
def qv(L:Loc)(s:St):Q→List E→Option (Prop×E)
 |.mv,[e]=>sO (True,e)
 |.nilck,[.loc l o]=>sO (True,.loc l o)
 |.nilck,[.d (.ep cs o)]=>sO (True,.d (.ep cs o))
 |.nilck,[.d (.ptr b o)]=>sO (True,.d (.ptr b o))
 |.nilck,[.d (.fn f x y)]=>match f with
  |.func g=>sO (True,.d (.fn (.func g) x y))
  |.yield l=>sO (True,.d (.fn (.yield l) x y))
  |_=>nO
 |.load1,[a]=>(YS L s a).map fun d=>(True,.d d)
 |.loadN n,[a]=>(Kc L s n a).map fun r=>(r.1,.d (.agg r.2))
 |.bin op p,[.d x,.d y]=>(J1 op p x y).map fun r=>(r.1,.d r.2)
 |.not,[.d (.bool b)]=>sO (True,.d (.bool !b))
 |.neg,[.d (.int k n)]=>sO (inR k (-n),.d (.int k (-n)))
 |.xorm,[.d (.int k n)]=>sO (True,.d (.int k (Zli .xor k (if k.signed then -1 else k.max) n)))
 |.conv (.int k),[.d (.int k' n)]=>if k=k' then sO (True,.d (.int k n)) else sO (True,.d (.int k (k.wrap n)))
 |.conv .str,[.d (.str s)]=>sO (True,.d (.str s))
 |.conv .i2s,[.d (.int _ n)]=>sO ((Utf8.encode n).data.toList.length≤big,.d (.str (Utf8.encode n).data.toList))
 |.conv .b2s,[.d .nilsl]=>sO (True,.d (.str []))
 |.conv .b2s,[.d (.sl _ n s row)]=>if s=1 then sO (∀i,i<n→Zn5 (row i),.d (.str ((ZEO n).map fun i=>Zch (row i)))) else nO
 |.conv .b2s,[.d (.msl b o n _ z)]=>match Z5 s b with
  |some cs=>if z=1 then sO (o+n≤cs.length∧∀i,i<n→Zn5 (part cs (o+i) 1),.d (.str ((ZEO n).map fun i=>Zch (part cs (o+i) 1)))) else nO
  |none=>nO
 |.faddr off,[.d (.ep cs o)]=>sO (True,.d (.ep cs (o+off)))
 |.faddr off,[.d (.ptr b o)]=>sO (True,.d (.ptr b (o+off)))
 |.faddr off,[.loc l o]=>sO (True,.loc l (o+off))
 |.fld1 off,[.d (.agg cs)]=>(cs[off]?).map fun d=>(True,.d d)
 |.fldN off n,[.d (.agg cs)]=>sO (off+n≤cs.length,.d (.agg (part cs off n)))
 |.iaddr z,[.d (.sl _ n z' row),.d (.int _ i)]=>if z'=z then sO (0≤i∧i<n,.d (.ep (row i.toNat) 0)) else nO
 |.iaddr z,[.d (.msl b o n _ z'),.d (.int _ i)]=>if z'=z then sO (0≤i∧i<n,.d (.ptr b (o+i.toNat*z))) else nO
 |.iaddrA m z,[.d (.ptr b o),.d (.int _ i)]=>sO (0≤i∧i<m,.d (.ptr b (o+i.toNat*z)))
 |.iaddrA m s,[.loc l o,.d (.int _ i)]=>sO (0≤i∧i<m,.loc l (o+i.toNat*s))
 |.iaddrA m s,[.d (.ep cs o),.d (.int _ i)]=>sO (0≤i∧i<m,.d (.ep cs (o+i.toNat*s)))
 |.idxA m z true,[.d (.agg cs),.d (.int _ i)]=>(cs[i.toNat*z]?).map fun d=>(0≤i∧i<m,.d d)
 |.idxA m z false,[.d (.agg cs),.d (.int _ i)]=>sO (0≤i∧i<m∧i.toNat*z+z≤cs.length,.d (.agg (part cs (i.toNat*z) z)))
 |.sliceA m z lo hi mx,.d (.ptr b o)::r=>match Wx [lo,hi,mx] r with
  |some [l,h,x]=>sO (0≤l.getD 0∧l.getD 0≤h.getD m∧h.getD m≤x.getD m∧x.getD m≤m∧m≤big,
    .d (.msl b (if x.getD m=l.getD 0 then o else o+(l.getD 0).toNat*z) (h.getD m-l.getD 0).toNat (x.getD m-l.getD 0).toNat z))
  |_=>nO
 |.idxS,[.d (.str s),.d (.int _ i)]=>sO (0≤i∧i<s.length,.d (.int .u8 ((s.getD i.toNat 0).toNat:Int)))
 |.lenS,[.d (.str s)]=>sO (True,.d (.int .i64 s.length))
 |.lenL,[.d (.sl _ n _ _)]=>sO (True,.d (.int .i64 n))
 |.lenL,[.d (.msl _ _ n _ _)]=>sO (True,.d (.int .i64 n))
 |.lenL,[.d .nilsl]=>sO (True,.d (.int .i64 0))
 |.lenA n,[_]=>sO (inR .i64 n,.d (.int .i64 n))
 |.ext k,[.d (.tup vs)]=>(vs[k]?).map fun d=>(True,.d d)
 |.build zero parts,es=>match W6 es with
  |some ds=>(Zba zero parts ds).map fun cs=>(True,.d (.agg cs))
  |none=>nO
 |.mkfn f k,es=>(W6 es).map fun ds=>(True,.d (.fn f (ds.take k) (ds.drop k)))
 |.mkif t,[.d x]=>sO (True,.d (.iface t x))
 |.sliceS lo hi,.d (.str s)::r=>match Wx [lo,hi,false] r with
  |some [l,h,_]=>sO (0≤l.getD 0∧l.getD 0≤h.getD s.length∧h.getD s.length≤s.length,
    .d (.str ((s.drop (l.getD 0).toNat).take ((h.getD s.length).toNat-(l.getD 0).toNat))))
  |_=>nO
 |.slice s lo hi mx,.d x::r=>match Wx [lo,hi,mx] r with
  |some [l,h,m]=>(ZaC s l h m x).map fun r=>(r.1,.d r.2)
  |_=>nO
 |.min,[.d (.int k a),.d (.int k' b)]=>if k=k' then sO (True,.d (.int k (Min.min a b))) else nO
 |.max,[.d (.int k a),.d (.int k' b)]=>if k=k' then sO (True,.d (.int k (Max.max a b))) else nO
 |.tassert t true _,[.d (.iface t' v)]=>if t'=t then sO (True,.d (.tup [v,.bool true])) else nO
 |.lookup kp z ok,[.d (.map b),.d k]=>match KA s b with
  |some es=>(Zbb kp k es).map fun r=>(K8 kp k=true,.d (Y8 z ok r))
  |none=>nO
 |.lookup kp z ok,[.d .nilmap,.d k]=>sO (K8 kp k=true,.d (Y8 z ok nO))
 |.lenM,[.d (.map b)]=>match KA s b with
  |some es=>sO (es.length≤big,.d (.int .i64 es.length))
  |none=>nO
 |.lenM,[.d .nilmap]=>sO (True,.d (.int .i64 0))
 |.tassert _ true zero,[.d .niliface]=>sO (True,.d (.tup [zero,.bool false]))
 |.tassert t false _,[.d (.iface t' v)]=>if t'=t then sO (True,.d v) else nO
 |_,_=>nO
inductive K where
 |q (q:Q) (args:List Opd)
 |pick (c a b:Opd)
 |alloc (zero:List D)
 |box (x:Opd)
 |bsl (len s:Nat) (zero:List D) (idx:List Nat) (parts:List Opd)
 |s2b (x:Opd)
 |store1 (a v:Opd)
 |storeN (n:Nat) (a v:Opd)
 |call (f:Opd) (args:List Opd)
 |append (elem:TypeId) (s bytes:Nat) (zero:List D) (x y:Opd)
 |mkmap
 |mapupd (kp:KP) (m k v:Opd)
 |mapent (kp:KP) (zero:D) (m k:Opd)
 |entst (m st v:Opd)
 |mkslice (elem:TypeId) (s bytes:Nat) (zero:List D) (l c:Opd)
 |panic (x:Opd)
 |delete (kp:KP) (m k:Opd)
 |clear (s:Nat) (zero:List D) (x:Opd)
 |copy (s:Nat) (x y:Opd)
 |fork (k:K)
 |defer (f:Opd) (args:List Opd)
 |recover
def K.isDefer:K→Bool
 |.defer _ _=>true
 |_=>false
structure DOp where
 dst:Option Nat
 guard:Option (Nat×Bool)
 k:K
inductive DC where
 |skip
 |reg (ops:List DOp) (keep:Option (List Nat))
 |regD (order:List Nat) (ops:List (DOp×List Nat)) (keep:Option (List Nat))
 |seq (a b:DC)
 |cond (c:Opd) (a b:DC)
 |block (id:Nat) (a:DC)
 |loop (a:DC)
 |rangeF (f:Opd) (params:List Nat) (assign body:DC)
 |exit (id:Nat)
 |ret
 |scope (a:DC)
 |label (id:Nat)
 |goto (id:Nat)
def KT(P:Program)(t:TypeId):Option SK :=
 match P.underlying t with
 |some .bool=>sO .bool
 |some (.int _)=>sO .int
 |some .string=>sO .str
 |_=>nO
def Km(P:Program):List Field→Option (List (Nat×SK))
 | []=>sO []
 |f::r=>if f.name = "_" then Km P r else
  match KT P f.type,Km P r with
  |some k,sO l=>sO ((f.offset,k)::l)
  |_,_=>nO
def JD(P:Program)(t:TypeId):Option Bool :=
 match P.underlying t with
 |some (.struct _)|some (.array _ _)=>sO true
 |some _=>sO false
 |none=>nO
def ZS(P:Program)(t:TypeId):Option Nat:=(P.info? t).map (·.size)
def Zd1:Operand→Bool
 |.const _=>true
 |_=>false
def Zc4(P:Program)(t:TypeId)(x y:Operand):Option Zed :=
 match P.underlying t with
 |some .bool=>sO .bool
 |some (.slice _)=>sO .sl
 |some (.map _ _)=>sO .map
 |some (.func _ _ _)=>sO .fn
 |some (.interface _)=>if Zd1 x ||Zd1 y then sO .ifc else nO
 |some (.pointer _)=>sO .ptr
 |some (.struct fs)=>if P.eqGuardType P.depth t ||P.stoodInHeld t then nO else (Km P fs.toList).map .cells
 |some (.array n e) =>
  if P.eqGuardType P.depth t then nO
  else match KT P e,ZS P e with
   |some k,sO 1=>sO (.cells ((ZEO n).map (·,k)))
   |_,_=>nO
 |_=>nO
def Zgl(P:Program)(s:TypeId)(k:Nat):Option Field :=
 match P.underlying s with
 |some (.struct fs)=>fs[k]?
 |_=>nO
def Zae(P:Program)(t:TypeId):Option (List D) :=
 match P.info? t with
 |some i=>match i.zero with
  |some z=>ZaZ z.cells.toList
  |none=>nO
 |none=>nO
def ZcR(P:Program)(t:TypeId):Option D :=
 match P.info? t with
 |some i=>match i.zero with
  |some z=>Zmg z
  |none=>nO
 |none=>nO
def KR(P:Program)(t:TypeId):List Nat→Option (List (Nat×Nat))
 | []=>sO []
 |k::r =>
  match P.underlying t,KR P t r with
  |some (.struct fs),sO l=>match fs[k]? with
   |some f=>(ZS P f.type).map fun n=>(f.offset,n)::l
   |none=>nO
  |some (.array _ e),sO l=>(ZS P e).map fun n=>(k*n,n)::l
  |_,_=>nO
def Zjs(P:Program)(t:TypeId):Bool :=
 match P.underlying t with
 |some (.struct fs)=>fs.toList.all fun f=>(ZS P f.type).isSome
 |some (.array _ e)=>(ZS P e).isSome
 |_=>false
def Zt5(P:Program)(s d:TypeId):Option Cv :=
 match P.underlying s,P.underlying d with
 |some (.int _),sO (.int k)=>sO (.int k)
 |some (.int _),sO .string=>sO .i2s
 |some .string,sO .string=>sO .str
 |some (.slice e),sO .string=>match P.underlying e with
  |some (.int .u8)=>sO .b2s
  |_=>nO
 |_,_=>nO
def JK(P:Program)(t:TypeId):Option KP :=
 match KT P t with
 |some k=>sO (.sc k)
 |none=>match P.underlying t,ZS P t with
  |some (.struct fs),sO n=>match Km P fs.toList with
   |some l=>if l.map (·.1)=ZEO n∧P.stoodInHeld t=false then sO (.st l) else nO
   |none=>nO
  |_,_=>nO
def Qp(x:Option Operand):List Operand:=x.toList
def cq(P:Program):Op→Option (Q×List Operand)
 |.move x|.assign x=>sO (.mv,[x])
 |.load t a=>match JD P t,ZS P t with
  |some true,sO n=>sO (.loadN n,[a])
  |some false,sO _=>sO (.load1,[a])
  |_,_=>nO
 |.nilCheck x=>sO (.nilck,[x])
 |.binOp op t x y _=>sO (.bin op (Zc4 P t x y),[x,y])
 |.unOp .not _ x=>sO (.not,[x])
 |.unOp .neg _ x=>sO (.neg,[x])
 |.unOp .xor _ x=>sO (.xorm,[x])
 |.convert s d x=>(Zt5 P s d).map fun c=>(.conv c,[x])
 |.fieldAddr s x k=>match Zgl P s k with
  |some f=>match ZS P f.type with
   |some n=>if n=0 then nO else sO (.faddr f.offset,[x])
   |none=>nO
  |none=>nO
 |.field s x k=>match Zgl P s k with
  |some f=>match JD P f.type,ZS P f.type with
   |some true,sO n=>sO (.fldN f.offset n,[x])
   |some false,sO _=>sO (.fld1 f.offset,[x])
   |_,_=>nO
  |none=>nO
 |.indexAddr t x i=>match P.underlying t with
  |some (.slice e)=>(ZS P e).map fun n=>(.iaddr n,[x,i])
  |some (.array m e)=>(ZS P e).map fun n=>(.iaddrA m n,[x,i])
  |_=>nO
 |.index t x i=>match P.underlying t with
  |some .string=>sO (.idxS,[x,i])
  |some (.array m e)=>match JD P e,ZS P e with
   |some b,sO n=>sO (.idxA m n !b,[x,i])
   |_,_=>nO
  |_=>nO
 |.extract x k=>sO (.ext k,[x])
 |.build t parts=>match (P.info? t).bind (·.zero),KR P t (parts.toList.map (·.1)) with
  |some z,sO l=>if Zjs P t then (ZaZ z.cells.toList).map fun zs=>(.build zs l,parts.toList.map (·.2)) else nO
  |_,_=>nO
 |.makeFunc f first caps=>sO (.mkfn f first.size,first.toList++caps.toList)
 |.makeInterface t x=>match P.underlying t with
  |some (.interface _)=>nO
  |some _=>sO (.mkif t,[x])
  |none=>nO
 |.slice t x lo hi mx=>match P.underlying t with
  |some .string=>if mx.isSome then nO else sO (.sliceS lo.isSome hi.isSome,x::(Qp lo++Qp hi))
  |some (.slice e)=>if mx.isSome&&!hi.isSome then nO else (ZS P e).map fun n=>(.slice n lo.isSome hi.isSome mx.isSome,x::(Qp lo++Qp hi++Qp mx))
  |some (.array m e)=>if mx.isSome&&!hi.isSome then nO else (ZS P e).map fun n=>(.sliceA m n lo.isSome hi.isSome mx.isSome,x::(Qp lo++Qp hi++Qp mx))
  |_=>nO
 |.typeAssert x _ t ok=>match P.underlying t with
  |some (.interface _)=>nO
  |some _=>(ZcR P t).map fun z=>(.tassert t ok z,[x])
  |none=>nO
 |.lookup t m k ok=>match P.underlying t with
  |some (.map kt e)=>match JK P kt,ZcR P e with
   |some kp,sO z=>sO (.lookup kp z ok,[m,k])
   |_,_=>nO
  |_=>nO
 |.call c=>match c.callee with
  |.builtin .len=>match c.argTypes[0]?.bind P.underlying with
   |some .string=>if c.args.size=1 then sO (.lenS,c.args.toList) else nO
   |some (.slice _)=>if c.args.size=1 then sO (.lenL,c.args.toList) else nO
   |some (.array n _)=>if c.args.size=1 then sO (.lenA n,c.args.toList) else nO
   |some (.map _ _)=>if c.args.size=1 then sO (.lenM,c.args.toList) else nO
   |_=>nO
  |.builtin .min=>if c.args.size=2 then sO (.min,c.args.toList) else nO
  |.builtin .max=>if c.args.size=2 then sO (.max,c.args.toList) else nO
  |_=>nO
 |_=>nO
inductive ZG{α β:Type}(R:α→β→Prop):List α→List β→Prop where
 |nil:ZG R [] []
 |cons {a b as9 bs} (h:R a b) (t:ZG R as9 bs):ZG R (a::as9) (b::bs)
theorem ZgM(k n):inR k (k.wrap n):=by
 unfold inR IntKind.wrap IntKind.min IntKind.max
 cases k<;>simp[IntKind.signed,IntKind.bits]<;>(try split)<;>omega
theorem ZaS(k n)(h:inR k n):k.wrap n=n:=by
 unfold inR IntKind.min IntKind.max at h
 unfold IntKind.wrap
 cases k<;>simp[IntKind.signed,IntKind.bits]at h⊢<;>(try split)<;>omega
theorem W5(b o n):(⟨b,o,nO⟩:Addr).add n=⟨b,o+n,nO⟩:=by grind [Addr.add]
theorem Ze8{P t}(h:JD P t=sO true)(w):(isAgg t).run P w=.ok true w:=by
 unfold JD at h
 unfold isAgg
 split at h<;>simp_all[run_underlying]
theorem Zdx{P t}(h:JD P t=sO false)(w):(isAgg t).run P w=.ok false w:=by
 unfold JD at h
 unfold isAgg
 split at h
 ·simp at h
 ·simp at h
 ·rename_i d h1 h2 hd
  simp only[Sem.run_bind,run_underlying hd,Result.andThen_ok]
  simp_all
 ·simp at h
theorem YG{P t n}(h:ZS P t=sO n)(w):(sizeOf t).run P w=.ok n w:=by
 unfold ZS at h
 cases hi:P.info? t with
 |none=>simp[hi]at h
 |some i =>
  simp_all[hi,sizeOf,typeInfo]
theorem QL{g w s}(hS:Yb g s w){b cs}(h:Z5 s b=sO cs):YM g w b cs:=by
 unfold Z5 at h
 split at h<;>simp at h
 rename_i c hc
 subst h
 exact hS.obj b _ hc
theorem Zma{g ν w L}(hL:∀l cs,Zf L l=sO cs→YM g w (ν l) cs){s}(hS:Yb g s w){v e d}(h:ZI g ν w L v e)(hc:YS L s e=sO d):∃b o x,v=.pointer (sO ⟨b,o,nO⟩)∧w.cell? ⟨b,o,nO⟩=sO x∧Rep g w x d∧x.one1=true:=by
 cases e with
 |d v' =>
  cases v'<;>simp only[YS]at hc<;>try(simp at hc;done)
  ·rename_i cs o
   cases h with
   |ep b o0 _ _ f h1 h2 h3 one =>
    have hlt:o<cs.length:=(List.getElem?_eq_some_iff.1 hc).1
    exact⟨b,o0+o,f o,rfl,h1 o hlt,h3 o d hc,one o hlt⟩
  ·rename_i b o
   split at hc<;>(try(simp at hc;done))
   rename_i cs hcs
   obtain⟨_,vs,T,h1,h2,h4,h5⟩:=QL hS hcs
   cases h
   have hlt:o<cs.length:=(List.getElem?_eq_some_iff.1 hc).1
   have hv:vs[o]?=sO (vs[o]'(by omega)):=Array.getElem?_eq_getElem (by omega)
   refine⟨b,o,vs[o]'(by omega),rfl,?_,h4 o _ d hv hc,h5 _ (Array.getElem_mem _)⟩
   simp[World.cell?,h1,hv]
 |loc l o =>
  obtain⟨⟨cs,hcs⟩,rfl⟩:=h
  simp only[YS,hcs]at hc
  obtain⟨_,vs,T,h1,h2,h4,h5⟩:=hL l cs hcs
  have hlt:o<cs.length:=(List.getElem?_eq_some_iff.1 hc).1
  have hv:vs[o]?=sO (vs[o]'(by omega)):=Array.getElem?_eq_getElem (by omega)
  refine⟨ν l,o,vs[o]'(by omega),rfl,?_,h4 o _ d hv hc,h5 _ (Array.getElem_mem _)⟩
  simp[World.cell?,h1,hv]
 |when c e=>simp[YS]at hc
theorem ZeB{P g w b o n cs}(h:YM g w b cs)(hs:o+n≤cs.length):
  ∃vs:List Value,(loadCells ⟨b,o,nO⟩ n).run P w=.ok vs.toArray w∧Rep g w (.agg vs.toArray) (.agg (part cs o n)):=by
 obtain⟨_,vs,T,h1,h2,h4,h5⟩:=h
 refine⟨(vs.toList.drop o).take n,?_,?_⟩
 ·have:=run_loadCells (P:=P) (w:=w) ⟨b,o,nO⟩ n (fun i=>vs.getD (o+i) undef) (fun j hj=>by
   rw[W5];simp[World.cell?,h1]
   have hj':o+j<vs.size:=by omega
   simp[hj'])
  rw[this];congr 1
  apply Array.ext_getElem?
  intro i
  simp[List.getElem?_toArray,ZFg,Array.getElem?_toList]
  by_cases hi':i<n
  ·have:o+i<vs.size:=by omega
   simp[hi',this]
  ·simp[hi']
 ·refine .agg _ _ (by simp[part];omega) (fun i v d hv hd=>?_) (fun v hv=>?_)
  ·have hi:i<n:=by
    rcases Nat.lt_or_ge i n with h|h
    ·exact h
    ·grind
   simp[hi,part]at hv hd
   exact h4 _ _ _ hv hd
  ·exact h5 v (by
    have:=List.mem_of_mem_drop (List.mem_of_mem_take hv)
    exact Array.mem_toList_iff.1 this)
theorem ZmU{P g ν w L}(hL:∀l cs,Zf L l=sO cs→YM g w (ν l) cs){s}(hS:Yb g s w){v e n side ds}(h:ZI g ν w L v e)(hc:Kc L s n e=sO (side,ds))(hs:side):
  ∃a,v=.pointer (sO a)∧∃vs:List Value,(loadCells a n).run P w=.ok vs.toArray w∧Rep g w (.agg vs.toArray) (.agg ds):=by
 cases e with
 |d v' =>
  cases v'<;>simp only[Kc]at hc<;>try(grind;done)
  ·rename_i cs o
   cases hc
   cases h with
   |ep b o0 _ _ f h1 h2 h3 one =>
    refine⟨_,rfl,(ZEO n).map (fun i=>f (o+i)),?_,?_⟩
    ·have:=run_loadCells (P:=P) (w:=w) ⟨b,o0+o,nO⟩ n (fun i=>f (o+i)) (fun j hj=>by
      rw[W5,Nat.add_assoc];exact h1 _ (by omega))
     rw[this]
    ·refine .agg _ _ (by simp[part];omega) (fun i v d hv hd=>?_) (fun v hv=>?_)
     ·simp at hv
      have hi:i<n:=by
       rcases Nat.lt_or_ge i n with h|h
       ·exact h
       simp_all
      simp[List.getElem?_range hi]at hv
      subst hv
      refine h3 _ _ ?_
      simpa[part,ZFg,hi]using hd
     ·simp at hv
      obtain⟨i,hi,rfl⟩:=hv
      exact one _ (by omega)
  ·rename_i b o
   split at hc<;>(try(grind;done))
   rename_i cs hcs
   cases hc
   cases h
   obtain⟨vs,h1,h2⟩:=ZeB (P:=P) (QL hS hcs) hs
   exact⟨_,rfl,vs,h1,h2⟩
 |loc l o =>
  obtain⟨⟨cs,hcs⟩,rfl⟩:=h
  simp only[Kc,hcs]at hc
  obtain⟨rfl,rfl⟩:=hc
  obtain⟨vs,h1,h2⟩:=ZeB (P:=P) (hL l cs hcs) hs
  exact⟨_,rfl,vs,h1,h2⟩
 |when c e=>cases hc
theorem Kz{n}(h:n≤big):inR .i64 (n:Int):=by
 unfold big at h;unfold inR IntKind.min IntKind.max;simp[IntKind.signed,IntKind.bits];omega
theorem Zrp(b:UInt8):inR .u8 (b.toNat:Int):=by
 unfold inR IntKind.min IntKind.max;simp[IntKind.signed,IntKind.bits];have:=b.toNat_lt;omega
theorem ZyJ{P g w op k a b side d}(hq:QB op k a b=sO (side,d))(hs:side):
  ∃v,(match op with
   |.add|.sub|.mul=>Op.intArith op k a b
   |.quo|.rem=>Op.intDiv op k a b
   |.and|.or|.xor|.andNot=>Op.intBits op k a b
   |_=>Op.intCmp op a b).run P w=.ok v w∧Rep g w v d:=by
 cases op<;>simp only[QB,ZEz,ZEL,reduceCtorEq]at hq
 all_goals obtain⟨rfl,rfl⟩:=hq
 case add=>exact⟨_,by simp only[Op.intArith,Sem.run_pure];rfl,by rw[ZaS _ _ hs];exact .int _ _ hs⟩
 case sub=>exact⟨_,by simp only[Op.intArith,Sem.run_pure];rfl,by rw[ZaS _ _ hs];exact .int _ _ hs⟩
 case mul=>exact⟨_,by simp only[Op.intArith,Sem.run_pure];rfl,by rw[ZaS _ _ hs];exact .int _ _ hs⟩
 case quo=>exact⟨_,by simp only[Op.intDiv,hs.1,if_false,Sem.run_pure];rfl,by rw[ZaS _ _ hs.2];exact .int _ _ hs.2⟩
 case rem=>exact⟨_,by simp only[Op.intDiv,hs.1,if_false,Sem.run_pure],.int _ _ hs.2⟩
 case eql=>exact⟨_,by simp only[Op.intCmp,Sem.run_pure];rfl,.bool _⟩
 case neq=>exact⟨_,by simp only[Op.intCmp,Sem.run_pure];rfl,.bool _⟩
 case lss=>exact⟨_,by simp only[Op.intCmp,Sem.run_pure],.bool _⟩
 case leq=>exact⟨_,by simp only[Op.intCmp,Sem.run_pure],.bool _⟩
 case gtr=>exact⟨_,by simp only[Op.intCmp,Sem.run_pure],.bool _⟩
 case geq=>exact⟨_,by simp only[Op.intCmp,Sem.run_pure],.bool _⟩
 all_goals exact⟨_,by simp only[Op.intBits,Sem.run_pure];rfl,.int _ _ (ZgM _ _)⟩
theorem ZcB{s:ByteArray}{l}(h:s.data.toList=l):s.toList=l:=by rw[ByteArray.toList_eq,h]
theorem ZyK{P g w op s1 s2 a b}(h1:s1.data.toList=a)(h2:s2.data.toList=b){side d}(hq:Zdg op a b=sO (side,d))(hs:side):
  ∃v,(Op.stringOp op s1 s2).run P w=.ok v w∧Rep g w v d:=by
 have e1:=ZcB h1
 have e2:=ZcB h2
 cases op<;>simp only[Zdg,ZEz,ZEL,reduceCtorEq]at hq
 all_goals obtain⟨rfl,rfl⟩:=hq
 case add =>
  have hz1:s1.size=a.length:=by rw[←h1];rfl
  have hz2:s2.size=b.length:=by rw[←h2];rfl
  refine⟨.string (s1++s2),?_,.str _ _ ?_ (by simpa using hs)⟩
  ·unfold big at hs
   simp only[Op.stringOp,hz1,hz2,Sem.run_ite]
   rw[if_neg (by simp[IntKind.max,IntKind.signed,IntKind.bits];omega)];rfl
  ·simp[←h1,←h2]
 all_goals simp only[Op.stringOp,Sem.run_pure,e1,e2]
 all_goals have hb:(a==b)=dC (a=b):=by rw[Bool.eq_iff_iff];simp
 all_goals try simp only[hb]
 all_goals exact⟨_,rfl,.bool _⟩
theorem Zf1{P g w t sk}(ht:KT P t=sO sk){v1 v2 x y}(h1:Rep g w v1 x)(h2:Rep g w v2 y){b}(hq:Yf sk x y=sO b)(n):(Op.equalIn (n+1) t v1 v2).run P w=.ok b w:=by
 unfold KT at ht
 cases sk
 ·obtain⟨k0,hk0⟩:∃k0,P.underlying t=sO (.int k0):=by split at ht<;>simp_all
  cases h1<;>cases h2<;>simp only[Yf,reduceCtorEq]at hq
  split at hq
  ·rename_i k a ha k' b' hb' hk
   simp only[ZEz]at hq
   subst hq;subst hk
   rw[run_equalIn_int w n t _ _ _ _ hk0];rfl
  ·simp at hq
 ·have hk0:P.underlying t=sO .string:=by split at ht<;>simp_all
  cases h1<;>cases h2<;>simp only[Yf,reduceCtorEq,ZEz]at hq
  rename_i s1 l1 e1 _ s2 l2 e2 _
  subst hq
  rw[run_equalIn_string w n t _ _ hk0,ZcB e1,ZcB e2]
  congr 1;rw[Bool.eq_iff_iff];simp
 ·have hk0:P.underlying t=sO .bool:=by split at ht<;>simp_all
  cases h1<;>cases h2<;>simp only[Yf,reduceCtorEq,ZEz]at hq
  subst hq
  rw[run_equalIn_bool' w n t _ _ hk0];rfl
theorem Za6{P t k}(h:KT P t=sO k):JD P t=sO false:=by
 unfold KT at h;unfold JD
 split at h<;>simp_all
theorem Zcw{P w t}(h:JD P t=sO false){cs o v}(hv:cs[o]?=sO v):
  (Go.part t cs o).run P w=.ok v w:=by
 simp[Go.part,Zdx h,hv]
theorem Zbo{g w}{vs:List Value}(hn:vs.length=ds.length)(h:∀(i:Nat) (v:Value) (d:D),vs[i]?=sO v→ds[i]?=sO d→Rep g w v d){o:Nat}{d}(hd:ds[o]?=sO d):∃v,vs[o]?=sO v∧Rep g w v d:=by
 have hlt:o<ds.length:=(List.getElem?_eq_some_iff.1 hd).1
 exact⟨vs[o]'(by omega),ZE5 _,h o _ d (ZE5 _) hd⟩
theorem ZcG{P g w}{v1 v2:List Value}{xs ys}(hn1:v1.length=xs.length)(hn2:v2.length=ys.length)
  (h1:∀(i:Nat) (v:Value) (d:D),v1[i]?=sO v→xs[i]?=sO d→Rep g w v d) (h2:∀(i:Nat) (v:Value) (d:D),v2[i]?=sO v→ys[i]?=sO d→Rep g w v d) (n) :
  ∀(fs l b),Km P fs=sO l→Wk xs ys l=sO b →
   (Op.eqFields (n+1) v1.toArray v2.toArray fs).run P w=.ok b w
 | [],l,b,hl,hb=>by
  simp only[Km,ZEz]at hl
  subst hl
  simp only[Wk,ZEz]at hb
  subst hb
  simp[Op.eqFields]
 |f::fs,l,b,hl,hb=>by
  simp only[Km]at hl
  by_cases hf:f.name = "_"
  ·simp only[hf,if_true]at hl
   have:=ZcG hn1 hn2 h1 h2 n fs l b hl hb
   simp only[Op.eqFields,hf,ne_eq,not_true_eq_false,if_false]
   exact this
  ·simp only[hf,if_false]at hl
   split at hl
   ·rename_i k l' hk hl'
    simp only[ZEz]at hl
    subst hl
    simp only[Wk]at hb
    split at hb
    ·rename_i x y hx hy
     split at hb
     ·rename_i b1 b2 hb1 hb2
      simp only[ZEz]at hb
      obtain⟨u1,hu1,r1⟩:=Zbo hn1 h1 hx
      obtain⟨u2,hu2,r2⟩:=Zbo hn2 h2 hy
      have ih:=ZcG hn1 hn2 h1 h2 n fs l' b2 hl' hb2
      have he:=Zf1 (P:=P) hk r1 r2 hb1 n
      simp only[Op.eqFields,ne_eq,hf,not_false_eq_true,if_true,Sem.run_bind]
      rw[Zcw (Za6 hk) (v:=u1) (by simpa using hu1)]
      simp only[Result.andThen_ok]
      rw[Zcw (Za6 hk) (v:=u2) (by simpa using hu2)]
      simp only[Result.andThen_ok,he]
      subst hb
      cases b1
      ·simp
      ·simpa using ih
     ·simp at hb
    ·simp at hb
   ·simp at hl
theorem Zmk{P g w}{v1 v2:List Value}{xs ys}(hn1:v1.length=xs.length)(hn2:v2.length=ys.length)
  (h1:∀(i:Nat) (v:Value) (d:D),v1[i]?=sO v→xs[i]?=sO d→Rep g w v d) (h2:∀(i:Nat) (v:Value) (d:D),v2[i]?=sO v→ys[i]?=sO d→Rep g w v d) (n)
  {e k} (hk:KT P e=sO k) :
  ∀(is b),Wk xs ys (is.map (·,k))=sO b→(Op.eqItems (n+1) e 1 v1.toArray v2.toArray is).run P w=.ok b w
 | [],b,hb=>by
  simp only[ZE6,Wk,ZEz]at hb
  subst hb;simp[Op.eqItems]
 |i::is,b,hb=>by
  simp only[ZEQ,Wk]at hb
  split at hb
  ·rename_i x y hx hy
   split at hb
   ·rename_i b1 b2 hb1 hb2
    simp only[ZEz]at hb
    obtain⟨u1,hu1,r1⟩:=Zbo hn1 h1 hx
    obtain⟨u2,hu2,r2⟩:=Zbo hn2 h2 hy
    have ih:=Zmk hn1 hn2 h1 h2 n hk is b2 hb2
    have he:=Zf1 (P:=P) hk r1 r2 hb1 n
    simp only[Op.eqItems,Nat.mul_one,Sem.run_bind]
    rw[Zcw (Za6 hk) (v:=u1) (by simpa using hu1)]
    simp only[Result.andThen_ok]
    rw[Zcw (Za6 hk) (v:=u2) (by simpa using hu2)]
    simp only[Result.andThen_ok,he]
    subst hb
    cases b1
    ·simp
    ·simpa using ih
   ·simp at hb
  ·simp at hb
theorem Zbj{P w t v1 v2 b}(h:∀n,(Op.equalIn (n+1) t v1 v2).run P w=.ok b w):(Op.equal t v1 v2).run P w=.ok b w:=h 9999
theorem Zpk{P g w t x y p}(hp:Zc4 P t x y=sO p){v1 v2 d1 d2}(h1:Rep g w v1 d1)(h2:Rep g w v2 d2){side b}(hq:YF p d1 d2=sO (side,b))(hs:side):
  (Op.equal t v1 v2).run P w=.ok b w∧(eqGuard .eql t x y v1 v2).run P w=.ok () w∧(eqGuard .neq t x y v1 v2).run P w=.ok () w:=by
 unfold Zc4 at hp
 split at hp<;>(try(simp at hp;done))
 ·
  rename_i hu
  simp only[ZEz]at hp;subst hp
  cases h1<;>cases h2<;>simp only[YF,reduceCtorEq,ZEz,ZEL]at hq
  obtain⟨rfl,rfl⟩:=hq
  exact⟨Zbj fun n=>by rw[run_equalIn_bool w _ t _ _ hu];rfl,rfl,rfl⟩
 ·rename_i e hu
  simp only[ZEz]at hp;subst hp
  cases h1<;>cases h2<;>simp only[YF,reduceCtorEq,ZEz,ZEL]at hq
  all_goals obtain⟨rfl,rfl⟩:=hq
  all_goals first
   |exact absurd hs (by omega)
   |exact⟨Zbj fun n=>by simp[Op.equalIn,run_underlying hu],rfl,rfl⟩
 ·rename_i k e hu
  simp only[ZEz]at hp;subst hp
  cases h1<;>cases h2<;>simp only[YF,reduceCtorEq,ZEz,ZEL]at hq
  all_goals obtain⟨rfl,rfl⟩:=hq
  all_goals exact⟨Zbj fun n=>by simp[Op.equalIn,run_underlying hu],rfl,rfl⟩
 ·rename_i a b c hu
  simp only[ZEz]at hp;subst hp
  cases h1<;>cases h2<;>simp only[YF,reduceCtorEq,ZEz,ZEL]at hq
  all_goals obtain⟨rfl,rfl⟩:=hq
  all_goals exact⟨Zbj fun n=>by simp[Op.equalIn,run_underlying hu],rfl,rfl⟩
 ·rename_i ms hu
  split at hp
  ·rename_i hc
   simp only[ZEz]at hp;subst hp
   have hc':Zd1 x=true∨Zd1 y=true:=by simpa using hc
   have hg:∀op,(eqGuard op t x y .nilIface .nilIface).run P w=.ok () w:=fun op=>by
    rcases hc' with h|h
    ·cases x<;>simp[Zd1]at h
     cases op<;>simp[eqGuard]
    ·cases y<;>simp[Zd1]at h
     cases op<;>simp[eqGuard]
   cases h1<;>cases h2<;>simp only[YF,reduceCtorEq,ZEz,ZEL]at hq
   all_goals obtain⟨rfl,rfl⟩:=hq
   all_goals first
    |exact⟨Zbj fun n=>by simp[Op.equalIn,run_underlying hu],rfl,rfl⟩
    |exact⟨Zbj fun n=>by simp[Op.equalIn,run_underlying hu],hg _,hg _⟩
  ·simp at hp
 ·rename_i e hu
  simp only[ZEz]at hp;subst hp
  cases h1<;>cases h2<;>simp only[YF,reduceCtorEq,ZEz,ZEL]at hq
  all_goals obtain⟨rfl,rfl⟩:=hq
  all_goals exact⟨Zbj fun n=>by simp[Op.equalIn,run_underlying hu],rfl,rfl⟩
 ·rename_i fs hu
  split at hp
  ·simp at hp
  ·rename_i hgs
   have hg1:P.eqGuardType P.depth t=false:=by simp at hgs;exact hgs.1
   have hg2:P.stoodInHeld t=false:=by simp at hgs;exact hgs.2
   simp only[ZEN]at hp
   obtain⟨l,hl,rfl⟩:=hp
   cases h1<;>cases h2<;>simp only[YF,reduceCtorEq,ZEN]at hq
   rename_i v1 xs hn1 r1 o1 v2 ys hn2 r2 o2
   obtain⟨b',hb,hq⟩:=hq
   simp only[ZEL]at hq
   obtain⟨rfl,rfl⟩:=hq
   have hf:P.underlying t=sO (.struct (P.fieldsOf t)):=by simp[Program.fieldsOf,hu]
   refine⟨?_,run_eqGuard_agg w _ t x y _ _ hg1,run_eqGuard_agg w _ t x y _ _ hg1⟩
   refine(run_equalIn_struct w 9999 t _ _ hf hg2).trans ?_
   simp only[Program.fieldsOf,hu]
   exact ZcG hn1 hn2 r1 r2 9998 _ l b' hl hb
 ·rename_i n e hu
  split at hp
  ·simp at hp
  ·rename_i hg1
   split at hp
   ·rename_i k hk hsz
    simp only[ZEz]at hp;subst hp
    cases h1<;>cases h2<;>simp only[YF,reduceCtorEq,ZEN]at hq
    rename_i v1 xs hn1 r1 o1 v2 ys hn2 r2 o2
    obtain⟨b',hb,hq⟩:=hq
    simp only[ZEL]at hq
    obtain⟨rfl,rfl⟩:=hq
    have hg1':P.eqGuardType P.depth t=false:=by simpa using hg1
    refine⟨?_,run_eqGuard_agg w _ t x y _ _ hg1',run_eqGuard_agg w _ t x y _ _ hg1'⟩
    unfold ZS at hsz
    cases hi:P.info? e with
    |none=>simp[hi]at hsz
    |some i =>
     simp only[hi,ZE4,ZEz]at hsz
     refine(run_equalIn_array w 9999 _ _ hu hi).trans ?_
     have hce:P.cellsOf e=1:=by simp[Program.cellsOf,hi,hsz]
     rw[hce]
     exact Zmk hn1 hn2 r1 r2 9998 hk _ _ hb
   ·simp at hp
theorem ZyI{P g w op t x y v1 v2 d1 d2 d}(h1:Rep g w v1 d1)(h2:Rep g w v2 d2){side}(hq:J1 op (Zc4 P t x y) d1 d2=sO (side,d))(hs:side):
  ∃v,(do eqGuard op t x y v1 v2;binOp op t v1 v2).run P w=.ok v w∧Rep g w v d:=by
 by_cases hi:∃k a,d1=.int k a
 ·obtain⟨k,a,rfl⟩:=hi
  cases h1
  rename_i ha
  have hg:(eqGuard op t x y (.int k a) v2).run P w=.ok () w:=by cases op<;>rfl
  by_cases hi2:∃k' b,d2=.int k' b
  ·obtain⟨k',b,rfl⟩:=hi2
   cases h2
   rename_i hb
   simp only[Sem.run_bind,hg,Result.andThen_ok]
   by_cases hop:op=.shl∨op=.shr
   ·rcases hop with rfl|rfl
    ·simp only[J1,ZEz,ZEL]at hq
     obtain⟨rfl,rfl⟩:=hq
     refine⟨.int k (Zhu k a b),?_,.int _ _ hs.2⟩
     simp only[binOp,Op.shift,Int.not_lt.2 hs.1,if_false]
     rw[show k.wrap (a*2 ^ min b.toNat k.bits)=Zhu k a b from ZaS _ _ hs.2];rfl
    ·simp only[J1,ZEz,ZEL]at hq
     obtain⟨rfl,rfl⟩:=hq
     refine⟨.int k (Zor k a b),?_,.int _ _ hs.2⟩
     simp only[binOp,Op.shift,Int.not_lt.2 hs.1,if_false]
     rfl
   ·have hq':(if k=k' then QB op k a b else nO)=sO (side,d):=by
     cases op<;>first|(simp only[J1]at hq;exact hq)|simp at hop
    split at hq'
    ·rename_i hk
     subst hk
     obtain⟨v,hv,r⟩:=ZyJ (P:=P) (g:=g) (w:=w) hq' hs
     refine⟨v,?_,r⟩
     rw[←hv]
     cases op<;>first|(simp at hop;done)|(simp[binOp])
    ·simp at hq'
  ·have hq':eqO op (Zc4 P t x y) (.int k a) d2=sO (side,d):=by
    cases d2<;>first|(simp only[J1]at hq;exact hq)|(exact absurd ⟨_,_,rfl⟩ hi2)
   unfold eqO at hq'
   split at hq'<;>simp[YF]at hq'
 ·by_cases hst:∃a,d1=.str a
  ·obtain⟨a,rfl⟩:=hst
   cases h1
   rename_i s1 e1 b1
   have hg:(eqGuard op t x y (.string s1) v2).run P w=.ok () w:=by cases op<;>rfl
   by_cases hst2:∃b,d2=.str b
   ·obtain⟨b,rfl⟩:=hst2
    cases h2
    rename_i s2 e2 b2
    simp only[Sem.run_bind,hg,Result.andThen_ok]
    obtain⟨v,hv,r⟩:=ZyK (P:=P) (g:=g) (w:=w) (op:=op) e1 e2 (by simpa[J1]using hq) hs
    refine⟨v,?_,r⟩
    rw[←hv]
    cases op<;>simp[binOp]
   ·have hq':eqO op (Zc4 P t x y) (.str a) d2=sO (side,d):=by
     cases d2<;>first|(simp only[J1]at hq;exact hq)|(exact absurd ⟨_,rfl⟩ hst2)
    unfold eqO at hq'
    split at hq'<;>simp[YF]at hq'
  ·have hq':eqO op (Zc4 P t x y) d1 d2=sO (side,d):=by
    cases d1<;>first|(simp only[J1]at hq;exact hq)|(exact absurd ⟨_,_,rfl⟩ hi)|(exact absurd ⟨_,rfl⟩ hst)
   unfold eqO at hq'
   split at hq'
   ·rename_i p hp
    simp only[ZEN]at hq'
    obtain⟨⟨s',b⟩,hb,hq'⟩:=hq'
    simp only[ZEL]at hq'
    obtain⟨rfl,rfl⟩:=hq'
    obtain⟨he,hg,_⟩:=Zpk hp h1 h2 hb hs
    refine⟨.bool b,?_,.bool _⟩
    simp only[Sem.run_bind,hg,Result.andThen_ok]
    cases h1<;>first
     | (exact absurd ⟨_,_,rfl⟩ hi)
     | (exact absurd ⟨_,rfl⟩ hst)
     | (cases h2<;>first|(simp[binOp,he];done)|(cases p<;>simp[YF]at hb;done))
   ·rename_i p hp
    simp only[ZEN]at hq'
    obtain⟨⟨s',b⟩,hb,hq'⟩:=hq'
    simp only[ZEL]at hq'
    obtain⟨rfl,rfl⟩:=hq'
    obtain⟨he,_,hg⟩:=Zpk hp h1 h2 hb hs
    refine⟨.bool (!b),?_,.bool _⟩
    simp only[Sem.run_bind,hg,Result.andThen_ok]
    cases h1<;>first
     | (exact absurd ⟨_,_,rfl⟩ hi)
     | (exact absurd ⟨_,rfl⟩ hst)
     | (cases h2<;>first|(simp[binOp,he];done)|(cases p<;>simp[YF]at hb;done))
   ·simp at hq'
end Go.DL
namespace Go.DL
open Go
variable [Zqy]
def Zw5(P:Program)(g:G)(ν:Nat→Nat)(w:World)(L:Loc)(s:Sem Value)(e:E):Prop:=∃v,s.run P w=.ok v w∧ZI g ν w L v e
theorem Zw5.next{P g ν w L s e}(h:Zw5 P g ν w L s e) :
  ∃v,(do pure (Next.value (←s)):Sem Next).run P w=.ok (.value v) w∧ZI g ν w L v e:=by
 obtain⟨v,h1,h2⟩:=h
 simp_all
section
variable {P:Program} {g:G} {ν:Nat→Nat} {w:World} {L:Loc}
theorem KH:∀{vs es ds},ZG (ZI g ν w L) vs es→W6 es=sO ds→ZG (Rep g w) vs ds
 |_,_,ds,.nil,hd=>by cases hd;exact .nil
 |_,_,ds,.cons (b:=e) h t,hd=>by
  cases e with
  |d x =>
   simp[W6]at hd
   obtain⟨ds',hd',rfl⟩:=hd
   exact .cons h (KH t hd')
  |loc l o=>cases hd
  |when c e=>cases hd
theorem ZG.len{α β R}{as9:List α}{bs:List β}(h:ZG R as9 bs):as9.length=bs.length:=by
 induction h with
 |nil=>rfl
 |cons _ _ ih=>simp[ih]
theorem ZG.get{α β R as9}{bs:List β}(h:ZG R as9 bs):∀(i:Nat) (a:α) (b:β),as9[i]?=sO a→bs[i]?=sO b→R a b:=by
 induction h with
 |nil=>intro i a b ha;grind
 |cons h _ ih =>
  grind
theorem ZG.take{α β R}{as9:List α}{bs:List β}(h:ZG R as9 bs):∀n,ZG R (as9.take n) (bs.take n):=by
 induction h with
 |nil=>intro n;simp;exact .nil
 |cons h _ ih=>intro n;cases n with
  |zero=>exact .nil
  |succ n=>exact .cons h (ih n)
theorem ZG.drop{α β R}{as9:List α}{bs:List β}(h:ZG R as9 bs):∀n,ZG R (as9.drop n) (bs.drop n):=by
 induction h with
 |nil=>intro n;simp;exact .nil
 |cons h t ih=>intro n;cases n with
  |zero=>exact .cons h t
  |succ n=>exact ih n
theorem ZG.append{α β R}{as9 as':List α}{bs bs':List β}(h:ZG R as9 bs)(h':ZG R as' bs'):ZG R (as9++as') (bs++bs'):=by
 induction h with
 |nil=>exact h'
 |cons h _ ih=>exact .cons h ih
theorem Zc7{v d}(h:Rep g w v d)(ho:W1 d=true):v.cells.size=(cellsOf d).length∧(∀(i:Nat) (x y),v.cells.toList[i]?=sO x→(cellsOf d)[i]?=sO y→Rep g w x y):=by
 cases h with
 |agg vs cells hn h one=>exact⟨by simpa[Value.cells,cellsOf]using hn,by simpa[Value.cells,cellsOf]using h⟩
 |any v=>simp[W1]at ho
 |_ =>
  refine⟨by simp[Value.cells,cellsOf,Go.undef],fun i x y hx hy=>?_⟩
  simp only[Value.cells,cellsOf,Go.undef]at hx hy
  cases i with
  |zero =>
   simp at hx hy
   subst hx;subst hy
   first|assumption|constructor<;>assumption|constructor
  |succ i=>simp at hx
end
end Go.DL
namespace Go.DL
open Go
variable [Zqy]
section
variable {P:Program} {g:G} {ν:Nat→Nat} {w:World} {L:Loc}
theorem Zgw{v d}(h:Rep g w v d)(ho:W1 d=true):∀x∈v.cells,x.one1=true:=by
 cases h with
 |agg vs cells hn h one=>simpa[Value.cells]using one
 |_=>first
  | (simp[W1]at ho;done)
  | (intro x hx;simp[Value.cells]at hx;subst hx;rfl)
theorem Zo0:∀(l k off) (cs:Array Value),off+k+l.length≤cs.size →
  ((l.zipIdx k).foldl (fun(cs:Array Value) (x:Value×Nat)=>cs.setIfInBounds (off+x.2) x.1) cs).toList=cs.toList.take (off+k)++l++cs.toList.drop (off+k+l.length)
 | [],k,off,cs,h=>by simp
 |v::l,k,off,cs,h=>by
  simp at h
  simp only[List.zipIdx_cons,List.foldl_cons]
  rw[Zo0 l (k+1) off _ (by simp;omega)]
  simp only[Array.toList_setIfInBounds]
  apply List.ext_getElem?
  intro i
  simp only[List.getElem?_append,ZFg,List.getElem?_drop,List.getElem?_set,ZEM,ZEU,List.length_set,Array.length_toList,ZER]
  by_cases h1:i<off+k
  ·simp[show i<min (off+(k+1)) cs.size+l.length from by omega,show i<min (off+(k+1)) cs.size from by omega,show i<min (off+k) cs.size+(l.length+1) from by omega,
    show i<min (off+k) cs.size from by omega,show i<off+(k+1) from by omega,h1,show ¬off+k=i from by omega]
  ·by_cases h2:i=off+k
   ·subst h2
    simp[show off+k<min (off+(k+1)) cs.size+l.length from by omega,show off+k<min (off+(k+1)) cs.size from by omega,show off+k<min (off+k) cs.size+(l.length+1) from by omega,
     show ¬off+k<min (off+k) cs.size from by omega,show off+k<off+(k+1) from by omega,show off+k<cs.size from by omega]
    rw[show off+k-min (off+k) cs.size=0 from by omega];rfl
   ·by_cases h3:i<off+k+(l.length+1)
    ·simp[show i<min (off+(k+1)) cs.size+l.length from by omega,show ¬i<min (off+(k+1)) cs.size from by omega,show i<min (off+k) cs.size+(l.length+1) from by omega,
      show ¬i<min (off+k) cs.size from by omega]
     rw[show i-min (off+k) cs.size=(i-min (off+(k+1)) cs.size)+1 from by omega];rfl
    ·simp[show ¬i<min (off+(k+1)) cs.size+l.length from by omega,show ¬i<min (off+k) cs.size+(l.length+1) from by omega]
     rw[show off+(k+1)+l.length+(i-(min (off+(k+1)) cs.size+l.length))=i from by omega,show off+k+(l.length+1)+(i-(min (off+k) cs.size+(l.length+1)))=i from by omega]
     simp[show ¬off+k=i from by omega]
theorem Ya{α β R}:∀{as9} {bs:List β},as9.length=bs.length→(∀(i:Nat) (a:α) (b:β),as9[i]?=sO a→bs[i]?=sO b→R a b)→ZG R as9 bs
 | [],[],_,_=>.nil
 |a::as9,b::bs,hn,h=>.cons (h 0 a b rfl rfl) (Ya (by simpa using hn) (fun i x y hx hy=>h (i+1) x y (by simpa using hx) (by simpa using hy)))
 | [],_::_,hn,_=>by grind
 |_::_,[],hn,_=>by grind
theorem Zgm(place):∀(parts pl ds cs cells cv),
  (∀(i:Nat) (x q),parts[i]?=sO x→pl[i]?=sO q→place x.1=sO q)→parts.length=pl.length→ZG (Rep g w) (parts.map (·.2)) ds →
  ZG (Rep g w) cv.toList cells→(∀v∈cv,v.one1=true)→Zba cells pl ds=sO cs →
  ∃cv',Instr.fill place cv parts=sO cv'∧ZG (Rep g w) cv'.toList cs∧∀v∈cv',v.one1=true
 | [],[],ds,cs,cells,cv,_,_,hd,hc,ho,hf=>by
  cases hd
  cases hf
  exact⟨cv,rfl,hc,ho⟩
 |x::parts,q::pl,ds,cs,cells,cv,hpl,hn,hd,hc,ho,hf=>by
  obtain⟨i,v⟩:=x
  obtain⟨o,n⟩:=q
  cases hd with
  |cons hv hd =>
   rename_i d ds
   simp only[Zba]at hf
   split at hf
   ·rename_i hcond
    obtain⟨h0,h1,h2⟩:=hcond
    have hp:=hpl 0 _ _ rfl rfl
    obtain⟨hsz,hcell⟩:=Zc7 hv h0
    have hlen:=hc.len
    have hfold:=Zo0 v.cells.toList 0 o cv (by grind)
    simp only[Nat.add_zero,Array.length_toList,hsz,h1]at hfold
    have ha:ZG (Rep g w) (v.cells.toList) (cellsOf d):=Ya (by omega) hcell
    generalize hcv2:(v.cells.toList.zipIdx 0).foldl (fun(cs:Array Value) (x:Value×Nat)=>cs.setIfInBounds (o+x.2) x.1) cv=cv2 at hfold
    have hrep:ZG (Rep g w) cv2.toList (Zu cells o (cellsOf d)):=by
     rw[hfold];unfold Zu;rw[h1]
     exact((hc.take o).append ha).append (hc.drop (o+n))
    have hone:∀x∈cv2,x.one1=true:=fun x hx=>by
     have hx':x∈cv2.toList:=Array.mem_toList_iff.2 hx
     rw[hfold]at hx'
     simp only[List.mem_append]at hx'
     rcases hx' with (hx' |hx')|hx'
     ·exact ho x (Array.mem_toList_iff.1 (List.mem_of_mem_take hx'))
     ·exact Zgw hv h0 x (Array.mem_toList_iff.1 hx')
     ·exact ho x (Array.mem_toList_iff.1 (List.mem_of_mem_drop hx'))
    obtain⟨cv',hf',r1,r2⟩:=Zgm place parts pl ds cs _ cv2 (fun i x q hx hq=>hpl (i+1) x q (by grind) (by grind)) (by grind) hd hrep hone hf
    refine⟨cv',?_,r1,r2⟩
    simp only[Instr.fill,hp,hsz,h1]
    have:¬(n≠n ||decide (o+n > cv.size))=true:=by grind
    rw[if_neg (by omega)]
    rw[←hf',←hcv2]
    congr 1
    rw[←Array.foldl_toList,Array.toList_zipIdx]
   ·simp at hf
 | [],_::_,_,_,_,_,_,hn,_,_,_,_=>by simp at hn
 |_::_,[],_,_,_,_,_,hn,_,_,_,_=>by simp at hn
end
end Go.DL
namespace Go.DL
open Go
variable [Zqy]
variable {kp:Option (List Nat)}{L:Loc}{ρ:Env}{s:St}{w:World}{os:List DOp}{ds:List D}{dst:Option Nat}{tmps:Array Value}{g:G}{ν:Nat→Nat}{xs:List Opd}{side:Prop}{row:Nat→List D}
section
variable {P:Program} {g:G} {ν:Nat→Nat} {w:World} {L:Loc}
theorem ZcX:∀{vs ds},ZaZ vs=sO ds→ZG (Rep g w) vs ds∧∀v∈vs,v.one1=true
 | [],ds,h=>by simp only[ZaZ,ZEz]at h;subst h;exact⟨.nil,fun v hv=>by simp at hv⟩
 |v::vs,ds,h=>by
  simp only[ZaZ]at h
  split at h
  ·rename_i d ds' h1 h2
   simp only[ZEz]at h
   subst h
   obtain⟨r1,r2⟩:=ZcX h2
   have h0:Rep g w v d∧v.one1=true:=by
    unfold Zmf at h1
    split at h1<;>(try(simp at h1;done))
    ·split at h1
     ·rename_i hk;simp only[ZEz]at h1;subst h1;exact⟨.int _ _ hk,rfl⟩
     ·simp at h1
    ·simp only[ZEz]at h1;subst h1;exact⟨.bool _,rfl⟩
    ·split at h1
     ·rename_i hk;simp only[ZEz]at h1;subst h1;exact⟨.str _ _ rfl hk,rfl⟩
     ·simp at h1
    ·simp only[ZEz]at h1;subst h1;exact⟨.nilptr,rfl⟩
    ·simp only[ZEz]at h1;subst h1;exact⟨.nilsl,rfl⟩
    ·simp only[ZEz]at h1;subst h1;exact⟨.nilmap,rfl⟩
    ·simp only[ZEz]at h1;subst h1;exact⟨.nilfn,rfl⟩
    ·simp only[ZEz]at h1;subst h1;exact⟨.niliface,rfl⟩
   exact⟨.cons h0.1 r1,fun x hx=>by
    rcases List.mem_cons.1 hx with rfl|hx
    ·exact h0.2
    ·exact r2 x hx⟩
  ·simp at h
theorem ZvK{v d}(h:Zmf v=sO d):Rep g w v d∧v.one1=true:=by
 have:=ZcX (g:=g) (w:=w) (vs:=[v]) (ds:=[d]) (by simp[ZaZ,h])
 obtain⟨h1,h2⟩:=this
 cases h1 with
 |cons h _=>exact⟨h,h2 v (by simp)⟩
theorem Zj5{vs ds}(h:ZG (Rep g w) vs.toList ds)(ho:∀v∈vs,v.one1=true):Rep g w (.agg vs) (.agg ds):=by
 have:=Rep.agg (g:=g) (w:=w) vs.toList ds h.len h.get (fun v hv=>ho v (Array.mem_toList_iff.1 hv))
 simpa using this
theorem Zim{v d}(h:Zmg v=sO d):Rep g w v d:=by
 unfold Zmg at h
 split at h
 ·rename_i cs
  simp only[ZEN]at h
  obtain⟨ds,hd,rfl⟩:=h
  obtain⟨h1,h2⟩:=ZcX (g:=g) (w:=w) hd
  exact Zj5 h1 (fun v hv=>h2 v (Array.mem_toList_iff.2 hv))
 ·exact(ZvK h).1
theorem Zpj{t fs}(hu:P.underlying t=sO (.struct fs)):∀(is pl),KR P t is=sO pl →
  pl.length=is.length∧∀(i k:Nat) (q),is[i]?=sO k→pl[i]?=sO q→∃f,fs[k]?=sO f∧ZS P f.type=sO q.2∧f.offset=q.1
 | [],pl,h=>by simp only[KR,ZEz]at h;subst h;simp
 |k::is,pl,h=>by
  cases hl:KR P t is with
  |none=>simp[KR,hu,hl]at h
  |some l =>
   simp only[KR,hu,hl]at h
   split at h
   ·rename_i f hf
    simp only[ZEN]at h
    obtain⟨n,hn,rfl⟩:=h
    obtain⟨h1,h2⟩:=Zpj hu is l hl
    refine⟨by simp[h1],fun i k' q hi hq=>?_⟩
    cases i with
    |zero=>simp at hi hq;subst hi;subst hq;exact⟨f,hf,hn,rfl⟩
    |succ i=>exact h2 i k' q (by simpa using hi) (by simpa using hq)
   ·simp at h
theorem ZmW{t e m}(hu:P.underlying t=sO (.array m e)):∀(is pl),KR P t is=sO pl →
  pl.length=is.length∧∀(i k:Nat) (q),is[i]?=sO k→pl[i]?=sO q→∃n,ZS P e=sO n∧q=(k*n,n)
 | [],pl,h=>by simp only[KR,ZEz]at h;subst h;simp
 |k::is,pl,h=>by
  cases hl:KR P t is with
  |none=>simp[KR,hu,hl]at h
  |some l =>
   simp only[KR,hu,hl,ZEN]at h
   obtain⟨n,hn,rfl⟩:=h
   obtain⟨h1,h2⟩:=ZmW hu is l hl
   refine⟨by simp[h1],fun i k' q hi hq=>?_⟩
   cases i with
   |zero=>simp at hi hq;subst hi;subst hq;exact⟨n,hn,rfl⟩
   |succ i=>exact h2 i k' q (by simpa using hi) (by simpa using hq)
theorem ZkO:∀(fs:List Field),(fs.all fun f=>(ZS P f.type).isSome)=true →
  ∃pl,fs.mapM (fun f=>(P.info? f.type).map fun i=>(f.offset,i.size))=sO pl∧∀(k:Nat) (f n),fs[k]?=sO f→ZS P f.type=sO n→pl[k]?=sO (f.offset,n)
 | [],_=>⟨[],by simp,by simp⟩
 |f::fs,h=>by
  simp only[List.all_cons,ZEK]at h
  obtain⟨pl,h1,h2⟩:=ZkO fs h.2
  unfold ZS at h
  cases hi:P.info? f.type with
  |none=>simp[hi]at h
  |some i =>
   refine⟨(f.offset,i.size)::pl,by simp[List.mapM_cons,hi,h1],fun k f' n hk hn=>?_⟩
   cases k with
   |zero =>
    simp at hk;subst hk
    simp only[ZS,hi,ZE4,ZEz]at hn
    subst hn;rfl
   |succ k=>simpa using h2 k f' n (by simpa using hk) hn
theorem Zxa{t}{parts:List (Nat×Value)}{z pl zs ds cs}(hz:(P.info? t).bind (·.zero)=sO z)(hp:KR P t (parts.map (·.1))=sO pl)(hsz:Zjs P t=true)(hzs:ZaZ z.cells.toList=sO zs)(hd:ZG (Rep g w) (parts.map (·.2)) ds)(hf:Zba zs pl ds=sO cs)(hne:∃d,P.underlying t=sO d∧((∃fs,d=.struct fs)∨∃m e i,d=.array m e∧P.info? e=sO i)):
  ∃cv,(Instr.build t parts.toArray).run P w=.ok (.agg cv) w∧Rep g w (.agg cv) (.agg cs):=by
 obtain⟨d,hu,hd'⟩:=hne
 obtain⟨c1,c2⟩:=ZcX (g:=g) (w:=w) hzs
 have c2':∀v∈z.cells,v.one1=true:=fun v hv=>c2 v (Array.mem_toList_iff.2 hv)
 cases hit:P.info? t with
 |none=>simp[hit]at hz
 |some it =>
  simp only[hit,Option.bind_some]at hz
  rcases hd' with ⟨fs,rfl⟩|⟨m,e,i,rfl,hi⟩
  ·simp only[Zjs,hu]at hsz
   obtain⟨pls,hm,hpls⟩:=ZkO (P:=P) fs.toList hsz
   obtain⟨h1,h2⟩:=Zpj hu _ _ hp
   obtain⟨cv,hfill,hrep,hone⟩:=Zgm (g:=g) (w:=w) (pls.toArray[·]?) parts pl ds cs zs z.cells (fun i x q hx hq=>by
    obtain⟨f,hf1,hf2,hf3⟩:=h2 i x.1 q (by simp[hx]) hq
    have:=hpls x.1 f q.2 (by simpa using hf1) hf2
    simp only[List.getElem?_toArray,this,hf3]) (by simpa using h1.symm) hd c1 c2' hf
   refine⟨cv,run_build w t _ cv ?_,Zj5 hrep hone⟩
   simp only[Program.built,hit,hu,hz,hm]
   exact hfill
  ·obtain⟨h1,h2⟩:=ZmW hu _ _ hp
   obtain⟨cv,hfill,hrep,hone⟩:=Zgm (g:=g) (w:=w) (fun k=>sO (k*i.size,i.size)) parts pl ds cs zs z.cells (fun j x q hx hq=>by
    obtain⟨n,hn,rfl⟩:=h2 j x.1 q (by simp[hx]) hq
    simp only[ZS,hi,ZE4,ZEz]at hn
    rw[hn]) (by simpa using h1.symm) hd c1 c2' hf
   refine⟨cv,run_build w t _ cv ?_,Zj5 hrep hone⟩
   simp only[Program.built,hit,hu,hz,hi]
   exact hfill
end
section
variable {P:Program} {g:G} {ν:Nat→Nat} {w:World} {L:Loc} {σ:St}
theorem Wm{α β R}{a:α}{bs:List β}(h:ZG R [a] bs):∃b,bs=[b]∧R a b:=by
 cases h with
 |cons h t=>cases t;exact⟨_,rfl,h⟩
theorem JE{α β R}{a a':α}{bs:List β}(h:ZG R [a,a'] bs):∃b b',bs=[b,b']∧R a b∧R a' b':=by
 cases h with
 |cons h t=>obtain⟨b',rfl,h'⟩:=Wm t;exact⟨_,_,rfl,h,h'⟩
theorem Zg7:∀(ns:List Int) (s:ByteArray),(ns.foldl (fun r n=>r.push (UInt8.ofNat n.toNat)) s).data.toList=s.data.toList++ns.map fun n=>UInt8.ofNat n.toNat
 | [],s=>by simp
 |n::ns,s=>by rw[List.foldl_cons,Zg7 ns];simp
theorem ZsS{t x e r side}(ha:JD P t=sO false)(hx:ZI g ν w L x e)(hL:∀l cs,Zf L l=sO cs→YM g w (ν l) cs)(hS:Yb g σ w)(hq:qv L σ .load1 [e]=sO (side,r)):∃v,(Instr.loadAt t x).run P w=.ok v w∧ZI g ν w L v r:=by
 simp only[qv,ZEN]at hq
 obtain⟨d,hd,rfl,rfl⟩:=hq
 obtain⟨b,o,y,rfl,hy,hr,_⟩:=Zma hL hS hx hd
 exact⟨y,by simp[Instr.loadAt,Instr.sureAddr,loadVar,Zdx ha,hy],hr⟩
theorem ZsT{t n x e r side}(ha:JD P t=sO true)(hsz:ZS P t=sO n)(hx:ZI g ν w L x e)(hL:∀l cs,Zf L l=sO cs→YM g w (ν l) cs)(hS:Yb g σ w)(hq:qv L σ (.loadN n) [e]=sO (side,r))(hs:side):∃v,(Instr.loadAt t x).run P w=.ok v w∧ZI g ν w L v r:=by
 simp only[qv,ZEN]at hq
 obtain⟨⟨s',ds⟩,hd,rfl,rfl⟩:=hq
 obtain⟨a,rfl,vs,hrun,hr⟩:=ZmU (P:=P) hL hS hx hd hs
 exact⟨.agg vs.toArray,by simp[Instr.loadAt,Instr.sureAddr,loadVar,Ze8 ha,YG hsz,hrun],hr⟩
theorem ZyH{b o n cap cs v}(hS:Yb g σ w)(hv:Rep g w v (.msl b o n cap 1))(hcs:Z5 σ b=sO cs)(hlen:o+n≤cs.length)(hu:∀i,i<n→Zn5 (part cs (o+i) 1)):
  ∃x:Value,(Conv.bytesToString v).run P w=.ok x w∧Rep g w x (.str ((ZEO n).map fun i=>Zch (part cs (o+i) 1))):=by
 have main:∀cap',n≤cap'→cap'≤big→∃x:Value,(Conv.bytesToString (.slice (sO ⟨b,o,nO⟩) n cap')).run P w=.ok x w∧Rep g w x (.str ((ZEO n).map fun i=>Zch (part cs (o+i) 1))):=by
  intro cap' h1 h2
  obtain⟨vs,hr,hp⟩:=ZeB (P:=P) (QL hS hcs) hlen
  have hvs:vs=((ZEO n).map fun i=>((Zch (part cs (o+i) 1)).toNat:Int)).map (Value.int .u8):=by
   generalize hpe:part cs o n=pc at hp
   have hpl:pc.length=n:=by rw[←hpe];simp[part];omega
   cases hp with
   |agg vs' _ hn hg _ =>
   apply List.ext_getElem?
   intro i
   by_cases hi:i<n
   ·have hvi:i<vs.length:=by omega
    obtain⟨m,hm⟩:=hu i hi
    have hci:cs[o+i]?=sO (.int .u8 m):=by
     have:=congrArg (fun l=>l[0]?) hm
     simpa[part]using this
    have hpi:pc[i]?=sO (.int .u8 m):=by
     rw[←hpe];simp[part,hi];exact hci
    have:=hg i vs[i] _ (by grind) hpi
    simp_all
    generalize vs[i]=xv at this
    cases this
    rename_i hin
    simp[hi,Zch]
    simp[inR,IntKind.min,IntKind.max,IntKind.signed,IntKind.bits]at hin
    omega
   simp_all
  refine⟨_,run_bytesToString w _ _ cap' _ (by rw[hr,hvs]),.str _ _ ?_ (by grind)⟩
  rw[Zg7]
  simp
 cases hv with
 |msl _ _ _ _ _ h hb=>exact main cap h hb
 |mslx a=>exact⟨.string .empty,by simp[Conv.bytesToString,loadCells,loadCellsFrom],.str _ _ rfl (by simp)⟩
theorem Zu5{s d c x e r side}(hS:Yb g σ w)(hc:Zt5 P s d=sO c)(hx:ZI g ν w L x e)(hq:qv L σ (.conv c) [e]=sO (side,r))(hs:side):
  ∃v,(convert s d x).run P w=.ok v w∧ZI g ν w L v r:=by
 unfold Zt5 at hc
 split at hc<;>(try(simp at hc;done))
 ·rename_i k0 k h1 h2
  cases hc
  cases e with
  |d y =>
   cases y<;>simp only[qv,reduceCtorEq]at hq
   rename_i k' n
   cases hx
   rename_i hn
   split at hq
   ·rename_i hk;subst hk
    cases hq
    exact⟨.int k n,by simp[convert,run_underlying h1,run_underlying h2,Conv.intToInt,ZaS _ _ hn],.int _ _ hn⟩
   ·cases hq
    exact⟨.int k (k.wrap n),by simp[convert,run_underlying h1,run_underlying h2,Conv.intToInt],.int _ _ (ZgM _ _)⟩
  |loc l o=>simp[qv]at hq
  |when b e=>simp[qv]at hq
 ·rename_i k0 h1 h2
  cases hc
  cases e with
  |d y =>
   cases y<;>simp only[qv,reduceCtorEq]at hq
   rename_i k' n
   cases hx
   cases hq
   exact⟨.string (Utf8.encode n),by simp[convert,run_underlying h1,run_underlying h2,Conv.intToString],.str _ _ rfl hs⟩
  |loc l o=>simp[qv]at hq
  |when b e=>simp[qv]at hq
 ·rename_i h1 h2
  cases hc
  cases e with
  |d y =>
   cases y<;>simp only[qv,reduceCtorEq]at hq
   cases hq
   cases hx
   rename_i s0 e0 b0
   exact⟨.string s0,by simp[convert,run_underlying h1,run_underlying h2],.str _ _ e0 b0⟩
  |loc l o=>simp[qv]at hq
  |when b e=>simp[qv]at hq
 ·rename_i el h1 h2
  split at hc<;>(try(simp at hc;done))
  rename_i h3
  cases hc
  cases e with
  |d y =>
   cases y<;>simp only[qv,reduceCtorEq]at hq
   ·cases hq
    cases hx
    exact⟨.string .empty,by simp[convert,run_underlying h1,run_underlying h2,run_underlying h3,Conv.bytesToString],.str _ _ rfl (by simp[big])⟩
   ·split at hq<;>(try(simp at hq;done))
    rename_i t n s row hs1
    cases hq
    subst hs1
    cases hx with
    |sl0 av=>exact⟨.string .empty,by cases av<;>simp[convert,run_underlying h1,run_underlying h2,run_underlying h3,Conv.bytesToString,loadCells,loadCellsFrom],.str _ _ rfl (by simp[big])⟩
    |sl b o _ cap _ _ _ f hl hc hp hr one ht hcap hb =>
     have hf:∀i,i<n→f i 0=.int .u8 ((Zch (row i)).toNat:Int):=fun i hi=>by
      obtain⟨m,hm⟩:=hs i hi
      have:=hr i 0 _ hi (by rw[hm];rfl)
      generalize f i 0=fv at this
      cases this
      rename_i hin
      rw[hm];simp only[Zch]
      congr 1
      simp[inR,IntKind.min,IntKind.max,IntKind.signed,IntKind.bits]at hin
      simp;omega
     have hcells:(loadCells ⟨b,o,nO⟩ n).run P w=.ok (((ZEO n).map fun i=>((Zch (row i)).toNat:Int)).map (Value.int .u8)).toArray w:=by
      rw[run_loadCells (P:=P) w ⟨b,o,nO⟩ n (fun i=>f i 0) (fun j hj=>by
       have:=hc j 0 hj (by omega)
       rw[W5];simpa using this)]
      congr 2
      rw[List.map_map]
      exact List.map_congr_left fun i hi=>hf i (by simpa using hi)
     refine⟨_,by simp[convert,run_underlying h1,run_underlying h2,run_underlying h3,run_bytesToString w _ _ cap _ hcells];rfl,.str _ _ ?_ (by simp;omega)⟩
     rw[Zg7]
     simp[List.map_map,Function.comp_def]
   ·split at hq<;>(try(simp at hq;done))
    rename_i b o n cap z cs hcs
    split at hq<;>(try(simp at hq;done))
    rename_i hz
    cases hq
    subst hz
    obtain⟨xv,hr,hp⟩:=ZyH (P:=P) hS hx hcs hs.1 hs.2
    have hconv:(convert s d x).run P w=(Conv.bytesToString x).run P w:=by cases hx<;>simp[convert,run_underlying h1,run_underlying h2,run_underlying h3]
    exact⟨xv,hconv.trans hr,hp⟩
  |loc l o=>simp[qv]at hq
  |when b e=>simp[qv]at hq
end
section
variable {P:Program} {g:G} {ν:Nat→Nat} {w:World} {L:Loc}
theorem KS{v k n}(h:Rep g w v (.int k n)):v=.int k n∧inR k n:=by
 cases h with
 |int _ _ h=>exact⟨rfl,h⟩
theorem Zck{x k n}(h:Rep g w x (.int k n)){y:Nat}{code}(h0:0≤n)(h1:n≤y):
  (Instr.sliceBound x y code).run P w=.ok n.toNat w:=by
 obtain⟨rfl,_⟩:=KS h
 simp[Instr.sliceBound,asIntOf,h0,h1]
def QX(g:G)(w:World):Option Value→Option Int→Prop
 |none,nO=>True
 |some v,sO n=>∃k,Rep g w v (.int k n)
 |_,_=>False
theorem Zam{is}{n cap:Nat}{lo hi mx lo' hi' mx'}(h1:QX g w lo lo')(h2:QX g w hi hi')(h3:QX g w mx mx')(hmh:mx.isSome=true→hi.isSome=true)(a:0≤lo'.getD 0)(b:lo'.getD 0≤hi'.getD n)(c:hi'.getD n≤mx'.getD cap)(d:mx'.getD cap≤cap):
  (Instr.sliceBounds is n cap lo hi mx).run P w=.ok ((lo'.getD 0).toNat,(hi'.getD n).toNat,(mx'.getD cap).toNat) w:=by
 cases mx with
 |none =>
  cases mx' with
  |some _=>exact h3.elim
  |none =>
   cases hi with
   |none =>
    cases hi' with
    |some _=>exact h2.elim
    |none =>
     cases lo with
     |none =>
      cases lo' with
      |some _=>exact h1.elim
      |none=>simp[Instr.sliceBounds]
     |some lv =>
      cases lo' with
      |none=>exact h1.elim
      |some l =>
       obtain⟨k,hk⟩:=h1
       simp[Instr.sliceBounds,Zck hk a b]
   |some hv =>
    cases hi' with
    |none=>exact h2.elim
    |some hh =>
     obtain⟨k2,hk2⟩:=h2
     simp at b c⊢
     have bo:=Zck (P:=P) hk2 (y:=cap) (code:=if is then .sliceAcap else .sliceAlen) (by omega) c
     cases lo with
     |none =>
      cases lo' with
      |some _=>exact h1.elim
      |none=>simp[Instr.sliceBounds,bo]
     |some lv =>
      cases lo' with
      |none=>exact h1.elim
      |some l =>
       obtain⟨k,hk⟩:=h1
       simp at a b⊢
       have bl:=Zck (P:=P) hk (y:=hh.toNat) (code:=.sliceB) a (by omega)
       simp[Instr.sliceBounds,bo,bl]
 |some mv =>
  cases mx' with
  |none=>exact h3.elim
  |some m =>
   obtain⟨k3,hk3⟩:=h3
   cases hi with
   |none=>grind
   |some hv =>
    cases hi' with
    |none=>exact h2.elim
    |some hh =>
     obtain⟨k2,hk2⟩:=h2
     simp at b c⊢
     have bm:=Zck (P:=P) hk3 (y:=cap) (code:=if is then .slice3Acap else .slice3Alen) (by omega) d
     have bo:=Zck (P:=P) hk2 (y:=m.toNat) (code:=.slice3B) (by omega) (by omega)
     cases lo with
     |none =>
      cases lo' with
      |some _=>exact h1.elim
      |none=>simp[Instr.sliceBounds,bo,bm]
     |some lv =>
      cases lo' with
      |none=>exact h1.elim
      |some l =>
       obtain⟨k,hk⟩:=h1
       simp at a b⊢
       have bl:=Zck (P:=P) hk (y:=hh.toNat) (code:=.slice3C) a (by omega)
       simp[Instr.sliceBounds,bo,bm,bl]
theorem Zyk{t e s}(hu:P.underlying t=sO (.slice e))(hsz:ZS P e=sO s){x d r}(hx:Rep g w x d){lo hi mx lo' hi' mx'}(h1:QX g w lo lo')(h2:QX g w hi hi')(h3:QX g w mx mx')(hmh:mx.isSome=true→hi.isSome=true){side}(hq:ZaC s lo' hi' mx' d=sO (side,r))(hs:side):
  ∃v,(Instr.sliceAt t x lo hi mx).run P w=.ok v w∧Rep g w v r:=by
 cases d<;>simp only[ZaC,reduceCtorEq]at hq
 ·
  simp only[ZEz,ZEL]at hq
  obtain⟨rfl,rfl⟩:=hq
  cases hx
  obtain⟨e1,e2,e3⟩:=hs
  refine⟨.slice nO 0 0,?_,.nilsl⟩
  have hb:=Zam (P:=P) (is:=true) (n:=0) (cap:=0) h1 h2 h3 hmh (by omega) (by simp[e1,e2]) (by simp[e2,e3]) (by simp[e3])
  simp only[Instr.sliceAt,Sem.run_bind,run_underlying hu,Result.andThen_ok,Instr.slice,hb]
  simp[e1,e2,e3,YG hsz]
 ·
  rename_i t n s' row
  split at hq<;>(try(simp at hq;done))
  rename_i hss
  subst hss
  simp only[ZEz,ZEL]at hq
  obtain⟨rfl,rfl⟩:=hq
  obtain⟨a,b,c,d⟩:=hs
  have mk:∀(cap:Nat),n≤cap→hi'.getD n≤mx'.getD cap∧mx'.getD cap≤cap:=fun cap hcap=>by
   cases mx' with
   |none=>simp only[Option.getD_none];omega
   |some m=>have:=d m rfl;simp only[ZFe];omega
  cases hx with
  |sl0 av _ _ _ ht =>
   have hb:=Zam (P:=P) (is:=true) (n:=0) (cap:=0) h1 h2 h3 hmh a b (mk 0 (ZEP _)).1 (mk 0 (ZEP _)).2
   have e2:hi'.getD ((0:Nat):Int)=0:=by omega
   have e1:lo'.getD 0=0:=by omega
   have e3:mx'.getD ((0:Nat):Int)=0:=by have:=mk 0 (ZEP _);omega
   simp only[Int.natCast_zero]at e2 e3
   refine⟨.slice av 0 0,?_,?_⟩
   ·cases av<;>simp only[Instr.sliceAt,Sem.run_bind,run_underlying hu,Result.andThen_ok,Instr.slice,hb]
    all_goals simp[e1,e2,e3,YG hsz]
   ·have:(hi'.getD ((0:Nat):Int)-lo'.getD 0).toNat=0:=by simp[e1,e2]
    rw[this]
    refine .sl0 av _ _ _ ?_
    intro b hb
    cases mx' with
    |some m=>simp only[Zbf]at hb;split at hb<;>simp at hb
    |none =>
     simp only[Zbf]at hb
     split at hb
     ·cases t with
      |tip b'=>exact absurd rfl (ht b')
      |_=>simp at hb
     ·simp at hb
  |sl bb o _ cap _ _ _ f hl hc hp hr one ht hcap hbig =>
   have hb:=Zam (P:=P) (is:=true) (n:=n) (cap:=cap) h1 h2 h3 hmh a b (mk cap hcap).1 (mk cap hcap).2
   have hm:=mk cap hcap
   simp only[Instr.sliceAt,Sem.run_bind,run_underlying hu,Result.andThen_ok,Instr.slice,hb]
   simp only[YG hsz,Result.andThen_ok,Sem.run_pure]
   generalize hln:lo'.getD 0=l at *
   generalize hhn:hi'.getD (n:Int)=h at *
   obtain⟨l,rfl⟩:=Int.eq_ofNat_of_zero_le a
   obtain⟨h,rfl⟩:=Int.eq_ofNat_of_zero_le (show 0≤h by omega)
   generalize hmn:mx'.getD (cap:Int)=m at *
   obtain⟨m,rfl⟩:=Int.eq_ofNat_of_zero_le (show 0≤m by omega)
   simp only[Int.toNat_natCast]
   refine⟨_,rfl,?_⟩
   have hsub:((h:Int)-(l:Int)).toNat=h-l:=by omega
   rw[hsub]
   have hle:h≤n:=by omega
   have hlh:l≤h:=by omega
   have hhm:h≤m:=by omega
   have hmc:m≤cap:=by omega
   generalize htk:Zbf t n l h mx'=tk
   have htok:∀o',(l=0→o'=o)→ZjO w tk bb o' (h-l) (m-l) s':=by
    intro o' ho'
    cases mx' with
    |some m' =>
     simp only[Zbf]at htk
     simp only[ZFe]at hmn
     split at htk
     ·subst htk;simp only[ZjO];omega
     ·subst htk;trivial
    |none =>
     simp only[Zbf]at htk
     simp only[Option.getD_none]at hmn
     have hmcap:m=cap:=by omega
     split at htk
     ·rename_i hhn'
      cases t with
      |none=>simp only at htk;subst htk;trivial
      |full=>simp only at htk;subst htk;simp only[ZjO]at ht⊢;omega
      |tip b' =>
       simp only at htk
       split at htk
       ·rename_i hl0
        subst htk
        obtain⟨t1,t2,t3⟩:=ht
        have hl0':l=0:=by omega
        exact⟨t1,(ho' hl0').trans t2,by rw[hmcap,hl0'];simpa using t3⟩
       ·subst htk;trivial
     ·subst htk;trivial
   by_cases hml:m=l
   ·simp only[hml,if_true]
    have hh:h-l=0:=by omega
    rw[hh,Nat.sub_self]
    have htok':=htok o (fun _=>rfl)
    rw[hh,hml,Nat.sub_self]at htok'
    exact .sl bb o 0 0 s' _ tk (fun _ _=>undef) (fun i hi=>by omega) (fun i j hi=>by omega) (fun i j hi=>by omega) (fun i j d hi=>by omega) (fun i j hi=>by omega) htok' (by omega) (by omega)
   ·simp only[hml,if_false,ZE4,W5]
    refine .sl bb (o+l*s') (h-l) (m-l) s' _ tk (fun i j=>f (l+i) j) (fun i hi=>hl _ (by omega)) (fun i j hi hj=>?_) (fun i j hi hj=>?_) (fun i j d hi hd=>hr _ _ _ (by omega) hd)
     (fun i j hi hj=>one _ _ (by omega) hj) (htok _ (fun h0=>by rw[h0];simp)) (by omega) (by omega)
    ·have:=hc (l+i) j (by omega) hj
     rw[show o+l*s'+i*s'+j=o+(l+i)*s'+j from by rw[ZE2];omega];exact this
    ·have:=hp (l+i) j (by omega) hj
     rw[show o+l*s'+i*s'+j=o+(l+i)*s'+j from by rw[ZE2];omega];exact this
 ·
  rename_i bb o n cap s'
  split at hq<;>(try(simp at hq;done))
  rename_i hss
  subst hss
  simp only[ZEz,ZEL]at hq
  obtain⟨rfl,rfl⟩:=hq
  obtain⟨a,b,c,d⟩:=hs
  cases hx with
  |mslx av _ _ _ =>
   have hb:=Zam (P:=P) (is:=true) (n:=0) (cap:=0) h1 h2 h3 hmh a b c d
   have e3:mx'.getD ((0:Nat):Int)=0:=by omega
   have e2:hi'.getD ((0:Nat):Int)=0:=by omega
   have e1:lo'.getD 0=0:=by omega
   refine⟨.slice (sO av) 0 0,?_,?_⟩
   ·simp only[Instr.sliceAt,Sem.run_bind,run_underlying hu,Result.andThen_ok,Instr.slice,hb]
    simp only[Int.natCast_zero]at e2 e3
    simp[e1,e2,e3,YG hsz]
   ·rw[e1,e2,e3];exact .mslx _ _ _ _
  |msl _ _ _ _ _ hn hb' =>
   have hb:=Zam (P:=P) (is:=true) (n:=n) (cap:=cap) h1 h2 h3 hmh a b c d
   simp only[Instr.sliceAt,Sem.run_bind,run_underlying hu,Result.andThen_ok,Instr.slice,hb]
   simp only[YG hsz,Result.andThen_ok,Sem.run_pure]
   generalize hln:lo'.getD 0=l at *
   generalize hhn:hi'.getD (n:Int)=h at *
   generalize hmn:mx'.getD (cap:Int)=m at *
   obtain⟨l,rfl⟩:=Int.eq_ofNat_of_zero_le a
   obtain⟨h,rfl⟩:=Int.eq_ofNat_of_zero_le (show 0≤h by omega)
   obtain⟨m,rfl⟩:=Int.eq_ofNat_of_zero_le (show 0≤m by omega)
   simp only[Int.toNat_natCast,show((h:Int)-(l:Int)).toNat=h-l by omega,show((m:Int)-(l:Int)).toNat=m-l by omega]
   refine⟨_,rfl,?_⟩
   by_cases hml:m=l
   ·subst hml
    simp only[if_true]
    exact .msl _ _ _ _ _ (by omega) (by omega)
   ·have:¬(m:Int)=l:=by omega
    simp only[hml,this,if_false,ZE4,W5]
    exact .msl _ _ _ _ _ (by omega) (by omega)
end
section
variable {P:Program} {g:G} {ν:Nat→Nat} {w:World} {L:Loc} {σ:St}
theorem Zpw{s k f}(h:Zgl P s k=sO f):∃fs,P.underlying s=sO (.struct fs)∧fs[k]?=sO f:=by
 unfold Zgl at h
 split at h
 ·rename_i fs hu;exact⟨fs,hu,h⟩
 ·simp at h
theorem ZsQ{s k n f x e r side}(hf:Zgl P s k=sO f)(hsz:ZS P f.type=sO n)(hn:n≠0)(hx:ZI g ν w L x e)(hq:qv L σ (.faddr f.offset) [e]=sO (side,r)):∃v,(Instr.fieldAt s x k).run P w=.ok v w∧ZI g ν w L v r:=by
 obtain⟨fs,hu,hk⟩:=Zpw hf
 have run:∀b o,(Instr.fieldAt s (.pointer (sO ⟨b,o,nO⟩)) k).run P w=.ok (.pointer (sO ⟨b,o+f.offset,nO⟩)) w:=fun b o=>by
  simp[Instr.fieldAt,run_underlying hu,hk,Instr.sureAddr,fieldPlace,YG hsz,hn,W5]
 cases e with
 |d y =>
  cases y<;>simp only[qv,reduceCtorEq,ZEz,ZEL]at hq
  ·rename_i cells off
   obtain⟨rfl,rfl⟩:=hq
   cases hx with
   |ep b o _ _ f' h1 h2 h3 one =>
    have:=Rep.ep (g:=g) (w:=w) b o (off+f.offset) cells f' h1 h2 h3 one
    exact⟨_,run _ _,by rw[Nat.add_assoc];exact this⟩
  ·obtain⟨rfl,rfl⟩:=hq
   cases hx
   exact⟨_,run _ _,.ptr _ _⟩
 |loc l o =>
  simp only[qv,ZEz,ZEL]at hq
  obtain⟨rfl,rfl⟩:=hq
  obtain⟨h1,rfl⟩:=hx
  exact⟨_,run _ _,h1,rfl⟩
 |when b e=>simp[qv]at hq
theorem ZsR{t e n x i ex ei r side}(hu:P.underlying t=sO (.slice e))(hsz:ZS P e=sO n)(hx:ZI g ν w L x ex)(hi:ZI g ν w L i ei)(hq:qv L σ (.iaddr n) [ex,ei]=sO (side,r))(hs:side):∃v,(Instr.indexAt t x i).run P w=.ok v w∧ZI g ν w L v r:=by
 cases ex with
 |d y =>
  cases y<;>(try(simp[qv]at hq;done))
  ·rename_i tk m s' row
   cases ei with
   |d z =>
    cases z<;>simp only[qv,reduceCtorEq]at hq
    rename_i k j
    obtain⟨rfl,hin⟩:=KS hi
    split at hq<;>(try(simp at hq;done))
    rename_i hss;subst hss
    simp only[ZEz,ZEL]at hq
    obtain⟨rfl,rfl⟩:=hq
    obtain⟨h0,h1⟩:=hs
    cases hx with
    |sl0=>omega
    |sl b o _ cap _ _ _ f hl hc hp hr one ht hcap hbig =>
     have hlt:j.toNat<m:=by omega
     have:=Rep.ep (g:=g) (w:=w) b (o+j.toNat*s') 0 (row j.toNat) (fun c=>f j.toNat c) (fun c hc'=>by
      rw[hl _ hlt]at hc';exact hc _ _ hlt hc') (fun c hc'=>by rw[hl _ hlt]at hc';exact hp _ _ hlt hc') (fun c d hd=>hr _ _ _ hlt hd) (fun c hc'=>by rw[hl _ hlt]at hc';exact one _ _ hlt hc')
     refine⟨_,?_,this⟩
     simp[Instr.indexAt,asIntOf,run_underlying hu,h0,h1,YG hsz,W5]
   |loc l o=>simp[qv]at hq
   |when b e=>simp[qv]at hq
  ·rename_i b o m cap s'
   cases ei with
   |d z =>
    cases z<;>simp only[qv,reduceCtorEq]at hq
    rename_i k j
    obtain⟨rfl,hin⟩:=KS hi
    split at hq<;>(try(simp at hq;done))
    rename_i hss;subst hss
    simp only[ZEz,ZEL]at hq
    obtain⟨rfl,rfl⟩:=hq
    obtain⟨h0,h1⟩:=hs
    cases hx<;>try omega
    refine⟨_,?_,Rep.ptr b (o+j.toNat*s')⟩
    simp[Instr.indexAt,asIntOf,run_underlying hu,h0,h1,YG hsz,W5]
   |loc l o=>simp[qv]at hq
   |when b e=>simp[qv]at hq
 |loc l o=>cases ei<;>simp[qv]at hq
 |when b e=>cases ei<;>simp[qv]at hq
theorem Zr9{t e m n x i ex ei r side}(hu:P.underlying t=sO (.array m e))(hsz:ZS P e=sO n)(hx:ZI g ν w L x ex)(hi:ZI g ν w L i ei)(hq:qv L σ (.iaddrA m n) [ex,ei]=sO (side,r))(hs:side):∃v,(Instr.indexAt t x i).run P w=.ok v w∧ZI g ν w L v r:=by
 cases ei with
 |d z =>
  cases z<;>(try(cases ex<;>(try(rename_i y;cases y))<;>simp[qv]at hq;done))
  rename_i k j
  obtain⟨rfl,hin⟩:=KS hi
  have run:∀b o,(0≤j∧j<(m:Int))→(Instr.indexAt t (.pointer (sO ⟨b,o,nO⟩)) (.int k j)).run P w=.ok (.pointer (sO ⟨b,o+j.toNat*n,nO⟩)) w:=fun b o h=>by
   simp[Instr.indexAt,asIntOf,run_underlying hu,h.1,h.2,YG hsz,W5,Instr.sureAddr]
  cases ex with
  |d y =>
   cases y<;>simp only[qv,reduceCtorEq,ZEz,ZEL]at hq
   ·rename_i cells off
    obtain⟨rfl,rfl⟩:=hq
    cases hx with
    |ep b o _ _ f' h1 h2 h3 one =>
     have:=Rep.ep (g:=g) (w:=w) b o (off+j.toNat*n) cells f' h1 h2 h3 one
     exact⟨_,run _ _ hs,by rw[Nat.add_assoc];exact this⟩
   ·rename_i b o
    obtain⟨rfl,rfl⟩:=hq
    cases hx
    exact⟨_,run _ _ hs,Rep.ptr _ _⟩
  |loc l o =>
   simp only[qv,ZEz,ZEL]at hq
   obtain⟨rfl,rfl⟩:=hq
   obtain⟨h1,rfl⟩:=hx
   exact⟨_,run _ _ hs,h1,rfl⟩
  |when b e=>simp[qv]at hq
 |loc l o=>cases ex<;>(try(rename_i y;cases y))<;>simp[qv]at hq
 |when b e=>cases ex<;>(try(rename_i y;cases y))<;>simp[qv]at hq
theorem ev{s e}(h:∃v,s.run P w=.ok v w∧ZI g ν w L v e):
  ∃v,(do pure (Next.value (←s)):Sem Next).run P w=.ok (.value v) w∧ZI g ν w L v e:=Zw5.next h
theorem ZsU{x e r side op ρv}(hv:ρv op=x)(hx:ZI g ν w L x e)(hq:qv L σ .nilck [e]=sO (side,r))(dst ty pos)(af gd):∃v,(execOp ρv ⟨dst,.nilCheck op,ty,pos,af,gd⟩).run P w=.ok (.value v) w∧ZI g ν w L v r:=by
 subst hv
 cases e with
 |d y =>
  cases y<;>simp only[qv,reduceCtorEq,ZEz,ZEL]at hq
  ·obtain⟨rfl,rfl⟩:=hq
   refine⟨_,?_,hx⟩
   have hx':Rep g w (ρv op) _:=hx
   generalize hz:ρv op=z at hx'
   cases hx'
   simp[execOp,hz]
  ·obtain⟨rfl,rfl⟩:=hq
   refine⟨_,?_,hx⟩
   have hx':Rep g w (ρv op) _:=hx
   generalize hz:ρv op=z at hx'
   cases hx'
   simp[execOp,hz]
  ·rename_i fn fs cs
   refine⟨ρv op,?_,?_⟩
   ·have hx':Rep g w (ρv op) _:=hx
    generalize hz:ρv op=z at hx'
    cases hx'
    cases fn<;>simp at hq
    ·simp[execOp,hz]
    ·simp[execOp,hz]
   ·cases fn<;>simp at hq
    ·obtain⟨_,rfl⟩:=hq;exact hx
    ·obtain⟨_,rfl⟩:=hq;exact hx
 |loc l o =>
  simp only[qv,ZEz,ZEL]at hq
  obtain⟨rfl,rfl⟩:=hq
  refine⟨_,?_,hx⟩
  obtain⟨_,h2⟩:=hx
  simp[execOp,h2]
 |when b e=>simp[qv]at hq
end
section
variable {P:Program} {g:G} {ν:Nat→Nat} {w:World} {L:Loc} {σ:St}
theorem ZgU{ρv lo hi mx es l h m}(hes:ZG (ZI g ν w L) ((Qp lo++Qp hi++Qp mx).map ρv) es)(hl:Wx [lo.isSome,hi.isSome,mx.isSome] es=sO [l,h,m]):QX g w (lo.map ρv) l∧QX g w (hi.map ρv) h∧QX g w (mx.map ρv) m:=by
 have step:∀(o:Option Operand) (rest:List Operand) (es:List E) (bs:List Bool) (r:List (Option Int)),ZG (ZI g ν w L) ((Qp o++rest).map ρv) es→Wx (o.isSome::bs) es=sO r →
   ∃x r' es',r=x::r'∧QX g w (o.map ρv) x∧Wx bs es'=sO r'∧ZG (ZI g ν w L) (rest.map ρv) es':=by
  intro o rest es bs r hes hl
  cases o with
  |none =>
   simp only[Option.isSome_none,Wx,ZEN]at hl
   obtain⟨r',hr',rfl⟩:=hl
   exact⟨nO,r',es,rfl,trivial,hr',by simpa[Qp]using hes⟩
  |some x =>
   simp only[Qp,Option.toList_some,List.singleton_append,ZEQ]at hes
   cases hes with
   |cons hx ht =>
    rename_i e es
    cases e with
    |d y =>
     cases y<;>simp only[Option.isSome_some,Wx,reduceCtorEq,ZEN]at hl
     obtain⟨r',hr',rfl⟩:=hl
     exact⟨_,r',es,rfl,⟨_,hx⟩,hr',ht⟩
    |loc l o=>simp[Wx]at hl
    |when c e=>simp[Wx]at hl
 rw[ZE9]at hes
 obtain⟨x,r1,es1,e1,b1,hl1,hes1⟩:=step lo _ es _ _ hes hl
 obtain⟨y,r2,es2,e2,b2,hl2,hes2⟩:=step hi _ es1 _ _ hes1 hl1
 obtain⟨z,r3,es3,e3,b3,hl3,hes3⟩:=step mx [] es2 _ _ (by simpa using hes2) hl2
 subst e2;subst e3
 simp only[List.cons.injEq]at e1
 obtain⟨rfl,rfl,rfl,rfl⟩:=e1
 exact⟨b1,b2,b3⟩
theorem Zj7{v l}(h:Rep g w v (.str l)):∃s:ByteArray,v=.string s∧s.data.toList=l∧l.length≤big:=by
 cases h with
 |str s _ h hb=>exact⟨s,rfl,h,hb⟩
theorem Zbn{v b}(h:Rep g w v (.bool b)):v=.bool b:=by
 cases h;rfl
theorem Zsc{t}(hu:P.underlying t=sO .string){ρv x lo hi es}(hes:ZG (ZI g ν w L) ((x::(Qp lo++Qp hi)).map ρv) es){side r}(hq:qv L σ (.sliceS lo.isSome hi.isSome) es=sO (side,r))(hs:side):
  ∃v,(Instr.sliceAt t (ρv x) (lo.map ρv) (hi.map ρv) nO).run P w=.ok v w∧ZI g ν w L v r:=by
 simp only[ZEQ]at hes
 cases hes with
 |cons hx ht =>
  rename_i e es
  cases e with
  |loc l o=>simp[qv]at hq
  |when c e=>simp[qv]at hq
  |d y =>
   cases y<;>(try(simp[qv]at hq;done))
   rename_i s
   simp only[qv]at hq
   split at hq
   ·rename_i l h m hl
    simp only[ZEz,ZEL]at hq
    obtain⟨rfl,rfl⟩:=hq
    obtain⟨b1,b2,b3⟩:=ZgU (mx:=nO) (by simpa[Qp]using ht) hl
    obtain⟨a,b,c⟩:=hs
    obtain⟨s0,hs0,e0,hb0⟩:=Zj7 hx
    have hsz:s0.size=s.length:=by rw[←e0];rfl
    have hb:=Zam (P:=P) (is:=false) (n:=s0.size) (cap:=s0.size) (mx:=nO) (mx':=nO) b1 b2 trivial (by simp) a (by rw[hsz];exact b) (by rw[hsz];simpa using c) (by simp)
    simp only[Instr.sliceAt,Sem.run_bind,run_underlying hu,Result.andThen_ok,Instr.slice,hs0]
    simp only[Option.isSome_none,ZE3,if_false,hb,Result.andThen_ok,Sem.run_pure,Sem.run_bind]
    refine⟨_,rfl,.str _ _ ?_ ?_⟩
    ·rw[hsz]
     simp only[ByteArray.data_extract,Array.toList_extract,List.extract_eq_take_drop,e0]
    ·simp;omega
   ·simp at hq
theorem ZsV{t el n}(hu:P.underlying t=sO (.slice el))(hsz:ZS P el=sO n){ρv x lo hi mx es}(hmh:mx.isSome=true→hi.isSome=true)(hes:ZG (ZI g ν w L) ((x::(Qp lo++Qp hi++Qp mx)).map ρv) es){side r}(hq:qv L σ (.slice n lo.isSome hi.isSome mx.isSome) es=sO (side,r))(hs:side):
  ∃v,(Instr.sliceAt t (ρv x) (lo.map ρv) (hi.map ρv) (mx.map ρv)).run P w=.ok v w∧ZI g ν w L v r:=by
 simp only[ZEQ]at hes
 cases hes with
 |cons hx ht =>
  rename_i e es
  cases e with
  |loc l o=>simp[qv]at hq
  |when c e=>simp[qv]at hq
  |d y =>
   simp only[qv]at hq
   split at hq
   ·rename_i l h m hl
    simp only[ZEN,ZEL]at hq
    obtain⟨⟨s',r'⟩,hr',rfl,rfl⟩:=hq
    obtain⟨b1,b2,b3⟩:=ZgU ht hl
    exact Zyk hu hsz hx b1 b2 b3 (by simpa using hmh) hr' hs
   ·simp at hq
theorem Zsb{t el k n}(hu:P.underlying t=sO (.array k el))(hsz:ZS P el=sO n){ρv x lo hi mx es}(hmh:mx.isSome=true→hi.isSome=true)(hes:ZG (ZI g ν w L) ((x::(Qp lo++Qp hi++Qp mx)).map ρv) es){side r}(hq:qv L σ (.sliceA k n lo.isSome hi.isSome mx.isSome) es=sO (side,r))(hs:side):
  ∃v,(Instr.sliceAt t (ρv x) (lo.map ρv) (hi.map ρv) (mx.map ρv)).run P w=.ok v w∧ZI g ν w L v r:=by
 simp only[ZEQ]at hes
 cases hes with
 |cons hx ht =>
  rename_i e es
  cases e with
  |loc l o=>simp[qv]at hq
  |when c e=>simp[qv]at hq
  |d y =>
   cases y<;>(try(simp[qv]at hq;done))
   rename_i b o
   simp only[qv]at hq
   split at hq
   ·rename_i l h m hl
    simp only[ZEz,ZEL]at hq
    obtain⟨rfl,rfl⟩:=hq
    obtain⟨b1,b2,b3⟩:=ZgU ht hl
    obtain⟨h1,h2,h3,h4,h5⟩:=hs
    have hb:=Zam (P:=P) (is:=false) (n:=k) (cap:=k) b1 b2 b3 (by simpa using hmh) h1 h2 h3 h4
    have hxv:ρv x=.pointer (sO ⟨b,o,nO⟩):=by
     have hx':Rep g w (ρv x) (.ptr b o):=hx
     generalize ρv x=xv at hx'
     cases hx';rfl
    have hrep:Rep g w (.slice (sO ⟨b,(if m.getD (k:Int)=l.getD 0 then o else o+(l.getD 0).toNat*n),nO⟩) (h.getD (k:Int)-l.getD 0).toNat (m.getD (k:Int)-l.getD 0).toNat)
      (.msl b (if m.getD (k:Int)=l.getD 0 then o else o+(l.getD 0).toNat*n) (h.getD (k:Int)-l.getD 0).toNat (m.getD (k:Int)-l.getD 0).toNat n):=.msl _ _ _ _ _ (by omega) (by omega)
    refine⟨_,?_,hrep⟩
    have e1:(h.getD (k:Int)-l.getD 0).toNat=(h.getD (k:Int)).toNat-(l.getD 0).toNat:=by omega
    have e2:(m.getD (k:Int)-l.getD 0).toNat=(m.getD (k:Int)).toNat-(l.getD 0).toNat:=by omega
    by_cases hm:m.getD (k:Int)=l.getD 0
    ·have hm':(m.getD (k:Int)).toNat=(l.getD 0).toNat:=by omega
     simp only[Instr.sliceAt,hxv,Instr.sureAddr,Sem.run_bind,run_underlying hu,Result.andThen_ok,Sem.run_pure,hb,YG hsz,hm,if_true,e1,hm']
     simp
    ·have hm':¬(m.getD (k:Int)).toNat=(l.getD 0).toNat:=by omega
     simp only[Instr.sliceAt,hxv,Instr.sureAddr,Sem.run_bind,run_underlying hu,Result.andThen_ok,Sem.run_pure,hb,YG hsz,hm,hm',if_false,e1,e2,W5]
   ·simp at hq
end
section
variable {P:Program} {g:G} {ν:Nat→Nat} {w:World} {L:Loc} {σ:St}
theorem Zpv{s k f x e r side q}(hf:Zgl P s k=sO f)(hq0:(JD P f.type=sO true∧∃n,ZS P f.type=sO n∧q=.fldN f.offset n)∨(JD P f.type=sO false∧q=.fld1 f.offset))(hx:ZI g ν w L x e)(hq:qv L σ q [e]=sO (side,r))(hs:side):∃v,(Instr.field s x k).run P w=.ok v w∧ZI g ν w L v r:=by
 obtain⟨fs,hu,hk⟩:=Zpw hf
 rcases hq0 with ⟨ha,n,hn,rfl⟩|⟨ha,rfl⟩
 ·cases e with
  |d y =>
   cases y<;>simp only[qv,reduceCtorEq,ZEz,ZEL]at hq
   obtain⟨rfl,rfl⟩:=hq
   cases hx with
   |agg vs cells hl h one =>
    rename_i cs
    refine⟨.agg (vs.toArray.extract f.offset (f.offset+n)),?_,?_⟩
    ·simp[Instr.field,run_underlying hu,hk,asAgg,Go.part,Ze8 ha,YG hn]
    ·have:vs.toArray.extract f.offset (f.offset+n)=((vs.drop f.offset).take n).toArray:=by
      apply Array.ext'
      simp[List.extract_eq_take_drop,Nat.add_sub_cancel_left]
     rw[this]
     exact Zj5 (by simpa[part]using((Ya hl h).drop f.offset).take n) (fun v hv=>one v (List.mem_of_mem_drop (List.mem_of_mem_take (by simpa using hv))))
  |loc l o=>simp[qv]at hq
  |when b e=>simp[qv]at hq
 ·cases e with
  |d y =>
   cases y<;>simp only[qv,reduceCtorEq,ZEN,ZEL]at hq
   obtain⟨d,hd,rfl,rfl⟩:=hq
   cases hx with
   |agg vs cells hl h one =>
    obtain⟨v,hv,hr⟩:=Zbo hl h hd
    exact⟨v,by simp[Instr.field,run_underlying hu,hk,asAgg,Go.part,Zdx ha,hv],hr⟩
  |loc l o=>simp[qv]at hq
  |when b e=>simp[qv]at hq
theorem Zu7{t x i ex ei r side}(hu:P.underlying t=sO .string)(hx:ZI g ν w L x ex)(hi:ZI g ν w L i ei)(hq:qv L σ .idxS [ex,ei]=sO (side,r))(hs:side):∃v,(Instr.index t x i).run P w=.ok v w∧ZI g ν w L v r:=by
 cases ex with
 |d y =>
  cases y<;>(try(simp[qv]at hq;done))
  rename_i s
  cases ei with
  |d z =>
   cases z<;>simp only[qv,reduceCtorEq,ZEz,ZEL]at hq
   rename_i k j
   obtain⟨rfl,hin⟩:=KS hi
   obtain⟨s0,rfl,e0,hb⟩:=Zj7 hx
   obtain⟨rfl,rfl⟩:=hq
   obtain⟨h0,h1⟩:=hs
   have hsz:s0.size=s.length:=by rw[←e0];rfl
   have hlt:j.toNat<s0.size:=by omega
   have hget:s0[j.toNat]?=sO (s.getD j.toNat 0):=by
    have h3:j.toNat<s.length:=by omega
    have:s0[j.toNat]?=s0.data.toList[j.toNat]?:=by
     rw[getElem?_pos s0 j.toNat hlt,Array.getElem?_toList,Array.getElem?_eq_getElem (show j.toNat<s0.data.size from hlt)]
     rfl
    rw[this,e0]
    simp[ZES,ZE5 h3]
   refine⟨_,?_,.int _ _ (Zrp _)⟩
   simp[Instr.index,asIntOf,run_underlying hu,h0,hget]
  |loc l o=>simp[qv]at hq
  |when b e=>simp[qv]at hq
 |loc l o=>cases ei<;>simp[qv]at hq
 |when b e=>cases ei<;>simp[qv]at hq
theorem Zu6{t e m n b x i ex ei r side}(hu:P.underlying t=sO (.array m e))(ha:JD P e=sO b)(hsz:ZS P e=sO n)(hx:ZI g ν w L x ex)(hi:ZI g ν w L i ei)(hq:qv L σ (.idxA m n !b) [ex,ei]=sO (side,r))(hs:side):∃v,(Instr.index t x i).run P w=.ok v w∧ZI g ν w L v r:=by
 cases ex with
 |d y =>
  cases y<;>(try(cases b<;>simp[qv]at hq;done))
  rename_i cs
  cases ei with
  |d z =>
   cases z<;>(try(cases b<;>simp[qv]at hq;done))
   rename_i k j
   obtain⟨rfl,hin⟩:=KS hi
   cases hx with
   |agg vs _ hn h one =>
   cases b with
   |false =>
    simp only[Bool.not_false,qv,ZEN,ZEL]at hq
    obtain⟨d,hd,rfl,rfl⟩:=hq
    obtain⟨h0,h1⟩:=hs
    obtain⟨v,hv,hr⟩:=Zbo hn h hd
    refine⟨v,?_,hr⟩
    simp only[Instr.index,asIntOf,Sem.run_bind,Sem.run_pure,Result.andThen_ok,run_underlying hu,YG hsz]
    rw[if_pos ⟨h0,h1⟩]
    have hv':vs.toArray[j.toNat*n]?=sO v:=by rw[List.getElem?_toArray];exact hv
    rw[Sem.run_bind,YG hsz]
    exact Zcw ha hv'
   |true =>
    simp only[Bool.not_true,qv,ZEz,ZEL]at hq
    obtain⟨rfl,rfl⟩:=hq
    obtain⟨h0,h1,h2⟩:=hs
    have hlen:j.toNat*n+n≤vs.length:=by omega
    refine⟨.agg (vs.toArray.extract (j.toNat*n) (j.toNat*n+n)),?_,?_⟩
    ·simp only[Instr.index,asIntOf,Sem.run_bind,Sem.run_pure,Result.andThen_ok,run_underlying hu,YG hsz]
     rw[if_pos ⟨h0,h1⟩]
     simp[Go.part,Ze8 ha,YG hsz]
    ·have:(vs.toArray.extract (j.toNat*n) (j.toNat*n+n))=((vs.drop (j.toNat*n)).take n).toArray:=by
      apply Array.ext'
      simp[List.extract_eq_take_drop]
     rw[this]
     have hs2:part cs (j.toNat*n) n=(cs.drop (j.toNat*n)).take n:=rfl
     rw[hs2]
     have hall:=(Ya hn h).drop (j.toNat*n) |>.take n
     exact .agg _ _ hall.len hall.get (fun v hv=>one v (List.mem_of_mem_drop (List.mem_of_mem_take hv)))
  |loc l o=>cases b<;>simp[qv]at hq
  |when c e=>cases b<;>simp[qv]at hq
 |loc l o=>cases ei<;>cases b<;>simp[qv]at hq
 |when c e=>cases ei<;>cases b<;>simp[qv]at hq
theorem Zvb{t ts x e r side}(ht:ts[0]?=sO t)(hu:P.underlying t=sO .string)(hx:ZI g ν w L x e)(hq:qv L σ .lenS [e]=sO (side,r))(ty):∃v,(Builtin.len_ ts ty #[x]).run P w=.ok v w∧ZI g ν w L v r:=by
 cases e with
 |d y =>
  cases y<;>simp only[qv,reduceCtorEq,ZEz,ZEL]at hq
  obtain⟨rfl,rfl⟩:=hq
  obtain⟨s0,rfl,e0,hb⟩:=Zj7 hx
  rename_i s
  have hsz:s0.size=s.length:=by rw[←e0];rfl
  refine⟨_,?_,.int _ _ (Kz hb)⟩
  simp[Builtin.len_,ht,run_underlying hu,goInt,hsz]
 |loc l o=>simp[qv]at hq
 |when b e=>simp[qv]at hq
theorem Zu9{t el ts x e r side}(ht:ts[0]?=sO t)(hu:P.underlying t=sO (.slice el))(hx:ZI g ν w L x e)(hq:qv L σ .lenL [e]=sO (side,r))(ty):∃v,(Builtin.len_ ts ty #[x]).run P w=.ok v w∧ZI g ν w L v r:=by
 cases e with
 |d y =>
  cases y<;>simp only[qv,reduceCtorEq,ZEz,ZEL]at hq
  ·obtain⟨rfl,rfl⟩:=hq
   cases hx
   exact⟨_,by simp[Builtin.len_,ht,run_underlying hu,goInt],.int _ _ (Kz (n:=0) (Nat.zero_le _))⟩
  ·obtain⟨rfl,rfl⟩:=hq
   cases hx with
   |sl0=>exact⟨_,by simp[Builtin.len_,ht,run_underlying hu,goInt],.int _ _ (Kz (n:=0) (Nat.zero_le _))⟩
   |sl b o _ cap _ _ _ f hl hc hp hr one ht' hcap hbig =>
    exact⟨_,by simp[Builtin.len_,ht,run_underlying hu,goInt],.int _ _ (Kz (by omega))⟩
  ·obtain⟨rfl,rfl⟩:=hq
   cases hx with
   |mslx=>exact⟨_,by simp[Builtin.len_,ht,run_underlying hu,goInt],.int _ _ (Kz (n:=0) (Nat.zero_le _))⟩
   |msl _ _ _ _ _ h1 h2=>exact⟨_,by simp[Builtin.len_,ht,run_underlying hu,goInt],.int _ _ (Kz (by omega))⟩
 |loc l o=>simp[qv]at hq
 |when b e=>simp[qv]at hq
theorem Zu8{t el n ts x e r side}(ht:ts[0]?=sO t)(hu:P.underlying t=sO (.array n el))(hq:qv L σ (.lenA n) [e]=sO (side,r))(hs:side)(ty):∃v,(Builtin.len_ ts ty #[x]).run P w=.ok v w∧ZI g ν w L v r:=by
 simp only[qv,ZEz,ZEL]at hq
 obtain⟨rfl,rfl⟩:=hq
 refine⟨.int .i64 n,?_,.int _ _ hs⟩
 simp only[Builtin.len_,ht]
 cases x<;>simp[run_underlying hu,goInt]
theorem Zjt{x y ex ey r side}(mx:Bool)(hx:ZI g ν w L x ex)(hy:ZI g ν w L y ey)(hq:qv L σ (if mx then .max else .min) [ex,ey]=sO (side,r))(ts ty):
  ∃v,(if mx then Builtin.max_ ts ty #[x,y] else Builtin.min_ ts ty #[x,y]).run P w=.ok v w∧ZI g ν w L v r:=by
 cases ex with
 |d a =>
  cases a<;>(try(cases mx<;>simp[qv]at hq;done))
  rename_i k n
  cases ey with
  |d b =>
   cases b<;>(try(cases mx<;>simp[qv]at hq;done))
   rename_i k' m
   obtain⟨rfl,h1⟩:=KS hx
   obtain⟨rfl,h2⟩:=KS hy
   cases mx
   ·simp only[qv,ZE3,if_false]at hq
    split at hq<;>(try(simp at hq;done))
    rename_i hk;subst hk
    simp only[ZEz,ZEL]at hq
    obtain⟨rfl,rfl⟩:=hq
    refine⟨.int k (Min.min n m),?_,.int _ _ ?_⟩
    ·have:(if m<n then m else n)=Min.min n m:=by split<;>omega
     simp[Builtin.min_,Builtin.min2,this]
    ·unfold inR at *;omega
   ·simp only[qv,if_true]at hq
    split at hq<;>(try(simp at hq;done))
    rename_i hk;subst hk
    simp only[ZEz,ZEL]at hq
    obtain⟨rfl,rfl⟩:=hq
    refine⟨.int k (Max.max n m),?_,.int _ _ ?_⟩
    ·have:(if m > n then m else n)=Max.max n m:=by split<;>omega
     simp[Builtin.max_,Builtin.max2,this]
    ·unfold inR at *;omega
  |loc l o=>cases mx<;>simp[qv]at hq
  |when b e=>cases mx<;>simp[qv]at hq
 |loc l o=>cases mx<;>cases ey<;>simp[qv]at hq
 |when b e=>cases mx<;>cases ey<;>simp[qv]at hq
theorem ZpW{x t xt ok z e r side}(hu:∃d,P.underlying t=sO d∧∀ms,d≠.interface ms)(hz:ZcR P t=sO z)(hx:ZI g ν w L x e)(hq:qv L σ (.tassert t ok z) [e]=sO (side,r)):∃v,(Instr.typeAssert x xt t ok).run P w=.ok v w∧ZI g ν w L v r:=by
 obtain⟨d,hu,hni⟩:=hu
 have hzero:∃zv,(zeroValue t).run P w=.ok zv w∧Rep g w zv z:=by
  unfold ZcR at hz
  cases hi:P.info? t with
  |none=>simp[hi]at hz
  |some i =>
   cases hzz:i.zero with
   |none=>simp[hi,hzz]at hz
   |some zv=>simp only[hi,hzz]at hz;exact⟨zv,by simp[zeroValue,typeInfo,hi,hzz],Zim hz⟩
 cases e with
 |d y =>
  cases y<;>(try(cases ok<;>simp[qv]at hq;done))
  ·rename_i t' v'
   cases hx with
   |iface _ v _ hv =>
    cases ok
    ·simp only[qv]at hq
     split at hq<;>(try(simp at hq;done))
     rename_i htt;subst htt
     simp only[ZEz,ZEL]at hq
     obtain⟨rfl,rfl⟩:=hq
     refine⟨v,?_,hv⟩
     simp only[Instr.typeAssert,Sem.run_bind,run_underlying hu,Result.andThen_ok]
     cases d<;>first|(simp;done)|(exact absurd rfl (hni _))
    ·simp only[qv]at hq
     split at hq<;>(try(simp at hq;done))
     rename_i htt;subst htt
     simp only[ZEz,ZEL]at hq
     obtain⟨rfl,rfl⟩:=hq
     refine⟨.tuple #[v,.bool true],?_,?_⟩
     ·simp only[Instr.typeAssert,Sem.run_bind,run_underlying hu,Result.andThen_ok]
      cases d<;>first|(simp;done)|(exact absurd rfl (hni _))
     ·exact .tup [v,.bool true] _ rfl (ZG.get (.cons hv (.cons (.bool true) .nil)))
  ·cases hx
   cases ok
   ·simp[qv]at hq
   ·simp only[qv,ZEz,ZEL]at hq
    obtain⟨rfl,rfl⟩:=hq
    obtain⟨zv,h1,h2⟩:=hzero
    refine⟨.tuple #[zv,.bool false],?_,?_⟩
    ·simp only[Instr.typeAssert,Sem.run_bind,run_underlying hu,Result.andThen_ok]
     cases d<;>first|(simp[h1];done)|(exact absurd rfl (hni _))
    ·exact .tup [zv,.bool false] _ rfl (ZG.get (.cons h2 (.cons (.bool false) .nil)))
 |loc l o=>cases ok<;>simp[qv]at hq
 |when b e=>cases ok<;>simp[qv]at hq
end
section
variable {P:Program} {g:G} {w:World}
theorem Zbd{t k}(h:KT P t=sO k):(k=.bool∧P.underlying t=sO .bool)∨(k=.int∧∃ik,P.underlying t=sO (.int ik))∨(k=.str∧P.underlying t=sO .string):=by
 unfold KT at h
 split at h<;>simp at h<;>subst h<;>rename_i hu
 ·exact .inl ⟨rfl,hu⟩
 ·exact .inr (.inl ⟨rfl,_,hu⟩)
 ·exact .inr (.inr ⟨rfl,hu⟩)
theorem ZdH{t kp}(h:JK P t=sO kp):(∃k,kp=.sc k∧KT P t=sO k) ∨
  ∃fs l n,kp=.st l∧P.underlying t=sO (.struct fs)∧ZS P t=sO n∧Km P fs.toList=sO l∧l.map (·.1)=ZEO n∧P.stoodInHeld t=false:=by
 unfold JK at h
 split at h
 ·rename_i k hk
  simp at h
  exact .inl ⟨k,h.symm,hk⟩
 ·split at h<;>(try(simp at h;done))
  rename_i fs n hu hn
  split at h<;>(try(simp at h;done))
  rename_i l hl
  split at h<;>simp at h
  rename_i hc
  exact .inr ⟨fs,l,n,h.symm,hu,hn,hl,hc.1,hc.2⟩
theorem ZkN{kt kp}(hk:JK P kt=sO kp){k1 k2 d1 d2}(h1:Rep g w k1 d1)(h2:Rep g w k2 d2){b}(h:Kh kp d1 d2=sO b):
  (Op.equal kt k1 k2).run P w=.ok b w:=by
 rcases ZdH hk with ⟨k,rfl,hs⟩|⟨fs,l,n,rfl,hu,hn,hl,_,hst⟩
 ·exact Zf1 hs h1 h2 h 9999
 ·cases h1<;>cases h2<;>simp only[Kh,reduceCtorEq]at h
  rename_i v1 xs hn1 r1 o1 v2 ys hn2 r2 o2
  split at h<;>(try(simp at h;done))
  have hf:P.underlying kt=sO (.struct (P.fieldsOf kt)):=by simp[Program.fieldsOf,hu]
  refine(run_equalIn_struct w 9999 kt _ _ hf hst).trans ?_
  simp only[Program.fieldsOf,hu]
  exact ZcG hn1 hn2 r1 r2 9998 _ l b hl h
theorem Zcl(em n){vs:List Value}{ds}(hn:vs.length=ds.length):∀(fs l b),Km P fs=sO l→Wk ds ds l=sO b →
  (do
   for f in fs do
    if f.name ≠ "_" then Instr.checkKey em (n+1) f.type (←Go.part f.type vs.toArray f.offset):Sem Unit).run P w=.ok () w
 | [],_,_,_,_=>by simp
 |f::fs,l,b,hl,hb=>by
  simp only[Km]at hl
  by_cases hf:f.name = "_"
  ·simp only[hf,if_true]at hl
   have:=Zcl em n hn fs l b hl hb
   simp only[List.forIn_cons,hf,ne_eq,not_true_eq_false,if_false,Sem.run_bind,Sem.run_pure,Result.andThen_ok]at this⊢
   exact this
  ·simp only[hf,if_false]at hl
   split at hl<;>simp only[ZEz,reduceCtorEq]at hl
   rename_i k l' hk hl'
   subst hl
   simp only[Wk]at hb
   split at hb<;>(try(simp at hb;done))
   rename_i x y hx hy
   split at hb<;>(try(simp at hb;done))
   rename_i b1 b2 hb1 hb2
   have ih:=Zcl em n hn fs l' b2 hl' hb2
   have hlt:f.offset<vs.length:=by rw[hn];exact(List.getElem?_eq_some_iff.1 hx).1
   have hv:vs.toArray[f.offset]?=sO vs[f.offset]:=by simp[hlt]
   have hp:=Zcw (P:=P) (w:=w) (Za6 hk) hv
   have hck:(Instr.checkKey em (n+1) f.type vs[f.offset]).run P w=.ok () w:=by
    rcases Zbd hk with ⟨_,hu⟩|⟨_,ik,hu⟩|⟨_,hu⟩<;>simp[Instr.checkKey,run_underlying hu]
   simp only[List.forIn_cons,hf,ne_eq,not_false_eq_true,if_true,Sem.run_bind,hp,Result.andThen_ok,hck,Sem.run_pure]at ih⊢
   exact ih
theorem ZqS{kt kp}(hk:JK P kt=sO kp){k d}(h:Rep g w k d)(hok:K8 kp d=true)(em n):(Instr.checkKey em (n+2) kt k).run P w=.ok () w:=by
 rcases ZdH hk with ⟨sk,rfl,hs⟩|⟨fs,l,m,rfl,hu,hn,hl,_,hst⟩
 ·rcases Zbd hs with ⟨_,hu⟩|⟨_,ik,hu⟩|⟨_,hu⟩<;>simp[Instr.checkKey,run_underlying hu]
 ·cases h<;>simp[K8,Kh]at hok
  rename_i vs cells hn r o
  obtain⟨b,hb⟩:=Option.isSome_iff_exists.1 hok
  split at hb<;>(try(grind;done))
  have:=Zcl (P:=P) (w:=w) em n hn fs.toList l b hl hb
  rw[Instr.checkKey]
  simp[run_underlying hu]
  first
   | (simp at this;simp[this])
   |simp
theorem ZaY{kt kp}(hk:JK P kt=sO kp){k d}(h:Rep g w k d)(hok:K8 kp d=true)(em):(Instr.checkKey em 10000 kt k).run P w=.ok () w:=ZqS hk h hok em 9998
theorem ZoY{kp k}:∀{es r},Zbb kp k es=sO r→∃io,QE kp k es=sO io∧r=io.bind fun i=>(es[i]?).map (·.2)
 | [],r,h=>by simp[Zbb]at h;exact⟨nO,rfl,h.symm⟩
 |e::es,r,h=>by
  simp[Zbb]at h
  split at h
  ·rename_i he;simp at h;exact⟨sO 0,by simp[QE,he],by simp[h]⟩
  ·rename_i he
   obtain⟨io,h1,h2⟩:=ZoY h
   refine⟨io.map (· + 1),by simp[QE,he,h1],?_⟩
   rw[h2];cases io<;>simp
  ·grind
theorem ZlT{kp:KP}{k v:D}:∀{es es':List (D×D)},JP kp k v es=sO es'→∃io,QE kp k es=sO io∧es'=match io with
  |none=>es++[(k,v)]
  |some i=>es.set i (k,v)
 | [],es',h=>by simp[JP]at h;exact⟨nO,rfl,h.symm⟩
 |e::es,es',h=>by
  simp[JP]at h
  split at h
  ·rename_i he;simp at h;exact⟨sO 0,by simp[QE,he],by simp[h]⟩
  ·rename_i he
   simp at h
   obtain⟨r,hr,rfl⟩:=h
   obtain⟨io,h1,h2⟩:=ZlT hr
   refine⟨io.map (· + 1),by simp[QE,he,h1],?_⟩
   rw[h2];cases io<;>simp
  ·grind
theorem Zq6{kp:KP}{k:D}:∀{es es':List (D×D)},ZfM kp k es=sO es'→∃io,QE kp k es=sO io∧es'=match io with
  |none=>es
  |some i=>es.eraseIdx i
 | [],es',h=>by simp only[ZfM,ZEz]at h;exact⟨nO,rfl,h.symm⟩
 |e::es,es',h=>by
  simp[ZfM]at h
  split at h
  ·rename_i he;simp at h;exact⟨sO 0,by simp[QE,he],by simp[h]⟩
  ·rename_i he
   simp at h
   obtain⟨r,hr,rfl⟩:=h
   obtain⟨io,h1,h2⟩:=Zq6 hr
   refine⟨io.map (· + 1),by simp[QE,he,h1],?_⟩
   rw[h2];cases io<;>simp
  ·grind
theorem Zcr{kp k}:∀{es i},QE kp k es=sO (sO i)→i<es.length∧∀e,es[i]?=sO e→Kh kp k e.1=sO true
 | [],i,h=>by cases h
 |e::es,i,h=>by
  simp[QE]at h
  split at h
  ·rename_i he;cases h;exact⟨by simp,fun x hx=>by cases hx;exact he⟩
  ·simp at h
   obtain⟨io,h1,h2⟩:=h
   cases io with
   |none=>grind
   |some j =>
    obtain⟨j',h3,h4⟩:=h2
    cases h3;subst h4
    obtain⟨a,b⟩:=Zcr h1
    exact⟨by simp;omega,fun x hx=>b x (by simpa using hx)⟩
  ·grind
theorem Zmo{kt kp}(hk:JK P kt=sO kp){k dk}(hr:Rep g w k dk):∀(es ds n io),es.length=ds.length →
  (∀(i:Nat) (e d),es[i]?=sO e→ds[i]?=sO d→Rep g w e.key d.1)→QE kp dk ds=sO io →
  (Instr.findAsking kt k es n).run P w=.ok (io.bind fun i=>(es[i]?).map fun e=>(n+i,e.val)) w
 | [],[],n,io,_,_,h=>by cases h;simp[Instr.findAsking]
 |e::es,d::ds,n,io,hn,hkey,h=>by
  simp[QE]at h
  have h0:=hkey 0 e d (by simp) (by simp)
  split at h
  ·rename_i he
   cases h
   simp[Instr.findAsking,ZkN hk hr h0 he]
  ·rename_i he
   simp at h
   obtain⟨io',h1,rfl⟩:=h
   have ih:=Zmo hk hr es ds (n+1) io' (by simpa using hn) (fun i e d a b=>hkey (i+1) e d (by simpa using a) (by simpa using b)) h1
   simp[Instr.findAsking,ZkN hk hr h0 he,ih]
   cases io'<;>simp[Nat.add_assoc,Nat.add_comm 1]
  ·grind
 | [],_::_,_,_,hn,_,_=>by grind
 |_::_,[],_,_,hn,_,_=>by grind
theorem Zm7{t k u}(hs:KT P t=sO k)(hu:P.underlying t=sO u){k1 k2 d1 d2}(h1:Rep g w k1 d1)(h2:Rep g w k2 d2){b}(h:Yf k d1 d2=sO b):
  Instr.sameNow u k1 k2=sO b:=by
 rcases Zbd hs with ⟨rfl,hu'⟩|⟨rfl,ik,hu'⟩|⟨rfl,hu'⟩<;>(rw[hu]at hu';simp only[ZEz]at hu';subst hu')
 ·cases h1<;>cases h2<;>cases h
  simp[Instr.sameNow]
  rename_i a b;cases a<;>cases b<;>rfl
 ·cases h1<;>cases h2<;>simp only[Yf,reduceCtorEq]at h
  split at h<;>simp only[reduceCtorEq,ZEz]at h
  rename_i hk
  subst h
  simp only[Instr.sameNow,hk,if_true,ZEz]
  rename_i a _ _ b _;rw[Bool.eq_iff_iff];simp
 ·cases h1<;>cases h2<;>simp only[Yf,reduceCtorEq,ZEz]at h
  rename_i s1 a e1 _ s2 b e2 _
  subst h
  simp only[Instr.sameNow,ZEz]
  rw[beq_toListBytes,ZcB e1,ZcB e2,Bool.eq_iff_iff];simp
theorem Zmq{t sk u}(hs:KT P t=sO sk)(hu:P.underlying t=sO u){k dk}(hr:Rep g w k dk):∀(es ds n io),es.length=ds.length →
  (∀(i:Nat) (e d),es[i]?=sO e→ds[i]?=sO d→Rep g w e.key d.1)→QE (.sc sk) dk ds=sO io →
  Instr.findNow u k es n=sO (io.bind fun i=>(es[i]?).map fun e=>(n+i,e.val))
 | [],[],n,io,_,_,h=>by simp only[QE,ZEz]at h;subst h;simp[Instr.findNow]
 |e::es,d::ds,n,io,hn,hkey,h=>by
  simp only[QE]at h
  have h0:=hkey 0 e d (by simp) (by simp)
  split at h
  ·rename_i he
   simp only[ZEz]at h;subst h
   simp[Instr.findNow,Zm7 hs hu hr h0 he]
  ·rename_i he
   simp only[ZEN]at h
   obtain⟨io',h1,rfl⟩:=h
   have ih:=Zmq hs hu hr es ds (n+1) io' (by simpa using hn) (fun i e d a b=>hkey (i+1) e d (by simpa using a) (by simpa using b)) h1
   simp only[Instr.findNow,Zm7 hs hu hr h0 he,ih]
   cases io'<;>simp[Nat.add_assoc,Nat.add_comm 1]
  ·simp at h
 | [],_::_,_,_,hn,_,_=>by simp at hn
 |_::_,[],_,_,hn,_,_=>by simp at hn
theorem ZbT{kt kp}(hk:JK P kt=sO kp){k dk}(hr:Rep g w k dk){es ds io}(hn:es.length=ds.length)(hkey:∀(i:Nat) (e:MapEntry) (d:D×D),es[i]?=sO e→ds[i]?=sO d→Rep g w e.key d.1)(h:QE kp dk ds=sO io):
  (Instr.findKey kt k es).run P w=.ok (io.bind fun i=>(es[i]?).map fun e=>(i,e.val)) w:=by
 rcases ZdH hk with ⟨sk,rfl,hs⟩|⟨fs,l,m,rfl,hu,_,_,_,_⟩
 ·obtain⟨u,hu⟩:∃u,P.underlying kt=sO u:=by rcases Zbd hs with ⟨_,hu⟩|⟨_,ik,hu⟩|⟨_,hu⟩<;>exact⟨_,hu⟩
  have:=Zmq hs hu hr es ds 0 io hn hkey h
  simp[Instr.findKey,run_underlying hu,this]
 ·have ha:=Zmo hk hr es ds 0 io hn hkey h
  cases es with
  |nil =>
   cases ds with
   |nil=>cases h;simp[Instr.findKey,run_underlying hu,Instr.findNow]
   |cons=>grind
  |cons e es =>
   have:Instr.findNow (.struct fs) k (e::es) 0=nO:=by
    simp[Instr.findNow,Instr.sameNow]
   simp[Instr.findKey,run_underlying hu,this,ha]
theorem Zev{σ}(hS:Yb g σ w){b es}(h:KA σ b=sO es):WD g w b (.map es):=by
 unfold KA at h
 split at h<;>simp at h
 rename_i c hc
 subst h
 exact hS.obj b _ hc
theorem Zsp{t z}(hz:ZcR P t=sO z):∃zv,(zeroValue t).run P w=.ok zv w∧Rep g w zv z:=by
 unfold ZcR at hz
 cases hi:P.info? t with
 |none=>grind
 |some i =>
  cases hzz:i.zero with
  |none=>grind
  |some zv=>simp[hi,hzz]at hz;exact⟨zv,by simp[zeroValue,typeInfo,hi,hzz],Zim hz⟩
theorem Zhp{a b x y}(h1:Rep g w a x)(h2:Rep g w b y):Rep g w (.tuple #[a,b]) (.tup [x,y]) :=
 .tup [a,b] _ rfl (ZG.get (.cons h1 (.cons h2 .nil)))
theorem Zsa{ν L σ}(hS:Yb g σ w){t kt et kp z ok}(hu:P.underlying t=sO (.map kt et))(hk:JK P kt=sO kp)(hz:ZcR P et=sO z){m k em ek r side}(hm:ZI g ν w L m em)(hkk:ZI g ν w L k ek)(hq:qv L σ (.lookup kp z ok) [em,ek]=sO (side,r))(hs:side):∃v,(Instr.lookup t m k ok).run P w=.ok v w∧ZI g ν w L v r:=by
 obtain⟨zv,hz1,hz2⟩:=Zsp (P:=P) (g:=g) (w:=w) hz
 cases em with
 |loc l o=>cases ek<;>simp[qv]at hq
 |when c e=>cases ek<;>simp[qv]at hq
 |d dm =>
  cases ek with
  |loc l o=>cases dm<;>simp[qv]at hq
  |when c e=>cases dm<;>simp[qv]at hq
  |d dk =>
   have hr:Rep g w k dk:=hkk
   cases dm<;>(try(simp[qv]at hq;done))
   ·rename_i b
    simp only[qv]at hq
    split at hq<;>(try(simp at hq;done))
    rename_i es hes
    simp only[ZEN,ZEL]at hq
    obtain⟨ro,hf,rfl,rfl⟩:=hq
    obtain⟨hp0,en,clock,hb,hlen,h3,h4,h5,h6⟩:=Zev hS hes
    obtain⟨io,hio,hro⟩:=ZoY hf
    cases hm
    have hfind:=ZbT (P:=P) hk hr (es:=en.toList) (by simpa using hlen) (fun i e d a b=>h3 i e d (by simpa using a) b) hio
    have hck:=ZaY (P:=P) hk hr hs en.isEmpty
    cases io with
    |none =>
     subst hro
     cases ok
     ·exact⟨zv,by simp[Instr.lookup,run_underlying hu,MapKept.run_getObj_map hb,hck,hfind,hz1],by simpa[Y8,ZI]using hz2⟩
     ·exact⟨.tuple #[zv,.bool false],by simp[Instr.lookup,run_underlying hu,MapKept.run_getObj_map hb,hck,hfind,hz1],by simpa[Y8,ZI]using Zhp hz2 (.bool false)⟩
    |some i =>
     obtain⟨hlt,_⟩:=Zcr hio
     have hlt':i<en.size:=by omega
     have he:en[i]?=sO en[i]:=by simp[hlt']
     have hd:es[i]?=sO es[i]:=by simp[hlt]
     have hrv:=h4 i _ _ he hd
     simp[hd]at hro
     subst hro
     simp[he]at hfind
     cases ok
     ·exact⟨en[i].val,by simp[Instr.lookup,run_underlying hu,MapKept.run_getObj_map hb,hck,hfind],by simpa[Y8,ZI]using hrv⟩
     ·exact⟨.tuple #[en[i].val,.bool true],by simp[Instr.lookup,run_underlying hu,MapKept.run_getObj_map hb,hck,hfind],by simpa[Y8,ZI]using Zhp hrv (.bool true)⟩
   ·cases hq
    cases hm
    have hck:=ZaY (P:=P) hk hr hs true
    have hfind:=ZbT (P:=P) hk hr (es:=[]) (ds:=[]) rfl (fun i e d a b=>by simp at a) (io:=nO) rfl
    cases ok
    ·exact⟨zv,by simp[Instr.lookup,run_underlying hu,hck,hfind,hz1],by simpa[Y8,ZI]using hz2⟩
    ·exact⟨.tuple #[zv,.bool false],by simp[Instr.lookup,run_underlying hu,hck,hfind,hz1],by simpa[Y8,ZI]using Zhp hz2 (.bool false)⟩
theorem Zva{ν L σ}(hS:Yb g σ w){t kt et ts x e r side}(ht:ts[0]?=sO t)(hu:P.underlying t=sO (.map kt et))(hx:ZI g ν w L x e)(hq:qv L σ .lenM [e]=sO (side,r))(hs:side)(ty):∃v,(Builtin.len_ ts ty #[x]).run P w=.ok v w∧ZI g ν w L v r:=by
 cases e with
 |loc l o=>cases hq
 |when c e=>cases hq
 |d y =>
  cases y<;>(try(cases hq;done))
  ·simp[qv]at hq
   split at hq<;>(try(grind;done))
   rename_i es hes
   cases hq
   obtain⟨hp0,en,clock,hb,hlen,_⟩:=Zev hS hes
   cases hx
   exact⟨.int .i64 es.length,by simp[Builtin.len_,ht,run_underlying hu,MapKept.run_getObj_map hb,goInt,hlen],.int _ _ (Kz hs)⟩
  ·cases hq
   cases hx
   exact⟨.int .i64 0,by simp[Builtin.len_,ht,run_underlying hu,goInt],.int _ _ (Kz (n:=0) (Nat.zero_le _))⟩
end
section
variable {P:Program} {g:G} {ν:Nat→Nat} {w:World} {L:Loc} {σ:St}
theorem ZsP{t}{parts:Array (Nat×Operand)}{z pl zs ρv es}(hz:(P.info? t).bind (·.zero)=sO z)(hp:KR P t (parts.toList.map (·.1))=sO pl)(hsz:Zjs P t=true)(hzs:ZaZ z.cells.toList=sO zs)(hes:ZG (ZI g ν w L) ((parts.toList.map (·.2)).map ρv) es){side r}(hq:qv L σ (.build zs pl) es=sO (side,r)):∃v,(Instr.build t (parts.map fun(i,x)=>(i,ρv x))).run P w=.ok v w∧ZI g ν w L v r:=by
 simp[qv]at hq
 split at hq<;>(try(grind;done))
 rename_i ds hds
 simp only[ZEN]at hq
 obtain⟨cs,hcs,rfl,rfl⟩:=hq
 have hne:∃d,P.underlying t=sO d∧((∃fs,d=.struct fs)∨∃m e i,d=.array m e∧P.info? e=sO i):=by
  unfold Zjs at hsz
  split at hsz
  ·rename_i fs hu;exact⟨_,hu,.inl ⟨fs,rfl⟩⟩
  ·rename_i m e hu
   unfold ZS at hsz
   cases hi:P.info? e with
   |none=>grind
   |some i=>exact⟨_,hu,.inr ⟨m,e,i,rfl,hi⟩⟩
  ·grind
 have hreps:=KH hes hds
 obtain⟨cv,h1,h2⟩:=Zxa (g:=g) (w:=w) (parts:=parts.toList.map fun(i,x)=>(i,ρv x)) hz (by simpa[Function.comp_def]using hp) hsz hzs
  (by simpa[Function.comp_def]using hreps) hcs hne
 refine⟨_,?_,h2⟩
 rw[←h1]
 congr 2
 apply Array.ext'
 simp
theorem Zvc{f}{first caps:Array Operand}{ρv es}(hes:ZG (ZI g ν w L) ((first.toList++caps.toList).map ρv) es){side r}(hq:qv L σ (.mkfn f first.size) es=sO (side,r)):∃v,(Instr.makeFunc f (first.map ρv) (caps.map ρv)).run P w=.ok v w∧ZI g ν w L v r:=by
 simp only[qv,ZEN]at hq
 obtain⟨ds,hds,rfl,rfl⟩:=hq
 have h:=KH hes hds
 have h1:=h.take first.size
 have h2:=h.drop first.size
 have e1:((first.toList++caps.toList).map ρv).take first.size=(first.map ρv).toList:=by simp
 have e2:((first.toList++caps.toList).map ρv).drop first.size=(caps.map ρv).toList:=by simp
 rw[e1]at h1
 rw[e2]at h2
 have:=Rep.fn (g:=g) (w:=w) f _ _ _ _ h1.len h2.len h1.get h2.get
 exact⟨_,by simp only[Instr.makeFunc,Sem.run_pure],this⟩
theorem Zac{α:Type}{a:Array α}(h:a.size=1):∃x,a = #[x]:=by
 obtain⟨l⟩:=a
 match l,h with
 | [x],_=>exact⟨x,rfl⟩
theorem ZfD{α:Type}{a:Array α}(h:a.size=2):∃x y,a = #[x,y]:=by
 obtain⟨l⟩:=a
 match l,h with
 | [x,y],_=>exact⟨x,y,rfl⟩
theorem Zzl{o q xs}(hc:cq P o=sO (q,xs)){ρv es}(hes:ZG (ZI g ν w L) (xs.map ρv) es)(hL:∀l cs,Zf L l=sO cs→YM g w (ν l) cs)(hS:Yb g σ w){side e}(hq:qv L σ q es=sO (side,e))(hs:side)(dst ty pos af gd):
  ∃v,(execOp ρv ⟨dst,o,ty,pos,af,gd⟩).run P w=.ok (.value v) w∧ZI g ν w L v e:=by
 cases o<;>(try(simp[cq]at hc;done))
 case move x =>
  simp only[cq,ZEz,ZEL]at hc
  obtain⟨rfl,rfl⟩:=hc
  obtain⟨e0,rfl,h0⟩:=Wm hes
  simp only[qv,ZEz,ZEL]at hq
  obtain⟨rfl,rfl⟩:=hq
  exact⟨_,rfl,h0⟩
 case assign x =>
  simp only[cq,ZEz,ZEL]at hc
  obtain⟨rfl,rfl⟩:=hc
  obtain⟨e0,rfl,h0⟩:=Wm hes
  simp only[qv,ZEz,ZEL]at hq
  obtain⟨rfl,rfl⟩:=hq
  exact⟨_,rfl,h0⟩
 case load t a =>
  simp only[cq]at hc
  split at hc<;>(try(simp at hc;done))
  ·rename_i n ha hsz
   simp only[ZEz,ZEL]at hc
   obtain⟨rfl,rfl⟩:=hc
   obtain⟨e0,rfl,h0⟩:=Wm hes
   exact ev (ZsT ha hsz h0 hL hS hq hs)
  ·rename_i n ha hsz
   simp only[ZEz,ZEL]at hc
   obtain⟨rfl,rfl⟩:=hc
   obtain⟨e0,rfl,h0⟩:=Wm hes
   exact ev (ZsS ha h0 hL hS hq)
 case nilCheck x =>
  simp only[cq,ZEz,ZEL]at hc
  obtain⟨rfl,rfl⟩:=hc
  obtain⟨e0,rfl,h0⟩:=Wm hes
  exact ZsU rfl h0 hq dst ty pos af gd
 case binOp op t x y yt =>
  simp only[cq,ZEz,ZEL]at hc
  obtain⟨rfl,rfl⟩:=hc
  obtain⟨e1,e2,rfl,h1,h2⟩:=JE hes
  cases e1 with
  |d a =>
   cases e2 with
   |d b =>
    simp only[qv,ZEN,ZEL]at hq
    obtain⟨⟨s',d⟩,hd,rfl,rfl⟩:=hq
    exact ev (ZyI (P:=P) h1 h2 hd hs)
   |loc l o=>simp[qv]at hq
   |when b e=>simp[qv]at hq
  |loc l o=>cases e2<;>simp[qv]at hq
  |when b e=>cases e2<;>simp[qv]at hq
 case unOp op t x =>
  cases op<;>simp only[cq,ZEz,ZEL,reduceCtorEq]at hc
  all_goals obtain⟨rfl,rfl⟩:=hc
  all_goals obtain⟨e0,rfl,h0⟩:=Wm hes
  all_goals cases e0 with
   |loc l o=>simp[qv]at hq
   |when b e=>simp[qv]at hq
   |d y=>?_
  ·cases y<;>simp only[qv,reduceCtorEq,ZEz,ZEL]at hq
   obtain⟨rfl,rfl⟩:=hq
   obtain⟨hv,hin⟩:=KS h0
   exact ev ⟨.int _ _,by simp only[hv,Op.unary,Op.intArith,Sem.run_pure,Int.zero_sub];rw[ZaS _ _ hs],.int _ _ hs⟩
  ·cases y<;>simp only[qv,reduceCtorEq,ZEz,ZEL]at hq
   obtain⟨rfl,rfl⟩:=hq
   obtain⟨hv,hin⟩:=KS h0
   exact ev ⟨_,by simp only[hv,Op.unary,Op.intBits,Sem.run_pure];rfl,.int _ _ (ZgM _ _)⟩
  ·cases y<;>simp only[qv,reduceCtorEq,ZEz,ZEL]at hq
   obtain⟨rfl,rfl⟩:=hq
   have hv:=Zbn h0
   exact ev ⟨_,by simp only[hv,Op.unary,Sem.run_pure],.bool _⟩
 case convert s d x =>
  simp only[cq,ZEN,ZEL]at hc
  obtain⟨c,hc,rfl,rfl⟩:=hc
  obtain⟨e0,rfl,h0⟩:=Wm hes
  exact ev (Zu5 hS hc h0 hq hs)
 case fieldAddr s x k =>
  simp only[cq]at hc
  split at hc<;>(try(simp at hc;done))
  rename_i f hf
  split at hc<;>(try(simp at hc;done))
  rename_i n hn
  split at hc<;>(try(simp at hc;done))
  rename_i hn0
  simp only[ZEz,ZEL]at hc
  obtain⟨rfl,rfl⟩:=hc
  obtain⟨e0,rfl,h0⟩:=Wm hes
  exact ev (ZsQ hf hn hn0 h0 hq)
 case field s x k =>
  simp only[cq]at hc
  split at hc<;>(try(simp at hc;done))
  rename_i f hf
  split at hc<;>(try(simp at hc;done))
  ·rename_i n ha hn
   simp only[ZEz,ZEL]at hc
   obtain⟨rfl,rfl⟩:=hc
   obtain⟨e0,rfl,h0⟩:=Wm hes
   exact ev (Zpv hf (.inl ⟨ha,n,hn,rfl⟩) h0 hq hs)
  ·rename_i n ha hn
   simp only[ZEz,ZEL]at hc
   obtain⟨rfl,rfl⟩:=hc
   obtain⟨e0,rfl,h0⟩:=Wm hes
   exact ev (Zpv hf (.inr ⟨ha,rfl⟩) h0 hq hs)
 case indexAddr t x i =>
  simp only[cq]at hc
  split at hc<;>(try(simp at hc;done))
  ·rename_i el hu
   simp only[ZEN,ZEL]at hc
   obtain⟨n,hn,rfl,rfl⟩:=hc
   obtain⟨e1,e2,rfl,h1,h2⟩:=JE hes
   exact ev (ZsR hu hn h1 h2 hq hs)
  ·rename_i m el hu
   simp only[ZEN,ZEL]at hc
   obtain⟨n,hn,rfl,rfl⟩:=hc
   obtain⟨e1,e2,rfl,h1,h2⟩:=JE hes
   exact ev (Zr9 hu hn h1 h2 hq hs)
 case index t x i =>
  simp only[cq]at hc
  split at hc<;>(try(simp at hc;done))
  ·rename_i hu
   simp only[ZEz,ZEL]at hc
   obtain⟨rfl,rfl⟩:=hc
   obtain⟨e1,e2,rfl,h1,h2⟩:=JE hes
   exact ev (Zu7 hu h1 h2 hq hs)
  ·rename_i m el hu
   split at hc<;>simp only[ZEz,ZEL,reduceCtorEq]at hc
   rename_i b n hb hn
   obtain⟨rfl,rfl⟩:=hc
   obtain⟨e1,e2,rfl,h1,h2⟩:=JE hes
   exact ev (Zu6 hu hb hn h1 h2 hq hs)
 case extract x k =>
  simp only[cq,ZEz,ZEL]at hc
  obtain⟨rfl,rfl⟩:=hc
  obtain⟨e0,rfl,h0⟩:=Wm hes
  cases e0 with
  |loc l o=>simp[qv]at hq
  |when b e=>simp[qv]at hq
  |d y =>
   cases y<;>simp only[qv,reduceCtorEq,ZEN,ZEL]at hq
   obtain⟨d,hd,rfl,rfl⟩:=hq
   have h0':Rep g w (ρv x) _:=h0
   generalize hz:ρv x=z at h0'
   cases h0' with
   |tup vs _ hn h =>
    obtain⟨v,hv,hr⟩:=Zbo hn h hd
    exact ev ⟨v,by simp[Instr.extract,hz,hv],hr⟩
 case build t parts =>
  simp only[cq]at hc
  split at hc<;>(try(simp at hc;done))
  rename_i z pl hz hp
  split at hc<;>(try(simp at hc;done))
  rename_i hsz
  simp only[ZEN,ZEL]at hc
  obtain⟨zs,hzs,rfl,rfl⟩:=hc
  exact ev (ZsP hz hp hsz hzs hes hq)
 case makeFunc f first caps =>
  simp only[cq,ZEz,ZEL]at hc
  obtain⟨rfl,rfl⟩:=hc
  exact ev (Zvc hes hq)
 case makeInterface t x =>
  simp only[cq]at hc
  split at hc<;>(try(simp at hc;done))
  rename_i d hni hu
  simp only[ZEz,ZEL]at hc
  obtain⟨rfl,rfl⟩:=hc
  obtain⟨e0,rfl,h0⟩:=Wm hes
  cases e0 with
  |loc l o=>simp[qv]at hq
  |when b e=>simp[qv]at hq
  |d y =>
   simp only[qv,ZEz,ZEL]at hq
   obtain⟨rfl,rfl⟩:=hq
   refine ev ⟨.iface t (ρv x),?_,.iface _ _ _ h0⟩
   refine run_makeInterface w t (ρv x) ?_
   unfold Program.concrete
   rw[hu]
   cases d<;>first|rfl|(exact absurd rfl (hni _))
 case slice t x lo hi mx =>
  simp only[cq]at hc
  split at hc<;>(try(simp at hc;done))
  ·rename_i hu
   split at hc<;>(try(simp at hc;done))
   rename_i hmx
   simp only[ZEz,ZEL]at hc
   obtain⟨rfl,rfl⟩:=hc
   cases mx with
   |some _=>simp at hmx
   |none=>exact ev (Zsc hu hes hq hs)
  ·rename_i el hu
   split at hc<;>(try(simp at hc;done))
   rename_i hmx
   simp only[ZEN,ZEL]at hc
   obtain⟨n,hn,rfl,rfl⟩:=hc
   exact ev (ZsV hu hn (by cases mx<;>cases hi<;>simp_all) hes hq hs)
  ·rename_i k el hu
   split at hc<;>(try(simp at hc;done))
   rename_i hmx
   simp only[ZEN,ZEL]at hc
   obtain⟨n,hn,rfl,rfl⟩:=hc
   exact ev (Zsb hu hn (by cases mx<;>cases hi<;>simp_all) hes hq hs)
 case typeAssert x xt t ok =>
  simp only[cq]at hc
  split at hc<;>(try(simp at hc;done))
  rename_i d hni hu
  simp only[ZEN,ZEL]at hc
  obtain⟨z,hz,rfl,rfl⟩:=hc
  obtain⟨e0,rfl,h0⟩:=Wm hes
  exact ev (ZpW ⟨d,hu,fun ms hm=>hni ms (hm▸rfl)⟩ hz h0 hq)
 case lookup t m k ok =>
  simp only[cq]at hc
  split at hc<;>(try(simp at hc;done))
  rename_i kt et hu
  split at hc<;>(try(simp at hc;done))
  rename_i kp z hk hz
  simp only[ZEz,ZEL]at hc
  obtain⟨rfl,rfl⟩:=hc
  obtain⟨e1,e2,rfl,h1,h2⟩:=JE hes
  exact ev (Zsa hS hu hk hz h1 h2 hq hs)
 case call c =>
  obtain⟨callee,args,ats⟩:=c
  simp only[cq]at hc
  split at hc<;>(try(simp at hc;done))
  ·split at hc<;>(try(simp at hc;done))
   ·rename_i hu
    simp only[Option.bind_eq_some_iff]at hu
    obtain⟨t,ht,hu⟩:=hu
    split at hc<;>(try(simp at hc;done))
    rename_i hsz
    obtain⟨x,rfl⟩:=Zac hsz
    simp only[ZEz,ZEL]at hc
    obtain⟨rfl,rfl⟩:=hc
    obtain⟨e0,rfl,h0⟩:=Wm hes
    obtain⟨v,r1,r2⟩:=Zvb ht hu h0 hq ty
    exact⟨v,by simp[execOp,resolve,invoke,builtin,r1],r2⟩
   ·rename_i el hu
    simp only[Option.bind_eq_some_iff]at hu
    obtain⟨t,ht,hu⟩:=hu
    split at hc<;>(try(simp at hc;done))
    rename_i hsz
    obtain⟨x,rfl⟩:=Zac hsz
    simp only[ZEz,ZEL]at hc
    obtain⟨rfl,rfl⟩:=hc
    obtain⟨e0,rfl,h0⟩:=Wm hes
    obtain⟨v,r1,r2⟩:=Zu9 ht hu h0 hq ty
    exact⟨v,by simp[execOp,resolve,invoke,builtin,r1],r2⟩
   ·rename_i n el hu
    simp only[Option.bind_eq_some_iff]at hu
    obtain⟨t,ht,hu⟩:=hu
    split at hc<;>(try(simp at hc;done))
    rename_i hsz
    obtain⟨x,rfl⟩:=Zac hsz
    simp only[ZEz,ZEL]at hc
    obtain⟨rfl,rfl⟩:=hc
    obtain⟨e0,rfl,h0⟩:=Wm hes
    obtain⟨v,r1,r2⟩:=Zu8 (x:=ρv x) ht hu hq hs ty
    exact⟨v,by simp[execOp,resolve,invoke,builtin,r1],r2⟩
   ·rename_i kt el hu
    simp only[Option.bind_eq_some_iff]at hu
    obtain⟨t,ht,hu⟩:=hu
    split at hc<;>(try(simp at hc;done))
    rename_i hsz
    obtain⟨x,rfl⟩:=Zac hsz
    simp only[ZEz,ZEL]at hc
    obtain⟨rfl,rfl⟩:=hc
    obtain⟨e0,rfl,h0⟩:=Wm hes
    obtain⟨v,r1,r2⟩:=Zva hS ht hu h0 hq hs ty
    exact⟨v,by simp[execOp,resolve,invoke,builtin,r1],r2⟩
  ·split at hc<;>(try(simp at hc;done))
   rename_i hsz
   obtain⟨x,y,rfl⟩:=ZfD hsz
   simp only[ZEz,ZEL]at hc
   obtain⟨rfl,rfl⟩:=hc
   obtain⟨e1,e2,rfl,h1,h2⟩:=JE hes
   obtain⟨v,r1,r2⟩:=Zjt (P:=P) false h1 h2 hq ats ty
   simp at r1
   exact⟨v,by simp[execOp,resolve,invoke,builtin,r1],r2⟩
  ·split at hc<;>(try(simp at hc;done))
   rename_i hsz
   obtain⟨x,y,rfl⟩:=ZfD hsz
   simp only[ZEz,ZEL]at hc
   obtain⟨rfl,rfl⟩:=hc
   obtain⟨e1,e2,rfl,h1,h2⟩:=JE hes
   obtain⟨v,r1,r2⟩:=Zjt (P:=P) true h1 h2 hq ats ty
   simp at r1
   exact⟨v,by simp[execOp,resolve,invoke,builtin,r1],r2⟩
end
def K5(n:Nat):List Nat→Bool
 | []=>true
 |i::r=>i<n&&!r.contains i&&K5 n r
def ck(P:Program)(op:Op):Option K :=
 match cq P op with
 |some (q,xs)=>(ZbQ xs).map (K.q q)
 |none =>
  match op with
  |.pick c a b=>match ZU c,ZU a,ZU b with
   |some c,sO a,sO b=>sO (.pick c a b)
   |_,_,_=>nO
  |.alloc e=>(Zae P e).map .alloc
  |.box _ x=>(ZU x).map .box
  |.buildSlice t len parts=>match P.underlying t with
   |some (.slice e)=>match ZS P e,Zae P e,ZbQ (parts.toList.map (·.2)) with
    |some s,sO z,sO xs =>
     if K5 len (parts.toList.map (·.1))&&dC (z.length=s)&&dC (0<s)&&dC (len*s≤2 ^ 24) then sO (.bsl len s z (parts.toList.map (·.1)) xs) else nO
    |_,_,_=>nO
   |_=>nO
  |.convert s d x=>match P.underlying s,P.underlying d with
   |some .string,sO (.slice e)=>match P.underlying e with
    |some (.int .u8)=>(ZU x).map .s2b
    |_=>nO
   |_,_=>nO
  |.store t a v=>match JD P t,ZS P t,ZU a,ZU v with
   |some true,sO n,sO a,sO v=>sO (.storeN n a v)
   |some false,sO 1,sO a,sO v=>sO (.store1 a v)
   |_,_,_,_=>nO
  |.makeMap _ nO=>sO .mkmap
  |.mapUpdate t m k x|.insert t m k x=>match P.underlying t with
   |some (.map kt _)=>match JK P kt,ZU m,ZU k,ZU x with
    |some kp,sO m,sO k,sO x=>sO (.mapupd kp m k x)
    |_,_,_,_=>nO
   |_=>nO
  |.mapEntry t m k=>match P.underlying t with
   |some (.map kt e)=>match JK P kt,ZcR P e,ZU m,ZU k with
    |some kp,sO z,sO m,sO k=>sO (.mapent kp z m k)
    |_,_,_,_=>nO
   |_=>nO
  |.entryStore _ m k x=>match ZU m,ZU k,ZU x with
   |some m,sO k,sO x=>sO (.entst m k x)
   |_,_,_=>nO
  |.panic x=>(ZU x).map .panic
  |.defer c=>match c.callee with
   |.value f=>match ZU f,ZbQ c.args.toList with
    |some f,sO xs=>sO (.defer f xs)
    |_,_=>nO
   |_=>nO
  |.makeSlice t l c=>match P.underlying t with
   |some (.slice e)=>match ZS P e,Zae P e,ZU l,ZU c with
    |some s,sO z,sO l,sO c=>if dC (0<s)&&dC (z.length=s) then sO (.mkslice e s (P.bytesOf e) z l c) else nO
    |_,_,_,_=>nO
   |_=>nO
  |.call c=>match c.callee with
   |.value f=>match ZU f,ZbQ c.args.toList with
    |some f,sO xs=>sO (.call f xs)
    |_,_=>nO
   |.builtin .append=>match c.argTypes[0]?.bind P.underlying,c.argTypes[1]?.bind P.underlying,c.args.toList with
    |some (.slice e),sO t2,[x,y]=>match ZS P e,Zae P e,ZU x,ZU y with
     |some s,sO z,sO x,sO y =>
      match t2 with
      |.slice _|.string=>if dC (0<s)&&dC (z.length=s) then sO (.append e s (P.bytesOf e) z x y) else nO
      |_=>nO
     |_,_,_,_=>nO
    |_,_,_=>nO
   |.builtin .recover=>sO .recover
   |.builtin .delete=>match c.argTypes[0]?.bind P.underlying,c.args.toList with
    |some (.map kt _),[m,k]=>match JK P kt,ZU m,ZU k with
     |some kp,sO m,sO k=>sO (.delete kp m k)
     |_,_,_=>nO
    |_,_=>nO
   |.builtin .clear=>match c.argTypes[0]?.bind P.underlying,c.args.toList with
    |some (.slice e),[x]=>match ZS P e,Zae P e,ZU x with
     |some s,sO z,sO x=>if dC (0<s)&&dC (z.length=s) then sO (.clear s z x) else nO
     |_,_,_=>nO
    |_,_=>nO
   |.builtin .copy=>match c.argTypes[0]?.bind P.underlying,c.args.toList with
    |some (.slice e),[x,y]=>match ZS P e,ZU x,ZU y with
     |some s,sO x,sO y=>if dC (0<s) then sO (.copy s x y) else nO
     |_,_,_=>nO
    |_,_=>nO
   |_=>nO
  |_=>nO
def Zij(ops:Array Oper):Option (Nat×Bool)→Option (Option (Nat×Bool))
 |none=>sO nO
 |some (j,b)=>match (ops[j]?).bind (·.dst) with
  |some t=>sO (sO (t,b))
  |none=>nO
def cop(P:Program)(N:Nat)(ops:Array Oper)(o:Oper):Option DOp :=
 match ck P o.op,Zij ops o.guard with
 |some k,sO g =>
  match o.dst with
  |none=>sO ⟨nO,g,k⟩
  |some d=>if d<N then sO ⟨sO d,g,k⟩ else nO
 |_,_=>nO
def Q3(P:Program)(N:Nat)(ops:Array Oper):List Nat→Option (List DOp)
 | []=>sO []
 |i::r=>match ops[i]? with
  |some o=>match cop P N ops o,Q3 P N ops r with
   |some d,sO ds=>sO (d::ds)
   |_,_=>nO
  |none=>nO
abbrev Ann:=List (Nat×List Nat)
def Ann.get:Ann→Nat→Option (List Nat)
 | [],_=>nO
 | (k,l)::r,n=>if k=n then sO l else Ann.get r n
def ZN:Opd→List Nat
 |.tmp t=>[t]
 |.cst _=>[]
def ZaK(xs:List Opd):List Nat:=xs.flatMap ZN
def Yw:K→List Nat
 |.q _ xs=>ZaK xs
 |.pick c a b=>ZN c++ZN a++ZN b
 |.alloc _|.mkmap|.recover=>[]
 |.box x|.s2b x|.panic x=>ZN x
 |.bsl _ _ _ _ xs=>ZaK xs
 |.store1 a v|.storeN _ a v=>ZN a++ZN v
 |.call f xs|.defer f xs=>ZN f++ZaK xs
 |.append _ _ _ _ x y=>ZN x++ZN y
 |.mapupd _ m k v=>ZN m++ZN k++ZN v
 |.mapent _ _ m k=>ZN m++ZN k
 |.entst m e v=>ZN m++ZN e++ZN v
 |.mkslice _ _ _ _ l c=>ZN l++ZN c
 |.delete _ m k=>ZN m++ZN k
 |.clear _ _ x=>ZN x
 |.copy _ x y=>ZN x++ZN y
 |.fork k=>Yw k
def Zer:Option (Nat×Bool)→List Nat
 |none=>[]
 |some (t,_)=>[t]
def Zz(o:DOp):List Nat:=Zer o.guard++Yw o.k
def YU:K→Bool
 |.q _ _|.pick _ _ _|.bsl _ _ _ _ _|.s2b _|.alloc _|.fork _=>true
 |_=>false
def pqK:K→Bool
 |.q _ _|.pick _ _ _|.bsl _ _ _ _ _|.s2b _|.alloc _=>true
 |_=>false
def ZbZ:K→Bool
 |.q .load1 _|.q (.loadN _) _=>true
 |_=>false
def YL:K→Bool
 |.q .load1 _|.q (.loadN _) _|.q (.lookup _ _ _) _|.q .lenM _|.q (.conv .b2s) _=>true
 |_=>false
def Zde:K→Bool
 |.store1 _ _|.storeN _ _ _=>true
 |_=>false
def Zt4:K→Bool
 |.alloc _|.fork _=>false
 |_=>true
instance:Inhabited DOp:=⟨⟨nO,nO,.mkmap⟩⟩
abbrev Tab:=List (DOp×List Nat)
def Tab.op(T:Tab)(i:Nat):DOp:=(T.getD i dE).1
def Tab.deps(T:Tab)(i:Nat):List Nat:=(T.getD i dE).2
def nd(d:Option Nat)(l:List Nat):Bool :=
 match d with
 |some t=>!l.contains t
 |none=>true
def ndd:Option Nat→Option Nat→Bool
 |some t,sO u=>t != u
 |_,_=>true
def Zb0(bs:List Nat):List Nat→Nat
 | []=>0
 |d::ds=>(bs.getD d 0 |||(1 <<< d)) |||Zb0 bs ds
def Zfm:List (List Nat)→List Nat→List Nat
 | [],acc=>acc
 |d::r,acc=>Zfm r (acc++[Zb0 acc d])
def Zcm(T:Tab)(A:List Nat)(i:Nat):Bool :=
 pqK (T.op i).k&&nd (T.op i).dst (Zz (T.op i))&&A.all fun a=>nd (T.op i).dst (Zz (T.op a))&&ndd (T.op i).dst (T.op a).dst
def Zbq(o:DOp):Nat:=o.dst.getD 0
def J3(n:Nat):List Nat→Bool
 | []=>false
 |a::l=>a==n ||J3 n l
def Zik(T:Tab)(fl:List Nat)(free rest:List Nat)(i:Nat):Bool :=
 Zt4 (T.op i).k&&(rest.all fun r=>(T.deps r).any fun d=>(i::rest).contains d) &&
  free.all fun a=>nd (T.op i).dst (Zz (T.op a))&&ndd (T.op i).dst (T.op a).dst&&(J3 (Zbq (T.op a)) fl||!YL (T.op a).k)
def chk(T:Tab)(ms:List Nat)(fl:Nat→List Nat):List Nat→List Nat→Bool
 |_,[]=>true
 |A,i::rest =>
  let free:=A.filter fun a=>!(ms.getD i 0).testBit a
  dC (i<T.length)&&((T.deps i).all fun d=>!(i::rest).contains d)&&!rest.contains i&&(free.all fun a=>nd (T.op a).dst (Zz (T.op i))) &&
   if Zcm T A i then chk T ms fl (i::A) rest else Zik T (fl i) free rest i&&chk T ms fl free rest
def Zte(T:Tab)(fl:List Nat)(free:List Nat)(i:Nat):Bool :=
 Zt4 (T.op i).k&&!YU (T.op i).k&&(free.all fun a=>nd (T.op a).dst (Zz (T.op i)))&&free.all fun a=>nd (T.op i).dst (Zz (T.op a))&&ndd (T.op i).dst (T.op a).dst&&(J3 (Zbq (T.op a)) fl||!YL (T.op a).k)
def ZyV(T:Tab)(ms:List Nat)(fl:Nat→List Nat)(A:List Nat)(i j:Nat)(rest:List Nat):Bool :=
 let fi:=A.filter fun a=>!(ms.getD i 0).testBit a
 let fj:=A.filter fun a=>!(ms.getD j 0).testBit a
 dC (i<T.length)&&dC (j<T.length)&&((T.deps i).all fun d=>!(i::j::rest).contains d)&&((T.deps j).all fun d=>!(i::j::rest).contains d)&&(i != j)&&!rest.contains i&&!rest.contains j &&
  (rest.all fun r=>(T.deps r).any fun d=>(i::j::rest).contains d)&&Zte T (fl i) fi i&&Zte T (fl j) fj j &&
  chk T ms fl fi (j::rest)&&chk T ms fl fj (i::rest)
def ZcW(T:Tab)(ms:List Nat)(fl:Nat→List Nat)(fk:Option Nat):List Nat→List Nat→Bool
 |_,[]=>true
 |A,i::rest =>
  if fk=sO i then match rest with
   |j::rest'=>ZyV T ms fl A i j rest'
   | []=>false
  else
   let free:=A.filter fun a=>!(ms.getD i 0).testBit a
   dC (i<T.length)&&((T.deps i).all fun d=>!(i::rest).contains d)&&!rest.contains i&&(free.all fun a=>nd (T.op a).dst (Zz (T.op i))) &&
    if Zcm T A i then ZcW T ms fl fk (i::A) rest else Zik T (fl i) free rest i&&ZcW T ms fl fk free rest
def ZAM(o:DOp):DOp:={ o with k:=.fork o.k }
def Tab.mk(T:Tab)(fk:Option Nat)(i:Nat):DOp:=if fk=sO i then ZAM (T.op i) else T.op i
def Jm(o:Oper):List Nat:=(o.after.toList.filter (Region.binds .any ·)).map (·.on)
def Zmh:Nat→List (List Nat)→Bool
 |_,[]=>true
 |i,d::r=>d.all (fun x=>dC (x<i))&&Zmh (i+1) r
def Zwq(n:Nat)(order:List Nat):Bool:=(ZEO n).all order.contains
def Zxu(an:Ann)(id:Nat):Option Nat :=
 match an.get (id+3000000) with
 |some (i::_)=>sO i
 |_=>nO
def ccD(P:Program)(an:Ann)(N:Nat)(id:Nat)(ops:Array Oper):Option (List Nat×List (DOp×List Nat)×Option (List Nat)) :=
 match Q3 P N ops (ZEO ops.size),an.get (id+1000000),an.get id with
 |some l,sO order,sO kp =>
  let fl:=fun i=>(an.get (id+1000000*(i+4))).getD []
  let ds:=ops.toList.map Jm
  let T:Tab:=l.zip ds
  if P.follows .mixedOrders&&Zmh 0 ds&&Zwq ops.size order&&ZcW T (Zfm ds []) fl (Zxu an id) [] order then sO (order,order.map fun i=>(T.mk (Zxu an id) i,fl i),sO kp) else nO
 |_,_,_=>nO
def cc(P:Program)(an:Ann)(N:Nat):Code→Option DC
 |.skip=>sO .skip
 |.region id ops true=>(ccD P an N id ops).map fun x=>.regD x.1 x.2.1 x.2.2
 |.region id ops false=>(Q3 P N ops (ZEO ops.size)).map fun l=>.reg l (an.get id)
 |.seq a b=>match cc P an N a,cc P an N b with
  |some x,sO y=>sO (.seq x y)
  |_,_=>nO
 |.cond c a b=>match ZU c,cc P an N a,cc P an N b with
  |some c,sO x,sO y=>sO (.cond c x y)
  |_,_,_=>nO
 |.block id a=>(cc P an N a).map (.block id)
 |.loop a=>(cc P an N a).map .loop
 |.exit id=>sO (.exit id)
 |.ret=>sO .ret
 |.scope a=>(cc P an N a).map .scope
 |.label l=>sO (.label l)
 |.goto l=>sO (.goto l)
 |.rangeFunc f params a b=>match ZU f,cc P an N a,cc P an N b with
  |some f,sO x,sO y=>if params.toList.all (· < N) then sO (.rangeF f params.toList x y) else nO
  |_,_,_=>nO
 |_=>nO
inductive RV where
 |tmp (t:Nat)|cell1 (t:Nat)|cellN (t n:Nat)
def crv(P:Program):ResultVar→Option RV
 |.tmp t=>sO (.tmp t)
 |.cell a t=>match JD P t,ZS P t with
  |some true,sO n=>sO (.cellN a n)
  |some false,sO _=>sO (.cell1 a)
  |_,_=>nO
def Zio(P:Program):List ResultVar→Option (List RV)
 | []=>sO []
 |r::rs=>match crv P r,Zio P rs with
  |some x,sO xs=>sO (x::xs)
  |_,_=>nO
structure DF where
 n:Nat
 res:List RV
 body:DC
def cf(P:Program)(an:Ann)(f:FuncId):Option DF :=
 match P.funcs[f]? with
 |some fn=>match fn.body with
  |some c=>if fn.name == "runtime.NumGoroutine" then nO else
   match Zio P fn.results.toList,cc P an fn.ntmps c with
   |some rs,sO d=>sO ⟨fn.ntmps,rs,d⟩
   |_,_=>nO
  |none=>nO
 |none=>nO
def ZdW:Bool→Bool→Bool
 |b,true=>b
 |b,false=>!b
def Zk(ρ:Env):Option (Nat×Bool)→Option Bool
 |none=>sO true
 |some (t,want)=>match ZH ρ t with
  |some (.d (.bool b))=>sO (ZdW b want)
  |some (.when c (.d (.bool b)))=>sO (c&&ZdW b want)
  |_=>nO
def ZC(ρ:Env)(c:Bool):Opd→Option (Prop×E)
 |.cst d=>sO (True,.d d)
 |.tmp t=>match ZH ρ t with
  |some (.when c' e)=>sO (c=true→c'=true,e)
  |some e=>sO (True,e)
  |none=>nO
def Z2(ρ:Env)(c:Bool):List Opd→Option (Prop×List E)
 | []=>sO (True,[])
 |x::xs=>match ZC ρ c x,Z2 ρ c xs with
  |some (p,e),sO (q,es)=>sO (p∧q,e::es)
  |_,_=>nO
def Zv(ρ:Env)(dst:Option Nat)(e:E):Env :=
 match dst with
 |some t=>(t,e)::ρ
 |none=>ρ
inductive SR where
 |ok (side:Prop) (ρ:Env) (L:Loc) (s:St)
 |all (side:Prop) (pre:Nat→Prop) (ρ:Nat→Env) (s:Nat→St)
 |stop
def J2(L:Loc)(l:Nat):Bool:=(Zf L l).isSome
def ZcP(ρ:Env)(c:Bool)(x a b:Opd):Option (Prop×Bool) :=
 match ZC ρ c x with
 |some (p,.d (.bool v)) =>
  match ZC ρ (c&&v) a,ZC ρ (c&&!v) b with
  |some (pa,.d (.bool y)),sO (pb,.d (.bool z))=>sO (p∧pa∧pb,if v then y else z)
  |_,_=>nO
 |_=>nO
def Z7(zero:List D)(ps:List (Nat×D))(i:Nat):List D :=
 match ps with
 | []=>zero
 | (k,d)::r=>if k=i then cellsOf d else Z7 zero r i
def KQ(s:Nat):List D→Bool
 | []=>true
 |d::r=>W1 d&&dC ((cellsOf d).length=s)&&KQ s r
def KU(z:List D)(n:Nat):List D:=(List.replicate n z).flatten
def KJ(ρ:Env)(L:Loc)(s:St)(p q ok:Prop)(a:E)(n:Nat)(xs:List D):SR :=
 match a with
 |.loc l off=>match Zf L l with
  |some cs=>.ok (p∧q∧off+n≤cs.length∧ok) ρ ((l,Zu cs off xs)::L) s
  |none=>.stop
 |.d (.ptr b off)=>match Z5 s b with
  |some cs=>.ok (p∧q∧off+n≤cs.length∧ok) ρ L (s.upd b (.cells (Zu cs off xs)))
  |none=>.stop
 |_=>.stop
def Zdi(kp:KP)(k z:D):List (D×D)→Option D
 | []=>sO z
 |e::r=>match Kh kp k e.1 with
  |some true=>sO e.2
  |some false=>Zdi kp k z r
  |none=>nO
def Zx(o:DOp)(ρ:Env)(L:Loc)(s:St):SR :=
 match Zk ρ o.guard with
 |none=>.stop
 |some c =>
  match o.k with
  |.q q xs=>match Z2 ρ c xs with
   |some (p,es)=>match qv L s q es with
    |some (side,e)=>match o.guard with
     |none=>.ok (p∧side) (Zv ρ o.dst e) L s
     |some _=>.ok (c=true→p∧side) (Zv ρ o.dst (.when c e)) L s
    |none=>.stop
   |none=>.stop
  |.pick x a b=>match ZcP ρ c x a b with
   |some (p,v)=>match o.guard with
    |none=>.ok p (Zv ρ o.dst (.d (.bool v))) L s
    |some _=>.ok (c=true→p) (Zv ρ o.dst (.when c (.d (.bool v)))) L s
   |none=>.stop
  |.alloc z=>match o.guard,o.dst with
   |none,sO t=>.ok (J2 L t=false) ((t,.loc t 0)::ρ) ((t,z)::L) s
   |_,_=>.stop
  |.box x=>match o.guard,o.dst,ZC ρ true x with
   |none,sO t,sO (p,.d v)=>.ok (p∧J2 L t=false∧W1 v=true) ((t,.loc t 0)::ρ) ((t,cellsOf v)::L) s
   |_,_,_=>.stop
  |.bsl len n z is xs=>match Z2 ρ c xs with
   |some (p,es)=>match W6 es with
    |some ds=>match o.guard with
     |none=>.ok (p∧KQ n ds=true) (Zv ρ o.dst (.d (.sl .full len n (Z7 z (is.zip ds))))) L s
     |some _=>.ok (c=true→p∧KQ n ds=true) (Zv ρ o.dst (.when c (.d (.sl .full len n (Z7 z (is.zip ds)))))) L s
    |none=>.stop
   |none=>.stop
  |.s2b x=>match ZC ρ c x with
   |some (p,.d (.str l))=>match o.guard with
    |none=>.ok p (Zv ρ o.dst (.d (.sl .none l.length 1 (fun i=>[.int .u8 ((l.getD i 0).toNat:Int)])))) L s
    |some _=>.ok (c=true→p) (Zv ρ o.dst (.when c (.d (.sl .none l.length 1 (fun i=>[.int .u8 ((l.getD i 0).toNat:Int)]))))) L s
   |_=>.stop
  |.store1 a v=>match o.guard,o.dst,ZC ρ true a,ZC ρ true v with
   |none,nO,sO (p,a),sO (q,.d x)=>KJ ρ L s p q (QQ x=true) a 1 [x]
   |_,_,_,_=>.stop
  |.storeN n a v=>match o.guard,o.dst,ZC ρ true a,ZC ρ true v with
   |none,nO,sO (p,a),sO (q,.d (.agg xs))=>KJ ρ L s p q (xs.length=n) a n xs
   |_,_,_,_=>.stop
  |.mkmap=>match o.guard,o.dst with
   |none,sO t=>.all True (fun b=>s b=nO) (fun b=>(t,.d (.map b))::ρ) (fun b=>s.upd b (.map []))
   |_,_=>.stop
  |.mkslice _ n bytes z l h=>match o.guard,o.dst,ZC ρ true l,ZC ρ true h with
   |none,sO t,sO (p,.d (.int _ l)),sO (q,.d (.int _ h)) =>
    .all (p∧q∧0≤l∧l≤h∧(bytes:Int)*h≤140737488355328∧h≤big) (fun b=>s b=nO) (fun b=>(t,.d (.msl b 0 l.toNat h.toNat n))::ρ) (fun b=>s.upd b (.cells (KU z h.toNat)))
   |_,_,_,_=>.stop
  |.mapupd kp m k v=>match o.guard,o.dst,ZC ρ true m,ZC ρ true k,ZC ρ true v with
   |none,nO,sO (p,.d (.map b)),sO (q,.d dk),sO (r,.d dv)=>match KA s b with
    |some es=>match JP kp dk dv es with
     |some es'=>.ok (p∧q∧r∧K8 kp dk=true) ρ L (s.upd b (.map es'))
     |none=>.stop
    |none=>.stop
   |_,_,_,_,_=>.stop
  |.delete kp m k=>match o.guard,o.dst,ZC ρ true m,ZC ρ true k with
   |none,nO,sO (p,.d (.map b)),sO (q,.d dk)=>match KA s b with
    |some es=>match ZfM kp dk es with
     |some es'=>.ok (p∧q∧K8 kp dk=true) ρ L (s.upd b (.map es'))
     |none=>.stop
    |none=>.stop
   |_,_,_,_=>.stop
  |.mapent kp z m k=>match o.guard,o.dst,ZC ρ true m,ZC ρ true k with
   |none,sO t,sO (p,.d (.map b)),sO (q,.d dk)=>match KA s b with
    |some es=>match Zdi kp dk z es with
     |some v=>.all (p∧q∧K8 kp dk=true) (fun _=>True) (fun n=>(t,.d (.tup [v,.stamp n]))::ρ) (fun n=>s.upd b (.mapE kp es dk n))
     |none=>.stop
    |none=>.stop
   |_,_,_,_=>.stop
  |.entst m st v=>match o.guard,o.dst,ZC ρ true m,ZC ρ true st,ZC ρ true v with
   |none,nO,sO (p,.d (.map b)),sO (q,.d (.stamp n)),sO (r,.d dv)=>match s b with
    |some (.mapE kp es dk n')=>match JP kp dk dv es with
     |some es'=>.ok (p∧q∧r∧n=n') ρ L (s.upd b (.map es'))
     |none=>.stop
    |_=>.stop
   |_,_,_,_,_=>.stop
  |_=>.stop
def Zir(K:Env→Loc→St→Prop)(X:List DOp→Env→Loc→St→Prop):List DOp→Env→Loc→St→Prop
 | [],ρ,L,s=>K ρ L s
 |o::os,ρ,L,s=>match Zx o ρ L s with
  |.ok side ρ' L' s'=>side∧Zir K X os ρ' L' s'
  |.all side pre ρ' s'=>side∧∀b,pre b→Zir K X os (ρ' b) L (s' b)
  |.stop=>X (o::os) ρ L s
inductive Rd where
 |blk (b:Nat)
 |loc (l:Nat)
def KF:E→List Rd
 |.d (.ptr b _)=>[.blk b]
 |.d (.map b)=>[.blk b]
 |.d (.msl b _ _ _ _)=>[.blk b]
 |.loc l _=>[.loc l]
 |_=>[]
def YV(o:DOp)(ρ:Env):List Rd :=
 match o.k with
 |.q q xs=>if YL (.q q xs) then match Zk ρ o.guard with
  |some true=>match Z2 ρ true xs with
   |some (_,e::_)=>KF e
   |_=>[]
  |_=>[]
  else []
 |_=>[]
def Kd(o:DOp)(ρ:Env):List (Nat×Rd):=(YV o ρ).map fun b=>(Zbq o,b)
def KE(s s':St)(L L':Loc):List (Nat×Rd)→Prop
 | []=>True
 | (_,.blk b)::B=>s' b=s b∧KE s s' L L' B
 | (_,.loc l)::B=>Zf L' l=Zf L l∧KE s s' L L' B
def YP(fl:List Nat):List (Nat×Rd)→List (Nat×Rd)
 | []=>[]
 |x::B=>if J3 x.1 fl then x::YP fl B else YP fl B
def Y5(fl:List Nat)(s s':St)(L L':Loc)(B:List (Nat×Rd)):Prop:=KE s s' L L' (YP fl B)
def Zg0(K:Env→Loc→St→Prop)(X:List (DOp×List Nat)→Env→Loc→St→List (Nat×Rd)→Prop):List (DOp×List Nat)→Env→Loc→St→List (Nat×Rd)→Prop
 | [],ρ,L,s,_=>K ρ L s
 |o::os,ρ,L,s,B=>match Zx o.1 ρ L s with
  |.ok side ρ' L' s'=>if YU o.1.k then side∧Zg0 K X os ρ' L' s' (Kd o.1 ρ++B) else side∧Y5 o.2 s s' L L' B∧Zg0 K X os ρ' L' s' (Kd o.1 ρ++YP o.2 B)
  |.all side pre ρ' s'=>side∧∀b,pre b→Y5 o.2 s (s' b) L L B∧Zg0 K X os (ρ' b) L (s' b) (YP o.2 B)
  |.stop=>X (o::os) ρ L s B
def WE:E→List Nat
 |.loc l _=>[l]
 |.when _ e=>WE e
 |_=>[]
def Yh(ρ:Env):List Nat→Env
 | []=>[]
 |k::ks=>match ZH ρ k with
  |some e=>(k,e)::Yh ρ ks
  |none=>Yh ρ ks
def Zab(L:Loc):List Nat→Loc
 | []=>[]
 |l::ls=>match Zf L l with
  |some cs=>(l,cs)::Zab L ls
  |none=>Zab L ls
def ZaF(ρ:Env)(L:Loc):Loc:=Zab L (ρ.flatMap fun x=>WE x.2)
structure ZtY(P:Program) where
 T:G→World→Machine→Prop
 back:∀g w m m',Steps P m m'→T g w m'→T g w m
 ext:∀g w g' w' m,Ext g w g' w'→T g' w' m→T g w m
structure Fr(P:Program) where
 T:ZtY P
 b:Frame
 cs:List Frame
 N:Nat
 ds:List Deferred
 an:Ann
inductive WL where
 |code (c:DC)
 |inBlock (id:Nat)
 |inLoop (c:DC)
 |inScope (c:DC)
 |beginR
inductive Wv(P:Program)(an:Ann)(N:Nat):List Item→List WL→Prop where
 |nil:Wv P an N [] []
 |code {c d k dk} (h:cc P an N c=some d) (t:Wv P an N k dk):Wv P an N (.code c::k) (.code d::dk)
 |inBlock {id k dk} (t:Wv P an N k dk):Wv P an N (.inBlock id::k) (.inBlock id::dk)
 |inLoop {c d k dk} (h:cc P an N c=some d) (t:Wv P an N k dk):Wv P an N (.inLoop c::k) (.inLoop d::dk)
 |inScope {c d k dk} (h:cc P an N c=some d) (t:Wv P an N k dk):Wv P an N (.inScope c::k) (.inScope d::dk)
 |beginR {k dk} (t:Wv P an N k dk):Wv P an N (.beginRound::k) (.beginR::dk)
section
variable {P:Program}
theorem Zs0{b:Frame}{a k cs w c}:step P (lone (b.atR a (.code (.scope c)::k)) cs w)=.next (lone (b.atR a (.code c::.inScope c::k)) cs w) :=
 step_lone_go (by simp[stepG,stepG.exec,Frame.atR])
theorem ZpX{b:Frame}{a k cs w c}:step P (lone (b.atR a (.inScope c::k)) cs w)=.next (lone (b.atR a k) cs w) :=
 step_lone_go (by simp[stepG,stepG.exec,Frame.atR])
def Q0(F:Fr P)(todo:List Item)(ρ:Env)(L:Loc)(s:St):Prop :=
 ∀g ν w tmps,F.N≤tmps.size→Zt g ν w tmps ρ L s→F.T.T g w (lone (F.b.atR ⟨tmps,F.ds⟩ todo) F.cs w)
def Zs(F:Fr P)(dk:List WL)(ρ:Env)(L:Loc)(s:St):Prop:=∀k,Wv P F.an F.N k dk→Q0 F k ρ L s
def DO(F:Fr P)(_keep:Option (List Nat))(dk:List WL)(os:List DOp)(ρ:Env)(L:Loc)(s:St):Prop :=
 ∀ops is k,Q3 P F.N ops is=sO os→Wv P F.an F.N k dk→Q0 F (.inRegion ops is::k) ρ L s
theorem Q0.step{F:Fr P}{k k' ρ L s}(h:∀a w,step P (lone (F.b.atR a k) F.cs w)=.next (lone (F.b.atR a k') F.cs w))(h':Q0 F k' ρ L s):Q0 F k ρ L s :=
 fun g ν w tmps hN m=>F.T.back _ _ _ _ (.one (h _ w)) (h' g ν w tmps hN m)
theorem ZyT{an N c}(h:cc P an N c=sO .skip):c=.skip:=by
 unfold cc at h;split at h<;>simp_all
 all_goals (split at h<;>grind)
theorem ZqQ{an N c}(h:cc P an N c=sO .ret):c=.ret:=by
 unfold cc at h;split at h<;>simp_all
 all_goals (split at h<;>grind)
theorem Ztd{an N id c}(h:cc P an N c=sO (.exit id)):c=.exit id:=by
 unfold cc at h;split at h<;>simp_all
 all_goals (split at h<;>grind)
theorem ZzY{an N c x y}(h:cc P an N c=sO (.seq x y)):∃a b,c=.seq a b∧cc P an N a=sO x∧cc P an N b=sO y:=by
 unfold cc at h;split at h<;>simp_all
 all_goals (split at h<;>simp_all)
 grind
theorem ZyP{an N c x y o}(h:cc P an N c=sO (.cond o x y)):∃o' a b,c=.cond o' a b∧ZU o'=sO o∧cc P an N a=sO x∧cc P an N b=sO y:=by
 unfold cc at h;split at h<;>simp_all
 all_goals (split at h<;>simp_all)
 grind
theorem Zxe{an N id c x}(h:cc P an N c=sO (.block id x)):∃a,c=.block id a∧cc P an N a=sO x:=by
 unfold cc at h;split at h<;>simp_all
 all_goals (split at h<;>grind)
theorem ZyR{an N c x}(h:cc P an N c=sO (.loop x)):∃a,c=.loop a∧cc P an N a=sO x:=by
 unfold cc at h;split at h<;>simp_all
 all_goals (split at h<;>grind)
theorem ZzX{an N c os ks}(h:cc P an N c=sO (.reg os ks)):
  ∃id ops,c=.region id ops false∧Q3 P N ops (ZEO ops.size)=sO os∧an.get id=ks:=by
 unfold cc at h;split at h<;>simp_all
 ·grind
 all_goals (split at h<;>grind)
theorem Zxg{an N c x}(h:cc P an N c=sO (.scope x)):∃a,c=.scope a∧cc P an N a=sO x:=by
 unfold cc at h;split at h<;>simp_all
 all_goals (split at h<;>grind)
theorem Zxf{an N l c}(h:cc P an N c=sO (.label l)):c=.label l:=by
 unfold cc at h;split at h<;>simp_all
 all_goals (split at h<;>grind)
theorem ZyQ{an N l c}(h:cc P an N c=sO (.goto l)):c=.goto l:=by
 unfold cc at h;split at h<;>simp_all
 all_goals (split at h<;>grind)
theorem ZoP{an N c f ps x y}(h:cc P an N c=sO (.rangeF f ps x y)):
  ∃f' ps' a b,c=.rangeFunc f' ps' a b∧ZU f'=sO f∧ps'.toList=ps∧cc P an N a=sO x∧cc P an N b=sO y∧∀t∈ps,t<N:=by
 unfold cc at h;split at h<;>simp_all
 all_goals (split at h<;>simp_all)
 obtain⟨hall,rfl,rfl,rfl,rfl⟩:=h
 exact⟨_,_,_,_,⟨rfl,rfl,rfl,rfl⟩,‹_›,rfl,‹_›,‹_›,fun t ht=>by obtain⟨i,hi,rfl⟩:=ZEV ht;simpa using hall i (by omega)⟩
theorem ZD{F:Fr P}{dk ρ L s}(h:Zs F dk ρ L s):Zs F (.code .skip::dk) ρ L s:=by
 intro k hk
 cases hk with
 |code hc ht=>obtain rfl:=ZyT hc;exact Q0.step (fun a w=>stepR_skip) (h _ ht)
theorem Zo{F:Fr P}{id dk ρ L s}(h:Zs F dk ρ L s):Zs F (.inBlock id::dk) ρ L s:=by
 intro k hk
 cases hk with
 |inBlock ht=>exact Q0.step (fun a w=>stepR_inBlock) (h _ ht)
theorem Za{F:Fr P}{x y dk ρ L s}(h:Zs F (.code x::.code y::dk) ρ L s):Zs F (.code (.seq x y)::dk) ρ L s:=by
 intro k hk
 cases hk with
 |code hc ht=>obtain⟨a,b,rfl,ha,hb⟩:=ZzY hc;exact Q0.step (fun a w=>stepR_seq) (h _ (.code ha (.code hb ht)))
theorem Zd{F:Fr P}{id x dk ρ L s}(h:Zs F (.code x::.inBlock id::dk) ρ L s):Zs F (.code (.block id x)::dk) ρ L s:=by
 intro k hk
 cases hk with
 |code hc ht=>obtain⟨a,rfl,ha⟩:=Zxe hc;exact Q0.step (fun a w=>stepR_block) (h _ (.code ha (.inBlock ht)))
theorem Zbs{F:Fr P}{x dk ρ L s}(h:Zs F (.code x::.inLoop x::dk) ρ L s):Zs F (.code (.loop x)::dk) ρ L s:=by
 intro k hk
 cases hk with
 |code hc ht=>obtain⟨a,rfl,ha⟩:=ZyR hc;exact Q0.step (fun a w=>stepR_loop) (h _ (.code ha (.inLoop ha ht)))
theorem Zi{F:Fr P}{x dk ρ L s}(h:Zs F (.code x::.inLoop x::dk) ρ L s):Zs F (.inLoop x::dk) ρ L s:=by
 intro k hk
 cases hk with
 |inLoop hc ht=>exact Q0.step (fun a w=>stepR_inLoop) (h _ (.code hc (.inLoop hc ht)))
theorem Yg{F:Fr P}{x dk ρ L s}(h:Zs F (.code x::.inScope x::dk) ρ L s):Zs F (.code (.scope x)::dk) ρ L s:=by
 intro k hk
 cases hk with
 |code hc ht=>obtain⟨a,rfl,ha⟩:=Zxg hc;exact Q0.step (fun a w=>Zs0) (h _ (.code ha (.inScope ha ht)))
theorem ZT{F:Fr P}{x dk ρ L s}(h:Zs F dk ρ L s):Zs F (.inScope x::dk) ρ L s:=by
 intro k hk
 cases hk with
 |inScope hc ht=>exact Q0.step (fun a w=>ZpX) (h _ ht)
theorem Yu{F:Fr P}{l dk ρ L s}(h:Zs F dk ρ L s):Zs F (.code (.label l)::dk) ρ L s:=by
 intro k hk
 cases hk with
 |code hc ht=>obtain rfl:=Zxf hc;exact Q0.step (fun a w=>stepR_label) (h _ ht)
def W2:DC→Nat→Option DC
 |.seq a b,l=>match W2 a l with
  |some r=>sO (.seq r b)
  |none=>W2 b l
 |.label l',l=>if l'=l then sO .skip else nO
 |_,_=>nO
theorem Zrh{an N l}:∀{c d},cc P an N c=sO d→(∀d',W2 d l=sO d'→∃c',findLabel c l=sO c'∧cc P an N c'=sO d')∧(W2 d l=nO→findLabel c l=nO):=by
 intro c
 induction c with
 |seq a b iha ihb =>
  intro d h
  unfold cc at h
  split at h<;>simp at h
  rename_i x y hx hy
  subst h
  obtain⟨a1,a2⟩:=iha hx
  obtain⟨b1,b2⟩:=ihb hy
  refine⟨fun d' hd=>?_,fun hd=>?_⟩
  ·simp[W2]at hd
   cases hfa:W2 x l with
   |some r =>
    simp[hfa]at hd
    obtain⟨c',h1,h2⟩:=a1 r hfa
    subst hd
    exact⟨.seq c' b,by simp[findLabel,h1],by simp[cc,h2,hy]⟩
   |none =>
    simp[hfa]at hd
    obtain⟨c',h1,h2⟩:=b1 d' hd
    exact⟨c',by simp[findLabel,a2 hfa,h1],h2⟩
  ·simp[W2]at hd
   cases hfa:W2 x l with
   |some r=>grind
   |none=>simp[hfa]at hd;simp[findLabel,a2 hfa,b2 hd]
 |label l' =>
  intro d h
  cases h
  refine⟨fun d' hd=>?_,fun hd=>?_⟩
  ·simp only[W2]at hd
   split at hd<;>simp at hd
   rename_i hl
   subst hd
   exact⟨.skip,by simp[findLabel,hl],rfl⟩
  ·simp only[W2]at hd
   split at hd<;>simp at hd
   rename_i hl
   simp[findLabel,hl]
 |region id ops dr =>
  intro d h
  refine⟨fun d' hd=>?_,fun _=>rfl⟩
  cases dr<;>simp only[cc,ZEN]at h<;>(obtain⟨_,_,rfl⟩:=h;cases hd)
 |_ =>
  intro d h
  refine⟨fun d' hd=>?_,fun _=>rfl⟩
  first
   | (cases h;done)
   | (simp[cc]at h;obtain⟨_,_,rfl⟩:=h;cases hd;done)
   | (cases h;done)
   | (simp[cc]at h;split at h<;>(try(split at h))<;>simp at h<;>(subst h;cases hd))
def ZcI(l:Nat):List WL→Option (List WL)
 |.inScope body::k=>match W2 body l with
  |some r=>sO (.code r::.inScope body::k)
  |none=>ZcI l k
 |_::k=>ZcI l k
 | []=>nO
theorem Zcq{an N l}:∀{k dk dk'},Wv P an N k dk→ZcI l dk=sO dk'→∃k',gotoIn l k=sO k'∧Wv P an N k' dk'
 |_,_,_,.nil,h=>by cases h
 |_,_,_,.code _ t,h=>by simp[ZcI]at h;obtain⟨k',h1,h2⟩:=Zcq t h;exact⟨k',by simpa[gotoIn]using h1,h2⟩
 |_,_,_,.inLoop _ t,h=>by simp[ZcI]at h;obtain⟨k',h1,h2⟩:=Zcq t h;exact⟨k',by simpa[gotoIn]using h1,h2⟩
 |_,_,_,.inBlock t,h=>by simp[ZcI]at h;obtain⟨k',h1,h2⟩:=Zcq t h;exact⟨k',by simpa[gotoIn]using h1,h2⟩
 |_,_,_,.beginR t,h=>by simp[ZcI]at h;obtain⟨k',h1,h2⟩:=Zcq t h;exact⟨k',by simpa[gotoIn]using h1,h2⟩
 |_,_,_,.inScope (c:=c) (d:=d) hc t,h=>by
  simp[ZcI]at h
  obtain⟨f1,f2⟩:=Zrh (l:=l) hc
  cases hf:W2 d l with
  |some r =>
   simp[hf]at h
   subst h
   obtain⟨c',h1,h2⟩:=f1 r hf
   exact⟨_,by simp[gotoIn,h1],.code h2 (.inScope hc t)⟩
  |none =>
   simp[hf]at h
   obtain⟨k',h1,h2⟩:=Zcq t h
   exact⟨k',by simpa[gotoIn,f2 hf]using h1,h2⟩
theorem Zvx{F:Fr P}{l dk dk' ρ L s}(he:ZcI l dk=sO dk')(h:Zs F dk' ρ L s):Zs F (.code (.goto l)::dk) ρ L s:=by
 intro k hk
 cases hk with
 |code hc ht =>
  obtain rfl:=ZyQ hc
  obtain⟨k',h1,h2⟩:=Zcq ht he
  exact Q0.step (fun a w=>stepR_goto h1) (h _ h2)
def Qw(id:Nat):List WL→Option (List WL)
 |.inBlock id'::k=>if id'=id then sO k else Qw id k
 |_::k=>Qw id k
 | []=>nO
theorem Zcn{an N id}:∀{k dk dk'},Wv P an N k dk→Qw id dk=sO dk'→∃k',exitTo id k=sO k'∧Wv P an N k' dk'
 |_,_,_,.nil,h=>by cases h
 |_,_,_,.code _ t,h=>by simp[Qw]at h;obtain⟨k',h1,h2⟩:=Zcn t h;exact⟨k',by simpa[exitTo]using h1,h2⟩
 |_,_,_,.inLoop _ t,h=>by simp[Qw]at h;obtain⟨k',h1,h2⟩:=Zcn t h;exact⟨k',by simpa[exitTo]using h1,h2⟩
 |_,_,_,.inScope _ t,h=>by simp[Qw]at h;obtain⟨k',h1,h2⟩:=Zcn t h;exact⟨k',by simpa[exitTo]using h1,h2⟩
 |_,_,_,.beginR t,h=>by simp[Qw]at h;obtain⟨k',h1,h2⟩:=Zcn t h;exact⟨k',by simpa[exitTo]using h1,h2⟩
 |_,_,_,.inBlock (id:=id') t,h=>by
  simp[Qw]at h
  by_cases hid:id'=id
  ·simp[hid]at h
   subst h
   exact⟨_,by simp[exitTo,hid],t⟩
  ·simp[hid]at h
   obtain⟨k',h1,h2⟩:=Zcn t h
   exact⟨k',by simpa[exitTo,hid]using h1,h2⟩
theorem ZaE{an N id}:∀{k dk},Wv P an N k dk→Qw id dk=nO→exitTo id k=nO
 |_,_,.nil,_=>rfl
 |_,_,.code _ t,h=>by simp[Qw]at h;simpa[exitTo]using ZaE t h
 |_,_,.inLoop _ t,h=>by simp[Qw]at h;simpa[exitTo]using ZaE t h
 |_,_,.inScope _ t,h=>by simp[Qw]at h;simpa[exitTo]using ZaE t h
 |_,_,.beginR t,h=>by simp[Qw]at h;simpa[exitTo]using ZaE t h
 |_,_,.inBlock (id:=id') t,h=>by
  simp[Qw]at h
  by_cases hid:id'=id
  ·grind
  ·simp[hid]at h
   simpa[exitTo,hid]using ZaE t h
theorem ZR{F:Fr P}{id dk dk' ρ L s}(he:Qw id dk=sO dk')(h:Zs F dk' ρ L s):Zs F (.code (.exit id)::dk) ρ L s:=by
 intro k hk
 cases hk with
 |code hc ht =>
  obtain rfl:=Ztd hc
  obtain⟨k',h1,h2⟩:=Zcn ht he
  exact Q0.step (fun a w=>stepR_exit h1) (h _ h2)
theorem Z3{g ν w tmps ρ L s}(m:Zt g ν w tmps ρ L s){x y}(hc:ZU x=sO y){c}(hcond:c=true){p e}(ha:ZC ρ c y=sO (p,e))(hp:p)(ds):ZI g ν w L ((Act.mk tmps ds).eval x) e:=by
 cases x with
 |tmp t =>
  cases hc
  simp[ZC]at ha
  split at ha
  ·rename_i c' e' hg
   cases ha
   exact(m.env t _ hg).1 (hp hcond)
  ·rename_i e' hne hg
   cases ha
   exact m.env t _ hg
  ·grind
 |const v =>
  simp[ZU]at hc
  obtain⟨d,hd,rfl⟩:=hc
  cases ha
  exact Zim hd
 |func f =>
  cases hc
  cases ha
  exact .fn (.func f) [] [] [] [] rfl rfl (fun i v d h=>by grind) (fun i v d h=>by grind)
 |global g =>
  cases hc
  cases ha
  cases ht:Zqy.tab g with
  |none=>exact .any _
  |some cs=>exact m.st.tabs g cs ht
theorem ZbB{g ν w tmps ρ L s}(m:Zt g ν w tmps ρ L s){c}(hcond:c=true)(ds) :
  ∀{xs ys p es},ZbQ xs=sO ys→Z2 ρ c ys=sO (p,es)→p→ZG (ZI g ν w L) (xs.map (Act.mk tmps ds).eval) es
 | [],ys,p,es,hc,ha,hp=>by
  cases hc
  cases ha
  exact .nil
 |x::xs,ys,p,es,hc,ha,hp=>by
  simp[ZbQ]at hc
  split at hc<;>simp at hc
  rename_i y ys' hy hys
  subst hc
  simp[Z2]at ha
  split at ha<;>simp only[ZEz,reduceCtorEq]at ha
  rename_i p1 e1 p2 es' h1 h2
  obtain⟨rfl,rfl⟩:=ha
  exact .cons (Z3 m hy hcond h1 hp.1 ds) (ZbB m hcond ds hys h2 hp.2)
theorem Zq{F:Fr P}{o x y dk ρ L s b p}(ho:ZC ρ true o=sO (p,.d (.bool b)))(hp:p)(ht:b=true→Zs F (.code x::dk) ρ L s)(hf:b=false→Zs F (.code y::dk) ρ L s):Zs F (.code (.cond o x y)::dk) ρ L s:=by
 intro k hk
 cases hk with
 |code hc htl =>
  obtain⟨o',a,b',rfl,ho',ha,hb⟩:=ZyP hc
  intro g ν w tmps hN m
  have hv:=Z3 m ho' rfl ho hp F.ds
  have hv':(Act.mk tmps F.ds).eval o'=.bool b:=Zbn hv
  refine F.T.back _ _ _ _ (.one (stepR_cond hv')) ?_
  cases b
  ·exact hf rfl _ (.code hb htl) g ν w tmps hN m
  ·exact ht rfl _ (.code ha htl) g ν w tmps hN m
theorem ZgQ{F:Fr P}{os ks dk ρ L s}(h:DO F ks dk os ρ L s):Zs F (.code (.reg os ks)::dk) ρ L s:=by
 intro k hk
 cases hk with
 |code hc ht =>
  obtain⟨id,ops,rfl,hops,_⟩:=ZzX hc
  exact Q0.step (fun a w=>stepR_region) (h _ _ _ hops ht)
end
theorem Zid(w:World)(o){b}(h:b<w.heap.size):(w.alloc o).heap[b]?=w.heap[b]?:=by
 show(w.heap.push o)[b]?=_
 rw[Array.getElem?_push];simp[Nat.ne_of_lt h]
theorem W9(w:World)(o):(w.alloc o).heap[w.heap.size]?=sO o:=by
 show(w.heap.push o)[w.heap.size]?=_
 rw[Array.getElem?_push];simp
theorem Zcv(v:Value):v.oneCell'=v.one1:=by cases v<;>rfl
section
variable {P:Program} {g:G} {ν:Nat→Nat} {w:World} {tmps:Array Value} {ρ:Env} {L:Loc} {s:St}
theorem Zg3(b:Nat){cur vs:Array Value}{T:TypeId}(hb:w.heap[b]?=sO (.cells cur T (0,0)))(hsz:vs.size=cur.size)(hp:g.prot b=0)(hk:¬g.kept b):Ext g w g (w.setRow b vs):={
 size:=by simp
 prot _:=ZEP _
 cell b' o ho:=by
  by_cases h:b'=b
  ·subst h;omega
  ·exact Jg (setRow_other w b b' vs h)
 hdr b' x hx:=by
  by_cases h:b'=b
  ·subst h
   simp only[hdr,hb]at hx
   simp only[hdr,setRow_heap w b' cur vs T (0,0) hb,hsz];exact hx
  ·rw[Za0 (setRow_other w b b' vs h)];exact hx
 kept b' hb':=setRow_other w b b' vs (fun h=>hk (h▸hb'))
 keptProt _ _:=rfl
 keptEq:=rfl
 os:=rfl
 output:=rfl
 tape:=rfl }
theorem Yb.other{g:G}{w w':World}{s:St}(m:Yb g s w)(e:Ext g w g w')(hs:w'.heap.size=w.heap.size)(hb:∀b o,s b=sO o→w'.heap[b]?=w.heap[b]?):Yb g s w':={
 obj b o ho:=(m.obj b o ho).mono e (hb b o ho) rfl
 kept:=m.kept
 fresh b h:=m.fresh b (by omega)
 tabs n cs hc:=(m.tabs n cs hc).mono e }
theorem Zt.store(m:Zt g ν w tmps ρ L s){l cs ds}(hl:Zf L l=sO cs){vs}(hr:ZG (Rep g w) vs.toList ds)(ho:∀v∈vs,v.one1=true)(hn:ds.length=cs.length):
  Ext g w g (w.setRow (ν l) vs)∧Zt g ν (w.setRow (ν l) vs) tmps ρ ((l,ds)::L) s:=by
 obtain⟨hp,cur,T,h1,h2,_,_⟩:=m.loc l cs hl
 have hsz:vs.size=cur.size:=by have:=hr.len;simp at this;omega
 have he:=Zg3 (g:=g) (ν l) h1 hsz hp (m.locKept l cs hl)
 refine⟨he,⟨?_,?_,?_,?_,?_,?_⟩⟩
 ·exact m.st.other he (by simp) (fun b o hb=>setRow_other w (ν l) b vs (fun h=>by subst h;rw[m.locSt l cs hl]at hb;simp at hb))
 ·intro l' cs' hl'
  simp only[Zf]at hl'
  by_cases h:l=l'
  ·subst h
   simp only[if_true,ZEz]at hl'
   subst hl'
   refine⟨hp,vs,T,setRow_heap w (ν l) cur vs T (0,0) h1,by rw[hsz,h2,hn],fun i v d hv hd=>?_,ho⟩
   exact(hr.get i v d (by simpa using hv) hd).mono he
  ·simp only[h,if_false]at hl'
   have hne:ν l'≠ν l:=fun hh=>h (m.inj l l' cs cs' hl hl' hh.symm)
   exact(m.loc l' cs' hl').mono he (setRow_other w (ν l) (ν l') vs hne) rfl
 ·intro l' cs' hl'
  simp only[Zf]at hl'
  by_cases h:l=l'
  ·subst h;exact m.locKept l cs hl
  ·simp only[h,if_false]at hl';exact m.locKept l' cs' hl'
 ·intro l' cs' hl'
  simp only[Zf]at hl'
  by_cases h:l=l'
  ·subst h;exact m.locSt l cs hl
  ·simp only[h,if_false]at hl';exact m.locSt l' cs' hl'
 ·intro a b ca cb ha hb hab
  simp only[Zf]at ha hb
  by_cases h1:l=a
  ·by_cases h2:l=b
   ·exact h1.symm.trans h2
   ·simp only[h2,if_false]at hb
    subst h1;exact m.inj _ _ cs cb hl hb hab
  ·simp only[h1,if_false]at ha
   by_cases h2:l=b
   ·subst h2;exact m.inj _ _ ca cs ha hl hab
   ·simp only[h2,if_false]at hb
    exact m.inj _ _ ca cb ha hb hab
 ·intro t e ht
  refine((m.env t e ht).mono he).locs (fun l' cs' hl'=>⟨?_,rfl⟩)
  by_cases h:l=l'
  ·exact⟨ds,by simp[Zf,h]⟩
  ·exact⟨cs',by simp[Zf,h,hl']⟩
theorem Zuq(c:Array Value)(T:TypeId)(hf:∀b,w.heap.size≤b→g.prot b=0∧¬g.kept b):JB g w g (w.alloc (.cells c T)):={
 size:=by simp
 old b hb:=Zid w _ hb
 prot _ _:=rfl
 fresh b hb:=(hf b (by simp at hb;omega)).1
 kept:=rfl
 os:=rfl
 output:=rfl
 tape:=rfl }
theorem Zt.alloc(m:Zt g ν w tmps ρ L s){l ds}(hl:J2 L l=false){vs}(hr:ZG (Rep g w) vs.toList ds)(ho:∀v∈vs,v.one1=true)(T):
  Ext g w g (w.alloc (.cells vs T))∧Zt g (fun x=>if x=l then w.heap.size else ν x) (w.alloc (.cells vs T)) tmps ρ ((l,ds)::L) s:=by
 have hg:=Zuq (g:=g) vs T m.st.fresh
 have he:=hg.ext m.st.fresh
 have m':=m.grow hg
 have hn:Zf L l=nO:=by simpa[J2]using hl
 have hlt:∀l' cs',Zf L l'=sO cs'→l'≠l:=fun l' cs' h hh=>by subst hh;rw[hn]at h;simp at h
 refine⟨he,⟨m'.st,?_,?_,?_,?_,?_⟩⟩
 ·intro l' cs' hl'
  simp only[Zf]at hl'
  by_cases h:l=l'
  ·subst h
   simp only[if_true,ZEz]at hl'
   subst hl'
   simp only[if_true]
   refine⟨(m.st.fresh _ (ZEP _)).1,vs,T,W9 w _,by simpa using hr.len,fun i v d hv hd=>?_,ho⟩
   exact(hr.get i v d (by simpa using hv) hd).mono he
  ·simp only[h,if_false]at hl'
   simp only[show ¬l'=l from fun hh=>h hh.symm,if_false]
   exact m'.loc l' cs' hl'
 ·intro l' cs' hl'
  simp only[Zf]at hl'
  by_cases h:l=l'
  ·subst h;simp only[if_true];exact(m.st.fresh _ (ZEP _)).2
  ·simp only[h,if_false]at hl'
   simp only[show ¬l'=l from fun hh=>h hh.symm,if_false]
   exact m.locKept l' cs' hl'
 ·intro l' cs' hl'
  simp only[Zf]at hl'
  by_cases h:l=l'
  ·subst h
   simp only[if_true]
   cases hs:s w.heap.size with
   |none=>rfl
   |some o=>exact absurd (m.st.obj _ o hs).lt (Nat.lt_irrefl _)
  ·simp only[h,if_false]at hl'
   simp only[show ¬l'=l from fun hh=>h hh.symm,if_false]
   exact m.locSt l' cs' hl'
 ·intro a b ca cb ha hb hab
  simp only[Zf]at ha hb
  by_cases h1:l=a
  ·by_cases h2:l=b
   ·exact h1.symm.trans h2
   ·simp only[h2,if_false]at hb
    simp only[h1.symm,if_true,show ¬b=l from fun hh=>h2 hh.symm,if_false]at hab
    have:=(m.loc b cb hb).lt
    omega
  ·simp only[h1,if_false]at ha
   by_cases h2:l=b
   ·simp only[h2.symm,if_true,show ¬a=l from fun hh=>h1 hh.symm,if_false]at hab
    have:=(m.loc a ca ha).lt
    omega
   ·simp only[h2,if_false]at hb
    simp only[show ¬a=l from fun hh=>h1 hh.symm,show ¬b=l from fun hh=>h2 hh.symm,if_false]at hab
    exact m.inj _ _ ca cb ha hb hab
 ·intro t e ht
  refine(m'.env t e ht).locs (fun l' cs' hl'=>⟨⟨cs',?_⟩,?_⟩)
  ·have:=hlt l' cs' hl'
   simp[Zf,show ¬l=l' from fun hh=>this hh.symm,hl']
  ·simp[hlt l' cs' hl']
theorem ZkI(c:Array Value)(T:TypeId)(hf:∀b,w.heap.size≤b→g.prot b=0∧¬g.kept b):
  JB g w { g with prot:=fun b=>if b=w.heap.size then c.size else g.prot b } (w.alloc (.cells c T)) where
 size:=by simp
 old b hb:=Zid w _ hb
 prot b hb:=by simp[Nat.ne_of_lt hb]
 fresh b hb:=by simp at hb;simp[show b≠w.heap.size by omega,(hf b (by omega)).1]
 kept:=rfl
 os:=rfl
 output:=rfl
 tape:=rfl
theorem Z8(m:Zt g ν w tmps ρ L s){ops o gd}(hc:Zij ops o.guard=sO gd){c}(hg:Zk ρ gd=sO c):Region.wanted o (yielded ops tmps)=c:=by
 unfold Zij at hc
 unfold Region.wanted
 split at hc
 ·rename_i h0
  simp only[ZEz]at hc;subst hc
  simp only[Zk,ZEz]at hg;subst hg
  simp[h0]
 ·rename_i j b h0
  split at hc<;>simp at hc
  rename_i t ht
  subst hc
  simp only[h0]
  have hy:yielded ops tmps j=match tmps.getD t undef with
    |.bool b=>sO b
    |_=>nO:=by
   unfold yielded
   rw[ht]
   simp only[Option.bind_some]
   rcases Nat.lt_or_ge t tmps.size with hlt|hge
   ·simp[Array.getD,hlt]
    split<;>simp_all
   ·simp[Array.getD,Nat.not_lt.2 hge,undef]
  simp only[Zk]at hg
  split at hg
  ·rename_i b' he
   simp only[ZEz]at hg;subst hg
   have:=Zbn (m.env t _ he)
   rw[hy,this]
   cases b<;>cases b'<;>rfl
  ·rename_i c0 b' he
   simp only[ZEz]at hg;subst hg
   have h:=m.env t _ he
   cases c0
   ·have:=h.2 rfl
    rw[hy,this]
    simp[undef]
   ·have:=Zbn (h.1 rfl)
    rw[hy,this]
    cases b<;>cases b'<;>rfl
  ·simp at hg
end
section
variable {P:Program}
theorem Yc{op k}(h:ck P op=sO k)(hk:k.isDefer=false)(c):op≠.defer c:=by
 rintro rfl
 simp only[ck,cq]at h
 split at h<;>(try(simp at h;done))
 split at h<;>simp only[ZEz,reduceCtorEq]at h
 subst h
 simp[K.isDefer]at hk
theorem ZhE{b:Frame}{a k cs w w' ops i rest o v}(ho:ops[i]?=sO o)(hw:Region.wanted o (yielded ops a.tmps)=true)(hnd:∀c,o.op≠.defer c)(hr:(execOp a.eval o).run P w=.ok (.value v) w'):
  step P (lone (b.atR a (.inRegion ops (i::rest)::k)) cs w)=.next (lone (b.atR (a.put o.dst v) (.inRegion ops rest::k)) cs w'):=by
 refine step_lone_go ?_
 rw[stepGR_op ho hw,Oper.semAt_eq _ _ _ hnd]
 have hfin:(b.atR a (.inRegion ops (i::rest)::k)).finish v=b.atR (a.put o.dst v) (.inRegion ops rest::k):=by rw[Frame.finish_atR,ho];rfl
 rw[←hfin];simp[stepG.apply,hr]
theorem ZhD{b:Frame}{a k cs w w' ops i rest o}(ho:ops[i]?=sO o)(hw:Region.wanted o (yielded ops a.tmps)=true)(hnd:∀c,o.op≠.defer c)(hr:(execOp a.eval o).run P w=.ok .skip w'):
  step P (lone (b.atR a (.inRegion ops (i::rest)::k)) cs w)=.next (lone (b.atR (a.put o.dst undef) (.inRegion ops rest::k)) cs w'):=by
 refine step_lone_go ?_
 rw[stepGR_op ho hw,Oper.semAt_eq _ _ _ hnd]
 have hfin:(b.atR a (.inRegion ops (i::rest)::k)).finish undef=b.atR (a.put o.dst undef) (.inRegion ops rest::k):=by rw[Frame.finish_atR,ho];rfl
 rw[←hfin];simp[stepG.apply,hr]
theorem ZpY{b:Frame}{a k cs w ops i rest o}(ho:ops[i]?=sO o)(hw:Region.wanted o (yielded ops a.tmps)=false):
  step P (lone (b.atR a (.inRegion ops (i::rest)::k)) cs w)=.next (lone (b.atR (a.put o.dst undef) (.inRegion ops rest::k)) cs w):=by
 have:=stepR_op_skip (P:=P) (b:=b) (a:=a) (k:=k) (cs:=cs) (w:=w) (ops:=ops) (i:=i) (rest:=rest) (by simp[ho,hw])
 simpa[ho]using this
theorem ZvL{N ops is o os}(h:Q3 P N ops is=sO (o::os)):
  ∃i r oo,is=i::r∧ops[i]?=sO oo∧Q3 P N ops r=sO os∧ck P oo.op=sO o.k∧Zij ops oo.guard=sO o.guard∧oo.dst=o.dst∧∀d,o.dst=sO d→d<N:=by
 cases is with
 |nil=>simp[Q3]at h
 |cons i r =>
  simp only[Q3]at h
  split at h<;>(try(simp at h;done))
  rename_i oo hoo
  split at h<;>simp only[ZEz,List.cons.injEq,reduceCtorEq]at h
  rename_i d ds hd hds
  obtain⟨rfl,rfl⟩:=h
  simp only[cop]at hd
  split at hd<;>(try(simp at hd;done))
  rename_i k g hk hg
  refine⟨i,r,oo,rfl,hoo,hds,?_⟩
  split at hd
  ·rename_i hdst
   simp only[ZEz]at hd;subst hd
   exact⟨hk,hg,hdst,fun d h=>by simp at h⟩
  ·rename_i d' hdst
   split at hd<;>simp at hd
   rename_i hlt
   subst hd
   exact⟨hk,hg,hdst,fun d h=>by simp only[ZEz]at h;exact h▸hlt⟩
theorem Zxl{N ops is}(h:Q3 P N ops is=sO []):is=[]:=by
 cases is with
 |nil=>rfl
 |cons i r=>simp only[Q3]at h;split at h<;>(try(simp at h;done));split at h<;>simp at h
theorem ZeG{g ν w tmps ρ L s}(m:Zt g ν w tmps ρ L s){N}(hN:N≤tmps.size){dst}(hd:∀d,dst=sO d→d<N){v e}(h:ZI g ν w L v e)(ds):∃tmps',(Act.mk tmps ds).put dst v=⟨tmps',ds⟩∧N≤tmps'.size∧Zt g ν w tmps' (Zv ρ dst e) L s:=by
 cases dst with
 |none=>exact⟨tmps,rfl,hN,m⟩
 |some d=>exact⟨tmps.setIfInBounds d v,rfl,by simpa using hN,m.put (by have:=hd d rfl;omega) h⟩
theorem ZmB{F:Fr P}{ops i r k oo}{o:DOp}{g ν w tmps ρ L s}(hN:F.N≤tmps.size)(m:Zt g ν w tmps ρ L s)(hoo:ops[i]?=sO oo)(hdst:oo.dst=o.dst)(hd:∀d,o.dst=sO d→d<F.N)(hw:Region.wanted oo (yielded ops tmps)=true)(hnd:∀c,oo.op≠.defer c){e}(hv:∃v,(execOp (Act.mk tmps F.ds).eval oo).run P w=.ok (.value v) w∧ZI g ν w L v e)(h:Q0 F (.inRegion ops r::k) (Zv ρ o.dst e) L s):
  F.T.T g w (lone (F.b.atR ⟨tmps,F.ds⟩ (.inRegion ops (i::r)::k)) F.cs w):=by
 obtain⟨v,hr,hv⟩:=hv
 refine F.T.back _ _ _ _ (.one (ZhE hoo hw hnd hr)) ?_
 rw[hdst]
 obtain⟨tmps',e1,e2,m'⟩:=ZeG m hN hd hv F.ds
 rw[e1]
 exact h g ν w tmps' e2 m'
theorem Zbc{F:Fr P}{ops i r k oo}{o:DOp}{g ν w tmps ρ L s}(hN:F.N≤tmps.size)(m:Zt g ν w tmps ρ L s)(hoo:ops[i]?=sO oo)(hdst:oo.dst=o.dst)(hd:∀d,o.dst=sO d→d<F.N)(hw:Region.wanted oo (yielded ops tmps)=false){e}(h:Q0 F (.inRegion ops r::k) (Zv ρ o.dst (.when false e)) L s):F.T.T g w (lone (F.b.atR ⟨tmps,F.ds⟩ (.inRegion ops (i::r)::k)) F.cs w):=by
 refine F.T.back _ _ _ _ (.one (ZpY hoo hw)) ?_
 rw[hdst]
 obtain⟨tmps',e1,e2,m'⟩:=ZeG m hN hd (v:=undef) (e:=.when false e) ⟨fun h=>by simp at h,fun _=>rfl⟩ F.ds
 rw[e1]
 exact h g ν w tmps' e2 m'
theorem ZzZ{op q xs}(h:ck P op=sO (.q q xs)):∃ys,cq P op=sO (q,ys)∧ZbQ ys=sO xs:=by
 unfold ck at h
 split at h
 ·rename_i q' ys hc
  simp only[ZEN,K.q.injEq]at h
  obtain⟨zs,hz,rfl,rfl⟩:=h
  exact⟨ys,hc,hz⟩
 ·exfalso
  split at h<;>(try(simp at h;done))
  all_goals (repeat' (split at h<;>(try(simp at h;done))))
theorem ZcZ(ρ):∀(ks t e),ZH (Yh ρ ks) t=sO e→ZH ρ t=sO e
 | [],t,e,h=>by simp[Yh,ZH]at h
 |k::ks,t,e,h=>by
  simp only[Yh]at h
  split at h
  ·rename_i e' he'
   simp only[ZH]at h
   by_cases hk:k=t
   ·subst hk;simp only[if_true]at h;rw[he',h]
   ·simp only[hk,if_false]at h;exact ZcZ ρ ks t e h
  ·exact ZcZ ρ ks t e h
theorem ZfX:∀{ρ t e},ZH ρ t=sO e→(t,e)∈ρ
 | (k,e')::ρ,t,e,h=>by
  simp only[ZH]at h
  by_cases hk:k=t
  ·simp only[hk,if_true,ZEz]at h;subst h;subst hk;simp
  ·simp only[hk,if_false]at h;exact List.mem_cons_of_mem _ (ZfX h)
theorem Jx(L):∀(ls l cs),Zf (Zab L ls) l=sO cs→Zf L l=sO cs
 | [],l,cs,h=>by simp[Zab,Zf]at h
 |k::ls,l,cs,h=>by
  simp only[Zab]at h
  split at h
  ·rename_i c' hc'
   simp only[Zf]at h
   by_cases hk:k=l
   ·subst hk;simp only[if_true]at h;rw[hc',h]
   ·simp only[hk,if_false]at h;exact Jx L ls l cs h
  ·exact Jx L ls l cs h
theorem ZfC(L):∀(ls l cs),l∈ls→Zf L l=sO cs→Zf (Zab L ls) l=sO cs
 |k::ls,l,cs,hm,h=>by
  simp only[Zab]
  by_cases hk:k=l
  ·subst hk;simp[h,Zf]
  ·have hm':l∈ls:=by rcases List.mem_cons.1 hm with rfl|h;exact absurd rfl hk;exact h
   split
   ·simp only[Zf,hk,if_false];exact ZfC L ls l cs hm' h
   ·exact ZfC L ls l cs hm' h
theorem ZI.keep{g ν w L ls v e}(h:ZI g ν w L v e)(hl:∀l∈WE e,l∈ls):ZI g ν w (Zab L ls) v e:=by
 induction e with
 |d x=>exact h
 |loc l o=>obtain⟨⟨cs,hc⟩,hv⟩:=h;exact⟨⟨cs,ZfC L ls l cs (hl l (by simp[WE])) hc⟩,hv⟩
 |when c e ih=>exact⟨fun hc=>ih (h.1 hc) hl,h.2⟩
theorem Zt.keep(m:Zt g ν w tmps ρ L s)(ks:List Nat):Zt g ν w tmps (Yh ρ ks) (ZaF (Yh ρ ks) L) s:={
 st:=m.st
 loc l cs h:=m.loc l cs (Jx _ _ _ _ h)
 locKept l cs h:=m.locKept l cs (Jx _ _ _ _ h)
 locSt l cs h:=m.locSt l cs (Jx _ _ _ _ h)
 inj l l' cs cs' h h':=m.inj l l' cs cs' (Jx _ _ _ _ h) (Jx _ _ _ _ h')
 env t e h:=(m.env t e (ZcZ ρ ks t e h)).keep (fun l hl=>List.mem_flatMap.2 ⟨(t,e),ZfX h,hl⟩) }
theorem ZoM{F:Fr P}{dk ρ L s}(ks)(h:Zs F dk (Yh ρ ks) (ZaF (Yh ρ ks) L) s):Zs F dk ρ L s :=
 fun k hk g ν w tmps hN m=>h k hk g ν w tmps hN (m.keep ks)
theorem ZzO{F:Fr P}{kp dk ρ L s}(h:Zs F dk ρ L s):DO F kp dk [] ρ L s:=by
 intro ops is k hops hk g ν w tmps hN m
 obtain rfl:=Zxl hops
 exact F.T.back _ _ _ _ (.one stepR_region_end) (h k hk g ν w tmps hN m)
def kept(kp:Option (List Nat))(ρ:Env):Env :=
 match kp with
 |some ks=>Yh ρ ks
 |none=>ρ
def ZjX(kp:Option (List Nat))(ρ:Env)(L:Loc):Loc :=
 match kp with
 |some ks=>ZaF (Yh ρ ks) L
 |none=>L
theorem Zd7{F:Fr P}{kp}{dk}{ρ}{L}{s}(h:Zs F dk (kept kp ρ) (ZjX kp ρ L) s):DO F kp dk [] ρ L s:=by
 refine ZzO ?_
 cases kp with
 |none=>exact h
 |some ks=>exact ZoM ks h
end
section
variable {P:Program}
theorem Zx2{g ν w tmps ρ L s}(m:Zt g ν w tmps ρ L s){x a b x' a' b'}(hx:ZU x=sO x')(ha:ZU a=sO a')(hb:ZU b=sO b'){c}(hc:c=true){p v}(h:ZcP ρ c x' a' b'=sO (p,v))(hp:p)(ds dst ty pos af gd):
  (execOp (Act.mk tmps ds).eval ⟨dst,.pick x a b,ty,pos,af,gd⟩).run P w=.ok (.value (.bool v)) w:=by
 unfold ZcP at h
 split at h<;>(try(grind;done))
 rename_i p0 v0 h0
 split at h<;>(try(grind;done))
 rename_i pa y pb z h1 h2
 cases h
 subst hc
 have e0:=Zbn (Z3 m hx rfl h0 hp.1 ds)
 cases v0
 ·have e2:=Zbn (Z3 m hb rfl h2 hp.2.2 ds)
  simp[execOp,e0,e2,asBool]
 ·have e1:=Zbn (Z3 m ha rfl h1 hp.2.1 ds)
  simp[execOp,e0,e1,asBool]
theorem ZyW{op x a b}(h:ck P op=sO (.pick x a b)):∃x' a' b',op=.pick x' a' b'∧ZU x'=sO x∧ZU a'=sO a∧ZU b'=sO b:=by
 unfold ck at h
 split at h
 ·simp at h
 ·split at h<;>(try(simp at h;done))
  all_goals (try(repeat' (split at h<;>(try(simp at h;done)))))
  cases h
  exact⟨_,_,_,rfl,‹_›,‹_›,‹_›⟩
theorem ZqU{op z}(h:ck P op=sO (.alloc z)):∃e,op=.alloc e∧Zae P e=sO z:=by
 unfold ck at h
 split at h
 ·simp at h
 ·split at h<;>(try(simp at h;done))
  all_goals (try(repeat' (split at h<;>(try(simp at h;done)))))
  simp at h
  exact⟨_,rfl,h⟩
theorem ZvD{op x}(h:ck P op=sO (.box x)):∃e x',op=.box e x'∧ZU x'=sO x:=by
 unfold ck at h
 split at h
 ·simp at h
 ·split at h<;>(try(simp at h;done))
  all_goals (try(repeat' (split at h<;>(try(simp at h;done)))))
  simp at h
  exact⟨_,_,rfl,h⟩
theorem ZoR{op a v}(h:ck P op=sO (.store1 a v)):∃t a' v',op=.store t a' v'∧JD P t=sO false∧ZS P t=sO 1∧ZU a'=sO a∧ZU v'=sO v:=by
 unfold ck at h
 split at h
 ·simp at h
 ·split at h<;>(try(simp at h;done))
  all_goals (try(repeat' (split at h<;>(try(simp at h;done)))))
  cases h
  exact⟨_,_,_,rfl,‹_›,‹_›,‹_›,‹_›⟩
theorem ZoS{op a v n}(h:ck P op=sO (.storeN n a v)):∃t a' v',op=.store t a' v'∧JD P t=sO true∧ZS P t=sO n∧ZU a'=sO a∧ZU v'=sO v:=by
 unfold ck at h
 split at h
 ·simp at h
 ·split at h<;>(try(simp at h;done))
  all_goals (try(repeat' (split at h<;>(try(simp at h;done)))))
  cases h
  exact⟨_,_,_,rfl,‹_›,‹_›,‹_›,‹_›⟩
theorem ZvE{op len n z is xs}(h:ck P op=sO (.bsl len n z is xs)):
  ∃t e parts,op=.buildSlice t len parts∧P.underlying t=sO (.slice e)∧ZS P e=sO n∧Zae P e=sO z∧ZbQ (parts.toList.map (·.2))=sO xs∧is=parts.toList.map (·.1) ∧
   K5 len is=true∧z.length=n∧0<n∧len*n≤2 ^ 24:=by
 unfold ck at h
 split at h
 ·simp at h
 ·split at h<;>(try(simp at h;done))
  all_goals (try(repeat' (split at h<;>(try(simp at h;done)))))
  rename_i hcond
  cases h
  simp at hcond
  exact⟨_,_,_,rfl,‹_›,‹_›,‹_›,‹_›,rfl,hcond.1.1.1,hcond.1.1.2,hcond.1.2,hcond.2⟩
theorem QJ{g w t z}(h:Zae P t=sO z):∃v,(zeroValue t).run P w=.ok v w∧ZG (Rep g w) v.cells.toList z∧(∀x∈v.cells,x.one1=true)∧∃i,P.info? t=sO i∧i.zero=sO v:=by
 unfold Zae at h
 cases hi:P.info? t with
 |none=>grind
 |some i =>
  cases hz:i.zero with
  |none=>grind
  |some v =>
   simp[hi,hz]at h
   obtain⟨h1,h2⟩:=ZcX (g:=g) (w:=w) h
   exact⟨v,by simp[zeroValue,typeInfo,hi,hz],h1,fun x hx=>h2 x (Array.mem_toList_iff.2 hx),i,rfl,hz⟩
theorem Wa{F:Fr P}{kp dk o os ρ L s}(h:∀(oo:Oper) (g:G) (ν:Nat→Nat) (w:World) (tmps:Array Value) (ops:Array Oper) (i:Nat) (r:List Nat) (k:List Item),ops[i]?=sO oo→ck P oo.op=sO o.k→Zij ops oo.guard=sO o.guard →
   oo.dst=o.dst→(∀d,o.dst=sO d→d<F.N)→F.N≤tmps.size→Zt g ν w tmps ρ L s→Q3 P F.N ops r=sO os→Wv P F.an F.N k dk →
   F.T.T g w (lone (F.b.atR ⟨tmps,F.ds⟩ (.inRegion ops (i::r)::k)) F.cs w)):DO F kp dk (o::os) ρ L s:=by
 intro ops is k hops hk g ν w tmps hN m
 obtain⟨i,r,oo,rfl,h1,h2,h3,h4,h5,h6⟩:=ZvL hops
 exact h oo g ν w tmps ops i r k h1 h3 h4 h5 h6 hN m h2 hk
theorem Zqs{F:Fr P}{kp dk o os ρ L s c}(hg:Zk ρ o.guard=sO c)(hnk:o.k.isDefer=false){e e'}(he:e'=.when c e∨(c=true∧e'=e))(hv:c=true→∀(oo:Oper) (g:G) (ν:Nat→Nat) (w:World) (tmps:Array Value),ck P oo.op=sO o.k→Zt g ν w tmps ρ L s →
   ∃v,(execOp (Act.mk tmps F.ds).eval oo).run P w=.ok (.value v) w∧ZI g ν w L v e)(h:DO F kp dk os (Zv ρ o.dst e') L s):DO F kp dk (o::os) ρ L s:=by
 refine Wa fun oo g ν w tmps ops i r k hoo hck hcg hdst hd hN m hr hkk=>?_
 have hgo:=h ops r k hr hkk
 have hw:=Z8 m hcg hg
 have hnd:=Yc hck hnk
 cases c
 ·rcases he with rfl|⟨h0,_⟩
  ·exact Zbc (P:=P) hN m hoo hdst hd hw hgo
  ·grind
 ·obtain⟨v,h1,h2⟩:=hv rfl oo g ν w tmps hck m
  refine ZmB hN m hoo hdst hd hw hnd ⟨v,h1,?_⟩ hgo
  rcases he with rfl|⟨_,rfl⟩
  ·exact⟨fun _=>h2,fun h=>by simp at h⟩
  ·exact h2
theorem ZzP{F:Fr P}{kp dk o os ρ L s c}(hg:Zk ρ o.guard=sO c){q xs}(hk:o.k=.q q xs){p side es e}(ha:Z2 ρ c xs=sO (p,es))(hq:qv L s q es=sO (side,e))(hs:c=true→p∧side){e'}(he:e'=.when c e∨(c=true∧e'=e))(h:DO F kp dk os (Zv ρ o.dst e') L s):DO F kp dk (o::os) ρ L s:=by
 refine Zqs hg (by rw[hk];rfl) he (fun hc oo g ν w tmps hck m=>?_) h
 rw[hk]at hck
 obtain⟨ys,hcq,hys⟩:=ZzZ hck
 have hargs:=ZbB m hc F.ds hys ha (hs hc).1
 exact Zzl hcq hargs m.loc m.st hq (hs hc).2 _ _ _ _ _
theorem YD{F:Fr P}{ops i r k oo}{o:DOp}{g g' ν' w w' tmps ρ L' s'}(hN:F.N≤tmps.size)(hoo:ops[i]?=sO oo)(hdst:oo.dst=o.dst)(hd:∀d,o.dst=sO d→d<F.N)(hw:Region.wanted oo (yielded ops tmps)=true)(hnd:∀c,oo.op≠.defer c){e v}(hr:(execOp (Act.mk tmps F.ds).eval oo).run P w=.ok (.value v) w')(hx:Ext g w g' w')(m':Zt g' ν' w' tmps ρ L' s')(hv:ZI g' ν' w' L' v e)(h:Q0 F (.inRegion ops r::k) (Zv ρ o.dst e) L' s'):F.T.T g w (lone (F.b.atR ⟨tmps,F.ds⟩ (.inRegion ops (i::r)::k)) F.cs w):=by
 refine F.T.back _ _ _ _ (.one (ZhE hoo hw hnd hr)) ?_
 rw[hdst]
 obtain⟨tmps',e1,e2,m''⟩:=ZeG m' hN hd hv F.ds
 rw[e1]
 exact F.T.ext _ _ _ _ _ hx (h g' ν' w' tmps' e2 m'')
theorem Zqo{F:Fr P}{kp dk o os ρ L s}(hg:o.guard=nO){t}(hdt:o.dst=sO t){z}(hk:o.k=.alloc z)(hl:J2 L t=false)(h:DO F kp dk os ((t,.loc t 0)::ρ) ((t,z)::L) s):DO F kp dk (o::os) ρ L s:=by
 refine Wa fun oo g ν w tmps ops i r k hoo hck hcg hdst hd hN m hr hkk=>?_
 have hw:=Z8 m hcg (c:=true) (by rw[hg];rfl)
 have hnd:=Yc hck (by rw[hk];rfl)
 rw[hk]at hck
 obtain⟨T,hop,hz⟩:=ZqU hck
 obtain⟨v,hv1,hv2,hv3,_⟩:=QJ (g:=g) (w:=w) hz
 obtain⟨hx,m'⟩:=m.alloc hl hv2 hv3 T
 refine YD (s':=s) hN hoo hdst hd hw hnd (v:=.pointer (sO ⟨w.heap.size,0,nO⟩)) (e:=.loc t 0) ?_ hx m' ⟨⟨z,by simp[Zf]⟩,by simp⟩ ?_
 ·simp[execOp,hop,Instr.alloc,hv1,newVar,newRow]
 ·rw[hdt];exact h ops r k hr hkk
theorem ZzM{F:Fr P}{kp dk o os ρ L s}(hg:o.guard=nO){t}(hdt:o.dst=sO t){x}(hk:o.k=.box x){p v}(ha:ZC ρ true x=sO (p,.d v))(hp:p)(hl:J2 L t=false)(hok:W1 v=true)(h:DO F kp dk os ((t,.loc t 0)::ρ) ((t,cellsOf v)::L) s):DO F kp dk (o::os) ρ L s:=by
 refine Wa fun oo g ν w tmps ops i r k hoo hck hcg hdst hd hN m hr hkk=>?_
 have hw:=Z8 m hcg (c:=true) (by rw[hg];rfl)
 have hnd:=Yc hck (by rw[hk];rfl)
 rw[hk]at hck
 obtain⟨T,x',hop,hx'⟩:=ZvD hck
 have hrep:Rep g w _ v:=Z3 m hx' rfl ha hp F.ds
 obtain⟨hc1,hc2⟩:=Zc7 hrep hok
 have hone:=Zgw hrep hok
 obtain⟨hx,m'⟩:=m.alloc hl (Ya (by simpa using hc1) hc2) (fun v hv=>hone v hv) T
 refine YD (s':=s) hN hoo hdst hd hw hnd (v:=.pointer (sO ⟨w.heap.size,0,nO⟩)) (e:=.loc t 0) ?_ hx m' ⟨⟨cellsOf v,by simp[Zf]⟩,by simp⟩ ?_
 ·simp[execOp,hop,Instr.box,newVar,newRow]
 ·rw[hdt];exact h ops r k hr hkk
theorem Zzh{g ν w L v l off}(h:ZI g ν w L v (.loc l off)):v=.pointer (sO ⟨ν l,off,nO⟩):=h.2
theorem Zqr{F:Fr P}{kp dk o os ρ L s}(hg:o.guard=nO){a v}(hk:o.k=.store1 a v∧True∨∃n,o.k=.storeN n a v){p q l off d cs}(ha:ZC ρ true a=sO (p,.loc l off))(hv:ZC ρ true v=sO (q,.d d))(hp:p)(hq:q)(hL:Zf L l=sO cs)(hd1:o.k=.store1 a v→QQ d=true)(hd2:∀n,o.k=.storeN n a v→(∃xs,d=.agg xs)∧(cellsOf d).length=n)(hlen:off+(cellsOf d).length≤cs.length)(hdst0:o.dst=nO)(h:DO F kp dk os ρ ((l,Zu cs off (cellsOf d))::L) s):DO F kp dk (o::os) ρ L s:=by
 refine Wa fun oo g ν w tmps ops i r k hoo hck hcg hdst hd hN m hr hkk=>?_
 have hw:=Z8 m hcg (c:=true) (by rw[hg];rfl)
 have hnd:=Yc hck (by rcases hk with ⟨hk,_⟩|⟨n,hk⟩<;>rw[hk]<;>rfl)
 have hform:∃t a' v',oo.op=.store t a' v'∧ZU a'=sO a∧ZU v'=sO v∧ZS P t=sO (cellsOf d).length∧W1 d=true:=by
  rcases hk with ⟨hk,_⟩|⟨n,hk⟩
  ·have hok:=hd1 hk
   rw[hk]at hck
   obtain⟨t,a',v',h1,h2,h3,h4,h5⟩:=ZoR hck
   refine⟨t,a',v',h1,h4,h5,?_,?_⟩
   ·rw[h3];cases d<;>simp[QQ]at hok<;>rfl
   ·cases d<;>simp[QQ]at hok<;>rfl
  ·obtain⟨⟨xs,rfl⟩,hn⟩:=hd2 n hk
   rw[hk]at hck
   obtain⟨t,a',v',h1,h2,h3,h4,h5⟩:=ZoS hck
   exact⟨t,a',v',h1,h4,h5,by rw[h3,hn],rfl⟩
 obtain⟨t,a',v',hop,ha',hv',hsz,hok⟩:=hform
 have hav:=Zzh (Z3 m ha' rfl ha hp F.ds)
 have hrep:Rep g w _ d:=Z3 m hv' rfl hv hq F.ds
 obtain⟨hc1,hc2⟩:=Zc7 hrep hok
 have hone:=Zgw hrep hok
 obtain⟨hpr,cur,T,hb,hcl,hcr,hco⟩:=m.loc l cs hL
 generalize hvv:(Act.mk tmps F.ds).eval v'=vv at *
 have hst:=run_storeCells_at (P:=P) (ν l) off T vv.cells.toList 0 cur w hb (by simp;omega) (fun x hx=>by rw[Zcv];exact hone x (Array.mem_toList_iff.1 hx))
 have hrepNew:ZG (Rep g w) (cur.toList.take off++vv.cells.toList++cur.toList.drop (off+vv.cells.size)) (Zu cs off (cellsOf d)):=by
  have hcur:ZG (Rep g w) cur.toList cs:=Ya (by simpa using hcl) (fun i v d hv hd=>hcr i v d (by simpa using hv) hd)
  unfold Zu
  rw[←hc1]
  exact((hcur.take off).append (Ya (by simpa using hc1) hc2)).append (hcur.drop _)
 obtain⟨hx,m'⟩:=m.store hL (vs:=(cur.toList.take off++vv.cells.toList++cur.toList.drop (off+vv.cells.size)).toArray) (ds:=Zu cs off (cellsOf d)) (by simpa using hrepNew) (fun x hx=>by
  simp only[List.mem_toArray,List.mem_append]at hx
  rcases hx with (hx|hx)|hx
  ·exact hco x (Array.mem_toList_iff.1 (List.mem_of_mem_take hx))
  ·exact hone x (Array.mem_toList_iff.1 hx)
  ·exact hco x (Array.mem_toList_iff.1 (List.mem_of_mem_drop hx))) (by simp[Zu];omega)
 refine F.T.back _ _ _ _ (.one (ZhD hoo hw hnd (w':=w.setRow (ν l) (cur.toList.take off++vv.cells.toList++cur.toList.drop (off+vv.cells.size)).toArray) ?_)) ?_
 ·simp only[execOp,hop,hav,hvv,Instr.storeAt,Instr.sureAddr,storeVar,Sem.run_bind,Sem.run_pure,Result.andThen_ok,YG hsz]
  rw[if_neg (by simp[hc1])]
  rw[hst];rfl
 ·rw[hdst,hdst0]
  exact F.T.ext _ _ _ _ _ hx (h ops r k hr hkk g ν _ tmps hN m')
end
theorem ZrP{cs vs s k i}(hv:vs.length=s)(hk:(k+1)*s≤cs.length)(hi:(i+1)*s≤cs.length):
  part (Zu cs (k*s) vs) (i*s) s=if i=k then vs else part cs (i*s) s:=by
 have hk':k*s+s≤cs.length:=by rw[ZE2,Nat.one_mul]at hk;exact hk
 unfold part Zu
 apply List.ext_getElem?
 intro j
 by_cases hj:j<s
 ·simp only[ZFg,hj,if_true,List.getElem?_drop,List.getElem?_append,ZEM,ZEU,hv]
  by_cases hik:i=k
  ·subst hik
   simp only[show i*s+j<min (i*s) cs.length+s from by omega,show ¬i*s+j<min (i*s) cs.length from by omega,if_true,if_false]
   rw[show i*s+j-min (i*s) cs.length=j from by omega]
  ·simp only[hik,if_false,ZFg,hj,if_true,List.getElem?_drop]
   rcases Nat.lt_or_gt_of_ne hik with h|h
   ·have:(i+1)*s≤k*s:=ZEW s h
    rw[ZE2,Nat.one_mul]at this
    simp only[show i*s+j<min (k*s) cs.length+s from by omega,show i*s+j<min (k*s) cs.length from by omega,if_true,show i*s+j<k*s from by omega]
   ·have:(k+1)*s≤i*s:=ZEW s h
    rw[ZE2,Nat.one_mul]at this
    simp only[show ¬i*s+j<min (k*s) cs.length+s from by omega,if_false]
    congr 1;omega
 ·have e1:∀l:List D,(l.take s)[j]?=nO:=fun l=>by simp[ZFg,hj]
  rw[e1]
  split
  ·exact(ZFi (l:=vs) (i:=j) (by omega)).symm
  ·rw[e1]
theorem Zol{cs vs o}(h:o+vs.length≤cs.length):(Zu cs o vs).length=cs.length:=by
 simp[Zu];omega
theorem Zgj{n}:∀{is},K5 n is=true→∀i∈is,i<n
 |i::r,h,j,hj=>by
  simp[K5]at h
  rcases List.mem_cons.1 hj with rfl|hj
  ·exact h.1.1
  ·exact Zgj h.2 j hj
theorem ZmJ{z}:∀{ps i},(∀p∈ps,p.1≠i)→Z7 z ps i=z
 | [],_,_=>rfl
 | (k,d)::r,i,h=>by
  have h0:¬k=i:=h (k,d) (by simp)
  simp[Z7,h0]
  exact ZmJ fun p hp=>h p (List.mem_cons_of_mem _ hp)
theorem Zix{len s}:∀(is ds cells),K5 len is=true→is.length=ds.length→KQ s ds=true→cells.length=len*s →
  ∃cs,Zba cells (is.map fun i=>(i*s,s)) ds=sO cs∧cs.length=len*s∧∀i,i<len→part cs (i*s) s=Z7 (part cells (i*s) s) (is.zip ds) i
 | [],[],cells,_,_,_,hc=>⟨cells,rfl,hc,fun i _=>rfl⟩
 |k::is,d::ds,cells,hd,hn,hp,hc=>by
  simp[K5]at hd
  simp[KQ]at hp
  obtain⟨⟨hk,hnot⟩,hd⟩:=hd
  obtain⟨⟨hp1,hp2⟩,hp3⟩:=hp
  have hks:(k+1)*s≤cells.length:=by rw[hc];exact ZEW s hk
  have hks':k*s+s≤cells.length:=by rw[ZE2,Nat.one_mul]at hks;exact hks
  obtain⟨cs,h1,h2,h3⟩:=Zix is ds (Zu cells (k*s) (cellsOf d)) hd (by simpa using hn) hp3 (by rw[Zol (by omega),hc])
  refine⟨cs,?_,h2,fun i hi=>?_⟩
  ·simp only[ZEQ,Zba]
   rw[if_pos ⟨hp1,hp2,hks'⟩];exact h1
  ·rw[h3 i hi,ZrP hp2 hks (by rw[hc];exact ZEW s hi)]
   simp[Z7]
   by_cases hik:i=k
   ·subst hik
    simp
    exact ZmJ fun p hp=>by
     have:=(List.of_mem_zip hp).1
     intro h;subst h;exact hnot this
   ·simp[hik,show ¬k=i from fun h=>hik h.symm]
 | [],_::_,_,_,hn,_,_=>by grind
 |_::_,[],_,_,hn,_,_=>by grind
theorem ZjG{z len s i}(hzl:z.length=s)(_hs0:0<s)(hi:i<len):part ((ZEO (len*s)).map fun i=>z.getD (i % s) .undef) (i*s) s=z:=by
 apply List.ext_getElem?
 intro c
 by_cases hc:c<s
 ·have hlt:i*s+c<len*s:=by
   have:(i+1)*s≤len*s:=ZEW s hi
   rw[ZE2,Nat.one_mul]at this;omega
  have hm:(i*s+c) % s=c:=by rw[Nat.mul_comm,Nat.mul_add_mod,Nat.mod_eq_of_lt hc]
  have hcz:c<z.length:=by omega
  simp only[part,ZFg,hc,List.getElem?_drop,List.getElem?_map,List.getElem?_range hlt,ZE4,hm]
  simp[hcz]
 ·rw[ZFi (l:=z) (by omega)];simp[part,ZFg,hc]
section
variable {P:Program}
theorem ZzW{g w len s z t e}{parts:List (Nat×Value)}{ds}(hu:P.underlying t=sO (.slice e))(hsz:ZS P e=sO s)(hz:Zae P e=sO z)(hdis:K5 len (parts.map (·.1))=true)(hzl:z.length=s)(hs0:0<s)(hbig:len*s≤2 ^ 24)(hd:ZG (Rep g w) (parts.map (·.2)) ds)(hp:KQ s ds=true)(hf:∀b,w.heap.size≤b→g.prot b=0∧¬g.kept b):
  ∃v w' g',(Instr.buildSlice t len parts.toArray).run P w=.ok v w'∧JB g w g' w'∧Rep g' w' v (.sl .full len s (Z7 z ((parts.map (·.1)).zip ds))):=by
 obtain⟨zv,hz1,hz2,hz3,ie,hie,hzz⟩:=QJ (g:=g) (w:=w) hz
 have hsize:ie.size=s:=by simpa[ZS,hie]using hsz
 have hzlen:zv.cells.size=s:=by have:=hz2.len;simp at this;omega
 have hn:(parts.map (·.1)).length=ds.length:=by have:=hd.len;simpa using this
 let c0:Array Value:=(Array.range (len*s)).map (zv.cells[· % zv.cells.size]!)
 let d0:List D:=(ZEO (len*s)).map fun i=>z.getD (i % s) .undef
 have hrep0:ZG (Rep g w) c0.toList d0:=by
  refine Ya (by simp[c0,d0]) (fun i v d hv hd=>?_)
  simp[c0,d0]at hv hd
  obtain⟨a,ha,rfl⟩:=hv
  obtain⟨b,hb,rfl⟩:=hd
  rw[ha]at hb
  cases hb
  have hlt:a % s<s:=Nat.mod_lt _ hs0
  refine hz2.get (a % s) _ _ ?_ ?_
  ·rw[hzlen];simp[hzlen,hlt]
  ·simp[hzl,hlt]
 have hone0:∀v∈c0,v.one1=true:=fun v hv=>by
  simp[c0]at hv
  obtain⟨a,_,rfl⟩:=hv
  have hlt:a % zv.cells.size<zv.cells.size:=Nat.mod_lt _ (by omega)
  rw[getElem!_pos zv.cells (a % zv.cells.size) hlt]
  exact hz3 _ (Array.getElem_mem hlt)
 have hlen0:d0.length=len*s:=by simp[d0]
 obtain⟨cs,hfill,hcl,hrows⟩:=Zix (parts.map (·.1)) ds d0 hdis hn hp hlen0
 obtain⟨cv,hf1,hf2,hf3⟩:=Zgm (g:=g) (w:=w) (fun i=>sO (i*s,s)) parts ((parts.map (·.1)).map fun i=>(i*s,s)) ds cs d0 c0 (fun i x q hx hq=>by
  simp[hx,Function.comp_def]at hq
  rw[←hq]) (by simp) hd hrep0 hone0 hfill
 have hcv:cv.size=len*s:=by have:=hf2.len;simp at this;omega
 have hrow:∀i j,i<len→j<s→i*s+j<len*s:=fun i j hi hj=>by
  have:(i+1)*s≤len*s:=ZEW s hi
  rw[ZE2,Nat.one_mul]at this;omega
 have hcell:∀i j d,i<len→j<s→(Z7 z ((parts.map (·.1)).zip ds) i)[j]?=sO d→cs[i*s+j]?=sO d:=fun i j d hi hj hd=>by
  have h:=hrows i hi
  have hz':part d0 (i*s) s=z:=ZjG hzl hs0 hi
  rw[hz']at h
  rw[←h]at hd
  simpa[part,hj]using hd
 have hlrow:∀i,i<len→(Z7 z ((parts.map (·.1)).zip ds) i).length=s:=fun i hi=>by
  have hz':=hrows i hi
  have:(part cs (i*s) s).length=s:=by have:=hrow i (s-1) hi (by omega);simp[part];omega
  have hzp:part d0 (i*s) s=z:=ZjG hzl hs0 hi
  rw[hz',hzp]at this;exact this
 by_cases hl0:len=0
 ·subst hl0
  have hp0:parts=[]:=by
   cases parts with
   |nil=>rfl
   |cons x r=>have:=Zgj hdis x.1 (by simp);omega
  subst hp0
  refine⟨.slice (sO ⟨w.heap.size,0,nO⟩) 0 0,w.alloc (.cells #[] e),{ g with prot:=fun b=>if b=w.heap.size then 0 else g.prot b },?_,ZkI #[] e hf,?_⟩
  ·simp[Instr.buildSlice,run_underlying hu,YG hsz,Instr.fill,newRow]
   exact congrArg (fun c=>w.alloc (Obj.cells c e)) (Array.ext' (by simp))
  ·exact .sl w.heap.size 0 0 0 s _ .full (fun _ _=>undef) (fun i hi=>by omega) (fun i j hi=>by omega) (fun i j hi=>by omega) (fun i j d hi=>by omega) (fun i j hi=>by omega) rfl (by omega) (by simp)
 ·have hpos:¬len*s=0:=by simp[Nat.mul_eq_zero];omega
  have hrun:=run_buildSlice (P:=P) w t e len parts.toArray cv ie zv hu hie hzz (by rw[hsize];omega) (by rw[hsize];exact hpos) (by rw[hsize];exact hf1)
  have hgr:=ZkI (g:=g) (w:=w) cv e hf
  refine⟨_,_,_,hrun,hgr,?_⟩
  have hext:=hgr.ext hf
  refine .sl w.heap.size 0 len len s _ .full (fun i j=>cv.getD (i*s+j) undef) hlrow (fun i j hi hj=>?_) (fun i j hi hj=>?_) (fun i j d hi hd=>?_) (fun i j hi hj=>?_) rfl (ZEP _) ?_
  ·have hlt:i*s+j<cv.size:=by rw[hcv];exact hrow i j hi hj
   have:(w.alloc (.cells cv e)).cell? ⟨w.heap.size,0+i*s+j,nO⟩=cv[0+i*s+j]?:=World.cell?_alloc_new w cv e _
   rw[this];simp[hlt]
  ·simp;have:=hrow i j hi hj;omega
  ·have hj:j<s:=by rw[←hlrow i hi];exact(List.getElem?_eq_some_iff.1 hd).1
   have hlt:i*s+j<cv.size:=by rw[hcv];exact hrow i j hi hj
   refine(hf2.get (i*s+j) _ d ?_ (hcell i j d hi hj hd)).mono hext
   simp[hlt]
  ·have hlt:i*s+j<cv.size:=by rw[hcv];exact hrow i j hi hj
   simp[hlt,dite_true]
   exact hf3 _ (Array.getElem_mem hlt)
  ·unfold big
   have:len≤len*s:=Nat.le_mul_of_pos_right _ hs0
   omega
end
section
variable {P:Program}
theorem Yb.updL(h:Yb g s w){b:Nat}{o:W4}(ho:WD g w b o)(hk:¬g.kept b):Yb g (s.upd b o) w:={
 obj c x hx:=by
  simp[St.upd]at hx
  by_cases hb:c=b
  ·grind
  ·simp[hb]at hx;exact h.obj c x hx
 kept c x hx:=by
  simp[St.upd]at hx
  by_cases hb:c=b
  ·grind
  ·simp[hb]at hx;exact h.kept c x hx
 fresh:=h.fresh
 tabs:=h.tabs }
theorem Zt.named{w w':World}(m:Zt g ν w tmps ρ L s){b:Nat}{o o':W4}(hb:s b=sO o)(he:Ext g w g w')(hsz:w'.heap.size=w.heap.size)(hoth:∀c,c≠b→w'.heap[c]?=w.heap[c]?)(ho:WD g w' b o'):Zt g ν w' tmps ρ L (s.upd b o'):={
 st:=by
  have h1:Yb g (s.del b) w':=⟨fun c x hx=>by
    simp[St.del]at hx
    by_cases hc:c=b
    ·grind
    ·simp[hc]at hx;exact(m.st.obj c x hx).mono he (hoth c hc) rfl,
   fun c x hx=>by
    simp[St.del]at hx
    by_cases hc:c=b
    ·grind
    ·simp[hc]at hx;exact m.st.kept c x hx,
   fun c hc=>m.st.fresh c (by omega),fun n cs hc=>(m.st.tabs n cs hc).mono he⟩
  have h2:=h1.updL ho (m.st.kept b o hb)
  have:(s.del b).upd b o'=s.upd b o':=by
   funext c;simp[St.upd,St.del];by_cases hc:c=b<;>simp[hc]
  rw[this]at h2;exact h2
 loc l cs hl:=(m.loc l cs hl).mono he (hoth _ (fun h=>by have:=m.locSt l cs hl;grind)) rfl
 locKept:=m.locKept
 locSt l cs hl:=by
  have hne:ν l≠b:=fun h=>by have:=m.locSt l cs hl;grind
  simp[St.upd,hne];exact m.locSt l cs hl
 inj:=m.inj
 env t e ht:=(m.env t e ht).mono he }
theorem Zt.newObj{g g' ν w w' tmps ρ L s}(m:Zt g ν w tmps ρ L s)(hg:JB g w g' w'){o}(ho:WD g' w' w.heap.size o):
  s w.heap.size=nO∧Zt g' ν w' tmps ρ L (s.upd w.heap.size o):=by
 have hn:s w.heap.size=nO:=by
  cases h:s w.heap.size with
  |none=>rfl
  |some x=>exact absurd (m.st.obj _ x h).lt (Nat.lt_irrefl _)
 have m':=m.grow hg
 refine⟨hn,⟨m'.st.updL ho (by rw[hg.kept];exact(m.st.fresh _ (ZEP _)).2),m'.loc,m'.locKept,?_,m'.inj,m'.env⟩⟩
 intro l cs hl
 have hlt:=(m.loc l cs hl).lt
 have hne:ν l≠w.heap.size:=by omega
 simp[St.upd,hne];exact m'.locSt l cs hl
theorem Zmm(b:Nat){en:Array MapEntry}{cl:Nat}(o:Obj)(hb:w.heap[b]?=sO (.map en cl))(hp:g.prot b=0)(hk:¬g.kept b):Ext g w g { w with heap:=w.heap.setIfInBounds b o } where
 size:=by simp
 prot _:=ZEP _
 cell b' o' ho:=by
  by_cases h:b'=b
  ·subst h;omega
  ·exact Jg (by simp[Ne.symm h])
 hdr b' x hx:=by
  by_cases h:b'=b
  ·subst h;simp[hdr,hb]at hx
  ·rw[Za0 (w:=w) (by simp[Ne.symm h])];exact hx
 kept b' hb':=by
  have h:b'≠b:=fun h=>hk (h▸hb')
  simp[Ne.symm h]
 keptProt _ _:=rfl
 keptEq:=rfl
 os:=rfl
 output:=rfl
 tape:=rfl
theorem Zps{b en cl}(o)(hb:w.heap[b]?=sO (.map en cl)):({ w with heap:=w.heap.setIfInBounds b o }:World).heap[b]?=sO o:=by grind
theorem Jq{b c}(o)(h:c≠b):({ w with heap:=w.heap.setIfInBounds b o }:World).heap[c]?=w.heap[c]?:=by grind
theorem Zxj{op}(h:ck P op=sO .mkmap):∃t,op=.makeMap t nO:=by
 unfold ck at h
 split at h
 ·simp at h
 ·split at h<;>(try(simp at h;done))
  all_goals (try(repeat' (split at h<;>(try(simp at h;done)))))
  grind
theorem Zua{op e n bytes z l c}(h:ck P op=sO (.mkslice e n bytes z l c)):
  ∃t l' c',op=.makeSlice t l' c'∧P.underlying t=sO (.slice e)∧ZS P e=sO n∧Zae P e=sO z∧bytes=P.bytesOf e∧ZU l'=sO l∧ZU c'=sO c∧0<n∧z.length=n:=by
 unfold ck at h
 split at h
 ·simp at h
 ·split at h<;>(try(simp at h;done))
  all_goals (try(repeat' (split at h<;>(try(simp at h;done)))))
  rename_i hcond
  cases h
  simp at hcond
  exact⟨_,_,_,rfl,‹_›,‹_›,‹_›,rfl,‹_›,‹_›,hcond.1,hcond.2⟩
theorem Zz0{op x}(h:ck P op=sO (.s2b x)):∃s d x' e,op=.convert s d x'∧P.underlying s=sO .string∧P.underlying d=sO (.slice e)∧P.underlying e=sO (.int .u8)∧ZU x'=sO x:=by
 unfold ck at h
 split at h
 ·simp at h
 ·split at h<;>(try(simp at h;done))
  all_goals (try(repeat' (split at h<;>(try(grind;done)))))
  simp at h
  grind
theorem ZvI{op kp m k v}(h:ck P op=sO (.mapupd kp m k v)):
  ∃t kt et m' k' v',(op=.mapUpdate t m' k' v'∨op=.insert t m' k' v')∧P.underlying t=sO (.map kt et)∧JK P kt=sO kp∧ZU m'=sO m∧ZU k'=sO k∧ZU v'=sO v:=by
 unfold ck at h
 split at h
 ·simp at h
 ·split at h<;>(try(simp at h;done))
  all_goals (try(repeat' (split at h<;>(try(simp at h;done)))))
  all_goals (cases h)
  ·grind
  grind
theorem ZvG{op kp m k}(h:ck P op=sO (.delete kp m k)):
  ∃ats t kt et m' k',op=.call ⟨.builtin .delete,#[m',k'],ats⟩∧ats[0]?=sO t∧P.underlying t=sO (.map kt et)∧JK P kt=sO kp∧ZU m'=sO m∧ZU k'=sO k:=by
 unfold ck at h
 split at h
 ·simp at h
 ·split at h<;>(try(simp at h;done))
  all_goals (try(repeat' (split at h<;>(try(simp at h;done)))))
  simp at h
  obtain⟨rfl,rfl,rfl⟩:=h
  rename_i c hcq x1 hcal o0 x kt et m' k' hu hargs o1 o2 o3 kp m k hk hm hk'
  obtain⟨callee,⟨al⟩,ats⟩:=c
  have hcal':callee=_:=hcal
  have hargs':al=_:=hargs
  subst hcal' hargs'
  simp[Option.bind_eq_some_iff]at hu
  obtain⟨t,ht,hu⟩:=hu
  exact⟨ats,t,kt,et,m',k',rfl,ht,hu,hk,hm,hk'⟩
theorem ZvH{op kp z m k}(h:ck P op=sO (.mapent kp z m k)):
  ∃t kt et m' k',op=.mapEntry t m' k'∧P.underlying t=sO (.map kt et)∧JK P kt=sO kp∧ZcR P et=sO z∧ZU m'=sO m∧ZU k'=sO k:=by
 unfold ck at h
 split at h
 ·simp at h
 ·split at h<;>(try(simp at h;done))
  all_goals (try(repeat' (split at h<;>(try(simp at h;done)))))
  grind
theorem Zxi{op m k v}(h:ck P op=sO (.entst m k v)):∃t m' k' v',op=.entryStore t m' k' v'∧ZU m'=sO m∧ZU k'=sO k∧ZU v'=sO v:=by
 unfold ck at h
 split at h
 ·simp at h
 ·split at h<;>(try(simp at h;done))
  all_goals (try(repeat' (split at h<;>(try(simp at h;done)))))
  grind
theorem Ze6{F:Fr P}{kp dk o os ρ L s}(hg:o.guard=nO){a v}(hk:o.k=.store1 a v∧True∨∃n,o.k=.storeN n a v){p q b off d cs}(ha:ZC ρ true a=sO (p,.d (.ptr b off)))(hv:ZC ρ true v=sO (q,.d d))(hp:p)(hq:q)(hL:Z5 s b=sO cs)(hd1:o.k=.store1 a v→QQ d=true)(hd2:∀n,o.k=.storeN n a v→(∃xs,d=.agg xs)∧(cellsOf d).length=n)(hlen:off+(cellsOf d).length≤cs.length)(hdst0:o.dst=nO)(h:DO F kp dk os ρ L (s.upd b (.cells (Zu cs off (cellsOf d))))):DO F kp dk (o::os) ρ L s:=by
 refine Wa fun oo g ν w tmps ops i r k hoo hck hcg hdst hd hN m hr hkk=>?_
 have hw:=Z8 m hcg (c:=true) (by rw[hg];rfl)
 have hnd:=Yc hck (by rcases hk with ⟨hk,_⟩|⟨n,hk⟩<;>rw[hk]<;>rfl)
 have hform:∃t a' v',oo.op=.store t a' v'∧ZU a'=sO a∧ZU v'=sO v∧ZS P t=sO (cellsOf d).length∧W1 d=true:=by
  rcases hk with ⟨hk,_⟩|⟨n,hk⟩
  ·have hok:=hd1 hk
   rw[hk]at hck
   obtain⟨t,a',v',h1,h2,h3,h4,h5⟩:=ZoR hck
   refine⟨t,a',v',h1,h4,h5,?_,?_⟩
   ·rw[h3];cases d<;>simp[QQ]at hok<;>rfl
   ·cases d<;>simp[QQ]at hok<;>rfl
  ·obtain⟨⟨xs,rfl⟩,hn⟩:=hd2 n hk
   rw[hk]at hck
   obtain⟨t,a',v',h1,h2,h3,h4,h5⟩:=ZoS hck
   exact⟨t,a',v',h1,h4,h5,by grind,rfl⟩
 obtain⟨t,a',v',hop,ha',hv',hsz,hok⟩:=hform
 have hsb:s b=sO (.cells cs):=by
  unfold Z5 at hL
  split at hL<;>cases hL;assumption
 have hra:Rep g w ((Act.mk tmps F.ds).eval a') (.ptr b off):=Z3 m ha' rfl ha hp F.ds
 have hrv:Rep g w ((Act.mk tmps F.ds).eval v') d:=Z3 m hv' rfl hv hq F.ds
 have hav:(Act.mk tmps F.ds).eval a'=.pointer (sO ⟨b,off,nO⟩):=by
  generalize (Act.mk tmps F.ds).eval a'=z at hra
  cases hra;rfl
 obtain⟨hc1,hc2⟩:=Zc7 hrv hok
 have hone:=Zgw hrv hok
 obtain⟨hpr,cur,T,hb,hcl,hcr,hco⟩:=QL m.st hL
 generalize hvv:(Act.mk tmps F.ds).eval v'=vv at *
 have hst:=run_storeCells_at (P:=P) b off T vv.cells.toList 0 cur w hb (by grind) (fun x hx=>by rw[Zcv];exact hone x (Array.mem_toList_iff.1 hx))
 have hrepNew:ZG (Rep g w) (cur.toList.take off++vv.cells.toList++cur.toList.drop (off+vv.cells.size)) (Zu cs off (cellsOf d)):=by
  have hcur:ZG (Rep g w) cur.toList cs:=Ya (by omega) (fun i v d hv hd=>hcr i v d (by grind) hd)
  unfold Zu
  rw[←hc1]
  exact((hcur.take off).append (Ya (by omega) hc2)).append (hcur.drop _)
 have hsize:((cur.toList.take off++vv.cells.toList++cur.toList.drop (off+vv.cells.size)).toArray).size=cur.size:=by
  have:=hrepNew.len;simp at this⊢;omega
 have he:=Zg3 (g:=g) b hb hsize hpr (m.st.kept b _ hsb)
 have m':=m.named (o':=.cells (Zu cs off (cellsOf d))) hsb he (by simp) (fun c hc=>setRow_other w b c _ hc) ⟨hpr,_,T,setRow_heap w b cur _ T (0,0) hb,by rw[hsize,hcl];simp[Zu];omega,
  fun i v d hv hd=>(hrepNew.get i v d (by grind) hd).mono he,fun x hx=>by
   simp only[List.mem_toArray,List.mem_append]at hx
   rcases hx with (hx|hx)|hx
   ·exact hco x (Array.mem_toList_iff.1 (List.mem_of_mem_take hx))
   ·simp_all
   ·exact hco x (Array.mem_toList_iff.1 (List.mem_of_mem_drop hx))⟩
 refine F.T.back _ _ _ _ (.one (ZhD hoo hw hnd (w':=w.setRow b (cur.toList.take off++vv.cells.toList++cur.toList.drop (off+vv.cells.size)).toArray) ?_)) ?_
 ·simp only[execOp,hop,hav,Instr.storeAt,Instr.sureAddr,storeVar,Sem.run_bind,Sem.run_pure,YG hsz]
  simp_all
 ·rw[hdst,hdst0]
  exact F.T.ext _ _ _ _ _ he (h ops r k hr hkk g ν _ tmps hN m')
theorem JH(o:Obj)(hf:∀b,w.heap.size≤b→g.prot b=0∧¬g.kept b):JB g w g (w.alloc o):={
 size:=by simp
 old b hb:=Zid w _ hb
 prot _ _:=rfl
 fresh b hb:=(hf b (by simp at hb;omega)).1
 kept:=rfl
 os:=rfl
 output:=rfl
 tape:=rfl }
theorem Zqq{F:Fr P}{kp dk o os ρ L s}(hg:o.guard=nO){t}(hdt:o.dst=sO t)(hk:o.k=.mkmap)(h:∀b,s b=nO→DO F kp dk os ((t,.d (.map b))::ρ) L (s.upd b (.map []))):DO F kp dk (o::os) ρ L s:=by
 refine Wa fun oo g ν w tmps ops i r k hoo hck hcg hdst hd hN m hr hkk=>?_
 have hw:=Z8 m hcg (c:=true) (by rw[hg];rfl)
 have hnd:=Yc hck (by rw[hk];rfl)
 rw[hk]at hck
 obtain⟨T,hop⟩:=Zxj hck
 have hgr:=JH (g:=g) (w:=w) (.map #[] 0) m.st.fresh
 obtain⟨hn,m'⟩:=m.newObj hgr (o:=.map []) ⟨(m.st.fresh _ (ZEP _)).1,#[],0,W9 w _,rfl,by simp,by simp,by simp,by simp⟩
 refine YD (L':=L) hN hoo hdst hd hw hnd (v:=.map (sO w.heap.size)) (e:=.d (.map w.heap.size)) ?_ (hgr.ext m.st.fresh) m' (Rep.map _) ?_
 ·simp[execOp,hop,Instr.makeMap]
 ·rw[hdt];exact h _ hn ops r k hr hkk
theorem ZjI{z n}:∀{c},z.length=n→(KU z c).length=c*n∧∀i,i<c*n→(KU z c)[i]?=z[i % n]?
 |0,hz=>by simp[KU]
 |c+1,hz=>by
  obtain⟨h1,h2⟩:=ZjI (c:=c) hz
  have he:KU z (c+1)=z++KU z c:=by simp[KU,List.replicate_succ]
  rw[he]
  refine⟨by grind,fun i hi=>?_⟩
  by_cases h:i<n
  ·rw[ZE7 (by omega),Nat.mod_eq_of_lt h]
  ·rw[ZFj (by omega),hz,h2 _ (by grind)]
   rw[Nat.mod_eq_sub_mod (by omega:n≤i)]
theorem ZlZ{F:Fr P}{kp dk o os ρ L s}(hg:o.guard=nO){t:Nat}(hdt:o.dst=sO t){e:TypeId}{n bytes:Nat}{z:List D}{lx hx:Opd}(hk:o.k=.mkslice e n bytes z lx hx){p q:Prop}{k1 k2:IntKind}{l c:Int}(hl:ZC ρ true lx=sO (p,.d (.int k1 l)))(hc:ZC ρ true hx=sO (q,.d (.int k2 c)))(hp:p)(hq:q)(h0:0≤l)(hlc:l≤c)(hbytes:(bytes:Int)*c≤140737488355328)(h63:c≤big)(h:∀b,s b=nO→DO F kp dk os ((t,.d (.msl b 0 l.toNat c.toNat n))::ρ) L (s.upd b (.cells (KU z c.toNat)))):DO F kp dk (o::os) ρ L s:=by
 refine Wa fun oo g ν w tmps ops i r k hoo hck hcg hdst hd hN m hr hkk=>?_
 have hw:=Z8 m hcg (c:=true) (by rw[hg];rfl)
 have hnd:=Yc hck (by rw[hk];rfl)
 rw[hk]at hck
 obtain⟨T,l',c',hop,hu,hsz,hz,hby,hl',hc',hn0,hzn⟩:=Zua hck
 obtain⟨zv,hz1,hz2,hz3,ie,hie,hzz⟩:=QJ (g:=g) (w:=w) hz
 obtain⟨hlv,_⟩:=KS (g:=g) (w:=w) (Z3 m hl' rfl hl hp F.ds)
 obtain⟨hcv,_⟩:=KS (g:=g) (w:=w) (Z3 m hc' rfl hc hq F.ds)
 have hsize:ie.size=n:=by simpa[ZS,hie]using hsz
 have hbt:ie.bytes=bytes:=by rw[hby];simp[Program.bytesOf,hie]
 have hzlen:zv.cells.size=z.length:=by have:=hz2.len;simpa using this
 have hrun:=run_make (P:=P) w T e ie zv hu hie hzz k1 k2 l c h0 hlc (by grind) (by unfold big at h63;omega)
 obtain⟨zl1,zl2⟩:=ZjI (z:=z) (n:=n) (c:=c.toNat) hzn
 have hgr:=JH (g:=g) (w:=w) (.cells (madeCells zv.cells (c.toNat*ie.size)) e) m.st.fresh
 have he:=hgr.ext m.st.fresh
 have hob:WD g (w.alloc (.cells (madeCells zv.cells (c.toNat*ie.size)) e)) w.heap.size (.cells (KU z c.toNat)):=by
  refine⟨(m.st.fresh _ (ZEP _)).1,_,e,W9 w _,by rw[size_madeCells,zl1,hsize],fun i v d hv hd=>?_,fun x hx=>?_⟩
  ·have hi:i<c.toNat*n:=by grind
   rw[zl2 i hi]at hd
   have hm:i % n<n:=Nat.mod_lt _ hn0
   have hv':zv.cells.toList[i % n]?=sO v:=by
    simp[madeCells,hsize,hi,hzlen,hzn]at hv
    simp_all
   exact(hz2.get _ v d hv' hd).mono he
  ·simp only[madeCells,Array.mem_map]at hx
   obtain⟨a,_,rfl⟩:=hx
   have hlt:a % zv.cells.size<zv.cells.size:=Nat.mod_lt _ (by omega)
   simp_all
 obtain⟨hn,m'⟩:=m.newObj hgr hob
 refine YD (L':=L) hN hoo hdst hd hw hnd (v:=.slice (sO ⟨w.heap.size,0,nO⟩) l.toNat c.toNat) (e:=.d (.msl w.heap.size 0 l.toNat c.toNat n)) ?_ he m' (Rep.msl _ _ _ _ _ (by omega) (by omega)) ?_
 ·simp[execOp,hop,hlv,hcv,hrun]
 ·rw[hdt];exact h _ hn ops r k hr hkk
end
section
variable {P:Program}
theorem ZkX{g w k k1 k2 d1 d2}(h1:Rep g w k1 d1)(h2:Rep g w k2 d2)(h:Yf k d1 d2=sO true)(n):Instr.sameBits n k1 k2=true:=by
 cases k
 ·cases h1<;>cases h2<;>simp only[Yf,reduceCtorEq]at h
  split at h<;>simp only[reduceCtorEq,ZEz,decide_eq_true_eq]at h
  rename_i hk
  subst hk;subst h
  cases n<;>simp[Instr.sameBits]
 ·cases h1<;>cases h2<;>simp only[Yf,reduceCtorEq,ZEz,decide_eq_true_eq]at h
  rename_i s1 a e1 _ s2 b e2 _
  subst h
  have:s1=s2:=by
   cases s1;cases s2
   simp only[ByteArray.mk.injEq]
   apply Array.ext'
   simp only at e1 e2
   rw[e1,e2]
  subst this
  cases n<;>simp[Instr.sameBits,MapKept.bytes_beq]
 ·cases h1<;>cases h2<;>simp only[Yf,reduceCtorEq,ZEz,decide_eq_true_eq]at h
  subst h
  cases n<;>simp[Instr.sameBits]
theorem Zeh{xs ys}:∀{l},Wk xs ys l=sO true→∀o k,(o,k)∈l→∃x y,xs[o]?=sO x∧ys[o]?=sO y∧Yf k x y=sO true
 | [],_,o,k,hm=>by simp at hm
 | (o',k')::r,h,o,k,hm=>by
  simp only[Wk]at h
  split at h<;>(try(simp at h;done))
  rename_i x y hx hy
  split at h<;>(try(simp at h;done))
  rename_i b c hb hc
  simp only[ZEz,ZEK]at h
  obtain⟨rfl,rfl⟩:=h
  rcases List.mem_cons.1 hm with he|hm
  ·simp only[ZEL]at he
   obtain⟨rfl,rfl⟩:=he
   exact⟨x,y,hx,hy,hb⟩
  ·exact Zeh hc o k hm
theorem ZkW{g w kt kp}(hk:JK P kt=sO kp){k1 k2 d1 d2}(h1:Rep g w k1 d1)(h2:Rep g w k2 d2)(h:Kh kp d1 d2=sO true)(n):Instr.sameBits (n+1) k1 k2=true:=by
 rcases ZdH hk with ⟨sk,rfl,hs⟩|⟨fs,l,m,rfl,hu,hn,hl,hrange,hst⟩
 ·exact ZkX h1 h2 h _
 ·cases h1<;>cases h2<;>simp only[Kh,reduceCtorEq]at h
  rename_i v1 xs hn1 r1 o1 v2 ys hn2 r2 o2
  split at h<;>(try(simp at h;done))
  rename_i hlen
  simp only[Instr.sameBits,List.size_toArray,ZEK,beq_iff_eq]
  refine⟨by omega,?_⟩
  rw[List.all_eq_true]
  intro p hp
  obtain⟨i,hi,hpi⟩:=ZEV hp
  simp only[List.length_zip]at hi
  have hi1:i<v1.length:=by omega
  have hi2:i<v2.length:=by omega
  have hil:i<l.length:=by omega
  have hm:(l[i].1,l[i].2)∈l:=List.getElem_mem hil
  have hoi:l[i].1=i:=by
   have h3:(l.map (·.1))[i]?=sO l[i].1:=by simp[hil]
   rw[hrange]at h3
   have hlm:l.length=m:=by have:=congrArg List.length hrange;simpa using this
   rw[List.getElem?_range (by omega)]at h3
   exact(Option.some.inj h3).symm
  rw[hoi]at hm
  obtain⟨x,y,hx,hy,he⟩:=Zeh h i _ hm
  have e1:p=(v1[i],v2[i]):=by rw[←hpi];simp
  rw[e1]
  exact ZkX (r1 i _ x (by simp[hi1]) hx) (r2 i _ y (by simp[hi2]) hy) he n
theorem ZmF{kp a b}(h:Kh kp a b=sO true):Kh kp b a=sO true:=by
 have sc:∀(k:SK) (a b:D),Yf k a b=sO true→Yf k b a=sO true:=by
  intro k a b h
  cases k<;>cases a<;>cases b<;>simp only[Yf,reduceCtorEq]at h⊢
  ·split at h<;>simp only[reduceCtorEq,ZEz,decide_eq_true_eq]at h
   rename_i hk
   simp[hk,h]
  ·simp only[ZEz,decide_eq_true_eq]at h⊢;exact h.symm
  ·simp only[ZEz,decide_eq_true_eq]at h⊢;exact h.symm
 cases kp with
 |sc k=>exact sc k a b h
 |st l =>
  cases a<;>cases b<;>simp only[Kh,reduceCtorEq]at h⊢
  rename_i xs ys
  split at h<;>(try(simp at h;done))
  rename_i hl
  rw[if_pos ⟨hl.2,hl.1⟩]
  clear hl
  induction l with
  |nil=>rfl
  |cons p r ih =>
   obtain⟨x,y,hx,hy,he⟩:=Zeh h p.1 p.2 (by simp)
   have hr:Wk xs ys r=sO true:=by
    simp only[Wk,hx,hy,he]at h
    split at h<;>(try(simp at h;done))
    rename_i b c hb hc
    simp only[ZEz,ZEK]at h
    rw[hc,h.2]
   simp only[Wk,hx,hy,sc _ _ _ he,ih hr,Bool.and_self]
def Zl1(g:G)(w:World)(b:Nat)(en':Array MapEntry)(cl':Nat)(o:W4):Prop :=
 ∀w',Ext g w g w'→w'.heap[b]?=sO (.map en' cl')→WD g w' b o
theorem Zry{g w t kt et kp}(hu:P.underlying t=sO (.map kt et))(hk:JK P kt=sO kp){b es es' k v dk dv}(ho:WD g w b (.map es))(hrk:Rep g w k dk)(hrv:Rep g w v dv)(hok:K8 kp dk=true)(hupd:JP kp dk dv es=sO es'):
  ∃en' cl',(Instr.mapUpdate t (.map (sO b)) k v).run P w=.ok () { w with heap:=w.heap.setIfInBounds b (.map en' cl') }∧Zl1 g w b en' cl' (.map es'):=by
 obtain⟨hp0,en,clock,hb,hlen,h3,h4,h5,h6⟩:=ho
 obtain⟨io,hio,hes⟩:=ZlT hupd
 have hfind:=ZbT (P:=P) hk hrk (es:=en.toList) (by simpa using hlen) (fun i e d a b=>h3 i e d (by simpa using a) b) hio
 have hck:=ZaY (P:=P) hk hrk hok false
 cases io with
 |none =>
  simp only[Option.bind_none]at hfind
  simp only at hes
  subst hes
  refine⟨en.push { key:=k,val:=v,born:=clock },clock+1,by simp[Instr.mapUpdate,run_underlying hu,MapKept.run_getObj_map hb,hck,hfind,MapKept.run_setObj_map _ hb],fun w' he hw'=>?_⟩
  refine⟨hp0,_,_,hw',by simp[hlen],fun i e d hi hd=>?_,fun i e d hi hd=>?_,fun i j e e' hi hj hbn=>?_,fun i e hi=>?_⟩
  ·rw[Array.getElem?_push]at hi
   split at hi
   ·rename_i hie
    simp only[ZEz]at hi;subst hi
    simp[hie,hlen]at hd;subst hd;exact hrk.mono he
   ·have hlt:i<es.length:=by rw[←hlen];exact(Array.getElem?_eq_some_iff.1 hi).1
    rw[ZE7 hlt]at hd
    exact(h3 i e d hi hd).mono he
  ·rw[Array.getElem?_push]at hi
   split at hi
   ·rename_i hie
    simp only[ZEz]at hi;subst hi
    simp[hie,hlen]at hd;subst hd;exact hrv.mono he
   ·have hlt:i<es.length:=by rw[←hlen];exact(Array.getElem?_eq_some_iff.1 hi).1
    rw[ZE7 hlt]at hd
    exact(h4 i e d hi hd).mono he
  ·rw[Array.getElem?_push]at hi hj
   split at hi<;>split at hj
   ·omega
   ·simp only[ZEz]at hi;subst hi
    have:=h6 j e' hj;simp only at hbn;omega
   ·simp only[ZEz]at hj;subst hj
    have:=h6 i e hi;simp only at hbn;omega
   ·exact h5 i j e e' hi hj hbn
  ·rw[Array.getElem?_push]at hi
   split at hi
   ·simp only[ZEz]at hi;subst hi;simp
   ·have:=h6 i e hi;omega
 |some i0 =>
  simp only at hes
  subst hes
  obtain⟨hlt,hkeq⟩:=Zcr hio
  have hlt':i0<en.size:=by omega
  have he0:en[i0]?=sO en[i0]:=by simp[hlt']
  have hd0:es[i0]?=sO es[i0]:=by simp[hlt]
  simp only[Option.bind_some,Array.getElem?_toList,he0,ZE4]at hfind
  have hstay:(Instr.keyThatStays en[i0].key k).run P w=.ok k w:=by
   have:=ZkW (P:=P) hk (h3 i0 _ _ he0 hd0) hrk (ZmF (hkeq _ hd0)) 9999
   simp[Instr.keyThatStays,this]
  refine⟨en.modify i0 fun e=>{ e with key:=k,val:=v },clock,by simp[Instr.mapUpdate,run_underlying hu,MapKept.run_getObj_map hb,hck,hfind,MapKept.run_setObj_map _ hb,he0,hstay],fun w' he hw'=>?_⟩
  refine⟨hp0,_,_,hw',by simp[hlen],fun i e d hi hd=>?_,fun i e d hi hd=>?_,fun i j e e' hi hj hbn=>?_,fun i e hi=>?_⟩
  ·rw[Array.getElem?_modify]at hi
   split at hi
   ·rename_i hie
    subst hie
    simp only[ZEN]at hi
    obtain⟨e1,h1,rfl⟩:=hi
    simp[hlt]at hd;subst hd;exact hrk.mono he
   ·rename_i hie
    rw[List.getElem?_set_ne hie]at hd
    exact(h3 i e d hi hd).mono he
  ·rw[Array.getElem?_modify]at hi
   split at hi
   ·rename_i hie
    subst hie
    simp only[ZEN]at hi
    obtain⟨e1,h1,rfl⟩:=hi
    simp[hlt]at hd;subst hd;exact hrv.mono he
   ·rename_i hie
    rw[List.getElem?_set_ne hie]at hd
    exact(h4 i e d hi hd).mono he
  ·have hbi:∀{i:Nat} {e:MapEntry},(en.modify i0 fun e=>{ e with key:=k,val:=v })[i]?=sO e→∃e1,en[i]?=sO e1∧e1.born=e.born:=by
    intro i e hi
    rw[Array.getElem?_modify]at hi
    split at hi
    ·simp only[ZEN]at hi
     obtain⟨e1,h1,rfl⟩:=hi
     exact⟨e1,h1,rfl⟩
    ·exact⟨e,hi,rfl⟩
   obtain⟨a,ha,ha'⟩:=hbi hi
   obtain⟨c,hc,hc'⟩:=hbi hj
   exact h5 i j a c ha hc (by omega)
  ·rw[Array.getElem?_modify]at hi
   split at hi
   ·simp only[ZEN]at hi
    obtain⟨e1,h1,rfl⟩:=hi
    exact h6 i e1 h1
   ·exact h6 i e hi
theorem Zrw{g w t kt et kp ats}(ht:ats[0]?=sO t)(hu:P.underlying t=sO (.map kt et))(hk:JK P kt=sO kp){b es es' k dk}(ho:WD g w b (.map es))(hrk:Rep g w k dk)(hok:K8 kp dk=true)(hdel:ZfM kp dk es=sO es')(ty):
  ∃en' cl',(Builtin.delete_ ats ty #[.map (sO b),k]).run P w=.ok (.tuple #[]) { w with heap:=w.heap.setIfInBounds b (.map en' cl') }∧Zl1 g w b en' cl' (.map es'):=by
 obtain⟨hp0,en,clock,hb,hlen,h3,h4,h5,h6⟩:=ho
 obtain⟨io,hio,hes⟩:=Zq6 hdel
 have hfind:=ZbT (P:=P) hk hrk (es:=en.toList) (by simpa using hlen) (fun i e d a b=>h3 i e d (by simpa using a) b) hio
 have hck:=ZaY (P:=P) hk hrk hok en.isEmpty
 cases io with
 |none =>
  simp only[Option.bind_none]at hfind
  simp only at hes
  subst hes
  refine⟨en,clock,by simp[Builtin.delete_,ht,run_underlying hu,MapKept.run_getObj_map hb,hck,hfind,MapKept.run_setObj_map _ hb],fun w' he hw'=>?_⟩
  exact⟨hp0,_,_,hw',hlen,fun i e d hi hd=>(h3 i e d hi hd).mono he,fun i e d hi hd=>(h4 i e d hi hd).mono he,h5,h6⟩
 |some i0 =>
  simp only at hes
  subst hes
  obtain⟨hlt,hkeq⟩:=Zcr hio
  have hlt':i0<en.size:=by omega
  have he0:en[i0]?=sO en[i0]:=by simp[hlt']
  simp only[Option.bind_some,Array.getElem?_toList,he0,ZE4]at hfind
  have hers:en.eraseIdxIfInBounds i0=en.eraseIdx i0 hlt':=by simp[Array.eraseIdxIfInBounds,hlt']
  have hget:∀i,(en.eraseIdxIfInBounds i0)[i]?=if i<i0 then en[i]? else en[i+1]?:=fun i=>by
   rw[hers,←Array.getElem?_toList,Array.toList_eraseIdx,List.getElem?_eraseIdx];simp
  have hgetl:∀i,(es.eraseIdx i0)[i]?=if i<i0 then es[i]? else es[i+1]?:=fun i=>List.getElem?_eraseIdx ..
  refine⟨en.eraseIdxIfInBounds i0,clock,by simp[Builtin.delete_,ht,run_underlying hu,MapKept.run_getObj_map hb,hck,hfind,MapKept.run_setObj_map _ hb],fun w' he hw'=>?_⟩
  refine⟨hp0,_,_,hw',by rw[hers];simp[hlt,hlen,List.length_eraseIdx],fun i e d hi hd=>?_,fun i e d hi hd=>?_,fun i j e e' hi hj hbn=>?_,fun i e hi=>?_⟩
  ·rw[hget]at hi;rw[hgetl]at hd
   split at hi
   ·rename_i h;rw[if_pos h]at hd;exact(h3 i e d hi hd).mono he
   ·rename_i h;rw[if_neg h]at hd;exact(h3 _ e d hi hd).mono he
  ·rw[hget]at hi;rw[hgetl]at hd
   split at hi
   ·rename_i h;rw[if_pos h]at hd;exact(h4 i e d hi hd).mono he
   ·rename_i h;rw[if_neg h]at hd;exact(h4 _ e d hi hd).mono he
  ·rw[hget]at hi hj
   split at hi<;>split at hj
   ·exact h5 i j e e' hi hj hbn
   ·have:=h5 i (j+1) e e' hi hj hbn;omega
   ·have:=h5 (i+1) j e e' hi hj hbn;omega
   ·have:=h5 (i+1) (j+1) e e' hi hj hbn;omega
  ·rw[hget]at hi
   split at hi<;>exact h6 _ e hi
theorem Zrc{kp:KP}{k z:D}:∀{es:List (D×D)} {v:D},Zdi kp k z es=sO v→∃io,QE kp k es=sO io∧v=match io with
  |none=>z
  |some i=>((es[i]?).map (·.2)).getD z
 | [],v,h=>by simp[Zdi]at h;exact⟨nO,rfl,h.symm⟩
 |e::es,v,h=>by
  simp[Zdi]at h
  split at h
  ·rename_i he;exact⟨sO 0,by simp[QE,he],by simp[h]⟩
  ·rename_i he
   obtain⟨io,h1,h2⟩:=Zrc h
   refine⟨io.map (· + 1),by simp[QE,he,h1],?_⟩
   rw[h2];cases io<;>simp
  ·grind
theorem ZsC{g w t kt et kp z}(hu:P.underlying t=sO (.map kt et))(hk:JK P kt=sO kp)(hz:ZcR P et=sO z){b es k dk dv}(ho:WD g w b (.map es))(hrk:Rep g w k dk)(hok:K8 kp dk=true)(hent:Zdi kp dk z es=sO dv):
  ∃en' cl' v n,(Instr.mapEntry t (.map (sO b)) k).run P w=.ok (.tuple #[v,.int .i64 (n:Nat)]) { w with heap:=w.heap.setIfInBounds b (.map en' cl') }∧Rep g w v dv∧Zl1 g w b en' cl' (.mapE kp es dk n):=by
 obtain⟨hp0,en,clock,hb,hlen,h3,h4,h5,h6⟩:=ho
 obtain⟨io,hio,hdv⟩:=Zrc hent
 have hfind:=ZbT (P:=P) hk hrk (es:=en.toList) (by simpa using hlen) (fun i e d a b=>h3 i e d (by simpa using a) b) hio
 have hck:=ZaY (P:=P) hk hrk hok false
 cases io with
 |none =>
  obtain⟨zv,hz1,hz2⟩:=Zsp (P:=P) (g:=g) (w:=w) hz
  simp only[Option.bind_none]at hfind
  simp only at hdv
  subst hdv
  refine⟨en.push { key:=k,val:=zv,born:=clock },clock+1,zv,clock,by simp[Instr.mapEntry,run_underlying hu,MapKept.run_getObj_map hb,hck,hfind,MapKept.run_setObj_map _ hb,hz1,goInt],hz2,fun w' he hw'=>?_⟩
  refine⟨hp0,nO,hio,_,_,hw',by simp[hlen],fun i e d hne hi hd=>?_,fun i e d hne hi hd=>?_,fun e hi=>?_,fun i j e e' hi hj hbn=>?_,fun i e hi=>?_⟩
  ·have hlt:i<es.length:=(List.getElem?_eq_some_iff.1 hd).1
   rw[Array.getElem?_push,if_neg (by omega)]at hi
   exact(h3 i e d hi hd).mono he
  ·have hlt:i<es.length:=(List.getElem?_eq_some_iff.1 hd).1
   rw[Array.getElem?_push,if_neg (by omega)]at hi
   exact(h4 i e d hi hd).mono he
  ·simp only[Option.getD_none,←hlen,Array.getElem?_push,if_true,ZEz]at hi
   subst hi;exact⟨hrk.mono he,rfl⟩
  ·rw[Array.getElem?_push]at hi hj
   split at hi<;>split at hj
   ·omega
   ·simp only[ZEz]at hi;subst hi
    have:=h6 j e' hj;simp only at hbn;omega
   ·simp only[ZEz]at hj;subst hj
    have:=h6 i e hi;simp only at hbn;omega
   ·exact h5 i j e e' hi hj hbn
  ·rw[Array.getElem?_push]at hi
   split at hi
   ·simp only[ZEz]at hi;subst hi;simp
   ·have:=h6 i e hi;omega
 |some i0 =>
  obtain⟨hlt,hkeq⟩:=Zcr hio
  have hlt':i0<en.size:=by omega
  have he0:en[i0]?=sO en[i0]:=by simp[hlt']
  have hd0:es[i0]?=sO es[i0]:=by simp[hlt]
  simp only[hd0,ZE4,ZFe]at hdv
  subst hdv
  simp only[Option.bind_some,Array.getElem?_toList,he0,ZE4]at hfind
  have hstay:(Instr.keyThatStays en[i0].key k).run P w=.ok k w:=by
   have:=ZkW (P:=P) hk (h3 i0 _ _ he0 hd0) hrk (ZmF (hkeq _ hd0)) 9999
   simp[Instr.keyThatStays,this]
  have hbi:∀{i:Nat} {e:MapEntry},(en.modify i0 fun e=>{ e with key:=k })[i]?=sO e→∃e1,en[i]?=sO e1∧e1.born=e.born∧e.val=e1.val∧(i≠i0→e=e1)∧(i=i0→e.key=k):=by
   intro i e hi
   rw[Array.getElem?_modify]at hi
   split at hi
   ·rename_i hie
    simp only[ZEN]at hi
    obtain⟨e1,h1,rfl⟩:=hi
    exact⟨e1,h1,rfl,rfl,fun h=>absurd hie.symm h,fun _=>rfl⟩
   ·rename_i hie
    exact⟨e,hi,rfl,rfl,fun _=>rfl,fun h=>absurd h.symm hie⟩
  refine⟨en.modify i0 fun e=>{ e with key:=k },clock,en[i0].val,en[i0].born,by simp[Instr.mapEntry,run_underlying hu,MapKept.run_getObj_map hb,hck,hfind,MapKept.run_setObj_map _ hb,he0,hstay,goInt],h4 i0 _ _ he0 hd0,fun w' he hw'=>?_⟩
  refine⟨hp0,sO i0,hio,_,_,hw',by simp[hlen],fun i e d hne hi hd=>?_,fun i e d hne hi hd=>?_,fun e hi=>?_,fun i j e e' hi hj hbn=>?_,fun i e hi=>?_⟩
  ·obtain⟨e1,ha,_,_,hc,_⟩:=hbi hi
   rw[hc (by simpa using hne)];exact(h3 i e1 d ha hd).mono he
  ·obtain⟨e1,ha,_,hv,_⟩:=hbi hi
   rw[hv];exact(h4 i e1 d ha hd).mono he
  ·simp only[ZFe]at hi
   obtain⟨e1,ha,hbn,hv,_,hkk⟩:=hbi hi
   rw[he0]at ha
   simp only[ZEz]at ha
   exact⟨by rw[hkk rfl];exact hrk.mono he,by rw[←hbn,←ha]⟩
  ·obtain⟨a,ha,ha',_⟩:=hbi hi
   obtain⟨c,hc,hc',_⟩:=hbi hj
   exact h5 i j a c ha hc (by omega)
  ·obtain⟨a,ha,ha',_⟩:=hbi hi
   have:=h6 i a ha;omega
theorem ZpJ{g w t kp b n es es' v dk dv}(ho:WD g w b (.mapE kp es dk n))(hrv:Rep g w v dv)(hupd:JP kp dk dv es=sO es'):
  ∃en' cl',(Instr.entryStore t (.map (sO b)) (.int .i64 n) v).run P w=.ok () { w with heap:=w.heap.setIfInBounds b (.map en' cl') }∧Zl1 g w b en' cl' (.map es'):=by
 obtain⟨hp0,io,hio,en,clock,hb,hlen,h3,h4,h5,h6,h7⟩:=ho
 obtain⟨io',hio',hes⟩:=ZlT hupd
 rw[hio]at hio'
 simp only[ZEz]at hio'
 subst hio'
 generalize hix:io.getD es.length=ix at *
 have hlt:ix<en.size:=by
  cases io with
  |none=>simp only[Option.getD_none]at hix;simp only at hlen;omega
  |some i=>simp only[ZFe]at hix;simp only at hlen;have:=(Zcr hio).1;omega
 have he0:en[ix]?=sO en[ix]:=by simp[hlt]
 obtain⟨hkx,hbx⟩:=h5 _ he0
 have hfi:en.findIdx? (fun e=>(e.born:Int)==(n:Int))=sO ix:=by
  rw[Array.findIdx?_eq_some_iff_getElem]
  refine⟨hlt,by simp[hbx],fun j hj=>?_⟩
  simp only[beq_iff_eq,Int.natCast_inj]
  intro hjn
  have:=h6 j ix en[j] en[ix] (by simp[show j<en.size by omega]) he0 (by omega)
  omega
 have hsz:en.size=es'.length:=by
  cases io with
  |none=>simp only at hes hlen;rw[hes];simp[hlen]
  |some i=>simp only at hes hlen;rw[hes];simp[hlen]
 have hes':∀i d,es'[i]?=sO d→(i=ix∧d=(dk,dv))∨(i≠ix∧es[i]?=sO d):=by
  intro i d hd
  cases io with
  |none =>
   simp only[Option.getD_none]at hix
   subst hix
   simp only at hes
   rw[hes]at hd
   by_cases hi:i<es.length
   ·rw[ZE7 hi]at hd;exact .inr ⟨by omega,hd⟩
   ·rw[ZFj (by omega)]at hd
    have h0:i-es.length=0:=by
     rcases Nat.eq_zero_or_pos (i-es.length) with h|h
     ·exact h
     ·rw[ZFi (by simp;omega)]at hd;simp at hd
    rw[h0]at hd
    simp at hd;exact .inl ⟨by omega,hd.symm⟩
  |some j =>
   simp only[ZFe]at hix
   subst hix
   simp only at hes
   rw[hes]at hd
   by_cases hi:j=i
   ·subst hi
    have:=(Zcr hio).1
    simp[this]at hd;exact .inl ⟨rfl,hd.symm⟩
   ·rw[List.getElem?_set_ne hi]at hd;exact .inr ⟨fun h=>hi h.symm,hd⟩
 have hbi:∀{i:Nat} {e:MapEntry},(en.modify ix fun e=>{ e with val:=v })[i]?=sO e→∃e1,en[i]?=sO e1∧e1.born=e.born∧e.key=e1.key∧(i≠ix→e=e1)∧(i=ix→e.val=v):=by
  intro i e hi
  rw[Array.getElem?_modify]at hi
  split at hi
  ·rename_i hie
   simp only[ZEN]at hi
   obtain⟨e1,h1,rfl⟩:=hi
   exact⟨e1,h1,rfl,rfl,fun h=>absurd hie.symm h,fun _=>rfl⟩
  ·rename_i hie
   exact⟨e,hi,rfl,rfl,fun _=>rfl,fun h=>absurd h.symm hie⟩
 refine⟨en.modify ix fun e=>{ e with val:=v },clock,by simp[Instr.entryStore,MapKept.run_getObj_map hb,asInt,asIntOf,hfi,MapKept.run_setObj_map _ hb],fun w' he hw'=>?_⟩
 refine⟨hp0,_,_,hw',by simp[hsz],fun i e d hi hd=>?_,fun i e d hi hd=>?_,fun i j e e' hi hj hbn=>?_,fun i e hi=>?_⟩
 ·obtain⟨e1,ha,_,hk,_⟩:=hbi hi
  rw[hk]
  rcases hes' i d hd with ⟨rfl,rfl⟩|⟨hne,hd'⟩
  ·rw[he0]at ha;simp only[ZEz]at ha;rw[←ha];exact hkx.mono he
  ·exact(h3 i e1 d hne ha hd').mono he
 ·obtain⟨e1,ha,_,_,hc,hv⟩:=hbi hi
  rcases hes' i d hd with ⟨rfl,rfl⟩|⟨hne,hd'⟩
  ·rw[hv rfl];exact hrv.mono he
  ·rw[hc hne];exact(h4 i e1 d hne ha hd').mono he
 ·obtain⟨a,ha,ha',_⟩:=hbi hi
  obtain⟨c,hc,hc',_⟩:=hbi hj
  exact h6 i j a c ha hc (by omega)
 ·obtain⟨a,ha,ha',_⟩:=hbi hi
  have:=h7 i a ha;omega
end
section
variable {P:Program}
theorem Zj6{g w v b}(h:Rep g w v (.map b)):v=.map (sO b):=by cases h;rfl
theorem Zhj{s b es}(h:KA s b=sO es):s b=sO (.map es):=by
 unfold KA at h
 split at h<;>simp only[ZEz,reduceCtorEq]at h
 subst h;assumption
theorem Zlv{F:Fr P}{ops i r k oo}{o:DOp}{g ν w tmps ρ L s}(hN:F.N≤tmps.size)(m:Zt g ν w tmps ρ L s)(hoo:ops[i]?=sO oo)(hdst:oo.dst=o.dst)(hdst0:o.dst=nO)(hw:Region.wanted oo (yielded ops tmps)=true)(hnd:∀c,oo.op≠.defer c){b o1 o'}(hb:s b=sO o1){en en' cl cl'}(hh:w.heap[b]?=sO (.map en cl))(hp:g.prot b=0)(hmap:Zl1 g w b en' cl' o'){x}(hrun:(execOp (Act.mk tmps F.ds).eval oo).run P w=.ok .skip { w with heap:=w.heap.setIfInBounds b (.map en' cl') }∨(execOp (Act.mk tmps F.ds).eval oo).run P w=.ok (.value x) { w with heap:=w.heap.setIfInBounds b (.map en' cl') })(h:Q0 F (.inRegion ops r::k) ρ L (s.upd b o')):F.T.T g w (lone (F.b.atR ⟨tmps,F.ds⟩ (.inRegion ops (i::r)::k)) F.cs w):=by
 have he:=Zmm (g:=g) b (.map en' cl') hh hp (m.st.kept b _ hb)
 have m':=m.named hb he (by simp) (fun c hc=>Jq _ hc) (hmap _ he (Zps _ hh))
 rcases hrun with hrun|hrun
 ·refine F.T.back _ _ _ _ (.one (ZhD hoo hw hnd hrun)) ?_
  rw[hdst,hdst0]
  exact F.T.ext _ _ _ _ _ he (h g ν _ tmps hN m')
 ·refine F.T.back _ _ _ _ (.one (ZhE hoo hw hnd hrun)) ?_
  rw[hdst,hdst0]
  exact F.T.ext _ _ _ _ _ he (h g ν _ tmps hN m')
theorem ZoK{F:Fr P}{kp dk o os ρ L s}(hg:o.guard=nO)(hdn:o.dst=nO){mk mx kx vx}(hk:o.k=.mapupd mk mx kx vx){p q r b kd vd}(hm:ZC ρ true mx=sO (p,.d (.map b)))(hkk:ZC ρ true kx=sO (q,.d kd))(hv:ZC ρ true vx=sO (r,.d vd))(hp:p)(hq:q)(hr:r){es es'}(hb:KA s b=sO es)(hupd:JP mk kd vd es=sO es')(hok:K8 mk kd=true)(h:DO F kp dk os ρ L (s.upd b (.map es'))):DO F kp dk (o::os) ρ L s:=by
 refine Wa fun oo g ν w tmps ops i r' k hoo hck hcg hdst hd hN m hro hkk'=>?_
 have hw:=Z8 m hcg (c:=true) (by rw[hg];rfl)
 have hnd:=Yc hck (by rw[hk];rfl)
 rw[hk]at hck
 obtain⟨t,kt,et,m',k',v',hop,hu,hkt,hm',hk',hv'⟩:=ZvI hck
 have e1:=Zj6 (g:=g) (w:=w) (Z3 m hm' rfl hm hp F.ds)
 have e2:Rep g w _ _:=Z3 m hk' rfl hkk hq F.ds
 have e3:Rep g w _ _:=Z3 m hv' rfl hv hr F.ds
 have ho:=Zev m.st hb
 obtain⟨en',cl',hrun,hto⟩:=Zry hu hkt ho e2 e3 hok hupd
 obtain⟨hp0,en,cl,hh,_⟩:=ho
 refine Zlv (x:=undef) hN m hoo hdst hdn hw hnd (Zhj hb) hh hp0 hto (.inl ?_) (h ops r' k hro hkk')
 rcases hop with hop|hop<;>simp[execOp,hop,e1,hrun]
theorem ZoI{F:Fr P}{kp dk o os ρ L s}(hg:o.guard=nO)(hdn:o.dst=nO){mk mx kx}(hk:o.k=.delete mk mx kx){p q b kd}(hm:ZC ρ true mx=sO (p,.d (.map b)))(hkk:ZC ρ true kx=sO (q,.d kd))(hp:p)(hq:q){es es'}(hb:KA s b=sO es)(hupd:ZfM mk kd es=sO es')(hok:K8 mk kd=true)(h:DO F kp dk os ρ L (s.upd b (.map es'))):DO F kp dk (o::os) ρ L s:=by
 refine Wa fun oo g ν w tmps ops i r' k hoo hck hcg hdst hd hN m hro hkk'=>?_
 have hw:=Z8 m hcg (c:=true) (by rw[hg];rfl)
 have hnd:=Yc hck (by rw[hk];rfl)
 rw[hk]at hck
 obtain⟨ats,t,kt,et,m',k',hop,ht,hu,hkt,hm',hk'⟩:=ZvG hck
 have e1:=Zj6 (g:=g) (w:=w) (Z3 m hm' rfl hm hp F.ds)
 have e2:Rep g w _ _:=Z3 m hk' rfl hkk hq F.ds
 have ho:=Zev m.st hb
 obtain⟨en',cl',hrun,hto⟩:=Zrw ht hu hkt ho e2 hok hupd oo.type
 obtain⟨hp0,en,cl,hh,_⟩:=ho
 refine Zlv (x:=.tuple #[]) hN m hoo hdst hdn hw hnd (Zhj hb) hh hp0 hto (.inr ?_) (h ops r' k hro hkk')
 simp[execOp,hop,resolve,invoke,builtin,e1,hrun]
theorem ZoJ{F:Fr P}{kp dk o os ρ L s}(hg:o.guard=nO){t}(hdt:o.dst=sO t){mk z mx kx}(hk:o.k=.mapent mk z mx kx){p q b kd v}(hm:ZC ρ true mx=sO (p,.d (.map b)))(hkk:ZC ρ true kx=sO (q,.d kd))(hp:p)(hq:q){es}(hb:KA s b=sO es)(hent:Zdi mk kd z es=sO v)(hok:K8 mk kd=true)(h:∀n,DO F kp dk os ((t,.d (.tup [v,.stamp n]))::ρ) L (s.upd b (.mapE mk es kd n))):DO F kp dk (o::os) ρ L s:=by
 refine Wa fun oo g ν w tmps ops i r' k hoo hck hcg hdst hd hN m hro hkk'=>?_
 have hw:=Z8 m hcg (c:=true) (by rw[hg];rfl)
 have hnd:=Yc hck (by rw[hk];rfl)
 rw[hk]at hck
 obtain⟨ty,kt,et,m',k',hop,hu,hkt,hz,hm',hk'⟩:=ZvH hck
 have e1:=Zj6 (g:=g) (w:=w) (Z3 m hm' rfl hm hp F.ds)
 have e2:Rep g w _ _:=Z3 m hk' rfl hkk hq F.ds
 have ho:=Zev m.st hb
 obtain⟨en',cl',vv,n,hrun,hrv,hto⟩:=ZsC hu hkt hz ho e2 hok hent
 obtain⟨hp0,en,cl,hh,_⟩:=ho
 have hsb:=Zhj hb
 have he:=Zmm (g:=g) b (.map en' cl') hh hp0 (m.st.kept b _ hsb)
 have m'':=m.named hsb he (by simp) (fun c hc=>Jq _ hc) (hto _ he (Zps _ hh))
 refine YD (L':=L) hN hoo hdst hd hw hnd (v:=.tuple #[vv,.int .i64 n]) (e:=.d (.tup [v,.stamp n])) ?_ he m'' ((Zhp hrv (.stamp n)).mono he) ?_
 ·simp[execOp,hop,e1,hrun]
 ·rw[hdt];exact h n ops r' k hro hkk'
theorem Zqp{F:Fr P}{kp dk o os ρ L s}(hg:o.guard=nO)(hdn:o.dst=nO){mk mx kx vx}(hk:o.k=.entst mx kx vx){p q r b n kd vd}(hm:ZC ρ true mx=sO (p,.d (.map b)))(hkk:ZC ρ true kx=sO (q,.d (.stamp n)))(hv:ZC ρ true vx=sO (r,.d vd))(hp:p)(hq:q)(hr:r){es es'}(hb:s b=sO (.mapE mk es kd n))(hupd:JP mk kd vd es=sO es')(h:DO F kp dk os ρ L (s.upd b (.map es'))):DO F kp dk (o::os) ρ L s:=by
 refine Wa fun oo g ν w tmps ops i r' k hoo hck hcg hdst hd hN m hro hkk'=>?_
 have hw:=Z8 m hcg (c:=true) (by rw[hg];rfl)
 have hnd:=Yc hck (by rw[hk];rfl)
 rw[hk]at hck
 obtain⟨t,m',k',v',hop,hm',hk',hv'⟩:=Zxi hck
 have e1:=Zj6 (g:=g) (w:=w) (Z3 m hm' rfl hm hp F.ds)
 have e2:Rep g w _ _:=Z3 m hk' rfl hkk hq F.ds
 have e3:Rep g w _ _:=Z3 m hv' rfl hv hr F.ds
 have e2':(Act.mk tmps F.ds).eval k'=.int .i64 n:=by
  generalize (Act.mk tmps F.ds).eval k'=z at e2
  cases e2;rfl
 have ho:=m.st.obj b _ hb
 obtain⟨en',cl',hrun,hto⟩:=ZpJ (P:=P) (t:=t) ho e3 hupd
 obtain⟨hp0,io,_,en,cl,hh,_⟩:=ho
 refine Zlv (x:=undef) hN m hoo hdst hdn hw hnd hb hh hp0 hto (.inl ?_) (h ops r' k hro hkk')
 simp[execOp,hop,e1,e2',hrun]
theorem Zvv{F:Fr P}{kp dk o os ρ L s c}(hg:Zk ρ o.guard=sO c){x}(hk:o.k=.s2b x){p l}(ha:ZC ρ c x=sO (p,.d (.str l)))(hs:c=true→p){e'}(he:e'=.when c (.d (.sl .none l.length 1 (fun i=>[.int .u8 ((l.getD i 0).toNat:Int)])))∨(c=true∧e'=.d (.sl .none l.length 1 (fun i=>[.int .u8 ((l.getD i 0).toNat:Int)]))))(h:DO F kp dk os (Zv ρ o.dst e') L s):DO F kp dk (o::os) ρ L s:=by
 refine Wa fun oo g ν w tmps ops i r k hoo hck hcg hdst hd hN m hr hkk=>?_
 have hgo:=h ops r k hr hkk
 have hw:=Z8 m hcg hg
 have hnd:=Yc hck (by rw[hk];rfl)
 cases c
 ·rcases he with rfl|⟨h0,_⟩
  ·exact Zbc (P:=P) hN m hoo hdst hd hw hgo
  ·simp at h0
 ·rw[hk]at hck
  obtain⟨sT,dT,x',e,hop,hus,hud,hue,hx'⟩:=Zz0 hck
  obtain⟨s0,hs0,e0,hb0⟩:=Zj7 (g:=g) (w:=w) (Z3 m hx' rfl ha (hs rfl) F.ds)
  have hsz:s0.size=l.length:=by rw[←e0];rfl
  have hrun:=Lib.run_convert_string_bytes (P:=P) w sT dT e s0 hus hud hue
  have hle:=grownCap_le_maxLen w s0.size 0 e (by rw[hsz];unfold big at hb0;unfold maxLen;omega)
  have hge:=grownCap_ge w s0.size 0 e
  let g':G:={ g with prot:=fun b=>if b=w.heap.size then l.length else g.prot b }
  have hgr:JB g w g' (Lib.bytesWorld w e s0):=by
   refine⟨by rw[Lib.bytesWorld_size];omega,fun b hb=>Lib.bytesWorld_at_old w e s0 b hb,fun b hb=>by simp[g',Nat.ne_of_lt hb],fun b hb=>?_,rfl,?_,?_,?_⟩
   ·rw[Lib.bytesWorld_size]at hb
    simp[g',show b≠w.heap.size by omega,(m.st.fresh b (by omega)).1]
   ·rfl
   ·rfl
   ·rfl
  have hrep:Rep g' (Lib.bytesWorld w e s0) (.slice (sO ⟨w.heap.size,0,nO⟩) s0.size (grownCap w s0.size 0 e)) (.sl .none l.length 1 (fun i=>[.int .u8 ((l.getD i 0).toNat:Int)])):=by
   rw[hsz]at hle hge⊢
   refine .sl w.heap.size 0 l.length _ 1 _ .none (fun i _=>.int .u8 ((l.getD i 0).toNat:Int)) (fun i hi=>rfl) (fun i j hi hj=>?_) (fun i j hi hj=>?_) (fun i j d hi hd=>?_) (fun i j _ _=>rfl) trivial (by omega) (by unfold big;unfold maxLen at hle;omega)
   ·have:=Lib.bytesWorld_cell w e s0 (0+i*1+j) (by omega)
    rw[this,e0]
    have:0+i*1+j=i:=by omega
    rw[this]
   ·simp[g'];omega
   ·cases j with
    |zero=>simp only[List.getElem?_cons_zero,ZEz]at hd;subst hd;exact .int _ _ (Zrp _)
    |succ j=>simp at hd
  refine YD hN hoo hdst hd hw hnd (v:=.slice (sO ⟨w.heap.size,0,nO⟩) s0.size (grownCap w s0.size 0 e)) ?_ (hgr.ext m.st.fresh) (m.grow hgr) ?_ hgo
  ·simp[execOp,hop,hs0,hrun]
  ·rcases he with rfl|⟨_,rfl⟩
   ·exact⟨fun _=>hrep,fun h=>by simp at h⟩
   ·exact hrep
end
section
variable {P:Program}
theorem Zvt{F:Fr P}{kp dk o os ρ L s c}(hg:Zk ρ o.guard=sO c){len n z is xs}(hk:o.k=.bsl len n z is xs){p es ds}(ha:Z2 ρ c xs=sO (p,es))(hds:W6 es=sO ds)(hs:c=true→p∧KQ n ds=true){e'}(he:e'=.when c (.d (.sl .full len n (Z7 z (is.zip ds))))∨(c=true∧e'=.d (.sl .full len n (Z7 z (is.zip ds)))))(h:DO F kp dk os (Zv ρ o.dst e') L s):DO F kp dk (o::os) ρ L s:=by
 refine Wa fun oo g ν w tmps ops i r k hoo hck hcg hdst hd hN m hr hkk=>?_
 have hgo:=h ops r k hr hkk
 have hw:=Z8 m hcg hg
 have hnd:=Yc hck (by rw[hk];rfl)
 cases c
 ·rcases he with rfl|⟨h0,_⟩
  ·exact Zbc (P:=P) hN m hoo hdst hd hw hgo
  ·grind
 ·rw[hk]at hck
  obtain⟨t,e,parts,hop,hu,hsz,hz,hxs,rfl,hdis,hzl,hs0,hbig⟩:=ZvE hck
  have hargs:=ZbB m rfl F.ds hxs ha (hs rfl).1
  have hreps:=KH hargs hds
  obtain⟨v,w',g',h1,h2,h3⟩:=ZzW (P:=P) (g:=g) (w:=w) (parts:=parts.toList.map fun x=>(x.1,(Act.mk tmps F.ds).eval x.2)) hu hsz hz (by simpa[Function.comp_def]using hdis) hzl hs0 hbig
   (by simpa[Function.comp_def]using hreps) (hs rfl).2 m.st.fresh
  have hx:=h2.ext m.st.fresh
  have hrun:(execOp (Act.mk tmps F.ds).eval oo).run P w=.ok (.value v) w':=by
   simp[execOp,hop,Sem.run_bind]
   have e1:(parts.map fun x=>(x.1,(Act.mk tmps F.ds).eval x.2))=(parts.toList.map fun x=>(x.1,(Act.mk tmps F.ds).eval x.2)).toArray:=by apply Array.ext';simp
   rw[e1,h1]
   rfl
  have h3':Rep g' w' v (.sl .full len n (Z7 z ((parts.toList.map (·.1)).zip ds))):=by simpa[Function.comp_def]using h3
  refine YD hN hoo hdst hd hw hnd hrun hx (m.grow h2) ?_ hgo
  rcases he with rfl|⟨_,rfl⟩
  ·exact⟨fun _=>h3',fun h=>by simp at h⟩
  ·exact h3'
theorem Zs8{F:Fr P}{kp dk o os ρ L s c}(hg:Zk ρ o.guard=sO c){x a b}(hk:o.k=.pick x a b){p v}(ha:ZcP ρ c x a b=sO (p,v))(hs:c=true→p){e'}(he:e'=.when c (.d (.bool v))∨(c=true∧e'=.d (.bool v)))(h:DO F kp dk os (Zv ρ o.dst e') L s):DO F kp dk (o::os) ρ L s:=by
 refine Zqs hg (by rw[hk];rfl) he (fun hc oo g ν w tmps hck m=>?_) h
 rw[hk]at hck
 obtain⟨x',a',b',hop,h1,h2,h3⟩:=ZyW hck
 refine⟨.bool v,?_,.bool v⟩
 obtain⟨dst,op,ty,pos,af,gd⟩:=oo
 cases hop
 exact Zx2 m h1 h2 h3 hc ha (hs hc) _ _ _ _ _ _
theorem ZfB{ρ ρ' L L' s s' p q ok side a n xs}(h:KJ ρ L s p q ok a n xs=.ok side ρ' L' s'):
  ρ'=ρ∧((∃l off cs,a=.loc l off∧Zf L l=sO cs∧side=(p∧q∧off+n≤cs.length∧ok)∧L'=(l,Zu cs off xs)::L∧s'=s) ∨
   ∃b off cs,a=.d (.ptr b off)∧Z5 s b=sO cs∧side=(p∧q∧off+n≤cs.length∧ok)∧L'=L∧s'=s.upd b (.cells (Zu cs off xs))):=by
 unfold KJ at h
 split at h<;>(try(simp at h;done))
 ·rename_i l off
  split at h<;>simp only[SR.ok.injEq,reduceCtorEq]at h
  rename_i cs hcs
  obtain⟨rfl,rfl,rfl,rfl⟩:=h
  exact⟨rfl,.inl ⟨l,off,cs,rfl,hcs,rfl,rfl,rfl⟩⟩
 ·rename_i b off
  split at h<;>simp only[SR.ok.injEq,reduceCtorEq]at h
  rename_i cs hcs
  obtain⟨rfl,rfl,rfl,rfl⟩:=h
  exact⟨rfl,.inr ⟨b,off,cs,rfl,hcs,rfl,rfl,rfl⟩⟩
theorem ZdR{ρ L s p q ok side a n xs pre ρ' s'}:KJ ρ L s p q ok a n xs≠.all side pre ρ' s':=by
 unfold KJ
 split<;>(try(split<;>simp))<;>simp
theorem Qg{F:Fr P}{kp dk o os ρ ρ' L L' s s' side}(hst:Zx o ρ L s=.ok side ρ' L' s')(hs:side)(h:DO F kp dk os ρ' L' s'):DO F kp dk (o::os) ρ L s:=by
 obtain⟨dst,gd,k⟩:=o
 unfold Zx at hst
 cases hg:Zk ρ gd with
 |none=>simp[hg]at hst
 |some c =>
  simp only[hg]at hst
  have hc0:gd=nO→c=true:=fun h0=>by subst h0;simpa[Zk]using hg.symm
  cases k with
  |q q xs =>
   simp only at hst
   split at hst<;>(try(simp at hst;done))
   rename_i p es ha
   split at hst<;>(try(simp at hst;done))
   rename_i sd e hq
   split at hst<;>(cases hst)
   ·obtain rfl:=hc0 rfl
    exact ZzP hg rfl ha hq (fun _=>hs) (.inr ⟨rfl,rfl⟩) h
   ·exact ZzP hg rfl ha hq hs (.inl rfl) h
  |pick x a b =>
   simp only at hst
   split at hst<;>(try(simp at hst;done))
   rename_i p v ha
   split at hst<;>(cases hst)
   ·obtain rfl:=hc0 rfl
    exact Zs8 hg rfl ha (fun _=>hs) (.inr ⟨rfl,rfl⟩) h
   ·exact Zs8 hg rfl ha hs (.inl rfl) h
  |alloc z =>
   simp only at hst
   split at hst<;>(try(simp at hst;done))
   rename_i t
   cases hst
   exact Zqo rfl rfl rfl hs h
  |box x =>
   simp only at hst
   split at hst<;>(try(simp at hst;done))
   rename_i t p v ha
   cases hst
   exact ZzM rfl rfl rfl ha hs.1 hs.2.1 hs.2.2 h
  |bsl len n z is xs =>
   simp only at hst
   split at hst<;>(try(simp at hst;done))
   rename_i p es ha
   split at hst<;>(try(simp at hst;done))
   rename_i ds hds
   split at hst<;>(cases hst)
   ·obtain rfl:=hc0 rfl
    exact Zvt hg rfl ha hds (fun _=>hs) (.inr ⟨rfl,rfl⟩) h
   ·exact Zvt hg rfl ha hds hs (.inl rfl) h
  |s2b x =>
   simp only at hst
   split at hst<;>(try(simp at hst;done))
   rename_i p l ha
   split at hst<;>(cases hst)
   ·obtain rfl:=hc0 rfl
    exact Zvv hg rfl ha (fun _=>hs) (.inr ⟨rfl,rfl⟩) h
   ·exact Zvv hg rfl ha hs (.inl rfl) h
  |store1 a v =>
   simp only at hst
   split at hst<;>(try(simp at hst;done))
   rename_i p ea q x ha hv
   obtain⟨rfl,⟨l,off,cs,rfl,hL,rfl,rfl,rfl⟩|⟨b,off,cs,rfl,hL,rfl,rfl,rfl⟩⟩:=ZfB hst
   all_goals obtain⟨h1,h2,h3,h4⟩:=hs
   all_goals have hx:cellsOf x=[x]:=by cases x<;>simp[QQ]at h4<;>rfl
   ·exact Zqr rfl (.inl ⟨rfl,trivial⟩) ha hv h1 h2 hL (fun _=>h4) (fun n hn=>by simp at hn) (by rw[hx];simpa using h3) rfl (by rw[hx];exact h)
   ·exact Ze6 rfl (.inl ⟨rfl,trivial⟩) ha hv h1 h2 hL (fun _=>h4) (fun n hn=>by simp at hn) (by rw[hx];simpa using h3) rfl (by rw[hx];exact h)
  |storeN n a v =>
   simp only at hst
   split at hst<;>(try(simp at hst;done))
   rename_i p ea q xs ha hv
   obtain⟨rfl,⟨l,off,cs,rfl,hL,rfl,rfl,rfl⟩|⟨b,off,cs,rfl,hL,rfl,rfl,rfl⟩⟩:=ZfB hst
   all_goals obtain⟨h1,h2,h3,h4⟩:=hs
   ·exact Zqr rfl (.inr ⟨n,rfl⟩) ha hv h1 h2 hL (fun hn=>by simp at hn) (fun n' hn=>by simp only[K.storeN.injEq]at hn;exact⟨⟨xs,rfl⟩,by rw[←hn.1];exact h4⟩) (by simp only[cellsOf];omega) rfl h
   ·exact Ze6 rfl (.inr ⟨n,rfl⟩) ha hv h1 h2 hL (fun hn=>by simp at hn) (fun n' hn=>by simp only[K.storeN.injEq]at hn;exact⟨⟨xs,rfl⟩,by rw[←hn.1];exact h4⟩) (by simp only[cellsOf];omega) rfl h
  |mkmap =>
   simp only at hst
   split at hst<;>simp at hst
  |mkslice e n by_ z l c =>
   simp only at hst
   split at hst<;>simp at hst
  |mapent kp z m k =>
   simp only at hst
   split at hst<;>(try(simp at hst;done))
   split at hst<;>(try(simp at hst;done))
   split at hst<;>simp at hst
  |mapupd kp m k v =>
   simp only at hst
   split at hst<;>(try(simp at hst;done))
   rename_i p b q dk r dv hm hk hv
   split at hst<;>(try(simp at hst;done))
   rename_i es hes
   split at hst<;>simp only[SR.ok.injEq,reduceCtorEq]at hst
   rename_i es' hes'
   obtain⟨rfl,rfl,rfl,rfl⟩:=hst
   exact ZoK rfl rfl rfl hm hk hv hs.1 hs.2.1 hs.2.2.1 hes hes' hs.2.2.2 h
  |delete kp m k =>
   simp only at hst
   split at hst<;>(try(simp at hst;done))
   rename_i p b q dk hm hk
   split at hst<;>(try(simp at hst;done))
   rename_i es hes
   split at hst<;>simp only[SR.ok.injEq,reduceCtorEq]at hst
   rename_i es' hes'
   obtain⟨rfl,rfl,rfl,rfl⟩:=hst
   exact ZoI rfl rfl rfl hm hk hs.1 hs.2.1 hes hes' hs.2.2 h
  |entst m k v =>
   simp only at hst
   split at hst<;>(try(simp at hst;done))
   rename_i p b q n r dv hm hk hv
   split at hst<;>(try(simp at hst;done))
   rename_i kp es dk n' hes
   split at hst<;>simp only[SR.ok.injEq,reduceCtorEq]at hst
   rename_i es' hes'
   obtain⟨rfl,rfl,rfl,rfl⟩:=hst
   obtain⟨h1,h2,h3,rfl⟩:=hs
   exact Zqp rfl rfl rfl hm hk hv h1 h2 h3 hes hes' h
  |_=>simp at hst
theorem ZlY{F:Fr P}{kp dk o os ρ L s side pre ρ' s'}(hst:Zx o ρ L s=.all side pre ρ' s')(hs:side)(h:∀b,pre b→DO F kp dk os (ρ' b) L (s' b)):DO F kp dk (o::os) ρ L s:=by
 obtain⟨dst,gd,k⟩:=o
 unfold Zx at hst
 cases hg:Zk ρ gd with
 |none=>grind
 |some c =>
  simp[hg]at hst
  cases k with
  |mkmap =>
   simp only at hst
   split at hst<;>cases hst
   exact Zqq rfl rfl rfl h
  |mkslice e n by_ z l c =>
   simp only at hst
   split at hst<;>cases hst
   obtain⟨h1,h2,h3,h4,h5,h6⟩:=hs
   exact ZlZ rfl rfl rfl ‹_› ‹_› h1 h2 h3 h4 h5 h6 h
  |mapent kp z m k =>
   simp only at hst
   split at hst<;>(try(grind;done))
   split at hst<;>(try(grind;done))
   split at hst<;>cases hst
   exact ZoJ rfl rfl rfl ‹_› ‹_› hs.1 hs.2.1 ‹_› ‹_› hs.2.2 (fun n=>h n trivial)
  |store1 a v =>
   simp only at hst
   split at hst<;>(try(grind;done))
   exact absurd hst ZdR
  |storeN n a v =>
   simp only at hst
   split at hst<;>(try(grind;done))
   exact absurd hst ZdR
  |_ =>
   grind
   first
    | (grind;done)
    |repeat' (split at hst<;>(try(grind;done)))
theorem Zj{F:Fr P}{kp}{dk}:∀{os} {ρ} {L} {s},
  Zir (fun ρ L s=>Zs F dk (kept kp ρ) (ZjX kp ρ L) s) (fun os ρ L s=>DO F kp dk os ρ L s) os ρ L s→DO F kp dk os ρ L s
 | [],ρ,L,s,h=>Zd7 h
 |o::os,ρ,L,s,h=>by
  simp[Zir]at h
  split at h
  ·rename_i sd ρ' L' s' hst
   exact Qg hst h.1 (Zj h.2)
  ·rename_i sd pre ρ' s' hst
   exact ZlY hst h.1 fun b hb=>Zj (h.2 b hb)
  ·exact h
end
inductive Res where
 |ret (d:D)
 |panic (d:D)
def Zp5(g:G)(w:World):Ending→Res→Prop
 |.returned v,.ret d=>Rep g w v d
 |.panicked ch,.panic d=>∃v,ch=[{ v,recovered:=false }]∧Rep g w v d
 |_,_=>False
def Zgd(g:G)(w:World)(Φ:Res→St→Prop)(e:Ending)(w':World):Prop :=
 ∃g' s' r,Ext g w g' w'∧Yb g' s' w'∧Zp5 g' w' e r∧Φ r s'
section
variable {P:Program}
def Zb(P:Program)(f:FuncId)(args:List D)(s:St)(Φ:Res→St→Prop):Prop :=
 (∃fn,P.funcs[f]?=sO fn∧fn.body.isSome=true∧(fn.name == "runtime.NumGoroutine")=false) ∧
 ∀g w (vs:List Value),Yb g s w→ZG (Rep g w) vs args→Calls P f vs.toArray w (Zgd g w Φ)
theorem Zb.mono{f args s Φ Φ'}(h:Zb P f args s Φ)(hp:∀r s',Φ r s'→Φ' r s'):Zb P f args s Φ' :=
 ⟨h.1,fun g w vs hs ha=>(h.2 g w vs hs ha).mono fun _ _ ⟨g',s',r,a,b,c,d⟩=>⟨g',s',r,a,b,c,hp _ _ d⟩⟩
def ZjV(P:Program)(f:FuncId)(cs:List Frame)(Φ:Res→St→Prop):ZtY P where
 T g w m:=∃e w' fr,Comes P m (lone fr cs w') e∧fr.fn=f∧fr.leaving P w' e∧Zgd g w Φ e w'
 back g w m m' hs h:=let ⟨e,w',fr,a,b⟩:=h;⟨e,w',fr,a.of_steps hs,b⟩
 ext g w g' w' m hx h:=by
  obtain⟨e,w2,fr,a,b,c,g2,s2,r,d1,d2,d3,d4⟩:=h
  exact⟨e,w2,fr,a,b,c,g2,s2,r,hx.trans d1,d2,d3,d4⟩
def ZmA(P:Program)(an:Ann)(f:FuncId)(N:Nat)(cs:List Frame)(Φ:Res→St→Prop):Fr P where
 T:=ZjV P f cs Φ
 b:={ (dE:Frame) with fn:=f,kind:=.normal,roundOf:=nO }
 cs:=cs
 N:=N
 ds:=[]
 an:=an
def KM:Nat→List D→Env
 |_,[]=>[]
 |i,d::ds=>(i,.d d)::KM (i+1) ds
theorem Zo4:∀(ds i t e),ZH (KM i ds) t=sO e→∃d,e=.d d∧i≤t∧ds[t-i]?=sO d
 | [],i,t,e,h=>by simp[KM,ZH]at h
 |d::ds,i,t,e,h=>by
  simp only[KM,ZH]at h
  by_cases hit:i=t
  ·subst hit;simp only[if_true,ZEz]at h;subst h;exact⟨d,rfl,ZEP _,by simp⟩
  ·simp only[hit,if_false]at h
   obtain⟨d',h1,h2,h3⟩:=Zo4 ds (i+1) t e h
   refine⟨d',h1,by omega,?_⟩
   rw[show t-i=(t-(i+1))+1 from by omega,List.getElem?_cons_succ];exact h3
theorem ZfY(hs:Yb g s w){vs:List Value}{args:List D}(ha:ZG (Rep g w) vs args)(n:Nat):
  Zt g (fun _=>0) w (vs.toArray++Array.replicate n undef) (KM 0 args) [] s:={
 st:=hs
 loc l cs h:=by simp[Zf]at h
 locKept l cs h:=by simp[Zf]at h
 locSt l cs h:=by simp[Zf]at h
 inj l l' cs cs' h:=by simp[Zf]at h
 env t e h:=by
  obtain⟨d,rfl,_,hd⟩:=Zo4 args 0 t e h
  simp only[Nat.sub_zero]at hd
  have hlt:t<vs.length:=by rw[ha.len];exact(List.getElem?_eq_some_iff.1 hd).1
  have:(vs.toArray++Array.replicate n undef).getD t undef=vs[t]:=by
   simp[Array.getD_eq_getD_getElem?,Array.getElem?_append,hlt]
  rw[this]
  exact ha.get t _ d (by simp[hlt]) hd }
theorem Zh2{an f df}(hf:cf P an f=sO df){args s Φ}(h:∀cs,Zs (ZmA P an f df.n cs Φ) [.code df.body] (KM 0 args) [] s):Zb P f args s Φ:=by
 unfold cf at hf
 split at hf<;>(try(simp at hf;done))
 rename_i fn hfn
 split at hf<;>(try(simp at hf;done))
 rename_i c hc
 split at hf<;>(try(simp at hf;done))
 rename_i hname
 split at hf<;>simp at hf
 rename_i rs d hrs hd
 subst hf
 refine⟨⟨fn,hfn,by simp[hc],by simpa using hname⟩,fun g w vs hs ha=>?_⟩
 intro cs
 have henter:Frame.enter P f vs.toArray .normal =
   (ZmA P an f fn.ntmps cs Φ).b.atR { tmps:=vs.toArray++Array.replicate (fn.ntmps-vs.length) undef,defers:=[] } [.code c]:=by
  simp[Frame.enter,Frame.atR,hfn,hc,ZmA]
 have:=h cs [.code c] (.code hd .nil) g (fun _=>0) w (vs.toArray++Array.replicate (fn.ntmps-vs.length) undef) (by simp[ZmA];omega) (ZfY hs ha _)
 obtain⟨e,w',fr,a,b,c',d'⟩:=this
 refine⟨e,w',fr,d',?_,b,c'⟩
 rw[henter]
 exact a
def WF(ρ:Env)(L:Loc)(s:St):RV→Option (Prop×D)
 |.tmp t=>match ZH ρ t with
  |some (.d x)=>sO (True,x)
  |some (.when c (.d x))=>sO (c=true,x)
  |_=>nO
 |.cell1 t=>match ZH ρ t with
  |some e=>(YS L s e).map (True,·)
  |none=>nO
 |.cellN t n=>match ZH ρ t with
  |some e=>(Kc L s n e).map fun r=>(r.1,.agg r.2)
  |none=>nO
def Yk(ρ:Env)(L:Loc)(s:St):List RV→Option (Prop×List D)
 | []=>sO (True,[])
 |r::rs=>match WF ρ L s r,Yk ρ L s rs with
  |some (p,d),sO (q,ds)=>sO (p∧q,d::ds)
  |_,_=>nO
def KN:List D→D
 | [d]=>d
 |ds=>.tup ds
def Zj8(tmps:Array Value):ResultVar→Sem Value
 |.tmp t=>pure (tmps.getD t undef)
 |.cell a t=>do loadVar t (←asAddr (tmps.getD a undef))
theorem Zm4(fn tmps):results fn tmps=(do
  let vs ←fn.results.mapM (Zj8 tmps)
  pure (if h:vs.size=1 then vs[0] else .tuple vs)):=by
 unfold results
 congr 1
theorem ZAZ{g ν w tmps ρ L s}(m:Zt g ν w tmps ρ L s){r rv}(hc:crv P r=sO rv){p d}(h:WF ρ L s rv=sO (p,d))(hp:p):
  ∃v,(Zj8 tmps r).run P w=.ok v w∧Rep g w v d:=by
 cases r with
 |tmp t =>
  simp only[crv,ZEz]at hc
  subst hc
  simp only[WF]at h
  split at h<;>simp only[ZEz,ZEL,reduceCtorEq]at h
  ·rename_i x hx
   obtain⟨rfl,rfl⟩:=h
   exact⟨_,rfl,m.env t _ hx⟩
  ·rename_i c x hx
   obtain⟨rfl,rfl⟩:=h
   exact⟨_,rfl,(m.env t _ hx).1 hp⟩
 |cell a t =>
  simp only[crv]at hc
  split at hc<;>simp at hc
  ·rename_i n ha hsz
   subst hc
   simp only[WF]at h
   split at h<;>(try(simp at h;done))
   rename_i e he
   simp only[ZEN,ZEL]at h
   obtain⟨⟨q,ds⟩,hq,rfl,rfl⟩:=h
   obtain⟨ad,hv,vs,hrun,hrep⟩:=ZmU (P:=P) m.loc m.st (m.env a e he) hq hp
   exact⟨.agg vs.toArray,by simp only[Zj8,hv,asAddr];simp[loadVar,Ze8 ha,YG hsz,hrun],hrep⟩
  ·rename_i n ha hsz
   subst hc
   simp only[WF]at h
   split at h<;>(try(simp at h;done))
   rename_i e he
   simp only[ZEN,ZEL]at h
   obtain⟨x,hx,_,rfl⟩:=h
   obtain⟨b,o,y,hv,hy,hr,_⟩:=Zma m.loc m.st (m.env a e he) hx
   exact⟨y,by simp only[Zj8,hv,asAddr];simp[loadVar,Zdx ha,hy],hr⟩
theorem ZwD{g ν w tmps ρ L s}(m:Zt g ν w tmps ρ L s):∀{rs rvs},Zio P rs=sO rvs→∀{p ds},
  Yk ρ L s rvs=sO (p,ds)→p→∃vs:List Value,(rs.mapM (Zj8 tmps)).run P w=.ok vs w∧ZG (Rep g w) vs ds
 | [],rvs,hc,p,ds,h,hp=>by
  simp only[Zio,ZEz]at hc
  subst hc
  simp only[Yk,ZEz,ZEL]at h
  obtain⟨rfl,rfl⟩:=h
  exact⟨[],by simp,.nil⟩
 |r::rs,rvs,hc,p,ds,h,hp=>by
  simp only[Zio]at hc
  split at hc<;>simp at hc
  rename_i x xs hx hxs
  subst hc
  simp only[Yk]at h
  split at h<;>simp only[ZEz,ZEL,reduceCtorEq]at h
  rename_i p1 d1 p2 ds' h1 h2
  obtain⟨rfl,rfl⟩:=h
  obtain⟨v,hv1,hv2⟩:=ZAZ m hx h1 hp.1
  obtain⟨vs,hvs1,hvs2⟩:=ZwD m hxs h2 hp.2
  exact⟨v::vs,by simp only[List.mapM_cons,Sem.run_bind];rw[hv1];simp only[Result.andThen_ok,hvs1,Sem.run_pure],.cons hv2 hvs2⟩
def D.Le(d d':D):Prop:=∀g w v,Rep g w v d→Rep g w v d'
theorem D.Le.refl(d:D):d.Le d:=fun _ _ _ h=>h
theorem Zm5{g ν w tmps ρ L s}(m:Zt g ν w tmps ρ L s){fn rvs}(hc:Zio P fn.results.toList=sO rvs){p ds}(h:Yk ρ L s rvs=sO (p,ds))(hp:p):∃v,(results fn tmps).run P w=.ok v w∧Rep g w v (KN ds):=by
 obtain⟨vs,h1,h2⟩:=ZwD m hc h hp
 have hmap:(fn.results.mapM (Zj8 tmps)).run P w=.ok vs.toArray w:=by
  rw[Array.mapM_eq_mapM_toList]
  simp[h1]
 by_cases hone:vs.length=1
 ·match vs,hone,h2 with
  | [v],_,.cons hv .nil =>
   refine⟨v,?_,hv⟩
   rw[Zm4]
   simp[hmap]
 ·refine⟨.tuple vs.toArray,?_,?_⟩
  ·rw[Zm4]
   simp[hmap,hone]
  ·have hlen:=h2.len
   have:KN ds=.tup ds:=by
    match ds,hlen with
    | [],_=>rfl
    | [_],hl=>exact absurd hl hone
    |_::_::_,_=>rfl
   rw[this]
   exact .tup vs ds hlen h2.get
def St.sub(s' s:St):Prop:=∀b o,s' b=sO o→s b=sO o
theorem Yb.sub{s s':St}(h:Yb g s w)(hs:s'.sub s):Yb g s' w:={
 obj b o ho:=h.obj b o (hs b o ho)
 kept b o ho:=h.kept b o (hs b o ho)
 fresh:=h.fresh
 tabs:=h.tabs }
end
end Go.DL
namespace Go.DL
open Go
variable [Zqy]
section
variable {P:Program}
def YN(F:Fr P)(ρ:Env)(L:Loc)(d:D)(s:St):Prop :=
 ∀g ν w v todo tmps,F.N≤tmps.size→Zt g ν w tmps ρ L s→Rep g w v d→F.T.T g w (lone { F.b.atR ⟨tmps,F.ds⟩ todo with mode:=.panicking [{ v,recovered:=false }] } F.cs w)
theorem Zt.empty{g:G}{ν:Nat→Nat}{w:World}{tmps:Array Value}{ρ:Env}{L:Loc}{s:St}(m:Zt g ν w tmps ρ L s):Zt g ν w tmps [] [] s:={
 st:=m.st
 loc l cs h:=by simp[Zf]at h
 locKept l cs h:=by simp[Zf]at h
 locSt l cs h:=by simp[Zf]at h
 inj l l' cs cs' h:=by simp[Zf]at h
 env t e h:=by simp[ZH]at h }
theorem YN.weak{F:Fr P}{d s}(h:YN F [] [] d s)(ρ L):YN F ρ L d s :=
 fun g ν w v todo tmps hN m hr=>h g ν w v todo tmps hN m.empty hr
def Zfb(g:G)(ν:Nat→Nat)(L:Loc):G:={ g with kept:=fun b=>g.kept b∨∃l cs,Zf L l=sO cs∧b=ν l }
theorem Wo{g g' w v d}(h:Rep g w v d)(hp:g'.prot=g.prot):Rep g' w v d :=
 h.mono0 (fun b=>by rw[hp];exact ZEP _) (fun _ _ _=>rfl) (fun _ _ h=>h)
theorem ZwB{g g' ν w L v e}(h:ZI g ν w L v e)(hp:g'.prot=g.prot):ZI g' ν w L v e:=by
 induction e with
 |d x=>exact Wo h hp
 |loc l o=>exact h
 |when c e ih=>exact⟨fun hc=>ih (h.1 hc),h.2⟩
theorem ZmR{g g' w b o}(h:WD g w b o)(hp:g'.prot=g.prot):WD g' w b o:=by
 cases o with
 |cells ds =>
  obtain⟨h0,vs,T,h1,h2,h3,h4⟩:=h
  exact⟨by rw[hp];exact h0,vs,T,h1,h2,fun i v d hv hd=>Wo (h3 i v d hv hd) hp,h4⟩
 |map es =>
  obtain⟨h0,en,cl,h1,h2,h3,h4,h5,h6⟩:=h
  exact⟨by rw[hp];exact h0,en,cl,h1,h2,fun i v d hv hd=>Wo (h3 i v d hv hd) hp,fun i v d hv hd=>Wo (h4 i v d hv hd) hp,h5,h6⟩
 |tip k =>
  obtain⟨h0,h1⟩:=h
  exact⟨by rw[hp];exact h0,h1⟩
 |mapE kp es k n =>
  obtain⟨h0,io,h1,en,cl,h2,h3,h4,h5,h6,h7⟩:=h
  exact⟨by rw[hp];exact h0,io,h1,en,cl,h2,h3,fun i v d hi hv hd=>Wo (h4 i v d hi hv hd) hp,fun i v d hi hv hd=>Wo (h5 i v d hi hv hd) hp,fun e he=>⟨Wo (h6 e he).1 hp,(h6 e he).2⟩,h7⟩
 |loop r st =>
  obtain⟨h0,l,h1,h2,h3,h4,h5,h6,h7,h8,h9⟩:=h
  exact⟨by rw[hp];exact h0,l,h1,h2,h3,h4,h5,h6,h7,fun t e he=>ZwB (h8 t e he) hp,h9⟩
 |dfr =>
  obtain⟨h0,h1⟩:=h
  exact⟨by rw[hp];exact h0,h1⟩
theorem Zt.callSt{g:G}{ν:Nat→Nat}{w:World}{tmps:Array Value}{ρ:Env}{L:Loc}{s:St}(m:Zt g ν w tmps ρ L s):Yb (Zfb g ν L) s w:={
 obj b o ho:=ZmR (m.st.obj b o ho) rfl
 kept b o ho:=by
  rintro(h|⟨l,cs,hl,rfl⟩)
  ·exact m.st.kept b o ho h
  ·rw[m.locSt l cs hl]at ho;simp at ho
 fresh b hb:=⟨(m.st.fresh b hb).1,by
  rintro(h|⟨l,cs,hl,rfl⟩)
  ·exact(m.st.fresh b hb).2 h
  ·have:=(m.loc l cs hl).lt;omega⟩
 tabs n cs hc:=Wo (m.st.tabs n cs hc) rfl }
theorem Zt.afterCall{g g' ν w w' tmps ρ L s s'}(m:Zt g ν w tmps ρ L s)(hx:Ext (Zfb g ν L) w g' w')(hs:Yb g' s' w') :
  Ext g w { g' with kept:=g.kept } w'∧Zt { g' with kept:=g.kept } ν w' tmps ρ L s':=by
 have hext:Ext g w { g' with kept:=g.kept } w' :=
  ⟨hx.size,hx.prot,hx.cell,hx.hdr,fun b hb=>hx.kept b (.inl hb),fun b hb=>hx.keptProt b (.inl hb),rfl,hx.os,hx.output,hx.tape⟩
 refine⟨hext,⟨⟨fun b o ho=>ZmR (hs.obj b o ho) rfl,fun b o ho hk=>hs.kept b o ho (by rw[hx.keptEq];exact .inl hk),fun b hb=>⟨(hs.fresh b hb).1,fun hk=>(hs.fresh b hb).2 (by rw[hx.keptEq];exact .inl hk)⟩,fun n cs hc=>Wo (hs.tabs n cs hc) rfl⟩,?_,m.locKept,?_,m.inj,?_⟩⟩
 ·intro l cs hl
  exact(m.loc l cs hl).mono hext (hx.kept _ (.inr ⟨l,cs,hl,rfl⟩)) (hx.keptProt _ (.inr ⟨l,cs,hl,rfl⟩))
 ·intro l cs hl
  cases hsl:s' (ν l) with
  |none=>rfl
  |some o=>exact absurd (by rw[hx.keptEq];exact .inr ⟨l,cs,hl,rfl⟩) (hs.kept _ o hsl)
 ·intro t e he
  exact(m.env t e he).mono hext
theorem Ztf{op f xs}(h:ck P op=sO (.call f xs)):∃f' args ats,op=.call ⟨.value f',args,ats⟩∧ZU f'=sO f∧ZbQ args.toList=sO xs:=by
 unfold ck at h
 split at h
 ·simp at h
 ·split at h<;>(try(simp at h;done))
  all_goals (try(repeat' (split at h<;>(try(simp at h;done)))))
  simp only[ZEz,K.call.injEq]at h
  obtain⟨rfl,rfl⟩:=h
  rename_i c _ _ f' hcal _ _ f xs hf hxs
  obtain⟨callee,args,ats⟩:=c
  simp only at hcal
  exact⟨f',args,ats,by rw[hcal],hf,hxs⟩
theorem Zxk{op x}(h:ck P op=sO (.panic x)):∃x',op=.panic x'∧ZU x'=sO x:=by
 unfold ck at h
 split at h
 ·simp at h
 ·split at h<;>(try(simp at h;done))
  all_goals (try(repeat' (split at h<;>(try(simp at h;done)))))
  simp only[ZEN,K.panic.injEq,exists_eq_right]at h
  exact⟨_,rfl,h⟩
def Zfp(P:Program):Next→Option Frame
 |.enter f args=>sO (Frame.enter P f args .normal)
 |.round l f tmps a b=>sO (Frame.round l f tmps a b .normal)
 |_=>nO
def ZzK(P:Program)(m:Machine)(c:Frame)(cs:List Frame)(e:Ending)(w':World):Prop :=
 match e with
 |.returned v=>Steps P m (lone (c.finish v) cs w')
 |.panicked ch=>Steps P m (lone (c.raise ch) cs w')
 |.outgrown=>False
def WV(P:Program)(f:D)(args:List D)(s:St)(Φ:Res→St→Prop):Prop :=
 ∀g w fv (vs:List Value),Yb g s w→Rep g w fv f→ZG (Rep g w) vs args →
  ∃d nx fr,(Deferred.ofValue fv vs.toArray).run P w=.ok d w∧(invoke d.target d.args).run P w=.ok nx w∧Zfp P nx=sO fr ∧
   ∀c cs,∃e w',Zgd g w Φ e w'∧ZzK P (lone fr (c::cs) w) c cs e w'
theorem Zb.V{f first args caps s Φ}(h:Zb P f (first++args++caps) s Φ):WV P (.fn (.func f) first caps) args s Φ:=by
 intro g w fv vs hs hf ha
 cases hf with
 |fn _ fs cs' _ _ hn1 hn2 h1 h2 =>
 obtain⟨⟨fn,hfn1,hfn2,hfn3⟩,hcall⟩:=h
 have hall:ZG (Rep g w) (fs++vs++cs') (first++args++caps):=((Ya hn1 h1).append ha).append (Ya hn2 h2)
 have hbody:fn.body.isNone=false:=by cases hb:fn.body<;>simp[hb]at hfn2⊢
 refine⟨_,.enter f (fs++vs++cs').toArray,_,by simp[Deferred.ofValue];rfl,?_,rfl,fun c cs=>?_⟩
 ·simp only[invoke,callFunc,Sem.run_bind,run_program,Result.andThen_ok,hfn1,hfn3,hbody,ZE3,if_false,Sem.run_pure]
  simp
 ·obtain⟨e,w',fr,hp,hcomes,hfrf,hleave⟩:=hcall g w _ hs hall (c::cs)
  refine⟨e,w',hp,?_⟩
  cases e with
  |returned v=>exact Steps.trans hcomes (.one (step_leave_returned hleave))
  |panicked ch=>exact Steps.trans hcomes (.one (step_leave_panicked hleave))
  |outgrown =>
   obtain⟨g',s',r,b1,b2,b3,b4⟩:=hp
   cases r<;>exact b3.elim
theorem Zd8{F:Fr P}{kp dk o os ρ L s}(hg:Zk ρ o.guard=sO true){fx xs}(hk:o.k=.call fx xs)
  {p q f es ds} (hf:ZC ρ true fx=sO (q,.d f)) (ha:Z2 ρ true xs=sO (p,es)) (hds:W6 es=sO ds) (hp:p) (hq:q)
  {Ψ} (hc:WV P f ds s Ψ)
  (hret:∀d s',Ψ (.ret d) s'→DO F kp dk os (Zv ρ o.dst (.d d)) L s') (hpan:∀d s',Ψ (.panic d) s'→YN F ρ L d s'):DO F kp dk (o::os) ρ L s:=by
 refine Wa fun oo g ν w tmps ops i r k hoo hck hcg hdst hd hN m hr hkk=>?_
 have hw:=Z8 m hcg hg
 have hnd:=Yc hck (by rw[hk];rfl)
 rw[hk]at hck
 obtain⟨f',args,ats,hop,hf',hxs⟩:=Ztf hck
 have hfr:Rep g w _ _:=Z3 m hf' rfl hf hq F.ds
 have hargs:=KH (ZbB m rfl F.ds hxs ha hp) hds
 generalize hfv:(Act.mk tmps F.ds).eval f'=fv at hfr
 have hall:ZG (Rep (Zfb g ν L) w) (args.toList.map (Act.mk tmps F.ds).eval) ds:=Ya hargs.len (fun i a b hx hy=>Wo (hargs.get i a b hx hy) rfl)
 obtain⟨d,nx,fr,hd1,hd2,hd3,hC⟩:=hc (Zfb g ν L) w fv _ m.callSt (Wo hfr rfl) hall
 have hmap:(Array.map (Act.mk tmps F.ds).eval args)=(args.toList.map (Act.mk tmps F.ds).eval).toArray:=by apply Array.ext';simp
 have hrun:(execOp (Act.mk tmps F.ds).eval oo).run P w=.ok nx w:=by
  simp only[execOp,hop,resolve,hfv,hmap,Sem.run_bind,hd1,Result.andThen_ok,hd2]
 have henter:step P (lone (F.b.atR ⟨tmps,F.ds⟩ (.inRegion ops (i::r)::k)) F.cs w) =
   .next (lone fr (F.b.atR ⟨tmps,F.ds⟩ (.inRegion ops (i::r)::k)::F.cs) w):=by
  refine step_lone_go ?_
  rw[stepGR_op hoo hw,Oper.semAt_eq _ _ _ hnd]
  cases nx<;>simp only[Zfp,ZEz,reduceCtorEq]at hd3<;>subst hd3<;>simp[stepG.apply,hrun,Frame.atR]
 obtain⟨e,w',⟨g',s',res,x1,x2,x3,x4⟩,hback⟩:=hC (F.b.atR ⟨tmps,F.ds⟩ (.inRegion ops (i::r)::k)) F.cs
 obtain⟨hext,hm⟩:=m.afterCall x1 x2
 cases e with
 |returned v =>
  cases res with
  |panic d=>exact x3.elim
  |ret d =>
   have hfin:(F.b.atR ⟨tmps,F.ds⟩ (.inRegion ops (i::r)::k)).finish v=F.b.atR ((Act.mk tmps F.ds).put oo.dst v) (.inRegion ops r::k):=by rw[Frame.finish_atR,hoo];rfl
   have hsteps:Steps P (lone (F.b.atR ⟨tmps,F.ds⟩ (.inRegion ops (i::r)::k)) F.cs w) (lone (F.b.atR ((Act.mk tmps F.ds).put oo.dst v) (.inRegion ops r::k)) F.cs w'):=by
    refine .head henter ?_
    rw[←hfin];exact hback
   refine F.T.back _ _ _ _ hsteps ?_
   rw[hdst]
   obtain⟨tmps',e1,e2,m'⟩:=ZeG hm hN hd (v:=v) (e:=.d d) (Wo x3 rfl) F.ds
   rw[e1]
   exact F.T.ext _ _ _ _ _ hext (hret d s' x4 ops r k hr hkk _ _ _ tmps' e2 m')
 |panicked ch =>
  cases res with
  |ret d=>exact x3.elim
  |panic d =>
   obtain⟨v,rfl,hv⟩:=x3
   have hsteps:Steps P (lone (F.b.atR ⟨tmps,F.ds⟩ (.inRegion ops (i::r)::k)) F.cs w) (lone { F.b.atR ⟨tmps,F.ds⟩ (.inRegion ops (i::r)::k) with mode:=.panicking [{ v,recovered:=false }] } F.cs w'):=by
    refine .head henter ?_
    rw[←Frame.raise_atR];exact hback
   refine F.T.back _ _ _ _ hsteps ?_
   exact F.T.ext _ _ _ _ _ hext (hpan d s' x4 _ _ _ v _ _ hN hm (Wo hv rfl))
 |outgrown=>exact hback.elim
theorem ZjK{F:Fr P}{kp dk o os ρ L s}(hg:Zk ρ o.guard=sO true){fx xs}(hk:o.k=.call fx xs)
  {p q f first caps es ds} (hf:ZC ρ true fx=sO (q,.d (.fn (.func f) first caps))) (ha:Z2 ρ true xs=sO (p,es)) (hds:W6 es=sO ds) (hp:p) (hq:q)
  {Ψ} (hc:Zb P f (first++ds++caps) s Ψ)
  (hret:∀d s',Ψ (.ret d) s'→DO F kp dk os (Zv ρ o.dst (.d d)) L s') (hpan:∀d s',Ψ (.panic d) s'→YN F ρ L d s'):DO F kp dk (o::os) ρ L s :=
 Zd8 hg hk hf ha hds hp hq hc.V hret hpan
theorem Zk6{F:Fr P}{kp dk o os ρ L s}(hg:Zk ρ o.guard=sO true){x}(hk:o.k=.panic x)
  {p t d} (ha:ZC ρ true x=sO (p,.d (.iface t d))) (hp:p) (h:YN F ρ L (.iface t d) s):DO F kp dk (o::os) ρ L s:=by
 refine Wa fun oo g ν w tmps ops i r k hoo hck hcg hdst hd hN m hr hkk=>?_
 have hw:=Z8 m hcg hg
 have hnd:=Yc hck (by rw[hk];rfl)
 rw[hk]at hck
 obtain⟨x',hop,hx'⟩:=Zxk hck
 have hrep:Rep g w _ _:=Z3 m hx' rfl ha hp F.ds
 generalize hv:(Act.mk tmps F.ds).eval x'=v at hrep
 have hrun:(execOp (Act.mk tmps F.ds).eval oo).run P w=.halt (.panic v) w:=by
  cases hrep
  simp[execOp,hop,hv,Instr.panic]
 refine F.T.back _ _ _ _ (.one (step_lone_go (fr':={ F.b.atR ⟨tmps,F.ds⟩ (.inRegion ops (i::r)::k) with mode:=.panicking [{ v,recovered:=false }] }) (cs':=F.cs) (w':=w) ?_)) (h g ν w v _ _ hN m hrep)
 rw[stepGR_op hoo hw,Oper.semAt_eq _ _ _ hnd]
 rw[←Frame.raise_atR]
 simp[stepG.apply,hrun]
end
end Go.DL
namespace Go.DL
open Go
variable [Zqy]
section
variable {P:Program}
def J5:D→Option Value
 |.int k n=>sO (.int k n)
 |.bool b=>sO (.bool b)
 |.str l=>sO (.string ⟨l.toArray⟩)
 |.nilsl=>sO (.slice nO 0 0)
 |.nilptr=>sO (.pointer nO)
 |.ptr b o=>sO (.pointer (sO ⟨b,o,nO⟩))
 |.map b=>sO (.map (sO b))
 |.nilmap=>sO (.map nO)
 |.nilfn=>sO .nilFunc
 |.niliface=>sO .nilIface
 |_=>nO
def ZjA:List D→Option (List Value)
 | []=>sO []
 |d::r=>match J5 d,ZjA r with
  |some v,sO vs=>sO (v::vs)
  |_,_=>nO
theorem ZtJ{g w v v' d}(h:Rep g w v d)(hv:J5 d=sO v'):v=v':=by
 cases h<;>simp only[J5,ZEz,reduceCtorEq]at hv<;>(try exact hv)
 rename_i s l h hb
 rw[←hv]
 cases s
 simp only at h
 rw[←h]
theorem Zkd{g w}:∀{vs vs' ds},ZG (Rep g w) vs ds→ZjA ds=sO vs'→vs=vs'
 |_,_,_,.nil,h=>by simp only[ZjA,ZEz]at h;exact h
 |_,_,_,.cons h1 h2,h=>by
  simp only[ZjA]at h
  split at h<;>simp only[ZEz,reduceCtorEq]at h
  rename_i v vs e1 e2
  rw[←h,ZtJ h1 e1,Zkd h2 e2]
def ZeI:D→Prop
 |.int k n=>inR k n
 |.str l=>l.length≤big
 |d=>(J5 d).isSome=true
def Za5:List D→Prop
 | []=>True
 |d::r=>ZeI d∧Za5 r
theorem Zpn{d}(h:ZeI d):∃v,J5 d=sO v∧v.one1=true∧∀g w,Rep g w v d:=by
 cases d<;>simp only[ZeI,J5,Option.isSome_none,ZE3]at h
 ·exact⟨_,rfl,rfl,fun g w=>.int _ _ h⟩
 ·exact⟨_,rfl,rfl,fun g w=>.bool _⟩
 ·exact⟨_,rfl,rfl,fun g w=>.str _ _ rfl h⟩
 ·exact⟨_,rfl,rfl,fun g w=>.nilsl⟩
 ·exact⟨_,rfl,rfl,fun g w=>.nilptr⟩
 ·exact⟨_,rfl,rfl,fun g w=>.ptr _ _⟩
 ·exact⟨_,rfl,rfl,fun g w=>.map _⟩
 ·exact⟨_,rfl,rfl,fun g w=>.nilmap⟩
 ·exact⟨_,rfl,rfl,fun g w=>.nilfn⟩
 ·exact⟨_,rfl,rfl,fun g w=>.niliface⟩
theorem ZbC:∀{ds},Za5 ds→∃vs,ZjA ds=sO vs∧(∀v∈vs,v.one1=true)∧∀g w,ZG (Rep g w) vs ds
 | [],_=>⟨[],rfl,by simp,fun g w=>.nil⟩
 |d::r,h=>by
  obtain⟨v,h1,h2,h3⟩:=Zpn h.1
  obtain⟨vs,g1,g2,g3⟩:=ZbC h.2
  exact⟨v::vs,by simp[ZjA,h1,g1],by simp only[ZFd,forall_eq_or_imp];exact⟨h2,g2⟩,fun g w=>.cons (h3 g w) (g3 g w)⟩
inductive DD where
 |mark (q:Nat)
 |fn (i:FuncId) (args caps:List D)
def DD.def:DD→Deferred
 |.mark q=>{ target:=.collected q,args:=#[] }
 |.fn i args caps=>{ target:=.fn (.func i) ((ZjA caps).getD []).toArray,args:=((ZjA args).getD []).toArray }
def Za2(g:G)(w:World)(m:FrameMode):Option D→Prop
 |none=>m=.returning
 |some d=>∃v,m=.panicking [{ v,recovered:=false }]∧Rep g w v d
def JA(P:Program)(i:FuncId)(args:List D)(pd:Option D)(s:St)(Ψ:Bool→St→Prop):Prop :=
 (∃fn,P.funcs[i]?=sO fn∧fn.body.isSome=true∧(fn.name == "runtime.NumGoroutine")=false) ∧
 ∀g w (vs:List Value) (cf:Frame) (cs:List Frame),Yb g s w→ZG (Rep g w) vs args→Za2 g w cf.mode pd →
  ∃g' w' s' b,Ext g w g' w'∧Yb g' s' w'∧Ψ b s' ∧
   Steps P (lone (Frame.enter P i vs.toArray .deferred) (cf::cs) w) (lone { cf with mode:=if b then .returning else cf.mode } cs w')
def Unw(P:Program):List DD→Option D→St→(Option D→St→Prop)→Prop
 | [],m,s,Ψ=>Ψ m s
 |.mark q::r,m,s,Ψ=>s q=sO .dfr∧Unw P r m (s.del q) Ψ
 |.fn i args caps::r,m,s,Ψ=>Za5 args∧Za5 caps∧JA P i (args++caps) m s fun b s'=>Unw P r (if b then nO else m) s' Ψ
theorem ZbS{g:G}{w:World}(b:Nat)(o:Obj)(hb:hdr w b=nO)(hp:g.prot b=0)(hk:¬g.kept b):Ext g w g { w with heap:=w.heap.setIfInBounds b o } where
 size:=by simp
 prot _:=ZEP _
 cell b' o' ho:=by
  by_cases h:b'=b
  ·subst h;omega
  ·exact Jg (by simp[Array.getElem?_setIfInBounds,Ne.symm h])
 hdr b' x hx:=by
  by_cases h:b'=b
  ·subst h;rw[hb]at hx;simp at hx
  ·rw[Za0 (w:=w) (by simp[Array.getElem?_setIfInBounds,Ne.symm h])];exact hx
 kept b' hb':=by
  have h:b'≠b:=fun h=>hk (h▸hb')
  simp[Array.getElem?_setIfInBounds,Ne.symm h]
 keptProt _ _:=rfl
 keptEq:=rfl
 os:=rfl
 output:=rfl
 tape:=rfl
theorem Zt.drop{g:G}{ν:Nat→Nat}{w w':World}{tmps:Array Value}{ρ:Env}{L:Loc}{s:St}(m:Zt g ν w tmps ρ L s){b:Nat}{o:W4}(hb:s b=sO o)(he:Ext g w g w')(hsz:w'.heap.size=w.heap.size)
  (hoth:∀c,c≠b→w'.heap[c]?=w.heap[c]?):Zt g ν w' tmps ρ L (s.del b):={
 st:=⟨fun c x hx=>by
    simp only[St.del]at hx
    by_cases hc:c=b
    ·simp[hc]at hx
    ·simp only[hc,if_false]at hx;exact(m.st.obj c x hx).mono he (hoth c hc) rfl,
   fun c x hx=>by
    simp only[St.del]at hx
    by_cases hc:c=b
    ·simp[hc]at hx
    ·simp only[hc,if_false]at hx;exact m.st.kept c x hx,
   fun c hc=>m.st.fresh c (by omega),fun n cs hc=>(m.st.tabs n cs hc).mono he⟩
 loc l cs hl:=(m.loc l cs hl).mono he (hoth _ (fun h=>by have:=m.locSt l cs hl;rw[h,hb]at this;simp at this)) rfl
 locKept:=m.locKept
 locSt l cs hl:=by
  simp only[St.del]
  split
  ·rfl
  ·exact m.locSt l cs hl
 inj:=m.inj
 env t e ht:=(m.env t e ht).mono he }
theorem ZwN{fr cs w q ds args}(hm:fr.mode≠.run)(hd:fr.defers={ target:=.collected q,args }::ds)(hq:w.heap[q]?=sO (.deferred (sO []))) :
  step P (lone fr cs w)=.next (lone { fr with defers:=ds } cs { w with heap:=w.heap.setIfInBounds q (.deferred nO) }):=by
 have hrun:(Instr.takeDeferred q).run P w=.ok [] { w with heap:=w.heap.setIfInBounds q (.deferred nO) }:=by
  simp[Instr.takeDeferred,getObj,setObj,Sem.run,hq,Result.andThen]
 refine step_lone_go ?_
 cases hmode:fr.mode with
 |run=>exact absurd hmode hm
 |returning=>simp[stepG,unwind,hmode,hd,Sem.runT_eq,hrun]
 |panicking chain=>simp[stepG,unwind,hmode,hd,Sem.runT_eq,hrun]
theorem ZmM{g w m o}(h:Za2 g w m o):m≠.run:=by
 cases o with
 |none=>simp only[Za2]at h;rw[h];simp
 |some d=>obtain⟨v,h,_⟩:=h;rw[h];simp
theorem ZmL{g g' w w' m o}(h:Za2 g w m o)(he:Ext g w g' w'):Za2 g' w' m o:=by
 cases o with
 |none=>exact h
 |some d=>obtain⟨v,h,hr⟩:=h;exact⟨v,h,hr.mono he⟩
theorem ZjB{Ψ}:∀(dds) {m s},Unw P dds m s Ψ→∀{g ν w ρ L fr cs},Zt g ν w fr.tmps ρ L s→fr.defers=dds.map DD.def→Za2 g w fr.mode m →
  ∃g' w' m' s' md,Ext g w g' w'∧Zt g' ν w' fr.tmps ρ L s'∧Ψ m' s'∧Za2 g' w' md m'∧Steps P (lone fr cs w) (lone { fr with defers:=[],mode:=md } cs w')
 | [],m,s,h,g,ν,w,ρ,L,fr,cs,M,hd,hm=>by
  refine⟨g,w,m,s,fr.mode,Ext.refl g w,M,h,hm,?_⟩
  have:({ fr with defers:=[],mode:=fr.mode }:Frame)=fr:=by cases fr;simp only at hd;subst hd;rfl
  rw[this];exact Steps.refl P _
 |.mark q::r,m,s,h,g,ν,w,ρ,L,fr,cs,M,hd,hm=>by
  obtain⟨hq,hu⟩:=h
  obtain⟨hp0,hh⟩:=M.st.obj q _ hq
  have he:=ZbS (g:=g) (w:=w) q (.deferred nO) (by simp[hdr,hh]) hp0 (M.st.kept q _ hq)
  have M':=M.drop hq he (by simp) (fun c hc=>Jq _ hc)
  obtain⟨g',w',m',s',md,a1,a2,a3,a4,a5⟩:=ZjB r hu (fr:={ fr with defers:=r.map DD.def }) (cs:=cs) M' rfl (ZmL hm he)
  exact⟨g',w',m',s',md,he.trans a1,a2,a3,a4,.head (ZwN (ZmM hm) hd hh) a5⟩
 |.fn i args caps::r,m,s,h,g,ν,w,ρ,L,fr,cs,M,hd,hm=>by
  obtain⟨hr1,hr2,⟨fn,hfn1,hfn2,hfn3⟩,hc⟩:=h
  obtain⟨as9,ha1,_,ha2⟩:=ZbC hr1
  obtain⟨vs,hv1,_,hv2⟩:=ZbC hr2
  have hm':Za2 (Zfb g ν L) w ({ fr with defers:=r.map DD.def }:Frame).mode m:=by
   cases m with
   |none=>exact hm
   |some d=>obtain⟨v,h1,h2⟩:=hm;exact⟨v,h1,Wo h2 rfl⟩
  obtain⟨g1,w1,s1,b,x1,x2,x3,x4⟩:=hc (Zfb g ν L) w (as9++vs) { fr with defers:=r.map DD.def } cs M.callSt ((ha2 _ _).append (hv2 _ _)) hm'
  obtain⟨hext,hm1⟩:=M.afterCall x1 x2
  have hbody:fn.body.isNone=false:=by cases hb:fn.body<;>simp[hb]at hfn2⊢
  have hstep:step P (lone fr cs w)=.next (lone (Frame.enter P i (as9++vs).toArray .deferred) ({ fr with defers:=r.map DD.def }::cs) w):=by
   refine step_defer (d:=DD.def (.fn i args caps)) (fv:=.func i) (cap:=vs.toArray) (ZmM hm) hd (by simp[DD.def,hv1]) ?_
   simp only[DD.def,hv1,ha1,ZFe,invoke,callFunc,Sem.run_bind,run_program,Result.andThen_ok,hfn1,hfn3,hbody,ZE3,if_false,Sem.run_pure]
   simp
  have hmd:Za2 { g1 with kept:=g.kept } w1 (if b then .returning else fr.mode) (if b then nO else m):=by
   cases b
   ·simp only[ZE3,if_false];exact ZmL hm hext
   ·rfl
  obtain⟨g',w',m',s',md,a1,a2,a3,a4,a5⟩:=ZjB r x3 (fr:={ fr with defers:=r.map DD.def,mode:=if b then .returning else fr.mode }) (cs:=cs) hm1 rfl hmd
  exact⟨g',w',m',s',md,hext.trans a1,a2,a3,a4,.head hstep (Steps.trans x4 a5)⟩
def Yy{P:Program}(F:Fr P)(rs:List RV)(Φ:Res→St→Prop)(dds:List DD):Prop :=
 ∃an f df cs,cf P an f=sO df∧rs=df.res∧F={ ZmA P an f df.n cs Φ with ds:=dds.map DD.def }
theorem St.sub_refl(s:St):s.sub s:=fun _ _ h=>h
def ZjM(ρ:Env)(L:Loc)(rs:List RV)(Φ:Res→St→Prop):Option D→St→Prop
 |none,s=>∃p ds d s',Yk ρ L s rs=sO (p,ds)∧p∧(KN ds).Le d∧s'.sub s∧Φ (.ret d) s'
 |some d,s=>∃d' s',d.Le d'∧s'.sub s∧Φ (.panic d') s'
theorem Zrb{an f df}(hf:cf P an f=sO df){cs Φ g ν w fr ρ L s m dds}(hfn:fr.fn=f)(hkind:fr.kind=.normal)
  (M:Zt g ν w fr.tmps ρ L s) (hd:fr.defers=dds.map DD.def) (hm:Za2 g w fr.mode m) (hu:Unw P dds m s (ZjM ρ L df.res Φ)):(ZjV P f cs Φ).T g w (lone fr cs w):=by
 obtain⟨g',w',m',s',md,a1,a2,a3,a4,a5⟩:=ZjB dds hu (cs:=cs) M hd hm
 unfold cf at hf
 split at hf<;>(try(simp at hf;done))
 rename_i fn hfn'
 split at hf<;>(try(simp at hf;done))
 split at hf<;>(try(simp at hf;done))
 split at hf<;>simp at hf
 rename_i rs d' hrs hd'
 subst hf
 cases m' with
 |none =>
  obtain⟨p,ds,d,s2,h1,h2,h3,h4,h5⟩:=a3
  obtain⟨v,hv1,hv2⟩:=Zm5 a2 hrs h1 h2
  exact⟨.returned v,w',_,a5,hfn,⟨a4,rfl,hkind,fn,by rw[←hfn'] ;exact congrArg _ hfn,hv1⟩,g',s2,.ret d,a1,a2.st.sub h4,h3 _ _ _ hv2,h5⟩
 |some d =>
  obtain⟨d',s2,h1,h2,h3⟩:=a3
  obtain⟨v,hv1,hv2⟩:=a4
  exact⟨.panicked [{ v,recovered:=false }],w',_,a5,hfn,⟨hv1,rfl,fn,by rw[←hfn'];exact congrArg _ hfn⟩,g',s2,.panic d',a1,a2.st.sub h2,⟨v,rfl,h1 _ _ _ hv2⟩,h3⟩
theorem Yy.retU{F:Fr P}{rs Φ dds}(hF:Yy F rs Φ dds){dk ρ L s}(h:Unw P dds nO s (ZjM ρ L rs Φ)):Zs F (.code .ret::dk) ρ L s:=by
 obtain⟨an,f,⟨N,rs,b⟩,cs,hf,rfl,rfl⟩:=hF
 intro k hk
 cases hk with
 |code hc ht =>
  obtain rfl:=ZqQ hc
  intro g ν w tmps hN m
  refine(ZjV P f cs Φ).back _ _ _ _ (.one (stepR_ret rfl)) ?_
  exact Zrb (m:=nO) hf rfl rfl (dds:=dds) m rfl rfl h
theorem Yy.finU{F:Fr P}{rs Φ dds}(hF:Yy F rs Φ dds){ρ L s}(h:Unw P dds nO s (ZjM ρ L rs Φ)):Zs F [] ρ L s:=by
 obtain⟨an,f,⟨N,rs,b⟩,cs,hf,rfl,rfl⟩:=hF
 intro k hk
 cases hk
 intro g ν w tmps hN m
 refine(ZjV P f cs Φ).back _ _ _ _ (.one (stepR_end rfl)) ?_
 exact Zrb (m:=nO) hf rfl rfl (dds:=dds) m rfl rfl h
theorem Yy.panU{F:Fr P}{rs Φ dds}(hF:Yy F rs Φ dds){ρ L d s}(h:Unw P dds (sO d) s (ZjM ρ L rs Φ)):YN F ρ L d s:=by
 obtain⟨an,f,⟨N,rs,b⟩,cs,hf,rfl,rfl⟩:=hF
 intro g ν w v todo tmps hN m hr
 exact Zrb (m:=sO d) hf rfl rfl (dds:=dds) m rfl ⟨v,rfl,hr⟩ h
theorem Yy.ret{F:Fr P}{rs Φ}(hF:Yy F rs Φ []){dk ρ L s p ds}(d s')(h1:Yk ρ L s rs=sO (p,ds))(h2:p)(h3:(KN ds).Le d)(h4:s'.sub s)(h5:Φ (.ret d) s') :
  Zs F (.code .ret::dk) ρ L s:=hF.retU ⟨p,ds,d,s',h1,h2,h3,h4,h5⟩
theorem Yy.fin{F:Fr P}{rs Φ}(hF:Yy F rs Φ []){ρ L s p ds}(d s')(h1:Yk ρ L s rs=sO (p,ds))(h2:p)(h3:(KN ds).Le d)(h4:s'.sub s)(h5:Φ (.ret d) s') :
  Zs F [] ρ L s:=hF.finU ⟨p,ds,d,s',h1,h2,h3,h4,h5⟩
theorem Yy.pan{F:Fr P}{rs Φ}(hF:Yy F rs Φ []){ρ L d s}(s')(h1:s'.sub s)(h2:Φ (.panic d) s'):YN F ρ L d s:=hF.panU ⟨d,s',D.Le.refl d,h1,h2⟩
theorem Zc{an f N rs b}(hf:cf P an f=sO ⟨N,rs,b⟩){args s Φ}
  (h:∀F:Fr P,Yy F rs Φ []→Zs F [.code b] (KM 0 args) [] s):Zb P f args s Φ :=
 Zh2 hf fun cs=>h _ ⟨an,f,⟨N,rs,b⟩,cs,hf,rfl,rfl⟩
end
end Go.DL
namespace Go.DL
open Go
variable [Zqy]
def Ze(P:Program)(f:FuncId)(args:List D)(d:D):Prop:=∀s,Zb P f args s fun r s'=>r=.ret d∧s'=s
theorem Zm{P an f N rs b}(hf:cf P an f=sO ⟨N,rs,b⟩){args d}
  (h:∀(F:Fr P) (s:St),(∀{dk:List WL} {ρ:Env} {L:Loc} {s':St} {p:Prop} {ds:List D},Yk ρ L s' rs=sO (p,ds)→p→(KN ds).Le d→s.sub s'→Zs F (.code .ret::dk) ρ L s') →
   Zs F [.code b] (KM 0 args) [] s):Ze P f args d :=
 fun s=>Zc hf fun F hF=>h F s fun h1 h2 h3 h4=>hF.ret d s h1 h2 h3 h4 ⟨rfl,rfl⟩
theorem Zag{P}{F:Fr P}{kp dk o os ρ L s}(hg:Zk ρ o.guard=sO true){fx xs}(hk:o.k=.call fx xs)
  {p q f first caps es ds} (hf:ZC ρ true fx=sO (q,.d (.fn (.func f) first caps))) (ha:Z2 ρ true xs=sO (p,es)) (hds:W6 es=sO ds) (hp:p) (hq:q)
  {d} (hc:Ze P f (first++ds++caps) d) (h:DO F kp dk os (Zv ρ o.dst (.d d)) L s):DO F kp dk (o::os) ρ L s :=
 ZjK hg hk hf ha hds hp hq (hc s) (fun d' s' ⟨h1,h2⟩=>by simp only[Res.ret.injEq]at h1;subst h1;subst h2;exact h) (fun d' s' ⟨h1,_⟩=>by simp at h1)
end Go.DL
namespace Go.DL
open Go
variable [Zqy]
section
variable {P:Program}
theorem ZzN{F:Fr P}{kp dk os ρ ρ' L s}(h:∀g ν w tmps,Zt g ν w tmps ρ L s→Zt g ν w tmps ρ' L s)(h':DO F kp dk os ρ' L s) :
  DO F kp dk os ρ L s:=fun ops is k hops hk g ν w tmps hN m=>h' ops is k hops hk g ν w tmps hN (h g ν w tmps m)
theorem Zt.headWhen{g ν w tmps ρ L s dst e}(m:Zt g ν w tmps (Zv ρ dst e) L s):Zt g ν w tmps (Zv ρ dst (.when true e)) L s:=by
 cases dst with
 |none=>exact m
 |some t =>
  refine{ m with env:=fun u x hx=>?_ }
  simp only[Zv,ZH]at hx
  by_cases h:t=u
  ·simp only[h,if_true,ZEz]at hx
   subst hx
   exact⟨fun _=>m.env u e (by simp[Zv,ZH,h]),fun h=>by simp at h⟩
  ·simp only[h,if_false]at hx
   exact m.env u x (by simp[Zv,ZH,h,hx])
theorem Jc{F:Fr P}{kp dk o os ρ L s}(hg:Zk ρ o.guard=sO false){e}
  (h:DO F kp dk os (Zv ρ o.dst (.when false e)) L s):DO F kp dk (o::os) ρ L s:=by
 refine Wa fun oo g ν w tmps ops i r k hoo hck hcg hdst hd hN m hr hkk=>?_
 exact Zbc (P:=P) hN m hoo hdst hd (Z8 m hcg hg) (h ops r k hr hkk)
theorem Ze5{F:Fr P}{kp dk o os ρ L s c}(hg:Zk ρ o.guard=sO c){fx xs}(hk:o.k=.call fx xs)
  {p q f first caps es ds} (hf:ZC ρ c fx=sO (q,.d (.fn (.func f) first caps))) (ha:Z2 ρ c xs=sO (p,es)) (hds:W6 es=sO ds)
  {d} (hc:c=true→p∧q∧Ze P f (first++ds++caps) d) (h:DO F kp dk os (Zv ρ o.dst (.when c (.d d))) L s):DO F kp dk (o::os) ρ L s:=by
 cases c
 ·exact Jc hg h
 ·obtain⟨h1,h2,h3⟩:=hc rfl
  exact Zag hg hk hf ha hds h1 h2 h3 (ZzN (fun g ν w tmps m=>m.headWhen) h)
theorem Zt.sub{g:G}{ν:Nat→Nat}{w:World}{tmps:Array Value}{ρ:Env}{L:Loc}{s s':St}(m:Zt g ν w tmps ρ L s)(hs:s'.sub s):Zt g ν w tmps ρ L s':={
 st:=m.st.sub hs
 loc:=m.loc
 locKept:=m.locKept
 locSt l cs hl:=by
  cases hx:s' (ν l) with
  |none=>rfl
  |some o=>have:=hs _ _ hx;rw[m.locSt l cs hl]at this;simp at this
 inj:=m.inj
 env:=m.env }
theorem Kk{F:Fr P}{dk ρ L s s'}(hs:s'.sub s)(h:Zs F dk ρ L s'):Zs F dk ρ L s :=
 fun k hk g ν w tmps hN m=>h k hk g ν w tmps hN (m.sub hs)
end
end Go.DL
namespace Go.DL
open Go
variable [Zqy]
variable {kp:Option (List Nat)}{L:Loc}{ρ:Env}{s:St}{w:World}{os:List DOp}{ds:List D}{B:List (Nat × Rd)}{dst:Option Nat}{tmps:Array Value}{g:G}{Φ:Res→St→Prop}{ν:Nat→Nat}{xs:List Opd}{side:Prop}{row:Nat→List D}
variable {P:Program}
def ZhJ:BinOp→IntKind→IntKind→Int→Int→Option Int
 |.add,k,k2,a,b=>if k=k2 then sO (k.wrap (a+b)) else nO
 |.shl,k,_,a,b=>if 0≤b then sO (k.wrap (Zhu k a b)) else nO
 |_,_,_,_,_=>nO
theorem Zs9{F:Fr P}{kp dk o os ρ L s}(hg:o.guard=nO){x y bo pl}(hk:o.k=.q (.bin bo pl) [x,y]){p k k2 a b v}(ha:Z2 ρ true [x,y]=sO (p,[.d (.int k a),.d (.int k2 b)]))(hp:p)(hv:ZhJ bo k k2 a b=sO v)(h:DO F kp dk os (Zv ρ o.dst (.d (.int k v))) L s):DO F kp dk (o::os) ρ L s:=by
 refine Zqs (c:=true) (by rw[hg];rfl) (by rw[hk];rfl) (.inr ⟨rfl,rfl⟩) (fun _ oo g ν w tmps hck m=>?_) h
 rw[hk]at hck
 obtain⟨ys,hcq,hys⟩:=ZzZ hck
 have hargs:=ZbB m rfl F.ds hys ha hp
 obtain⟨dst,oo_op,ty,pos,af,gd⟩:=oo
 simp only at hcq
 have hop:∃op t x' y' yt,oo_op=Op.binOp op t x' y' yt:=by
  cases oo_op<;>(try(simp[cq]at hcq;done))
  case binOp=>exact⟨_,_,_,_,_,rfl⟩
  all_goals
   exfalso
   revert hcq
   simp only[cq]
   repeat' split
   all_goals simp
   all_goals (intros;simp_all)
 obtain⟨op,t,x',y',yt,rfl⟩:=hop
 simp only[cq]at hcq
 simp only[ZEz,ZEL,Q.bin.injEq]at hcq
 obtain⟨⟨rfl,_⟩,rfl⟩:=hcq
 obtain⟨e1,e2,he,h1,h2⟩:=JE hargs
 simp only[List.cons.injEq,and_true]at he
 obtain⟨rfl,rfl⟩:=he
 obtain⟨v1,i1⟩:=KS h1
 obtain⟨v2,i2⟩:=KS h2
 unfold ZhJ at hv
 split at hv
 ·split at hv
  ·rename_i hkk
   subst hkk
   obtain rfl:=Option.some.inj hv
   refine ev ⟨.int k (k.wrap (a+b)),?_,.int _ _ (ZgM _ _)⟩
   rw[v1,v2]
   have hgd:(eqGuard .add t x' y' (.int k a) (.int k b)).run P w=.ok () w:=rfl
   simp only[Sem.run_bind,hgd,Result.andThen_ok,binOp,ne_eq,not_true_eq_false,if_false]
   rfl
  ·cases hv
 ·split at hv
  ·rename_i hb0
   obtain rfl:=Option.some.inj hv
   refine ev ⟨.int k (k.wrap (Zhu k a b)),?_,.int _ _ (ZgM _ _)⟩
   rw[v1,v2]
   have hgd:(eqGuard .shl t x' y' (.int k a) (.int k2 b)).run P w=.ok () w:=rfl
   simp only[Sem.run_bind,hgd,Result.andThen_ok,binOp,Op.shift,Int.not_lt.2 hb0,if_false]
   rfl
  ·cases hv
 ·cases hv
theorem Zga{F:Fr P}{kp dk o os ρ L s}(hg:o.guard=nO){x y pl}(hk:o.k=.q (.bin .add pl) [x,y]){p k a b}(ha:Z2 ρ true [x,y]=sO (p,[.d (.int k a),.d (.int k b)]))(hp:p)(h:DO F kp dk os (Zv ρ o.dst (.d (.int k (k.wrap (a+b))))) L s):DO F kp dk (o::os) ρ L s :=
 Zs9 hg hk ha hp (by simp[ZhJ]) h
end Go.DL
