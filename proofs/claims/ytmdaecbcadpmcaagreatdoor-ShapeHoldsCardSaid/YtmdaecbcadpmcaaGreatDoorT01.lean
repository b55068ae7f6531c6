/- Lemmas: DlA, DlB, DlC, DlD, DlE, DlF, DlG, DlH, DlI, DlJ, DlK, DlL, DlM, DlMa, DlN, DlO, DlP, DlQ, DlR, DlS, DlT, DlTa, DlTb, DlTc, DlU, DlV. -/
import Derived.AtR
import Derived.Calls
import Derived.Laws.Cells
import Derived.Laws.StructEq
import Derived.ChangeKeysEq
import Derived.Laws.Tables
import Derived.Laws.Build
import Derived.Laws.BytesString
import Derived.MapKept
import Derived.Laws.CopyRow
import Derived.Great.BuildSlice
import Derived.Laws.MakeOwn
import Derived.Laws.AppendOwn
import Derived.Lib.ConvBytes
import Derived.Defers
import Derived.Orders
import Derived.Lib.AppendStr
import Derived.RangeFuncIn
import Derived.OpenShut
import Derived.WalkKit
import Derived.ProofKit
import Derived.ChangeCalls
import Derived.KernelRfl
import Derived.Shelf.Strings.OnBuilder
import Derived.Ground.NamesProg
import Derived.Lib.Bytealg
import Derived.Lay
import Derived.LaidOnce
import Derived.Lib.LaidTab
import Derived.Stop.LaidErr
import Derived.SevenTiedAt
import Derived.Test.YtmdaecbcadpmcaaGreatDoorProg
set_option maxHeartbeats 16000000
set_option maxRecDepth 100000
set_option linter.all false
open Option renaming some → sO, none → nO
open Inhabited renaming default → dE
open Decidable renaming decide → dC
open Bool renaming and_eq_true → ZD5, false_eq_true → ZEq
open List renaming append_assoc → ZEA, getD → ZEb, getElem?_append_left → ZEt, getElem?_append_right → ZEH, getElem?_eq_getElem → ZEr, getElem?_eq_none → ZEG, getElem?_take → ZEC, getElem_of_mem → ZEe, length_append → ZD8, length_cons → ZEf, length_take → ZEh, map_cons → ZEc, map_nil → ZEs, range → ZEa
open Nat renaming add_mul → ZEo, le_refl → ZEd, mul_le_mul_right → ZEi
open Option renaming getD_some → ZEB, map_eq_some_iff → ZD9, map_some → ZEp
open Option.some renaming injEq → ZDV
open Prod.mk renaming injEq → ZD7
namespace Go.DL
open Go
variable {kp:Option (List Nat)}{w:World}{dst:Option Nat}{tmps:Array Value}{ν:Nat→Nat}{side:Prop}
inductive Tok where
 |none|full|tip (b:Nat)
inductive D where
 |int (k:IntKind) (n:Int)
 |bool (b:Bool)
 |str (s:List UInt8)
 |agg (cells:List D)
 |tup (vs:List D)
 |nilsl
 |sl (t:Tok) (n s:Nat) (row:Nat→List D)
 |ep (cells:List D) (off:Nat)
 |nilptr
 |ptr (b off:Nat)
 |msl (b off n cap s:Nat)
 |map (b:Nat)
 |nilmap
 |fn (f:Fn) (first caps:List D)
 |nilfn
 |iface (t:TypeId) (v:D)
 |niliface
 |stamp (n:Nat)
 |undef
 |any
instance:Inhabited D:=⟨.undef⟩
inductive SK where
 |int|str|bool
inductive KP where
 |sc (k:SK)
 |st (l:List (Nat×SK))
def Yi:SK→D→D→Option Bool
 |.int,.int k a,.int k' b=>if k=k' then sO (dC (a=b)) else nO
 |.str,.str a,.str b=>sO (dC (a=b))
 |.bool,.bool a,.bool b=>sO (dC (a=b))
 |_,_,_=>nO
def Wg(xs ys:List D):List (Nat×SK)→Option Bool
 | []=>sO true
 | (o,k)::r=>match xs[o]?,ys[o]? with
  |some x,sO y=>match Yi k x y,Wg xs ys r with
   |some b,sO c=>sO (b&&c)
   |_,_=>nO
  |_,_=>nO
def W6:KP→D→D→Option Bool
 |.sc k,x,y=>Yi k x y
 |.st l,.agg xs,.agg ys=>if xs.length=l.length∧ys.length=l.length then Wg xs ys l else nO
 |_,_,_=>nO
def QA(kp:KP)(k:D):List (D×D)→Option (Option Nat)
 | []=>sO nO
 |e::r=>match W6 kp k e.1 with
  |some true=>sO (sO 0)
  |some false=>(QA kp k r).map (·.map (· + 1))
  |none=>nO
def hdr(w:World)(b:Nat):Option (TypeId×Nat×Nat×Nat) :=
 match w.heap[b]? with
 |some (.cells c t fr)=>sO (t,c.size,fr.1,fr.2)
 |_=>nO
def _root_.Go.Value.one1:Value→Bool
 |.agg _|.tuple _=>false
 |_=>true
structure G where
 prot:Nat→Nat
 kept:Nat→Prop
def free(w:World)(b n:Nat):Prop:=∃t m,hdr w b=sO (t,m,0,0)∧n≤m
def ZjI(w:World):Tok→Nat→Nat→Nat→Nat→Nat→Prop
 |.none,_,_,_,_,_=>True
 |.full,_,_,n,cap,_=>cap=n
 |.tip t,b,o,_,cap,s=>b=t∧o=0∧free w b (cap*s)
def inR(k:IntKind)(n:Int):Prop:=k.min≤n∧n≤k.max
def big:Nat:=9223372036854775807
inductive Rep(g:G)(w:World):Value→D→Prop where
 |int (k:IntKind) (n:Int) (h:inR k n):Rep g w (.int k n) (.int k n)
 |bool (b:Bool):Rep g w (.bool b) (.bool b)
 |str (s:ByteArray) (l:List UInt8) (h:s.data.toList=l) (hb:l.length≤big):Rep g w (.string s) (.str l)
 |agg (vs:List Value) (cells:List D) (hn:vs.length=cells.length) (h:∀(i:Nat) (v:Value) (d:D),vs[i]?=some v→cells[i]?=some d→Rep g w v d)
   (one:∀v∈vs,v.one1=true):Rep g w (.agg vs.toArray) (.agg cells)
 |tup (vs:List Value) (ds:List D) (hn:vs.length=ds.length) (h:∀(i:Nat) (v:Value) (d:D),vs[i]?=some v→ds[i]?=some d→Rep g w v d) :
   Rep g w (.tuple vs.toArray) (.tup ds)
 |nilsl:Rep g w (.slice none 0 0) .nilsl
 |sl0 (a:Option Addr) (t:Tok) (s:Nat) (row:Nat→List D) (ht:∀b,t≠.tip b):Rep g w (.slice a 0 0) (.sl t 0 s row)
 |sl (b o n cap s:Nat) (row:Nat→List D) (t:Tok) (f:Nat→Nat→Value) (hl:∀i,i<n→(row i).length=s)
   (hc:∀i j,i<n→j<s→w.cell? ⟨b,o+i*s+j,none⟩=some (f i j)) (hp:∀i j,i<n→j<s→o+i*s+j<g.prot b)
   (hr:∀(i j:Nat) (d:D),i<n→(row i)[j]?=some d→Rep g w (f i j) d) (one:∀i j,i<n→j<s→(f i j).one1=true)
   (ht:ZjI w t b o n cap s) (hcap:n≤cap) (hb:cap≤big) :
   Rep g w (.slice (some ⟨b,o,none⟩) n cap) (.sl t n s row)
 |ep (b o off:Nat) (cells:List D) (f:Nat→Value) (hc:∀i,i<cells.length→w.cell? ⟨b,o+i,none⟩=some (f i)) (hp:∀i,i<cells.length→o+i<g.prot b)
   (hr:∀(i:Nat) (d:D),cells[i]?=some d→Rep g w (f i) d) (one:∀i,i<cells.length→(f i).one1=true):Rep g w (.pointer (some ⟨b,o+off,none⟩)) (.ep cells off)
 |nilptr:Rep g w (.pointer none) .nilptr
 |ptr (b off:Nat):Rep g w (.pointer (some ⟨b,off,none⟩)) (.ptr b off)
 |msl (b off n cap s:Nat) (h:n≤cap) (hb:cap≤big):Rep g w (.slice (some ⟨b,off,none⟩) n cap) (.msl b off n cap s)
 |mslx (a:Addr) (b off s:Nat):Rep g w (.slice (some a) 0 0) (.msl b off 0 0 s)
 |map (b:Nat):Rep g w (.map (some b)) (.map b)
 |nilmap:Rep g w (.map none) .nilmap
 |fn (f:Fn) (fs cs:List Value) (df dc:List D) (hnf:fs.length=df.length) (hnc:cs.length=dc.length)
   (hf:∀(i:Nat) (v:Value) (d:D),fs[i]?=some v→df[i]?=some d→Rep g w v d)
   (hc:∀(i:Nat) (v:Value) (d:D),cs[i]?=some v→dc[i]?=some d→Rep g w v d):Rep g w (.func f fs.toArray cs.toArray) (.fn f df dc)
 |nilfn:Rep g w .nilFunc .nilfn
 |iface (t:TypeId) (v:Value) (d:D) (h:Rep g w v d):Rep g w (.iface t v) (.iface t d)
 |niliface:Rep g w .nilIface .niliface
 |stamp (n:Nat):Rep g w (.int .i64 n) (.stamp n)
 |undef:Rep g w undef .undef
 |any (v:Value):Rep g w v .any
structure Ext(g:G)(w:World)(g':G)(w':World):Prop where
 size:w.heap.size≤w'.heap.size
 prot:∀b,g.prot b≤g'.prot b
 cell:∀b o,o<g.prot b→w'.cell? ⟨b,o,none⟩=w.cell? ⟨b,o,none⟩
 hdr:∀b x,hdr w b=some x→hdr w' b=some x
 kept:∀b,g.kept b→w'.heap[b]?=w.heap[b]?
 keptProt:∀b,g.kept b→g'.prot b=g.prot b
 keptEq:g'.kept=g.kept
 os:w'.os=w.os
 output:w'.output=w.output
 tape:w'.tape=w.tape
theorem Ext.refl(g:G)(w:World):Ext g w g w:=⟨ZEd _,fun _=>ZEd _,fun _ _ _=>rfl,fun _ _ h=>h,fun _ _=>rfl,fun _ _=>rfl,rfl,rfl,rfl,rfl⟩
theorem Ext.trans{g g' g'':G}{w w' w'':World}(h:Ext g w g' w')(h':Ext g' w' g'' w''):Ext g w g'' w'':={
 size:=Nat.le_trans h.size h'.size
 prot b:=Nat.le_trans (h.prot b) (h'.prot b)
 cell b o ho:=(h'.cell b o (Nat.lt_of_lt_of_le ho (h.prot b))).trans (h.cell b o ho)
 hdr b x hx:=h'.hdr b x (h.hdr b x hx)
 kept b hb:=(h'.kept b (by rw[h.keptEq];exact hb)).trans (h.kept b hb)
 keptProt b hb:=(h'.keptProt b (by rw[h.keptEq];exact hb)).trans (h.keptProt b hb)
 keptEq:=h'.keptEq.trans h.keptEq
 os:=h'.os.trans h.os
 output:=h'.output.trans h.output
 tape:=h'.tape.trans h.tape }
theorem free.mono0{w w':World}{b n:Nat}(h:free w b n)(e:∀b x,hdr w b=sO x→hdr w' b=sO x):free w' b n:=by
 obtain⟨t,m,h1,h2⟩:=h;exact⟨t,m,e _ _ h1,h2⟩
theorem Rep.mono0{g g':G}{w w':World}{v:Value}{d:D}(h:Rep g w v d)(ep:∀b,g.prot b≤g'.prot b)(ec:∀b o,o<g.prot b→w'.cell? ⟨b,o,nO⟩=w.cell? ⟨b,o,nO⟩)(eh:∀b x,hdr w b=sO x→hdr w' b=sO x):Rep g' w' v d:=by
 induction h with
 |int k n h=>exact .int k n h
 |bool b=>exact .bool b
 |str s l h hb=>exact .str s l h hb
 |agg vs cells hn _ one ih=>exact .agg vs cells hn ih one
 |tup vs ds hn _ ih=>exact .tup vs ds hn ih
 |nilsl=>exact .nilsl
 |sl0 a t s row ht=>exact .sl0 a t s row ht
 |sl b o n cap s row t f hl hc hp _ one ht hcap hb ih =>
  refine .sl b o n cap s row t f hl (fun i j hi hj=>?_) (fun i j hi hj=>Nat.lt_of_lt_of_le (hp i j hi hj) (ep b)) ih one ?_ hcap hb;rw[ec _ _ (hp i j hi hj)];exact hc i j hi hj;cases t with
  |none=>trivial
  |full=>exact ht
  |tip t=>exact⟨ht.1,ht.2.1,ht.2.2.mono0 eh⟩
 |ep b o off cells f hc hp _ one ih =>exact .ep b o off cells f (fun i hi=>by rw[ec _ _ (hp i hi)];exact hc i hi) (fun i hi=>Nat.lt_of_lt_of_le (hp i hi) (ep b)) ih one
 |nilptr=>exact .nilptr
 |ptr b off=>exact .ptr b off
 |msl b off n cap s h hb=>exact .msl b off n cap s h hb
 |mslx a b off s=>exact .mslx a b off s
 |map b=>exact .map b
 |nilmap=>exact .nilmap
 |fn f fs cs df dc hnf hnc _ _ ihf ihc=>exact .fn f fs cs df dc hnf hnc ihf ihc
 |nilfn=>exact .nilfn
 |iface t v d _ ih=>exact .iface t v d ih
 |niliface=>exact .niliface
 |stamp n=>exact .stamp n
 |undef=>exact .undef
 |any v=>exact .any v
theorem Rep.mono{g g':G}{w w':World}{v:Value}{d:D}(h:Rep g w v d)(e:Ext g w g' w'):Rep g' w' v d:=h.mono0 e.prot e.cell e.hdr
inductive E where
 |d (v:D)
 |loc (l off:Nat)
 |when (c:Bool) (e:E)
abbrev Env:=List (Nat×E)
abbrev Loc:=List (Nat×List D)
def ZM:Env→Nat→Option E
 | [],_=>nO
 | (k,e)::r,t=>if k=t then sO e else ZM r t
def Ze:Loc→Nat→Option (List D)
 | [],_=>nO
 | (k,e)::r,t=>if k=t then sO e else Ze r t
def ZK(g:G)(ν:Nat→Nat)(w:World)(L:Loc):Value→E→Prop
 |v,.d x=>Rep g w v x
 |v,.loc l off=>(∃cs,Ze L l=sO cs)∧v=.pointer (sO ⟨ν l,off,nO⟩)
 |v,.when c e=>(c=true→ZK g ν w L v e)∧(c=false→v=undef)
theorem ZK.mono{g g':G}{w w':World}{L:Loc}{v:Value}{e:E}(h:ZK g ν w L v e)(x:Ext g w g' w'):ZK g' ν w' L v e:=by
 induction e with
 |d d=>exact Rep.mono h x
 |loc l off=>exact h
 |when c e ih=>exact⟨fun hc=>ih (h.1 hc),h.2⟩
structure We where
 fn:FuncId
 params:List Nat
 assign:Code
 body:Code
 defers:Nat
 ρ:Env
 N:Nat
inductive LSt where
 |ready|busy
 |done (j:Code)
inductive Z1 where
 |cells (ds:List D)
 |map (es:List (D×D))
 |tip (k:Nat)
 |mapE (kp:KP) (es:List (D×D)) (k:D) (n:Nat)
 |loop (r:We) (st:LSt)
 |dfr
abbrev St:=Nat→Option Z1
def St.upd(s:St)(b:Nat)(o:Z1):St:=fun x=>if x=b then sO o else s x
def St.del(s:St)(b:Nat):St:=fun x=>if x=b then nO else s x
structure YQ(g:G)(w:World)(b:Nat)(ds:List D):Prop where
 prot:g.prot b=0
 ex:∃(vs:Array Value) (T:TypeId),w.heap[b]?=some (.cells vs T (0,0))∧vs.size=ds.length ∧
  (∀(i:Nat) (v:Value) (d:D),vs[i]?=some v→ds[i]?=some d→Rep g w v d)∧∀v∈vs,v.one1=true
def Wz(g:G)(w:World)(b:Nat):Z1→Prop
  |.cells ds=>YQ g w b ds
  |.map es=>g.prot b=0∧∃(en:Array MapEntry) (clock:Nat),w.heap[b]?=sO (.map en clock)∧en.size=es.length ∧
      (∀(i:Nat) (e:MapEntry) (d:D×D),en[i]?=sO e→es[i]?=sO d→Rep g w e.key d.1) ∧
      (∀(i:Nat) (e:MapEntry) (d:D×D),en[i]?=sO e→es[i]?=sO d→Rep g w e.val d.2) ∧
      (∀(i j:Nat) (e e':MapEntry),en[i]?=sO e→en[j]?=sO e'→e.born=e'.born→i=j)∧∀(i:Nat) (e:MapEntry),en[i]?=sO e→e.born<clock
  |.tip k=>g.prot b=k∧∃(vs:Array Value) (T:TypeId),w.heap[b]?=sO (.cells vs T (0,0))∧k≤vs.size
  |.mapE kp es k n=>g.prot b=0∧∃io,QA kp k es=sO io∧∃(en:Array MapEntry) (clock:Nat),w.heap[b]?=sO (.map en clock)∧en.size=(match io with
        |none=>es.length+1
        |some _=>es.length) ∧
      (∀(i:Nat) (e:MapEntry) (d:D×D),i≠io.getD es.length→en[i]?=sO e→es[i]?=sO d→Rep g w e.key d.1) ∧
      (∀(i:Nat) (e:MapEntry) (d:D×D),i≠io.getD es.length→en[i]?=sO e→es[i]?=sO d→Rep g w e.val d.2) ∧
      (∀e,en[io.getD es.length]?=sO e→Rep g w e.key k∧e.born=n) ∧
      (∀(i j:Nat) (e e':MapEntry),en[i]?=sO e→en[j]?=sO e'→e.born=e'.born→i=j)∧∀(i:Nat) (e:MapEntry),en[i]?=sO e→e.born<clock
  |.loop r st=>g.prot b=0∧∃l:Go.Loop,w.heap[b]?=sO (.loop l)∧l.fn=r.fn∧l.params.toList=r.params∧l.assign=r.assign∧l.body=r.body∧l.defers=r.defers∧r.N≤l.tmps.size ∧
      (∀t e,ZM r.ρ t=sO e→ZK g (fun _=>0) w [] (l.tmps.getD t undef) e) ∧
      (match st with
       |.ready=>l.state=.ready∧l.pending=nO
       |.busy=>l.state=.busy
       |.done j=>l.state=.done∧l.pending=sO j)
  |.dfr=>g.prot b=0∧w.heap[b]?=sO (.deferred (sO []))
class Zqj where
 tab:Nat→Option (List D)
variable [Zqj]
structure Yh(g:G)(s:St)(w:World):Prop where
 obj:∀b o,s b=some o→Wz g w b o
 kept:∀b o,s b=some o→¬g.kept b
 fresh:∀b,w.heap.size≤b→g.prot b=0∧¬g.kept b
 tabs:∀n cs,Zqj.tab n=some cs→Rep g w (.pointer (some ⟨n,0,none⟩)) (.ep cs 0)
theorem YQ.lt{g:G}{b:Nat}{ds:List D}(h:YQ g w b ds):b<w.heap.size:=by
 obtain⟨_,_,h,_⟩:=h.ex;grind
theorem Wz.lt{g:G}{b:Nat}{o:Z1}(h:Wz g w b o):b<w.heap.size:=by
 cases o with
 |cells ds=>exact YQ.lt h
 |map es=>obtain⟨_,_,_,h,_⟩:=h;exact(Array.getElem?_eq_some_iff.1 h).1
 |tip k=>obtain⟨_,_,_,h,_⟩:=h;exact(Array.getElem?_eq_some_iff.1 h).1
 |mapE kp es k n=>obtain⟨_,_,_,_,_,h,_⟩:=h;exact(Array.getElem?_eq_some_iff.1 h).1
 |loop r st=>obtain⟨_,_,h,_⟩:=h;exact(Array.getElem?_eq_some_iff.1 h).1
 |dfr=>exact(Array.getElem?_eq_some_iff.1 h.2).1
theorem YQ.mono{g g':G}{w w':World}{b:Nat}{ds:List D}(h:YQ g w b ds)(e:Ext g w g' w')(hb:w'.heap[b]?=w.heap[b]?)(hp:g'.prot b=g.prot b):
  YQ g' w' b ds:=by
 obtain⟨j,vs,T,h1,h2,h4,h5⟩:=h;exact⟨hp.trans j,vs,T,hb.trans h1,h2,fun i v d hv hd=>(h4 i v d hv hd).mono e,h5⟩
theorem Wz.mono{g g':G}{w w':World}{b:Nat}{o:Z1}(h:Wz g w b o)(e:Ext g w g' w')(hb:w'.heap[b]?=w.heap[b]?)(hp:g'.prot b=g.prot b):
  Wz g' w' b o:=by
 cases o with
 |cells ds=>exact YQ.mono h e hb hp
 |map es =>obtain⟨u,en,j,h1,h2,h3,h4,h5,h6⟩:=h;exact⟨hp.trans u,en,j,hb.trans h1,h2,fun i x d hv hd=>(h3 i x d hv hd).mono e,fun i x d hv hd=>(h4 i x d hv hd).mono e,h5,h6⟩
 |tip k =>obtain⟨u,vs,T,h1,h2⟩:=h;exact⟨hp.trans u,vs,T,hb.trans h1,h2⟩
 |mapE kp es k n =>obtain⟨u,io,h0,en,j,h1,h2,h3,h4,h5,h6,h7⟩:=h;exact⟨hp.trans u,io,h0,en,j,hb.trans h1,h2,fun i x d hi hv hd=>(h3 i x d hi hv hd).mono e,fun i x d hi hv hd=>(h4 i x d hi hv hd).mono e,fun x hx=>⟨(h5 x hx).1.mono e,(h5 x hx).2⟩,h6,h7⟩
 |loop r st =>obtain⟨u,l,h1,h2,h3,h4,h5,h6,h7,h8,h9⟩:=h;exact⟨hp.trans u,l,hb.trans h1,h2,h3,h4,h5,h6,h7,fun t x he=>(h8 t x he).mono e,h9⟩
 |dfr=>exact⟨hp.trans h.1,hb.trans h.2⟩
structure Zs(g:G)(ν:Nat→Nat)(w:World)(tmps:Array Value)(ρ:Env)(L:Loc)(s:St):Prop where
 st:Yh g s w
 loc:∀l cs,Ze L l=some cs→YQ g w (ν l) cs
 locKept:∀l cs,Ze L l=some cs→¬g.kept (ν l)
 locSt:∀l cs,Ze L l=some cs→s (ν l)=none
 inj:∀l l' cs cs',Ze L l=some cs→Ze L l'=some cs'→ν l=ν l'→l=l'
 env:∀t e,ZM ρ t=some e→ZK g ν w L (tmps.getD t undef) e
theorem ZK.locs{g:G}{ν ν':Nat→Nat}{L L':Loc}{v:Value}{e:E}(h:ZK g ν w L v e)(hL:∀l cs,Ze L l=sO cs→(∃cs',Ze L' l=sO cs')∧ν' l=ν l):ZK g ν' w L' v e:=by
 induction e with
 |d d=>exact h
 |loc l off=>obtain⟨⟨cs,hc⟩,hv⟩:=h;obtain⟨h1,h2⟩:=hL l cs hc;exact⟨h1,by grind⟩
 |when c e ih=>exact⟨fun hc=>ih (h.1 hc),h.2⟩
theorem Zw6(a:Array Value)(t u:Nat)(v:Value)(h:t<a.size):(a.setIfInBounds t v).getD u undef=if t=u then v else a.getD u undef:=by
 simp;grind
theorem Zs.put{g:G}{ρ:Env}{L:Loc}{s:St}(m:Zs g ν w tmps ρ L s){t:Nat}{v:Value}{e:E}(ht:t<tmps.size)(h:ZK g ν w L v e):Zs g ν w (tmps.setIfInBounds t v) ((t,e)::ρ) L s :=
 { m with
  env:=fun u x hx=>by
   rw[Zw6 _ _ _ _ ht];simp[ZM]at hx;by_cases i:t=u;grind;simp only[i]at hx⊢;exact m.env u x hx }
structure Jv(g:G)(w:World)(g':G)(w':World):Prop where
 size:w.heap.size≤w'.heap.size
 old:∀b,b<w.heap.size→w'.heap[b]?=w.heap[b]?
 prot:∀b,b<w.heap.size→g'.prot b=g.prot b
 fresh:∀b,w'.heap.size≤b→g'.prot b=0
 kept:g'.kept=g.kept
 os:w'.os=w.os
 output:w'.output=w.output
 tape:w'.tape=w.tape
theorem Jb{w w':World}{b o:Nat}(h:w'.heap[b]?=w.heap[b]?):w'.cell? ⟨b,o,nO⟩=w.cell? ⟨b,o,nO⟩:=by
 unfold World.cell?;simp[h]
theorem Za3{w w':World}{b:Nat}(h:w'.heap[b]?=w.heap[b]?):hdr w' b=hdr w b:=by grind [hdr]
theorem Zzx{b:Nat}{x:TypeId×Nat×Nat×Nat}(h:hdr w b=sO x):b<w.heap.size:=by grind [hdr]
theorem Jv.ext{g g':G}{w w':World}(h:Jv g w g' w')(hf:∀b,w.heap.size≤b→g.prot b=0∧¬g.kept b):Ext g w g' w':={
 size:=h.size
 prot b:=by rcases Nat.lt_or_ge b w.heap.size with hb|hb;rw[h.prot b hb];exact ZEd _;rw[(hf b hb).1];exact Nat.zero_le _
 cell b o ho:=by rcases Nat.lt_or_ge b w.heap.size with hb|hb;exact Jb (h.old b hb);simp_all
 hdr b x hx:=by rw[Za3 (h.old b (Zzx hx))];exact hx
 kept b hb:=by rcases Nat.lt_or_ge b w.heap.size with i |i;exact h.old b i;exact absurd hb (hf b i).2
 keptProt b hb:=by rcases Nat.lt_or_ge b w.heap.size with i |i;exact h.prot b i;exact absurd hb (hf b i).2
 keptEq:=h.kept
 os:=h.os
 output:=h.output
 tape:=h.tape }
theorem Yh.grow{g g':G}{w w':World}{s:St}(m:Yh g s w)(h:Jv g w g' w'):Yh g' s w':={
 obj b o ho:=(m.obj b o ho).mono (h.ext m.fresh) (h.old b (m.obj b o ho).lt) (h.prot b (m.obj b o ho).lt)
 kept b o ho:=by rw[h.kept];exact m.kept b o ho
 fresh b hb:=⟨h.fresh b hb,by rw[h.kept];exact(m.fresh b (Nat.le_trans h.size hb)).2⟩
 tabs n cs hc:=(m.tabs n cs hc).mono (h.ext m.fresh) }
theorem Zs.grow{g g':G}{w w':World}{ρ:Env}{L:Loc}{s:St}(m:Zs g ν w tmps ρ L s)(h:Jv g w g' w'):
  Zs g' ν w' tmps ρ L s:={
 st:=m.st.grow h
 loc l cs hl:=(m.loc l cs hl).mono (h.ext m.st.fresh) (h.old _ (m.loc l cs hl).lt) (h.prot _ (m.loc l cs hl).lt)
 locKept l cs hl:=by rw[h.kept];exact m.locKept l cs hl
 locSt:=m.locSt
 inj:=m.inj
 env t e he:=(m.env t e he).mono (h.ext m.st.fresh) }
end Go.DL
namespace Go.DL
open Go
variable [Zqj]
variable {kp:Option (List Nat)}{L:Loc}{ρ:Env}{s:St}{w:World}{ds:List D}{dst:Option Nat}{tmps:Array Value}{g:G}{ν:Nat→Nat}{side:Prop}{row:Nat→List D}
inductive Opd where
 |tmp (t:Nat)
 |cst (d:D)
def Zmc:Value→Option D
 |.int k n=>if k.min≤n∧n≤k.max then sO (.int k n) else nO
 |.bool b=>sO (.bool b)
 |.string s=>if s.data.toList.length≤big then sO (.str s.data.toList) else nO
 |.pointer nO=>sO .nilptr
 |.slice nO 0 0=>sO .nilsl
 |.map nO=>sO .nilmap
 |.nilFunc=>sO .nilfn
 |.nilIface=>sO .niliface
 |_=>nO
def Za2:List Value→Option (List D)
 | []=>sO []
 |v::vs=>match Zmc v,Za2 vs with
  |some d,sO ds=>sO (d::ds)
  |_,_=>nO
def Zmd:Value→Option D
 |.agg cs=>(Za2 cs.toList).map .agg
 |v=>Zmc v
def ZZ:Operand→Option Opd
 |.tmp t=>sO (.tmp t)
 |.const v=>(Zmd v).map .cst
 |.func f=>sO (.cst (.fn (.func f) [] []))
 |.global n=>sO (.cst (match Zqj.tab n with
  |some cs=>.ep cs 0
  |none=>.any))
def ZbT:List Operand→Option (List Opd)
 | []=>sO []
 |x::xs=>match ZZ x,ZbT xs with
  |some y,sO ys=>sO (y::ys)
  |_,_=>nO
inductive J0 where
 |bool|sl|map|fn|ifc|ptr
 |cells (l:List (Nat×SK))
inductive Cv where
 |int (k:IntKind)|str|i2s|b2s
inductive Q where
 |mv|nilck|load1|loadN (n:Nat)
 |bin (op:BinOp) (p:Option J0)
 |not|neg|xorm
 |conv (c:Cv)
 |faddr (off:Nat)
 |fld1 (off:Nat)|fldN (off n:Nat)
 |iaddr (s:Nat)|iaddrA (m s:Nat)
 |idxA (m s:Nat) (one:Bool)
 |sliceA (m s:Nat) (lo hi mx:Bool)
 |idxS
 |lenS|lenL|lenA (n:Nat)
 |ext (k:Nat)
 |build (zero:List D) (parts:List (Nat×Nat))
 |mkfn (f:Fn) (first:Nat)
 |mkif (t:TypeId)
 |sliceS (lo hi:Bool)
 |slice (s:Nat) (lo hi mx:Bool)
 |min|max
 |tassert (t:TypeId) (ok:Bool) (zero:D)
 |lookup (kp:KP) (zero:D) (ok:Bool)
 |lenM
def cellsOf:D→List D
 |.agg cs=>cs
 |d=>[d]
def WS:D→Bool
 |.tup _|.undef|.any=>false
 |_=>true
def Qn:D→Bool
 |.tup _|.undef|.agg _|.any=>false
 |_=>true
def K9(kp:KP)(k:D):Bool:=(W6 kp k k).isSome
def Zbf(kp:KP)(k:D):List (D×D)→Option (Option D)
 | []=>sO nO
 |e::r=>match W6 kp k e.1 with
  |some true=>sO (sO e.2)
  |some false=>Zbf kp k r
  |none=>nO
def JO(kp:KP)(k v:D):List (D×D)→Option (List (D×D))
 | []=>sO [(k,v)]
 |e::r=>match W6 kp k e.1 with
  |some true=>sO ((k,v)::r)
  |some false=>(JO kp k v r).map (e::·)
  |none=>nO
def ZfJ(kp:KP)(k:D):List (D×D)→Option (List (D×D))
 | []=>sO []
 |e::r=>match W6 kp k e.1 with
  |some true=>sO r
  |some false=>(ZfJ kp k r).map (e::·)
  |none=>nO
def Y7(z:D)(ok:Bool):Option D→D
 |some v=>if ok then .tup [v,.bool true] else v
 |none=>if ok then .tup [z,.bool false] else z
def YH:J0→D→D→Option (Prop×Bool)
 |.bool,.bool a,.bool b=>sO (True,dC (a=b))
 |.sl,.nilsl,.nilsl=>sO (True,true)
 |.sl,.sl _ n _ _,.nilsl=>sO (0<n,false)
 |.map,.nilmap,.nilmap=>sO (True,true)
 |.map,.map _,.nilmap=>sO (True,false)
 |.sl,.msl _ _ _ _ _,.nilsl=>sO (True,false)
 |.fn,.nilfn,.nilfn=>sO (True,true)
 |.fn,.fn _ _ _,.nilfn=>sO (True,false)
 |.ifc,.niliface,.niliface=>sO (True,true)
 |.ifc,.iface _ _,.niliface=>sO (True,false)
 |.ptr,.nilptr,.nilptr=>sO (True,true)
 |.ptr,.ptr _ _,.nilptr=>sO (True,false)
 |.ptr,.ep _ _,.nilptr=>sO (True,false)
 |.cells l,.agg xs,.agg ys=>(Wg xs ys l).map (True,·)
 |_,_,_=>nO
def Zlg(op:BinOp)(k:IntKind)(x y:Int):Int :=
 let a:=BitVec.ofInt k.bits x;let b:=BitVec.ofInt k.bits y;let r:BitVec k.bits:=match op with
  |.and=>a &&& b
  |.or=>a |||b
  |.xor=>a ^^^ b
  |_=>a &&& ~~~b
 k.wrap r.toNat
def ZlI(k:IntKind)(x y:Int):Int:=x*2 ^ (Nat.min y.toNat k.bits)
def Zoi(k:IntKind)(x y:Int):Int:=x.fdiv (2 ^ (Nat.min y.toNat k.bits))
def Qz(op:BinOp)(k:IntKind)(a b:Int):Option (Prop×D) :=
 match op with
 |.add=>sO (inR k (a+b),.int k (a+b))
 |.sub=>sO (inR k (a-b),.int k (a-b))
 |.mul=>sO (inR k (a*b),.int k (a*b))
 |.quo=>sO (b≠0∧inR k (a.tdiv b),.int k (a.tdiv b))
 |.rem=>sO (b≠0∧inR k (a.tmod b),.int k (a.tmod b))
 |.and|.or|.xor|.andNot=>sO (True,.int k (Zlg op k a b))
 |.eql=>sO (True,.bool (dC (a=b)))
 |.neq=>sO (True,.bool (!dC (a=b)))
 |.lss=>sO (True,.bool (dC (a<b)))
 |.leq=>sO (True,.bool (dC (a≤b)))
 |.gtr=>sO (True,.bool (dC (b<a)))
 |.geq=>sO (True,.bool (dC (b≤a)))
 |.shl|.shr=>nO
def Zdv(op:BinOp)(a b:List UInt8):Option (Prop×D) :=
 match op with
 |.add=>sO (a.length+b.length≤big,.str (a++b))
 |.eql=>sO (True,.bool (dC (a=b)))
 |.neq=>sO (True,.bool (!dC (a=b)))
 |.lss=>sO (True,.bool (Op.bytesLess a b))
 |.leq=>sO (True,.bool (Op.bytesLess a b ||decide (a=b)))
 |.gtr=>sO (True,.bool !(Op.bytesLess a b ||decide (a=b)))
 |.geq=>sO (True,.bool (!Op.bytesLess a b))
 |_=>nO
def eqO(op:BinOp)(p:Option J0)(x y:D):Option (Prop×D) :=
 match op,p with
 |.eql,sO p=>(YH p x y).map fun r=>(r.1,.bool r.2)
 |.neq,sO p=>(YH p x y).map fun r=>(r.1,.bool (!r.2))
 |_,_=>nO
def J2(op:BinOp)(p:Option J0):D→D→Option (Prop×D)
 |.int k a,.int k' b =>
  match op with
  |.shl=>sO (0≤b∧inR k (ZlI k a b),.int k (ZlI k a b))
  |.shr=>sO (0≤b∧inR k (Zoi k a b),.int k (Zoi k a b))
  |_=>if k=k' then Qz op k a b else nO
 |.str a,.str b=>Zdv op a b
 |x,y=>eqO op p x y
def part(cs:List D)(o n:Nat):List D:=(cs.drop o).take n
def Yc(s:St)(b:Nat):Option (List D) :=
 match s b with
 |some (.cells cs)=>sO cs
 |_=>nO
def Kw(s:St)(b:Nat):Option (List (D×D)) :=
 match s b with
 |some (.map es)=>sO es
 |_=>nO
def Y6(L:Loc)(s:St):E→Option D
 |.d (.ep cs o)=>cs[o]?
 |.d (.ptr b o)=>match Yc s b with
  |some cs=>cs[o]?
  |none=>nO
 |.loc l o=>match Ze L l with
  |some cs=>cs[o]?
  |none=>nO
 |_=>nO
def W2(L:Loc)(s:St)(n:Nat):E→Option (Prop×List D)
 |.d (.ep cs o)=>sO (o+n≤cs.length,part cs o n)
 |.d (.ptr b o)=>match Yc s b with
  |some cs=>sO (o+n≤cs.length,part cs o n)
  |none=>nO
 |.loc l o=>match Ze L l with
  |some cs=>sO (o+n≤cs.length,part cs o n)
  |none=>nO
 |_=>nO
def Zt(cs:List D)(o:Nat)(vs:List D):List D:=cs.take o++vs++cs.drop (o+vs.length)
def Zbe(cells:List D):List (Nat×Nat)→List D→Option (List D)
 | [],[]=>sO cells
 | (o,n)::ps,d::ds=>if WS d=true∧(cellsOf d).length=n∧o+n≤cells.length then Zbe (Zt cells o (cellsOf d)) ps ds else nO
 |_,_=>nO
def ZaE:List D→UInt8
 | [.int _ n]=>UInt8.ofNat n.toNat
 |_=>0
def Zhc(r:List D):Prop:=∃n:Int,r=[.int .u8 n]
def WX:List E→Option (List D)
 | []=>sO []
 |.d x::r=>(WX r).map (x::·)
 |_::_=>nO
def Zbj(t:Tok)(n:Nat)(l h:Int):Option Int→Tok
 |some m=>if m=h then .full else .none
 |none=>if h=n then (match t with
  |.full=>.full
  |.tip b=>if l=0 then .tip b else .none
  |.none=>.none) else .none
def ZaC(s:Nat)(lo hi mx:Option Int):D→Option (Prop×D)
 |.sl t n s' row =>
  if s'=s then
   let h:=hi.getD n;let l:=lo.getD 0
   sO (0≤l∧l≤h∧h≤n∧(∀m∈mx,h≤m∧m≤n),
    .sl (Zbj t n l h mx)
     (h-l).toNat s (fun i=>row (l.toNat+i)))
  else nO
 |.nilsl=>sO (lo.getD 0=0∧hi.getD 0=0∧mx.getD 0=0,.nilsl)
 |.msl b o n cap s' =>
  if s'=s then
   let h:=hi.getD n;let l:=lo.getD 0;let m:=mx.getD cap
   sO (0≤l∧l≤h∧h≤m∧m≤cap,.msl b (if m=l then o else o+l.toNat*s) (h-l).toNat (m-l).toNat s)
  else nO
 |_=>nO
def Wq:List Bool→List E→Option (List (Option Int))
 | [],[]=>sO []
 |true::bs,.d (.int _ n)::r=>(Wq bs r).map (sO n::·)
 |false::bs,r=>(Wq bs r).map (nO::·)
 |_,_=>nO
def qv(L:Loc)(s:St):Q→List E→Option (Prop×E)
 |.mv,[e]=>sO (True,e)
 |.nilck,[.loc l o]=>sO (True,.loc l o)
 |.nilck,[.d (.ep cs o)]=>sO (True,.d (.ep cs o))
 |.nilck,[.d (.ptr b o)]=>sO (True,.d (.ptr b o))
 |.nilck,[.d (.fn f x y)]=>match f with
  |.func g=>sO (True,.d (.fn (.func g) x y))
  |.yield l=>sO (True,.d (.fn (.yield l) x y))
  |_=>nO
 |.load1,[a]=>(Y6 L s a).map fun d=>(True,.d d)
 |.loadN n,[a]=>(W2 L s n a).map fun r=>(r.1,.d (.agg r.2))
 |.bin op p,[.d x,.d y]=>(J2 op p x y).map fun r=>(r.1,.d r.2)
 |.not,[.d (.bool b)]=>sO (True,.d (.bool !b))
 |.neg,[.d (.int k n)]=>sO (inR k (-n),.d (.int k (-n)))
 |.xorm,[.d (.int k n)]=>sO (True,.d (.int k (Zlg .xor k (if k.signed then -1 else k.max) n)))
 |.conv (.int k),[.d (.int k' n)]=>if k=k' then sO (True,.d (.int k n)) else sO (True,.d (.int k (k.wrap n)))
 |.conv .str,[.d (.str s)]=>sO (True,.d (.str s))
 |.conv .i2s,[.d (.int _ n)]=>sO ((Utf8.encode n).data.toList.length≤big,.d (.str (Utf8.encode n).data.toList))
 |.conv .b2s,[.d .nilsl]=>sO (True,.d (.str []))
 |.conv .b2s,[.d (.sl _ n s row)]=>if s=1 then sO (∀i,i<n→Zhc (row i),.d (.str ((ZEa n).map fun i=>ZaE (row i)))) else nO
 |.conv .b2s,[.d (.msl b o n _ z)]=>match Yc s b with
  |some cs=>if z=1 then sO (o+n≤cs.length∧∀i,i<n→Zhc (part cs (o+i) 1),.d (.str ((ZEa n).map fun i=>ZaE (part cs (o+i) 1)))) else nO
  |none=>nO
 |.faddr off,[.d (.ep cs o)]=>sO (True,.d (.ep cs (o+off)))
 |.faddr off,[.d (.ptr b o)]=>sO (True,.d (.ptr b (o+off)))
 |.faddr off,[.loc l o]=>sO (True,.loc l (o+off))
 |.fld1 off,[.d (.agg cs)]=>(cs[off]?).map fun d=>(True,.d d)
 |.fldN off n,[.d (.agg cs)]=>sO (off+n≤cs.length,.d (.agg (part cs off n)))
 |.iaddr z,[.d (.sl _ n z' row),.d (.int _ i)]=>if z'=z then sO (0≤i∧i<n,.d (.ep (row i.toNat) 0)) else nO
 |.iaddr z,[.d (.msl b o n _ z'),.d (.int _ i)]=>if z'=z then sO (0≤i∧i<n,.d (.ptr b (o+i.toNat*z))) else nO
 |.iaddrA m z,[.d (.ptr b o),.d (.int _ i)]=>sO (0≤i∧i<m,.d (.ptr b (o+i.toNat*z)))
 |.iaddrA m s,[.loc l o,.d (.int _ i)]=>sO (0≤i∧i<m,.loc l (o+i.toNat*s))
 |.iaddrA m s,[.d (.ep cs o),.d (.int _ i)]=>sO (0≤i∧i<m,.d (.ep cs (o+i.toNat*s)))
 |.idxA m z true,[.d (.agg cs),.d (.int _ i)]=>(cs[i.toNat*z]?).map fun d=>(0≤i∧i<m,.d d)
 |.idxA m z false,[.d (.agg cs),.d (.int _ i)]=>sO (0≤i∧i<m∧i.toNat*z+z≤cs.length,.d (.agg (part cs (i.toNat*z) z)))
 |.sliceA m z lo hi mx,.d (.ptr b o)::r=>match Wq [lo,hi,mx] r with
  |some [l,h,x]=>sO (0≤l.getD 0∧l.getD 0≤h.getD m∧h.getD m≤x.getD m∧x.getD m≤m∧m≤big,
    .d (.msl b (if x.getD m=l.getD 0 then o else o+(l.getD 0).toNat*z) (h.getD m-l.getD 0).toNat (x.getD m-l.getD 0).toNat z))
  |_=>nO
 |.idxS,[.d (.str s),.d (.int _ i)]=>sO (0≤i∧i<s.length,.d (.int .u8 ((s.getD i.toNat 0).toNat:Int)))
 |.lenS,[.d (.str s)]=>sO (True,.d (.int .i64 s.length))
 |.lenL,[.d (.sl _ n _ _)]=>sO (True,.d (.int .i64 n))
 |.lenL,[.d (.msl _ _ n _ _)]=>sO (True,.d (.int .i64 n))
 |.lenL,[.d .nilsl]=>sO (True,.d (.int .i64 0))
 |.lenA n,[_]=>sO (inR .i64 n,.d (.int .i64 n))
 |.ext k,[.d (.tup vs)]=>(vs[k]?).map fun d=>(True,.d d)
 |.build zero parts,es=>match WX es with
  |some ds=>(Zbe zero parts ds).map fun cs=>(True,.d (.agg cs))
  |none=>nO
 |.mkfn f k,es=>(WX es).map fun ds=>(True,.d (.fn f (ds.take k) (ds.drop k)))
 |.mkif t,[.d x]=>sO (True,.d (.iface t x))
 |.sliceS lo hi,.d (.str s)::r=>match Wq [lo,hi,false] r with
  |some [l,h,_]=>sO (0≤l.getD 0∧l.getD 0≤h.getD s.length∧h.getD s.length≤s.length,
    .d (.str ((s.drop (l.getD 0).toNat).take ((h.getD s.length).toNat-(l.getD 0).toNat))))
  |_=>nO
 |.slice s lo hi mx,.d x::r=>match Wq [lo,hi,mx] r with
  |some [l,h,m]=>(ZaC s l h m x).map fun r=>(r.1,.d r.2)
  |_=>nO
 |.min,[.d (.int k a),.d (.int k' b)]=>if k=k' then sO (True,.d (.int k (Min.min a b))) else nO
 |.max,[.d (.int k a),.d (.int k' b)]=>if k=k' then sO (True,.d (.int k (Max.max a b))) else nO
 |.tassert t true _,[.d (.iface t' v)]=>if t'=t then sO (True,.d (.tup [v,.bool true])) else nO
 |.lookup kp z ok,[.d (.map b),.d k]=>match Kw s b with
  |some es=>(Zbf kp k es).map fun r=>(K9 kp k=true,.d (Y7 z ok r))
  |none=>nO
 |.lookup kp z ok,[.d .nilmap,.d k]=>sO (K9 kp k=true,.d (Y7 z ok nO))
 |.lenM,[.d (.map b)]=>match Kw s b with
  |some es=>sO (es.length≤big,.d (.int .i64 es.length))
  |none=>nO
 |.lenM,[.d .nilmap]=>sO (True,.d (.int .i64 0))
 |.tassert _ true zero,[.d .niliface]=>sO (True,.d (.tup [zero,.bool false]))
 |.tassert t false _,[.d (.iface t' v)]=>if t'=t then sO (True,.d v) else nO
 |_,_=>nO
inductive K where
 |q (q:Q) (args:List Opd)
 |pick (c a b:Opd)
 |alloc (zero:List D)
 |box (x:Opd)
 |bsl (len s:Nat) (zero:List D) (idx:List Nat) (parts:List Opd)
 |s2b (x:Opd)
 |store1 (a v:Opd)
 |storeN (n:Nat) (a v:Opd)
 |call (f:Opd) (args:List Opd)
 |append (elem:TypeId) (s bytes:Nat) (zero:List D) (x y:Opd)
 |mkmap
 |mapupd (kp:KP) (m k v:Opd)
 |mapent (kp:KP) (zero:D) (m k:Opd)
 |entst (m st v:Opd)
 |mkslice (elem:TypeId) (s bytes:Nat) (zero:List D) (l c:Opd)
 |panic (x:Opd)
 |delete (kp:KP) (m k:Opd)
 |clear (s:Nat) (zero:List D) (x:Opd)
 |copy (s:Nat) (x y:Opd)
 |fork (k:K)
 |defer (f:Opd) (args:List Opd)
 |recover
def K.isDefer:K→Bool
 |.defer _ _=>true
 |_=>false
structure DOp where
 dst:Option Nat
 guard:Option (Nat×Bool)
 k:K
inductive DC where
 |skip
 |reg (ops:List DOp) (keep:Option (List Nat))
 |regD (order:List Nat) (ops:List (DOp×List Nat)) (keep:Option (List Nat))
 |seq (a b:DC)
 |cond (c:Opd) (a b:DC)
 |block (id:Nat) (a:DC)
 |loop (a:DC)
 |rangeF (f:Opd) (params:List Nat) (assign body:DC)
 |exit (id:Nat)
 |ret
 |scope (a:DC)
 |label (id:Nat)
 |goto (id:Nat)
def KR(P:Program)(t:TypeId):Option SK :=
 match P.underlying t with
 |some .bool=>sO .bool
 |some (.int _)=>sO .int
 |some .string=>sO .str
 |_=>nO
def Kd(P:Program):List Field→Option (List (Nat×SK))
 | []=>sO []
 |f::r=>if f.name = "_" then Kd P r else
  match KR P f.type,Kd P r with
  |some k,sO l=>sO ((f.offset,k)::l)
  |_,_=>nO
def Jw(P:Program)(t:TypeId):Option Bool :=
 match P.underlying t with
 |some (.struct _)|some (.array _ _)=>sO true
 |some _=>sO false
 |none=>nO
def ZY(P:Program)(t:TypeId):Option Nat:=(P.info? t).map (·.size)
def Zd7:Operand→Bool
 |.const _=>true
 |_=>false
def Zdf(P:Program)(t:TypeId)(x y:Operand):Option J0 :=
 match P.underlying t with
 |some .bool=>sO .bool
 |some (.slice _)=>sO .sl
 |some (.map _ _)=>sO .map
 |some (.func _ _ _)=>sO .fn
 |some (.interface _)=>if Zd7 x ||Zd7 y then sO .ifc else nO
 |some (.pointer _)=>sO .ptr
 |some (.struct fs)=>if P.eqGuardType P.depth t ||P.stoodInHeld t then nO else (Kd P fs.toList).map .cells
 |some (.array n e) =>
  if P.eqGuardType P.depth t then nO
  else match KR P e,ZY P e with
   |some k,sO 1=>sO (.cells ((ZEa n).map (·,k)))
   |_,_=>nO
 |_=>nO
def Zgl(P:Program)(s:TypeId)(k:Nat):Option Field :=
 match P.underlying s with
 |some (.struct fs)=>fs[k]?
 |_=>nO
def Zai(P:Program)(t:TypeId):Option (List D) :=
 match P.info? t with
 |some i=>match i.zero with
  |some z=>Za2 z.cells.toList
  |none=>nO
 |none=>nO
def Zc3(P:Program)(t:TypeId):Option D :=
 match P.info? t with
 |some i=>match i.zero with
  |some z=>Zmd z
  |none=>nO
 |none=>nO
def KO(P:Program)(t:TypeId):List Nat→Option (List (Nat×Nat))
 | []=>sO []
 |k::r =>
  match P.underlying t,KO P t r with
  |some (.struct fs),sO l=>match fs[k]? with
   |some f=>(ZY P f.type).map fun n=>(f.offset,n)::l
   |none=>nO
  |some (.array _ e),sO l=>(ZY P e).map fun n=>(k*n,n)::l
  |_,_=>nO
def Zjo(P:Program)(t:TypeId):Bool :=
 match P.underlying t with
 |some (.struct fs)=>fs.toList.all fun f=>(ZY P f.type).isSome
 |some (.array _ e)=>(ZY P e).isSome
 |_=>false
def ZtJ(P:Program)(s d:TypeId):Option Cv :=
 match P.underlying s,P.underlying d with
 |some (.int _),sO (.int k)=>sO (.int k)
 |some (.int _),sO .string=>sO .i2s
 |some .string,sO .string=>sO .str
 |some (.slice e),sO .string=>match P.underlying e with
  |some (.int .u8)=>sO .b2s
  |_=>nO
 |_,_=>nO
def JE(P:Program)(t:TypeId):Option KP :=
 match KR P t with
 |some k=>sO (.sc k)
 |none=>match P.underlying t,ZY P t with
  |some (.struct fs),sO n=>match Kd P fs.toList with
   |some l=>if l.map (·.1)=ZEa n∧P.stoodInHeld t=false then sO (.st l) else nO
   |none=>nO
  |_,_=>nO
def Qo(x:Option Operand):List Operand:=x.toList
def cq(P:Program):Op→Option (Q×List Operand)
 |.move x|.assign x=>sO (.mv,[x])
 |.load t a=>match Jw P t,ZY P t with
  |some true,sO n=>sO (.loadN n,[a])
  |some false,sO _=>sO (.load1,[a])
  |_,_=>nO
 |.nilCheck x=>sO (.nilck,[x])
 |.binOp op t x y _=>sO (.bin op (Zdf P t x y),[x,y])
 |.unOp .not _ x=>sO (.not,[x])
 |.unOp .neg _ x=>sO (.neg,[x])
 |.unOp .xor _ x=>sO (.xorm,[x])
 |.convert s d x=>(ZtJ P s d).map fun c=>(.conv c,[x])
 |.fieldAddr s x k=>match Zgl P s k with
  |some f=>match ZY P f.type with
   |some n=>if n=0 then nO else sO (.faddr f.offset,[x])
   |none=>nO
  |none=>nO
 |.field s x k=>match Zgl P s k with
  |some f=>match Jw P f.type,ZY P f.type with
   |some true,sO n=>sO (.fldN f.offset n,[x])
   |some false,sO _=>sO (.fld1 f.offset,[x])
   |_,_=>nO
  |none=>nO
 |.indexAddr t x i=>match P.underlying t with
  |some (.slice e)=>(ZY P e).map fun n=>(.iaddr n,[x,i])
  |some (.array m e)=>(ZY P e).map fun n=>(.iaddrA m n,[x,i])
  |_=>nO
 |.index t x i=>match P.underlying t with
  |some .string=>sO (.idxS,[x,i])
  |some (.array m e)=>match Jw P e,ZY P e with
   |some b,sO n=>sO (.idxA m n !b,[x,i])
   |_,_=>nO
  |_=>nO
 |.extract x k=>sO (.ext k,[x])
 |.build t parts=>match (P.info? t).bind (·.zero),KO P t (parts.toList.map (·.1)) with
  |some z,sO l=>if Zjo P t then (Za2 z.cells.toList).map fun zs=>(.build zs l,parts.toList.map (·.2)) else nO
  |_,_=>nO
 |.makeFunc f first caps=>sO (.mkfn f first.size,first.toList++caps.toList)
 |.makeInterface t x=>match P.underlying t with
  |some (.interface _)=>nO
  |some _=>sO (.mkif t,[x])
  |none=>nO
 |.slice t x lo hi mx=>match P.underlying t with
  |some .string=>if mx.isSome then nO else sO (.sliceS lo.isSome hi.isSome,x::(Qo lo++Qo hi))
  |some (.slice e)=>if mx.isSome&&!hi.isSome then nO else (ZY P e).map fun n=>(.slice n lo.isSome hi.isSome mx.isSome,x::(Qo lo++Qo hi++Qo mx))
  |some (.array m e)=>if mx.isSome&&!hi.isSome then nO else (ZY P e).map fun n=>(.sliceA m n lo.isSome hi.isSome mx.isSome,x::(Qo lo++Qo hi++Qo mx))
  |_=>nO
 |.typeAssert x _ t ok=>match P.underlying t with
  |some (.interface _)=>nO
  |some _=>(Zc3 P t).map fun z=>(.tassert t ok z,[x])
  |none=>nO
 |.lookup t m k ok=>match P.underlying t with
  |some (.map kt e)=>match JE P kt,Zc3 P e with
   |some kp,sO z=>sO (.lookup kp z ok,[m,k])
   |_,_=>nO
  |_=>nO
 |.call c=>match c.callee with
  |.builtin .len=>match c.argTypes[0]?.bind P.underlying with
   |some .string=>if c.args.size=1 then sO (.lenS,c.args.toList) else nO
   |some (.slice _)=>if c.args.size=1 then sO (.lenL,c.args.toList) else nO
   |some (.array n _)=>if c.args.size=1 then sO (.lenA n,c.args.toList) else nO
   |some (.map _ _)=>if c.args.size=1 then sO (.lenM,c.args.toList) else nO
   |_=>nO
  |.builtin .min=>if c.args.size=2 then sO (.min,c.args.toList) else nO
  |.builtin .max=>if c.args.size=2 then sO (.max,c.args.toList) else nO
  |_=>nO
 |_=>nO
inductive ZJ{α β:Type}(R:α→β→Prop):List α→List β→Prop where
 |nil:ZJ R [] []
 |cons {a b as9 bs} (h:R a b) (t:ZJ R as9 bs):ZJ R (a::as9) (b::bs)
theorem Zkc(k:IntKind)(n:Int):inR k (k.wrap n):=by
 unfold inR IntKind.wrap IntKind.min IntKind.max;cases k<;>simp[IntKind.signed,IntKind.bits]<;>(try split)<;>omega
theorem ZaV(k:IntKind)(n:Int)(h:inR k n):k.wrap n=n:=by
 unfold inR IntKind.min IntKind.max at h;unfold IntKind.wrap;cases k<;>simp[IntKind.signed,IntKind.bits]at h⊢<;>(try split)<;>omega
theorem WW(b o n:Nat):(⟨b,o,nO⟩:Addr).add n=⟨b,o+n,nO⟩:=by grind [Addr.add]
theorem Ze6{P:Program}{t:TypeId}(h:Jw P t=sO true)(w:World):(isAgg t).run P w=.ok true w:=by
 unfold Jw at h;unfold isAgg;split at h<;>simp_all[run_underlying]
theorem ZdL{P:Program}{t:TypeId}(h:Jw P t=sO false)(w:World):(isAgg t).run P w=.ok false w:=by
 unfold Jw at h;unfold isAgg;split at h;simp at h;simp at h;rename_i d h1 h2 hd;simp only[Sem.run_bind,run_underlying hd,Result.andThen_ok];simp_all;simp at h
theorem YI{P:Program}{t:TypeId}{n:Nat}(h:ZY P t=sO n)(w:World):(sizeOf t).run P w=.ok n w:=by
 unfold ZY at h;cases hi:P.info? t with
 |none=>simp[hi]at h
 |some i =>simp_all[hi,sizeOf,typeInfo]
theorem QJ(hS:Yh g s w){b:Nat}{cs:List D}(h:Yc s b=sO cs):YQ g w b cs:=by
 unfold Yc at h;split at h<;>simp at h;rename_i c hc;subst h;exact hS.obj b _ hc
theorem Zl7(hL:∀l cs,Ze L l=sO cs→YQ g w (ν l) cs)(hS:Yh g s w){v:Value}{e:E}{d:D}(h:ZK g ν w L v e)(hc:Y6 L s e=sO d):∃b o x,v=.pointer (sO ⟨b,o,nO⟩)∧w.cell? ⟨b,o,nO⟩=sO x∧Rep g w x d∧x.one1=true:=by
 cases e with
 |d v' =>
  cases v'<;>simp only[Y6]at hc<;>try(simp at hc;done)
  ·rename_i cs o;cases h with
   |ep b o0 _ _ f h1 h2 h3 one =>have j:o<cs.length:=(List.getElem?_eq_some_iff.1 hc).1;exact⟨b,o0+o,f o,rfl,h1 o j,h3 o d hc,one o j⟩
  rename_i b o;split at hc<;>(try(simp at hc;done));rename_i cs i;obtain⟨_,vs,T,h1,h2,h4,h5⟩:=QJ hS i;cases h;have j:o<cs.length:=(List.getElem?_eq_some_iff.1 hc).1;have hv:vs[o]?=sO (vs[o]'(by omega)):=Array.getElem?_eq_getElem (by omega);refine⟨b,o,vs[o]'(by omega),rfl,?_,h4 o _ d hv hc,h5 _ (Array.getElem_mem _)⟩;simp[World.cell?,h1,hv]
 |loc l o =>obtain⟨⟨cs,i⟩,rfl⟩:=h;simp only[Y6,i]at hc;obtain⟨_,vs,T,h1,h2,h4,h5⟩:=hL l cs i;have j:o<cs.length:=(List.getElem?_eq_some_iff.1 hc).1;have hv:vs[o]?=sO (vs[o]'(by omega)):=Array.getElem?_eq_getElem (by omega);refine⟨ν l,o,vs[o]'(by omega),rfl,?_,h4 o _ d hv hc,h5 _ (Array.getElem_mem _)⟩;simp[World.cell?,h1,hv]
 |when c e=>simp[Y6]at hc
theorem Zez{P:Program}{b o n:Nat}{cs:List D}(h:YQ g w b cs)(hs:o+n≤cs.length):
  ∃vs:List Value,(loadCells ⟨b,o,nO⟩ n).run P w=.ok vs.toArray w∧Rep g w (.agg vs.toArray) (.agg (part cs o n)):=by
 obtain⟨_,vs,T,h1,h2,h4,h5⟩:=h;refine⟨(vs.toList.drop o).take n,?_,?_⟩;have:=run_loadCells (P:=P) (w:=w) ⟨b,o,nO⟩ n (fun i=>vs.getD (o+i) undef) (fun j hj=>by
  rw[WW];simp[World.cell?,h1];have u:o+j<vs.size:=by omega
  simp[u])
 rw[this];congr 1;apply Array.ext_getElem?;intro i;simp[List.getElem?_toArray,ZEC,Array.getElem?_toList];by_cases t:i<n;have:o+i<vs.size:=by omega
 simp[t,this];simp[t];refine .agg _ _ (by simp[part];omega) (fun i v d hv hd=>?_) (fun v hv=>?_);have hi:i<n:=by rcases Nat.lt_or_ge i n with h|h;exact h;grind
 simp[hi,part]at hv hd;exact h4 _ _ _ hv hd;exact h5 v (by
  have:=List.mem_of_mem_drop (List.mem_of_mem_take hv);exact Array.mem_toList_iff.1 this)
theorem ZmN{P:Program}(hL:∀l cs,Ze L l=sO cs→YQ g w (ν l) cs)(hS:Yh g s w){v:Value}{e:E}{n:Nat}(h:ZK g ν w L v e)(hc:W2 L s n e=sO (side,ds))(hs:side):
  ∃a,v=.pointer (sO a)∧∃vs:List Value,(loadCells a n).run P w=.ok vs.toArray w∧Rep g w (.agg vs.toArray) (.agg ds):=by
 cases e with
 |d v' =>
  cases v'<;>simp only[W2]at hc<;>try(grind;done)
  ·rename_i cs o;cases hc;cases h with
   |ep b o0 _ _ f h1 h2 h3 one =>
    refine⟨_,rfl,(ZEa n).map (fun i=>f (o+i)),?_,?_⟩;have:=run_loadCells (P:=P) (w:=w) ⟨b,o0+o,nO⟩ n (fun i=>f (o+i)) (fun j hj=>by
     rw[WW,Nat.add_assoc];exact h1 _ (by omega))
    rw[this];refine .agg _ _ (by simp[part];omega) (fun i v d hv hd=>?_) (fun v hv=>?_);simp at hv;have hi:i<n:=by rcases Nat.lt_or_ge i n with h|h;exact h;simp_all
    simp[List.getElem?_range hi]at hv;subst hv;refine h3 _ _ ?_;simpa[part,ZEC,hi]using hd;simp at hv;obtain⟨i,hi,rfl⟩:=hv;exact one _ (by omega)
  rename_i b o;split at hc<;>(try(grind;done));rename_i cs t;cases hc;cases h;obtain⟨vs,h1,h2⟩:=Zez (P:=P) (QJ hS t) hs;exact⟨_,rfl,vs,h1,h2⟩
 |loc l o =>obtain⟨⟨cs,t⟩,rfl⟩:=h;simp only[W2,t]at hc;obtain⟨rfl,rfl⟩:=hc;obtain⟨vs,h1,h2⟩:=Zez (P:=P) (hL l cs t) hs;exact⟨_,rfl,vs,h1,h2⟩
 |when c e=>cases hc
theorem Kv{n:Nat}(h:n≤big):inR .i64 (n:Int):=by
 unfold big at h;unfold inR IntKind.min IntKind.max;simp[IntKind.signed,IntKind.bits];omega
theorem Zq9(b:UInt8):inR .u8 (b.toNat:Int):=by
 unfold inR IntKind.min IntKind.max;simp[IntKind.signed,IntKind.bits];have:=b.toNat_lt;omega
theorem Zya{P:Program}{op:BinOp}{k:IntKind}{a b:Int}{d:D}(hq:Qz op k a b=sO (side,d))(hs:side):
  ∃v,(match op with
   |.add|.sub|.mul=>Op.intArith op k a b
   |.quo|.rem=>Op.intDiv op k a b
   |.and|.or|.xor|.andNot=>Op.intBits op k a b
   |_=>Op.intCmp op a b).run P w=.ok v w∧Rep g w v d:=by
 cases op<;>simp only[Qz,ZDV,ZD7,reduceCtorEq]at hq;all_goals obtain⟨rfl,rfl⟩:=hq
 case add=>exact⟨_,by simp only[Op.intArith,Sem.run_pure];rfl,by rw[ZaV _ _ hs];exact .int _ _ hs⟩
 case sub=>exact⟨_,by simp only[Op.intArith,Sem.run_pure];rfl,by rw[ZaV _ _ hs];exact .int _ _ hs⟩
 case mul=>exact⟨_,by simp only[Op.intArith,Sem.run_pure];rfl,by rw[ZaV _ _ hs];exact .int _ _ hs⟩
 case quo=>exact⟨_,by simp only[Op.intDiv,hs.1,if_false,Sem.run_pure];rfl,by rw[ZaV _ _ hs.2];exact .int _ _ hs.2⟩
 case rem=>exact⟨_,by simp only[Op.intDiv,hs.1,if_false,Sem.run_pure],.int _ _ hs.2⟩
 case eql=>exact⟨_,by simp only[Op.intCmp,Sem.run_pure];rfl,.bool _⟩
 case neq=>exact⟨_,by simp only[Op.intCmp,Sem.run_pure];rfl,.bool _⟩
 case lss=>exact⟨_,by simp only[Op.intCmp,Sem.run_pure],.bool _⟩
 case leq=>exact⟨_,by simp only[Op.intCmp,Sem.run_pure],.bool _⟩
 case gtr=>exact⟨_,by simp only[Op.intCmp,Sem.run_pure],.bool _⟩
 case geq=>exact⟨_,by simp only[Op.intCmp,Sem.run_pure],.bool _⟩
 all_goals exact⟨_,by simp only[Op.intBits,Sem.run_pure];rfl,.int _ _ (Zkc _ _)⟩
theorem ZcL{s:ByteArray}{l:List UInt8}(h:s.data.toList=l):s.toList=l:=by rw[ByteArray.toList_eq,h]
theorem Zyb{P:Program}{op:BinOp}{s1 s2:ByteArray}{a b:List UInt8}(h1:s1.data.toList=a)(h2:s2.data.toList=b){d:D}(hq:Zdv op a b=sO (side,d))(hs:side):
  ∃v,(Op.stringOp op s1 s2).run P w=.ok v w∧Rep g w v d:=by
 have e1:=ZcL h1;have e2:=ZcL h2;cases op<;>simp only[Zdv,ZDV,ZD7,reduceCtorEq]at hq;all_goals obtain⟨rfl,rfl⟩:=hq
 case add =>
  have j:s1.size=a.length:=by rw[←h1];rfl
  have i:s2.size=b.length:=by rw[←h2];rfl
  refine⟨.string (s1++s2),?_,.str _ _ ?_ (by simpa using hs)⟩;unfold big at hs;simp only[Op.stringOp,j,i,Sem.run_ite];rw[if_neg (by simp[IntKind.max,IntKind.signed,IntKind.bits];omega)];rfl;simp[←h1,←h2]
 all_goals simp only[Op.stringOp,Sem.run_pure,e1,e2]
 all_goals have hb:(a==b)=dC (a=b):=by rw[Bool.eq_iff_iff];simp
 all_goals try simp only[hb]
 all_goals exact⟨_,rfl,.bool _⟩
theorem Zf3{P:Program}{t:TypeId}{sk:SK}(ht:KR P t=sO sk){v1 v2:Value}{x y:D}(h1:Rep g w v1 x)(h2:Rep g w v2 y){b:Bool}(hq:Yi sk x y=sO b)(n:Nat):(Op.equalIn (n+1) t v1 v2).run P w=.ok b w:=by
 unfold KR at ht;cases sk;obtain⟨k0,i⟩:∃k0,P.underlying t=sO (.int k0):=by split at ht<;>simp_all
 cases h1<;>cases h2<;>simp only[Yi,reduceCtorEq]at hq;split at hq;rename_i k a ha k' b' hb' hk;simp only[ZDV]at hq;subst hq;subst hk;rw[run_equalIn_int w n t _ _ _ _ i];rfl;simp at hq;have i:P.underlying t=sO .string:=by split at ht<;>simp_all
 cases h1<;>cases h2<;>simp only[Yi,reduceCtorEq,ZDV]at hq;rename_i s1 l1 e1 _ s2 l2 e2 _;subst hq;rw[run_equalIn_string w n t _ _ i,ZcL e1,ZcL e2]
 congr 1;rw[Bool.eq_iff_iff];simp
 have i:P.underlying t=sO .bool:=by split at ht<;>simp_all
 cases h1<;>cases h2<;>simp only[Yi,reduceCtorEq,ZDV]at hq;subst hq;rw[run_equalIn_bool' w n t _ _ i];rfl
theorem Zba{P:Program}{t:TypeId}{k:SK}(h:KR P t=sO k):Jw P t=sO false:=by
 unfold KR at h;unfold Jw;split at h<;>simp_all
theorem ZcE{P:Program}{t:TypeId}(h:Jw P t=sO false){cs:Array Value}{o:Nat}{v:Value}(hv:cs[o]?=sO v):
  (Go.part t cs o).run P w=.ok v w:=by
 simp[Go.part,ZdL h,hv]
theorem Zbr{vs:List Value}(hn:vs.length=ds.length)(h:∀(i:Nat) (v:Value) (d:D),vs[i]?=sO v→ds[i]?=sO d→Rep g w v d){o:Nat}{d:D}(hd:ds[o]?=sO d):∃v,vs[o]?=sO v∧Rep g w v d:=by
 have hlt:o<ds.length:=(List.getElem?_eq_some_iff.1 hd).1;exact⟨vs[o]'(by omega),ZEr _,h o _ d (ZEr _) hd⟩
theorem ZcS{P:Program}{g:G}{w:World}{v1 v2:List Value}{xs ys:List D}(hn1:v1.length=xs.length)(hn2:v2.length=ys.length)
  (h1:∀(i:Nat) (v:Value) (d:D),v1[i]?=sO v→xs[i]?=sO d→Rep g w v d) (h2:∀(i:Nat) (v:Value) (d:D),v2[i]?=sO v→ys[i]?=sO d→Rep g w v d) (n:Nat) :
  ∀(fs:List Field) (l:List (Nat×SK)) (b:Bool),Kd P fs=sO l→Wg xs ys l=sO b →
   (Op.eqFields (n+1) v1.toArray v2.toArray fs).run P w=.ok b w
 | [],l,b,hl,hb=>by simp only[Kd,ZDV]at hl;subst hl;simp only[Wg,ZDV]at hb;subst hb;simp[Op.eqFields]
 |f::fs,l,b,hl,hb=>by simp only[Kd]at hl;by_cases hf:f.name = "_";simp only[hf,if_true]at hl;have:=ZcS hn1 hn2 h1 h2 n fs l b hl hb;simp only[Op.eqFields,hf,ne_eq,not_true_eq_false,if_false];exact this;simp only[hf,if_false]at hl;split at hl;rename_i k l' hk u;simp only[ZDV]at hl;subst hl;simp only[Wg]at hb;split at hb;rename_i x y hx hy;split at hb;rename_i b1 b2 ab j;simp only[ZDV]at hb;obtain⟨u1,z,r1⟩:=Zbr hn1 h1 hx;obtain⟨u2,t,r2⟩:=Zbr hn2 h2 hy;have ih:=ZcS hn1 hn2 h1 h2 n fs l' b2 u j;have he:=Zf3 (P:=P) hk r1 r2 ab n;simp only[Op.eqFields,ne_eq,hf,not_false_eq_true,if_true,Sem.run_bind];rw[ZcE (Zba hk) (v:=u1) (by simpa using z)];simp only[Result.andThen_ok];rw[ZcE (Zba hk) (v:=u2) (by simpa using t)];simp only[Result.andThen_ok,he];subst hb;cases b1;simp;simpa using ih;simp at hb;simp at hb;simp at hl
theorem Zmh{P:Program}{g:G}{w:World}{v1 v2:List Value}{xs ys:List D}(hn1:v1.length=xs.length)(hn2:v2.length=ys.length)
  (h1:∀(i:Nat) (v:Value) (d:D),v1[i]?=sO v→xs[i]?=sO d→Rep g w v d) (h2:∀(i:Nat) (v:Value) (d:D),v2[i]?=sO v→ys[i]?=sO d→Rep g w v d) (n:Nat)
  {e:TypeId} {k:SK} (hk:KR P e=sO k) :
  ∀(is:List Nat) (b:Bool),Wg xs ys (is.map (·,k))=sO b→(Op.eqItems (n+1) e 1 v1.toArray v2.toArray is).run P w=.ok b w
 | [],b,hb=>by simp only[ZEs,Wg,ZDV]at hb;subst hb;simp[Op.eqItems]
 |i::is,b,hb=>by simp only[ZEc,Wg]at hb;split at hb;rename_i x y hx hy;split at hb;rename_i b1 b2 t u;simp only[ZDV]at hb;obtain⟨u1,z,r1⟩:=Zbr hn1 h1 hx;obtain⟨u2,j,r2⟩:=Zbr hn2 h2 hy;have ih:=Zmh hn1 hn2 h1 h2 n hk is b2 u;have he:=Zf3 (P:=P) hk r1 r2 t n;simp only[Op.eqItems,Nat.mul_one,Sem.run_bind];rw[ZcE (Zba hk) (v:=u1) (by simpa using z)];simp only[Result.andThen_ok];rw[ZcE (Zba hk) (v:=u2) (by simpa using j)];simp only[Result.andThen_ok,he];subst hb;cases b1;simp;simpa using ih;simp at hb;simp at hb
theorem Zbm{P:Program}{t:TypeId}{v1 v2:Value}{b:Bool}(h:∀n,(Op.equalIn (n+1) t v1 v2).run P w=.ok b w):(Op.equal t v1 v2).run P w=.ok b w:=h 9999
theorem Zpb{P:Program}{t:TypeId}{x y:Operand}{p:J0}(hp:Zdf P t x y=sO p){v1 v2:Value}{d1 d2:D}(h1:Rep g w v1 d1)(h2:Rep g w v2 d2){b:Bool}(hq:YH p d1 d2=sO (side,b))(hs:side):
  (Op.equal t v1 v2).run P w=.ok b w∧(eqGuard .eql t x y v1 v2).run P w=.ok () w∧(eqGuard .neq t x y v1 v2).run P w=.ok () w:=by
 unfold Zdf at hp;split at hp<;>(try(simp at hp;done))
 ·
  rename_i hu;simp only[ZDV]at hp;subst hp;cases h1<;>cases h2<;>simp only[YH,reduceCtorEq,ZDV,ZD7]at hq;obtain⟨rfl,rfl⟩:=hq;exact⟨Zbm fun n=>by rw[run_equalIn_bool w _ t _ _ hu];rfl,rfl,rfl⟩
 ·rename_i e hu;simp only[ZDV]at hp;subst hp;cases h1<;>cases h2<;>simp only[YH,reduceCtorEq,ZDV,ZD7]at hq;all_goals obtain⟨rfl,rfl⟩:=hq
  all_goals first
   |exact absurd hs (by omega)
   |exact⟨Zbm fun n=>by simp[Op.equalIn,run_underlying hu],rfl,rfl⟩
 ·rename_i k e hu;simp only[ZDV]at hp;subst hp;cases h1<;>cases h2<;>simp only[YH,reduceCtorEq,ZDV,ZD7]at hq;all_goals obtain⟨rfl,rfl⟩:=hq
  all_goals exact⟨Zbm fun n=>by simp[Op.equalIn,run_underlying hu],rfl,rfl⟩
 ·rename_i a b c hu;simp only[ZDV]at hp;subst hp;cases h1<;>cases h2<;>simp only[YH,reduceCtorEq,ZDV,ZD7]at hq;all_goals obtain⟨rfl,rfl⟩:=hq
  all_goals exact⟨Zbm fun n=>by simp[Op.equalIn,run_underlying hu],rfl,rfl⟩
 ·rename_i ms hu;split at hp
  ·rename_i hc;simp only[ZDV]at hp;subst hp;have af:Zd7 x=true∨Zd7 y=true:=by simpa using hc
   have hg:∀op,(eqGuard op t x y .nilIface .nilIface).run P w=.ok () w:=fun op=>by rcases af with h|h;cases x<;>simp[Zd7]at h;cases op<;>simp[eqGuard];cases y<;>simp[Zd7]at h;cases op<;>simp[eqGuard]
   cases h1<;>cases h2<;>simp only[YH,reduceCtorEq,ZDV,ZD7]at hq;all_goals obtain⟨rfl,rfl⟩:=hq
   all_goals first
    |exact⟨Zbm fun n=>by simp[Op.equalIn,run_underlying hu],rfl,rfl⟩
    |exact⟨Zbm fun n=>by simp[Op.equalIn,run_underlying hu],hg _,hg _⟩
  simp at hp
 ·rename_i e hu;simp only[ZDV]at hp;subst hp;cases h1<;>cases h2<;>simp only[YH,reduceCtorEq,ZDV,ZD7]at hq;all_goals obtain⟨rfl,rfl⟩:=hq
  all_goals exact⟨Zbm fun n=>by simp[Op.equalIn,run_underlying hu],rfl,rfl⟩
 rename_i fs hu;split at hp;simp at hp;rename_i z;have j:P.eqGuardType P.depth t=false:=by simp at z;exact z.1
 have ae:P.stoodInHeld t=false:=by simp at z;exact z.2
 simp only[ZD9]at hp;obtain⟨l,hl,rfl⟩:=hp;cases h1<;>cases h2<;>simp only[YH,reduceCtorEq,ZD9]at hq;rename_i v1 xs ad r1 o1 v2 ys ac r2 o2;obtain⟨b',hb,hq⟩:=hq;simp only[ZD7]at hq;obtain⟨rfl,rfl⟩:=hq;have hf:P.underlying t=sO (.struct (P.fieldsOf t)):=by simp[Program.fieldsOf,hu]
 refine⟨?_,run_eqGuard_agg w _ t x y _ _ j,run_eqGuard_agg w _ t x y _ _ j⟩;refine(run_equalIn_struct w 9999 t _ _ hf ae).trans ?_;simp only[Program.fieldsOf,hu];exact ZcS ad ac r1 r2 9998 _ l b' hl hb;rename_i n e hu;split at hp;simp at hp;rename_i j;split at hp
 ·rename_i k hk u;simp only[ZDV]at hp;subst hp;cases h1<;>cases h2<;>simp only[YH,reduceCtorEq,ZD9]at hq;rename_i v1 xs ad r1 o1 v2 ys ac r2 o2;obtain⟨b',hb,hq⟩:=hq;simp only[ZD7]at hq;obtain⟨rfl,rfl⟩:=hq;have ab:P.eqGuardType P.depth t=false:=by simpa using j
  refine⟨?_,run_eqGuard_agg w _ t x y _ _ ab,run_eqGuard_agg w _ t x y _ _ ab⟩;unfold ZY at u;cases hi:P.info? e with
  |none=>simp[hi]at u
  |some i =>
   simp only[hi,ZEp,ZDV]at u;refine(run_equalIn_array w 9999 _ _ hu hi).trans ?_;have ag:P.cellsOf e=1:=by simp[Program.cellsOf,hi,u]
   rw[ag];exact Zmh ad ac r1 r2 9998 hk _ _ hb
 simp at hp
theorem Zx9{P:Program}{op:BinOp}{t:TypeId}{x y:Operand}{v1 v2:Value}{d1 d2 d:D}(h1:Rep g w v1 d1)(h2:Rep g w v2 d2)(hq:J2 op (Zdf P t x y) d1 d2=sO (side,d))(hs:side):
  ∃v,(do eqGuard op t x y v1 v2;binOp op t v1 v2).run P w=.ok v w∧Rep g w v d:=by
 by_cases hi:∃k a,d1=.int k a
 ·obtain⟨k,a,rfl⟩:=hi;cases h1;rename_i ha;have hg:(eqGuard op t x y (.int k a) v2).run P w=.ok () w:=by cases op<;>rfl
  by_cases z:∃k' b,d2=.int k' b
  ·obtain⟨k',b,rfl⟩:=z;cases h2;rename_i hb;simp only[Sem.run_bind,hg,Result.andThen_ok];by_cases u:op=.shl∨op=.shr;rcases u with rfl|rfl;simp only[J2,ZDV,ZD7]at hq;obtain⟨rfl,rfl⟩:=hq;refine⟨.int k (ZlI k a b),?_,.int _ _ hs.2⟩;simp only[binOp,Op.shift,Int.not_lt.2 hs.1,if_false];rw[show k.wrap (a*2 ^ min b.toNat k.bits)=ZlI k a b from ZaV _ _ hs.2];rfl;simp only[J2,ZDV,ZD7]at hq;obtain⟨rfl,rfl⟩:=hq;refine⟨.int k (Zoi k a b),?_,.int _ _ hs.2⟩;simp only[binOp,Op.shift,Int.not_lt.2 hs.1,if_false];rfl;have i:(if k=k' then Qz op k a b else nO)=sO (side,d):=by cases op<;>first|(simp only[J2]at hq;exact hq)|simp at u
   split at i;·rename_i hk;subst hk;obtain⟨v,hv,r⟩:=Zya (P:=P) (g:=g) (w:=w) i hs;refine⟨v,?_,r⟩;rw[←hv];cases op<;>first|(simp at u;done)|(simp[binOp])
   simp at i
  have i:eqO op (Zdf P t x y) (.int k a) d2=sO (side,d):=by cases d2<;>first|(simp only[J2]at hq;exact hq)|(exact absurd ⟨_,_,rfl⟩ z)
  unfold eqO at i;split at i<;>simp[YH]at i
 by_cases j:∃a,d1=.str a;obtain⟨a,rfl⟩:=j;cases h1;rename_i s1 e1 b1;have hg:(eqGuard op t x y (.string s1) v2).run P w=.ok () w:=by cases op<;>rfl
 by_cases n:∃b,d2=.str b;obtain⟨b,rfl⟩:=n;cases h2;rename_i s2 e2 b2;simp only[Sem.run_bind,hg,Result.andThen_ok];obtain⟨v,hv,r⟩:=Zyb (P:=P) (g:=g) (w:=w) (op:=op) e1 e2 (by simpa[J2]using hq) hs;refine⟨v,?_,r⟩;rw[←hv];cases op<;>simp[binOp];have i:eqO op (Zdf P t x y) (.str a) d2=sO (side,d):=by cases d2<;>first|(simp only[J2]at hq;exact hq)|(exact absurd ⟨_,rfl⟩ n)
 unfold eqO at i;split at i<;>simp[YH]at i;have i:eqO op (Zdf P t x y) d1 d2=sO (side,d):=by cases d1<;>first|(simp only[J2]at hq;exact hq)|(exact absurd ⟨_,_,rfl⟩ hi)|(exact absurd ⟨_,rfl⟩ j)
 unfold eqO at i;split at i
 ·rename_i p hp;simp only[ZD9]at i;obtain⟨⟨s',b⟩,hb,i⟩:=i;simp only[ZD7]at i;obtain⟨rfl,rfl⟩:=i;obtain⟨he,hg,_⟩:=Zpb hp h1 h2 hb hs;refine⟨.bool b,?_,.bool _⟩;simp only[Sem.run_bind,hg,Result.andThen_ok];cases h1<;>first
   | (exact absurd ⟨_,_,rfl⟩ hi)
   | (exact absurd ⟨_,rfl⟩ j)
   | (cases h2<;>first|(simp[binOp,he];done)|(cases p<;>simp[YH]at hb;done))
 ·rename_i p hp;simp only[ZD9]at i;obtain⟨⟨s',b⟩,hb,i⟩:=i;simp only[ZD7]at i;obtain⟨rfl,rfl⟩:=i;obtain⟨he,_,hg⟩:=Zpb hp h1 h2 hb hs;refine⟨.bool (!b),?_,.bool _⟩;simp only[Sem.run_bind,hg,Result.andThen_ok];cases h1<;>first
   | (exact absurd ⟨_,_,rfl⟩ hi)
   | (exact absurd ⟨_,rfl⟩ j)
   | (cases h2<;>first|(simp[binOp,he];done)|(cases p<;>simp[YH]at hb;done))
 simp at i
end Go.DL
namespace Go.DL
open Go
variable [Zqj]
def ZwI(P:Program)(g:G)(ν:Nat→Nat)(w:World)(L:Loc)(s:Sem Value)(e:E):Prop:=∃v,s.run P w=.ok v w∧ZK g ν w L v e
theorem ZwI.next{P:Program}{g:G}{ν:Nat→Nat}{w:World}{L:Loc}{s:Sem Value}{e:E}(h:ZwI P g ν w L s e) :
  ∃v,(do pure (Next.value (←s)):Sem Next).run P w=.ok (.value v) w∧ZK g ν w L v e:=by
 obtain⟨v,h1,h2⟩:=h;simp_all
section
variable {P:Program} {g:G} {ν:Nat→Nat} {w:World} {L:Loc}
theorem KD:∀{vs:List Value} {es:List E} {ds:List D},ZJ (ZK g ν w L) vs es→WX es=sO ds→ZJ (Rep g w) vs ds
 |_,_,ds,.nil,hd=>by cases hd;exact .nil
 |_,_,ds,.cons (b:=e) h t,hd=>by
  cases e with
  |d x =>simp[WX]at hd;obtain⟨ds',hd',rfl⟩:=hd;exact .cons h (KD t hd')
  |loc l o=>cases hd
  |when c e=>cases hd
theorem ZJ.len{α β:Type}{R:α→β→Prop}{as9:List α}{bs:List β}(h:ZJ R as9 bs):as9.length=bs.length:=by
 induction h with
 |nil=>rfl
 |cons _ _ ih=>simp[ih]
theorem ZJ.get{α β:Type}{R:α→β→Prop}{as9:List α}{bs:List β}(h:ZJ R as9 bs):∀(i:Nat) (a:α) (b:β),as9[i]?=sO a→bs[i]?=sO b→R a b:=by
 induction h with
 |nil=>intro i a b ha;grind
 |cons h _ ih =>grind
theorem ZJ.take{α β:Type}{R:α→β→Prop}{as9:List α}{bs:List β}(h:ZJ R as9 bs):∀n,ZJ R (as9.take n) (bs.take n):=by
 induction h with
 |nil=>intro n;simp;exact .nil
 |cons h _ ih=>intro n;cases n with
  |zero=>exact .nil
  |succ n=>exact .cons h (ih n)
theorem ZJ.drop{α β:Type}{R:α→β→Prop}{as9:List α}{bs:List β}(h:ZJ R as9 bs):∀n,ZJ R (as9.drop n) (bs.drop n):=by
 induction h with
 |nil=>intro n;simp;exact .nil
 |cons h t ih=>intro n;cases n with
  |zero=>exact .cons h t
  |succ n=>exact ih n
theorem ZJ.append{α β:Type}{R:α→β→Prop}{as9 as':List α}{bs bs':List β}(h:ZJ R as9 bs)(h':ZJ R as' bs'):ZJ R (as9++as') (bs++bs'):=by
 induction h with
 |nil=>exact h'
 |cons h _ ih=>exact .cons h ih
theorem Zdi{v:Value}{d:D}(h:Rep g w v d)(ho:WS d=true):v.cells.size=(cellsOf d).length∧(∀(i:Nat) (x:Value) (y:D),v.cells.toList[i]?=sO x→(cellsOf d)[i]?=sO y→Rep g w x y):=by
 cases h with
 |agg vs cells hn h one=>exact⟨by simpa[Value.cells,cellsOf]using hn,by simpa[Value.cells,cellsOf]using h⟩
 |any v=>simp[WS]at ho
 |_ =>
  refine⟨by simp[Value.cells,cellsOf,Go.undef],fun i x y hx hy=>?_⟩;simp only[Value.cells,cellsOf,Go.undef]at hx hy;cases i with
  |zero =>simp at hx hy;subst hx;subst hy;first|assumption|constructor<;>assumption|constructor
  |succ i=>simp at hx
end
end Go.DL
namespace Go.DL
open Go
variable [Zqj]
section
variable {P:Program} {g:G} {ν:Nat→Nat} {w:World} {L:Loc}
theorem Zgz{v:Value}{d:D}(h:Rep g w v d)(ho:WS d=true):∀x∈v.cells,x.one1=true:=by
 cases h with
 |agg vs cells hn h one=>simpa[Value.cells]using one
 |_=>first
  | (simp[WS]at ho;done)
  | (intro x hx;simp[Value.cells]at hx;subst hx;rfl)
theorem ZoS:∀(l:List Value) (k off:Nat) (cs:Array Value),off+k+l.length≤cs.size →
  ((l.zipIdx k).foldl (fun(cs:Array Value) (x:Value×Nat)=>cs.setIfInBounds (off+x.2) x.1) cs).toList=cs.toList.take (off+k)++l++cs.toList.drop (off+k+l.length)
 | [],k,off,cs,h=>by simp
 |v::l,k,off,cs,h=>by
  simp at h;simp only[List.zipIdx_cons,List.foldl_cons];rw[ZoS l (k+1) off _ (by simp;omega)];simp only[Array.toList_setIfInBounds];apply List.ext_getElem?;intro i;simp only[List.getElem?_append,ZEC,List.getElem?_drop,List.getElem?_set,ZD8,ZEh,List.length_set,Array.length_toList,ZEf];by_cases h1:i<off+k;simp[show i<min (off+(k+1)) cs.size+l.length from by omega,show i<min (off+(k+1)) cs.size from by omega,show i<min (off+k) cs.size+(l.length+1) from by omega,
   show i<min (off+k) cs.size from by omega,show i<off+(k+1) from by omega,h1,show ¬off+k=i from by omega]
  by_cases h2:i=off+k;subst h2;simp[show off+k<min (off+(k+1)) cs.size+l.length from by omega,show off+k<min (off+(k+1)) cs.size from by omega,show off+k<min (off+k) cs.size+(l.length+1) from by omega,
   show ¬off+k<min (off+k) cs.size from by omega,show off+k<off+(k+1) from by omega,show off+k<cs.size from by omega]
  rw[show off+k-min (off+k) cs.size=0 from by omega];rfl;by_cases h3:i<off+k+(l.length+1);simp[show i<min (off+(k+1)) cs.size+l.length from by omega,show ¬i<min (off+(k+1)) cs.size from by omega,show i<min (off+k) cs.size+(l.length+1) from by omega,
   show ¬i<min (off+k) cs.size from by omega]
  rw[show i-min (off+k) cs.size=(i-min (off+(k+1)) cs.size)+1 from by omega];rfl;simp[show ¬i<min (off+(k+1)) cs.size+l.length from by omega,show ¬i<min (off+k) cs.size+(l.length+1) from by omega];rw[show off+(k+1)+l.length+(i-(min (off+(k+1)) cs.size+l.length))=i from by omega,show off+k+(l.length+1)+(i-(min (off+k) cs.size+(l.length+1)))=i from by omega];simp[show ¬off+k=i from by omega]
theorem Yf{α β:Type}{R:α→β→Prop}:∀{as9:List α} {bs:List β},as9.length=bs.length→(∀(i:Nat) (a:α) (b:β),as9[i]?=sO a→bs[i]?=sO b→R a b)→ZJ R as9 bs
 | [],[],_,_=>.nil
 |a::as9,b::bs,hn,h=>.cons (h 0 a b rfl rfl) (Yf (by simpa using hn) (fun i x y hx hy=>h (i+1) x y (by simpa using hx) (by simpa using hy)))
 | [],_::_,hn,_=>by grind
 |_::_,[],hn,_=>by grind
theorem Zgm(place:Nat→Option (Nat×Nat)):∀(parts:List (Nat×Value)) (pl:List (Nat×Nat)) (ds cs cells:List D) (cv:Array Value),
  (∀(i:Nat) (x:Nat×Value) (q:Nat×Nat),parts[i]?=sO x→pl[i]?=sO q→place x.1=sO q)→parts.length=pl.length→ZJ (Rep g w) (parts.map (·.2)) ds →
  ZJ (Rep g w) cv.toList cells→(∀v∈cv,v.one1=true)→Zbe cells pl ds=sO cs →
  ∃cv',Instr.fill place cv parts=sO cv'∧ZJ (Rep g w) cv'.toList cs∧∀v∈cv',v.one1=true
 | [],[],ds,cs,cells,cv,_,_,hd,hc,ho,hf=>by cases hd;cases hf;exact⟨cv,rfl,hc,ho⟩
 |x::parts,q::pl,ds,cs,cells,cv,hpl,hn,hd,hc,ho,hf=>by
  obtain⟨i,v⟩:=x;obtain⟨o,n⟩:=q;cases hd with
  |cons hv hd =>
   rename_i d ds;simp only[Zbe]at hf;split at hf;rename_i z;obtain⟨h0,h1,h2⟩:=z;have hp:=hpl 0 _ _ rfl rfl;obtain⟨ae,u⟩:=Zdi hv h0;have hlen:=hc.len;have j:=ZoS v.cells.toList 0 o cv (by grind);simp only[Nat.add_zero,Array.length_toList,ae,h1]at j;have ha:ZJ (Rep g w) (v.cells.toList) (cellsOf d):=Yf (by omega) u;generalize ab:(v.cells.toList.zipIdx 0).foldl (fun(cs:Array Value) (x:Value×Nat)=>cs.setIfInBounds (o+x.2) x.1) cv=cv2 at j;have ac:ZJ (Rep g w) cv2.toList (Zt cells o (cellsOf d)):=by rw[j];unfold Zt;rw[h1];exact((hc.take o).append ha).append (hc.drop (o+n))
   have ad:∀x∈cv2,x.one1=true:=fun x hx=>by have t:x∈cv2.toList:=Array.mem_toList_iff.2 hx;rw[j]at t;simp only[List.mem_append]at t;rcases t with (t |t)|t;exact ho x (Array.mem_toList_iff.1 (List.mem_of_mem_take t));exact Zgz hv h0 x (Array.mem_toList_iff.1 t);exact ho x (Array.mem_toList_iff.1 (List.mem_of_mem_drop t))
   obtain⟨cv',af,r1,r2⟩:=Zgm place parts pl ds cs _ cv2 (fun i x q hx hq=>hpl (i+1) x q (by grind) (by grind)) (by grind) hd ac ad hf;refine⟨cv',?_,r1,r2⟩;simp only[Instr.fill,hp,ae,h1];have:¬(n≠n ||decide (o+n > cv.size))=true:=by grind
   rw[if_neg (by omega)];rw[←af,←ab]
   congr 1
   rw[←Array.foldl_toList,Array.toList_zipIdx];simp at hf
 | [],_::_,_,_,_,_,_,hn,_,_,_,_=>by simp at hn
 |_::_,[],_,_,_,_,_,hn,_,_,_,_=>by simp at hn
end
end Go.DL
namespace Go.DL
open Go
variable [Zqj]
variable {kp:Option (List Nat)}{L:Loc}{ρ:Env}{s:St}{w:World}{os:List DOp}{ds:List D}{dst:Option Nat}{tmps:Array Value}{g:G}{ν:Nat→Nat}{xs:List Opd}{side:Prop}{row:Nat→List D}
section
variable {P:Program} {g:G} {ν:Nat→Nat} {w:World} {L:Loc}
theorem Zc9:∀{vs:List Value} {ds:List D},Za2 vs=sO ds→ZJ (Rep g w) vs ds∧∀v∈vs,v.one1=true
 | [],ds,h=>by simp only[Za2,ZDV]at h;subst h;exact⟨.nil,fun v hv=>by simp at hv⟩
 |v::vs,ds,h=>by
  simp only[Za2]at h;split at h
  ·rename_i d ds' h1 h2;simp only[ZDV]at h;subst h;obtain⟨r1,r2⟩:=Zc9 h2;have h0:Rep g w v d∧v.one1=true:=by unfold Zmc at h1;split at h1<;>(try(simp at h1;done));split at h1;rename_i hk;simp only[ZDV]at h1;subst h1;exact⟨.int _ _ hk,rfl⟩;simp at h1;simp only[ZDV]at h1;subst h1;exact⟨.bool _,rfl⟩;split at h1;rename_i hk;simp only[ZDV]at h1;subst h1;exact⟨.str _ _ rfl hk,rfl⟩;simp at h1;simp only[ZDV]at h1;subst h1;exact⟨.nilptr,rfl⟩;simp only[ZDV]at h1;subst h1;exact⟨.nilsl,rfl⟩;simp only[ZDV]at h1;subst h1;exact⟨.nilmap,rfl⟩;simp only[ZDV]at h1;subst h1;exact⟨.nilfn,rfl⟩;simp only[ZDV]at h1;subst h1;exact⟨.niliface,rfl⟩
   exact⟨.cons h0.1 r1,fun x hx=>by
    rcases List.mem_cons.1 hx with rfl|hx;exact h0.2;exact r2 x hx⟩
  simp at h
theorem Zvo{v:Value}{d:D}(h:Zmc v=sO d):Rep g w v d∧v.one1=true:=by
 have:=Zc9 (g:=g) (w:=w) (vs:=[v]) (ds:=[d]) (by simp[Za2,h]);obtain⟨h1,h2⟩:=this;cases h1 with
 |cons h _=>exact⟨h,h2 v (by simp)⟩
theorem Zj1{vs:Array Value}(h:ZJ (Rep g w) vs.toList ds)(ho:∀v∈vs,v.one1=true):Rep g w (.agg vs) (.agg ds):=by
 have:=Rep.agg (g:=g) (w:=w) vs.toList ds h.len h.get (fun v hv=>ho v (Array.mem_toList_iff.1 hv));simpa using this
theorem Zih{v:Value}{d:D}(h:Zmd v=sO d):Rep g w v d:=by
 unfold Zmd at h;split at h;rename_i cs;simp only[ZD9]at h;obtain⟨ds,hd,rfl⟩:=h;obtain⟨h1,h2⟩:=Zc9 (g:=g) (w:=w) hd;exact Zj1 h1 (fun v hv=>h2 v (Array.mem_toList_iff.2 hv));exact(Zvo h).1
theorem Zpa{t:TypeId}{fs:Array Field}(hu:P.underlying t=sO (.struct fs)):∀(is:List Nat) (pl:List (Nat×Nat)),KO P t is=sO pl →
  pl.length=is.length∧∀(i k:Nat) (q:Nat×Nat),is[i]?=sO k→pl[i]?=sO q→∃f,fs[k]?=sO f∧ZY P f.type=sO q.2∧f.offset=q.1
 | [],pl,h=>by simp only[KO,ZDV]at h;subst h;simp
 |k::is,pl,h=>by
  cases hl:KO P t is with
  |none=>simp[KO,hu,hl]at h
  |some l =>
   simp only[KO,hu,hl]at h;split at h
   ·rename_i f hf;simp only[ZD9]at h;obtain⟨n,hn,rfl⟩:=h;obtain⟨h1,h2⟩:=Zpa hu is l hl;refine⟨by simp[h1],fun i k' q hi hq=>?_⟩;cases i with
    |zero=>simp at hi hq;subst hi;subst hq;exact⟨f,hf,hn,rfl⟩
    |succ i=>exact h2 i k' q (by simpa using hi) (by simpa using hq)
   simp at h
theorem ZmO{t e:TypeId}{m:Nat}(hu:P.underlying t=sO (.array m e)):∀(is:List Nat) (pl:List (Nat×Nat)),KO P t is=sO pl →
  pl.length=is.length∧∀(i k:Nat) (q:Nat×Nat),is[i]?=sO k→pl[i]?=sO q→∃n,ZY P e=sO n∧q=(k*n,n)
 | [],pl,h=>by simp only[KO,ZDV]at h;subst h;simp
 |k::is,pl,h=>by
  cases hl:KO P t is with
  |none=>simp[KO,hu,hl]at h
  |some l =>
   simp only[KO,hu,hl,ZD9]at h;obtain⟨n,hn,rfl⟩:=h;obtain⟨h1,h2⟩:=ZmO hu is l hl;refine⟨by simp[h1],fun i k' q hi hq=>?_⟩;cases i with
   |zero=>simp at hi hq;subst hi;subst hq;exact⟨n,hn,rfl⟩
   |succ i=>exact h2 i k' q (by simpa using hi) (by simpa using hq)
theorem ZkL:∀(fs:List Field),(fs.all fun f=>(ZY P f.type).isSome)=true →
  ∃pl,fs.mapM (fun f=>(P.info? f.type).map fun i=>(f.offset,i.size))=sO pl∧∀(k:Nat) (f:Field) (n:Nat),fs[k]?=sO f→ZY P f.type=sO n→pl[k]?=sO (f.offset,n)
 | [],_=>⟨[],by simp,by simp⟩
 |f::fs,h=>by
  simp only[List.all_cons,ZD5]at h;obtain⟨pl,h1,h2⟩:=ZkL fs h.2;unfold ZY at h;cases hi:P.info? f.type with
  |none=>simp[hi]at h
  |some i =>
   refine⟨(f.offset,i.size)::pl,by simp[List.mapM_cons,hi,h1],fun k f' n hk hn=>?_⟩;cases k with
   |zero =>simp at hk;subst hk;simp only[ZY,hi,ZEp,ZDV]at hn;subst hn;rfl
   |succ k=>simpa using h2 k f' n (by simpa using hk) hn
theorem ZwN{t:TypeId}{parts:List (Nat×Value)}{z:Value}{pl:List (Nat×Nat)}{zs ds cs:List D}(hz:(P.info? t).bind (·.zero)=sO z)(hp:KO P t (parts.map (·.1))=sO pl)(hsz:Zjo P t=true)(hzs:Za2 z.cells.toList=sO zs)(hd:ZJ (Rep g w) (parts.map (·.2)) ds)(hf:Zbe zs pl ds=sO cs)(hne:∃d,P.underlying t=sO d∧((∃fs,d=.struct fs)∨∃m e i,d=.array m e∧P.info? e=sO i)):
  ∃cv,(Instr.build t parts.toArray).run P w=.ok (.agg cv) w∧Rep g w (.agg cv) (.agg cs):=by
 obtain⟨d,hu,ai⟩:=hne;obtain⟨c1,c2⟩:=Zc9 (g:=g) (w:=w) hzs;have ae:∀v∈z.cells,v.one1=true:=fun v hv=>c2 v (Array.mem_toList_iff.2 hv);cases ad:P.info? t with
 |none=>simp[ad]at hz
 |some it =>
  simp only[ad,Option.bind_some]at hz;rcases ai with ⟨fs,rfl⟩|⟨m,e,i,rfl,hi⟩;simp only[Zjo,hu]at hsz;obtain⟨ah,hm,af⟩:=ZkL (P:=P) fs.toList hsz;obtain⟨h1,h2⟩:=Zpa hu _ _ hp;obtain⟨cv,u,ab,ac⟩:=Zgm (g:=g) (w:=w) (ah.toArray[·]?) parts pl ds cs zs z.cells (fun i x q hx hq=>by
   obtain⟨f,aj,ag,ak⟩:=h2 i x.1 q (by simp[hx]) hq;have:=af x.1 f q.2 (by simpa using aj) ag;simp only[List.getElem?_toArray,this,ak]) (by simpa using h1.symm) hd c1 ae hf
  refine⟨cv,run_build w t _ cv ?_,Zj1 ab ac⟩;simp only[Program.built,ad,hu,hz,hm];exact u;obtain⟨h1,h2⟩:=ZmO hu _ _ hp;obtain⟨cv,u,ab,ac⟩:=Zgm (g:=g) (w:=w) (fun k=>sO (k*i.size,i.size)) parts pl ds cs zs z.cells (fun j x q hx hq=>by
   obtain⟨n,hn,rfl⟩:=h2 j x.1 q (by simp[hx]) hq;simp only[ZY,hi,ZEp,ZDV]at hn;rw[hn]) (by simpa using h1.symm) hd c1 ae hf
  refine⟨cv,run_build w t _ cv ?_,Zj1 ab ac⟩;simp only[Program.built,ad,hu,hz,hi];exact u
end
section
variable {P:Program} {g:G} {ν:Nat→Nat} {w:World} {L:Loc} {σ:St}
theorem Wj{α β:Type}{R:α→β→Prop}{a:α}{bs:List β}(h:ZJ R [a] bs):∃b,bs=[b]∧R a b:=by
 cases h with
 |cons h t=>cases t;exact⟨_,rfl,h⟩
theorem Jx{α β:Type}{R:α→β→Prop}{a a':α}{bs:List β}(h:ZJ R [a,a'] bs):∃b b',bs=[b,b']∧R a b∧R a' b':=by
 cases h with
 |cons h t=>obtain⟨b',rfl,h'⟩:=Wj t;exact⟨_,_,rfl,h,h'⟩
theorem Zg5:∀(ns:List Int) (s:ByteArray),(ns.foldl (fun r n=>r.push (UInt8.ofNat n.toNat)) s).data.toList=s.data.toList++ns.map fun n=>UInt8.ofNat n.toNat
 | [],s=>by simp
 |n::ns,s=>by rw[List.foldl_cons,Zg5 ns];simp
theorem Zst{t:TypeId}{x:Value}{e r:E}(ha:Jw P t=sO false)(hx:ZK g ν w L x e)(hL:∀l cs,Ze L l=sO cs→YQ g w (ν l) cs)(hS:Yh g σ w)(hq:qv L σ .load1 [e]=sO (side,r)):∃v,(Instr.loadAt t x).run P w=.ok v w∧ZK g ν w L v r:=by
 simp only[qv,ZD9]at hq;obtain⟨d,hd,rfl,rfl⟩:=hq;obtain⟨b,o,y,rfl,hy,hr,_⟩:=Zl7 hL hS hx hd;exact⟨y,by simp[Instr.loadAt,Instr.sureAddr,loadVar,ZdL ha,hy],hr⟩
theorem Zsu{t:TypeId}{n:Nat}{x:Value}{e r:E}(ha:Jw P t=sO true)(hsz:ZY P t=sO n)(hx:ZK g ν w L x e)(hL:∀l cs,Ze L l=sO cs→YQ g w (ν l) cs)(hS:Yh g σ w)(hq:qv L σ (.loadN n) [e]=sO (side,r))(hs:side):∃v,(Instr.loadAt t x).run P w=.ok v w∧ZK g ν w L v r:=by
 simp only[qv,ZD9]at hq;obtain⟨⟨s',ds⟩,hd,rfl,rfl⟩:=hq;obtain⟨a,rfl,vs,i,hr⟩:=ZmN (P:=P) hL hS hx hd hs;exact⟨.agg vs.toArray,by simp[Instr.loadAt,Instr.sureAddr,loadVar,Ze6 ha,YI hsz,i],hr⟩
theorem Zx8{b o n cap:Nat}{cs:List D}{v:Value}(hS:Yh g σ w)(hv:Rep g w v (.msl b o n cap 1))(hcs:Yc σ b=sO cs)(hlen:o+n≤cs.length)(hu:∀i,i<n→Zhc (part cs (o+i) 1)):
  ∃x:Value,(Conv.bytesToString v).run P w=.ok x w∧Rep g w x (.str ((ZEa n).map fun i=>ZaE (part cs (o+i) 1))):=by
 have t:∀j,n≤j→j≤big→∃x:Value,(Conv.bytesToString (.slice (sO ⟨b,o,nO⟩) n j)).run P w=.ok x w∧Rep g w x (.str ((ZEa n).map fun i=>ZaE (part cs (o+i) 1))):=by
  intro j h1 h2;obtain⟨vs,hr,hp⟩:=Zez (P:=P) (QJ hS hcs) hlen;have ab:vs=((ZEa n).map fun i=>((ZaE (part cs (o+i) 1)).toNat:Int)).map (Value.int .u8):=by
   generalize u:part cs o n=pc at hp;have hpl:pc.length=n:=by rw[←u];simp[part];omega
   cases hp with
   |agg vs' _ hn hg _ =>
   apply List.ext_getElem?;intro i;by_cases hi:i<n;have hvi:i<vs.length:=by omega
   obtain⟨m,hm⟩:=hu i hi;have ac:cs[o+i]?=sO (.int .u8 m):=by have:=congrArg (fun l=>l[0]?) hm;simpa[part]using this
   have z:pc[i]?=sO (.int .u8 m):=by rw[←u];simp[part,hi];exact ac
   have:=hg i vs[i] _ (by grind) z;simp_all;generalize vs[i]=xv at this;cases this;rename_i ad;simp[hi,ZaE];simp[inR,IntKind.min,IntKind.max,IntKind.signed,IntKind.bits]at ad;omega;simp_all
  refine⟨_,run_bytesToString w _ _ j _ (by rw[hr,ab]),.str _ _ ?_ (by grind)⟩;rw[Zg5];simp
 cases hv with
 |msl _ _ _ _ _ h hb=>exact t cap h hb
 |mslx a=>exact⟨.string .empty,by simp[Conv.bytesToString,loadCells,loadCellsFrom],.str _ _ rfl (by simp)⟩
theorem ZuL{s d:TypeId}{c:Cv}{x:Value}{e r:E}(hS:Yh g σ w)(hc:ZtJ P s d=sO c)(hx:ZK g ν w L x e)(hq:qv L σ (.conv c) [e]=sO (side,r))(hs:side):
  ∃v,(convert s d x).run P w=.ok v w∧ZK g ν w L v r:=by
 unfold ZtJ at hc;split at hc<;>(try(simp at hc;done))
 ·rename_i k0 k h1 h2;cases hc;cases e with
  |d y =>cases y<;>simp only[qv,reduceCtorEq]at hq;rename_i k' n;cases hx;rename_i hn;split at hq;rename_i hk;subst hk;cases hq;exact⟨.int k n,by simp[convert,run_underlying h1,run_underlying h2,Conv.intToInt,ZaV _ _ hn],.int _ _ hn⟩;cases hq;exact⟨.int k (k.wrap n),by simp[convert,run_underlying h1,run_underlying h2,Conv.intToInt],.int _ _ (Zkc _ _)⟩
  |loc l o=>simp[qv]at hq
  |when b e=>simp[qv]at hq
 ·rename_i k0 h1 h2;cases hc;cases e with
  |d y =>cases y<;>simp only[qv,reduceCtorEq]at hq;rename_i k' n;cases hx;cases hq;exact⟨.string (Utf8.encode n),by simp[convert,run_underlying h1,run_underlying h2,Conv.intToString],.str _ _ rfl hs⟩
  |loc l o=>simp[qv]at hq
  |when b e=>simp[qv]at hq
 ·rename_i h1 h2;cases hc;cases e with
  |d y =>cases y<;>simp only[qv,reduceCtorEq]at hq;cases hq;cases hx;rename_i s0 e0 b0;exact⟨.string s0,by simp[convert,run_underlying h1,run_underlying h2],.str _ _ e0 b0⟩
  |loc l o=>simp[qv]at hq
  |when b e=>simp[qv]at hq
 rename_i el h1 h2;split at hc<;>(try(simp at hc;done));rename_i h3;cases hc;cases e with
 |d y =>
  cases y<;>simp only[qv,reduceCtorEq]at hq;cases hq;cases hx;exact⟨.string .empty,by simp[convert,run_underlying h1,run_underlying h2,run_underlying h3,Conv.bytesToString],.str _ _ rfl (by simp[big])⟩
  ·split at hq<;>(try(simp at hq;done));rename_i t n s row ad;cases hq;subst ad;cases hx with
   |sl0 av=>exact⟨.string .empty,by cases av<;>simp[convert,run_underlying h1,run_underlying h2,run_underlying h3,Conv.bytesToString,loadCells,loadCellsFrom],.str _ _ rfl (by simp[big])⟩
   |sl b o _ cap _ _ _ f hl hc hp hr one ht hcap hb =>
    have hf:∀i,i<n→f i 0=.int .u8 ((ZaE (row i)).toNat:Int):=fun i hi=>by
     obtain⟨m,hm⟩:=hs i hi;have:=hr i 0 _ hi (by rw[hm];rfl);generalize f i 0=fv at this;cases this;rename_i ae;rw[hm];simp only[ZaE]
     congr 1
     simp[inR,IntKind.min,IntKind.max,IntKind.signed,IntKind.bits]at ae;simp;omega
    have u:(loadCells ⟨b,o,nO⟩ n).run P w=.ok (((ZEa n).map fun i=>((ZaE (row i)).toNat:Int)).map (Value.int .u8)).toArray w:=by
     rw[run_loadCells (P:=P) w ⟨b,o,nO⟩ n (fun i=>f i 0) (fun j hj=>by
      have:=hc j 0 hj (by omega);rw[WW];simpa using this)]
     congr 2
     rw[List.map_map];exact List.map_congr_left fun i hi=>hf i (by simpa using hi)
    refine⟨_,by simp[convert,run_underlying h1,run_underlying h2,run_underlying h3,run_bytesToString w _ _ cap _ u];rfl,.str _ _ ?_ (by simp;omega)⟩;rw[Zg5];simp[List.map_map,Function.comp_def]
  split at hq<;>(try(simp at hq;done));rename_i b o n cap z cs ac;split at hq<;>(try(simp at hq;done));rename_i hz;cases hq;subst hz;obtain⟨xv,hr,hp⟩:=Zx8 (P:=P) hS hx ac hs.1 hs.2;have ab:(convert s d x).run P w=(Conv.bytesToString x).run P w:=by cases hx<;>simp[convert,run_underlying h1,run_underlying h2,run_underlying h3]
  exact⟨xv,ab.trans hr,hp⟩
 |loc l o=>simp[qv]at hq
 |when b e=>simp[qv]at hq
end
section
variable {P:Program} {g:G} {ν:Nat→Nat} {w:World} {L:Loc}
theorem KQ{v:Value}{k:IntKind}{n:Int}(h:Rep g w v (.int k n)):v=.int k n∧inR k n:=by
 cases h with
 |int _ _ h=>exact⟨rfl,h⟩
theorem Zcs{x:Value}{k:IntKind}{n:Int}(h:Rep g w x (.int k n)){y:Nat}{code:BoundsCode}(h0:0≤n)(h1:n≤y):
  (Instr.sliceBound x y code).run P w=.ok n.toNat w:=by
 obtain⟨rfl,_⟩:=KQ h;simp[Instr.sliceBound,asIntOf,h0,h1]
def QR(g:G)(w:World):Option Value→Option Int→Prop
 |none,nO=>True
 |some v,sO n=>∃k,Rep g w v (.int k n)
 |_,_=>False
theorem Zam{is:Bool}{n cap:Nat}{lo hi mx:Option Value}{lo' hi' mx':Option Int}(h1:QR g w lo lo')(h2:QR g w hi hi')(h3:QR g w mx mx')(hmh:mx.isSome=true→hi.isSome=true)(a:0≤lo'.getD 0)(b:lo'.getD 0≤hi'.getD n)(c:hi'.getD n≤mx'.getD cap)(d:mx'.getD cap≤cap):
  (Instr.sliceBounds is n cap lo hi mx).run P w=.ok ((lo'.getD 0).toNat,(hi'.getD n).toNat,(mx'.getD cap).toNat) w:=by
 cases mx with
 |none =>
  cases mx' with
  |some _=>exact h3.elim
  |none =>
   cases hi with
   |none =>
    cases hi' with
    |some _=>exact h2.elim
    |none =>
     cases lo with
     |none =>
      cases lo' with
      |some _=>exact h1.elim
      |none=>simp[Instr.sliceBounds]
     |some lv =>
      cases lo' with
      |none=>exact h1.elim
      |some l =>obtain⟨k,hk⟩:=h1;simp[Instr.sliceBounds,Zcs hk a b]
   |some hv =>
    cases hi' with
    |none=>exact h2.elim
    |some hh =>
     obtain⟨k2,i⟩:=h2;simp at b c⊢;have bo:=Zcs (P:=P) i (y:=cap) (code:=if is then .sliceAcap else .sliceAlen) (by omega) c;cases lo with
     |none =>
      cases lo' with
      |some _=>exact h1.elim
      |none=>simp[Instr.sliceBounds,bo]
     |some lv =>
      cases lo' with
      |none=>exact h1.elim
      |some l =>obtain⟨k,hk⟩:=h1;simp at a b⊢;have bl:=Zcs (P:=P) hk (y:=hh.toNat) (code:=.sliceB) a (by omega);simp[Instr.sliceBounds,bo,bl]
 |some mv =>
  cases mx' with
  |none=>exact h3.elim
  |some m =>
   obtain⟨k3,j⟩:=h3;cases hi with
   |none=>grind
   |some hv =>
    cases hi' with
    |none=>exact h2.elim
    |some hh =>
     obtain⟨k2,i⟩:=h2;simp at b c⊢;have bm:=Zcs (P:=P) j (y:=cap) (code:=if is then .slice3Acap else .slice3Alen) (by omega) d;have bo:=Zcs (P:=P) i (y:=m.toNat) (code:=.slice3B) (by omega) (by omega);cases lo with
     |none =>
      cases lo' with
      |some _=>exact h1.elim
      |none=>simp[Instr.sliceBounds,bo,bm]
     |some lv =>
      cases lo' with
      |none=>exact h1.elim
      |some l =>obtain⟨k,hk⟩:=h1;simp at a b⊢;have bl:=Zcs (P:=P) hk (y:=hh.toNat) (code:=.slice3C) a (by omega);simp[Instr.sliceBounds,bo,bm,bl]
theorem ZxN{t e:TypeId}{s:Nat}(hu:P.underlying t=sO (.slice e))(hsz:ZY P e=sO s){x:Value}{d r:D}(hx:Rep g w x d){lo hi mx:Option Value}{lo' hi' mx':Option Int}(h1:QR g w lo lo')(h2:QR g w hi hi')(h3:QR g w mx mx')(hmh:mx.isSome=true→hi.isSome=true)(hq:ZaC s lo' hi' mx' d=sO (side,r))(hs:side):
  ∃v,(Instr.sliceAt t x lo hi mx).run P w=.ok v w∧Rep g w v r:=by
 cases d<;>simp only[ZaC,reduceCtorEq]at hq
 ·
  simp only[ZDV,ZD7]at hq;obtain⟨rfl,rfl⟩:=hq;cases hx;obtain⟨e1,e2,e3⟩:=hs;refine⟨.slice nO 0 0,?_,.nilsl⟩;have hb:=Zam (P:=P) (is:=true) (n:=0) (cap:=0) h1 h2 h3 hmh (by omega) (by simp[e1,e2]) (by simp[e2,e3]) (by simp[e3]);simp only[Instr.sliceAt,Sem.run_bind,run_underlying hu,Result.andThen_ok,Instr.slice,hb];simp[e1,e2,e3,YI hsz]
 ·
  rename_i t n s' row;split at hq<;>(try(simp at hq;done));rename_i ah;subst ah;simp only[ZDV,ZD7]at hq;obtain⟨rfl,rfl⟩:=hq;obtain⟨a,b,c,d⟩:=hs;have mk:∀(cap:Nat),n≤cap→hi'.getD n≤mx'.getD cap∧mx'.getD cap≤cap:=fun cap z=>by
   cases mx' with
   |none=>simp only[Option.getD_none];omega
   |some m=>have:=d m rfl;simp only[ZEB];omega
  cases hx with
  |sl0 av _ _ _ ht =>
   have hb:=Zam (P:=P) (is:=true) (n:=0) (cap:=0) h1 h2 h3 hmh a b (mk 0 (ZEd _)).1 (mk 0 (ZEd _)).2;have e2:hi'.getD ((0:Nat):Int)=0:=by omega
   have e1:lo'.getD 0=0:=by omega
   have e3:mx'.getD ((0:Nat):Int)=0:=by have:=mk 0 (ZEd _);omega
   simp only[Int.natCast_zero]at e2 e3;refine⟨.slice av 0 0,?_,?_⟩;·cases av<;>simp only[Instr.sliceAt,Sem.run_bind,run_underlying hu,Result.andThen_ok,Instr.slice,hb];all_goals simp[e1,e2,e3,YI hsz]
   have:(hi'.getD ((0:Nat):Int)-lo'.getD 0).toNat=0:=by simp[e1,e2]
   rw[this];refine .sl0 av _ _ _ ?_;intro b hb;cases mx' with
   |some m=>simp only[Zbj]at hb;split at hb<;>simp at hb
   |none =>
    simp only[Zbj]at hb;split at hb
    ·cases t with
     |tip b'=>exact absurd rfl (ht b')
     |_=>simp at hb
    simp at hb
  |sl bb o _ cap _ _ _ f hl hc hp hr one ht z hbig =>
   have hb:=Zam (P:=P) (is:=true) (n:=n) (cap:=cap) h1 h2 h3 hmh a b (mk cap z).1 (mk cap z).2;have hm:=mk cap z;simp only[Instr.sliceAt,Sem.run_bind,run_underlying hu,Result.andThen_ok,Instr.slice,hb];simp only[YI hsz,Result.andThen_ok,Sem.run_pure];generalize al:lo'.getD 0=l at *;generalize ak:hi'.getD (n:Int)=h at *;obtain⟨l,rfl⟩:=Int.eq_ofNat_of_zero_le a;obtain⟨h,rfl⟩:=Int.eq_ofNat_of_zero_le (show 0≤h by omega);generalize af:mx'.getD (cap:Int)=m at *;obtain⟨m,rfl⟩:=Int.eq_ofNat_of_zero_le (show 0≤m by omega);simp only[Int.toNat_natCast];refine⟨_,rfl,?_⟩;have ai:((h:Int)-(l:Int)).toNat=h-l:=by omega
   rw[ai];have hle:h≤n:=by omega
   have hlh:l≤h:=by omega
   have hhm:h≤m:=by omega
   have hmc:m≤cap:=by omega
   generalize u:Zbj t n l h mx'=tk;have ad:∀o',(l=0→o'=o)→ZjI w tk bb o' (h-l) (m-l) s':=by
    intro o' aj;cases mx' with
    |some m' =>simp only[Zbj]at u;simp only[ZEB]at af;split at u;subst u;simp only[ZjI];omega;subst u;trivial
    |none =>
     simp only[Zbj]at u;simp only[Option.getD_none]at af;have ag:m=cap:=by omega
     split at u
     ·rename_i hhn';cases t with
      |none=>simp only at u;subst u;trivial
      |full=>simp only at u;subst u;simp only[ZjI]at ht⊢;omega
      |tip b' =>
       simp only at u;split at u;rename_i hl0;subst u;obtain⟨t1,t2,t3⟩:=ht;have ae:l=0:=by omega
       exact⟨t1,(aj ae).trans t2,by rw[ag,ae];simpa using t3⟩;subst u;trivial
     subst u;trivial
   by_cases ab:m=l;simp only[ab,if_true];have hh:h-l=0:=by omega
   rw[hh,Nat.sub_self];have ac:=ad o (fun _=>rfl);rw[hh,ab,Nat.sub_self]at ac;exact .sl bb o 0 0 s' _ tk (fun _ _=>undef) (fun i hi=>by omega) (fun i j hi=>by omega) (fun i j hi=>by omega) (fun i j d hi=>by omega) (fun i j hi=>by omega) ac (by omega) (by omega);simp only[ab,if_false,ZEp,WW];refine .sl bb (o+l*s') (h-l) (m-l) s' _ tk (fun i j=>f (l+i) j) (fun i hi=>hl _ (by omega)) (fun i j hi hj=>?_) (fun i j hi hj=>?_) (fun i j d hi hd=>hr _ _ _ (by omega) hd)
    (fun i j hi hj=>one _ _ (by omega) hj) (ad _ (fun h0=>by rw[h0];simp)) (by omega) (by omega)
   have:=hc (l+i) j (by omega) hj;rw[show o+l*s'+i*s'+j=o+(l+i)*s'+j from by rw[ZEo];omega];exact this;have:=hp (l+i) j (by omega) hj;rw[show o+l*s'+i*s'+j=o+(l+i)*s'+j from by rw[ZEo];omega];exact this
 ·
  rename_i bb o n cap s';split at hq<;>(try(simp at hq;done));rename_i ah;subst ah;simp only[ZDV,ZD7]at hq;obtain⟨rfl,rfl⟩:=hq;obtain⟨a,b,c,d⟩:=hs;cases hx with
  |mslx av _ _ _ =>
   have hb:=Zam (P:=P) (is:=true) (n:=0) (cap:=0) h1 h2 h3 hmh a b c d;have e3:mx'.getD ((0:Nat):Int)=0:=by omega
   have e2:hi'.getD ((0:Nat):Int)=0:=by omega
   have e1:lo'.getD 0=0:=by omega
   refine⟨.slice (sO av) 0 0,?_,?_⟩;simp only[Instr.sliceAt,Sem.run_bind,run_underlying hu,Result.andThen_ok,Instr.slice,hb];simp only[Int.natCast_zero]at e2 e3;simp[e1,e2,e3,YI hsz];rw[e1,e2,e3];exact .mslx _ _ _ _
  |msl _ _ _ _ _ hn hb' =>
   have hb:=Zam (P:=P) (is:=true) (n:=n) (cap:=cap) h1 h2 h3 hmh a b c d;simp only[Instr.sliceAt,Sem.run_bind,run_underlying hu,Result.andThen_ok,Instr.slice,hb];simp only[YI hsz,Result.andThen_ok,Sem.run_pure];generalize al:lo'.getD 0=l at *;generalize ak:hi'.getD (n:Int)=h at *;generalize af:mx'.getD (cap:Int)=m at *;obtain⟨l,rfl⟩:=Int.eq_ofNat_of_zero_le a;obtain⟨h,rfl⟩:=Int.eq_ofNat_of_zero_le (show 0≤h by omega);obtain⟨m,rfl⟩:=Int.eq_ofNat_of_zero_le (show 0≤m by omega);simp only[Int.toNat_natCast,show((h:Int)-(l:Int)).toNat=h-l by omega,show((m:Int)-(l:Int)).toNat=m-l by omega];refine⟨_,rfl,?_⟩;by_cases ab:m=l;subst ab;simp only[if_true];exact .msl _ _ _ _ _ (by omega) (by omega);have:¬(m:Int)=l:=by omega
   simp only[ab,this,if_false,ZEp,WW];exact .msl _ _ _ _ _ (by omega) (by omega)
end
section
variable {P:Program} {g:G} {ν:Nat→Nat} {w:World} {L:Loc} {σ:St}
theorem Zpl{s:TypeId}{k:Nat}{f:Field}(h:Zgl P s k=sO f):∃fs,P.underlying s=sO (.struct fs)∧fs[k]?=sO f:=by
 unfold Zgl at h;split at h;rename_i fs hu;exact⟨fs,hu,h⟩;simp at h
theorem Zsr{s:TypeId}{k n:Nat}{f:Field}{x:Value}{e r:E}(hf:Zgl P s k=sO f)(hsz:ZY P f.type=sO n)(hn:n≠0)(hx:ZK g ν w L x e)(hq:qv L σ (.faddr f.offset) [e]=sO (side,r)):∃v,(Instr.fieldAt s x k).run P w=.ok v w∧ZK g ν w L v r:=by
 obtain⟨fs,hu,hk⟩:=Zpl hf;have run:∀b o,(Instr.fieldAt s (.pointer (sO ⟨b,o,nO⟩)) k).run P w=.ok (.pointer (sO ⟨b,o+f.offset,nO⟩)) w:=fun b o=>by simp[Instr.fieldAt,run_underlying hu,hk,Instr.sureAddr,fieldPlace,YI hsz,hn,WW]
 cases e with
 |d y =>
  cases y<;>simp only[qv,reduceCtorEq,ZDV,ZD7]at hq
  ·rename_i cells off;obtain⟨rfl,rfl⟩:=hq;cases hx with
   |ep b o _ _ f' h1 h2 h3 one =>have:=Rep.ep (g:=g) (w:=w) b o (off+f.offset) cells f' h1 h2 h3 one;exact⟨_,run _ _,by rw[Nat.add_assoc];exact this⟩
  obtain⟨rfl,rfl⟩:=hq;cases hx;exact⟨_,run _ _,.ptr _ _⟩
 |loc l o =>simp only[qv,ZDV,ZD7]at hq;obtain⟨rfl,rfl⟩:=hq;obtain⟨h1,rfl⟩:=hx;exact⟨_,run _ _,h1,rfl⟩
 |when b e=>simp[qv]at hq
theorem Zss{t e:TypeId}{n:Nat}{x i:Value}{ex ei r:E}(hu:P.underlying t=sO (.slice e))(hsz:ZY P e=sO n)(hx:ZK g ν w L x ex)(hi:ZK g ν w L i ei)(hq:qv L σ (.iaddr n) [ex,ei]=sO (side,r))(hs:side):∃v,(Instr.indexAt t x i).run P w=.ok v w∧ZK g ν w L v r:=by
 cases ex with
 |d y =>
  cases y<;>(try(simp[qv]at hq;done))
  ·rename_i tk m s' row;cases ei with
   |d z =>
    cases z<;>simp only[qv,reduceCtorEq]at hq;rename_i k j;obtain⟨rfl,ad⟩:=KQ hi;split at hq<;>(try(simp at hq;done));rename_i ac;subst ac;simp only[ZDV,ZD7]at hq;obtain⟨rfl,rfl⟩:=hq;obtain⟨h0,h1⟩:=hs;cases hx with
    |sl0=>omega
    |sl b o _ cap _ _ _ f hl hc hp hr one ht hcap hbig =>
     have ab:j.toNat<m:=by omega
     have:=Rep.ep (g:=g) (w:=w) b (o+j.toNat*s') 0 (row j.toNat) (fun c=>f j.toNat c) (fun c u=>by
      rw[hl _ ab]at u;exact hc _ _ ab u) (fun c u=>by rw[hl _ ab]at u;exact hp _ _ ab u) (fun c d hd=>hr _ _ _ ab hd) (fun c u=>by rw[hl _ ab]at u;exact one _ _ ab u)
     refine⟨_,?_,this⟩;simp[Instr.indexAt,asIntOf,run_underlying hu,h0,h1,YI hsz,WW]
   |loc l o=>simp[qv]at hq
   |when b e=>simp[qv]at hq
  rename_i b o m cap s';cases ei with
  |d z =>
   cases z<;>simp only[qv,reduceCtorEq]at hq;rename_i k j;obtain⟨rfl,ad⟩:=KQ hi;split at hq<;>(try(simp at hq;done));rename_i ac;subst ac;simp only[ZDV,ZD7]at hq;obtain⟨rfl,rfl⟩:=hq;obtain⟨h0,h1⟩:=hs;cases hx<;>try omega
   refine⟨_,?_,Rep.ptr b (o+j.toNat*s')⟩;simp[Instr.indexAt,asIntOf,run_underlying hu,h0,h1,YI hsz,WW]
  |loc l o=>simp[qv]at hq
  |when b e=>simp[qv]at hq
 |loc l o=>cases ei<;>simp[qv]at hq
 |when b e=>cases ei<;>simp[qv]at hq
theorem ZrQ{t e:TypeId}{m n:Nat}{x i:Value}{ex ei r:E}(hu:P.underlying t=sO (.array m e))(hsz:ZY P e=sO n)(hx:ZK g ν w L x ex)(hi:ZK g ν w L i ei)(hq:qv L σ (.iaddrA m n) [ex,ei]=sO (side,r))(hs:side):∃v,(Instr.indexAt t x i).run P w=.ok v w∧ZK g ν w L v r:=by
 cases ei with
 |d z =>
  cases z<;>(try(cases ex<;>(try(rename_i y;cases y))<;>simp[qv]at hq;done));rename_i k j;obtain⟨rfl,hin⟩:=KQ hi;have run:∀b o,(0≤j∧j<(m:Int))→(Instr.indexAt t (.pointer (sO ⟨b,o,nO⟩)) (.int k j)).run P w=.ok (.pointer (sO ⟨b,o+j.toNat*n,nO⟩)) w:=fun b o h=>by simp[Instr.indexAt,asIntOf,run_underlying hu,h.1,h.2,YI hsz,WW,Instr.sureAddr]
  cases ex with
  |d y =>
   cases y<;>simp only[qv,reduceCtorEq,ZDV,ZD7]at hq
   ·rename_i cells off;obtain⟨rfl,rfl⟩:=hq;cases hx with
    |ep b o _ _ f' h1 h2 h3 one =>have:=Rep.ep (g:=g) (w:=w) b o (off+j.toNat*n) cells f' h1 h2 h3 one;exact⟨_,run _ _ hs,by rw[Nat.add_assoc];exact this⟩
   rename_i b o;obtain⟨rfl,rfl⟩:=hq;cases hx;exact⟨_,run _ _ hs,Rep.ptr _ _⟩
  |loc l o =>simp only[qv,ZDV,ZD7]at hq;obtain⟨rfl,rfl⟩:=hq;obtain⟨h1,rfl⟩:=hx;exact⟨_,run _ _ hs,h1,rfl⟩
  |when b e=>simp[qv]at hq
 |loc l o=>cases ex<;>(try(rename_i y;cases y))<;>simp[qv]at hq
 |when b e=>cases ex<;>(try(rename_i y;cases y))<;>simp[qv]at hq
theorem ev{s:Sem Value}{e:E}(h:∃v,s.run P w=.ok v w∧ZK g ν w L v e):
  ∃v,(do pure (Next.value (←s)):Sem Next).run P w=.ok (.value v) w∧ZK g ν w L v e:=ZwI.next h
theorem Zsv{x:Value}{e r:E}{op:Operand}{ρv:Operand→Value}(hv:ρv op=x)(hx:ZK g ν w L x e)(hq:qv L σ .nilck [e]=sO (side,r))(dst:Option Nat)(ty:TypeId)(pos:String)(af:Array Edge)(gd:Option (Nat×Bool)):∃v,(execOp ρv ⟨dst,.nilCheck op,ty,pos,af,gd⟩).run P w=.ok (.value v) w∧ZK g ν w L v r:=by
 subst hv;cases e with
 |d y =>cases y<;>simp only[qv,reduceCtorEq,ZDV,ZD7]at hq;obtain⟨rfl,rfl⟩:=hq;refine⟨_,?_,hx⟩;have i:Rep g w (ρv op) _:=hx;generalize hz:ρv op=z at i;cases i;simp[execOp,hz];obtain⟨rfl,rfl⟩:=hq;refine⟨_,?_,hx⟩;have i:Rep g w (ρv op) _:=hx;generalize hz:ρv op=z at i;cases i;simp[execOp,hz];rename_i fn fs cs;refine⟨ρv op,?_,?_⟩;have i:Rep g w (ρv op) _:=hx;generalize hz:ρv op=z at i;cases i;cases fn<;>simp at hq;simp[execOp,hz];simp[execOp,hz];cases fn<;>simp at hq;obtain⟨_,rfl⟩:=hq;exact hx;obtain⟨_,rfl⟩:=hq;exact hx
 |loc l o =>simp only[qv,ZDV,ZD7]at hq;obtain⟨rfl,rfl⟩:=hq;refine⟨_,?_,hx⟩;obtain⟨_,h2⟩:=hx;simp[execOp,h2]
 |when b e=>simp[qv]at hq
end
section
variable {P:Program} {g:G} {ν:Nat→Nat} {w:World} {L:Loc} {σ:St}
theorem ZgS{ρv:Operand→Value}{lo hi mx:Option Operand}{es:List E}{l h m:Option Int}(hes:ZJ (ZK g ν w L) ((Qo lo++Qo hi++Qo mx).map ρv) es)(hl:Wq [lo.isSome,hi.isSome,mx.isSome] es=sO [l,h,m]):QR g w (lo.map ρv) l∧QR g w (hi.map ρv) h∧QR g w (mx.map ρv) m:=by
 have step:∀(o:Option Operand) (rest:List Operand) (es:List E) (bs:List Bool) (r:List (Option Int)),ZJ (ZK g ν w L) ((Qo o++rest).map ρv) es→Wq (o.isSome::bs) es=sO r →
   ∃x r' es',r=x::r'∧QR g w (o.map ρv) x∧Wq bs es'=sO r'∧ZJ (ZK g ν w L) (rest.map ρv) es':=by
  intro o rest es bs r hes hl;cases o with
  |none =>simp only[Option.isSome_none,Wq,ZD9]at hl;obtain⟨r',i,rfl⟩:=hl;exact⟨nO,r',es,rfl,trivial,i,by simpa[Qo]using hes⟩
  |some x =>
   simp only[Qo,Option.toList_some,List.singleton_append,ZEc]at hes;cases hes with
   |cons hx ht =>
    rename_i e es;cases e with
    |d y =>cases y<;>simp only[Option.isSome_some,Wq,reduceCtorEq,ZD9]at hl;obtain⟨r',i,rfl⟩:=hl;exact⟨_,r',es,rfl,⟨_,hx⟩,i,ht⟩
    |loc l o=>simp[Wq]at hl
    |when c e=>simp[Wq]at hl
 rw[ZEA]at hes;obtain⟨x,r1,u,e1,b1,t,n⟩:=step lo _ es _ _ hes hl;obtain⟨y,r2,ab,e2,b2,ac,j⟩:=step hi _ u _ _ n t;obtain⟨z,r3,es3,e3,b3,hl3,hes3⟩:=step mx [] ab _ _ (by simpa using j) ac;subst e2;subst e3;simp only[List.cons.injEq]at e1;obtain⟨rfl,rfl,rfl,rfl⟩:=e1;exact⟨b1,b2,b3⟩
theorem Zj3{v:Value}{l:List UInt8}(h:Rep g w v (.str l)):∃s:ByteArray,v=.string s∧s.data.toList=l∧l.length≤big:=by
 cases h with
 |str s _ h hb=>exact⟨s,rfl,h,hb⟩
theorem Zbq{v:Value}{b:Bool}(h:Rep g w v (.bool b)):v=.bool b:=by
 cases h;rfl
theorem ZrT{t:TypeId}(hu:P.underlying t=sO .string){ρv:Operand→Value}{x:Operand}{lo hi:Option Operand}{es:List E}(hes:ZJ (ZK g ν w L) ((x::(Qo lo++Qo hi)).map ρv) es){r:E}(hq:qv L σ (.sliceS lo.isSome hi.isSome) es=sO (side,r))(hs:side):
  ∃v,(Instr.sliceAt t (ρv x) (lo.map ρv) (hi.map ρv) nO).run P w=.ok v w∧ZK g ν w L v r:=by
 simp only[ZEc]at hes;cases hes with
 |cons hx ht =>
  rename_i e es;cases e with
  |loc l o=>simp[qv]at hq
  |when c e=>simp[qv]at hq
  |d y =>
   cases y<;>(try(simp[qv]at hq;done));rename_i s;simp only[qv]at hq;split at hq;rename_i l h m hl;simp only[ZDV,ZD7]at hq;obtain⟨rfl,rfl⟩:=hq;obtain⟨b1,b2,b3⟩:=ZgS (mx:=nO) (by simpa[Qo]using ht) hl;obtain⟨a,b,c⟩:=hs;obtain⟨s0,j,e0,hb0⟩:=Zj3 hx;have i:s0.size=s.length:=by rw[←e0];rfl
   have hb:=Zam (P:=P) (is:=false) (n:=s0.size) (cap:=s0.size) (mx:=nO) (mx':=nO) b1 b2 trivial (by simp) a (by rw[i];exact b) (by rw[i];simpa using c) (by simp);simp only[Instr.sliceAt,Sem.run_bind,run_underlying hu,Result.andThen_ok,Instr.slice,j];simp only[Option.isSome_none,ZEq,if_false,hb,Result.andThen_ok,Sem.run_pure,Sem.run_bind];refine⟨_,rfl,.str _ _ ?_ ?_⟩;rw[i];simp only[ByteArray.data_extract,Array.toList_extract,List.extract_eq_take_drop,e0];simp;omega;simp at hq
theorem Zsw{t el:TypeId}{n:Nat}(hu:P.underlying t=sO (.slice el))(hsz:ZY P el=sO n){ρv:Operand→Value}{x:Operand}{lo hi mx:Option Operand}{es:List E}(hmh:mx.isSome=true→hi.isSome=true)(hes:ZJ (ZK g ν w L) ((x::(Qo lo++Qo hi++Qo mx)).map ρv) es){r:E}(hq:qv L σ (.slice n lo.isSome hi.isSome mx.isSome) es=sO (side,r))(hs:side):
  ∃v,(Instr.sliceAt t (ρv x) (lo.map ρv) (hi.map ρv) (mx.map ρv)).run P w=.ok v w∧ZK g ν w L v r:=by
 simp only[ZEc]at hes;cases hes with
 |cons hx ht =>
  rename_i e es;cases e with
  |loc l o=>simp[qv]at hq
  |when c e=>simp[qv]at hq
  |d y =>simp only[qv]at hq;split at hq;rename_i l h m hl;simp only[ZD9,ZD7]at hq;obtain⟨⟨s',r'⟩,i,rfl,rfl⟩:=hq;obtain⟨b1,b2,b3⟩:=ZgS ht hl;exact ZxN hu hsz hx b1 b2 b3 (by simpa using hmh) i hs;simp at hq
theorem ZrS{t el:TypeId}{k n:Nat}(hu:P.underlying t=sO (.array k el))(hsz:ZY P el=sO n){ρv:Operand→Value}{x:Operand}{lo hi mx:Option Operand}{es:List E}(hmh:mx.isSome=true→hi.isSome=true)(hes:ZJ (ZK g ν w L) ((x::(Qo lo++Qo hi++Qo mx)).map ρv) es){r:E}(hq:qv L σ (.sliceA k n lo.isSome hi.isSome mx.isSome) es=sO (side,r))(hs:side):
  ∃v,(Instr.sliceAt t (ρv x) (lo.map ρv) (hi.map ρv) (mx.map ρv)).run P w=.ok v w∧ZK g ν w L v r:=by
 simp only[ZEc]at hes;cases hes with
 |cons hx ht =>
  rename_i e es;cases e with
  |loc l o=>simp[qv]at hq
  |when c e=>simp[qv]at hq
  |d y =>
   cases y<;>(try(simp[qv]at hq;done));rename_i b o;simp only[qv]at hq;split at hq;rename_i l h m hl;simp only[ZDV,ZD7]at hq;obtain⟨rfl,rfl⟩:=hq;obtain⟨b1,b2,b3⟩:=ZgS ht hl;obtain⟨h1,h2,h3,h4,h5⟩:=hs;have hb:=Zam (P:=P) (is:=false) (n:=k) (cap:=k) b1 b2 b3 (by simpa using hmh) h1 h2 h3 h4;have u:ρv x=.pointer (sO ⟨b,o,nO⟩):=by have z:Rep g w (ρv x) (.ptr b o):=hx;generalize ρv x=xv at z;cases z;rfl
   have j:Rep g w (.slice (sO ⟨b,(if m.getD (k:Int)=l.getD 0 then o else o+(l.getD 0).toNat*n),nO⟩) (h.getD (k:Int)-l.getD 0).toNat (m.getD (k:Int)-l.getD 0).toNat)
     (.msl b (if m.getD (k:Int)=l.getD 0 then o else o+(l.getD 0).toNat*n) (h.getD (k:Int)-l.getD 0).toNat (m.getD (k:Int)-l.getD 0).toNat n):=.msl _ _ _ _ _ (by omega) (by omega)
   refine⟨_,?_,j⟩;have e1:(h.getD (k:Int)-l.getD 0).toNat=(h.getD (k:Int)).toNat-(l.getD 0).toNat:=by omega
   have e2:(m.getD (k:Int)-l.getD 0).toNat=(m.getD (k:Int)).toNat-(l.getD 0).toNat:=by omega
   by_cases hm:m.getD (k:Int)=l.getD 0;have i:(m.getD (k:Int)).toNat=(l.getD 0).toNat:=by omega
   simp only[Instr.sliceAt,u,Instr.sureAddr,Sem.run_bind,run_underlying hu,Result.andThen_ok,Sem.run_pure,hb,YI hsz,hm,if_true,e1,i];simp;have i:¬(m.getD (k:Int)).toNat=(l.getD 0).toNat:=by omega
   simp only[Instr.sliceAt,u,Instr.sureAddr,Sem.run_bind,run_underlying hu,Result.andThen_ok,Sem.run_pure,hb,YI hsz,hm,i,if_false,e1,e2,WW];simp at hq
end
section
variable {P:Program} {g:G} {ν:Nat→Nat} {w:World} {L:Loc} {σ:St}
theorem Zpk{s:TypeId}{k:Nat}{f:Field}{x:Value}{e r:E}{q:Q}(hf:Zgl P s k=sO f)(hq0:(Jw P f.type=sO true∧∃n,ZY P f.type=sO n∧q=.fldN f.offset n)∨(Jw P f.type=sO false∧q=.fld1 f.offset))(hx:ZK g ν w L x e)(hq:qv L σ q [e]=sO (side,r))(hs:side):∃v,(Instr.field s x k).run P w=.ok v w∧ZK g ν w L v r:=by
 obtain⟨fs,hu,hk⟩:=Zpl hf;rcases hq0 with ⟨ha,n,hn,rfl⟩|⟨ha,rfl⟩
 ·cases e with
  |d y =>
   cases y<;>simp only[qv,reduceCtorEq,ZDV,ZD7]at hq;obtain⟨rfl,rfl⟩:=hq;cases hx with
   |agg vs cells hl h one =>
    rename_i cs;refine⟨.agg (vs.toArray.extract f.offset (f.offset+n)),?_,?_⟩;simp[Instr.field,run_underlying hu,hk,asAgg,Go.part,Ze6 ha,YI hn];have:vs.toArray.extract f.offset (f.offset+n)=((vs.drop f.offset).take n).toArray:=by apply Array.ext';simp[List.extract_eq_take_drop,Nat.add_sub_cancel_left]
    rw[this];exact Zj1 (by simpa[part]using((Yf hl h).drop f.offset).take n) (fun v hv=>one v (List.mem_of_mem_drop (List.mem_of_mem_take (by simpa using hv))))
  |loc l o=>simp[qv]at hq
  |when b e=>simp[qv]at hq
 cases e with
 |d y =>
  cases y<;>simp only[qv,reduceCtorEq,ZD9,ZD7]at hq;obtain⟨d,hd,rfl,rfl⟩:=hq;cases hx with
  |agg vs cells hl h one =>obtain⟨v,hv,hr⟩:=Zbr hl h hd;exact⟨v,by simp[Instr.field,run_underlying hu,hk,asAgg,Go.part,ZdL ha,hv],hr⟩
 |loc l o=>simp[qv]at hq
 |when b e=>simp[qv]at hq
theorem ZuN{t:TypeId}{x i:Value}{ex ei r:E}(hu:P.underlying t=sO .string)(hx:ZK g ν w L x ex)(hi:ZK g ν w L i ei)(hq:qv L σ .idxS [ex,ei]=sO (side,r))(hs:side):∃v,(Instr.index t x i).run P w=.ok v w∧ZK g ν w L v r:=by
 cases ex with
 |d y =>
  cases y<;>(try(simp[qv]at hq;done));rename_i s;cases ei with
  |d z =>
   cases z<;>simp only[qv,reduceCtorEq,ZDV,ZD7]at hq;rename_i k j;obtain⟨rfl,hin⟩:=KQ hi;obtain⟨s0,rfl,e0,hb⟩:=Zj3 hx;obtain⟨rfl,rfl⟩:=hq;obtain⟨h0,h1⟩:=hs;have hsz:s0.size=s.length:=by rw[←e0];rfl
   have u:j.toNat<s0.size:=by omega
   have n:s0[j.toNat]?=sO (s.getD j.toNat 0):=by
    have h3:j.toNat<s.length:=by omega
    have:s0[j.toNat]?=s0.data.toList[j.toNat]?:=by rw[getElem?_pos s0 j.toNat u,Array.getElem?_toList,Array.getElem?_eq_getElem (show j.toNat<s0.data.size from u)];rfl
    rw[this,e0];simp[ZEb,ZEr h3]
   refine⟨_,?_,.int _ _ (Zq9 _)⟩;simp[Instr.index,asIntOf,run_underlying hu,h0,n]
  |loc l o=>simp[qv]at hq
  |when b e=>simp[qv]at hq
 |loc l o=>cases ei<;>simp[qv]at hq
 |when b e=>cases ei<;>simp[qv]at hq
theorem ZuM{t e:TypeId}{m n:Nat}{b:Bool}{x i:Value}{ex ei r:E}(hu:P.underlying t=sO (.array m e))(ha:Jw P e=sO b)(hsz:ZY P e=sO n)(hx:ZK g ν w L x ex)(hi:ZK g ν w L i ei)(hq:qv L σ (.idxA m n !b) [ex,ei]=sO (side,r))(hs:side):∃v,(Instr.index t x i).run P w=.ok v w∧ZK g ν w L v r:=by
 cases ex with
 |d y =>
  cases y<;>(try(cases b<;>simp[qv]at hq;done));rename_i cs;cases ei with
  |d z =>
   cases z<;>(try(cases b<;>simp[qv]at hq;done));rename_i k j;obtain⟨rfl,hin⟩:=KQ hi;cases hx with
   |agg vs _ hn h one =>
   cases b with
   |false =>
    simp only[Bool.not_false,qv,ZD9,ZD7]at hq;obtain⟨d,hd,rfl,rfl⟩:=hq;obtain⟨h0,h1⟩:=hs;obtain⟨v,hv,hr⟩:=Zbr hn h hd;refine⟨v,?_,hr⟩;simp only[Instr.index,asIntOf,Sem.run_bind,Sem.run_pure,Result.andThen_ok,run_underlying hu,YI hsz];rw[if_pos ⟨h0,h1⟩];have ab:vs.toArray[j.toNat*n]?=sO v:=by rw[List.getElem?_toArray];exact hv
    rw[Sem.run_bind,YI hsz];exact ZcE ha ab
   |true =>
    simp only[Bool.not_true,qv,ZDV,ZD7]at hq;obtain⟨rfl,rfl⟩:=hq;obtain⟨h0,h1,h2⟩:=hs;have hlen:j.toNat*n+n≤vs.length:=by omega
    refine⟨.agg (vs.toArray.extract (j.toNat*n) (j.toNat*n+n)),?_,?_⟩;simp only[Instr.index,asIntOf,Sem.run_bind,Sem.run_pure,Result.andThen_ok,run_underlying hu,YI hsz];rw[if_pos ⟨h0,h1⟩];simp[Go.part,Ze6 ha,YI hsz];have:(vs.toArray.extract (j.toNat*n) (j.toNat*n+n))=((vs.drop (j.toNat*n)).take n).toArray:=by apply Array.ext';simp[List.extract_eq_take_drop]
    rw[this];have ac:part cs (j.toNat*n) n=(cs.drop (j.toNat*n)).take n:=rfl;rw[ac];have u:=(Yf hn h).drop (j.toNat*n) |>.take n;exact .agg _ _ u.len u.get (fun v hv=>one v (List.mem_of_mem_drop (List.mem_of_mem_take hv)))
  |loc l o=>cases b<;>simp[qv]at hq
  |when c e=>cases b<;>simp[qv]at hq
 |loc l o=>cases ei<;>cases b<;>simp[qv]at hq
 |when c e=>cases ei<;>cases b<;>simp[qv]at hq
theorem ZuR{t:TypeId}{ts:Array TypeId}{x:Value}{e r:E}(ht:ts[0]?=sO t)(hu:P.underlying t=sO .string)(hx:ZK g ν w L x e)(hq:qv L σ .lenS [e]=sO (side,r))(ty:TypeId):∃v,(Builtin.len_ ts ty #[x]).run P w=.ok v w∧ZK g ν w L v r:=by
 cases e with
 |d y =>
  cases y<;>simp only[qv,reduceCtorEq,ZDV,ZD7]at hq;obtain⟨rfl,rfl⟩:=hq;obtain⟨s0,rfl,e0,hb⟩:=Zj3 hx;rename_i s;have i:s0.size=s.length:=by rw[←e0];rfl
  refine⟨_,?_,.int _ _ (Kv hb)⟩;simp[Builtin.len_,ht,run_underlying hu,goInt,i]
 |loc l o=>simp[qv]at hq
 |when b e=>simp[qv]at hq
theorem ZuP{t el:TypeId}{ts:Array TypeId}{x:Value}{e r:E}(ht:ts[0]?=sO t)(hu:P.underlying t=sO (.slice el))(hx:ZK g ν w L x e)(hq:qv L σ .lenL [e]=sO (side,r))(ty:TypeId):∃v,(Builtin.len_ ts ty #[x]).run P w=.ok v w∧ZK g ν w L v r:=by
 cases e with
 |d y =>
  cases y<;>simp only[qv,reduceCtorEq,ZDV,ZD7]at hq;obtain⟨rfl,rfl⟩:=hq;cases hx;exact⟨_,by simp[Builtin.len_,ht,run_underlying hu,goInt],.int _ _ (Kv (n:=0) (Nat.zero_le _))⟩
  ·obtain⟨rfl,rfl⟩:=hq;cases hx with
   |sl0=>exact⟨_,by simp[Builtin.len_,ht,run_underlying hu,goInt],.int _ _ (Kv (n:=0) (Nat.zero_le _))⟩
   |sl b o _ cap _ _ _ f hl hc hp hr one ht' hcap hbig =>exact⟨_,by simp[Builtin.len_,ht,run_underlying hu,goInt],.int _ _ (Kv (by omega))⟩
  obtain⟨rfl,rfl⟩:=hq;cases hx with
  |mslx=>exact⟨_,by simp[Builtin.len_,ht,run_underlying hu,goInt],.int _ _ (Kv (n:=0) (Nat.zero_le _))⟩
  |msl _ _ _ _ _ h1 h2=>exact⟨_,by simp[Builtin.len_,ht,run_underlying hu,goInt],.int _ _ (Kv (by omega))⟩
 |loc l o=>simp[qv]at hq
 |when b e=>simp[qv]at hq
theorem ZuO{t el:TypeId}{n:Nat}{ts:Array TypeId}{x:Value}{e r:E}(ht:ts[0]?=sO t)(hu:P.underlying t=sO (.array n el))(hq:qv L σ (.lenA n) [e]=sO (side,r))(hs:side)(ty:TypeId):∃v,(Builtin.len_ ts ty #[x]).run P w=.ok v w∧ZK g ν w L v r:=by
 simp only[qv,ZDV,ZD7]at hq;obtain⟨rfl,rfl⟩:=hq;refine⟨.int .i64 n,?_,.int _ _ hs⟩;simp only[Builtin.len_,ht];cases x<;>simp[run_underlying hu,goInt]
theorem Zjp{x y:Value}{ex ey r:E}(mx:Bool)(hx:ZK g ν w L x ex)(hy:ZK g ν w L y ey)(hq:qv L σ (if mx then .max else .min) [ex,ey]=sO (side,r))(ts:Array TypeId)(ty:TypeId):
  ∃v,(if mx then Builtin.max_ ts ty #[x,y] else Builtin.min_ ts ty #[x,y]).run P w=.ok v w∧ZK g ν w L v r:=by
 cases ex with
 |d a =>
  cases a<;>(try(cases mx<;>simp[qv]at hq;done));rename_i k n;cases ey with
  |d b =>
   cases b<;>(try(cases mx<;>simp[qv]at hq;done));rename_i k' m;obtain⟨rfl,h1⟩:=KQ hx;obtain⟨rfl,h2⟩:=KQ hy;cases mx
   ·simp only[qv,ZEq,if_false]at hq;split at hq<;>(try(simp at hq;done));rename_i hk;subst hk;simp only[ZDV,ZD7]at hq;obtain⟨rfl,rfl⟩:=hq;refine⟨.int k (Min.min n m),?_,.int _ _ ?_⟩;have:(if m<n then m else n)=Min.min n m:=by split<;>omega
    simp[Builtin.min_,Builtin.min2,this];unfold inR at *;omega
   simp only[qv,if_true]at hq;split at hq<;>(try(simp at hq;done));rename_i hk;subst hk;simp only[ZDV,ZD7]at hq;obtain⟨rfl,rfl⟩:=hq;refine⟨.int k (Max.max n m),?_,.int _ _ ?_⟩;have:(if m > n then m else n)=Max.max n m:=by split<;>omega
   simp[Builtin.max_,Builtin.max2,this];unfold inR at *;omega
  |loc l o=>cases mx<;>simp[qv]at hq
  |when b e=>cases mx<;>simp[qv]at hq
 |loc l o=>cases mx<;>cases ey<;>simp[qv]at hq
 |when b e=>cases mx<;>cases ey<;>simp[qv]at hq
theorem ZpI{x:Value}{t xt:TypeId}{ok:Bool}{z:D}{e r:E}(hu:∃d,P.underlying t=sO d∧∀ms,d≠.interface ms)(hz:Zc3 P t=sO z)(hx:ZK g ν w L x e)(hq:qv L σ (.tassert t ok z) [e]=sO (side,r)):∃v,(Instr.typeAssert x xt t ok).run P w=.ok v w∧ZK g ν w L v r:=by
 obtain⟨d,hu,ab⟩:=hu;have n:∃zv,(zeroValue t).run P w=.ok zv w∧Rep g w zv z:=by
  unfold Zc3 at hz;cases hi:P.info? t with
  |none=>simp[hi]at hz
  |some i =>
   cases u:i.zero with
   |none=>simp[hi,u]at hz
   |some zv=>simp only[hi,u]at hz;exact⟨zv,by simp[zeroValue,typeInfo,hi,u],Zih hz⟩
 cases e with
 |d y =>
  cases y<;>(try(cases ok<;>simp[qv]at hq;done))
  ·rename_i t' v';cases hx with
   |iface _ v _ hv =>
    cases ok;·simp only[qv]at hq;split at hq<;>(try(simp at hq;done));rename_i j;subst j;simp only[ZDV,ZD7]at hq;obtain⟨rfl,rfl⟩:=hq;refine⟨v,?_,hv⟩;simp only[Instr.typeAssert,Sem.run_bind,run_underlying hu,Result.andThen_ok];cases d<;>first|(simp;done)|(exact absurd rfl (ab _))
    simp only[qv]at hq;split at hq<;>(try(simp at hq;done));rename_i j;subst j;simp only[ZDV,ZD7]at hq;obtain⟨rfl,rfl⟩:=hq;refine⟨.tuple #[v,.bool true],?_,?_⟩;·simp only[Instr.typeAssert,Sem.run_bind,run_underlying hu,Result.andThen_ok];cases d<;>first|(simp;done)|(exact absurd rfl (ab _))
    exact .tup [v,.bool true] _ rfl (ZJ.get (.cons hv (.cons (.bool true) .nil)))
  cases hx;cases ok;simp[qv]at hq;simp only[qv,ZDV,ZD7]at hq;obtain⟨rfl,rfl⟩:=hq;obtain⟨zv,h1,h2⟩:=n;refine⟨.tuple #[zv,.bool false],?_,?_⟩;·simp only[Instr.typeAssert,Sem.run_bind,run_underlying hu,Result.andThen_ok];cases d<;>first|(simp[h1];done)|(exact absurd rfl (ab _))
  exact .tup [zv,.bool false] _ rfl (ZJ.get (.cons h2 (.cons (.bool false) .nil)))
 |loc l o=>cases ok<;>simp[qv]at hq
 |when b e=>cases ok<;>simp[qv]at hq
end
section
variable {P:Program} {g:G} {w:World}
theorem Zbh{t:TypeId}{k:SK}(h:KR P t=sO k):(k=.bool∧P.underlying t=sO .bool)∨(k=.int∧∃ik,P.underlying t=sO (.int ik))∨(k=.str∧P.underlying t=sO .string):=by
 unfold KR at h;split at h<;>simp at h<;>subst h<;>rename_i hu;exact .inl ⟨rfl,hu⟩;exact .inr (.inl ⟨rfl,_,hu⟩);exact .inr (.inr ⟨rfl,hu⟩)
theorem ZdS{t:TypeId}{kp:KP}(h:JE P t=sO kp):(∃k,kp=.sc k∧KR P t=sO k) ∨
  ∃fs l n,kp=.st l∧P.underlying t=sO (.struct fs)∧ZY P t=sO n∧Kd P fs.toList=sO l∧l.map (·.1)=ZEa n∧P.stoodInHeld t=false:=by
 unfold JE at h;split at h;rename_i k hk;simp at h;exact .inl ⟨k,h.symm,hk⟩;split at h<;>(try(simp at h;done));rename_i fs n hu hn;split at h<;>(try(simp at h;done));rename_i l hl;split at h<;>simp at h;rename_i hc;exact .inr ⟨fs,l,n,h.symm,hu,hn,hl,hc.1,hc.2⟩
theorem ZkK{kt:TypeId}{kp:KP}(hk:JE P kt=sO kp){k1 k2:Value}{d1 d2:D}(h1:Rep g w k1 d1)(h2:Rep g w k2 d2){b:Bool}(h:W6 kp d1 d2=sO b):
  (Op.equal kt k1 k2).run P w=.ok b w:=by
 rcases ZdS hk with ⟨k,rfl,hs⟩|⟨fs,l,n,rfl,hu,hn,hl,_,i⟩;exact Zf3 hs h1 h2 h 9999;cases h1<;>cases h2<;>simp only[W6,reduceCtorEq]at h;rename_i v1 xs t r1 o1 v2 ys j r2 o2;split at h<;>(try(simp at h;done));have hf:P.underlying kt=sO (.struct (P.fieldsOf kt)):=by simp[Program.fieldsOf,hu]
 refine(run_equalIn_struct w 9999 kt _ _ hf i).trans ?_;simp only[Program.fieldsOf,hu];exact ZcS t j r1 r2 9998 _ l b hl h
theorem Zct(em:Bool)(n:Nat){vs:List Value}{ds:List D}(hn:vs.length=ds.length):∀(fs:List Field) (l:List (Nat×SK)) (b:Bool),Kd P fs=sO l→Wg ds ds l=sO b →
  (do
   for f in fs do
    if f.name ≠ "_" then Instr.checkKey em (n+1) f.type (←Go.part f.type vs.toArray f.offset):Sem Unit).run P w=.ok () w
 | [],_,_,_,_=>by simp
 |f::fs,l,b,hl,hb=>by
  simp only[Kd]at hl;by_cases hf:f.name = "_";simp only[hf,if_true]at hl;have:=Zct em n hn fs l b hl hb;simp only[List.forIn_cons,hf,ne_eq,not_true_eq_false,if_false,Sem.run_bind,Sem.run_pure,Result.andThen_ok]at this⊢;exact this;simp only[hf,if_false]at hl;split at hl<;>simp only[ZDV,reduceCtorEq]at hl;rename_i k l' hk j;subst hl;simp only[Wg]at hb;split at hb<;>(try(simp at hb;done));rename_i x y hx hy;split at hb<;>(try(simp at hb;done));rename_i b1 b2 hb1 i;have ih:=Zct em n hn fs l' b2 j i;have t:f.offset<vs.length:=by rw[hn];exact(List.getElem?_eq_some_iff.1 hx).1
  have hv:vs.toArray[f.offset]?=sO vs[f.offset]:=by simp[t]
  have hp:=ZcE (P:=P) (w:=w) (Zba hk) hv;have u:(Instr.checkKey em (n+1) f.type vs[f.offset]).run P w=.ok () w:=by rcases Zbh hk with ⟨_,hu⟩|⟨_,ik,hu⟩|⟨_,hu⟩<;>simp[Instr.checkKey,run_underlying hu]
  simp only[List.forIn_cons,hf,ne_eq,not_false_eq_true,if_true,Sem.run_bind,hp,Result.andThen_ok,u,Sem.run_pure]at ih⊢;exact ih
theorem ZqC{kt:TypeId}{kp:KP}(hk:JE P kt=sO kp){k:Value}{d:D}(h:Rep g w k d)(hok:K9 kp d=true)(em:Bool)(n:Nat):(Instr.checkKey em (n+2) kt k).run P w=.ok () w:=by
 rcases ZdS hk with ⟨sk,rfl,hs⟩|⟨fs,l,m,rfl,hu,hn,hl,_,hst⟩;rcases Zbh hs with ⟨_,hu⟩|⟨_,ik,hu⟩|⟨_,hu⟩<;>simp[Instr.checkKey,run_underlying hu];cases h<;>simp[K9,W6]at hok;rename_i vs cells hn r o;obtain⟨b,hb⟩:=Option.isSome_iff_exists.1 hok;split at hb<;>(try(grind;done));have:=Zct (P:=P) (w:=w) em n hn fs.toList l b hl hb;rw[Instr.checkKey];simp[run_underlying hu];first
  | (simp at this;simp[this])
  |simp
theorem Za1{kt:TypeId}{kp:KP}(hk:JE P kt=sO kp){k:Value}{d:D}(h:Rep g w k d)(hok:K9 kp d=true)(em:Bool):(Instr.checkKey em 10000 kt k).run P w=.ok () w:=ZqC hk h hok em 9998
theorem ZoN{kp:KP}{k:D}:∀{es:List (D×D)} {r:Option D},Zbf kp k es=sO r→∃io,QA kp k es=sO io∧r=io.bind fun i=>(es[i]?).map (·.2)
 | [],r,h=>by simp[Zbf]at h;exact⟨nO,rfl,h.symm⟩
 |e::es,r,h=>by simp[Zbf]at h;split at h;rename_i he;simp at h;exact⟨sO 0,by simp[QA,he],by simp[h]⟩;rename_i he;obtain⟨io,h1,h2⟩:=ZoN h;refine⟨io.map (· + 1),by simp[QA,he,h1],?_⟩;rw[h2];cases io<;>simp;grind
theorem ZlP{kp:KP}{k v:D}:∀{es es':List (D×D)},JO kp k v es=sO es'→∃io,QA kp k es=sO io∧es'=match io with
  |none=>es++[(k,v)]
  |some i=>es.set i (k,v)
 | [],es',h=>by simp[JO]at h;exact⟨nO,rfl,h.symm⟩
 |e::es,es',h=>by simp[JO]at h;split at h;rename_i he;simp at h;exact⟨sO 0,by simp[QA,he],by simp[h]⟩;rename_i he;simp at h;obtain⟨r,hr,rfl⟩:=h;obtain⟨io,h1,h2⟩:=ZlP hr;refine⟨io.map (· + 1),by simp[QA,he,h1],?_⟩;rw[h2];cases io<;>simp;grind
theorem ZqR{kp:KP}{k:D}:∀{es es':List (D×D)},ZfJ kp k es=sO es'→∃io,QA kp k es=sO io∧es'=match io with
  |none=>es
  |some i=>es.eraseIdx i
 | [],es',h=>by simp only[ZfJ,ZDV]at h;exact⟨nO,rfl,h.symm⟩
 |e::es,es',h=>by simp[ZfJ]at h;split at h;rename_i he;simp at h;exact⟨sO 0,by simp[QA,he],by simp[h]⟩;rename_i he;simp at h;obtain⟨r,hr,rfl⟩:=h;obtain⟨io,h1,h2⟩:=ZqR hr;refine⟨io.map (· + 1),by simp[QA,he,h1],?_⟩;rw[h2];cases io<;>simp;grind
theorem ZcA{kp:KP}{k:D}:∀{es:List (D×D)} {i:Nat},QA kp k es=sO (sO i)→i<es.length∧∀e,es[i]?=sO e→W6 kp k e.1=sO true
 | [],i,h=>by cases h
 |e::es,i,h=>by
  simp[QA]at h;split at h;rename_i he;cases h;exact⟨by simp,fun x hx=>by cases hx;exact he⟩
  ·simp at h;obtain⟨io,h1,h2⟩:=h;cases io with
   |none=>grind
   |some j =>obtain⟨j',h3,h4⟩:=h2;cases h3;subst h4;obtain⟨a,b⟩:=ZcA h1;exact⟨by simp;omega,fun x hx=>b x (by simpa using hx)⟩
  grind
theorem Zml{kt:TypeId}{kp:KP}(hk:JE P kt=sO kp){k:Value}{dk:D}(hr:Rep g w k dk):∀(es:List MapEntry) (ds:List (D×D)) (n:Nat) (io:Option Nat),es.length=ds.length →
  (∀(i:Nat) (e:MapEntry) (d:D×D),es[i]?=sO e→ds[i]?=sO d→Rep g w e.key d.1)→QA kp dk ds=sO io →
  (Instr.findAsking kt k es n).run P w=.ok (io.bind fun i=>(es[i]?).map fun e=>(n+i,e.val)) w
 | [],[],n,io,_,_,h=>by cases h;simp[Instr.findAsking]
 |e::es,d::ds,n,io,hn,hkey,h=>by simp[QA]at h;have h0:=hkey 0 e d (by simp) (by simp);split at h;rename_i he;cases h;simp[Instr.findAsking,ZkK hk hr h0 he];rename_i he;simp at h;obtain⟨j,h1,rfl⟩:=h;have ih:=Zml hk hr es ds (n+1) j (by simpa using hn) (fun i e d a b=>hkey (i+1) e d (by simpa using a) (by simpa using b)) h1;simp[Instr.findAsking,ZkK hk hr h0 he,ih];cases j<;>simp[Nat.add_assoc,Nat.add_comm 1];grind
 | [],_::_,_,_,hn,_,_=>by grind
 |_::_,[],_,_,hn,_,_=>by grind
theorem Zm0{t:TypeId}{k:SK}{u:TypeDesc}(hs:KR P t=sO k)(hu:P.underlying t=sO u){k1 k2:Value}{d1 d2:D}(h1:Rep g w k1 d1)(h2:Rep g w k2 d2){b:Bool}(h:Yi k d1 d2=sO b):
  Instr.sameNow u k1 k2=sO b:=by
 rcases Zbh hs with ⟨rfl,i⟩|⟨rfl,ik,i⟩|⟨rfl,i⟩<;>(rw[hu]at i;simp only[ZDV]at i;subst i);cases h1<;>cases h2<;>cases h;simp[Instr.sameNow];rename_i a b;cases a<;>cases b<;>rfl;cases h1<;>cases h2<;>simp only[Yi,reduceCtorEq]at h;split at h<;>simp only[reduceCtorEq,ZDV]at h;rename_i hk;subst h;simp only[Instr.sameNow,hk,if_true,ZDV];rename_i a _ _ b _;rw[Bool.eq_iff_iff];simp;cases h1<;>cases h2<;>simp only[Yi,reduceCtorEq,ZDV]at h;rename_i s1 a e1 _ s2 b e2 _;subst h;simp only[Instr.sameNow,ZDV];rw[beq_toListBytes,ZcL e1,ZcL e2,Bool.eq_iff_iff];simp
theorem Zmn{t:TypeId}{sk:SK}{u:TypeDesc}(hs:KR P t=sO sk)(hu:P.underlying t=sO u){k:Value}{dk:D}(hr:Rep g w k dk):∀(es:List MapEntry) (ds:List (D×D)) (n:Nat) (io:Option Nat),es.length=ds.length →
  (∀(i:Nat) (e:MapEntry) (d:D×D),es[i]?=sO e→ds[i]?=sO d→Rep g w e.key d.1)→QA (.sc sk) dk ds=sO io →
  Instr.findNow u k es n=sO (io.bind fun i=>(es[i]?).map fun e=>(n+i,e.val))
 | [],[],n,io,_,_,h=>by simp only[QA,ZDV]at h;subst h;simp[Instr.findNow]
 |e::es,d::ds,n,io,hn,hkey,h=>by simp only[QA]at h;have h0:=hkey 0 e d (by simp) (by simp);split at h;rename_i he;simp only[ZDV]at h;subst h;simp[Instr.findNow,Zm0 hs hu hr h0 he];rename_i he;simp only[ZD9]at h;obtain⟨j,h1,rfl⟩:=h;have ih:=Zmn hs hu hr es ds (n+1) j (by simpa using hn) (fun i e d a b=>hkey (i+1) e d (by simpa using a) (by simpa using b)) h1;simp only[Instr.findNow,Zm0 hs hu hr h0 he,ih];cases j<;>simp[Nat.add_assoc,Nat.add_comm 1];simp at h
 | [],_::_,_,_,hn,_,_=>by simp at hn
 |_::_,[],_,_,hn,_,_=>by simp at hn
theorem ZbW{kt:TypeId}{kp:KP}(hk:JE P kt=sO kp){k:Value}{dk:D}(hr:Rep g w k dk){es:List MapEntry}{ds:List (D×D)}{io:Option Nat}(hn:es.length=ds.length)(hkey:∀(i:Nat) (e:MapEntry) (d:D×D),es[i]?=sO e→ds[i]?=sO d→Rep g w e.key d.1)(h:QA kp dk ds=sO io):
  (Instr.findKey kt k es).run P w=.ok (io.bind fun i=>(es[i]?).map fun e=>(i,e.val)) w:=by
 rcases ZdS hk with ⟨sk,rfl,hs⟩|⟨fs,l,m,rfl,hu,_,_,_,_⟩;obtain⟨u,hu⟩:∃u,P.underlying kt=sO u:=by rcases Zbh hs with ⟨_,hu⟩|⟨_,ik,hu⟩|⟨_,hu⟩<;>exact⟨_,hu⟩
 have:=Zmn hs hu hr es ds 0 io hn hkey h;simp[Instr.findKey,run_underlying hu,this];have ha:=Zml hk hr es ds 0 io hn hkey h;cases es with
 |nil =>
  cases ds with
  |nil=>cases h;simp[Instr.findKey,run_underlying hu,Instr.findNow]
  |cons=>grind
 |cons e es =>
  have:Instr.findNow (.struct fs) k (e::es) 0=nO:=by simp[Instr.findNow,Instr.sameNow]
  simp[Instr.findKey,run_underlying hu,this,ha]
theorem Zev{σ:St}(hS:Yh g σ w){b:Nat}{es:List (D×D)}(h:Kw σ b=sO es):Wz g w b (.map es):=by
 unfold Kw at h;split at h<;>simp at h;rename_i c hc;subst h;exact hS.obj b _ hc
theorem Zr1{t:TypeId}{z:D}(hz:Zc3 P t=sO z):∃zv,(zeroValue t).run P w=.ok zv w∧Rep g w zv z:=by
 unfold Zc3 at hz;cases hi:P.info? t with
 |none=>grind
 |some i =>
  cases j:i.zero with
  |none=>grind
  |some zv=>simp[hi,j]at hz;exact⟨zv,by simp[zeroValue,typeInfo,hi,j],Zih hz⟩
theorem Zhn{a b:Value}{x y:D}(h1:Rep g w a x)(h2:Rep g w b y):Rep g w (.tuple #[a,b]) (.tup [x,y]) :=
 .tup [a,b] _ rfl (ZJ.get (.cons h1 (.cons h2 .nil)))
theorem ZrR{σ:St}(hS:Yh g σ w){t kt et:TypeId}{kp:KP}{z:D}{ok:Bool}(hu:P.underlying t=sO (.map kt et))(hk:JE P kt=sO kp)(hz:Zc3 P et=sO z){m k:Value}{em ek r:E}(hm:ZK g ν w L m em)(hkk:ZK g ν w L k ek)(hq:qv L σ (.lookup kp z ok) [em,ek]=sO (side,r))(hs:side):∃v,(Instr.lookup t m k ok).run P w=.ok v w∧ZK g ν w L v r:=by
 obtain⟨zv,ab,u⟩:=Zr1 (P:=P) (g:=g) (w:=w) hz;cases em with
 |loc l o=>cases ek<;>simp[qv]at hq
 |when c e=>cases ek<;>simp[qv]at hq
 |d dm =>
  cases ek with
  |loc l o=>cases dm<;>simp[qv]at hq
  |when c e=>cases dm<;>simp[qv]at hq
  |d dk =>
   have hr:Rep g w k dk:=hkk;cases dm<;>(try(simp[qv]at hq;done))
   ·rename_i b;simp only[qv]at hq;split at hq<;>(try(simp at hq;done));rename_i es ai;simp only[ZD9,ZD7]at hq;obtain⟨ro,hf,rfl,rfl⟩:=hq;obtain⟨hp0,en,clock,hb,ae,h3,h4,h5,h6⟩:=Zev hS ai;obtain⟨io,ag,ac⟩:=ZoN hf;cases hm;have j:=ZbW (P:=P) hk hr (es:=en.toList) (by simpa using ae) (fun i e d a b=>h3 i e d (by simpa using a) b) ag;have n:=Za1 (P:=P) hk hr hs en.isEmpty;cases io with
    |none =>subst ac;cases ok;exact⟨zv,by simp[Instr.lookup,run_underlying hu,MapKept.run_getObj_map hb,n,j,ab],by simpa[Y7,ZK]using u⟩;exact⟨.tuple #[zv,.bool false],by simp[Instr.lookup,run_underlying hu,MapKept.run_getObj_map hb,n,j,ab],by simpa[Y7,ZK]using Zhn u (.bool false)⟩
    |some i =>
     obtain⟨ah,_⟩:=ZcA ag;have af:i<en.size:=by omega
     have he:en[i]?=sO en[i]:=by simp[af]
     have hd:es[i]?=sO es[i]:=by simp[ah]
     have ad:=h4 i _ _ he hd;simp[hd]at ac;subst ac;simp[he]at j;cases ok;exact⟨en[i].val,by simp[Instr.lookup,run_underlying hu,MapKept.run_getObj_map hb,n,j],by simpa[Y7,ZK]using ad⟩;exact⟨.tuple #[en[i].val,.bool true],by simp[Instr.lookup,run_underlying hu,MapKept.run_getObj_map hb,n,j],by simpa[Y7,ZK]using Zhn ad (.bool true)⟩
   cases hq;cases hm;have n:=Za1 (P:=P) hk hr hs true;have j:=ZbW (P:=P) hk hr (es:=[]) (ds:=[]) rfl (fun i e d a b=>by simp at a) (io:=nO) rfl;cases ok;exact⟨zv,by simp[Instr.lookup,run_underlying hu,n,j,ab],by simpa[Y7,ZK]using u⟩;exact⟨.tuple #[zv,.bool false],by simp[Instr.lookup,run_underlying hu,n,j,ab],by simpa[Y7,ZK]using Zhn u (.bool false)⟩
theorem ZuQ{σ:St}(hS:Yh g σ w){t kt et:TypeId}{ts:Array TypeId}{x:Value}{e r:E}(ht:ts[0]?=sO t)(hu:P.underlying t=sO (.map kt et))(hx:ZK g ν w L x e)(hq:qv L σ .lenM [e]=sO (side,r))(hs:side)(ty:TypeId):∃v,(Builtin.len_ ts ty #[x]).run P w=.ok v w∧ZK g ν w L v r:=by
 cases e with
 |loc l o=>cases hq
 |when c e=>cases hq
 |d y =>
  cases y<;>(try(cases hq;done));·simp[qv]at hq;split at hq<;>(try(grind;done));rename_i es j;cases hq;obtain⟨hp0,en,clock,hb,i,_⟩:=Zev hS j;cases hx;exact⟨.int .i64 es.length,by simp[Builtin.len_,ht,run_underlying hu,MapKept.run_getObj_map hb,goInt,i],.int _ _ (Kv hs)⟩
  cases hq;cases hx;exact⟨.int .i64 0,by simp[Builtin.len_,ht,run_underlying hu,goInt],.int _ _ (Kv (n:=0) (Nat.zero_le _))⟩
end
section
variable {P:Program} {g:G} {ν:Nat→Nat} {w:World} {L:Loc} {σ:St}
theorem Zsq{t:TypeId}{parts:Array (Nat×Operand)}{z:Value}{pl:List (Nat×Nat)}{zs:List D}{ρv:Operand→Value}{es:List E}(hz:(P.info? t).bind (·.zero)=sO z)(hp:KO P t (parts.toList.map (·.1))=sO pl)(hsz:Zjo P t=true)(hzs:Za2 z.cells.toList=sO zs)(hes:ZJ (ZK g ν w L) ((parts.toList.map (·.2)).map ρv) es){r:E}(hq:qv L σ (.build zs pl) es=sO (side,r)):∃v,(Instr.build t (parts.map fun(i,x)=>(i,ρv x))).run P w=.ok v w∧ZK g ν w L v r:=by
 simp[qv]at hq;split at hq<;>(try(grind;done));rename_i ds ab;simp only[ZD9]at hq;obtain⟨cs,n,rfl,rfl⟩:=hq;have u:∃d,P.underlying t=sO d∧((∃fs,d=.struct fs)∨∃m e i,d=.array m e∧P.info? e=sO i):=by
  unfold Zjo at hsz;split at hsz;rename_i fs hu;exact⟨_,hu,.inl ⟨fs,rfl⟩⟩
  ·rename_i m e hu;unfold ZY at hsz;cases hi:P.info? e with
   |none=>grind
   |some i=>exact⟨_,hu,.inr ⟨m,e,i,rfl,hi⟩⟩
  grind
 have j:=KD hes ab;obtain⟨cv,h1,h2⟩:=ZwN (g:=g) (w:=w) (parts:=parts.toList.map fun(i,x)=>(i,ρv x)) hz (by simpa[Function.comp_def]using hp) hsz hzs
  (by simpa[Function.comp_def]using j) n u
 refine⟨_,?_,h2⟩;rw[←h1]
 congr 2
 apply Array.ext';simp
theorem ZuS{f:Fn}{first caps:Array Operand}{ρv:Operand→Value}{es:List E}(hes:ZJ (ZK g ν w L) ((first.toList++caps.toList).map ρv) es){r:E}(hq:qv L σ (.mkfn f first.size) es=sO (side,r)):∃v,(Instr.makeFunc f (first.map ρv) (caps.map ρv)).run P w=.ok v w∧ZK g ν w L v r:=by
 simp only[qv,ZD9]at hq;obtain⟨ds,i,rfl,rfl⟩:=hq;have h:=KD hes i;have h1:=h.take first.size
 have h2:=h.drop first.size
 have e1:((first.toList++caps.toList).map ρv).take first.size=(first.map ρv).toList:=by simp
 have e2:((first.toList++caps.toList).map ρv).drop first.size=(caps.map ρv).toList:=by simp
 rw[e1]at h1;rw[e2]at h2;have:=Rep.fn (g:=g) (w:=w) f _ _ _ _ h1.len h2.len h1.get h2.get;exact⟨_,by simp only[Instr.makeFunc,Sem.run_pure],this⟩
theorem Zah{α:Type}{a:Array α}(h:a.size=1):∃x,a = #[x]:=by
 obtain⟨l⟩:=a
 match l,h with
 | [x],_=>exact⟨x,rfl⟩
theorem Zfx{α:Type}{a:Array α}(h:a.size=2):∃x y,a = #[x,y]:=by
 obtain⟨l⟩:=a
 match l,h with
 | [x,y],_=>exact⟨x,y,rfl⟩
theorem ZyN{o:Op}{q:Q}{xs:List Operand}(hc:cq P o=sO (q,xs)){ρv:Operand→Value}{es:List E}(hes:ZJ (ZK g ν w L) (xs.map ρv) es)(hL:∀l cs,Ze L l=sO cs→YQ g w (ν l) cs)(hS:Yh g σ w){e:E}(hq:qv L σ q es=sO (side,e))(hs:side)(dst:Option Nat)(ty:TypeId)(pos:String)(af:Array Edge)(gd:Option (Nat×Bool)):
  ∃v,(execOp ρv ⟨dst,o,ty,pos,af,gd⟩).run P w=.ok (.value v) w∧ZK g ν w L v e:=by
 cases o<;>(try(simp[cq]at hc;done));case move x =>simp only[cq,ZDV,ZD7]at hc;obtain⟨rfl,rfl⟩:=hc;obtain⟨e0,rfl,h0⟩:=Wj hes;simp only[qv,ZDV,ZD7]at hq;obtain⟨rfl,rfl⟩:=hq;exact⟨_,rfl,h0⟩
 case assign x =>simp only[cq,ZDV,ZD7]at hc;obtain⟨rfl,rfl⟩:=hc;obtain⟨e0,rfl,h0⟩:=Wj hes;simp only[qv,ZDV,ZD7]at hq;obtain⟨rfl,rfl⟩:=hq;exact⟨_,rfl,h0⟩
 case load t a =>simp only[cq]at hc;split at hc<;>(try(simp at hc;done));rename_i n ha j;simp only[ZDV,ZD7]at hc;obtain⟨rfl,rfl⟩:=hc;obtain⟨e0,rfl,h0⟩:=Wj hes;exact ev (Zsu ha j h0 hL hS hq hs);rename_i n ha j;simp only[ZDV,ZD7]at hc;obtain⟨rfl,rfl⟩:=hc;obtain⟨e0,rfl,h0⟩:=Wj hes;exact ev (Zst ha h0 hL hS hq)
 case nilCheck x =>simp only[cq,ZDV,ZD7]at hc;obtain⟨rfl,rfl⟩:=hc;obtain⟨e0,rfl,h0⟩:=Wj hes;exact Zsv rfl h0 hq dst ty pos af gd
 case binOp op t x y yt =>
  simp only[cq,ZDV,ZD7]at hc;obtain⟨rfl,rfl⟩:=hc;obtain⟨e1,e2,rfl,h1,h2⟩:=Jx hes;cases e1 with
  |d a =>
   cases e2 with
   |d b =>simp only[qv,ZD9,ZD7]at hq;obtain⟨⟨s',d⟩,hd,rfl,rfl⟩:=hq;exact ev (Zx9 (P:=P) h1 h2 hd hs)
   |loc l o=>simp[qv]at hq
   |when b e=>simp[qv]at hq
  |loc l o=>cases e2<;>simp[qv]at hq
  |when b e=>cases e2<;>simp[qv]at hq
 case unOp op t x =>
  cases op<;>simp only[cq,ZDV,ZD7,reduceCtorEq]at hc;all_goals obtain⟨rfl,rfl⟩:=hc
  all_goals obtain⟨e0,rfl,h0⟩:=Wj hes
  all_goals cases e0 with
   |loc l o=>simp[qv]at hq
   |when b e=>simp[qv]at hq
   |d y=>?_
  cases y<;>simp only[qv,reduceCtorEq,ZDV,ZD7]at hq;obtain⟨rfl,rfl⟩:=hq;obtain⟨hv,ah⟩:=KQ h0;exact ev ⟨.int _ _,by simp only[hv,Op.unary,Op.intArith,Sem.run_pure,Int.zero_sub];rw[ZaV _ _ hs],.int _ _ hs⟩;cases y<;>simp only[qv,reduceCtorEq,ZDV,ZD7]at hq;obtain⟨rfl,rfl⟩:=hq;obtain⟨hv,ah⟩:=KQ h0;exact ev ⟨_,by simp only[hv,Op.unary,Op.intBits,Sem.run_pure];rfl,.int _ _ (Zkc _ _)⟩;cases y<;>simp only[qv,reduceCtorEq,ZDV,ZD7]at hq;obtain⟨rfl,rfl⟩:=hq;have hv:=Zbq h0;exact ev ⟨_,by simp only[hv,Op.unary,Sem.run_pure],.bool _⟩
 case convert s d x =>simp only[cq,ZD9,ZD7]at hc;obtain⟨c,hc,rfl,rfl⟩:=hc;obtain⟨e0,rfl,h0⟩:=Wj hes;exact ev (ZuL hS hc h0 hq hs)
 case fieldAddr s x k =>simp only[cq]at hc;split at hc<;>(try(simp at hc;done));rename_i f hf;split at hc<;>(try(simp at hc;done));rename_i n hn;split at hc<;>(try(simp at hc;done));rename_i ae;simp only[ZDV,ZD7]at hc;obtain⟨rfl,rfl⟩:=hc;obtain⟨e0,rfl,h0⟩:=Wj hes;exact ev (Zsr hf hn ae h0 hq)
 case field s x k =>simp only[cq]at hc;split at hc<;>(try(simp at hc;done));rename_i f hf;split at hc<;>(try(simp at hc;done));rename_i n ha hn;simp only[ZDV,ZD7]at hc;obtain⟨rfl,rfl⟩:=hc;obtain⟨e0,rfl,h0⟩:=Wj hes;exact ev (Zpk hf (.inl ⟨ha,n,hn,rfl⟩) h0 hq hs);rename_i n ha hn;simp only[ZDV,ZD7]at hc;obtain⟨rfl,rfl⟩:=hc;obtain⟨e0,rfl,h0⟩:=Wj hes;exact ev (Zpk hf (.inr ⟨ha,rfl⟩) h0 hq hs)
 case indexAddr t x i =>simp only[cq]at hc;split at hc<;>(try(simp at hc;done));rename_i el hu;simp only[ZD9,ZD7]at hc;obtain⟨n,hn,rfl,rfl⟩:=hc;obtain⟨e1,e2,rfl,h1,h2⟩:=Jx hes;exact ev (Zss hu hn h1 h2 hq hs);rename_i m el hu;simp only[ZD9,ZD7]at hc;obtain⟨n,hn,rfl,rfl⟩:=hc;obtain⟨e1,e2,rfl,h1,h2⟩:=Jx hes;exact ev (ZrQ hu hn h1 h2 hq hs)
 case index t x i =>simp only[cq]at hc;split at hc<;>(try(simp at hc;done));rename_i hu;simp only[ZDV,ZD7]at hc;obtain⟨rfl,rfl⟩:=hc;obtain⟨e1,e2,rfl,h1,h2⟩:=Jx hes;exact ev (ZuN hu h1 h2 hq hs);rename_i m el hu;split at hc<;>simp only[ZDV,ZD7,reduceCtorEq]at hc;rename_i b n hb hn;obtain⟨rfl,rfl⟩:=hc;obtain⟨e1,e2,rfl,h1,h2⟩:=Jx hes;exact ev (ZuM hu hb hn h1 h2 hq hs)
 case extract x k =>
  simp only[cq,ZDV,ZD7]at hc;obtain⟨rfl,rfl⟩:=hc;obtain⟨e0,rfl,h0⟩:=Wj hes;cases e0 with
  |loc l o=>simp[qv]at hq
  |when b e=>simp[qv]at hq
  |d y =>
   cases y<;>simp only[qv,reduceCtorEq,ZD9,ZD7]at hq;obtain⟨d,hd,rfl,rfl⟩:=hq;have ad:Rep g w (ρv x) _:=h0;generalize hz:ρv x=z at ad;cases ad with
   |tup vs _ hn h =>obtain⟨v,hv,hr⟩:=Zbr hn h hd;exact ev ⟨v,by simp[Instr.extract,hz,hv],hr⟩
 case build t parts =>simp only[cq]at hc;split at hc<;>(try(simp at hc;done));rename_i z pl hz hp;split at hc<;>(try(simp at hc;done));rename_i j;simp only[ZD9,ZD7]at hc;obtain⟨zs,ag,rfl,rfl⟩:=hc;exact ev (Zsq hz hp j ag hes hq)
 case makeFunc f first caps =>simp only[cq,ZDV,ZD7]at hc;obtain⟨rfl,rfl⟩:=hc;exact ev (ZuS hes hq)
 case makeInterface t x =>
  simp only[cq]at hc;split at hc<;>(try(simp at hc;done));rename_i d ab hu;simp only[ZDV,ZD7]at hc;obtain⟨rfl,rfl⟩:=hc;obtain⟨e0,rfl,h0⟩:=Wj hes;cases e0 with
  |loc l o=>simp[qv]at hq
  |when b e=>simp[qv]at hq
  |d y =>simp only[qv,ZDV,ZD7]at hq;obtain⟨rfl,rfl⟩:=hq;refine ev ⟨.iface t (ρv x),?_,.iface _ _ _ h0⟩;refine run_makeInterface w t (ρv x) ?_;unfold Program.concrete;rw[hu];cases d<;>first|rfl|(exact absurd rfl (ab _))
 case slice t x lo hi mx =>
  simp only[cq]at hc;split at hc<;>(try(simp at hc;done))
  ·rename_i hu;split at hc<;>(try(simp at hc;done));rename_i u;simp only[ZDV,ZD7]at hc;obtain⟨rfl,rfl⟩:=hc;cases mx with
   |some _=>simp at u
   |none=>exact ev (ZrT hu hes hq hs)
  ·rename_i el hu;split at hc<;>(try(simp at hc;done));rename_i u;simp only[ZD9,ZD7]at hc;obtain⟨n,hn,rfl,rfl⟩:=hc;exact ev (Zsw hu hn (by cases mx<;>cases hi<;>simp_all) hes hq hs)
  rename_i k el hu;split at hc<;>(try(simp at hc;done));rename_i u;simp only[ZD9,ZD7]at hc;obtain⟨n,hn,rfl,rfl⟩:=hc;exact ev (ZrS hu hn (by cases mx<;>cases hi<;>simp_all) hes hq hs)
 case typeAssert x xt t ok =>simp only[cq]at hc;split at hc<;>(try(simp at hc;done));rename_i d ab hu;simp only[ZD9,ZD7]at hc;obtain⟨z,hz,rfl,rfl⟩:=hc;obtain⟨e0,rfl,h0⟩:=Wj hes;exact ev (ZpI ⟨d,hu,fun ms hm=>ab ms (hm▸rfl)⟩ hz h0 hq)
 case lookup t m k ok =>simp only[cq]at hc;split at hc<;>(try(simp at hc;done));rename_i kt et hu;split at hc<;>(try(simp at hc;done));rename_i kp z hk hz;simp only[ZDV,ZD7]at hc;obtain⟨rfl,rfl⟩:=hc;obtain⟨e1,e2,rfl,h1,h2⟩:=Jx hes;exact ev (ZrR hS hu hk hz h1 h2 hq hs)
 case call c =>
  obtain⟨callee,args,ac⟩:=c;simp only[cq]at hc;split at hc<;>(try(simp at hc;done))
  ·split at hc<;>(try(simp at hc;done));·rename_i hu;simp only[Option.bind_eq_some_iff]at hu;obtain⟨t,ht,hu⟩:=hu;split at hc<;>(try(simp at hc;done));rename_i j;obtain⟨x,rfl⟩:=Zah j;simp only[ZDV,ZD7]at hc;obtain⟨rfl,rfl⟩:=hc;obtain⟨e0,rfl,h0⟩:=Wj hes;obtain⟨v,r1,r2⟩:=ZuR ht hu h0 hq ty;exact⟨v,by simp[execOp,resolve,invoke,builtin,r1],r2⟩
   ·rename_i el hu;simp only[Option.bind_eq_some_iff]at hu;obtain⟨t,ht,hu⟩:=hu;split at hc<;>(try(simp at hc;done));rename_i j;obtain⟨x,rfl⟩:=Zah j;simp only[ZDV,ZD7]at hc;obtain⟨rfl,rfl⟩:=hc;obtain⟨e0,rfl,h0⟩:=Wj hes;obtain⟨v,r1,r2⟩:=ZuP ht hu h0 hq ty;exact⟨v,by simp[execOp,resolve,invoke,builtin,r1],r2⟩
   ·rename_i n el hu;simp only[Option.bind_eq_some_iff]at hu;obtain⟨t,ht,hu⟩:=hu;split at hc<;>(try(simp at hc;done));rename_i j;obtain⟨x,rfl⟩:=Zah j;simp only[ZDV,ZD7]at hc;obtain⟨rfl,rfl⟩:=hc;obtain⟨e0,rfl,h0⟩:=Wj hes;obtain⟨v,r1,r2⟩:=ZuO (x:=ρv x) ht hu hq hs ty;exact⟨v,by simp[execOp,resolve,invoke,builtin,r1],r2⟩
   rename_i kt el hu;simp only[Option.bind_eq_some_iff]at hu;obtain⟨t,ht,hu⟩:=hu;split at hc<;>(try(simp at hc;done));rename_i j;obtain⟨x,rfl⟩:=Zah j;simp only[ZDV,ZD7]at hc;obtain⟨rfl,rfl⟩:=hc;obtain⟨e0,rfl,h0⟩:=Wj hes;obtain⟨v,r1,r2⟩:=ZuQ hS ht hu h0 hq hs ty;exact⟨v,by simp[execOp,resolve,invoke,builtin,r1],r2⟩
  ·split at hc<;>(try(simp at hc;done));rename_i j;obtain⟨x,y,rfl⟩:=Zfx j;simp only[ZDV,ZD7]at hc;obtain⟨rfl,rfl⟩:=hc;obtain⟨e1,e2,rfl,h1,h2⟩:=Jx hes;obtain⟨v,r1,r2⟩:=Zjp (P:=P) false h1 h2 hq ac ty;simp at r1;exact⟨v,by simp[execOp,resolve,invoke,builtin,r1],r2⟩
  split at hc<;>(try(simp at hc;done));rename_i j;obtain⟨x,y,rfl⟩:=Zfx j;simp only[ZDV,ZD7]at hc;obtain⟨rfl,rfl⟩:=hc;obtain⟨e1,e2,rfl,h1,h2⟩:=Jx hes;obtain⟨v,r1,r2⟩:=Zjp (P:=P) true h1 h2 hq ac ty;simp at r1;exact⟨v,by simp[execOp,resolve,invoke,builtin,r1],r2⟩
end
def K6(n:Nat):List Nat→Bool
 | []=>true
 |i::r=>i<n&&!r.contains i&&K6 n r
def ck(P:Program)(op:Op):Option K :=
 match cq P op with
 |some (q,xs)=>(ZbT xs).map (K.q q)
 |none =>
  match op with
  |.pick c a b=>match ZZ c,ZZ a,ZZ b with
   |some c,sO a,sO b=>sO (.pick c a b)
   |_,_,_=>nO
  |.alloc e=>(Zai P e).map .alloc
  |.box _ x=>(ZZ x).map .box
  |.buildSlice t len parts=>match P.underlying t with
   |some (.slice e)=>match ZY P e,Zai P e,ZbT (parts.toList.map (·.2)) with
    |some s,sO z,sO xs =>
     if K6 len (parts.toList.map (·.1))&&dC (z.length=s)&&dC (0<s)&&dC (len*s≤2 ^ 24) then sO (.bsl len s z (parts.toList.map (·.1)) xs) else nO
    |_,_,_=>nO
   |_=>nO
  |.convert s d x=>match P.underlying s,P.underlying d with
   |some .string,sO (.slice e)=>match P.underlying e with
    |some (.int .u8)=>(ZZ x).map .s2b
    |_=>nO
   |_,_=>nO
  |.store t a v=>match Jw P t,ZY P t,ZZ a,ZZ v with
   |some true,sO n,sO a,sO v=>sO (.storeN n a v)
   |some false,sO 1,sO a,sO v=>sO (.store1 a v)
   |_,_,_,_=>nO
  |.makeMap _ nO=>sO .mkmap
  |.mapUpdate t m k x|.insert t m k x=>match P.underlying t with
   |some (.map kt _)=>match JE P kt,ZZ m,ZZ k,ZZ x with
    |some kp,sO m,sO k,sO x=>sO (.mapupd kp m k x)
    |_,_,_,_=>nO
   |_=>nO
  |.mapEntry t m k=>match P.underlying t with
   |some (.map kt e)=>match JE P kt,Zc3 P e,ZZ m,ZZ k with
    |some kp,sO z,sO m,sO k=>sO (.mapent kp z m k)
    |_,_,_,_=>nO
   |_=>nO
  |.entryStore _ m k x=>match ZZ m,ZZ k,ZZ x with
   |some m,sO k,sO x=>sO (.entst m k x)
   |_,_,_=>nO
  |.panic x=>(ZZ x).map .panic
  |.defer c=>match c.callee with
   |.value f=>match ZZ f,ZbT c.args.toList with
    |some f,sO xs=>sO (.defer f xs)
    |_,_=>nO
   |_=>nO
  |.makeSlice t l c=>match P.underlying t with
   |some (.slice e)=>match ZY P e,Zai P e,ZZ l,ZZ c with
    |some s,sO z,sO l,sO c=>if dC (0<s)&&dC (z.length=s) then sO (.mkslice e s (P.bytesOf e) z l c) else nO
    |_,_,_,_=>nO
   |_=>nO
  |.call c=>match c.callee with
   |.value f=>match ZZ f,ZbT c.args.toList with
    |some f,sO xs=>sO (.call f xs)
    |_,_=>nO
   |.builtin .append=>match c.argTypes[0]?.bind P.underlying,c.argTypes[1]?.bind P.underlying,c.args.toList with
    |some (.slice e),sO t2,[x,y]=>match ZY P e,Zai P e,ZZ x,ZZ y with
     |some s,sO z,sO x,sO y =>
      match t2 with
      |.slice _|.string=>if dC (0<s)&&dC (z.length=s) then sO (.append e s (P.bytesOf e) z x y) else nO
      |_=>nO
     |_,_,_,_=>nO
    |_,_,_=>nO
   |.builtin .recover=>sO .recover
   |.builtin .delete=>match c.argTypes[0]?.bind P.underlying,c.args.toList with
    |some (.map kt _),[m,k]=>match JE P kt,ZZ m,ZZ k with
     |some kp,sO m,sO k=>sO (.delete kp m k)
     |_,_,_=>nO
    |_,_=>nO
   |.builtin .clear=>match c.argTypes[0]?.bind P.underlying,c.args.toList with
    |some (.slice e),[x]=>match ZY P e,Zai P e,ZZ x with
     |some s,sO z,sO x=>if dC (0<s)&&dC (z.length=s) then sO (.clear s z x) else nO
     |_,_,_=>nO
    |_,_=>nO
   |.builtin .copy=>match c.argTypes[0]?.bind P.underlying,c.args.toList with
    |some (.slice e),[x,y]=>match ZY P e,ZZ x,ZZ y with
     |some s,sO x,sO y=>if dC (0<s) then sO (.copy s x y) else nO
     |_,_,_=>nO
    |_,_=>nO
   |_=>nO
  |_=>nO
def Zie(ops:Array Oper):Option (Nat×Bool)→Option (Option (Nat×Bool))
 |none=>sO nO
 |some (j,b)=>match (ops[j]?).bind (·.dst) with
  |some t=>sO (sO (t,b))
  |none=>nO
def cop(P:Program)(N:Nat)(ops:Array Oper)(o:Oper):Option DOp :=
 match ck P o.op,Zie ops o.guard with
 |some k,sO g =>
  match o.dst with
  |none=>sO ⟨nO,g,k⟩
  |some d=>if d<N then sO ⟨sO d,g,k⟩ else nO
 |_,_=>nO
def QW(P:Program)(N:Nat)(ops:Array Oper):List Nat→Option (List DOp)
 | []=>sO []
 |i::r=>match ops[i]? with
  |some o=>match cop P N ops o,QW P N ops r with
   |some d,sO ds=>sO (d::ds)
   |_,_=>nO
  |none=>nO
abbrev Ann:=List (Nat×List Nat)
def Ann.get:Ann→Nat→Option (List Nat)
 | [],_=>nO
 | (k,l)::r,n=>if k=n then sO l else Ann.get r n
def ZS:Opd→List Nat
 |.tmp t=>[t]
 |.cst _=>[]
def ZaO(xs:List Opd):List Nat:=xs.flatMap ZS
def Yk:K→List Nat
 |.q _ xs=>ZaO xs
 |.pick c a b=>ZS c++ZS a++ZS b
 |.alloc _|.mkmap|.recover=>[]
 |.box x|.s2b x|.panic x=>ZS x
 |.bsl _ _ _ _ xs=>ZaO xs
 |.store1 a v|.storeN _ a v=>ZS a++ZS v
 |.call f xs|.defer f xs=>ZS f++ZaO xs
 |.append _ _ _ _ x y=>ZS x++ZS y
 |.mapupd _ m k v=>ZS m++ZS k++ZS v
 |.mapent _ _ m k=>ZS m++ZS k
 |.entst m e v=>ZS m++ZS e++ZS v
 |.mkslice _ _ _ _ l c=>ZS l++ZS c
 |.delete _ m k=>ZS m++ZS k
 |.clear _ _ x=>ZS x
 |.copy _ x y=>ZS x++ZS y
 |.fork k=>Yk k
def Zdc:Option (Nat×Bool)→List Nat
 |none=>[]
 |some (t,_)=>[t]
def ZB(o:DOp):List Nat:=Zdc o.guard++Yk o.k
def YU:K→Bool
 |.q _ _|.pick _ _ _|.bsl _ _ _ _ _|.s2b _|.alloc _|.fork _=>true
 |_=>false
def pqK:K→Bool
 |.q _ _|.pick _ _ _|.bsl _ _ _ _ _|.s2b _|.alloc _=>true
 |_=>false
def Zb3:K→Bool
 |.q .load1 _|.q (.loadN _) _=>true
 |_=>false
def YP:K→Bool
 |.q .load1 _|.q (.loadN _) _|.q (.lookup _ _ _) _|.q .lenM _|.q (.conv .b2s) _=>true
 |_=>false
def Zds:K→Bool
 |.store1 _ _|.storeN _ _ _=>true
 |_=>false
def ZtI:K→Bool
 |.alloc _|.fork _=>false
 |_=>true
instance:Inhabited DOp:=⟨⟨nO,nO,.mkmap⟩⟩
abbrev Tab:=List (DOp×List Nat)
def Tab.op(T:Tab)(i:Nat):DOp:=(T.getD i dE).1
def Tab.deps(T:Tab)(i:Nat):List Nat:=(T.getD i dE).2
def nd(d:Option Nat)(l:List Nat):Bool :=
 match d with
 |some t=>!l.contains t
 |none=>true
def ndd:Option Nat→Option Nat→Bool
 |some t,sO u=>t != u
 |_,_=>true
def Zb4(bs:List Nat):List Nat→Nat
 | []=>0
 |d::ds=>(bs.getD d 0 |||(1 <<< d)) |||Zb4 bs ds
def Zfj:List (List Nat)→List Nat→List Nat
 | [],acc=>acc
 |d::r,acc=>Zfj r (acc++[Zb4 acc d])
def Zcu(T:Tab)(A:List Nat)(i:Nat):Bool :=
 pqK (T.op i).k&&nd (T.op i).dst (ZB (T.op i))&&A.all fun a=>nd (T.op i).dst (ZB (T.op a))&&ndd (T.op i).dst (T.op a).dst
def Zbv(o:DOp):Nat:=o.dst.getD 0
def J6(n:Nat):List Nat→Bool
 | []=>false
 |a::l=>a==n ||J6 n l
def Zif(T:Tab)(fl:List Nat)(free rest:List Nat)(i:Nat):Bool :=
 ZtI (T.op i).k&&(rest.all fun r=>(T.deps r).any fun d=>(i::rest).contains d) &&
  free.all fun a=>nd (T.op i).dst (ZB (T.op a))&&ndd (T.op i).dst (T.op a).dst&&(J6 (Zbv (T.op a)) fl||!YP (T.op a).k)
def chk(T:Tab)(ms:List Nat)(fl:Nat→List Nat):List Nat→List Nat→Bool
 |_,[]=>true
 |A,i::rest =>
  let free:=A.filter fun a=>!(ms.getD i 0).testBit a
  dC (i<T.length)&&((T.deps i).all fun d=>!(i::rest).contains d)&&!rest.contains i&&(free.all fun a=>nd (T.op a).dst (ZB (T.op i))) &&
   if Zcu T A i then chk T ms fl (i::A) rest else Zif T (fl i) free rest i&&chk T ms fl free rest
def ZsK(T:Tab)(fl:List Nat)(free:List Nat)(i:Nat):Bool :=
 ZtI (T.op i).k&&!YU (T.op i).k&&(free.all fun a=>nd (T.op a).dst (ZB (T.op i)))&&free.all fun a=>nd (T.op i).dst (ZB (T.op a))&&ndd (T.op i).dst (T.op a).dst&&(J6 (Zbv (T.op a)) fl||!YP (T.op a).k)
def Zym(T:Tab)(ms:List Nat)(fl:Nat→List Nat)(A:List Nat)(i j:Nat)(rest:List Nat):Bool :=
 let fi:=A.filter fun a=>!(ms.getD i 0).testBit a;let fj:=A.filter fun a=>!(ms.getD j 0).testBit a
 dC (i<T.length)&&dC (j<T.length)&&((T.deps i).all fun d=>!(i::j::rest).contains d)&&((T.deps j).all fun d=>!(i::j::rest).contains d)&&(i != j)&&!rest.contains i&&!rest.contains j &&
  (rest.all fun r=>(T.deps r).any fun d=>(i::j::rest).contains d)&&ZsK T (fl i) fi i&&ZsK T (fl j) fj j &&
  chk T ms fl fi (j::rest)&&chk T ms fl fj (i::rest)
def Zc8(T:Tab)(ms:List Nat)(fl:Nat→List Nat)(fk:Option Nat):List Nat→List Nat→Bool
 |_,[]=>true
 |A,i::rest =>
  if fk=sO i then match rest with
   |j::rest'=>Zym T ms fl A i j rest'
   | []=>false
  else
   let free:=A.filter fun a=>!(ms.getD i 0).testBit a
   dC (i<T.length)&&((T.deps i).all fun d=>!(i::rest).contains d)&&!rest.contains i&&(free.all fun a=>nd (T.op a).dst (ZB (T.op i))) &&
    if Zcu T A i then Zc8 T ms fl fk (i::A) rest else Zif T (fl i) free rest i&&Zc8 T ms fl fk free rest
def ZAf(o:DOp):DOp:={ o with k:=.fork o.k }
def Tab.mk(T:Tab)(fk:Option Nat)(i:Nat):DOp:=if fk=sO i then ZAf (T.op i) else T.op i
def Jh(o:Oper):List Nat:=(o.after.toList.filter (Region.binds .any ·)).map (·.on)
def Zme:Nat→List (List Nat)→Bool
 |_,[]=>true
 |i,d::r=>d.all (fun x=>dC (x<i))&&Zme (i+1) r
def Zv5(n:Nat)(order:List Nat):Bool:=(ZEa n).all order.contains
def Zw3(an:Ann)(id:Nat):Option Nat :=
 match an.get (id+3000000) with
 |some (i::_)=>sO i
 |_=>nO
def ccD(P:Program)(an:Ann)(N:Nat)(id:Nat)(ops:Array Oper):Option (List Nat×List (DOp×List Nat)×Option (List Nat)) :=
 match QW P N ops (ZEa ops.size),an.get (id+1000000),an.get id with
 |some l,sO order,sO kp =>
  let fl:=fun i=>(an.get (id+1000000*(i+4))).getD [];let ds:=ops.toList.map Jh;let T:Tab:=l.zip ds
  if P.follows .mixedOrders&&Zme 0 ds&&Zv5 ops.size order&&Zc8 T (Zfj ds []) fl (Zw3 an id) [] order then sO (order,order.map fun i=>(T.mk (Zw3 an id) i,fl i),sO kp) else nO
 |_,_,_=>nO
def cc(P:Program)(an:Ann)(N:Nat):Code→Option DC
 |.skip=>sO .skip
 |.region id ops true=>(ccD P an N id ops).map fun x=>.regD x.1 x.2.1 x.2.2
 |.region id ops false=>(QW P N ops (ZEa ops.size)).map fun l=>.reg l (an.get id)
 |.seq a b=>match cc P an N a,cc P an N b with
  |some x,sO y=>sO (.seq x y)
  |_,_=>nO
 |.cond c a b=>match ZZ c,cc P an N a,cc P an N b with
  |some c,sO x,sO y=>sO (.cond c x y)
  |_,_,_=>nO
 |.block id a=>(cc P an N a).map (.block id)
 |.loop a=>(cc P an N a).map .loop
 |.exit id=>sO (.exit id)
 |.ret=>sO .ret
 |.scope a=>(cc P an N a).map .scope
 |.label l=>sO (.label l)
 |.goto l=>sO (.goto l)
 |.rangeFunc f params a b=>match ZZ f,cc P an N a,cc P an N b with
  |some f,sO x,sO y=>if params.toList.all (· < N) then sO (.rangeF f params.toList x y) else nO
  |_,_,_=>nO
 |_=>nO
inductive RV where
 |tmp (t:Nat)|cell1 (t:Nat)|cellN (t n:Nat)
def crv(P:Program):ResultVar→Option RV
 |.tmp t=>sO (.tmp t)
 |.cell a t=>match Jw P t,ZY P t with
  |some true,sO n=>sO (.cellN a n)
  |some false,sO _=>sO (.cell1 a)
  |_,_=>nO
def Zij(P:Program):List ResultVar→Option (List RV)
 | []=>sO []
 |r::rs=>match crv P r,Zij P rs with
  |some x,sO xs=>sO (x::xs)
  |_,_=>nO
structure DF where
 n:Nat
 res:List RV
 body:DC
def cf(P:Program)(an:Ann)(f:FuncId):Option DF :=
 match P.funcs[f]? with
 |some fn=>match fn.body with
  |some c=>if fn.name == "runtime.NumGoroutine" then nO else
   match Zij P fn.results.toList,cc P an fn.ntmps c with
   |some rs,sO d=>sO ⟨fn.ntmps,rs,d⟩
   |_,_=>nO
  |none=>nO
 |none=>nO
def ZhG:Bool→Bool→Bool
 |b,true=>b
 |b,false=>!b
def Zk(ρ:Env):Option (Nat×Bool)→Option Bool
 |none=>sO true
 |some (t,want)=>match ZM ρ t with
  |some (.d (.bool b))=>sO (ZhG b want)
  |some (.when c (.d (.bool b)))=>sO (c&&ZhG b want)
  |_=>nO
def ZE(ρ:Env)(c:Bool):Opd→Option (Prop×E)
 |.cst d=>sO (True,.d d)
 |.tmp t=>match ZM ρ t with
  |some (.when c' e)=>sO (c=true→c'=true,e)
  |some e=>sO (True,e)
  |none=>nO
def Ya(ρ:Env)(c:Bool):List Opd→Option (Prop×List E)
 | []=>sO (True,[])
 |x::xs=>match ZE ρ c x,Ya ρ c xs with
  |some (p,e),sO (q,es)=>sO (p∧q,e::es)
  |_,_=>nO
def Zw(ρ:Env)(dst:Option Nat)(e:E):Env :=
 match dst with
 |some t=>(t,e)::ρ
 |none=>ρ
inductive SR where
 |ok (side:Prop) (ρ:Env) (L:Loc) (s:St)
 |all (side:Prop) (pre:Nat→Prop) (ρ:Nat→Env) (s:Nat→St)
 |stop
def J4(L:Loc)(l:Nat):Bool:=(Ze L l).isSome
def Zc0(ρ:Env)(c:Bool)(x a b:Opd):Option (Prop×Bool) :=
 match ZE ρ c x with
 |some (p,.d (.bool v)) =>
  match ZE ρ (c&&v) a,ZE ρ (c&&!v) b with
  |some (pa,.d (.bool y)),sO (pb,.d (.bool z))=>sO (p∧pa∧pb,if v then y else z)
  |_,_=>nO
 |_=>nO
def Z8(zero:List D)(ps:List (Nat×D))(i:Nat):List D :=
 match ps with
 | []=>zero
 | (k,d)::r=>if k=i then cellsOf d else Z8 zero r i
def KN(s:Nat):List D→Bool
 | []=>true
 |d::r=>WS d&&dC ((cellsOf d).length=s)&&KN s r
def KT(z:List D)(n:Nat):List D:=(List.replicate n z).flatten
def KF(ρ:Env)(L:Loc)(s:St)(p q ok:Prop)(a:E)(n:Nat)(xs:List D):SR :=
 match a with
 |.loc l off=>match Ze L l with
  |some cs=>.ok (p∧q∧off+n≤cs.length∧ok) ρ ((l,Zt cs off xs)::L) s
  |none=>.stop
 |.d (.ptr b off)=>match Yc s b with
  |some cs=>.ok (p∧q∧off+n≤cs.length∧ok) ρ L (s.upd b (.cells (Zt cs off xs)))
  |none=>.stop
 |_=>.stop
def Zdy(kp:KP)(k z:D):List (D×D)→Option D
 | []=>sO z
 |e::r=>match W6 kp k e.1 with
  |some true=>sO e.2
  |some false=>Zdy kp k z r
  |none=>nO
def ZD(o:DOp)(ρ:Env)(L:Loc)(s:St):SR :=
 match Zk ρ o.guard with
 |none=>.stop
 |some c =>
  match o.k with
  |.q q xs=>match Ya ρ c xs with
   |some (p,es)=>match qv L s q es with
    |some (side,e)=>match o.guard with
     |none=>.ok (p∧side) (Zw ρ o.dst e) L s
     |some _=>.ok (c=true→p∧side) (Zw ρ o.dst (.when c e)) L s
    |none=>.stop
   |none=>.stop
  |.pick x a b=>match Zc0 ρ c x a b with
   |some (p,v)=>match o.guard with
    |none=>.ok p (Zw ρ o.dst (.d (.bool v))) L s
    |some _=>.ok (c=true→p) (Zw ρ o.dst (.when c (.d (.bool v)))) L s
   |none=>.stop
  |.alloc z=>match o.guard,o.dst with
   |none,sO t=>.ok (J4 L t=false) ((t,.loc t 0)::ρ) ((t,z)::L) s
   |_,_=>.stop
  |.box x=>match o.guard,o.dst,ZE ρ true x with
   |none,sO t,sO (p,.d v)=>.ok (p∧J4 L t=false∧WS v=true) ((t,.loc t 0)::ρ) ((t,cellsOf v)::L) s
   |_,_,_=>.stop
  |.bsl len n z is xs=>match Ya ρ c xs with
   |some (p,es)=>match WX es with
    |some ds=>match o.guard with
     |none=>.ok (p∧KN n ds=true) (Zw ρ o.dst (.d (.sl .full len n (Z8 z (is.zip ds))))) L s
     |some _=>.ok (c=true→p∧KN n ds=true) (Zw ρ o.dst (.when c (.d (.sl .full len n (Z8 z (is.zip ds)))))) L s
    |none=>.stop
   |none=>.stop
  |.s2b x=>match ZE ρ c x with
   |some (p,.d (.str l))=>match o.guard with
    |none=>.ok p (Zw ρ o.dst (.d (.sl .none l.length 1 (fun i=>[.int .u8 ((l.getD i 0).toNat:Int)])))) L s
    |some _=>.ok (c=true→p) (Zw ρ o.dst (.when c (.d (.sl .none l.length 1 (fun i=>[.int .u8 ((l.getD i 0).toNat:Int)]))))) L s
   |_=>.stop
  |.store1 a v=>match o.guard,o.dst,ZE ρ true a,ZE ρ true v with
   |none,nO,sO (p,a),sO (q,.d x)=>KF ρ L s p q (Qn x=true) a 1 [x]
   |_,_,_,_=>.stop
  |.storeN n a v=>match o.guard,o.dst,ZE ρ true a,ZE ρ true v with
   |none,nO,sO (p,a),sO (q,.d (.agg xs))=>KF ρ L s p q (xs.length=n) a n xs
   |_,_,_,_=>.stop
  |.mkmap=>match o.guard,o.dst with
   |none,sO t=>.all True (fun b=>s b=nO) (fun b=>(t,.d (.map b))::ρ) (fun b=>s.upd b (.map []))
   |_,_=>.stop
  |.mkslice _ n bytes z l h=>match o.guard,o.dst,ZE ρ true l,ZE ρ true h with
   |none,sO t,sO (p,.d (.int _ l)),sO (q,.d (.int _ h)) =>
    .all (p∧q∧0≤l∧l≤h∧(bytes:Int)*h≤140737488355328∧h≤big) (fun b=>s b=nO) (fun b=>(t,.d (.msl b 0 l.toNat h.toNat n))::ρ) (fun b=>s.upd b (.cells (KT z h.toNat)))
   |_,_,_,_=>.stop
  |.mapupd kp m k v=>match o.guard,o.dst,ZE ρ true m,ZE ρ true k,ZE ρ true v with
   |none,nO,sO (p,.d (.map b)),sO (q,.d dk),sO (r,.d dv)=>match Kw s b with
    |some es=>match JO kp dk dv es with
     |some es'=>.ok (p∧q∧r∧K9 kp dk=true) ρ L (s.upd b (.map es'))
     |none=>.stop
    |none=>.stop
   |_,_,_,_,_=>.stop
  |.delete kp m k=>match o.guard,o.dst,ZE ρ true m,ZE ρ true k with
   |none,nO,sO (p,.d (.map b)),sO (q,.d dk)=>match Kw s b with
    |some es=>match ZfJ kp dk es with
     |some es'=>.ok (p∧q∧K9 kp dk=true) ρ L (s.upd b (.map es'))
     |none=>.stop
    |none=>.stop
   |_,_,_,_=>.stop
  |.mapent kp z m k=>match o.guard,o.dst,ZE ρ true m,ZE ρ true k with
   |none,sO t,sO (p,.d (.map b)),sO (q,.d dk)=>match Kw s b with
    |some es=>match Zdy kp dk z es with
     |some v=>.all (p∧q∧K9 kp dk=true) (fun _=>True) (fun n=>(t,.d (.tup [v,.stamp n]))::ρ) (fun n=>s.upd b (.mapE kp es dk n))
     |none=>.stop
    |none=>.stop
   |_,_,_,_=>.stop
  |.entst m st v=>match o.guard,o.dst,ZE ρ true m,ZE ρ true st,ZE ρ true v with
   |none,nO,sO (p,.d (.map b)),sO (q,.d (.stamp n)),sO (r,.d dv)=>match s b with
    |some (.mapE kp es dk n')=>match JO kp dk dv es with
     |some es'=>.ok (p∧q∧r∧n=n') ρ L (s.upd b (.map es'))
     |none=>.stop
    |_=>.stop
   |_,_,_,_,_=>.stop
  |_=>.stop
def Zik(K:Env→Loc→St→Prop)(X:List DOp→Env→Loc→St→Prop):List DOp→Env→Loc→St→Prop
 | [],ρ,L,s=>K ρ L s
 |o::os,ρ,L,s=>match ZD o ρ L s with
  |.ok side ρ' L' s'=>side∧Zik K X os ρ' L' s'
  |.all side pre ρ' s'=>side∧∀b,pre b→Zik K X os (ρ' b) L (s' b)
  |.stop=>X (o::os) ρ L s
inductive Rd where
 |blk (b:Nat)
 |loc (l:Nat)
def KB:E→List Rd
 |.d (.ptr b _)=>[.blk b]
 |.d (.map b)=>[.blk b]
 |.d (.msl b _ _ _ _)=>[.blk b]
 |.loc l _=>[.loc l]
 |_=>[]
def YW(o:DOp)(ρ:Env):List Rd :=
 match o.k with
 |.q q xs=>if YP (.q q xs) then match Zk ρ o.guard with
  |some true=>match Ya ρ true xs with
   |some (_,e::_)=>KB e
   |_=>[]
  |_=>[]
  else []
 |_=>[]
def W3(o:DOp)(ρ:Env):List (Nat×Rd):=(YW o ρ).map fun b=>(Zbv o,b)
def KA(s s':St)(L L':Loc):List (Nat×Rd)→Prop
 | []=>True
 | (_,.blk b)::B=>s' b=s b∧KA s s' L L' B
 | (_,.loc l)::B=>Ze L' l=Ze L l∧KA s s' L L' B
def YO(fl:List Nat):List (Nat×Rd)→List (Nat×Rd)
 | []=>[]
 |x::B=>if J6 x.1 fl then x::YO fl B else YO fl B
def Y0(fl:List Nat)(s s':St)(L L':Loc)(B:List (Nat×Rd)):Prop:=KA s s' L L' (YO fl B)
def ZgX(K:Env→Loc→St→Prop)(X:List (DOp×List Nat)→Env→Loc→St→List (Nat×Rd)→Prop):List (DOp×List Nat)→Env→Loc→St→List (Nat×Rd)→Prop
 | [],ρ,L,s,_=>K ρ L s
 |o::os,ρ,L,s,B=>match ZD o.1 ρ L s with
  |.ok side ρ' L' s'=>if YU o.1.k then side∧ZgX K X os ρ' L' s' (W3 o.1 ρ++B) else side∧Y0 o.2 s s' L L' B∧ZgX K X os ρ' L' s' (W3 o.1 ρ++YO o.2 B)
  |.all side pre ρ' s'=>side∧∀b,pre b→Y0 o.2 s (s' b) L L B∧ZgX K X os (ρ' b) L (s' b) (YO o.2 B)
  |.stop=>X (o::os) ρ L s B
def WU:E→List Nat
 |.loc l _=>[l]
 |.when _ e=>WU e
 |_=>[]
def Yj(ρ:Env):List Nat→Env
 | []=>[]
 |k::ks=>match ZM ρ k with
  |some e=>(k,e)::Yj ρ ks
  |none=>Yj ρ ks
def Zag(L:Loc):List Nat→Loc
 | []=>[]
 |l::ls=>match Ze L l with
  |some cs=>(l,cs)::Zag L ls
  |none=>Zag L ls
def ZaJ(ρ:Env)(L:Loc):Loc:=Zag L (ρ.flatMap fun x=>WU x.2)
structure ZtA(P:Program) where
 T:G→World→Machine→Prop
 back:∀g w m m',Steps P m m'→T g w m'→T g w m
 ext:∀g w g' w' m,Ext g w g' w'→T g' w' m→T g w m
structure Fr(P:Program) where
 T:ZtA P
 b:Frame
 cs:List Frame
 N:Nat
 ds:List Deferred
 an:Ann
inductive Zh where
 |code (c:DC)
 |inBlock (id:Nat)
 |inLoop (c:DC)
 |inScope (c:DC)
 |beginR
inductive Wo(P:Program)(an:Ann)(N:Nat):List Item→List Zh→Prop where
 |nil:Wo P an N [] []
 |code {c d k dk} (h:cc P an N c=some d) (t:Wo P an N k dk):Wo P an N (.code c::k) (.code d::dk)
 |inBlock {id k dk} (t:Wo P an N k dk):Wo P an N (.inBlock id::k) (.inBlock id::dk)
 |inLoop {c d k dk} (h:cc P an N c=some d) (t:Wo P an N k dk):Wo P an N (.inLoop c::k) (.inLoop d::dk)
 |inScope {c d k dk} (h:cc P an N c=some d) (t:Wo P an N k dk):Wo P an N (.inScope c::k) (.inScope d::dk)
 |beginR {k dk} (t:Wo P an N k dk):Wo P an N (.beginRound::k) (.beginR::dk)
section
variable {P:Program}
theorem ZsB{b:Frame}{a:Act}{k:List Item}{cs:List Frame}{c:Code}:step P (lone (b.atR a (.code (.scope c)::k)) cs w)=.next (lone (b.atR a (.code c::.inScope c::k)) cs w) :=
 step_lone_go (by simp[stepG,stepG.exec,Frame.atR])
theorem ZpJ{b:Frame}{a:Act}{k:List Item}{cs:List Frame}{c:Code}:step P (lone (b.atR a (.inScope c::k)) cs w)=.next (lone (b.atR a k) cs w) :=
 step_lone_go (by simp[stepG,stepG.exec,Frame.atR])
def QU(F:Fr P)(todo:List Item)(ρ:Env)(L:Loc)(s:St):Prop :=
 ∀g ν w tmps,F.N≤tmps.size→Zs g ν w tmps ρ L s→F.T.T g w (lone (F.b.atR ⟨tmps,F.ds⟩ todo) F.cs w)
def Zv(F:Fr P)(dk:List Zh)(ρ:Env)(L:Loc)(s:St):Prop:=∀k,Wo P F.an F.N k dk→QU F k ρ L s
def DO(F:Fr P)(_keep:Option (List Nat))(dk:List Zh)(os:List DOp)(ρ:Env)(L:Loc)(s:St):Prop :=
 ∀ops is k,QW P F.N ops is=sO os→Wo P F.an F.N k dk→QU F (.inRegion ops is::k) ρ L s
theorem QU.step{F:Fr P}{k k':List Item}(h:∀a w,step P (lone (F.b.atR a k) F.cs w)=.next (lone (F.b.atR a k') F.cs w))(h':QU F k' ρ L s):QU F k ρ L s :=
 fun g ν w tmps hN m=>F.T.back _ _ _ _ (.one (h _ w)) (h' g ν w tmps hN m)
theorem Zyk{an:Ann}{N:Nat}{c:Code}(h:cc P an N c=sO .skip):c=.skip:=by
 unfold cc at h;split at h<;>simp_all;all_goals (split at h<;>grind)
theorem ZqA{an:Ann}{N:Nat}{c:Code}(h:cc P an N c=sO .ret):c=.ret:=by
 unfold cc at h;split at h<;>simp_all;all_goals (split at h<;>grind)
theorem ZsJ{an:Ann}{N id:Nat}{c:Code}(h:cc P an N c=sO (.exit id)):c=.exit id:=by
 unfold cc at h;split at h<;>simp_all;all_goals (split at h<;>grind)
theorem Zzr{an:Ann}{N:Nat}{c:Code}{x y:DC}(h:cc P an N c=sO (.seq x y)):∃a b,c=.seq a b∧cc P an N a=sO x∧cc P an N b=sO y:=by
 unfold cc at h;split at h<;>simp_all;all_goals (split at h<;>simp_all)
 grind
theorem Zyg{an:Ann}{N:Nat}{c:Code}{x y:DC}{o:Opd}(h:cc P an N c=sO (.cond o x y)):∃o' a b,c=.cond o' a b∧ZZ o'=sO o∧cc P an N a=sO x∧cc P an N b=sO y:=by
 unfold cc at h;split at h<;>simp_all;all_goals (split at h<;>simp_all)
 grind
theorem ZwR{an:Ann}{N id:Nat}{c:Code}{x:DC}(h:cc P an N c=sO (.block id x)):∃a,c=.block id a∧cc P an N a=sO x:=by
 unfold cc at h;split at h<;>simp_all;all_goals (split at h<;>grind)
theorem Zyi{an:Ann}{N:Nat}{c:Code}{x:DC}(h:cc P an N c=sO (.loop x)):∃a,c=.loop a∧cc P an N a=sO x:=by
 unfold cc at h;split at h<;>simp_all;all_goals (split at h<;>grind)
theorem Zzq{an:Ann}{N:Nat}{c:Code}{ks:Option (List Nat)}(h:cc P an N c=sO (.reg os ks)):
  ∃id ops,c=.region id ops false∧QW P N ops (ZEa ops.size)=sO os∧an.get id=ks:=by
 unfold cc at h;split at h<;>simp_all;grind;all_goals (split at h<;>grind)
theorem ZwT{an:Ann}{N:Nat}{c:Code}{x:DC}(h:cc P an N c=sO (.scope x)):∃a,c=.scope a∧cc P an N a=sO x:=by
 unfold cc at h;split at h<;>simp_all;all_goals (split at h<;>grind)
theorem ZwS{an:Ann}{N l:Nat}{c:Code}(h:cc P an N c=sO (.label l)):c=.label l:=by
 unfold cc at h;split at h<;>simp_all;all_goals (split at h<;>grind)
theorem Zyh{an:Ann}{N l:Nat}{c:Code}(h:cc P an N c=sO (.goto l)):c=.goto l:=by
 unfold cc at h;split at h<;>simp_all;all_goals (split at h<;>grind)
theorem ZoF{an:Ann}{N:Nat}{c:Code}{f:Opd}{ps:List Nat}{x y:DC}(h:cc P an N c=sO (.rangeF f ps x y)):
  ∃f' ps' a b,c=.rangeFunc f' ps' a b∧ZZ f'=sO f∧ps'.toList=ps∧cc P an N a=sO x∧cc P an N b=sO y∧∀t∈ps,t<N:=by
 unfold cc at h;split at h<;>simp_all;all_goals (split at h<;>simp_all)
 obtain⟨j,rfl,rfl,rfl,rfl⟩:=h;exact⟨_,_,_,_,⟨rfl,rfl,rfl,rfl⟩,‹_›,rfl,‹_›,‹_›,fun t ht=>by obtain⟨i,hi,rfl⟩:=ZEe ht;simpa using j i (by omega)⟩
theorem Zy{F:Fr P}{dk:List Zh}(h:Zv F dk ρ L s):Zv F (.code .skip::dk) ρ L s:=by
 intro k hk;cases hk with
 |code hc ht=>obtain rfl:=Zyk hc;exact QU.step (fun a w=>stepR_skip) (h _ ht)
theorem Zj{F:Fr P}{id:Nat}{dk:List Zh}(h:Zv F dk ρ L s):Zv F (.inBlock id::dk) ρ L s:=by
 intro k hk;cases hk with
 |inBlock ht=>exact QU.step (fun a w=>stepR_inBlock) (h _ ht)
theorem Zb{F:Fr P}{x y:DC}{dk:List Zh}(h:Zv F (.code x::.code y::dk) ρ L s):Zv F (.code (.seq x y)::dk) ρ L s:=by
 intro k hk;cases hk with
 |code hc ht=>obtain⟨a,b,rfl,ha,hb⟩:=Zzr hc;exact QU.step (fun a w=>stepR_seq) (h _ (.code ha (.code hb ht)))
theorem Zc{F:Fr P}{id:Nat}{x:DC}{dk:List Zh}(h:Zv F (.code x::.inBlock id::dk) ρ L s):Zv F (.code (.block id x)::dk) ρ L s:=by
 intro k hk;cases hk with
 |code hc ht=>obtain⟨a,rfl,ha⟩:=ZwR hc;exact QU.step (fun a w=>stepR_block) (h _ (.code ha (.inBlock ht)))
theorem Zbx{F:Fr P}{x:DC}{dk:List Zh}(h:Zv F (.code x::.inLoop x::dk) ρ L s):Zv F (.code (.loop x)::dk) ρ L s:=by
 intro k hk;cases hk with
 |code hc ht=>obtain⟨a,rfl,ha⟩:=Zyi hc;exact QU.step (fun a w=>stepR_loop) (h _ (.code ha (.inLoop ha ht)))
theorem Zg{F:Fr P}{x:DC}{dk:List Zh}(h:Zv F (.code x::.inLoop x::dk) ρ L s):Zv F (.inLoop x::dk) ρ L s:=by
 intro k hk;cases hk with
 |inLoop hc ht=>exact QU.step (fun a w=>stepR_inLoop) (h _ (.code hc (.inLoop hc ht)))
theorem Ym{F:Fr P}{x:DC}{dk:List Zh}(h:Zv F (.code x::.inScope x::dk) ρ L s):Zv F (.code (.scope x)::dk) ρ L s:=by
 intro k hk;cases hk with
 |code hc ht=>obtain⟨a,rfl,ha⟩:=ZwT hc;exact QU.step (fun a w=>ZsB) (h _ (.code ha (.inScope ha ht)))
theorem Z4{F:Fr P}{x:DC}{dk:List Zh}(h:Zv F dk ρ L s):Zv F (.inScope x::dk) ρ L s:=by
 intro k hk;cases hk with
 |inScope hc ht=>exact QU.step (fun a w=>ZpJ) (h _ ht)
theorem Yw{F:Fr P}{l:Nat}{dk:List Zh}(h:Zv F dk ρ L s):Zv F (.code (.label l)::dk) ρ L s:=by
 intro k hk;cases hk with
 |code hc ht=>obtain rfl:=ZwS hc;exact QU.step (fun a w=>stepR_label) (h _ ht)
def WT:DC→Nat→Option DC
 |.seq a b,l=>match WT a l with
  |some r=>sO (.seq r b)
  |none=>WT b l
 |.label l',l=>if l'=l then sO .skip else nO
 |_,_=>nO
theorem Zq3{an:Ann}{N l:Nat}:∀{c:Code} {d:DC},cc P an N c=sO d→(∀d',WT d l=sO d'→∃c',findLabel c l=sO c'∧cc P an N c'=sO d')∧(WT d l=nO→findLabel c l=nO):=by
 intro c;induction c with
 |seq a b iha ihb =>
  intro d h;unfold cc at h;split at h<;>simp at h;rename_i x y hx hy;subst h;obtain⟨a1,a2⟩:=iha hx;obtain⟨b1,b2⟩:=ihb hy;refine⟨fun d' hd=>?_,fun hd=>?_⟩
  ·simp[WT]at hd;cases i:WT x l with
   |some r =>simp[i]at hd;obtain⟨c',h1,h2⟩:=a1 r i;subst hd;exact⟨.seq c' b,by simp[findLabel,h1],by simp[cc,h2,hy]⟩
   |none =>simp[i]at hd;obtain⟨c',h1,h2⟩:=b1 d' hd;exact⟨c',by simp[findLabel,a2 i,h1],h2⟩
  simp[WT]at hd;cases i:WT x l with
  |some r=>grind
  |none=>simp[i]at hd;simp[findLabel,a2 i,b2 hd]
 |label l' =>intro d h;cases h;refine⟨fun d' hd=>?_,fun hd=>?_⟩;simp only[WT]at hd;split at hd<;>simp at hd;rename_i hl;subst hd;exact⟨.skip,by simp[findLabel,hl],rfl⟩;simp only[WT]at hd;split at hd<;>simp at hd;rename_i hl;simp[findLabel,hl]
 |region id ops dr =>intro d h;refine⟨fun d' hd=>?_,fun _=>rfl⟩;cases dr<;>simp only[cc,ZD9]at h<;>(obtain⟨_,_,rfl⟩:=h;cases hd)
 |_ =>
  intro d h;refine⟨fun d' hd=>?_,fun _=>rfl⟩;first
   | (cases h;done)
   | (simp[cc]at h;obtain⟨_,_,rfl⟩:=h;cases hd;done)
   | (cases h;done)
   | (simp[cc]at h;split at h<;>(try(split at h))<;>simp at h<;>(subst h;cases hd))
def ZcU(l:Nat):List Zh→Option (List Zh)
 |.inScope body::k=>match WT body l with
  |some r=>sO (.code r::.inScope body::k)
  |none=>ZcU l k
 |_::k=>ZcU l k
 | []=>nO
theorem Zcz{an:Ann}{N l:Nat}:∀{k:List Item} {dk dk':List Zh},Wo P an N k dk→ZcU l dk=sO dk'→∃k',gotoIn l k=sO k'∧Wo P an N k' dk'
 |_,_,_,.nil,h=>by cases h
 |_,_,_,.code _ t,h=>by simp[ZcU]at h;obtain⟨k',h1,h2⟩:=Zcz t h;exact⟨k',by simpa[gotoIn]using h1,h2⟩
 |_,_,_,.inLoop _ t,h=>by simp[ZcU]at h;obtain⟨k',h1,h2⟩:=Zcz t h;exact⟨k',by simpa[gotoIn]using h1,h2⟩
 |_,_,_,.inBlock t,h=>by simp[ZcU]at h;obtain⟨k',h1,h2⟩:=Zcz t h;exact⟨k',by simpa[gotoIn]using h1,h2⟩
 |_,_,_,.beginR t,h=>by simp[ZcU]at h;obtain⟨k',h1,h2⟩:=Zcz t h;exact⟨k',by simpa[gotoIn]using h1,h2⟩
 |_,_,_,.inScope (c:=c) (d:=d) hc t,h=>by
  simp[ZcU]at h;obtain⟨f1,f2⟩:=Zq3 (l:=l) hc;cases hf:WT d l with
  |some r =>simp[hf]at h;subst h;obtain⟨c',h1,h2⟩:=f1 r hf;exact⟨_,by simp[gotoIn,h1],.code h2 (.inScope hc t)⟩
  |none =>simp[hf]at h;obtain⟨k',h1,h2⟩:=Zcz t h;exact⟨k',by simpa[gotoIn,f2 hf]using h1,h2⟩
theorem Zvb{F:Fr P}{l:Nat}{dk dk':List Zh}(he:ZcU l dk=sO dk')(h:Zv F dk' ρ L s):Zv F (.code (.goto l)::dk) ρ L s:=by
 intro k hk;cases hk with
 |code hc ht =>obtain rfl:=Zyh hc;obtain⟨k',h1,h2⟩:=Zcz ht he;exact QU.step (fun a w=>stepR_goto h1) (h _ h2)
def Qv(id:Nat):List Zh→Option (List Zh)
 |.inBlock id'::k=>if id'=id then sO k else Qv id k
 |_::k=>Qv id k
 | []=>nO
theorem Zcv{an:Ann}{N id:Nat}:∀{k:List Item} {dk dk':List Zh},Wo P an N k dk→Qv id dk=sO dk'→∃k',exitTo id k=sO k'∧Wo P an N k' dk'
 |_,_,_,.nil,h=>by cases h
 |_,_,_,.code _ t,h=>by simp[Qv]at h;obtain⟨k',h1,h2⟩:=Zcv t h;exact⟨k',by simpa[exitTo]using h1,h2⟩
 |_,_,_,.inLoop _ t,h=>by simp[Qv]at h;obtain⟨k',h1,h2⟩:=Zcv t h;exact⟨k',by simpa[exitTo]using h1,h2⟩
 |_,_,_,.inScope _ t,h=>by simp[Qv]at h;obtain⟨k',h1,h2⟩:=Zcv t h;exact⟨k',by simpa[exitTo]using h1,h2⟩
 |_,_,_,.beginR t,h=>by simp[Qv]at h;obtain⟨k',h1,h2⟩:=Zcv t h;exact⟨k',by simpa[exitTo]using h1,h2⟩
 |_,_,_,.inBlock (id:=id') t,h=>by simp[Qv]at h;by_cases i:id'=id;simp[i]at h;subst h;exact⟨_,by simp[exitTo,i],t⟩;simp[i]at h;obtain⟨k',h1,h2⟩:=Zcv t h;exact⟨k',by simpa[exitTo,i]using h1,h2⟩
theorem ZaG{an:Ann}{N id:Nat}:∀{k:List Item} {dk:List Zh},Wo P an N k dk→Qv id dk=nO→exitTo id k=nO
 |_,_,.nil,_=>rfl
 |_,_,.code _ t,h=>by simp[Qv]at h;simpa[exitTo]using ZaG t h
 |_,_,.inLoop _ t,h=>by simp[Qv]at h;simpa[exitTo]using ZaG t h
 |_,_,.inScope _ t,h=>by simp[Qv]at h;simpa[exitTo]using ZaG t h
 |_,_,.beginR t,h=>by simp[Qv]at h;simpa[exitTo]using ZaG t h
 |_,_,.inBlock (id:=id') t,h=>by simp[Qv]at h;by_cases hid:id'=id;grind;simp[hid]at h;simpa[exitTo,hid]using ZaG t h
theorem ZQ{F:Fr P}{id:Nat}{dk dk':List Zh}(he:Qv id dk=sO dk')(h:Zv F dk' ρ L s):Zv F (.code (.exit id)::dk) ρ L s:=by
 intro k hk;cases hk with
 |code hc ht =>obtain rfl:=ZsJ hc;obtain⟨k',h1,h2⟩:=Zcv ht he;exact QU.step (fun a w=>stepR_exit h1) (h _ h2)
theorem Z7(m:Zs g ν w tmps ρ L s){x:Operand}{y:Opd}(hc:ZZ x=sO y){c:Bool}(hcond:c=true){p:Prop}{e:E}(ha:ZE ρ c y=sO (p,e))(hp:p)(ds:List Deferred):ZK g ν w L ((Act.mk tmps ds).eval x) e:=by
 cases x with
 |tmp t =>cases hc;simp[ZE]at ha;split at ha;rename_i c' e' hg;cases ha;exact(m.env t _ hg).1 (hp hcond);rename_i e' hne hg;cases ha;exact m.env t _ hg;grind
 |const v =>simp[ZZ]at hc;obtain⟨d,hd,rfl⟩:=hc;cases ha;exact Zih hd
 |func f =>cases hc;cases ha;exact .fn (.func f) [] [] [] [] rfl rfl (fun i v d h=>by grind) (fun i v d h=>by grind)
 |global g =>
  cases hc;cases ha;cases ht:Zqj.tab g with
  |none=>exact .any _
  |some cs=>exact m.st.tabs g cs ht
theorem ZbD{g:G}{ν:Nat→Nat}{w:World}{tmps:Array Value}{ρ:Env}{L:Loc}{s:St}(m:Zs g ν w tmps ρ L s){c:Bool}(hcond:c=true)(ds:List Deferred) :
  ∀{xs:List Operand} {ys:List Opd} {p:Prop} {es:List E},ZbT xs=sO ys→Ya ρ c ys=sO (p,es)→p→ZJ (ZK g ν w L) (xs.map (Act.mk tmps ds).eval) es
 | [],ys,p,es,hc,ha,hp=>by cases hc;cases ha;exact .nil
 |x::xs,ys,p,es,hc,ha,hp=>by simp[ZbT]at hc;split at hc<;>simp at hc;rename_i y ys' hy i;subst hc;simp[Ya]at ha;split at ha<;>simp only[ZDV,reduceCtorEq]at ha;rename_i p1 e1 p2 es' h1 h2;obtain⟨rfl,rfl⟩:=ha;exact .cons (Z7 m hy hcond h1 hp.1 ds) (ZbD m hcond ds i h2 hp.2)
theorem Zu{F:Fr P}{o:Opd}{x y:DC}{dk:List Zh}{b:Bool}{p:Prop}(ho:ZE ρ true o=sO (p,.d (.bool b)))(hp:p)(ht:b=true→Zv F (.code x::dk) ρ L s)(hf:b=false→Zv F (.code y::dk) ρ L s):Zv F (.code (.cond o x y)::dk) ρ L s:=by
 intro k hk;cases hk with
 |code hc htl =>obtain⟨o',a,b',rfl,j,ha,hb⟩:=Zyg hc;intro g ν w tmps hN m;have hv:=Z7 m j rfl ho hp F.ds;have i:(Act.mk tmps F.ds).eval o'=.bool b:=Zbq hv;refine F.T.back _ _ _ _ (.one (stepR_cond i)) ?_;cases b;exact hf rfl _ (.code hb htl) g ν w tmps hN m;exact ht rfl _ (.code ha htl) g ν w tmps hN m
theorem ZgQ{F:Fr P}{ks:Option (List Nat)}{dk:List Zh}(h:DO F ks dk os ρ L s):Zv F (.code (.reg os ks)::dk) ρ L s:=by
 intro k hk;cases hk with
 |code hc ht =>obtain⟨id,ops,rfl,i,_⟩:=Zzq hc;exact QU.step (fun a w=>stepR_region) (h _ _ _ i ht)
end
theorem Zh8(w:World)(o:Obj){b:Nat}(h:b<w.heap.size):(w.alloc o).heap[b]?=w.heap[b]?:=by
 show(w.heap.push o)[b]?=_;rw[Array.getElem?_push];simp[Nat.ne_of_lt h]
theorem W0(w:World)(o:Obj):(w.alloc o).heap[w.heap.size]?=sO o:=by
 show(w.heap.push o)[w.heap.size]?=_;rw[Array.getElem?_push];simp
theorem ZcD(v:Value):v.oneCell'=v.one1:=by cases v<;>rfl
section
variable {P:Program} {g:G} {ν:Nat→Nat} {w:World} {tmps:Array Value} {ρ:Env} {L:Loc} {s:St}
theorem Zg0(b:Nat){cur vs:Array Value}{T:TypeId}(hb:w.heap[b]?=sO (.cells cur T (0,0)))(hsz:vs.size=cur.size)(hp:g.prot b=0)(hk:¬g.kept b):Ext g w g (w.setRow b vs):={
 size:=by simp
 prot _:=ZEd _
 cell b' o ho:=by by_cases h:b'=b;subst h;omega;exact Jb (setRow_other w b b' vs h)
 hdr b' x hx:=by by_cases h:b'=b;subst h;simp only[hdr,hb]at hx;simp only[hdr,setRow_heap w b' cur vs T (0,0) hb,hsz];exact hx;rw[Za3 (setRow_other w b b' vs h)];exact hx
 kept b' hb':=setRow_other w b b' vs (fun h=>hk (h▸hb'))
 keptProt _ _:=rfl
 keptEq:=rfl
 os:=rfl
 output:=rfl
 tape:=rfl }
theorem Yh.other{g:G}{w w':World}{s:St}(m:Yh g s w)(e:Ext g w g w')(hs:w'.heap.size=w.heap.size)(hb:∀b o,s b=sO o→w'.heap[b]?=w.heap[b]?):Yh g s w':={
 obj b o ho:=(m.obj b o ho).mono e (hb b o ho) rfl
 kept:=m.kept
 fresh b h:=m.fresh b (by omega)
 tabs n cs hc:=(m.tabs n cs hc).mono e }
theorem Zs.store(m:Zs g ν w tmps ρ L s){l:Nat}{cs ds:List D}(hl:Ze L l=sO cs){vs:Array Value}(hr:ZJ (Rep g w) vs.toList ds)(ho:∀v∈vs,v.one1=true)(hn:ds.length=cs.length):
  Ext g w g (w.setRow (ν l) vs)∧Zs g ν (w.setRow (ν l) vs) tmps ρ ((l,ds)::L) s:=by
 obtain⟨hp,z,T,h1,h2,_,_⟩:=m.loc l cs hl;have ab:vs.size=z.size:=by have:=hr.len;simp at this;omega
 have he:=Zg0 (g:=g) (ν l) h1 ab hp (m.locKept l cs hl);refine⟨he,⟨?_,?_,?_,?_,?_,?_⟩⟩;exact m.st.other he (by simp) (fun b o hb=>setRow_other w (ν l) b vs (fun h=>by subst h;rw[m.locSt l cs hl]at hb;simp at hb));intro l' n j;simp only[Ze]at j;by_cases h:l=l';subst h;simp only[if_true,ZDV]at j;subst j;refine⟨hp,vs,T,setRow_heap w (ν l) z vs T (0,0) h1,by rw[ab,h2,hn],fun i v d hv hd=>?_,ho⟩;exact(hr.get i v d (by simpa using hv) hd).mono he;simp only[h,if_false]at j;have ac:ν l'≠ν l:=fun hh=>h (m.inj l l' cs n hl j hh.symm);exact(m.loc l' n j).mono he (setRow_other w (ν l) (ν l') vs ac) rfl;intro l' n j;simp only[Ze]at j;by_cases h:l=l';subst h;exact m.locKept l cs hl;simp only[h,if_false]at j;exact m.locKept l' n j;intro l' n j;simp only[Ze]at j;by_cases h:l=l';subst h;exact m.locSt l cs hl;simp only[h,if_false]at j;exact m.locSt l' n j;intro a b ca cb ha hb u;simp only[Ze]at ha hb;by_cases h1:l=a;by_cases h2:l=b;exact h1.symm.trans h2;simp only[h2,if_false]at hb;subst h1;exact m.inj _ _ cs cb hl hb u;simp only[h1,if_false]at ha;by_cases h2:l=b;subst h2;exact m.inj _ _ ca cs ha hl u;simp only[h2,if_false]at hb;exact m.inj _ _ ca cb ha hb u;intro t e ht;refine((m.env t e ht).mono he).locs (fun l' n j=>⟨?_,rfl⟩);by_cases h:l=l';exact⟨ds,by simp[Ze,h]⟩;exact⟨n,by simp[Ze,h,j]⟩
theorem Zt3(c:Array Value)(T:TypeId)(hf:∀b,w.heap.size≤b→g.prot b=0∧¬g.kept b):Jv g w g (w.alloc (.cells c T)):={
 size:=by simp
 old b hb:=Zh8 w _ hb
 prot _ _:=rfl
 fresh b hb:=(hf b (by simp at hb;omega)).1
 kept:=rfl
 os:=rfl
 output:=rfl
 tape:=rfl }
theorem Zs.alloc(m:Zs g ν w tmps ρ L s){l:Nat}(hl:J4 L l=false){vs:Array Value}(hr:ZJ (Rep g w) vs.toList ds)(ho:∀v∈vs,v.one1=true)(T:TypeId):
  Ext g w g (w.alloc (.cells vs T))∧Zs g (fun x=>if x=l then w.heap.size else ν x) (w.alloc (.cells vs T)) tmps ρ ((l,ds)::L) s:=by
 have hg:=Zt3 (g:=g) vs T m.st.fresh;have he:=hg.ext m.st.fresh;have m':=m.grow hg;have hn:Ze L l=nO:=by simpa[J4]using hl
 have z:∀l' n,Ze L l'=sO n→l'≠l:=fun l' n h hh=>by subst hh;rw[hn]at h;simp at h
 refine⟨he,⟨m'.st,?_,?_,?_,?_,?_⟩⟩;intro l' n j;simp only[Ze]at j;by_cases h:l=l';subst h;simp only[if_true,ZDV]at j;subst j;simp only[if_true];refine⟨(m.st.fresh _ (ZEd _)).1,vs,T,W0 w _,by simpa using hr.len,fun i v d hv hd=>?_,ho⟩;exact(hr.get i v d (by simpa using hv) hd).mono he;simp only[h,if_false]at j;simp only[show ¬l'=l from fun hh=>h hh.symm,if_false];exact m'.loc l' n j;intro l' n j;simp only[Ze]at j;by_cases h:l=l';subst h;simp only[if_true];exact(m.st.fresh _ (ZEd _)).2;simp only[h,if_false]at j;simp only[show ¬l'=l from fun hh=>h hh.symm,if_false];exact m.locKept l' n j
 ·intro l' n j;simp only[Ze]at j;by_cases h:l=l'
  ·subst h;simp only[if_true];cases hs:s w.heap.size with
   |none=>rfl
   |some o=>exact absurd (m.st.obj _ o hs).lt (Nat.lt_irrefl _)
  simp only[h,if_false]at j;simp only[show ¬l'=l from fun hh=>h hh.symm,if_false];exact m.locSt l' n j
 intro a b ca cb ha hb u;simp only[Ze]at ha hb;by_cases h1:l=a;by_cases h2:l=b;exact h1.symm.trans h2;simp only[h2,if_false]at hb;simp only[h1.symm,if_true,show ¬b=l from fun hh=>h2 hh.symm,if_false]at u;have:=(m.loc b cb hb).lt;omega;simp only[h1,if_false]at ha;by_cases h2:l=b;simp only[h2.symm,if_true,show ¬a=l from fun hh=>h1 hh.symm,if_false]at u;have:=(m.loc a ca ha).lt;omega;simp only[h2,if_false]at hb;simp only[show ¬a=l from fun hh=>h1 hh.symm,show ¬b=l from fun hh=>h2 hh.symm,if_false]at u;exact m.inj _ _ ca cb ha hb u;intro t e ht;refine(m'.env t e ht).locs (fun l' n j=>⟨⟨n,?_⟩,?_⟩);have:=z l' n j;simp[Ze,show ¬l=l' from fun hh=>this hh.symm,j];simp[z l' n j]
theorem ZkF(c:Array Value)(T:TypeId)(hf:∀b,w.heap.size≤b→g.prot b=0∧¬g.kept b):
  Jv g w { g with prot:=fun b=>if b=w.heap.size then c.size else g.prot b } (w.alloc (.cells c T)) where
 size:=by simp
 old b hb:=Zh8 w _ hb
 prot b hb:=by simp[Nat.ne_of_lt hb]
 fresh b hb:=by simp at hb;simp[show b≠w.heap.size by omega,(hf b (by omega)).1]
 kept:=rfl
 os:=rfl
 output:=rfl
 tape:=rfl
theorem Z9(m:Zs g ν w tmps ρ L s){ops:Array Oper}{o:Oper}{gd:Option (Nat×Bool)}(hc:Zie ops o.guard=sO gd){c:Bool}(hg:Zk ρ gd=sO c):Region.wanted o (yielded ops tmps)=c:=by
 unfold Zie at hc;unfold Region.wanted;split at hc;rename_i h0;simp only[ZDV]at hc;subst hc;simp only[Zk,ZDV]at hg;subst hg;simp[h0];rename_i j b h0;split at hc<;>simp at hc;rename_i t ht;subst hc;simp only[h0];have hy:yielded ops tmps j=match tmps.getD t undef with
   |.bool b=>sO b
   |_=>nO:=by
  unfold yielded;rw[ht];simp only[Option.bind_some];rcases Nat.lt_or_ge t tmps.size with i|hge;simp[Array.getD,i];split<;>simp_all;simp[Array.getD,Nat.not_lt.2 hge,undef]
 simp only[Zk]at hg;split at hg;rename_i b' he;simp only[ZDV]at hg;subst hg;have:=Zbq (m.env t _ he);rw[hy,this];cases b<;>cases b'<;>rfl;rename_i c0 b' he;simp only[ZDV]at hg;subst hg;have h:=m.env t _ he;cases c0;have:=h.2 rfl;rw[hy,this];simp[undef];have:=Zbq (h.1 rfl);rw[hy,this];cases b<;>cases b'<;>rfl;simp at hg
end
section
variable {P:Program}
theorem Yg{op:Op}{k:K}(h:ck P op=sO k)(hk:k.isDefer=false)(c:Call):op≠.defer c:=by
 rintro rfl;simp only[ck,cq]at h;split at h<;>(try(simp at h;done));split at h<;>simp only[ZDV,reduceCtorEq]at h;subst h;simp[K.isDefer]at hk
theorem ZhD{b:Frame}{a:Act}{k:List Item}{cs:List Frame}{w w':World}{ops:Array Oper}{i:Nat}{rest:List Nat}{o:Oper}{v:Value}(ho:ops[i]?=sO o)(hw:Region.wanted o (yielded ops a.tmps)=true)(hnd:∀c,o.op≠.defer c)(hr:(execOp a.eval o).run P w=.ok (.value v) w'):
  step P (lone (b.atR a (.inRegion ops (i::rest)::k)) cs w)=.next (lone (b.atR (a.put o.dst v) (.inRegion ops rest::k)) cs w'):=by
 refine step_lone_go ?_;rw[stepGR_op ho hw,Oper.semAt_eq _ _ _ hnd];have j:(b.atR a (.inRegion ops (i::rest)::k)).finish v=b.atR (a.put o.dst v) (.inRegion ops rest::k):=by rw[Frame.finish_atR,ho];rfl
 rw[←j];simp[stepG.apply,hr]
theorem ZhC{b:Frame}{a:Act}{k:List Item}{cs:List Frame}{w w':World}{ops:Array Oper}{i:Nat}{rest:List Nat}{o:Oper}(ho:ops[i]?=sO o)(hw:Region.wanted o (yielded ops a.tmps)=true)(hnd:∀c,o.op≠.defer c)(hr:(execOp a.eval o).run P w=.ok .skip w'):
  step P (lone (b.atR a (.inRegion ops (i::rest)::k)) cs w)=.next (lone (b.atR (a.put o.dst undef) (.inRegion ops rest::k)) cs w'):=by
 refine step_lone_go ?_;rw[stepGR_op ho hw,Oper.semAt_eq _ _ _ hnd];have j:(b.atR a (.inRegion ops (i::rest)::k)).finish undef=b.atR (a.put o.dst undef) (.inRegion ops rest::k):=by rw[Frame.finish_atR,ho];rfl
 rw[←j];simp[stepG.apply,hr]
theorem ZpK{b:Frame}{a:Act}{k:List Item}{cs:List Frame}{ops:Array Oper}{i:Nat}{rest:List Nat}{o:Oper}(ho:ops[i]?=sO o)(hw:Region.wanted o (yielded ops a.tmps)=false):
  step P (lone (b.atR a (.inRegion ops (i::rest)::k)) cs w)=.next (lone (b.atR (a.put o.dst undef) (.inRegion ops rest::k)) cs w):=by
 have:=stepR_op_skip (P:=P) (b:=b) (a:=a) (k:=k) (cs:=cs) (w:=w) (ops:=ops) (i:=i) (rest:=rest) (by simp[ho,hw]);simpa[ho]using this
theorem Zvp{N:Nat}{ops:Array Oper}{is:List Nat}{o:DOp}(h:QW P N ops is=sO (o::os)):
  ∃i r oo,is=i::r∧ops[i]?=sO oo∧QW P N ops r=sO os∧ck P oo.op=sO o.k∧Zie ops oo.guard=sO o.guard∧oo.dst=o.dst∧∀d,o.dst=sO d→d<N:=by
 cases is with
 |nil=>simp[QW]at h
 |cons i r =>simp only[QW]at h;split at h<;>(try(simp at h;done));rename_i oo n;split at h<;>simp only[ZDV,List.cons.injEq,reduceCtorEq]at h;rename_i d ds hd u;obtain⟨rfl,rfl⟩:=h;simp only[cop]at hd;split at hd<;>(try(simp at hd;done));rename_i k g hk hg;refine⟨i,r,oo,rfl,n,u,?_⟩;split at hd;rename_i j;simp only[ZDV]at hd;subst hd;exact⟨hk,hg,j,fun d h=>by simp at h⟩;rename_i d' j;split at hd<;>simp at hd;rename_i t;subst hd;exact⟨hk,hg,j,fun d h=>by simp only[ZDV]at h;exact h▸t⟩
theorem ZwY{N:Nat}{ops:Array Oper}{is:List Nat}(h:QW P N ops is=sO []):is=[]:=by
 cases is with
 |nil=>rfl
 |cons i r=>simp only[QW]at h;split at h<;>(try(simp at h;done));split at h<;>simp at h
theorem ZeE(m:Zs g ν w tmps ρ L s){N:Nat}(hN:N≤tmps.size)(hd:∀d,dst=sO d→d<N){v:Value}{e:E}(h:ZK g ν w L v e)(ds:List Deferred):∃tmps',(Act.mk tmps ds).put dst v=⟨tmps',ds⟩∧N≤tmps'.size∧Zs g ν w tmps' (Zw ρ dst e) L s:=by
 cases dst with
 |none=>exact⟨tmps,rfl,hN,m⟩
 |some d=>exact⟨tmps.setIfInBounds d v,rfl,by simpa using hN,m.put (by have:=hd d rfl;omega) h⟩
theorem Zmy{F:Fr P}{ops:Array Oper}{i:Nat}{r:List Nat}{k:List Item}{oo:Oper}{o:DOp}(hN:F.N≤tmps.size)(m:Zs g ν w tmps ρ L s)(hoo:ops[i]?=sO oo)(hdst:oo.dst=o.dst)(hd:∀d,o.dst=sO d→d<F.N)(hw:Region.wanted oo (yielded ops tmps)=true)(hnd:∀c,oo.op≠.defer c){e:E}(hv:∃v,(execOp (Act.mk tmps F.ds).eval oo).run P w=.ok (.value v) w∧ZK g ν w L v e)(h:QU F (.inRegion ops r::k) (Zw ρ o.dst e) L s):
  F.T.T g w (lone (F.b.atR ⟨tmps,F.ds⟩ (.inRegion ops (i::r)::k)) F.cs w):=by
 obtain⟨v,hr,hv⟩:=hv;refine F.T.back _ _ _ _ (.one (ZhD hoo hw hnd hr)) ?_;rw[hdst];obtain⟨j,e1,e2,m'⟩:=ZeE m hN hd hv F.ds;rw[e1];exact h g ν w j e2 m'
theorem Zbg{F:Fr P}{ops:Array Oper}{i:Nat}{r:List Nat}{k:List Item}{oo:Oper}{o:DOp}(hN:F.N≤tmps.size)(m:Zs g ν w tmps ρ L s)(hoo:ops[i]?=sO oo)(hdst:oo.dst=o.dst)(hd:∀d,o.dst=sO d→d<F.N)(hw:Region.wanted oo (yielded ops tmps)=false){e:E}(h:QU F (.inRegion ops r::k) (Zw ρ o.dst (.when false e)) L s):F.T.T g w (lone (F.b.atR ⟨tmps,F.ds⟩ (.inRegion ops (i::r)::k)) F.cs w):=by
 refine F.T.back _ _ _ _ (.one (ZpK hoo hw)) ?_;rw[hdst];obtain⟨j,e1,e2,m'⟩:=ZeE m hN hd (v:=undef) (e:=.when false e) ⟨fun h=>by simp at h,fun _=>rfl⟩ F.ds;rw[e1];exact h g ν w j e2 m'
theorem Zzs{op:Op}{q:Q}(h:ck P op=sO (.q q xs)):∃ys,cq P op=sO (q,ys)∧ZbT ys=sO xs:=by
 unfold ck at h;split at h;rename_i q' ys hc;simp only[ZD9,K.q.injEq]at h;obtain⟨zs,hz,rfl,rfl⟩:=h;exact⟨ys,hc,hz⟩;exfalso;split at h<;>(try(simp at h;done));all_goals (repeat' (split at h<;>(try(simp at h;done))))
theorem Zdb(ρ:Env):∀(ks:List Nat) (t:Nat) (e:E),ZM (Yj ρ ks) t=sO e→ZM ρ t=sO e
 | [],t,e,h=>by simp[Yj,ZM]at h
 |k::ks,t,e,h=>by simp only[Yj]at h;split at h;rename_i e' i;simp only[ZM]at h;by_cases hk:k=t;subst hk;simp only[if_true]at h;rw[i,h];simp only[hk,if_false]at h;exact Zdb ρ ks t e h;exact Zdb ρ ks t e h
theorem ZfW:∀{ρ:Env} {t:Nat} {e:E},ZM ρ t=sO e→(t,e)∈ρ
 | (k,e')::ρ,t,e,h=>by simp only[ZM]at h;by_cases hk:k=t;simp only[hk,if_true,ZDV]at h;subst h;subst hk;simp;simp only[hk,if_false]at h;exact List.mem_cons_of_mem _ (ZfW h)
theorem Jq(L:Loc):∀(ls:List Nat) (l:Nat) (cs:List D),Ze (Zag L ls) l=sO cs→Ze L l=sO cs
 | [],l,cs,h=>by simp[Zag,Ze]at h
 |k::ls,l,cs,h=>by simp only[Zag]at h;split at h;rename_i c' i;simp only[Ze]at h;by_cases hk:k=l;subst hk;simp only[if_true]at h;rw[i,h];simp only[hk,if_false]at h;exact Jq L ls l cs h;exact Jq L ls l cs h
theorem Zfw(L:Loc):∀(ls:List Nat) (l:Nat) (cs:List D),l∈ls→Ze L l=sO cs→Ze (Zag L ls) l=sO cs
 |k::ls,l,cs,hm,h=>by
  simp only[Zag];by_cases hk:k=l;subst hk;simp[h,Ze];have hm':l∈ls:=by rcases List.mem_cons.1 hm with rfl|h;exact absurd rfl hk;exact h
  split;simp only[Ze,hk,if_false];exact Zfw L ls l cs hm' h;exact Zfw L ls l cs hm' h
theorem ZK.keep{ls:List Nat}{v:Value}{e:E}(h:ZK g ν w L v e)(hl:∀l∈WU e,l∈ls):ZK g ν w (Zag L ls) v e:=by
 induction e with
 |d x=>exact h
 |loc l o=>obtain⟨⟨cs,hc⟩,hv⟩:=h;exact⟨⟨cs,Zfw L ls l cs (hl l (by simp[WU])) hc⟩,hv⟩
 |when c e ih=>exact⟨fun hc=>ih (h.1 hc) hl,h.2⟩
theorem Zs.keep(m:Zs g ν w tmps ρ L s)(ks:List Nat):Zs g ν w tmps (Yj ρ ks) (ZaJ (Yj ρ ks) L) s:={
 st:=m.st
 loc l cs h:=m.loc l cs (Jq _ _ _ _ h)
 locKept l cs h:=m.locKept l cs (Jq _ _ _ _ h)
 locSt l cs h:=m.locSt l cs (Jq _ _ _ _ h)
 inj l l' cs cs' h h':=m.inj l l' cs cs' (Jq _ _ _ _ h) (Jq _ _ _ _ h')
 env t e h:=(m.env t e (Zdb ρ ks t e h)).keep (fun l hl=>List.mem_flatMap.2 ⟨(t,e),ZfW h,hl⟩) }
theorem ZoC{F:Fr P}{dk:List Zh}(ks:List Nat)(h:Zv F dk (Yj ρ ks) (ZaJ (Yj ρ ks) L) s):Zv F dk ρ L s :=
 fun k hk g ν w tmps hN m=>h k hk g ν w tmps hN (m.keep ks)
theorem Zzg{F:Fr P}{dk:List Zh}(h:Zv F dk ρ L s):DO F kp dk [] ρ L s:=by
 intro ops is k i hk g ν w tmps hN m;obtain rfl:=ZwY i;exact F.T.back _ _ _ _ (.one stepR_region_end) (h k hk g ν w tmps hN m)
def kept(kp:Option (List Nat))(ρ:Env):Env :=
 match kp with
 |some ks=>Yj ρ ks
 |none=>ρ
def ZjQ(kp:Option (List Nat))(ρ:Env)(L:Loc):Loc :=
 match kp with
 |some ks=>ZaJ (Yj ρ ks) L
 |none=>L
theorem Zec{F:Fr P}{dk:List Zh}(h:Zv F dk (kept kp ρ) (ZjQ kp ρ L) s):DO F kp dk [] ρ L s:=by
 refine Zzg ?_;cases kp with
 |none=>exact h
 |some ks=>exact ZoC ks h
end
section
variable {P:Program}
theorem Zxw(m:Zs g ν w tmps ρ L s){x a b:Operand}{x' a' b':Opd}(hx:ZZ x=sO x')(ha:ZZ a=sO a')(hb:ZZ b=sO b'){c:Bool}(hc:c=true){p:Prop}{v:Bool}(h:Zc0 ρ c x' a' b'=sO (p,v))(hp:p)(ds:List Deferred)(dst:Option Nat)(ty:TypeId)(pos:String)(af:Array Edge)(gd:Option (Nat×Bool)):
  (execOp (Act.mk tmps ds).eval ⟨dst,.pick x a b,ty,pos,af,gd⟩).run P w=.ok (.value (.bool v)) w:=by
 unfold Zc0 at h;split at h<;>(try(grind;done));rename_i p0 v0 h0;split at h<;>(try(grind;done));rename_i pa y pb z h1 h2;cases h;subst hc;have e0:=Zbq (Z7 m hx rfl h0 hp.1 ds);cases v0;have e2:=Zbq (Z7 m hb rfl h2 hp.2.2 ds);simp[execOp,e0,e2,asBool];have e1:=Zbq (Z7 m ha rfl h1 hp.2.1 ds);simp[execOp,e0,e1,asBool]
theorem Zyn{op:Op}{x a b:Opd}(h:ck P op=sO (.pick x a b)):∃x' a' b',op=.pick x' a' b'∧ZZ x'=sO x∧ZZ a'=sO a∧ZZ b'=sO b:=by
 unfold ck at h;split at h;simp at h;split at h<;>(try(simp at h;done));all_goals (try(repeat' (split at h<;>(try(simp at h;done)))))
 cases h;exact⟨_,_,_,rfl,‹_›,‹_›,‹_›⟩
theorem ZqE{op:Op}{z:List D}(h:ck P op=sO (.alloc z)):∃e,op=.alloc e∧Zai P e=sO z:=by
 unfold ck at h;split at h;simp at h;split at h<;>(try(simp at h;done));all_goals (try(repeat' (split at h<;>(try(simp at h;done)))))
 simp at h;exact⟨_,rfl,h⟩
theorem Zvh{op:Op}{x:Opd}(h:ck P op=sO (.box x)):∃e x',op=.box e x'∧ZZ x'=sO x:=by
 unfold ck at h;split at h;simp at h;split at h<;>(try(simp at h;done));all_goals (try(repeat' (split at h<;>(try(simp at h;done)))))
 simp at h;exact⟨_,_,rfl,h⟩
theorem ZoH{op:Op}{a v:Opd}(h:ck P op=sO (.store1 a v)):∃t a' v',op=.store t a' v'∧Jw P t=sO false∧ZY P t=sO 1∧ZZ a'=sO a∧ZZ v'=sO v:=by
 unfold ck at h;split at h;simp at h;split at h<;>(try(simp at h;done));all_goals (try(repeat' (split at h<;>(try(simp at h;done)))))
 cases h;exact⟨_,_,_,rfl,‹_›,‹_›,‹_›,‹_›⟩
theorem ZoI{op:Op}{a v:Opd}{n:Nat}(h:ck P op=sO (.storeN n a v)):∃t a' v',op=.store t a' v'∧Jw P t=sO true∧ZY P t=sO n∧ZZ a'=sO a∧ZZ v'=sO v:=by
 unfold ck at h;split at h;simp at h;split at h<;>(try(simp at h;done));all_goals (try(repeat' (split at h<;>(try(simp at h;done)))))
 cases h;exact⟨_,_,_,rfl,‹_›,‹_›,‹_›,‹_›⟩
theorem Zvi{op:Op}{len n:Nat}{z:List D}{is:List Nat}(h:ck P op=sO (.bsl len n z is xs)):
  ∃t e parts,op=.buildSlice t len parts∧P.underlying t=sO (.slice e)∧ZY P e=sO n∧Zai P e=sO z∧ZbT (parts.toList.map (·.2))=sO xs∧is=parts.toList.map (·.1) ∧
   K6 len is=true∧z.length=n∧0<n∧len*n≤2 ^ 24:=by
 unfold ck at h;split at h;simp at h;split at h<;>(try(simp at h;done));all_goals (try(repeat' (split at h<;>(try(simp at h;done)))))
 rename_i i;cases h;simp at i;exact⟨_,_,_,rfl,‹_›,‹_›,‹_›,‹_›,rfl,i.1.1.1,i.1.1.2,i.1.2,i.2⟩
theorem QH{t:TypeId}{z:List D}(h:Zai P t=sO z):∃v,(zeroValue t).run P w=.ok v w∧ZJ (Rep g w) v.cells.toList z∧(∀x∈v.cells,x.one1=true)∧∃i,P.info? t=sO i∧i.zero=sO v:=by
 unfold Zai at h;cases hi:P.info? t with
 |none=>grind
 |some i =>
  cases hz:i.zero with
  |none=>grind
  |some v =>simp[hi,hz]at h;obtain⟨h1,h2⟩:=Zc9 (g:=g) (w:=w) h;exact⟨v,by simp[zeroValue,typeInfo,hi,hz],h1,fun x hx=>h2 x (Array.mem_toList_iff.2 hx),i,rfl,hz⟩
theorem Y9{F:Fr P}{dk:List Zh}{o:DOp}(h:∀(oo:Oper) (g:G) (ν:Nat→Nat) (w:World) (tmps:Array Value) (ops:Array Oper) (i:Nat) (r:List Nat) (k:List Item),ops[i]?=sO oo→ck P oo.op=sO o.k→Zie ops oo.guard=sO o.guard →
   oo.dst=o.dst→(∀d,o.dst=sO d→d<F.N)→F.N≤tmps.size→Zs g ν w tmps ρ L s→QW P F.N ops r=sO os→Wo P F.an F.N k dk →
   F.T.T g w (lone (F.b.atR ⟨tmps,F.ds⟩ (.inRegion ops (i::r)::k)) F.cs w)):DO F kp dk (o::os) ρ L s:=by
 intro ops is k j hk g ν w tmps hN m;obtain⟨i,r,oo,rfl,h1,h2,h3,h4,h5,h6⟩:=Zvp j;exact h oo g ν w tmps ops i r k h1 h3 h4 h5 h6 hN m h2 hk
theorem Zqb{F:Fr P}{dk:List Zh}{o:DOp}{c:Bool}(hg:Zk ρ o.guard=sO c)(hnk:o.k.isDefer=false){e e':E}(he:e'=.when c e∨(c=true∧e'=e))(hv:c=true→∀(oo:Oper) (g:G) (ν:Nat→Nat) (w:World) (tmps:Array Value),ck P oo.op=sO o.k→Zs g ν w tmps ρ L s →
   ∃v,(execOp (Act.mk tmps F.ds).eval oo).run P w=.ok (.value v) w∧ZK g ν w L v e)(h:DO F kp dk os (Zw ρ o.dst e') L s):DO F kp dk (o::os) ρ L s:=by
 refine Y9 fun oo g ν w tmps z i r k n u ad j hd hN m hr ab=>?_;have t:=h z r k hr ab;have hw:=Z9 m ad hg;have ac:=Yg u hnk;cases c;rcases he with rfl|⟨h0,_⟩;exact Zbg (P:=P) hN m n j hd hw t;grind;obtain⟨v,h1,h2⟩:=hv rfl oo g ν w tmps u m;refine Zmy hN m n j hd hw ac ⟨v,h1,?_⟩ t;rcases he with rfl|⟨_,rfl⟩;exact⟨fun _=>h2,fun h=>by simp at h⟩;exact h2
theorem Zzh{F:Fr P}{dk:List Zh}{o:DOp}{c:Bool}(hg:Zk ρ o.guard=sO c){q:Q}(hk:o.k=.q q xs){p side:Prop}{es:List E}{e:E}(ha:Ya ρ c xs=sO (p,es))(hq:qv L s q es=sO (side,e))(hs:c=true→p∧side){e':E}(he:e'=.when c e∨(c=true∧e'=e))(h:DO F kp dk os (Zw ρ o.dst e') L s):DO F kp dk (o::os) ρ L s:=by
 refine Zqb hg (by rw[hk];rfl) he (fun hc oo g ν w tmps j m=>?_) h;rw[hk]at j;obtain⟨ys,t,n⟩:=Zzs j;have i:=ZbD m hc F.ds n ha (hs hc).1;exact ZyN t i m.loc m.st hq (hs hc).2 _ _ _ _ _
theorem YE{F:Fr P}{ops:Array Oper}{i:Nat}{r:List Nat}{k:List Item}{oo:Oper}{o:DOp}{g g':G}{ν':Nat→Nat}{w w':World}{L':Loc}{s':St}(hN:F.N≤tmps.size)(hoo:ops[i]?=sO oo)(hdst:oo.dst=o.dst)(hd:∀d,o.dst=sO d→d<F.N)(hw:Region.wanted oo (yielded ops tmps)=true)(hnd:∀c,oo.op≠.defer c){e:E}{v:Value}(hr:(execOp (Act.mk tmps F.ds).eval oo).run P w=.ok (.value v) w')(hx:Ext g w g' w')(m':Zs g' ν' w' tmps ρ L' s')(hv:ZK g' ν' w' L' v e)(h:QU F (.inRegion ops r::k) (Zw ρ o.dst e) L' s'):F.T.T g w (lone (F.b.atR ⟨tmps,F.ds⟩ (.inRegion ops (i::r)::k)) F.cs w):=by
 refine F.T.back _ _ _ _ (.one (ZhD hoo hw hnd hr)) ?_;rw[hdst];obtain⟨j,e1,e2,n⟩:=ZeE m' hN hd hv F.ds;rw[e1];exact F.T.ext _ _ _ _ _ hx (h g' ν' w' j e2 n)
theorem Zp7{F:Fr P}{dk:List Zh}{o:DOp}(hg:o.guard=nO){t:Nat}(hdt:o.dst=sO t){z:List D}(hk:o.k=.alloc z)(hl:J4 L t=false)(h:DO F kp dk os ((t,.loc t 0)::ρ) ((t,z)::L) s):DO F kp dk (o::os) ρ L s:=by
 refine Y9 fun oo g ν w tmps ab i r k u j ai n hd hN m hr ad=>?_;have hw:=Z9 m ai (c:=true) (by rw[hg];rfl);have ag:=Yg j (by rw[hk];rfl);rw[hk]at j;obtain⟨T,ae,hz⟩:=ZqE j;obtain⟨v,ah,af,ac,_⟩:=QH (g:=g) (w:=w) hz;obtain⟨hx,m'⟩:=m.alloc hl af ac T;refine YE (s':=s) hN u n hd hw ag (v:=.pointer (sO ⟨w.heap.size,0,nO⟩)) (e:=.loc t 0) ?_ hx m' ⟨⟨z,by simp[Ze]⟩,by simp⟩ ?_;simp[execOp,ae,Instr.alloc,ah,newVar,newRow];rw[hdt];exact h ab r k hr ad
theorem Zze{F:Fr P}{dk:List Zh}{o:DOp}(hg:o.guard=nO){t:Nat}(hdt:o.dst=sO t){x:Opd}(hk:o.k=.box x){p:Prop}{v:D}(ha:ZE ρ true x=sO (p,.d v))(hp:p)(hl:J4 L t=false)(hok:WS v=true)(h:DO F kp dk os ((t,.loc t 0)::ρ) ((t,cellsOf v)::L) s):DO F kp dk (o::os) ρ L s:=by
 refine Y9 fun oo g ν w tmps ac i r k ab n ai u hd hN m hr ad=>?_;have hw:=Z9 m ai (c:=true) (by rw[hg];rfl);have ag:=Yg n (by rw[hk];rfl);rw[hk]at n;obtain⟨T,x',ae,aj⟩:=Zvh n;have j:Rep g w _ v:=Z7 m aj rfl ha hp F.ds;obtain⟨af,ah⟩:=Zdi j hok;have z:=Zgz j hok;obtain⟨hx,m'⟩:=m.alloc hl (Yf (by simpa using af) ah) (fun v hv=>z v hv) T;refine YE (s':=s) hN ab u hd hw ag (v:=.pointer (sO ⟨w.heap.size,0,nO⟩)) (e:=.loc t 0) ?_ hx m' ⟨⟨cellsOf v,by simp[Ze]⟩,by simp⟩ ?_;simp[execOp,ae,Instr.box,newVar,newRow];rw[hdt];exact h ac r k hr ad
theorem ZyK{v:Value}{l off:Nat}(h:ZK g ν w L v (.loc l off)):v=.pointer (sO ⟨ν l,off,nO⟩):=h.2
theorem Zqa{F:Fr P}{dk:List Zh}{o:DOp}(hg:o.guard=nO){a v:Opd}(hk:o.k=.store1 a v∧True∨∃n,o.k=.storeN n a v){p q:Prop}{l off:Nat}{d:D}{cs:List D}(ha:ZE ρ true a=sO (p,.loc l off))(hv:ZE ρ true v=sO (q,.d d))(hp:p)(hq:q)(hL:Ze L l=sO cs)(hd1:o.k=.store1 a v→Qn d=true)(hd2:∀n,o.k=.storeN n a v→(∃xs,d=.agg xs)∧(cellsOf d).length=n)(hlen:off+(cellsOf d).length≤cs.length)(hdst0:o.dst=nO)(h:DO F kp dk os ρ ((l,Zt cs off (cellsOf d))::L) s):DO F kp dk (o::os) ρ L s:=by
 refine Y9 fun oo g ν w tmps ak i r k aj ab az ah hd hN m hr am=>?_;have hw:=Z9 m az (c:=true) (by rw[hg];rfl);have av:=Yg ab (by rcases hk with ⟨hk,_⟩|⟨n,hk⟩<;>rw[hk]<;>rfl);have af:∃t a' v',oo.op=.store t a' v'∧ZZ a'=sO a∧ZZ v'=sO v∧ZY P t=sO (cellsOf d).length∧WS d=true:=by rcases hk with ⟨hk,_⟩|⟨n,hk⟩;have u:=hd1 hk;rw[hk]at ab;obtain⟨t,a',v',h1,h2,h3,h4,h5⟩:=ZoH ab;refine⟨t,a',v',h1,h4,h5,?_,?_⟩;rw[h3];cases d<;>simp[Qn]at u<;>rfl;cases d<;>simp[Qn]at u<;>rfl;obtain⟨⟨xs,rfl⟩,hn⟩:=hd2 n hk;rw[hk]at ab;obtain⟨t,a',v',h1,h2,h3,h4,h5⟩:=ZoI ab;exact⟨t,a',v',h1,h4,h5,by rw[h3,hn],rfl⟩
 obtain⟨t,a',v',au,ao,ar,aw,u⟩:=af;have a0:=ZyK (Z7 m ao rfl ha hp F.ds);have ad:Rep g w _ d:=Z7 m ar rfl hv hq F.ds;obtain⟨ag,ay⟩:=Zdi ad u;have ae:=Zgz ad u;obtain⟨hpr,j,T,hb,al,ax,ai⟩:=m.loc l cs hL;generalize ap:(Act.mk tmps F.ds).eval v'=vv at *;have aq:=run_storeCells_at (P:=P) (ν l) off T vv.cells.toList 0 j w hb (by simp;omega) (fun x hx=>by rw[ZcD];exact ae x (Array.mem_toList_iff.1 hx));have z:ZJ (Rep g w) (j.toList.take off++vv.cells.toList++j.toList.drop (off+vv.cells.size)) (Zt cs off (cellsOf d)):=by have ac:ZJ (Rep g w) j.toList cs:=Yf (by simpa using al) (fun i v d hv hd=>ax i v d (by simpa using hv) hd);unfold Zt;rw[←ag];exact((ac.take off).append (Yf (by simpa using ag) ay)).append (ac.drop _)
 obtain⟨hx,m'⟩:=m.store hL (vs:=(j.toList.take off++vv.cells.toList++j.toList.drop (off+vv.cells.size)).toArray) (ds:=Zt cs off (cellsOf d)) (by simpa using z) (fun x hx=>by
  simp only[List.mem_toArray,List.mem_append]at hx;rcases hx with (hx|hx)|hx;exact ai x (Array.mem_toList_iff.1 (List.mem_of_mem_take hx));exact ae x (Array.mem_toList_iff.1 hx);exact ai x (Array.mem_toList_iff.1 (List.mem_of_mem_drop hx))) (by simp[Zt];omega)
 refine F.T.back _ _ _ _ (.one (ZhC aj hw av (w':=w.setRow (ν l) (j.toList.take off++vv.cells.toList++j.toList.drop (off+vv.cells.size)).toArray) ?_)) ?_;simp only[execOp,au,a0,ap,Instr.storeAt,Instr.sureAddr,storeVar,Sem.run_bind,Sem.run_pure,Result.andThen_ok,YI aw];rw[if_neg (by simp[ag])];rw[aq];rfl;rw[ah,hdst0];exact F.T.ext _ _ _ _ _ hx (h ak r k hr am g ν _ tmps hN m')
end
theorem Zrx{cs vs:List D}{s k i:Nat}(hv:vs.length=s)(hk:(k+1)*s≤cs.length)(hi:(i+1)*s≤cs.length):
  part (Zt cs (k*s) vs) (i*s) s=if i=k then vs else part cs (i*s) s:=by
 have hk':k*s+s≤cs.length:=by rw[ZEo,Nat.one_mul]at hk;exact hk
 unfold part Zt;apply List.ext_getElem?;intro j;by_cases hj:j<s;simp only[ZEC,hj,if_true,List.getElem?_drop,List.getElem?_append,ZD8,ZEh,hv];by_cases n:i=k;subst n;simp only[show i*s+j<min (i*s) cs.length+s from by omega,show ¬i*s+j<min (i*s) cs.length from by omega,if_true,if_false];rw[show i*s+j-min (i*s) cs.length=j from by omega];simp only[n,if_false,ZEC,hj,if_true,List.getElem?_drop];rcases Nat.lt_or_gt_of_ne n with h|h;have:(i+1)*s≤k*s:=ZEi s h;rw[ZEo,Nat.one_mul]at this;simp only[show i*s+j<min (k*s) cs.length+s from by omega,show i*s+j<min (k*s) cs.length from by omega,if_true,show i*s+j<k*s from by omega];have:(k+1)*s≤i*s:=ZEi s h;rw[ZEo,Nat.one_mul]at this;simp only[show ¬i*s+j<min (k*s) cs.length+s from by omega,if_false]
 congr 1;omega
 have e1:∀l:List D,(l.take s)[j]?=nO:=fun l=>by simp[ZEC,hj]
 rw[e1];split;exact(ZEG (l:=vs) (i:=j) (by omega)).symm;rw[e1]
theorem Zoe{cs vs:List D}{o:Nat}(h:o+vs.length≤cs.length):(Zt cs o vs).length=cs.length:=by
 simp[Zt];omega
theorem Zgk{n:Nat}:∀{is:List Nat},K6 n is=true→∀i∈is,i<n
 |i::r,h,j,hj=>by simp[K6]at h;rcases List.mem_cons.1 hj with rfl|hj;exact h.1.1;exact Zgk h.2 j hj
theorem ZmE{z:List D}:∀{ps:List (Nat×D)} {i:Nat},(∀p∈ps,p.1≠i)→Z8 z ps i=z
 | [],_,_=>rfl
 | (k,d)::r,i,h=>by have h0:¬k=i:=h (k,d) (by simp);simp[Z8,h0];exact ZmE fun p hp=>h p (List.mem_cons_of_mem _ hp)
theorem Ziq{len s:Nat}:∀(is:List Nat) (ds cells:List D),K6 len is=true→is.length=ds.length→KN s ds=true→cells.length=len*s →
  ∃cs,Zbe cells (is.map fun i=>(i*s,s)) ds=sO cs∧cs.length=len*s∧∀i,i<len→part cs (i*s) s=Z8 (part cells (i*s) s) (is.zip ds) i
 | [],[],cells,_,_,_,hc=>⟨cells,rfl,hc,fun i _=>rfl⟩
 |k::is,d::ds,cells,hd,hn,hp,hc=>by
  simp[K6]at hd;simp[KN]at hp;obtain⟨⟨hk,u⟩,hd⟩:=hd;obtain⟨⟨ac,z⟩,ab⟩:=hp;have j:(k+1)*s≤cells.length:=by rw[hc];exact ZEi s hk
  have t:k*s+s≤cells.length:=by rw[ZEo,Nat.one_mul]at j;exact j
  obtain⟨cs,h1,h2,h3⟩:=Ziq is ds (Zt cells (k*s) (cellsOf d)) hd (by simpa using hn) ab (by rw[Zoe (by omega),hc]);refine⟨cs,?_,h2,fun i hi=>?_⟩;simp only[ZEc,Zbe];rw[if_pos ⟨ac,z,t⟩];exact h1;rw[h3 i hi,Zrx z j (by rw[hc];exact ZEi s hi)];simp[Z8];by_cases n:i=k;subst n;simp;exact ZmE fun p hp=>by have:=(List.of_mem_zip hp).1;intro h;subst h;exact u this
  simp[n,show ¬k=i from fun h=>n h.symm]
 | [],_::_,_,_,hn,_,_=>by grind
 |_::_,[],_,_,hn,_,_=>by grind
theorem ZjB{z:List D}{len s i:Nat}(hzl:z.length=s)(_hs0:0<s)(hi:i<len):part ((ZEa (len*s)).map fun i=>z.getD (i % s) .undef) (i*s) s=z:=by
 apply List.ext_getElem?;intro c;by_cases hc:c<s;have n:i*s+c<len*s:=by have:(i+1)*s≤len*s:=ZEi s hi;rw[ZEo,Nat.one_mul]at this;omega
 have hm:(i*s+c) % s=c:=by rw[Nat.mul_comm,Nat.mul_add_mod,Nat.mod_eq_of_lt hc]
 have j:c<z.length:=by omega
 simp only[part,ZEC,hc,List.getElem?_drop,List.getElem?_map,List.getElem?_range n,ZEp,hm];simp[j];rw[ZEG (l:=z) (by omega)];simp[part,ZEC,hc]
section
variable {P:Program}
theorem Zzp{len s:Nat}{z:List D}{t e:TypeId}{parts:List (Nat×Value)}(hu:P.underlying t=sO (.slice e))(hsz:ZY P e=sO s)(hz:Zai P e=sO z)(hdis:K6 len (parts.map (·.1))=true)(hzl:z.length=s)(hs0:0<s)(hbig:len*s≤2 ^ 24)(hd:ZJ (Rep g w) (parts.map (·.2)) ds)(hp:KN s ds=true)(hf:∀b,w.heap.size≤b→g.prot b=0∧¬g.kept b):
  ∃v w' g',(Instr.buildSlice t len parts.toArray).run P w=.ok v w'∧Jv g w g' w'∧Rep g' w' v (.sl .full len s (Z8 z ((parts.map (·.1)).zip ds))):=by
 obtain⟨zv,hz1,am,aw,ie,aq,az⟩:=QH (g:=g) (w:=w) hz;have ab:ie.size=s:=by simpa[ZY,aq]using hsz
 have ac:zv.cells.size=s:=by have:=am.len;simp at this;omega
 have hn:(parts.map (·.1)).length=ds.length:=by have:=hd.len;simpa using this
 let c0:Array Value:=(Array.range (len*s)).map (zv.cells[· % zv.cells.size]!);let d0:List D:=(ZEa (len*s)).map fun i=>z.getD (i % s) .undef;have aj:ZJ (Rep g w) c0.toList d0:=by refine Yf (by simp[c0,d0]) (fun i v d hv hd=>?_);simp[c0,d0]at hv hd;obtain⟨a,ha,rfl⟩:=hv;obtain⟨b,hb,rfl⟩:=hd;rw[ha]at hb;cases hb;have n:a % s<s:=Nat.mod_lt _ hs0;refine am.get (a % s) _ _ ?_ ?_;rw[ac];simp[ac,n];simp[hzl,n]
 have ah:∀v∈c0,v.one1=true:=fun v hv=>by simp[c0]at hv;obtain⟨a,_,rfl⟩:=hv;have n:a % zv.cells.size<zv.cells.size:=Nat.mod_lt _ (by omega);rw[getElem!_pos zv.cells (a % zv.cells.size) n];exact aw _ (Array.getElem_mem n)
 have al:d0.length=len*s:=by simp[d0]
 obtain⟨cs,ai,hcl,ae⟩:=Ziq (parts.map (·.1)) ds d0 hdis hn hp al;obtain⟨cv,a3,ap,a4⟩:=Zgm (g:=g) (w:=w) (fun i=>sO (i*s,s)) parts ((parts.map (·.1)).map fun i=>(i*s,s)) ds cs d0 c0 (fun i x q hx hq=>by
  simp[hx,Function.comp_def]at hq;rw[←hq]) (by simp) hd aj ah ai
 have ag:cv.size=len*s:=by have:=ap.len;simp at this;omega
 have u:∀i j,i<len→j<s→i*s+j<len*s:=fun i j hi hj=>by have:(i+1)*s≤len*s:=ZEi s hi;rw[ZEo,Nat.one_mul]at this;omega
 have af:∀i j d,i<len→j<s→(Z8 z ((parts.map (·.1)).zip ds) i)[j]?=sO d→cs[i*s+j]?=sO d:=fun i j d hi hj hd=>by have h:=ae i hi;have ak:part d0 (i*s) s=z:=ZjB hzl hs0 hi;rw[ak]at h;rw[←h]at hd;simpa[part,hj]using hd
 have ad:∀i,i<len→(Z8 z ((parts.map (·.1)).zip ds) i).length=s:=fun i hi=>by
  have ak:=ae i hi;have:(part cs (i*s) s).length=s:=by have:=u i (s-1) hi (by omega);simp[part];omega
  have a0:part d0 (i*s) s=z:=ZjB hzl hs0 hi;rw[ak,a0]at this;exact this
 by_cases ax:len=0
 ·subst ax;have ay:parts=[]:=by
   cases parts with
   |nil=>rfl
   |cons x r=>have:=Zgk hdis x.1 (by simp);omega
  subst ay;refine⟨.slice (sO ⟨w.heap.size,0,nO⟩) 0 0,w.alloc (.cells #[] e),{ g with prot:=fun b=>if b=w.heap.size then 0 else g.prot b },?_,ZkF #[] e hf,?_⟩;simp[Instr.buildSlice,run_underlying hu,YI hsz,Instr.fill,newRow];exact congrArg (fun c=>w.alloc (Obj.cells c e)) (Array.ext' (by simp));exact .sl w.heap.size 0 0 0 s _ .full (fun _ _=>undef) (fun i hi=>by omega) (fun i j hi=>by omega) (fun i j hi=>by omega) (fun i j d hi=>by omega) (fun i j hi=>by omega) rfl (by omega) (by simp)
 have av:¬len*s=0:=by simp[Nat.mul_eq_zero];omega
 have au:=run_buildSlice (P:=P) w t e len parts.toArray cv ie zv hu aq az (by rw[ab];omega) (by rw[ab];exact av) (by rw[ab];exact a3);have ar:=ZkF (g:=g) (w:=w) cv e hf;refine⟨_,_,_,au,ar,?_⟩;have ao:=ar.ext hf;refine .sl w.heap.size 0 len len s _ .full (fun i j=>cv.getD (i*s+j) undef) ad (fun i j hi hj=>?_) (fun i j hi hj=>?_) (fun i j d hi hd=>?_) (fun i j hi hj=>?_) rfl (ZEd _) ?_;have n:i*s+j<cv.size:=by rw[ag];exact u i j hi hj
 have:(w.alloc (.cells cv e)).cell? ⟨w.heap.size,0+i*s+j,nO⟩=cv[0+i*s+j]?:=World.cell?_alloc_new w cv e _;rw[this];simp[n];simp;have:=u i j hi hj;omega;have hj:j<s:=by rw[←ad i hi];exact(List.getElem?_eq_some_iff.1 hd).1
 have n:i*s+j<cv.size:=by rw[ag];exact u i j hi hj
 refine(ap.get (i*s+j) _ d ?_ (af i j d hi hj hd)).mono ao;simp[n];have n:i*s+j<cv.size:=by rw[ag];exact u i j hi hj
 simp[n,dite_true];exact a4 _ (Array.getElem_mem n);unfold big;have:len≤len*s:=Nat.le_mul_of_pos_right _ hs0;omega
end
section
variable {P:Program}
theorem Yh.updL(h:Yh g s w){b:Nat}{o:Z1}(ho:Wz g w b o)(hk:¬g.kept b):Yh g (s.upd b o) w:={
 obj c x hx:=by simp[St.upd]at hx;by_cases hb:c=b;grind;simp[hb]at hx;exact h.obj c x hx
 kept c x hx:=by simp[St.upd]at hx;by_cases hb:c=b;grind;simp[hb]at hx;exact h.kept c x hx
 fresh:=h.fresh
 tabs:=h.tabs }
theorem Zs.named{w w':World}(m:Zs g ν w tmps ρ L s){b:Nat}{o o':Z1}(hb:s b=sO o)(he:Ext g w g w')(hsz:w'.heap.size=w.heap.size)(hoth:∀c,c≠b→w'.heap[c]?=w.heap[c]?)(ho:Wz g w' b o'):Zs g ν w' tmps ρ L (s.upd b o'):={
 st:=by
  have h1:Yh g (s.del b) w':=⟨fun c x hx=>by simp[St.del]at hx;by_cases hc:c=b;grind;simp[hc]at hx;exact(m.st.obj c x hx).mono he (hoth c hc) rfl,
   fun c x hx=>by simp[St.del]at hx;by_cases hc:c=b;grind;simp[hc]at hx;exact m.st.kept c x hx,
   fun c hc=>m.st.fresh c (by omega),fun n cs hc=>(m.st.tabs n cs hc).mono he⟩
  have h2:=h1.updL ho (m.st.kept b o hb);have:(s.del b).upd b o'=s.upd b o':=by funext c;simp[St.upd,St.del];by_cases hc:c=b<;>simp[hc]
  rw[this]at h2;exact h2
 loc l cs hl:=(m.loc l cs hl).mono he (hoth _ (fun h=>by have:=m.locSt l cs hl;grind)) rfl
 locKept:=m.locKept
 locSt l cs hl:=by
  have i:ν l≠b:=fun h=>by have:=m.locSt l cs hl;grind
  simp[St.upd,i];exact m.locSt l cs hl
 inj:=m.inj
 env t e ht:=(m.env t e ht).mono he }
theorem Zs.newObj{g g':G}{w w':World}(m:Zs g ν w tmps ρ L s)(hg:Jv g w g' w'){o:Z1}(ho:Wz g' w' w.heap.size o):
  s w.heap.size=nO∧Zs g' ν w' tmps ρ L (s.upd w.heap.size o):=by
 have hn:s w.heap.size=nO:=by
  cases h:s w.heap.size with
  |none=>rfl
  |some x=>exact absurd (m.st.obj _ x h).lt (Nat.lt_irrefl _)
 have m':=m.grow hg;refine⟨hn,⟨m'.st.updL ho (by rw[hg.kept];exact(m.st.fresh _ (ZEd _)).2),m'.loc,m'.locKept,?_,m'.inj,m'.env⟩⟩;intro l cs hl;have hlt:=(m.loc l cs hl).lt;have i:ν l≠w.heap.size:=by omega
 simp[St.upd,i];exact m'.locSt l cs hl
theorem Zmj(b:Nat){en:Array MapEntry}{cl:Nat}(o:Obj)(hb:w.heap[b]?=sO (.map en cl))(hp:g.prot b=0)(hk:¬g.kept b):Ext g w g { w with heap:=w.heap.setIfInBounds b o } where
 size:=by simp
 prot _:=ZEd _
 cell b' o' ho:=by by_cases h:b'=b;subst h;omega;exact Jb (by simp[Ne.symm h])
 hdr b' x hx:=by by_cases h:b'=b;subst h;simp[hdr,hb]at hx;rw[Za3 (w:=w) (by simp[Ne.symm h])];exact hx
 kept b' hb':=by have h:b'≠b:=fun h=>hk (h▸hb');simp[Ne.symm h]
 keptProt _ _:=rfl
 keptEq:=rfl
 os:=rfl
 output:=rfl
 tape:=rfl
theorem Zpi{b:Nat}{en:Array MapEntry}{cl:Nat}(o:Obj)(hb:w.heap[b]?=sO (.map en cl)):({ w with heap:=w.heap.setIfInBounds b o }:World).heap[b]?=sO o:=by grind
theorem Jk{b c:Nat}(o:Obj)(h:c≠b):({ w with heap:=w.heap.setIfInBounds b o }:World).heap[c]?=w.heap[c]?:=by grind
theorem ZwW{op:Op}(h:ck P op=sO .mkmap):∃t,op=.makeMap t nO:=by
 unfold ck at h;split at h;simp at h;split at h<;>(try(simp at h;done));all_goals (try(repeat' (split at h<;>(try(simp at h;done)))))
 grind
theorem ZtO{op:Op}{e:TypeId}{n bytes:Nat}{z:List D}{l c:Opd}(h:ck P op=sO (.mkslice e n bytes z l c)):
  ∃t l' c',op=.makeSlice t l' c'∧P.underlying t=sO (.slice e)∧ZY P e=sO n∧Zai P e=sO z∧bytes=P.bytesOf e∧ZZ l'=sO l∧ZZ c'=sO c∧0<n∧z.length=n:=by
 unfold ck at h;split at h;simp at h;split at h<;>(try(simp at h;done));all_goals (try(repeat' (split at h<;>(try(simp at h;done)))))
 rename_i i;cases h;simp at i;exact⟨_,_,_,rfl,‹_›,‹_›,‹_›,rfl,‹_›,‹_›,i.1,i.2⟩
theorem Zzt{op:Op}{x:Opd}(h:ck P op=sO (.s2b x)):∃s d x' e,op=.convert s d x'∧P.underlying s=sO .string∧P.underlying d=sO (.slice e)∧P.underlying e=sO (.int .u8)∧ZZ x'=sO x:=by
 unfold ck at h;split at h;simp at h;split at h<;>(try(simp at h;done));all_goals (try(repeat' (split at h<;>(try(grind;done)))))
 simp at h;grind
theorem Zvm{op:Op}{kp:KP}{m k v:Opd}(h:ck P op=sO (.mapupd kp m k v)):
  ∃t kt et m' k' v',(op=.mapUpdate t m' k' v'∨op=.insert t m' k' v')∧P.underlying t=sO (.map kt et)∧JE P kt=sO kp∧ZZ m'=sO m∧ZZ k'=sO k∧ZZ v'=sO v:=by
 unfold ck at h;split at h;simp at h;split at h<;>(try(simp at h;done));all_goals (try(repeat' (split at h<;>(try(simp at h;done)))))
 all_goals (cases h)
 grind;grind
theorem Zvk{op:Op}{kp:KP}{m k:Opd}(h:ck P op=sO (.delete kp m k)):
  ∃ats t kt et m' k',op=.call ⟨.builtin .delete,#[m',k'],ats⟩∧ats[0]?=sO t∧P.underlying t=sO (.map kt et)∧JE P kt=sO kp∧ZZ m'=sO m∧ZZ k'=sO k:=by
 unfold ck at h;split at h;simp at h;split at h<;>(try(simp at h;done));all_goals (try(repeat' (split at h<;>(try(simp at h;done)))))
 simp at h;obtain⟨rfl,rfl,rfl⟩:=h;rename_i c hcq x1 z o0 x kt et m' k' hu n o1 o2 o3 kp m k hk hm ab;obtain⟨i,⟨al⟩,ats⟩:=c;have u:i=_:=z;have j:al=_:=n;subst u j;simp[Option.bind_eq_some_iff]at hu;obtain⟨t,ht,hu⟩:=hu;exact⟨ats,t,kt,et,m',k',rfl,ht,hu,hk,hm,ab⟩
theorem Zvl{op:Op}{kp:KP}{z:D}{m k:Opd}(h:ck P op=sO (.mapent kp z m k)):
  ∃t kt et m' k',op=.mapEntry t m' k'∧P.underlying t=sO (.map kt et)∧JE P kt=sO kp∧Zc3 P et=sO z∧ZZ m'=sO m∧ZZ k'=sO k:=by
 unfold ck at h;split at h;simp at h;split at h<;>(try(simp at h;done));all_goals (try(repeat' (split at h<;>(try(simp at h;done)))))
 grind
theorem ZwV{op:Op}{m k v:Opd}(h:ck P op=sO (.entst m k v)):∃t m' k' v',op=.entryStore t m' k' v'∧ZZ m'=sO m∧ZZ k'=sO k∧ZZ v'=sO v:=by
 unfold ck at h;split at h;simp at h;split at h<;>(try(simp at h;done));all_goals (try(repeat' (split at h<;>(try(simp at h;done)))))
 grind
theorem Ze5{F:Fr P}{dk:List Zh}{o:DOp}(hg:o.guard=nO){a v:Opd}(hk:o.k=.store1 a v∧True∨∃n,o.k=.storeN n a v){p q:Prop}{b off:Nat}{d:D}{cs:List D}(ha:ZE ρ true a=sO (p,.d (.ptr b off)))(hv:ZE ρ true v=sO (q,.d d))(hp:p)(hq:q)(hL:Yc s b=sO cs)(hd1:o.k=.store1 a v→Qn d=true)(hd2:∀n,o.k=.storeN n a v→(∃xs,d=.agg xs)∧(cellsOf d).length=n)(hlen:off+(cellsOf d).length≤cs.length)(hdst0:o.dst=nO)(h:DO F kp dk os ρ L (s.upd b (.cells (Zt cs off (cellsOf d))))):DO F kp dk (o::os) ρ L s:=by
 refine Y9 fun oo g ν w tmps ap i r k ao ad a4 ah hd hN m hr ar=>?_;have hw:=Z9 m a4 (c:=true) (by rw[hg];rfl);have ay:=Yg ad (by rcases hk with ⟨hk,_⟩|⟨n,hk⟩<;>rw[hk]<;>rfl);have af:∃t a' v',oo.op=.store t a' v'∧ZZ a'=sO a∧ZZ v'=sO v∧ZY P t=sO (cellsOf d).length∧WS d=true:=by rcases hk with ⟨hk,_⟩|⟨n,hk⟩;have ac:=hd1 hk;rw[hk]at ad;obtain⟨t,a',v',h1,h2,h3,h4,h5⟩:=ZoH ad;refine⟨t,a',v',h1,h4,h5,?_,?_⟩;rw[h3];cases d<;>simp[Qn]at ac<;>rfl;cases d<;>simp[Qn]at ac<;>rfl;obtain⟨⟨xs,rfl⟩,hn⟩:=hd2 n hk;rw[hk]at ad;obtain⟨t,a',v',h1,h2,h3,h4,h5⟩:=ZoI ad;exact⟨t,a',v',h1,h4,h5,by grind,rfl⟩
 obtain⟨t,a',v',aw,au,av,az,ac⟩:=af;have ak:s b=sO (.cells cs):=by unfold Yc at hL;split at hL<;>cases hL;assumption
 have am:Rep g w ((Act.mk tmps F.ds).eval a') (.ptr b off):=Z7 m au rfl ha hp F.ds;have ag:Rep g w ((Act.mk tmps F.ds).eval v') d:=Z7 m av rfl hv hq F.ds;have a5:(Act.mk tmps F.ds).eval a'=.pointer (sO ⟨b,off,nO⟩):=by generalize (Act.mk tmps F.ds).eval a'=z at am;cases am;rfl
 obtain⟨ax,a3⟩:=Zdi ag ac;have al:=Zgz ag ac;obtain⟨ai,j,T,hb,aq,a0,aj⟩:=QJ m.st hL;generalize hvv:(Act.mk tmps F.ds).eval v'=vv at *;have hst:=run_storeCells_at (P:=P) b off T vv.cells.toList 0 j w hb (by grind) (fun x hx=>by rw[ZcD];exact al x (Array.mem_toList_iff.1 hx));have u:ZJ (Rep g w) (j.toList.take off++vv.cells.toList++j.toList.drop (off+vv.cells.size)) (Zt cs off (cellsOf d)):=by have ae:ZJ (Rep g w) j.toList cs:=Yf (by omega) (fun i v d hv hd=>a0 i v d (by grind) hd);unfold Zt;rw[←ax];exact((ae.take off).append (Yf (by omega) a3)).append (ae.drop _)
 have ab:((j.toList.take off++vv.cells.toList++j.toList.drop (off+vv.cells.size)).toArray).size=j.size:=by have:=u.len;simp at this⊢;omega
 have he:=Zg0 (g:=g) b hb ab ai (m.st.kept b _ ak);have m':=m.named (o':=.cells (Zt cs off (cellsOf d))) ak he (by simp) (fun c hc=>setRow_other w b c _ hc) ⟨ai,_,T,setRow_heap w b j _ T (0,0) hb,by rw[ab,aq];simp[Zt];omega,
  fun i v d hv hd=>(u.get i v d (by grind) hd).mono he,fun x hx=>by
   simp only[List.mem_toArray,List.mem_append]at hx;rcases hx with (hx|hx)|hx;exact aj x (Array.mem_toList_iff.1 (List.mem_of_mem_take hx));simp_all;exact aj x (Array.mem_toList_iff.1 (List.mem_of_mem_drop hx))⟩
 refine F.T.back _ _ _ _ (.one (ZhC ao hw ay (w':=w.setRow b (j.toList.take off++vv.cells.toList++j.toList.drop (off+vv.cells.size)).toArray) ?_)) ?_;simp only[execOp,aw,a5,Instr.storeAt,Instr.sureAddr,storeVar,Sem.run_bind,Sem.run_pure,YI az];simp_all;rw[ah,hdst0];exact F.T.ext _ _ _ _ _ he (h ap r k hr ar g ν _ tmps hN m')
theorem JB(o:Obj)(hf:∀b,w.heap.size≤b→g.prot b=0∧¬g.kept b):Jv g w g (w.alloc o):={
 size:=by simp
 old b hb:=Zh8 w _ hb
 prot _ _:=rfl
 fresh b hb:=(hf b (by simp at hb;omega)).1
 kept:=rfl
 os:=rfl
 output:=rfl
 tape:=rfl }
theorem Zp9{F:Fr P}{dk:List Zh}{o:DOp}(hg:o.guard=nO){t:Nat}(hdt:o.dst=sO t)(hk:o.k=.mkmap)(h:∀b,s b=nO→DO F kp dk os ((t,.d (.map b))::ρ) L (s.upd b (.map []))):DO F kp dk (o::os) ρ L s:=by
 refine Y9 fun oo g ν w tmps ab i r k z j af n hd hN m hr ac=>?_;have hw:=Z9 m af (c:=true) (by rw[hg];rfl);have ae:=Yg j (by rw[hk];rfl);rw[hk]at j;obtain⟨T,ad⟩:=ZwW j;have u:=JB (g:=g) (w:=w) (.map #[] 0) m.st.fresh;obtain⟨hn,m'⟩:=m.newObj u (o:=.map []) ⟨(m.st.fresh _ (ZEd _)).1,#[],0,W0 w _,rfl,by simp,by simp,by simp,by simp⟩;refine YE (L':=L) hN z n hd hw ae (v:=.map (sO w.heap.size)) (e:=.d (.map w.heap.size)) ?_ (u.ext m.st.fresh) m' (Rep.map _) ?_;simp[execOp,ad,Instr.makeMap];rw[hdt];exact h _ hn ab r k hr ac
theorem ZjD{z:List D}{n:Nat}:∀{c:Nat},z.length=n→(KT z c).length=c*n∧∀i,i<c*n→(KT z c)[i]?=z[i % n]?
 |0,hz=>by simp[KT]
 |c+1,hz=>by
  obtain⟨h1,h2⟩:=ZjD (c:=c) hz;have he:KT z (c+1)=z++KT z c:=by simp[KT,List.replicate_succ]
  rw[he];refine⟨by grind,fun i hi=>?_⟩;by_cases h:i<n;rw[ZEt (by omega),Nat.mod_eq_of_lt h];rw[ZEH (by omega),hz,h2 _ (by grind)];rw[Nat.mod_eq_sub_mod (by omega:n≤i)]
theorem ZlV{F:Fr P}{dk:List Zh}{o:DOp}(hg:o.guard=nO){t:Nat}(hdt:o.dst=sO t){e:TypeId}{n bytes:Nat}{z:List D}{lx hx:Opd}(hk:o.k=.mkslice e n bytes z lx hx){p q:Prop}{k1 k2:IntKind}{l c:Int}(hl:ZE ρ true lx=sO (p,.d (.int k1 l)))(hc:ZE ρ true hx=sO (q,.d (.int k2 c)))(hp:p)(hq:q)(h0:0≤l)(hlc:l≤c)(hbytes:(bytes:Int)*c≤140737488355328)(h63:c≤big)(h:∀b,s b=nO→DO F kp dk os ((t,.d (.msl b 0 l.toNat c.toNat n))::ρ) L (s.upd b (.cells (KT z c.toNat)))):DO F kp dk (o::os) ρ L s:=by
 refine Y9 fun oo g ν w tmps ai i r k aj ac a3 ae hd hN m hr al=>?_;have hw:=Z9 m a3 (c:=true) (by rw[hg];rfl);have av:=Yg ac (by rw[hk];rfl);rw[hk]at ac;obtain⟨T,l',c',aq,hu,az,hz,a0,aw,ar,ao,ah⟩:=ZtO ac;obtain⟨zv,hz1,ad,hz3,ie,ab,ax⟩:=QH (g:=g) (w:=w) hz;obtain⟨ak,_⟩:=KQ (g:=g) (w:=w) (Z7 m aw rfl hl hp F.ds);obtain⟨ap,_⟩:=KQ (g:=g) (w:=w) (Z7 m ar rfl hc hq F.ds);have j:ie.size=n:=by simpa[ZY,ab]using az
 have hbt:ie.bytes=bytes:=by rw[a0];simp[Program.bytesOf,ab]
 have u:zv.cells.size=z.length:=by have:=ad.len;simpa using this
 have ag:=run_make (P:=P) w T e ie zv hu ab ax k1 k2 l c h0 hlc (by grind) (by unfold big at h63;omega);obtain⟨au,ay⟩:=ZjD (z:=z) (n:=n) (c:=c.toNat) ah;have af:=JB (g:=g) (w:=w) (.cells (madeCells zv.cells (c.toNat*ie.size)) e) m.st.fresh;have he:=af.ext m.st.fresh;have a4:Wz g (w.alloc (.cells (madeCells zv.cells (c.toNat*ie.size)) e)) w.heap.size (.cells (KT z c.toNat)):=by
  refine⟨(m.st.fresh _ (ZEd _)).1,_,e,W0 w _,by rw[size_madeCells,au,j],fun i v d hv hd=>?_,fun x hx=>?_⟩;have hi:i<c.toNat*n:=by grind
  rw[ay i hi]at hd;have hm:i % n<n:=Nat.mod_lt _ ao;have am:zv.cells.toList[i % n]?=sO v:=by simp[madeCells,j,hi,u,ah]at hv;simp_all
  exact(ad.get _ v d am hd).mono he;simp only[madeCells,Array.mem_map]at hx;obtain⟨a,_,rfl⟩:=hx;have hlt:a % zv.cells.size<zv.cells.size:=Nat.mod_lt _ (by omega);simp_all
 obtain⟨hn,m'⟩:=m.newObj af a4;refine YE (L':=L) hN aj ae hd hw av (v:=.slice (sO ⟨w.heap.size,0,nO⟩) l.toNat c.toNat) (e:=.d (.msl w.heap.size 0 l.toNat c.toNat n)) ?_ he m' (Rep.msl _ _ _ _ _ (by omega) (by omega)) ?_;simp[execOp,aq,ak,ap,ag];rw[hdt];exact h _ hn ai r k hr al
end
section
variable {P:Program}
theorem ZkT{k:SK}{k1 k2:Value}{d1 d2:D}(h1:Rep g w k1 d1)(h2:Rep g w k2 d2)(h:Yi k d1 d2=sO true)(n:Nat):Instr.sameBits n k1 k2=true:=by
 cases k;cases h1<;>cases h2<;>simp only[Yi,reduceCtorEq]at h;split at h<;>simp only[reduceCtorEq,ZDV,decide_eq_true_eq]at h;rename_i hk;subst hk;subst h;cases n<;>simp[Instr.sameBits];cases h1<;>cases h2<;>simp only[Yi,reduceCtorEq,ZDV,decide_eq_true_eq]at h;rename_i s1 a e1 _ s2 b e2 _;subst h;have:s1=s2:=by cases s1;cases s2;simp only[ByteArray.mk.injEq];apply Array.ext';simp only at e1 e2;rw[e1,e2]
 subst this;cases n<;>simp[Instr.sameBits,MapKept.bytes_beq];cases h1<;>cases h2<;>simp only[Yi,reduceCtorEq,ZDV,decide_eq_true_eq]at h;subst h;cases n<;>simp[Instr.sameBits]
theorem Zei{xs ys:List D}:∀{l:List (Nat×SK)},Wg xs ys l=sO true→∀o k,(o,k)∈l→∃x y,xs[o]?=sO x∧ys[o]?=sO y∧Yi k x y=sO true
 | [],_,o,k,hm=>by simp at hm
 | (o',k')::r,h,o,k,hm=>by simp only[Wg]at h;split at h<;>(try(simp at h;done));rename_i x y hx hy;split at h<;>(try(simp at h;done));rename_i b c hb hc;simp only[ZDV,ZD5]at h;obtain⟨rfl,rfl⟩:=h;rcases List.mem_cons.1 hm with he|hm;simp only[ZD7]at he;obtain⟨rfl,rfl⟩:=he;exact⟨x,y,hx,hy,hb⟩;exact Zei hc o k hm
theorem ZkS{kt:TypeId}{kp:KP}(hk:JE P kt=sO kp){k1 k2:Value}{d1 d2:D}(h1:Rep g w k1 d1)(h2:Rep g w k2 d2)(h:W6 kp d1 d2=sO true)(n:Nat):Instr.sameBits (n+1) k1 k2=true:=by
 rcases ZdS hk with ⟨sk,rfl,hs⟩|⟨fs,l,m,rfl,hu,hn,hl,j,hst⟩;exact ZkT h1 h2 h _;cases h1<;>cases h2<;>simp only[W6,reduceCtorEq]at h;rename_i v1 xs hn1 r1 o1 v2 ys hn2 r2 o2;split at h<;>(try(simp at h;done));rename_i hlen;simp only[Instr.sameBits,List.size_toArray,ZD5,beq_iff_eq];refine⟨by omega,?_⟩;rw[List.all_eq_true];intro p hp;obtain⟨i,hi,u⟩:=ZEe hp;simp only[List.length_zip]at hi;have ab:i<v1.length:=by omega
 have z:i<v2.length:=by omega
 have t:i<l.length:=by omega
 have hm:(l[i].1,l[i].2)∈l:=List.getElem_mem t;have ac:l[i].1=i:=by
  have h3:(l.map (·.1))[i]?=sO l[i].1:=by simp[t]
  rw[j]at h3;have hlm:l.length=m:=by have:=congrArg List.length j;simpa using this
  rw[List.getElem?_range (by omega)]at h3;exact(Option.some.inj h3).symm
 rw[ac]at hm;obtain⟨x,y,hx,hy,he⟩:=Zei h i _ hm;have e1:p=(v1[i],v2[i]):=by rw[←u];simp
 rw[e1];exact ZkT (r1 i _ x (by simp[ab]) hx) (r2 i _ y (by simp[z]) hy) he n
theorem ZmB{kp:KP}{a b:D}(h:W6 kp a b=sO true):W6 kp b a=sO true:=by
 have sc:∀(k:SK) (a b:D),Yi k a b=sO true→Yi k b a=sO true:=by intro k a b h;cases k<;>cases a<;>cases b<;>simp only[Yi,reduceCtorEq]at h⊢;split at h<;>simp only[reduceCtorEq,ZDV,decide_eq_true_eq]at h;rename_i hk;simp[hk,h];simp only[ZDV,decide_eq_true_eq]at h⊢;exact h.symm;simp only[ZDV,decide_eq_true_eq]at h⊢;exact h.symm
 cases kp with
 |sc k=>exact sc k a b h
 |st l =>
  cases a<;>cases b<;>simp only[W6,reduceCtorEq]at h⊢;rename_i xs ys;split at h<;>(try(simp at h;done));rename_i hl;rw[if_pos ⟨hl.2,hl.1⟩];clear hl;induction l with
  |nil=>rfl
  |cons p r ih =>
   obtain⟨x,y,hx,hy,he⟩:=Zei h p.1 p.2 (by simp);have hr:Wg xs ys r=sO true:=by simp only[Wg,hx,hy,he]at h;split at h<;>(try(simp at h;done));rename_i b c hb hc;simp only[ZDV,ZD5]at h;rw[hc,h.2]
   simp only[Wg,hx,hy,sc _ _ _ he,ih hr,Bool.and_self]
def ZlY(g:G)(w:World)(b:Nat)(en':Array MapEntry)(cl':Nat)(o:Z1):Prop :=
 ∀w',Ext g w g w'→w'.heap[b]?=sO (.map en' cl')→Wz g w' b o
theorem Zrj{t kt et:TypeId}{kp:KP}(hu:P.underlying t=sO (.map kt et))(hk:JE P kt=sO kp){b:Nat}{es es':List (D×D)}{k v:Value}{dk dv:D}(ho:Wz g w b (.map es))(hrk:Rep g w k dk)(hrv:Rep g w v dv)(hok:K9 kp dk=true)(hupd:JO kp dk dv es=sO es'):
  ∃en' cl',(Instr.mapUpdate t (.map (sO b)) k v).run P w=.ok () { w with heap:=w.heap.setIfInBounds b (.map en' cl') }∧ZlY g w b en' cl' (.map es'):=by
 obtain⟨aj,en,ab,hb,n,h3,h4,h5,h6⟩:=ho;obtain⟨io,ap,ae⟩:=ZlP hupd;have z:=ZbW (P:=P) hk hrk (es:=en.toList) (by simpa using n) (fun i e d a b=>h3 i e d (by simpa using a) b) ap;have am:=Za1 (P:=P) hk hrk hok false;cases io with
 |none =>
  simp only[Option.bind_none]at z;simp only at ae;subst ae;refine⟨en.push { key:=k,val:=v,born:=ab },ab+1,by simp[Instr.mapUpdate,run_underlying hu,MapKept.run_getObj_map hb,am,z,MapKept.run_setObj_map _ hb],fun w' he ag=>?_⟩;refine⟨aj,_,_,ag,by simp[n],fun i e d hi hd=>?_,fun i e d hi hd=>?_,fun i j e e' hi hj ad=>?_,fun i e hi=>?_⟩;rw[Array.getElem?_push]at hi;split at hi;rename_i u;simp only[ZDV]at hi;subst hi;simp[u,n]at hd;subst hd;exact hrk.mono he;have ac:i<es.length:=by rw[←n];exact(Array.getElem?_eq_some_iff.1 hi).1
  rw[ZEt ac]at hd;exact(h3 i e d hi hd).mono he;rw[Array.getElem?_push]at hi;split at hi;rename_i u;simp only[ZDV]at hi;subst hi;simp[u,n]at hd;subst hd;exact hrv.mono he;have ac:i<es.length:=by rw[←n];exact(Array.getElem?_eq_some_iff.1 hi).1
  rw[ZEt ac]at hd;exact(h4 i e d hi hd).mono he;rw[Array.getElem?_push]at hi hj;split at hi<;>split at hj;omega;simp only[ZDV]at hi;subst hi;have:=h6 j e' hj;simp only at ad;omega;simp only[ZDV]at hj;subst hj;have:=h6 i e hi;simp only at ad;omega;exact h5 i j e e' hi hj ad;rw[Array.getElem?_push]at hi;split at hi;simp only[ZDV]at hi;subst hi;simp;have:=h6 i e hi;omega
 |some i0 =>
  simp only at ae;subst ae;obtain⟨ac,ao⟩:=ZcA ap;have ak:i0<en.size:=by omega
  have af:en[i0]?=sO en[i0]:=by simp[ak]
  have ai:es[i0]?=sO es[i0]:=by simp[ac]
  simp only[Option.bind_some,Array.getElem?_toList,af,ZEp]at z;have ah:(Instr.keyThatStays en[i0].key k).run P w=.ok k w:=by have:=ZkS (P:=P) hk (h3 i0 _ _ af ai) hrk (ZmB (ao _ ai)) 9999;simp[Instr.keyThatStays,this]
  refine⟨en.modify i0 fun e=>{ e with key:=k,val:=v },ab,by simp[Instr.mapUpdate,run_underlying hu,MapKept.run_getObj_map hb,am,z,MapKept.run_setObj_map _ hb,af,ah],fun w' he ag=>?_⟩;refine⟨aj,_,_,ag,by simp[n],fun i e d hi hd=>?_,fun i e d hi hd=>?_,fun i j e e' hi hj ad=>?_,fun i e hi=>?_⟩;rw[Array.getElem?_modify]at hi;split at hi;rename_i u;subst u;simp only[ZD9]at hi;obtain⟨e1,h1,rfl⟩:=hi;simp[ac]at hd;subst hd;exact hrk.mono he;rename_i u;rw[List.getElem?_set_ne u]at hd;exact(h3 i e d hi hd).mono he;rw[Array.getElem?_modify]at hi;split at hi;rename_i u;subst u;simp only[ZD9]at hi;obtain⟨e1,h1,rfl⟩:=hi;simp[ac]at hd;subst hd;exact hrv.mono he;rename_i u;rw[List.getElem?_set_ne u]at hd;exact(h4 i e d hi hd).mono he;have al:∀{i:Nat} {e:MapEntry},(en.modify i0 fun e=>{ e with key:=k,val:=v })[i]?=sO e→∃e1,en[i]?=sO e1∧e1.born=e.born:=by intro i e hi;rw[Array.getElem?_modify]at hi;split at hi;simp only[ZD9]at hi;obtain⟨e1,h1,rfl⟩:=hi;exact⟨e1,h1,rfl⟩;exact⟨e,hi,rfl⟩
  obtain⟨a,ha,ha'⟩:=al hi;obtain⟨c,hc,hc'⟩:=al hj;exact h5 i j a c ha hc (by omega);rw[Array.getElem?_modify]at hi;split at hi;simp only[ZD9]at hi;obtain⟨e1,h1,rfl⟩:=hi;exact h6 i e1 h1;exact h6 i e hi
theorem Zrh{t kt et:TypeId}{kp:KP}{ats:Array TypeId}(ht:ats[0]?=sO t)(hu:P.underlying t=sO (.map kt et))(hk:JE P kt=sO kp){b:Nat}{es es':List (D×D)}{k:Value}{dk:D}(ho:Wz g w b (.map es))(hrk:Rep g w k dk)(hok:K9 kp dk=true)(hdel:ZfJ kp dk es=sO es')(ty:TypeId):
  ∃en' cl',(Builtin.delete_ ats ty #[.map (sO b),k]).run P w=.ok (.tuple #[]) { w with heap:=w.heap.setIfInBounds b (.map en' cl') }∧ZlY g w b en' cl' (.map es'):=by
 obtain⟨ai,en,ab,hb,z,h3,h4,h5,h6⟩:=ho;obtain⟨io,ak,af⟩:=ZqR hdel;have n:=ZbW (P:=P) hk hrk (es:=en.toList) (by simpa using z) (fun i e d a b=>h3 i e d (by simpa using a) b) ak;have aj:=Za1 (P:=P) hk hrk hok en.isEmpty;cases io with
 |none =>simp only[Option.bind_none]at n;simp only at af;subst af;refine⟨en,ab,by simp[Builtin.delete_,ht,run_underlying hu,MapKept.run_getObj_map hb,aj,n,MapKept.run_setObj_map _ hb],fun w' he ah=>?_⟩;exact⟨ai,_,_,ah,z,fun i e d hi hd=>(h3 i e d hi hd).mono he,fun i e d hi hd=>(h4 i e d hi hd).mono he,h5,h6⟩
 |some i0 =>
  simp only at af;subst af;obtain⟨am,hkeq⟩:=ZcA ak;have ad:i0<en.size:=by omega
  have al:en[i0]?=sO en[i0]:=by simp[ad]
  simp only[Option.bind_some,Array.getElem?_toList,al,ZEp]at n;have ag:en.eraseIdxIfInBounds i0=en.eraseIdx i0 ad:=by simp[Array.eraseIdxIfInBounds,ad]
  have u:∀i,(en.eraseIdxIfInBounds i0)[i]?=if i<i0 then en[i]? else en[i+1]?:=fun i=>by rw[ag,←Array.getElem?_toList,Array.toList_eraseIdx,List.getElem?_eraseIdx];simp
  have ac:∀i,(es.eraseIdx i0)[i]?=if i<i0 then es[i]? else es[i+1]?:=fun i=>List.getElem?_eraseIdx ..
  refine⟨en.eraseIdxIfInBounds i0,ab,by simp[Builtin.delete_,ht,run_underlying hu,MapKept.run_getObj_map hb,aj,n,MapKept.run_setObj_map _ hb],fun w' he ah=>?_⟩;refine⟨ai,_,_,ah,by rw[ag];simp[am,z,List.length_eraseIdx],fun i e d hi hd=>?_,fun i e d hi hd=>?_,fun i j e e' hi hj ae=>?_,fun i e hi=>?_⟩;rw[u]at hi;rw[ac]at hd;split at hi;rename_i h;rw[if_pos h]at hd;exact(h3 i e d hi hd).mono he;rename_i h;rw[if_neg h]at hd;exact(h3 _ e d hi hd).mono he;rw[u]at hi;rw[ac]at hd;split at hi;rename_i h;rw[if_pos h]at hd;exact(h4 i e d hi hd).mono he;rename_i h;rw[if_neg h]at hd;exact(h4 _ e d hi hd).mono he;rw[u]at hi hj;split at hi<;>split at hj;exact h5 i j e e' hi hj ae;have:=h5 i (j+1) e e' hi hj ae;omega;have:=h5 (i+1) j e e' hi hj ae;omega;have:=h5 (i+1) (j+1) e e' hi hj ae;omega;rw[u]at hi;split at hi<;>exact h6 _ e hi
theorem ZqY{kp:KP}{k z:D}:∀{es:List (D×D)} {v:D},Zdy kp k z es=sO v→∃io,QA kp k es=sO io∧v=match io with
  |none=>z
  |some i=>((es[i]?).map (·.2)).getD z
 | [],v,h=>by simp[Zdy]at h;exact⟨nO,rfl,h.symm⟩
 |e::es,v,h=>by simp[Zdy]at h;split at h;rename_i he;exact⟨sO 0,by simp[QA,he],by simp[h]⟩;rename_i he;obtain⟨io,h1,h2⟩:=ZqY h;refine⟨io.map (· + 1),by simp[QA,he,h1],?_⟩;rw[h2];cases io<;>simp;grind
theorem Zsf{t kt et:TypeId}{kp:KP}{z:D}(hu:P.underlying t=sO (.map kt et))(hk:JE P kt=sO kp)(hz:Zc3 P et=sO z){b:Nat}{es:List (D×D)}{k:Value}{dk dv:D}(ho:Wz g w b (.map es))(hrk:Rep g w k dk)(hok:K9 kp dk=true)(hent:Zdy kp dk z es=sO dv):
  ∃en' cl' v n,(Instr.mapEntry t (.map (sO b)) k).run P w=.ok (.tuple #[v,.int .i64 (n:Nat)]) { w with heap:=w.heap.setIfInBounds b (.map en' cl') }∧Rep g w v dv∧ZlY g w b en' cl' (.mapE kp es dk n):=by
 obtain⟨ap,en,ab,hb,ac,h3,h4,h5,h6⟩:=ho;obtain⟨io,aj,ai⟩:=ZqY hent;have u:=ZbW (P:=P) hk hrk (es:=en.toList) (by simpa using ac) (fun i e d a b=>h3 i e d (by simpa using a) b) aj;have ar:=Za1 (P:=P) hk hrk hok false;cases io with
 |none =>obtain⟨zv,ay,av⟩:=Zr1 (P:=P) (g:=g) (w:=w) hz;simp only[Option.bind_none]at u;simp only at ai;subst ai;refine⟨en.push { key:=k,val:=zv,born:=ab },ab+1,zv,ab,by simp[Instr.mapEntry,run_underlying hu,MapKept.run_getObj_map hb,ar,u,MapKept.run_setObj_map _ hb,ay,goInt],av,fun w' he am=>?_⟩;refine⟨ap,nO,aj,_,_,am,by simp[ac],fun i e d ah hi hd=>?_,fun i e d ah hi hd=>?_,fun e hi=>?_,fun i j e e' hi hj ad=>?_,fun i e hi=>?_⟩;have al:i<es.length:=(List.getElem?_eq_some_iff.1 hd).1;rw[Array.getElem?_push,if_neg (by omega)]at hi;exact(h3 i e d hi hd).mono he;have al:i<es.length:=(List.getElem?_eq_some_iff.1 hd).1;rw[Array.getElem?_push,if_neg (by omega)]at hi;exact(h4 i e d hi hd).mono he;simp only[Option.getD_none,←ac,Array.getElem?_push,if_true,ZDV]at hi;subst hi;exact⟨hrk.mono he,rfl⟩;rw[Array.getElem?_push]at hi hj;split at hi<;>split at hj;omega;simp only[ZDV]at hi;subst hi;have:=h6 j e' hj;simp only at ad;omega;simp only[ZDV]at hj;subst hj;have:=h6 i e hi;simp only at ad;omega;exact h5 i j e e' hi hj ad;rw[Array.getElem?_push]at hi;split at hi;simp only[ZDV]at hi;subst hi;simp;have:=h6 i e hi;omega
 |some i0 =>
  obtain⟨al,au⟩:=ZcA aj;have aq:i0<en.size:=by omega
  have af:en[i0]?=sO en[i0]:=by simp[aq]
  have ag:es[i0]?=sO es[i0]:=by simp[al]
  simp only[ag,ZEp,ZEB]at ai;subst ai;simp only[Option.bind_some,Array.getElem?_toList,af,ZEp]at u;have ao:(Instr.keyThatStays en[i0].key k).run P w=.ok k w:=by have:=ZkS (P:=P) hk (h3 i0 _ _ af ag) hrk (ZmB (au _ ag)) 9999;simp[Instr.keyThatStays,this]
  have ae:∀{i:Nat} {e:MapEntry},(en.modify i0 fun e=>{ e with key:=k })[i]?=sO e→∃e1,en[i]?=sO e1∧e1.born=e.born∧e.val=e1.val∧(i≠i0→e=e1)∧(i=i0→e.key=k):=by intro i e hi;rw[Array.getElem?_modify]at hi;split at hi;rename_i ak;simp only[ZD9]at hi;obtain⟨e1,h1,rfl⟩:=hi;exact⟨e1,h1,rfl,rfl,fun h=>absurd ak.symm h,fun _=>rfl⟩;rename_i ak;exact⟨e,hi,rfl,rfl,fun _=>rfl,fun h=>absurd h.symm ak⟩
  refine⟨en.modify i0 fun e=>{ e with key:=k },ab,en[i0].val,en[i0].born,by simp[Instr.mapEntry,run_underlying hu,MapKept.run_getObj_map hb,ar,u,MapKept.run_setObj_map _ hb,af,ao,goInt],h4 i0 _ _ af ag,fun w' he am=>?_⟩;refine⟨ap,sO i0,aj,_,_,am,by simp[ac],fun i e d ah hi hd=>?_,fun i e d ah hi hd=>?_,fun e hi=>?_,fun i j e e' hi hj ad=>?_,fun i e hi=>?_⟩;obtain⟨e1,ha,_,_,hc,_⟩:=ae hi;rw[hc (by simpa using ah)];exact(h3 i e1 d ha hd).mono he;obtain⟨e1,ha,_,hv,_⟩:=ae hi;rw[hv];exact(h4 i e1 d ha hd).mono he;simp only[ZEB]at hi;obtain⟨e1,ha,ad,hv,_,aw⟩:=ae hi;rw[af]at ha;simp only[ZDV]at ha;exact⟨by rw[aw rfl];exact hrk.mono he,by rw[←ad,←ha]⟩;obtain⟨a,ha,ax,_⟩:=ae hi;obtain⟨c,hc,hc',_⟩:=ae hj;exact h5 i j a c ha hc (by omega);obtain⟨a,ha,ax,_⟩:=ae hi;have:=h6 i a ha;omega
theorem Zpv{t:TypeId}{kp:KP}{b n:Nat}{es es':List (D×D)}{v:Value}{dk dv:D}(ho:Wz g w b (.mapE kp es dk n))(hrv:Rep g w v dv)(hupd:JO kp dk dv es=sO es'):
  ∃en' cl',(Instr.entryStore t (.map (sO b)) (.int .i64 n) v).run P w=.ok () { w with heap:=w.heap.setIfInBounds b (.map en' cl') }∧ZlY g w b en' cl' (.map es'):=by
 obtain⟨ap,io,ak,en,ag,hb,u,h3,h4,h5,h6,h7⟩:=ho;obtain⟨io',ac,z⟩:=ZlP hupd;rw[ak]at ac;simp only[ZDV]at ac;subst ac;generalize ab:io.getD es.length=ix at *;have al:ix<en.size:=by
  cases io with
  |none=>simp only[Option.getD_none]at ab;simp only at u;omega
  |some i=>simp only[ZEB]at ab;simp only at u;have:=(ZcA ak).1;omega
 have aj:en[ix]?=sO en[ix]:=by simp[al]
 obtain⟨ao,aq⟩:=h5 _ aj;have av:en.findIdx? (fun e=>(e.born:Int)==(n:Int))=sO ix:=by rw[Array.findIdx?_eq_some_iff_getElem];refine⟨al,by simp[aq],fun j hj=>?_⟩;simp only[beq_iff_eq,Int.natCast_inj];intro hjn;have:=h6 j ix en[j] en[ix] (by simp[show j<en.size by omega]) aj (by omega);omega
 have ar:en.size=es'.length:=by
  cases io with
  |none=>simp only at z u;rw[z];simp[u]
  |some i=>simp only at z u;rw[z];simp[u]
 have af:∀i d,es'[i]?=sO d→(i=ix∧d=(dk,dv))∨(i≠ix∧es[i]?=sO d):=by
  intro i d hd;cases io with
  |none =>
   simp only[Option.getD_none]at ab;subst ab;simp only at z;rw[z]at hd;by_cases hi:i<es.length;rw[ZEt hi]at hd;exact .inr ⟨by omega,hd⟩;rw[ZEH (by omega)]at hd;have h0:i-es.length=0:=by rcases Nat.eq_zero_or_pos (i-es.length) with h|h;exact h;rw[ZEG (by simp;omega)]at hd;simp at hd
   rw[h0]at hd;simp at hd;exact .inl ⟨by omega,hd.symm⟩
  |some j =>simp only[ZEB]at ab;subst ab;simp only at z;rw[z]at hd;by_cases hi:j=i;subst hi;have:=(ZcA ak).1;simp[this]at hd;exact .inl ⟨rfl,hd.symm⟩;rw[List.getElem?_set_ne hi]at hd;exact .inr ⟨fun h=>hi h.symm,hd⟩
 have ad:∀{i:Nat} {e:MapEntry},(en.modify ix fun e=>{ e with val:=v })[i]?=sO e→∃e1,en[i]?=sO e1∧e1.born=e.born∧e.key=e1.key∧(i≠ix→e=e1)∧(i=ix→e.val=v):=by intro i e hi;rw[Array.getElem?_modify]at hi;split at hi;rename_i ah;simp only[ZD9]at hi;obtain⟨e1,h1,rfl⟩:=hi;exact⟨e1,h1,rfl,rfl,fun h=>absurd ah.symm h,fun _=>rfl⟩;rename_i ah;exact⟨e,hi,rfl,rfl,fun _=>rfl,fun h=>absurd h.symm ah⟩
 refine⟨en.modify ix fun e=>{ e with val:=v },ag,by simp[Instr.entryStore,MapKept.run_getObj_map hb,asInt,asIntOf,av,MapKept.run_setObj_map _ hb],fun w' he au=>?_⟩;refine⟨ap,_,_,au,by simp[ar],fun i e d hi hd=>?_,fun i e d hi hd=>?_,fun i j e e' hi hj hbn=>?_,fun i e hi=>?_⟩;obtain⟨e1,ha,_,hk,_⟩:=ad hi;rw[hk];rcases af i d hd with ⟨rfl,rfl⟩|⟨ae,ai⟩;rw[aj]at ha;simp only[ZDV]at ha;rw[←ha];exact ao.mono he;exact(h3 i e1 d ae ha ai).mono he;obtain⟨e1,ha,_,_,hc,hv⟩:=ad hi;rcases af i d hd with ⟨rfl,rfl⟩|⟨ae,ai⟩;rw[hv rfl];exact hrv.mono he;rw[hc ae];exact(h4 i e1 d ae ha ai).mono he;obtain⟨a,ha,am,_⟩:=ad hi;obtain⟨c,hc,hc',_⟩:=ad hj;exact h6 i j a c ha hc (by omega);obtain⟨a,ha,am,_⟩:=ad hi;have:=h7 i a ha;omega
end
section
variable {P:Program}
theorem Zj2{v:Value}{b:Nat}(h:Rep g w v (.map b)):v=.map (sO b):=by cases h;rfl
theorem Zhj{b:Nat}{es:List (D×D)}(h:Kw s b=sO es):s b=sO (.map es):=by
 unfold Kw at h;split at h<;>simp only[ZDV,reduceCtorEq]at h;subst h;assumption
theorem Zlv{F:Fr P}{ops:Array Oper}{i:Nat}{r:List Nat}{k:List Item}{oo:Oper}{o:DOp}(hN:F.N≤tmps.size)(m:Zs g ν w tmps ρ L s)(hoo:ops[i]?=sO oo)(hdst:oo.dst=o.dst)(hdst0:o.dst=nO)(hw:Region.wanted oo (yielded ops tmps)=true)(hnd:∀c,oo.op≠.defer c){b:Nat}{o1 o':Z1}(hb:s b=sO o1){en en':Array MapEntry}{cl cl':Nat}(hh:w.heap[b]?=sO (.map en cl))(hp:g.prot b=0)(hmap:ZlY g w b en' cl' o'){x:Value}(hrun:(execOp (Act.mk tmps F.ds).eval oo).run P w=.ok .skip { w with heap:=w.heap.setIfInBounds b (.map en' cl') }∨(execOp (Act.mk tmps F.ds).eval oo).run P w=.ok (.value x) { w with heap:=w.heap.setIfInBounds b (.map en' cl') })(h:QU F (.inRegion ops r::k) ρ L (s.upd b o')):F.T.T g w (lone (F.b.atR ⟨tmps,F.ds⟩ (.inRegion ops (i::r)::k)) F.cs w):=by
 have he:=Zmj (g:=g) b (.map en' cl') hh hp (m.st.kept b _ hb);have m':=m.named hb he (by simp) (fun c hc=>Jk _ hc) (hmap _ he (Zpi _ hh));rcases hrun with hrun|hrun;refine F.T.back _ _ _ _ (.one (ZhC hoo hw hnd hrun)) ?_;rw[hdst,hdst0];exact F.T.ext _ _ _ _ _ he (h g ν _ tmps hN m');refine F.T.back _ _ _ _ (.one (ZhD hoo hw hnd hrun)) ?_;rw[hdst,hdst0];exact F.T.ext _ _ _ _ _ he (h g ν _ tmps hN m')
theorem Zoz{F:Fr P}{dk:List Zh}{o:DOp}(hg:o.guard=nO)(hdn:o.dst=nO){mk:KP}{mx kx vx:Opd}(hk:o.k=.mapupd mk mx kx vx){p q r:Prop}{b:Nat}{kd vd:D}(hm:ZE ρ true mx=sO (p,.d (.map b)))(hkk:ZE ρ true kx=sO (q,.d kd))(hv:ZE ρ true vx=sO (r,.d vd))(hp:p)(hq:q)(hr:r){es es':List (D×D)}(hb:Kw s b=sO es)(hupd:JO mk kd vd es=sO es')(hok:K9 mk kd=true)(h:DO F kp dk os ρ L (s.upd b (.map es'))):DO F kp dk (o::os) ρ L s:=by
 refine Y9 fun oo g ν w tmps ae i r' k ad j al n hd hN m ak z=>?_;have hw:=Z9 m al (c:=true) (by rw[hg];rfl);have ag:=Yg j (by rw[hk];rfl);rw[hk]at j;obtain⟨t,kt,et,m',k',v',hop,hu,aj,ab,ah,af⟩:=Zvm j;have e1:=Zj2 (g:=g) (w:=w) (Z7 m ab rfl hm hp F.ds);have e2:Rep g w _ _:=Z7 m ah rfl hkk hq F.ds;have e3:Rep g w _ _:=Z7 m af rfl hv hr F.ds;have ho:=Zev m.st hb;obtain⟨en',cl',u,ac⟩:=Zrj hu aj ho e2 e3 hok hupd;obtain⟨ai,en,cl,hh,_⟩:=ho;refine Zlv (x:=undef) hN m ad n hdn hw ag (Zhj hb) hh ai ac (.inl ?_) (h ae r' k ak z);rcases hop with hop|hop<;>simp[execOp,hop,e1,u]
theorem Zox{F:Fr P}{dk:List Zh}{o:DOp}(hg:o.guard=nO)(hdn:o.dst=nO){mk:KP}{mx kx:Opd}(hk:o.k=.delete mk mx kx){p q:Prop}{b:Nat}{kd:D}(hm:ZE ρ true mx=sO (p,.d (.map b)))(hkk:ZE ρ true kx=sO (q,.d kd))(hp:p)(hq:q){es es':List (D×D)}(hb:Kw s b=sO es)(hupd:ZfJ mk kd es=sO es')(hok:K9 mk kd=true)(h:DO F kp dk os ρ L (s.upd b (.map es'))):DO F kp dk (o::os) ρ L s:=by
 refine Y9 fun oo g ν w tmps ae i r' k ad j al n hd hN m ak z=>?_;have hw:=Z9 m al (c:=true) (by rw[hg];rfl);have ag:=Yg j (by rw[hk];rfl);rw[hk]at j;obtain⟨ats,t,kt,et,m',k',af,ht,hu,aj,ab,ah⟩:=Zvk j;have e1:=Zj2 (g:=g) (w:=w) (Z7 m ab rfl hm hp F.ds);have e2:Rep g w _ _:=Z7 m ah rfl hkk hq F.ds;have ho:=Zev m.st hb;obtain⟨en',cl',u,ac⟩:=Zrh ht hu aj ho e2 hok hupd oo.type;obtain⟨ai,en,cl,hh,_⟩:=ho;refine Zlv (x:=.tuple #[]) hN m ad n hdn hw ag (Zhj hb) hh ai ac (.inr ?_) (h ae r' k ak z);simp[execOp,af,resolve,invoke,builtin,e1,u]
theorem Zoy{F:Fr P}{dk:List Zh}{o:DOp}(hg:o.guard=nO){t:Nat}(hdt:o.dst=sO t){mk:KP}{z:D}{mx kx:Opd}(hk:o.k=.mapent mk z mx kx){p q:Prop}{b:Nat}{kd v:D}(hm:ZE ρ true mx=sO (p,.d (.map b)))(hkk:ZE ρ true kx=sO (q,.d kd))(hp:p)(hq:q){es:List (D×D)}(hb:Kw s b=sO es)(hent:Zdy mk kd z es=sO v)(hok:K9 mk kd=true)(h:∀n,DO F kp dk os ((t,.d (.tup [v,.stamp n]))::ρ) L (s.upd b (.mapE mk es kd n))):DO F kp dk (o::os) ρ L s:=by
 refine Y9 fun oo g ν w tmps ai i r' k ah j av u hd hN m ar ad=>?_;have hw:=Z9 m av (c:=true) (by rw[hg];rfl);have ak:=Yg j (by rw[hk];rfl);rw[hk]at j;obtain⟨ty,kt,et,m',k',aj,hu,ao,hz,ae,al⟩:=Zvl j;have e1:=Zj2 (g:=g) (w:=w) (Z7 m ae rfl hm hp F.ds);have e2:Rep g w _ _:=Z7 m al rfl hkk hq F.ds;have ho:=Zev m.st hb;obtain⟨ap,aq,vv,n,ab,af,ag⟩:=Zsf hu ao hz ho e2 hok hent;obtain⟨am,en,cl,hh,_⟩:=ho;have ac:=Zhj hb;have he:=Zmj (g:=g) b (.map ap aq) hh am (m.st.kept b _ ac);have au:=m.named ac he (by simp) (fun c hc=>Jk _ hc) (ag _ he (Zpi _ hh));refine YE (L':=L) hN ah u hd hw ak (v:=.tuple #[vv,.int .i64 n]) (e:=.d (.tup [v,.stamp n])) ?_ he au ((Zhn af (.stamp n)).mono he) ?_;simp[execOp,aj,e1,ab];rw[hdt];exact h n ai r' k ar ad
theorem Zp8{F:Fr P}{dk:List Zh}{o:DOp}(hg:o.guard=nO)(hdn:o.dst=nO){mk:KP}{mx kx vx:Opd}(hk:o.k=.entst mx kx vx){p q r:Prop}{b n:Nat}{kd vd:D}(hm:ZE ρ true mx=sO (p,.d (.map b)))(hkk:ZE ρ true kx=sO (q,.d (.stamp n)))(hv:ZE ρ true vx=sO (r,.d vd))(hp:p)(hq:q)(hr:r){es es':List (D×D)}(hb:s b=sO (.mapE mk es kd n))(hupd:JO mk kd vd es=sO es')(h:DO F kp dk os ρ L (s.upd b (.map es'))):DO F kp dk (o::os) ρ L s:=by
 refine Y9 fun oo g ν w tmps ag i r' k af j ap u hd hN m ao ac=>?_;have hw:=Z9 m ap (c:=true) (by rw[hg];rfl);have ak:=Yg j (by rw[hk];rfl);rw[hk]at j;obtain⟨t,m',k',v',aj,ad,al,ai⟩:=ZwV j;have e1:=Zj2 (g:=g) (w:=w) (Z7 m ad rfl hm hp F.ds);have e2:Rep g w _ _:=Z7 m al rfl hkk hq F.ds;have e3:Rep g w _ _:=Z7 m ai rfl hv hr F.ds;have ah:(Act.mk tmps F.ds).eval k'=.int .i64 n:=by generalize (Act.mk tmps F.ds).eval k'=z at e2;cases e2;rfl
 have ho:=m.st.obj b _ hb;obtain⟨en',cl',ab,ae⟩:=Zpv (P:=P) (t:=t) ho e3 hupd;obtain⟨am,io,_,en,cl,hh,_⟩:=ho;refine Zlv (x:=undef) hN m af u hdn hw ak hb hh am ae (.inl ?_) (h ag r' k ao ac);simp[execOp,aj,e1,ah,ab]
theorem Zu9{F:Fr P}{dk:List Zh}{o:DOp}{c:Bool}(hg:Zk ρ o.guard=sO c){x:Opd}(hk:o.k=.s2b x){p:Prop}{l:List UInt8}(ha:ZE ρ c x=sO (p,.d (.str l)))(hs:c=true→p){e':E}(he:e'=.when c (.d (.sl .none l.length 1 (fun i=>[.int .u8 ((l.getD i 0).toNat:Int)])))∨(c=true∧e'=.d (.sl .none l.length 1 (fun i=>[.int .u8 ((l.getD i 0).toNat:Int)]))))(h:DO F kp dk os (Zw ρ o.dst e') L s):DO F kp dk (o::os) ρ L s:=by
 refine Y9 fun oo g ν w tmps ai i r k z u aq n hd hN m hr aj=>?_;have af:=h ai r k hr aj;have hw:=Z9 m aq hg;have ao:=Yg u (by rw[hk];rfl);cases c;rcases he with rfl|⟨h0,_⟩;exact Zbg (P:=P) hN m z n hd hw af;simp at h0;rw[hk]at u;obtain⟨sT,dT,x',e,al,ap,ag,am,ar⟩:=Zzt u;obtain⟨s0,ak,e0,au⟩:=Zj3 (g:=g) (w:=w) (Z7 m ar rfl ha (hs rfl) F.ds);have ae:s0.size=l.length:=by rw[←e0];rfl
 have ad:=Lib.run_convert_string_bytes (P:=P) w sT dT e s0 ap ag am;have ab:=grownCap_le_maxLen w s0.size 0 e (by rw[ae];unfold big at au;unfold maxLen;omega);have ah:=grownCap_ge w s0.size 0 e;let g':G:={ g with prot:=fun b=>if b=w.heap.size then l.length else g.prot b };have ac:Jv g w g' (Lib.bytesWorld w e s0):=by refine⟨by rw[Lib.bytesWorld_size];omega,fun b hb=>Lib.bytesWorld_at_old w e s0 b hb,fun b hb=>by simp[g',Nat.ne_of_lt hb],fun b hb=>?_,rfl,?_,?_,?_⟩;rw[Lib.bytesWorld_size]at hb;simp[g',show b≠w.heap.size by omega,(m.st.fresh b (by omega)).1];rfl;rfl;rfl
 have t:Rep g' (Lib.bytesWorld w e s0) (.slice (sO ⟨w.heap.size,0,nO⟩) s0.size (grownCap w s0.size 0 e)) (.sl .none l.length 1 (fun i=>[.int .u8 ((l.getD i 0).toNat:Int)])):=by
  rw[ae]at ab ah⊢;refine .sl w.heap.size 0 l.length _ 1 _ .none (fun i _=>.int .u8 ((l.getD i 0).toNat:Int)) (fun i hi=>rfl) (fun i j hi hj=>?_) (fun i j hi hj=>?_) (fun i j d hi hd=>?_) (fun i j _ _=>rfl) trivial (by omega) (by unfold big;unfold maxLen at ab;omega);have:=Lib.bytesWorld_cell w e s0 (0+i*1+j) (by omega);rw[this,e0];have:0+i*1+j=i:=by omega
  rw[this];simp[g'];omega;cases j with
  |zero=>simp only[List.getElem?_cons_zero,ZDV]at hd;subst hd;exact .int _ _ (Zq9 _)
  |succ j=>simp at hd
 refine YE hN z n hd hw ao (v:=.slice (sO ⟨w.heap.size,0,nO⟩) s0.size (grownCap w s0.size 0 e)) ?_ (ac.ext m.st.fresh) (m.grow ac) ?_ af;simp[execOp,al,ak,ad];rcases he with rfl|⟨_,rfl⟩;exact⟨fun _=>t,fun h=>by simp at h⟩;exact t
end
section
variable {P:Program}
theorem Zu7{F:Fr P}{dk:List Zh}{o:DOp}{c:Bool}(hg:Zk ρ o.guard=sO c){len n:Nat}{z:List D}{is:List Nat}(hk:o.k=.bsl len n z is xs){p:Prop}{es:List E}(ha:Ya ρ c xs=sO (p,es))(hds:WX es=sO ds)(hs:c=true→p∧KN n ds=true){e':E}(he:e'=.when c (.d (.sl .full len n (Z8 z (is.zip ds))))∨(c=true∧e'=.d (.sl .full len n (Z8 z (is.zip ds)))))(h:DO F kp dk os (Zw ρ o.dst e') L s):DO F kp dk (o::os) ρ L s:=by
 refine Y9 fun oo g ν w tmps aj i r k ad ac au j hd hN m hr ak=>?_;have ah:=h aj r k hr ak;have hw:=Z9 m au hg;have ap:=Yg ac (by rw[hk];rfl);cases c;rcases he with rfl|⟨h0,_⟩;exact Zbg (P:=P) hN m ad j hd hw ah;grind;rw[hk]at ac;obtain⟨t,e,parts,ao,hu,aq,hz,al,rfl,af,ar,am,ai⟩:=Zvi ac;have ab:=ZbD m rfl F.ds al ha (hs rfl).1;have u:=KD ab hds;obtain⟨v,w',g',h1,h2,h3⟩:=Zzp (P:=P) (g:=g) (w:=w) (parts:=parts.toList.map fun x=>(x.1,(Act.mk tmps F.ds).eval x.2)) hu aq hz (by simpa[Function.comp_def]using af) ar am ai
  (by simpa[Function.comp_def]using u) (hs rfl).2 m.st.fresh
 have hx:=h2.ext m.st.fresh;have ae:(execOp (Act.mk tmps F.ds).eval oo).run P w=.ok (.value v) w':=by
  simp[execOp,ao,Sem.run_bind];have e1:(parts.map fun x=>(x.1,(Act.mk tmps F.ds).eval x.2))=(parts.toList.map fun x=>(x.1,(Act.mk tmps F.ds).eval x.2)).toArray:=by apply Array.ext';simp
  rw[e1,h1];rfl
 have ag:Rep g' w' v (.sl .full len n (Z8 z ((parts.toList.map (·.1)).zip ds))):=by simpa[Function.comp_def]using h3
 refine YE hN ad j hd hw ap ae hx (m.grow h2) ?_ ah;rcases he with rfl|⟨_,rfl⟩;exact⟨fun _=>ag,fun h=>by simp at h⟩;exact ag
theorem ZsG{F:Fr P}{dk:List Zh}{o:DOp}{c:Bool}(hg:Zk ρ o.guard=sO c){x a b:Opd}(hk:o.k=.pick x a b){p:Prop}{v:Bool}(ha:Zc0 ρ c x a b=sO (p,v))(hs:c=true→p){e':E}(he:e'=.when c (.d (.bool v))∨(c=true∧e'=.d (.bool v)))(h:DO F kp dk os (Zw ρ o.dst e') L s):DO F kp dk (o::os) ρ L s:=by
 refine Zqb hg (by rw[hk];rfl) he (fun hc oo g ν w tmps i m=>?_) h;rw[hk]at i;obtain⟨x',a',b',j,h1,h2,h3⟩:=Zyn i;refine⟨.bool v,?_,.bool v⟩;obtain⟨dst,op,ty,pos,af,gd⟩:=oo;cases j;exact Zxw m h1 h2 h3 hc ha (hs hc) _ _ _ _ _ _
theorem Zfv{ρ ρ':Env}{L L':Loc}{s s':St}{p q ok side:Prop}{a:E}{n:Nat}{xs:List D}(h:KF ρ L s p q ok a n xs=.ok side ρ' L' s'):
  ρ'=ρ∧((∃l off cs,a=.loc l off∧Ze L l=sO cs∧side=(p∧q∧off+n≤cs.length∧ok)∧L'=(l,Zt cs off xs)::L∧s'=s) ∨
   ∃b off cs,a=.d (.ptr b off)∧Yc s b=sO cs∧side=(p∧q∧off+n≤cs.length∧ok)∧L'=L∧s'=s.upd b (.cells (Zt cs off xs))):=by
 unfold KF at h;split at h<;>(try(simp at h;done));rename_i l off;split at h<;>simp only[SR.ok.injEq,reduceCtorEq]at h;rename_i cs i;obtain⟨rfl,rfl,rfl,rfl⟩:=h;exact⟨rfl,.inl ⟨l,off,cs,rfl,i,rfl,rfl,rfl⟩⟩;rename_i b off;split at h<;>simp only[SR.ok.injEq,reduceCtorEq]at h;rename_i cs i;obtain⟨rfl,rfl,rfl,rfl⟩:=h;exact⟨rfl,.inr ⟨b,off,cs,rfl,i,rfl,rfl,rfl⟩⟩
theorem Zd1{p q ok side:Prop}{a:E}{n:Nat}{xs:List D}{pre:Nat→Prop}{ρ':Nat→Env}{s':Nat→St}:KF ρ L s p q ok a n xs≠.all side pre ρ' s':=by
 unfold KF;split<;>(try(split<;>simp))<;>simp
theorem Qg{F:Fr P}{dk:List Zh}{o:DOp}{ρ ρ':Env}{L L':Loc}{s s':St}(hst:ZD o ρ L s=.ok side ρ' L' s')(hs:side)(h:DO F kp dk os ρ' L' s'):DO F kp dk (o::os) ρ L s:=by
 obtain⟨dst,gd,k⟩:=o;unfold ZD at hst;cases hg:Zk ρ gd with
 |none=>simp[hg]at hst
 |some c =>
  simp only[hg]at hst;have u:gd=nO→c=true:=fun h0=>by subst h0;simpa[Zk]using hg.symm
  cases k with
  |q q xs =>simp only at hst;split at hst<;>(try(simp at hst;done));rename_i p es ha;split at hst<;>(try(simp at hst;done));rename_i sd e hq;split at hst<;>(cases hst);obtain rfl:=u rfl;exact Zzh hg rfl ha hq (fun _=>hs) (.inr ⟨rfl,rfl⟩) h;exact Zzh hg rfl ha hq hs (.inl rfl) h
  |pick x a b =>simp only at hst;split at hst<;>(try(simp at hst;done));rename_i p v ha;split at hst<;>(cases hst);obtain rfl:=u rfl;exact ZsG hg rfl ha (fun _=>hs) (.inr ⟨rfl,rfl⟩) h;exact ZsG hg rfl ha hs (.inl rfl) h
  |alloc z =>simp only at hst;split at hst<;>(try(simp at hst;done));rename_i t;cases hst;exact Zp7 rfl rfl rfl hs h
  |box x =>simp only at hst;split at hst<;>(try(simp at hst;done));rename_i t p v ha;cases hst;exact Zze rfl rfl rfl ha hs.1 hs.2.1 hs.2.2 h
  |bsl len n z is xs =>simp only at hst;split at hst<;>(try(simp at hst;done));rename_i p es ha;split at hst<;>(try(simp at hst;done));rename_i ds ab;split at hst<;>(cases hst);obtain rfl:=u rfl;exact Zu7 hg rfl ha ab (fun _=>hs) (.inr ⟨rfl,rfl⟩) h;exact Zu7 hg rfl ha ab hs (.inl rfl) h
  |s2b x =>simp only at hst;split at hst<;>(try(simp at hst;done));rename_i p l ha;split at hst<;>(cases hst);obtain rfl:=u rfl;exact Zu9 hg rfl ha (fun _=>hs) (.inr ⟨rfl,rfl⟩) h;exact Zu9 hg rfl ha hs (.inl rfl) h
  |store1 a v =>
   simp only at hst;split at hst<;>(try(simp at hst;done));rename_i p ea q x ha hv;obtain⟨rfl,⟨l,off,cs,rfl,hL,rfl,rfl,rfl⟩|⟨b,off,cs,rfl,hL,rfl,rfl,rfl⟩⟩:=Zfv hst;all_goals obtain⟨h1,h2,h3,h4⟩:=hs
   all_goals have hx:cellsOf x=[x]:=by cases x<;>simp[Qn]at h4<;>rfl
   exact Zqa rfl (.inl ⟨rfl,trivial⟩) ha hv h1 h2 hL (fun _=>h4) (fun n hn=>by simp at hn) (by rw[hx];simpa using h3) rfl (by rw[hx];exact h);exact Ze5 rfl (.inl ⟨rfl,trivial⟩) ha hv h1 h2 hL (fun _=>h4) (fun n hn=>by simp at hn) (by rw[hx];simpa using h3) rfl (by rw[hx];exact h)
  |storeN n a v =>
   simp only at hst;split at hst<;>(try(simp at hst;done));rename_i p ea q xs ha hv;obtain⟨rfl,⟨l,off,cs,rfl,hL,rfl,rfl,rfl⟩|⟨b,off,cs,rfl,hL,rfl,rfl,rfl⟩⟩:=Zfv hst;all_goals obtain⟨h1,h2,h3,h4⟩:=hs
   exact Zqa rfl (.inr ⟨n,rfl⟩) ha hv h1 h2 hL (fun hn=>by simp at hn) (fun n' hn=>by simp only[K.storeN.injEq]at hn;exact⟨⟨xs,rfl⟩,by rw[←hn.1];exact h4⟩) (by simp only[cellsOf];omega) rfl h;exact Ze5 rfl (.inr ⟨n,rfl⟩) ha hv h1 h2 hL (fun hn=>by simp at hn) (fun n' hn=>by simp only[K.storeN.injEq]at hn;exact⟨⟨xs,rfl⟩,by rw[←hn.1];exact h4⟩) (by simp only[cellsOf];omega) rfl h
  |mkmap =>simp only at hst;split at hst<;>simp at hst
  |mkslice e n by_ z l c =>simp only at hst;split at hst<;>simp at hst
  |mapent kp z m k =>simp only at hst;split at hst<;>(try(simp at hst;done));split at hst<;>(try(simp at hst;done));split at hst<;>simp at hst
  |mapupd kp m k v =>simp only at hst;split at hst<;>(try(simp at hst;done));rename_i p b q dk r dv hm hk hv;split at hst<;>(try(simp at hst;done));rename_i es j;split at hst<;>simp only[SR.ok.injEq,reduceCtorEq]at hst;rename_i ac i;obtain⟨rfl,rfl,rfl,rfl⟩:=hst;exact Zoz rfl rfl rfl hm hk hv hs.1 hs.2.1 hs.2.2.1 j i hs.2.2.2 h
  |delete kp m k =>simp only at hst;split at hst<;>(try(simp at hst;done));rename_i p b q dk hm hk;split at hst<;>(try(simp at hst;done));rename_i es j;split at hst<;>simp only[SR.ok.injEq,reduceCtorEq]at hst;rename_i ac i;obtain⟨rfl,rfl,rfl,rfl⟩:=hst;exact Zox rfl rfl rfl hm hk hs.1 hs.2.1 j i hs.2.2 h
  |entst m k v =>simp only at hst;split at hst<;>(try(simp at hst;done));rename_i p b q n r dv hm hk hv;split at hst<;>(try(simp at hst;done));rename_i kp es dk n' j;split at hst<;>simp only[SR.ok.injEq,reduceCtorEq]at hst;rename_i ac i;obtain⟨rfl,rfl,rfl,rfl⟩:=hst;obtain⟨h1,h2,h3,rfl⟩:=hs;exact Zp8 rfl rfl rfl hm hk hv h1 h2 h3 j i h
  |_=>simp at hst
theorem ZlU{F:Fr P}{dk:List Zh}{o:DOp}{pre:Nat→Prop}{ρ':Nat→Env}{s':Nat→St}(hst:ZD o ρ L s=.all side pre ρ' s')(hs:side)(h:∀b,pre b→DO F kp dk os (ρ' b) L (s' b)):DO F kp dk (o::os) ρ L s:=by
 obtain⟨dst,gd,k⟩:=o;unfold ZD at hst;cases hg:Zk ρ gd with
 |none=>grind
 |some c =>
  simp[hg]at hst;cases k with
  |mkmap =>simp only at hst;split at hst<;>cases hst;exact Zp9 rfl rfl rfl h
  |mkslice e n by_ z l c =>simp only at hst;split at hst<;>cases hst;obtain⟨h1,h2,h3,h4,h5,h6⟩:=hs;exact ZlV rfl rfl rfl ‹_› ‹_› h1 h2 h3 h4 h5 h6 h
  |mapent kp z m k =>simp only at hst;split at hst<;>(try(grind;done));split at hst<;>(try(grind;done));split at hst<;>cases hst;exact Zoy rfl rfl rfl ‹_› ‹_› hs.1 hs.2.1 ‹_› ‹_› hs.2.2 (fun n=>h n trivial)
  |store1 a v =>simp only at hst;split at hst<;>(try(grind;done));exact absurd hst Zd1
  |storeN n a v =>simp only at hst;split at hst<;>(try(grind;done));exact absurd hst Zd1
  |_ =>
   grind;first
    | (grind;done)
    |repeat' (split at hst<;>(try(grind;done)))
theorem Zl{F:Fr P}{kp:Option (List Nat)}{dk:List Zh}:∀{os:List DOp} {ρ:Env} {L:Loc} {s:St},
  Zik (fun ρ L s=>Zv F dk (kept kp ρ) (ZjQ kp ρ L) s) (fun os ρ L s=>DO F kp dk os ρ L s) os ρ L s→DO F kp dk os ρ L s
 | [],ρ,L,s,h=>Zec h
 |o::os,ρ,L,s,h=>by simp[Zik]at h;split at h;rename_i sd ρ' L' s' i;exact Qg i h.1 (Zl h.2);rename_i sd pre ρ' s' i;exact ZlU i h.1 fun b hb=>Zl (h.2 b hb);exact h
end
inductive Res where
 |ret (d:D)
 |panic (d:D)
def ZtF(g:G)(w:World):Ending→Res→Prop
 |.returned v,.ret d=>Rep g w v d
 |.panicked ch,.panic d=>∃v,ch=[{ v,recovered:=false }]∧Rep g w v d
 |_,_=>False
def Zge(g:G)(w:World)(Φ:Res→St→Prop)(e:Ending)(w':World):Prop :=
 ∃g' s' r,Ext g w g' w'∧Yh g' s' w'∧ZtF g' w' e r∧Φ r s'
section
variable {P:Program}
def Za(P:Program)(f:FuncId)(args:List D)(s:St)(Φ:Res→St→Prop):Prop :=
 (∃fn,P.funcs[f]?=sO fn∧fn.body.isSome=true∧(fn.name == "runtime.NumGoroutine")=false) ∧
 ∀g w (vs:List Value),Yh g s w→ZJ (Rep g w) vs args→Calls P f vs.toArray w (Zge g w Φ)
theorem Za.mono{f:FuncId}{args:List D}{Φ Φ':Res→St→Prop}(h:Za P f args s Φ)(hp:∀r s',Φ r s'→Φ' r s'):Za P f args s Φ' :=
 ⟨h.1,fun g w vs hs ha=>(h.2 g w vs hs ha).mono fun _ _ ⟨g',s',r,a,b,c,d⟩=>⟨g',s',r,a,b,c,hp _ _ d⟩⟩
def ZjO(P:Program)(f:FuncId)(cs:List Frame)(Φ:Res→St→Prop):ZtA P where
 T g w m:=∃e w' fr,Comes P m (lone fr cs w') e∧fr.fn=f∧fr.leaving P w' e∧Zge g w Φ e w'
 back g w m m' hs h:=let ⟨e,w',fr,a,b⟩:=h;⟨e,w',fr,a.of_steps hs,b⟩
 ext g w g' w' m hx h:=by obtain⟨e,w2,fr,a,b,c,g2,s2,r,d1,d2,d3,d4⟩:=h;exact⟨e,w2,fr,a,b,c,g2,s2,r,hx.trans d1,d2,d3,d4⟩
def Zmx(P:Program)(an:Ann)(f:FuncId)(N:Nat)(cs:List Frame)(Φ:Res→St→Prop):Fr P where
 T:=ZjO P f cs Φ
 b:={ (dE:Frame) with fn:=f,kind:=.normal,roundOf:=nO }
 cs:=cs
 N:=N
 ds:=[]
 an:=an
def KL:Nat→List D→Env
 |_,[]=>[]
 |i,d::ds=>(i,.d d)::KL (i+1) ds
theorem ZoW:∀(ds:List D) (i t:Nat) (e:E),ZM (KL i ds) t=sO e→∃d,e=.d d∧i≤t∧ds[t-i]?=sO d
 | [],i,t,e,h=>by simp[KL,ZM]at h
 |d::ds,i,t,e,h=>by simp only[KL,ZM]at h;by_cases j:i=t;subst j;simp only[if_true,ZDV]at h;subst h;exact⟨d,rfl,ZEd _,by simp⟩;simp only[j,if_false]at h;obtain⟨d',h1,h2,h3⟩:=ZoW ds (i+1) t e h;refine⟨d',h1,by omega,?_⟩;rw[show t-i=(t-(i+1))+1 from by omega,List.getElem?_cons_succ];exact h3
theorem ZfX(hs:Yh g s w){vs:List Value}{args:List D}(ha:ZJ (Rep g w) vs args)(n:Nat):
  Zs g (fun _=>0) w (vs.toArray++Array.replicate n undef) (KL 0 args) [] s:={
 st:=hs
 loc l cs h:=by simp[Ze]at h
 locKept l cs h:=by simp[Ze]at h
 locSt l cs h:=by simp[Ze]at h
 inj l l' cs cs' h:=by simp[Ze]at h
 env t e h:=by
  obtain⟨d,rfl,_,hd⟩:=ZoW args 0 t e h;simp only[Nat.sub_zero]at hd;have i:t<vs.length:=by rw[ha.len];exact(List.getElem?_eq_some_iff.1 hd).1
  have:(vs.toArray++Array.replicate n undef).getD t undef=vs[t]:=by simp[Array.getD_eq_getD_getElem?,Array.getElem?_append,i]
  rw[this];exact ha.get t _ d (by simp[i]) hd }
theorem ZhX{an:Ann}{f:FuncId}{df:DF}(hf:cf P an f=sO df){args:List D}{Φ:Res→St→Prop}(h:∀cs,Zv (Zmx P an f df.n cs Φ) [.code df.body] (KL 0 args) [] s):Za P f args s Φ:=by
 unfold cf at hf;split at hf<;>(try(simp at hf;done));rename_i fn t;split at hf<;>(try(simp at hf;done));rename_i c hc;split at hf<;>(try(simp at hf;done));rename_i j;split at hf<;>simp at hf;rename_i rs d hrs hd;subst hf;refine⟨⟨fn,t,by simp[hc],by simpa using j⟩,fun g w vs hs ha=>?_⟩;intro cs;have i:Frame.enter P f vs.toArray .normal =
   (Zmx P an f fn.ntmps cs Φ).b.atR { tmps:=vs.toArray++Array.replicate (fn.ntmps-vs.length) undef,defers:=[] } [.code c]:=by
  simp[Frame.enter,Frame.atR,t,hc,Zmx]
 have:=h cs [.code c] (.code hd .nil) g (fun _=>0) w (vs.toArray++Array.replicate (fn.ntmps-vs.length) undef) (by simp[Zmx];omega) (ZfX hs ha _);obtain⟨e,w',fr,a,b,c',d'⟩:=this;refine⟨e,w',fr,d',?_,b,c'⟩;rw[i];exact a
def WV(ρ:Env)(L:Loc)(s:St):RV→Option (Prop×D)
 |.tmp t=>match ZM ρ t with
  |some (.d x)=>sO (True,x)
  |some (.when c (.d x))=>sO (c=true,x)
  |_=>nO
 |.cell1 t=>match ZM ρ t with
  |some e=>(Y6 L s e).map (True,·)
  |none=>nO
 |.cellN t n=>match ZM ρ t with
  |some e=>(W2 L s n e).map fun r=>(r.1,.agg r.2)
  |none=>nO
def Yt(ρ:Env)(L:Loc)(s:St):List RV→Option (Prop×List D)
 | []=>sO (True,[])
 |r::rs=>match WV ρ L s r,Yt ρ L s rs with
  |some (p,d),sO (q,ds)=>sO (p∧q,d::ds)
  |_,_=>nO
def KM:List D→D
 | [d]=>d
 |ds=>.tup ds
def Zj4(tmps:Array Value):ResultVar→Sem Value
 |.tmp t=>pure (tmps.getD t undef)
 |.cell a t=>do loadVar t (←asAddr (tmps.getD a undef))
theorem ZmX(fn:Func)(tmps:Array Value):results fn tmps=(do
  let vs ←fn.results.mapM (Zj4 tmps)
  pure (if h:vs.size=1 then vs[0] else .tuple vs)):=by
 unfold results
 congr 1
theorem ZAs(m:Zs g ν w tmps ρ L s){r:ResultVar}{rv:RV}(hc:crv P r=sO rv){p:Prop}{d:D}(h:WV ρ L s rv=sO (p,d))(hp:p):
  ∃v,(Zj4 tmps r).run P w=.ok v w∧Rep g w v d:=by
 cases r with
 |tmp t =>simp only[crv,ZDV]at hc;subst hc;simp only[WV]at h;split at h<;>simp only[ZDV,ZD7,reduceCtorEq]at h;rename_i x hx;obtain⟨rfl,rfl⟩:=h;exact⟨_,rfl,m.env t _ hx⟩;rename_i c x hx;obtain⟨rfl,rfl⟩:=h;exact⟨_,rfl,(m.env t _ hx).1 hp⟩
 |cell a t =>
  simp only[crv]at hc;split at hc<;>simp at hc;·rename_i n ha u;subst hc;simp only[WV]at h;split at h<;>(try(simp at h;done));rename_i e he;simp only[ZD9,ZD7]at h;obtain⟨⟨q,ds⟩,hq,rfl,rfl⟩:=h;obtain⟨ad,hv,vs,i,j⟩:=ZmN (P:=P) m.loc m.st (m.env a e he) hq hp;exact⟨.agg vs.toArray,by simp only[Zj4,hv,asAddr];simp[loadVar,Ze6 ha,YI u,i],j⟩
  rename_i n ha u;subst hc;simp only[WV]at h;split at h<;>(try(simp at h;done));rename_i e he;simp only[ZD9,ZD7]at h;obtain⟨x,hx,_,rfl⟩:=h;obtain⟨b,o,y,hv,hy,hr,_⟩:=Zl7 m.loc m.st (m.env a e he) hx;exact⟨y,by simp only[Zj4,hv,asAddr];simp[loadVar,ZdL ha,hy],hr⟩
theorem Zwh{g:G}{ν:Nat→Nat}{w:World}{tmps:Array Value}{ρ:Env}{L:Loc}{s:St}(m:Zs g ν w tmps ρ L s):∀{rs:List ResultVar} {rvs:List RV},Zij P rs=sO rvs→∀{p:Prop} {ds:List D},
  Yt ρ L s rvs=sO (p,ds)→p→∃vs:List Value,(rs.mapM (Zj4 tmps)).run P w=.ok vs w∧ZJ (Rep g w) vs ds
 | [],rvs,hc,p,ds,h,hp=>by simp only[Zij,ZDV]at hc;subst hc;simp only[Yt,ZDV,ZD7]at h;obtain⟨rfl,rfl⟩:=h;exact⟨[],by simp,.nil⟩
 |r::rs,rvs,hc,p,ds,h,hp=>by simp only[Zij]at hc;split at hc<;>simp at hc;rename_i x xs hx u;subst hc;simp only[Yt]at h;split at h<;>simp only[ZDV,ZD7,reduceCtorEq]at h;rename_i p1 d1 p2 ds' h1 h2;obtain⟨rfl,rfl⟩:=h;obtain⟨v,t,n⟩:=ZAs m hx h1 hp.1;obtain⟨vs,i,j⟩:=Zwh m u h2 hp.2;exact⟨v::vs,by simp only[List.mapM_cons,Sem.run_bind];rw[t];simp only[Result.andThen_ok,i,Sem.run_pure],.cons n j⟩
def D.Le(d d':D):Prop:=∀g w v,Rep g w v d→Rep g w v d'
theorem D.Le.refl(d:D):d.Le d:=fun _ _ _ h=>h
theorem ZmY(m:Zs g ν w tmps ρ L s){fn:Func}{rvs:List RV}(hc:Zij P fn.results.toList=sO rvs){p:Prop}(h:Yt ρ L s rvs=sO (p,ds))(hp:p):∃v,(results fn tmps).run P w=.ok v w∧Rep g w v (KM ds):=by
 obtain⟨vs,h1,h2⟩:=Zwh m hc h hp;have n:(fn.results.mapM (Zj4 tmps)).run P w=.ok vs.toArray w:=by rw[Array.mapM_eq_mapM_toList];simp[h1]
 by_cases i:vs.length=1
 ·match vs,i,h2 with
  | [v],_,.cons hv .nil =>refine⟨v,?_,hv⟩;rw[ZmX];simp[n]
 refine⟨.tuple vs.toArray,?_,?_⟩;rw[ZmX];simp[n,i];have j:=h2.len;have:KM ds=.tup ds:=by
  match ds,j with
  | [],_=>rfl
  | [_],hl=>exact absurd hl i
  |_::_::_,_=>rfl
 rw[this];exact .tup vs ds j h2.get
def St.sub(s' s:St):Prop:=∀b o,s' b=sO o→s b=sO o
theorem Yh.sub{s s':St}(h:Yh g s w)(hs:s'.sub s):Yh g s' w:={
 obj b o ho:=h.obj b o (hs b o ho)
 kept b o ho:=h.kept b o (hs b o ho)
 fresh:=h.fresh
 tabs:=h.tabs }
end
end Go.DL
