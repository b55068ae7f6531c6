/- Lemmas: DlA, DlB, DlC, DlD, DlE, DlF, DlG, DlH, DlI, DlJ, DlK, DlL, DlM, DlMa, DlN, DlO, DlP, DlQ, DlR, DlS, DlT, DlTa, DlTb, DlTc, DlU, DlV, DlW, DlWa. -/
import Derived.AtR
import Derived.Calls
import Derived.Laws.Cells
import Derived.Laws.StructEq
import Derived.ChangeKeysEq
import Derived.Laws.Tables
import Derived.Laws.Build
import Derived.Laws.BytesString
import Derived.MapKept
import Derived.Laws.CopyRow
import Derived.Great.BuildSlice
import Derived.Laws.MakeOwn
import Derived.Laws.AppendOwn
import Derived.Lib.ConvBytes
import Derived.Defers
import Derived.Orders
import Derived.Lib.AppendStr
import Derived.RangeFuncIn
import Derived.OpenShut
import Derived.WalkKit
import Derived.ProofKit
import Derived.ChangeCalls
import Derived.KernelRfl
import Derived.Shelf.Strings.OnBuilder
import Derived.Ground.NamesProg
import Derived.Lib.Bytealg
import Derived.Lay
import Derived.LaidOnce
import Derived.Lib.LaidTab
import Derived.Stop.LaidErr
import Derived.SevenTiedAt
import Derived.Test.YtmdaecbcadpmcaaGreatDoorProg
set_option maxHeartbeats 16000000
set_option maxRecDepth 100000
set_option linter.all false
def ω{p:Prop}(h:p:=by omega):p:=h
def φ{p:Prop}(h:p:=by trivial):p:=h
def ψ{p:Prop}(h:p:=by simp):p:=h
abbrev Go.Value.i(n:Int):Go.Value:=.int .i64 n
open List renaming length->I
open Option renaming some -> sO, none -> nO
open Inhabited renaming default -> dE
open Decidable renaming decide -> dC
open Bool renaming and_eq_true -> ZHN, false_eq_true -> ZIe
open List renaming append_assoc -> ZIg, getD -> ZHU, getElem?_append_left -> ZIc, getElem?_append_right -> ZIq, getElem?_eq_getElem -> ZIb, getElem?_eq_none -> ZIr, getElem?_take -> ZIm, getElem_of_mem -> ZH1, length_append -> ZHO, length_cons -> ZHW, length_take -> ZHZ, map_cons -> ZHY, map_nil -> ZIf, mem_cons -> ZIj, range -> ZHT
open Nat renaming add_mul -> ZIa, le_refl -> ZHV, mul_le_mul_right -> ZH5
open Option renaming getD_some -> ZIk, map_eq_some_iff -> ZHS, map_some -> ZId
open Option.some renaming injEq -> ZHE
open Prod.mk renaming injEq -> ZHR
namespace Go.DL
open Go
variable {kp:Option (List Nat)}{w:World}{dst:Option Nat}{tmps:Array Value}{Z:Nat->Nat}{side:Prop}
inductive Tok where
 |none|full|tip (b:Nat)
inductive D where
 |int (k:IntKind) (n:Int)
 |bool (b:Bool)
 |str (s:List UInt8)
 |agg (cells:List D)
 |tup (vs:List D)
 |nilsl
 |sl (t:Tok) (n s:Nat) (row:Nat->List D)
 |ep (cells:List D) (off:Nat)
 |nilptr
 |ptr (b off:Nat)
 |msl (b off n cap s:Nat)
 |map (b:Nat)
 |nilmap
 |fn (f:Fn) (first caps:List D)
 |nilfn
 |iface (t:TypeId) (v:D)
 |niliface
 |stamp (n:Nat)
 |undef
 |any
abbrev D.i(n:Int):D:=.int .i64 n
instance:Inhabited D:=⟨.undef⟩
inductive SK where
 |int|str|bool
inductive KP where
 |sc (k:SK)
 |st (l:List (Nat×SK))
def Yv:SK->D->D->Option Bool
 |.int,.int k a,.int k' b=>if k=k' then sO (dC (a=b)) else nO
 |.str,.str a,.str b=>sO (dC (a=b))
 |.bool,.bool a,.bool b=>sO (dC (a=b))
 |_,_,_=>nO
def WC(xs ys:List D):List (Nat×SK)->Option Bool
 | []=>sO true
 | (o,k)::r=>match xs[o]?,ys[o]? with
  |some x,sO y=>match Yv k x y,WC xs ys r with
   |some b,sO c=>sO (b&&c)
   |_,_=>nO
  |_,_=>nO
def KK:KP->D->D->Option Bool
 |.sc k,x,y=>Yv k x y
 |.st l,.agg xs,.agg ys=>if (I xs)=I l/\I ys=I l then WC xs ys l else nO
 |_,_,_=>nO
def Jv(kp:KP)(k:D):List (D×D)->Option (Option Nat)
 | []=>sO nO
 |e::r=>match KK kp k e.1 with
  |some true=>sO (sO 0)
  |some false=>(Jv kp k r).map (·.map (· + 1))
  |none=>nO
def hdr(w:World)(b:Nat):Option (TypeId×Nat×Nat×Nat) :=
 match w.heap[b]? with
 |some (.cells c t fr)=>sO (t,c.size,fr.1,fr.2)
 |_=>nO
def _root_.Go.Value.one1:Value->Bool
 |.agg _|.tuple _=>false
 |_=>true
structure G where
 prot:Nat->Nat
 kept:Nat->Prop
def free(w:World)(b n:Nat):Prop:=∃t m,hdr w b=sO (t,m,0,0)/\n<=m
def Zlb(w:World):Tok->Nat->Nat->Nat->Nat->Nat->Prop
 |.none,_,_,_,_,_=>True
 |.full,_,_,n,cap,_=>cap=n
 |.tip t,b,o,_,cap,s=>b=t/\o=0/\free w b (cap*s)
def inR(k:IntKind)(n:Int):Prop:=k.min<=n/\n<=k.max
def big:Nat:=9223372036854775807
inductive Rep(g:G)(w:World):Value->D->Prop where
 |int (k:IntKind) (n:Int) (h:inR k n):Rep g w (.int k n) (.int k n)
 |bool (b:Bool):Rep g w (.bool b) (.bool b)
 |str (s:ByteArray) (l:List UInt8) (h:s.data.toList=l) (hb:I l<=big):Rep g w (.string s) (.str l)
 |agg (vs:List Value) (cells:List D) (hn:I vs=I cells) (h:∀(i:Nat) (v:Value) (d:D),vs[i]?=some v->cells[i]?=some d->Rep g w v d)
   (one:∀v∈vs,v.one1=true):Rep g w (.agg vs.toArray) (.agg cells)
 |tup (vs:List Value) (ds:List D) (hn:I vs=I ds) (h:∀(i:Nat) (v:Value) (d:D),vs[i]?=some v->ds[i]?=some d->Rep g w v d) :
   Rep g w (.tuple vs.toArray) (.tup ds)
 |nilsl:Rep g w (.slice none 0 0) .nilsl
 |sl0 (a:Option Addr) (t:Tok) (s:Nat) (row:Nat->List D) (ht:∀b,t≠.tip b):Rep g w (.slice a 0 0) (.sl t 0 s row)
 |sl (b o n cap s:Nat) (row:Nat->List D) (t:Tok) (f:Nat->Nat->Value) (hl:∀i,i<n->(row i).length=s)
   (hc:∀i j,i<n->j<s->w.cell? ⟨b,o+i*s+j,none⟩=some (f i j)) (hp:∀i j,i<n->j<s->o+i*s+j<g.prot b)
   (hr:∀(i j:Nat) (d:D),i<n->(row i)[j]?=some d->Rep g w (f i j) d) (one:∀i j,i<n->j<s->(f i j).one1=true)
   (ht:Zlb w t b o n cap s) (hcap:n<=cap) (hb:cap<=big) :
   Rep g w (.slice (some ⟨b,o,none⟩) n cap) (.sl t n s row)
 |ep (b o off:Nat) (cells:List D) (f:Nat->Value) (hc:∀i,i<I cells->w.cell? ⟨b,o+i,none⟩=some (f i)) (hp:∀i,i<I cells->o+i<g.prot b)
   (hr:∀(i:Nat) (d:D),cells[i]?=some d->Rep g w (f i) d) (one:∀i,i<I cells->(f i).one1=true):Rep g w (.pointer (some ⟨b,o+off,none⟩)) (.ep cells off)
 |nilptr:Rep g w (.pointer none) .nilptr
 |ptr (b off:Nat):Rep g w (.pointer (some ⟨b,off,none⟩)) (.ptr b off)
 |msl (b off n cap s:Nat) (h:n<=cap) (hb:cap<=big):Rep g w (.slice (some ⟨b,off,none⟩) n cap) (.msl b off n cap s)
 |mslx (a:Addr) (b off s:Nat):Rep g w (.slice (some a) 0 0) (.msl b off 0 0 s)
 |map (b:Nat):Rep g w (.map (some b)) (.map b)
 |nilmap:Rep g w (.map none) .nilmap
 |fn (f:Fn) (fs cs:List Value) (df dc:List D) (hnf:I fs=I df) (hnc:I cs=I dc)
   (hf:∀(i:Nat) (v:Value) (d:D),fs[i]?=some v->df[i]?=some d->Rep g w v d)
   (hc:∀(i:Nat) (v:Value) (d:D),cs[i]?=some v->dc[i]?=some d->Rep g w v d):Rep g w (.func f fs.toArray cs.toArray) (.fn f df dc)
 |nilfn:Rep g w .nilFunc .nilfn
 |iface (t:TypeId) (v:Value) (d:D) (h:Rep g w v d):Rep g w (.iface t v) (.iface t d)
 |niliface:Rep g w .nilIface .niliface
 |stamp (n:Nat):Rep g w (.i n) (.stamp n)
 |undef:Rep g w undef .undef
 |any (v:Value):Rep g w v .any
structure Ext(g:G)(w:World)(g':G)(w':World):Prop where
 size:w.heap.size<=w'.heap.size
 prot:∀b,g.prot b<=g'.prot b
 cell:∀b o,o<g.prot b->w'.cell? ⟨b,o,none⟩=w.cell? ⟨b,o,none⟩
 hdr:∀b x,hdr w b=some x->hdr w' b=some x
 kept:∀b,g.kept b->w'.heap[b]?=w.heap[b]?
 keptProt:∀b,g.kept b->g'.prot b=g.prot b
 keptEq:g'.kept=g.kept
 os:w'.os=w.os
 output:w'.output=w.output
 tape:w'.tape=w.tape
def Ext.refl(g w):Ext g w g w:=⟨ZHV _,λ_=>ZHV _,λ_ _ _=>rfl,λ_ _ h=>h,λ_ _=>rfl,λ_ _=>rfl,rfl,rfl,rfl,rfl⟩
def Ext.trans{g t j:G}{w w' n:World}(h:Ext g w t w')(i:Ext t w' j n):Ext g w j n:={
 size:=Nat.le_trans h.size i.size
 prot b:=Nat.le_trans (h.prot b) (i.prot b)
 cell b o ho:=(i.cell b o (Nat.lt_of_lt_of_le ho (h.prot b))).trans (h.cell b o ho)
 hdr b x hx:=i.hdr b x (h.hdr b x hx)
 kept b hb:=(i.kept b (by rw[h.keptEq];exact hb)).trans (h.kept b hb)
 keptProt b hb:=(i.keptProt b (by rw[h.keptEq];exact hb)).trans (h.keptProt b hb)
 keptEq:=i.keptEq.trans h.keptEq
 os:=i.os.trans h.os
 output:=i.output.trans h.output
 tape:=i.tape.trans h.tape }
def free.mono0{w w' b n}(h:free w b n)(e:∀b x,hdr w b=sO x->hdr w' b=sO x):free w' b n:=by
 obtain⟨t,m,j,i⟩:=h;exact⟨t,m,e _ _ j,i⟩
def Rep.mono0{g g' w w' v d}(h:Rep g w v d)(ep:∀b,g.prot b<=g'.prot b)(ec:∀b o,o<g.prot b->w'.cell? ⟨b,o,nO⟩=w.cell? ⟨b,o,nO⟩)(eh:∀b x,hdr w b=sO x->hdr w' b=sO x):Rep g' w' v d:=by
 induction h with
 |int k n h=>exact .int k n h
 |bool b=>exact .bool b
 |str s l h hb=>exact .str s l h hb
 |agg vs cells hn _ one ih=>exact .agg vs cells hn ih one
 |tup vs ds hn _ ih=>exact .tup vs ds hn ih
 |nilsl=>exact .nilsl
 |sl0 a t s row ht=>exact .sl0 a t s row ht
 |sl b o n cap s row t f hl hc hp _ one ht hcap hb ih =>
  refine .sl b o n cap s row t f hl (λi j u z=>?_) (λi j u z=>Nat.lt_of_lt_of_le (hp i j u z) (ep b)) ih one ?_ hcap hb;rw[ec _ _ (hp i j u z)];exact hc i j u z;cases t with
  |none=>trivial
  |full=>exact ht
  |tip t=>exact⟨ht.1,ht.2.1,ht.2.2.mono0 eh⟩
 |ep b o off cells f hc hp _ one ih =>exact .ep b o off cells f (λi u=>by rw[ec _ _ (hp i u)];exact hc i u) (λi u=>Nat.lt_of_lt_of_le (hp i u) (ep b)) ih one
 |nilptr=>exact .nilptr
 |ptr b off=>exact .ptr b off
 |msl b off n cap s h hb=>exact .msl b off n cap s h hb
 |mslx a b off s=>exact .mslx a b off s
 |map b=>exact .map b
 |nilmap=>exact .nilmap
 |fn f fs cs df dc hnf hnc _ _ ihf ihc=>exact .fn f fs cs df dc hnf hnc ihf ihc
 |nilfn=>exact .nilfn
 |iface t v d _ ih=>exact .iface t v d ih
 |niliface=>exact .niliface
 |stamp n=>exact .stamp n
 |undef=>exact .undef
 |any v=>exact .any v
def Rep.mono{g i w w' v d}(h:Rep g w v d)(e:Ext g w i w'):Rep i w' v d:=h.mono0 e.prot e.cell e.hdr
inductive E where
 |d (v:D)
 |loc (l off:Nat)
 |when (c:Bool) (e:E)
abbrev Env:=List (Nat×E)
abbrev Loc:=List (Nat×List D)
def ZS:Env->Nat->Option E
 | [],_=>nO
 | (k,e)::r,t=>if k=t then sO e else ZS r t
def Zj:Loc->Nat->Option (List D)
 | [],_=>nO
 | (k,e)::r,t=>if k=t then sO e else Zj r t
def ZP(g:G)(Z:Nat->Nat)(w:World)(L:Loc):Value->E->Prop
 |v,.d x=>Rep g w v x
 |v,.loc l off=>(∃cs,Zj L l=sO cs)/\v=.pointer (sO ⟨Z l,off,nO⟩)
 |v,.when c e=>(c=true->ZP g Z w L v e)/\(c=false->v=undef)
def ZP.mono{g i Z w w' L v e}(h:ZP g Z w L v e)(x:Ext g w i w'):ZP i Z w' L v e:=by
 induction e with
 |d d=>exact Rep.mono h x
 |loc l off=>exact h
 |when c e ih=>exact⟨λj=>ih (h.1 j),h.2⟩
structure ZcB where
 fn:FuncId
 params:List Nat
 assign:Code
 body:Code
 defers:Nat
 H:Env
 N:Nat
inductive LSt where
 |ready|busy
 |done (j:Code)
inductive Jo where
 |cells (ds:List D)
 |map (es:List (D×D))
 |tip (k:Nat)
 |mapE (kp:KP) (es:List (D×D)) (k:D) (n:Nat)
 |loop (r:ZcB) (st:LSt)
 |dfr
abbrev St:=Nat->Option Jo
def St.upd(s:St)(b:Nat)(o:Jo):St:=λx=>if x=b then sO o else s x
def St.del(s:St)(b:Nat):St:=λx=>if x=b then nO else s x
structure Wc(g:G)(w:World)(b:Nat)(ds:List D):Prop where
 prot:g.prot b=0
 ex:∃(vs:Array Value) (T:TypeId),w.heap[b]?=some (.cells vs T (0,0))/\vs.size=I ds /\
  (∀(i:Nat) (v:Value) (d:D),vs[i]?=some v->ds[i]?=some d->Rep g w v d)/\∀v∈vs,v.one1=true
def W2(g:G)(w:World)(b:Nat):Jo->Prop
  |.cells ds=>Wc g w b ds
  |.map es=>g.prot b=0/\∃(en:Array MapEntry) (clock:Nat),w.heap[b]?=sO (.map en clock)/\en.size=I es /\
      (∀(i:Nat) (e:MapEntry) (d:D×D),en[i]?=sO e->es[i]?=sO d->Rep g w e.key d.1) /\
      (∀(i:Nat) (e:MapEntry) (d:D×D),en[i]?=sO e->es[i]?=sO d->Rep g w e.val d.2) /\
      (∀(i j:Nat) (e e':MapEntry),en[i]?=sO e->en[j]?=sO e'->e.born=e'.born->i=j)/\∀(i:Nat) (e:MapEntry),en[i]?=sO e->e.born<clock
  |.tip k=>g.prot b=k/\∃(vs:Array Value) (T:TypeId),w.heap[b]?=sO (.cells vs T (0,0))/\k<=vs.size
  |.mapE kp es k n=>g.prot b=0/\∃io,Jv kp k es=sO io/\∃(en:Array MapEntry) (clock:Nat),w.heap[b]?=sO (.map en clock)/\en.size=(match io with
        |none=>I es+1
        |some _=>I es) /\
      (∀(i:Nat) (e:MapEntry) (d:D×D),i≠io.getD (I es)->en[i]?=sO e->es[i]?=sO d->Rep g w e.key d.1) /\
      (∀(i:Nat) (e:MapEntry) (d:D×D),i≠io.getD (I es)->en[i]?=sO e->es[i]?=sO d->Rep g w e.val d.2) /\
      (∀e,en[io.getD (I es)]?=sO e->Rep g w e.key k/\e.born=n) /\
      (∀(i j:Nat) (e e':MapEntry),en[i]?=sO e->en[j]?=sO e'->e.born=e'.born->i=j)/\∀(i:Nat) (e:MapEntry),en[i]?=sO e->e.born<clock
  |.loop r st=>g.prot b=0/\∃l:Go.Loop,w.heap[b]?=sO (.loop l)/\l.fn=r.fn/\l.params.toList=r.params/\l.assign=r.assign/\l.body=r.body/\l.defers=r.defers/\r.N<=l.tmps.size /\
      (∀t e,ZS r.H t=sO e->ZP g (λ_=>0) w [] (l.tmps.getD t undef) e) /\
      (match st with
       |.ready=>l.state=.ready/\l.pending=nO
       |.busy=>l.state=.busy
       |.done j=>l.state=.done/\l.pending=sO j)
  |.dfr=>g.prot b=0/\w.heap[b]?=sO (.deferred (sO []))
class Zsq where
 tab:Nat->Option (List D)
variable [Zsq]
structure Yp(g:G)(s:St)(w:World):Prop where
 obj:∀b o,s b=some o->W2 g w b o
 kept:∀b o,s b=some o->¬g.kept b
 fresh:∀b,w.heap.size<=b->g.prot b=0/\¬g.kept b
 tabs:∀n cs,Zsq.tab n=some cs->Rep g w (.pointer (some ⟨n,0,none⟩)) (.ep cs 0)
def Wc.lt{g w b ds}(h:Wc g w b ds):b<w.heap.size:=by
 obtain⟨_,_,h,_⟩:=h.ex;grind
def W2.lt{g w b o}(h:W2 g w b o):b<w.heap.size:=by
 cases o with
 |cells ds=>exact Wc.lt h
 |map es=>obtain⟨_,_,_,h,_⟩:=h;exact(Array.getElem?_eq_some_iff.1 h).1
 |tip k=>obtain⟨_,_,_,h,_⟩:=h;exact(Array.getElem?_eq_some_iff.1 h).1
 |mapE kp es k n=>obtain⟨_,_,_,_,_,h,_⟩:=h;exact(Array.getElem?_eq_some_iff.1 h).1
 |loop r st=>obtain⟨_,_,h,_⟩:=h;exact(Array.getElem?_eq_some_iff.1 h).1
 |dfr=>exact(Array.getElem?_eq_some_iff.1 h.2).1
def Wc.mono{g n w w' b ds}(h:Wc g w b ds)(e:Ext g w n w')(hb:w'.heap[b]?=w.heap[b]?)(hp:n.prot b=g.prot b):
  Wc n w' b ds:=by
 obtain⟨j,vs,T,h1,h2,u,h5⟩:=h;exact⟨hp.trans j,vs,T,hb.trans h1,h2,λi v d z t=>(u i v d z t).mono e,h5⟩
def W2.mono{g g' w w' b o}(h:W2 g w b o)(e:Ext g w g' w')(hb:w'.heap[b]?=w.heap[b]?)(hp:g'.prot b=g.prot b):
  W2 g' w' b o:=by
 cases o with
 |cells ds=>exact Wc.mono h e hb hp
 |map es =>obtain⟨u,en,j,h1,h2,h3,h4,h5,h6⟩:=h;exact⟨hp.trans u,en,j,hb.trans h1,h2,λi x d hv z=>(h3 i x d hv z).mono e,λi x d hv z=>(h4 i x d hv z).mono e,h5,h6⟩
 |tip k =>obtain⟨u,vs,T,h1,h2⟩:=h;exact⟨hp.trans u,vs,T,hb.trans h1,h2⟩
 |mapE kp es k n =>obtain⟨u,io,h0,en,j,h1,h2,h3,h4,h5,h6,h7⟩:=h;exact⟨hp.trans u,io,h0,en,j,hb.trans h1,h2,λi x d hi hv z=>(h3 i x d hi hv z).mono e,λi x d hi hv z=>(h4 i x d hi hv z).mono e,λx hx=>⟨(h5 x hx).1.mono e,(h5 x hx).2⟩,h6,h7⟩
 |loop r st =>obtain⟨u,l,h1,h2,h3,h4,h5,h6,h7,h8,h9⟩:=h;exact⟨hp.trans u,l,hb.trans h1,h2,h3,h4,h5,h6,h7,λt x he=>(h8 t x he).mono e,h9⟩
 |dfr=>exact⟨hp.trans h.1,hb.trans h.2⟩
structure Zy(g:G)(Z:Nat->Nat)(w:World)(tmps:Array Value)(H:Env)(L:Loc)(s:St):Prop where
 st:Yp g s w
 loc:∀l cs,Zj L l=some cs->Wc g w (Z l) cs
 locKept:∀l cs,Zj L l=some cs->¬g.kept (Z l)
 locSt:∀l cs,Zj L l=some cs->s (Z l)=none
 inj:∀l l' cs cs',Zj L l=some cs->Zj L l'=some cs'->Z l=Z l'->l=l'
 env:∀t e,ZS H t=some e->ZP g Z w L (tmps.getD t undef) e
def ZP.locs{g Z Z' w L L' v e}(h:ZP g Z w L v e)(t:∀l j,Zj L l=sO j->(∃cs',Zj L' l=sO cs')/\Z' l=Z l):ZP g Z' w L' v e:=by
 induction e with
 |d d=>exact h
 |loc l off=>obtain⟨⟨j,i⟩,hv⟩:=h;obtain⟨n,h2⟩:=t l j i;exact⟨n,by grind⟩
 |when c e ih=>exact⟨λi=>ih (h.1 i),h.2⟩
def ZzQ{a:Array Value}{t u v}(h:t<a.size):(a.setIfInBounds t v).getD u undef=if t=u then v else a.getD u undef:=by
 simp;grind
def Zy.put{g Z w tmps H L s}(m:Zy g Z w tmps H L s){t v e}(n:t<tmps.size)(h:ZP g Z w L v e):Zy g Z w (tmps.setIfInBounds t v) ((t,e)::H) L s :=
 { m with
  env:=λu x j=>by
   rw[ZzQ n];simp[ZS]at j;by_cases i:t=u;grind;simp only[i]at j⊢;exact m.env u x j }
structure Zaq(g:G)(w:World)(g':G)(w':World):Prop where
 size:w.heap.size<=w'.heap.size
 old:∀b,b<w.heap.size->w'.heap[b]?=w.heap[b]?
 prot:∀b,b<w.heap.size->g'.prot b=g.prot b
 fresh:∀b,w'.heap.size<=b->g'.prot b=0
 kept:g'.kept=g.kept
 os:w'.os=w.os
 output:w'.output=w.output
 tape:w'.tape=w.tape
def J8{w w':World}{b o}(h:w'.heap[b]?=w.heap[b]?):w'.cell? ⟨b,o,nO⟩=w.cell? ⟨b,o,nO⟩:=by
 unfold World.cell?;simp[h]
def ZbY{w w' b}(h:w'.heap[b]?=w.heap[b]?):hdr w' b=hdr w b:=by grind [hdr]
def ZCn{w b x}(h:hdr w b=sO x):b<w.heap.size:=by grind [hdr]
def Zaq.ext{g n:G}{w w':World}(h:Zaq g w n w')(j:∀b,w.heap.size<=b->g.prot b=0/\¬g.kept b):Ext g w n w':={
 size:=h.size
 prot b:=by rcases Nat.lt_or_ge b w.heap.size with hb|hb;rw[h.prot b hb];exact ZHV _;rw[(j b hb).1];exact Nat.zero_le _
 cell b o ho:=by rcases Nat.lt_or_ge b w.heap.size with hb|hb;exact J8 (h.old b hb);simp_all
 hdr b x hx:=by rw[ZbY (h.old b (ZCn hx))];exact hx
 kept b hb:=by rcases Nat.lt_or_ge b w.heap.size with i |i;exact h.old b i;exact absurd hb (j b i).2
 keptProt b hb:=by rcases Nat.lt_or_ge b w.heap.size with i |i;exact h.prot b i;exact absurd hb (j b i).2
 keptEq:=h.kept
 os:=h.os
 output:=h.output
 tape:=h.tape }
def Yp.grow{g i:G}{w w':World}{s:St}(m:Yp g s w)(h:Zaq g w i w'):Yp i s w':={
 obj b o ho:=(m.obj b o ho).mono (h.ext m.fresh) (h.old b (m.obj b o ho).lt) (h.prot b (m.obj b o ho).lt)
 kept b o ho:=by rw[h.kept];exact m.kept b o ho
 fresh b hb:=⟨h.fresh b hb,by rw[h.kept];exact(m.fresh b (Nat.le_trans h.size hb)).2⟩
 tabs n cs hc:=(m.tabs n cs hc).mono (h.ext m.fresh) }
def Zy.grow{g i:G}{w w':World}{H:Env}{L:Loc}{s:St}(m:Zy g Z w tmps H L s)(h:Zaq g w i w'):
  Zy i Z w' tmps H L s:={
 st:=m.st.grow h
 loc l cs hl:=(m.loc l cs hl).mono (h.ext m.st.fresh) (h.old _ (m.loc l cs hl).lt) (h.prot _ (m.loc l cs hl).lt)
 locKept l cs hl:=by rw[h.kept];exact m.locKept l cs hl
 locSt:=m.locSt
 inj:=m.inj
 env t e he:=(m.env t e he).mono (h.ext m.st.fresh) }
end Go.DL
namespace Go.DL
open Go
variable [Zsq]
variable {kp:Option (List Nat)}{L:Loc}{H:Env}{s:St}{w:World}{ds:List D}{dst:Option Nat}{tmps:Array Value}{g:G}{Z:Nat->Nat}{side:Prop}{row:Nat->List D}
inductive Opd where
 |tmp (t:Nat)
 |cst (d:D)
def ZnL:Value->Option D
 |.int k n=>if k.min<=n/\n<=k.max then sO (.int k n) else nO
 |.bool b=>sO (.bool b)
 |.string s=>if (I s.data.toList)<=big then sO (.str s.data.toList) else nO
 |.pointer nO=>sO .nilptr
 |.slice nO 0 0=>sO .nilsl
 |.map nO=>sO .nilmap
 |.nilFunc=>sO .nilfn
 |.nilIface=>sO .niliface
 |_=>nO
def ZbW:List Value->Option (List D)
 | []=>sO []
 |v::vs=>match ZnL v,ZbW vs with
  |some d,sO ds=>sO (d::ds)
  |_,_=>nO
def ZnM:Value->Option D
 |.agg cs=>(ZbW cs.toList).map .agg
 |v=>ZnL v
def Z6:Operand->Option Opd
 |.tmp t=>sO (.tmp t)
 |.const v=>(ZnM v).map .cst
 |.func f=>sO (.cst (.fn (.func f) [] []))
 |.global n=>sO (.cst (match Zsq.tab n with
  |some cs=>.ep cs 0
  |none=>.any))
def ZcX:List Operand->Option (List Opd)
 | []=>sO []
 |x::xs=>match Z6 x,ZcX xs with
  |some y,sO ys=>sO (y::ys)
  |_,_=>nO
inductive Zfp where
 |bool|sl|map|fn|ifc|ptr
 |cells (l:List (Nat×SK))
inductive Cv where
 |int (k:IntKind)|str|i2s|b2s
inductive Q where
 |mv|nilck|load1|loadN (n:Nat)
 |bin (op:BinOp) (p:Option Zfp)
 |not|neg|xorm
 |conv (c:Cv)
 |faddr (off:Nat)
 |fld1 (off:Nat)|fldN (off n:Nat)
 |iaddr (s:Nat)|iaddrA (m s:Nat)
 |idxA (m s:Nat) (one:Bool)
 |sliceA (m s:Nat) (lo hi mx:Bool)
 |idxS
 |lenS|lenL|lenA (n:Nat)
 |ext (k:Nat)
 |build (zero:List D) (parts:List (Nat×Nat))
 |mkfn (f:Fn) (first:Nat)
 |mkif (t:TypeId)
 |sliceS (lo hi:Bool)
 |slice (s:Nat) (lo hi mx:Bool)
 |min|max
 |tassert (t:TypeId) (ok:Bool) (zero:D)
 |lookup (kp:KP) (zero:D) (ok:Bool)
 |lenM
def cellsOf:D->List D
 |.agg cs=>cs
 |d=>[d]
def Km:D->Bool
 |.tup _|.undef|.any=>false
 |_=>true
def Qm:D->Bool
 |.tup _|.undef|.agg _|.any=>false
 |_=>true
def QS(kp:KP)(k:D):Bool:=(KK kp k k).isSome
def Zcb(kp:KP)(k:D):List (D×D)->Option (Option D)
 | []=>sO nO
 |e::r=>match KK kp k e.1 with
  |some true=>sO (sO e.2)
  |some false=>Zcb kp k r
  |none=>nO
def ZaE(kp:KP)(k v:D):List (D×D)->Option (List (D×D))
 | []=>sO [(k,v)]
 |e::r=>match KK kp k e.1 with
  |some true=>sO ((k,v)::r)
  |some false=>(ZaE kp k v r).map (e::·)
  |none=>nO
def ZgP(kp:KP)(k:D):List (D×D)->Option (List (D×D))
 | []=>sO []
 |e::r=>match KK kp k e.1 with
  |some true=>sO r
  |some false=>(ZgP kp k r).map (e::·)
  |none=>nO
def Wy(z:D)(ok:Bool):Option D->D
 |some v=>if ok then .tup [v,.bool true] else v
 |none=>if ok then .tup [z,.bool false] else z
def YX:Zfp->D->D->Option (Prop×Bool)
 |.bool,.bool a,.bool b=>sO (True,dC (a=b))
 |.sl,.nilsl,.nilsl=>sO (True,true)
 |.sl,.sl _ n _ _,.nilsl=>sO (0<n,false)
 |.map,.nilmap,.nilmap=>sO (True,true)
 |.map,.map _,.nilmap=>sO (True,false)
 |.sl,.msl _ _ _ _ _,.nilsl=>sO (True,false)
 |.fn,.nilfn,.nilfn=>sO (True,true)
 |.fn,.fn _ _ _,.nilfn=>sO (True,false)
 |.ifc,.niliface,.niliface=>sO (True,true)
 |.ifc,.iface _ _,.niliface=>sO (True,false)
 |.ptr,.nilptr,.nilptr=>sO (True,true)
 |.ptr,.ptr _ _,.nilptr=>sO (True,false)
 |.ptr,.ep _ _,.nilptr=>sO (True,false)
 |.cells l,.agg xs,.agg ys=>(WC xs ys l).map (True,·)
 |_,_,_=>nO
def ZmL(op:BinOp)(k:IntKind)(x y:Int):Int :=
 let a:=BitVec.ofInt k.bits x;let b:=BitVec.ofInt k.bits y;let r:BitVec k.bits:=match op with
  |.and=>a &&& b
  |.or=>a |||b
  |.xor=>a ^^^ b
  |_=>a &&& ~~~b
 k.wrap r.toNat
def ZkE(k:IntKind)(x y:Int):Int:=x*2 ^ (Nat.min y.toNat k.bits)
def ZkF(k:IntKind)(x y:Int):Int:=x.fdiv (2 ^ (Nat.min y.toNat k.bits))
def Jr(op:BinOp)(k:IntKind)(a b:Int):Option (Prop×D) :=
 match op with
 |.add=>sO (inR k (a+b),.int k (a+b))
 |.sub=>sO (inR k (a-b),.int k (a-b))
 |.mul=>sO (inR k (a*b),.int k (a*b))
 |.quo=>sO (b≠0/\inR k (a.tdiv b),.int k (a.tdiv b))
 |.rem=>sO (b≠0/\inR k (a.tmod b),.int k (a.tmod b))
 |.and|.or|.xor|.andNot=>sO (True,.int k (ZmL op k a b))
 |.eql=>sO (True,.bool (dC (a=b)))
 |.neq=>sO (True,.bool (!dC (a=b)))
 |.lss=>sO (True,.bool (dC (a<b)))
 |.leq=>sO (True,.bool (dC (a<=b)))
 |.gtr=>sO (True,.bool (dC (b<a)))
 |.geq=>sO (True,.bool (dC (b<=a)))
 |.shl|.shr=>nO
def ZeH(op:BinOp)(a b:List UInt8):Option (Prop×D) :=
 match op with
 |.add=>sO (I a+I b<=big,.str (a++b))
 |.eql=>sO (True,.bool (dC (a=b)))
 |.neq=>sO (True,.bool (!dC (a=b)))
 |.lss=>sO (True,.bool (Op.bytesLess a b))
 |.leq=>sO (True,.bool (Op.bytesLess a b ||decide (a=b)))
 |.gtr=>sO (True,.bool !(Op.bytesLess a b ||decide (a=b)))
 |.geq=>sO (True,.bool (!Op.bytesLess a b))
 |_=>nO
def eqO(op:BinOp)(p:Option Zfp)(x y:D):Option (Prop×D) :=
 match op,p with
 |.eql,sO p=>(YX p x y).map λr=>(r.1,.bool r.2)
 |.neq,sO p=>(YX p x y).map λr=>(r.1,.bool (!r.2))
 |_,_=>nO
def ZaP(op:BinOp)(p:Option Zfp):D->D->Option (Prop×D)
 |.int k a,.int k' b =>
  match op with
  |.shl=>sO (0<=b/\inR k (ZkE k a b),.int k (ZkE k a b))
  |.shr=>sO (0<=b/\inR k (ZkF k a b),.int k (ZkF k a b))
  |_=>if k=k' then Jr op k a b else nO
 |.str a,.str b=>ZeH op a b
 |x,y=>eqO op p x y
def part(cs:List D)(o n:Nat):List D:=(cs.drop o).take n
def Ye(s:St)(b:Nat):Option (List D) :=
 match s b with
 |some (.cells cs)=>sO cs
 |_=>nO
def Qe(s:St)(b:Nat):Option (List (D×D)) :=
 match s b with
 |some (.map es)=>sO es
 |_=>nO
def Wx(L:Loc)(s:St):E->Option D
 |.d (.ep cs o)=>cs[o]?
 |.d (.ptr b o)=>match Ye s b with
  |some cs=>cs[o]?
  |none=>nO
 |.loc l o=>match Zj L l with
  |some cs=>cs[o]?
  |none=>nO
 |_=>nO
def KB(L:Loc)(s:St)(n:Nat):E->Option (Prop×List D)
 |.d (.ep cs o)=>sO (o+n<=I cs,part cs o n)
 |.d (.ptr b o)=>match Ye s b with
  |some cs=>sO (o+n<=I cs,part cs o n)
  |none=>nO
 |.loc l o=>match Zj L l with
  |some cs=>sO (o+n<=I cs,part cs o n)
  |none=>nO
 |_=>nO
def Zq(cs:List D)(o:Nat)(vs:List D):List D:=cs.take o++vs++cs.drop (o+I vs)
def Zca(cells:List D):List (Nat×Nat)->List D->Option (List D)
 | [],[]=>sO cells
 | (o,n)::ps,d::ds=>if Km d=true/\(cellsOf d).length=n/\o+n<=I cells then Zca (Zq cells o (cellsOf d)) ps ds else nO
 |_,_=>nO
def Zbx:List D->UInt8
 | [.int _ n]=>UInt8.ofNat n.toNat
 |_=>0
def Zis(r:List D):Prop:=∃n:Int,r=[.int .u8 n]
def Kk:List E->Option (List D)
 | []=>sO []
 |.d x::r=>(Kk r).map (x::·)
 |_::_=>nO
def Zcj(t:Tok)(n:Nat)(l h:Int):Option Int->Tok
 |some m=>if m=h then .full else .none
 |none=>if h=n then (match t with
  |.full=>.full
  |.tip b=>if l=0 then .tip b else .none
  |.none=>.none) else .none
def Zbv(s:Nat)(lo hi mx:Option Int):D->Option (Prop×D)
 |.sl t n s' row =>
  if s'=s then
   let h:=hi.getD n;let l:=lo.getD 0
   sO (0<=l/\l<=h/\h<=n/\(∀m∈mx,h<=m/\m<=n),
    .sl (Zcj t n l h mx)
     (h-l).toNat s (λi=>row (l.toNat+i)))
  else nO
 |.nilsl=>sO (lo.getD 0=0/\hi.getD 0=0/\mx.getD 0=0,.nilsl)
 |.msl b o n cap s' =>
  if s'=s then
   let h:=hi.getD n;let l:=lo.getD 0;let m:=mx.getD cap
   sO (0<=l/\l<=h/\h<=m/\m<=cap,.msl b (if m=l then o else o+l.toNat*s) (h-l).toNat (m-l).toNat s)
  else nO
 |_=>nO
def WP:List Bool->List E->Option (List (Option Int))
 | [],[]=>sO []
 |true::bs,.d (.int _ n)::r=>(WP bs r).map (sO n::·)
 |false::bs,r=>(WP bs r).map (nO::·)
 |_,_=>nO
def qv(L:Loc)(s:St):Q->List E->Option (Prop×E)
 |.mv,[e]=>sO (True,e)
 |.nilck,[.loc l o]=>sO (True,.loc l o)
 |.nilck,[.d (.ep cs o)]=>sO (True,.d (.ep cs o))
 |.nilck,[.d (.ptr b o)]=>sO (True,.d (.ptr b o))
 |.nilck,[.d (.fn f x y)]=>match f with
  |.func g=>sO (True,.d (.fn (.func g) x y))
  |.yield l=>sO (True,.d (.fn (.yield l) x y))
  |_=>nO
 |.load1,[a]=>(Wx L s a).map λd=>(True,.d d)
 |.loadN n,[a]=>(KB L s n a).map λr=>(r.1,.d (.agg r.2))
 |.bin op p,[.d x,.d y]=>(ZaP op p x y).map λr=>(r.1,.d r.2)
 |.not,[.d (.bool b)]=>sO (True,.d (.bool !b))
 |.neg,[.d (.int k n)]=>sO (inR k (-n),.d (.int k (-n)))
 |.xorm,[.d (.int k n)]=>sO (True,.d (.int k (ZmL .xor k (if k.signed then -1 else k.max) n)))
 |.conv (.int k),[.d (.int k' n)]=>if k=k' then sO (True,.d (.int k n)) else sO (True,.d (.int k (k.wrap n)))
 |.conv .str,[.d (.str s)]=>sO (True,.d (.str s))
 |.conv .i2s,[.d (.int _ n)]=>sO ((Utf8.encode n).data.toList.length<=big,.d (.str (Utf8.encode n).data.toList))
 |.conv .b2s,[.d .nilsl]=>sO (True,.d (.str []))
 |.conv .b2s,[.d (.sl _ n s row)]=>if s=1 then sO (∀i,i<n->Zis (row i),.d (.str ((ZHT n).map λi=>Zbx (row i)))) else nO
 |.conv .b2s,[.d (.msl b o n _ z)]=>match Ye s b with
  |some cs=>if z=1 then sO (o+n<=I cs/\∀i,i<n->Zis (part cs (o+i) 1),.d (.str ((ZHT n).map λi=>Zbx (part cs (o+i) 1)))) else nO
  |none=>nO
 |.faddr off,[.d (.ep cs o)]=>sO (True,.d (.ep cs (o+off)))
 |.faddr off,[.d (.ptr b o)]=>sO (True,.d (.ptr b (o+off)))
 |.faddr off,[.loc l o]=>sO (True,.loc l (o+off))
 |.fld1 off,[.d (.agg cs)]=>(cs[off]?).map λd=>(True,.d d)
 |.fldN off n,[.d (.agg cs)]=>sO (off+n<=I cs,.d (.agg (part cs off n)))
 |.iaddr z,[.d (.sl _ n z' row),.d (.int _ i)]=>if z'=z then sO (0<=i/\i<n,.d (.ep (row i.toNat) 0)) else nO
 |.iaddr z,[.d (.msl b o n _ z'),.d (.int _ i)]=>if z'=z then sO (0<=i/\i<n,.d (.ptr b (o+i.toNat*z))) else nO
 |.iaddrA m z,[.d (.ptr b o),.d (.int _ i)]=>sO (0<=i/\i<m,.d (.ptr b (o+i.toNat*z)))
 |.iaddrA m s,[.loc l o,.d (.int _ i)]=>sO (0<=i/\i<m,.loc l (o+i.toNat*s))
 |.iaddrA m s,[.d (.ep cs o),.d (.int _ i)]=>sO (0<=i/\i<m,.d (.ep cs (o+i.toNat*s)))
 |.idxA m z true,[.d (.agg cs),.d (.int _ i)]=>(cs[i.toNat*z]?).map λd=>(0<=i/\i<m,.d d)
 |.idxA m z false,[.d (.agg cs),.d (.int _ i)]=>sO (0<=i/\i<m/\i.toNat*z+z<=I cs,.d (.agg (part cs (i.toNat*z) z)))
 |.sliceA m z lo hi mx,.d (.ptr b o)::r=>match WP [lo,hi,mx] r with
  |some [l,h,x]=>sO (0<=l.getD 0/\l.getD 0<=h.getD m/\h.getD m<=x.getD m/\x.getD m<=m/\m<=big,
    .d (.msl b (if x.getD m=l.getD 0 then o else o+(l.getD 0).toNat*z) (h.getD m-l.getD 0).toNat (x.getD m-l.getD 0).toNat z))
  |_=>nO
 |.idxS,[.d (.str s),.d (.int _ i)]=>sO (0<=i/\i<I s,.d (.int .u8 ((s.getD i.toNat 0).toNat:Int)))
 |.lenS,[.d (.str s)]=>sO (True,.d (.i (I s)))
 |.lenL,[.d (.sl _ n _ _)]=>sO (True,.d (.i n))
 |.lenL,[.d (.msl _ _ n _ _)]=>sO (True,.d (.i n))
 |.lenL,[.d .nilsl]=>sO (True,.d (.i 0))
 |.lenA n,[_]=>sO (inR .i64 n,.d (.i n))
 |.ext k,[.d (.tup vs)]=>(vs[k]?).map λd=>(True,.d d)
 |.build zero parts,es=>match Kk es with
  |some ds=>(Zca zero parts ds).map λcs=>(True,.d (.agg cs))
  |none=>nO
 |.mkfn f k,es=>(Kk es).map λds=>(True,.d (.fn f (ds.take k) (ds.drop k)))
 |.mkif t,[.d x]=>sO (True,.d (.iface t x))
 |.sliceS lo hi,.d (.str s)::r=>match WP [lo,hi,false] r with
  |some [l,h,_]=>sO (0<=l.getD 0/\l.getD 0<=h.getD (I s)/\h.getD (I s)<=I s,
    .d (.str ((s.drop (l.getD 0).toNat).take ((h.getD (I s)).toNat-(l.getD 0).toNat))))
  |_=>nO
 |.slice s lo hi mx,.d x::r=>match WP [lo,hi,mx] r with
  |some [l,h,m]=>(Zbv s l h m x).map λr=>(r.1,.d r.2)
  |_=>nO
 |.min,[.d (.int k a),.d (.int k' b)]=>if k=k' then sO (True,.d (.int k (Min.min a b))) else nO
 |.max,[.d (.int k a),.d (.int k' b)]=>if k=k' then sO (True,.d (.int k (Max.max a b))) else nO
 |.tassert t true _,[.d (.iface t' v)]=>if t'=t then sO (True,.d (.tup [v,.bool true])) else nO
 |.lookup kp z ok,[.d (.map b),.d k]=>match Qe s b with
  |some es=>(Zcb kp k es).map λr=>(QS kp k=true,.d (Wy z ok r))
  |none=>nO
 |.lookup kp z ok,[.d .nilmap,.d k]=>sO (QS kp k=true,.d (Wy z ok nO))
 |.lenM,[.d (.map b)]=>match Qe s b with
  |some es=>sO (I es<=big,.d (.i (I es)))
  |none=>nO
 |.lenM,[.d .nilmap]=>sO (True,.d (.i 0))
 |.tassert _ true zero,[.d .niliface]=>sO (True,.d (.tup [zero,.bool false]))
 |.tassert t false _,[.d (.iface t' v)]=>if t'=t then sO (True,.d v) else nO
 |_,_=>nO
inductive K where
 |q (q:Q) (args:List Opd)
 |pick (c a b:Opd)
 |alloc (zero:List D)
 |box (x:Opd)
 |bsl (len s:Nat) (zero:List D) (idx:List Nat) (parts:List Opd)
 |s2b (x:Opd)
 |store1 (a v:Opd)
 |storeN (n:Nat) (a v:Opd)
 |call (f:Opd) (args:List Opd)
 |append (elem:TypeId) (s bytes:Nat) (zero:List D) (x y:Opd)
 |mkmap
 |mapupd (kp:KP) (m k v:Opd)
 |mapent (kp:KP) (zero:D) (m k:Opd)
 |entst (m st v:Opd)
 |mkslice (elem:TypeId) (s bytes:Nat) (zero:List D) (l c:Opd)
 |panic (x:Opd)
 |delete (kp:KP) (m k:Opd)
 |clear (s:Nat) (zero:List D) (x:Opd)
 |copy (s:Nat) (x y:Opd)
 |fork (k:K)
 |defer (f:Opd) (args:List Opd)
 |recover
def K.isDefer:K->Bool
 |.defer _ _=>true
 |_=>false
structure DOp where
 dst:Option Nat
 guard:Option (Nat×Bool)
 k:K
inductive DC where
 |skip
 |reg (ops:List DOp) (keep:Option (List Nat))
 |regD (order:List Nat) (ops:List (DOp×List Nat)) (keep:Option (List Nat))
 |seq (a b:DC)
 |cond (c:Opd) (a b:DC)
 |block (id:Nat) (a:DC)
 |loop (a:DC)
 |rangeF (f:Opd) (params:List Nat) (assign body:DC)
 |exit (id:Nat)
 |ret
 |scope (a:DC)
 |label (id:Nat)
 |goto (id:Nat)
def QC(P:Program)(t:TypeId):Option SK :=
 match P.underlying t with
 |some .bool=>sO .bool
 |some (.int _)=>sO .int
 |some .string=>sO .str
 |_=>nO
def KR(P:Program):List Field->Option (List (Nat×SK))
 | []=>sO []
 |f::r=>if f.name = "_" then KR P r else
  match QC P f.type,KR P r with
  |some k,sO l=>sO ((f.offset,k)::l)
  |_,_=>nO
def Zar(P:Program)(t:TypeId):Option Bool :=
 match P.underlying t with
 |some (.struct _)|some (.array _ _)=>sO true
 |some _=>sO false
 |none=>nO
def Z2(P:Program)(t:TypeId):Option Nat:=(P.info? t).map (·.size)
def Zfi:Operand->Bool
 |.const _=>true
 |_=>false
def Zet(P:Program)(t:TypeId)(x y:Operand):Option Zfp :=
 match P.underlying t with
 |some .bool=>sO .bool
 |some (.slice _)=>sO .sl
 |some (.map _ _)=>sO .map
 |some (.func _ _ _)=>sO .fn
 |some (.interface _)=>if Zfi x ||Zfi y then sO .ifc else nO
 |some (.pointer _)=>sO .ptr
 |some (.struct fs)=>if P.eqGuardType P.depth t ||P.stoodInHeld t then nO else (KR P fs.toList).map .cells
 |some (.array n e) =>
  if P.eqGuardType P.depth t then nO
  else match QC P e,Z2 P e with
   |some k,sO 1=>sO (.cells ((ZHT n).map (·,k)))
   |_,_=>nO
 |_=>nO
def Zhx(P:Program)(s:TypeId)(k:Nat):Option Field :=
 match P.underlying s with
 |some (.struct fs)=>fs[k]?
 |_=>nO
def Za8(P:Program)(t:TypeId):Option (List D) :=
 match P.info? t with
 |some i=>match i.zero with
  |some z=>ZbW z.cells.toList
  |none=>nO
 |none=>nO
def Zea(P:Program)(t:TypeId):Option D :=
 match P.info? t with
 |some i=>match i.zero with
  |some z=>ZnM z
  |none=>nO
 |none=>nO
def QA(P:Program)(t:TypeId):List Nat->Option (List (Nat×Nat))
 | []=>sO []
 |k::r =>
  match P.underlying t,QA P t r with
  |some (.struct fs),sO l=>match fs[k]? with
   |some f=>(Z2 P f.type).map λn=>(f.offset,n)::l
   |none=>nO
  |some (.array _ e),sO l=>(Z2 P e).map λn=>(k*n,n)::l
  |_,_=>nO
def ZkI(P:Program)(t:TypeId):Bool :=
 match P.underlying t with
 |some (.struct fs)=>fs.toList.all λf=>(Z2 P f.type).isSome
 |some (.array _ e)=>(Z2 P e).isSome
 |_=>false
def Zwg(P:Program)(s d:TypeId):Option Cv :=
 match P.underlying s,P.underlying d with
 |some (.int _),sO (.int k)=>sO (.int k)
 |some (.int _),sO .string=>sO .i2s
 |some .string,sO .string=>sO .str
 |some (.slice e),sO .string=>match P.underlying e with
  |some (.int .u8)=>sO .b2s
  |_=>nO
 |_,_=>nO
def Zaz(P:Program)(t:TypeId):Option KP :=
 match QC P t with
 |some k=>sO (.sc k)
 |none=>match P.underlying t,Z2 P t with
  |some (.struct fs),sO n=>match KR P fs.toList with
   |some l=>if l.map (·.1)=ZHT n/\P.stoodInHeld t=false then sO (.st l) else nO
   |none=>nO
  |_,_=>nO
def Q9(x:Option Operand):List Operand:=x.toList
def cq(P:Program):Op->Option (Q×List Operand)
 |.move x|.assign x=>sO (.mv,[x])
 |.load t a=>match Zar P t,Z2 P t with
  |some true,sO n=>sO (.loadN n,[a])
  |some false,sO _=>sO (.load1,[a])
  |_,_=>nO
 |.nilCheck x=>sO (.nilck,[x])
 |.binOp op t x y _=>sO (.bin op (Zet P t x y),[x,y])
 |.unOp .not _ x=>sO (.not,[x])
 |.unOp .neg _ x=>sO (.neg,[x])
 |.unOp .xor _ x=>sO (.xorm,[x])
 |.convert s d x=>(Zwg P s d).map λc=>(.conv c,[x])
 |.fieldAddr s x k=>match Zhx P s k with
  |some f=>match Z2 P f.type with
   |some n=>if n=0 then nO else sO (.faddr f.offset,[x])
   |none=>nO
  |none=>nO
 |.field s x k=>match Zhx P s k with
  |some f=>match Zar P f.type,Z2 P f.type with
   |some true,sO n=>sO (.fldN f.offset n,[x])
   |some false,sO _=>sO (.fld1 f.offset,[x])
   |_,_=>nO
  |none=>nO
 |.indexAddr t x i=>match P.underlying t with
  |some (.slice e)=>(Z2 P e).map λn=>(.iaddr n,[x,i])
  |some (.array m e)=>(Z2 P e).map λn=>(.iaddrA m n,[x,i])
  |_=>nO
 |.index t x i=>match P.underlying t with
  |some .string=>sO (.idxS,[x,i])
  |some (.array m e)=>match Zar P e,Z2 P e with
   |some b,sO n=>sO (.idxA m n !b,[x,i])
   |_,_=>nO
  |_=>nO
 |.extract x k=>sO (.ext k,[x])
 |.build t parts=>match (P.info? t).bind (·.zero),QA P t (parts.toList.map (·.1)) with
  |some z,sO l=>if ZkI P t then (ZbW z.cells.toList).map λzs=>(.build zs l,parts.toList.map (·.2)) else nO
  |_,_=>nO
 |.makeFunc f first caps=>sO (.mkfn f first.size,first.toList++caps.toList)
 |.makeInterface t x=>match P.underlying t with
  |some (.interface _)=>nO
  |some _=>sO (.mkif t,[x])
  |none=>nO
 |.slice t x lo hi mx=>match P.underlying t with
  |some .string=>if mx.isSome then nO else sO (.sliceS lo.isSome hi.isSome,x::(Q9 lo++Q9 hi))
  |some (.slice e)=>if mx.isSome&&!hi.isSome then nO else (Z2 P e).map λn=>(.slice n lo.isSome hi.isSome mx.isSome,x::(Q9 lo++Q9 hi++Q9 mx))
  |some (.array m e)=>if mx.isSome&&!hi.isSome then nO else (Z2 P e).map λn=>(.sliceA m n lo.isSome hi.isSome mx.isSome,x::(Q9 lo++Q9 hi++Q9 mx))
  |_=>nO
 |.typeAssert x _ t ok=>match P.underlying t with
  |some (.interface _)=>nO
  |some _=>(Zea P t).map λz=>(.tassert t ok z,[x])
  |none=>nO
 |.lookup t m k ok=>match P.underlying t with
  |some (.map kt e)=>match Zaz P kt,Zea P e with
   |some kp,sO z=>sO (.lookup kp z ok,[m,k])
   |_,_=>nO
  |_=>nO
 |.call c=>match c.callee with
  |.builtin .len=>match c.argTypes[0]?.bind P.underlying with
   |some .string=>if c.args.size=1 then sO (.lenS,c.args.toList) else nO
   |some (.slice _)=>if c.args.size=1 then sO (.lenL,c.args.toList) else nO
   |some (.array n _)=>if c.args.size=1 then sO (.lenA n,c.args.toList) else nO
   |some (.map _ _)=>if c.args.size=1 then sO (.lenM,c.args.toList) else nO
   |_=>nO
  |.builtin .min=>if c.args.size=2 then sO (.min,c.args.toList) else nO
  |.builtin .max=>if c.args.size=2 then sO (.max,c.args.toList) else nO
  |_=>nO
 |_=>nO
inductive ZO{α β:Type}(R:α->β->Prop):List α->List β->Prop where
 |nil:ZO R [] []
 |cons {a b as9 bs} (h:R a b) (t:ZO R as9 bs):ZO R (a::as9) (b::bs)
def ZlJ{k n}:inR k (k.wrap n):=by
 unfold inR IntKind.wrap IntKind.min IntKind.max;cases k<;>simp[IntKind.signed,IntKind.bits]<;>(try split)<;>omega
def ZaN(k n)(h:inR k n):k.wrap n=n:=by
 unfold inR IntKind.min IntKind.max at h;unfold IntKind.wrap;cases k<;>simp[IntKind.signed,IntKind.bits]at h⊢<;>(try split)<;>omega
def Kv(b o n):(⟨b,o,nO⟩:Addr).add n=⟨b,o+n,nO⟩:=by grind [Addr.add]
def Zgh{P t}(h:Zar P t=sO true)(w):(isAgg t).run P w=.ok true w:=by
 unfold Zar at h;unfold isAgg;split at h<;>simp_all[run_underlying]
def ZeV{P t}(h:Zar P t=sO false)(w):(isAgg t).run P w=.ok false w:=by
 unfold Zar at h;unfold isAgg;split at h;simp at h;simp at h;rename_i d h1 h2 i;simp only[Sem.run_bind,run_underlying i,Result.andThen_ok];simp_all;simp at h
def YY{P t n}(h:Z2 P t=sO n)(w):(sizeOf t).run P w=.ok n w:=by
 unfold Z2 at h;cases j:P.info? t with
 |none=>simp[j]at h
 |some i =>simp_all[j,sizeOf,typeInfo]
def JF{g w s}(j:Yp g s w){b cs}(h:Ye s b=sO cs):Wc g w b cs:=by
 unfold Ye at h;split at h<;>simp at h;rename_i c i;subst h;exact j.obj b _ i
def ZnG{g Z w L}(hL:∀l t,Zj L l=sO t->Wc g w (Z l) t){s}(hS:Yp g s w){v e d}(h:ZP g Z w L v e)(n:Wx L s e=sO d):∃b o x,v=.pointer (sO ⟨b,o,nO⟩)/\w.cell? ⟨b,o,nO⟩=sO x/\Rep g w x d/\x.one1=true:=by
 cases e with
 |d v' =>
  cases v'<;>simp only[Wx]at n<;>try(simp at n;done)
  .rename_i t o;cases h with
   |ep b o0 _ _ f z h2 h3 one =>have i:o<I t:=(List.getElem?_eq_some_iff.1 n).1;exact⟨b,o0+o,f o,rfl,z o i,h3 o d n,one o i⟩
  rename_i b o;split at n<;>(try(simp at n;done));rename_i t j;obtain⟨_,vs,T,z,h2,h4,h5⟩:=JF hS j;cases h;have i:o<I t:=(List.getElem?_eq_some_iff.1 n).1;have u:vs[o]?=sO (vs[o]' ω):=Array.getElem?_eq_getElem ω;refine⟨b,o,vs[o]' ω,rfl,?_,h4 o _ d u n,h5 _ (Array.getElem_mem _)⟩;simp[World.cell?,z,u]
 |loc l o =>obtain⟨⟨t,j⟩,rfl⟩:=h;simp only[Wx,j]at n;obtain⟨_,vs,T,z,h2,h4,h5⟩:=hL l t j;have i:o<I t:=(List.getElem?_eq_some_iff.1 n).1;have u:vs[o]?=sO (vs[o]' ω):=Array.getElem?_eq_getElem ω;refine⟨Z l,o,vs[o]' ω,rfl,?_,h4 o _ d u n,h5 _ (Array.getElem_mem _)⟩;simp[World.cell?,z,u]
 |when c e=>simp[Wx]at n
def ZfK{P g w b o n cs}(h:Wc g w b cs)(hs:o+n<=I cs):
  ∃vs:List Value,(loadCells ⟨b,o,nO⟩ n).run P w=.ok vs.toArray w/\Rep g w (.agg vs.toArray) (.agg (part cs o n)):=by
 obtain⟨_,vs,T,h1,h2,h4,h5⟩:=h;refine⟨(vs.toList.drop o).take n,?_,?_⟩;have:=run_loadCells (P:=P) (w:=w) ⟨b,o,nO⟩ n (λi=>vs.getD (o+i) undef) (λj hj=>by
  rw[Kv];simp[World.cell?,h1];have u:o+j<vs.size:=ω;simp[u])
 rw[this];congr 1;apply Array.ext_getElem?;intro i;simp[List.getElem?_toArray,ZIm,Array.getElem?_toList];by_cases t:i<n;have:o+i<vs.size:=ω;simp[t,this];simp[t];refine .agg _ _ (by simp[part];omega) (λi v d z hd=>?_) (λv z=>?_);have hi:i<n:=by rcases Nat.lt_or_ge i n with h|h;exact h;grind
 simp[hi,part]at z hd;exact h4 _ _ _ z hd;exact h5 v (by
  have:=List.mem_of_mem_drop (List.mem_of_mem_take z);exact Array.mem_toList_iff.1 this)
def Zou{P g Z w L}(hL:∀l cs,Zj L l=sO cs->Wc g w (Z l) cs){s}(hS:Yp g s w){v e n side ds}(h:ZP g Z w L v e)(u:KB L s n e=sO (side,ds))(hs:side):
  ∃a,v=.pointer (sO a)/\∃vs:List Value,(loadCells a n).run P w=.ok vs.toArray w/\Rep g w (.agg vs.toArray) (.agg ds):=by
 cases e with
 |d v' =>
  cases v'<;>simp only[KB]at u<;>try(grind;done)
  .rename_i cs o;cases u;cases h with
   |ep b o0 _ _ f h1 h2 h3 one =>
    refine⟨_,rfl,(ZHT n).map (λi=>f (o+i)),?_,?_⟩;have:=run_loadCells (P:=P) (w:=w) ⟨b,o0+o,nO⟩ n (λi=>f (o+i)) (λj hj=>by
     rw[Kv,Nat.add_assoc];exact h1 _ ω)
    rw[this];refine .agg _ _ (by simp[part];omega) (λi v d z hd=>?_) (λv z=>?_);simp at z;have hi:i<n:=by rcases Nat.lt_or_ge i n with h|h;exact h;simp_all
    simp[List.getElem?_range hi]at z;subst z;refine h3 _ _ ?_;simpa[part,ZIm,hi]using hd;simp at z;obtain⟨i,hi,rfl⟩:=z;exact one _ ω
  rename_i b o;split at u<;>(try(grind;done));rename_i cs t;cases u;cases h;obtain⟨vs,h1,h2⟩:=ZfK (P:=P) (JF hS t) hs;exact⟨_,rfl,vs,h1,h2⟩
 |loc l o =>obtain⟨⟨cs,t⟩,rfl⟩:=h;simp only[KB,t]at u;obtain⟨rfl,rfl⟩:=u;obtain⟨vs,h1,h2⟩:=ZfK (P:=P) (hL l cs t) hs;exact⟨_,rfl,vs,h1,h2⟩
 |when c e=>cases u
def Qd{n}(h:n<=big):inR .i64 (n:Int):=by
 unfold big at h;unfold inR IntKind.min IntKind.max;simp[IntKind.signed,IntKind.bits];omega
def Ztk(b:UInt8):inR .u8 (b.toNat:Int):=by
 unfold inR IntKind.min IntKind.max;simp[IntKind.signed,IntKind.bits];have:=b.toNat_lt;omega
def ZA3{P g w op k a b side d}(j:Jr op k a b=sO (side,d))(i:side):
  ∃v,(match op with
   |.add|.sub|.mul=>Op.intArith op k a b
   |.quo|.rem=>Op.intDiv op k a b
   |.and|.or|.xor|.andNot=>Op.intBits op k a b
   |_=>Op.intCmp op a b).run P w=.ok v w/\Rep g w v d:=by
 cases op<;>simp only[Jr,ZHE,ZHR,reduceCtorEq]at j;all_goals obtain⟨rfl,rfl⟩:=j
 case add=>exact⟨_,by simp only[Op.intArith,Sem.run_pure];rfl,by rw[ZaN _ _ i];exact .int _ _ i⟩
 case sub=>exact⟨_,by simp only[Op.intArith,Sem.run_pure];rfl,by rw[ZaN _ _ i];exact .int _ _ i⟩
 case mul=>exact⟨_,by simp only[Op.intArith,Sem.run_pure];rfl,by rw[ZaN _ _ i];exact .int _ _ i⟩
 case quo=>exact⟨_,by simp only[Op.intDiv,i.1,if_false,Sem.run_pure];rfl,by rw[ZaN _ _ i.2];exact .int _ _ i.2⟩
 case rem=>exact⟨_,by simp only[Op.intDiv,i.1,if_false,Sem.run_pure],.int _ _ i.2⟩
 case eql=>exact⟨_,by simp only[Op.intCmp,Sem.run_pure];rfl,.bool _⟩
 case neq=>exact⟨_,by simp only[Op.intCmp,Sem.run_pure];rfl,.bool _⟩
 case lss=>exact⟨_,by simp only[Op.intCmp,Sem.run_pure],.bool _⟩
 case leq=>exact⟨_,by simp only[Op.intCmp,Sem.run_pure],.bool _⟩
 case gtr=>exact⟨_,by simp only[Op.intCmp,Sem.run_pure],.bool _⟩
 case geq=>exact⟨_,by simp only[Op.intCmp,Sem.run_pure],.bool _⟩
 all_goals exact⟨_,by simp only[Op.intBits,Sem.run_pure];rfl,.int _ _ ZlJ⟩
def ZdS{s:ByteArray}{l}(h:s.data.toList=l):s.toList=l:=by rw[ByteArray.toList_eq,h]
def ZA4{P g w op s1 s2 a b}(n:s1.data.toList=a)(t:s2.data.toList=b){side d}(u:ZeH op a b=sO (side,d))(z:side):
  ∃v,(Op.stringOp op s1 s2).run P w=.ok v w/\Rep g w v d:=by
 have e1:=ZdS n;have e2:=ZdS t;cases op<;>simp only[ZeH,ZHE,ZHR,reduceCtorEq]at u;all_goals obtain⟨rfl,rfl⟩:=u
 case add =>
  have j:s1.size=I a:=by rw[<-n];rfl
  have i:s2.size=I b:=by rw[<-t];rfl
  refine⟨.string (s1++s2),?_,.str _ _ ?_ (by simpa using z)⟩;unfold big at z;simp only[Op.stringOp,j,i,Sem.run_ite];rw[if_neg (by simp[IntKind.max,IntKind.signed,IntKind.bits];omega)];rfl;simp[<-n,<-t]
 all_goals simp only[Op.stringOp,Sem.run_pure,e1,e2]
 all_goals have hb:(a==b)=dC (a=b):=by rw[Bool.eq_iff_iff];simp
 all_goals try simp only[hb]
 all_goals exact⟨_,rfl,.bool _⟩
def Zhb{P g w t z}(u:QC P t=sO z){v1 v2 x y}(h1:Rep g w v1 x)(h2:Rep g w v2 y){b}(j:Yv z x y=sO b)(n):(Op.equalIn (n+1) t v1 v2).run P w=.ok b w:=by
 unfold QC at u;cases z;obtain⟨k0,i⟩:∃k0,P.underlying t=sO (.int k0):=by split at u<;>simp_all
 cases h1<;>cases h2<;>simp only[Yv,reduceCtorEq]at j;split at j;rename_i k a ha k' b' hb' hk;simp only[ZHE]at j;subst j;subst hk;rw[run_equalIn_int w n t _ _ _ _ i];rfl;simp at j;have i:P.underlying t=sO .string:=by split at u<;>simp_all
 cases h1<;>cases h2<;>simp only[Yv,reduceCtorEq,ZHE]at j;rename_i s1 l1 e1 _ s2 l2 e2 _;subst j;rw[run_equalIn_string w n t _ _ i,ZdS e1,ZdS e2]
 congr 1;rw[Bool.eq_iff_iff];simp
 have i:P.underlying t=sO .bool:=by split at u<;>simp_all
 cases h1<;>cases h2<;>simp only[Yv,reduceCtorEq,ZHE]at j;subst j;rw[run_equalIn_bool' w n t _ _ i];rfl
def Zb6{P t k}(h:QC P t=sO k):Zar P t=sO false:=by
 unfold QC at h;unfold Zar;split at h<;>simp_all
def ZdJ{P w t}(h:Zar P t=sO false){cs o v}(i:cs[o]?=sO v):
  (Go.part t cs o).run P w=.ok v w:=by
 simp[Go.part,ZeV h,i]
def Zct{g w}{vs:List Value}(hn:I vs=I ds)(h:∀(i:Nat) (v:Value) (d:D),vs[i]?=sO v->ds[i]?=sO d->Rep g w v d){o:Nat}{d}(j:ds[o]?=sO d):∃v,vs[o]?=sO v/\Rep g w v d:=by
 have hlt:o<I ds:=(List.getElem?_eq_some_iff.1 j).1;exact⟨vs[o]' ω,ZIb _,h o _ d (ZIb _) j⟩
def Zd0{P g w}{v1 v2:List Value}{xs ys}(hn1:I v1=I xs)(hn2:I v2=I ys)
  (h1:∀(i:Nat) (v:Value) (d:D),v1[i]?=sO v->xs[i]?=sO d->Rep g w v d) (h2:∀(i:Nat) (v:Value) (d:D),v2[i]?=sO v->ys[i]?=sO d->Rep g w v d) (n) :
  ∀(fs l b),KR P fs=sO l->WC xs ys l=sO b ->
   (Op.eqFields (n+1) v1.toArray v2.toArray fs).run P w=.ok b w
 | [],l,b,hl,hb=>by simp only[KR,ZHE]at hl;subst hl;simp only[WC,ZHE]at hb;subst hb;simp[Op.eqFields]
 |f::fs,l,b,hl,hb=>by simp only[KR]at hl;by_cases hf:f.name = "_";simp only[hf,if_true]at hl;have:=Zd0 hn1 hn2 h1 h2 n fs l b hl hb;simp only[Op.eqFields,hf,ne_eq,not_true_eq_false,if_false];exact this;simp only[hf,if_false]at hl;split at hl;rename_i k l' hk ab;simp only[ZHE]at hl;subst hl;simp only[WC]at hb;split at hb;rename_i x y hx hy;split at hb;rename_i b1 b2 j z;simp only[ZHE]at hb;obtain⟨u1,u,r1⟩:=Zct hn1 h1 hx;obtain⟨u2,t,r2⟩:=Zct hn2 h2 hy;have ih:=Zd0 hn1 hn2 h1 h2 n fs l' b2 ab z;have he:=Zhb (P:=P) hk r1 r2 j n;simp only[Op.eqFields,ne_eq,hf,not_false_eq_true,if_true,Sem.run_bind];rw[ZdJ (Zb6 hk) (v:=u1) (by simpa using u)];simp only[Result.andThen_ok];rw[ZdJ (Zb6 hk) (v:=u2) (by simpa using t)];simp only[Result.andThen_ok,he];subst hb;cases b1;simp;simpa using ih;simp at hb;simp at hb;simp at hl
def ZnR{P g w}{v1 v2:List Value}{xs ys}(hn1:I v1=I xs)(hn2:I v2=I ys)
  (h1:∀(i:Nat) (v:Value) (d:D),v1[i]?=sO v->xs[i]?=sO d->Rep g w v d) (h2:∀(i:Nat) (v:Value) (d:D),v2[i]?=sO v->ys[i]?=sO d->Rep g w v d) (n)
  {e k} (hk:QC P e=sO k) :
  ∀(is b),WC xs ys (is.map (·,k))=sO b->(Op.eqItems (n+1) e 1 v1.toArray v2.toArray is).run P w=.ok b w
 | [],b,hb=>by simp only[ZIf,WC,ZHE]at hb;subst hb;simp[Op.eqItems]
 |i::is,b,hb=>by simp only[ZHY,WC]at hb;split at hb;rename_i x y hx hy;split at hb;rename_i b1 b2 t z;simp only[ZHE]at hb;obtain⟨u1,j,r1⟩:=Zct hn1 h1 hx;obtain⟨u2,u,r2⟩:=Zct hn2 h2 hy;have ih:=ZnR hn1 hn2 h1 h2 n hk is b2 z;have he:=Zhb (P:=P) hk r1 r2 t n;simp only[Op.eqItems,Nat.mul_one,Sem.run_bind];rw[ZdJ (Zb6 hk) (v:=u1) (by simpa using j)];simp only[Result.andThen_ok];rw[ZdJ (Zb6 hk) (v:=u2) (by simpa using u)];simp only[Result.andThen_ok,he];subst hb;cases b1;simp;simpa using ih;simp at hb;simp at hb
def Zcn{P w t i j b}(h:∀n,(Op.equalIn (n+1) t i j).run P w=.ok b w):(Op.equal t i j).run P w=.ok b w:=h 9999
def Zq7{P g w t x y p}(hp:Zet P t x y=sO p){v1 v2 d1 d2}(h1:Rep g w v1 d1)(h2:Rep g w v2 d2){side b}(hq:YX p d1 d2=sO (side,b))(hs:side):
  (Op.equal t v1 v2).run P w=.ok b w/\(eqGuard .eql t x y v1 v2).run P w=.ok () w/\(eqGuard .neq t x y v1 v2).run P w=.ok () w:=by
 unfold Zet at hp;split at hp<;>(try(simp at hp;done))
 .
  rename_i hu;simp only[ZHE]at hp;subst hp;cases h1<;>cases h2<;>simp only[YX,reduceCtorEq,ZHE,ZHR]at hq;obtain⟨rfl,rfl⟩:=hq;exact⟨Zcn λn=>by rw[run_equalIn_bool w _ t _ _ hu];rfl,rfl,rfl⟩
 .rename_i e hu;simp only[ZHE]at hp;subst hp;cases h1<;>cases h2<;>simp only[YX,reduceCtorEq,ZHE,ZHR]at hq;all_goals obtain⟨rfl,rfl⟩:=hq
  all_goals first
   |exact absurd hs ω
   |exact⟨Zcn λn=>by simp[Op.equalIn,run_underlying hu],rfl,rfl⟩
 .rename_i k e hu;simp only[ZHE]at hp;subst hp;cases h1<;>cases h2<;>simp only[YX,reduceCtorEq,ZHE,ZHR]at hq;all_goals obtain⟨rfl,rfl⟩:=hq
  all_goals exact⟨Zcn λn=>by simp[Op.equalIn,run_underlying hu],rfl,rfl⟩
 .rename_i a b c hu;simp only[ZHE]at hp;subst hp;cases h1<;>cases h2<;>simp only[YX,reduceCtorEq,ZHE,ZHR]at hq;all_goals obtain⟨rfl,rfl⟩:=hq
  all_goals exact⟨Zcn λn=>by simp[Op.equalIn,run_underlying hu],rfl,rfl⟩
 .rename_i ms hu;split at hp
  .rename_i hc;simp only[ZHE]at hp;subst hp;have af:Zfi x=true\/Zfi y=true:=by simpa using hc
   have hg:∀op,(eqGuard op t x y .nilIface .nilIface).run P w=.ok () w:=λop=>by rcases af with h|h;cases x<;>simp[Zfi]at h;cases op<;>simp[eqGuard];cases y<;>simp[Zfi]at h;cases op<;>simp[eqGuard]
   cases h1<;>cases h2<;>simp only[YX,reduceCtorEq,ZHE,ZHR]at hq;all_goals obtain⟨rfl,rfl⟩:=hq
   all_goals first
    |exact⟨Zcn λn=>by simp[Op.equalIn,run_underlying hu],rfl,rfl⟩
    |exact⟨Zcn λn=>by simp[Op.equalIn,run_underlying hu],hg _,hg _⟩
  simp at hp
 .rename_i e hu;simp only[ZHE]at hp;subst hp;cases h1<;>cases h2<;>simp only[YX,reduceCtorEq,ZHE,ZHR]at hq;all_goals obtain⟨rfl,rfl⟩:=hq
  all_goals exact⟨Zcn λn=>by simp[Op.equalIn,run_underlying hu],rfl,rfl⟩
 rename_i fs hu;split at hp;simp at hp;rename_i u;have j:P.eqGuardType P.depth t=false:=by simp at u;exact u.1
 have ae:P.stoodInHeld t=false:=by simp at u;exact u.2
 simp only[ZHS]at hp;obtain⟨l,hl,rfl⟩:=hp;cases h1<;>cases h2<;>simp only[YX,reduceCtorEq,ZHS]at hq;rename_i v1 xs ad r1 o1 v2 ys ac r2 o2;obtain⟨b',hb,hq⟩:=hq;simp only[ZHR]at hq;obtain⟨rfl,rfl⟩:=hq;have hf:P.underlying t=sO (.struct (P.fieldsOf t)):=by simp[Program.fieldsOf,hu]
 refine⟨?_,run_eqGuard_agg w _ t x y _ _ j,run_eqGuard_agg w _ t x y _ _ j⟩;refine(run_equalIn_struct w 9999 t _ _ hf ae).trans ?_;simp only[Program.fieldsOf,hu];exact Zd0 ad ac r1 r2 9998 _ l b' hl hb;rename_i n e hu;split at hp;simp at hp;rename_i j;split at hp
 .rename_i k hk z;simp only[ZHE]at hp;subst hp;cases h1<;>cases h2<;>simp only[YX,reduceCtorEq,ZHS]at hq;rename_i v1 xs ad r1 o1 v2 ys ac r2 o2;obtain⟨b',hb,hq⟩:=hq;simp only[ZHR]at hq;obtain⟨rfl,rfl⟩:=hq;have ab:P.eqGuardType P.depth t=false:=by simpa using j
  refine⟨?_,run_eqGuard_agg w _ t x y _ _ ab,run_eqGuard_agg w _ t x y _ _ ab⟩;unfold Z2 at z;cases hi:P.info? e with
  |none=>simp[hi]at z
  |some i =>
   simp only[hi,ZId,ZHE]at z;refine(run_equalIn_array w 9999 _ _ hu hi).trans ?_;have ag:P.cellsOf e=1:=by simp[Program.cellsOf,hi,z]
   rw[ag];exact ZnR ad ac r1 r2 9998 hk _ _ hb
 simp at hp
def ZA2{P g w op t x y v1 v2 d1 d2 d}(h1:Rep g w v1 d1)(h2:Rep g w v2 d2){side}(hq:ZaP op (Zet P t x y) d1 d2=sO (side,d))(hs:side):
  ∃v,(do eqGuard op t x y v1 v2;binOp op t v1 v2).run P w=.ok v w/\Rep g w v d:=by
 by_cases hi:∃k a,d1=.int k a
 .obtain⟨k,a,rfl⟩:=hi;cases h1;rename_i ha;have hg:(eqGuard op t x y (.int k a) v2).run P w=.ok () w:=by cases op<;>rfl
  by_cases z:∃k' b,d2=.int k' b
  .obtain⟨k',b,rfl⟩:=z;cases h2;rename_i hb;simp only[Sem.run_bind,hg,Result.andThen_ok];by_cases u:op=.shl\/op=.shr;rcases u with rfl|rfl;simp only[ZaP,ZHE,ZHR]at hq;obtain⟨rfl,rfl⟩:=hq;refine⟨.int k (ZkE k a b),?_,.int _ _ hs.2⟩;simp only[binOp,Op.shift,Int.not_lt.2 hs.1,if_false];rw[show k.wrap (a*2 ^ min b.toNat k.bits)=ZkE k a b from ZaN _ _ hs.2];rfl;simp only[ZaP,ZHE,ZHR]at hq;obtain⟨rfl,rfl⟩:=hq;refine⟨.int k (ZkF k a b),?_,.int _ _ hs.2⟩;simp only[binOp,Op.shift,Int.not_lt.2 hs.1,if_false];rfl;have i:(if k=k' then Jr op k a b else nO)=sO (side,d):=by cases op<;>first|(simp only[ZaP]at hq;exact hq)|simp at u
   split at i;·rename_i hk;subst hk;obtain⟨v,hv,r⟩:=ZA3 (P:=P) (g:=g) (w:=w) i hs;refine⟨v,?_,r⟩;rw[<-hv];cases op<;>first|(simp at u;done)|(simp[binOp])
   simp at i
  have i:eqO op (Zet P t x y) (.int k a) d2=sO (side,d):=by cases d2<;>first|(simp only[ZaP]at hq;exact hq)|(exact absurd ⟨_,_,rfl⟩ z)
  unfold eqO at i;split at i<;>simp[YX]at i
 by_cases j:∃a,d1=.str a;obtain⟨a,rfl⟩:=j;cases h1;rename_i s1 e1 b1;have hg:(eqGuard op t x y (.string s1) v2).run P w=.ok () w:=by cases op<;>rfl
 by_cases n:∃b,d2=.str b;obtain⟨b,rfl⟩:=n;cases h2;rename_i s2 e2 b2;simp only[Sem.run_bind,hg,Result.andThen_ok];obtain⟨v,hv,r⟩:=ZA4 (P:=P) (g:=g) (w:=w) (op:=op) e1 e2 (by simpa[ZaP]using hq) hs;refine⟨v,?_,r⟩;rw[<-hv];cases op<;>simp[binOp];have i:eqO op (Zet P t x y) (.str a) d2=sO (side,d):=by cases d2<;>first|(simp only[ZaP]at hq;exact hq)|(exact absurd ⟨_,rfl⟩ n)
 unfold eqO at i;split at i<;>simp[YX]at i;have i:eqO op (Zet P t x y) d1 d2=sO (side,d):=by cases d1<;>first|(simp only[ZaP]at hq;exact hq)|(exact absurd ⟨_,_,rfl⟩ hi)|(exact absurd ⟨_,rfl⟩ j)
 unfold eqO at i;split at i
 .rename_i p hp;simp only[ZHS]at i;obtain⟨⟨s',b⟩,hb,i⟩:=i;simp only[ZHR]at i;obtain⟨rfl,rfl⟩:=i;obtain⟨he,hg,_⟩:=Zq7 hp h1 h2 hb hs;refine⟨.bool b,?_,.bool _⟩;simp only[Sem.run_bind,hg,Result.andThen_ok];cases h1<;>first
   | (exact absurd ⟨_,_,rfl⟩ hi)
   | (exact absurd ⟨_,rfl⟩ j)
   | (cases h2<;>first|(simp[binOp,he];done)|(cases p<;>simp[YX]at hb;done))
 .rename_i p hp;simp only[ZHS]at i;obtain⟨⟨s',b⟩,hb,i⟩:=i;simp only[ZHR]at i;obtain⟨rfl,rfl⟩:=i;obtain⟨he,_,hg⟩:=Zq7 hp h1 h2 hb hs;refine⟨.bool (!b),?_,.bool _⟩;simp only[Sem.run_bind,hg,Result.andThen_ok];cases h1<;>first
   | (exact absurd ⟨_,_,rfl⟩ hi)
   | (exact absurd ⟨_,rfl⟩ j)
   | (cases h2<;>first|(simp[binOp,he];done)|(cases p<;>simp[YX]at hb;done))
 simp at i
end Go.DL
namespace Go.DL
open Go
variable [Zsq]
def Zzq(P:Program)(g:G)(Z:Nat->Nat)(w:World)(L:Loc)(s:Sem Value)(e:E):Prop:=∃v,s.run P w=.ok v w/\ZP g Z w L v e
def Zzq.next{P g Z w L s e}(h:Zzq P g Z w L s e) :
  ∃v,(do pure (Next.value (<-s)):Sem Next).run P w=.ok (.value v) w/\ZP g Z w L v e:=by
 obtain⟨v,h1,h2⟩:=h;simp_all
section
variable {P:Program} {g:G} {Z:Nat->Nat} {w:World} {L:Loc}
def Qp:∀{vs es ds},ZO (ZP g Z w L) vs es->Kk es=sO ds->ZO (Rep g w) vs ds
 |_,_,ds,.nil,hd=>by cases hd;exact .nil
 |_,_,ds,.cons (b:=e) h t,hd=>by
  cases e with
  |d x =>simp[Kk]at hd;obtain⟨ds',hd',rfl⟩:=hd;exact .cons h (Qp t hd')
  |loc l o=>cases hd
  |when c e=>cases hd
def ZO.len{α β R}{i:List α}{bs:List β}(h:ZO R i bs):I i=I bs:=by
 induction h with
 |nil=>rfl
 |cons _ _ ih=>simp[ih]
def ZO.get{α β R j}{bs:List β}(h:ZO R j bs):∀(i:Nat) (a:α) (b:β),j[i]?=sO a->bs[i]?=sO b->R a b:=by
 induction h with
 |nil=>intro i a b ha;grind
 |cons h _ ih =>grind
def ZO.take{α β R}{i:List α}{bs:List β}(h:ZO R i bs):∀n,ZO R (i.take n) (bs.take n):=by
 induction h with
 |nil=>intro n;simp;exact .nil
 |cons h _ ih=>intro n;cases n with
  |zero=>exact .nil
  |succ n=>exact .cons h (ih n)
def ZO.drop{α β R}{i:List α}{bs:List β}(h:ZO R i bs):∀n,ZO R (i.drop n) (bs.drop n):=by
 induction h with
 |nil=>intro n;simp;exact .nil
 |cons h t ih=>intro n;cases n with
  |zero=>exact .cons h t
  |succ n=>exact ih n
def ZO.append{α β R}{i j:List α}{bs n:List β}(h:ZO R i bs)(t:ZO R j n):ZO R (i++j) (bs++n):=by
 induction h with
 |nil=>exact t
 |cons h _ ih=>exact .cons h ih
def Zew{v d}(h:Rep g w v d)(t:Km d=true):v.cells.size=(cellsOf d).length/\(∀(i:Nat) (x y),v.cells.toList[i]?=sO x->(cellsOf d)[i]?=sO y->Rep g w x y):=by
 cases h with
 |agg vs cells hn h one=>exact⟨by simpa[Value.cells,cellsOf]using hn,by simpa[Value.cells,cellsOf]using h⟩
 |any v=>simp[Km]at t
 |_ =>
  refine⟨by simp[Value.cells,cellsOf,Go.undef],λi x y j n=>?_⟩;simp only[Value.cells,cellsOf,Go.undef]at j n;cases i with
  |zero =>simp at j n;subst j;subst n;first|assumption|constructor<;>assumption|constructor
  |succ i=>simp at j
end
end Go.DL
namespace Go.DL
open Go
variable [Zsq]
section
variable {P:Program} {g:G} {Z:Nat->Nat} {w:World} {L:Loc}
def ZhK{v d}(h:Rep g w v d)(j:Km d=true):∀x∈v.cells,x.one1=true:=by
 cases h with
 |agg vs cells hn h one=>simpa[Value.cells]using one
 |_=>first
  | (simp[Km]at j;done)
  | (intro x i;simp[Value.cells]at i;subst i;rfl)
def ZqN:∀(l k off) (cs:Array Value),off+k+I l<=cs.size ->
  ((l.zipIdx k).foldl (λ(cs:Array Value) (x:Value×Nat)=>cs.setIfInBounds (off+x.2) x.1) cs).toList=cs.toList.take (off+k)++l++cs.toList.drop (off+k+I l)
 | [],k,off,cs,h=>by simp
 |v::l,k,off,cs,h=>by
  simp at h;simp only[List.zipIdx_cons,List.foldl_cons];rw[ZqN l (k+1) off _ (by simp;omega)];simp only[Array.toList_setIfInBounds];apply List.ext_getElem?;intro i;simp only[List.getElem?_append,ZIm,List.getElem?_drop,List.getElem?_set,ZHO,ZHZ,List.length_set,Array.length_toList,ZHW];by_cases n:i<off+k;simp[show i<min (off+(k+1)) cs.size+I l from by omega,show i<min (off+(k+1)) cs.size from by omega,show i<min (off+k) cs.size+(I l+1) from by omega,
   show i<min (off+k) cs.size from by omega,show i<off+(k+1) from by omega,n,show ¬off+k=i from by omega]
  by_cases j:i=off+k;subst j;simp[show off+k<min (off+(k+1)) cs.size+I l from by omega,show off+k<min (off+(k+1)) cs.size from by omega,show off+k<min (off+k) cs.size+(I l+1) from by omega,
   show ¬off+k<min (off+k) cs.size from by omega,show off+k<off+(k+1) from by omega,show off+k<cs.size from by omega]
  rw[show off+k-min (off+k) cs.size=0 from by omega];rfl;by_cases h3:i<off+k+(I l+1);simp[show i<min (off+(k+1)) cs.size+I l from by omega,show ¬i<min (off+(k+1)) cs.size from by omega,show i<min (off+k) cs.size+(I l+1) from by omega,
   show ¬i<min (off+k) cs.size from by omega]
  rw[show i-min (off+k) cs.size=(i-min (off+(k+1)) cs.size)+1 from by omega];rfl;simp[show ¬i<min (off+(k+1)) cs.size+I l from by omega,show ¬i<min (off+k) cs.size+(I l+1) from by omega];rw[show off+(k+1)+I l+(i-(min (off+(k+1)) cs.size+I l))=i from by omega,show off+k+(I l+1)+(i-(min (off+k) cs.size+(I l+1)))=i from by omega];simp[show ¬off+k=i from by omega]
def Yo{α β R}:∀{j} {bs:List β},I j=I bs->(∀(i:Nat) (a:α) (b:β),j[i]?=sO a->bs[i]?=sO b->R a b)->ZO R j bs
 | [],[],_,_=>.nil
 |a::j,b::bs,hn,h=>.cons (h 0 a b rfl rfl) (Yo (by simpa using hn) (λi x y t n=>h (i+1) x y (by simpa using t) (by simpa using n)))
 | [],_::_,hn,_=>by grind
 |_::_,[],hn,_=>by grind
def Zhy(place):∀(parts pl ds cs cells cv),
  (∀(i:Nat) (x q),parts[i]?=sO x->pl[i]?=sO q->place x.1=sO q)->I parts=I pl->ZO (Rep g w) (parts.map (·.2)) ds ->
  ZO (Rep g w) cv.toList cells->(∀v∈cv,v.one1=true)->Zca cells pl ds=sO cs ->
  ∃cv',Instr.fill place cv parts=sO cv'/\ZO (Rep g w) cv'.toList cs/\∀v∈cv',v.one1=true
 | [],[],ds,cs,cells,cv,_,_,hd,hc,ho,hf=>by cases hd;cases hf;exact⟨cv,rfl,hc,ho⟩
 |x::parts,q::pl,ds,cs,cells,cv,hpl,hn,hd,hc,ho,hf=>by
  obtain⟨i,v⟩:=x;obtain⟨o,n⟩:=q;cases hd with
  |cons hv hd =>
   rename_i d ds;simp only[Zca]at hf;split at hf;rename_i u;obtain⟨h0,h1,h2⟩:=u;have hp:=hpl 0 _ _ rfl rfl;obtain⟨ab,z⟩:=Zew hv h0;have hlen:=hc.len;have t:=ZqN v.cells.toList 0 o cv (by grind);simp only[Nat.add_zero,Array.length_toList,ab,h1]at t;have ha:ZO (Rep g w) (v.cells.toList) (cellsOf d):=Yo ω z;generalize ad:(v.cells.toList.zipIdx 0).foldl (λ(cs:Array Value) (x:Value×Nat)=>cs.setIfInBounds (o+x.2) x.1) cv=cv2 at t;have ac:ZO (Rep g w) cv2.toList (Zq cells o (cellsOf d)):=by rw[t];unfold Zq;rw[h1];exact((hc.take o).append ha).append (hc.drop (o+n))
   have ae:∀x∈cv2,x.one1=true:=λx hx=>by have j:x∈cv2.toList:=Array.mem_toList_iff.2 hx;rw[t]at j;simp only[List.mem_append]at j;rcases j with (j |j)|j;exact ho x (Array.mem_toList_iff.1 (List.mem_of_mem_take j));exact ZhK hv h0 x (Array.mem_toList_iff.1 j);exact ho x (Array.mem_toList_iff.1 (List.mem_of_mem_drop j))
   obtain⟨cv',af,r1,r2⟩:=Zhy place parts pl ds cs _ cv2 (λi x q hx hq=>hpl (i+1) x q (by grind) (by grind)) (by grind) hd ac ae hf;refine⟨cv',?_,r1,r2⟩;simp only[Instr.fill,hp,ab,h1];have:¬(n≠n ||decide (o+n > cv.size))=true:=by grind
   rw[if_neg ω];rw[<-af,<-ad]
   congr 1
   rw[<-Array.foldl_toList,Array.toList_zipIdx];simp at hf
 | [],_::_,_,_,_,_,_,hn,_,_,_,_=>by simp at hn
 |_::_,[],_,_,_,_,_,hn,_,_,_,_=>by simp at hn
end
end Go.DL
namespace Go.DL
open Go
variable [Zsq]
variable {kp:Option (List Nat)}{L:Loc}{H:Env}{s:St}{w:World}{os:List DOp}{ds:List D}{dst:Option Nat}{tmps:Array Value}{g:G}{Z:Nat->Nat}{xs:List Opd}{side:Prop}{row:Nat->List D}
section
variable {P:Program} {g:G} {Z:Nat->Nat} {w:World} {L:Loc}
def Zek:∀{vs ds},ZbW vs=sO ds->ZO (Rep g w) vs ds/\∀v∈vs,v.one1=true
 | [],ds,h=>by simp only[ZbW,ZHE]at h;subst h;exact⟨.nil,λv t=>by simp at t⟩
 |v::vs,ds,h=>by
  simp only[ZbW]at h;split at h
  .rename_i d ds' i z;simp only[ZHE]at h;subst h;obtain⟨u,r2⟩:=Zek z;have n:Rep g w v d/\v.one1=true:=by unfold ZnL at i;split at i<;>(try(simp at i;done));split at i;rename_i j;simp only[ZHE]at i;subst i;exact⟨.int _ _ j,rfl⟩;simp at i;simp only[ZHE]at i;subst i;exact⟨.bool _,rfl⟩;split at i;rename_i j;simp only[ZHE]at i;subst i;exact⟨.str _ _ rfl j,rfl⟩;simp at i;simp only[ZHE]at i;subst i;exact⟨.nilptr,rfl⟩;simp only[ZHE]at i;subst i;exact⟨.nilsl,rfl⟩;simp only[ZHE]at i;subst i;exact⟨.nilmap,rfl⟩;simp only[ZHE]at i;subst i;exact⟨.nilfn,rfl⟩;simp only[ZHE]at i;subst i;exact⟨.niliface,rfl⟩
   exact⟨.cons n.1 u,λx hx=>by
    rcases List.mem_cons.1 hx with rfl|hx;exact n.2;exact r2 x hx⟩
  simp at h
def ZxY{v d}(h:ZnL v=sO d):Rep g w v d/\v.one1=true:=by
 have:=Zek (g:=g) (w:=w) (vs:=[v]) (ds:=[d]) (by simp[ZbW,h]);obtain⟨j,i⟩:=this;cases j with
 |cons h _=>exact⟨h,i v ψ⟩
def Zlx{vs ds}(h:ZO (Rep g w) vs.toList ds)(i:∀v∈vs,v.one1=true):Rep g w (.agg vs) (.agg ds):=by
 have:=Rep.agg (g:=g) (w:=w) vs.toList ds h.len h.get (λv j=>i v (Array.mem_toList_iff.1 j));simpa using this
def ZjB{v d}(h:ZnM v=sO d):Rep g w v d:=by
 unfold ZnM at h;split at h;rename_i cs;simp only[ZHS]at h;obtain⟨ds,i,rfl⟩:=h;obtain⟨n,t⟩:=Zek (g:=g) (w:=w) i;exact Zlx n (λv j=>t v (Array.mem_toList_iff.2 j));exact(ZxY h).1
def Zq6{t fs}(u:P.underlying t=sO (.struct fs)):∀(is pl),QA P t is=sO pl ->
  (I pl)=I is/\∀(i k:Nat) (q),is[i]?=sO k->pl[i]?=sO q->∃f,fs[k]?=sO f/\Z2 P f.type=sO q.2/\f.offset=q.1
 | [],pl,h=>by simp only[QA,ZHE]at h;subst h;simp
 |k::is,pl,h=>by
  cases hl:QA P t is with
  |none=>simp[QA,u,hl]at h
  |some l =>
   simp only[QA,u,hl]at h;split at h
   .rename_i f hf;simp only[ZHS]at h;obtain⟨n,hn,rfl⟩:=h;obtain⟨h1,h2⟩:=Zq6 u is l hl;refine⟨by simp[h1],λi k' q z j=>?_⟩;cases i with
    |zero=>simp at z j;subst z;subst j;exact⟨f,hf,hn,rfl⟩
    |succ i=>exact h2 i k' q (by simpa using z) (by simpa using j)
   simp at h
def Zov{t e m}(u:P.underlying t=sO (.array m e)):∀(is pl),QA P t is=sO pl ->
  (I pl)=I is/\∀(i k:Nat) (q),is[i]?=sO k->pl[i]?=sO q->∃n,Z2 P e=sO n/\q=(k*n,n)
 | [],pl,h=>by simp only[QA,ZHE]at h;subst h;simp
 |k::is,pl,h=>by
  cases hl:QA P t is with
  |none=>simp[QA,u,hl]at h
  |some l =>
   simp only[QA,u,hl,ZHS]at h;obtain⟨n,hn,rfl⟩:=h;obtain⟨h1,h2⟩:=Zov u is l hl;refine⟨by simp[h1],λi k' q z j=>?_⟩;cases i with
   |zero=>simp at z j;subst z;subst j;exact⟨n,hn,rfl⟩
   |succ i=>exact h2 i k' q (by simpa using z) (by simpa using j)
def Zmh:∀(j:List Field),(j.all λf=>(Z2 P f.type).isSome)=true ->
  ∃t,j.mapM (λf=>(P.info? f.type).map λi=>(f.offset,i.size))=sO t/\∀(k:Nat) (f n),j[k]?=sO f->Z2 P f.type=sO n->t[k]?=sO (f.offset,n)
 | [],_=>⟨[],ψ,ψ⟩
 |f::j,h=>by
  simp only[List.all_cons,ZHN]at h;obtain⟨t,h1,h2⟩:=Zmh j h.2;unfold Z2 at h;cases u:P.info? f.type with
  |none=>simp[u]at h
  |some i =>
   refine⟨(f.offset,i.size)::t,by simp[List.mapM_cons,u,h1],λk f' n z hn=>?_⟩;cases k with
   |zero =>simp at z;subst z;simp only[Z2,u,ZId,ZHE]at hn;subst hn;rfl
   |succ k=>simpa using h2 k f' n (by simpa using z) hn
def Zzv{t}{parts:List (Nat×Value)}{z pl zs ds cs}(hz:(P.info? t).bind (·.zero)=sO z)(hp:QA P t (parts.map (·.1))=sO pl)(hsz:ZkI P t=true)(hzs:ZbW z.cells.toList=sO zs)(hd:ZO (Rep g w) (parts.map (·.2)) ds)(hf:Zca zs pl ds=sO cs)(hne:∃d,P.underlying t=sO d/\((∃fs,d=.struct fs)\/∃m e i,d=.array m e/\P.info? e=sO i)):
  ∃cv,(Instr.build t parts.toArray).run P w=.ok (.agg cv) w/\Rep g w (.agg cv) (.agg cs):=by
 obtain⟨d,hu,ah⟩:=hne;obtain⟨c1,c2⟩:=Zek (g:=g) (w:=w) hzs;have ae:∀v∈z.cells,v.one1=true:=λv hv=>c2 v (Array.mem_toList_iff.2 hv);cases ad:P.info? t with
 |none=>simp[ad]at hz
 |some it =>
  simp only[ad,Option.bind_some]at hz;rcases ah with ⟨fs,rfl⟩|⟨m,e,i,rfl,hi⟩;simp only[ZkI,hu]at hsz;obtain⟨ai,hm,af⟩:=Zmh (P:=P) fs.toList hsz;obtain⟨h1,h2⟩:=Zq6 hu _ _ hp;obtain⟨cv,u,ab,ac⟩:=Zhy (g:=g) (w:=w) (ai.toArray[·]?) parts pl ds cs zs z.cells (λi x q hx hq=>by
   obtain⟨f,ag,aj,ak⟩:=h2 i x.1 q (by simp[hx]) hq;have:=af x.1 f q.2 (by simpa using ag) aj;simp only[List.getElem?_toArray,this,ak]) (by simpa using h1.symm) hd c1 ae hf
  refine⟨cv,run_build w t _ cv ?_,Zlx ab ac⟩;simp only[Program.built,ad,hu,hz,hm];exact u;obtain⟨h1,h2⟩:=Zov hu _ _ hp;obtain⟨cv,u,ab,ac⟩:=Zhy (g:=g) (w:=w) (λk=>sO (k*i.size,i.size)) parts pl ds cs zs z.cells (λj x q hx hq=>by
   obtain⟨n,hn,rfl⟩:=h2 j x.1 q (by simp[hx]) hq;simp only[Z2,hi,ZId,ZHE]at hn;rw[hn]) (by simpa using h1.symm) hd c1 ae hf
  refine⟨cv,run_build w t _ cv ?_,Zlx ab ac⟩;simp only[Program.built,ad,hu,hz,hi];exact u
end
section
variable {P:Program} {g:G} {Z:Nat->Nat} {w:World} {L:Loc} {U:St}
def WF{α β R}{a:α}{bs:List β}(h:ZO R [a] bs):∃b,bs=[b]/\R a b:=by
 cases h with
 |cons h t=>cases t;exact⟨_,rfl,h⟩
def Zas{α β R}{a j:α}{bs:List β}(h:ZO R [a,j] bs):∃b i,bs=[b,i]/\R a b/\R j i:=by
 cases h with
 |cons h t=>obtain⟨i,rfl,n⟩:=WF t;exact⟨_,_,rfl,h,n⟩
def Zin:∀(i:List Int) (s:ByteArray),(i.foldl (λr n=>r.push (UInt8.ofNat n.toNat)) s).data.toList=s.data.toList++i.map λn=>UInt8.ofNat n.toNat
 | [],s=>by simp
 |n::i,s=>by rw[List.foldl_cons,Zin i];simp
def Zu1{t x e r side}(j:Zar P t=sO false)(u:ZP g Z w L x e)(hL:∀l cs,Zj L l=sO cs->Wc g w (Z l) cs)(hS:Yp g U w)(i:qv L U .load1 [e]=sO (side,r)):∃v,(Instr.loadAt t x).run P w=.ok v w/\ZP g Z w L v r:=by
 simp only[qv,ZHS]at i;obtain⟨d,z,rfl,rfl⟩:=i;obtain⟨b,o,y,rfl,hy,n,_⟩:=ZnG hL hS u z;exact⟨y,by simp[Instr.loadAt,Instr.sureAddr,loadVar,ZeV j,hy],n⟩
def Zu2{t n x e r side}(z:Zar P t=sO true)(j:Z2 P t=sO n)(hx:ZP g Z w L x e)(hL:∀l cs,Zj L l=sO cs->Wc g w (Z l) cs)(hS:Yp g U w)(u:qv L U (.loadN n) [e]=sO (side,r))(hs:side):∃v,(Instr.loadAt t x).run P w=.ok v w/\ZP g Z w L v r:=by
 simp only[qv,ZHS]at u;obtain⟨⟨s',ds⟩,hd,rfl,rfl⟩:=u;obtain⟨a,rfl,vs,i,hr⟩:=Zou (P:=P) hL hS hx hd hs;exact⟨.agg vs.toArray,by simp[Instr.loadAt,Instr.sureAddr,loadVar,Zgh z,YY j,i],hr⟩
def ZA1{b o n cap cs v}(hS:Yp g U w)(hv:Rep g w v (.msl b o n cap 1))(hcs:Ye U b=sO cs)(hlen:o+n<=I cs)(hu:∀i,i<n->Zis (part cs (o+i) 1)):
  ∃x:Value,(Conv.bytesToString v).run P w=.ok x w/\Rep g w x (.str ((ZHT n).map λi=>Zbx (part cs (o+i) 1))):=by
 have u:∀j,n<=j->j<=big->∃x:Value,(Conv.bytesToString (.slice (sO ⟨b,o,nO⟩) n j)).run P w=.ok x w/\Rep g w x (.str ((ZHT n).map λi=>Zbx (part cs (o+i) 1))):=by
  intro j h1 h2;obtain⟨vs,hr,hp⟩:=ZfK (P:=P) (JF hS hcs) hlen;have ab:vs=((ZHT n).map λi=>((Zbx (part cs (o+i) 1)).toNat:Int)).map (Value.int .u8):=by
   generalize t:part cs o n=pc at hp;have hpl:I pc=n:=by rw[<-t];simp[part];omega
   cases hp with
   |agg vs' _ hn hg _ =>
   apply List.ext_getElem?;intro i;by_cases hi:i<n;have hvi:i<I vs:=ω;obtain⟨m,hm⟩:=hu i hi;have z:cs[o+i]?=sO (.int .u8 m):=by have:=congrArg (λl=>l[0]?) hm;simpa[part]using this
   have ad:pc[i]?=sO (.int .u8 m):=by rw[<-t];simp[part,hi];exact z
   have:=hg i vs[i] _ (by grind) ad;simp_all;generalize vs[i]=xv at this;cases this;rename_i ac;simp[hi,Zbx];simp[inR,IntKind.min,IntKind.max,IntKind.signed,IntKind.bits]at ac;omega;simp_all
  refine⟨_,run_bytesToString w _ _ j _ (by rw[hr,ab]),.str _ _ ?_ (by grind)⟩;rw[Zin];simp
 cases hv with
 |msl _ _ _ _ _ h hb=>exact u cap h hb
 |mslx a=>exact⟨.string .empty,by simp[Conv.bytesToString,loadCells,loadCellsFrom],.str _ _ rfl ψ⟩
def Zxj{s d c x e r side}(hS:Yp g U w)(hc:Zwg P s d=sO c)(hx:ZP g Z w L x e)(hq:qv L U (.conv c) [e]=sO (side,r))(hs:side):
  ∃v,(convert s d x).run P w=.ok v w/\ZP g Z w L v r:=by
 unfold Zwg at hc;split at hc<;>(try(simp at hc;done))
 .rename_i k0 k h1 h2;cases hc;cases e with
  |d y =>cases y<;>simp only[qv,reduceCtorEq]at hq;rename_i k' n;cases hx;rename_i hn;split at hq;rename_i hk;subst hk;cases hq;exact⟨.int k n,by simp[convert,run_underlying h1,run_underlying h2,Conv.intToInt,ZaN _ _ hn],.int _ _ hn⟩;cases hq;exact⟨.int k (k.wrap n),by simp[convert,run_underlying h1,run_underlying h2,Conv.intToInt],.int _ _ ZlJ⟩
  |loc l o=>simp[qv]at hq
  |when b e=>simp[qv]at hq
 .rename_i k0 h1 h2;cases hc;cases e with
  |d y =>cases y<;>simp only[qv,reduceCtorEq]at hq;rename_i k' n;cases hx;cases hq;exact⟨.string (Utf8.encode n),by simp[convert,run_underlying h1,run_underlying h2,Conv.intToString],.str _ _ rfl hs⟩
  |loc l o=>simp[qv]at hq
  |when b e=>simp[qv]at hq
 .rename_i h1 h2;cases hc;cases e with
  |d y =>cases y<;>simp only[qv,reduceCtorEq]at hq;cases hq;cases hx;rename_i s0 e0 b0;exact⟨.string s0,by simp[convert,run_underlying h1,run_underlying h2],.str _ _ e0 b0⟩
  |loc l o=>simp[qv]at hq
  |when b e=>simp[qv]at hq
 rename_i el h1 h2;split at hc<;>(try(simp at hc;done));rename_i h3;cases hc;cases e with
 |d y =>
  cases y<;>simp only[qv,reduceCtorEq]at hq;cases hq;cases hx;exact⟨.string .empty,by simp[convert,run_underlying h1,run_underlying h2,run_underlying h3,Conv.bytesToString],.str _ _ rfl (by simp[big])⟩
  .split at hq<;>(try(simp at hq;done));rename_i t n s row ae;cases hq;subst ae;cases hx with
   |sl0 av=>exact⟨.string .empty,by cases av<;>simp[convert,run_underlying h1,run_underlying h2,run_underlying h3,Conv.bytesToString,loadCells,loadCellsFrom],.str _ _ rfl (by simp[big])⟩
   |sl b o _ cap _ _ _ f hl hc hp hr one ht hcap hb =>
    have hf:∀i,i<n->f i 0=.int .u8 ((Zbx (row i)).toNat:Int):=λi hi=>by
     obtain⟨m,hm⟩:=hs i hi;have:=hr i 0 _ hi (by rw[hm];rfl);generalize f i 0=fv at this;cases this;rename_i ac;rw[hm];simp only[Zbx]
     congr 1
     simp[inR,IntKind.min,IntKind.max,IntKind.signed,IntKind.bits]at ac;simp;omega
    have u:(loadCells ⟨b,o,nO⟩ n).run P w=.ok (((ZHT n).map λi=>((Zbx (row i)).toNat:Int)).map (Value.int .u8)).toArray w:=by
     rw[run_loadCells (P:=P) w ⟨b,o,nO⟩ n (λi=>f i 0) (λj hj=>by
      have:=hc j 0 hj ω;rw[Kv];simpa using this)]
     congr 2
     rw[List.map_map];exact List.map_congr_left λi hi=>hf i (by simpa using hi)
    refine⟨_,by simp[convert,run_underlying h1,run_underlying h2,run_underlying h3,run_bytesToString w _ _ cap _ u];rfl,.str _ _ ?_ (by simp;omega)⟩;rw[Zin];simp[List.map_map,Function.comp_def]
  split at hq<;>(try(simp at hq;done));rename_i b o n cap z cs ad;split at hq<;>(try(simp at hq;done));rename_i hz;cases hq;subst hz;obtain⟨xv,hr,hp⟩:=ZA1 (P:=P) hS hx ad hs.1 hs.2;have ab:(convert s d x).run P w=(Conv.bytesToString x).run P w:=by cases hx<;>simp[convert,run_underlying h1,run_underlying h2,run_underlying h3]
  exact⟨xv,ab.trans hr,hp⟩
 |loc l o=>simp[qv]at hq
 |when b e=>simp[qv]at hq
end
section
variable {P:Program} {g:G} {Z:Nat->Nat} {w:World} {L:Loc}
def QB{v k n}(h:Rep g w v (.int k n)):v=.int k n/\inR k n:=by
 cases h with
 |int _ _ h=>exact⟨rfl,h⟩
def Zdt{x k n}(h:Rep g w x (.int k n)){y:Nat}{code}(j:0<=n)(i:n<=y):
  (Instr.sliceBound x y code).run P w=.ok n.toNat w:=by
 obtain⟨rfl,_⟩:=QB h;simp[Instr.sliceBound,asIntOf,j,i]
def JQ(g:G)(w:World):Option Value->Option Int->Prop
 |none,nO=>True
 |some v,sO n=>∃k,Rep g w v (.int k n)
 |_,_=>False
def Zbf{is}{n cap:Nat}{lo hi mx t u mx'}(z:JQ g w lo t)(h2:JQ g w hi u)(h3:JQ g w mx mx')(hmh:mx.isSome=true->hi.isSome=true)(a:0<=t.getD 0)(b:t.getD 0<=u.getD n)(c:u.getD n<=mx'.getD cap)(d:mx'.getD cap<=cap):
  (Instr.sliceBounds is n cap lo hi mx).run P w=.ok ((t.getD 0).toNat,(u.getD n).toNat,(mx'.getD cap).toNat) w:=by
 cases mx with
 |none =>
  cases mx' with
  |some _=>exact h3.elim
  |none =>
   cases hi with
   |none =>
    cases u with
    |some _=>exact h2.elim
    |none =>
     cases lo with
     |none =>
      cases t with
      |some _=>exact z.elim
      |none=>simp[Instr.sliceBounds]
     |some lv =>
      cases t with
      |none=>exact z.elim
      |some l =>obtain⟨k,hk⟩:=z;simp[Instr.sliceBounds,Zdt hk a b]
   |some hv =>
    cases u with
    |none=>exact h2.elim
    |some hh =>
     obtain⟨k2,i⟩:=h2;simp at b c⊢;have bo:=Zdt (P:=P) i (y:=cap) (code:=if is then .sliceAcap else .sliceAlen) ω c;cases lo with
     |none =>
      cases t with
      |some _=>exact z.elim
      |none=>simp[Instr.sliceBounds,bo]
     |some lv =>
      cases t with
      |none=>exact z.elim
      |some l =>obtain⟨k,hk⟩:=z;simp at a b⊢;have bl:=Zdt (P:=P) hk (y:=hh.toNat) (code:=.sliceB) a ω;simp[Instr.sliceBounds,bo,bl]
 |some mv =>
  cases mx' with
  |none=>exact h3.elim
  |some m =>
   obtain⟨k3,j⟩:=h3;cases hi with
   |none=>grind
   |some hv =>
    cases u with
    |none=>exact h2.elim
    |some hh =>
     obtain⟨k2,i⟩:=h2;simp at b c⊢;have bm:=Zdt (P:=P) j (y:=cap) (code:=if is then .slice3Acap else .slice3Alen) ω d;have bo:=Zdt (P:=P) i (y:=m.toNat) (code:=.slice3B) ω ω;cases lo with
     |none =>
      cases t with
      |some _=>exact z.elim
      |none=>simp[Instr.sliceBounds,bo,bm]
     |some lv =>
      cases t with
      |none=>exact z.elim
      |some l =>obtain⟨k,hk⟩:=z;simp at a b⊢;have bl:=Zdt (P:=P) hk (y:=hh.toNat) (code:=.slice3C) a ω;simp[Instr.sliceBounds,bo,bm,bl]
def ZAE{t e s}(hu:P.underlying t=sO (.slice e))(hsz:Z2 P e=sO s){x d r}(hx:Rep g w x d){lo hi mx lo' hi' mx'}(h1:JQ g w lo lo')(h2:JQ g w hi hi')(h3:JQ g w mx mx')(hmh:mx.isSome=true->hi.isSome=true){side}(hq:Zbv s lo' hi' mx' d=sO (side,r))(hs:side):
  ∃v,(Instr.sliceAt t x lo hi mx).run P w=.ok v w/\Rep g w v r:=by
 cases d<;>simp only[Zbv,reduceCtorEq]at hq
 .
  simp only[ZHE,ZHR]at hq;obtain⟨rfl,rfl⟩:=hq;cases hx;obtain⟨e1,e2,e3⟩:=hs;refine⟨.slice nO 0 0,?_,.nilsl⟩;have hb:=Zbf (P:=P) (is:=true) (n:=0) (cap:=0) h1 h2 h3 hmh ω (by simp[e1,e2]) (by simp[e2,e3]) (by simp[e3]);simp only[Instr.sliceAt,Sem.run_bind,run_underlying hu,Result.andThen_ok,Instr.slice,hb];simp[e1,e2,e3,YY hsz]
 .
  rename_i t n s' row;split at hq<;>(try(simp at hq;done));rename_i ag;subst ag;simp only[ZHE,ZHR]at hq;obtain⟨rfl,rfl⟩:=hq;obtain⟨a,b,c,d⟩:=hs;have mk:∀(cap:Nat),n<=cap->hi'.getD n<=mx'.getD cap/\mx'.getD cap<=cap:=λcap z=>by
   cases mx' with
   |none=>simp only[Option.getD_none];omega
   |some m=>have:=d m rfl;simp only[ZIk];omega
  cases hx with
  |sl0 av _ _ _ ht =>
   have hb:=Zbf (P:=P) (is:=true) (n:=0) (cap:=0) h1 h2 h3 hmh a b (mk 0 (ZHV _)).1 (mk 0 (ZHV _)).2;have e2:hi'.getD ((0:Nat):Int)=0:=ω;have e1:lo'.getD 0=0:=ω;have e3:mx'.getD ((0:Nat):Int)=0:=by have:=mk 0 (ZHV _);omega
   simp only[Int.natCast_zero]at e2 e3;refine⟨.slice av 0 0,?_,?_⟩;·cases av<;>simp only[Instr.sliceAt,Sem.run_bind,run_underlying hu,Result.andThen_ok,Instr.slice,hb];all_goals simp[e1,e2,e3,YY hsz]
   have:(hi'.getD ((0:Nat):Int)-lo'.getD 0).toNat=0:=by simp[e1,e2]
   rw[this];refine .sl0 av _ _ _ ?_;intro b hb;cases mx' with
   |some m=>simp only[Zcj]at hb;split at hb<;>simp at hb
   |none =>
    simp only[Zcj]at hb;split at hb
    .cases t with
     |tip b'=>exact absurd rfl (ht b')
     |_=>simp at hb
    simp at hb
  |sl bb o _ cap _ _ _ f hl hc hp hr one ht z hbig =>
   have hb:=Zbf (P:=P) (is:=true) (n:=n) (cap:=cap) h1 h2 h3 hmh a b (mk cap z).1 (mk cap z).2;have hm:=mk cap z;simp only[Instr.sliceAt,Sem.run_bind,run_underlying hu,Result.andThen_ok,Instr.slice,hb];simp only[YY hsz,Result.andThen_ok,Sem.run_pure];generalize al:lo'.getD 0=l at *;generalize aj:hi'.getD (n:Int)=h at *;obtain⟨l,rfl⟩:=Int.eq_ofNat_of_zero_le a;obtain⟨h,rfl⟩:=Int.eq_ofNat_of_zero_le (show 0<=h by omega);generalize ah:mx'.getD (cap:Int)=m at *;obtain⟨m,rfl⟩:=Int.eq_ofNat_of_zero_le (show 0<=m by omega);simp only[Int.toNat_natCast];refine⟨_,rfl,?_⟩;have ai:((h:Int)-(l:Int)).toNat=h-l:=ω;rw[ai];have hle:h<=n:=ω;have hlh:l<=h:=ω;have hhm:h<=m:=ω;have hmc:m<=cap:=ω;generalize u:Zcj t n l h mx'=tk;have ae:∀o',(l=0->o'=o)->Zlb w tk bb o' (h-l) (m-l) s':=by
    intro o' ak;cases mx' with
    |some m' =>simp only[Zcj]at u;simp only[ZIk]at ah;split at u;subst u;simp only[Zlb];omega;subst u;trivial
    |none =>
     simp only[Zcj]at u;simp only[Option.getD_none]at ah;have af:m=cap:=ω;split at u
     .rename_i hhn';cases t with
      |none=>simp only at u;subst u;trivial
      |full=>simp only at u;subst u;simp only[Zlb]at ht⊢;omega
      |tip b' =>simp only at u;split at u;rename_i hl0;subst u;obtain⟨t1,t2,t3⟩:=ht;have ad:l=0:=ω;exact⟨t1,(ak ad).trans t2,by rw[af,ad];simpa using t3⟩;subst u;trivial
     subst u;trivial
   by_cases ab:m=l;simp only[ab,if_true];have hh:h-l=0:=ω;rw[hh,Nat.sub_self];have ac:=ae o (λ_=>rfl);rw[hh,ab,Nat.sub_self]at ac;exact .sl bb o 0 0 s' _ tk (λ_ _=>undef) (λi hi=>by omega) (λi j hi=>by omega) (λi j hi=>by omega) (λi j d hi=>by omega) (λi j hi=>by omega) ac ω ω;simp only[ab,if_false,ZId,Kv];refine .sl bb (o+l*s') (h-l) (m-l) s' _ tk (λi j=>f (l+i) j) (λi hi=>hl _ ω) (λi j hi hj=>?_) (λi j hi hj=>?_) (λi j d hi hd=>hr _ _ _ ω hd)
    (λi j hi hj=>one _ _ ω hj) (ae _ (λh0=>by rw[h0];simp)) ω ω
   have:=hc (l+i) j ω hj;rw[show o+l*s'+i*s'+j=o+(l+i)*s'+j from by rw[ZIa];omega];exact this;have:=hp (l+i) j ω hj;rw[show o+l*s'+i*s'+j=o+(l+i)*s'+j from by rw[ZIa];omega];exact this
 .
  rename_i bb o n cap s';split at hq<;>(try(simp at hq;done));rename_i ag;subst ag;simp only[ZHE,ZHR]at hq;obtain⟨rfl,rfl⟩:=hq;obtain⟨a,b,c,d⟩:=hs;cases hx with
  |mslx av _ _ _ =>have hb:=Zbf (P:=P) (is:=true) (n:=0) (cap:=0) h1 h2 h3 hmh a b c d;have e3:mx'.getD ((0:Nat):Int)=0:=ω;have e2:hi'.getD ((0:Nat):Int)=0:=ω;have e1:lo'.getD 0=0:=ω;refine⟨.slice (sO av) 0 0,?_,?_⟩;simp only[Instr.sliceAt,Sem.run_bind,run_underlying hu,Result.andThen_ok,Instr.slice,hb];simp only[Int.natCast_zero]at e2 e3;simp[e1,e2,e3,YY hsz];rw[e1,e2,e3];exact .mslx _ _ _ _
  |msl _ _ _ _ _ hn hb' =>have hb:=Zbf (P:=P) (is:=true) (n:=n) (cap:=cap) h1 h2 h3 hmh a b c d;simp only[Instr.sliceAt,Sem.run_bind,run_underlying hu,Result.andThen_ok,Instr.slice,hb];simp only[YY hsz,Result.andThen_ok,Sem.run_pure];generalize al:lo'.getD 0=l at *;generalize aj:hi'.getD (n:Int)=h at *;generalize ah:mx'.getD (cap:Int)=m at *;obtain⟨l,rfl⟩:=Int.eq_ofNat_of_zero_le a;obtain⟨h,rfl⟩:=Int.eq_ofNat_of_zero_le (show 0<=h by omega);obtain⟨m,rfl⟩:=Int.eq_ofNat_of_zero_le (show 0<=m by omega);simp only[Int.toNat_natCast,show((h:Int)-(l:Int)).toNat=h-l by omega,show((m:Int)-(l:Int)).toNat=m-l by omega];refine⟨_,rfl,?_⟩;by_cases ab:m=l;subst ab;simp only[if_true];exact .msl _ _ _ _ _ ω ω;have:¬(m:Int)=l:=ω;simp only[ab,this,if_false,ZId,Kv];exact .msl _ _ _ _ _ ω ω
end
section
variable {P:Program} {g:G} {Z:Nat->Nat} {w:World} {L:Loc} {U:St}
def Zrh{s k f}(h:Zhx P s k=sO f):∃i,P.underlying s=sO (.struct i)/\i[k]?=sO f:=by
 unfold Zhx at h;split at h;rename_i i j;exact⟨i,j,h⟩;simp at h
def ZuZ{s k n f x e r side}(hf:Zhx P s k=sO f)(t:Z2 P f.type=sO n)(hn:n≠0)(j:ZP g Z w L x e)(i:qv L U (.faddr f.offset) [e]=sO (side,r)):∃v,(Instr.fieldAt s x k).run P w=.ok v w/\ZP g Z w L v r:=by
 obtain⟨fs,z,hk⟩:=Zrh hf;have run:∀b o,(Instr.fieldAt s (.pointer (sO ⟨b,o,nO⟩)) k).run P w=.ok (.pointer (sO ⟨b,o+f.offset,nO⟩)) w:=λb o=>by simp[Instr.fieldAt,run_underlying z,hk,Instr.sureAddr,fieldPlace,YY t,hn,Kv]
 cases e with
 |d y =>
  cases y<;>simp only[qv,reduceCtorEq,ZHE,ZHR]at i
  .rename_i cells off;obtain⟨rfl,rfl⟩:=i;cases j with
   |ep b o _ _ f' u h2 h3 one =>have:=Rep.ep (g:=g) (w:=w) b o (off+f.offset) cells f' u h2 h3 one;exact⟨_,run _ _,by rw[Nat.add_assoc];exact this⟩
  obtain⟨rfl,rfl⟩:=i;cases j;exact⟨_,run _ _,.ptr _ _⟩
 |loc l o =>simp only[qv,ZHE,ZHR]at i;obtain⟨rfl,rfl⟩:=i;obtain⟨u,rfl⟩:=j;exact⟨_,run _ _,u,rfl⟩
 |when b e=>simp[qv]at i
def Zu0{t e n x i ex ei r side}(hu:P.underlying t=sO (.slice e))(hsz:Z2 P e=sO n)(hx:ZP g Z w L x ex)(hi:ZP g Z w L i ei)(hq:qv L U (.iaddr n) [ex,ei]=sO (side,r))(hs:side):∃v,(Instr.indexAt t x i).run P w=.ok v w/\ZP g Z w L v r:=by
 cases ex with
 |d y =>
  cases y<;>(try(simp[qv]at hq;done))
  .rename_i tk m s' row;cases ei with
   |d z =>
    cases z<;>simp only[qv,reduceCtorEq]at hq;rename_i k j;obtain⟨rfl,ad⟩:=QB hi;split at hq<;>(try(simp at hq;done));rename_i ac;subst ac;simp only[ZHE,ZHR]at hq;obtain⟨rfl,rfl⟩:=hq;obtain⟨h0,h1⟩:=hs;cases hx with
    |sl0=>omega
    |sl b o _ cap _ _ _ f hl hc hp hr one ht hcap hbig =>
     have ab:j.toNat<m:=ω;have:=Rep.ep (g:=g) (w:=w) b (o+j.toNat*s') 0 (row j.toNat) (λc=>f j.toNat c) (λc u=>by
      rw[hl _ ab]at u;exact hc _ _ ab u) (λc u=>by rw[hl _ ab]at u;exact hp _ _ ab u) (λc d hd=>hr _ _ _ ab hd) (λc u=>by rw[hl _ ab]at u;exact one _ _ ab u)
     refine⟨_,?_,this⟩;simp[Instr.indexAt,asIntOf,run_underlying hu,h0,h1,YY hsz,Kv]
   |loc l o=>simp[qv]at hq
   |when b e=>simp[qv]at hq
  rename_i b o m cap s';cases ei with
  |d z =>
   cases z<;>simp only[qv,reduceCtorEq]at hq;rename_i k j;obtain⟨rfl,ad⟩:=QB hi;split at hq<;>(try(simp at hq;done));rename_i ac;subst ac;simp only[ZHE,ZHR]at hq;obtain⟨rfl,rfl⟩:=hq;obtain⟨h0,h1⟩:=hs;cases hx<;>try omega
   refine⟨_,?_,Rep.ptr b (o+j.toNat*s')⟩;simp[Instr.indexAt,asIntOf,run_underlying hu,h0,h1,YY hsz,Kv]
  |loc l o=>simp[qv]at hq
  |when b e=>simp[qv]at hq
 |loc l o=>cases ei<;>simp[qv]at hq
 |when b e=>cases ei<;>simp[qv]at hq
def Zue{t e m n x i ex ei r side}(hu:P.underlying t=sO (.array m e))(hsz:Z2 P e=sO n)(hx:ZP g Z w L x ex)(hi:ZP g Z w L i ei)(u:qv L U (.iaddrA m n) [ex,ei]=sO (side,r))(hs:side):∃v,(Instr.indexAt t x i).run P w=.ok v w/\ZP g Z w L v r:=by
 cases ei with
 |d z =>
  cases z<;>(try(cases ex<;>(try(rename_i y;cases y))<;>simp[qv]at u;done));rename_i k j;obtain⟨rfl,hin⟩:=QB hi;have run:∀b o,(0<=j/\j<(m:Int))->(Instr.indexAt t (.pointer (sO ⟨b,o,nO⟩)) (.int k j)).run P w=.ok (.pointer (sO ⟨b,o+j.toNat*n,nO⟩)) w:=λb o h=>by simp[Instr.indexAt,asIntOf,run_underlying hu,h.1,h.2,YY hsz,Kv,Instr.sureAddr]
  cases ex with
  |d y =>
   cases y<;>simp only[qv,reduceCtorEq,ZHE,ZHR]at u
   .rename_i cells off;obtain⟨rfl,rfl⟩:=u;cases hx with
    |ep b o _ _ f' h1 h2 h3 one =>have:=Rep.ep (g:=g) (w:=w) b o (off+j.toNat*n) cells f' h1 h2 h3 one;exact⟨_,run _ _ hs,by rw[Nat.add_assoc];exact this⟩
   rename_i b o;obtain⟨rfl,rfl⟩:=u;cases hx;exact⟨_,run _ _ hs,Rep.ptr _ _⟩
  |loc l o =>simp only[qv,ZHE,ZHR]at u;obtain⟨rfl,rfl⟩:=u;obtain⟨h1,rfl⟩:=hx;exact⟨_,run _ _ hs,h1,rfl⟩
  |when b e=>simp[qv]at u
 |loc l o=>cases ex<;>(try(rename_i y;cases y))<;>simp[qv]at u
 |when b e=>cases ex<;>(try(rename_i y;cases y))<;>simp[qv]at u
def ev{s e}(h:∃v,s.run P w=.ok v w/\ZP g Z w L v e):
  ∃v,(do pure (Next.value (<-s)):Sem Next).run P w=.ok (.value v) w/\ZP g Z w L v e:=Zzq.next h
def Zu3{x e r side op ρv}(hv:ρv op=x)(n:ZP g Z w L x e)(j:qv L U .nilck [e]=sO (side,r))(dst ty pos)(af gd):∃v,(execOp ρv ⟨dst,.nilCheck op,ty,pos,af,gd⟩).run P w=.ok (.value v) w/\ZP g Z w L v r:=by
 subst hv;cases e with
 |d y =>cases y<;>simp only[qv,reduceCtorEq,ZHE,ZHR]at j;obtain⟨rfl,rfl⟩:=j;refine⟨_,?_,n⟩;have i:Rep g w (ρv op) _:=n;generalize t:ρv op=z at i;cases i;simp[execOp,t];obtain⟨rfl,rfl⟩:=j;refine⟨_,?_,n⟩;have i:Rep g w (ρv op) _:=n;generalize t:ρv op=z at i;cases i;simp[execOp,t];rename_i u fs cs;refine⟨ρv op,?_,?_⟩;have i:Rep g w (ρv op) _:=n;generalize t:ρv op=z at i;cases i;cases u<;>simp at j;simp[execOp,t];simp[execOp,t];cases u<;>simp at j;obtain⟨_,rfl⟩:=j;exact n;obtain⟨_,rfl⟩:=j;exact n
 |loc l o =>simp only[qv,ZHE,ZHR]at j;obtain⟨rfl,rfl⟩:=j;refine⟨_,?_,n⟩;obtain⟨_,h2⟩:=n;simp[execOp,h2]
 |when b e=>simp[qv]at j
end
section
variable {P:Program} {g:G} {Z:Nat->Nat} {w:World} {L:Loc} {U:St}
def Zh8{ρv lo hi mx es l h m}(hes:ZO (ZP g Z w L) ((Q9 lo++Q9 hi++Q9 mx).map ρv) es)(hl:WP [lo.isSome,hi.isSome,mx.isSome] es=sO [l,h,m]):JQ g w (lo.map ρv) l/\JQ g w (hi.map ρv) h/\JQ g w (mx.map ρv) m:=by
 have step:∀(o:Option Operand) (rest:List Operand) (es:List E) (bs:List Bool) (r:List (Option Int)),ZO (ZP g Z w L) ((Q9 o++rest).map ρv) es->WP (o.isSome::bs) es=sO r ->
   ∃x r' es',r=x::r'/\JQ g w (o.map ρv) x/\WP bs es'=sO r'/\ZO (ZP g Z w L) (rest.map ρv) es':=by
  intro o rest es bs r hes hl;cases o with
  |none =>simp only[Option.isSome_none,WP,ZHS]at hl;obtain⟨r',i,rfl⟩:=hl;exact⟨nO,r',es,rfl,trivial,i,by simpa[Q9]using hes⟩
  |some x =>
   simp only[Q9,Option.toList_some,List.singleton_append,ZHY]at hes;cases hes with
   |cons hx ht =>
    rename_i e es;cases e with
    |d y =>cases y<;>simp only[Option.isSome_some,WP,reduceCtorEq,ZHS]at hl;obtain⟨r',i,rfl⟩:=hl;exact⟨_,r',es,rfl,⟨_,hx⟩,i,ht⟩
    |loc l o=>simp[WP]at hl
    |when c e=>simp[WP]at hl
 rw[ZIg]at hes;obtain⟨x,r1,ac,e1,b1,t,n⟩:=step lo _ es _ _ hes hl;obtain⟨y,r2,ab,e2,b2,u,j⟩:=step hi _ ac _ _ n t;obtain⟨z,r3,es3,e3,b3,hl3,hes3⟩:=step mx [] ab _ _ (by simpa using j) u;subst e2;subst e3;simp only[List.cons.injEq]at e1;obtain⟨rfl,rfl,rfl,rfl⟩:=e1;exact⟨b1,b2,b3⟩
def Zlz{v l}(h:Rep g w v (.str l)):∃s:ByteArray,v=.string s/\s.data.toList=l/\I l<=big:=by
 cases h with
 |str s _ h hb=>exact⟨s,rfl,h,hb⟩
def Zcs{v b}(h:Rep g w v (.bool b)):v=.bool b:=by
 cases h;rfl
def Zuh{t}(hu:P.underlying t=sO .string){ρv x lo hi es}(z:ZO (ZP g Z w L) ((x::(Q9 lo++Q9 hi)).map ρv) es){side r}(u:qv L U (.sliceS lo.isSome hi.isSome) es=sO (side,r))(hs:side):
  ∃v,(Instr.sliceAt t (ρv x) (lo.map ρv) (hi.map ρv) nO).run P w=.ok v w/\ZP g Z w L v r:=by
 simp only[ZHY]at z;cases z with
 |cons hx ht =>
  rename_i e es;cases e with
  |loc l o=>simp[qv]at u
  |when c e=>simp[qv]at u
  |d y =>
   cases y<;>(try(simp[qv]at u;done));rename_i s;simp only[qv]at u;split at u;rename_i l h m hl;simp only[ZHE,ZHR]at u;obtain⟨rfl,rfl⟩:=u;obtain⟨b1,b2,b3⟩:=Zh8 (mx:=nO) (by simpa[Q9]using ht) hl;obtain⟨a,b,c⟩:=hs;obtain⟨s0,j,e0,hb0⟩:=Zlz hx;have i:s0.size=I s:=by rw[<-e0];rfl
   have hb:=Zbf (P:=P) (is:=false) (n:=s0.size) (cap:=s0.size) (mx:=nO) (mx':=nO) b1 b2 trivial ψ a (by rw[i];exact b) (by rw[i];simpa using c) ψ;simp only[Instr.sliceAt,Sem.run_bind,run_underlying hu,Result.andThen_ok,Instr.slice,j];simp only[Option.isSome_none,ZIe,if_false,hb,Result.andThen_ok,Sem.run_pure,Sem.run_bind];refine⟨_,rfl,.str _ _ ?_ ?_⟩;rw[i];simp only[ByteArray.data_extract,Array.toList_extract,List.extract_eq_take_drop,e0];simp;omega;simp at u
def Zu4{t el n}(hu:P.underlying t=sO (.slice el))(hsz:Z2 P el=sO n){ρv x lo z mx es}(hmh:mx.isSome=true->z.isSome=true)(u:ZO (ZP g Z w L) ((x::(Q9 lo++Q9 z++Q9 mx)).map ρv) es){side r}(j:qv L U (.slice n lo.isSome z.isSome mx.isSome) es=sO (side,r))(hs:side):
  ∃v,(Instr.sliceAt t (ρv x) (lo.map ρv) (z.map ρv) (mx.map ρv)).run P w=.ok v w/\ZP g Z w L v r:=by
 simp only[ZHY]at u;cases u with
 |cons hx ht =>
  rename_i e es;cases e with
  |loc l o=>simp[qv]at j
  |when c e=>simp[qv]at j
  |d y =>simp only[qv]at j;split at j;rename_i l h m hl;simp only[ZHS,ZHR]at j;obtain⟨⟨s',r'⟩,i,rfl,rfl⟩:=j;obtain⟨b1,b2,b3⟩:=Zh8 ht hl;exact ZAE hu hsz hx b1 b2 b3 (by simpa using hmh) i hs;simp at j
def Zug{t el k n}(hu:P.underlying t=sO (.array k el))(hsz:Z2 P el=sO n){ρv x lo hi mx es}(hmh:mx.isSome=true->hi.isSome=true)(hes:ZO (ZP g Z w L) ((x::(Q9 lo++Q9 hi++Q9 mx)).map ρv) es){side r}(hq:qv L U (.sliceA k n lo.isSome hi.isSome mx.isSome) es=sO (side,r))(hs:side):
  ∃v,(Instr.sliceAt t (ρv x) (lo.map ρv) (hi.map ρv) (mx.map ρv)).run P w=.ok v w/\ZP g Z w L v r:=by
 simp only[ZHY]at hes;cases hes with
 |cons hx ht =>
  rename_i e es;cases e with
  |loc l o=>simp[qv]at hq
  |when c e=>simp[qv]at hq
  |d y =>
   cases y<;>(try(simp[qv]at hq;done));rename_i b o;simp only[qv]at hq;split at hq;rename_i l h m hl;simp only[ZHE,ZHR]at hq;obtain⟨rfl,rfl⟩:=hq;obtain⟨b1,b2,b3⟩:=Zh8 ht hl;obtain⟨h1,h2,h3,h4,h5⟩:=hs;have hb:=Zbf (P:=P) (is:=false) (n:=k) (cap:=k) b1 b2 b3 (by simpa using hmh) h1 h2 h3 h4;have j:ρv x=.pointer (sO ⟨b,o,nO⟩):=by have z:Rep g w (ρv x) (.ptr b o):=hx;generalize ρv x=xv at z;cases z;rfl
   have u:Rep g w (.slice (sO ⟨b,(if m.getD (k:Int)=l.getD 0 then o else o+(l.getD 0).toNat*n),nO⟩) (h.getD (k:Int)-l.getD 0).toNat (m.getD (k:Int)-l.getD 0).toNat)
     (.msl b (if m.getD (k:Int)=l.getD 0 then o else o+(l.getD 0).toNat*n) (h.getD (k:Int)-l.getD 0).toNat (m.getD (k:Int)-l.getD 0).toNat n):=.msl _ _ _ _ _ ω ω
   refine⟨_,?_,u⟩;have e1:(h.getD (k:Int)-l.getD 0).toNat=(h.getD (k:Int)).toNat-(l.getD 0).toNat:=ω;have e2:(m.getD (k:Int)-l.getD 0).toNat=(m.getD (k:Int)).toNat-(l.getD 0).toNat:=ω;by_cases hm:m.getD (k:Int)=l.getD 0;have i:(m.getD (k:Int)).toNat=(l.getD 0).toNat:=ω;simp only[Instr.sliceAt,j,Instr.sureAddr,Sem.run_bind,run_underlying hu,Result.andThen_ok,Sem.run_pure,hb,YY hsz,hm,if_true,e1,i];simp;have i:¬(m.getD (k:Int)).toNat=(l.getD 0).toNat:=ω;simp only[Instr.sliceAt,j,Instr.sureAddr,Sem.run_bind,run_underlying hu,Result.andThen_ok,Sem.run_pure,hb,YY hsz,hm,i,if_false,e1,e2,Kv];simp at hq
end
section
variable {P:Program} {g:G} {Z:Nat->Nat} {w:World} {L:Loc} {U:St}
def Zrg{s k f x e r side q}(hf:Zhx P s k=sO f)(u:(Zar P f.type=sO true/\∃n,Z2 P f.type=sO n/\q=.fldN f.offset n)\/(Zar P f.type=sO false/\q=.fld1 f.offset))(z:ZP g Z w L x e)(i:qv L U q [e]=sO (side,r))(hs:side):∃v,(Instr.field s x k).run P w=.ok v w/\ZP g Z w L v r:=by
 obtain⟨fs,hu,hk⟩:=Zrh hf;rcases u with ⟨j,n,hn,rfl⟩|⟨j,rfl⟩
 .cases e with
  |d y =>
   cases y<;>simp only[qv,reduceCtorEq,ZHE,ZHR]at i;obtain⟨rfl,rfl⟩:=i;cases z with
   |agg vs cells hl h one =>
    rename_i cs;refine⟨.agg (vs.toArray.extract f.offset (f.offset+n)),?_,?_⟩;simp[Instr.field,run_underlying hu,hk,asAgg,Go.part,Zgh j,YY hn];have:vs.toArray.extract f.offset (f.offset+n)=((vs.drop f.offset).take n).toArray:=by apply Array.ext';simp[List.extract_eq_take_drop,Nat.add_sub_cancel_left]
    rw[this];exact Zlx (by simpa[part]using((Yo hl h).drop f.offset).take n) (λv t=>one v (List.mem_of_mem_drop (List.mem_of_mem_take (by simpa using t))))
  |loc l o=>simp[qv]at i
  |when b e=>simp[qv]at i
 cases e with
 |d y =>
  cases y<;>simp only[qv,reduceCtorEq,ZHS,ZHR]at i;obtain⟨d,hd,rfl,rfl⟩:=i;cases z with
  |agg vs cells hl h one =>obtain⟨v,t,hr⟩:=Zct hl h hd;exact⟨v,by simp[Instr.field,run_underlying hu,hk,asAgg,Go.part,ZeV j,t],hr⟩
 |loc l o=>simp[qv]at i
 |when b e=>simp[qv]at i
def Zxl{t x i ex ei r side}(hu:P.underlying t=sO .string)(hx:ZP g Z w L x ex)(hi:ZP g Z w L i ei)(hq:qv L U .idxS [ex,ei]=sO (side,r))(hs:side):∃v,(Instr.index t x i).run P w=.ok v w/\ZP g Z w L v r:=by
 cases ex with
 |d y =>
  cases y<;>(try(simp[qv]at hq;done));rename_i s;cases ei with
  |d z =>
   cases z<;>simp only[qv,reduceCtorEq,ZHE,ZHR]at hq;rename_i k j;obtain⟨rfl,hin⟩:=QB hi;obtain⟨s0,rfl,e0,hb⟩:=Zlz hx;obtain⟨rfl,rfl⟩:=hq;obtain⟨h0,h1⟩:=hs;have hsz:s0.size=I s:=by rw[<-e0];rfl
   have u:j.toNat<s0.size:=ω;have n:s0[j.toNat]?=sO (s.getD j.toNat 0):=by
    have h3:j.toNat<I s:=ω;have:s0[j.toNat]?=s0.data.toList[j.toNat]?:=by rw[getElem?_pos s0 j.toNat u,Array.getElem?_toList,Array.getElem?_eq_getElem (show j.toNat<s0.data.size from u)];rfl
    rw[this,e0];simp[ZHU,ZIb h3]
   refine⟨_,?_,.int _ _ (Ztk _)⟩;simp[Instr.index,asIntOf,run_underlying hu,h0,n]
  |loc l o=>simp[qv]at hq
  |when b e=>simp[qv]at hq
 |loc l o=>cases ei<;>simp[qv]at hq
 |when b e=>cases ei<;>simp[qv]at hq
def Zxk{t e m n b x i ex ei r side}(hu:P.underlying t=sO (.array m e))(ha:Zar P e=sO b)(hsz:Z2 P e=sO n)(hx:ZP g Z w L x ex)(hi:ZP g Z w L i ei)(hq:qv L U (.idxA m n !b) [ex,ei]=sO (side,r))(hs:side):∃v,(Instr.index t x i).run P w=.ok v w/\ZP g Z w L v r:=by
 cases ex with
 |d y =>
  cases y<;>(try(cases b<;>simp[qv]at hq;done));rename_i cs;cases ei with
  |d z =>
   cases z<;>(try(cases b<;>simp[qv]at hq;done));rename_i k j;obtain⟨rfl,hin⟩:=QB hi;cases hx with
   |agg vs _ hn h one =>
   cases b with
   |false =>
    simp only[Bool.not_false,qv,ZHS,ZHR]at hq;obtain⟨d,hd,rfl,rfl⟩:=hq;obtain⟨h0,h1⟩:=hs;obtain⟨v,hv,hr⟩:=Zct hn h hd;refine⟨v,?_,hr⟩;simp only[Instr.index,asIntOf,Sem.run_bind,Sem.run_pure,Result.andThen_ok,run_underlying hu,YY hsz];rw[if_pos ⟨h0,h1⟩];have ac:vs.toArray[j.toNat*n]?=sO v:=by rw[List.getElem?_toArray];exact hv
    rw[Sem.run_bind,YY hsz];exact ZdJ ha ac
   |true =>
    simp only[Bool.not_true,qv,ZHE,ZHR]at hq;obtain⟨rfl,rfl⟩:=hq;obtain⟨h0,h1,h2⟩:=hs;have hlen:j.toNat*n+n<=I vs:=ω;refine⟨.agg (vs.toArray.extract (j.toNat*n) (j.toNat*n+n)),?_,?_⟩;simp only[Instr.index,asIntOf,Sem.run_bind,Sem.run_pure,Result.andThen_ok,run_underlying hu,YY hsz];rw[if_pos ⟨h0,h1⟩];simp[Go.part,Zgh ha,YY hsz];have:(vs.toArray.extract (j.toNat*n) (j.toNat*n+n))=((vs.drop (j.toNat*n)).take n).toArray:=by apply Array.ext';simp[List.extract_eq_take_drop]
    rw[this];have ab:part cs (j.toNat*n) n=(cs.drop (j.toNat*n)).take n:=rfl;rw[ab];have u:=(Yo hn h).drop (j.toNat*n) |>.take n;exact .agg _ _ u.len u.get (λv hv=>one v (List.mem_of_mem_drop (List.mem_of_mem_take hv)))
  |loc l o=>cases b<;>simp[qv]at hq
  |when c e=>cases b<;>simp[qv]at hq
 |loc l o=>cases ei<;>cases b<;>simp[qv]at hq
 |when c e=>cases ei<;>cases b<;>simp[qv]at hq
def Zxp{t ts x e r side}(ht:ts[0]?=sO t)(z:P.underlying t=sO .string)(u:ZP g Z w L x e)(j:qv L U .lenS [e]=sO (side,r))(ty):∃v,(Builtin.len_ ts ty #[x]).run P w=.ok v w/\ZP g Z w L v r:=by
 cases e with
 |d y =>
  cases y<;>simp only[qv,reduceCtorEq,ZHE,ZHR]at j;obtain⟨rfl,rfl⟩:=j;obtain⟨n,rfl,e0,hb⟩:=Zlz u;rename_i s;have i:n.size=I s:=by rw[<-e0];rfl
  refine⟨_,?_,.int _ _ (Qd hb)⟩;simp[Builtin.len_,ht,run_underlying z,goInt,i]
 |loc l o=>simp[qv]at j
 |when b e=>simp[qv]at j
def Zxn{t el ts x e r side}(u:ts[0]?=sO t)(j:P.underlying t=sO (.slice el))(z:ZP g Z w L x e)(i:qv L U .lenL [e]=sO (side,r))(ty):∃v,(Builtin.len_ ts ty #[x]).run P w=.ok v w/\ZP g Z w L v r:=by
 cases e with
 |d y =>
  cases y<;>simp only[qv,reduceCtorEq,ZHE,ZHR]at i;obtain⟨rfl,rfl⟩:=i;cases z;exact⟨_,by simp[Builtin.len_,u,run_underlying j,goInt],.int _ _ (Qd (n:=0) (Nat.zero_le _))⟩
  .obtain⟨rfl,rfl⟩:=i;cases z with
   |sl0=>exact⟨_,by simp[Builtin.len_,u,run_underlying j,goInt],.int _ _ (Qd (n:=0) (Nat.zero_le _))⟩
   |sl b o _ cap _ _ _ f hl hc hp hr one ht' hcap hbig =>exact⟨_,by simp[Builtin.len_,u,run_underlying j,goInt],.int _ _ (Qd ω)⟩
  obtain⟨rfl,rfl⟩:=i;cases z with
  |mslx=>exact⟨_,by simp[Builtin.len_,u,run_underlying j,goInt],.int _ _ (Qd (n:=0) (Nat.zero_le _))⟩
  |msl _ _ _ _ _ h1 h2=>exact⟨_,by simp[Builtin.len_,u,run_underlying j,goInt],.int _ _ (Qd ω)⟩
 |loc l o=>simp[qv]at i
 |when b e=>simp[qv]at i
def Zxm{t j n ts x e r side}(ht:ts[0]?=sO t)(z:P.underlying t=sO (.array n j))(i:qv L U (.lenA n) [e]=sO (side,r))(u:side)(ty):∃v,(Builtin.len_ ts ty #[x]).run P w=.ok v w/\ZP g Z w L v r:=by
 simp only[qv,ZHE,ZHR]at i;obtain⟨rfl,rfl⟩:=i;refine⟨.i n,?_,.int _ _ u⟩;simp only[Builtin.len_,ht];cases x<;>simp[run_underlying z,goInt]
def ZkJ{x y ex j r side}(mx:Bool)(u:ZP g Z w L x ex)(z:ZP g Z w L y j)(i:qv L U (if mx then .max else .min) [ex,j]=sO (side,r))(ts ty):
  ∃v,(if mx then Builtin.max_ ts ty #[x,y] else Builtin.min_ ts ty #[x,y]).run P w=.ok v w/\ZP g Z w L v r:=by
 cases ex with
 |d a =>
  cases a<;>(try(cases mx<;>simp[qv]at i;done));rename_i k n;cases j with
  |d b =>
   cases b<;>(try(cases mx<;>simp[qv]at i;done));rename_i k' m;obtain⟨rfl,h1⟩:=QB u;obtain⟨rfl,h2⟩:=QB z;cases mx
   .simp only[qv,ZIe,if_false]at i;split at i<;>(try(simp at i;done));rename_i t;subst t;simp only[ZHE,ZHR]at i;obtain⟨rfl,rfl⟩:=i;refine⟨.int k (Min.min n m),?_,.int _ _ ?_⟩;have:(if m<n then m else n)=Min.min n m:=by split<;>omega
    simp[Builtin.min_,Builtin.min2,this];unfold inR at *;omega
   simp only[qv,if_true]at i;split at i<;>(try(simp at i;done));rename_i t;subst t;simp only[ZHE,ZHR]at i;obtain⟨rfl,rfl⟩:=i;refine⟨.int k (Max.max n m),?_,.int _ _ ?_⟩;have:(if m > n then m else n)=Max.max n m:=by split<;>omega
   simp[Builtin.max_,Builtin.max2,this];unfold inR at *;omega
  |loc l o=>cases mx<;>simp[qv]at i
  |when b e=>cases mx<;>simp[qv]at i
 |loc l o=>cases mx<;>cases j<;>simp[qv]at i
 |when b e=>cases mx<;>cases j<;>simp[qv]at i
def ZrP{x t xt ok z e r side}(hu:∃d,P.underlying t=sO d/\∀ms,d≠.interface ms)(hz:Zea P t=sO z)(hx:ZP g Z w L x e)(hq:qv L U (.tassert t ok z) [e]=sO (side,r)):∃v,(Instr.typeAssert x xt t ok).run P w=.ok v w/\ZP g Z w L v r:=by
 obtain⟨d,hu,n⟩:=hu;have j:∃zv,(zeroValue t).run P w=.ok zv w/\Rep g w zv z:=by
  unfold Zea at hz;cases hi:P.info? t with
  |none=>simp[hi]at hz
  |some i =>
   cases u:i.zero with
   |none=>simp[hi,u]at hz
   |some zv=>simp only[hi,u]at hz;exact⟨zv,by simp[zeroValue,typeInfo,hi,u],ZjB hz⟩
 cases e with
 |d y =>
  cases y<;>(try(cases ok<;>simp[qv]at hq;done))
  .rename_i t' v';cases hx with
   |iface _ v _ hv =>
    cases ok;·simp only[qv]at hq;split at hq<;>(try(simp at hq;done));rename_i ab;subst ab;simp only[ZHE,ZHR]at hq;obtain⟨rfl,rfl⟩:=hq;refine⟨v,?_,hv⟩;simp only[Instr.typeAssert,Sem.run_bind,run_underlying hu,Result.andThen_ok];cases d<;>first|(simp;done)|(exact absurd rfl (n _))
    simp only[qv]at hq;split at hq<;>(try(simp at hq;done));rename_i ab;subst ab;simp only[ZHE,ZHR]at hq;obtain⟨rfl,rfl⟩:=hq;refine⟨.tuple #[v,.bool true],?_,?_⟩;·simp only[Instr.typeAssert,Sem.run_bind,run_underlying hu,Result.andThen_ok];cases d<;>first|(simp;done)|(exact absurd rfl (n _))
    exact .tup [v,.bool true] _ rfl (ZO.get (.cons hv (.cons (.bool true) .nil)))
  cases hx;cases ok;simp[qv]at hq;simp only[qv,ZHE,ZHR]at hq;obtain⟨rfl,rfl⟩:=hq;obtain⟨zv,h1,h2⟩:=j;refine⟨.tuple #[zv,.bool false],?_,?_⟩;·simp only[Instr.typeAssert,Sem.run_bind,run_underlying hu,Result.andThen_ok];cases d<;>first|(simp[h1];done)|(exact absurd rfl (n _))
  exact .tup [zv,.bool false] _ rfl (ZO.get (.cons h2 (.cons (.bool false) .nil)))
 |loc l o=>cases ok<;>simp[qv]at hq
 |when b e=>cases ok<;>simp[qv]at hq
end
section
variable {P:Program} {g:G} {w:World}
def Zch{t k}(h:QC P t=sO k):(k=.bool/\P.underlying t=sO .bool)\/(k=.int/\∃ik,P.underlying t=sO (.int ik))\/(k=.str/\P.underlying t=sO .string):=by
 unfold QC at h;split at h<;>simp at h<;>subst h<;>rename_i i;exact .inl ⟨rfl,i⟩;exact .inr (.inl ⟨rfl,_,i⟩);exact .inr (.inr ⟨rfl,i⟩)
def Ze2{t kp}(h:Zaz P t=sO kp):(∃k,kp=.sc k/\QC P t=sO k) \/
  ∃i l n,kp=.st l/\P.underlying t=sO (.struct i)/\Z2 P t=sO n/\KR P i.toList=sO l/\l.map (·.1)=ZHT n/\P.stoodInHeld t=false:=by
 unfold Zaz at h;split at h;rename_i k hk;simp at h;exact .inl ⟨k,h.symm,hk⟩;split at h<;>(try(simp at h;done));rename_i i n u hn;split at h<;>(try(simp at h;done));rename_i l z;split at h<;>simp at h;rename_i j;exact .inr ⟨i,l,n,h.symm,u,hn,z,j.1,j.2⟩
def Zmg{u kp}(hk:Zaz P u=sO kp){k1 k2 d1 z}(h1:Rep g w k1 d1)(h2:Rep g w k2 z){b}(h:KK kp d1 z=sO b):
  (Op.equal u k1 k2).run P w=.ok b w:=by
 rcases Ze2 hk with ⟨k,rfl,hs⟩|⟨fs,l,n,rfl,hu,hn,hl,_,t⟩;exact Zhb hs h1 h2 h 9999;cases h1<;>cases h2<;>simp only[KK,reduceCtorEq]at h;rename_i v1 xs j r1 o1 v2 ys i r2 o2;split at h<;>(try(simp at h;done));have hf:P.underlying u=sO (.struct (P.fieldsOf u)):=by simp[Program.fieldsOf,hu]
 refine(run_equalIn_struct w 9999 u _ _ hf t).trans ?_;simp only[Program.fieldsOf,hu];exact Zd0 j i r1 r2 9998 _ l b hl h
def Zdu(em n){vs:List Value}{ds}(hn:I vs=I ds):∀(fs l b),KR P fs=sO l->WC ds ds l=sO b ->
  (do
   for f in fs do
    if f.name ≠ "_" then Instr.checkKey em (n+1) f.type (<-Go.part f.type vs.toArray f.offset):Sem Unit).run P w=.ok () w
 | [],_,_,_,_=>by simp
 |f::fs,l,b,hl,hb=>by
  simp only[KR]at hl;by_cases z:f.name = "_";simp only[z,if_true]at hl;have:=Zdu em n hn fs l b hl hb;simp only[List.forIn_cons,z,ne_eq,not_true_eq_false,if_false,Sem.run_bind,Sem.run_pure,Result.andThen_ok]at this⊢;exact this;simp only[z,if_false]at hl;split at hl<;>simp only[ZHE,reduceCtorEq]at hl;rename_i k l' hk u;subst hl;simp only[WC]at hb;split at hb<;>(try(simp at hb;done));rename_i x y hx hy;split at hb<;>(try(simp at hb;done));rename_i b1 b2 hb1 t;have ih:=Zdu em n hn fs l' b2 u t;have i:f.offset<I vs:=by rw[hn];exact(List.getElem?_eq_some_iff.1 hx).1
  have hv:vs.toArray[f.offset]?=sO vs[f.offset]:=by simp[i]
  have hp:=ZdJ (P:=P) (w:=w) (Zb6 hk) hv;have j:(Instr.checkKey em (n+1) f.type vs[f.offset]).run P w=.ok () w:=by rcases Zch hk with ⟨_,hu⟩|⟨_,ik,hu⟩|⟨_,hu⟩<;>simp[Instr.checkKey,run_underlying hu]
  simp only[List.forIn_cons,z,ne_eq,not_false_eq_true,if_true,Sem.run_bind,hp,Result.andThen_ok,j,Sem.run_pure]at ih⊢;exact ih
def ZsJ{t kp}(hk:Zaz P t=sO kp){k d}(h:Rep g w k d)(i:QS kp d=true)(em n):(Instr.checkKey em (n+2) t k).run P w=.ok () w:=by
 rcases Ze2 hk with ⟨sk,rfl,hs⟩|⟨fs,l,m,rfl,j,z,hl,_,hst⟩;rcases Zch hs with ⟨_,j⟩|⟨_,ik,j⟩|⟨_,j⟩<;>simp[Instr.checkKey,run_underlying j];cases h<;>simp[QS,KK]at i;rename_i vs cells z r o;obtain⟨b,u⟩:=Option.isSome_iff_exists.1 i;split at u<;>(try(grind;done));have:=Zdu (P:=P) (w:=w) em n z fs.toList l b hl u;rw[Instr.checkKey];simp[run_underlying j];first
  | (simp at this;simp[this])
  |simp
def ZbU{j kp}(n:Zaz P j=sO kp){k d}(h:Rep g w k d)(i:QS kp d=true)(em):(Instr.checkKey em 10000 j k).run P w=.ok () w:=ZsJ n h i em 9998
def ZqK{kp k}:∀{es r},Zcb kp k es=sO r->∃j,Jv kp k es=sO j/\r=j.bind λi=>(es[i]?).map (·.2)
 | [],r,h=>by simp[Zcb]at h;exact⟨nO,rfl,h.symm⟩
 |e::es,r,h=>by simp[Zcb]at h;split at h;rename_i n;simp at h;exact⟨sO 0,by simp[Jv,n],by simp[h]⟩;rename_i n;obtain⟨j,t,u⟩:=ZqK h;refine⟨j.map (· + 1),by simp[Jv,n,t],?_⟩;rw[u];cases j<;>simp;grind
def Znk{kp:KP}{k v:D}:∀{es j:List (D×D)},ZaE kp k v es=sO j->∃n,Jv kp k es=sO n/\j=match n with
  |none=>es++[(k,v)]
  |some i=>es.set i (k,v)
 | [],j,h=>by simp[ZaE]at h;exact⟨nO,rfl,h.symm⟩
 |e::es,j,h=>by simp[ZaE]at h;split at h;rename_i t;simp at h;exact⟨sO 0,by simp[Jv,t],by simp[h]⟩;rename_i t;simp at h;obtain⟨r,u,rfl⟩:=h;obtain⟨n,z,h2⟩:=Znk u;refine⟨n.map (· + 1),by simp[Jv,t,z],?_⟩;rw[h2];cases n<;>simp;grind
def ZsW{kp:KP}{k:D}:∀{es j:List (D×D)},ZgP kp k es=sO j->∃n,Jv kp k es=sO n/\j=match n with
  |none=>es
  |some i=>es.eraseIdx i
 | [],j,h=>by simp only[ZgP,ZHE]at h;exact⟨nO,rfl,h.symm⟩
 |e::es,j,h=>by simp[ZgP]at h;split at h;rename_i t;simp at h;exact⟨sO 0,by simp[Jv,t],by simp[h]⟩;rename_i t;simp at h;obtain⟨r,u,rfl⟩:=h;obtain⟨n,z,h2⟩:=ZsW u;refine⟨n.map (· + 1),by simp[Jv,t,z],?_⟩;rw[h2];cases n<;>simp;grind
def ZdC{kp k}:∀{es i},Jv kp k es=sO (sO i)->i<I es/\∀e,es[i]?=sO e->KK kp k e.1=sO true
 | [],i,h=>by cases h
 |e::es,i,h=>by
  simp[Jv]at h;split at h;rename_i he;cases h;exact⟨ψ,λx n=>by cases n;exact he⟩
  .simp at h;obtain⟨t,h1,h2⟩:=h;cases t with
   |none=>grind
   |some j =>obtain⟨j',z,u⟩:=h2;cases z;subst u;obtain⟨a,b⟩:=ZdC h1;exact⟨by simp;omega,λx n=>b x (by simpa using n)⟩
  grind
def ZnV{kt kp}(z:Zaz P kt=sO kp){k dk}(t:Rep g w k dk):∀(es ds n io),I es=I ds ->
  (∀(i:Nat) (e d),es[i]?=sO e->ds[i]?=sO d->Rep g w e.key d.1)->Jv kp dk ds=sO io ->
  (Instr.findAsking kt k es n).run P w=.ok (io.bind λi=>(es[i]?).map λe=>(n+i,e.val)) w
 | [],[],n,io,_,_,h=>by cases h;simp[Instr.findAsking]
 |e::es,d::ds,n,io,hn,hkey,h=>by simp[Jv]at h;have h0:=hkey 0 e d ψ ψ;split at h;rename_i u;cases h;simp[Instr.findAsking,Zmg z t h0 u];rename_i u;simp at h;obtain⟨j,h1,rfl⟩:=h;have ih:=ZnV z t es ds (n+1) j (by simpa using hn) (λi e d a b=>hkey (i+1) e d (by simpa using a) (by simpa using b)) h1;simp[Instr.findAsking,Zmg z t h0 u,ih];cases j<;>simp[Nat.add_assoc,Nat.add_comm 1];grind
 | [],_::_,_,_,hn,_,_=>by grind
 |_::_,[],_,_,hn,_,_=>by grind
def ZoM{t k u}(hs:QC P t=sO k)(hu:P.underlying t=sO u){k1 k2 d1 z}(j:Rep g w k1 d1)(n:Rep g w k2 z){b}(h:Yv k d1 z=sO b):
  Instr.sameNow u k1 k2=sO b:=by
 rcases Zch hs with ⟨rfl,i⟩|⟨rfl,ik,i⟩|⟨rfl,i⟩<;>(rw[hu]at i;simp only[ZHE]at i;subst i);cases j<;>cases n<;>cases h;simp[Instr.sameNow];rename_i a b;cases a<;>cases b<;>rfl;cases j<;>cases n<;>simp only[Yv,reduceCtorEq]at h;split at h<;>simp only[reduceCtorEq,ZHE]at h;rename_i hk;subst h;simp only[Instr.sameNow,hk,if_true,ZHE];rename_i a _ _ b _;rw[Bool.eq_iff_iff];simp;cases j<;>cases n<;>simp only[Yv,reduceCtorEq,ZHE]at h;rename_i s1 a e1 _ s2 b e2 _;subst h;simp only[Instr.sameNow,ZHE];rw[beq_toListBytes,ZdS e1,ZdS e2,Bool.eq_iff_iff];simp
def ZnY{t sk u}(z:QC P t=sO sk)(hu:P.underlying t=sO u){k dk}(hr:Rep g w k dk):∀(es ds n io),I es=I ds ->
  (∀(i:Nat) (e d),es[i]?=sO e->ds[i]?=sO d->Rep g w e.key d.1)->Jv (.sc sk) dk ds=sO io ->
  Instr.findNow u k es n=sO (io.bind λi=>(es[i]?).map λe=>(n+i,e.val))
 | [],[],n,io,_,_,h=>by simp only[Jv,ZHE]at h;subst h;simp[Instr.findNow]
 |e::es,d::ds,n,io,hn,hkey,h=>by simp only[Jv]at h;have h0:=hkey 0 e d ψ ψ;split at h;rename_i he;simp only[ZHE]at h;subst h;simp[Instr.findNow,ZoM z hu hr h0 he];rename_i he;simp only[ZHS]at h;obtain⟨j,h1,rfl⟩:=h;have ih:=ZnY z hu hr es ds (n+1) j (by simpa using hn) (λi e d a b=>hkey (i+1) e d (by simpa using a) (by simpa using b)) h1;simp only[Instr.findNow,ZoM z hu hr h0 he,ih];cases j<;>simp[Nat.add_assoc,Nat.add_comm 1];simp at h
 | [],_::_,_,_,hn,_,_=>by simp at hn
 |_::_,[],_,_,hn,_,_=>by simp at hn
def Zc1{t kp}(hk:Zaz P t=sO kp){k dk}(hr:Rep g w k dk){es ds io}(hn:I es=I ds)(n:∀(i:Nat) (e:MapEntry) (d:D×D),es[i]?=sO e->ds[i]?=sO d->Rep g w e.key d.1)(h:Jv kp dk ds=sO io):
  (Instr.findKey t k es).run P w=.ok (io.bind λi=>(es[i]?).map λe=>(i,e.val)) w:=by
 rcases Ze2 hk with ⟨sk,rfl,z⟩|⟨fs,l,m,rfl,j,_,_,_,_⟩;obtain⟨u,j⟩:∃u,P.underlying t=sO u:=by rcases Zch z with ⟨_,j⟩|⟨_,ik,j⟩|⟨_,j⟩<;>exact⟨_,j⟩
 have:=ZnY z j hr es ds 0 io hn n h;simp[Instr.findKey,run_underlying j,this];have ha:=ZnV hk hr es ds 0 io hn n h;cases es with
 |nil =>
  cases ds with
  |nil=>cases h;simp[Instr.findKey,run_underlying j,Instr.findNow]
  |cons=>grind
 |cons e es =>
  have:Instr.findNow (.struct fs) k (e::es) 0=nO:=by simp[Instr.findNow,Instr.sameNow]
  simp[Instr.findKey,run_underlying j,this,ha]
def ZfE{U}(j:Yp g U w){b es}(h:Qe U b=sO es):W2 g w b (.map es):=by
 unfold Qe at h;split at h<;>simp at h;rename_i c i;subst h;exact j.obj b _ i
def Zun{t z}(n:Zea P t=sO z):∃zv,(zeroValue t).run P w=.ok zv w/\Rep g w zv z:=by
 unfold Zea at n;cases u:P.info? t with
 |none=>grind
 |some i =>
  cases j:i.zero with
  |none=>grind
  |some zv=>simp[u,j]at n;exact⟨zv,by simp[zeroValue,typeInfo,u,j],ZjB n⟩
def ZiF{a b x y}(j:Rep g w a x)(i:Rep g w b y):Rep g w (.tuple #[a,b]) (.tup [x,y]) :=
 .tup [a,b] _ rfl (ZO.get (.cons j (.cons i .nil)))
def Zuf{Z L U}(hS:Yp g U w){t kt et kp z ok}(hu:P.underlying t=sO (.map kt et))(hk:Zaz P kt=sO kp)(hz:Zea P et=sO z){m k em ek r side}(hm:ZP g Z w L m em)(hkk:ZP g Z w L k ek)(hq:qv L U (.lookup kp z ok) [em,ek]=sO (side,r))(hs:side):∃v,(Instr.lookup t m k ok).run P w=.ok v w/\ZP g Z w L v r:=by
 obtain⟨zv,ab,u⟩:=Zun (P:=P) (g:=g) (w:=w) hz;cases em with
 |loc l o=>cases ek<;>simp[qv]at hq
 |when c e=>cases ek<;>simp[qv]at hq
 |d dm =>
  cases ek with
  |loc l o=>cases dm<;>simp[qv]at hq
  |when c e=>cases dm<;>simp[qv]at hq
  |d dk =>
   have hr:Rep g w k dk:=hkk;cases dm<;>(try(simp[qv]at hq;done))
   .rename_i b;simp only[qv]at hq;split at hq<;>(try(simp at hq;done));rename_i es ai;simp only[ZHS,ZHR]at hq;obtain⟨ro,hf,rfl,rfl⟩:=hq;obtain⟨hp0,en,clock,hb,ad,h3,h4,h5,h6⟩:=ZfE hS ai;obtain⟨io,af,ac⟩:=ZqK hf;cases hm;have j:=Zc1 (P:=P) hk hr (es:=en.toList) (by simpa using ad) (λi e d a b=>h3 i e d (by simpa using a) b) af;have n:=ZbU (P:=P) hk hr hs en.isEmpty;cases io with
    |none =>subst ac;cases ok;exact⟨zv,by simp[Instr.lookup,run_underlying hu,MapKept.run_getObj_map hb,n,j,ab],by simpa[Wy,ZP]using u⟩;exact⟨.tuple #[zv,.bool false],by simp[Instr.lookup,run_underlying hu,MapKept.run_getObj_map hb,n,j,ab],by simpa[Wy,ZP]using ZiF u (.bool false)⟩
    |some i =>
     obtain⟨ah,_⟩:=ZdC af;have ag:i<en.size:=ω;have he:en[i]?=sO en[i]:=by simp[ag]
     have hd:es[i]?=sO es[i]:=by simp[ah]
     have ae:=h4 i _ _ he hd;simp[hd]at ac;subst ac;simp[he]at j;cases ok;exact⟨en[i].val,by simp[Instr.lookup,run_underlying hu,MapKept.run_getObj_map hb,n,j],by simpa[Wy,ZP]using ae⟩;exact⟨.tuple #[en[i].val,.bool true],by simp[Instr.lookup,run_underlying hu,MapKept.run_getObj_map hb,n,j],by simpa[Wy,ZP]using ZiF ae (.bool true)⟩
   cases hq;cases hm;have n:=ZbU (P:=P) hk hr hs true;have j:=Zc1 (P:=P) hk hr (es:=[]) (ds:=[]) rfl (λi e d a b=>by simp at a) (io:=nO) rfl;cases ok;exact⟨zv,by simp[Instr.lookup,run_underlying hu,n,j,ab],by simpa[Wy,ZP]using u⟩;exact⟨.tuple #[zv,.bool false],by simp[Instr.lookup,run_underlying hu,n,j,ab],by simpa[Wy,ZP]using ZiF u (.bool false)⟩
def Zxo{Z L U}(hS:Yp g U w){t kt et ts x e r side}(ht:ts[0]?=sO t)(hu:P.underlying t=sO (.map kt et))(z:ZP g Z w L x e)(u:qv L U .lenM [e]=sO (side,r))(hs:side)(ty):∃v,(Builtin.len_ ts ty #[x]).run P w=.ok v w/\ZP g Z w L v r:=by
 cases e with
 |loc l o=>cases u
 |when c e=>cases u
 |d y =>
  cases y<;>(try(cases u;done));·simp[qv]at u;split at u<;>(try(grind;done));rename_i es j;cases u;obtain⟨hp0,en,clock,hb,i,_⟩:=ZfE hS j;cases z;exact⟨.i (I es),by simp[Builtin.len_,ht,run_underlying hu,MapKept.run_getObj_map hb,goInt,i],.int _ _ (Qd hs)⟩
  cases u;cases z;exact⟨.i 0,by simp[Builtin.len_,ht,run_underlying hu,goInt],.int _ _ (Qd (n:=0) (Nat.zero_le _))⟩
end
section
variable {P:Program} {g:G} {Z:Nat->Nat} {w:World} {L:Loc} {U:St}
def ZuY{t}{parts:Array (Nat×Operand)}{z pl zs ρv es}(hz:(P.info? t).bind (·.zero)=sO z)(hp:QA P t (parts.toList.map (·.1))=sO pl)(hsz:ZkI P t=true)(hzs:ZbW z.cells.toList=sO zs)(hes:ZO (ZP g Z w L) ((parts.toList.map (·.2)).map ρv) es){side r}(hq:qv L U (.build zs pl) es=sO (side,r)):∃v,(Instr.build t (parts.map λ(i,x)=>(i,ρv x))).run P w=.ok v w/\ZP g Z w L v r:=by
 simp[qv]at hq;split at hq<;>(try(grind;done));rename_i ds n;simp only[ZHS]at hq;obtain⟨cs,u,rfl,rfl⟩:=hq;have ab:∃d,P.underlying t=sO d/\((∃fs,d=.struct fs)\/∃m e i,d=.array m e/\P.info? e=sO i):=by
  unfold ZkI at hsz;split at hsz;rename_i fs hu;exact⟨_,hu,.inl ⟨fs,rfl⟩⟩
  .rename_i m e hu;unfold Z2 at hsz;cases hi:P.info? e with
   |none=>grind
   |some i=>exact⟨_,hu,.inr ⟨m,e,i,rfl,hi⟩⟩
  grind
 have j:=Qp hes n;obtain⟨cv,h1,h2⟩:=Zzv (g:=g) (w:=w) (parts:=parts.toList.map λ(i,x)=>(i,ρv x)) hz (by simpa[Function.comp_def]using hp) hsz hzs
  (by simpa[Function.comp_def]using j) u ab
 refine⟨_,?_,h2⟩;rw[<-h1]
 congr 2
 apply Array.ext';simp
def Zxq{f}{first caps:Array Operand}{ρv es}(j:ZO (ZP g Z w L) ((first.toList++caps.toList).map ρv) es){side r}(u:qv L U (.mkfn f first.size) es=sO (side,r)):∃v,(Instr.makeFunc f (first.map ρv) (caps.map ρv)).run P w=.ok v w/\ZP g Z w L v r:=by
 simp only[qv,ZHS]at u;obtain⟨ds,i,rfl,rfl⟩:=u;have h:=Qp j i;have n:=h.take first.size
 have t:=h.drop first.size
 have e1:((first.toList++caps.toList).map ρv).take first.size=(first.map ρv).toList:=by simp
 have z:((first.toList++caps.toList).map ρv).drop first.size=(caps.map ρv).toList:=by simp
 rw[e1]at n;rw[z]at t;have:=Rep.fn (g:=g) (w:=w) f _ _ _ _ n.len t.len n.get t.get;exact⟨_,by simp only[Instr.makeFunc,Sem.run_pure],this⟩
def Za6{α:Type}{a:Array α}(h:a.size=1):∃x,a = #[x]:=by
 obtain⟨l⟩:=a
 match l,h with
 | [x],_=>exact⟨x,rfl⟩
def ZgG{α:Type}{a:Array α}(h:a.size=2):∃x y,a = #[x,y]:=by
 obtain⟨l⟩:=a
 match l,h with
 | [x,y],_=>exact⟨x,y,rfl⟩
def ZBC{o q xs}(hc:cq P o=sO (q,xs)){ρv es}(hes:ZO (ZP g Z w L) (xs.map ρv) es)(hL:∀l cs,Zj L l=sO cs->Wc g w (Z l) cs)(hS:Yp g U w){side e}(hq:qv L U q es=sO (side,e))(hs:side){dst ty pos af gd}:
  ∃v,(execOp ρv ⟨dst,o,ty,pos,af,gd⟩).run P w=.ok (.value v) w/\ZP g Z w L v e:=by
 cases o<;>(try(simp[cq]at hc;done));case move x =>simp only[cq,ZHE,ZHR]at hc;obtain⟨rfl,rfl⟩:=hc;obtain⟨e0,rfl,h0⟩:=WF hes;simp only[qv,ZHE,ZHR]at hq;obtain⟨rfl,rfl⟩:=hq;exact⟨_,rfl,h0⟩
 case assign x =>simp only[cq,ZHE,ZHR]at hc;obtain⟨rfl,rfl⟩:=hc;obtain⟨e0,rfl,h0⟩:=WF hes;simp only[qv,ZHE,ZHR]at hq;obtain⟨rfl,rfl⟩:=hq;exact⟨_,rfl,h0⟩
 case load t a =>simp only[cq]at hc;split at hc<;>(try(simp at hc;done));rename_i n ha j;simp only[ZHE,ZHR]at hc;obtain⟨rfl,rfl⟩:=hc;obtain⟨e0,rfl,h0⟩:=WF hes;exact ev (Zu2 ha j h0 hL hS hq hs);rename_i n ha j;simp only[ZHE,ZHR]at hc;obtain⟨rfl,rfl⟩:=hc;obtain⟨e0,rfl,h0⟩:=WF hes;exact ev (Zu1 ha h0 hL hS hq)
 case nilCheck x =>simp only[cq,ZHE,ZHR]at hc;obtain⟨rfl,rfl⟩:=hc;obtain⟨e0,rfl,h0⟩:=WF hes;exact Zu3 rfl h0 hq dst ty pos af gd
 case binOp op t x y yt =>
  simp only[cq,ZHE,ZHR]at hc;obtain⟨rfl,rfl⟩:=hc;obtain⟨e1,e2,rfl,h1,h2⟩:=Zas hes;cases e1 with
  |d a =>
   cases e2 with
   |d b =>simp only[qv,ZHS,ZHR]at hq;obtain⟨⟨s',d⟩,hd,rfl,rfl⟩:=hq;exact ev (ZA2 (P:=P) h1 h2 hd hs)
   |loc l o=>simp[qv]at hq
   |when b e=>simp[qv]at hq
  |loc l o=>cases e2<;>simp[qv]at hq
  |when b e=>cases e2<;>simp[qv]at hq
 case unOp op t x =>
  cases op<;>simp only[cq,ZHE,ZHR,reduceCtorEq]at hc;all_goals obtain⟨rfl,rfl⟩:=hc
  all_goals obtain⟨e0,rfl,h0⟩:=WF hes
  all_goals cases e0 with
   |loc l o=>simp[qv]at hq
   |when b e=>simp[qv]at hq
   |d y=>?_
  cases y<;>simp only[qv,reduceCtorEq,ZHE,ZHR]at hq;obtain⟨rfl,rfl⟩:=hq;obtain⟨hv,ah⟩:=QB h0;exact ev ⟨.int _ _,by simp only[hv,Op.unary,Op.intArith,Sem.run_pure,Int.zero_sub];rw[ZaN _ _ hs],.int _ _ hs⟩;cases y<;>simp only[qv,reduceCtorEq,ZHE,ZHR]at hq;obtain⟨rfl,rfl⟩:=hq;obtain⟨hv,ah⟩:=QB h0;exact ev ⟨_,by simp only[hv,Op.unary,Op.intBits,Sem.run_pure];rfl,.int _ _ ZlJ⟩;cases y<;>simp only[qv,reduceCtorEq,ZHE,ZHR]at hq;obtain⟨rfl,rfl⟩:=hq;have hv:=Zcs h0;exact ev ⟨_,by simp only[hv,Op.unary,Sem.run_pure],.bool _⟩
 case convert s d x =>simp only[cq,ZHS,ZHR]at hc;obtain⟨c,hc,rfl,rfl⟩:=hc;obtain⟨e0,rfl,h0⟩:=WF hes;exact ev (Zxj hS hc h0 hq hs)
 case fieldAddr s x k =>simp only[cq]at hc;split at hc<;>(try(simp at hc;done));rename_i f hf;split at hc<;>(try(simp at hc;done));rename_i n hn;split at hc<;>(try(simp at hc;done));rename_i ae;simp only[ZHE,ZHR]at hc;obtain⟨rfl,rfl⟩:=hc;obtain⟨e0,rfl,h0⟩:=WF hes;exact ev (ZuZ hf hn ae h0 hq)
 case field s x k =>simp only[cq]at hc;split at hc<;>(try(simp at hc;done));rename_i f hf;split at hc<;>(try(simp at hc;done));rename_i n ha hn;simp only[ZHE,ZHR]at hc;obtain⟨rfl,rfl⟩:=hc;obtain⟨e0,rfl,h0⟩:=WF hes;exact ev (Zrg hf (.inl ⟨ha,n,hn,rfl⟩) h0 hq hs);rename_i n ha hn;simp only[ZHE,ZHR]at hc;obtain⟨rfl,rfl⟩:=hc;obtain⟨e0,rfl,h0⟩:=WF hes;exact ev (Zrg hf (.inr ⟨ha,rfl⟩) h0 hq hs)
 case indexAddr t x i =>simp only[cq]at hc;split at hc<;>(try(simp at hc;done));rename_i el hu;simp only[ZHS,ZHR]at hc;obtain⟨n,hn,rfl,rfl⟩:=hc;obtain⟨e1,e2,rfl,h1,h2⟩:=Zas hes;exact ev (Zu0 hu hn h1 h2 hq hs);rename_i m el hu;simp only[ZHS,ZHR]at hc;obtain⟨n,hn,rfl,rfl⟩:=hc;obtain⟨e1,e2,rfl,h1,h2⟩:=Zas hes;exact ev (Zue hu hn h1 h2 hq hs)
 case index t x i =>simp only[cq]at hc;split at hc<;>(try(simp at hc;done));rename_i hu;simp only[ZHE,ZHR]at hc;obtain⟨rfl,rfl⟩:=hc;obtain⟨e1,e2,rfl,h1,h2⟩:=Zas hes;exact ev (Zxl hu h1 h2 hq hs);rename_i m el hu;split at hc<;>simp only[ZHE,ZHR,reduceCtorEq]at hc;rename_i b n hb hn;obtain⟨rfl,rfl⟩:=hc;obtain⟨e1,e2,rfl,h1,h2⟩:=Zas hes;exact ev (Zxk hu hb hn h1 h2 hq hs)
 case extract x k =>
  simp only[cq,ZHE,ZHR]at hc;obtain⟨rfl,rfl⟩:=hc;obtain⟨e0,rfl,h0⟩:=WF hes;cases e0 with
  |loc l o=>simp[qv]at hq
  |when b e=>simp[qv]at hq
  |d y =>
   cases y<;>simp only[qv,reduceCtorEq,ZHS,ZHR]at hq;obtain⟨d,hd,rfl,rfl⟩:=hq;have ad:Rep g w (ρv x) _:=h0;generalize hz:ρv x=z at ad;cases ad with
   |tup vs _ hn h =>obtain⟨v,hv,hr⟩:=Zct hn h hd;exact ev ⟨v,by simp[Instr.extract,hz,hv],hr⟩
 case build t parts =>simp only[cq]at hc;split at hc<;>(try(simp at hc;done));rename_i z pl hz hp;split at hc<;>(try(simp at hc;done));rename_i j;simp only[ZHS,ZHR]at hc;obtain⟨zs,ag,rfl,rfl⟩:=hc;exact ev (ZuY hz hp j ag hes hq)
 case makeFunc f first caps =>simp only[cq,ZHE,ZHR]at hc;obtain⟨rfl,rfl⟩:=hc;exact ev (Zxq hes hq)
 case makeInterface t x =>
  simp only[cq]at hc;split at hc<;>(try(simp at hc;done));rename_i d ab hu;simp only[ZHE,ZHR]at hc;obtain⟨rfl,rfl⟩:=hc;obtain⟨e0,rfl,h0⟩:=WF hes;cases e0 with
  |loc l o=>simp[qv]at hq
  |when b e=>simp[qv]at hq
  |d y =>simp only[qv,ZHE,ZHR]at hq;obtain⟨rfl,rfl⟩:=hq;refine ev ⟨.iface t (ρv x),?_,.iface _ _ _ h0⟩;refine run_makeInterface w t (ρv x) ?_;unfold Program.concrete;rw[hu];cases d<;>first|rfl|(exact absurd rfl (ab _))
 case slice t x lo hi mx =>
  simp only[cq]at hc;split at hc<;>(try(simp at hc;done))
  .rename_i hu;split at hc<;>(try(simp at hc;done));rename_i u;simp only[ZHE,ZHR]at hc;obtain⟨rfl,rfl⟩:=hc;cases mx with
   |some _=>simp at u
   |none=>exact ev (Zuh hu hes hq hs)
  .rename_i el hu;split at hc<;>(try(simp at hc;done));rename_i u;simp only[ZHS,ZHR]at hc;obtain⟨n,hn,rfl,rfl⟩:=hc;exact ev (Zu4 hu hn (by cases mx<;>cases hi<;>simp_all) hes hq hs)
  rename_i k el hu;split at hc<;>(try(simp at hc;done));rename_i u;simp only[ZHS,ZHR]at hc;obtain⟨n,hn,rfl,rfl⟩:=hc;exact ev (Zug hu hn (by cases mx<;>cases hi<;>simp_all) hes hq hs)
 case typeAssert x xt t ok =>simp only[cq]at hc;split at hc<;>(try(simp at hc;done));rename_i d ab hu;simp only[ZHS,ZHR]at hc;obtain⟨z,hz,rfl,rfl⟩:=hc;obtain⟨e0,rfl,h0⟩:=WF hes;exact ev (ZrP ⟨d,hu,λms hm=>ab ms (hm▸rfl)⟩ hz h0 hq)
 case lookup t m k ok =>simp only[cq]at hc;split at hc<;>(try(simp at hc;done));rename_i kt et hu;split at hc<;>(try(simp at hc;done));rename_i kp z hk hz;simp only[ZHE,ZHR]at hc;obtain⟨rfl,rfl⟩:=hc;obtain⟨e1,e2,rfl,h1,h2⟩:=Zas hes;exact ev (Zuf hS hu hk hz h1 h2 hq hs)
 case call c =>
  obtain⟨callee,args,ac⟩:=c;simp only[cq]at hc;split at hc<;>(try(simp at hc;done))
  .split at hc<;>(try(simp at hc;done));·rename_i hu;simp only[Option.bind_eq_some_iff]at hu;obtain⟨t,ht,hu⟩:=hu;split at hc<;>(try(simp at hc;done));rename_i j;obtain⟨x,rfl⟩:=Za6 j;simp only[ZHE,ZHR]at hc;obtain⟨rfl,rfl⟩:=hc;obtain⟨e0,rfl,h0⟩:=WF hes;obtain⟨v,r1,r2⟩:=Zxp ht hu h0 hq ty;exact⟨v,by simp[execOp,resolve,invoke,builtin,r1],r2⟩
   .rename_i el hu;simp only[Option.bind_eq_some_iff]at hu;obtain⟨t,ht,hu⟩:=hu;split at hc<;>(try(simp at hc;done));rename_i j;obtain⟨x,rfl⟩:=Za6 j;simp only[ZHE,ZHR]at hc;obtain⟨rfl,rfl⟩:=hc;obtain⟨e0,rfl,h0⟩:=WF hes;obtain⟨v,r1,r2⟩:=Zxn ht hu h0 hq ty;exact⟨v,by simp[execOp,resolve,invoke,builtin,r1],r2⟩
   .rename_i n el hu;simp only[Option.bind_eq_some_iff]at hu;obtain⟨t,ht,hu⟩:=hu;split at hc<;>(try(simp at hc;done));rename_i j;obtain⟨x,rfl⟩:=Za6 j;simp only[ZHE,ZHR]at hc;obtain⟨rfl,rfl⟩:=hc;obtain⟨e0,rfl,h0⟩:=WF hes;obtain⟨v,r1,r2⟩:=Zxm (x:=ρv x) ht hu hq hs ty;exact⟨v,by simp[execOp,resolve,invoke,builtin,r1],r2⟩
   rename_i kt el hu;simp only[Option.bind_eq_some_iff]at hu;obtain⟨t,ht,hu⟩:=hu;split at hc<;>(try(simp at hc;done));rename_i j;obtain⟨x,rfl⟩:=Za6 j;simp only[ZHE,ZHR]at hc;obtain⟨rfl,rfl⟩:=hc;obtain⟨e0,rfl,h0⟩:=WF hes;obtain⟨v,r1,r2⟩:=Zxo hS ht hu h0 hq hs ty;exact⟨v,by simp[execOp,resolve,invoke,builtin,r1],r2⟩
  .split at hc<;>(try(simp at hc;done));rename_i j;obtain⟨x,y,rfl⟩:=ZgG j;simp only[ZHE,ZHR]at hc;obtain⟨rfl,rfl⟩:=hc;obtain⟨e1,e2,rfl,h1,h2⟩:=Zas hes;obtain⟨v,r1,r2⟩:=ZkJ (P:=P) false h1 h2 hq ac ty;simp at r1;exact⟨v,by simp[execOp,resolve,invoke,builtin,r1],r2⟩
  split at hc<;>(try(simp at hc;done));rename_i j;obtain⟨x,y,rfl⟩:=ZgG j;simp only[ZHE,ZHR]at hc;obtain⟨rfl,rfl⟩:=hc;obtain⟨e1,e2,rfl,h1,h2⟩:=Zas hes;obtain⟨v,r1,r2⟩:=ZkJ (P:=P) true h1 h2 hq ac ty;simp at r1;exact⟨v,by simp[execOp,resolve,invoke,builtin,r1],r2⟩
end
def QR(n:Nat):List Nat->Bool
 | []=>true
 |i::r=>i<n&&!r.contains i&&QR n r
def ck(P:Program)(op:Op):Option K :=
 match cq P op with
 |some (q,xs)=>(ZcX xs).map (K.q q)
 |none =>
  match op with
  |.pick c a b=>match Z6 c,Z6 a,Z6 b with
   |some c,sO a,sO b=>sO (.pick c a b)
   |_,_,_=>nO
  |.alloc e=>(Za8 P e).map .alloc
  |.box _ x=>(Z6 x).map .box
  |.buildSlice t len parts=>match P.underlying t with
   |some (.slice e)=>match Z2 P e,Za8 P e,ZcX (parts.toList.map (·.2)) with
    |some s,sO z,sO xs =>
     if QR len (parts.toList.map (·.1))&&dC (I z=s)&&dC (0<s)&&dC (len*s<=2 ^ 24) then sO (.bsl len s z (parts.toList.map (·.1)) xs) else nO
    |_,_,_=>nO
   |_=>nO
  |.convert s d x=>match P.underlying s,P.underlying d with
   |some .string,sO (.slice e)=>match P.underlying e with
    |some (.int .u8)=>(Z6 x).map .s2b
    |_=>nO
   |_,_=>nO
  |.store t a v=>match Zar P t,Z2 P t,Z6 a,Z6 v with
   |some true,sO n,sO a,sO v=>sO (.storeN n a v)
   |some false,sO 1,sO a,sO v=>sO (.store1 a v)
   |_,_,_,_=>nO
  |.makeMap _ nO=>sO .mkmap
  |.mapUpdate t m k x|.insert t m k x=>match P.underlying t with
   |some (.map kt _)=>match Zaz P kt,Z6 m,Z6 k,Z6 x with
    |some kp,sO m,sO k,sO x=>sO (.mapupd kp m k x)
    |_,_,_,_=>nO
   |_=>nO
  |.mapEntry t m k=>match P.underlying t with
   |some (.map kt e)=>match Zaz P kt,Zea P e,Z6 m,Z6 k with
    |some kp,sO z,sO m,sO k=>sO (.mapent kp z m k)
    |_,_,_,_=>nO
   |_=>nO
  |.entryStore _ m k x=>match Z6 m,Z6 k,Z6 x with
   |some m,sO k,sO x=>sO (.entst m k x)
   |_,_,_=>nO
  |.panic x=>(Z6 x).map .panic
  |.defer c=>match c.callee with
   |.value f=>match Z6 f,ZcX c.args.toList with
    |some f,sO xs=>sO (.defer f xs)
    |_,_=>nO
   |_=>nO
  |.makeSlice t l c=>match P.underlying t with
   |some (.slice e)=>match Z2 P e,Za8 P e,Z6 l,Z6 c with
    |some s,sO z,sO l,sO c=>if dC (0<s)&&dC (I z=s) then sO (.mkslice e s (P.bytesOf e) z l c) else nO
    |_,_,_,_=>nO
   |_=>nO
  |.call c=>match c.callee with
   |.value f=>match Z6 f,ZcX c.args.toList with
    |some f,sO xs=>sO (.call f xs)
    |_,_=>nO
   |.builtin .append=>match c.argTypes[0]?.bind P.underlying,c.argTypes[1]?.bind P.underlying,c.args.toList with
    |some (.slice e),sO t2,[x,y]=>match Z2 P e,Za8 P e,Z6 x,Z6 y with
     |some s,sO z,sO x,sO y =>
      match t2 with
      |.slice _|.string=>if dC (0<s)&&dC (I z=s) then sO (.append e s (P.bytesOf e) z x y) else nO
      |_=>nO
     |_,_,_,_=>nO
    |_,_,_=>nO
   |.builtin .recover=>sO .recover
   |.builtin .delete=>match c.argTypes[0]?.bind P.underlying,c.args.toList with
    |some (.map kt _),[m,k]=>match Zaz P kt,Z6 m,Z6 k with
     |some kp,sO m,sO k=>sO (.delete kp m k)
     |_,_,_=>nO
    |_,_=>nO
   |.builtin .clear=>match c.argTypes[0]?.bind P.underlying,c.args.toList with
    |some (.slice e),[x]=>match Z2 P e,Za8 P e,Z6 x with
     |some s,sO z,sO x=>if dC (0<s)&&dC (I z=s) then sO (.clear s z x) else nO
     |_,_,_=>nO
    |_,_=>nO
   |.builtin .copy=>match c.argTypes[0]?.bind P.underlying,c.args.toList with
    |some (.slice e),[x,y]=>match Z2 P e,Z6 x,Z6 y with
     |some s,sO x,sO y=>if dC (0<s) then sO (.copy s x y) else nO
     |_,_,_=>nO
    |_,_=>nO
   |_=>nO
  |_=>nO
def Zjz(ops:Array Oper):Option (Nat×Bool)->Option (Option (Nat×Bool))
 |none=>sO nO
 |some (j,b)=>match (ops[j]?).bind (·.dst) with
  |some t=>sO (sO (t,b))
  |none=>nO
def cop(P:Program)(N:Nat)(ops:Array Oper)(o:Oper):Option DOp :=
 match ck P o.op,Zjz ops o.guard with
 |some k,sO g =>
  match o.dst with
  |none=>sO ⟨nO,g,k⟩
  |some d=>if d<N then sO ⟨sO d,g,k⟩ else nO
 |_,_=>nO
def JV(P:Program)(N:Nat)(ops:Array Oper):List Nat->Option (List DOp)
 | []=>sO []
 |i::r=>match ops[i]? with
  |some o=>match cop P N ops o,JV P N ops r with
   |some d,sO ds=>sO (d::ds)
   |_,_=>nO
  |none=>nO
abbrev Ann:=List (Nat×List Nat)
def Ann.get:Ann->Nat->Option (List Nat)
 | [],_=>nO
 | (k,l)::r,n=>if k=n then sO l else Ann.get r n
def ZV:Opd->List Nat
 |.tmp t=>[t]
 |.cst _=>[]
def ZbH(xs:List Opd):List Nat:=xs.flatMap ZV
def Yl:K->List Nat
 |.q _ xs=>ZbH xs
 |.pick c a b=>ZV c++ZV a++ZV b
 |.alloc _|.mkmap|.recover=>[]
 |.box x|.s2b x|.panic x=>ZV x
 |.bsl _ _ _ _ xs=>ZbH xs
 |.store1 a v|.storeN _ a v=>ZV a++ZV v
 |.call f xs|.defer f xs=>ZV f++ZbH xs
 |.append _ _ _ _ x y=>ZV x++ZV y
 |.mapupd _ m k v=>ZV m++ZV k++ZV v
 |.mapent _ _ m k=>ZV m++ZV k
 |.entst m e v=>ZV m++ZV e++ZV v
 |.mkslice _ _ _ _ l c=>ZV l++ZV c
 |.delete _ m k=>ZV m++ZV k
 |.clear _ _ x=>ZV x
 |.copy _ x y=>ZV x++ZV y
 |.fork k=>Yl k
def ZbX:Option (Nat×Bool)->List Nat
 |none=>[]
 |some (t,_)=>[t]
def ZB(o:DOp):List Nat:=ZbX o.guard++Yl o.k
def Wj:K->Bool
 |.q _ _|.pick _ _ _|.bsl _ _ _ _ _|.s2b _|.alloc _|.fork _=>true
 |_=>false
def pqK:K->Bool
 |.q _ _|.pick _ _ _|.bsl _ _ _ _ _|.s2b _|.alloc _=>true
 |_=>false
def Zc5:K->Bool
 |.q .load1 _|.q (.loadN _) _=>true
 |_=>false
def Wb:K->Bool
 |.q .load1 _|.q (.loadN _) _|.q (.lookup _ _ _) _|.q .lenM _|.q (.conv .b2s) _=>true
 |_=>false
def ZeE:K->Bool
 |.store1 _ _|.storeN _ _ _=>true
 |_=>false
def Zwf:K->Bool
 |.alloc _|.fork _=>false
 |_=>true
instance:Inhabited DOp:=⟨⟨nO,nO,.mkmap⟩⟩
abbrev Tab:=List (DOp×List Nat)
def Tab.op(T:Tab)(i:Nat):DOp:=(T.getD i dE).1
def Tab.deps(T:Tab)(i:Nat):List Nat:=(T.getD i dE).2
def nd(d:Option Nat)(l:List Nat):Bool :=
 match d with
 |some t=>!l.contains t
 |none=>true
def ndd:Option Nat->Option Nat->Bool
 |some t,sO u=>t != u
 |_,_=>true
def Zc6(bs:List Nat):List Nat->Nat
 | []=>0
 |d::ds=>(bs.getD d 0 |||(1 <<< d)) |||Zc6 bs ds
def Zgu:List (List Nat)->List Nat->List Nat
 | [],acc=>acc
 |d::r,acc=>Zgu r (acc++[Zc6 acc d])
def Zdv(T:Tab)(A:List Nat)(i:Nat):Bool :=
 pqK (T.op i).k&&nd (T.op i).dst (ZB (T.op i))&&A.all λa=>nd (T.op i).dst (ZB (T.op a))&&ndd (T.op i).dst (T.op a).dst
def Zcx(o:DOp):Nat:=o.dst.getD 0
def ZaS(n:Nat):List Nat->Bool
 | []=>false
 |a::l=>a==n ||ZaS n l
def ZjA(T:Tab)(fl:List Nat)(free rest:List Nat)(i:Nat):Bool :=
 Zwf (T.op i).k&&(rest.all λr=>(T.deps r).any λd=>(i::rest).contains d) &&
  free.all λa=>nd (T.op i).dst (ZB (T.op a))&&ndd (T.op i).dst (T.op a).dst&&(ZaS (Zcx (T.op a)) fl||!Wb (T.op a).k)
def chk(T:Tab)(ms:List Nat)(fl:Nat->List Nat):List Nat->List Nat->Bool
 |_,[]=>true
 |A,i::rest =>
  let free:=A.filter λa=>!(ms.getD i 0).testBit a
  dC (i<T.length)&&((T.deps i).all λd=>!(i::rest).contains d)&&!rest.contains i&&(free.all λa=>nd (T.op a).dst (ZB (T.op i))) &&
   if Zdv T A i then chk T ms fl (i::A) rest else ZjA T (fl i) free rest i&&chk T ms fl free rest
def Zvj(T:Tab)(fl:List Nat)(free:List Nat)(i:Nat):Bool :=
 Zwf (T.op i).k&&!Wj (T.op i).k&&(free.all λa=>nd (T.op a).dst (ZB (T.op i)))&&free.all λa=>nd (T.op i).dst (ZB (T.op a))&&ndd (T.op i).dst (T.op a).dst&&(ZaS (Zcx (T.op a)) fl||!Wb (T.op a).k)
def ZBe(T:Tab)(ms:List Nat)(fl:Nat->List Nat)(A:List Nat)(i j:Nat)(rest:List Nat):Bool :=
 let fi:=A.filter λa=>!(ms.getD i 0).testBit a;let fj:=A.filter λa=>!(ms.getD j 0).testBit a
 dC (i<T.length)&&dC (j<T.length)&&((T.deps i).all λd=>!(i::j::rest).contains d)&&((T.deps j).all λd=>!(i::j::rest).contains d)&&(i != j)&&!rest.contains i&&!rest.contains j &&
  (rest.all λr=>(T.deps r).any λd=>(i::j::rest).contains d)&&Zvj T (fl i) fi i&&Zvj T (fl j) fj j &&
  chk T ms fl fi (j::rest)&&chk T ms fl fj (i::rest)
def Zei(T:Tab)(ms:List Nat)(fl:Nat->List Nat)(fk:Option Nat):List Nat->List Nat->Bool
 |_,[]=>true
 |A,i::rest =>
  if fk=sO i then match rest with
   |j::rest'=>ZBe T ms fl A i j rest'
   | []=>false
  else
   let free:=A.filter λa=>!(ms.getD i 0).testBit a
   dC (i<T.length)&&((T.deps i).all λd=>!(i::rest).contains d)&&!rest.contains i&&(free.all λa=>nd (T.op a).dst (ZB (T.op i))) &&
    if Zdv T A i then Zei T ms fl fk (i::A) rest else ZjA T (fl i) free rest i&&Zei T ms fl fk free rest
def ZCZ(o:DOp):DOp:={ o with k:=.fork o.k }
def Tab.mk(T:Tab)(fk:Option Nat)(i:Nat):DOp:=if fk=sO i then ZCZ (T.op i) else T.op i
def Zaf(o:Oper):List Nat:=(o.after.toList.filter (Region.binds .any ·)).map (·.on)
def ZnN:Nat->List (List Nat)->Bool
 |_,[]=>true
 |i,d::r=>d.all (λx=>dC (x<i))&&ZnN (i+1) r
def ZyJ(n:Nat)(order:List Nat):Bool:=(ZHT n).all order.contains
def ZzN(an:Ann)(id:Nat):Option Nat :=
 match an.get (id+3000000) with
 |some (i::_)=>sO i
 |_=>nO
def ccD(P:Program)(an:Ann)(N:Nat)(id:Nat)(ops:Array Oper):Option (List Nat×List (DOp×List Nat)×Option (List Nat)) :=
 match JV P N ops (ZHT ops.size),an.get (id+1000000),an.get id with
 |some l,sO order,sO kp =>
  let fl:=λi=>(an.get (id+1000000*(i+4))).getD [];let ds:=ops.toList.map Zaf;let T:Tab:=l.zip ds
  if P.follows .mixedOrders&&ZnN 0 ds&&ZyJ ops.size order&&Zei T (Zgu ds []) fl (ZzN an id) [] order then sO (order,order.map λi=>(T.mk (ZzN an id) i,fl i),sO kp) else nO
 |_,_,_=>nO
def cc(P:Program)(an:Ann)(N:Nat):Code->Option DC
 |.skip=>sO .skip
 |.region id ops true=>(ccD P an N id ops).map λx=>.regD x.1 x.2.1 x.2.2
 |.region id ops false=>(JV P N ops (ZHT ops.size)).map λl=>.reg l (an.get id)
 |.seq a b=>match cc P an N a,cc P an N b with
  |some x,sO y=>sO (.seq x y)
  |_,_=>nO
 |.cond c a b=>match Z6 c,cc P an N a,cc P an N b with
  |some c,sO x,sO y=>sO (.cond c x y)
  |_,_,_=>nO
 |.block id a=>(cc P an N a).map (.block id)
 |.loop a=>(cc P an N a).map .loop
 |.exit id=>sO (.exit id)
 |.ret=>sO .ret
 |.scope a=>(cc P an N a).map .scope
 |.label l=>sO (.label l)
 |.goto l=>sO (.goto l)
 |.rangeFunc f params a b=>match Z6 f,cc P an N a,cc P an N b with
  |some f,sO x,sO y=>if params.toList.all (· < N) then sO (.rangeF f params.toList x y) else nO
  |_,_,_=>nO
 |_=>nO
inductive RV where
 |tmp (t:Nat)|cell1 (t:Nat)|cellN (t n:Nat)
def crv(P:Program):ResultVar->Option RV
 |.tmp t=>sO (.tmp t)
 |.cell a t=>match Zar P t,Z2 P t with
  |some true,sO n=>sO (.cellN a n)
  |some false,sO _=>sO (.cell1 a)
  |_,_=>nO
def ZjD(P:Program):List ResultVar->Option (List RV)
 | []=>sO []
 |r::rs=>match crv P r,ZjD P rs with
  |some x,sO xs=>sO (x::xs)
  |_,_=>nO
structure DF where
 n:Nat
 res:List RV
 body:DC
def cf(P:Program)(an:Ann)(f:FuncId):Option DF :=
 match P.funcs[f]? with
 |some fn=>match fn.body with
  |some c=>if fn.name == "runtime.NumGoroutine" then nO else
   match ZjD P fn.results.toList,cc P an fn.ntmps c with
   |some rs,sO d=>sO ⟨fn.ntmps,rs,d⟩
   |_,_=>nO
  |none=>nO
 |none=>nO
def ZbO:Bool->Bool->Bool
 |b,true=>b
 |b,false=>!b
def Zo(H:Env):Option (Nat×Bool)->Option Bool
 |none=>sO true
 |some (t,want)=>match ZS H t with
  |some (.d (.bool b))=>sO (ZbO b want)
  |some (.when c (.d (.bool b)))=>sO (c&&ZbO b want)
  |_=>nO
def ZD(H:Env)(c:Bool):Opd->Option (Prop×E)
 |.cst d=>sO (True,.d d)
 |.tmp t=>match ZS H t with
  |some (.when c' e)=>sO (c=true->c'=true,e)
  |some e=>sO (True,e)
  |none=>nO
def Yg(H:Env)(c:Bool):List Opd->Option (Prop×List E)
 | []=>sO (True,[])
 |x::xs=>match ZD H c x,Yg H c xs with
  |some (p,e),sO (q,es)=>sO (p/\q,e::es)
  |_,_=>nO
def Zz(H:Env)(dst:Option Nat)(e:E):Env :=
 match dst with
 |some t=>(t,e)::H
 |none=>H
inductive SR where
 |ok (side:Prop) (H:Env) (L:Loc) (s:St)
 |all (side:Prop) (pre:Nat->Prop) (H:Nat->Env) (s:Nat->St)
 |stop
def ZaR(L:Loc)(l:Nat):Bool:=(Zj L l).isSome
def Zd7(H:Env)(c:Bool)(x a b:Opd):Option (Prop×Bool) :=
 match ZD H c x with
 |some (p,.d (.bool v)) =>
  match ZD H (c&&v) a,ZD H (c&&!v) b with
  |some (pa,.d (.bool y)),sO (pb,.d (.bool z))=>sO (p/\pa/\pb,if v then y else z)
  |_,_=>nO
 |_=>nO
def ZY(zero:List D)(ps:List (Nat×D))(i:Nat):List D :=
 match ps with
 | []=>zero
 | (k,d)::r=>if k=i then cellsOf d else ZY zero r i
def Qz(s:Nat):List D->Bool
 | []=>true
 |d::r=>Km d&&dC ((cellsOf d).length=s)&&Qz s r
def K2(z:List D)(n:Nat):List D:=(List.replicate n z).flatten
def Qr(H:Env)(L:Loc)(s:St)(p q ok:Prop)(a:E)(n:Nat)(xs:List D):SR :=
 match a with
 |.loc l off=>match Zj L l with
  |some cs=>.ok (p/\q/\off+n<=I cs/\ok) H ((l,Zq cs off xs)::L) s
  |none=>.stop
 |.d (.ptr b off)=>match Ye s b with
  |some cs=>.ok (p/\q/\off+n<=I cs/\ok) H L (s.upd b (.cells (Zq cs off xs)))
  |none=>.stop
 |_=>.stop
def ZeJ(kp:KP)(k z:D):List (D×D)->Option D
 | []=>sO z
 |e::r=>match KK kp k e.1 with
  |some true=>sO e.2
  |some false=>ZeJ kp k z r
  |none=>nO
def ZG(o:DOp)(H:Env)(L:Loc)(s:St):SR :=
 match Zo H o.guard with
 |none=>.stop
 |some c =>
  match o.k with
  |.q q xs=>match Yg H c xs with
   |some (p,es)=>match qv L s q es with
    |some (side,e)=>match o.guard with
     |none=>.ok (p/\side) (Zz H o.dst e) L s
     |some _=>.ok (c=true->p/\side) (Zz H o.dst (.when c e)) L s
    |none=>.stop
   |none=>.stop
  |.pick x a b=>match Zd7 H c x a b with
   |some (p,v)=>match o.guard with
    |none=>.ok p (Zz H o.dst (.d (.bool v))) L s
    |some _=>.ok (c=true->p) (Zz H o.dst (.when c (.d (.bool v)))) L s
   |none=>.stop
  |.alloc z=>match o.guard,o.dst with
   |none,sO t=>.ok (ZaR L t=false) ((t,.loc t 0)::H) ((t,z)::L) s
   |_,_=>.stop
  |.box x=>match o.guard,o.dst,ZD H true x with
   |none,sO t,sO (p,.d v)=>.ok (p/\ZaR L t=false/\Km v=true) ((t,.loc t 0)::H) ((t,cellsOf v)::L) s
   |_,_,_=>.stop
  |.bsl len n z is xs=>match Yg H c xs with
   |some (p,es)=>match Kk es with
    |some ds=>match o.guard with
     |none=>.ok (p/\Qz n ds=true) (Zz H o.dst (.d (.sl .full len n (ZY z (is.zip ds))))) L s
     |some _=>.ok (c=true->p/\Qz n ds=true) (Zz H o.dst (.when c (.d (.sl .full len n (ZY z (is.zip ds)))))) L s
    |none=>.stop
   |none=>.stop
  |.s2b x=>match ZD H c x with
   |some (p,.d (.str l))=>match o.guard with
    |none=>.ok p (Zz H o.dst (.d (.sl .none (I l) 1 (λi=>[.int .u8 ((l.getD i 0).toNat:Int)])))) L s
    |some _=>.ok (c=true->p) (Zz H o.dst (.when c (.d (.sl .none (I l) 1 (λi=>[.int .u8 ((l.getD i 0).toNat:Int)]))))) L s
   |_=>.stop
  |.store1 a v=>match o.guard,o.dst,ZD H true a,ZD H true v with
   |none,nO,sO (p,a),sO (q,.d x)=>Qr H L s p q (Qm x=true) a 1 [x]
   |_,_,_,_=>.stop
  |.storeN n a v=>match o.guard,o.dst,ZD H true a,ZD H true v with
   |none,nO,sO (p,a),sO (q,.d (.agg xs))=>Qr H L s p q (I xs=n) a n xs
   |_,_,_,_=>.stop
  |.mkmap=>match o.guard,o.dst with
   |none,sO t=>.all True (λb=>s b=nO) (λb=>(t,.d (.map b))::H) (λb=>s.upd b (.map []))
   |_,_=>.stop
  |.mkslice _ n bytes z l h=>match o.guard,o.dst,ZD H true l,ZD H true h with
   |none,sO t,sO (p,.d (.int _ l)),sO (q,.d (.int _ h)) =>
    .all (p/\q/\0<=l/\l<=h/\(bytes:Int)*h<=140737488355328/\h<=big) (λb=>s b=nO) (λb=>(t,.d (.msl b 0 l.toNat h.toNat n))::H) (λb=>s.upd b (.cells (K2 z h.toNat)))
   |_,_,_,_=>.stop
  |.mapupd kp m k v=>match o.guard,o.dst,ZD H true m,ZD H true k,ZD H true v with
   |none,nO,sO (p,.d (.map b)),sO (q,.d dk),sO (r,.d dv)=>match Qe s b with
    |some es=>match ZaE kp dk dv es with
     |some es'=>.ok (p/\q/\r/\QS kp dk=true) H L (s.upd b (.map es'))
     |none=>.stop
    |none=>.stop
   |_,_,_,_,_=>.stop
  |.delete kp m k=>match o.guard,o.dst,ZD H true m,ZD H true k with
   |none,nO,sO (p,.d (.map b)),sO (q,.d dk)=>match Qe s b with
    |some es=>match ZgP kp dk es with
     |some es'=>.ok (p/\q/\QS kp dk=true) H L (s.upd b (.map es'))
     |none=>.stop
    |none=>.stop
   |_,_,_,_=>.stop
  |.mapent kp z m k=>match o.guard,o.dst,ZD H true m,ZD H true k with
   |none,sO t,sO (p,.d (.map b)),sO (q,.d dk)=>match Qe s b with
    |some es=>match ZeJ kp dk z es with
     |some v=>.all (p/\q/\QS kp dk=true) (λ_=>True) (λn=>(t,.d (.tup [v,.stamp n]))::H) (λn=>s.upd b (.mapE kp es dk n))
     |none=>.stop
    |none=>.stop
   |_,_,_,_=>.stop
  |.entst m st v=>match o.guard,o.dst,ZD H true m,ZD H true st,ZD H true v with
   |none,nO,sO (p,.d (.map b)),sO (q,.d (.stamp n)),sO (r,.d dv)=>match s b with
    |some (.mapE kp es dk n')=>match ZaE kp dk dv es with
     |some es'=>.ok (p/\q/\r/\n=n') H L (s.upd b (.map es'))
     |none=>.stop
    |_=>.stop
   |_,_,_,_,_=>.stop
  |_=>.stop
def ZjE(K:Env->Loc->St->Prop)(X:List DOp->Env->Loc->St->Prop):List DOp->Env->Loc->St->Prop
 | [],H,L,s=>K H L s
 |o::os,H,L,s=>match ZG o H L s with
  |.ok side H' L' s'=>side/\ZjE K X os H' L' s'
  |.all side pre H' s'=>side/\∀b,pre b->ZjE K X os (H' b) L (s' b)
  |.stop=>X (o::os) H L s
inductive Rd where
 |blk (b:Nat)
 |loc (l:Nat)
def Qn:E->List Rd
 |.d (.ptr b _)=>[.blk b]
 |.d (.map b)=>[.blk b]
 |.d (.msl b _ _ _ _)=>[.blk b]
 |.loc l _=>[.loc l]
 |_=>[]
def Wl(o:DOp)(H:Env):List Rd :=
 match o.k with
 |.q q xs=>if Wb (.q q xs) then match Zo H o.guard with
  |some true=>match Yg H true xs with
   |some (_,e::_)=>Qn e
   |_=>[]
  |_=>[]
  else []
 |_=>[]
def KC(o:DOp)(H:Env):List (Nat×Rd):=(Wl o H).map λb=>(Zcx o,b)
def Qk(s s':St)(L L':Loc):List (Nat×Rd)->Prop
 | []=>True
 | (_,.blk b)::B=>s' b=s b/\Qk s s' L L' B
 | (_,.loc l)::B=>Zj L' l=Zj L l/\Qk s s' L L' B
def Wa(fl:List Nat):List (Nat×Rd)->List (Nat×Rd)
 | []=>[]
 |x::B=>if ZaS x.1 fl then x::Wa fl B else Wa fl B
def Wq(fl:List Nat)(s s':St)(L L':Loc)(B:List (Nat×Rd)):Prop:=Qk s s' L L' (Wa fl B)
def Zif(K:Env->Loc->St->Prop)(X:List (DOp×List Nat)->Env->Loc->St->List (Nat×Rd)->Prop):List (DOp×List Nat)->Env->Loc->St->List (Nat×Rd)->Prop
 | [],H,L,s,_=>K H L s
 |o::os,H,L,s,B=>match ZG o.1 H L s with
  |.ok side H' L' s'=>if Wj o.1.k then side/\Zif K X os H' L' s' (KC o.1 H++B) else side/\Wq o.2 s s' L L' B/\Zif K X os H' L' s' (KC o.1 H++Wa o.2 B)
  |.all side pre H' s'=>side/\∀b,pre b->Wq o.2 s (s' b) L L B/\Zif K X os (H' b) L (s' b) (Wa o.2 B)
  |.stop=>X (o::os) H L s B
def Kq:E->List Nat
 |.loc l _=>[l]
 |.when _ e=>Kq e
 |_=>[]
def Yx(H:Env):List Nat->Env
 | []=>[]
 |k::ks=>match ZS H k with
  |some e=>(k,e)::Yx H ks
  |none=>Yx H ks
def Za5(L:Loc):List Nat->Loc
 | []=>[]
 |l::ls=>match Zj L l with
  |some cs=>(l,cs)::Za5 L ls
  |none=>Za5 L ls
def ZbD(H:Env)(L:Loc):Loc:=Za5 L (H.flatMap λx=>Kq x.2)
structure Zv8(P:Program) where
 T:G->World->Machine->Prop
 back:∀g w m m',Steps P m m'->T g w m'->T g w m
 ext:∀g w g' w' m,Ext g w g' w'->T g' w' m->T g w m
structure Fr(P:Program) where
 T:Zv8 P
 b:Frame
 cs:List Frame
 N:Nat
 ds:List Deferred
 an:Ann
inductive KH where
 |code (c:DC)
 |inBlock (id:Nat)
 |inLoop (c:DC)
 |inScope (c:DC)
 |beginR
inductive WN(P:Program)(an:Ann)(N:Nat):List Item->List KH->Prop where
 |nil:WN P an N [] []
 |code {c d k dk} (h:cc P an N c=some d) (t:WN P an N k dk):WN P an N (.code c::k) (.code d::dk)
 |inBlock {id k dk} (t:WN P an N k dk):WN P an N (.inBlock id::k) (.inBlock id::dk)
 |inLoop {c d k dk} (h:cc P an N c=some d) (t:WN P an N k dk):WN P an N (.inLoop c::k) (.inLoop d::dk)
 |inScope {c d k dk} (h:cc P an N c=some d) (t:WN P an N k dk):WN P an N (.inScope c::k) (.inScope d::dk)
 |beginR {k dk} (t:WN P an N k dk):WN P an N (.beginRound::k) (.beginR::dk)
section
variable {P:Program}
def Zu9{b:Frame}{a k cs w c}:step P (lone (b.atR a (.code (.scope c)::k)) cs w)=.next (lone (b.atR a (.code c::.inScope c::k)) cs w) :=
 step_lone_go (by simp[stepG,stepG.exec,Frame.atR])
def ZrQ{b:Frame}{a k cs w c}:step P (lone (b.atR a (.inScope c::k)) cs w)=.next (lone (b.atR a k) cs w) :=
 step_lone_go (by simp[stepG,stepG.exec,Frame.atR])
def JT(F:Fr P)(todo:List Item)(H:Env)(L:Loc)(s:St):Prop :=
 ∀g Z w tmps,F.N<=tmps.size->Zy g Z w tmps H L s->F.T.T g w (lone (F.b.atR ⟨tmps,F.ds⟩ todo) F.cs w)
def ZC(F:Fr P)(dk:List KH)(H:Env)(L:Loc)(s:St):Prop:=∀k,WN P F.an F.N k dk->JT F k H L s
def DO(F:Fr P)(_keep:Option (List Nat))(dk:List KH)(os:List DOp)(H:Env)(L:Loc)(s:St):Prop :=
 ∀ops is k,JV P F.N ops is=sO os->WN P F.an F.N k dk->JT F (.inRegion ops is::k) H L s
def JT.step{F:Fr P}{k k' H L s}(h:∀a w,step P (lone (F.b.atR a k) F.cs w)=.next (lone (F.b.atR a k') F.cs w))(i:JT F k' H L s):JT F k H L s :=
 λg Z w tmps j m=>F.T.back _ _ _ _ (.one (h _ w)) (i g Z w tmps j m)
def ZBc{an N c}(h:cc P an N c=sO .skip):c=.skip:=by
 unfold cc at h;split at h<;>simp_all;all_goals (split at h<;>grind)
def ZsH{an N c}(h:cc P an N c=sO .ret):c=.ret:=by
 unfold cc at h;split at h<;>simp_all;all_goals (split at h<;>grind)
def Zvi{an N id c}(h:cc P an N c=sO (.exit id)):c=.exit id:=by
 unfold cc at h;split at h<;>simp_all;all_goals (split at h<;>grind)
def ZCg{an N c x y}(h:cc P an N c=sO (.seq x y)):∃a b,c=.seq a b/\cc P an N a=sO x/\cc P an N b=sO y:=by
 unfold cc at h;split at h<;>simp_all;all_goals (split at h<;>simp_all)
 grind
def ZA8{an N c x y o}(h:cc P an N c=sO (.cond o x y)):∃o' a b,c=.cond o' a b/\Z6 o'=sO o/\cc P an N a=sO x/\cc P an N b=sO y:=by
 unfold cc at h;split at h<;>simp_all;all_goals (split at h<;>simp_all)
 grind
def Zzy{an N id c x}(h:cc P an N c=sO (.block id x)):∃a,c=.block id a/\cc P an N a=sO x:=by
 unfold cc at h;split at h<;>simp_all;all_goals (split at h<;>grind)
def ZBa{an N c x}(h:cc P an N c=sO (.loop x)):∃a,c=.loop a/\cc P an N a=sO x:=by
 unfold cc at h;split at h<;>simp_all;all_goals (split at h<;>grind)
def ZCf{an N c os ks}(h:cc P an N c=sO (.reg os ks)):
  ∃id ops,c=.region id ops false/\JV P N ops (ZHT ops.size)=sO os/\an.get id=ks:=by
 unfold cc at h;split at h<;>simp_all;grind;all_goals (split at h<;>grind)
def ZzA{an N c x}(h:cc P an N c=sO (.scope x)):∃a,c=.scope a/\cc P an N a=sO x:=by
 unfold cc at h;split at h<;>simp_all;all_goals (split at h<;>grind)
def Zzz{an N l c}(h:cc P an N c=sO (.label l)):c=.label l:=by
 unfold cc at h;split at h<;>simp_all;all_goals (split at h<;>grind)
def ZA9{an N l c}(h:cc P an N c=sO (.goto l)):c=.goto l:=by
 unfold cc at h;split at h<;>simp_all;all_goals (split at h<;>grind)
def ZqB{an N c f ps x y}(h:cc P an N c=sO (.rangeF f ps x y)):
  ∃f' ps' a b,c=.rangeFunc f' ps' a b/\Z6 f'=sO f/\ps'.toList=ps/\cc P an N a=sO x/\cc P an N b=sO y/\∀t∈ps,t<N:=by
 unfold cc at h;split at h<;>simp_all;all_goals (split at h<;>simp_all)
 obtain⟨j,rfl,rfl,rfl,rfl⟩:=h;exact⟨_,_,_,_,⟨rfl,rfl,rfl,rfl⟩,‹_›,rfl,‹_›,‹_›,λt n=>by obtain⟨i,hi,rfl⟩:=ZH1 n;simpa using j i ω⟩
def Zp{F:Fr P}{dk H L s}(h:ZC F dk H L s):ZC F (.code .skip::dk) H L s:=by
 intro k i;cases i with
 |code hc ht=>obtain rfl:=ZBc hc;exact JT.step (λa w=>stepR_skip) (h _ ht)
def Zf{F:Fr P}{id dk H L s}(h:ZC F dk H L s):ZC F (.inBlock id::dk) H L s:=by
 intro k i;cases i with
 |inBlock ht=>exact JT.step (λa w=>stepR_inBlock) (h _ ht)
def Zd{F:Fr P}{x y dk H L s}(h:ZC F (.code x::.code y::dk) H L s):ZC F (.code (.seq x y)::dk) H L s:=by
 intro k n;cases n with
 |code hc ht=>obtain⟨a,b,rfl,i,j⟩:=ZCg hc;exact JT.step (λa w=>stepR_seq) (h _ (.code i (.code j ht)))
def Zb{F:Fr P}{id x dk H L s}(h:ZC F (.code x::.inBlock id::dk) H L s):ZC F (.code (.block id x)::dk) H L s:=by
 intro k j;cases j with
 |code hc ht=>obtain⟨a,rfl,i⟩:=Zzy hc;exact JT.step (λa w=>stepR_block) (h _ (.code i (.inBlock ht)))
def Za9{F:Fr P}{x dk H L s}(h:ZC F (.code x::.inLoop x::dk) H L s):ZC F (.code (.loop x)::dk) H L s:=by
 intro k j;cases j with
 |code hc ht=>obtain⟨a,rfl,i⟩:=ZBa hc;exact JT.step (λa w=>stepR_loop) (h _ (.code i (.inLoop i ht)))
def Za{F:Fr P}{x dk H L s}(h:ZC F (.code x::.inLoop x::dk) H L s):ZC F (.inLoop x::dk) H L s:=by
 intro k i;cases i with
 |inLoop hc ht=>exact JT.step (λa w=>stepR_inLoop) (h _ (.code hc (.inLoop hc ht)))
def YB{F:Fr P}{x dk H L s}(h:ZC F (.code x::.inScope x::dk) H L s):ZC F (.code (.scope x)::dk) H L s:=by
 intro k j;cases j with
 |code hc ht=>obtain⟨a,rfl,i⟩:=ZzA hc;exact JT.step (λa w=>Zu9) (h _ (.code i (.inScope i ht)))
def Z9{F:Fr P}{x dk H L s}(h:ZC F dk H L s):ZC F (.inScope x::dk) H L s:=by
 intro k i;cases i with
 |inScope hc ht=>exact JT.step (λa w=>ZrQ) (h _ ht)
def YL{F:Fr P}{l dk H L s}(h:ZC F dk H L s):ZC F (.code (.label l)::dk) H L s:=by
 intro k i;cases i with
 |code hc ht=>obtain rfl:=Zzz hc;exact JT.step (λa w=>stepR_label) (h _ ht)
def Kp:DC->Nat->Option DC
 |.seq a b,l=>match Kp a l with
  |some r=>sO (.seq r b)
  |none=>Kp b l
 |.label l',l=>if l'=l then sO .skip else nO
 |_,_=>nO
def Zta{an N l}:∀{c d},cc P an N c=sO d->(∀n,Kp d l=sO n->∃t,findLabel c l=sO t/\cc P an N t=sO n)/\(Kp d l=nO->findLabel c l=nO):=by
 intro c;induction c with
 |seq a b iha ihb =>
  intro d h;unfold cc at h;split at h<;>simp at h;rename_i x y hx hy;subst h;obtain⟨a1,a2⟩:=iha hx;obtain⟨b1,b2⟩:=ihb hy;refine⟨λn j=>?_,λj=>?_⟩
  .simp[Kp]at j;cases i:Kp x l with
   |some r =>simp[i]at j;obtain⟨t,z,h2⟩:=a1 r i;subst j;exact⟨.seq t b,by simp[findLabel,z],by simp[cc,h2,hy]⟩
   |none =>simp[i]at j;obtain⟨t,z,h2⟩:=b1 n j;exact⟨t,by simp[findLabel,a2 i,z],h2⟩
  simp[Kp]at j;cases i:Kp x l with
  |some r=>grind
  |none=>simp[i]at j;simp[findLabel,a2 i,b2 j]
 |label l' =>intro d h;cases h;refine⟨λn j=>?_,λj=>?_⟩;simp only[Kp]at j;split at j<;>simp at j;rename_i u;subst j;exact⟨.skip,by simp[findLabel,u],rfl⟩;simp only[Kp]at j;split at j<;>simp at j;rename_i u;simp[findLabel,u]
 |region id ops dr =>intro d h;refine⟨λn j=>?_,λ_=>rfl⟩;cases dr<;>simp only[cc,ZHS]at h<;>(obtain⟨_,_,rfl⟩:=h;cases j)
 |_ =>
  intro d h;refine⟨λn j=>?_,λ_=>rfl⟩;first
   | (cases h;done)
   | (simp[cc]at h;obtain⟨_,_,rfl⟩:=h;cases j;done)
   | (cases h;done)
   | (simp[cc]at h;split at h<;>(try(split at h))<;>simp at h<;>(subst h;cases j))
def Zd3(l:Nat):List KH->Option (List KH)
 |.inScope body::k=>match Kp body l with
  |some r=>sO (.code r::.inScope body::k)
  |none=>Zd3 l k
 |_::k=>Zd3 l k
 | []=>nO
def ZdB{an N l}:∀{k dk u},WN P an N k dk->Zd3 l dk=sO u->∃i,gotoIn l k=sO i/\WN P an N i u
 |_,_,_,.nil,h=>by cases h
 |_,_,_,.code _ t,h=>by simp[Zd3]at h;obtain⟨i,j,n⟩:=ZdB t h;exact⟨i,by simpa[gotoIn]using j,n⟩
 |_,_,_,.inLoop _ t,h=>by simp[Zd3]at h;obtain⟨i,j,n⟩:=ZdB t h;exact⟨i,by simpa[gotoIn]using j,n⟩
 |_,_,_,.inBlock t,h=>by simp[Zd3]at h;obtain⟨i,j,n⟩:=ZdB t h;exact⟨i,by simpa[gotoIn]using j,n⟩
 |_,_,_,.beginR t,h=>by simp[Zd3]at h;obtain⟨i,j,n⟩:=ZdB t h;exact⟨i,by simpa[gotoIn]using j,n⟩
 |_,_,_,.inScope (c:=c) (d:=d) hc t,h=>by
  simp[Zd3]at h;obtain⟨f1,f2⟩:=Zta (l:=l) hc;cases z:Kp d l with
  |some r =>simp[z]at h;subst h;obtain⟨c',j,n⟩:=f1 r z;exact⟨_,by simp[gotoIn,j],.code n (.inScope hc t)⟩
  |none =>simp[z]at h;obtain⟨i,j,n⟩:=ZdB t h;exact⟨i,by simpa[gotoIn,f2 z]using j,n⟩
def ZxK{F:Fr P}{l dk i H L s}(u:Zd3 l dk=sO i)(h:ZC F i H L s):ZC F (.code (.goto l)::dk) H L s:=by
 intro k n;cases n with
 |code hc ht =>obtain rfl:=ZA9 hc;obtain⟨k',t,j⟩:=ZdB ht u;exact JT.step (λa w=>stepR_goto t) (h _ j)
def Ji(id:Nat):List KH->Option (List KH)
 |.inBlock id'::k=>if id'=id then sO k else Ji id k
 |_::k=>Ji id k
 | []=>nO
def Zdy{an N id}:∀{k dk z},WN P an N k dk->Ji id dk=sO z->∃j,exitTo id k=sO j/\WN P an N j z
 |_,_,_,.nil,h=>by cases h
 |_,_,_,.code _ t,h=>by simp[Ji]at h;obtain⟨j,n,u⟩:=Zdy t h;exact⟨j,by simpa[exitTo]using n,u⟩
 |_,_,_,.inLoop _ t,h=>by simp[Ji]at h;obtain⟨j,n,u⟩:=Zdy t h;exact⟨j,by simpa[exitTo]using n,u⟩
 |_,_,_,.inScope _ t,h=>by simp[Ji]at h;obtain⟨j,n,u⟩:=Zdy t h;exact⟨j,by simpa[exitTo]using n,u⟩
 |_,_,_,.beginR t,h=>by simp[Ji]at h;obtain⟨j,n,u⟩:=Zdy t h;exact⟨j,by simpa[exitTo]using n,u⟩
 |_,_,_,.inBlock (id:=id') t,h=>by simp[Ji]at h;by_cases i:id'=id;simp[i]at h;subst h;exact⟨_,by simp[exitTo,i],t⟩;simp[i]at h;obtain⟨j,n,u⟩:=Zdy t h;exact⟨j,by simpa[exitTo,i]using n,u⟩
def ZbB{an N id}:∀{k dk},WN P an N k dk->Ji id dk=nO->exitTo id k=nO
 |_,_,.nil,_=>rfl
 |_,_,.code _ t,h=>by simp[Ji]at h;simpa[exitTo]using ZbB t h
 |_,_,.inLoop _ t,h=>by simp[Ji]at h;simpa[exitTo]using ZbB t h
 |_,_,.inScope _ t,h=>by simp[Ji]at h;simpa[exitTo]using ZbB t h
 |_,_,.beginR t,h=>by simp[Ji]at h;simpa[exitTo]using ZbB t h
 |_,_,.inBlock (id:=id') t,h=>by simp[Ji]at h;by_cases hid:id'=id;grind;simp[hid]at h;simpa[exitTo,hid]using ZbB t h
def ZR{F:Fr P}{id dk i H L s}(u:Ji id dk=sO i)(h:ZC F i H L s):ZC F (.code (.exit id)::dk) H L s:=by
 intro k n;cases n with
 |code hc ht =>obtain rfl:=Zvi hc;obtain⟨k',t,j⟩:=Zdy ht u;exact JT.step (λa w=>stepR_exit t) (h _ j)
def Yf{g Z w tmps H L s}(m:Zy g Z w tmps H L s){x y}(u:Z6 x=sO y){c}(n:c=true){p e}(j:ZD H c y=sO (p,e))(hp:p)(ds):ZP g Z w L ((Act.mk tmps ds).eval x) e:=by
 cases x with
 |tmp t =>cases u;simp[ZD]at j;split at j;rename_i c' e' z;cases j;exact(m.env t _ z).1 (hp n);rename_i e' hne z;cases j;exact m.env t _ z;grind
 |const v =>simp[Z6]at u;obtain⟨d,hd,rfl⟩:=u;cases j;exact ZjB hd
 |func f =>cases u;cases j;exact .fn (.func f) [] [] [] [] rfl rfl (λi v d h=>by grind) (λi v d h=>by grind)
 |global g =>
  cases u;cases j;cases ht:Zsq.tab g with
  |none=>exact .any _
  |some cs=>exact m.st.tabs g cs ht
def ZcH{g Z w tmps H L s}(m:Zy g Z w tmps H L s){c}(j:c=true)(ds) :
  ∀{xs n p es},ZcX xs=sO n->Yg H c n=sO (p,es)->p->ZO (ZP g Z w L) (xs.map (Act.mk tmps ds).eval) es
 | [],n,p,es,hc,ha,hp=>by cases hc;cases ha;exact .nil
 |x::xs,n,p,es,hc,ha,hp=>by simp[ZcX]at hc;split at hc<;>simp at hc;rename_i y ys' t i;subst hc;simp[Yg]at ha;split at ha<;>simp only[ZHE,reduceCtorEq]at ha;rename_i p1 e1 p2 es' u z;obtain⟨rfl,rfl⟩:=ha;exact .cons (Yf m t j u hp.1 ds) (ZcH m j ds i z hp.2)
def Zt{F:Fr P}{o x y dk H L s b p}(ho:ZD H true o=sO (p,.d (.bool b)))(hp:p)(z:b=true->ZC F (.code x::dk) H L s)(hf:b=false->ZC F (.code y::dk) H L s):ZC F (.code (.cond o x y)::dk) H L s:=by
 intro k hk;cases hk with
 |code hc htl =>obtain⟨u,a,b',rfl,i,t,hb⟩:=ZA8 hc;intro g Z w tmps n m;have hv:=Yf m i rfl ho hp F.ds;have j:(Act.mk tmps F.ds).eval u=.bool b:=Zcs hv;refine F.T.back _ _ _ _ (.one (stepR_cond j)) ?_;cases b;exact hf rfl _ (.code hb htl) g Z w tmps n m;exact z rfl _ (.code t htl) g Z w tmps n m
def Zh4{F:Fr P}{os ks dk H L s}(h:DO F ks dk os H L s):ZC F (.code (.reg os ks)::dk) H L s:=by
 intro k j;cases j with
 |code hc ht =>obtain⟨id,ops,rfl,i,_⟩:=ZCf hc;exact JT.step (λa w=>stepR_region) (h _ _ _ i ht)
end
def Zjt(w:World){o}{b}(h:b<w.heap.size):(w.alloc o).heap[b]?=w.heap[b]?:=by
 show(w.heap.push o)[b]?=_;rw[Array.getElem?_push];simp[Nat.ne_of_lt h]
def Kw(w:World){o}:(w.alloc o).heap[w.heap.size]?=sO o:=by
 show(w.heap.push o)[w.heap.size]?=_;rw[Array.getElem?_push];simp
def ZdI(v:Value):v.oneCell'=v.one1:=by cases v<;>rfl
section
variable {P:Program} {g:G} {Z:Nat->Nat} {w:World} {tmps:Array Value} {H:Env} {L:Loc} {s:St}
def Zih(b:Nat){i vs:Array Value}{T:TypeId}(n:w.heap[b]?=sO (.cells i T (0,0)))(j:vs.size=i.size)(hp:g.prot b=0)(t:¬g.kept b):Ext g w g (w.setRow b vs):={
 size:=by simp
 prot _:=ZHV _
 cell b' o ho:=by by_cases h:b'=b;subst h;omega;exact J8 (setRow_other w b b' vs h)
 hdr b' x hx:=by by_cases h:b'=b;subst h;simp only[hdr,n]at hx;simp only[hdr,setRow_heap w b' i vs T (0,0) n,j];exact hx;rw[ZbY (setRow_other w b b' vs h)];exact hx
 kept b' hb':=setRow_other w b b' vs (λh=>t (h▸hb'))
 keptProt _ _:=rfl
 keptEq:=rfl
 os:=rfl
 output:=rfl
 tape:=rfl }
def Yp.other{g:G}{w w':World}{s:St}(m:Yp g s w)(e:Ext g w g w')(hs:w'.heap.size=w.heap.size)(i:∀b o,s b=sO o->w'.heap[b]?=w.heap[b]?):Yp g s w':={
 obj b o ho:=(m.obj b o ho).mono e (i b o ho) rfl
 kept:=m.kept
 fresh b h:=m.fresh b ω
 tabs n cs hc:=(m.tabs n cs hc).mono e }
def Zy.store(m:Zy g Z w tmps H L s){l cs ds}(hl:Zj L l=sO cs){vs}(hr:ZO (Rep g w) vs.toList ds)(ho:∀v∈vs,v.one1=true)(hn:I ds=I cs):
  Ext g w g (w.setRow (Z l) vs)/\Zy g Z (w.setRow (Z l) vs) tmps H ((l,ds)::L) s:=by
 obtain⟨hp,ab,T,h1,h2,_,_⟩:=m.loc l cs hl;have z:vs.size=ab.size:=by have:=hr.len;simp at this;omega
 have he:=Zih (g:=g) (Z l) h1 z hp (m.locKept l cs hl);refine⟨he,⟨?_,?_,?_,?_,?_,?_⟩⟩;exact m.st.other he ψ (λb o hb=>setRow_other w (Z l) b vs (λh=>by subst h;rw[m.locSt l cs hl]at hb;simp at hb));intro l' n j;simp only[Zj]at j;by_cases h:l=l';subst h;simp only[if_true,ZHE]at j;subst j;refine⟨hp,vs,T,setRow_heap w (Z l) ab vs T (0,0) h1,by rw[z,h2,hn],λi v d hv hd=>?_,ho⟩;exact(hr.get i v d (by simpa using hv) hd).mono he;simp only[h,if_false]at j;have ac:Z l'≠Z l:=λhh=>h (m.inj l l' cs n hl j hh.symm);exact(m.loc l' n j).mono he (setRow_other w (Z l) (Z l') vs ac) rfl;intro l' n j;simp only[Zj]at j;by_cases h:l=l';subst h;exact m.locKept l cs hl;simp only[h,if_false]at j;exact m.locKept l' n j;intro l' n j;simp only[Zj]at j;by_cases h:l=l';subst h;exact m.locSt l cs hl;simp only[h,if_false]at j;exact m.locSt l' n j;intro a b ca cb ha hb u;simp only[Zj]at ha hb;by_cases h1:l=a;by_cases h2:l=b;exact h1.symm.trans h2;simp only[h2,if_false]at hb;subst h1;exact m.inj _ _ cs cb hl hb u;simp only[h1,if_false]at ha;by_cases h2:l=b;subst h2;exact m.inj _ _ ca cs ha hl u;simp only[h2,if_false]at hb;exact m.inj _ _ ca cb ha hb u;intro t e ht;refine((m.env t e ht).mono he).locs (λl' n j=>⟨?_,rfl⟩);by_cases h:l=l';exact⟨ds,by simp[Zj,h]⟩;exact⟨n,by simp[Zj,h,j]⟩
def ZwA(c:Array Value)(T:TypeId)(i:∀b,w.heap.size<=b->g.prot b=0/\¬g.kept b):Zaq g w g (w.alloc (.cells c T)):={
 size:=by simp
 old b hb:=Zjt w hb
 prot _ _:=rfl
 fresh b hb:=(i b (by simp at hb;omega)).1
 kept:=rfl
 os:=rfl
 output:=rfl
 tape:=rfl }
def Zy.alloc(m:Zy g Z w tmps H L s){l ds}(hl:ZaR L l=false){vs}(hr:ZO (Rep g w) vs.toList ds)(ho:∀v∈vs,v.one1=true)(T):
  Ext g w g (w.alloc (.cells vs T))/\Zy g (λx=>if x=l then w.heap.size else Z x) (w.alloc (.cells vs T)) tmps H ((l,ds)::L) s:=by
 have hg:=ZwA (g:=g) vs T m.st.fresh;have he:=hg.ext m.st.fresh;have m':=m.grow hg;have hn:Zj L l=nO:=by simpa[ZaR]using hl
 have z:∀l' n,Zj L l'=sO n->l'≠l:=λl' n h hh=>by subst hh;rw[hn]at h;simp at h
 refine⟨he,⟨m'.st,?_,?_,?_,?_,?_⟩⟩;intro l' n j;simp only[Zj]at j;by_cases h:l=l';subst h;simp only[if_true,ZHE]at j;subst j;simp only[if_true];refine⟨(m.st.fresh _ (ZHV _)).1,vs,T,Kw w,by simpa using hr.len,λi v d hv hd=>?_,ho⟩;exact(hr.get i v d (by simpa using hv) hd).mono he;simp only[h,if_false]at j;simp only[show ¬l'=l from λhh=>h hh.symm,if_false];exact m'.loc l' n j;intro l' n j;simp only[Zj]at j;by_cases h:l=l';subst h;simp only[if_true];exact(m.st.fresh _ (ZHV _)).2;simp only[h,if_false]at j;simp only[show ¬l'=l from λhh=>h hh.symm,if_false];exact m.locKept l' n j
 .intro l' n j;simp only[Zj]at j;by_cases h:l=l'
  .subst h;simp only[if_true];cases hs:s w.heap.size with
   |none=>rfl
   |some o=>exact absurd (m.st.obj _ o hs).lt (Nat.lt_irrefl _)
  simp only[h,if_false]at j;simp only[show ¬l'=l from λhh=>h hh.symm,if_false];exact m.locSt l' n j
 intro a b ca cb ha hb u;simp only[Zj]at ha hb;by_cases h1:l=a;by_cases h2:l=b;exact h1.symm.trans h2;simp only[h2,if_false]at hb;simp only[h1.symm,if_true,show ¬b=l from λhh=>h2 hh.symm,if_false]at u;have:=(m.loc b cb hb).lt;omega;simp only[h1,if_false]at ha;by_cases h2:l=b;simp only[h2.symm,if_true,show ¬a=l from λhh=>h1 hh.symm,if_false]at u;have:=(m.loc a ca ha).lt;omega;simp only[h2,if_false]at hb;simp only[show ¬a=l from λhh=>h1 hh.symm,show ¬b=l from λhh=>h2 hh.symm,if_false]at u;exact m.inj _ _ ca cb ha hb u;intro t e ht;refine(m'.env t e ht).locs (λl' n j=>⟨⟨n,?_⟩,?_⟩);have:=z l' n j;simp[Zj,show ¬l=l' from λhh=>this hh.symm,j];simp[z l' n j]
def Zmb(c:Array Value)(T:TypeId)(hf:∀b,w.heap.size<=b->g.prot b=0/\¬g.kept b):
  Zaq g w { g with prot:=λb=>if b=w.heap.size then c.size else g.prot b } (w.alloc (.cells c T)) where
 size:=by simp
 old b hb:=Zjt w hb
 prot b hb:=by simp[Nat.ne_of_lt hb]
 fresh b hb:=by simp at hb;simp[show b≠w.heap.size by omega,(hf b ω).1]
 kept:=rfl
 os:=rfl
 output:=rfl
 tape:=rfl
def Yi(m:Zy g Z w tmps H L s){ops o gd}(u:Zjz ops o.guard=sO gd){c}(n:Zo H gd=sO c):Region.wanted o (yielded ops tmps)=c:=by
 unfold Zjz at u;unfold Region.wanted;split at u;rename_i z;simp only[ZHE]at u;subst u;simp only[Zo,ZHE]at n;subst n;simp[z];rename_i j b z;split at u<;>simp at u;rename_i t ht;subst u;simp only[z];have hy:yielded ops tmps j=match tmps.getD t undef with
   |.bool b=>sO b
   |_=>nO:=by
  unfold yielded;rw[ht];simp only[Option.bind_some];rcases Nat.lt_or_ge t tmps.size with i|hge;simp[Array.getD,i];split<;>simp_all;simp[Array.getD,Nat.not_lt.2 hge,undef]
 simp only[Zo]at n;split at n;rename_i b' he;simp only[ZHE]at n;subst n;have:=Zcs (m.env t _ he);rw[hy,this];cases b<;>cases b'<;>rfl;rename_i c0 b' he;simp only[ZHE]at n;subst n;have h:=m.env t _ he;cases c0;have:=h.2 rfl;rw[hy,this];simp[undef];have:=Zcs (h.1 rfl);rw[hy,this];cases b<;>cases b'<;>rfl;simp at n
end
section
variable {P:Program}
def Yq{op k}(h:ck P op=sO k)(i:k.isDefer=false)(c):op≠.defer c:=by
 rintro rfl;simp only[ck,cq]at h;split at h<;>(try(simp at h;done));split at h<;>simp only[ZHE,reduceCtorEq]at h;subst h;simp[K.isDefer]at i
def ZiU{b:Frame}{a k cs w w' ops i rest o v}(t:ops[i]?=sO o)(z:Region.wanted o (yielded ops a.tmps)=true)(n:∀c,o.op≠.defer c)(u:(execOp a.eval o).run P w=.ok (.value v) w'):
  step P (lone (b.atR a (.inRegion ops (i::rest)::k)) cs w)=.next (lone (b.atR (a.put o.dst v) (.inRegion ops rest::k)) cs w'):=by
 refine step_lone_go ?_;rw[stepGR_op t z,Oper.semAt_eq _ _ _ n];have j:(b.atR a (.inRegion ops (i::rest)::k)).finish v=b.atR (a.put o.dst v) (.inRegion ops rest::k):=by rw[Frame.finish_atR,t];rfl
 rw[<-j];simp[stepG.apply,u]
def ZiT{b:Frame}{a k cs w w' ops i rest o}(t:ops[i]?=sO o)(z:Region.wanted o (yielded ops a.tmps)=true)(n:∀c,o.op≠.defer c)(u:(execOp a.eval o).run P w=.ok .skip w'):
  step P (lone (b.atR a (.inRegion ops (i::rest)::k)) cs w)=.next (lone (b.atR (a.put o.dst undef) (.inRegion ops rest::k)) cs w'):=by
 refine step_lone_go ?_;rw[stepGR_op t z,Oper.semAt_eq _ _ _ n];have j:(b.atR a (.inRegion ops (i::rest)::k)).finish undef=b.atR (a.put o.dst undef) (.inRegion ops rest::k):=by rw[Frame.finish_atR,t];rfl
 rw[<-j];simp[stepG.apply,u]
def ZrR{b:Frame}{a k cs w ops i rest o}(j:ops[i]?=sO o)(n:Region.wanted o (yielded ops a.tmps)=false):
  step P (lone (b.atR a (.inRegion ops (i::rest)::k)) cs w)=.next (lone (b.atR (a.put o.dst undef) (.inRegion ops rest::k)) cs w):=by
 have:=stepR_op_skip (P:=P) (b:=b) (a:=a) (k:=k) (cs:=cs) (w:=w) (ops:=ops) (i:=i) (rest:=rest) (by simp[j,n]);simpa[j]using this
def ZxZ{N ops is o os}(h:JV P N ops is=sO (o::os)):
  ∃i r oo,is=i::r/\ops[i]?=sO oo/\JV P N ops r=sO os/\ck P oo.op=sO o.k/\Zjz ops oo.guard=sO o.guard/\oo.dst=o.dst/\∀d,o.dst=sO d->d<N:=by
 cases is with
 |nil=>simp[JV]at h
 |cons i r =>simp only[JV]at h;split at h<;>(try(simp at h;done));rename_i oo t;split at h<;>simp only[ZHE,List.cons.injEq,reduceCtorEq]at h;rename_i d ds z n;obtain⟨rfl,rfl⟩:=h;simp only[cop]at z;split at z<;>(try(simp at z;done));rename_i k g hk hg;refine⟨i,r,oo,rfl,t,n,?_⟩;split at z;rename_i j;simp only[ZHE]at z;subst z;exact⟨hk,hg,j,λd h=>by simp at h⟩;rename_i d' j;split at z<;>simp at z;rename_i u;subst z;exact⟨hk,hg,j,λd h=>by simp only[ZHE]at h;exact h▸u⟩
def ZzF{N ops is}(h:JV P N ops is=sO []):is=[]:=by
 cases is with
 |nil=>rfl
 |cons i r=>simp only[JV]at h;split at h<;>(try(simp at h;done));split at h<;>simp at h
def ZfP{g Z w tmps H L s}(m:Zy g Z w tmps H L s){N}(i:N<=tmps.size){dst}(j:∀d,dst=sO d->d<N){v e}(h:ZP g Z w L v e)(ds):∃tmps',(Act.mk tmps ds).put dst v=⟨tmps',ds⟩/\N<=tmps'.size/\Zy g Z w tmps' (Zz H dst e) L s:=by
 cases dst with
 |none=>exact⟨tmps,rfl,i,m⟩
 |some d=>exact⟨tmps.setIfInBounds d v,rfl,by simpa using i,m.put (by have:=j d rfl;omega) h⟩
def Zn8{F:Fr P}{ops i r k t}{o:DOp}{g Z w tmps H L s}(hN:F.N<=tmps.size)(m:Zy g Z w tmps H L s)(hoo:ops[i]?=sO t)(n:t.dst=o.dst)(hd:∀d,o.dst=sO d->d<F.N)(hw:Region.wanted t (yielded ops tmps)=true)(u:∀c,t.op≠.defer c){e}(z:∃v,(execOp (Act.mk tmps F.ds).eval t).run P w=.ok (.value v) w/\ZP g Z w L v e)(h:JT F (.inRegion ops r::k) (Zz H o.dst e) L s):
  F.T.T g w (lone (F.b.atR ⟨tmps,F.ds⟩ (.inRegion ops (i::r)::k)) F.cs w):=by
 obtain⟨v,hr,z⟩:=z;refine F.T.back _ _ _ _ (.one (ZiU hoo hw u hr)) ?_;rw[n];obtain⟨j,e1,e2,m'⟩:=ZfP m hN hd z F.ds;rw[e1];exact h g Z w j e2 m'
def Zcc{F:Fr P}{ops i r k u}{o:DOp}{g Z w tmps H L s}(hN:F.N<=tmps.size)(m:Zy g Z w tmps H L s)(t:ops[i]?=sO u)(n:u.dst=o.dst)(z:∀d,o.dst=sO d->d<F.N)(hw:Region.wanted u (yielded ops tmps)=false){e}(h:JT F (.inRegion ops r::k) (Zz H o.dst (.when false e)) L s):F.T.T g w (lone (F.b.atR ⟨tmps,F.ds⟩ (.inRegion ops (i::r)::k)) F.cs w):=by
 refine F.T.back _ _ _ _ (.one (ZrR t hw)) ?_;rw[n];obtain⟨j,e1,e2,m'⟩:=ZfP m hN z (v:=undef) (e:=.when false e) ⟨λh=>by simp at h,λ_=>rfl⟩ F.ds;rw[e1];exact h g Z w j e2 m'
def ZCi{op q xs}(h:ck P op=sO (.q q xs)):∃i,cq P op=sO (q,i)/\ZcX i=sO xs:=by
 unfold ck at h;split at h;rename_i q' i j;simp only[ZHS,K.q.injEq]at h;obtain⟨zs,n,rfl,rfl⟩:=h;exact⟨i,j,n⟩;exfalso;split at h<;>(try(simp at h;done));all_goals (repeat' (split at h<;>(try(simp at h;done))))
def Zeo(H):∀(ks t e),ZS (Yx H ks) t=sO e->ZS H t=sO e
 | [],t,e,h=>by simp[Yx,ZS]at h
 |k::ks,t,e,h=>by simp only[Yx]at h;split at h;rename_i e' i;simp only[ZS]at h;by_cases j:k=t;subst j;simp only[if_true]at h;rw[i,h];simp only[j,if_false]at h;exact Zeo H ks t e h;exact Zeo H ks t e h
def Zg1:∀{H t e},ZS H t=sO e->(t,e)∈H
 | (k,e')::H,t,e,h=>by simp only[ZS]at h;by_cases i:k=t;simp only[i,if_true,ZHE]at h;subst h;subst i;simp;simp only[i,if_false]at h;exact List.mem_cons_of_mem _ (Zg1 h)
def Zam(L):∀(ls l cs),Zj (Za5 L ls) l=sO cs->Zj L l=sO cs
 | [],l,cs,h=>by simp[Za5,Zj]at h
 |k::ls,l,cs,h=>by simp only[Za5]at h;split at h;rename_i c' i;simp only[Zj]at h;by_cases j:k=l;subst j;simp only[if_true]at h;rw[i,h];simp only[j,if_false]at h;exact Zam L ls l cs h;exact Zam L ls l cs h
def ZgF(L):∀(ls l cs),l∈ls->Zj L l=sO cs->Zj (Za5 L ls) l=sO cs
 |k::ls,l,cs,hm,h=>by
  simp only[Za5];by_cases hk:k=l;subst hk;simp[h,Zj];have hm':l∈ls:=by rcases List.mem_cons.1 hm with rfl|h;exact absurd rfl hk;exact h
  split;simp only[Zj,hk,if_false];exact ZgF L ls l cs hm' h;exact ZgF L ls l cs hm' h
def ZP.keep{g Z w L j v e}(h:ZP g Z w L v e)(t:∀l∈Kq e,l∈j):ZP g Z w (Za5 L j) v e:=by
 induction e with
 |d x=>exact h
 |loc l o=>obtain⟨⟨n,i⟩,u⟩:=h;exact⟨⟨n,ZgF L j l n (t l (by simp[Kq])) i⟩,u⟩
 |when c e ih=>exact⟨λi=>ih (h.1 i) t,h.2⟩
def Zy.keep(m:Zy g Z w tmps H L s)(ks:List Nat):Zy g Z w tmps (Yx H ks) (ZbD (Yx H ks) L) s:={
 st:=m.st
 loc l cs h:=m.loc l cs (Zam _ _ _ _ h)
 locKept l cs h:=m.locKept l cs (Zam _ _ _ _ h)
 locSt l cs h:=m.locSt l cs (Zam _ _ _ _ h)
 inj l l' cs cs' h h':=m.inj l l' cs cs' (Zam _ _ _ _ h) (Zam _ _ _ _ h')
 env t e h:=(m.env t e (Zeo H ks t e h)).keep (λl i=>List.mem_flatMap.2 ⟨(t,e),Zg1 h,i⟩) }
def Zee{F:Fr P}{dk H L s}(ks)(h:ZC F dk (Yx H ks) (ZbD (Yx H ks) L) s):ZC F dk H L s :=
 λk j g Z w tmps i m=>h k j g Z w tmps i (m.keep ks)
def ZB7{F:Fr P}{kp dk H L s}(h:ZC F dk H L s):DO F kp dk [] H L s:=by
 intro ops is k i n g Z w tmps j m;obtain rfl:=ZzF i;exact F.T.back _ _ _ _ (.one stepR_region_end) (h k n g Z w tmps j m)
def kept(kp:Option (List Nat))(H:Env):Env :=
 match kp with
 |some ks=>Yx H ks
 |none=>H
def Zll(kp:Option (List Nat))(H:Env)(L:Loc):Loc :=
 match kp with
 |some ks=>ZbD (Yx H ks) L
 |none=>L
def Zfm{F:Fr P}{kp}{dk}{H}{L}{s}(h:ZC F dk (kept kp H) (Zll kp H L) s):DO F kp dk [] H L s:=by
 refine ZB7 ?_;cases kp with
 |none=>exact h
 |some ks=>exact Zee ks h
end
section
variable {P:Program}
def ZAj{g Z w tmps H L s}(m:Zy g Z w tmps H L s){x a b x' t n}(hx:Z6 x=sO x')(ha:Z6 a=sO t)(hb:Z6 b=sO n){c}(hc:c=true){p v}(h:Zd7 H c x' t n=sO (p,v))(i:p){ds dst ty pos af gd}:
  (execOp (Act.mk tmps ds).eval ⟨dst,.pick x a b,ty,pos,af,gd⟩).run P w=.ok (.value (.bool v)) w:=by
 unfold Zd7 at h;split at h<;>(try(grind;done));rename_i p0 u h0;split at h<;>(try(grind;done));rename_i pa y pb z h1 h2;cases h;subst hc;have j:=Zcs (Yf m hx rfl h0 i.1 ds);cases u;have e2:=Zcs (Yf m hb rfl h2 i.2.2 ds);simp[execOp,j,e2,asBool];have e1:=Zcs (Yf m ha rfl h1 i.2.1 ds);simp[execOp,j,e1,asBool]
def ZBf{op x a b}(h:ck P op=sO (.pick x a b)):∃x' a' b',op=.pick x' a' b'/\Z6 x'=sO x/\Z6 a'=sO a/\Z6 b'=sO b:=by
 unfold ck at h;split at h;simp at h;split at h<;>(try(simp at h;done));all_goals (try(repeat' (split at h<;>(try(simp at h;done)))))
 cases h;exact⟨_,_,_,rfl,‹_›,‹_›,‹_›⟩
def ZsK{op z}(h:ck P op=sO (.alloc z)):∃e,op=.alloc e/\Za8 P e=sO z:=by
 unfold ck at h;split at h;simp at h;split at h<;>(try(simp at h;done));all_goals (try(repeat' (split at h<;>(try(simp at h;done)))))
 simp at h;exact⟨_,rfl,h⟩
def ZxR{op x}(h:ck P op=sO (.box x)):∃e x',op=.box e x'/\Z6 x'=sO x:=by
 unfold ck at h;split at h;simp at h;split at h<;>(try(simp at h;done));all_goals (try(repeat' (split at h<;>(try(simp at h;done)))))
 simp at h;exact⟨_,_,rfl,h⟩
def ZqD{op a v}(h:ck P op=sO (.store1 a v)):∃t a' v',op=.store t a' v'/\Zar P t=sO false/\Z2 P t=sO 1/\Z6 a'=sO a/\Z6 v'=sO v:=by
 unfold ck at h;split at h;simp at h;split at h<;>(try(simp at h;done));all_goals (try(repeat' (split at h<;>(try(simp at h;done)))))
 cases h;exact⟨_,_,_,rfl,‹_›,‹_›,‹_›,‹_›⟩
def ZqE{op a v n}(h:ck P op=sO (.storeN n a v)):∃t a' v',op=.store t a' v'/\Zar P t=sO true/\Z2 P t=sO n/\Z6 a'=sO a/\Z6 v'=sO v:=by
 unfold ck at h;split at h;simp at h;split at h<;>(try(simp at h;done));all_goals (try(repeat' (split at h<;>(try(simp at h;done)))))
 cases h;exact⟨_,_,_,rfl,‹_›,‹_›,‹_›,‹_›⟩
def ZxS{op len n z is xs}(h:ck P op=sO (.bsl len n z is xs)):
  ∃t e parts,op=.buildSlice t len parts/\P.underlying t=sO (.slice e)/\Z2 P e=sO n/\Za8 P e=sO z/\ZcX (parts.toList.map (·.2))=sO xs/\is=parts.toList.map (·.1) /\
   QR len is=true/\I z=n/\0<n/\len*n<=2 ^ 24:=by
 unfold ck at h;split at h;simp at h;split at h<;>(try(simp at h;done));all_goals (try(repeat' (split at h<;>(try(simp at h;done)))))
 rename_i i;cases h;simp at i;exact⟨_,_,_,rfl,‹_›,‹_›,‹_›,‹_›,rfl,i.1.1.1,i.1.1.2,i.1.2,i.2⟩
def JE{g w t z}(h:Za8 P t=sO z):∃v,(zeroValue t).run P w=.ok v w/\ZO (Rep g w) v.cells.toList z/\(∀x∈v.cells,x.one1=true)/\∃i,P.info? t=sO i/\i.zero=sO v:=by
 unfold Za8 at h;cases n:P.info? t with
 |none=>grind
 |some i =>
  cases j:i.zero with
  |none=>grind
  |some v =>simp[n,j]at h;obtain⟨h1,u⟩:=Zek (g:=g) (w:=w) h;exact⟨v,by simp[zeroValue,typeInfo,n,j],h1,λx hx=>u x (Array.mem_toList_iff.2 hx),i,rfl,j⟩
def Wz{F:Fr P}{kp dk o os H L s}(h:∀(t:Oper) (g:G) (Z:Nat->Nat) (w:World) (tmps:Array Value) (n:Array Oper) (i:Nat) (r:List Nat) (k:List Item),n[i]?=sO t->ck P t.op=sO o.k->Zjz n t.guard=sO o.guard ->
   t.dst=o.dst->(∀d,o.dst=sO d->d<F.N)->F.N<=tmps.size->Zy g Z w tmps H L s->JV P F.N n r=sO os->WN P F.an F.N k dk ->
   F.T.T g w (lone (F.b.atR ⟨tmps,F.ds⟩ (.inRegion n (i::r)::k)) F.cs w)):DO F kp dk (o::os) H L s:=by
 intro n is k j hk g Z w tmps hN m;obtain⟨i,r,t,rfl,h1,h2,h3,z,h5,u⟩:=ZxZ j;exact h t g Z w tmps n i r k h1 h3 z h5 u hN m h2 hk
def Zsh{F:Fr P}{kp dk o os H L s c}(hg:Zo H o.guard=sO c)(hnk:o.k.isDefer=false){e e'}(he:e'=.when c e\/(c=true/\e'=e))(hv:c=true->∀(oo:Oper) (g:G) (Z:Nat->Nat) (w:World) (tmps:Array Value),ck P oo.op=sO o.k->Zy g Z w tmps H L s ->
   ∃v,(execOp (Act.mk tmps F.ds).eval oo).run P w=.ok (.value v) w/\ZP g Z w L v e)(h:DO F kp dk os (Zz H o.dst e') L s):DO F kp dk (o::os) H L s:=by
 refine Wz λoo g Z w tmps ab i r k u n ad j hd hN m hr z=>?_;have t:=h ab r k hr z;have hw:=Yi m ad hg;have ac:=Yq n hnk;cases c;rcases he with rfl|⟨h0,_⟩;exact Zcc (P:=P) hN m u j hd hw t;grind;obtain⟨v,h1,h2⟩:=hv rfl oo g Z w tmps n m;refine Zn8 hN m u j hd hw ac ⟨v,h1,?_⟩ t;rcases he with rfl|⟨_,rfl⟩;exact⟨λ_=>h2,λh=>by simp at h⟩;exact h2
def ZB8{F:Fr P}{kp dk o os H L s c}(hg:Zo H o.guard=sO c){q xs}(hk:o.k=.q q xs){p side es e}(ha:Yg H c xs=sO (p,es))(hq:qv L s q es=sO (side,e))(hs:c=true->p/\side){z}(he:z=.when c e\/(c=true/\z=e))(h:DO F kp dk os (Zz H o.dst z) L s):DO F kp dk (o::os) H L s:=by
 refine Zsh hg (by rw[hk];rfl) he (λu oo g Z w tmps j m=>?_) h;rw[hk]at j;obtain⟨ys,n,t⟩:=ZCi j;have i:=ZcH m u F.ds t ha (hs u).1;exact ZBC n i m.loc m.st hq (hs u).2
def YU{F:Fr P}{ops i r k u}{o:DOp}{g z Z' w w' tmps H L' s'}(hN:F.N<=tmps.size)(hoo:ops[i]?=sO u)(t:u.dst=o.dst)(hd:∀d,o.dst=sO d->d<F.N)(hw:Region.wanted u (yielded ops tmps)=true)(hnd:∀c,u.op≠.defer c){e v}(hr:(execOp (Act.mk tmps F.ds).eval u).run P w=.ok (.value v) w')(hx:Ext g w z w')(m':Zy z Z' w' tmps H L' s')(hv:ZP z Z' w' L' v e)(h:JT F (.inRegion ops r::k) (Zz H o.dst e) L' s'):F.T.T g w (lone (F.b.atR ⟨tmps,F.ds⟩ (.inRegion ops (i::r)::k)) F.cs w):=by
 refine F.T.back _ _ _ _ (.one (ZiU hoo hw hnd hr)) ?_;rw[t];obtain⟨j,e1,e2,n⟩:=ZfP m' hN hd hv F.ds;rw[e1];exact F.T.ext _ _ _ _ _ hx (h z Z' w' j e2 n)
def Zsd{F:Fr P}{kp dk o os H L s}(hg:o.guard=nO){t}(hdt:o.dst=sO t){z}(hk:o.k=.alloc z)(hl:ZaR L t=false)(h:DO F kp dk os ((t,.loc t 0)::H) ((t,z)::L) s):DO F kp dk (o::os) H L s:=by
 refine Wz λoo g Z w tmps ad i r k ag j ah n hd hN m hr ac=>?_;have hw:=Yi m ah (c:=true) (by rw[hg];rfl);have ae:=Yq j (by rw[hk];rfl);rw[hk]at j;obtain⟨T,ab,hz⟩:=ZsK j;obtain⟨v,af,ai,u,_⟩:=JE (g:=g) (w:=w) hz;obtain⟨hx,m'⟩:=m.alloc hl ai u T;refine YU (s':=s) hN ag n hd hw ae (v:=.pointer (sO ⟨w.heap.size,0,nO⟩)) (e:=.loc t 0) ?_ hx m' ⟨⟨z,by simp[Zj]⟩,ψ⟩ ?_;simp[execOp,ab,Instr.alloc,af,newVar,newRow];rw[hdt];exact h ad r k hr ac
def ZB5{F:Fr P}{kp dk o os H L s}(hg:o.guard=nO){t}(hdt:o.dst=sO t){x}(hk:o.k=.box x){p v}(ha:ZD H true x=sO (p,.d v))(hp:p)(hl:ZaR L t=false)(hok:Km v=true)(h:DO F kp dk os ((t,.loc t 0)::H) ((t,cellsOf v)::L) s):DO F kp dk (o::os) H L s:=by
 refine Wz λoo g Z w tmps ad i r k af n ai u hd hN m hr ac=>?_;have hw:=Yi m ai (c:=true) (by rw[hg];rfl);have ae:=Yq n (by rw[hk];rfl);rw[hk]at n;obtain⟨T,x',ab,ah⟩:=ZxR n;have j:Rep g w _ v:=Yf m ah rfl ha hp F.ds;obtain⟨aj,ag⟩:=Zew j hok;have z:=ZhK j hok;obtain⟨hx,m'⟩:=m.alloc hl (Yo (by simpa using aj) ag) (λv hv=>z v hv) T;refine YU (s':=s) hN af u hd hw ae (v:=.pointer (sO ⟨w.heap.size,0,nO⟩)) (e:=.loc t 0) ?_ hx m' ⟨⟨cellsOf v,by simp[Zj]⟩,ψ⟩ ?_;simp[execOp,ab,Instr.box,newVar,newRow];rw[hdt];exact h ad r k hr ac
def ZBz{g Z w L v l off}(h:ZP g Z w L v (.loc l off)):v=.pointer (sO ⟨Z l,off,nO⟩):=h.2
def Zsg{F:Fr P}{kp dk o os H L s}(hg:o.guard=nO){a v}(hk:o.k=.store1 a v/\True\/∃n,o.k=.storeN n a v){p q l off d cs}(ha:ZD H true a=sO (p,.loc l off))(hv:ZD H true v=sO (q,.d d))(hp:p)(hq:q)(hL:Zj L l=sO cs)(hd1:o.k=.store1 a v->Qm d=true)(hd2:∀n,o.k=.storeN n a v->(∃xs,d=.agg xs)/\(cellsOf d).length=n)(hlen:off+(cellsOf d).length<=I cs)(hdst0:o.dst=nO)(h:DO F kp dk os H ((l,Zq cs off (cellsOf d))::L) s):DO F kp dk (o::os) H L s:=by
 refine Wz λoo g Z w tmps aq i r k av u a0 ah hd hN m hr al=>?_;have hw:=Yi m a0 (c:=true) (by rw[hg];rfl);have au:=Yq u (by rcases hk with ⟨hk,_⟩|⟨n,hk⟩<;>rw[hk]<;>rfl);have af:∃t a' v',oo.op=.store t a' v'/\Z6 a'=sO a/\Z6 v'=sO v/\Z2 P t=sO (cellsOf d).length/\Km d=true:=by rcases hk with ⟨hk,_⟩|⟨n,hk⟩;have ab:=hd1 hk;rw[hk]at u;obtain⟨t,a',v',h1,h2,h3,h4,h5⟩:=ZqD u;refine⟨t,a',v',h1,h4,h5,?_,?_⟩;rw[h3];cases d<;>simp[Qm]at ab<;>rfl;cases d<;>simp[Qm]at ab<;>rfl;obtain⟨⟨xs,rfl⟩,hn⟩:=hd2 n hk;rw[hk]at u;obtain⟨t,a',v',h1,h2,h3,h4,h5⟩:=ZqE u;exact⟨t,a',v',h1,h4,h5,by rw[h3,hn],rfl⟩
 obtain⟨t,a',v',ak,aj,az,ap,ab⟩:=af;have ao:=ZBz (Yf m aj rfl ha hp F.ds);have ad:Rep g w _ d:=Yf m az rfl hv hq F.ds;obtain⟨ag,aw⟩:=Zew ad ab;have ae:=ZhK ad ab;obtain⟨hpr,j,T,hb,am,ax,ai⟩:=m.loc l cs hL;generalize ay:(Act.mk tmps F.ds).eval v'=vv at *;have ar:=run_storeCells_at (P:=P) (Z l) off T vv.cells.toList 0 j w hb (by simp;omega) (λx hx=>by rw[ZdI];exact ae x (Array.mem_toList_iff.1 hx));have z:ZO (Rep g w) (j.toList.take off++vv.cells.toList++j.toList.drop (off+vv.cells.size)) (Zq cs off (cellsOf d)):=by have ac:ZO (Rep g w) j.toList cs:=Yo (by simpa using am) (λi v d hv hd=>ax i v d (by simpa using hv) hd);unfold Zq;rw[<-ag];exact((ac.take off).append (Yo (by simpa using ag) aw)).append (ac.drop _)
 obtain⟨hx,m'⟩:=m.store hL (vs:=(j.toList.take off++vv.cells.toList++j.toList.drop (off+vv.cells.size)).toArray) (ds:=Zq cs off (cellsOf d)) (by simpa using z) (λx hx=>by
  simp only[List.mem_toArray,List.mem_append]at hx;rcases hx with (hx|hx)|hx;exact ai x (Array.mem_toList_iff.1 (List.mem_of_mem_take hx));exact ae x (Array.mem_toList_iff.1 hx);exact ai x (Array.mem_toList_iff.1 (List.mem_of_mem_drop hx))) (by simp[Zq];omega)
 refine F.T.back _ _ _ _ (.one (ZiT av hw au (w':=w.setRow (Z l) (j.toList.take off++vv.cells.toList++j.toList.drop (off+vv.cells.size)).toArray) ?_)) ?_;simp only[execOp,ak,ao,ay,Instr.storeAt,Instr.sureAddr,storeVar,Sem.run_bind,Sem.run_pure,Result.andThen_ok,YY ap];rw[if_neg (by simp[ag])];rw[ar];rfl;rw[ah,hdst0];exact F.T.ext _ _ _ _ _ hx (h aq r k hr al g Z _ tmps hN m')
end
def ZtH{cs vs s k i}(hv:I vs=s)(u:(k+1)*s<=I cs)(hi:(i+1)*s<=I cs):
  part (Zq cs (k*s) vs) (i*s) s=if i=k then vs else part cs (i*s) s:=by
 have hk':k*s+s<=I cs:=by rw[ZIa,Nat.one_mul]at u;exact u
 unfold part Zq;apply List.ext_getElem?;intro j;by_cases t:j<s;simp only[ZIm,t,if_true,List.getElem?_drop,List.getElem?_append,ZHO,ZHZ,hv];by_cases n:i=k;subst n;simp only[show i*s+j<min (i*s) (I cs)+s from by omega,show ¬i*s+j<min (i*s) (I cs) from by omega,if_true,if_false];rw[show i*s+j-min (i*s) (I cs)=j from by omega];simp only[n,if_false,ZIm,t,if_true,List.getElem?_drop];rcases Nat.lt_or_gt_of_ne n with h|h;have:(i+1)*s<=k*s:=ZH5 s h;rw[ZIa,Nat.one_mul]at this;simp only[show i*s+j<min (k*s) (I cs)+s from by omega,show i*s+j<min (k*s) (I cs) from by omega,if_true,show i*s+j<k*s from by omega];have:(k+1)*s<=i*s:=ZH5 s h;rw[ZIa,Nat.one_mul]at this;simp only[show ¬i*s+j<min (k*s) (I cs)+s from by omega,if_false]
 congr 1;omega
 have z:∀l:List D,(l.take s)[j]?=nO:=λl=>by simp[ZIm,t]
 rw[z];split;exact(ZIr (l:=vs) (i:=j) ω).symm;rw[z]
def Zp9{cs vs o}(h:o+I vs<=I cs):(Zq cs o vs).length=I cs:=by
 simp[Zq];omega
def Zhv{n}:∀{is},QR n is=true->∀i∈is,i<n
 |i::r,h,j,hj=>by simp[QR]at h;rcases List.mem_cons.1 hj with rfl|hj;exact h.1.1;exact Zhv h.2 j hj
def Zol{z}:∀{ps i},(∀p∈ps,p.1≠i)->ZY z ps i=z
 | [],_,_=>rfl
 | (k,d)::r,i,h=>by have n:¬k=i:=h (k,d) ψ;simp[ZY,n];exact Zol λp j=>h p (List.mem_cons_of_mem _ j)
def ZjI{len s}:∀(is ds cells),QR len is=true->I is=I ds->Qz s ds=true->I cells=len*s ->
  ∃cs,Zca cells (is.map λi=>(i*s,s)) ds=sO cs/\I cs=len*s/\∀i,i<len->part cs (i*s) s=ZY (part cells (i*s) s) (is.zip ds) i
 | [],[],cells,_,_,_,hc=>⟨cells,rfl,hc,λi _=>rfl⟩
 |k::is,d::ds,cells,hd,hn,hp,hc=>by
  simp[QR]at hd;simp[Qz]at hp;obtain⟨⟨hk,z⟩,hd⟩:=hd;obtain⟨⟨ab,t⟩,ac⟩:=hp;have n:(k+1)*s<=I cells:=by rw[hc];exact ZH5 s hk
  have u:k*s+s<=I cells:=by rw[ZIa,Nat.one_mul]at n;exact n
  obtain⟨cs,h1,h2,h3⟩:=ZjI is ds (Zq cells (k*s) (cellsOf d)) hd (by simpa using hn) ac (by rw[Zp9 ω,hc]);refine⟨cs,?_,h2,λi hi=>?_⟩;simp only[ZHY,Zca];rw[if_pos ⟨ab,t,u⟩];exact h1;rw[h3 i hi,ZtH t n (by rw[hc];exact ZH5 s hi)];simp[ZY];by_cases j:i=k;subst j;simp;exact Zol λp hp=>by have:=(List.of_mem_zip hp).1;intro h;subst h;exact z this
  simp[j,show ¬k=i from λh=>j h.symm]
 | [],_::_,_,_,hn,_,_=>by grind
 |_::_,[],_,_,hn,_,_=>by grind
def ZkZ{z len s i}(hzl:I z=s)(_hs0:0<s)(u:i<len):part ((ZHT (len*s)).map λi=>z.getD (i % s) .undef) (i*s) s=z:=by
 apply List.ext_getElem?;intro c;by_cases t:c<s;have j:i*s+c<len*s:=by have:(i+1)*s<=len*s:=ZH5 s u;rw[ZIa,Nat.one_mul]at this;omega
 have hm:(i*s+c) % s=c:=by rw[Nat.mul_comm,Nat.mul_add_mod,Nat.mod_eq_of_lt t]
 have n:c<I z:=ω;simp only[part,ZIm,t,List.getElem?_drop,List.getElem?_map,List.getElem?_range j,ZId,hm];simp[n];rw[ZIr (l:=z) ω];simp[part,ZIm,t]
section
variable {P:Program}
def ZCe{g w len s z t e}{parts:List (Nat×Value)}{ds}(hu:P.underlying t=sO (.slice e))(hsz:Z2 P e=sO s)(hz:Za8 P e=sO z)(hdis:QR len (parts.map (·.1))=true)(hzl:I z=s)(hs0:0<s)(hbig:len*s<=2 ^ 24)(hd:ZO (Rep g w) (parts.map (·.2)) ds)(hp:Qz s ds=true)(hf:∀b,w.heap.size<=b->g.prot b=0/\¬g.kept b):
  ∃v w' g',(Instr.buildSlice t len parts.toArray).run P w=.ok v w'/\Zaq g w g' w'/\Rep g' w' v (.sl .full len s (ZY z ((parts.map (·.1)).zip ds))):=by
 obtain⟨zv,hz1,aq,aw,ie,au,a4⟩:=JE (g:=g) (w:=w) hz;have ab:ie.size=s:=by simpa[Z2,au]using hsz
 have ac:zv.cells.size=s:=by have:=aq.len;simp at this;omega
 have hn:(parts.map (·.1)).length=I ds:=by have:=hd.len;simpa using this
 let c0:Array Value:=(Array.range (len*s)).map (zv.cells[· % zv.cells.size]!);let d0:List D:=(ZHT (len*s)).map λi=>z.getD (i % s) .undef;have ai:ZO (Rep g w) c0.toList d0:=by refine Yo (by simp[c0,d0]) (λi v d hv hd=>?_);simp[c0,d0]at hv hd;obtain⟨a,ha,rfl⟩:=hv;obtain⟨b,hb,rfl⟩:=hd;rw[ha]at hb;cases hb;have n:a % s<s:=Nat.mod_lt _ hs0;refine aq.get (a % s) _ _ ?_ ?_;rw[ac];simp[ac,n];simp[hzl,n]
 have ak:∀v∈c0,v.one1=true:=λv hv=>by simp[c0]at hv;obtain⟨a,_,rfl⟩:=hv;have n:a % zv.cells.size<zv.cells.size:=Nat.mod_lt _ ω;rw[getElem!_pos zv.cells (a % zv.cells.size) n];exact aw _ (Array.getElem_mem n)
 have af:I d0=len*s:=by simp[d0]
 obtain⟨cs,ah,hcl,ae⟩:=ZjI (parts.map (·.1)) ds d0 hdis hn hp af;obtain⟨cv,ax,av,a3⟩:=Zhy (g:=g) (w:=w) (λi=>sO (i*s,s)) parts ((parts.map (·.1)).map λi=>(i*s,s)) ds cs d0 c0 (λi x q hx hq=>by
  simp[hx,Function.comp_def]at hq;rw[<-hq]) ψ hd ai ak ah
 have aj:cv.size=len*s:=by have:=av.len;simp at this;omega
 have u:∀i j,i<len->j<s->i*s+j<len*s:=λi j hi hj=>by have:(i+1)*s<=len*s:=ZH5 s hi;rw[ZIa,Nat.one_mul]at this;omega
 have al:∀i j d,i<len->j<s->(ZY z ((parts.map (·.1)).zip ds) i)[j]?=sO d->cs[i*s+j]?=sO d:=λi j d hi hj hd=>by have h:=ae i hi;have ag:part d0 (i*s) s=z:=ZkZ hzl hs0 hi;rw[ag]at h;rw[<-h]at hd;simpa[part,hj]using hd
 have ad:∀i,i<len->(ZY z ((parts.map (·.1)).zip ds) i).length=s:=λi hi=>by
  have ag:=ae i hi;have:(part cs (i*s) s).length=s:=by have:=u i (s-1) hi ω;simp[part];omega
  have a0:part d0 (i*s) s=z:=ZkZ hzl hs0 hi;rw[ag,a0]at this;exact this
 by_cases az:len=0
 .subst az;have ay:parts=[]:=by
   cases parts with
   |nil=>rfl
   |cons x r=>have:=Zhv hdis x.1 ψ;omega
  subst ay;refine⟨.slice (sO ⟨w.heap.size,0,nO⟩) 0 0,w.alloc (.cells #[] e),{ g with prot:=λb=>if b=w.heap.size then 0 else g.prot b },?_,Zmb #[] e hf,?_⟩;simp[Instr.buildSlice,run_underlying hu,YY hsz,Instr.fill,newRow];exact congrArg (λc=>w.alloc (Obj.cells c e)) (Array.ext' ψ);exact .sl w.heap.size 0 0 0 s _ .full (λ_ _=>undef) (λi hi=>by omega) (λi j hi=>by omega) (λi j hi=>by omega) (λi j d hi=>by omega) (λi j hi=>by omega) rfl ω ψ
 have am:¬len*s=0:=by simp[Nat.mul_eq_zero];omega
 have ap:=run_buildSlice (P:=P) w t e len parts.toArray cv ie zv hu au a4 (by rw[ab];omega) (by rw[ab];exact am) (by rw[ab];exact ax);have ar:=Zmb (g:=g) (w:=w) cv e hf;refine⟨_,_,_,ap,ar,?_⟩;have ao:=ar.ext hf;refine .sl w.heap.size 0 len len s _ .full (λi j=>cv.getD (i*s+j) undef) ad (λi j hi hj=>?_) (λi j hi hj=>?_) (λi j d hi hd=>?_) (λi j hi hj=>?_) rfl (ZHV _) ?_;have n:i*s+j<cv.size:=by rw[aj];exact u i j hi hj
 have:(w.alloc (.cells cv e)).cell? ⟨w.heap.size,0+i*s+j,nO⟩=cv[0+i*s+j]?:=World.cell?_alloc_new w cv e _;rw[this];simp[n];simp;have:=u i j hi hj;omega;have hj:j<s:=by rw[<-ad i hi];exact(List.getElem?_eq_some_iff.1 hd).1
 have n:i*s+j<cv.size:=by rw[aj];exact u i j hi hj
 refine(av.get (i*s+j) _ d ?_ (al i j d hi hj hd)).mono ao;simp[n];have n:i*s+j<cv.size:=by rw[aj];exact u i j hi hj
 simp[n,dite_true];exact a3 _ (Array.getElem_mem n);unfold big;have:len<=len*s:=Nat.le_mul_of_pos_right _ hs0;omega
end
section
variable {P:Program}
def Yp.updL(h:Yp g s w){b:Nat}{o:Jo}(ho:W2 g w b o)(hk:¬g.kept b):Yp g (s.upd b o) w:={
 obj c x hx:=by simp[St.upd]at hx;by_cases i:c=b;grind;simp[i]at hx;exact h.obj c x hx
 kept c x hx:=by simp[St.upd]at hx;by_cases i:c=b;grind;simp[i]at hx;exact h.kept c x hx
 fresh:=h.fresh
 tabs:=h.tabs }
def Zy.named{w w':World}(m:Zy g Z w tmps H L s){b:Nat}{o o':Jo}(hb:s b=sO o)(he:Ext g w g w')(hsz:w'.heap.size=w.heap.size)(u:∀c,c≠b->w'.heap[c]?=w.heap[c]?)(ho:W2 g w' b o'):Zy g Z w' tmps H L (s.upd b o'):={
 st:=by
  have h1:Yp g (s.del b) w':=⟨λc x z=>by simp[St.del]at z;by_cases j:c=b;grind;simp[j]at z;exact(m.st.obj c x z).mono he (u c j) rfl,
   λc x z=>by simp[St.del]at z;by_cases j:c=b;grind;simp[j]at z;exact m.st.kept c x z,
   λc j=>m.st.fresh c ω,λn cs j=>(m.st.tabs n cs j).mono he⟩
  have h2:=h1.updL ho (m.st.kept b o hb);have:(s.del b).upd b o'=s.upd b o':=by funext c;simp[St.upd,St.del];by_cases j:c=b<;>simp[j]
  rw[this]at h2;exact h2
 loc l cs hl:=(m.loc l cs hl).mono he (u _ (λh=>by have:=m.locSt l cs hl;grind)) rfl
 locKept:=m.locKept
 locSt l cs hl:=by
  have i:Z l≠b:=λh=>by have:=m.locSt l cs hl;grind
  simp[St.upd,i];exact m.locSt l cs hl
 inj:=m.inj
 env t e ht:=(m.env t e ht).mono he }
def Zy.newObj{g n Z w w' tmps H L s}(m:Zy g Z w tmps H L s)(u:Zaq g w n w'){o}(ho:W2 n w' w.heap.size o):
  s w.heap.size=nO/\Zy n Z w' tmps H L (s.upd w.heap.size o):=by
 have hn:s w.heap.size=nO:=by
  cases h:s w.heap.size with
  |none=>rfl
  |some x=>exact absurd (m.st.obj _ x h).lt (Nat.lt_irrefl _)
 have j:=m.grow u;refine⟨hn,⟨j.st.updL ho (by rw[u.kept];exact(m.st.fresh _ (ZHV _)).2),j.loc,j.locKept,?_,j.inj,j.env⟩⟩;intro l z t;have hlt:=(m.loc l z t).lt;have i:Z l≠w.heap.size:=ω;simp[St.upd,i];exact j.locSt l z t
def ZnT(b:Nat){en:Array MapEntry}{cl:Nat}(o:Obj)(hb:w.heap[b]?=sO (.map en cl))(hp:g.prot b=0)(hk:¬g.kept b):Ext g w g { w with heap:=w.heap.setIfInBounds b o } where
 size:=by simp
 prot _:=ZHV _
 cell b' o' ho:=by by_cases h:b'=b;subst h;omega;exact J8 (by simp[Ne.symm h])
 hdr b' x hx:=by by_cases h:b'=b;subst h;simp[hdr,hb]at hx;rw[ZbY (w:=w) (by simp[Ne.symm h])];exact hx
 kept b' hb':=by have h:b'≠b:=λh=>hk (h▸hb');simp[Ne.symm h]
 keptProt _ _:=rfl
 keptEq:=rfl
 os:=rfl
 output:=rfl
 tape:=rfl
def Zre{b en cl}{o}(hb:w.heap[b]?=sO (.map en cl)):({ w with heap:=w.heap.setIfInBounds b o }:World).heap[b]?=sO o:=by grind
def Zaj{b c}{o}(h:c≠b):({ w with heap:=w.heap.setIfInBounds b o }:World).heap[c]?=w.heap[c]?:=by grind
def ZzD{op}(h:ck P op=sO .mkmap):∃t,op=.makeMap t nO:=by
 unfold ck at h;split at h;simp at h;split at h<;>(try(simp at h;done));all_goals (try(repeat' (split at h<;>(try(simp at h;done)))))
 grind
def Zwl{op e n bytes z l c}(h:ck P op=sO (.mkslice e n bytes z l c)):
  ∃t l' c',op=.makeSlice t l' c'/\P.underlying t=sO (.slice e)/\Z2 P e=sO n/\Za8 P e=sO z/\bytes=P.bytesOf e/\Z6 l'=sO l/\Z6 c'=sO c/\0<n/\I z=n:=by
 unfold ck at h;split at h;simp at h;split at h<;>(try(simp at h;done));all_goals (try(repeat' (split at h<;>(try(simp at h;done)))))
 rename_i i;cases h;simp at i;exact⟨_,_,_,rfl,‹_›,‹_›,‹_›,rfl,‹_›,‹_›,i.1,i.2⟩
def ZCj{op x}(h:ck P op=sO (.s2b x)):∃s d x' e,op=.convert s d x'/\P.underlying s=sO .string/\P.underlying d=sO (.slice e)/\P.underlying e=sO (.int .u8)/\Z6 x'=sO x:=by
 unfold ck at h;split at h;simp at h;split at h<;>(try(simp at h;done));all_goals (try(repeat' (split at h<;>(try(grind;done)))))
 simp at h;grind
def ZxW{op kp m k v}(h:ck P op=sO (.mapupd kp m k v)):
  ∃t kt et m' k' v',(op=.mapUpdate t m' k' v'\/op=.insert t m' k' v')/\P.underlying t=sO (.map kt et)/\Zaz P kt=sO kp/\Z6 m'=sO m/\Z6 k'=sO k/\Z6 v'=sO v:=by
 unfold ck at h;split at h;simp at h;split at h<;>(try(simp at h;done));all_goals (try(repeat' (split at h<;>(try(simp at h;done)))))
 all_goals (cases h)
 grind;grind
def ZxU{op kp m k}(h:ck P op=sO (.delete kp m k)):
  ∃ats t kt et m' k',op=.call ⟨.builtin .delete,#[m',k'],ats⟩/\ats[0]?=sO t/\P.underlying t=sO (.map kt et)/\Zaz P kt=sO kp/\Z6 m'=sO m/\Z6 k'=sO k:=by
 unfold ck at h;split at h;simp at h;split at h<;>(try(simp at h;done));all_goals (try(repeat' (split at h<;>(try(simp at h;done)))))
 simp at h;obtain⟨rfl,rfl,rfl⟩:=h;rename_i c hcq x1 z o0 x kt et m' k' hu n o1 o2 o3 kp m k hk hm ab;obtain⟨i,⟨al⟩,ats⟩:=c;have u:i=_:=z;have j:al=_:=n;subst u j;simp[Option.bind_eq_some_iff]at hu;obtain⟨t,ht,hu⟩:=hu;exact⟨ats,t,kt,et,m',k',rfl,ht,hu,hk,hm,ab⟩
def ZxV{op kp z m k}(h:ck P op=sO (.mapent kp z m k)):
  ∃t kt et m' k',op=.mapEntry t m' k'/\P.underlying t=sO (.map kt et)/\Zaz P kt=sO kp/\Zea P et=sO z/\Z6 m'=sO m/\Z6 k'=sO k:=by
 unfold ck at h;split at h;simp at h;split at h<;>(try(simp at h;done));all_goals (try(repeat' (split at h<;>(try(simp at h;done)))))
 grind
def ZzC{op m k v}(h:ck P op=sO (.entst m k v)):∃t m' k' v',op=.entryStore t m' k' v'/\Z6 m'=sO m/\Z6 k'=sO k/\Z6 v'=sO v:=by
 unfold ck at h;split at h;simp at h;split at h<;>(try(simp at h;done));all_goals (try(repeat' (split at h<;>(try(simp at h;done)))))
 grind
def Zgg{F:Fr P}{kp dk o os H L s}(hg:o.guard=nO){a v}(hk:o.k=.store1 a v/\True\/∃n,o.k=.storeN n a v){p q b off d cs}(ha:ZD H true a=sO (p,.d (.ptr b off)))(hv:ZD H true v=sO (q,.d d))(hp:p)(hq:q)(hL:Ye s b=sO cs)(hd1:o.k=.store1 a v->Qm d=true)(hd2:∀n,o.k=.storeN n a v->(∃xs,d=.agg xs)/\(cellsOf d).length=n)(hlen:off+(cellsOf d).length<=I cs)(hdst0:o.dst=nO)(h:DO F kp dk os H L (s.upd b (.cells (Zq cs off (cellsOf d))))):DO F kp dk (o::os) H L s:=by
 refine Wz λoo g Z w tmps aw i r k ay ab a4 ag hd hN m hr aq=>?_;have hw:=Yi m a4 (c:=true) (by rw[hg];rfl);have ax:=Yq ab (by rcases hk with ⟨hk,_⟩|⟨n,hk⟩<;>rw[hk]<;>rfl);have af:∃t a' v',oo.op=.store t a' v'/\Z6 a'=sO a/\Z6 v'=sO v/\Z2 P t=sO (cellsOf d).length/\Km d=true:=by rcases hk with ⟨hk,_⟩|⟨n,hk⟩;have ad:=hd1 hk;rw[hk]at ab;obtain⟨t,a',v',h1,h2,h3,h4,h5⟩:=ZqD ab;refine⟨t,a',v',h1,h4,h5,?_,?_⟩;rw[h3];cases d<;>simp[Qm]at ad<;>rfl;cases d<;>simp[Qm]at ad<;>rfl;obtain⟨⟨xs,rfl⟩,hn⟩:=hd2 n hk;rw[hk]at ab;obtain⟨t,a',v',h1,h2,h3,h4,h5⟩:=ZqE ab;exact⟨t,a',v',h1,h4,h5,by grind,rfl⟩
 obtain⟨t,a',v',ap,ao,a3,av,ad⟩:=af;have ai:s b=sO (.cells cs):=by unfold Ye at hL;split at hL<;>cases hL;assumption
 have al:Rep g w ((Act.mk tmps F.ds).eval a') (.ptr b off):=Yf m ao rfl ha hp F.ds;have aj:Rep g w ((Act.mk tmps F.ds).eval v') d:=Yf m a3 rfl hv hq F.ds;have au:(Act.mk tmps F.ds).eval a'=.pointer (sO ⟨b,off,nO⟩):=by generalize (Act.mk tmps F.ds).eval a'=z at al;cases al;rfl
 obtain⟨a5,az⟩:=Zew aj ad;have am:=ZhK aj ad;obtain⟨ah,j,T,hb,ar,a0,ak⟩:=JF m.st hL;generalize hvv:(Act.mk tmps F.ds).eval v'=vv at *;have hst:=run_storeCells_at (P:=P) b off T vv.cells.toList 0 j w hb (by grind) (λx hx=>by rw[ZdI];exact am x (Array.mem_toList_iff.1 hx));have u:ZO (Rep g w) (j.toList.take off++vv.cells.toList++j.toList.drop (off+vv.cells.size)) (Zq cs off (cellsOf d)):=by have ae:ZO (Rep g w) j.toList cs:=Yo ω (λi v d hv hd=>a0 i v d (by grind) hd);unfold Zq;rw[<-a5];exact((ae.take off).append (Yo ω az)).append (ae.drop _)
 have ac:((j.toList.take off++vv.cells.toList++j.toList.drop (off+vv.cells.size)).toArray).size=j.size:=by have:=u.len;simp at this⊢;omega
 have he:=Zih (g:=g) b hb ac ah (m.st.kept b _ ai);have m':=m.named (o':=.cells (Zq cs off (cellsOf d))) ai he ψ (λc hc=>setRow_other w b c _ hc) ⟨ah,_,T,setRow_heap w b j _ T (0,0) hb,by rw[ac,ar];simp[Zq];omega,
  λi v d hv hd=>(u.get i v d (by grind) hd).mono he,λx hx=>by
   simp only[List.mem_toArray,List.mem_append]at hx;rcases hx with (hx|hx)|hx;exact ak x (Array.mem_toList_iff.1 (List.mem_of_mem_take hx));simp_all;exact ak x (Array.mem_toList_iff.1 (List.mem_of_mem_drop hx))⟩
 refine F.T.back _ _ _ _ (.one (ZiT ay hw ax (w':=w.setRow b (j.toList.take off++vv.cells.toList++j.toList.drop (off+vv.cells.size)).toArray) ?_)) ?_;simp only[execOp,ap,au,Instr.storeAt,Instr.sureAddr,storeVar,Sem.run_bind,Sem.run_pure,YY av];simp_all;rw[ag,hdst0];exact F.T.ext _ _ _ _ _ he (h aw r k hr aq g Z _ tmps hN m')
def Zav(o:Obj)(i:∀b,w.heap.size<=b->g.prot b=0/\¬g.kept b):Zaq g w g (w.alloc o):={
 size:=by simp
 old b hb:=Zjt w hb
 prot _ _:=rfl
 fresh b hb:=(i b (by simp at hb;omega)).1
 kept:=rfl
 os:=rfl
 output:=rfl
 tape:=rfl }
def Zsf{F:Fr P}{kp dk o os H L s}(hg:o.guard=nO){t}(hdt:o.dst=sO t)(hk:o.k=.mkmap)(h:∀b,s b=nO->DO F kp dk os ((t,.d (.map b))::H) L (s.upd b (.map []))):DO F kp dk (o::os) H L s:=by
 refine Wz λoo g Z w tmps ac i r k ae j af n hd hN m hr ab=>?_;have hw:=Yi m af (c:=true) (by rw[hg];rfl);have ad:=Yq j (by rw[hk];rfl);rw[hk]at j;obtain⟨T,z⟩:=ZzD j;have u:=Zav (g:=g) (w:=w) (.map #[] 0) m.st.fresh;obtain⟨hn,m'⟩:=m.newObj u (o:=.map []) ⟨(m.st.fresh _ (ZHV _)).1,#[],0,Kw w,rfl,ψ,ψ,ψ,ψ⟩;refine YU (L':=L) hN ae n hd hw ad (v:=.map (sO w.heap.size)) (e:=.d (.map w.heap.size)) ?_ (u.ext m.st.fresh) m' (Rep.map _) ?_;simp[execOp,z,Instr.makeMap];rw[hdt];exact h _ hn ac r k hr ab
def Zk1{z n}:∀{c},I z=n->(K2 z c).length=c*n/\∀i,i<c*n->(K2 z c)[i]?=z[i % n]?
 |0,hz=>by simp[K2]
 |c+1,hz=>by
  obtain⟨h1,h2⟩:=Zk1 (c:=c) hz;have j:K2 z (c+1)=z++K2 z c:=by simp[K2,List.replicate_succ]
  rw[j];refine⟨by grind,λi hi=>?_⟩;by_cases h:i<n;rw[ZIc ω,Nat.mod_eq_of_lt h];rw[ZIq ω,hz,h2 _ (by grind)];rw[Nat.mod_eq_sub_mod (by omega:n<=i)]
def Zns{F:Fr P}{kp dk o os H L s}(hg:o.guard=nO){t:Nat}(hdt:o.dst=sO t){e:TypeId}{n bytes:Nat}{z:List D}{lx hx:Opd}(hk:o.k=.mkslice e n bytes z lx hx){p q:Prop}{k1 k2:IntKind}{l c:Int}(hl:ZD H true lx=sO (p,.d (.int k1 l)))(hc:ZD H true hx=sO (q,.d (.int k2 c)))(hp:p)(hq:q)(h0:0<=l)(hlc:l<=c)(hbytes:(bytes:Int)*c<=140737488355328)(h63:c<=big)(h:∀b,s b=nO->DO F kp dk os ((t,.d (.msl b 0 l.toNat c.toNat n))::H) L (s.upd b (.cells (K2 z c.toNat)))):DO F kp dk (o::os) H L s:=by
 refine Wz λoo g Z w tmps ap i r k av ab a4 ae hd hN m hr am=>?_;have hw:=Yi m a4 (c:=true) (by rw[hg];rfl);have aq:=Yq ab (by rw[hk];rfl);rw[hk]at ab;obtain⟨T,l',c',al,hu,ao,hz,ax,au,ak,ai,ah⟩:=Zwl ab;obtain⟨zv,hz1,af,hz3,ie,ac,az⟩:=JE (g:=g) (w:=w) hz;obtain⟨aj,_⟩:=QB (g:=g) (w:=w) (Yf m au rfl hl hp F.ds);obtain⟨a0,_⟩:=QB (g:=g) (w:=w) (Yf m ak rfl hc hq F.ds);have j:ie.size=n:=by simpa[Z2,ac]using ao
 have hbt:ie.bytes=bytes:=by rw[ax];simp[Program.bytesOf,ac]
 have u:zv.cells.size=I z:=by have:=af.len;simpa using this
 have ad:=run_make (P:=P) w T e ie zv hu ac az k1 k2 l c h0 hlc (by grind) (by unfold big at h63;omega);obtain⟨aw,ay⟩:=Zk1 (z:=z) (n:=n) (c:=c.toNat) ah;have ag:=Zav (g:=g) (w:=w) (.cells (madeCells zv.cells (c.toNat*ie.size)) e) m.st.fresh;have he:=ag.ext m.st.fresh;have ar:W2 g (w.alloc (.cells (madeCells zv.cells (c.toNat*ie.size)) e)) w.heap.size (.cells (K2 z c.toNat)):=by
  refine⟨(m.st.fresh _ (ZHV _)).1,_,e,Kw w,by rw[size_madeCells,aw,j],λi v d hv hd=>?_,λx hx=>?_⟩;have hi:i<c.toNat*n:=by grind
  rw[ay i hi]at hd;have hm:i % n<n:=Nat.mod_lt _ ai;have a3:zv.cells.toList[i % n]?=sO v:=by simp[madeCells,j,hi,u,ah]at hv;simp_all
  exact(af.get _ v d a3 hd).mono he;simp only[madeCells,Array.mem_map]at hx;obtain⟨a,_,rfl⟩:=hx;have hlt:a % zv.cells.size<zv.cells.size:=Nat.mod_lt _ ω;simp_all
 obtain⟨hn,m'⟩:=m.newObj ag ar;refine YU (L':=L) hN av ae hd hw aq (v:=.slice (sO ⟨w.heap.size,0,nO⟩) l.toNat c.toNat) (e:=.d (.msl w.heap.size 0 l.toNat c.toNat n)) ?_ he m' (Rep.msl _ _ _ _ _ ω ω) ?_;simp[execOp,al,aj,a0,ad];rw[hdt];exact h _ hn ap r k hr am
end
section
variable {P:Program}
def Zmp{g w k u k2 z d2}(i:Rep g w u z)(j:Rep g w k2 d2)(h:Yv k z d2=sO true)(n):Instr.sameBits n u k2=true:=by
 cases k;cases i<;>cases j<;>simp only[Yv,reduceCtorEq]at h;split at h<;>simp only[reduceCtorEq,ZHE,decide_eq_true_eq]at h;rename_i hk;subst hk;subst h;cases n<;>simp[Instr.sameBits];cases i<;>cases j<;>simp only[Yv,reduceCtorEq,ZHE,decide_eq_true_eq]at h;rename_i s1 a e1 _ t b e2 _;subst h;have:s1=t:=by cases s1;cases t;simp only[ByteArray.mk.injEq];apply Array.ext';simp only at e1 e2;rw[e1,e2]
 subst this;cases n<;>simp[Instr.sameBits,MapKept.bytes_beq];cases i<;>cases j<;>simp only[Yv,reduceCtorEq,ZHE,decide_eq_true_eq]at h;subst h;cases n<;>simp[Instr.sameBits]
def Zfs{xs i}:∀{l},WC xs i l=sO true->∀o k,(o,k)∈l->∃x y,xs[o]?=sO x/\i[o]?=sO y/\Yv k x y=sO true
 | [],_,o,k,hm=>by simp at hm
 | (o',k')::r,h,o,k,hm=>by simp only[WC]at h;split at h<;>(try(simp at h;done));rename_i x y t n;split at h<;>(try(simp at h;done));rename_i b c z u;simp only[ZHE,ZHN]at h;obtain⟨rfl,rfl⟩:=h;rcases List.mem_cons.1 hm with j|hm;simp only[ZHR]at j;obtain⟨rfl,rfl⟩:=j;exact⟨x,y,t,n,z⟩;exact Zfs u o k hm
def Zmo{g w kt kp}(hk:Zaz P kt=sO kp){k1 k2 d1 d2}(h1:Rep g w k1 d1)(h2:Rep g w k2 d2)(h:KK kp d1 d2=sO true)(n):Instr.sameBits (n+1) k1 k2=true:=by
 rcases Ze2 hk with ⟨sk,rfl,hs⟩|⟨fs,l,m,rfl,hu,hn,hl,j,hst⟩;exact Zmp h1 h2 h _;cases h1<;>cases h2<;>simp only[KK,reduceCtorEq]at h;rename_i v1 xs hn1 r1 o1 v2 ys hn2 r2 o2;split at h<;>(try(simp at h;done));rename_i hlen;simp only[Instr.sameBits,List.size_toArray,ZHN,beq_iff_eq];refine⟨ω,?_⟩;rw[List.all_eq_true];intro p hp;obtain⟨i,hi,ac⟩:=ZH1 hp;simp only[List.length_zip]at hi;have ab:i<I v1:=ω;have z:i<I v2:=ω;have t:i<I l:=ω;have hm:(l[i].1,l[i].2)∈l:=List.getElem_mem t;have u:l[i].1=i:=by
  have h3:(l.map (·.1))[i]?=sO l[i].1:=by simp[t]
  rw[j]at h3;have hlm:I l=m:=by have:=congrArg List.length j;simpa using this
  rw[List.getElem?_range ω]at h3;exact(Option.some.inj h3).symm
 rw[u]at hm;obtain⟨x,y,hx,hy,he⟩:=Zfs h i _ hm;have e1:p=(v1[i],v2[i]):=by rw[<-ac];simp
 rw[e1];exact Zmp (r1 i _ x (by simp[ab]) hx) (r2 i _ y (by simp[z]) hy) he n
def Zog{kp a b}(h:KK kp a b=sO true):KK kp b a=sO true:=by
 have sc:∀(k:SK) (a b:D),Yv k a b=sO true->Yv k b a=sO true:=by intro k a b h;cases k<;>cases a<;>cases b<;>simp only[Yv,reduceCtorEq]at h⊢;split at h<;>simp only[reduceCtorEq,ZHE,decide_eq_true_eq]at h;rename_i z;simp[z,h];simp only[ZHE,decide_eq_true_eq]at h⊢;exact h.symm;simp only[ZHE,decide_eq_true_eq]at h⊢;exact h.symm
 cases kp with
 |sc k=>exact sc k a b h
 |st l =>
  cases a<;>cases b<;>simp only[KK,reduceCtorEq]at h⊢;rename_i xs ys;split at h<;>(try(simp at h;done));rename_i i;rw[if_pos ⟨i.2,i.1⟩];clear i;induction l with
  |nil=>rfl
  |cons p r ih =>
   obtain⟨x,y,j,n,t⟩:=Zfs h p.1 p.2 ψ;have hr:WC xs ys r=sO true:=by simp only[WC,j,n,t]at h;split at h<;>(try(simp at h;done));rename_i b c hb u;simp only[ZHE,ZHN]at h;rw[u,h.2]
   simp only[WC,j,n,sc _ _ _ t,ih hr,Bool.and_self]
def Znu(g:G)(w:World)(b:Nat)(en':Array MapEntry)(cl':Nat)(o:Jo):Prop :=
 ∀w',Ext g w g w'->w'.heap[b]?=sO (.map en' cl')->W2 g w' b o
def Ztw{g w t kt et kp}(hu:P.underlying t=sO (.map kt et))(hk:Zaz P kt=sO kp){b es es' k v dk dv}(ho:W2 g w b (.map es))(hrk:Rep g w k dk)(hrv:Rep g w v dv)(hok:QS kp dk=true)(hupd:ZaE kp dk dv es=sO es'):
  ∃en' cl',(Instr.mapUpdate t (.map (sO b)) k v).run P w=.ok () { w with heap:=w.heap.setIfInBounds b (.map en' cl') }/\Znu g w b en' cl' (.map es'):=by
 obtain⟨ak,en,ac,hb,n,h3,h4,h5,h6⟩:=ho;obtain⟨io,am,ae⟩:=Znk hupd;have z:=Zc1 (P:=P) hk hrk (es:=en.toList) (by simpa using n) (λi e d a b=>h3 i e d (by simpa using a) b) am;have aj:=ZbU (P:=P) hk hrk hok false;cases io with
 |none =>
  simp only[Option.bind_none]at z;simp only at ae;subst ae;refine⟨en.push { key:=k,val:=v,born:=ac },ac+1,by simp[Instr.mapUpdate,run_underlying hu,MapKept.run_getObj_map hb,aj,z,MapKept.run_setObj_map _ hb],λw' he ah=>?_⟩;refine⟨ak,_,_,ah,by simp[n],λi e d hi hd=>?_,λi e d hi hd=>?_,λi j e e' hi hj ad=>?_,λi e hi=>?_⟩;rw[Array.getElem?_push]at hi;split at hi;rename_i u;simp only[ZHE]at hi;subst hi;simp[u,n]at hd;subst hd;exact hrk.mono he;have ab:i<I es:=by rw[<-n];exact(Array.getElem?_eq_some_iff.1 hi).1
  rw[ZIc ab]at hd;exact(h3 i e d hi hd).mono he;rw[Array.getElem?_push]at hi;split at hi;rename_i u;simp only[ZHE]at hi;subst hi;simp[u,n]at hd;subst hd;exact hrv.mono he;have ab:i<I es:=by rw[<-n];exact(Array.getElem?_eq_some_iff.1 hi).1
  rw[ZIc ab]at hd;exact(h4 i e d hi hd).mono he;rw[Array.getElem?_push]at hi hj;split at hi<;>split at hj;omega;simp only[ZHE]at hi;subst hi;have:=h6 j e' hj;simp only at ad;omega;simp only[ZHE]at hj;subst hj;have:=h6 i e hi;simp only at ad;omega;exact h5 i j e e' hi hj ad;rw[Array.getElem?_push]at hi;split at hi;simp only[ZHE]at hi;subst hi;simp;have:=h6 i e hi;omega
 |some i0 =>
  simp only at ae;subst ae;obtain⟨ab,al⟩:=ZdC am;have ao:i0<en.size:=ω;have af:en[i0]?=sO en[i0]:=by simp[ao]
  have ai:es[i0]?=sO es[i0]:=by simp[ab]
  simp only[Option.bind_some,Array.getElem?_toList,af,ZId]at z;have ag:(Instr.keyThatStays en[i0].key k).run P w=.ok k w:=by have:=Zmo (P:=P) hk (h3 i0 _ _ af ai) hrk (Zog (al _ ai)) 9999;simp[Instr.keyThatStays,this]
  refine⟨en.modify i0 λe=>{ e with key:=k,val:=v },ac,by simp[Instr.mapUpdate,run_underlying hu,MapKept.run_getObj_map hb,aj,z,MapKept.run_setObj_map _ hb,af,ag],λw' he ah=>?_⟩;refine⟨ak,_,_,ah,by simp[n],λi e d hi hd=>?_,λi e d hi hd=>?_,λi j e e' hi hj ad=>?_,λi e hi=>?_⟩;rw[Array.getElem?_modify]at hi;split at hi;rename_i u;subst u;simp only[ZHS]at hi;obtain⟨e1,h1,rfl⟩:=hi;simp[ab]at hd;subst hd;exact hrk.mono he;rename_i u;rw[List.getElem?_set_ne u]at hd;exact(h3 i e d hi hd).mono he;rw[Array.getElem?_modify]at hi;split at hi;rename_i u;subst u;simp only[ZHS]at hi;obtain⟨e1,h1,rfl⟩:=hi;simp[ab]at hd;subst hd;exact hrv.mono he;rename_i u;rw[List.getElem?_set_ne u]at hd;exact(h4 i e d hi hd).mono he;have ap:∀{i:Nat} {e:MapEntry},(en.modify i0 λe=>{ e with key:=k,val:=v })[i]?=sO e->∃e1,en[i]?=sO e1/\e1.born=e.born:=by intro i e hi;rw[Array.getElem?_modify]at hi;split at hi;simp only[ZHS]at hi;obtain⟨e1,h1,rfl⟩:=hi;exact⟨e1,h1,rfl⟩;exact⟨e,hi,rfl⟩
  obtain⟨a,ha,ha'⟩:=ap hi;obtain⟨c,hc,hc'⟩:=ap hj;exact h5 i j a c ha hc ω;rw[Array.getElem?_modify]at hi;split at hi;simp only[ZHS]at hi;obtain⟨e1,h1,rfl⟩:=hi;exact h6 i e1 h1;exact h6 i e hi
def Ztu{g w t kt et kp ats}(ht:ats[0]?=sO t)(hu:P.underlying t=sO (.map kt et))(hk:Zaz P kt=sO kp){b es es' k dk}(ho:W2 g w b (.map es))(hrk:Rep g w k dk)(hok:QS kp dk=true)(hdel:ZgP kp dk es=sO es')(ty):
  ∃en' cl',(Builtin.delete_ ats ty #[.map (sO b),k]).run P w=.ok (.tuple #[]) { w with heap:=w.heap.setIfInBounds b (.map en' cl') }/\Znu g w b en' cl' (.map es'):=by
 obtain⟨aj,en,ac,hb,ab,h3,h4,h5,h6⟩:=ho;obtain⟨io,ak,af⟩:=ZsW hdel;have n:=Zc1 (P:=P) hk hrk (es:=en.toList) (by simpa using ab) (λi e d a b=>h3 i e d (by simpa using a) b) ak;have ai:=ZbU (P:=P) hk hrk hok en.isEmpty;cases io with
 |none =>simp only[Option.bind_none]at n;simp only at af;subst af;refine⟨en,ac,by simp[Builtin.delete_,ht,run_underlying hu,MapKept.run_getObj_map hb,ai,n,MapKept.run_setObj_map _ hb],λw' he ah=>?_⟩;exact⟨aj,_,_,ah,ab,λi e d hi hd=>(h3 i e d hi hd).mono he,λi e d hi hd=>(h4 i e d hi hd).mono he,h5,h6⟩
 |some i0 =>
  simp only at af;subst af;obtain⟨al,hkeq⟩:=ZdC ak;have ad:i0<en.size:=ω;have am:en[i0]?=sO en[i0]:=by simp[ad]
  simp only[Option.bind_some,Array.getElem?_toList,am,ZId]at n;have ag:en.eraseIdxIfInBounds i0=en.eraseIdx i0 ad:=by simp[Array.eraseIdxIfInBounds,ad]
  have u:∀i,(en.eraseIdxIfInBounds i0)[i]?=if i<i0 then en[i]? else en[i+1]?:=λi=>by rw[ag,<-Array.getElem?_toList,Array.toList_eraseIdx,List.getElem?_eraseIdx];simp
  have z:∀i,(es.eraseIdx i0)[i]?=if i<i0 then es[i]? else es[i+1]?:=λi=>List.getElem?_eraseIdx ..
  refine⟨en.eraseIdxIfInBounds i0,ac,by simp[Builtin.delete_,ht,run_underlying hu,MapKept.run_getObj_map hb,ai,n,MapKept.run_setObj_map _ hb],λw' he ah=>?_⟩;refine⟨aj,_,_,ah,by rw[ag];simp[al,ab,List.length_eraseIdx],λi e d hi hd=>?_,λi e d hi hd=>?_,λi j e e' hi hj ae=>?_,λi e hi=>?_⟩;rw[u]at hi;rw[z]at hd;split at hi;rename_i h;rw[if_pos h]at hd;exact(h3 i e d hi hd).mono he;rename_i h;rw[if_neg h]at hd;exact(h3 _ e d hi hd).mono he;rw[u]at hi;rw[z]at hd;split at hi;rename_i h;rw[if_pos h]at hd;exact(h4 i e d hi hd).mono he;rename_i h;rw[if_neg h]at hd;exact(h4 _ e d hi hd).mono he;rw[u]at hi hj;split at hi<;>split at hj;exact h5 i j e e' hi hj ae;have:=h5 i (j+1) e e' hi hj ae;omega;have:=h5 (i+1) j e e' hi hj ae;omega;have:=h5 (i+1) (j+1) e e' hi hj ae;omega;rw[u]at hi;split at hi<;>exact h6 _ e hi
def Zs4{kp:KP}{k z:D}:∀{es:List (D×D)} {v:D},ZeJ kp k z es=sO v->∃j,Jv kp k es=sO j/\v=match j with
  |none=>z
  |some i=>((es[i]?).map (·.2)).getD z
 | [],v,h=>by simp[ZeJ]at h;exact⟨nO,rfl,h.symm⟩
 |e::es,v,h=>by simp[ZeJ]at h;split at h;rename_i n;exact⟨sO 0,by simp[Jv,n],by simp[h]⟩;rename_i n;obtain⟨j,t,u⟩:=Zs4 h;refine⟨j.map (· + 1),by simp[Jv,n,t],?_⟩;rw[u];cases j<;>simp;grind
def ZuD{g w t kt et kp z}(hu:P.underlying t=sO (.map kt et))(hk:Zaz P kt=sO kp)(hz:Zea P et=sO z){b es k dk dv}(ho:W2 g w b (.map es))(hrk:Rep g w k dk)(hok:QS kp dk=true)(hent:ZeJ kp dk z es=sO dv):
  ∃en' cl' v n,(Instr.mapEntry t (.map (sO b)) k).run P w=.ok (.tuple #[v,.i (n:Nat)]) { w with heap:=w.heap.setIfInBounds b (.map en' cl') }/\Rep g w v dv/\Znu g w b en' cl' (.mapE kp es dk n):=by
 obtain⟨aq,en,ab,hb,ac,h3,h4,h5,h6⟩:=ho;obtain⟨io,aj,ai⟩:=Zs4 hent;have u:=Zc1 (P:=P) hk hrk (es:=en.toList) (by simpa using ac) (λi e d a b=>h3 i e d (by simpa using a) b) aj;have ap:=ZbU (P:=P) hk hrk hok false;cases io with
 |none =>obtain⟨zv,ay,ax⟩:=Zun (P:=P) (g:=g) (w:=w) hz;simp only[Option.bind_none]at u;simp only at ai;subst ai;refine⟨en.push { key:=k,val:=zv,born:=ab },ab+1,zv,ab,by simp[Instr.mapEntry,run_underlying hu,MapKept.run_getObj_map hb,ap,u,MapKept.run_setObj_map _ hb,ay,goInt],ax,λw' he ao=>?_⟩;refine⟨aq,nO,aj,_,_,ao,by simp[ac],λi e d ah hi hd=>?_,λi e d ah hi hd=>?_,λe hi=>?_,λi j e e' hi hj ad=>?_,λi e hi=>?_⟩;have ak:i<I es:=(List.getElem?_eq_some_iff.1 hd).1;rw[Array.getElem?_push,if_neg ω]at hi;exact(h3 i e d hi hd).mono he;have ak:i<I es:=(List.getElem?_eq_some_iff.1 hd).1;rw[Array.getElem?_push,if_neg ω]at hi;exact(h4 i e d hi hd).mono he;simp only[Option.getD_none,<-ac,Array.getElem?_push,if_true,ZHE]at hi;subst hi;exact⟨hrk.mono he,rfl⟩;rw[Array.getElem?_push]at hi hj;split at hi<;>split at hj;omega;simp only[ZHE]at hi;subst hi;have:=h6 j e' hj;simp only at ad;omega;simp only[ZHE]at hj;subst hj;have:=h6 i e hi;simp only at ad;omega;exact h5 i j e e' hi hj ad;rw[Array.getElem?_push]at hi;split at hi;simp only[ZHE]at hi;subst hi;simp;have:=h6 i e hi;omega
 |some i0 =>
  obtain⟨ak,ar⟩:=ZdC aj;have au:i0<en.size:=ω;have af:en[i0]?=sO en[i0]:=by simp[au]
  have ag:es[i0]?=sO es[i0]:=by simp[ak]
  simp only[ag,ZId,ZIk]at ai;subst ai;simp only[Option.bind_some,Array.getElem?_toList,af,ZId]at u;have am:(Instr.keyThatStays en[i0].key k).run P w=.ok k w:=by have:=Zmo (P:=P) hk (h3 i0 _ _ af ag) hrk (Zog (ar _ ag)) 9999;simp[Instr.keyThatStays,this]
  have ae:∀{i:Nat} {e:MapEntry},(en.modify i0 λe=>{ e with key:=k })[i]?=sO e->∃e1,en[i]?=sO e1/\e1.born=e.born/\e.val=e1.val/\(i≠i0->e=e1)/\(i=i0->e.key=k):=by intro i e hi;rw[Array.getElem?_modify]at hi;split at hi;rename_i al;simp only[ZHS]at hi;obtain⟨e1,h1,rfl⟩:=hi;exact⟨e1,h1,rfl,rfl,λh=>absurd al.symm h,λ_=>rfl⟩;rename_i al;exact⟨e,hi,rfl,rfl,λ_=>rfl,λh=>absurd h.symm al⟩
  refine⟨en.modify i0 λe=>{ e with key:=k },ab,en[i0].val,en[i0].born,by simp[Instr.mapEntry,run_underlying hu,MapKept.run_getObj_map hb,ap,u,MapKept.run_setObj_map _ hb,af,am,goInt],h4 i0 _ _ af ag,λw' he ao=>?_⟩;refine⟨aq,sO i0,aj,_,_,ao,by simp[ac],λi e d ah hi hd=>?_,λi e d ah hi hd=>?_,λe hi=>?_,λi j e e' hi hj ad=>?_,λi e hi=>?_⟩;obtain⟨e1,ha,_,_,hc,_⟩:=ae hi;rw[hc (by simpa using ah)];exact(h3 i e1 d ha hd).mono he;obtain⟨e1,ha,_,hv,_⟩:=ae hi;rw[hv];exact(h4 i e1 d ha hd).mono he;simp only[ZIk]at hi;obtain⟨e1,ha,ad,hv,_,aw⟩:=ae hi;rw[af]at ha;simp only[ZHE]at ha;exact⟨by rw[aw rfl];exact hrk.mono he,by rw[<-ad,<-ha]⟩;obtain⟨a,ha,av,_⟩:=ae hi;obtain⟨c,hc,hc',_⟩:=ae hj;exact h5 i j a c ha hc ω;obtain⟨a,ha,av,_⟩:=ae hi;have:=h6 i a ha;omega
def Zru{g w t kp b n es es' v dk dv}(ho:W2 g w b (.mapE kp es dk n))(hrv:Rep g w v dv)(hupd:ZaE kp dk dv es=sO es'):
  ∃en' cl',(Instr.entryStore t (.map (sO b)) (.i n) v).run P w=.ok () { w with heap:=w.heap.setIfInBounds b (.map en' cl') }/\Znu g w b en' cl' (.map es'):=by
 obtain⟨aq,io,ak,en,ah,hb,u,h3,h4,h5,h6,h7⟩:=ho;obtain⟨io',ac,z⟩:=Znk hupd;rw[ak]at ac;simp only[ZHE]at ac;subst ac;generalize ab:io.getD (I es)=ix at *;have al:ix<en.size:=by
  cases io with
  |none=>simp only[Option.getD_none]at ab;simp only at u;omega
  |some i=>simp only[ZIk]at ab;simp only at u;have:=(ZdC ak).1;omega
 have ag:en[ix]?=sO en[ix]:=by simp[al]
 obtain⟨av,au⟩:=h5 _ ag;have ar:en.findIdx? (λe=>(e.born:Int)==(n:Int))=sO ix:=by rw[Array.findIdx?_eq_some_iff_getElem];refine⟨al,by simp[au],λj hj=>?_⟩;simp only[beq_iff_eq,Int.natCast_inj];intro hjn;have:=h6 j ix en[j] en[ix] (by simp[show j<en.size by omega]) ag ω;omega
 have ao:en.size=I es':=by
  cases io with
  |none=>simp only at z u;rw[z];simp[u]
  |some i=>simp only at z u;rw[z];simp[u]
 have af:∀i d,es'[i]?=sO d->(i=ix/\d=(dk,dv))\/(i≠ix/\es[i]?=sO d):=by
  intro i d hd;cases io with
  |none =>
   simp only[Option.getD_none]at ab;subst ab;simp only at z;rw[z]at hd;by_cases hi:i<I es;rw[ZIc hi]at hd;exact .inr ⟨ω,hd⟩;rw[ZIq ω]at hd;have h0:i-I es=0:=by rcases Nat.eq_zero_or_pos (i-I es) with h|h;exact h;rw[ZIr (by simp;omega)]at hd;simp at hd
   rw[h0]at hd;simp at hd;exact .inl ⟨ω,hd.symm⟩
  |some j =>simp only[ZIk]at ab;subst ab;simp only at z;rw[z]at hd;by_cases hi:j=i;subst hi;have:=(ZdC ak).1;simp[this]at hd;exact .inl ⟨rfl,hd.symm⟩;rw[List.getElem?_set_ne hi]at hd;exact .inr ⟨λh=>hi h.symm,hd⟩
 have ad:∀{i:Nat} {e:MapEntry},(en.modify ix λe=>{ e with val:=v })[i]?=sO e->∃e1,en[i]?=sO e1/\e1.born=e.born/\e.key=e1.key/\(i≠ix->e=e1)/\(i=ix->e.val=v):=by intro i e hi;rw[Array.getElem?_modify]at hi;split at hi;rename_i aj;simp only[ZHS]at hi;obtain⟨e1,h1,rfl⟩:=hi;exact⟨e1,h1,rfl,rfl,λh=>absurd aj.symm h,λ_=>rfl⟩;rename_i aj;exact⟨e,hi,rfl,rfl,λ_=>rfl,λh=>absurd h.symm aj⟩
 refine⟨en.modify ix λe=>{ e with val:=v },ah,by simp[Instr.entryStore,MapKept.run_getObj_map hb,asInt,asIntOf,ar,MapKept.run_setObj_map _ hb],λw' he ap=>?_⟩;refine⟨aq,_,_,ap,by simp[ao],λi e d hi hd=>?_,λi e d hi hd=>?_,λi j e e' hi hj hbn=>?_,λi e hi=>?_⟩;obtain⟨e1,ha,_,hk,_⟩:=ad hi;rw[hk];rcases af i d hd with ⟨rfl,rfl⟩|⟨ae,ai⟩;rw[ag]at ha;simp only[ZHE]at ha;rw[<-ha];exact av.mono he;exact(h3 i e1 d ae ha ai).mono he;obtain⟨e1,ha,_,_,hc,hv⟩:=ad hi;rcases af i d hd with ⟨rfl,rfl⟩|⟨ae,ai⟩;rw[hv rfl];exact hrv.mono he;rw[hc ae];exact(h4 i e1 d ae ha ai).mono he;obtain⟨a,ha,am,_⟩:=ad hi;obtain⟨c,hc,hc',_⟩:=ad hj;exact h6 i j a c ha hc ω;obtain⟨a,ha,am,_⟩:=ad hi;have:=h7 i a ha;omega
end
section
variable {P:Program}
def Zly{g w v b}(h:Rep g w v (.map b)):v=.map (sO b):=by cases h;rfl
def Ziy{s b es}(h:Qe s b=sO es):s b=sO (.map es):=by
 unfold Qe at h;split at h<;>simp only[ZHE,reduceCtorEq]at h;subst h;assumption
def Zm1{F:Fr P}{ops i r k oo}{o:DOp}{g Z w tmps H L s}(hN:F.N<=tmps.size)(m:Zy g Z w tmps H L s)(hoo:ops[i]?=sO oo)(hdst:oo.dst=o.dst)(hdst0:o.dst=nO)(hw:Region.wanted oo (yielded ops tmps)=true)(hnd:∀c,oo.op≠.defer c){b o1 o'}(hb:s b=sO o1){en en' cl cl'}(hh:w.heap[b]?=sO (.map en cl))(hp:g.prot b=0)(hmap:Znu g w b en' cl' o'){x}(hrun:(execOp (Act.mk tmps F.ds).eval oo).run P w=.ok .skip { w with heap:=w.heap.setIfInBounds b (.map en' cl') }\/(execOp (Act.mk tmps F.ds).eval oo).run P w=.ok (.value x) { w with heap:=w.heap.setIfInBounds b (.map en' cl') })(h:JT F (.inRegion ops r::k) H L (s.upd b o')):F.T.T g w (lone (F.b.atR ⟨tmps,F.ds⟩ (.inRegion ops (i::r)::k)) F.cs w):=by
 have he:=ZnT (g:=g) b (.map en' cl') hh hp (m.st.kept b _ hb);have m':=m.named hb he ψ (λc hc=>Zaj hc) (hmap _ he (Zre hh));rcases hrun with hrun|hrun;refine F.T.back _ _ _ _ (.one (ZiT hoo hw hnd hrun)) ?_;rw[hdst,hdst0];exact F.T.ext _ _ _ _ _ he (h g Z _ tmps hN m');refine F.T.back _ _ _ _ (.one (ZiU hoo hw hnd hrun)) ?_;rw[hdst,hdst0];exact F.T.ext _ _ _ _ _ he (h g Z _ tmps hN m')
def Zqv{F:Fr P}{kp dk o os H L s}(hg:o.guard=nO)(hdn:o.dst=nO){mk mx kx vx}(hk:o.k=.mapupd mk mx kx vx){p q r b kd vd}(hm:ZD H true mx=sO (p,.d (.map b)))(hkk:ZD H true kx=sO (q,.d kd))(hv:ZD H true vx=sO (r,.d vd))(hp:p)(hq:q)(hr:r){es es'}(hb:Qe s b=sO es)(hupd:ZaE mk kd vd es=sO es')(hok:QS mk kd=true)(h:DO F kp dk os H L (s.upd b (.map es'))):DO F kp dk (o::os) H L s:=by
 refine Wz λoo g Z w tmps af i r' k aj j al u hd hN m ad z=>?_;have hw:=Yi m al (c:=true) (by rw[hg];rfl);have ah:=Yq j (by rw[hk];rfl);rw[hk]at j;obtain⟨t,kt,et,m',k',v',hop,hu,ag,ab,ae,ak⟩:=ZxW j;have e1:=Zly (g:=g) (w:=w) (Yf m ab rfl hm hp F.ds);have e2:Rep g w _ _:=Yf m ae rfl hkk hq F.ds;have e3:Rep g w _ _:=Yf m ak rfl hv hr F.ds;have ho:=ZfE m.st hb;obtain⟨en',cl',n,ac⟩:=Ztw hu ag ho e2 e3 hok hupd;obtain⟨ai,en,cl,hh,_⟩:=ho;refine Zm1 (x:=undef) hN m aj u hdn hw ah (Ziy hb) hh ai ac (.inl ?_) (h af r' k ad z);rcases hop with hop|hop<;>simp[execOp,hop,e1,n]
def Zqt{F:Fr P}{kp dk o os H L s}(hg:o.guard=nO)(hdn:o.dst=nO){mk mx kx}(hk:o.k=.delete mk mx kx){p q b kd}(hm:ZD H true mx=sO (p,.d (.map b)))(hkk:ZD H true kx=sO (q,.d kd))(hp:p)(hq:q){es es'}(hb:Qe s b=sO es)(hupd:ZgP mk kd es=sO es')(hok:QS mk kd=true)(h:DO F kp dk os H L (s.upd b (.map es'))):DO F kp dk (o::os) H L s:=by
 refine Wz λoo g Z w tmps ag i r' k ak j al u hd hN m ae z=>?_;have hw:=Yi m al (c:=true) (by rw[hg];rfl);have ai:=Yq j (by rw[hk];rfl);rw[hk]at j;obtain⟨ats,t,kt,et,m',k',ac,ht,hu,ah,ab,af⟩:=ZxU j;have e1:=Zly (g:=g) (w:=w) (Yf m ab rfl hm hp F.ds);have e2:Rep g w _ _:=Yf m af rfl hkk hq F.ds;have ho:=ZfE m.st hb;obtain⟨en',cl',n,ad⟩:=Ztu ht hu ah ho e2 hok hupd oo.type;obtain⟨aj,en,cl,hh,_⟩:=ho;refine Zm1 (x:=.tuple #[]) hN m ak u hdn hw ai (Ziy hb) hh aj ad (.inr ?_) (h ag r' k ae z);simp[execOp,ac,resolve,invoke,builtin,e1,n]
def Zqu{F:Fr P}{kp dk o os H L s}(hg:o.guard=nO){t}(hdt:o.dst=sO t){mk z mx kx}(hk:o.k=.mapent mk z mx kx){p q b kd v}(hm:ZD H true mx=sO (p,.d (.map b)))(hkk:ZD H true kx=sO (q,.d kd))(hp:p)(hq:q){es}(hb:Qe s b=sO es)(hent:ZeJ mk kd z es=sO v)(hok:QS mk kd=true)(h:∀n,DO F kp dk os ((t,.d (.tup [v,.stamp n]))::H) L (s.upd b (.mapE mk es kd n))):DO F kp dk (o::os) H L s:=by
 refine Wz λoo g Z w tmps ak i r' k ar j au ab hd hN m ai ad=>?_;have hw:=Yi m au (c:=true) (by rw[hg];rfl);have am:=Yq j (by rw[hk];rfl);rw[hk]at j;obtain⟨ty,kt,et,m',k',ag,hu,al,hz,af,aj⟩:=ZxV j;have e1:=Zly (g:=g) (w:=w) (Yf m af rfl hm hp F.ds);have e2:Rep g w _ _:=Yf m aj rfl hkk hq F.ds;have ho:=ZfE m.st hb;obtain⟨av,ae,vv,n,u,ap,ah⟩:=ZuD hu al hz ho e2 hok hent;obtain⟨ao,en,cl,hh,_⟩:=ho;have ac:=Ziy hb;have he:=ZnT (g:=g) b (.map av ae) hh ao (m.st.kept b _ ac);have aq:=m.named ac he ψ (λc hc=>Zaj hc) (ah _ he (Zre hh));refine YU (L':=L) hN ar ab hd hw am (v:=.tuple #[vv,.i n]) (e:=.d (.tup [v,.stamp n])) ?_ he aq ((ZiF ap (.stamp n)).mono he) ?_;simp[execOp,ag,e1,u];rw[hdt];exact h n ak r' k ai ad
def Zse{F:Fr P}{kp dk o os H L s}(hg:o.guard=nO)(hdn:o.dst=nO){mk mx kx vx}(hk:o.k=.entst mx kx vx){p q r b n kd vd}(hm:ZD H true mx=sO (p,.d (.map b)))(hkk:ZD H true kx=sO (q,.d (.stamp n)))(hv:ZD H true vx=sO (r,.d vd))(hp:p)(hq:q)(hr:r){es es'}(hb:s b=sO (.mapE mk es kd n))(hupd:ZaE mk kd vd es=sO es')(h:DO F kp dk os H L (s.upd b (.map es'))):DO F kp dk (o::os) H L s:=by
 refine Wz λoo g Z w tmps ai i r' k al j ap ab hd hN m ag ac=>?_;have hw:=Yi m ap (c:=true) (by rw[hg];rfl);have aj:=Yq j (by rw[hk];rfl);rw[hk]at j;obtain⟨t,m',k',v',ae,ad,ah,ao⟩:=ZzC j;have e1:=Zly (g:=g) (w:=w) (Yf m ad rfl hm hp F.ds);have e2:Rep g w _ _:=Yf m ah rfl hkk hq F.ds;have e3:Rep g w _ _:=Yf m ao rfl hv hr F.ds;have am:(Act.mk tmps F.ds).eval k'=.i n:=by generalize (Act.mk tmps F.ds).eval k'=z at e2;cases e2;rfl
 have ho:=m.st.obj b _ hb;obtain⟨en',cl',u,af⟩:=Zru (P:=P) (t:=t) ho e3 hupd;obtain⟨ak,io,_,en,cl,hh,_⟩:=ho;refine Zm1 (x:=undef) hN m al ab hdn hw aj hb hh ak af (.inl ?_) (h ai r' k ag ac);simp[execOp,ae,e1,am,u]
def ZxI{F:Fr P}{kp dk o os H L s c}(hg:Zo H o.guard=sO c){x}(hk:o.k=.s2b x){p l}(ha:ZD H c x=sO (p,.d (.str l)))(hs:c=true->p){e'}(he:e'=.when c (.d (.sl .none (I l) 1 (λi=>[.int .u8 ((l.getD i 0).toNat:Int)])))\/(c=true/\e'=.d (.sl .none (I l) 1 (λi=>[.int .u8 ((l.getD i 0).toNat:Int)]))))(h:DO F kp dk os (Zz H o.dst e') L s):DO F kp dk (o::os) H L s:=by
 refine Wz λoo g Z w tmps aj i r k af u ar n hd hN m hr ai=>?_;have ac:=h aj r k hr ai;have hw:=Yi m ar hg;have al:=Yq u (by rw[hk];rfl);cases c;rcases he with rfl|⟨h0,_⟩;exact Zcc (P:=P) hN m af n hd hw ac;simp at h0;rw[hk]at u;obtain⟨sT,dT,x',e,ah,ap,au,ak,aq⟩:=ZCj u;obtain⟨s0,ao,e0,am⟩:=Zlz (g:=g) (w:=w) (Yf m aq rfl ha (hs rfl) F.ds);have ad:s0.size=I l:=by rw[<-e0];rfl
 have ab:=Lib.run_convert_string_bytes (P:=P) w sT dT e s0 ap au ak;have z:=grownCap_le_maxLen w s0.size 0 e (by rw[ad];unfold big at am;unfold maxLen;omega);have ag:=grownCap_ge w s0.size 0 e;let g':G:={ g with prot:=λb=>if b=w.heap.size then (I l) else g.prot b };have ae:Zaq g w g' (Lib.bytesWorld w e s0):=by refine⟨by rw[Lib.bytesWorld_size];omega,λb hb=>Lib.bytesWorld_at_old w e s0 b hb,λb hb=>by simp[g',Nat.ne_of_lt hb],λb hb=>?_,rfl,?_,?_,?_⟩;rw[Lib.bytesWorld_size]at hb;simp[g',show b≠w.heap.size by omega,(m.st.fresh b ω).1];rfl;rfl;rfl
 have t:Rep g' (Lib.bytesWorld w e s0) (.slice (sO ⟨w.heap.size,0,nO⟩) s0.size (grownCap w s0.size 0 e)) (.sl .none (I l) 1 (λi=>[.int .u8 ((l.getD i 0).toNat:Int)])):=by
  rw[ad]at z ag⊢;refine .sl w.heap.size 0 (I l) _ 1 _ .none (λi _=>.int .u8 ((l.getD i 0).toNat:Int)) (λi hi=>rfl) (λi j hi hj=>?_) (λi j hi hj=>?_) (λi j d hi hd=>?_) (λi j _ _=>rfl) trivial ω (by unfold big;unfold maxLen at z;omega);have:=Lib.bytesWorld_cell w e s0 (0+i*1+j) ω;rw[this,e0];have:0+i*1+j=i:=ω;rw[this];simp[g'];omega;cases j with
  |zero=>simp only[List.getElem?_cons_zero,ZHE]at hd;subst hd;exact .int _ _ (Ztk _)
  |succ j=>simp at hd
 refine YU hN af n hd hw al (v:=.slice (sO ⟨w.heap.size,0,nO⟩) s0.size (grownCap w s0.size 0 e)) ?_ (ae.ext m.st.fresh) (m.grow ae) ?_ ac;simp[execOp,ah,ao,ab];rcases he with rfl|⟨_,rfl⟩;exact⟨λ_=>t,λh=>by simp at h⟩;exact t
end
section
variable {P:Program}
def ZxG{F:Fr P}{kp dk o os H L s c}(hg:Zo H o.guard=sO c){len n z is xs}(hk:o.k=.bsl len n z is xs){p es ds}(ha:Yg H c xs=sO (p,es))(hds:Kk es=sO ds)(hs:c=true->p/\Qz n ds=true){e'}(he:e'=.when c (.d (.sl .full len n (ZY z (is.zip ds))))\/(c=true/\e'=.d (.sl .full len n (ZY z (is.zip ds)))))(h:DO F kp dk os (Zz H o.dst e') L s):DO F kp dk (o::os) H L s:=by
 refine Wz λoo g Z w tmps ao i r k ag u au j hd hN m hr al=>?_;have ae:=h ao r k hr al;have hw:=Yi m au hg;have ap:=Yq u (by rw[hk];rfl);cases c;rcases he with rfl|⟨h0,_⟩;exact Zcc (P:=P) hN m ag j hd hw ae;grind;rw[hk]at u;obtain⟨t,e,parts,ak,hu,am,hz,aj,rfl,af,ar,aq,ah⟩:=ZxS u;have ac:=ZcH m rfl F.ds aj ha (hs rfl).1;have ab:=Qp ac hds;obtain⟨v,w',g',h1,h2,h3⟩:=ZCe (P:=P) (g:=g) (w:=w) (parts:=parts.toList.map λx=>(x.1,(Act.mk tmps F.ds).eval x.2)) hu am hz (by simpa[Function.comp_def]using af) ar aq ah
  (by simpa[Function.comp_def]using ab) (hs rfl).2 m.st.fresh
 have hx:=h2.ext m.st.fresh;have ad:(execOp (Act.mk tmps F.ds).eval oo).run P w=.ok (.value v) w':=by
  simp[execOp,ak,Sem.run_bind];have e1:(parts.map λx=>(x.1,(Act.mk tmps F.ds).eval x.2))=(parts.toList.map λx=>(x.1,(Act.mk tmps F.ds).eval x.2)).toArray:=by apply Array.ext';simp
  rw[e1,h1];rfl
 have ai:Rep g' w' v (.sl .full len n (ZY z ((parts.toList.map (·.1)).zip ds))):=by simpa[Function.comp_def]using h3
 refine YU hN ag j hd hw ap ad hx (m.grow h2) ?_ ae;rcases he with rfl|⟨_,rfl⟩;exact⟨λ_=>ai,λh=>by simp at h⟩;exact ai
def Zve{F:Fr P}{kp dk o os H L s c}(hg:Zo H o.guard=sO c){x a b}(u:o.k=.pick x a b){p v}(z:Zd7 H c x a b=sO (p,v))(hs:c=true->p){n}(he:n=.when c (.d (.bool v))\/(c=true/\n=.d (.bool v)))(h:DO F kp dk os (Zz H o.dst n) L s):DO F kp dk (o::os) H L s:=by
 refine Zsh hg (by rw[u];rfl) he (λt oo g Z w tmps i m=>?_) h;rw[u]at i;obtain⟨x',a',b',j,h1,h2,h3⟩:=ZBf i;refine⟨.bool v,?_,.bool v⟩;obtain⟨dst,op,ty,pos,af,gd⟩:=oo;cases j;exact ZAj m h1 h2 h3 t z (hs t)
def ZgE{H H' L L' s s' p q ok side a n xs}(h:Qr H L s p q ok a n xs=.ok side H' L' s'):
  H'=H/\((∃l off j,a=.loc l off/\Zj L l=sO j/\side=(p/\q/\off+n<=I j/\ok)/\L'=(l,Zq j off xs)::L/\s'=s) \/
   ∃b off j,a=.d (.ptr b off)/\Ye s b=sO j/\side=(p/\q/\off+n<=I j/\ok)/\L'=L/\s'=s.upd b (.cells (Zq j off xs))):=by
 unfold Qr at h;split at h<;>(try(simp at h;done));rename_i l off;split at h<;>simp only[SR.ok.injEq,reduceCtorEq]at h;rename_i j i;obtain⟨rfl,rfl,rfl,rfl⟩:=h;exact⟨rfl,.inl ⟨l,off,j,rfl,i,rfl,rfl,rfl⟩⟩;rename_i b off;split at h<;>simp only[SR.ok.injEq,reduceCtorEq]at h;rename_i j i;obtain⟨rfl,rfl,rfl,rfl⟩:=h;exact⟨rfl,.inr ⟨b,off,j,rfl,i,rfl,rfl,rfl⟩⟩
def Zfe{H L s p q ok side a n xs i H' s'}:Qr H L s p q ok a n xs≠.all side i H' s':=by
 unfold Qr;split<;>(try(split<;>simp))<;>simp
def Q1{F:Fr P}{kp dk o os H H' L L' s s' side}(hst:ZG o H L s=.ok side H' L' s')(hs:side)(h:DO F kp dk os H' L' s'):DO F kp dk (o::os) H L s:=by
 obtain⟨dst,gd,k⟩:=o;unfold ZG at hst;cases hg:Zo H gd with
 |none=>simp[hg]at hst
 |some c =>
  simp only[hg]at hst;have u:gd=nO->c=true:=λh0=>by subst h0;simpa[Zo]using hg.symm
  cases k with
  |q q xs =>simp only at hst;split at hst<;>(try(simp at hst;done));rename_i p es ha;split at hst<;>(try(simp at hst;done));rename_i sd e hq;split at hst<;>(cases hst);obtain rfl:=u rfl;exact ZB8 hg rfl ha hq (λ_=>hs) (.inr ⟨rfl,rfl⟩) h;exact ZB8 hg rfl ha hq hs (.inl rfl) h
  |pick x a b =>simp only at hst;split at hst<;>(try(simp at hst;done));rename_i p v ha;split at hst<;>(cases hst);obtain rfl:=u rfl;exact Zve hg rfl ha (λ_=>hs) (.inr ⟨rfl,rfl⟩) h;exact Zve hg rfl ha hs (.inl rfl) h
  |alloc z =>simp only at hst;split at hst<;>(try(simp at hst;done));rename_i t;cases hst;exact Zsd rfl rfl rfl hs h
  |box x =>simp only at hst;split at hst<;>(try(simp at hst;done));rename_i t p v ha;cases hst;exact ZB5 rfl rfl rfl ha hs.1 hs.2.1 hs.2.2 h
  |bsl len n z is xs =>simp only at hst;split at hst<;>(try(simp at hst;done));rename_i p es ha;split at hst<;>(try(simp at hst;done));rename_i ds ac;split at hst<;>(cases hst);obtain rfl:=u rfl;exact ZxG hg rfl ha ac (λ_=>hs) (.inr ⟨rfl,rfl⟩) h;exact ZxG hg rfl ha ac hs (.inl rfl) h
  |s2b x =>simp only at hst;split at hst<;>(try(simp at hst;done));rename_i p l ha;split at hst<;>(cases hst);obtain rfl:=u rfl;exact ZxI hg rfl ha (λ_=>hs) (.inr ⟨rfl,rfl⟩) h;exact ZxI hg rfl ha hs (.inl rfl) h
  |store1 a v =>
   simp only at hst;split at hst<;>(try(simp at hst;done));rename_i p ea q x ha hv;obtain⟨rfl,⟨l,off,cs,rfl,hL,rfl,rfl,rfl⟩|⟨b,off,cs,rfl,hL,rfl,rfl,rfl⟩⟩:=ZgE hst;all_goals obtain⟨h1,h2,h3,h4⟩:=hs
   all_goals have hx:cellsOf x=[x]:=by cases x<;>simp[Qm]at h4<;>rfl
   exact Zsg rfl (.inl ⟨rfl,trivial⟩) ha hv h1 h2 hL (λ_=>h4) (λn hn=>by simp at hn) (by rw[hx];simpa using h3) rfl (by rw[hx];exact h);exact Zgg rfl (.inl ⟨rfl,trivial⟩) ha hv h1 h2 hL (λ_=>h4) (λn hn=>by simp at hn) (by rw[hx];simpa using h3) rfl (by rw[hx];exact h)
  |storeN n a v =>
   simp only at hst;split at hst<;>(try(simp at hst;done));rename_i p ea q xs ha hv;obtain⟨rfl,⟨l,off,cs,rfl,hL,rfl,rfl,rfl⟩|⟨b,off,cs,rfl,hL,rfl,rfl,rfl⟩⟩:=ZgE hst;all_goals obtain⟨h1,h2,h3,h4⟩:=hs
   exact Zsg rfl (.inr ⟨n,rfl⟩) ha hv h1 h2 hL (λhn=>by simp at hn) (λn' hn=>by simp only[K.storeN.injEq]at hn;exact⟨⟨xs,rfl⟩,by rw[<-hn.1];exact h4⟩) (by simp only[cellsOf];omega) rfl h;exact Zgg rfl (.inr ⟨n,rfl⟩) ha hv h1 h2 hL (λhn=>by simp at hn) (λn' hn=>by simp only[K.storeN.injEq]at hn;exact⟨⟨xs,rfl⟩,by rw[<-hn.1];exact h4⟩) (by simp only[cellsOf];omega) rfl h
  |mkmap =>simp only at hst;split at hst<;>simp at hst
  |mkslice e n by_ z l c =>simp only at hst;split at hst<;>simp at hst
  |mapent kp z m k =>simp only at hst;split at hst<;>(try(simp at hst;done));split at hst<;>(try(simp at hst;done));split at hst<;>simp at hst
  |mapupd kp m k v =>simp only at hst;split at hst<;>(try(simp at hst;done));rename_i p b q dk r dv hm hk hv;split at hst<;>(try(simp at hst;done));rename_i es j;split at hst<;>simp only[SR.ok.injEq,reduceCtorEq]at hst;rename_i ab i;obtain⟨rfl,rfl,rfl,rfl⟩:=hst;exact Zqv rfl rfl rfl hm hk hv hs.1 hs.2.1 hs.2.2.1 j i hs.2.2.2 h
  |delete kp m k =>simp only at hst;split at hst<;>(try(simp at hst;done));rename_i p b q dk hm hk;split at hst<;>(try(simp at hst;done));rename_i es j;split at hst<;>simp only[SR.ok.injEq,reduceCtorEq]at hst;rename_i ab i;obtain⟨rfl,rfl,rfl,rfl⟩:=hst;exact Zqt rfl rfl rfl hm hk hs.1 hs.2.1 j i hs.2.2 h
  |entst m k v =>simp only at hst;split at hst<;>(try(simp at hst;done));rename_i p b q n r dv hm hk hv;split at hst<;>(try(simp at hst;done));rename_i kp es dk n' j;split at hst<;>simp only[SR.ok.injEq,reduceCtorEq]at hst;rename_i ab i;obtain⟨rfl,rfl,rfl,rfl⟩:=hst;obtain⟨h1,h2,h3,rfl⟩:=hs;exact Zse rfl rfl rfl hm hk hv h1 h2 h3 j i h
  |_=>simp at hst
def Znr{F:Fr P}{kp dk o os H L s side j H' s'}(i:ZG o H L s=.all side j H' s')(t:side)(h:∀b,j b->DO F kp dk os (H' b) L (s' b)):DO F kp dk (o::os) H L s:=by
 obtain⟨dst,gd,k⟩:=o;unfold ZG at i;cases hg:Zo H gd with
 |none=>grind
 |some c =>
  simp[hg]at i;cases k with
  |mkmap =>simp only at i;split at i<;>cases i;exact Zsf rfl rfl rfl h
  |mkslice e n by_ z l c =>simp only at i;split at i<;>cases i;obtain⟨h1,h2,h3,h4,h5,u⟩:=t;exact Zns rfl rfl rfl ‹_› ‹_› h1 h2 h3 h4 h5 u h
  |mapent kp z m k =>simp only at i;split at i<;>(try(grind;done));split at i<;>(try(grind;done));split at i<;>cases i;exact Zqu rfl rfl rfl ‹_› ‹_› t.1 t.2.1 ‹_› ‹_› t.2.2 (λn=>h n trivial)
  |store1 a v =>simp only at i;split at i<;>(try(grind;done));exact absurd i Zfe
  |storeN n a v =>simp only at i;split at i<;>(try(grind;done));exact absurd i Zfe
  |_ =>
   grind;first
    | (grind;done)
    |repeat' (split at i<;>(try(grind;done)))
def Zn{F:Fr P}{kp}{dk}:∀{os} {H} {L} {s},
  ZjE (λH L s=>ZC F dk (kept kp H) (Zll kp H L) s) (λos H L s=>DO F kp dk os H L s) os H L s->DO F kp dk os H L s
 | [],H,L,s,h=>Zfm h
 |o::os,H,L,s,h=>by simp[ZjE]at h;split at h;rename_i j H' L' s' i;exact Q1 i h.1 (Zn h.2);rename_i j pre H' s' i;exact Znr i h.1 λb n=>Zn (h.2 b n);exact h
end
inductive Res where
 |ret (d:D)
 |panic (d:D)
def ZrW(g:G)(w:World):Ending->Res->Prop
 |.returned v,.ret d=>Rep g w v d
 |.panicked ch,.panic d=>∃v,ch=[{ v,recovered:=false }]/\Rep g w v d
 |_,_=>False
def Zhn(g:G)(w:World)(Φ:Res->St->Prop)(e:Ending)(w':World):Prop :=
 ∃g' s' r,Ext g w g' w'/\Yp g' s' w'/\ZrW g' w' e r/\Φ r s'
section
variable {P:Program}
def Ze(P:Program)(f:FuncId)(args:List D)(s:St)(Φ:Res->St->Prop):Prop :=
 (∃fn,P.funcs[f]?=sO fn/\fn.body.isSome=true/\(fn.name == "runtime.NumGoroutine")=false) /\
 ∀g w (vs:List Value),Yp g s w->ZO (Rep g w) vs args->Calls P f vs.toArray w (Zhn g w Φ)
def Ze.mono{f args s Φ Φ'}(h:Ze P f args s Φ)(n:∀r s',Φ r s'->Φ' r s'):Ze P f args s Φ' :=
 ⟨h.1,λg w vs j i=>(h.2 g w vs j i).mono λ_ _ ⟨t,s',r,a,b,c,d⟩=>⟨t,s',r,a,b,c,n _ _ d⟩⟩
def Zlj(P:Program)(f:FuncId)(cs:List Frame)(Φ:Res->St->Prop):Zv8 P where
 T g w m:=∃e w' fr,Comes P m (lone fr cs w') e/\fr.fn=f/\fr.leaving P w' e/\Zhn g w Φ e w'
 back g w m m' hs h:=let ⟨e,w',fr,a,b⟩:=h;⟨e,w',fr,a.of_steps hs,b⟩
 ext g w g' w' m hx h:=by obtain⟨e,w2,fr,a,b,c,g2,s2,r,d1,d2,d3,d4⟩:=h;exact⟨e,w2,fr,a,b,c,g2,s2,r,hx.trans d1,d2,d3,d4⟩
def Zn7(P:Program)(an:Ann)(f:FuncId)(N:Nat)(cs:List Frame)(Φ:Res->St->Prop):Fr P where
 T:=Zlj P f cs Φ
 b:={ (dE:Frame) with fn:=f,kind:=.normal,roundOf:=nO }
 cs:=cs
 N:=N
 ds:=[]
 an:=an
def Qw:Nat->List D->Env
 |_,[]=>[]
 |i,d::ds=>(i,.d d)::Qw (i+1) ds
def ZqR:∀(ds i t e),ZS (Qw i ds) t=sO e->∃d,e=.d d/\i<=t/\ds[t-i]?=sO d
 | [],i,t,e,h=>by simp[Qw,ZS]at h
 |d::ds,i,t,e,h=>by simp only[Qw,ZS]at h;by_cases j:i=t;subst j;simp only[if_true,ZHE]at h;subst h;exact⟨d,rfl,ZHV _,ψ⟩;simp only[j,if_false]at h;obtain⟨z,u,h2,n⟩:=ZqR ds (i+1) t e h;refine⟨z,u,ω,?_⟩;rw[show t-i=(t-(i+1))+1 from by omega,List.getElem?_cons_succ];exact n
def Zg2(z:Yp g s w){vs:List Value}{args:List D}(u:ZO (Rep g w) vs args){n:Nat}:
  Zy g (λ_=>0) w (vs.toArray++Array.replicate n undef) (Qw 0 args) [] s:={
 st:=z
 loc l cs h:=by simp[Zj]at h
 locKept l cs h:=by simp[Zj]at h
 locSt l cs h:=by simp[Zj]at h
 inj l l' cs cs' h:=by simp[Zj]at h
 env t e h:=by
  obtain⟨d,rfl,_,j⟩:=ZqR args 0 t e h;simp only[Nat.sub_zero]at j;have i:t<I vs:=by rw[u.len];exact(List.getElem?_eq_some_iff.1 j).1
  have:(vs.toArray++Array.replicate n undef).getD t undef=vs[t]:=by simp[Array.getD_eq_getD_getElem?,Array.getElem?_append,i]
  rw[this];exact u.get t _ d (by simp[i]) j }
def Zji{an f df}(n:cf P an f=sO df){args s Φ}(h:∀z,ZC (Zn7 P an f df.n z Φ) [.code df.body] (Qw 0 args) [] s):Ze P f args s Φ:=by
 unfold cf at n;split at n<;>(try(simp at n;done));rename_i u t;split at n<;>(try(simp at n;done));rename_i c hc;split at n<;>(try(simp at n;done));rename_i j;split at n<;>simp at n;rename_i rs d hrs hd;subst n;refine⟨⟨u,t,by simp[hc],by simpa using j⟩,λg w vs hs ha=>?_⟩;intro z;have i:Frame.enter P f vs.toArray .normal =
   (Zn7 P an f u.ntmps z Φ).b.atR { tmps:=vs.toArray++Array.replicate (u.ntmps-I vs) undef,defers:=[] } [.code c]:=by
  simp[Frame.enter,Frame.atR,t,hc,Zn7]
 have:=h z [.code c] (.code hd .nil) g (λ_=>0) w (vs.toArray++Array.replicate (u.ntmps-I vs) undef) (by simp[Zn7];omega) (Zg2 hs ha);obtain⟨e,w',fr,a,b,c',d'⟩:=this;refine⟨e,w',fr,d',?_,b,c'⟩;rw[i];exact a
def Ks(H:Env)(L:Loc)(s:St):RV->Option (Prop×D)
 |.tmp t=>match ZS H t with
  |some (.d x)=>sO (True,x)
  |some (.when c (.d x))=>sO (c=true,x)
  |_=>nO
 |.cell1 t=>match ZS H t with
  |some e=>(Wx L s e).map (True,·)
  |none=>nO
 |.cellN t n=>match ZS H t with
  |some e=>(KB L s n e).map λr=>(r.1,.agg r.2)
  |none=>nO
def YK(H:Env)(L:Loc)(s:St):List RV->Option (Prop×List D)
 | []=>sO (True,[])
 |r::rs=>match Ks H L s r,YK H L s rs with
  |some (p,d),sO (q,ds)=>sO (p/\q,d::ds)
  |_,_=>nO
def Qy:List D->D
 | [d]=>d
 |ds=>.tup ds
def ZlA(tmps:Array Value):ResultVar->Sem Value
 |.tmp t=>pure (tmps.getD t undef)
 |.cell a t=>do loadVar t (<-asAddr (tmps.getD a undef))
def ZoJ(fn tmps):results fn tmps=(do
  let vs <-fn.results.mapM (ZlA tmps)
  pure (if h:vs.size=1 then vs[0] else .tuple vs)):=by
 unfold results
 congr 1
def ZDd{g Z w tmps H L s}(m:Zy g Z w tmps H L s){r rv}(z:crv P r=sO rv){p d}(h:Ks H L s rv=sO (p,d))(hp:p):
  ∃v,(ZlA tmps r).run P w=.ok v w/\Rep g w v d:=by
 cases r with
 |tmp t =>simp only[crv,ZHE]at z;subst z;simp only[Ks]at h;split at h<;>simp only[ZHE,ZHR,reduceCtorEq]at h;rename_i x hx;obtain⟨rfl,rfl⟩:=h;exact⟨_,rfl,m.env t _ hx⟩;rename_i c x hx;obtain⟨rfl,rfl⟩:=h;exact⟨_,rfl,(m.env t _ hx).1 hp⟩
 |cell a t =>
  simp only[crv]at z;split at z<;>simp at z;·rename_i n ha j;subst z;simp only[Ks]at h;split at h<;>(try(simp at h;done));rename_i e he;simp only[ZHS,ZHR]at h;obtain⟨⟨q,ds⟩,hq,rfl,rfl⟩:=h;obtain⟨ad,hv,vs,i,u⟩:=Zou (P:=P) m.loc m.st (m.env a e he) hq hp;exact⟨.agg vs.toArray,by simp only[ZlA,hv,asAddr];simp[loadVar,Zgh ha,YY j,i],u⟩
  rename_i n ha j;subst z;simp only[Ks]at h;split at h<;>(try(simp at h;done));rename_i e he;simp only[ZHS,ZHR]at h;obtain⟨x,hx,_,rfl⟩:=h;obtain⟨b,o,y,hv,hy,hr,_⟩:=ZnG m.loc m.st (m.env a e he) hx;exact⟨y,by simp only[ZlA,hv,asAddr];simp[loadVar,ZeV ha,hy],hr⟩
def ZyX{g Z w tmps H L s}(m:Zy g Z w tmps H L s):∀{rs z},ZjD P rs=sO z->∀{p ds},
  YK H L s z=sO (p,ds)->p->∃vs:List Value,(rs.mapM (ZlA tmps)).run P w=.ok vs w/\ZO (Rep g w) vs ds
 | [],z,hc,p,ds,h,hp=>by simp only[ZjD,ZHE]at hc;subst hc;simp only[YK,ZHE,ZHR]at h;obtain⟨rfl,rfl⟩:=h;exact⟨[],ψ,.nil⟩
 |r::rs,z,hc,p,ds,h,hp=>by simp only[ZjD]at hc;split at hc<;>simp at hc;rename_i x xs hx t;subst hc;simp only[YK]at h;split at h<;>simp only[ZHE,ZHR,reduceCtorEq]at h;rename_i p1 d1 p2 ds' h1 h2;obtain⟨rfl,rfl⟩:=h;obtain⟨v,n,u⟩:=ZDd m hx h1 hp.1;obtain⟨vs,i,j⟩:=ZyX m t h2 hp.2;exact⟨v::vs,by simp only[List.mapM_cons,Sem.run_bind];rw[n];simp only[Result.andThen_ok,i,Sem.run_pure],.cons u j⟩
def D.Le(d d':D):Prop:=∀g w v,Rep g w v d->Rep g w v d'
def D.Le.refl(d:D):d.Le d:=λ_ _ _ h=>h
def ZoK{g Z w tmps H L s}(m:Zy g Z w tmps H L s){u t}(hc:ZjD P u.results.toList=sO t){p ds}(h:YK H L s t=sO (p,ds))(hp:p):∃v,(results u tmps).run P w=.ok v w/\Rep g w v (Qy ds):=by
 obtain⟨vs,h1,z⟩:=ZyX m hc h hp;have n:(u.results.mapM (ZlA tmps)).run P w=.ok vs.toArray w:=by rw[Array.mapM_eq_mapM_toList];simp[h1]
 by_cases i:I vs=1
 .match vs,i,z with
  | [v],_,.cons hv .nil =>refine⟨v,?_,hv⟩;rw[ZoJ];simp[n]
 refine⟨.tuple vs.toArray,?_,?_⟩;rw[ZoJ];simp[n,i];have j:=z.len;have:Qy ds=.tup ds:=by
  match ds,j with
  | [],_=>rfl
  | [_],hl=>exact absurd hl i
  |_::_::_,_=>rfl
 rw[this];exact .tup vs ds j z.get
def St.sub(s' s:St):Prop:=∀b o,s' b=sO o->s b=sO o
def Yp.sub{s s':St}(h:Yp g s w)(i:s'.sub s):Yp g s' w:={
 obj b o ho:=h.obj b o (i b o ho)
 kept b o ho:=h.kept b o (i b o ho)
 fresh:=h.fresh
 tabs:=h.tabs }
end
end Go.DL
namespace Go.DL
open Go
variable [Zsq]
section
variable {P:Program}
def Wk(F:Fr P)(H:Env)(L:Loc)(d:D)(s:St):Prop :=
 ∀g Z w v todo tmps,F.N<=tmps.size->Zy g Z w tmps H L s->Rep g w v d->F.T.T g w (lone { F.b.atR ⟨tmps,F.ds⟩ todo with mode:=.panicking [{ v,recovered:=false }] } F.cs w)
def Zy.empty{g:G}{Z:Nat->Nat}{w:World}{tmps:Array Value}{H:Env}{L:Loc}{s:St}(m:Zy g Z w tmps H L s):Zy g Z w tmps [] [] s:={
 st:=m.st
 loc l cs h:=by simp[Zj]at h
 locKept l cs h:=by simp[Zj]at h
 locSt l cs h:=by simp[Zj]at h
 inj l l' cs cs' h:=by simp[Zj]at h
 env t e h:=by simp[ZS]at h }
def Wk.weak{F:Fr P}{d s}(h:Wk F [] [] d s)(H L):Wk F H L d s :=
 λg Z w v i tmps n m j=>h g Z w v i tmps n m.empty j
def Zgj(g:G)(Z:Nat->Nat)(L:Loc):G:={ g with kept:=λb=>g.kept b\/∃l cs,Zj L l=sO cs/\b=Z l }
def WG{g i w v d}(h:Rep g w v d)(j:i.prot=g.prot):Rep i w v d :=
 h.mono0 (λb=>by rw[j];exact ZHV _) (λ_ _ _=>rfl) (λ_ _ h=>h)
def ZyV{g i Z w L v e}(h:ZP g Z w L v e)(n:i.prot=g.prot):ZP i Z w L v e:=by
 induction e with
 |d x=>exact WG h n
 |loc l o=>exact h
 |when c e ih=>exact⟨λj=>ih (h.1 j),h.2⟩
def Zor{g g' w b o}(h:W2 g w b o)(j:g'.prot=g.prot):W2 g' w b o:=by
 cases o with
 |cells ds =>obtain⟨u,vs,T,z,h2,h3,h4⟩:=h;exact⟨by rw[j];exact u,vs,T,z,h2,λi v d hv hd=>WG (h3 i v d hv hd) j,h4⟩
 |map es =>obtain⟨u,en,cl,z,h2,h3,h4,h5,h6⟩:=h;exact⟨by rw[j];exact u,en,cl,z,h2,λi v d hv hd=>WG (h3 i v d hv hd) j,λi v d hv hd=>WG (h4 i v d hv hd) j,h5,h6⟩
 |tip k =>obtain⟨u,z⟩:=h;exact⟨by rw[j];exact u,z⟩
 |mapE kp es k n =>obtain⟨u,io,z,en,cl,h2,h3,h4,h5,h6,h7⟩:=h;exact⟨by rw[j];exact u,io,z,en,cl,h2,h3,λi v d hi hv hd=>WG (h4 i v d hi hv hd) j,λi v d hi hv hd=>WG (h5 i v d hi hv hd) j,λe he=>⟨WG (h6 e he).1 j,(h6 e he).2⟩,h7⟩
 |loop r st =>obtain⟨u,l,z,h2,h3,h4,h5,h6,h7,h8,h9⟩:=h;exact⟨by rw[j];exact u,l,z,h2,h3,h4,h5,h6,h7,λt e he=>ZyV (h8 t e he) j,h9⟩
 |dfr =>obtain⟨u,z⟩:=h;exact⟨by rw[j];exact u,z⟩
def Zy.callSt{g:G}{Z:Nat->Nat}{w:World}{tmps:Array Value}{H:Env}{L:Loc}{s:St}(m:Zy g Z w tmps H L s):Yp (Zgj g Z L) s w:={
 obj b o ho:=Zor (m.st.obj b o ho) rfl
 kept b o ho:=by rintro(h|⟨l,i,j,rfl⟩);exact m.st.kept b o ho h;rw[m.locSt l i j]at ho;simp at ho
 fresh b hb:=⟨(m.st.fresh b hb).1,by
  rintro(h|⟨l,i,j,rfl⟩);exact(m.st.fresh b hb).2 h;have:=(m.loc l i j).lt;omega⟩
 tabs n i hc:=WG (m.st.tabs n i hc) rfl }
def Zy.afterCall{g g' Z w w' tmps H L s s'}(m:Zy g Z w tmps H L s)(hx:Ext (Zgj g Z L) w g' w')(hs:Yp g' s' w') :
  Ext g w { g' with kept:=g.kept } w'/\Zy { g' with kept:=g.kept } Z w' tmps H L s':=by
 have i:Ext g w { g' with kept:=g.kept } w' :=
  ⟨hx.size,hx.prot,hx.cell,hx.hdr,λb hb=>hx.kept b (.inl hb),λb hb=>hx.keptProt b (.inl hb),rfl,hx.os,hx.output,hx.tape⟩
 refine⟨i,⟨⟨λb o ho=>Zor (hs.obj b o ho) rfl,λb o ho hk=>hs.kept b o ho (by rw[hx.keptEq];exact .inl hk),λb hb=>⟨(hs.fresh b hb).1,λhk=>(hs.fresh b hb).2 (by rw[hx.keptEq];exact .inl hk)⟩,λn cs hc=>WG (hs.tabs n cs hc) rfl⟩,?_,m.locKept,?_,m.inj,?_⟩⟩;intro l cs hl;exact(m.loc l cs hl).mono i (hx.kept _ (.inr ⟨l,cs,hl,rfl⟩)) (hx.keptProt _ (.inr ⟨l,cs,hl,rfl⟩))
 .intro l cs hl;cases j:s' (Z l) with
  |none=>rfl
  |some o=>exact absurd (by rw[hx.keptEq];exact .inr ⟨l,cs,hl,rfl⟩) (hs.kept _ o j)
 intro t e he;exact(m.env t e he).mono i
def Zvk{op f xs}(h:ck P op=sO (.call f xs)):∃u n t,op=.call ⟨.value u,n,t⟩/\Z6 u=sO f/\ZcX n.toList=sO xs:=by
 unfold ck at h;split at h;simp at h;split at h<;>(try(simp at h;done));all_goals (try(repeat' (split at h<;>(try(simp at h;done)))))
 simp only[ZHE,K.call.injEq]at h;obtain⟨rfl,rfl⟩:=h;rename_i c _ _ u i _ _ f xs z j;obtain⟨callee,n,t⟩:=c;simp only at i;exact⟨u,n,t,by rw[i],z,j⟩
def ZzE{op x}(h:ck P op=sO (.panic x)):∃x',op=.panic x'/\Z6 x'=sO x:=by
 unfold ck at h;split at h;simp at h;split at h<;>(try(simp at h;done));all_goals (try(repeat' (split at h<;>(try(simp at h;done)))))
 simp only[ZHS,K.panic.injEq,exists_eq_right]at h;exact⟨_,rfl,h⟩
def Zgx(P:Program):Next->Option Frame
 |.enter f args=>sO (Frame.enter P f args .normal)
 |.round l f tmps a b=>sO (Frame.round l f tmps a b .normal)
 |_=>nO
def ZB3(P:Program)(m:Machine)(c:Frame)(cs:List Frame)(e:Ending)(w':World):Prop :=
 match e with
 |.returned v=>Steps P m (lone (c.finish v) cs w')
 |.panicked ch=>Steps P m (lone (c.raise ch) cs w')
 |.outgrown=>False
def Ki(P:Program)(f:D)(args:List D)(s:St)(Φ:Res->St->Prop):Prop :=
 ∀g w fv (vs:List Value),Yp g s w->Rep g w fv f->ZO (Rep g w) vs args ->
  ∃d nx fr,(Deferred.ofValue fv vs.toArray).run P w=.ok d w/\(invoke d.target d.args).run P w=.ok nx w/\Zgx P nx=sO fr /\
   ∀c cs,∃e w',Zhn g w Φ e w'/\ZB3 P (lone fr (c::cs) w) c cs e w'
def Ze.V{f first args caps s Φ}(h:Ze P f (first++args++caps) s Φ):Ki P (.fn (.func f) first caps) args s Φ:=by
 intro g w fv vs hs hf ha;cases hf with
 |fn _ fs cs' _ _ hn1 hn2 h1 h2 =>
 obtain⟨⟨fn,u,ab,ac⟩,t⟩:=h;have z:ZO (Rep g w) (fs++vs++cs') (first++args++caps):=((Yo hn1 h1).append ha).append (Yo hn2 h2);have n:fn.body.isNone=false:=by cases hb:fn.body<;>simp[hb]at ab⊢
 refine⟨_,.enter f (fs++vs++cs').toArray,_,by simp[Deferred.ofValue];rfl,?_,rfl,λc cs=>?_⟩;simp only[invoke,callFunc,Sem.run_bind,run_program,Result.andThen_ok,u,ac,n,ZIe,if_false,Sem.run_pure];simp;obtain⟨e,w',fr,hp,j,hfrf,i⟩:=t g w _ hs z (c::cs);refine⟨e,w',hp,?_⟩;cases e with
 |returned v=>exact Steps.trans j (.one (step_leave_returned i))
 |panicked ch=>exact Steps.trans j (.one (step_leave_panicked i))
 |outgrown =>obtain⟨g',s',r,b1,b2,b3,b4⟩:=hp;cases r<;>exact b3.elim
def Zfn{F:Fr P}{kp dk o os H L s}(hg:Zo H o.guard=sO true){fx xs}(hk:o.k=.call fx xs)
  {p q f es ds} (hf:ZD H true fx=sO (q,.d f)) (ha:Yg H true xs=sO (p,es)) (hds:Kk es=sO ds) (hp:p) (hq:q)
  {Ψ} (hc:Ki P f ds s Ψ)
  (hret:∀d s',Ψ (.ret d) s'->DO F kp dk os (Zz H o.dst (.d d)) L s') (hpan:∀d s',Ψ (.panic d) s'->Wk F H L d s'):DO F kp dk (o::os) H L s:=by
 refine Wz λoo g Z w tmps j i r k ak ad ay ai hd hN m hr av=>?_;have hw:=Yi m ay hg;have ax:=Yq ad (by rw[hk];rfl);rw[hk]at ad;obtain⟨f',z,ats,ar,ap,aq⟩:=Zvk ad;have al:Rep g w _ _:=Yf m ap rfl hf hq F.ds;have ab:=Qp (ZcH m rfl F.ds aq ha hp) hds;generalize aw:(Act.mk tmps F.ds).eval f'=fv at al;have ah:ZO (Rep (Zgj g Z L) w) (z.toList.map (Act.mk tmps F.ds).eval) ds:=Yo ab.len (λi a b hx hy=>WG (ab.get i a b hx hy) rfl);obtain⟨d,nx,fr,ao,au,aj,hC⟩:=hc (Zgj g Z L) w fv _ m.callSt (WG al rfl) ah;have af:(Array.map (Act.mk tmps F.ds).eval z)=(z.toList.map (Act.mk tmps F.ds).eval).toArray:=by apply Array.ext';simp
 have ag:(execOp (Act.mk tmps F.ds).eval oo).run P w=.ok nx w:=by simp only[execOp,ar,resolve,aw,af,Sem.run_bind,ao,Result.andThen_ok,au]
 have u:step P (lone (F.b.atR ⟨tmps,F.ds⟩ (.inRegion j (i::r)::k)) F.cs w) =
   .next (lone fr (F.b.atR ⟨tmps,F.ds⟩ (.inRegion j (i::r)::k)::F.cs) w):=by
  refine step_lone_go ?_;rw[stepGR_op ak hw,Oper.semAt_eq _ _ _ ax];cases nx<;>simp only[Zgx,ZHE,reduceCtorEq]at aj<;>subst aj<;>simp[stepG.apply,ag,Frame.atR]
 obtain⟨e,w',⟨g',s',res,x1,x2,x3,x4⟩,t⟩:=hC (F.b.atR ⟨tmps,F.ds⟩ (.inRegion j (i::r)::k)) F.cs;obtain⟨ac,hm⟩:=m.afterCall x1 x2;cases e with
 |returned v =>
  cases res with
  |panic d=>exact x3.elim
  |ret d =>
   have am:(F.b.atR ⟨tmps,F.ds⟩ (.inRegion j (i::r)::k)).finish v=F.b.atR ((Act.mk tmps F.ds).put oo.dst v) (.inRegion j r::k):=by rw[Frame.finish_atR,ak];rfl
   have n:Steps P (lone (F.b.atR ⟨tmps,F.ds⟩ (.inRegion j (i::r)::k)) F.cs w) (lone (F.b.atR ((Act.mk tmps F.ds).put oo.dst v) (.inRegion j r::k)) F.cs w'):=by refine .head u ?_;rw[<-am];exact t
   refine F.T.back _ _ _ _ n ?_;rw[ai];obtain⟨ae,e1,e2,m'⟩:=ZfP hm hN hd (v:=v) (e:=.d d) (WG x3 rfl) F.ds;rw[e1];exact F.T.ext _ _ _ _ _ ac (hret d s' x4 j r k hr av _ _ _ ae e2 m')
 |panicked ch =>
  cases res with
  |ret d=>exact x3.elim
  |panic d =>
   obtain⟨v,rfl,hv⟩:=x3;have n:Steps P (lone (F.b.atR ⟨tmps,F.ds⟩ (.inRegion j (i::r)::k)) F.cs w) (lone { F.b.atR ⟨tmps,F.ds⟩ (.inRegion j (i::r)::k) with mode:=.panicking [{ v,recovered:=false }] } F.cs w'):=by refine .head u ?_;rw[<-Frame.raise_atR];exact t
   refine F.T.back _ _ _ _ n ?_;exact F.T.ext _ _ _ _ _ ac (hpan d s' x4 _ _ _ v _ _ hN hm (WG hv rfl))
 |outgrown=>exact t.elim
def Zhj{F:Fr P}{kp dk o os H L s}(hg:Zo H o.guard=sO true){t xs}(hk:o.k=.call t xs)
  {p q f first caps es ds} (hf:ZD H true t=sO (q,.d (.fn (.func f) first caps))) (u:Yg H true xs=sO (p,es)) (n:Kk es=sO ds) (hp:p) (z:q)
  {Ψ} (hc:Ze P f (first++ds++caps) s Ψ)
  (i:∀d s',Ψ (.ret d) s'->DO F kp dk os (Zz H o.dst (.d d)) L s') (j:∀d s',Ψ (.panic d) s'->Wk F H L d s'):DO F kp dk (o::os) H L s :=
 Zfn hg hk hf u n hp z hc.V i j
def Zmz{F:Fr P}{kp dk o os H L s}(hg:Zo H o.guard=sO true){x}(hk:o.k=.panic x)
  {p t d} (ha:ZD H true x=sO (p,.d (.iface t d))) (hp:p) (h:Wk F H L (.iface t d) s):DO F kp dk (o::os) H L s:=by
 refine Wz λoo g Z w tmps ab i r k ad n af hdst hd hN m hr hkk=>?_;have hw:=Yi m af hg;have ac:=Yq n (by rw[hk];rfl);rw[hk]at n;obtain⟨x',z,ae⟩:=ZzE n;have j:Rep g w _ _:=Yf m ae rfl ha hp F.ds;generalize hv:(Act.mk tmps F.ds).eval x'=v at j;have u:(execOp (Act.mk tmps F.ds).eval oo).run P w=.halt (.panic v) w:=by cases j;simp[execOp,z,hv,Instr.panic]
 refine F.T.back _ _ _ _ (.one (step_lone_go (fr':={ F.b.atR ⟨tmps,F.ds⟩ (.inRegion ab (i::r)::k) with mode:=.panicking [{ v,recovered:=false }] }) (cs':=F.cs) (w':=w) ?_)) (h g Z w v _ _ hN m j);rw[stepGR_op ad hw,Oper.semAt_eq _ _ _ ac];rw[<-Frame.raise_atR];simp[stepG.apply,u]
end
end Go.DL
namespace Go.DL
open Go
variable [Zsq]
section
variable {P:Program}
def ZaV:D->Option Value
 |.int k n=>sO (.int k n)
 |.bool b=>sO (.bool b)
 |.str l=>sO (.string ⟨l.toArray⟩)
 |.nilsl=>sO (.slice nO 0 0)
 |.nilptr=>sO (.pointer nO)
 |.ptr b o=>sO (.pointer (sO ⟨b,o,nO⟩))
 |.map b=>sO (.map (sO b))
 |.nilmap=>sO (.map nO)
 |.nilfn=>sO .nilFunc
 |.niliface=>sO .nilIface
 |_=>nO
def ZkP:List D->Option (List Value)
 | []=>sO []
 |d::r=>match ZaV d,ZkP r with
  |some v,sO vs=>sO (v::vs)
  |_,_=>nO
def ZvV{g w v j d}(h:Rep g w v d)(i:ZaV d=sO j):v=j:=by
 cases h<;>simp only[ZaV,ZHE,reduceCtorEq]at i<;>(try exact i);rename_i s l h hb;rw[<-i];cases s;simp only at h;rw[<-h]
def ZlG{g w}:∀{vs vs' ds},ZO (Rep g w) vs ds->ZkP ds=sO vs'->vs=vs'
 |_,_,_,.nil,h=>by simp only[ZkP,ZHE]at h;exact h
 |_,_,_,.cons h1 h2,h=>by simp only[ZkP]at h;split at h<;>simp only[ZHE,reduceCtorEq]at h;rename_i v vs e1 e2;rw[<-h,ZvV h1 e1,ZlG h2 e2]
def ZfU:D->Prop
 |.int k n=>inR k n
 |.str l=>I l<=big
 |d=>(ZaV d).isSome=true
def Zb5:List D->Prop
 | []=>True
 |d::r=>ZfU d/\Zb5 r
def Zq9{d}(h:ZfU d):∃v,ZaV d=sO v/\v.one1=true/\∀g w,Rep g w v d:=by
 cases d<;>simp only[ZfU,ZaV,Option.isSome_none,ZIe]at h;exact⟨_,rfl,rfl,λg w=>.int _ _ h⟩;exact⟨_,rfl,rfl,λg w=>.bool _⟩;exact⟨_,rfl,rfl,λg w=>.str _ _ rfl h⟩;exact⟨_,rfl,rfl,λg w=>.nilsl⟩;exact⟨_,rfl,rfl,λg w=>.nilptr⟩;exact⟨_,rfl,rfl,λg w=>.ptr _ _⟩;exact⟨_,rfl,rfl,λg w=>.map _⟩;exact⟨_,rfl,rfl,λg w=>.nilmap⟩;exact⟨_,rfl,rfl,λg w=>.nilfn⟩;exact⟨_,rfl,rfl,λg w=>.niliface⟩
def ZcJ:∀{ds},Zb5 ds->∃vs,ZkP ds=sO vs/\(∀v∈vs,v.one1=true)/\∀g w,ZO (Rep g w) vs ds
 | [],_=>⟨[],rfl,ψ,λg w=>.nil⟩
 |d::r,h=>by obtain⟨v,n,u,j⟩:=Zq9 h.1;obtain⟨vs,i,g2,t⟩:=ZcJ h.2;exact⟨v::vs,by simp[ZkP,n,i],by simp only[ZIj,forall_eq_or_imp];exact⟨u,g2⟩,λg w=>.cons (j g w) (t g w)⟩
inductive DD where
 |mark (q:Nat)
 |fn (i:FuncId) (args caps:List D)
def DD.def:DD->Deferred
 |.mark q=>{ target:=.collected q,args:=#[] }
 |.fn i args caps=>{ target:=.fn (.func i) ((ZkP caps).getD []).toArray,args:=((ZkP args).getD []).toArray }
def Zb0(g:G)(w:World)(m:FrameMode):Option D->Prop
 |none=>m=.returning
 |some d=>∃v,m=.panicking [{ v,recovered:=false }]/\Rep g w v d
def Zap(P:Program)(i:FuncId)(args:List D)(pd:Option D)(s:St)(Ψ:Bool->St->Prop):Prop :=
 (∃fn,P.funcs[i]?=sO fn/\fn.body.isSome=true/\(fn.name == "runtime.NumGoroutine")=false) /\
 ∀g w (vs:List Value) (cf:Frame) (cs:List Frame),Yp g s w->ZO (Rep g w) vs args->Zb0 g w cf.mode pd ->
  ∃g' w' s' b,Ext g w g' w'/\Yp g' s' w'/\Ψ b s' /\
   Steps P (lone (Frame.enter P i vs.toArray .deferred) (cf::cs) w) (lone { cf with mode:=if b then .returning else cf.mode } cs w')
def Unw(P:Program):List DD->Option D->St->(Option D->St->Prop)->Prop
 | [],m,s,Ψ=>Ψ m s
 |.mark q::r,m,s,Ψ=>s q=sO .dfr/\Unw P r m (s.del q) Ψ
 |.fn i args caps::r,m,s,Ψ=>Zb5 args/\Zb5 caps/\Zap P i (args++caps) m s λb s'=>Unw P r (if b then nO else m) s' Ψ
def Zc0{g:G}{w:World}(b:Nat)(o:Obj)(hb:hdr w b=nO)(hp:g.prot b=0)(hk:¬g.kept b):Ext g w g { w with heap:=w.heap.setIfInBounds b o } where
 size:=by simp
 prot _:=ZHV _
 cell b' o' ho:=by by_cases h:b'=b;subst h;omega;exact J8 (by simp[Array.getElem?_setIfInBounds,Ne.symm h])
 hdr b' x hx:=by by_cases h:b'=b;subst h;rw[hb]at hx;simp at hx;rw[ZbY (w:=w) (by simp[Array.getElem?_setIfInBounds,Ne.symm h])];exact hx
 kept b' hb':=by have h:b'≠b:=λh=>hk (h▸hb');simp[Array.getElem?_setIfInBounds,Ne.symm h]
 keptProt _ _:=rfl
 keptEq:=rfl
 os:=rfl
 output:=rfl
 tape:=rfl
def Zy.drop{g:G}{Z:Nat->Nat}{w w':World}{tmps:Array Value}{H:Env}{L:Loc}{s:St}(m:Zy g Z w tmps H L s){b:Nat}{o:Jo}(hb:s b=sO o)(he:Ext g w g w')(hsz:w'.heap.size=w.heap.size)
  (u:∀c,c≠b->w'.heap[c]?=w.heap[c]?):Zy g Z w' tmps H L (s.del b):={
 st:=⟨λc x i=>by simp only[St.del]at i;by_cases j:c=b;simp[j]at i;simp only[j,if_false]at i;exact(m.st.obj c x i).mono he (u c j) rfl,
   λc x i=>by simp only[St.del]at i;by_cases j:c=b;simp[j]at i;simp only[j,if_false]at i;exact m.st.kept c x i,
   λc j=>m.st.fresh c ω,λn z j=>(m.st.tabs n z j).mono he⟩
 loc l z hl:=(m.loc l z hl).mono he (u _ (λh=>by have:=m.locSt l z hl;rw[h,hb]at this;simp at this)) rfl
 locKept:=m.locKept
 locSt l z hl:=by simp only[St.del];split;rfl;exact m.locSt l z hl
 inj:=m.inj
 env t e ht:=(m.env t e ht).mono he }
def Zy4{fr cs w q ds args}(hm:fr.mode≠.run)(hd:fr.defers={ target:=.collected q,args }::ds)(hq:w.heap[q]?=sO (.deferred (sO []))) :
  step P (lone fr cs w)=.next (lone { fr with defers:=ds } cs { w with heap:=w.heap.setIfInBounds q (.deferred nO) }):=by
 have j:(Instr.takeDeferred q).run P w=.ok [] { w with heap:=w.heap.setIfInBounds q (.deferred nO) }:=by simp[Instr.takeDeferred,getObj,setObj,Sem.run,hq,Result.andThen]
 refine step_lone_go ?_;cases i:fr.mode with
 |run=>exact absurd i hm
 |returning=>simp[stepG,unwind,i,hd,Sem.runT_eq,j]
 |panicking chain=>simp[stepG,unwind,i,hd,Sem.runT_eq,j]
def Zoo{g w m o}(h:Zb0 g w m o):m≠.run:=by
 cases o with
 |none=>simp only[Zb0]at h;rw[h];simp
 |some d=>obtain⟨v,h,_⟩:=h;rw[h];simp
def Zon{g i w w' m o}(h:Zb0 g w m o)(n:Ext g w i w'):Zb0 i w' m o:=by
 cases o with
 |none=>exact h
 |some d=>obtain⟨v,h,j⟩:=h;exact⟨v,h,j.mono n⟩
def ZkQ{Ψ}:∀(dds) {m s},Unw P dds m s Ψ->∀{g Z w H L fr cs},Zy g Z w fr.tmps H L s->fr.defers=dds.map DD.def->Zb0 g w fr.mode m ->
  ∃g' w' m' s' md,Ext g w g' w'/\Zy g' Z w' fr.tmps H L s'/\Ψ m' s'/\Zb0 g' w' md m'/\Steps P (lone fr cs w) (lone { fr with defers:=[],mode:=md } cs w')
 | [],m,s,h,g,Z,w,H,L,fr,cs,M,hd,hm=>by
  refine⟨g,w,m,s,fr.mode,Ext.refl g w,M,h,hm,?_⟩;have:({ fr with defers:=[],mode:=fr.mode }:Frame)=fr:=by cases fr;simp only at hd;subst hd;rfl
  rw[this];exact Steps.refl P _
 |.mark q::r,m,s,h,g,Z,w,H,L,fr,cs,M,hd,hm=>by obtain⟨hq,hu⟩:=h;obtain⟨ah,hh⟩:=M.st.obj q _ hq;have he:=Zc0 (g:=g) (w:=w) q (.deferred nO) (by simp[hdr,hh]) ah (M.st.kept q _ hq);have M':=M.drop hq he ψ (λc hc=>Zaj hc);obtain⟨g',w',m',s',md,a1,a2,a3,a4,a5⟩:=ZkQ r hu (fr:={ fr with defers:=r.map DD.def }) (cs:=cs) M' rfl (Zon hm he);exact⟨g',w',m',s',md,he.trans a1,a2,a3,a4,.head (Zy4 (Zoo hm) hd hh) a5⟩
 |.fn i args caps::r,m,s,h,g,Z,w,H,L,fr,cs,M,hd,hm=>by
  obtain⟨al,aj,⟨fn,u,z,ab⟩,hc⟩:=h;obtain⟨ad,ai,_,ag⟩:=ZcJ al;obtain⟨vs,ac,_,am⟩:=ZcJ aj;have ae:Zb0 (Zgj g Z L) w ({ fr with defers:=r.map DD.def }:Frame).mode m:=by
   cases m with
   |none=>exact hm
   |some d=>obtain⟨v,h1,h2⟩:=hm;exact⟨v,h1,WG h2 rfl⟩
  obtain⟨g1,w1,s1,b,x1,x2,x3,x4⟩:=hc (Zgj g Z L) w (ad++vs) { fr with defers:=r.map DD.def } cs M.callSt ((ag _ _).append (am _ _)) ae;obtain⟨j,af⟩:=M.afterCall x1 x2;have n:fn.body.isNone=false:=by cases hb:fn.body<;>simp[hb]at z⊢
  have t:step P (lone fr cs w)=.next (lone (Frame.enter P i (ad++vs).toArray .deferred) ({ fr with defers:=r.map DD.def }::cs) w):=by refine step_defer (d:=DD.def (.fn i args caps)) (fv:=.func i) (cap:=vs.toArray) (Zoo hm) hd (by simp[DD.def,ac]) ?_;simp only[DD.def,ac,ai,ZIk,invoke,callFunc,Sem.run_bind,run_program,Result.andThen_ok,u,ab,n,ZIe,if_false,Sem.run_pure];simp
  have ak:Zb0 { g1 with kept:=g.kept } w1 (if b then .returning else fr.mode) (if b then nO else m):=by cases b;simp only[ZIe,if_false];exact Zon hm j;rfl
  obtain⟨g',w',m',s',md,a1,a2,a3,a4,a5⟩:=ZkQ r x3 (fr:={ fr with defers:=r.map DD.def,mode:=if b then .returning else fr.mode }) (cs:=cs) af rfl ak;exact⟨g',w',m',s',md,j.trans a1,a2,a3,a4,.head t (Steps.trans x4 a5)⟩
def Y0{P:Program}(F:Fr P)(rs:List RV)(Φ:Res->St->Prop)(dds:List DD):Prop :=
 ∃an f df cs,cf P an f=sO df/\rs=df.res/\F={ Zn7 P an f df.n cs Φ with ds:=dds.map DD.def }
def St.sub_refl{s:St}:s.sub s:=λ_ _ h=>h
def Zk5(H:Env)(L:Loc)(rs:List RV)(Φ:Res->St->Prop):Option D->St->Prop
 |none,s=>∃p ds d s',YK H L s rs=sO (p,ds)/\p/\(Qy ds).Le d/\s'.sub s/\Φ (.ret d) s'
 |some d,s=>∃d' s',d.Le d'/\s'.sub s/\Φ (.panic d') s'
def Zs3{an f df}(u:cf P an f=sO df){cs Φ g Z w fr H L s m dds}(z:fr.fn=f)(hkind:fr.kind=.normal)
  (M:Zy g Z w fr.tmps H L s) (hd:fr.defers=dds.map DD.def) (hm:Zb0 g w fr.mode m) (hu:Unw P dds m s (Zk5 H L df.res Φ)):(Zlj P f cs Φ).T g w (lone fr cs w):=by
 obtain⟨g',w',m',s',md,a1,a2,a3,a4,a5⟩:=ZkQ dds hu (cs:=cs) M hd hm;unfold cf at u;split at u<;>(try(simp at u;done));rename_i fn i;split at u<;>(try(simp at u;done));split at u<;>(try(simp at u;done));split at u<;>simp at u;rename_i rs d' t hd';subst u;cases m' with
 |none =>obtain⟨p,ds,d,s2,h1,h2,h3,h4,h5⟩:=a3;obtain⟨v,j,n⟩:=ZoK a2 t h1 h2;exact⟨.returned v,w',_,a5,z,⟨a4,rfl,hkind,fn,by rw[<-i] ;exact congrArg _ z,j⟩,g',s2,.ret d,a1,a2.st.sub h4,h3 _ _ _ n,h5⟩
 |some d =>obtain⟨d',s2,h1,h2,h3⟩:=a3;obtain⟨v,j,n⟩:=a4;exact⟨.panicked [{ v,recovered:=false }],w',_,a5,z,⟨j,rfl,fn,by rw[<-i];exact congrArg _ z⟩,g',s2,.panic d',a1,a2.st.sub h2,⟨v,rfl,h1 _ _ _ n⟩,h3⟩
def Y0.retU{F:Fr P}{rs Φ dds}(n:Y0 F rs Φ dds){dk H L s}(h:Unw P dds nO s (Zk5 H L rs Φ)):ZC F (.code .ret::dk) H L s:=by
 obtain⟨an,f,⟨N,rs,b⟩,t,i,rfl,rfl⟩:=n;intro k j;cases j with
 |code hc ht =>obtain rfl:=ZsH hc;intro g Z w tmps hN m;refine(Zlj P f t Φ).back _ _ _ _ (.one (stepR_ret rfl)) ?_;exact Zs3 (m:=nO) i rfl rfl (dds:=dds) m rfl rfl h
def Y0.finU{F:Fr P}{rs Φ dds}(n:Y0 F rs Φ dds){H L s}(h:Unw P dds nO s (Zk5 H L rs Φ)):ZC F [] H L s:=by
 obtain⟨an,f,⟨N,rs,b⟩,t,i,rfl,rfl⟩:=n;intro k j;cases j;intro g Z w tmps hN m;refine(Zlj P f t Φ).back _ _ _ _ (.one (stepR_end rfl)) ?_;exact Zs3 (m:=nO) i rfl rfl (dds:=dds) m rfl rfl h
def Y0.panU{F:Fr P}{rs Φ dds}(j:Y0 F rs Φ dds){H L d s}(h:Unw P dds (sO d) s (Zk5 H L rs Φ)):Wk F H L d s:=by
 obtain⟨an,f,⟨N,rs,b⟩,cs,i,rfl,rfl⟩:=j;intro g Z w v todo tmps hN m n;exact Zs3 (m:=sO d) i rfl rfl (dds:=dds) m rfl ⟨v,rfl,n⟩ h
def Y0.ret{F:Fr P}{rs Φ}(z:Y0 F rs Φ []){dk H L s p ds}(d s')(n:YK H L s rs=sO (p,ds))(u:p)(j:(Qy ds).Le d)(i:s'.sub s)(t:Φ (.ret d) s') :
  ZC F (.code .ret::dk) H L s:=z.retU ⟨p,ds,d,s',n,u,j,i,t⟩
def Y0.fin{F:Fr P}{rs Φ}(z:Y0 F rs Φ []){H L s p ds}(d s')(n:YK H L s rs=sO (p,ds))(u:p)(j:(Qy ds).Le d)(i:s'.sub s)(t:Φ (.ret d) s') :
  ZC F [] H L s:=z.finU ⟨p,ds,d,s',n,u,j,i,t⟩
def Y0.pan{F:Fr P}{rs Φ}(n:Y0 F rs Φ []){H L d s}(s')(i:s'.sub s)(j:Φ (.panic d) s'):Wk F H L d s:=n.panU ⟨d,s',D.Le.refl d,i,j⟩
def Zh{an f N rs b}(i:cf P an f=sO ⟨N,rs,b⟩){args s Φ}
  (h:∀F:Fr P,Y0 F rs Φ []->ZC F [.code b] (Qw 0 args) [] s):Ze P f args s Φ :=
 Zji i λj=>h _ ⟨an,f,⟨N,rs,b⟩,j,i,rfl,rfl⟩
end
end Go.DL
namespace Go.DL
open Go
variable [Zsq]
def Zc(P:Program)(f:FuncId)(args:List D)(d:D):Prop:=∀s,Ze P f args s λr s'=>r=.ret d/\s'=s
def Zg{P an f N rs b}(j:cf P an f=sO ⟨N,rs,b⟩){args d}
  (h:∀(F:Fr P) (s:St),(∀{dk:List KH} {H:Env} {L:Loc} {s':St} {p:Prop} {ds:List D},YK H L s' rs=sO (p,ds)->p->(Qy ds).Le d->s.sub s'->ZC F (.code .ret::dk) H L s') ->
   ZC F [.code b] (Qw 0 args) [] s):Zc P f args d :=
 λs=>Zh j λF z=>h F s λt u n i=>z.ret d s t u n i ⟨rfl,rfl⟩
def Zao{P}{F:Fr P}{kp dk o os H L s}(hg:Zo H o.guard=sO true){n xs}(hk:o.k=.call n xs)
  {p q f first caps es ds} (hf:ZD H true n=sO (q,.d (.fn (.func f) first caps))) (t:Yg H true xs=sO (p,es)) (j:Kk es=sO ds) (z:p) (u:q)
  {d} (hc:Zc P f (first++ds++caps) d) (h:DO F kp dk os (Zz H o.dst (.d d)) L s):DO F kp dk (o::os) H L s :=
 Zhj hg hk hf t j z u (hc s) (λd' s' ⟨i,h2⟩=>by simp only[Res.ret.injEq]at i;subst i;subst h2;exact h) (λd' s' ⟨i,_⟩=>by simp at i)
end Go.DL
namespace Go.DL
open Go
variable [Zsq]
section
variable {P:Program}
def ZB6{F:Fr P}{kp dk os H H' L s}(h:∀g Z w tmps,Zy g Z w tmps H L s->Zy g Z w tmps H' L s)(t:DO F kp dk os H' L s) :
  DO F kp dk os H L s:=λj is k i u g Z w tmps n m=>t j is k i u g Z w tmps n (h g Z w tmps m)
def Zy.headWhen{g Z w tmps H L s dst e}(m:Zy g Z w tmps (Zz H dst e) L s):Zy g Z w tmps (Zz H dst (.when true e)) L s:=by
 cases dst with
 |none=>exact m
 |some t =>refine{ m with env:=λu x i=>?_ };simp only[Zz,ZS]at i;by_cases h:t=u;simp only[h,if_true,ZHE]at i;subst i;exact⟨λ_=>m.env u e (by simp[Zz,ZS,h]),λh=>by simp at h⟩;simp only[h,if_false]at i;exact m.env u x (by simp[Zz,ZS,h,i])
def Jx{F:Fr P}{kp dk o os H L s}(hg:Zo H o.guard=sO false){e}
  (h:DO F kp dk os (Zz H o.dst (.when false e)) L s):DO F kp dk (o::os) H L s:=by
 refine Wz λoo g Z w tmps u i r k t hck z j hd hN m hr n=>?_;exact Zcc (P:=P) hN m t j hd (Yi m z hg) (h u r k hr n)
def Zcz{F:Fr P}{kp dk o os H L s c}(n:Zo H o.guard=sO c){j xs}(hk:o.k=.call j xs)
  {p q f first caps es ds} (u:ZD H c j=sO (q,.d (.fn (.func f) first caps))) (t:Yg H c xs=sO (p,es)) (i:Kk es=sO ds)
  {d} (z:c=true->p/\q/\Zc P f (first++ds++caps) d) (h:DO F kp dk os (Zz H o.dst (.when c (.d d))) L s):DO F kp dk (o::os) H L s:=by
 cases c;exact Jx n h;obtain⟨h1,h2,h3⟩:=z rfl;exact Zao n hk u t i h1 h2 h3 (ZB6 (λg Z w tmps m=>m.headWhen) h)
def Zy.sub{g:G}{Z:Nat->Nat}{w:World}{tmps:Array Value}{H:Env}{L:Loc}{s s':St}(m:Zy g Z w tmps H L s)(i:s'.sub s):Zy g Z w tmps H L s':={
 st:=m.st.sub i
 loc:=m.loc
 locKept:=m.locKept
 locSt l cs hl:=by
  cases j:s' (Z l) with
  |none=>rfl
  |some o=>have:=i _ _ j;rw[m.locSt l cs hl]at this;simp at this
 inj:=m.inj
 env:=m.env }
def Ka{F:Fr P}{dk H L s s'}(i:s'.sub s)(h:ZC F dk H L s'):ZC F dk H L s :=
 λk n g Z w tmps j m=>h k n g Z w tmps j (m.sub i)
end
end Go.DL
namespace Go.DL
open Go
variable [Zsq]
variable {kp:Option (List Nat)}{L:Loc}{H:Env}{s:St}{w:World}{os:List DOp}{ds:List D}{B:List (Nat × Rd)}{dst:Option Nat}{tmps:Array Value}{g:G}{Φ:Res->St->Prop}{Z:Nat->Nat}{xs:List Opd}{side:Prop}{row:Nat->List D}
variable {P:Program}
def ZcA{F:Fr P}{kp dk o os H L s}(hg:o.guard=nO){x y pl}(hk:o.k=.q (.bin .add pl) [x,y]){p k a b}(ha:Yg H true [x,y]=sO (p,[.d (.int k a),.d (.int k b)]))(hp:p)(h:DO F kp dk os (Zz H o.dst (.d (.int k (k.wrap (a+b))))) L s):DO F kp dk (o::os) H L s:=by
 refine Zsh (c:=true) (by rw[hg];rfl) (by rw[hk];rfl) (.inr ⟨rfl,rfl⟩) (λ_ oo g Z w tmps u m=>?_) h;rw[hk]at u;obtain⟨ys,i,z⟩:=ZCi u;have n:=ZcH m rfl F.ds z ha hp;obtain⟨dst,j,ty,pos,af,gd⟩:=oo;simp only at i;have ab:∃op t x' y' yt,j=Op.binOp op t x' y' yt:=by
  cases j<;>(try(simp[cq]at i;done));case binOp=>exact⟨_,_,_,_,_,rfl⟩
  all_goals
   exfalso;revert i;simp only[cq]
   repeat' split
   all_goals simp
   all_goals (intros;simp_all)
 obtain⟨op,t,x',y',yt,rfl⟩:=ab;simp only[cq]at i;simp only[ZHE,ZHR,Q.bin.injEq]at i;obtain⟨⟨rfl,_⟩,rfl⟩:=i;obtain⟨e1,e2,he,h1,h2⟩:=Zas n;simp only[List.cons.injEq,and_true]at he;obtain⟨rfl,rfl⟩:=he;obtain⟨v1,i1⟩:=QB h1;obtain⟨v2,i2⟩:=QB h2;refine ev ⟨.int k (k.wrap (a+b)),?_,.int _ _ ZlJ⟩;have ac:(eqGuard .add t x' y' (.int k a) (.int k b)).run P w=.ok () w:=rfl;rw[v1,v2];simp only[Sem.run_bind,ac,Result.andThen_ok,binOp,ne_eq,not_true_eq_false,if_false];rfl
end Go.DL
