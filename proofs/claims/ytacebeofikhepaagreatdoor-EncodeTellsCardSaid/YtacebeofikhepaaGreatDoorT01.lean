/- Lemmas: DlA, DlB, DlC, DlD, DlE, DlF, DlG, DlH, DlI, DlJ, DlK, DlL, DlM, DlMa, DlN, DlO, DlP, DlQ, DlR, DlS, DlT, DlTa, DlTb, DlTc, DlU, DlV, DlW, DlWa. -/
import Derived.AtR
import Derived.Calls
import Derived.Laws.Cells
import Derived.Laws.StructEq
import Derived.ChangeKeysEq
import Derived.Laws.Tables
import Derived.Laws.Build
import Derived.Laws.BytesString
import Derived.MapKept
import Derived.Laws.CopyRow
import Derived.Great.BuildSlice
import Derived.Laws.MakeOwn
import Derived.Laws.AppendOwn
import Derived.Lib.ConvBytes
import Derived.Defers
import Derived.Orders
import Derived.Lib.AppendStr
import Derived.RangeFuncIn
import Derived.OpenShut
import Derived.WalkKit
import Derived.ProofKit
import Derived.ChangeCalls
import Derived.KernelRfl
import Derived.Shelf.Spec.SlicesGrow
import Derived.Shelf.Strings.OnBuilder
import Derived.Ground.NamesProg
import Derived.Lib.Bytealg
import Derived.Lib.BytesEntry
import Derived.Lay
import Derived.LaidOnce
import Derived.Lib.LaidTab
import Derived.Stop.LaidErr
import Derived.SevenTiedAt
import Derived.Test.YtacebeofikhepaaGreatDoorProg
set_option maxHeartbeats 16000000
set_option maxRecDepth 100000
set_option linter.all false
def ω{p:Prop}(h:p:=by omega):p:=h
def φ{p:Prop}(h:p:=by trivial):p:=h
def ψ{p:Prop}(h:p:=by simp):p:=h
abbrev Go.Value.i(n:Int):Go.Value:=.int .i64 n
open List renaming length->I
open Option renaming some -> sO, none -> nO
open Inhabited renaming default -> dE
open Decidable renaming decide -> dC
open Array renaming getD_eq_getD_getElem? -> ZJm
open Bool renaming and_eq_true -> ZIJ, false_eq_true -> ZI7
open List renaming append_assoc -> ZI1, getD -> ZIN, getElem?_append_left -> ZI6, getElem?_append_right -> ZJi, getElem?_eq_getElem -> ZI4, getElem?_eq_none -> ZJj, getElem?_take -> ZJf, getElem_of_mem -> ZIV, length_append -> ZII, length_cons -> ZIP, length_take -> ZIS, map_cons -> ZIQ, map_nil -> ZI9, mem_cons -> ZJd, range -> ZIM
open Nat renaming add_mul -> ZIX, le_refl -> ZIO, mul_le_mul_right -> ZIT
open Option renaming getD_some -> ZJe, map_eq_some_iff -> ZIL, map_some -> ZI3
open Option.some renaming injEq -> ZIx
open Prod.mk renaming injEq -> ZIK
namespace Go.DL
open Go
variable {kp:Option (List Nat)}{w:World}{dst:Option Nat}{tmps:Array Value}{Z:Nat->Nat}{side:Prop}
inductive Tok where
 |none|full|tip (b:Nat)
inductive D where
 |int (k:IntKind) (n:Int)
 |bool (b:Bool)
 |str (s:List UInt8)
 |agg (cells:List D)
 |tup (vs:List D)
 |nilsl
 |sl (t:Tok) (n s:Nat) (row:Nat->List D)
 |ep (cells:List D) (off:Nat)
 |nilptr
 |ptr (b off:Nat)
 |msl (b off n cap s:Nat)
 |map (b:Nat)
 |nilmap
 |fn (f:Fn) (first caps:List D)
 |nilfn
 |iface (t:TypeId) (v:D)
 |niliface
 |stamp (n:Nat)
 |undef
 |any
abbrev D.i(n:Int):D:=.int .i64 n
instance:Inhabited D:=⟨.undef⟩
inductive SK where
 |int|str|bool
inductive KP where
 |sc (k:SK)
 |st (l:List (Nat×SK))
def Yj:SK->D->D->Option Bool
 |.int,.int k a,.int k' b=>if k=k' then sO (dC (a=b)) else nO
 |.str,.str a,.str b=>sO (dC (a=b))
 |.bool,.bool a,.bool b=>sO (dC (a=b))
 |_,_,_=>nO
def Wo(xs ys:List D):List (Nat×SK)->Option Bool
 | []=>sO true
 | (o,k)::r=>match xs[o]?,ys[o]? with
  |some x,sO y=>match Yj k x y,Wo xs ys r with
   |some b,sO c=>sO (b&&c)
   |_,_=>nO
  |_,_=>nO
def Kr:KP->D->D->Option Bool
 |.sc k,x,y=>Yj k x y
 |.st l,.agg xs,.agg ys=>if (I xs)=I l/\I ys=I l then Wo xs ys l else nO
 |_,_,_=>nO
def Q2(kp:KP)(k:D):List (D×D)->Option (Option Nat)
 | []=>sO nO
 |e::r=>match Kr kp k e.1 with
  |some true=>sO (sO 0)
  |some false=>(Q2 kp k r).map (·.map (· + 1))
  |none=>nO
def hdr(w:World)(b:Nat):Option (TypeId×Nat×Nat×Nat) :=
 match w.heap[b]? with
 |some (.cells c t fr)=>sO (t,c.size,fr.1,fr.2)
 |_=>nO
def _root_.Go.Value.one1:Value->Bool
 |.agg _|.tuple _=>false
 |_=>true
structure G where
 prot:Nat->Nat
 kept:Nat->Prop
def free(w:World)(b n:Nat):Prop:=∃t m,hdr w b=sO (t,m,0,0)/\n<=m
def ZlC(w:World):Tok->Nat->Nat->Nat->Nat->Nat->Prop
 |.none,_,_,_,_,_=>True
 |.full,_,_,n,cap,_=>cap=n
 |.tip t,b,o,_,cap,s=>b=t/\o=0/\free w b (cap*s)
def inR(k:IntKind)(n:Int):Prop:=k.min<=n/\n<=k.max
def big:Nat:=9223372036854775807
inductive Rep(g:G)(w:World):Value->D->Prop where
 |int (k:IntKind) (n:Int) (h:inR k n):Rep g w (.int k n) (.int k n)
 |bool (b:Bool):Rep g w (.bool b) (.bool b)
 |str (s:ByteArray) (l:List UInt8) (h:s.data.toList=l) (hb:I l<=big):Rep g w (.string s) (.str l)
 |agg (vs:List Value) (cells:List D) (hn:I vs=I cells) (h:∀(i:Nat) (v:Value) (d:D),vs[i]?=some v->cells[i]?=some d->Rep g w v d)
   (one:∀v∈vs,v.one1=true):Rep g w (.agg vs.toArray) (.agg cells)
 |tup (vs:List Value) (ds:List D) (hn:I vs=I ds) (h:∀(i:Nat) (v:Value) (d:D),vs[i]?=some v->ds[i]?=some d->Rep g w v d) :
   Rep g w (.tuple vs.toArray) (.tup ds)
 |nilsl:Rep g w (.slice none 0 0) .nilsl
 |sl0 (a:Option Addr) (t:Tok) (s:Nat) (row:Nat->List D) (ht:∀b,t≠.tip b):Rep g w (.slice a 0 0) (.sl t 0 s row)
 |sl (b o n cap s:Nat) (row:Nat->List D) (t:Tok) (f:Nat->Nat->Value) (hl:∀i,i<n->(row i).length=s)
   (hc:∀i j,i<n->j<s->w.cell? ⟨b,o+i*s+j,none⟩=some (f i j)) (hp:∀i j,i<n->j<s->o+i*s+j<g.prot b)
   (hr:∀(i j:Nat) (d:D),i<n->(row i)[j]?=some d->Rep g w (f i j) d) (one:∀i j,i<n->j<s->(f i j).one1=true)
   (ht:ZlC w t b o n cap s) (hcap:n<=cap) (hb:cap<=big) :
   Rep g w (.slice (some ⟨b,o,none⟩) n cap) (.sl t n s row)
 |ep (b o off:Nat) (cells:List D) (f:Nat->Value) (hc:∀i,i<I cells->w.cell? ⟨b,o+i,none⟩=some (f i)) (hp:∀i,i<I cells->o+i<g.prot b)
   (hr:∀(i:Nat) (d:D),cells[i]?=some d->Rep g w (f i) d) (one:∀i,i<I cells->(f i).one1=true):Rep g w (.pointer (some ⟨b,o+off,none⟩)) (.ep cells off)
 |nilptr:Rep g w (.pointer none) .nilptr
 |ptr (b off:Nat):Rep g w (.pointer (some ⟨b,off,none⟩)) (.ptr b off)
 |msl (b off n cap s:Nat) (h:n<=cap) (hb:cap<=big):Rep g w (.slice (some ⟨b,off,none⟩) n cap) (.msl b off n cap s)
 |mslx (a:Addr) (b off s:Nat):Rep g w (.slice (some a) 0 0) (.msl b off 0 0 s)
 |map (b:Nat):Rep g w (.map (some b)) (.map b)
 |nilmap:Rep g w (.map none) .nilmap
 |fn (f:Fn) (fs cs:List Value) (df dc:List D) (hnf:I fs=I df) (hnc:I cs=I dc)
   (hf:∀(i:Nat) (v:Value) (d:D),fs[i]?=some v->df[i]?=some d->Rep g w v d)
   (hc:∀(i:Nat) (v:Value) (d:D),cs[i]?=some v->dc[i]?=some d->Rep g w v d):Rep g w (.func f fs.toArray cs.toArray) (.fn f df dc)
 |nilfn:Rep g w .nilFunc .nilfn
 |iface (t:TypeId) (v:Value) (d:D) (h:Rep g w v d):Rep g w (.iface t v) (.iface t d)
 |niliface:Rep g w .nilIface .niliface
 |stamp (n:Nat):Rep g w (.i n) (.stamp n)
 |undef:Rep g w undef .undef
 |any (v:Value):Rep g w v .any
structure Ext(g:G)(w:World)(g':G)(w':World):Prop where
 size:w.heap.size<=w'.heap.size
 prot:∀b,g.prot b<=g'.prot b
 cell:∀b o,o<g.prot b->w'.cell? ⟨b,o,none⟩=w.cell? ⟨b,o,none⟩
 hdr:∀b x,hdr w b=some x->hdr w' b=some x
 kept:∀b,g.kept b->w'.heap[b]?=w.heap[b]?
 keptProt:∀b,g.kept b->g'.prot b=g.prot b
 keptEq:g'.kept=g.kept
 os:w'.os=w.os
 output:w'.output=w.output
 tape:w'.tape=w.tape
def Ext.refl(g w):Ext g w g w:=⟨ZIO _,λ_=>ZIO _,λ_ _ _=>rfl,λ_ _ h=>h,λ_ _=>rfl,λ_ _=>rfl,rfl,rfl,rfl,rfl⟩
def Ext.trans{g g' u:G}{w w' w'':World}(h:Ext g w g' w')(t:Ext g' w' u w''):Ext g w u w'':={
 size:=Nat.le_trans h.size t.size
 prot b:=Nat.le_trans (h.prot b) (t.prot b)
 cell b o ho:=(t.cell b o (Nat.lt_of_lt_of_le ho (h.prot b))).trans (h.cell b o ho)
 hdr b x hx:=t.hdr b x (h.hdr b x hx)
 kept b hb:=(t.kept b (by rw[h.keptEq];exact hb)).trans (h.kept b hb)
 keptProt b hb:=(t.keptProt b (by rw[h.keptEq];exact hb)).trans (h.keptProt b hb)
 keptEq:=t.keptEq.trans h.keptEq
 os:=t.os.trans h.os
 output:=t.output.trans h.output
 tape:=t.tape.trans h.tape }
def free.mono0{w w' b n}(h:free w b n)(e:∀b x,hdr w b=sO x->hdr w' b=sO x):free w' b n:=by
 obtain⟨t,m,u,h2⟩:=h;exact⟨t,m,e _ _ u,h2⟩
def Rep.mono0{g g' w w' v d}(h:Rep g w v d)(ep:∀b,g.prot b<=g'.prot b)(ec:∀b o,o<g.prot b->w'.cell? ⟨b,o,nO⟩=w.cell? ⟨b,o,nO⟩)(eh:∀b x,hdr w b=sO x->hdr w' b=sO x):Rep g' w' v d:=by
 induction h with
 |int k n h=>exact .int k n h
 |bool b=>exact .bool b
 |str s l h hb=>exact .str s l h hb
 |agg vs cells hn _ one ih=>exact .agg vs cells hn ih one
 |tup vs ds hn _ ih=>exact .tup vs ds hn ih
 |nilsl=>exact .nilsl
 |sl0 a t s row ht=>exact .sl0 a t s row ht
 |sl b o n cap s row t f hl hc hp _ one ht hcap hb ih =>
  refine .sl b o n cap s row t f hl (λi j u hj=>?_) (λi j u hj=>Nat.lt_of_lt_of_le (hp i j u hj) (ep b)) ih one ?_ hcap hb;rw[ec _ _ (hp i j u hj)];exact hc i j u hj;cases t with
  |none=>trivial
  |full=>exact ht
  |tip t=>exact⟨ht.1,ht.2.1,ht.2.2.mono0 eh⟩
 |ep b o off cells f hc hp _ one ih =>exact .ep b o off cells f (λi u=>by rw[ec _ _ (hp i u)];exact hc i u) (λi u=>Nat.lt_of_lt_of_le (hp i u) (ep b)) ih one
 |nilptr=>exact .nilptr
 |ptr b off=>exact .ptr b off
 |msl b off n cap s h hb=>exact .msl b off n cap s h hb
 |mslx a b off s=>exact .mslx a b off s
 |map b=>exact .map b
 |nilmap=>exact .nilmap
 |fn f fs cs df dc hnf hnc _ _ ihf ihc=>exact .fn f fs cs df dc hnf hnc ihf ihc
 |nilfn=>exact .nilfn
 |iface t v d _ ih=>exact .iface t v d ih
 |niliface=>exact .niliface
 |stamp n=>exact .stamp n
 |undef=>exact .undef
 |any v=>exact .any v
def Rep.mono{g t w w' v d}(h:Rep g w v d)(e:Ext g w t w'):Rep t w' v d:=h.mono0 e.prot e.cell e.hdr
inductive E where
 |d (v:D)
 |loc (l off:Nat)
 |when (c:Bool) (e:E)
abbrev Env:=List (Nat×E)
abbrev Loc:=List (Nat×List D)
def ZM:Env->Nat->Option E
 | [],_=>nO
 | (k,e)::r,t=>if k=t then sO e else ZM r t
def Zh:Loc->Nat->Option (List D)
 | [],_=>nO
 | (k,e)::r,t=>if k=t then sO e else Zh r t
def ZL(g:G)(Z:Nat->Nat)(w:World)(L:Loc):Value->E->Prop
 |v,.d x=>Rep g w v x
 |v,.loc l off=>(∃cs,Zh L l=sO cs)/\v=.pointer (sO ⟨Z l,off,nO⟩)
 |v,.when c e=>(c=true->ZL g Z w L v e)/\(c=false->v=undef)
def ZL.mono{g t Z w w' L v e}(h:ZL g Z w L v e)(x:Ext g w t w'):ZL t Z w' L v e:=by
 induction e with
 |d d=>exact Rep.mono h x
 |loc l off=>exact h
 |when c e ih=>exact⟨λu=>ih (h.1 u),h.2⟩
structure Zb8 where
 fn:FuncId
 params:List Nat
 assign:Code
 body:Code
 defers:Nat
 H:Env
 N:Nat
inductive LSt where
 |ready|busy
 |done (j:Code)
inductive QO where
 |cells (ds:List D)
 |map (es:List (D×D))
 |tip (k:Nat)
 |mapE (kp:KP) (es:List (D×D)) (k:D) (n:Nat)
 |loop (r:Zb8) (st:LSt)
 |dfr
abbrev St:=Nat->Option QO
def St.upd(s:St)(b:Nat)(o:QO):St:=λx=>if x=b then sO o else s x
def St.del(s:St)(b:Nat):St:=λx=>if x=b then nO else s x
structure YJ(g:G)(w:World)(b:Nat)(ds:List D):Prop where
 prot:g.prot b=0
 ex:∃(vs:Array Value) (T:TypeId),w.heap[b]?=some (.cells vs T (0,0))/\vs.size=I ds /\
  (∀(i:Nat) (v:Value) (d:D),vs[i]?=some v->ds[i]?=some d->Rep g w v d)/\∀v∈vs,v.one1=true
def WJ(g:G)(w:World)(b:Nat):QO->Prop
  |.cells ds=>YJ g w b ds
  |.map es=>g.prot b=0/\∃(en:Array MapEntry) (clock:Nat),w.heap[b]?=sO (.map en clock)/\en.size=I es /\
      (∀(i:Nat) (e:MapEntry) (d:D×D),en[i]?=sO e->es[i]?=sO d->Rep g w e.key d.1) /\
      (∀(i:Nat) (e:MapEntry) (d:D×D),en[i]?=sO e->es[i]?=sO d->Rep g w e.val d.2) /\
      (∀(i j:Nat) (e e':MapEntry),en[i]?=sO e->en[j]?=sO e'->e.born=e'.born->i=j)/\∀(i:Nat) (e:MapEntry),en[i]?=sO e->e.born<clock
  |.tip k=>g.prot b=k/\∃(vs:Array Value) (T:TypeId),w.heap[b]?=sO (.cells vs T (0,0))/\k<=vs.size
  |.mapE kp es k n=>g.prot b=0/\∃io,Q2 kp k es=sO io/\∃(en:Array MapEntry) (clock:Nat),w.heap[b]?=sO (.map en clock)/\en.size=(match io with
        |none=>I es+1
        |some _=>I es) /\
      (∀(i:Nat) (e:MapEntry) (d:D×D),i≠io.getD (I es)->en[i]?=sO e->es[i]?=sO d->Rep g w e.key d.1) /\
      (∀(i:Nat) (e:MapEntry) (d:D×D),i≠io.getD (I es)->en[i]?=sO e->es[i]?=sO d->Rep g w e.val d.2) /\
      (∀e,en[io.getD (I es)]?=sO e->Rep g w e.key k/\e.born=n) /\
      (∀(i j:Nat) (e e':MapEntry),en[i]?=sO e->en[j]?=sO e'->e.born=e'.born->i=j)/\∀(i:Nat) (e:MapEntry),en[i]?=sO e->e.born<clock
  |.loop r st=>g.prot b=0/\∃l:Go.Loop,w.heap[b]?=sO (.loop l)/\l.fn=r.fn/\l.params.toList=r.params/\l.assign=r.assign/\l.body=r.body/\l.defers=r.defers/\r.N<=l.tmps.size /\
      (∀t e,ZM r.H t=sO e->ZL g (λ_=>0) w [] (l.tmps.getD t undef) e) /\
      (match st with
       |.ready=>l.state=.ready/\l.pending=nO
       |.busy=>l.state=.busy
       |.done j=>l.state=.done/\l.pending=sO j)
  |.dfr=>g.prot b=0/\w.heap[b]?=sO (.deferred (sO []))
class Zs5 where
 tab:Nat->Option (List D)
variable [Zs5]
structure Yf(g:G)(s:St)(w:World):Prop where
 obj:∀b o,s b=some o->WJ g w b o
 kept:∀b o,s b=some o->¬g.kept b
 fresh:∀b,w.heap.size<=b->g.prot b=0/\¬g.kept b
 tabs:∀n cs,Zs5.tab n=some cs->Rep g w (.pointer (some ⟨n,0,none⟩)) (.ep cs 0)
def YJ.lt{g w b ds}(h:YJ g w b ds):b<w.heap.size:=by
 obtain⟨_,_,h,_⟩:=h.ex;grind
def WJ.lt{g w b o}(h:WJ g w b o):b<w.heap.size:=by
 cases o with
 |cells ds=>exact YJ.lt h
 |map es=>obtain⟨_,_,_,h,_⟩:=h;exact(Array.getElem?_eq_some_iff.1 h).1
 |tip k=>obtain⟨_,_,_,h,_⟩:=h;exact(Array.getElem?_eq_some_iff.1 h).1
 |mapE kp es k n=>obtain⟨_,_,_,_,_,h,_⟩:=h;exact(Array.getElem?_eq_some_iff.1 h).1
 |loop r st=>obtain⟨_,_,h,_⟩:=h;exact(Array.getElem?_eq_some_iff.1 h).1
 |dfr=>exact(Array.getElem?_eq_some_iff.1 h.2).1
def YJ.mono{g u w w' b ds}(h:YJ g w b ds)(e:Ext g w u w')(hb:w'.heap[b]?=w.heap[b]?)(hp:u.prot b=g.prot b):
  YJ u w' b ds:=by
 obtain⟨t,vs,T,h1,h2,h4,h5⟩:=h;exact⟨hp.trans t,vs,T,hb.trans h1,h2,λi v d hv hd=>(h4 i v d hv hd).mono e,h5⟩
def WJ.mono{g g' w w' b o}(h:WJ g w b o)(e:Ext g w g' w')(hb:w'.heap[b]?=w.heap[b]?)(hp:g'.prot b=g.prot b):
  WJ g' w' b o:=by
 cases o with
 |cells ds=>exact YJ.mono h e hb hp
 |map es =>obtain⟨ab,en,u,h1,h2,h3,h4,h5,h6⟩:=h;exact⟨hp.trans ab,en,u,hb.trans h1,h2,λi x d hv hd=>(h3 i x d hv hd).mono e,λi x d hv hd=>(h4 i x d hv hd).mono e,h5,h6⟩
 |tip k =>obtain⟨ab,vs,T,h1,h2⟩:=h;exact⟨hp.trans ab,vs,T,hb.trans h1,h2⟩
 |mapE kp es k n =>obtain⟨ab,io,h0,en,u,h1,h2,h3,h4,h5,h6,h7⟩:=h;exact⟨hp.trans ab,io,h0,en,u,hb.trans h1,h2,λi x d hi hv hd=>(h3 i x d hi hv hd).mono e,λi x d hi hv hd=>(h4 i x d hi hv hd).mono e,λx hx=>⟨(h5 x hx).1.mono e,(h5 x hx).2⟩,h6,h7⟩
 |loop r st =>obtain⟨ab,l,h1,h2,h3,h4,h5,h6,h7,h8,h9⟩:=h;exact⟨hp.trans ab,l,hb.trans h1,h2,h3,h4,h5,h6,h7,λt x he=>(h8 t x he).mono e,h9⟩
 |dfr=>exact⟨hp.trans h.1,hb.trans h.2⟩
structure Zu(g:G)(Z:Nat->Nat)(w:World)(tmps:Array Value)(H:Env)(L:Loc)(s:St):Prop where
 st:Yf g s w
 loc:∀l cs,Zh L l=some cs->YJ g w (Z l) cs
 locKept:∀l cs,Zh L l=some cs->¬g.kept (Z l)
 locSt:∀l cs,Zh L l=some cs->s (Z l)=none
 inj:∀l l' cs cs',Zh L l=some cs->Zh L l'=some cs'->Z l=Z l'->l=l'
 env:∀t e,ZM H t=some e->ZL g Z w L (tmps.getD t undef) e
def ZL.locs{g Z Z' w L L' v e}(h:ZL g Z w L v e)(hL:∀l t,Zh L l=sO t->(∃cs',Zh L' l=sO cs')/\Z' l=Z l):ZL g Z' w L' v e:=by
 induction e with
 |d d=>exact h
 |loc l off=>obtain⟨⟨t,u⟩,hv⟩:=h;obtain⟨h1,h2⟩:=hL l t u;exact⟨h1,by grind⟩
 |when c e ih=>exact⟨λu=>ih (h.1 u),h.2⟩
def ZAu{a:Array Value}{t u v}(h:t<a.size):(a.setIfInBounds t v).getD u undef=if t=u then v else a.getD u undef:=by
 simp;grind
def Zu.put{g Z w tmps H L s}(m:Zu g Z w tmps H L s){t v e}(ht:t<tmps.size)(h:ZL g Z w L v e):Zu g Z w (tmps.setIfInBounds t v) ((t,e)::H) L s :=
 { m with
  env:=λu x hx=>by
   rw[ZAu ht];simp[ZM]at hx;by_cases ab:t=u;grind;simp only[ab]at hx⊢;exact m.env u x hx }
structure JW(g:G)(w:World)(g':G)(w':World):Prop where
 size:w.heap.size<=w'.heap.size
 old:∀b,b<w.heap.size->w'.heap[b]?=w.heap[b]?
 prot:∀b,b<w.heap.size->g'.prot b=g.prot b
 fresh:∀b,w'.heap.size<=b->g'.prot b=0
 kept:g'.kept=g.kept
 os:w'.os=w.os
 output:w'.output=w.output
 tape:w'.tape=w.tape
def JA{w w':World}{b o}(h:w'.heap[b]?=w.heap[b]?):w'.cell? ⟨b,o,nO⟩=w.cell? ⟨b,o,nO⟩:=by
 unfold World.cell?;simp[h]
def Zbs{w w' b}(h:w'.heap[b]?=w.heap[b]?):hdr w' b=hdr w b:=by grind [hdr]
def ZDr{w b x}(h:hdr w b=sO x):b<w.heap.size:=by grind [hdr]
def JW.ext{g g':G}{w w':World}(h:JW g w g' w')(u:∀b,w.heap.size<=b->g.prot b=0/\¬g.kept b):Ext g w g' w':={
 size:=h.size
 prot b:=by rcases Nat.lt_or_ge b w.heap.size with hb|hb;rw[h.prot b hb];exact ZIO _;rw[(u b hb).1];exact Nat.zero_le _
 cell b o ho:=by rcases Nat.lt_or_ge b w.heap.size with hb|hb;exact JA (h.old b hb);simp_all
 hdr b x hx:=by rw[Zbs (h.old b (ZDr hx))];exact hx
 kept b hb:=by rcases Nat.lt_or_ge b w.heap.size with t |t;exact h.old b t;exact absurd hb (u b t).2
 keptProt b hb:=by rcases Nat.lt_or_ge b w.heap.size with t |t;exact h.prot b t;exact absurd hb (u b t).2
 keptEq:=h.kept
 os:=h.os
 output:=h.output
 tape:=h.tape }
def Yf.grow{g t:G}{w w':World}{s:St}(m:Yf g s w)(h:JW g w t w'):Yf t s w':={
 obj b o ho:=(m.obj b o ho).mono (h.ext m.fresh) (h.old b (m.obj b o ho).lt) (h.prot b (m.obj b o ho).lt)
 kept b o ho:=by rw[h.kept];exact m.kept b o ho
 fresh b hb:=⟨h.fresh b hb,by rw[h.kept];exact(m.fresh b (Nat.le_trans h.size hb)).2⟩
 tabs n cs hc:=(m.tabs n cs hc).mono (h.ext m.fresh) }
def Zu.grow{g u:G}{w w':World}{H:Env}{L:Loc}{s:St}(m:Zu g Z w tmps H L s)(h:JW g w u w'):
  Zu u Z w' tmps H L s:={
 st:=m.st.grow h
 loc l cs hl:=(m.loc l cs hl).mono (h.ext m.st.fresh) (h.old _ (m.loc l cs hl).lt) (h.prot _ (m.loc l cs hl).lt)
 locKept l cs hl:=by rw[h.kept];exact m.locKept l cs hl
 locSt:=m.locSt
 inj:=m.inj
 env t e he:=(m.env t e he).mono (h.ext m.st.fresh) }
end Go.DL
namespace Go.DL
open Go
variable [Zs5]
variable {kp:Option (List Nat)}{L:Loc}{H:Env}{s:St}{w:World}{ds:List D}{dst:Option Nat}{tmps:Array Value}{g:G}{Z:Nat->Nat}{side:Prop}{row:Nat->List D}
inductive Opd where
 |tmp (t:Nat)
 |cst (d:D)
def Zos:Value->Option D
 |.int k n=>if k.min<=n/\n<=k.max then sO (.int k n) else nO
 |.bool b=>sO (.bool b)
 |.string s=>if (I s.data.toList)<=big then sO (.str s.data.toList) else nO
 |.pointer nO=>sO .nilptr
 |.slice nO 0 0=>sO .nilsl
 |.map nO=>sO .nilmap
 |.nilFunc=>sO .nilfn
 |.nilIface=>sO .niliface
 |_=>nO
def Zbr:List Value->Option (List D)
 | []=>sO []
 |v::vs=>match Zos v,Zbr vs with
  |some d,sO ds=>sO (d::ds)
  |_,_=>nO
def Zot:Value->Option D
 |.agg cs=>(Zbr cs.toList).map .agg
 |v=>Zos v
def ZW:Operand->Option Opd
 |.tmp t=>sO (.tmp t)
 |.const v=>(Zot v).map .cst
 |.func f=>sO (.cst (.fn (.func f) [] []))
 |.global n=>sO (.cst (match Zs5.tab n with
  |some cs=>.ep cs 0
  |none=>.any))
def Zct:List Operand->Option (List Opd)
 | []=>sO []
 |x::xs=>match ZW x,Zct xs with
  |some y,sO ys=>sO (y::ys)
  |_,_=>nO
inductive Zfb where
 |bool|sl|map|fn|ifc|ptr
 |cells (l:List (Nat×SK))
inductive Cv where
 |int (k:IntKind)|str|i2s|b2s
inductive Q where
 |mv|nilck|load1|loadN (n:Nat)
 |bin (op:BinOp) (p:Option Zfb)
 |not|neg|xorm
 |conv (c:Cv)
 |faddr (off:Nat)
 |fld1 (off:Nat)|fldN (off n:Nat)
 |iaddr (s:Nat)|iaddrA (m s:Nat)
 |idxA (m s:Nat) (one:Bool)
 |sliceA (m s:Nat) (lo hi mx:Bool)
 |idxS
 |lenS|lenL|lenA (n:Nat)
 |ext (k:Nat)
 |build (zero:List D) (parts:List (Nat×Nat))
 |mkfn (f:Fn) (first:Nat)
 |mkif (t:TypeId)
 |sliceS (lo hi:Bool)
 |slice (s:Nat) (lo hi mx:Bool)
 |min|max
 |tassert (t:TypeId) (ok:Bool) (zero:D)
 |lookup (kp:KP) (zero:D) (ok:Bool)
 |lenM
def cellsOf:D->List D
 |.agg cs=>cs
 |d=>[d]
def Kb:D->Bool
 |.tup _|.undef|.any=>false
 |_=>true
def QU:D->Bool
 |.tup _|.undef|.agg _|.any=>false
 |_=>true
def QA(kp:KP)(k:D):Bool:=(Kr kp k k).isSome
def ZbD(kp:KP)(k:D):List (D×D)->Option (Option D)
 | []=>sO nO
 |e::r=>match Kr kp k e.1 with
  |some true=>sO (sO e.2)
  |some false=>ZbD kp k r
  |none=>nO
def JL(kp:KP)(k v:D):List (D×D)->Option (List (D×D))
 | []=>sO [(k,v)]
 |e::r=>match Kr kp k e.1 with
  |some true=>sO ((k,v)::r)
  |some false=>(JL kp k v r).map (e::·)
  |none=>nO
def ZgU(kp:KP)(k:D):List (D×D)->Option (List (D×D))
 | []=>sO []
 |e::r=>match Kr kp k e.1 with
  |some true=>sO r
  |some false=>(ZgU kp k r).map (e::·)
  |none=>nO
def Wj(z:D)(ok:Bool):Option D->D
 |some v=>if ok then .tup [v,.bool true] else v
 |none=>if ok then .tup [z,.bool false] else z
def YH:Zfb->D->D->Option (Prop×Bool)
 |.bool,.bool a,.bool b=>sO (True,dC (a=b))
 |.sl,.nilsl,.nilsl=>sO (True,true)
 |.sl,.sl _ n _ _,.nilsl=>sO (0<n,false)
 |.map,.nilmap,.nilmap=>sO (True,true)
 |.map,.map _,.nilmap=>sO (True,false)
 |.sl,.msl _ _ _ _ _,.nilsl=>sO (True,false)
 |.fn,.nilfn,.nilfn=>sO (True,true)
 |.fn,.fn _ _ _,.nilfn=>sO (True,false)
 |.ifc,.niliface,.niliface=>sO (True,true)
 |.ifc,.iface _ _,.niliface=>sO (True,false)
 |.ptr,.nilptr,.nilptr=>sO (True,true)
 |.ptr,.ptr _ _,.nilptr=>sO (True,false)
 |.ptr,.ep _ _,.nilptr=>sO (True,false)
 |.cells l,.agg xs,.agg ys=>(Wo xs ys l).map (True,·)
 |_,_,_=>nO
def Qj(op:BinOp)(k:IntKind)(x y:Int):Int :=
 let a:=BitVec.ofInt k.bits x;let b:=BitVec.ofInt k.bits y;let r:BitVec k.bits:=match op with
  |.and=>a &&& b
  |.or=>a |||b
  |.xor=>a ^^^ b
  |_=>a &&& ~~~b
 k.wrap r.toNat
def J8(k:IntKind)(x y:Int):Int:=x*2 ^ (Nat.min y.toNat k.bits)
def QE(k:IntKind)(x y:Int):Int:=x.fdiv (2 ^ (Nat.min y.toNat k.bits))
def Q1(op:BinOp)(k:IntKind)(a b:Int):Option (Prop×D) :=
 match op with
 |.add=>sO (inR k (a+b),.int k (a+b))
 |.sub=>sO (inR k (a-b),.int k (a-b))
 |.mul=>sO (inR k (a*b),.int k (a*b))
 |.quo=>sO (b≠0/\inR k (a.tdiv b),.int k (a.tdiv b))
 |.rem=>sO (b≠0/\inR k (a.tmod b),.int k (a.tmod b))
 |.and|.or|.xor|.andNot=>sO (True,.int k (Qj op k a b))
 |.eql=>sO (True,.bool (dC (a=b)))
 |.neq=>sO (True,.bool (!dC (a=b)))
 |.lss=>sO (True,.bool (dC (a<b)))
 |.leq=>sO (True,.bool (dC (a<=b)))
 |.gtr=>sO (True,.bool (dC (b<a)))
 |.geq=>sO (True,.bool (dC (b<=a)))
 |.shl|.shr=>nO
def Zei(op:BinOp)(a b:List UInt8):Option (Prop×D) :=
 match op with
 |.add=>sO (I a+I b<=big,.str (a++b))
 |.eql=>sO (True,.bool (dC (a=b)))
 |.neq=>sO (True,.bool (!dC (a=b)))
 |.lss=>sO (True,.bool (Op.bytesLess a b))
 |.leq=>sO (True,.bool (Op.bytesLess a b ||decide (a=b)))
 |.gtr=>sO (True,.bool !(Op.bytesLess a b ||decide (a=b)))
 |.geq=>sO (True,.bool (!Op.bytesLess a b))
 |_=>nO
def eqO(op:BinOp)(p:Option Zfb)(x y:D):Option (Prop×D) :=
 match op,p with
 |.eql,sO p=>(YH p x y).map λr=>(r.1,.bool r.2)
 |.neq,sO p=>(YH p x y).map λr=>(r.1,.bool (!r.2))
 |_,_=>nO
def Zak(op:BinOp)(p:Option Zfb):D->D->Option (Prop×D)
 |.int k a,.int k' b =>
  match op with
  |.shl=>sO (0<=b/\inR k (J8 k a b),.int k (J8 k a b))
  |.shr=>sO (0<=b/\inR k (QE k a b),.int k (QE k a b))
  |_=>if k=k' then Q1 op k a b else nO
 |.str a,.str b=>Zei op a b
 |x,y=>eqO op p x y
def part(cs:List D)(o n:Nat):List D:=(cs.drop o).take n
def Z2(s:St)(b:Nat):Option (List D) :=
 match s b with
 |some (.cells cs)=>sO cs
 |_=>nO
def KY(s:St)(b:Nat):Option (List (D×D)) :=
 match s b with
 |some (.map es)=>sO es
 |_=>nO
def Wn(L:Loc)(s:St):E->Option D
 |.d (.ep cs o)=>cs[o]?
 |.d (.ptr b o)=>match Z2 s b with
  |some cs=>cs[o]?
  |none=>nO
 |.loc l o=>match Zh L l with
  |some cs=>cs[o]?
  |none=>nO
 |_=>nO
def Km(L:Loc)(s:St)(n:Nat):E->Option (Prop×List D)
 |.d (.ep cs o)=>sO (o+n<=I cs,part cs o n)
 |.d (.ptr b o)=>match Z2 s b with
  |some cs=>sO (o+n<=I cs,part cs o n)
  |none=>nO
 |.loc l o=>match Zh L l with
  |some cs=>sO (o+n<=I cs,part cs o n)
  |none=>nO
 |_=>nO
def Zy(cs:List D)(o:Nat)(vs:List D):List D:=cs.take o++vs++cs.drop (o+I vs)
def ZbC(cells:List D):List (Nat×Nat)->List D->Option (List D)
 | [],[]=>sO cells
 | (o,n)::ps,d::ds=>if Kb d=true/\(cellsOf d).length=n/\o+n<=I cells then ZbC (Zy cells o (cellsOf d)) ps ds else nO
 |_,_=>nO
def Zbm:List D->UInt8
 | [.int _ n]=>UInt8.ofNat n.toNat
 |_=>0
def Zki(r:List D):Prop:=∃n:Int,r=[.int .u8 n]
def Ka:List E->Option (List D)
 | []=>sO []
 |.d x::r=>(Ka r).map (x::·)
 |_::_=>nO
def Zbg(t:Tok)(n:Nat)(l h:Int):Option Int->Tok
 |some m=>if m=h then .full else .none
 |none=>if h=n then (match t with
  |.full=>.full
  |.tip b=>if l=0 then .tip b else .none
  |.none=>.none) else .none
def Za1(s:Nat)(lo hi mx:Option Int):D->Option (Prop×D)
 |.sl t n s' row =>
  if s'=s then
   let h:=hi.getD n;let l:=lo.getD 0
   sO (0<=l/\l<=h/\h<=n/\(∀m∈mx,h<=m/\m<=n),
    .sl (Zbg t n l h mx)
     (h-l).toNat s (λi=>row (l.toNat+i)))
  else nO
 |.nilsl=>sO (lo.getD 0=0/\hi.getD 0=0/\mx.getD 0=0,.nilsl)
 |.msl b o n cap s' =>
  if s'=s then
   let h:=hi.getD n;let l:=lo.getD 0;let m:=mx.getD cap
   sO (0<=l/\l<=h/\h<=m/\m<=cap,.msl b (if m=l then o else o+l.toNat*s) (h-l).toNat (m-l).toNat s)
  else nO
 |_=>nO
def WA:List Bool->List E->Option (List (Option Int))
 | [],[]=>sO []
 |true::bs,.d (.int _ n)::r=>(WA bs r).map (sO n::·)
 |false::bs,r=>(WA bs r).map (nO::·)
 |_,_=>nO
def qv(L:Loc)(s:St):Q->List E->Option (Prop×E)
 |.mv,[e]=>sO (True,e)
 |.nilck,[.loc l o]=>sO (True,.loc l o)
 |.nilck,[.d (.ep cs o)]=>sO (True,.d (.ep cs o))
 |.nilck,[.d (.ptr b o)]=>sO (True,.d (.ptr b o))
 |.nilck,[.d (.fn f x y)]=>match f with
  |.func g=>sO (True,.d (.fn (.func g) x y))
  |.yield l=>sO (True,.d (.fn (.yield l) x y))
  |_=>nO
 |.load1,[a]=>(Wn L s a).map λd=>(True,.d d)
 |.loadN n,[a]=>(Km L s n a).map λr=>(r.1,.d (.agg r.2))
 |.bin op p,[.d x,.d y]=>(Zak op p x y).map λr=>(r.1,.d r.2)
 |.not,[.d (.bool b)]=>sO (True,.d (.bool !b))
 |.neg,[.d (.int k n)]=>sO (inR k (-n),.d (.int k (-n)))
 |.xorm,[.d (.int k n)]=>sO (True,.d (.int k (Qj .xor k (if k.signed then -1 else k.max) n)))
 |.conv (.int k),[.d (.int k' n)]=>if k=k' then sO (True,.d (.int k n)) else sO (True,.d (.int k (k.wrap n)))
 |.conv .str,[.d (.str s)]=>sO (True,.d (.str s))
 |.conv .i2s,[.d (.int _ n)]=>sO ((Utf8.encode n).data.toList.length<=big,.d (.str (Utf8.encode n).data.toList))
 |.conv .b2s,[.d .nilsl]=>sO (True,.d (.str []))
 |.conv .b2s,[.d (.sl _ n s row)]=>if s=1 then sO (∀i,i<n->Zki (row i),.d (.str ((ZIM n).map λi=>Zbm (row i)))) else nO
 |.conv .b2s,[.d (.msl b o n _ z)]=>match Z2 s b with
  |some cs=>if z=1 then sO (o+n<=I cs/\∀i,i<n->Zki (part cs (o+i) 1),.d (.str ((ZIM n).map λi=>Zbm (part cs (o+i) 1)))) else nO
  |none=>nO
 |.faddr off,[.d (.ep cs o)]=>sO (True,.d (.ep cs (o+off)))
 |.faddr off,[.d (.ptr b o)]=>sO (True,.d (.ptr b (o+off)))
 |.faddr off,[.loc l o]=>sO (True,.loc l (o+off))
 |.fld1 off,[.d (.agg cs)]=>(cs[off]?).map λd=>(True,.d d)
 |.fldN off n,[.d (.agg cs)]=>sO (off+n<=I cs,.d (.agg (part cs off n)))
 |.iaddr z,[.d (.sl _ n z' row),.d (.int _ i)]=>if z'=z then sO (0<=i/\i<n,.d (.ep (row i.toNat) 0)) else nO
 |.iaddr z,[.d (.msl b o n _ z'),.d (.int _ i)]=>if z'=z then sO (0<=i/\i<n,.d (.ptr b (o+i.toNat*z))) else nO
 |.iaddrA m z,[.d (.ptr b o),.d (.int _ i)]=>sO (0<=i/\i<m,.d (.ptr b (o+i.toNat*z)))
 |.iaddrA m s,[.loc l o,.d (.int _ i)]=>sO (0<=i/\i<m,.loc l (o+i.toNat*s))
 |.iaddrA m s,[.d (.ep cs o),.d (.int _ i)]=>sO (0<=i/\i<m,.d (.ep cs (o+i.toNat*s)))
 |.idxA m z true,[.d (.agg cs),.d (.int _ i)]=>(cs[i.toNat*z]?).map λd=>(0<=i/\i<m,.d d)
 |.idxA m z false,[.d (.agg cs),.d (.int _ i)]=>sO (0<=i/\i<m/\i.toNat*z+z<=I cs,.d (.agg (part cs (i.toNat*z) z)))
 |.sliceA m z lo hi mx,.d (.ptr b o)::r=>match WA [lo,hi,mx] r with
  |some [l,h,x]=>sO (0<=l.getD 0/\l.getD 0<=h.getD m/\h.getD m<=x.getD m/\x.getD m<=m/\m<=big,
    .d (.msl b (if x.getD m=l.getD 0 then o else o+(l.getD 0).toNat*z) (h.getD m-l.getD 0).toNat (x.getD m-l.getD 0).toNat z))
  |_=>nO
 |.idxS,[.d (.str s),.d (.int _ i)]=>sO (0<=i/\i<I s,.d (.int .u8 ((s.getD i.toNat 0).toNat:Int)))
 |.lenS,[.d (.str s)]=>sO (True,.d (.i (I s)))
 |.lenL,[.d (.sl _ n _ _)]=>sO (True,.d (.i n))
 |.lenL,[.d (.msl _ _ n _ _)]=>sO (True,.d (.i n))
 |.lenL,[.d .nilsl]=>sO (True,.d (.i 0))
 |.lenA n,[_]=>sO (inR .i64 n,.d (.i n))
 |.ext k,[.d (.tup vs)]=>(vs[k]?).map λd=>(True,.d d)
 |.build zero parts,es=>match Ka es with
  |some ds=>(ZbC zero parts ds).map λcs=>(True,.d (.agg cs))
  |none=>nO
 |.mkfn f k,es=>(Ka es).map λds=>(True,.d (.fn f (ds.take k) (ds.drop k)))
 |.mkif t,[.d x]=>sO (True,.d (.iface t x))
 |.sliceS lo hi,.d (.str s)::r=>match WA [lo,hi,false] r with
  |some [l,h,_]=>sO (0<=l.getD 0/\l.getD 0<=h.getD (I s)/\h.getD (I s)<=I s,
    .d (.str ((s.drop (l.getD 0).toNat).take ((h.getD (I s)).toNat-(l.getD 0).toNat))))
  |_=>nO
 |.slice s lo hi mx,.d x::r=>match WA [lo,hi,mx] r with
  |some [l,h,m]=>(Za1 s l h m x).map λr=>(r.1,.d r.2)
  |_=>nO
 |.min,[.d (.int k a),.d (.int k' b)]=>if k=k' then sO (True,.d (.int k (Min.min a b))) else nO
 |.max,[.d (.int k a),.d (.int k' b)]=>if k=k' then sO (True,.d (.int k (Max.max a b))) else nO
 |.tassert t true _,[.d (.iface t' v)]=>if t'=t then sO (True,.d (.tup [v,.bool true])) else nO
 |.lookup kp z ok,[.d (.map b),.d k]=>match KY s b with
  |some es=>(ZbD kp k es).map λr=>(QA kp k=true,.d (Wj z ok r))
  |none=>nO
 |.lookup kp z ok,[.d .nilmap,.d k]=>sO (QA kp k=true,.d (Wj z ok nO))
 |.lenM,[.d (.map b)]=>match KY s b with
  |some es=>sO (I es<=big,.d (.i (I es)))
  |none=>nO
 |.lenM,[.d .nilmap]=>sO (True,.d (.i 0))
 |.tassert _ true zero,[.d .niliface]=>sO (True,.d (.tup [zero,.bool false]))
 |.tassert t false _,[.d (.iface t' v)]=>if t'=t then sO (True,.d v) else nO
 |_,_=>nO
inductive K where
 |q (q:Q) (args:List Opd)
 |pick (c a b:Opd)
 |alloc (zero:List D)
 |box (x:Opd)
 |bsl (len s:Nat) (zero:List D) (idx:List Nat) (parts:List Opd)
 |s2b (x:Opd)
 |store1 (a v:Opd)
 |storeN (n:Nat) (a v:Opd)
 |call (f:Opd) (args:List Opd)
 |append (elem:TypeId) (s bytes:Nat) (zero:List D) (x y:Opd)
 |mkmap
 |mapupd (kp:KP) (m k v:Opd)
 |mapent (kp:KP) (zero:D) (m k:Opd)
 |entst (m st v:Opd)
 |mkslice (elem:TypeId) (s bytes:Nat) (zero:List D) (l c:Opd)
 |panic (x:Opd)
 |delete (kp:KP) (m k:Opd)
 |clear (s:Nat) (zero:List D) (x:Opd)
 |copy (s:Nat) (x y:Opd)
 |fork (k:K)
 |defer (f:Opd) (args:List Opd)
 |recover
def K.isDefer:K->Bool
 |.defer _ _=>true
 |_=>false
structure DOp where
 dst:Option Nat
 guard:Option (Nat×Bool)
 k:K
inductive DC where
 |skip
 |reg (ops:List DOp) (keep:Option (List Nat))
 |regD (order:List Nat) (ops:List (DOp×List Nat)) (keep:Option (List Nat))
 |seq (a b:DC)
 |cond (c:Opd) (a b:DC)
 |block (id:Nat) (a:DC)
 |loop (a:DC)
 |rangeF (f:Opd) (params:List Nat) (assign body:DC)
 |exit (id:Nat)
 |ret
 |scope (a:DC)
 |label (id:Nat)
 |goto (id:Nat)
def Qg(P:Program)(t:TypeId):Option SK :=
 match P.underlying t with
 |some .bool=>sO .bool
 |some (.int _)=>sO .int
 |some .string=>sO .str
 |_=>nO
def Kx(P:Program):List Field->Option (List (Nat×SK))
 | []=>sO []
 |f::r=>if f.name = "_" then Kx P r else
  match Qg P f.type,Kx P r with
  |some k,sO l=>sO ((f.offset,k)::l)
  |_,_=>nO
def JX(P:Program)(t:TypeId):Option Bool :=
 match P.underlying t with
 |some (.struct _)|some (.array _ _)=>sO true
 |some _=>sO false
 |none=>nO
def ZS(P:Program)(t:TypeId):Option Nat:=(P.info? t).map (·.size)
def Ze0:Operand->Bool
 |.const _=>true
 |_=>false
def Zd2(P:Program)(t:TypeId)(x y:Operand):Option Zfb :=
 match P.underlying t with
 |some .bool=>sO .bool
 |some (.slice _)=>sO .sl
 |some (.map _ _)=>sO .map
 |some (.func _ _ _)=>sO .fn
 |some (.interface _)=>if Ze0 x ||Ze0 y then sO .ifc else nO
 |some (.pointer _)=>sO .ptr
 |some (.struct fs)=>if P.eqGuardType P.depth t ||P.stoodInHeld t then nO else (Kx P fs.toList).map .cells
 |some (.array n e) =>
  if P.eqGuardType P.depth t then nO
  else match Qg P e,ZS P e with
   |some k,sO 1=>sO (.cells ((ZIM n).map (·,k)))
   |_,_=>nO
 |_=>nO
def ZhC(P:Program)(s:TypeId)(k:Nat):Option Field :=
 match P.underlying s with
 |some (.struct fs)=>fs[k]?
 |_=>nO
def Zab(P:Program)(t:TypeId):Option (List D) :=
 match P.info? t with
 |some i=>match i.zero with
  |some z=>Zbr z.cells.toList
  |none=>nO
 |none=>nO
def ZdQ(P:Program)(t:TypeId):Option D :=
 match P.info? t with
 |some i=>match i.zero with
  |some z=>Zot z
  |none=>nO
 |none=>nO
def Qe(P:Program)(t:TypeId):List Nat->Option (List (Nat×Nat))
 | []=>sO []
 |k::r =>
  match P.underlying t,Qe P t r with
  |some (.struct fs),sO l=>match fs[k]? with
   |some f=>(ZS P f.type).map λn=>(f.offset,n)::l
   |none=>nO
  |some (.array _ e),sO l=>(ZS P e).map λn=>(k*n,n)::l
  |_,_=>nO
def Zlc(P:Program)(t:TypeId):Bool :=
 match P.underlying t with
 |some (.struct fs)=>fs.toList.all λf=>(ZS P f.type).isSome
 |some (.array _ e)=>(ZS P e).isSome
 |_=>false
def ZwL(P:Program)(s d:TypeId):Option Cv :=
 match P.underlying s,P.underlying d with
 |some (.int _),sO (.int k)=>sO (.int k)
 |some (.int _),sO .string=>sO .i2s
 |some .string,sO .string=>sO .str
 |some (.slice e),sO .string=>match P.underlying e with
  |some (.int .u8)=>sO .b2s
  |_=>nO
 |_,_=>nO
def J5(P:Program)(t:TypeId):Option KP :=
 match Qg P t with
 |some k=>sO (.sc k)
 |none=>match P.underlying t,ZS P t with
  |some (.struct fs),sO n=>match Kx P fs.toList with
   |some l=>if l.map (·.1)=ZIM n/\P.stoodInHeld t=false then sO (.st l) else nO
   |none=>nO
  |_,_=>nO
def QV(x:Option Operand):List Operand:=x.toList
def cq(P:Program):Op->Option (Q×List Operand)
 |.move x|.assign x=>sO (.mv,[x])
 |.load t a=>match JX P t,ZS P t with
  |some true,sO n=>sO (.loadN n,[a])
  |some false,sO _=>sO (.load1,[a])
  |_,_=>nO
 |.nilCheck x=>sO (.nilck,[x])
 |.binOp op t x y _=>sO (.bin op (Zd2 P t x y),[x,y])
 |.unOp .not _ x=>sO (.not,[x])
 |.unOp .neg _ x=>sO (.neg,[x])
 |.unOp .xor _ x=>sO (.xorm,[x])
 |.convert s d x=>(ZwL P s d).map λc=>(.conv c,[x])
 |.fieldAddr s x k=>match ZhC P s k with
  |some f=>match ZS P f.type with
   |some n=>if n=0 then nO else sO (.faddr f.offset,[x])
   |none=>nO
  |none=>nO
 |.field s x k=>match ZhC P s k with
  |some f=>match JX P f.type,ZS P f.type with
   |some true,sO n=>sO (.fldN f.offset n,[x])
   |some false,sO _=>sO (.fld1 f.offset,[x])
   |_,_=>nO
  |none=>nO
 |.indexAddr t x i=>match P.underlying t with
  |some (.slice e)=>(ZS P e).map λn=>(.iaddr n,[x,i])
  |some (.array m e)=>(ZS P e).map λn=>(.iaddrA m n,[x,i])
  |_=>nO
 |.index t x i=>match P.underlying t with
  |some .string=>sO (.idxS,[x,i])
  |some (.array m e)=>match JX P e,ZS P e with
   |some b,sO n=>sO (.idxA m n !b,[x,i])
   |_,_=>nO
  |_=>nO
 |.extract x k=>sO (.ext k,[x])
 |.build t parts=>match (P.info? t).bind (·.zero),Qe P t (parts.toList.map (·.1)) with
  |some z,sO l=>if Zlc P t then (Zbr z.cells.toList).map λzs=>(.build zs l,parts.toList.map (·.2)) else nO
  |_,_=>nO
 |.makeFunc f first caps=>sO (.mkfn f first.size,first.toList++caps.toList)
 |.makeInterface t x=>match P.underlying t with
  |some (.interface _)=>nO
  |some _=>sO (.mkif t,[x])
  |none=>nO
 |.slice t x lo hi mx=>match P.underlying t with
  |some .string=>if mx.isSome then nO else sO (.sliceS lo.isSome hi.isSome,x::(QV lo++QV hi))
  |some (.slice e)=>if mx.isSome&&!hi.isSome then nO else (ZS P e).map λn=>(.slice n lo.isSome hi.isSome mx.isSome,x::(QV lo++QV hi++QV mx))
  |some (.array m e)=>if mx.isSome&&!hi.isSome then nO else (ZS P e).map λn=>(.sliceA m n lo.isSome hi.isSome mx.isSome,x::(QV lo++QV hi++QV mx))
  |_=>nO
 |.typeAssert x _ t ok=>match P.underlying t with
  |some (.interface _)=>nO
  |some _=>(ZdQ P t).map λz=>(.tassert t ok z,[x])
  |none=>nO
 |.lookup t m k ok=>match P.underlying t with
  |some (.map kt e)=>match J5 P kt,ZdQ P e with
   |some kp,sO z=>sO (.lookup kp z ok,[m,k])
   |_,_=>nO
  |_=>nO
 |.call c=>match c.callee with
  |.builtin .len=>match c.argTypes[0]?.bind P.underlying with
   |some .string=>if c.args.size=1 then sO (.lenS,c.args.toList) else nO
   |some (.slice _)=>if c.args.size=1 then sO (.lenL,c.args.toList) else nO
   |some (.array n _)=>if c.args.size=1 then sO (.lenA n,c.args.toList) else nO
   |some (.map _ _)=>if c.args.size=1 then sO (.lenM,c.args.toList) else nO
   |_=>nO
  |.builtin .min=>if c.args.size=2 then sO (.min,c.args.toList) else nO
  |.builtin .max=>if c.args.size=2 then sO (.max,c.args.toList) else nO
  |_=>nO
 |_=>nO
inductive ZI{α β:Type}(R:α->β->Prop):List α->List β->Prop where
 |nil:ZI R [] []
 |cons {a b as9 bs} (h:R a b) (t:ZI R as9 bs):ZI R (a::as9) (b::bs)
def Zh6{k n}:inR k (k.wrap n):=by
 unfold inR IntKind.wrap IntKind.min IntKind.max;cases k<;>simp[IntKind.signed,IntKind.bits]<;>(try split)<;>omega
def Zai(k n)(h:inR k n):k.wrap n=n:=by
 unfold inR IntKind.min IntKind.max at h;unfold IntKind.wrap;cases k<;>simp[IntKind.signed,IntKind.bits]at h⊢<;>(try split)<;>omega
def Kf(b o n):(⟨b,o,nO⟩:Addr).add n=⟨b,o+n,nO⟩:=by grind [Addr.add]
def Zgc{P t}(h:JX P t=sO true)(w):(isAgg t).run P w=.ok true w:=by
 unfold JX at h;unfold isAgg;split at h<;>simp_all[run_underlying]
def ZeB{P t}(h:JX P t=sO false)(w):(isAgg t).run P w=.ok false w:=by
 unfold JX at h;unfold isAgg;split at h;simp at h;simp at h;rename_i d h1 h2 u;simp only[Sem.run_bind,run_underlying u,Result.andThen_ok];simp_all;simp at h
def YI{P t n}(h:ZS P t=sO n)(w):(sizeOf t).run P w=.ok n w:=by
 unfold ZS at h;cases u:P.info? t with
 |none=>simp[u]at h
 |some i =>simp_all[u,sizeOf,typeInfo]
def Qv{g w s}(t:Yf g s w){b cs}(h:Z2 s b=sO cs):YJ g w b cs:=by
 unfold Z2 at h;split at h<;>simp at h;rename_i c u;subst h;exact t.obj b _ u
def Zok{g Z w L}(hL:∀l cs,Zh L l=sO cs->YJ g w (Z l) cs){s}(hS:Yf g s w){v e d}(h:ZL g Z w L v e)(hc:Wn L s e=sO d):∃b o x,v=.pointer (sO ⟨b,o,nO⟩)/\w.cell? ⟨b,o,nO⟩=sO x/\Rep g w x d/\x.one1=true:=by
 cases e with
 |d v' =>
  cases v'<;>simp only[Wn]at hc<;>try(simp at hc;done)
  .rename_i cs o;cases h with
   |ep b o0 _ _ f h1 h2 h3 one =>have u:o<I cs:=(List.getElem?_eq_some_iff.1 hc).1;exact⟨b,o0+o,f o,rfl,h1 o u,h3 o d hc,one o u⟩
  rename_i b o;split at hc<;>(try(simp at hc;done));rename_i cs t;obtain⟨_,vs,T,h1,h2,h4,h5⟩:=Qv hS t;cases h;have u:o<I cs:=(List.getElem?_eq_some_iff.1 hc).1;have hv:vs[o]?=sO (vs[o]' ω):=Array.getElem?_eq_getElem ω;refine⟨b,o,vs[o]' ω,rfl,?_,h4 o _ d hv hc,h5 _ (Array.getElem_mem _)⟩;simp[World.cell?,h1,hv]
 |loc l o =>obtain⟨⟨cs,t⟩,rfl⟩:=h;simp only[Wn,t]at hc;obtain⟨_,vs,T,h1,h2,h4,h5⟩:=hL l cs t;have u:o<I cs:=(List.getElem?_eq_some_iff.1 hc).1;have hv:vs[o]?=sO (vs[o]' ω):=Array.getElem?_eq_getElem ω;refine⟨Z l,o,vs[o]' ω,rfl,?_,h4 o _ d hv hc,h5 _ (Array.getElem_mem _)⟩;simp[World.cell?,h1,hv]
 |when c e=>simp[Wn]at hc
def ZfF{P g w b o n cs}(h:YJ g w b cs)(hs:o+n<=I cs):
  ∃vs:List Value,(loadCells ⟨b,o,nO⟩ n).run P w=.ok vs.toArray w/\Rep g w (.agg vs.toArray) (.agg (part cs o n)):=by
 obtain⟨_,vs,T,h1,h2,h4,h5⟩:=h;refine⟨(vs.toList.drop o).take n,?_,?_⟩;have:=run_loadCells (P:=P) (w:=w) ⟨b,o,nO⟩ n (λi=>vs.getD (o+i) undef) (λj hj=>by
  rw[Kf];simp[World.cell?,h1];have u:o+j<vs.size:=ω;simp[u])
 rw[this];congr 1;apply Array.ext_getElem?;intro i;simp[List.getElem?_toArray,ZJf,Array.getElem?_toList];by_cases t:i<n;have:o+i<vs.size:=ω;simp[t,this];simp[t];refine .agg _ _ (by simp[part];omega) (λi v d hv hd=>?_) (λv hv=>?_);have hi:i<n:=by rcases Nat.lt_or_ge i n with h|h;exact h;grind
 simp[hi,part]at hv hd;exact h4 _ _ _ hv hd;exact h5 v (by
  have:=List.mem_of_mem_drop (List.mem_of_mem_take hv);exact Array.mem_toList_iff.1 this)
def Zo8{P g Z w L}(hL:∀l cs,Zh L l=sO cs->YJ g w (Z l) cs){s}(hS:Yf g s w){v e n side ds}(h:ZL g Z w L v e)(u:Km L s n e=sO (side,ds))(hs:side):
  ∃a,v=.pointer (sO a)/\∃vs:List Value,(loadCells a n).run P w=.ok vs.toArray w/\Rep g w (.agg vs.toArray) (.agg ds):=by
 cases e with
 |d v' =>
  cases v'<;>simp only[Km]at u<;>try(grind;done)
  .rename_i cs o;cases u;cases h with
   |ep b o0 _ _ f h1 h2 h3 one =>
    refine⟨_,rfl,(ZIM n).map (λi=>f (o+i)),?_,?_⟩;have:=run_loadCells (P:=P) (w:=w) ⟨b,o0+o,nO⟩ n (λi=>f (o+i)) (λj hj=>by
     rw[Kf,Nat.add_assoc];exact h1 _ ω)
    rw[this];refine .agg _ _ (by simp[part];omega) (λi v d hv hd=>?_) (λv hv=>?_);simp at hv;have hi:i<n:=by rcases Nat.lt_or_ge i n with h|h;exact h;simp_all
    simp[List.getElem?_range hi]at hv;subst hv;refine h3 _ _ ?_;simpa[part,ZJf,hi]using hd;simp at hv;obtain⟨i,hi,rfl⟩:=hv;exact one _ ω
  rename_i b o;split at u<;>(try(grind;done));rename_i cs t;cases u;cases h;obtain⟨vs,h1,h2⟩:=ZfF (P:=P) (Qv hS t) hs;exact⟨_,rfl,vs,h1,h2⟩
 |loc l o =>obtain⟨⟨cs,t⟩,rfl⟩:=h;simp only[Km,t]at u;obtain⟨rfl,rfl⟩:=u;obtain⟨vs,h1,h2⟩:=ZfF (P:=P) (hL l cs t) hs;exact⟨_,rfl,vs,h1,h2⟩
 |when c e=>cases u
def KW{n}(h:n<=big):inR .i64 (n:Int):=by
 unfold big at h;unfold inR IntKind.min IntKind.max;simp[IntKind.signed,IntKind.bits];omega
def Zt1(b:UInt8):inR .u8 (b.toNat:Int):=by
 unfold inR IntKind.min IntKind.max;simp[IntKind.signed,IntKind.bits];have:=b.toNat_lt;omega
def ZBQ{P g w op k a b side d}(u:Q1 op k a b=sO (side,d))(t:side):
  ∃v,(match op with
   |.add|.sub|.mul=>Op.intArith op k a b
   |.quo|.rem=>Op.intDiv op k a b
   |.and|.or|.xor|.andNot=>Op.intBits op k a b
   |_=>Op.intCmp op a b).run P w=.ok v w/\Rep g w v d:=by
 cases op<;>simp only[Q1,ZIx,ZIK,reduceCtorEq]at u;all_goals obtain⟨rfl,rfl⟩:=u
 case add=>exact⟨_,by simp only[Op.intArith,Sem.run_pure];rfl,by rw[Zai _ _ t];exact .int _ _ t⟩
 case sub=>exact⟨_,by simp only[Op.intArith,Sem.run_pure];rfl,by rw[Zai _ _ t];exact .int _ _ t⟩
 case mul=>exact⟨_,by simp only[Op.intArith,Sem.run_pure];rfl,by rw[Zai _ _ t];exact .int _ _ t⟩
 case quo=>exact⟨_,by simp only[Op.intDiv,t.1,if_false,Sem.run_pure];rfl,by rw[Zai _ _ t.2];exact .int _ _ t.2⟩
 case rem=>exact⟨_,by simp only[Op.intDiv,t.1,if_false,Sem.run_pure],.int _ _ t.2⟩
 case eql=>exact⟨_,by simp only[Op.intCmp,Sem.run_pure];rfl,.bool _⟩
 case neq=>exact⟨_,by simp only[Op.intCmp,Sem.run_pure];rfl,.bool _⟩
 case lss=>exact⟨_,by simp only[Op.intCmp,Sem.run_pure],.bool _⟩
 case leq=>exact⟨_,by simp only[Op.intCmp,Sem.run_pure],.bool _⟩
 case gtr=>exact⟨_,by simp only[Op.intCmp,Sem.run_pure],.bool _⟩
 case geq=>exact⟨_,by simp only[Op.intCmp,Sem.run_pure],.bool _⟩
 all_goals exact⟨_,by simp only[Op.intBits,Sem.run_pure];rfl,.int _ _ Zh6⟩
def Zdu{s:ByteArray}{l}(h:s.data.toList=l):s.toList=l:=by rw[ByteArray.toList_eq,h]
def ZBR{P g w op s1 s2 a b}(h1:s1.data.toList=a)(h2:s2.data.toList=b){side d}(hq:Zei op a b=sO (side,d))(hs:side):
  ∃v,(Op.stringOp op s1 s2).run P w=.ok v w/\Rep g w v d:=by
 have e1:=Zdu h1;have e2:=Zdu h2;cases op<;>simp only[Zei,ZIx,ZIK,reduceCtorEq]at hq;all_goals obtain⟨rfl,rfl⟩:=hq
 case add =>
  have t:s1.size=I a:=by rw[<-h1];rfl
  have u:s2.size=I b:=by rw[<-h2];rfl
  refine⟨.string (s1++s2),?_,.str _ _ ?_ (by simpa using hs)⟩;unfold big at hs;simp only[Op.stringOp,t,u,Sem.run_ite];rw[if_neg (by simp[IntKind.max,IntKind.signed,IntKind.bits];omega)];rfl;simp[<-h1,<-h2]
 all_goals simp only[Op.stringOp,Sem.run_pure,e1,e2]
 all_goals have hb:(a==b)=dC (a=b):=by rw[Bool.eq_iff_iff];simp
 all_goals try simp only[hb]
 all_goals exact⟨_,rfl,.bool _⟩
def Zhf{P g w t sk}(ht:Qg P t=sO sk){v1 v2 x y}(h1:Rep g w v1 x)(h2:Rep g w v2 y){b}(hq:Yj sk x y=sO b)(n):(Op.equalIn (n+1) t v1 v2).run P w=.ok b w:=by
 unfold Qg at ht;cases sk;obtain⟨k0,u⟩:∃k0,P.underlying t=sO (.int k0):=by split at ht<;>simp_all
 cases h1<;>cases h2<;>simp only[Yj,reduceCtorEq]at hq;split at hq;rename_i k a ha k' b' hb' hk;simp only[ZIx]at hq;subst hq;subst hk;rw[run_equalIn_int w n t _ _ _ _ u];rfl;simp at hq;have u:P.underlying t=sO .string:=by split at ht<;>simp_all
 cases h1<;>cases h2<;>simp only[Yj,reduceCtorEq,ZIx]at hq;rename_i s1 l1 e1 _ s2 l2 e2 _;subst hq;rw[run_equalIn_string w n t _ _ u,Zdu e1,Zdu e2]
 congr 1;rw[Bool.eq_iff_iff];simp
 have u:P.underlying t=sO .bool:=by split at ht<;>simp_all
 cases h1<;>cases h2<;>simp only[Yj,reduceCtorEq,ZIx]at hq;subst hq;rw[run_equalIn_bool' w n t _ _ u];rfl
def Zbz{P t k}(h:Qg P t=sO k):JX P t=sO false:=by
 unfold Qg at h;unfold JX;split at h<;>simp_all
def Zdp{P w t}(h:JX P t=sO false){cs o v}(u:cs[o]?=sO v):
  (Go.part t cs o).run P w=.ok v w:=by
 simp[Go.part,ZeB h,u]
def Zb0{g w}{vs:List Value}(hn:I vs=I ds)(h:∀(i:Nat) (v:Value) (d:D),vs[i]?=sO v->ds[i]?=sO d->Rep g w v d){o:Nat}{d}(t:ds[o]?=sO d):∃v,vs[o]?=sO v/\Rep g w v d:=by
 have hlt:o<I ds:=(List.getElem?_eq_some_iff.1 t).1;exact⟨vs[o]' ω,ZI4 _,h o _ d (ZI4 _) t⟩
def ZdC{P g w}{v1 v2:List Value}{xs ys}(hn1:I v1=I xs)(hn2:I v2=I ys)
  (h1:∀(i:Nat) (v:Value) (d:D),v1[i]?=sO v->xs[i]?=sO d->Rep g w v d) (h2:∀(i:Nat) (v:Value) (d:D),v2[i]?=sO v->ys[i]?=sO d->Rep g w v d) (n) :
  ∀(fs l b),Kx P fs=sO l->Wo xs ys l=sO b ->
   (Op.eqFields (n+1) v1.toArray v2.toArray fs).run P w=.ok b w
 | [],l,b,hl,hb=>by simp only[Kx,ZIx]at hl;subst hl;simp only[Wo,ZIx]at hb;subst hb;simp[Op.eqFields]
 |f::fs,l,b,hl,hb=>by simp only[Kx]at hl;by_cases hf:f.name = "_";simp only[hf,if_true]at hl;have:=ZdC hn1 hn2 h1 h2 n fs l b hl hb;simp only[Op.eqFields,hf,ne_eq,not_true_eq_false,if_false];exact this;simp only[hf,if_false]at hl;split at hl;rename_i k l' hk ab;simp only[ZIx]at hl;subst hl;simp only[Wo]at hb;split at hb;rename_i x y hx hy;split at hb;rename_i b1 b2 t u;simp only[ZIx]at hb;obtain⟨u1,ac,r1⟩:=Zb0 hn1 h1 hx;obtain⟨u2,ad,r2⟩:=Zb0 hn2 h2 hy;have ih:=ZdC hn1 hn2 h1 h2 n fs l' b2 ab u;have he:=Zhf (P:=P) hk r1 r2 t n;simp only[Op.eqFields,ne_eq,hf,not_false_eq_true,if_true,Sem.run_bind];rw[Zdp (Zbz hk) (v:=u1) (by simpa using ac)];simp only[Result.andThen_ok];rw[Zdp (Zbz hk) (v:=u2) (by simpa using ad)];simp only[Result.andThen_ok,he];subst hb;cases b1;simp;simpa using ih;simp at hb;simp at hb;simp at hl
def ZoB{P g w}{v1 v2:List Value}{xs ys}(hn1:I v1=I xs)(hn2:I v2=I ys)
  (h1:∀(i:Nat) (v:Value) (d:D),v1[i]?=sO v->xs[i]?=sO d->Rep g w v d) (h2:∀(i:Nat) (v:Value) (d:D),v2[i]?=sO v->ys[i]?=sO d->Rep g w v d) (n)
  {e k} (hk:Qg P e=sO k) :
  ∀(is b),Wo xs ys (is.map (·,k))=sO b->(Op.eqItems (n+1) e 1 v1.toArray v2.toArray is).run P w=.ok b w
 | [],b,hb=>by simp only[ZI9,Wo,ZIx]at hb;subst hb;simp[Op.eqItems]
 |i::is,b,hb=>by simp only[ZIQ,Wo]at hb;split at hb;rename_i x y hx hy;split at hb;rename_i b1 b2 t u;simp only[ZIx]at hb;obtain⟨u1,ab,r1⟩:=Zb0 hn1 h1 hx;obtain⟨u2,ac,r2⟩:=Zb0 hn2 h2 hy;have ih:=ZoB hn1 hn2 h1 h2 n hk is b2 u;have he:=Zhf (P:=P) hk r1 r2 t n;simp only[Op.eqItems,Nat.mul_one,Sem.run_bind];rw[Zdp (Zbz hk) (v:=u1) (by simpa using ab)];simp only[Result.andThen_ok];rw[Zdp (Zbz hk) (v:=u2) (by simpa using ac)];simp only[Result.andThen_ok,he];subst hb;cases b1;simp;simpa using ih;simp at hb;simp at hb
def ZbQ{P w t u v2 b}(h:∀n,(Op.equalIn (n+1) t u v2).run P w=.ok b w):(Op.equal t u v2).run P w=.ok b w:=h 9999
def ZrL{P g w t x y p}(hp:Zd2 P t x y=sO p){v1 v2 d1 d2}(h1:Rep g w v1 d1)(h2:Rep g w v2 d2){side b}(hq:YH p d1 d2=sO (side,b))(hs:side):
  (Op.equal t v1 v2).run P w=.ok b w/\(eqGuard .eql t x y v1 v2).run P w=.ok () w/\(eqGuard .neq t x y v1 v2).run P w=.ok () w:=by
 unfold Zd2 at hp;split at hp<;>(try(simp at hp;done))
 .
  rename_i hu;simp only[ZIx]at hp;subst hp;cases h1<;>cases h2<;>simp only[YH,reduceCtorEq,ZIx,ZIK]at hq;obtain⟨rfl,rfl⟩:=hq;exact⟨ZbQ λn=>by rw[run_equalIn_bool w _ t _ _ hu];rfl,rfl,rfl⟩
 .rename_i e hu;simp only[ZIx]at hp;subst hp;cases h1<;>cases h2<;>simp only[YH,reduceCtorEq,ZIx,ZIK]at hq;all_goals obtain⟨rfl,rfl⟩:=hq
  all_goals first
   |exact absurd hs ω
   |exact⟨ZbQ λn=>by simp[Op.equalIn,run_underlying hu],rfl,rfl⟩
 .rename_i k e hu;simp only[ZIx]at hp;subst hp;cases h1<;>cases h2<;>simp only[YH,reduceCtorEq,ZIx,ZIK]at hq;all_goals obtain⟨rfl,rfl⟩:=hq
  all_goals exact⟨ZbQ λn=>by simp[Op.equalIn,run_underlying hu],rfl,rfl⟩
 .rename_i a b c hu;simp only[ZIx]at hp;subst hp;cases h1<;>cases h2<;>simp only[YH,reduceCtorEq,ZIx,ZIK]at hq;all_goals obtain⟨rfl,rfl⟩:=hq
  all_goals exact⟨ZbQ λn=>by simp[Op.equalIn,run_underlying hu],rfl,rfl⟩
 .rename_i ms hu;split at hp
  .rename_i hc;simp only[ZIx]at hp;subst hp;have ag:Ze0 x=true\/Ze0 y=true:=by simpa using hc
   have hg:∀op,(eqGuard op t x y .nilIface .nilIface).run P w=.ok () w:=λop=>by rcases ag with h|h;cases x<;>simp[Ze0]at h;cases op<;>simp[eqGuard];cases y<;>simp[Ze0]at h;cases op<;>simp[eqGuard]
   cases h1<;>cases h2<;>simp only[YH,reduceCtorEq,ZIx,ZIK]at hq;all_goals obtain⟨rfl,rfl⟩:=hq
   all_goals first
    |exact⟨ZbQ λn=>by simp[Op.equalIn,run_underlying hu],rfl,rfl⟩
    |exact⟨ZbQ λn=>by simp[Op.equalIn,run_underlying hu],hg _,hg _⟩
  simp at hp
 .rename_i e hu;simp only[ZIx]at hp;subst hp;cases h1<;>cases h2<;>simp only[YH,reduceCtorEq,ZIx,ZIK]at hq;all_goals obtain⟨rfl,rfl⟩:=hq
  all_goals exact⟨ZbQ λn=>by simp[Op.equalIn,run_underlying hu],rfl,rfl⟩
 rename_i fs hu;split at hp;simp at hp;rename_i ab;have u:P.eqGuardType P.depth t=false:=by simp at ab;exact ab.1
 have ai:P.stoodInHeld t=false:=by simp at ab;exact ab.2
 simp only[ZIL]at hp;obtain⟨l,hl,rfl⟩:=hp;cases h1<;>cases h2<;>simp only[YH,reduceCtorEq,ZIL]at hq;rename_i v1 xs ae r1 o1 v2 ys af r2 o2;obtain⟨b',hb,hq⟩:=hq;simp only[ZIK]at hq;obtain⟨rfl,rfl⟩:=hq;have hf:P.underlying t=sO (.struct (P.fieldsOf t)):=by simp[Program.fieldsOf,hu]
 refine⟨?_,run_eqGuard_agg w _ t x y _ _ u,run_eqGuard_agg w _ t x y _ _ u⟩;refine(run_equalIn_struct w 9999 t _ _ hf ai).trans ?_;simp only[Program.fieldsOf,hu];exact ZdC ae af r1 r2 9998 _ l b' hl hb;rename_i n e hu;split at hp;simp at hp;rename_i u;split at hp
 .rename_i k hk ac;simp only[ZIx]at hp;subst hp;cases h1<;>cases h2<;>simp only[YH,reduceCtorEq,ZIL]at hq;rename_i v1 xs ae r1 o1 v2 ys af r2 o2;obtain⟨b',hb,hq⟩:=hq;simp only[ZIK]at hq;obtain⟨rfl,rfl⟩:=hq;have ad:P.eqGuardType P.depth t=false:=by simpa using u
  refine⟨?_,run_eqGuard_agg w _ t x y _ _ ad,run_eqGuard_agg w _ t x y _ _ ad⟩;unfold ZS at ac;cases hi:P.info? e with
  |none=>simp[hi]at ac
  |some i =>
   simp only[hi,ZI3,ZIx]at ac;refine(run_equalIn_array w 9999 _ _ hu hi).trans ?_;have ah:P.cellsOf e=1:=by simp[Program.cellsOf,hi,ac]
   rw[ah];exact ZoB ae af r1 r2 9998 hk _ _ hb
 simp at hp
def ZBP{P g w op t x y v1 v2 d1 d2 d}(h1:Rep g w v1 d1)(h2:Rep g w v2 d2){side}(hq:Zak op (Zd2 P t x y) d1 d2=sO (side,d))(hs:side):
  ∃v,(do eqGuard op t x y v1 v2;binOp op t v1 v2).run P w=.ok v w/\Rep g w v d:=by
 by_cases hi:∃k a,d1=.int k a
 .obtain⟨k,a,rfl⟩:=hi;cases h1;rename_i ha;have hg:(eqGuard op t x y (.int k a) v2).run P w=.ok () w:=by cases op<;>rfl
  by_cases ae:∃k' b,d2=.int k' b
  .obtain⟨k',b,rfl⟩:=ae;cases h2;rename_i hb;simp only[Sem.run_bind,hg,Result.andThen_ok];by_cases ad:op=.shl\/op=.shr;rcases ad with rfl|rfl;simp only[Zak,ZIx,ZIK]at hq;obtain⟨rfl,rfl⟩:=hq;refine⟨.int k (J8 k a b),?_,.int _ _ hs.2⟩;simp only[binOp,Op.shift,Int.not_lt.2 hs.1,if_false];rw[show k.wrap (a*2 ^ min b.toNat k.bits)=J8 k a b from Zai _ _ hs.2];rfl;simp only[Zak,ZIx,ZIK]at hq;obtain⟨rfl,rfl⟩:=hq;refine⟨.int k (QE k a b),?_,.int _ _ hs.2⟩;simp only[binOp,Op.shift,Int.not_lt.2 hs.1,if_false];rfl;have u:(if k=k' then Q1 op k a b else nO)=sO (side,d):=by cases op<;>first|(simp only[Zak]at hq;exact hq)|simp at ad
   split at u;·rename_i hk;subst hk;obtain⟨v,hv,r⟩:=ZBQ (P:=P) (g:=g) (w:=w) u hs;refine⟨v,?_,r⟩;rw[<-hv];cases op<;>first|(simp at ad;done)|(simp[binOp])
   simp at u
  have u:eqO op (Zd2 P t x y) (.int k a) d2=sO (side,d):=by cases d2<;>first|(simp only[Zak]at hq;exact hq)|(exact absurd ⟨_,_,rfl⟩ ae)
  unfold eqO at u;split at u<;>simp[YH]at u
 by_cases ab:∃a,d1=.str a;obtain⟨a,rfl⟩:=ab;cases h1;rename_i s1 e1 b1;have hg:(eqGuard op t x y (.string s1) v2).run P w=.ok () w:=by cases op<;>rfl
 by_cases ac:∃b,d2=.str b;obtain⟨b,rfl⟩:=ac;cases h2;rename_i s2 e2 b2;simp only[Sem.run_bind,hg,Result.andThen_ok];obtain⟨v,hv,r⟩:=ZBR (P:=P) (g:=g) (w:=w) (op:=op) e1 e2 (by simpa[Zak]using hq) hs;refine⟨v,?_,r⟩;rw[<-hv];cases op<;>simp[binOp];have u:eqO op (Zd2 P t x y) (.str a) d2=sO (side,d):=by cases d2<;>first|(simp only[Zak]at hq;exact hq)|(exact absurd ⟨_,rfl⟩ ac)
 unfold eqO at u;split at u<;>simp[YH]at u;have u:eqO op (Zd2 P t x y) d1 d2=sO (side,d):=by cases d1<;>first|(simp only[Zak]at hq;exact hq)|(exact absurd ⟨_,_,rfl⟩ hi)|(exact absurd ⟨_,rfl⟩ ab)
 unfold eqO at u;split at u
 .rename_i p hp;simp only[ZIL]at u;obtain⟨⟨s',b⟩,hb,u⟩:=u;simp only[ZIK]at u;obtain⟨rfl,rfl⟩:=u;obtain⟨he,hg,_⟩:=ZrL hp h1 h2 hb hs;refine⟨.bool b,?_,.bool _⟩;simp only[Sem.run_bind,hg,Result.andThen_ok];cases h1<;>first
   | (exact absurd ⟨_,_,rfl⟩ hi)
   | (exact absurd ⟨_,rfl⟩ ab)
   | (cases h2<;>first|(simp[binOp,he];done)|(cases p<;>simp[YH]at hb;done))
 .rename_i p hp;simp only[ZIL]at u;obtain⟨⟨s',b⟩,hb,u⟩:=u;simp only[ZIK]at u;obtain⟨rfl,rfl⟩:=u;obtain⟨he,_,hg⟩:=ZrL hp h1 h2 hb hs;refine⟨.bool (!b),?_,.bool _⟩;simp only[Sem.run_bind,hg,Result.andThen_ok];cases h1<;>first
   | (exact absurd ⟨_,_,rfl⟩ hi)
   | (exact absurd ⟨_,rfl⟩ ab)
   | (cases h2<;>first|(simp[binOp,he];done)|(cases p<;>simp[YH]at hb;done))
 simp at u
end Go.DL
namespace Go.DL
open Go
variable [Zs5]
def ZzV(P:Program)(g:G)(Z:Nat->Nat)(w:World)(L:Loc)(s:Sem Value)(e:E):Prop:=∃v,s.run P w=.ok v w/\ZL g Z w L v e
def ZzV.next{P g Z w L s e}(h:ZzV P g Z w L s e) :
  ∃v,(do pure (Next.value (<-s)):Sem Next).run P w=.ok (.value v) w/\ZL g Z w L v e:=by
 obtain⟨v,h1,h2⟩:=h;simp_all
section
variable {P:Program} {g:G} {Z:Nat->Nat} {w:World} {L:Loc}
def K5:∀{vs es ds},ZI (ZL g Z w L) vs es->Ka es=sO ds->ZI (Rep g w) vs ds
 |_,_,ds,.nil,hd=>by cases hd;exact .nil
 |_,_,ds,.cons (b:=e) h t,hd=>by
  cases e with
  |d x =>simp[Ka]at hd;obtain⟨ds',hd',rfl⟩:=hd;exact .cons h (K5 t hd')
  |loc l o=>cases hd
  |when c e=>cases hd
def ZI.len{α β R}{t:List α}{bs:List β}(h:ZI R t bs):I t=I bs:=by
 induction h with
 |nil=>rfl
 |cons _ _ ih=>simp[ih]
def ZI.get{α β R t}{bs:List β}(h:ZI R t bs):∀(i:Nat) (a:α) (b:β),t[i]?=sO a->bs[i]?=sO b->R a b:=by
 induction h with
 |nil=>intro i a b ha;grind
 |cons h _ ih =>grind
def ZI.take{α β R}{t:List α}{bs:List β}(h:ZI R t bs):∀n,ZI R (t.take n) (bs.take n):=by
 induction h with
 |nil=>intro n;simp;exact .nil
 |cons h _ ih=>intro n;cases n with
  |zero=>exact .nil
  |succ n=>exact .cons h (ih n)
def ZI.drop{α β R}{u:List α}{bs:List β}(h:ZI R u bs):∀n,ZI R (u.drop n) (bs.drop n):=by
 induction h with
 |nil=>intro n;simp;exact .nil
 |cons h t ih=>intro n;cases n with
  |zero=>exact .cons h t
  |succ n=>exact ih n
def ZI.append{α β R}{u t:List α}{bs bs':List β}(h:ZI R u bs)(h':ZI R t bs'):ZI R (u++t) (bs++bs'):=by
 induction h with
 |nil=>exact h'
 |cons h _ ih=>exact .cons h ih
def Zd5{v d}(h:Rep g w v d)(ho:Kb d=true):v.cells.size=(cellsOf d).length/\(∀(i:Nat) (x y),v.cells.toList[i]?=sO x->(cellsOf d)[i]?=sO y->Rep g w x y):=by
 cases h with
 |agg vs cells hn h one=>exact⟨by simpa[Value.cells,cellsOf]using hn,by simpa[Value.cells,cellsOf]using h⟩
 |any v=>simp[Kb]at ho
 |_ =>
  refine⟨by simp[Value.cells,cellsOf,Go.undef],λi x y t u=>?_⟩;simp only[Value.cells,cellsOf,Go.undef]at t u;cases i with
  |zero =>simp at t u;subst t;subst u;first|assumption|constructor<;>assumption|constructor
  |succ i=>simp at t
end
end Go.DL
namespace Go.DL
open Go
variable [Zs5]
section
variable {P:Program} {g:G} {Z:Nat->Nat} {w:World} {L:Loc}
def ZhP{v d}(h:Rep g w v d)(u:Kb d=true):∀x∈v.cells,x.one1=true:=by
 cases h with
 |agg vs cells hn h one=>simpa[Value.cells]using one
 |_=>first
  | (simp[Kb]at u;done)
  | (intro x t;simp[Value.cells]at t;subst t;rfl)
def Zrm:∀(l k off) (cs:Array Value),off+k+I l<=cs.size ->
  ((l.zipIdx k).foldl (λ(cs:Array Value) (x:Value×Nat)=>cs.setIfInBounds (off+x.2) x.1) cs).toList=cs.toList.take (off+k)++l++cs.toList.drop (off+k+I l)
 | [],k,off,cs,h=>by simp
 |v::l,k,off,cs,h=>by
  simp at h;simp only[List.zipIdx_cons,List.foldl_cons];rw[Zrm l (k+1) off _ (by simp;omega)];simp only[Array.toList_setIfInBounds];apply List.ext_getElem?;intro i;simp only[List.getElem?_append,ZJf,List.getElem?_drop,List.getElem?_set,ZII,ZIS,List.length_set,Array.length_toList,ZIP];by_cases t:i<off+k;simp[show i<min (off+(k+1)) cs.size+I l from by omega,show i<min (off+(k+1)) cs.size from by omega,show i<min (off+k) cs.size+(I l+1) from by omega,
   show i<min (off+k) cs.size from by omega,show i<off+(k+1) from by omega,t,show ¬off+k=i from by omega]
  by_cases u:i=off+k;subst u;simp[show off+k<min (off+(k+1)) cs.size+I l from by omega,show off+k<min (off+(k+1)) cs.size from by omega,show off+k<min (off+k) cs.size+(I l+1) from by omega,
   show ¬off+k<min (off+k) cs.size from by omega,show off+k<off+(k+1) from by omega,show off+k<cs.size from by omega]
  rw[show off+k-min (off+k) cs.size=0 from by omega];rfl;by_cases h3:i<off+k+(I l+1);simp[show i<min (off+(k+1)) cs.size+I l from by omega,show ¬i<min (off+(k+1)) cs.size from by omega,show i<min (off+k) cs.size+(I l+1) from by omega,
   show ¬i<min (off+k) cs.size from by omega]
  rw[show i-min (off+k) cs.size=(i-min (off+(k+1)) cs.size)+1 from by omega];rfl;simp[show ¬i<min (off+(k+1)) cs.size+I l from by omega,show ¬i<min (off+k) cs.size+(I l+1) from by omega];rw[show off+(k+1)+I l+(i-(min (off+(k+1)) cs.size+I l))=i from by omega,show off+k+(I l+1)+(i-(min (off+k) cs.size+(I l+1)))=i from by omega];simp[show ¬off+k=i from by omega]
def Ye{α β R}:∀{t} {bs:List β},I t=I bs->(∀(i:Nat) (a:α) (b:β),t[i]?=sO a->bs[i]?=sO b->R a b)->ZI R t bs
 | [],[],_,_=>.nil
 |a::t,b::bs,hn,h=>.cons (h 0 a b rfl rfl) (Ye (by simpa using hn) (λi x y u hy=>h (i+1) x y (by simpa using u) (by simpa using hy)))
 | [],_::_,hn,_=>by grind
 |_::_,[],hn,_=>by grind
def ZhD(place):∀(parts pl ds cs cells cv),
  (∀(i:Nat) (x q),parts[i]?=sO x->pl[i]?=sO q->place x.1=sO q)->I parts=I pl->ZI (Rep g w) (parts.map (·.2)) ds ->
  ZI (Rep g w) cv.toList cells->(∀v∈cv,v.one1=true)->ZbC cells pl ds=sO cs ->
  ∃cv',Instr.fill place cv parts=sO cv'/\ZI (Rep g w) cv'.toList cs/\∀v∈cv',v.one1=true
 | [],[],ds,cs,cells,cv,_,_,hd,hc,ho,hf=>by cases hd;cases hf;exact⟨cv,rfl,hc,ho⟩
 |x::parts,q::pl,ds,cs,cells,cv,hpl,hn,hd,hc,ho,hf=>by
  obtain⟨i,v⟩:=x;obtain⟨o,n⟩:=q;cases hd with
  |cons hv hd =>
   rename_i d ds;simp only[ZbC]at hf;split at hf;rename_i ac;obtain⟨h0,h1,h2⟩:=ac;have hp:=hpl 0 _ _ rfl rfl;obtain⟨ag,ab⟩:=Zd5 hv h0;have hlen:=hc.len;have t:=Zrm v.cells.toList 0 o cv (by grind);simp only[Nat.add_zero,Array.length_toList,ag,h1]at t;have ha:ZI (Rep g w) (v.cells.toList) (cellsOf d):=Ye ω ab;generalize ad:(v.cells.toList.zipIdx 0).foldl (λ(cs:Array Value) (x:Value×Nat)=>cs.setIfInBounds (o+x.2) x.1) cv=cv2 at t;have af:ZI (Rep g w) cv2.toList (Zy cells o (cellsOf d)):=by rw[t];unfold Zy;rw[h1];exact((hc.take o).append ha).append (hc.drop (o+n))
   have ae:∀x∈cv2,x.one1=true:=λx hx=>by have u:x∈cv2.toList:=Array.mem_toList_iff.2 hx;rw[t]at u;simp only[List.mem_append]at u;rcases u with (u |u)|u;exact ho x (Array.mem_toList_iff.1 (List.mem_of_mem_take u));exact ZhP hv h0 x (Array.mem_toList_iff.1 u);exact ho x (Array.mem_toList_iff.1 (List.mem_of_mem_drop u))
   obtain⟨cv',ah,r1,r2⟩:=ZhD place parts pl ds cs _ cv2 (λi x q hx hq=>hpl (i+1) x q (by grind) (by grind)) (by grind) hd af ae hf;refine⟨cv',?_,r1,r2⟩;simp only[Instr.fill,hp,ag,h1];have:¬(n≠n ||decide (o+n > cv.size))=true:=by grind
   rw[if_neg ω];rw[<-ah,<-ad]
   congr 1
   rw[<-Array.foldl_toList,Array.toList_zipIdx];simp at hf
 | [],_::_,_,_,_,_,_,hn,_,_,_,_=>by simp at hn
 |_::_,[],_,_,_,_,_,hn,_,_,_,_=>by simp at hn
end
end Go.DL
namespace Go.DL
open Go
variable [Zs5]
variable {kp:Option (List Nat)}{L:Loc}{H:Env}{s:St}{w:World}{os:List DOp}{ds:List D}{dst:Option Nat}{tmps:Array Value}{g:G}{Z:Nat->Nat}{xs:List Opd}{side:Prop}{row:Nat->List D}
section
variable {P:Program} {g:G} {Z:Nat->Nat} {w:World} {L:Loc}
def ZdV:∀{vs ds},Zbr vs=sO ds->ZI (Rep g w) vs ds/\∀v∈vs,v.one1=true
 | [],ds,h=>by simp only[Zbr,ZIx]at h;subst h;exact⟨.nil,λv hv=>by simp at hv⟩
 |v::vs,ds,h=>by
  simp only[Zbr]at h;split at h
  .rename_i d ds' t h2;simp only[ZIx]at h;subst h;obtain⟨r1,r2⟩:=ZdV h2;have h0:Rep g w v d/\v.one1=true:=by unfold Zos at t;split at t<;>(try(simp at t;done));split at t;rename_i u;simp only[ZIx]at t;subst t;exact⟨.int _ _ u,rfl⟩;simp at t;simp only[ZIx]at t;subst t;exact⟨.bool _,rfl⟩;split at t;rename_i u;simp only[ZIx]at t;subst t;exact⟨.str _ _ rfl u,rfl⟩;simp at t;simp only[ZIx]at t;subst t;exact⟨.nilptr,rfl⟩;simp only[ZIx]at t;subst t;exact⟨.nilsl,rfl⟩;simp only[ZIx]at t;subst t;exact⟨.nilmap,rfl⟩;simp only[ZIx]at t;subst t;exact⟨.nilfn,rfl⟩;simp only[ZIx]at t;subst t;exact⟨.niliface,rfl⟩
   exact⟨.cons h0.1 r1,λx hx=>by
    rcases List.mem_cons.1 hx with rfl|hx;exact h0.2;exact r2 x hx⟩
  simp at h
def Zyj{v d}(h:Zos v=sO d):Rep g w v d/\v.one1=true:=by
 have:=ZdV (g:=g) (w:=w) (vs:=[v]) (ds:=[d]) (by simp[Zbr,h]);obtain⟨t,u⟩:=this;cases t with
 |cons h _=>exact⟨h,u v ψ⟩
def ZlW{vs ds}(h:ZI (Rep g w) vs.toList ds)(t:∀v∈vs,v.one1=true):Rep g w (.agg vs) (.agg ds):=by
 have:=Rep.agg (g:=g) (w:=w) vs.toList ds h.len h.get (λv u=>t v (Array.mem_toList_iff.1 u));simpa using this
def ZjX{v d}(h:Zot v=sO d):Rep g w v d:=by
 unfold Zot at h;split at h;rename_i cs;simp only[ZIL]at h;obtain⟨ds,hd,rfl⟩:=h;obtain⟨t,u⟩:=ZdV (g:=g) (w:=w) hd;exact ZlW t (λv hv=>u v (Array.mem_toList_iff.2 hv));exact(Zyj h).1
def ZrK{t fs}(hu:P.underlying t=sO (.struct fs)):∀(is pl),Qe P t is=sO pl ->
  (I pl)=I is/\∀(i k:Nat) (q),is[i]?=sO k->pl[i]?=sO q->∃f,fs[k]?=sO f/\ZS P f.type=sO q.2/\f.offset=q.1
 | [],pl,h=>by simp only[Qe,ZIx]at h;subst h;simp
 |k::is,pl,h=>by
  cases hl:Qe P t is with
  |none=>simp[Qe,hu,hl]at h
  |some l =>
   simp only[Qe,hu,hl]at h;split at h
   .rename_i f hf;simp only[ZIL]at h;obtain⟨n,hn,rfl⟩:=h;obtain⟨h1,h2⟩:=ZrK hu is l hl;refine⟨by simp[h1],λi k' q u hq=>?_⟩;cases i with
    |zero=>simp at u hq;subst u;subst hq;exact⟨f,hf,hn,rfl⟩
    |succ i=>exact h2 i k' q (by simpa using u) (by simpa using hq)
   simp at h
def Zpc{t e m}(hu:P.underlying t=sO (.array m e)):∀(is pl),Qe P t is=sO pl ->
  (I pl)=I is/\∀(i k:Nat) (q),is[i]?=sO k->pl[i]?=sO q->∃n,ZS P e=sO n/\q=(k*n,n)
 | [],pl,h=>by simp only[Qe,ZIx]at h;subst h;simp
 |k::is,pl,h=>by
  cases hl:Qe P t is with
  |none=>simp[Qe,hu,hl]at h
  |some l =>
   simp only[Qe,hu,hl,ZIL]at h;obtain⟨n,hn,rfl⟩:=h;obtain⟨h1,h2⟩:=Zpc hu is l hl;refine⟨by simp[h1],λi k' q u hq=>?_⟩;cases i with
   |zero=>simp at u hq;subst u;subst hq;exact⟨n,hn,rfl⟩
   |succ i=>exact h2 i k' q (by simpa using u) (by simpa using hq)
def ZmR:∀(t:List Field),(t.all λf=>(ZS P f.type).isSome)=true ->
  ∃u,t.mapM (λf=>(P.info? f.type).map λi=>(f.offset,i.size))=sO u/\∀(k:Nat) (f n),t[k]?=sO f->ZS P f.type=sO n->u[k]?=sO (f.offset,n)
 | [],_=>⟨[],ψ,ψ⟩
 |f::t,h=>by
  simp only[List.all_cons,ZIJ]at h;obtain⟨u,h1,h2⟩:=ZmR t h.2;unfold ZS at h;cases hi:P.info? f.type with
  |none=>simp[hi]at h
  |some i =>
   refine⟨(f.offset,i.size)::u,by simp[List.mapM_cons,hi,h1],λk f' n hk hn=>?_⟩;cases k with
   |zero =>simp at hk;subst hk;simp only[ZS,hi,ZI3,ZIx]at hn;subst hn;rfl
   |succ k=>simpa using h2 k f' n (by simpa using hk) hn
def Zz2{t}{parts:List (Nat×Value)}{z pl zs ds cs}(hz:(P.info? t).bind (·.zero)=sO z)(hp:Qe P t (parts.map (·.1))=sO pl)(hsz:Zlc P t=true)(hzs:Zbr z.cells.toList=sO zs)(hd:ZI (Rep g w) (parts.map (·.2)) ds)(hf:ZbC zs pl ds=sO cs)(hne:∃d,P.underlying t=sO d/\((∃fs,d=.struct fs)\/∃m e i,d=.array m e/\P.info? e=sO i)):
  ∃cv,(Instr.build t parts.toArray).run P w=.ok (.agg cv) w/\Rep g w (.agg cv) (.agg cs):=by
 obtain⟨d,hu,ag⟩:=hne;obtain⟨c1,c2⟩:=ZdV (g:=g) (w:=w) hzs;have ae:∀v∈z.cells,v.one1=true:=λv hv=>c2 v (Array.mem_toList_iff.2 hv);cases ad:P.info? t with
 |none=>simp[ad]at hz
 |some it =>
  simp only[ad,Option.bind_some]at hz;rcases ag with ⟨fs,rfl⟩|⟨m,e,i,rfl,hi⟩;simp only[Zlc,hu]at hsz;obtain⟨ak,hm,af⟩:=ZmR (P:=P) fs.toList hsz;obtain⟨h1,h2⟩:=ZrK hu _ _ hp;obtain⟨cv,u,ac,ab⟩:=ZhD (g:=g) (w:=w) (ak.toArray[·]?) parts pl ds cs zs z.cells (λi x q hx hq=>by
   obtain⟨f,ah,ai,aj⟩:=h2 i x.1 q (by simp[hx]) hq;have:=af x.1 f q.2 (by simpa using ah) ai;simp only[List.getElem?_toArray,this,aj]) (by simpa using h1.symm) hd c1 ae hf
  refine⟨cv,run_build w t _ cv ?_,ZlW ac ab⟩;simp only[Program.built,ad,hu,hz,hm];exact u;obtain⟨h1,h2⟩:=Zpc hu _ _ hp;obtain⟨cv,u,ac,ab⟩:=ZhD (g:=g) (w:=w) (λk=>sO (k*i.size,i.size)) parts pl ds cs zs z.cells (λj x q hx hq=>by
   obtain⟨n,hn,rfl⟩:=h2 j x.1 q (by simp[hx]) hq;simp only[ZS,hi,ZI3,ZIx]at hn;rw[hn]) (by simpa using h1.symm) hd c1 ae hf
  refine⟨cv,run_build w t _ cv ?_,ZlW ac ab⟩;simp only[Program.built,ad,hu,hz,hi];exact u
end
section
variable {P:Program} {g:G} {Z:Nat->Nat} {w:World} {L:Loc} {U:St}
def Wt{α β R}{a:α}{bs:List β}(h:ZI R [a] bs):∃b,bs=[b]/\R a b:=by
 cases h with
 |cons h t=>cases t;exact⟨_,rfl,h⟩
def JY{α β R}{a a':α}{bs:List β}(h:ZI R [a,a'] bs):∃b u,bs=[b,u]/\R a b/\R a' u:=by
 cases h with
 |cons h t=>obtain⟨u,rfl,h'⟩:=Wt t;exact⟨_,_,rfl,h,h'⟩
def ZiD:∀(t:List Int) (s:ByteArray),(t.foldl (λr n=>r.push (UInt8.ofNat n.toNat)) s).data.toList=s.data.toList++t.map λn=>UInt8.ofNat n.toNat
 | [],s=>by simp
 |n::t,s=>by rw[List.foldl_cons,ZiD t];simp
def Zvl{t x e r side}(ha:JX P t=sO false)(hx:ZL g Z w L x e)(hL:∀l cs,Zh L l=sO cs->YJ g w (Z l) cs)(hS:Yf g U w)(u:qv L U .load1 [e]=sO (side,r)):∃v,(Instr.loadAt t x).run P w=.ok v w/\ZL g Z w L v r:=by
 simp only[qv,ZIL]at u;obtain⟨d,hd,rfl,rfl⟩:=u;obtain⟨b,o,y,rfl,hy,hr,_⟩:=Zok hL hS hx hd;exact⟨y,by simp[Instr.loadAt,Instr.sureAddr,loadVar,ZeB ha,hy],hr⟩
def Zvm{t n x e r side}(ha:JX P t=sO true)(hsz:ZS P t=sO n)(hx:ZL g Z w L x e)(hL:∀l cs,Zh L l=sO cs->YJ g w (Z l) cs)(hS:Yf g U w)(hq:qv L U (.loadN n) [e]=sO (side,r))(hs:side):∃v,(Instr.loadAt t x).run P w=.ok v w/\ZL g Z w L v r:=by
 simp only[qv,ZIL]at hq;obtain⟨⟨s',ds⟩,hd,rfl,rfl⟩:=hq;obtain⟨a,rfl,vs,u,hr⟩:=Zo8 (P:=P) hL hS hx hd hs;exact⟨.agg vs.toArray,by simp[Instr.loadAt,Instr.sureAddr,loadVar,Zgc ha,YI hsz,u],hr⟩
def ZBO{b o n cap cs v}(hS:Yf g U w)(hv:Rep g w v (.msl b o n cap 1))(hcs:Z2 U b=sO cs)(hlen:o+n<=I cs)(hu:∀i,i<n->Zki (part cs (o+i) 1)):
  ∃x:Value,(Conv.bytesToString v).run P w=.ok x w/\Rep g w x (.str ((ZIM n).map λi=>Zbm (part cs (o+i) 1))):=by
 have ab:∀t,n<=t->t<=big->∃x:Value,(Conv.bytesToString (.slice (sO ⟨b,o,nO⟩) n t)).run P w=.ok x w/\Rep g w x (.str ((ZIM n).map λi=>Zbm (part cs (o+i) 1))):=by
  intro t h1 h2;obtain⟨vs,hr,hp⟩:=ZfF (P:=P) (Qv hS hcs) hlen;have af:vs=((ZIM n).map λi=>((Zbm (part cs (o+i) 1)).toNat:Int)).map (Value.int .u8):=by
   generalize u:part cs o n=pc at hp;have hpl:I pc=n:=by rw[<-u];simp[part];omega
   cases hp with
   |agg vs' _ hn hg _ =>
   apply List.ext_getElem?;intro i;by_cases hi:i<n;have hvi:i<I vs:=ω;obtain⟨m,hm⟩:=hu i hi;have ac:cs[o+i]?=sO (.int .u8 m):=by have:=congrArg (λl=>l[0]?) hm;simpa[part]using this
   have ae:pc[i]?=sO (.int .u8 m):=by rw[<-u];simp[part,hi];exact ac
   have:=hg i vs[i] _ (by grind) ae;simp_all;generalize vs[i]=xv at this;cases this;rename_i ad;simp[hi,Zbm];simp[inR,IntKind.min,IntKind.max,IntKind.signed,IntKind.bits]at ad;omega;simp_all
  refine⟨_,run_bytesToString w _ _ t _ (by rw[hr,af]),.str _ _ ?_ (by grind)⟩;rw[ZiD];simp
 cases hv with
 |msl _ _ _ _ _ h hb=>exact ab cap h hb
 |mslx a=>exact⟨.string .empty,by simp[Conv.bytesToString,loadCells,loadCellsFrom],.str _ _ rfl ψ⟩
def ZxB{s d c x e r side}(hS:Yf g U w)(hc:ZwL P s d=sO c)(hx:ZL g Z w L x e)(hq:qv L U (.conv c) [e]=sO (side,r))(hs:side):
  ∃v,(convert s d x).run P w=.ok v w/\ZL g Z w L v r:=by
 unfold ZwL at hc;split at hc<;>(try(simp at hc;done))
 .rename_i k0 k h1 h2;cases hc;cases e with
  |d y =>cases y<;>simp only[qv,reduceCtorEq]at hq;rename_i k' n;cases hx;rename_i hn;split at hq;rename_i hk;subst hk;cases hq;exact⟨.int k n,by simp[convert,run_underlying h1,run_underlying h2,Conv.intToInt,Zai _ _ hn],.int _ _ hn⟩;cases hq;exact⟨.int k (k.wrap n),by simp[convert,run_underlying h1,run_underlying h2,Conv.intToInt],.int _ _ Zh6⟩
  |loc l o=>simp[qv]at hq
  |when b e=>simp[qv]at hq
 .rename_i k0 h1 h2;cases hc;cases e with
  |d y =>cases y<;>simp only[qv,reduceCtorEq]at hq;rename_i k' n;cases hx;cases hq;exact⟨.string (Utf8.encode n),by simp[convert,run_underlying h1,run_underlying h2,Conv.intToString],.str _ _ rfl hs⟩
  |loc l o=>simp[qv]at hq
  |when b e=>simp[qv]at hq
 .rename_i h1 h2;cases hc;cases e with
  |d y =>cases y<;>simp only[qv,reduceCtorEq]at hq;cases hq;cases hx;rename_i s0 e0 b0;exact⟨.string s0,by simp[convert,run_underlying h1,run_underlying h2],.str _ _ e0 b0⟩
  |loc l o=>simp[qv]at hq
  |when b e=>simp[qv]at hq
 rename_i el h1 h2;split at hc<;>(try(simp at hc;done));rename_i h3;cases hc;cases e with
 |d y =>
  cases y<;>simp only[qv,reduceCtorEq]at hq;cases hq;cases hx;exact⟨.string .empty,by simp[convert,run_underlying h1,run_underlying h2,run_underlying h3,Conv.bytesToString],.str _ _ rfl (by simp[big])⟩
  .split at hq<;>(try(simp at hq;done));rename_i t n s row ae;cases hq;subst ae;cases hx with
   |sl0 av=>exact⟨.string .empty,by cases av<;>simp[convert,run_underlying h1,run_underlying h2,run_underlying h3,Conv.bytesToString,loadCells,loadCellsFrom],.str _ _ rfl (by simp[big])⟩
   |sl b o _ cap _ _ _ f hl hc hp hr one ht hcap hb =>
    have hf:∀i,i<n->f i 0=.int .u8 ((Zbm (row i)).toNat:Int):=λi hi=>by
     obtain⟨m,hm⟩:=hs i hi;have:=hr i 0 _ hi (by rw[hm];rfl);generalize f i 0=fv at this;cases this;rename_i ad;rw[hm];simp only[Zbm]
     congr 1
     simp[inR,IntKind.min,IntKind.max,IntKind.signed,IntKind.bits]at ad;simp;omega
    have u:(loadCells ⟨b,o,nO⟩ n).run P w=.ok (((ZIM n).map λi=>((Zbm (row i)).toNat:Int)).map (Value.int .u8)).toArray w:=by
     rw[run_loadCells (P:=P) w ⟨b,o,nO⟩ n (λi=>f i 0) (λj hj=>by
      have:=hc j 0 hj ω;rw[Kf];simpa using this)]
     congr 2
     rw[List.map_map];exact List.map_congr_left λi hi=>hf i (by simpa using hi)
    refine⟨_,by simp[convert,run_underlying h1,run_underlying h2,run_underlying h3,run_bytesToString w _ _ cap _ u];rfl,.str _ _ ?_ (by simp;omega)⟩;rw[ZiD];simp[List.map_map,Function.comp_def]
  split at hq<;>(try(simp at hq;done));rename_i b o n cap z cs ac;split at hq<;>(try(simp at hq;done));rename_i hz;cases hq;subst hz;obtain⟨xv,hr,hp⟩:=ZBO (P:=P) hS hx ac hs.1 hs.2;have ab:(convert s d x).run P w=(Conv.bytesToString x).run P w:=by cases hx<;>simp[convert,run_underlying h1,run_underlying h2,run_underlying h3]
  exact⟨xv,ab.trans hr,hp⟩
 |loc l o=>simp[qv]at hq
 |when b e=>simp[qv]at hq
end
section
variable {P:Program} {g:G} {Z:Nat->Nat} {w:World} {L:Loc}
def Qf{v k n}(h:Rep g w v (.int k n)):v=.int k n/\inR k n:=by
 cases h with
 |int _ _ h=>exact⟨rfl,h⟩
def Zda{x k n}(h:Rep g w x (.int k n)){y:Nat}{code}(t:0<=n)(u:n<=y):
  (Instr.sliceBound x y code).run P w=.ok n.toNat w:=by
 obtain⟨rfl,_⟩:=Qf h;simp[Instr.sliceBound,asIntOf,t,u]
def Ji(g:G)(w:World):Option Value->Option Int->Prop
 |none,nO=>True
 |some v,sO n=>∃k,Rep g w v (.int k n)
 |_,_=>False
def ZaI{is}{n cap:Nat}{lo hi mx lo' hi' mx'}(h1:Ji g w lo lo')(h2:Ji g w hi hi')(h3:Ji g w mx mx')(hmh:mx.isSome=true->hi.isSome=true)(a:0<=lo'.getD 0)(b:lo'.getD 0<=hi'.getD n)(c:hi'.getD n<=mx'.getD cap)(d:mx'.getD cap<=cap):
  (Instr.sliceBounds is n cap lo hi mx).run P w=.ok ((lo'.getD 0).toNat,(hi'.getD n).toNat,(mx'.getD cap).toNat) w:=by
 cases mx with
 |none =>
  cases mx' with
  |some _=>exact h3.elim
  |none =>
   cases hi with
   |none =>
    cases hi' with
    |some _=>exact h2.elim
    |none =>
     cases lo with
     |none =>
      cases lo' with
      |some _=>exact h1.elim
      |none=>simp[Instr.sliceBounds]
     |some lv =>
      cases lo' with
      |none=>exact h1.elim
      |some l =>obtain⟨k,hk⟩:=h1;simp[Instr.sliceBounds,Zda hk a b]
   |some hv =>
    cases hi' with
    |none=>exact h2.elim
    |some hh =>
     obtain⟨k2,t⟩:=h2;simp at b c⊢;have bo:=Zda (P:=P) t (y:=cap) (code:=if is then .sliceAcap else .sliceAlen) ω c;cases lo with
     |none =>
      cases lo' with
      |some _=>exact h1.elim
      |none=>simp[Instr.sliceBounds,bo]
     |some lv =>
      cases lo' with
      |none=>exact h1.elim
      |some l =>obtain⟨k,hk⟩:=h1;simp at a b⊢;have bl:=Zda (P:=P) hk (y:=hh.toNat) (code:=.sliceB) a ω;simp[Instr.sliceBounds,bo,bl]
 |some mv =>
  cases mx' with
  |none=>exact h3.elim
  |some m =>
   obtain⟨k3,u⟩:=h3;cases hi with
   |none=>grind
   |some hv =>
    cases hi' with
    |none=>exact h2.elim
    |some hh =>
     obtain⟨k2,t⟩:=h2;simp at b c⊢;have bm:=Zda (P:=P) u (y:=cap) (code:=if is then .slice3Acap else .slice3Alen) ω d;have bo:=Zda (P:=P) t (y:=m.toNat) (code:=.slice3B) ω ω;cases lo with
     |none =>
      cases lo' with
      |some _=>exact h1.elim
      |none=>simp[Instr.sliceBounds,bo,bm]
     |some lv =>
      cases lo' with
      |none=>exact h1.elim
      |some l =>obtain⟨k,hk⟩:=h1;simp at a b⊢;have bl:=Zda (P:=P) hk (y:=hh.toNat) (code:=.slice3C) a ω;simp[Instr.sliceBounds,bo,bm,bl]
def ZBo{t e s}(hu:P.underlying t=sO (.slice e))(hsz:ZS P e=sO s){x d r}(hx:Rep g w x d){lo hi mx lo' hi' mx'}(h1:Ji g w lo lo')(h2:Ji g w hi hi')(h3:Ji g w mx mx')(hmh:mx.isSome=true->hi.isSome=true){side}(hq:Za1 s lo' hi' mx' d=sO (side,r))(hs:side):
  ∃v,(Instr.sliceAt t x lo hi mx).run P w=.ok v w/\Rep g w v r:=by
 cases d<;>simp only[Za1,reduceCtorEq]at hq
 .
  simp only[ZIx,ZIK]at hq;obtain⟨rfl,rfl⟩:=hq;cases hx;obtain⟨e1,e2,e3⟩:=hs;refine⟨.slice nO 0 0,?_,.nilsl⟩;have hb:=ZaI (P:=P) (is:=true) (n:=0) (cap:=0) h1 h2 h3 hmh ω (by simp[e1,e2]) (by simp[e2,e3]) (by simp[e3]);simp only[Instr.sliceAt,Sem.run_bind,run_underlying hu,Result.andThen_ok,Instr.slice,hb];simp[e1,e2,e3,YI hsz]
 .
  rename_i t n s' row;split at hq<;>(try(simp at hq;done));rename_i ai;subst ai;simp only[ZIx,ZIK]at hq;obtain⟨rfl,rfl⟩:=hq;obtain⟨a,b,c,d⟩:=hs;have mk:∀(cap:Nat),n<=cap->hi'.getD n<=mx'.getD cap/\mx'.getD cap<=cap:=λcap ab=>by
   cases mx' with
   |none=>simp only[Option.getD_none];omega
   |some m=>have:=d m rfl;simp only[ZJe];omega
  cases hx with
  |sl0 av _ _ _ ht =>
   have hb:=ZaI (P:=P) (is:=true) (n:=0) (cap:=0) h1 h2 h3 hmh a b (mk 0 (ZIO _)).1 (mk 0 (ZIO _)).2;have e2:hi'.getD ((0:Nat):Int)=0:=ω;have e1:lo'.getD 0=0:=ω;have e3:mx'.getD ((0:Nat):Int)=0:=by have:=mk 0 (ZIO _);omega
   simp only[Int.natCast_zero]at e2 e3;refine⟨.slice av 0 0,?_,?_⟩;·cases av<;>simp only[Instr.sliceAt,Sem.run_bind,run_underlying hu,Result.andThen_ok,Instr.slice,hb];all_goals simp[e1,e2,e3,YI hsz]
   have:(hi'.getD ((0:Nat):Int)-lo'.getD 0).toNat=0:=by simp[e1,e2]
   rw[this];refine .sl0 av _ _ _ ?_;intro b hb;cases mx' with
   |some m=>simp only[Zbg]at hb;split at hb<;>simp at hb
   |none =>
    simp only[Zbg]at hb;split at hb
    .cases t with
     |tip b'=>exact absurd rfl (ht b')
     |_=>simp at hb
    simp at hb
  |sl bb o _ cap _ _ _ f hl hc hp hr one ht ab hbig =>
   have hb:=ZaI (P:=P) (is:=true) (n:=n) (cap:=cap) h1 h2 h3 hmh a b (mk cap ab).1 (mk cap ab).2;have hm:=mk cap ab;simp only[Instr.sliceAt,Sem.run_bind,run_underlying hu,Result.andThen_ok,Instr.slice,hb];simp only[YI hsz,Result.andThen_ok,Sem.run_pure];generalize al:lo'.getD 0=l at *;generalize ak:hi'.getD (n:Int)=h at *;obtain⟨l,rfl⟩:=Int.eq_ofNat_of_zero_le a;obtain⟨h,rfl⟩:=Int.eq_ofNat_of_zero_le (show 0<=h by omega);generalize ah:mx'.getD (cap:Int)=m at *;obtain⟨m,rfl⟩:=Int.eq_ofNat_of_zero_le (show 0<=m by omega);simp only[Int.toNat_natCast];refine⟨_,rfl,?_⟩;have aj:((h:Int)-(l:Int)).toNat=h-l:=ω;rw[aj];have hle:h<=n:=ω;have hlh:l<=h:=ω;have hhm:h<=m:=ω;have hmc:m<=cap:=ω;generalize u:Zbg t n l h mx'=tk;have af:∀o',(l=0->o'=o)->ZlC w tk bb o' (h-l) (m-l) s':=by
    intro o' am;cases mx' with
    |some m' =>simp only[Zbg]at u;simp only[ZJe]at ah;split at u;subst u;simp only[ZlC];omega;subst u;trivial
    |none =>
     simp only[Zbg]at u;simp only[Option.getD_none]at ah;have ag:m=cap:=ω;split at u
     .rename_i hhn';cases t with
      |none=>simp only at u;subst u;trivial
      |full=>simp only at u;subst u;simp only[ZlC]at ht⊢;omega
      |tip b' =>simp only at u;split at u;rename_i hl0;subst u;obtain⟨t1,t2,t3⟩:=ht;have ae:l=0:=ω;exact⟨t1,(am ae).trans t2,by rw[ag,ae];simpa using t3⟩;subst u;trivial
     subst u;trivial
   by_cases ac:m=l;simp only[ac,if_true];have hh:h-l=0:=ω;rw[hh,Nat.sub_self];have ad:=af o (λ_=>rfl);rw[hh,ac,Nat.sub_self]at ad;exact .sl bb o 0 0 s' _ tk (λ_ _=>undef) (λi hi=>by omega) (λi j hi=>by omega) (λi j hi=>by omega) (λi j d hi=>by omega) (λi j hi=>by omega) ad ω ω;simp only[ac,if_false,ZI3,Kf];refine .sl bb (o+l*s') (h-l) (m-l) s' _ tk (λi j=>f (l+i) j) (λi hi=>hl _ ω) (λi j hi hj=>?_) (λi j hi hj=>?_) (λi j d hi hd=>hr _ _ _ ω hd)
    (λi j hi hj=>one _ _ ω hj) (af _ (λh0=>by rw[h0];simp)) ω ω
   have:=hc (l+i) j ω hj;rw[show o+l*s'+i*s'+j=o+(l+i)*s'+j from by rw[ZIX];omega];exact this;have:=hp (l+i) j ω hj;rw[show o+l*s'+i*s'+j=o+(l+i)*s'+j from by rw[ZIX];omega];exact this
 .
  rename_i bb o n cap s';split at hq<;>(try(simp at hq;done));rename_i ai;subst ai;simp only[ZIx,ZIK]at hq;obtain⟨rfl,rfl⟩:=hq;obtain⟨a,b,c,d⟩:=hs;cases hx with
  |mslx av _ _ _ =>have hb:=ZaI (P:=P) (is:=true) (n:=0) (cap:=0) h1 h2 h3 hmh a b c d;have e3:mx'.getD ((0:Nat):Int)=0:=ω;have e2:hi'.getD ((0:Nat):Int)=0:=ω;have e1:lo'.getD 0=0:=ω;refine⟨.slice (sO av) 0 0,?_,?_⟩;simp only[Instr.sliceAt,Sem.run_bind,run_underlying hu,Result.andThen_ok,Instr.slice,hb];simp only[Int.natCast_zero]at e2 e3;simp[e1,e2,e3,YI hsz];rw[e1,e2,e3];exact .mslx _ _ _ _
  |msl _ _ _ _ _ hn hb' =>have hb:=ZaI (P:=P) (is:=true) (n:=n) (cap:=cap) h1 h2 h3 hmh a b c d;simp only[Instr.sliceAt,Sem.run_bind,run_underlying hu,Result.andThen_ok,Instr.slice,hb];simp only[YI hsz,Result.andThen_ok,Sem.run_pure];generalize al:lo'.getD 0=l at *;generalize ak:hi'.getD (n:Int)=h at *;generalize ah:mx'.getD (cap:Int)=m at *;obtain⟨l,rfl⟩:=Int.eq_ofNat_of_zero_le a;obtain⟨h,rfl⟩:=Int.eq_ofNat_of_zero_le (show 0<=h by omega);obtain⟨m,rfl⟩:=Int.eq_ofNat_of_zero_le (show 0<=m by omega);simp only[Int.toNat_natCast,show((h:Int)-(l:Int)).toNat=h-l by omega,show((m:Int)-(l:Int)).toNat=m-l by omega];refine⟨_,rfl,?_⟩;by_cases ac:m=l;subst ac;simp only[if_true];exact .msl _ _ _ _ _ ω ω;have:¬(m:Int)=l:=ω;simp only[ac,this,if_false,ZI3,Kf];exact .msl _ _ _ _ _ ω ω
end
section
variable {P:Program} {g:G} {Z:Nat->Nat} {w:World} {L:Loc} {U:St}
def ZrX{s k f}(h:ZhC P s k=sO f):∃t,P.underlying s=sO (.struct t)/\t[k]?=sO f:=by
 unfold ZhC at h;split at h;rename_i t u;exact⟨t,u,h⟩;simp at h
def Zvj{s k n f x e r side}(hf:ZhC P s k=sO f)(hsz:ZS P f.type=sO n)(hn:n≠0)(hx:ZL g Z w L x e)(t:qv L U (.faddr f.offset) [e]=sO (side,r)):∃v,(Instr.fieldAt s x k).run P w=.ok v w/\ZL g Z w L v r:=by
 obtain⟨fs,hu,hk⟩:=ZrX hf;have run:∀b o,(Instr.fieldAt s (.pointer (sO ⟨b,o,nO⟩)) k).run P w=.ok (.pointer (sO ⟨b,o+f.offset,nO⟩)) w:=λb o=>by simp[Instr.fieldAt,run_underlying hu,hk,Instr.sureAddr,fieldPlace,YI hsz,hn,Kf]
 cases e with
 |d y =>
  cases y<;>simp only[qv,reduceCtorEq,ZIx,ZIK]at t
  .rename_i cells off;obtain⟨rfl,rfl⟩:=t;cases hx with
   |ep b o _ _ f' u h2 h3 one =>have:=Rep.ep (g:=g) (w:=w) b o (off+f.offset) cells f' u h2 h3 one;exact⟨_,run _ _,by rw[Nat.add_assoc];exact this⟩
  obtain⟨rfl,rfl⟩:=t;cases hx;exact⟨_,run _ _,.ptr _ _⟩
 |loc l o =>simp only[qv,ZIx,ZIK]at t;obtain⟨rfl,rfl⟩:=t;obtain⟨u,rfl⟩:=hx;exact⟨_,run _ _,u,rfl⟩
 |when b e=>simp[qv]at t
def Zvk{t e n x i ex ei r side}(hu:P.underlying t=sO (.slice e))(hsz:ZS P e=sO n)(hx:ZL g Z w L x ex)(hi:ZL g Z w L i ei)(hq:qv L U (.iaddr n) [ex,ei]=sO (side,r))(hs:side):∃v,(Instr.indexAt t x i).run P w=.ok v w/\ZL g Z w L v r:=by
 cases ex with
 |d y =>
  cases y<;>(try(simp[qv]at hq;done))
  .rename_i tk m s' row;cases ei with
   |d z =>
    cases z<;>simp only[qv,reduceCtorEq]at hq;rename_i k j;obtain⟨rfl,ad⟩:=Qf hi;split at hq<;>(try(simp at hq;done));rename_i ac;subst ac;simp only[ZIx,ZIK]at hq;obtain⟨rfl,rfl⟩:=hq;obtain⟨h0,h1⟩:=hs;cases hx with
    |sl0=>omega
    |sl b o _ cap _ _ _ f hl hc hp hr one ht hcap hbig =>
     have ab:j.toNat<m:=ω;have:=Rep.ep (g:=g) (w:=w) b (o+j.toNat*s') 0 (row j.toNat) (λc=>f j.toNat c) (λc u=>by
      rw[hl _ ab]at u;exact hc _ _ ab u) (λc u=>by rw[hl _ ab]at u;exact hp _ _ ab u) (λc d hd=>hr _ _ _ ab hd) (λc u=>by rw[hl _ ab]at u;exact one _ _ ab u)
     refine⟨_,?_,this⟩;simp[Instr.indexAt,asIntOf,run_underlying hu,h0,h1,YI hsz,Kf]
   |loc l o=>simp[qv]at hq
   |when b e=>simp[qv]at hq
  rename_i b o m cap s';cases ei with
  |d z =>
   cases z<;>simp only[qv,reduceCtorEq]at hq;rename_i k j;obtain⟨rfl,ad⟩:=Qf hi;split at hq<;>(try(simp at hq;done));rename_i ac;subst ac;simp only[ZIx,ZIK]at hq;obtain⟨rfl,rfl⟩:=hq;obtain⟨h0,h1⟩:=hs;cases hx<;>try omega
   refine⟨_,?_,Rep.ptr b (o+j.toNat*s')⟩;simp[Instr.indexAt,asIntOf,run_underlying hu,h0,h1,YI hsz,Kf]
  |loc l o=>simp[qv]at hq
  |when b e=>simp[qv]at hq
 |loc l o=>cases ei<;>simp[qv]at hq
 |when b e=>cases ei<;>simp[qv]at hq
def ZuF{t e m n x i ex ei r side}(hu:P.underlying t=sO (.array m e))(hsz:ZS P e=sO n)(hx:ZL g Z w L x ex)(hi:ZL g Z w L i ei)(u:qv L U (.iaddrA m n) [ex,ei]=sO (side,r))(hs:side):∃v,(Instr.indexAt t x i).run P w=.ok v w/\ZL g Z w L v r:=by
 cases ei with
 |d z =>
  cases z<;>(try(cases ex<;>(try(rename_i y;cases y))<;>simp[qv]at u;done));rename_i k j;obtain⟨rfl,hin⟩:=Qf hi;have run:∀b o,(0<=j/\j<(m:Int))->(Instr.indexAt t (.pointer (sO ⟨b,o,nO⟩)) (.int k j)).run P w=.ok (.pointer (sO ⟨b,o+j.toNat*n,nO⟩)) w:=λb o h=>by simp[Instr.indexAt,asIntOf,run_underlying hu,h.1,h.2,YI hsz,Kf,Instr.sureAddr]
  cases ex with
  |d y =>
   cases y<;>simp only[qv,reduceCtorEq,ZIx,ZIK]at u
   .rename_i cells off;obtain⟨rfl,rfl⟩:=u;cases hx with
    |ep b o _ _ f' h1 h2 h3 one =>have:=Rep.ep (g:=g) (w:=w) b o (off+j.toNat*n) cells f' h1 h2 h3 one;exact⟨_,run _ _ hs,by rw[Nat.add_assoc];exact this⟩
   rename_i b o;obtain⟨rfl,rfl⟩:=u;cases hx;exact⟨_,run _ _ hs,Rep.ptr _ _⟩
  |loc l o =>simp only[qv,ZIx,ZIK]at u;obtain⟨rfl,rfl⟩:=u;obtain⟨h1,rfl⟩:=hx;exact⟨_,run _ _ hs,h1,rfl⟩
  |when b e=>simp[qv]at u
 |loc l o=>cases ex<;>(try(rename_i y;cases y))<;>simp[qv]at u
 |when b e=>cases ex<;>(try(rename_i y;cases y))<;>simp[qv]at u
def ev{s e}(h:∃v,s.run P w=.ok v w/\ZL g Z w L v e):
  ∃v,(do pure (Next.value (<-s)):Sem Next).run P w=.ok (.value v) w/\ZL g Z w L v e:=ZzV.next h
def Zvn{x e r side op ρv}(hv:ρv op=x)(hx:ZL g Z w L x e)(u:qv L U .nilck [e]=sO (side,r))(dst ty pos)(af gd):∃v,(execOp ρv ⟨dst,.nilCheck op,ty,pos,af,gd⟩).run P w=.ok (.value v) w/\ZL g Z w L v r:=by
 subst hv;cases e with
 |d y =>cases y<;>simp only[qv,reduceCtorEq,ZIx,ZIK]at u;obtain⟨rfl,rfl⟩:=u;refine⟨_,?_,hx⟩;have t:Rep g w (ρv op) _:=hx;generalize hz:ρv op=z at t;cases t;simp[execOp,hz];obtain⟨rfl,rfl⟩:=u;refine⟨_,?_,hx⟩;have t:Rep g w (ρv op) _:=hx;generalize hz:ρv op=z at t;cases t;simp[execOp,hz];rename_i fn fs cs;refine⟨ρv op,?_,?_⟩;have t:Rep g w (ρv op) _:=hx;generalize hz:ρv op=z at t;cases t;cases fn<;>simp at u;simp[execOp,hz];simp[execOp,hz];cases fn<;>simp at u;obtain⟨_,rfl⟩:=u;exact hx;obtain⟨_,rfl⟩:=u;exact hx
 |loc l o =>simp only[qv,ZIx,ZIK]at u;obtain⟨rfl,rfl⟩:=u;refine⟨_,?_,hx⟩;obtain⟨_,h2⟩:=hx;simp[execOp,h2]
 |when b e=>simp[qv]at u
end
section
variable {P:Program} {g:G} {Z:Nat->Nat} {w:World} {L:Loc} {U:St}
def Zij{ρv lo hi mx es l h m}(hes:ZI (ZL g Z w L) ((QV lo++QV hi++QV mx).map ρv) es)(hl:WA [lo.isSome,hi.isSome,mx.isSome] es=sO [l,h,m]):Ji g w (lo.map ρv) l/\Ji g w (hi.map ρv) h/\Ji g w (mx.map ρv) m:=by
 have step:∀(o:Option Operand) (rest:List Operand) (es:List E) (bs:List Bool) (r:List (Option Int)),ZI (ZL g Z w L) ((QV o++rest).map ρv) es->WA (o.isSome::bs) es=sO r ->
   ∃x r' es',r=x::r'/\Ji g w (o.map ρv) x/\WA bs es'=sO r'/\ZI (ZL g Z w L) (rest.map ρv) es':=by
  intro o rest es bs r hes hl;cases o with
  |none =>simp only[Option.isSome_none,WA,ZIL]at hl;obtain⟨r',t,rfl⟩:=hl;exact⟨nO,r',es,rfl,trivial,t,by simpa[QV]using hes⟩
  |some x =>
   simp only[QV,Option.toList_some,List.singleton_append,ZIQ]at hes;cases hes with
   |cons hx ht =>
    rename_i e es;cases e with
    |d y =>cases y<;>simp only[Option.isSome_some,WA,reduceCtorEq,ZIL]at hl;obtain⟨r',t,rfl⟩:=hl;exact⟨_,r',es,rfl,⟨_,hx⟩,t,ht⟩
    |loc l o=>simp[WA]at hl
    |when c e=>simp[WA]at hl
 rw[ZI1]at hes;obtain⟨x,r1,ac,e1,b1,ae,u⟩:=step lo _ es _ _ hes hl;obtain⟨y,r2,ad,e2,b2,af,ab⟩:=step hi _ ac _ _ u ae;obtain⟨z,r3,es3,e3,b3,hl3,hes3⟩:=step mx [] ad _ _ (by simpa using ab) af;subst e2;subst e3;simp only[List.cons.injEq]at e1;obtain⟨rfl,rfl,rfl,rfl⟩:=e1;exact⟨b1,b2,b3⟩
def ZlY{v l}(h:Rep g w v (.str l)):∃s:ByteArray,v=.string s/\s.data.toList=l/\I l<=big:=by
 cases h with
 |str s _ h hb=>exact⟨s,rfl,h,hb⟩
def ZbZ{v b}(h:Rep g w v (.bool b)):v=.bool b:=by
 cases h;rfl
def ZuI{t}(hu:P.underlying t=sO .string){ρv x lo hi es}(hes:ZI (ZL g Z w L) ((x::(QV lo++QV hi)).map ρv) es){side r}(hq:qv L U (.sliceS lo.isSome hi.isSome) es=sO (side,r))(hs:side):
  ∃v,(Instr.sliceAt t (ρv x) (lo.map ρv) (hi.map ρv) nO).run P w=.ok v w/\ZL g Z w L v r:=by
 simp only[ZIQ]at hes;cases hes with
 |cons hx ht =>
  rename_i e es;cases e with
  |loc l o=>simp[qv]at hq
  |when c e=>simp[qv]at hq
  |d y =>
   cases y<;>(try(simp[qv]at hq;done));rename_i s;simp only[qv]at hq;split at hq;rename_i l h m hl;simp only[ZIx,ZIK]at hq;obtain⟨rfl,rfl⟩:=hq;obtain⟨b1,b2,b3⟩:=Zij (mx:=nO) (by simpa[QV]using ht) hl;obtain⟨a,b,c⟩:=hs;obtain⟨s0,ab,e0,hb0⟩:=ZlY hx;have u:s0.size=I s:=by rw[<-e0];rfl
   have hb:=ZaI (P:=P) (is:=false) (n:=s0.size) (cap:=s0.size) (mx:=nO) (mx':=nO) b1 b2 trivial ψ a (by rw[u];exact b) (by rw[u];simpa using c) ψ;simp only[Instr.sliceAt,Sem.run_bind,run_underlying hu,Result.andThen_ok,Instr.slice,ab];simp only[Option.isSome_none,ZI7,if_false,hb,Result.andThen_ok,Sem.run_pure,Sem.run_bind];refine⟨_,rfl,.str _ _ ?_ ?_⟩;rw[u];simp only[ByteArray.data_extract,Array.toList_extract,List.extract_eq_take_drop,e0];simp;omega;simp at hq
def Zvo{t el n}(hu:P.underlying t=sO (.slice el))(hsz:ZS P el=sO n){ρv x lo hi mx es}(hmh:mx.isSome=true->hi.isSome=true)(hes:ZI (ZL g Z w L) ((x::(QV lo++QV hi++QV mx)).map ρv) es){side r}(hq:qv L U (.slice n lo.isSome hi.isSome mx.isSome) es=sO (side,r))(hs:side):
  ∃v,(Instr.sliceAt t (ρv x) (lo.map ρv) (hi.map ρv) (mx.map ρv)).run P w=.ok v w/\ZL g Z w L v r:=by
 simp only[ZIQ]at hes;cases hes with
 |cons hx ht =>
  rename_i e es;cases e with
  |loc l o=>simp[qv]at hq
  |when c e=>simp[qv]at hq
  |d y =>simp only[qv]at hq;split at hq;rename_i l h m hl;simp only[ZIL,ZIK]at hq;obtain⟨⟨s',r'⟩,u,rfl,rfl⟩:=hq;obtain⟨b1,b2,b3⟩:=Zij ht hl;exact ZBo hu hsz hx b1 b2 b3 (by simpa using hmh) u hs;simp at hq
def ZuH{t el k n}(hu:P.underlying t=sO (.array k el))(hsz:ZS P el=sO n){ρv x lo hi mx es}(hmh:mx.isSome=true->hi.isSome=true)(hes:ZI (ZL g Z w L) ((x::(QV lo++QV hi++QV mx)).map ρv) es){side r}(hq:qv L U (.sliceA k n lo.isSome hi.isSome mx.isSome) es=sO (side,r))(hs:side):
  ∃v,(Instr.sliceAt t (ρv x) (lo.map ρv) (hi.map ρv) (mx.map ρv)).run P w=.ok v w/\ZL g Z w L v r:=by
 simp only[ZIQ]at hes;cases hes with
 |cons hx ht =>
  rename_i e es;cases e with
  |loc l o=>simp[qv]at hq
  |when c e=>simp[qv]at hq
  |d y =>
   cases y<;>(try(simp[qv]at hq;done));rename_i b o;simp only[qv]at hq;split at hq;rename_i l h m hl;simp only[ZIx,ZIK]at hq;obtain⟨rfl,rfl⟩:=hq;obtain⟨b1,b2,b3⟩:=Zij ht hl;obtain⟨h1,h2,h3,h4,h5⟩:=hs;have hb:=ZaI (P:=P) (is:=false) (n:=k) (cap:=k) b1 b2 b3 (by simpa using hmh) h1 h2 h3 h4;have ad:ρv x=.pointer (sO ⟨b,o,nO⟩):=by have ac:Rep g w (ρv x) (.ptr b o):=hx;generalize ρv x=xv at ac;cases ac;rfl
   have ab:Rep g w (.slice (sO ⟨b,(if m.getD (k:Int)=l.getD 0 then o else o+(l.getD 0).toNat*n),nO⟩) (h.getD (k:Int)-l.getD 0).toNat (m.getD (k:Int)-l.getD 0).toNat)
     (.msl b (if m.getD (k:Int)=l.getD 0 then o else o+(l.getD 0).toNat*n) (h.getD (k:Int)-l.getD 0).toNat (m.getD (k:Int)-l.getD 0).toNat n):=.msl _ _ _ _ _ ω ω
   refine⟨_,?_,ab⟩;have e1:(h.getD (k:Int)-l.getD 0).toNat=(h.getD (k:Int)).toNat-(l.getD 0).toNat:=ω;have e2:(m.getD (k:Int)-l.getD 0).toNat=(m.getD (k:Int)).toNat-(l.getD 0).toNat:=ω;by_cases hm:m.getD (k:Int)=l.getD 0;have u:(m.getD (k:Int)).toNat=(l.getD 0).toNat:=ω;simp only[Instr.sliceAt,ad,Instr.sureAddr,Sem.run_bind,run_underlying hu,Result.andThen_ok,Sem.run_pure,hb,YI hsz,hm,if_true,e1,u];simp;have u:¬(m.getD (k:Int)).toNat=(l.getD 0).toNat:=ω;simp only[Instr.sliceAt,ad,Instr.sureAddr,Sem.run_bind,run_underlying hu,Result.andThen_ok,Sem.run_pure,hb,YI hsz,hm,u,if_false,e1,e2,Kf];simp at hq
end
section
variable {P:Program} {g:G} {Z:Nat->Nat} {w:World} {L:Loc} {U:St}
def ZrW{s k f x e r side q}(hf:ZhC P s k=sO f)(hq0:(JX P f.type=sO true/\∃n,ZS P f.type=sO n/\q=.fldN f.offset n)\/(JX P f.type=sO false/\q=.fld1 f.offset))(hx:ZL g Z w L x e)(t:qv L U q [e]=sO (side,r))(hs:side):∃v,(Instr.field s x k).run P w=.ok v w/\ZL g Z w L v r:=by
 obtain⟨fs,hu,hk⟩:=ZrX hf;rcases hq0 with ⟨u,n,hn,rfl⟩|⟨u,rfl⟩
 .cases e with
  |d y =>
   cases y<;>simp only[qv,reduceCtorEq,ZIx,ZIK]at t;obtain⟨rfl,rfl⟩:=t;cases hx with
   |agg vs cells hl h one =>
    rename_i cs;refine⟨.agg (vs.toArray.extract f.offset (f.offset+n)),?_,?_⟩;simp[Instr.field,run_underlying hu,hk,asAgg,Go.part,Zgc u,YI hn];have:vs.toArray.extract f.offset (f.offset+n)=((vs.drop f.offset).take n).toArray:=by apply Array.ext';simp[List.extract_eq_take_drop,Nat.add_sub_cancel_left]
    rw[this];exact ZlW (by simpa[part]using((Ye hl h).drop f.offset).take n) (λv hv=>one v (List.mem_of_mem_drop (List.mem_of_mem_take (by simpa using hv))))
  |loc l o=>simp[qv]at t
  |when b e=>simp[qv]at t
 cases e with
 |d y =>
  cases y<;>simp only[qv,reduceCtorEq,ZIL,ZIK]at t;obtain⟨d,hd,rfl,rfl⟩:=t;cases hx with
  |agg vs cells hl h one =>obtain⟨v,hv,hr⟩:=Zb0 hl h hd;exact⟨v,by simp[Instr.field,run_underlying hu,hk,asAgg,Go.part,ZeB u,hv],hr⟩
 |loc l o=>simp[qv]at t
 |when b e=>simp[qv]at t
def ZxD{t x i ex ei r side}(hu:P.underlying t=sO .string)(hx:ZL g Z w L x ex)(hi:ZL g Z w L i ei)(hq:qv L U .idxS [ex,ei]=sO (side,r))(hs:side):∃v,(Instr.index t x i).run P w=.ok v w/\ZL g Z w L v r:=by
 cases ex with
 |d y =>
  cases y<;>(try(simp[qv]at hq;done));rename_i s;cases ei with
  |d z =>
   cases z<;>simp only[qv,reduceCtorEq,ZIx,ZIK]at hq;rename_i k j;obtain⟨rfl,hin⟩:=Qf hi;obtain⟨s0,rfl,e0,hb⟩:=ZlY hx;obtain⟨rfl,rfl⟩:=hq;obtain⟨h0,h1⟩:=hs;have hsz:s0.size=I s:=by rw[<-e0];rfl
   have ab:j.toNat<s0.size:=ω;have u:s0[j.toNat]?=sO (s.getD j.toNat 0):=by
    have h3:j.toNat<I s:=ω;have:s0[j.toNat]?=s0.data.toList[j.toNat]?:=by rw[getElem?_pos s0 j.toNat ab,Array.getElem?_toList,Array.getElem?_eq_getElem (show j.toNat<s0.data.size from ab)];rfl
    rw[this,e0];simp[ZIN,ZI4 h3]
   refine⟨_,?_,.int _ _ (Zt1 _)⟩;simp[Instr.index,asIntOf,run_underlying hu,h0,u]
  |loc l o=>simp[qv]at hq
  |when b e=>simp[qv]at hq
 |loc l o=>cases ei<;>simp[qv]at hq
 |when b e=>cases ei<;>simp[qv]at hq
def ZxC{t e m n b x i ex ei r side}(hu:P.underlying t=sO (.array m e))(ha:JX P e=sO b)(hsz:ZS P e=sO n)(hx:ZL g Z w L x ex)(hi:ZL g Z w L i ei)(hq:qv L U (.idxA m n !b) [ex,ei]=sO (side,r))(hs:side):∃v,(Instr.index t x i).run P w=.ok v w/\ZL g Z w L v r:=by
 cases ex with
 |d y =>
  cases y<;>(try(cases b<;>simp[qv]at hq;done));rename_i cs;cases ei with
  |d z =>
   cases z<;>(try(cases b<;>simp[qv]at hq;done));rename_i k j;obtain⟨rfl,hin⟩:=Qf hi;cases hx with
   |agg vs _ hn h one =>
   cases b with
   |false =>
    simp only[Bool.not_false,qv,ZIL,ZIK]at hq;obtain⟨d,hd,rfl,rfl⟩:=hq;obtain⟨h0,h1⟩:=hs;obtain⟨v,hv,hr⟩:=Zb0 hn h hd;refine⟨v,?_,hr⟩;simp only[Instr.index,asIntOf,Sem.run_bind,Sem.run_pure,Result.andThen_ok,run_underlying hu,YI hsz];rw[if_pos ⟨h0,h1⟩];have ac:vs.toArray[j.toNat*n]?=sO v:=by rw[List.getElem?_toArray];exact hv
    rw[Sem.run_bind,YI hsz];exact Zdp ha ac
   |true =>
    simp only[Bool.not_true,qv,ZIx,ZIK]at hq;obtain⟨rfl,rfl⟩:=hq;obtain⟨h0,h1,h2⟩:=hs;have hlen:j.toNat*n+n<=I vs:=ω;refine⟨.agg (vs.toArray.extract (j.toNat*n) (j.toNat*n+n)),?_,?_⟩;simp only[Instr.index,asIntOf,Sem.run_bind,Sem.run_pure,Result.andThen_ok,run_underlying hu,YI hsz];rw[if_pos ⟨h0,h1⟩];simp[Go.part,Zgc ha,YI hsz];have:(vs.toArray.extract (j.toNat*n) (j.toNat*n+n))=((vs.drop (j.toNat*n)).take n).toArray:=by apply Array.ext';simp[List.extract_eq_take_drop]
    rw[this];have ab:part cs (j.toNat*n) n=(cs.drop (j.toNat*n)).take n:=rfl;rw[ab];have u:=(Ye hn h).drop (j.toNat*n) |>.take n;exact .agg _ _ u.len u.get (λv hv=>one v (List.mem_of_mem_drop (List.mem_of_mem_take hv)))
  |loc l o=>cases b<;>simp[qv]at hq
  |when c e=>cases b<;>simp[qv]at hq
 |loc l o=>cases ei<;>cases b<;>simp[qv]at hq
 |when c e=>cases ei<;>cases b<;>simp[qv]at hq
def ZxH{t ts x e r side}(ht:ts[0]?=sO t)(hu:P.underlying t=sO .string)(hx:ZL g Z w L x e)(hq:qv L U .lenS [e]=sO (side,r))(ty):∃v,(Builtin.len_ ts ty #[x]).run P w=.ok v w/\ZL g Z w L v r:=by
 cases e with
 |d y =>
  cases y<;>simp only[qv,reduceCtorEq,ZIx,ZIK]at hq;obtain⟨rfl,rfl⟩:=hq;obtain⟨s0,rfl,e0,hb⟩:=ZlY hx;rename_i s;have u:s0.size=I s:=by rw[<-e0];rfl
  refine⟨_,?_,.int _ _ (KW hb)⟩;simp[Builtin.len_,ht,run_underlying hu,goInt,u]
 |loc l o=>simp[qv]at hq
 |when b e=>simp[qv]at hq
def ZxF{t el ts x e r side}(ht:ts[0]?=sO t)(hu:P.underlying t=sO (.slice el))(hx:ZL g Z w L x e)(u:qv L U .lenL [e]=sO (side,r))(ty):∃v,(Builtin.len_ ts ty #[x]).run P w=.ok v w/\ZL g Z w L v r:=by
 cases e with
 |d y =>
  cases y<;>simp only[qv,reduceCtorEq,ZIx,ZIK]at u;obtain⟨rfl,rfl⟩:=u;cases hx;exact⟨_,by simp[Builtin.len_,ht,run_underlying hu,goInt],.int _ _ (KW (n:=0) (Nat.zero_le _))⟩
  .obtain⟨rfl,rfl⟩:=u;cases hx with
   |sl0=>exact⟨_,by simp[Builtin.len_,ht,run_underlying hu,goInt],.int _ _ (KW (n:=0) (Nat.zero_le _))⟩
   |sl b o _ cap _ _ _ f hl hc hp hr one ht' hcap hbig =>exact⟨_,by simp[Builtin.len_,ht,run_underlying hu,goInt],.int _ _ (KW ω)⟩
  obtain⟨rfl,rfl⟩:=u;cases hx with
  |mslx=>exact⟨_,by simp[Builtin.len_,ht,run_underlying hu,goInt],.int _ _ (KW (n:=0) (Nat.zero_le _))⟩
  |msl _ _ _ _ _ h1 h2=>exact⟨_,by simp[Builtin.len_,ht,run_underlying hu,goInt],.int _ _ (KW ω)⟩
 |loc l o=>simp[qv]at u
 |when b e=>simp[qv]at u
def ZxE{t el n ts x e r side}(ht:ts[0]?=sO t)(hu:P.underlying t=sO (.array n el))(u:qv L U (.lenA n) [e]=sO (side,r))(hs:side)(ty):∃v,(Builtin.len_ ts ty #[x]).run P w=.ok v w/\ZL g Z w L v r:=by
 simp only[qv,ZIx,ZIK]at u;obtain⟨rfl,rfl⟩:=u;refine⟨.i n,?_,.int _ _ hs⟩;simp only[Builtin.len_,ht];cases x<;>simp[run_underlying hu,goInt]
def Zlf{x y ex u r side}(mx:Bool)(hx:ZL g Z w L x ex)(hy:ZL g Z w L y u)(t:qv L U (if mx then .max else .min) [ex,u]=sO (side,r))(ts ty):
  ∃v,(if mx then Builtin.max_ ts ty #[x,y] else Builtin.min_ ts ty #[x,y]).run P w=.ok v w/\ZL g Z w L v r:=by
 cases ex with
 |d a =>
  cases a<;>(try(cases mx<;>simp[qv]at t;done));rename_i k n;cases u with
  |d b =>
   cases b<;>(try(cases mx<;>simp[qv]at t;done));rename_i k' m;obtain⟨rfl,h1⟩:=Qf hx;obtain⟨rfl,h2⟩:=Qf hy;cases mx
   .simp only[qv,ZI7,if_false]at t;split at t<;>(try(simp at t;done));rename_i hk;subst hk;simp only[ZIx,ZIK]at t;obtain⟨rfl,rfl⟩:=t;refine⟨.int k (Min.min n m),?_,.int _ _ ?_⟩;have:(if m<n then m else n)=Min.min n m:=by split<;>omega
    simp[Builtin.min_,Builtin.min2,this];unfold inR at *;omega
   simp only[qv,if_true]at t;split at t<;>(try(simp at t;done));rename_i hk;subst hk;simp only[ZIx,ZIK]at t;obtain⟨rfl,rfl⟩:=t;refine⟨.int k (Max.max n m),?_,.int _ _ ?_⟩;have:(if m > n then m else n)=Max.max n m:=by split<;>omega
   simp[Builtin.max_,Builtin.max2,this];unfold inR at *;omega
  |loc l o=>cases mx<;>simp[qv]at t
  |when b e=>cases mx<;>simp[qv]at t
 |loc l o=>cases mx<;>cases u<;>simp[qv]at t
 |when b e=>cases mx<;>cases u<;>simp[qv]at t
def Zsp{x t xt ok z e r side}(hu:∃d,P.underlying t=sO d/\∀ms,d≠.interface ms)(hz:ZdQ P t=sO z)(hx:ZL g Z w L x e)(hq:qv L U (.tassert t ok z) [e]=sO (side,r)):∃v,(Instr.typeAssert x xt t ok).run P w=.ok v w/\ZL g Z w L v r:=by
 obtain⟨d,hu,u⟩:=hu;have ac:∃zv,(zeroValue t).run P w=.ok zv w/\Rep g w zv z:=by
  unfold ZdQ at hz;cases hi:P.info? t with
  |none=>simp[hi]at hz
  |some i =>
   cases ad:i.zero with
   |none=>simp[hi,ad]at hz
   |some zv=>simp only[hi,ad]at hz;exact⟨zv,by simp[zeroValue,typeInfo,hi,ad],ZjX hz⟩
 cases e with
 |d y =>
  cases y<;>(try(cases ok<;>simp[qv]at hq;done))
  .rename_i t' v';cases hx with
   |iface _ v _ hv =>
    cases ok;·simp only[qv]at hq;split at hq<;>(try(simp at hq;done));rename_i ab;subst ab;simp only[ZIx,ZIK]at hq;obtain⟨rfl,rfl⟩:=hq;refine⟨v,?_,hv⟩;simp only[Instr.typeAssert,Sem.run_bind,run_underlying hu,Result.andThen_ok];cases d<;>first|(simp;done)|(exact absurd rfl (u _))
    simp only[qv]at hq;split at hq<;>(try(simp at hq;done));rename_i ab;subst ab;simp only[ZIx,ZIK]at hq;obtain⟨rfl,rfl⟩:=hq;refine⟨.tuple #[v,.bool true],?_,?_⟩;·simp only[Instr.typeAssert,Sem.run_bind,run_underlying hu,Result.andThen_ok];cases d<;>first|(simp;done)|(exact absurd rfl (u _))
    exact .tup [v,.bool true] _ rfl (ZI.get (.cons hv (.cons (.bool true) .nil)))
  cases hx;cases ok;simp[qv]at hq;simp only[qv,ZIx,ZIK]at hq;obtain⟨rfl,rfl⟩:=hq;obtain⟨zv,h1,h2⟩:=ac;refine⟨.tuple #[zv,.bool false],?_,?_⟩;·simp only[Instr.typeAssert,Sem.run_bind,run_underlying hu,Result.andThen_ok];cases d<;>first|(simp[h1];done)|(exact absurd rfl (u _))
  exact .tup [zv,.bool false] _ rfl (ZI.get (.cons h2 (.cons (.bool false) .nil)))
 |loc l o=>cases ok<;>simp[qv]at hq
 |when b e=>cases ok<;>simp[qv]at hq
end
section
variable {P:Program} {g:G} {w:World}
def ZbJ{t k}(h:Qg P t=sO k):(k=.bool/\P.underlying t=sO .bool)\/(k=.int/\∃ik,P.underlying t=sO (.int ik))\/(k=.str/\P.underlying t=sO .string):=by
 unfold Qg at h;split at h<;>simp at h<;>subst h<;>rename_i u;exact .inl ⟨rfl,u⟩;exact .inr (.inl ⟨rfl,_,u⟩);exact .inr (.inr ⟨rfl,u⟩)
def ZeI{t kp}(h:J5 P t=sO kp):(∃k,kp=.sc k/\Qg P t=sO k) \/
  ∃u l n,kp=.st l/\P.underlying t=sO (.struct u)/\ZS P t=sO n/\Kx P u.toList=sO l/\l.map (·.1)=ZIM n/\P.stoodInHeld t=false:=by
 unfold J5 at h;split at h;rename_i k hk;simp at h;exact .inl ⟨k,h.symm,hk⟩;split at h<;>(try(simp at h;done));rename_i u n hu hn;split at h<;>(try(simp at h;done));rename_i l hl;split at h<;>simp at h;rename_i hc;exact .inr ⟨u,l,n,h.symm,hu,hn,hl,hc.1,hc.2⟩
def ZmQ{kt kp}(hk:J5 P kt=sO kp){k1 k2 d1 d2}(h1:Rep g w k1 d1)(h2:Rep g w k2 d2){b}(h:Kr kp d1 d2=sO b):
  (Op.equal kt k1 k2).run P w=.ok b w:=by
 rcases ZeI hk with ⟨k,rfl,hs⟩|⟨fs,l,n,rfl,hu,hn,hl,_,ab⟩;exact Zhf hs h1 h2 h 9999;cases h1<;>cases h2<;>simp only[Kr,reduceCtorEq]at h;rename_i v1 xs t r1 o1 v2 ys u r2 o2;split at h<;>(try(simp at h;done));have hf:P.underlying kt=sO (.struct (P.fieldsOf kt)):=by simp[Program.fieldsOf,hu]
 refine(run_equalIn_struct w 9999 kt _ _ hf ab).trans ?_;simp only[Program.fieldsOf,hu];exact ZdC t u r1 r2 9998 _ l b hl h
def Zdb(em n){vs:List Value}{ds}(hn:I vs=I ds):∀(fs l b),Kx P fs=sO l->Wo ds ds l=sO b ->
  (do
   for f in fs do
    if f.name ≠ "_" then Instr.checkKey em (n+1) f.type (<-Go.part f.type vs.toArray f.offset):Sem Unit).run P w=.ok () w
 | [],_,_,_,_=>by simp
 |f::fs,l,b,hl,hb=>by
  simp only[Kx]at hl;by_cases hf:f.name = "_";simp only[hf,if_true]at hl;have:=Zdb em n hn fs l b hl hb;simp only[List.forIn_cons,hf,ne_eq,not_true_eq_false,if_false,Sem.run_bind,Sem.run_pure,Result.andThen_ok]at this⊢;exact this;simp only[hf,if_false]at hl;split at hl<;>simp only[ZIx,reduceCtorEq]at hl;rename_i k l' hk ab;subst hl;simp only[Wo]at hb;split at hb<;>(try(simp at hb;done));rename_i x y hx hy;split at hb<;>(try(simp at hb;done));rename_i b1 b2 hb1 t;have ih:=Zdb em n hn fs l' b2 ab t;have ac:f.offset<I vs:=by rw[hn];exact(List.getElem?_eq_some_iff.1 hx).1
  have hv:vs.toArray[f.offset]?=sO vs[f.offset]:=by simp[ac]
  have hp:=Zdp (P:=P) (w:=w) (Zbz hk) hv;have u:(Instr.checkKey em (n+1) f.type vs[f.offset]).run P w=.ok () w:=by rcases ZbJ hk with ⟨_,hu⟩|⟨_,ik,hu⟩|⟨_,hu⟩<;>simp[Instr.checkKey,run_underlying hu]
  simp only[List.forIn_cons,hf,ne_eq,not_false_eq_true,if_true,Sem.run_bind,hp,Result.andThen_ok,u,Sem.run_pure]at ih⊢;exact ih
def Ztr{kt kp}(hk:J5 P kt=sO kp){k d}(h:Rep g w k d)(t:QA kp d=true)(em n):(Instr.checkKey em (n+2) kt k).run P w=.ok () w:=by
 rcases ZeI hk with ⟨sk,rfl,hs⟩|⟨fs,l,m,rfl,u,hn,hl,_,hst⟩;rcases ZbJ hs with ⟨_,u⟩|⟨_,ik,u⟩|⟨_,u⟩<;>simp[Instr.checkKey,run_underlying u];cases h<;>simp[QA,Kr]at t;rename_i vs cells hn r o;obtain⟨b,hb⟩:=Option.isSome_iff_exists.1 t;split at hb<;>(try(grind;done));have:=Zdb (P:=P) (w:=w) em n hn fs.toList l b hl hb;rw[Instr.checkKey];simp[run_underlying u];first
  | (simp at this;simp[this])
  |simp
def Zbq{u kp}(hk:J5 P u=sO kp){k d}(h:Rep g w k d)(t:QA kp d=true)(em):(Instr.checkKey em 10000 u k).run P w=.ok () w:=Ztr hk h t em 9998
def Zri{kp k}:∀{es r},ZbD kp k es=sO r->∃t,Q2 kp k es=sO t/\r=t.bind λi=>(es[i]?).map (·.2)
 | [],r,h=>by simp[ZbD]at h;exact⟨nO,rfl,h.symm⟩
 |e::es,r,h=>by simp[ZbD]at h;split at h;rename_i u;simp at h;exact⟨sO 0,by simp[Q2,u],by simp[h]⟩;rename_i u;obtain⟨t,h1,h2⟩:=Zri h;refine⟨t.map (· + 1),by simp[Q2,u,h1],?_⟩;rw[h2];cases t<;>simp;grind
def Zn1{kp:KP}{k v:D}:∀{es t:List (D×D)},JL kp k v es=sO t->∃u,Q2 kp k es=sO u/\t=match u with
  |none=>es++[(k,v)]
  |some i=>es.set i (k,v)
 | [],t,h=>by simp[JL]at h;exact⟨nO,rfl,h.symm⟩
 |e::es,t,h=>by simp[JL]at h;split at h;rename_i he;simp at h;exact⟨sO 0,by simp[Q2,he],by simp[h]⟩;rename_i he;simp at h;obtain⟨r,hr,rfl⟩:=h;obtain⟨u,h1,h2⟩:=Zn1 hr;refine⟨u.map (· + 1),by simp[Q2,he,h1],?_⟩;rw[h2];cases u<;>simp;grind
def ZtG{kp:KP}{k:D}:∀{es t:List (D×D)},ZgU kp k es=sO t->∃u,Q2 kp k es=sO u/\t=match u with
  |none=>es
  |some i=>es.eraseIdx i
 | [],t,h=>by simp only[ZgU,ZIx]at h;exact⟨nO,rfl,h.symm⟩
 |e::es,t,h=>by simp[ZgU]at h;split at h;rename_i he;simp at h;exact⟨sO 0,by simp[Q2,he],by simp[h]⟩;rename_i he;simp at h;obtain⟨r,hr,rfl⟩:=h;obtain⟨u,h1,h2⟩:=ZtG hr;refine⟨u.map (· + 1),by simp[Q2,he,h1],?_⟩;rw[h2];cases u<;>simp;grind
def Zdj{kp k}:∀{es i},Q2 kp k es=sO (sO i)->i<I es/\∀e,es[i]?=sO e->Kr kp k e.1=sO true
 | [],i,h=>by cases h
 |e::es,i,h=>by
  simp[Q2]at h;split at h;rename_i he;cases h;exact⟨ψ,λx t=>by cases t;exact he⟩
  .simp at h;obtain⟨io,u,h2⟩:=h;cases io with
   |none=>grind
   |some j =>obtain⟨j',h3,h4⟩:=h2;cases h3;subst h4;obtain⟨a,b⟩:=Zdj u;exact⟨by simp;omega,λx t=>b x (by simpa using t)⟩
  grind
def ZoF{kt kp}(hk:J5 P kt=sO kp){k dk}(hr:Rep g w k dk):∀(es ds n io),I es=I ds ->
  (∀(i:Nat) (e d),es[i]?=sO e->ds[i]?=sO d->Rep g w e.key d.1)->Q2 kp dk ds=sO io ->
  (Instr.findAsking kt k es n).run P w=.ok (io.bind λi=>(es[i]?).map λe=>(n+i,e.val)) w
 | [],[],n,io,_,_,h=>by cases h;simp[Instr.findAsking]
 |e::es,d::ds,n,io,hn,hkey,h=>by simp[Q2]at h;have h0:=hkey 0 e d ψ ψ;split at h;rename_i u;cases h;simp[Instr.findAsking,ZmQ hk hr h0 u];rename_i u;simp at h;obtain⟨t,h1,rfl⟩:=h;have ih:=ZoF hk hr es ds (n+1) t (by simpa using hn) (λi e d a b=>hkey (i+1) e d (by simpa using a) (by simpa using b)) h1;simp[Instr.findAsking,ZmQ hk hr h0 u,ih];cases t<;>simp[Nat.add_assoc,Nat.add_comm 1];grind
 | [],_::_,_,_,hn,_,_=>by grind
 |_::_,[],_,_,hn,_,_=>by grind
def Zpl{t k u}(hs:Qg P t=sO k)(hu:P.underlying t=sO u){k1 k2 d1 d2}(h1:Rep g w k1 d1)(h2:Rep g w k2 d2){b}(h:Yj k d1 d2=sO b):
  Instr.sameNow u k1 k2=sO b:=by
 rcases ZbJ hs with ⟨rfl,ab⟩|⟨rfl,ik,ab⟩|⟨rfl,ab⟩<;>(rw[hu]at ab;simp only[ZIx]at ab;subst ab);cases h1<;>cases h2<;>cases h;simp[Instr.sameNow];rename_i a b;cases a<;>cases b<;>rfl;cases h1<;>cases h2<;>simp only[Yj,reduceCtorEq]at h;split at h<;>simp only[reduceCtorEq,ZIx]at h;rename_i hk;subst h;simp only[Instr.sameNow,hk,if_true,ZIx];rename_i a _ _ b _;rw[Bool.eq_iff_iff];simp;cases h1<;>cases h2<;>simp only[Yj,reduceCtorEq,ZIx]at h;rename_i s1 a e1 _ s2 b e2 _;subst h;simp only[Instr.sameNow,ZIx];rw[beq_toListBytes,Zdu e1,Zdu e2,Bool.eq_iff_iff];simp
def ZoH{t sk u}(hs:Qg P t=sO sk)(hu:P.underlying t=sO u){k dk}(hr:Rep g w k dk):∀(es ds n io),I es=I ds ->
  (∀(i:Nat) (e d),es[i]?=sO e->ds[i]?=sO d->Rep g w e.key d.1)->Q2 (.sc sk) dk ds=sO io ->
  Instr.findNow u k es n=sO (io.bind λi=>(es[i]?).map λe=>(n+i,e.val))
 | [],[],n,io,_,_,h=>by simp only[Q2,ZIx]at h;subst h;simp[Instr.findNow]
 |e::es,d::ds,n,io,hn,hkey,h=>by simp only[Q2]at h;have h0:=hkey 0 e d ψ ψ;split at h;rename_i he;simp only[ZIx]at h;subst h;simp[Instr.findNow,Zpl hs hu hr h0 he];rename_i he;simp only[ZIL]at h;obtain⟨ab,h1,rfl⟩:=h;have ih:=ZoH hs hu hr es ds (n+1) ab (by simpa using hn) (λi e d a b=>hkey (i+1) e d (by simpa using a) (by simpa using b)) h1;simp only[Instr.findNow,Zpl hs hu hr h0 he,ih];cases ab<;>simp[Nat.add_assoc,Nat.add_comm 1];simp at h
 | [],_::_,_,_,hn,_,_=>by simp at hn
 |_::_,[],_,_,hn,_,_=>by simp at hn
def ZcA{kt kp}(hk:J5 P kt=sO kp){k dk}(hr:Rep g w k dk){es ds io}(hn:I es=I ds)(hkey:∀(i:Nat) (e:MapEntry) (d:D×D),es[i]?=sO e->ds[i]?=sO d->Rep g w e.key d.1)(h:Q2 kp dk ds=sO io):
  (Instr.findKey kt k es).run P w=.ok (io.bind λi=>(es[i]?).map λe=>(i,e.val)) w:=by
 rcases ZeI hk with ⟨sk,rfl,hs⟩|⟨fs,l,m,rfl,t,_,_,_,_⟩;obtain⟨u,t⟩:∃u,P.underlying kt=sO u:=by rcases ZbJ hs with ⟨_,t⟩|⟨_,ik,t⟩|⟨_,t⟩<;>exact⟨_,t⟩
 have:=ZoH hs t hr es ds 0 io hn hkey h;simp[Instr.findKey,run_underlying t,this];have ha:=ZoF hk hr es ds 0 io hn hkey h;cases es with
 |nil =>
  cases ds with
  |nil=>cases h;simp[Instr.findKey,run_underlying t,Instr.findNow]
  |cons=>grind
 |cons e es =>
  have:Instr.findNow (.struct fs) k (e::es) 0=nO:=by simp[Instr.findNow,Instr.sameNow]
  simp[Instr.findKey,run_underlying t,this,ha]
def ZfC{U}(t:Yf g U w){b es}(h:KY U b=sO es):WJ g w b (.map es):=by
 unfold KY at h;split at h<;>simp at h;rename_i c u;subst h;exact t.obj b _ u
def ZuS{t z}(hz:ZdQ P t=sO z):∃zv,(zeroValue t).run P w=.ok zv w/\Rep g w zv z:=by
 unfold ZdQ at hz;cases hi:P.info? t with
 |none=>grind
 |some i =>
  cases u:i.zero with
  |none=>grind
  |some zv=>simp[hi,u]at hz;exact⟨zv,by simp[zeroValue,typeInfo,hi,u],ZjX hz⟩
def ZiW{a b x y}(t:Rep g w a x)(u:Rep g w b y):Rep g w (.tuple #[a,b]) (.tup [x,y]) :=
 .tup [a,b] _ rfl (ZI.get (.cons t (.cons u .nil)))
def ZuG{Z L U}(hS:Yf g U w){t kt et kp z ok}(hu:P.underlying t=sO (.map kt et))(hk:J5 P kt=sO kp)(hz:ZdQ P et=sO z){m k em ek r side}(hm:ZL g Z w L m em)(hkk:ZL g Z w L k ek)(hq:qv L U (.lookup kp z ok) [em,ek]=sO (side,r))(hs:side):∃v,(Instr.lookup t m k ok).run P w=.ok v w/\ZL g Z w L v r:=by
 obtain⟨zv,ac,ad⟩:=ZuS (P:=P) (g:=g) (w:=w) hz;cases em with
 |loc l o=>cases ek<;>simp[qv]at hq
 |when c e=>cases ek<;>simp[qv]at hq
 |d dm =>
  cases ek with
  |loc l o=>cases dm<;>simp[qv]at hq
  |when c e=>cases dm<;>simp[qv]at hq
  |d dk =>
   have hr:Rep g w k dk:=hkk;cases dm<;>(try(simp[qv]at hq;done))
   .rename_i b;simp only[qv]at hq;split at hq<;>(try(simp at hq;done));rename_i es aj;simp only[ZIL,ZIK]at hq;obtain⟨ro,hf,rfl,rfl⟩:=hq;obtain⟨hp0,en,clock,hb,ag,h3,h4,h5,h6⟩:=ZfC hS aj;obtain⟨io,af,ae⟩:=Zri hf;cases hm;have u:=ZcA (P:=P) hk hr (es:=en.toList) (by simpa using ag) (λi e d a b=>h3 i e d (by simpa using a) b) af;have ab:=Zbq (P:=P) hk hr hs en.isEmpty;cases io with
    |none =>subst ae;cases ok;exact⟨zv,by simp[Instr.lookup,run_underlying hu,MapKept.run_getObj_map hb,ab,u,ac],by simpa[Wj,ZL]using ad⟩;exact⟨.tuple #[zv,.bool false],by simp[Instr.lookup,run_underlying hu,MapKept.run_getObj_map hb,ab,u,ac],by simpa[Wj,ZL]using ZiW ad (.bool false)⟩
    |some i =>
     obtain⟨ak,_⟩:=Zdj af;have ah:i<en.size:=ω;have he:en[i]?=sO en[i]:=by simp[ah]
     have hd:es[i]?=sO es[i]:=by simp[ak]
     have ai:=h4 i _ _ he hd;simp[hd]at ae;subst ae;simp[he]at u;cases ok;exact⟨en[i].val,by simp[Instr.lookup,run_underlying hu,MapKept.run_getObj_map hb,ab,u],by simpa[Wj,ZL]using ai⟩;exact⟨.tuple #[en[i].val,.bool true],by simp[Instr.lookup,run_underlying hu,MapKept.run_getObj_map hb,ab,u],by simpa[Wj,ZL]using ZiW ai (.bool true)⟩
   cases hq;cases hm;have ab:=Zbq (P:=P) hk hr hs true;have u:=ZcA (P:=P) hk hr (es:=[]) (ds:=[]) rfl (λi e d a b=>by simp at a) (io:=nO) rfl;cases ok;exact⟨zv,by simp[Instr.lookup,run_underlying hu,ab,u,ac],by simpa[Wj,ZL]using ad⟩;exact⟨.tuple #[zv,.bool false],by simp[Instr.lookup,run_underlying hu,ab,u,ac],by simpa[Wj,ZL]using ZiW ad (.bool false)⟩
def ZxG{Z L U}(hS:Yf g U w){t kt et ts x e r side}(ht:ts[0]?=sO t)(hu:P.underlying t=sO (.map kt et))(hx:ZL g Z w L x e)(hq:qv L U .lenM [e]=sO (side,r))(hs:side)(ty):∃v,(Builtin.len_ ts ty #[x]).run P w=.ok v w/\ZL g Z w L v r:=by
 cases e with
 |loc l o=>cases hq
 |when c e=>cases hq
 |d y =>
  cases y<;>(try(cases hq;done));·simp[qv]at hq;split at hq<;>(try(grind;done));rename_i es ab;cases hq;obtain⟨hp0,en,clock,hb,u,_⟩:=ZfC hS ab;cases hx;exact⟨.i (I es),by simp[Builtin.len_,ht,run_underlying hu,MapKept.run_getObj_map hb,goInt,u],.int _ _ (KW hs)⟩
  cases hq;cases hx;exact⟨.i 0,by simp[Builtin.len_,ht,run_underlying hu,goInt],.int _ _ (KW (n:=0) (Nat.zero_le _))⟩
end
section
variable {P:Program} {g:G} {Z:Nat->Nat} {w:World} {L:Loc} {U:St}
def Zvi{t}{parts:Array (Nat×Operand)}{z pl zs ρv es}(hz:(P.info? t).bind (·.zero)=sO z)(hp:Qe P t (parts.toList.map (·.1))=sO pl)(hsz:Zlc P t=true)(hzs:Zbr z.cells.toList=sO zs)(hes:ZI (ZL g Z w L) ((parts.toList.map (·.2)).map ρv) es){side r}(hq:qv L U (.build zs pl) es=sO (side,r)):∃v,(Instr.build t (parts.map λ(i,x)=>(i,ρv x))).run P w=.ok v w/\ZL g Z w L v r:=by
 simp[qv]at hq;split at hq<;>(try(grind;done));rename_i ds ac;simp only[ZIL]at hq;obtain⟨cs,ab,rfl,rfl⟩:=hq;have ad:∃d,P.underlying t=sO d/\((∃fs,d=.struct fs)\/∃m e i,d=.array m e/\P.info? e=sO i):=by
  unfold Zlc at hsz;split at hsz;rename_i fs hu;exact⟨_,hu,.inl ⟨fs,rfl⟩⟩
  .rename_i m e hu;unfold ZS at hsz;cases hi:P.info? e with
   |none=>grind
   |some i=>exact⟨_,hu,.inr ⟨m,e,i,rfl,hi⟩⟩
  grind
 have u:=K5 hes ac;obtain⟨cv,h1,h2⟩:=Zz2 (g:=g) (w:=w) (parts:=parts.toList.map λ(i,x)=>(i,ρv x)) hz (by simpa[Function.comp_def]using hp) hsz hzs
  (by simpa[Function.comp_def]using u) ab ad
 refine⟨_,?_,h2⟩;rw[<-h1]
 congr 2
 apply Array.ext';simp
def ZxI{f}{first caps:Array Operand}{ρv es}(hes:ZI (ZL g Z w L) ((first.toList++caps.toList).map ρv) es){side r}(hq:qv L U (.mkfn f first.size) es=sO (side,r)):∃v,(Instr.makeFunc f (first.map ρv) (caps.map ρv)).run P w=.ok v w/\ZL g Z w L v r:=by
 simp only[qv,ZIL]at hq;obtain⟨ds,t,rfl,rfl⟩:=hq;have h:=K5 hes t;have u:=h.take first.size
 have h2:=h.drop first.size
 have e1:((first.toList++caps.toList).map ρv).take first.size=(first.map ρv).toList:=by simp
 have e2:((first.toList++caps.toList).map ρv).drop first.size=(caps.map ρv).toList:=by simp
 rw[e1]at u;rw[e2]at h2;have:=Rep.fn (g:=g) (w:=w) f _ _ _ _ u.len h2.len u.get h2.get;exact⟨_,by simp only[Instr.makeFunc,Sem.run_pure],this⟩
def Zaz{α:Type}{a:Array α}(h:a.size=1):∃x,a = #[x]:=by
 obtain⟨l⟩:=a
 match l,h with
 | [x],_=>exact⟨x,rfl⟩
def ZgH{α:Type}{a:Array α}(h:a.size=2):∃x y,a = #[x,y]:=by
 obtain⟨l⟩:=a
 match l,h with
 | [x,y],_=>exact⟨x,y,rfl⟩
def ZCB{o q xs}(hc:cq P o=sO (q,xs)){ρv es}(hes:ZI (ZL g Z w L) (xs.map ρv) es)(hL:∀l cs,Zh L l=sO cs->YJ g w (Z l) cs)(hS:Yf g U w){side e}(hq:qv L U q es=sO (side,e))(hs:side){dst ty pos af gd}:
  ∃v,(execOp ρv ⟨dst,o,ty,pos,af,gd⟩).run P w=.ok (.value v) w/\ZL g Z w L v e:=by
 cases o<;>(try(simp[cq]at hc;done));case move x =>simp only[cq,ZIx,ZIK]at hc;obtain⟨rfl,rfl⟩:=hc;obtain⟨e0,rfl,h0⟩:=Wt hes;simp only[qv,ZIx,ZIK]at hq;obtain⟨rfl,rfl⟩:=hq;exact⟨_,rfl,h0⟩
 case assign x =>simp only[cq,ZIx,ZIK]at hc;obtain⟨rfl,rfl⟩:=hc;obtain⟨e0,rfl,h0⟩:=Wt hes;simp only[qv,ZIx,ZIK]at hq;obtain⟨rfl,rfl⟩:=hq;exact⟨_,rfl,h0⟩
 case load t a =>simp only[cq]at hc;split at hc<;>(try(simp at hc;done));rename_i n ha u;simp only[ZIx,ZIK]at hc;obtain⟨rfl,rfl⟩:=hc;obtain⟨e0,rfl,h0⟩:=Wt hes;exact ev (Zvm ha u h0 hL hS hq hs);rename_i n ha u;simp only[ZIx,ZIK]at hc;obtain⟨rfl,rfl⟩:=hc;obtain⟨e0,rfl,h0⟩:=Wt hes;exact ev (Zvl ha h0 hL hS hq)
 case nilCheck x =>simp only[cq,ZIx,ZIK]at hc;obtain⟨rfl,rfl⟩:=hc;obtain⟨e0,rfl,h0⟩:=Wt hes;exact Zvn rfl h0 hq dst ty pos af gd
 case binOp op t x y yt =>
  simp only[cq,ZIx,ZIK]at hc;obtain⟨rfl,rfl⟩:=hc;obtain⟨e1,e2,rfl,h1,h2⟩:=JY hes;cases e1 with
  |d a =>
   cases e2 with
   |d b =>simp only[qv,ZIL,ZIK]at hq;obtain⟨⟨s',d⟩,hd,rfl,rfl⟩:=hq;exact ev (ZBP (P:=P) h1 h2 hd hs)
   |loc l o=>simp[qv]at hq
   |when b e=>simp[qv]at hq
  |loc l o=>cases e2<;>simp[qv]at hq
  |when b e=>cases e2<;>simp[qv]at hq
 case unOp op t x =>
  cases op<;>simp only[cq,ZIx,ZIK,reduceCtorEq]at hc;all_goals obtain⟨rfl,rfl⟩:=hc
  all_goals obtain⟨e0,rfl,h0⟩:=Wt hes
  all_goals cases e0 with
   |loc l o=>simp[qv]at hq
   |when b e=>simp[qv]at hq
   |d y=>?_
  cases y<;>simp only[qv,reduceCtorEq,ZIx,ZIK]at hq;obtain⟨rfl,rfl⟩:=hq;obtain⟨hv,ag⟩:=Qf h0;exact ev ⟨.int _ _,by simp only[hv,Op.unary,Op.intArith,Sem.run_pure,Int.zero_sub];rw[Zai _ _ hs],.int _ _ hs⟩;cases y<;>simp only[qv,reduceCtorEq,ZIx,ZIK]at hq;obtain⟨rfl,rfl⟩:=hq;obtain⟨hv,ag⟩:=Qf h0;exact ev ⟨_,by simp only[hv,Op.unary,Op.intBits,Sem.run_pure];rfl,.int _ _ Zh6⟩;cases y<;>simp only[qv,reduceCtorEq,ZIx,ZIK]at hq;obtain⟨rfl,rfl⟩:=hq;have hv:=ZbZ h0;exact ev ⟨_,by simp only[hv,Op.unary,Sem.run_pure],.bool _⟩
 case convert s d x =>simp only[cq,ZIL,ZIK]at hc;obtain⟨c,hc,rfl,rfl⟩:=hc;obtain⟨e0,rfl,h0⟩:=Wt hes;exact ev (ZxB hS hc h0 hq hs)
 case fieldAddr s x k =>simp only[cq]at hc;split at hc<;>(try(simp at hc;done));rename_i f hf;split at hc<;>(try(simp at hc;done));rename_i n hn;split at hc<;>(try(simp at hc;done));rename_i ah;simp only[ZIx,ZIK]at hc;obtain⟨rfl,rfl⟩:=hc;obtain⟨e0,rfl,h0⟩:=Wt hes;exact ev (Zvj hf hn ah h0 hq)
 case field s x k =>simp only[cq]at hc;split at hc<;>(try(simp at hc;done));rename_i f hf;split at hc<;>(try(simp at hc;done));rename_i n ha hn;simp only[ZIx,ZIK]at hc;obtain⟨rfl,rfl⟩:=hc;obtain⟨e0,rfl,h0⟩:=Wt hes;exact ev (ZrW hf (.inl ⟨ha,n,hn,rfl⟩) h0 hq hs);rename_i n ha hn;simp only[ZIx,ZIK]at hc;obtain⟨rfl,rfl⟩:=hc;obtain⟨e0,rfl,h0⟩:=Wt hes;exact ev (ZrW hf (.inr ⟨ha,rfl⟩) h0 hq hs)
 case indexAddr t x i =>simp only[cq]at hc;split at hc<;>(try(simp at hc;done));rename_i el hu;simp only[ZIL,ZIK]at hc;obtain⟨n,hn,rfl,rfl⟩:=hc;obtain⟨e1,e2,rfl,h1,h2⟩:=JY hes;exact ev (Zvk hu hn h1 h2 hq hs);rename_i m el hu;simp only[ZIL,ZIK]at hc;obtain⟨n,hn,rfl,rfl⟩:=hc;obtain⟨e1,e2,rfl,h1,h2⟩:=JY hes;exact ev (ZuF hu hn h1 h2 hq hs)
 case index t x i =>simp only[cq]at hc;split at hc<;>(try(simp at hc;done));rename_i hu;simp only[ZIx,ZIK]at hc;obtain⟨rfl,rfl⟩:=hc;obtain⟨e1,e2,rfl,h1,h2⟩:=JY hes;exact ev (ZxD hu h1 h2 hq hs);rename_i m el hu;split at hc<;>simp only[ZIx,ZIK,reduceCtorEq]at hc;rename_i b n hb hn;obtain⟨rfl,rfl⟩:=hc;obtain⟨e1,e2,rfl,h1,h2⟩:=JY hes;exact ev (ZxC hu hb hn h1 h2 hq hs)
 case extract x k =>
  simp only[cq,ZIx,ZIK]at hc;obtain⟨rfl,rfl⟩:=hc;obtain⟨e0,rfl,h0⟩:=Wt hes;cases e0 with
  |loc l o=>simp[qv]at hq
  |when b e=>simp[qv]at hq
  |d y =>
   cases y<;>simp only[qv,reduceCtorEq,ZIL,ZIK]at hq;obtain⟨d,hd,rfl,rfl⟩:=hq;have ae:Rep g w (ρv x) _:=h0;generalize hz:ρv x=z at ae;cases ae with
   |tup vs _ hn h =>obtain⟨v,hv,hr⟩:=Zb0 hn h hd;exact ev ⟨v,by simp[Instr.extract,hz,hv],hr⟩
 case build t parts =>simp only[cq]at hc;split at hc<;>(try(simp at hc;done));rename_i z pl hz hp;split at hc<;>(try(simp at hc;done));rename_i u;simp only[ZIL,ZIK]at hc;obtain⟨zs,ai,rfl,rfl⟩:=hc;exact ev (Zvi hz hp u ai hes hq)
 case makeFunc f first caps =>simp only[cq,ZIx,ZIK]at hc;obtain⟨rfl,rfl⟩:=hc;exact ev (ZxI hes hq)
 case makeInterface t x =>
  simp only[cq]at hc;split at hc<;>(try(simp at hc;done));rename_i d ac hu;simp only[ZIx,ZIK]at hc;obtain⟨rfl,rfl⟩:=hc;obtain⟨e0,rfl,h0⟩:=Wt hes;cases e0 with
  |loc l o=>simp[qv]at hq
  |when b e=>simp[qv]at hq
  |d y =>simp only[qv,ZIx,ZIK]at hq;obtain⟨rfl,rfl⟩:=hq;refine ev ⟨.iface t (ρv x),?_,.iface _ _ _ h0⟩;refine run_makeInterface w t (ρv x) ?_;unfold Program.concrete;rw[hu];cases d<;>first|rfl|(exact absurd rfl (ac _))
 case slice t x lo hi mx =>
  simp only[cq]at hc;split at hc<;>(try(simp at hc;done))
  .rename_i hu;split at hc<;>(try(simp at hc;done));rename_i ab;simp only[ZIx,ZIK]at hc;obtain⟨rfl,rfl⟩:=hc;cases mx with
   |some _=>simp at ab
   |none=>exact ev (ZuI hu hes hq hs)
  .rename_i el hu;split at hc<;>(try(simp at hc;done));rename_i ab;simp only[ZIL,ZIK]at hc;obtain⟨n,hn,rfl,rfl⟩:=hc;exact ev (Zvo hu hn (by cases mx<;>cases hi<;>simp_all) hes hq hs)
  rename_i k el hu;split at hc<;>(try(simp at hc;done));rename_i ab;simp only[ZIL,ZIK]at hc;obtain⟨n,hn,rfl,rfl⟩:=hc;exact ev (ZuH hu hn (by cases mx<;>cases hi<;>simp_all) hes hq hs)
 case typeAssert x xt t ok =>simp only[cq]at hc;split at hc<;>(try(simp at hc;done));rename_i d ac hu;simp only[ZIL,ZIK]at hc;obtain⟨z,hz,rfl,rfl⟩:=hc;obtain⟨e0,rfl,h0⟩:=Wt hes;exact ev (Zsp ⟨d,hu,λms hm=>ac ms (hm▸rfl)⟩ hz h0 hq)
 case lookup t m k ok =>simp only[cq]at hc;split at hc<;>(try(simp at hc;done));rename_i kt et hu;split at hc<;>(try(simp at hc;done));rename_i kp z hk hz;simp only[ZIx,ZIK]at hc;obtain⟨rfl,rfl⟩:=hc;obtain⟨e1,e2,rfl,h1,h2⟩:=JY hes;exact ev (ZuG hS hu hk hz h1 h2 hq hs)
 case call c =>
  obtain⟨callee,args,ad⟩:=c;simp only[cq]at hc;split at hc<;>(try(simp at hc;done))
  .split at hc<;>(try(simp at hc;done));·rename_i hu;simp only[Option.bind_eq_some_iff]at hu;obtain⟨t,ht,hu⟩:=hu;split at hc<;>(try(simp at hc;done));rename_i u;obtain⟨x,rfl⟩:=Zaz u;simp only[ZIx,ZIK]at hc;obtain⟨rfl,rfl⟩:=hc;obtain⟨e0,rfl,h0⟩:=Wt hes;obtain⟨v,r1,r2⟩:=ZxH ht hu h0 hq ty;exact⟨v,by simp[execOp,resolve,invoke,builtin,r1],r2⟩
   .rename_i el hu;simp only[Option.bind_eq_some_iff]at hu;obtain⟨t,ht,hu⟩:=hu;split at hc<;>(try(simp at hc;done));rename_i u;obtain⟨x,rfl⟩:=Zaz u;simp only[ZIx,ZIK]at hc;obtain⟨rfl,rfl⟩:=hc;obtain⟨e0,rfl,h0⟩:=Wt hes;obtain⟨v,r1,r2⟩:=ZxF ht hu h0 hq ty;exact⟨v,by simp[execOp,resolve,invoke,builtin,r1],r2⟩
   .rename_i n el hu;simp only[Option.bind_eq_some_iff]at hu;obtain⟨t,ht,hu⟩:=hu;split at hc<;>(try(simp at hc;done));rename_i u;obtain⟨x,rfl⟩:=Zaz u;simp only[ZIx,ZIK]at hc;obtain⟨rfl,rfl⟩:=hc;obtain⟨e0,rfl,h0⟩:=Wt hes;obtain⟨v,r1,r2⟩:=ZxE (x:=ρv x) ht hu hq hs ty;exact⟨v,by simp[execOp,resolve,invoke,builtin,r1],r2⟩
   rename_i kt el hu;simp only[Option.bind_eq_some_iff]at hu;obtain⟨t,ht,hu⟩:=hu;split at hc<;>(try(simp at hc;done));rename_i u;obtain⟨x,rfl⟩:=Zaz u;simp only[ZIx,ZIK]at hc;obtain⟨rfl,rfl⟩:=hc;obtain⟨e0,rfl,h0⟩:=Wt hes;obtain⟨v,r1,r2⟩:=ZxG hS ht hu h0 hq hs ty;exact⟨v,by simp[execOp,resolve,invoke,builtin,r1],r2⟩
  .split at hc<;>(try(simp at hc;done));rename_i u;obtain⟨x,y,rfl⟩:=ZgH u;simp only[ZIx,ZIK]at hc;obtain⟨rfl,rfl⟩:=hc;obtain⟨e1,e2,rfl,h1,h2⟩:=JY hes;obtain⟨v,r1,r2⟩:=Zlf (P:=P) false h1 h2 hq ad ty;simp at r1;exact⟨v,by simp[execOp,resolve,invoke,builtin,r1],r2⟩
  split at hc<;>(try(simp at hc;done));rename_i u;obtain⟨x,y,rfl⟩:=ZgH u;simp only[ZIx,ZIK]at hc;obtain⟨rfl,rfl⟩:=hc;obtain⟨e1,e2,rfl,h1,h2⟩:=JY hes;obtain⟨v,r1,r2⟩:=Zlf (P:=P) true h1 h2 hq ad ty;simp at r1;exact⟨v,by simp[execOp,resolve,invoke,builtin,r1],r2⟩
end
def Qw(n:Nat):List Nat->Bool
 | []=>true
 |i::r=>i<n&&!r.contains i&&Qw n r
def ck(P:Program)(op:Op):Option K :=
 match cq P op with
 |some (q,xs)=>(Zct xs).map (K.q q)
 |none =>
  match op with
  |.pick c a b=>match ZW c,ZW a,ZW b with
   |some c,sO a,sO b=>sO (.pick c a b)
   |_,_,_=>nO
  |.alloc e=>(Zab P e).map .alloc
  |.box _ x=>(ZW x).map .box
  |.buildSlice t len parts=>match P.underlying t with
   |some (.slice e)=>match ZS P e,Zab P e,Zct (parts.toList.map (·.2)) with
    |some s,sO z,sO xs =>
     if Qw len (parts.toList.map (·.1))&&dC (I z=s)&&dC (0<s)&&dC (len*s<=2 ^ 24) then sO (.bsl len s z (parts.toList.map (·.1)) xs) else nO
    |_,_,_=>nO
   |_=>nO
  |.convert s d x=>match P.underlying s,P.underlying d with
   |some .string,sO (.slice e)=>match P.underlying e with
    |some (.int .u8)=>(ZW x).map .s2b
    |_=>nO
   |_,_=>nO
  |.store t a v=>match JX P t,ZS P t,ZW a,ZW v with
   |some true,sO n,sO a,sO v=>sO (.storeN n a v)
   |some false,sO 1,sO a,sO v=>sO (.store1 a v)
   |_,_,_,_=>nO
  |.makeMap _ nO=>sO .mkmap
  |.mapUpdate t m k x|.insert t m k x=>match P.underlying t with
   |some (.map kt _)=>match J5 P kt,ZW m,ZW k,ZW x with
    |some kp,sO m,sO k,sO x=>sO (.mapupd kp m k x)
    |_,_,_,_=>nO
   |_=>nO
  |.mapEntry t m k=>match P.underlying t with
   |some (.map kt e)=>match J5 P kt,ZdQ P e,ZW m,ZW k with
    |some kp,sO z,sO m,sO k=>sO (.mapent kp z m k)
    |_,_,_,_=>nO
   |_=>nO
  |.entryStore _ m k x=>match ZW m,ZW k,ZW x with
   |some m,sO k,sO x=>sO (.entst m k x)
   |_,_,_=>nO
  |.panic x=>(ZW x).map .panic
  |.defer c=>match c.callee with
   |.value f=>match ZW f,Zct c.args.toList with
    |some f,sO xs=>sO (.defer f xs)
    |_,_=>nO
   |_=>nO
  |.makeSlice t l c=>match P.underlying t with
   |some (.slice e)=>match ZS P e,Zab P e,ZW l,ZW c with
    |some s,sO z,sO l,sO c=>if dC (0<s)&&dC (I z=s) then sO (.mkslice e s (P.bytesOf e) z l c) else nO
    |_,_,_,_=>nO
   |_=>nO
  |.call c=>match c.callee with
   |.value f=>match ZW f,Zct c.args.toList with
    |some f,sO xs=>sO (.call f xs)
    |_,_=>nO
   |.builtin .append=>match c.argTypes[0]?.bind P.underlying,c.argTypes[1]?.bind P.underlying,c.args.toList with
    |some (.slice e),sO t2,[x,y]=>match ZS P e,Zab P e,ZW x,ZW y with
     |some s,sO z,sO x,sO y =>
      match t2 with
      |.slice _|.string=>if dC (0<s)&&dC (I z=s) then sO (.append e s (P.bytesOf e) z x y) else nO
      |_=>nO
     |_,_,_,_=>nO
    |_,_,_=>nO
   |.builtin .recover=>sO .recover
   |.builtin .delete=>match c.argTypes[0]?.bind P.underlying,c.args.toList with
    |some (.map kt _),[m,k]=>match J5 P kt,ZW m,ZW k with
     |some kp,sO m,sO k=>sO (.delete kp m k)
     |_,_,_=>nO
    |_,_=>nO
   |.builtin .clear=>match c.argTypes[0]?.bind P.underlying,c.args.toList with
    |some (.slice e),[x]=>match ZS P e,Zab P e,ZW x with
     |some s,sO z,sO x=>if dC (0<s)&&dC (I z=s) then sO (.clear s z x) else nO
     |_,_,_=>nO
    |_,_=>nO
   |.builtin .copy=>match c.argTypes[0]?.bind P.underlying,c.args.toList with
    |some (.slice e),[x,y]=>match ZS P e,ZW x,ZW y with
     |some s,sO x,sO y=>if dC (0<s) then sO (.copy s x y) else nO
     |_,_,_=>nO
    |_,_=>nO
   |_=>nO
  |_=>nO
def ZjO(ops:Array Oper):Option (Nat×Bool)->Option (Option (Nat×Bool))
 |none=>sO nO
 |some (j,b)=>match (ops[j]?).bind (·.dst) with
  |some t=>sO (sO (t,b))
  |none=>nO
def cop(P:Program)(N:Nat)(ops:Array Oper)(o:Oper):Option DOp :=
 match ck P o.op,ZjO ops o.guard with
 |some k,sO g =>
  match o.dst with
  |none=>sO ⟨nO,g,k⟩
  |some d=>if d<N then sO ⟨sO d,g,k⟩ else nO
 |_,_=>nO
def Jo(P:Program)(N:Nat)(ops:Array Oper):List Nat->Option (List DOp)
 | []=>sO []
 |i::r=>match ops[i]? with
  |some o=>match cop P N ops o,Jo P N ops r with
   |some d,sO ds=>sO (d::ds)
   |_,_=>nO
  |none=>nO
abbrev Ann:=List (Nat×List Nat)
def Ann.get:Ann->Nat->Option (List Nat)
 | [],_=>nO
 | (k,l)::r,n=>if k=n then sO l else Ann.get r n
def ZR:Opd->List Nat
 |.tmp t=>[t]
 |.cst _=>[]
def Zba(xs:List Opd):List Nat:=xs.flatMap ZR
def Yh:K->List Nat
 |.q _ xs=>Zba xs
 |.pick c a b=>ZR c++ZR a++ZR b
 |.alloc _|.mkmap|.recover=>[]
 |.box x|.s2b x|.panic x=>ZR x
 |.bsl _ _ _ _ xs=>Zba xs
 |.store1 a v|.storeN _ a v=>ZR a++ZR v
 |.call f xs|.defer f xs=>ZR f++Zba xs
 |.append _ _ _ _ x y=>ZR x++ZR y
 |.mapupd _ m k v=>ZR m++ZR k++ZR v
 |.mapent _ _ m k=>ZR m++ZR k
 |.entst m e v=>ZR m++ZR e++ZR v
 |.mkslice _ _ _ _ l c=>ZR l++ZR c
 |.delete _ m k=>ZR m++ZR k
 |.clear _ _ x=>ZR x
 |.copy _ x y=>ZR x++ZR y
 |.fork k=>Yh k
def ZcC:Option (Nat×Bool)->List Nat
 |none=>[]
 |some (t,_)=>[t]
def ZB(o:DOp):List Nat:=ZcC o.guard++Yh o.k
def Y1:K->Bool
 |.q _ _|.pick _ _ _|.bsl _ _ _ _ _|.s2b _|.alloc _|.fork _=>true
 |_=>false
def pqK:K->Bool
 |.q _ _|.pick _ _ _|.bsl _ _ _ _ _|.s2b _|.alloc _=>true
 |_=>false
def ZcI:K->Bool
 |.q .load1 _|.q (.loadN _) _=>true
 |_=>false
def YP:K->Bool
 |.q .load1 _|.q (.loadN _) _|.q (.lookup _ _ _) _|.q .lenM _|.q (.conv .b2s) _=>true
 |_=>false
def Zec:K->Bool
 |.store1 _ _|.storeN _ _ _=>true
 |_=>false
def ZwK:K->Bool
 |.alloc _|.fork _=>false
 |_=>true
instance:Inhabited DOp:=⟨⟨nO,nO,.mkmap⟩⟩
abbrev Tab:=List (DOp×List Nat)
def Tab.op(T:Tab)(i:Nat):DOp:=(T.getD i dE).1
def Tab.deps(T:Tab)(i:Nat):List Nat:=(T.getD i dE).2
def nd(d:Option Nat)(l:List Nat):Bool :=
 match d with
 |some t=>!l.contains t
 |none=>true
def ndd:Option Nat->Option Nat->Bool
 |some t,sO u=>t != u
 |_,_=>true
def ZcJ(bs:List Nat):List Nat->Nat
 | []=>0
 |d::ds=>(bs.getD d 0 |||(1 <<< d)) |||ZcJ bs ds
def Zgq:List (List Nat)->List Nat->List Nat
 | [],acc=>acc
 |d::r,acc=>Zgq r (acc++[ZcJ acc d])
def Zdc(T:Tab)(A:List Nat)(i:Nat):Bool :=
 pqK (T.op i).k&&nd (T.op i).dst (ZB (T.op i))&&A.all λa=>nd (T.op i).dst (ZB (T.op a))&&ndd (T.op i).dst (T.op a).dst
def Zb3(o:DOp):Nat:=o.dst.getD 0
def Zam(n:Nat):List Nat->Bool
 | []=>false
 |a::l=>a==n ||Zam n l
def ZjT(T:Tab)(fl:List Nat)(free rest:List Nat)(i:Nat):Bool :=
 ZwK (T.op i).k&&(rest.all λr=>(T.deps r).any λd=>(i::rest).contains d) &&
  free.all λa=>nd (T.op i).dst (ZB (T.op a))&&ndd (T.op i).dst (T.op a).dst&&(Zam (Zb3 (T.op a)) fl||!YP (T.op a).k)
def chk(T:Tab)(ms:List Nat)(fl:Nat->List Nat):List Nat->List Nat->Bool
 |_,[]=>true
 |A,i::rest =>
  let free:=A.filter λa=>!(ms.getD i 0).testBit a
  dC (i<T.length)&&((T.deps i).all λd=>!(i::rest).contains d)&&!rest.contains i&&(free.all λa=>nd (T.op a).dst (ZB (T.op i))) &&
   if Zdc T A i then chk T ms fl (i::A) rest else ZjT T (fl i) free rest i&&chk T ms fl free rest
def ZvI(T:Tab)(fl:List Nat)(free:List Nat)(i:Nat):Bool :=
 ZwK (T.op i).k&&!Y1 (T.op i).k&&(free.all λa=>nd (T.op a).dst (ZB (T.op i)))&&free.all λa=>nd (T.op i).dst (ZB (T.op a))&&ndd (T.op i).dst (T.op a).dst&&(Zam (Zb3 (T.op a)) fl||!YP (T.op a).k)
def ZB2(T:Tab)(ms:List Nat)(fl:Nat->List Nat)(A:List Nat)(i j:Nat)(rest:List Nat):Bool :=
 let fi:=A.filter λa=>!(ms.getD i 0).testBit a;let fj:=A.filter λa=>!(ms.getD j 0).testBit a
 dC (i<T.length)&&dC (j<T.length)&&((T.deps i).all λd=>!(i::j::rest).contains d)&&((T.deps j).all λd=>!(i::j::rest).contains d)&&(i != j)&&!rest.contains i&&!rest.contains j &&
  (rest.all λr=>(T.deps r).any λd=>(i::j::rest).contains d)&&ZvI T (fl i) fi i&&ZvI T (fl j) fj j &&
  chk T ms fl fi (j::rest)&&chk T ms fl fj (i::rest)
def ZdU(T:Tab)(ms:List Nat)(fl:Nat->List Nat)(fk:Option Nat):List Nat->List Nat->Bool
 |_,[]=>true
 |A,i::rest =>
  if fk=sO i then match rest with
   |j::rest'=>ZB2 T ms fl A i j rest'
   | []=>false
  else
   let free:=A.filter λa=>!(ms.getD i 0).testBit a
   dC (i<T.length)&&((T.deps i).all λd=>!(i::rest).contains d)&&!rest.contains i&&(free.all λa=>nd (T.op a).dst (ZB (T.op i))) &&
    if Zdc T A i then ZdU T ms fl fk (i::A) rest else ZjT T (fl i) free rest i&&ZdU T ms fl fk free rest
def ZEa(o:DOp):DOp:={ o with k:=.fork o.k }
def Tab.mk(T:Tab)(fk:Option Nat)(i:Nat):DOp:=if fk=sO i then ZEa (T.op i) else T.op i
def JF(o:Oper):List Nat:=(o.after.toList.filter (Region.binds .any ·)).map (·.on)
def Zou:Nat->List (List Nat)->Bool
 |_,[]=>true
 |i,d::r=>d.all (λx=>dC (x<i))&&Zou (i+1) r
def Zza(n:Nat)(order:List Nat):Bool:=(ZIM n).all order.contains
def ZAp(an:Ann)(id:Nat):Option Nat :=
 match an.get (id+3000000) with
 |some (i::_)=>sO i
 |_=>nO
def ccD(P:Program)(an:Ann)(N:Nat)(id:Nat)(ops:Array Oper):Option (List Nat×List (DOp×List Nat)×Option (List Nat)) :=
 match Jo P N ops (ZIM ops.size),an.get (id+1000000),an.get id with
 |some l,sO order,sO kp =>
  let fl:=λi=>(an.get (id+1000000*(i+4))).getD [];let ds:=ops.toList.map JF;let T:Tab:=l.zip ds
  if P.follows .mixedOrders&&Zou 0 ds&&Zza ops.size order&&ZdU T (Zgq ds []) fl (ZAp an id) [] order then sO (order,order.map λi=>(T.mk (ZAp an id) i,fl i),sO kp) else nO
 |_,_,_=>nO
def cc(P:Program)(an:Ann)(N:Nat):Code->Option DC
 |.skip=>sO .skip
 |.region id ops true=>(ccD P an N id ops).map λx=>.regD x.1 x.2.1 x.2.2
 |.region id ops false=>(Jo P N ops (ZIM ops.size)).map λl=>.reg l (an.get id)
 |.seq a b=>match cc P an N a,cc P an N b with
  |some x,sO y=>sO (.seq x y)
  |_,_=>nO
 |.cond c a b=>match ZW c,cc P an N a,cc P an N b with
  |some c,sO x,sO y=>sO (.cond c x y)
  |_,_,_=>nO
 |.block id a=>(cc P an N a).map (.block id)
 |.loop a=>(cc P an N a).map .loop
 |.exit id=>sO (.exit id)
 |.ret=>sO .ret
 |.scope a=>(cc P an N a).map .scope
 |.label l=>sO (.label l)
 |.goto l=>sO (.goto l)
 |.rangeFunc f params a b=>match ZW f,cc P an N a,cc P an N b with
  |some f,sO x,sO y=>if params.toList.all (· < N) then sO (.rangeF f params.toList x y) else nO
  |_,_,_=>nO
 |_=>nO
inductive RV where
 |tmp (t:Nat)|cell1 (t:Nat)|cellN (t n:Nat)
def crv(P:Program):ResultVar->Option RV
 |.tmp t=>sO (.tmp t)
 |.cell a t=>match JX P t,ZS P t with
  |some true,sO n=>sO (.cellN a n)
  |some false,sO _=>sO (.cell1 a)
  |_,_=>nO
def ZjZ(P:Program):List ResultVar->Option (List RV)
 | []=>sO []
 |r::rs=>match crv P r,ZjZ P rs with
  |some x,sO xs=>sO (x::xs)
  |_,_=>nO
structure DF where
 n:Nat
 res:List RV
 body:DC
def cf(P:Program)(an:Ann)(f:FuncId):Option DF :=
 match P.funcs[f]? with
 |some fn=>match fn.body with
  |some c=>if fn.name == "runtime.NumGoroutine" then nO else
   match ZjZ P fn.results.toList,cc P an fn.ntmps c with
   |some rs,sO d=>sO ⟨fn.ntmps,rs,d⟩
   |_,_=>nO
  |none=>nO
 |none=>nO
def ZgJ:Bool->Bool->Bool
 |b,true=>b
 |b,false=>!b
def Zj(H:Env):Option (Nat×Bool)->Option Bool
 |none=>sO true
 |some (t,want)=>match ZM H t with
  |some (.d (.bool b))=>sO (ZgJ b want)
  |some (.when c (.d (.bool b)))=>sO (c&&ZgJ b want)
  |_=>nO
def ZC(H:Env)(c:Bool):Opd->Option (Prop×E)
 |.cst d=>sO (True,.d d)
 |.tmp t=>match ZM H t with
  |some (.when c' e)=>sO (c=true->c'=true,e)
  |some e=>sO (True,e)
  |none=>nO
def Z8(H:Env)(c:Bool):List Opd->Option (Prop×List E)
 | []=>sO (True,[])
 |x::xs=>match ZC H c x,Z8 H c xs with
  |some (p,e),sO (q,es)=>sO (p/\q,e::es)
  |_,_=>nO
def Zx(H:Env)(dst:Option Nat)(e:E):Env :=
 match dst with
 |some t=>(t,e)::H
 |none=>H
inductive SR where
 |ok (side:Prop) (H:Env) (L:Loc) (s:St)
 |all (side:Prop) (pre:Nat->Prop) (H:Nat->Env) (s:Nat->St)
 |stop
def Zal(L:Loc)(l:Nat):Bool:=(Zh L l).isSome
def ZdO(H:Env)(c:Bool)(x a b:Opd):Option (Prop×Bool) :=
 match ZC H c x with
 |some (p,.d (.bool v)) =>
  match ZC H (c&&v) a,ZC H (c&&!v) b with
  |some (pa,.d (.bool y)),sO (pb,.d (.bool z))=>sO (p/\pa/\pb,if v then y else z)
  |_,_=>nO
 |_=>nO
def ZV(zero:List D)(ps:List (Nat×D))(i:Nat):List D :=
 match ps with
 | []=>zero
 | (k,d)::r=>if k=i then cellsOf d else ZV zero r i
def Qd(s:Nat):List D->Bool
 | []=>true
 |d::r=>Kb d&&dC ((cellsOf d).length=s)&&Qd s r
def W3(z:List D)(n:Nat):List D:=(List.replicate n z).flatten
def K8(H:Env)(L:Loc)(s:St)(p q ok:Prop)(a:E)(n:Nat)(xs:List D):SR :=
 match a with
 |.loc l off=>match Zh L l with
  |some cs=>.ok (p/\q/\off+n<=I cs/\ok) H ((l,Zy cs off xs)::L) s
  |none=>.stop
 |.d (.ptr b off)=>match Z2 s b with
  |some cs=>.ok (p/\q/\off+n<=I cs/\ok) H L (s.upd b (.cells (Zy cs off xs)))
  |none=>.stop
 |_=>.stop
def Zek(kp:KP)(k z:D):List (D×D)->Option D
 | []=>sO z
 |e::r=>match Kr kp k e.1 with
  |some true=>sO e.2
  |some false=>Zek kp k z r
  |none=>nO
def ZF(o:DOp)(H:Env)(L:Loc)(s:St):SR :=
 match Zj H o.guard with
 |none=>.stop
 |some c =>
  match o.k with
  |.q q xs=>match Z8 H c xs with
   |some (p,es)=>match qv L s q es with
    |some (side,e)=>match o.guard with
     |none=>.ok (p/\side) (Zx H o.dst e) L s
     |some _=>.ok (c=true->p/\side) (Zx H o.dst (.when c e)) L s
    |none=>.stop
   |none=>.stop
  |.pick x a b=>match ZdO H c x a b with
   |some (p,v)=>match o.guard with
    |none=>.ok p (Zx H o.dst (.d (.bool v))) L s
    |some _=>.ok (c=true->p) (Zx H o.dst (.when c (.d (.bool v)))) L s
   |none=>.stop
  |.alloc z=>match o.guard,o.dst with
   |none,sO t=>.ok (Zal L t=false) ((t,.loc t 0)::H) ((t,z)::L) s
   |_,_=>.stop
  |.box x=>match o.guard,o.dst,ZC H true x with
   |none,sO t,sO (p,.d v)=>.ok (p/\Zal L t=false/\Kb v=true) ((t,.loc t 0)::H) ((t,cellsOf v)::L) s
   |_,_,_=>.stop
  |.bsl len n z is xs=>match Z8 H c xs with
   |some (p,es)=>match Ka es with
    |some ds=>match o.guard with
     |none=>.ok (p/\Qd n ds=true) (Zx H o.dst (.d (.sl .full len n (ZV z (is.zip ds))))) L s
     |some _=>.ok (c=true->p/\Qd n ds=true) (Zx H o.dst (.when c (.d (.sl .full len n (ZV z (is.zip ds)))))) L s
    |none=>.stop
   |none=>.stop
  |.s2b x=>match ZC H c x with
   |some (p,.d (.str l))=>match o.guard with
    |none=>.ok p (Zx H o.dst (.d (.sl .none (I l) 1 (λi=>[.int .u8 ((l.getD i 0).toNat:Int)])))) L s
    |some _=>.ok (c=true->p) (Zx H o.dst (.when c (.d (.sl .none (I l) 1 (λi=>[.int .u8 ((l.getD i 0).toNat:Int)]))))) L s
   |_=>.stop
  |.store1 a v=>match o.guard,o.dst,ZC H true a,ZC H true v with
   |none,nO,sO (p,a),sO (q,.d x)=>K8 H L s p q (QU x=true) a 1 [x]
   |_,_,_,_=>.stop
  |.storeN n a v=>match o.guard,o.dst,ZC H true a,ZC H true v with
   |none,nO,sO (p,a),sO (q,.d (.agg xs))=>K8 H L s p q (I xs=n) a n xs
   |_,_,_,_=>.stop
  |.mkmap=>match o.guard,o.dst with
   |none,sO t=>.all True (λb=>s b=nO) (λb=>(t,.d (.map b))::H) (λb=>s.upd b (.map []))
   |_,_=>.stop
  |.mkslice _ n bytes z l h=>match o.guard,o.dst,ZC H true l,ZC H true h with
   |none,sO t,sO (p,.d (.int _ l)),sO (q,.d (.int _ h)) =>
    .all (p/\q/\0<=l/\l<=h/\(bytes:Int)*h<=140737488355328/\h<=big) (λb=>s b=nO) (λb=>(t,.d (.msl b 0 l.toNat h.toNat n))::H) (λb=>s.upd b (.cells (W3 z h.toNat)))
   |_,_,_,_=>.stop
  |.mapupd kp m k v=>match o.guard,o.dst,ZC H true m,ZC H true k,ZC H true v with
   |none,nO,sO (p,.d (.map b)),sO (q,.d dk),sO (r,.d dv)=>match KY s b with
    |some es=>match JL kp dk dv es with
     |some es'=>.ok (p/\q/\r/\QA kp dk=true) H L (s.upd b (.map es'))
     |none=>.stop
    |none=>.stop
   |_,_,_,_,_=>.stop
  |.delete kp m k=>match o.guard,o.dst,ZC H true m,ZC H true k with
   |none,nO,sO (p,.d (.map b)),sO (q,.d dk)=>match KY s b with
    |some es=>match ZgU kp dk es with
     |some es'=>.ok (p/\q/\QA kp dk=true) H L (s.upd b (.map es'))
     |none=>.stop
    |none=>.stop
   |_,_,_,_=>.stop
  |.mapent kp z m k=>match o.guard,o.dst,ZC H true m,ZC H true k with
   |none,sO t,sO (p,.d (.map b)),sO (q,.d dk)=>match KY s b with
    |some es=>match Zek kp dk z es with
     |some v=>.all (p/\q/\QA kp dk=true) (λ_=>True) (λn=>(t,.d (.tup [v,.stamp n]))::H) (λn=>s.upd b (.mapE kp es dk n))
     |none=>.stop
    |none=>.stop
   |_,_,_,_=>.stop
  |.entst m st v=>match o.guard,o.dst,ZC H true m,ZC H true st,ZC H true v with
   |none,nO,sO (p,.d (.map b)),sO (q,.d (.stamp n)),sO (r,.d dv)=>match s b with
    |some (.mapE kp es dk n')=>match JL kp dk dv es with
     |some es'=>.ok (p/\q/\r/\n=n') H L (s.upd b (.map es'))
     |none=>.stop
    |_=>.stop
   |_,_,_,_,_=>.stop
  |_=>.stop
def Zj2(K:Env->Loc->St->Prop)(X:List DOp->Env->Loc->St->Prop):List DOp->Env->Loc->St->Prop
 | [],H,L,s=>K H L s
 |o::os,H,L,s=>match ZF o H L s with
  |.ok side H' L' s'=>side/\Zj2 K X os H' L' s'
  |.all side pre H' s'=>side/\∀b,pre b->Zj2 K X os (H' b) L (s' b)
  |.stop=>X (o::os) H L s
inductive Rd where
 |blk (b:Nat)
 |loc (l:Nat)
def K3:E->List Rd
 |.d (.ptr b _)=>[.blk b]
 |.d (.map b)=>[.blk b]
 |.d (.msl b _ _ _ _)=>[.blk b]
 |.loc l _=>[.loc l]
 |_=>[]
def Y5(o:DOp)(H:Env):List Rd :=
 match o.k with
 |.q q xs=>if YP (.q q xs) then match Zj H o.guard with
  |some true=>match Z8 H true xs with
   |some (_,e::_)=>K3 e
   |_=>[]
  |_=>[]
  else []
 |_=>[]
def Kn(o:DOp)(H:Env):List (Nat×Rd):=(Y5 o H).map λb=>(Zb3 o,b)
def K2(s s':St)(L L':Loc):List (Nat×Rd)->Prop
 | []=>True
 | (_,.blk b)::B=>s' b=s b/\K2 s s' L L' B
 | (_,.loc l)::B=>Zh L' l=Zh L l/\K2 s s' L L' B
def YY(fl:List Nat):List (Nat×Rd)->List (Nat×Rd)
 | []=>[]
 |x::B=>if Zam x.1 fl then x::YY fl B else YY fl B
def Wi(fl:List Nat)(s s':St)(L L':Loc)(B:List (Nat×Rd)):Prop:=K2 s s' L L' (YY fl B)
def Zit(K:Env->Loc->St->Prop)(X:List (DOp×List Nat)->Env->Loc->St->List (Nat×Rd)->Prop):List (DOp×List Nat)->Env->Loc->St->List (Nat×Rd)->Prop
 | [],H,L,s,_=>K H L s
 |o::os,H,L,s,B=>match ZF o.1 H L s with
  |.ok side H' L' s'=>if Y1 o.1.k then side/\Zit K X os H' L' s' (Kn o.1 H++B) else side/\Wi o.2 s s' L L' B/\Zit K X os H' L' s' (Kn o.1 H++YY o.2 B)
  |.all side pre H' s'=>side/\∀b,pre b->Wi o.2 s (s' b) L L B/\Zit K X os (H' b) L (s' b) (YY o.2 B)
  |.stop=>X (o::os) H L s B
def Ks:E->List Nat
 |.loc l _=>[l]
 |.when _ e=>Ks e
 |_=>[]
def Yn(H:Env):List Nat->Env
 | []=>[]
 |k::ks=>match ZM H k with
  |some e=>(k,e)::Yn H ks
  |none=>Yn H ks
def Zay(L:Loc):List Nat->Loc
 | []=>[]
 |l::ls=>match Zh L l with
  |some cs=>(l,cs)::Zay L ls
  |none=>Zay L ls
def Za7(H:Env)(L:Loc):Loc:=Zay L (H.flatMap λx=>Ks x.2)
structure ZwD(P:Program) where
 T:G->World->Machine->Prop
 back:∀g w m m',Steps P m m'->T g w m'->T g w m
 ext:∀g w g' w' m,Ext g w g' w'->T g' w' m->T g w m
structure Fr(P:Program) where
 T:ZwD P
 b:Frame
 cs:List Frame
 N:Nat
 ds:List Deferred
 an:Ann
inductive WY where
 |code (c:DC)
 |inBlock (id:Nat)
 |inLoop (c:DC)
 |inScope (c:DC)
 |beginR
inductive Wy(P:Program)(an:Ann)(N:Nat):List Item->List WY->Prop where
 |nil:Wy P an N [] []
 |code {c d k dk} (h:cc P an N c=some d) (t:Wy P an N k dk):Wy P an N (.code c::k) (.code d::dk)
 |inBlock {id k dk} (t:Wy P an N k dk):Wy P an N (.inBlock id::k) (.inBlock id::dk)
 |inLoop {c d k dk} (h:cc P an N c=some d) (t:Wy P an N k dk):Wy P an N (.inLoop c::k) (.inLoop d::dk)
 |inScope {c d k dk} (h:cc P an N c=some d) (t:Wy P an N k dk):Wy P an N (.inScope c::k) (.inScope d::dk)
 |beginR {k dk} (t:Wy P an N k dk):Wy P an N (.beginRound::k) (.beginR::dk)
section
variable {P:Program}
def Zvt{b:Frame}{a k cs w c}:step P (lone (b.atR a (.code (.scope c)::k)) cs w)=.next (lone (b.atR a (.code c::.inScope c::k)) cs w) :=
 step_lone_go (by simp[stepG,stepG.exec,Frame.atR])
def Zsq{b:Frame}{a k cs w c}:step P (lone (b.atR a (.inScope c::k)) cs w)=.next (lone (b.atR a k) cs w) :=
 step_lone_go (by simp[stepG,stepG.exec,Frame.atR])
def Jl(F:Fr P)(todo:List Item)(H:Env)(L:Loc)(s:St):Prop :=
 ∀g Z w tmps,F.N<=tmps.size->Zu g Z w tmps H L s->F.T.T g w (lone (F.b.atR ⟨tmps,F.ds⟩ todo) F.cs w)
def Zt(F:Fr P)(dk:List WY)(H:Env)(L:Loc)(s:St):Prop:=∀k,Wy P F.an F.N k dk->Jl F k H L s
def DO(F:Fr P)(_keep:Option (List Nat))(dk:List WY)(os:List DOp)(H:Env)(L:Loc)(s:St):Prop :=
 ∀ops is k,Jo P F.N ops is=sO os->Wy P F.an F.N k dk->Jl F (.inRegion ops is::k) H L s
def Jl.step{F:Fr P}{k k' H L s}(h:∀a w,step P (lone (F.b.atR a k) F.cs w)=.next (lone (F.b.atR a k') F.cs w))(t:Jl F k' H L s):Jl F k H L s :=
 λg Z w tmps u m=>F.T.back _ _ _ _ (.one (h _ w)) (t g Z w tmps u m)
def ZB0{an N c}(h:cc P an N c=sO .skip):c=.skip:=by
 unfold cc at h;split at h<;>simp_all;all_goals (split at h<;>grind)
def Ztp{an N c}(h:cc P an N c=sO .ret):c=.ret:=by
 unfold cc at h;split at h<;>simp_all;all_goals (split at h<;>grind)
def ZvH{an N id c}(h:cc P an N c=sO (.exit id)):c=.exit id:=by
 unfold cc at h;split at h<;>simp_all;all_goals (split at h<;>grind)
def ZDh{an N c x y}(h:cc P an N c=sO (.seq x y)):∃a b,c=.seq a b/\cc P an N a=sO x/\cc P an N b=sO y:=by
 unfold cc at h;split at h<;>simp_all;all_goals (split at h<;>simp_all)
 grind
def ZBW{an N c x y o}(h:cc P an N c=sO (.cond o x y)):∃o' a b,c=.cond o' a b/\ZW o'=sO o/\cc P an N a=sO x/\cc P an N b=sO y:=by
 unfold cc at h;split at h<;>simp_all;all_goals (split at h<;>simp_all)
 grind
def Zz6{an N id c x}(h:cc P an N c=sO (.block id x)):∃a,c=.block id a/\cc P an N a=sO x:=by
 unfold cc at h;split at h<;>simp_all;all_goals (split at h<;>grind)
def ZBY{an N c x}(h:cc P an N c=sO (.loop x)):∃a,c=.loop a/\cc P an N a=sO x:=by
 unfold cc at h;split at h<;>simp_all;all_goals (split at h<;>grind)
def ZDg{an N c os ks}(h:cc P an N c=sO (.reg os ks)):
  ∃id ops,c=.region id ops false/\Jo P N ops (ZIM ops.size)=sO os/\an.get id=ks:=by
 unfold cc at h;split at h<;>simp_all;grind;all_goals (split at h<;>grind)
def Zz8{an N c x}(h:cc P an N c=sO (.scope x)):∃a,c=.scope a/\cc P an N a=sO x:=by
 unfold cc at h;split at h<;>simp_all;all_goals (split at h<;>grind)
def Zz7{an N l c}(h:cc P an N c=sO (.label l)):c=.label l:=by
 unfold cc at h;split at h<;>simp_all;all_goals (split at h<;>grind)
def ZBX{an N l c}(h:cc P an N c=sO (.goto l)):c=.goto l:=by
 unfold cc at h;split at h<;>simp_all;all_goals (split at h<;>grind)
def Zq8{an N c f ps x y}(h:cc P an N c=sO (.rangeF f ps x y)):
  ∃f' ps' a b,c=.rangeFunc f' ps' a b/\ZW f'=sO f/\ps'.toList=ps/\cc P an N a=sO x/\cc P an N b=sO y/\∀t∈ps,t<N:=by
 unfold cc at h;split at h<;>simp_all;all_goals (split at h<;>simp_all)
 obtain⟨u,rfl,rfl,rfl,rfl⟩:=h;exact⟨_,_,_,_,⟨rfl,rfl,rfl,rfl⟩,‹_›,rfl,‹_›,‹_›,λt ht=>by obtain⟨i,hi,rfl⟩:=ZIV ht;simpa using u i ω⟩
def ZK{F:Fr P}{dk H L s}(h:Zt F dk H L s):Zt F (.code .skip::dk) H L s:=by
 intro k t;cases t with
 |code hc ht=>obtain rfl:=ZB0 hc;exact Jl.step (λa w=>stepR_skip) (h _ ht)
def Zr{F:Fr P}{id dk H L s}(h:Zt F dk H L s):Zt F (.inBlock id::dk) H L s:=by
 intro k t;cases t with
 |inBlock ht=>exact Jl.step (λa w=>stepR_inBlock) (h _ ht)
def Zc{F:Fr P}{x y dk H L s}(h:Zt F (.code x::.code y::dk) H L s):Zt F (.code (.seq x y)::dk) H L s:=by
 intro k hk;cases hk with
 |code hc ht=>obtain⟨a,b,rfl,t,u⟩:=ZDh hc;exact Jl.step (λa w=>stepR_seq) (h _ (.code t (.code u ht)))
def Ze{F:Fr P}{id x dk H L s}(h:Zt F (.code x::.inBlock id::dk) H L s):Zt F (.code (.block id x)::dk) H L s:=by
 intro k u;cases u with
 |code hc ht=>obtain⟨a,rfl,t⟩:=Zz6 hc;exact Jl.step (λa w=>stepR_block) (h _ (.code t (.inBlock ht)))
def ZaF{F:Fr P}{x dk H L s}(h:Zt F (.code x::.inLoop x::dk) H L s):Zt F (.code (.loop x)::dk) H L s:=by
 intro k u;cases u with
 |code hc ht=>obtain⟨a,rfl,t⟩:=ZBY hc;exact Jl.step (λa w=>stepR_loop) (h _ (.code t (.inLoop t ht)))
def Zf{F:Fr P}{x dk H L s}(h:Zt F (.code x::.inLoop x::dk) H L s):Zt F (.inLoop x::dk) H L s:=by
 intro k t;cases t with
 |inLoop hc ht=>exact Jl.step (λa w=>stepR_inLoop) (h _ (.code hc (.inLoop hc ht)))
def Ys{F:Fr P}{x dk H L s}(h:Zt F (.code x::.inScope x::dk) H L s):Zt F (.code (.scope x)::dk) H L s:=by
 intro k u;cases u with
 |code hc ht=>obtain⟨a,rfl,t⟩:=Zz8 hc;exact Jl.step (λa w=>Zvt) (h _ (.code t (.inScope t ht)))
def Z4{F:Fr P}{x dk H L s}(h:Zt F dk H L s):Zt F (.inScope x::dk) H L s:=by
 intro k t;cases t with
 |inScope hc ht=>exact Jl.step (λa w=>Zsq) (h _ ht)
def Yx{F:Fr P}{l dk H L s}(h:Zt F dk H L s):Zt F (.code (.label l)::dk) H L s:=by
 intro k t;cases t with
 |code hc ht=>obtain rfl:=Zz7 hc;exact Jl.step (λa w=>stepR_label) (h _ ht)
def Ke:DC->Nat->Option DC
 |.seq a b,l=>match Ke a l with
  |some r=>sO (.seq r b)
  |none=>Ke b l
 |.label l',l=>if l'=l then sO .skip else nO
 |_,_=>nO
def ZtR{an N l}:∀{c d},cc P an N c=sO d->(∀d',Ke d l=sO d'->∃c',findLabel c l=sO c'/\cc P an N c'=sO d')/\(Ke d l=nO->findLabel c l=nO):=by
 intro c;induction c with
 |seq a b iha ihb =>
  intro d h;unfold cc at h;split at h<;>simp at h;rename_i x y hx hy;subst h;obtain⟨a1,a2⟩:=iha hx;obtain⟨b1,b2⟩:=ihb hy;refine⟨λd' u=>?_,λu=>?_⟩
  .simp[Ke]at u;cases t:Ke x l with
   |some r =>simp[t]at u;obtain⟨c',h1,h2⟩:=a1 r t;subst u;exact⟨.seq c' b,by simp[findLabel,h1],by simp[cc,h2,hy]⟩
   |none =>simp[t]at u;obtain⟨c',h1,h2⟩:=b1 d' u;exact⟨c',by simp[findLabel,a2 t,h1],h2⟩
  simp[Ke]at u;cases t:Ke x l with
  |some r=>grind
  |none=>simp[t]at u;simp[findLabel,a2 t,b2 u]
 |label l' =>intro d h;cases h;refine⟨λd' u=>?_,λu=>?_⟩;simp only[Ke]at u;split at u<;>simp at u;rename_i hl;subst u;exact⟨.skip,by simp[findLabel,hl],rfl⟩;simp only[Ke]at u;split at u<;>simp at u;rename_i hl;simp[findLabel,hl]
 |region id ops dr =>intro d h;refine⟨λd' u=>?_,λ_=>rfl⟩;cases dr<;>simp only[cc,ZIL]at h<;>(obtain⟨_,_,rfl⟩:=h;cases u)
 |_ =>
  intro d h;refine⟨λd' u=>?_,λ_=>rfl⟩;first
   | (cases h;done)
   | (simp[cc]at h;obtain⟨_,_,rfl⟩:=h;cases u;done)
   | (cases h;done)
   | (simp[cc]at h;split at h<;>(try(split at h))<;>simp at h<;>(subst h;cases u))
def ZdF(l:Nat):List WY->Option (List WY)
 |.inScope body::k=>match Ke body l with
  |some r=>sO (.code r::.inScope body::k)
  |none=>ZdF l k
 |_::k=>ZdF l k
 | []=>nO
def Zdi{an N l}:∀{k dk dk'},Wy P an N k dk->ZdF l dk=sO dk'->∃u,gotoIn l k=sO u/\Wy P an N u dk'
 |_,_,_,.nil,h=>by cases h
 |_,_,_,.code _ t,h=>by simp[ZdF]at h;obtain⟨u,h1,h2⟩:=Zdi t h;exact⟨u,by simpa[gotoIn]using h1,h2⟩
 |_,_,_,.inLoop _ t,h=>by simp[ZdF]at h;obtain⟨u,h1,h2⟩:=Zdi t h;exact⟨u,by simpa[gotoIn]using h1,h2⟩
 |_,_,_,.inBlock t,h=>by simp[ZdF]at h;obtain⟨u,h1,h2⟩:=Zdi t h;exact⟨u,by simpa[gotoIn]using h1,h2⟩
 |_,_,_,.beginR t,h=>by simp[ZdF]at h;obtain⟨u,h1,h2⟩:=Zdi t h;exact⟨u,by simpa[gotoIn]using h1,h2⟩
 |_,_,_,.inScope (c:=c) (d:=d) hc t,h=>by
  simp[ZdF]at h;obtain⟨f1,f2⟩:=ZtR (l:=l) hc;cases hf:Ke d l with
  |some r =>simp[hf]at h;subst h;obtain⟨c',h1,h2⟩:=f1 r hf;exact⟨_,by simp[gotoIn,h1],.code h2 (.inScope hc t)⟩
  |none =>simp[hf]at h;obtain⟨u,h1,h2⟩:=Zdi t h;exact⟨u,by simpa[gotoIn,f2 hf]using h1,h2⟩
def Zx4{F:Fr P}{l dk t H L s}(he:ZdF l dk=sO t)(h:Zt F t H L s):Zt F (.code (.goto l)::dk) H L s:=by
 intro k hk;cases hk with
 |code hc ht =>obtain rfl:=ZBX hc;obtain⟨k',u,h2⟩:=Zdi ht he;exact Jl.step (λa w=>stepR_goto u) (h _ h2)
def QZ(id:Nat):List WY->Option (List WY)
 |.inBlock id'::k=>if id'=id then sO k else QZ id k
 |_::k=>QZ id k
 | []=>nO
def Zde{an N id}:∀{k dk dk'},Wy P an N k dk->QZ id dk=sO dk'->∃k',exitTo id k=sO k'/\Wy P an N k' dk'
 |_,_,_,.nil,h=>by cases h
 |_,_,_,.code _ t,h=>by simp[QZ]at h;obtain⟨k',h1,h2⟩:=Zde t h;exact⟨k',by simpa[exitTo]using h1,h2⟩
 |_,_,_,.inLoop _ t,h=>by simp[QZ]at h;obtain⟨k',h1,h2⟩:=Zde t h;exact⟨k',by simpa[exitTo]using h1,h2⟩
 |_,_,_,.inScope _ t,h=>by simp[QZ]at h;obtain⟨k',h1,h2⟩:=Zde t h;exact⟨k',by simpa[exitTo]using h1,h2⟩
 |_,_,_,.beginR t,h=>by simp[QZ]at h;obtain⟨k',h1,h2⟩:=Zde t h;exact⟨k',by simpa[exitTo]using h1,h2⟩
 |_,_,_,.inBlock (id:=id') t,h=>by simp[QZ]at h;by_cases u:id'=id;simp[u]at h;subst h;exact⟨_,by simp[exitTo,u],t⟩;simp[u]at h;obtain⟨k',h1,h2⟩:=Zde t h;exact⟨k',by simpa[exitTo,u]using h1,h2⟩
def Za5{an N id}:∀{k dk},Wy P an N k dk->QZ id dk=nO->exitTo id k=nO
 |_,_,.nil,_=>rfl
 |_,_,.code _ t,h=>by simp[QZ]at h;simpa[exitTo]using Za5 t h
 |_,_,.inLoop _ t,h=>by simp[QZ]at h;simpa[exitTo]using Za5 t h
 |_,_,.inScope _ t,h=>by simp[QZ]at h;simpa[exitTo]using Za5 t h
 |_,_,.beginR t,h=>by simp[QZ]at h;simpa[exitTo]using Za5 t h
 |_,_,.inBlock (id:=id') t,h=>by simp[QZ]at h;by_cases hid:id'=id;grind;simp[hid]at h;simpa[exitTo,hid]using Za5 t h
def ZT{F:Fr P}{id dk t H L s}(he:QZ id dk=sO t)(h:Zt F t H L s):Zt F (.code (.exit id)::dk) H L s:=by
 intro k hk;cases hk with
 |code hc ht =>obtain rfl:=ZvH hc;obtain⟨k',u,h2⟩:=Zde ht he;exact Jl.step (λa w=>stepR_exit u) (h _ h2)
def ZY{g Z w tmps H L s}(m:Zu g Z w tmps H L s){x y}(hc:ZW x=sO y){c}(hcond:c=true){p e}(u:ZC H c y=sO (p,e))(hp:p)(ds):ZL g Z w L ((Act.mk tmps ds).eval x) e:=by
 cases x with
 |tmp t =>cases hc;simp[ZC]at u;split at u;rename_i c' e' hg;cases u;exact(m.env t _ hg).1 (hp hcond);rename_i e' hne hg;cases u;exact m.env t _ hg;grind
 |const v =>simp[ZW]at hc;obtain⟨d,hd,rfl⟩:=hc;cases u;exact ZjX hd
 |func f =>cases hc;cases u;exact .fn (.func f) [] [] [] [] rfl rfl (λi v d h=>by grind) (λi v d h=>by grind)
 |global g =>
  cases hc;cases u;cases ht:Zs5.tab g with
  |none=>exact .any _
  |some cs=>exact m.st.tabs g cs ht
def Zce{g Z w tmps H L s}(m:Zu g Z w tmps H L s){c}(u:c=true)(ds) :
  ∀{xs ys p es},Zct xs=sO ys->Z8 H c ys=sO (p,es)->p->ZI (ZL g Z w L) (xs.map (Act.mk tmps ds).eval) es
 | [],ys,p,es,hc,ha,hp=>by cases hc;cases ha;exact .nil
 |x::xs,ys,p,es,hc,ha,hp=>by simp[Zct]at hc;split at hc<;>simp at hc;rename_i y ys' hy t;subst hc;simp[Z8]at ha;split at ha<;>simp only[ZIx,reduceCtorEq]at ha;rename_i p1 e1 p2 es' h1 h2;obtain⟨rfl,rfl⟩:=ha;exact .cons (ZY m hy u h1 hp.1 ds) (Zce m u ds t h2 hp.2)
def Zl{F:Fr P}{o x y dk H L s b p}(ho:ZC H true o=sO (p,.d (.bool b)))(hp:p)(ht:b=true->Zt F (.code x::dk) H L s)(hf:b=false->Zt F (.code y::dk) H L s):Zt F (.code (.cond o x y)::dk) H L s:=by
 intro k hk;cases hk with
 |code hc htl =>obtain⟨o',a,b',rfl,t,ha,hb⟩:=ZBW hc;intro g Z w tmps hN m;have hv:=ZY m t rfl ho hp F.ds;have u:(Act.mk tmps F.ds).eval o'=.bool b:=ZbZ hv;refine F.T.back _ _ _ _ (.one (stepR_cond u)) ?_;cases b;exact hf rfl _ (.code hb htl) g Z w tmps hN m;exact ht rfl _ (.code ha htl) g Z w tmps hN m
def Zic{F:Fr P}{os ks dk H L s}(h:DO F ks dk os H L s):Zt F (.code (.reg os ks)::dk) H L s:=by
 intro k u;cases u with
 |code hc ht =>obtain⟨id,ops,rfl,t,_⟩:=ZDg hc;exact Jl.step (λa w=>stepR_region) (h _ _ _ t ht)
end
def ZjH(w:World){o}{b}(h:b<w.heap.size):(w.alloc o).heap[b]?=w.heap[b]?:=by
 show(w.heap.push o)[b]?=_;rw[Array.getElem?_push];simp[Nat.ne_of_lt h]
def Kk(w:World){o}:(w.alloc o).heap[w.heap.size]?=sO o:=by
 show(w.heap.push o)[w.heap.size]?=_;rw[Array.getElem?_push];simp
def Zdo(v:Value):v.oneCell'=v.one1:=by cases v<;>rfl
section
variable {P:Program} {g:G} {Z:Nat->Nat} {w:World} {tmps:Array Value} {H:Env} {L:Loc} {s:St}
def Ziw(b:Nat){t vs:Array Value}{T:TypeId}(hb:w.heap[b]?=sO (.cells t T (0,0)))(u:vs.size=t.size)(hp:g.prot b=0)(hk:¬g.kept b):Ext g w g (w.setRow b vs):={
 size:=by simp
 prot _:=ZIO _
 cell b' o ho:=by by_cases h:b'=b;subst h;omega;exact JA (setRow_other w b b' vs h)
 hdr b' x hx:=by by_cases h:b'=b;subst h;simp only[hdr,hb]at hx;simp only[hdr,setRow_heap w b' t vs T (0,0) hb,u];exact hx;rw[Zbs (setRow_other w b b' vs h)];exact hx
 kept b' hb':=setRow_other w b b' vs (λh=>hk (h▸hb'))
 keptProt _ _:=rfl
 keptEq:=rfl
 os:=rfl
 output:=rfl
 tape:=rfl }
def Yf.other{g:G}{w w':World}{s:St}(m:Yf g s w)(e:Ext g w g w')(hs:w'.heap.size=w.heap.size)(t:∀b o,s b=sO o->w'.heap[b]?=w.heap[b]?):Yf g s w':={
 obj b o ho:=(m.obj b o ho).mono e (t b o ho) rfl
 kept:=m.kept
 fresh b h:=m.fresh b ω
 tabs n cs hc:=(m.tabs n cs hc).mono e }
def Zu.store(m:Zu g Z w tmps H L s){l cs ds}(hl:Zh L l=sO cs){vs}(hr:ZI (Rep g w) vs.toList ds)(ho:∀v∈vs,v.one1=true)(hn:I ds=I cs):
  Ext g w g (w.setRow (Z l) vs)/\Zu g Z (w.setRow (Z l) vs) tmps H ((l,ds)::L) s:=by
 obtain⟨hp,ad,T,h1,h2,_,_⟩:=m.loc l cs hl;have ae:vs.size=ad.size:=by have:=hr.len;simp at this;omega
 have he:=Ziw (g:=g) (Z l) h1 ae hp (m.locKept l cs hl);refine⟨he,⟨?_,?_,?_,?_,?_,?_⟩⟩;exact m.st.other he ψ (λb o hb=>setRow_other w (Z l) b vs (λh=>by subst h;rw[m.locSt l cs hl]at hb;simp at hb));intro l' ab u;simp only[Zh]at u;by_cases h:l=l';subst h;simp only[if_true,ZIx]at u;subst u;refine⟨hp,vs,T,setRow_heap w (Z l) ad vs T (0,0) h1,by rw[ae,h2,hn],λi v d hv hd=>?_,ho⟩;exact(hr.get i v d (by simpa using hv) hd).mono he;simp only[h,if_false]at u;have af:Z l'≠Z l:=λhh=>h (m.inj l l' cs ab hl u hh.symm);exact(m.loc l' ab u).mono he (setRow_other w (Z l) (Z l') vs af) rfl;intro l' ab u;simp only[Zh]at u;by_cases h:l=l';subst h;exact m.locKept l cs hl;simp only[h,if_false]at u;exact m.locKept l' ab u;intro l' ab u;simp only[Zh]at u;by_cases h:l=l';subst h;exact m.locSt l cs hl;simp only[h,if_false]at u;exact m.locSt l' ab u;intro a b ca cb ha hb ac;simp only[Zh]at ha hb;by_cases h1:l=a;by_cases h2:l=b;exact h1.symm.trans h2;simp only[h2,if_false]at hb;subst h1;exact m.inj _ _ cs cb hl hb ac;simp only[h1,if_false]at ha;by_cases h2:l=b;subst h2;exact m.inj _ _ ca cs ha hl ac;simp only[h2,if_false]at hb;exact m.inj _ _ ca cb ha hb ac;intro t e ht;refine((m.env t e ht).mono he).locs (λl' ab u=>⟨?_,rfl⟩);by_cases h:l=l';exact⟨ds,by simp[Zh,h]⟩;exact⟨ab,by simp[Zh,h,u]⟩
def Zw5(c:Array Value)(T:TypeId)(t:∀b,w.heap.size<=b->g.prot b=0/\¬g.kept b):JW g w g (w.alloc (.cells c T)):={
 size:=by simp
 old b hb:=ZjH w hb
 prot _ _:=rfl
 fresh b hb:=(t b (by simp at hb;omega)).1
 kept:=rfl
 os:=rfl
 output:=rfl
 tape:=rfl }
def Zu.alloc(m:Zu g Z w tmps H L s){l ds}(hl:Zal L l=false){vs}(hr:ZI (Rep g w) vs.toList ds)(ho:∀v∈vs,v.one1=true)(T):
  Ext g w g (w.alloc (.cells vs T))/\Zu g (λx=>if x=l then w.heap.size else Z x) (w.alloc (.cells vs T)) tmps H ((l,ds)::L) s:=by
 have hg:=Zw5 (g:=g) vs T m.st.fresh;have he:=hg.ext m.st.fresh;have m':=m.grow hg;have hn:Zh L l=nO:=by simpa[Zal]using hl
 have ad:∀l' ab,Zh L l'=sO ab->l'≠l:=λl' ab h hh=>by subst hh;rw[hn]at h;simp at h
 refine⟨he,⟨m'.st,?_,?_,?_,?_,?_⟩⟩;intro l' ab u;simp only[Zh]at u;by_cases h:l=l';subst h;simp only[if_true,ZIx]at u;subst u;simp only[if_true];refine⟨(m.st.fresh _ (ZIO _)).1,vs,T,Kk w,by simpa using hr.len,λi v d hv hd=>?_,ho⟩;exact(hr.get i v d (by simpa using hv) hd).mono he;simp only[h,if_false]at u;simp only[show ¬l'=l from λhh=>h hh.symm,if_false];exact m'.loc l' ab u;intro l' ab u;simp only[Zh]at u;by_cases h:l=l';subst h;simp only[if_true];exact(m.st.fresh _ (ZIO _)).2;simp only[h,if_false]at u;simp only[show ¬l'=l from λhh=>h hh.symm,if_false];exact m.locKept l' ab u
 .intro l' ab u;simp only[Zh]at u;by_cases h:l=l'
  .subst h;simp only[if_true];cases hs:s w.heap.size with
   |none=>rfl
   |some o=>exact absurd (m.st.obj _ o hs).lt (Nat.lt_irrefl _)
  simp only[h,if_false]at u;simp only[show ¬l'=l from λhh=>h hh.symm,if_false];exact m.locSt l' ab u
 intro a b ca cb ha hb ac;simp only[Zh]at ha hb;by_cases h1:l=a;by_cases h2:l=b;exact h1.symm.trans h2;simp only[h2,if_false]at hb;simp only[h1.symm,if_true,show ¬b=l from λhh=>h2 hh.symm,if_false]at ac;have:=(m.loc b cb hb).lt;omega;simp only[h1,if_false]at ha;by_cases h2:l=b;simp only[h2.symm,if_true,show ¬a=l from λhh=>h1 hh.symm,if_false]at ac;have:=(m.loc a ca ha).lt;omega;simp only[h2,if_false]at hb;simp only[show ¬a=l from λhh=>h1 hh.symm,show ¬b=l from λhh=>h2 hh.symm,if_false]at ac;exact m.inj _ _ ca cb ha hb ac;intro t e ht;refine(m'.env t e ht).locs (λl' ab u=>⟨⟨ab,?_⟩,?_⟩);have:=ad l' ab u;simp[Zh,show ¬l=l' from λhh=>this hh.symm,u];simp[ad l' ab u]
def ZmL(c:Array Value)(T:TypeId)(hf:∀b,w.heap.size<=b->g.prot b=0/\¬g.kept b):
  JW g w { g with prot:=λb=>if b=w.heap.size then c.size else g.prot b } (w.alloc (.cells c T)) where
 size:=by simp
 old b hb:=ZjH w hb
 prot b hb:=by simp[Nat.ne_of_lt hb]
 fresh b hb:=by simp at hb;simp[show b≠w.heap.size by omega,(hf b ω).1]
 kept:=rfl
 os:=rfl
 output:=rfl
 tape:=rfl
def Z7(m:Zu g Z w tmps H L s){ops o gd}(hc:ZjO ops o.guard=sO gd){c}(hg:Zj H gd=sO c):Region.wanted o (yielded ops tmps)=c:=by
 unfold ZjO at hc;unfold Region.wanted;split at hc;rename_i h0;simp only[ZIx]at hc;subst hc;simp only[Zj,ZIx]at hg;subst hg;simp[h0];rename_i j b h0;split at hc<;>simp at hc;rename_i t ht;subst hc;simp only[h0];have hy:yielded ops tmps j=match tmps.getD t undef with
   |.bool b=>sO b
   |_=>nO:=by
  unfold yielded;rw[ht];simp only[Option.bind_some];rcases Nat.lt_or_ge t tmps.size with u|hge;simp[Array.getD,u];split<;>simp_all;simp[Array.getD,Nat.not_lt.2 hge,undef]
 simp only[Zj]at hg;split at hg;rename_i b' he;simp only[ZIx]at hg;subst hg;have:=ZbZ (m.env t _ he);rw[hy,this];cases b<;>cases b'<;>rfl;rename_i c0 b' he;simp only[ZIx]at hg;subst hg;have h:=m.env t _ he;cases c0;have:=h.2 rfl;rw[hy,this];simp[undef];have:=ZbZ (h.1 rfl);rw[hy,this];cases b<;>cases b'<;>rfl;simp at hg
end
section
variable {P:Program}
def Yb{op k}(h:ck P op=sO k)(t:k.isDefer=false)(c):op≠.defer c:=by
 rintro rfl;simp only[ck,cq]at h;split at h<;>(try(simp at h;done));split at h<;>simp only[ZIx,reduceCtorEq]at h;subst h;simp[K.isDefer]at t
def Zjb{b:Frame}{a k cs w w' ops i rest o v}(ho:ops[i]?=sO o)(hw:Region.wanted o (yielded ops a.tmps)=true)(u:∀c,o.op≠.defer c)(hr:(execOp a.eval o).run P w=.ok (.value v) w'):
  step P (lone (b.atR a (.inRegion ops (i::rest)::k)) cs w)=.next (lone (b.atR (a.put o.dst v) (.inRegion ops rest::k)) cs w'):=by
 refine step_lone_go ?_;rw[stepGR_op ho hw,Oper.semAt_eq _ _ _ u];have t:(b.atR a (.inRegion ops (i::rest)::k)).finish v=b.atR (a.put o.dst v) (.inRegion ops rest::k):=by rw[Frame.finish_atR,ho];rfl
 rw[<-t];simp[stepG.apply,hr]
def Zja{b:Frame}{a k cs w w' ops i rest o}(ho:ops[i]?=sO o)(hw:Region.wanted o (yielded ops a.tmps)=true)(u:∀c,o.op≠.defer c)(hr:(execOp a.eval o).run P w=.ok .skip w'):
  step P (lone (b.atR a (.inRegion ops (i::rest)::k)) cs w)=.next (lone (b.atR (a.put o.dst undef) (.inRegion ops rest::k)) cs w'):=by
 refine step_lone_go ?_;rw[stepGR_op ho hw,Oper.semAt_eq _ _ _ u];have t:(b.atR a (.inRegion ops (i::rest)::k)).finish undef=b.atR (a.put o.dst undef) (.inRegion ops rest::k):=by rw[Frame.finish_atR,ho];rfl
 rw[<-t];simp[stepG.apply,hr]
def Zsr{b:Frame}{a k cs w ops i rest o}(t:ops[i]?=sO o)(u:Region.wanted o (yielded ops a.tmps)=false):
  step P (lone (b.atR a (.inRegion ops (i::rest)::k)) cs w)=.next (lone (b.atR (a.put o.dst undef) (.inRegion ops rest::k)) cs w):=by
 have:=stepR_op_skip (P:=P) (b:=b) (a:=a) (k:=k) (cs:=cs) (w:=w) (ops:=ops) (i:=i) (rest:=rest) (by simp[t,u]);simpa[t]using this
def Zyk{N ops is o os}(h:Jo P N ops is=sO (o::os)):
  ∃i r oo,is=i::r/\ops[i]?=sO oo/\Jo P N ops r=sO os/\ck P oo.op=sO o.k/\ZjO ops oo.guard=sO o.guard/\oo.dst=o.dst/\∀d,o.dst=sO d->d<N:=by
 cases is with
 |nil=>simp[Jo]at h
 |cons i r =>simp only[Jo]at h;split at h<;>(try(simp at h;done));rename_i oo ac;split at h<;>simp only[ZIx,List.cons.injEq,reduceCtorEq]at h;rename_i d ds hd u;obtain⟨rfl,rfl⟩:=h;simp only[cop]at hd;split at hd<;>(try(simp at hd;done));rename_i k g hk hg;refine⟨i,r,oo,rfl,ac,u,?_⟩;split at hd;rename_i t;simp only[ZIx]at hd;subst hd;exact⟨hk,hg,t,λd h=>by simp at h⟩;rename_i d' t;split at hd<;>simp at hd;rename_i ab;subst hd;exact⟨hk,hg,t,λd h=>by simp only[ZIx]at h;exact h▸ab⟩
def ZAg{N ops is}(h:Jo P N ops is=sO []):is=[]:=by
 cases is with
 |nil=>rfl
 |cons i r=>simp only[Jo]at h;split at h<;>(try(simp at h;done));split at h<;>simp at h
def ZfJ{g Z w tmps H L s}(m:Zu g Z w tmps H L s){N}(t:N<=tmps.size){dst}(u:∀d,dst=sO d->d<N){v e}(h:ZL g Z w L v e)(ds):∃tmps',(Act.mk tmps ds).put dst v=⟨tmps',ds⟩/\N<=tmps'.size/\Zu g Z w tmps' (Zx H dst e) L s:=by
 cases dst with
 |none=>exact⟨tmps,rfl,t,m⟩
 |some d=>exact⟨tmps.setIfInBounds d v,rfl,by simpa using t,m.put (by have:=u d rfl;omega) h⟩
def ZoT{F:Fr P}{ops i r k oo}{o:DOp}{g Z w tmps H L s}(hN:F.N<=tmps.size)(m:Zu g Z w tmps H L s)(hoo:ops[i]?=sO oo)(u:oo.dst=o.dst)(hd:∀d,o.dst=sO d->d<F.N)(hw:Region.wanted oo (yielded ops tmps)=true)(hnd:∀c,oo.op≠.defer c){e}(hv:∃v,(execOp (Act.mk tmps F.ds).eval oo).run P w=.ok (.value v) w/\ZL g Z w L v e)(h:Jl F (.inRegion ops r::k) (Zx H o.dst e) L s):
  F.T.T g w (lone (F.b.atR ⟨tmps,F.ds⟩ (.inRegion ops (i::r)::k)) F.cs w):=by
 obtain⟨v,hr,hv⟩:=hv;refine F.T.back _ _ _ _ (.one (Zjb hoo hw hnd hr)) ?_;rw[u];obtain⟨t,e1,e2,m'⟩:=ZfJ m hN hd hv F.ds;rw[e1];exact h g Z w t e2 m'
def ZbF{F:Fr P}{ops i r k oo}{o:DOp}{g Z w tmps H L s}(hN:F.N<=tmps.size)(m:Zu g Z w tmps H L s)(hoo:ops[i]?=sO oo)(u:oo.dst=o.dst)(hd:∀d,o.dst=sO d->d<F.N)(hw:Region.wanted oo (yielded ops tmps)=false){e}(h:Jl F (.inRegion ops r::k) (Zx H o.dst (.when false e)) L s):F.T.T g w (lone (F.b.atR ⟨tmps,F.ds⟩ (.inRegion ops (i::r)::k)) F.cs w):=by
 refine F.T.back _ _ _ _ (.one (Zsr hoo hw)) ?_;rw[u];obtain⟨t,e1,e2,m'⟩:=ZfJ m hN hd (v:=undef) (e:=.when false e) ⟨λh=>by simp at h,λ_=>rfl⟩ F.ds;rw[e1];exact h g Z w t e2 m'
def ZDk{op q xs}(h:ck P op=sO (.q q xs)):∃t,cq P op=sO (q,t)/\Zct t=sO xs:=by
 unfold ck at h;split at h;rename_i q' t u;simp only[ZIL,K.q.injEq]at h;obtain⟨zs,hz,rfl,rfl⟩:=h;exact⟨t,u,hz⟩;exfalso;split at h<;>(try(simp at h;done));all_goals (repeat' (split at h<;>(try(simp at h;done))))
def ZdY(H):∀(ks t e),ZM (Yn H ks) t=sO e->ZM H t=sO e
 | [],t,e,h=>by simp[Yn,ZM]at h
 |k::ks,t,e,h=>by simp only[Yn]at h;split at h;rename_i e' u;simp only[ZM]at h;by_cases hk:k=t;subst hk;simp only[if_true]at h;rw[u,h];simp only[hk,if_false]at h;exact ZdY H ks t e h;exact ZdY H ks t e h
def Zg8:∀{H t e},ZM H t=sO e->(t,e)∈H
 | (k,e')::H,t,e,h=>by simp only[ZM]at h;by_cases u:k=t;simp only[u,if_true,ZIx]at h;subst h;subst u;simp;simp only[u,if_false]at h;exact List.mem_cons_of_mem _ (Zg8 h)
def JR(L):∀(ls l cs),Zh (Zay L ls) l=sO cs->Zh L l=sO cs
 | [],l,cs,h=>by simp[Zay,Zh]at h
 |k::ls,l,cs,h=>by simp only[Zay]at h;split at h;rename_i c' t;simp only[Zh]at h;by_cases u:k=l;subst u;simp only[if_true]at h;rw[t,h];simp only[u,if_false]at h;exact JR L ls l cs h;exact JR L ls l cs h
def ZgG(L):∀(ls l cs),l∈ls->Zh L l=sO cs->Zh (Zay L ls) l=sO cs
 |k::ls,l,cs,hm,h=>by
  simp only[Zay];by_cases hk:k=l;subst hk;simp[h,Zh];have hm':l∈ls:=by rcases List.mem_cons.1 hm with rfl|h;exact absurd rfl hk;exact h
  split;simp only[Zh,hk,if_false];exact ZgG L ls l cs hm' h;exact ZgG L ls l cs hm' h
def ZL.keep{g Z w L u v e}(h:ZL g Z w L v e)(hl:∀l∈Ks e,l∈u):ZL g Z w (Zay L u) v e:=by
 induction e with
 |d x=>exact h
 |loc l o=>obtain⟨⟨cs,t⟩,hv⟩:=h;exact⟨⟨cs,ZgG L u l cs (hl l (by simp[Ks])) t⟩,hv⟩
 |when c e ih=>exact⟨λt=>ih (h.1 t) hl,h.2⟩
def Zu.keep(m:Zu g Z w tmps H L s)(ks:List Nat):Zu g Z w tmps (Yn H ks) (Za7 (Yn H ks) L) s:={
 st:=m.st
 loc l cs h:=m.loc l cs (JR _ _ _ _ h)
 locKept l cs h:=m.locKept l cs (JR _ _ _ _ h)
 locSt l cs h:=m.locSt l cs (JR _ _ _ _ h)
 inj l l' cs cs' h h':=m.inj l l' cs cs' (JR _ _ _ _ h) (JR _ _ _ _ h')
 env t e h:=(m.env t e (ZdY H ks t e h)).keep (λl u=>List.mem_flatMap.2 ⟨(t,e),Zg8 h,u⟩) }
def Zq5{F:Fr P}{dk H L s}(ks)(h:Zt F dk (Yn H ks) (Za7 (Yn H ks) L) s):Zt F dk H L s :=
 λk u g Z w tmps t m=>h k u g Z w tmps t (m.keep ks)
def ZC8{F:Fr P}{kp dk H L s}(h:Zt F dk H L s):DO F kp dk [] H L s:=by
 intro ops is k t hk g Z w tmps u m;obtain rfl:=ZAg t;exact F.T.back _ _ _ _ (.one stepR_region_end) (h k hk g Z w tmps u m)
def kept(kp:Option (List Nat))(H:Env):Env :=
 match kp with
 |some ks=>Yn H ks
 |none=>H
def ZlM(kp:Option (List Nat))(H:Env)(L:Loc):Loc :=
 match kp with
 |some ks=>Za7 (Yn H ks) L
 |none=>L
def Ze8{F:Fr P}{kp}{dk}{H}{L}{s}(h:Zt F dk (kept kp H) (ZlM kp H L) s):DO F kp dk [] H L s:=by
 refine ZC8 ?_;cases kp with
 |none=>exact h
 |some ks=>exact Zq5 ks h
end
section
variable {P:Program}
def ZA0{g Z w tmps H L s}(m:Zu g Z w tmps H L s){x a b x' u b'}(hx:ZW x=sO x')(ha:ZW a=sO u)(hb:ZW b=sO b'){c}(hc:c=true){p v}(h:ZdO H c x' u b'=sO (p,v))(t:p){ds dst ty pos af gd}:
  (execOp (Act.mk tmps ds).eval ⟨dst,.pick x a b,ty,pos,af,gd⟩).run P w=.ok (.value (.bool v)) w:=by
 unfold ZdO at h;split at h<;>(try(grind;done));rename_i p0 v0 h0;split at h<;>(try(grind;done));rename_i pa y pb z h1 h2;cases h;subst hc;have e0:=ZbZ (ZY m hx rfl h0 t.1 ds);cases v0;have e2:=ZbZ (ZY m hb rfl h2 t.2.2 ds);simp[execOp,e0,e2,asBool];have e1:=ZbZ (ZY m ha rfl h1 t.2.1 ds);simp[execOp,e0,e1,asBool]
def ZB4{op x a b}(h:ck P op=sO (.pick x a b)):∃x' a' b',op=.pick x' a' b'/\ZW x'=sO x/\ZW a'=sO a/\ZW b'=sO b:=by
 unfold ck at h;split at h;simp at h;split at h<;>(try(simp at h;done));all_goals (try(repeat' (split at h<;>(try(simp at h;done)))))
 cases h;exact⟨_,_,_,rfl,‹_›,‹_›,‹_›⟩
def Ztu{op z}(h:ck P op=sO (.alloc z)):∃e,op=.alloc e/\Zab P e=sO z:=by
 unfold ck at h;split at h;simp at h;split at h<;>(try(simp at h;done));all_goals (try(repeat' (split at h<;>(try(simp at h;done)))))
 simp at h;exact⟨_,rfl,h⟩
def Zyc{op x}(h:ck P op=sO (.box x)):∃e x',op=.box e x'/\ZW x'=sO x:=by
 unfold ck at h;split at h;simp at h;split at h<;>(try(simp at h;done));all_goals (try(repeat' (split at h<;>(try(simp at h;done)))))
 simp at h;exact⟨_,_,rfl,h⟩
def Zra{op a v}(h:ck P op=sO (.store1 a v)):∃t a' v',op=.store t a' v'/\JX P t=sO false/\ZS P t=sO 1/\ZW a'=sO a/\ZW v'=sO v:=by
 unfold ck at h;split at h;simp at h;split at h<;>(try(simp at h;done));all_goals (try(repeat' (split at h<;>(try(simp at h;done)))))
 cases h;exact⟨_,_,_,rfl,‹_›,‹_›,‹_›,‹_›⟩
def Zrb{op a v n}(h:ck P op=sO (.storeN n a v)):∃t a' v',op=.store t a' v'/\JX P t=sO true/\ZS P t=sO n/\ZW a'=sO a/\ZW v'=sO v:=by
 unfold ck at h;split at h;simp at h;split at h<;>(try(simp at h;done));all_goals (try(repeat' (split at h<;>(try(simp at h;done)))))
 cases h;exact⟨_,_,_,rfl,‹_›,‹_›,‹_›,‹_›⟩
def Zyd{op len n z is xs}(h:ck P op=sO (.bsl len n z is xs)):
  ∃t e parts,op=.buildSlice t len parts/\P.underlying t=sO (.slice e)/\ZS P e=sO n/\Zab P e=sO z/\Zct (parts.toList.map (·.2))=sO xs/\is=parts.toList.map (·.1) /\
   Qw len is=true/\I z=n/\0<n/\len*n<=2 ^ 24:=by
 unfold ck at h;split at h;simp at h;split at h<;>(try(simp at h;done));all_goals (try(repeat' (split at h<;>(try(simp at h;done)))))
 rename_i u;cases h;simp at u;exact⟨_,_,_,rfl,‹_›,‹_›,‹_›,‹_›,rfl,u.1.1.1,u.1.1.2,u.1.2,u.2⟩
def Qh{g w t z}(h:Zab P t=sO z):∃v,(zeroValue t).run P w=.ok v w/\ZI (Rep g w) v.cells.toList z/\(∀x∈v.cells,x.one1=true)/\∃i,P.info? t=sO i/\i.zero=sO v:=by
 unfold Zab at h;cases hi:P.info? t with
 |none=>grind
 |some i =>
  cases u:i.zero with
  |none=>grind
  |some v =>simp[hi,u]at h;obtain⟨h1,h2⟩:=ZdV (g:=g) (w:=w) h;exact⟨v,by simp[zeroValue,typeInfo,hi,u],h1,λx hx=>h2 x (Array.mem_toList_iff.2 hx),i,rfl,u⟩
def Y7{F:Fr P}{kp dk o os H L s}(h:∀(oo:Oper) (g:G) (Z:Nat->Nat) (w:World) (tmps:Array Value) (u:Array Oper) (i:Nat) (r:List Nat) (k:List Item),u[i]?=sO oo->ck P oo.op=sO o.k->ZjO u oo.guard=sO o.guard ->
   oo.dst=o.dst->(∀d,o.dst=sO d->d<F.N)->F.N<=tmps.size->Zu g Z w tmps H L s->Jo P F.N u r=sO os->Wy P F.an F.N k dk ->
   F.T.T g w (lone (F.b.atR ⟨tmps,F.ds⟩ (.inRegion u (i::r)::k)) F.cs w)):DO F kp dk (o::os) H L s:=by
 intro u is k t hk g Z w tmps hN m;obtain⟨i,r,oo,rfl,h1,h2,h3,h4,h5,h6⟩:=Zyk t;exact h oo g Z w tmps u i r k h1 h3 h4 h5 h6 hN m h2 hk
def ZsW{F:Fr P}{kp dk o os H L s c}(hg:Zj H o.guard=sO c)(hnk:o.k.isDefer=false){e e'}(he:e'=.when c e\/(c=true/\e'=e))(hv:c=true->∀(oo:Oper) (g:G) (Z:Nat->Nat) (w:World) (tmps:Array Value),ck P oo.op=sO o.k->Zu g Z w tmps H L s ->
   ∃v,(execOp (Act.mk tmps F.ds).eval oo).run P w=.ok (.value v) w/\ZL g Z w L v e)(h:DO F kp dk os (Zx H o.dst e') L s):DO F kp dk (o::os) H L s:=by
 refine Y7 λoo g Z w tmps ag i r k ac u ad t hd hN m hr ae=>?_;have ab:=h ag r k hr ae;have hw:=Z7 m ad hg;have af:=Yb u hnk;cases c;rcases he with rfl|⟨h0,_⟩;exact ZbF (P:=P) hN m ac t hd hw ab;grind;obtain⟨v,h1,h2⟩:=hv rfl oo g Z w tmps u m;refine ZoT hN m ac t hd hw af ⟨v,h1,?_⟩ ab;rcases he with rfl|⟨_,rfl⟩;exact⟨λ_=>h2,λh=>by simp at h⟩;exact h2
def ZC9{F:Fr P}{kp dk o os H L s c}(hg:Zj H o.guard=sO c){q xs}(hk:o.k=.q q xs){p side es e}(ha:Z8 H c xs=sO (p,es))(hq:qv L s q es=sO (side,e))(hs:c=true->p/\side){e'}(he:e'=.when c e\/(c=true/\e'=e))(h:DO F kp dk os (Zx H o.dst e') L s):DO F kp dk (o::os) H L s:=by
 refine ZsW hg (by rw[hk];rfl) he (λhc oo g Z w tmps u m=>?_) h;rw[hk]at u;obtain⟨ys,ab,ac⟩:=ZDk u;have t:=Zce m hc F.ds ac ha (hs hc).1;exact ZCB ab t m.loc m.st hq (hs hc).2
def Yk{F:Fr P}{ops i r k oo}{o:DOp}{g g' Z' w w' tmps H L' s'}(hN:F.N<=tmps.size)(hoo:ops[i]?=sO oo)(hdst:oo.dst=o.dst)(hd:∀d,o.dst=sO d->d<F.N)(hw:Region.wanted oo (yielded ops tmps)=true)(hnd:∀c,oo.op≠.defer c){e v}(hr:(execOp (Act.mk tmps F.ds).eval oo).run P w=.ok (.value v) w')(hx:Ext g w g' w')(m':Zu g' Z' w' tmps H L' s')(hv:ZL g' Z' w' L' v e)(h:Jl F (.inRegion ops r::k) (Zx H o.dst e) L' s'):F.T.T g w (lone (F.b.atR ⟨tmps,F.ds⟩ (.inRegion ops (i::r)::k)) F.cs w):=by
 refine F.T.back _ _ _ _ (.one (Zjb hoo hw hnd hr)) ?_;rw[hdst];obtain⟨t,e1,e2,u⟩:=ZfJ m' hN hd hv F.ds;rw[e1];exact F.T.ext _ _ _ _ _ hx (h g' Z' w' t e2 u)
def ZsS{F:Fr P}{kp dk o os H L s}(hg:o.guard=nO){t}(hdt:o.dst=sO t){z}(hk:o.k=.alloc z)(hl:Zal L t=false)(h:DO F kp dk os ((t,.loc t 0)::H) ((t,z)::L) s):DO F kp dk (o::os) H L s:=by
 refine Y7 λoo g Z w tmps ak i r k af u ac ab hd hN m hr ad=>?_;have hw:=Z7 m ac (c:=true) (by rw[hg];rfl);have ae:=Yb u (by rw[hk];rfl);rw[hk]at u;obtain⟨T,ag,hz⟩:=Ztu u;obtain⟨v,ah,ai,aj,_⟩:=Qh (g:=g) (w:=w) hz;obtain⟨hx,m'⟩:=m.alloc hl ai aj T;refine Yk (s':=s) hN af ab hd hw ae (v:=.pointer (sO ⟨w.heap.size,0,nO⟩)) (e:=.loc t 0) ?_ hx m' ⟨⟨z,by simp[Zh]⟩,ψ⟩ ?_;simp[execOp,ag,Instr.alloc,ah,newVar,newRow];rw[hdt];exact h ak r k hr ad
def ZC6{F:Fr P}{kp dk o os H L s}(hg:o.guard=nO){t}(hdt:o.dst=sO t){x}(hk:o.k=.box x){p v}(ha:ZC H true x=sO (p,.d v))(hp:p)(hl:Zal L t=false)(hok:Kb v=true)(h:DO F kp dk os ((t,.loc t 0)::H) ((t,cellsOf v)::L) s):DO F kp dk (o::os) H L s:=by
 refine Y7 λoo g Z w tmps am i r k aj ab ag ac hd hN m hr ah=>?_;have hw:=Z7 m ag (c:=true) (by rw[hg];rfl);have ai:=Yb ab (by rw[hk];rfl);rw[hk]at ab;obtain⟨T,x',ak,al⟩:=Zyc ab;have u:Rep g w _ v:=ZY m al rfl ha hp F.ds;obtain⟨ae,af⟩:=Zd5 u hok;have ad:=ZhP u hok;obtain⟨hx,m'⟩:=m.alloc hl (Ye (by simpa using ae) af) (λv hv=>ad v hv) T;refine Yk (s':=s) hN aj ac hd hw ai (v:=.pointer (sO ⟨w.heap.size,0,nO⟩)) (e:=.loc t 0) ?_ hx m' ⟨⟨cellsOf v,by simp[Zh]⟩,ψ⟩ ?_;simp[execOp,ak,Instr.box,newVar,newRow];rw[hdt];exact h am r k hr ah
def ZCv{g Z w L v l off}(h:ZL g Z w L v (.loc l off)):v=.pointer (sO ⟨Z l,off,nO⟩):=h.2
def ZsV{F:Fr P}{kp dk o os H L s}(hg:o.guard=nO){a v}(hk:o.k=.store1 a v/\True\/∃n,o.k=.storeN n a v){p q l off d cs}(ha:ZC H true a=sO (p,.loc l off))(hv:ZC H true v=sO (q,.d d))(hp:p)(hq:q)(hL:Zh L l=sO cs)(hd1:o.k=.store1 a v->QU d=true)(hd2:∀n,o.k=.storeN n a v->(∃xs,d=.agg xs)/\(cellsOf d).length=n)(hlen:off+(cellsOf d).length<=I cs)(hdst0:o.dst=nO)(h:DO F kp dk os H ((l,Zy cs off (cellsOf d))::L) s):DO F kp dk (o::os) H L s:=by
 refine Y7 λoo g Z w tmps a4 i r k aw ab ap ak hd hN m hr au=>?_;have hw:=Z7 m ap (c:=true) (by rw[hg];rfl);have av:=Yb ab (by rcases hk with ⟨hk,_⟩|⟨n,hk⟩<;>rw[hk]<;>rfl);have ai:∃t a' v',oo.op=.store t a' v'/\ZW a'=sO a/\ZW v'=sO v/\ZS P t=sO (cellsOf d).length/\Kb d=true:=by rcases hk with ⟨hk,_⟩|⟨n,hk⟩;have ac:=hd1 hk;rw[hk]at ab;obtain⟨t,a',v',h1,h2,h3,h4,h5⟩:=Zra ab;refine⟨t,a',v',h1,h4,h5,?_,?_⟩;rw[h3];cases d<;>simp[QU]at ac<;>rfl;cases d<;>simp[QU]at ac<;>rfl;obtain⟨⟨xs,rfl⟩,hn⟩:=hd2 n hk;rw[hk]at ab;obtain⟨t,a',v',h1,h2,h3,h4,h5⟩:=Zrb ab;exact⟨t,a',v',h1,h4,h5,by rw[h3,hn],rfl⟩
 obtain⟨t,a',v',ax,al,a0,az,ac⟩:=ai;have am:=ZCv (ZY m al rfl ha hp F.ds);have ag:Rep g w _ d:=ZY m a0 rfl hv hq F.ds;obtain⟨ah,ao⟩:=Zd5 ag ac;have af:=ZhP ag ac;obtain⟨hpr,u,T,hb,aq,ar,aj⟩:=m.loc l cs hL;generalize a3:(Act.mk tmps F.ds).eval v'=vv at *;have ay:=run_storeCells_at (P:=P) (Z l) off T vv.cells.toList 0 u w hb (by simp;omega) (λx hx=>by rw[Zdo];exact af x (Array.mem_toList_iff.1 hx));have ad:ZI (Rep g w) (u.toList.take off++vv.cells.toList++u.toList.drop (off+vv.cells.size)) (Zy cs off (cellsOf d)):=by have ae:ZI (Rep g w) u.toList cs:=Ye (by simpa using aq) (λi v d hv hd=>ar i v d (by simpa using hv) hd);unfold Zy;rw[<-ah];exact((ae.take off).append (Ye (by simpa using ah) ao)).append (ae.drop _)
 obtain⟨hx,m'⟩:=m.store hL (vs:=(u.toList.take off++vv.cells.toList++u.toList.drop (off+vv.cells.size)).toArray) (ds:=Zy cs off (cellsOf d)) (by simpa using ad) (λx hx=>by
  simp only[List.mem_toArray,List.mem_append]at hx;rcases hx with (hx|hx)|hx;exact aj x (Array.mem_toList_iff.1 (List.mem_of_mem_take hx));exact af x (Array.mem_toList_iff.1 hx);exact aj x (Array.mem_toList_iff.1 (List.mem_of_mem_drop hx))) (by simp[Zy];omega)
 refine F.T.back _ _ _ _ (.one (Zja aw hw av (w':=w.setRow (Z l) (u.toList.take off++vv.cells.toList++u.toList.drop (off+vv.cells.size)).toArray) ?_)) ?_;simp only[execOp,ax,am,a3,Instr.storeAt,Instr.sureAddr,storeVar,Sem.run_bind,Sem.run_pure,Result.andThen_ok,YI az];rw[if_neg (by simp[ah])];rw[ay];rfl;rw[ak,hdst0];exact F.T.ext _ _ _ _ _ hx (h a4 r k hr au g Z _ tmps hN m')
end
def Zum{cs vs s k i}(hv:I vs=s)(hk:(k+1)*s<=I cs)(hi:(i+1)*s<=I cs):
  part (Zy cs (k*s) vs) (i*s) s=if i=k then vs else part cs (i*s) s:=by
 have hk':k*s+s<=I cs:=by rw[ZIX,Nat.one_mul]at hk;exact hk
 unfold part Zy;apply List.ext_getElem?;intro j;by_cases u:j<s;simp only[ZJf,u,if_true,List.getElem?_drop,List.getElem?_append,ZII,ZIS,hv];by_cases t:i=k;subst t;simp only[show i*s+j<min (i*s) (I cs)+s from by omega,show ¬i*s+j<min (i*s) (I cs) from by omega,if_true,if_false];rw[show i*s+j-min (i*s) (I cs)=j from by omega];simp only[t,if_false,ZJf,u,if_true,List.getElem?_drop];rcases Nat.lt_or_gt_of_ne t with h|h;have:(i+1)*s<=k*s:=ZIT s h;rw[ZIX,Nat.one_mul]at this;simp only[show i*s+j<min (k*s) (I cs)+s from by omega,show i*s+j<min (k*s) (I cs) from by omega,if_true,show i*s+j<k*s from by omega];have:(k+1)*s<=i*s:=ZIT s h;rw[ZIX,Nat.one_mul]at this;simp only[show ¬i*s+j<min (k*s) (I cs)+s from by omega,if_false]
 congr 1;omega
 have e1:∀l:List D,(l.take s)[j]?=nO:=λl=>by simp[ZJf,u]
 rw[e1];split;exact(ZJj (l:=vs) (i:=j) ω).symm;rw[e1]
def ZqA{cs vs o}(h:o+I vs<=I cs):(Zy cs o vs).length=I cs:=by
 simp[Zy];omega
def ZhB{n}:∀{is},Qw n is=true->∀i∈is,i<n
 |i::r,h,j,hj=>by simp[Qw]at h;rcases List.mem_cons.1 hj with rfl|hj;exact h.1.1;exact ZhB h.2 j hj
def Zo0{z}:∀{ps i},(∀p∈ps,p.1≠i)->ZV z ps i=z
 | [],_,_=>rfl
 | (k,d)::r,i,h=>by have t:¬k=i:=h (k,d) ψ;simp[ZV,t];exact Zo0 λp u=>h p (List.mem_cons_of_mem _ u)
def Zj9{len s}:∀(is ds cells),Qw len is=true->I is=I ds->Qd s ds=true->I cells=len*s ->
  ∃cs,ZbC cells (is.map λi=>(i*s,s)) ds=sO cs/\I cs=len*s/\∀i,i<len->part cs (i*s) s=ZV (part cells (i*s) s) (is.zip ds) i
 | [],[],cells,_,_,_,hc=>⟨cells,rfl,hc,λi _=>rfl⟩
 |k::is,d::ds,cells,hd,hn,hp,hc=>by
  simp[Qw]at hd;simp[Qd]at hp;obtain⟨⟨hk,ac⟩,hd⟩:=hd;obtain⟨⟨ae,ad⟩,af⟩:=hp;have u:(k+1)*s<=I cells:=by rw[hc];exact ZIT s hk
  have ab:k*s+s<=I cells:=by rw[ZIX,Nat.one_mul]at u;exact u
  obtain⟨cs,h1,h2,h3⟩:=Zj9 is ds (Zy cells (k*s) (cellsOf d)) hd (by simpa using hn) af (by rw[ZqA ω,hc]);refine⟨cs,?_,h2,λi hi=>?_⟩;simp only[ZIQ,ZbC];rw[if_pos ⟨ae,ad,ab⟩];exact h1;rw[h3 i hi,Zum ad u (by rw[hc];exact ZIT s hi)];simp[ZV];by_cases t:i=k;subst t;simp;exact Zo0 λp hp=>by have:=(List.of_mem_zip hp).1;intro h;subst h;exact ac this
  simp[t,show ¬k=i from λh=>t h.symm]
 | [],_::_,_,_,hn,_,_=>by grind
 |_::_,[],_,_,hn,_,_=>by grind
def Zls{z len s i}(hzl:I z=s)(_hs0:0<s)(hi:i<len):part ((ZIM (len*s)).map λi=>z.getD (i % s) .undef) (i*s) s=z:=by
 apply List.ext_getElem?;intro c;by_cases hc:c<s;have u:i*s+c<len*s:=by have:(i+1)*s<=len*s:=ZIT s hi;rw[ZIX,Nat.one_mul]at this;omega
 have hm:(i*s+c) % s=c:=by rw[Nat.mul_comm,Nat.mul_add_mod,Nat.mod_eq_of_lt hc]
 have t:c<I z:=ω;simp only[part,ZJf,hc,List.getElem?_drop,List.getElem?_map,List.getElem?_range u,ZI3,hm];simp[t];rw[ZJj (l:=z) ω];simp[part,ZJf,hc]
section
variable {P:Program}
def ZDf{g w len s z t e}{parts:List (Nat×Value)}{ds}(hu:P.underlying t=sO (.slice e))(hsz:ZS P e=sO s)(hz:Zab P e=sO z)(hdis:Qw len (parts.map (·.1))=true)(hzl:I z=s)(hs0:0<s)(hbig:len*s<=2 ^ 24)(hd:ZI (Rep g w) (parts.map (·.2)) ds)(hp:Qd s ds=true)(hf:∀b,w.heap.size<=b->g.prot b=0/\¬g.kept b):
  ∃v w' g',(Instr.buildSlice t len parts.toArray).run P w=.ok v w'/\JW g w g' w'/\Rep g' w' v (.sl .full len s (ZV z ((parts.map (·.1)).zip ds))):=by
 obtain⟨zv,hz1,aw,a3,ie,ar,a5⟩:=Qh (g:=g) (w:=w) hz;have ac:ie.size=s:=by simpa[ZS,ar]using hsz
 have af:zv.cells.size=s:=by have:=aw.len;simp at this;omega
 have hn:(parts.map (·.1)).length=I ds:=by have:=hd.len;simpa using this
 let c0:Array Value:=(Array.range (len*s)).map (zv.cells[· % zv.cells.size]!);let d0:List D:=(ZIM (len*s)).map λi=>z.getD (i % s) .undef;have al:ZI (Rep g w) c0.toList d0:=by refine Ye (by simp[c0,d0]) (λi v d hv hd=>?_);simp[c0,d0]at hv hd;obtain⟨a,ha,rfl⟩:=hv;obtain⟨b,hb,rfl⟩:=hd;rw[ha]at hb;cases hb;have u:a % s<s:=Nat.mod_lt _ hs0;refine aw.get (a % s) _ _ ?_ ?_;rw[af];simp[af,u];simp[hzl,u]
 have ak:∀v∈c0,v.one1=true:=λv hv=>by simp[c0]at hv;obtain⟨a,_,rfl⟩:=hv;have u:a % zv.cells.size<zv.cells.size:=Nat.mod_lt _ ω;rw[getElem!_pos zv.cells (a % zv.cells.size) u];exact a3 _ (Array.getElem_mem u)
 have aj:I d0=len*s:=by simp[d0]
 obtain⟨cs,ai,hcl,ae⟩:=Zj9 (parts.map (·.1)) ds d0 hdis hn hp aj;obtain⟨cv,ax,ap,ay⟩:=ZhD (g:=g) (w:=w) (λi=>sO (i*s,s)) parts ((parts.map (·.1)).map λi=>(i*s,s)) ds cs d0 c0 (λi x q hx hq=>by
  simp[hx,Function.comp_def]at hq;rw[<-hq]) ψ hd al ak ai
 have ah:cv.size=len*s:=by have:=ap.len;simp at this;omega
 have ab:∀i j,i<len->j<s->i*s+j<len*s:=λi j hi hj=>by have:(i+1)*s<=len*s:=ZIT s hi;rw[ZIX,Nat.one_mul]at this;omega
 have ag:∀i j d,i<len->j<s->(ZV z ((parts.map (·.1)).zip ds) i)[j]?=sO d->cs[i*s+j]?=sO d:=λi j d hi hj hd=>by have h:=ae i hi;have am:part d0 (i*s) s=z:=Zls hzl hs0 hi;rw[am]at h;rw[<-h]at hd;simpa[part,hj]using hd
 have ad:∀i,i<len->(ZV z ((parts.map (·.1)).zip ds) i).length=s:=λi hi=>by
  have am:=ae i hi;have:(part cs (i*s) s).length=s:=by have:=ab i (s-1) hi ω;simp[part];omega
  have a4:part d0 (i*s) s=z:=Zls hzl hs0 hi;rw[am,a4]at this;exact this
 by_cases az:len=0
 .subst az;have a0:parts=[]:=by
   cases parts with
   |nil=>rfl
   |cons x r=>have:=ZhB hdis x.1 ψ;omega
  subst a0;refine⟨.slice (sO ⟨w.heap.size,0,nO⟩) 0 0,w.alloc (.cells #[] e),{ g with prot:=λb=>if b=w.heap.size then 0 else g.prot b },?_,ZmL #[] e hf,?_⟩;simp[Instr.buildSlice,run_underlying hu,YI hsz,Instr.fill,newRow];exact congrArg (λc=>w.alloc (Obj.cells c e)) (Array.ext' ψ);exact .sl w.heap.size 0 0 0 s _ .full (λ_ _=>undef) (λi hi=>by omega) (λi j hi=>by omega) (λi j hi=>by omega) (λi j d hi=>by omega) (λi j hi=>by omega) rfl ω ψ
 have au:¬len*s=0:=by simp[Nat.mul_eq_zero];omega
 have av:=run_buildSlice (P:=P) w t e len parts.toArray cv ie zv hu ar a5 (by rw[ac];omega) (by rw[ac];exact au) (by rw[ac];exact ax);have aq:=ZmL (g:=g) (w:=w) cv e hf;refine⟨_,_,_,av,aq,?_⟩;have ao:=aq.ext hf;refine .sl w.heap.size 0 len len s _ .full (λi j=>cv.getD (i*s+j) undef) ad (λi j hi hj=>?_) (λi j hi hj=>?_) (λi j d hi hd=>?_) (λi j hi hj=>?_) rfl (ZIO _) ?_;have u:i*s+j<cv.size:=by rw[ah];exact ab i j hi hj
 have:(w.alloc (.cells cv e)).cell? ⟨w.heap.size,0+i*s+j,nO⟩=cv[0+i*s+j]?:=World.cell?_alloc_new w cv e _;rw[this];simp[u];simp;have:=ab i j hi hj;omega;have hj:j<s:=by rw[<-ad i hi];exact(List.getElem?_eq_some_iff.1 hd).1
 have u:i*s+j<cv.size:=by rw[ah];exact ab i j hi hj
 refine(ap.get (i*s+j) _ d ?_ (ag i j d hi hj hd)).mono ao;simp[u];have u:i*s+j<cv.size:=by rw[ah];exact ab i j hi hj
 simp[u,dite_true];exact ay _ (Array.getElem_mem u);unfold big;have:len<=len*s:=Nat.le_mul_of_pos_right _ hs0;omega
end
section
variable {P:Program}
def Yf.updL(h:Yf g s w){b:Nat}{o:QO}(ho:WJ g w b o)(hk:¬g.kept b):Yf g (s.upd b o) w:={
 obj c x hx:=by simp[St.upd]at hx;by_cases t:c=b;grind;simp[t]at hx;exact h.obj c x hx
 kept c x hx:=by simp[St.upd]at hx;by_cases t:c=b;grind;simp[t]at hx;exact h.kept c x hx
 fresh:=h.fresh
 tabs:=h.tabs }
def Zu.named{w w':World}(m:Zu g Z w tmps H L s){b:Nat}{o o':QO}(hb:s b=sO o)(he:Ext g w g w')(hsz:w'.heap.size=w.heap.size)(hoth:∀c,c≠b->w'.heap[c]?=w.heap[c]?)(ho:WJ g w' b o'):Zu g Z w' tmps H L (s.upd b o'):={
 st:=by
  have h1:Yf g (s.del b) w':=⟨λc x hx=>by simp[St.del]at hx;by_cases hc:c=b;grind;simp[hc]at hx;exact(m.st.obj c x hx).mono he (hoth c hc) rfl,
   λc x hx=>by simp[St.del]at hx;by_cases hc:c=b;grind;simp[hc]at hx;exact m.st.kept c x hx,
   λc hc=>m.st.fresh c ω,λn cs hc=>(m.st.tabs n cs hc).mono he⟩
  have h2:=h1.updL ho (m.st.kept b o hb);have:(s.del b).upd b o'=s.upd b o':=by funext c;simp[St.upd,St.del];by_cases hc:c=b<;>simp[hc]
  rw[this]at h2;exact h2
 loc l cs hl:=(m.loc l cs hl).mono he (hoth _ (λh=>by have:=m.locSt l cs hl;grind)) rfl
 locKept:=m.locKept
 locSt l cs hl:=by
  have u:Z l≠b:=λh=>by have:=m.locSt l cs hl;grind
  simp[St.upd,u];exact m.locSt l cs hl
 inj:=m.inj
 env t e ht:=(m.env t e ht).mono he }
def Zu.newObj{g g' Z w w' tmps H L s}(m:Zu g Z w tmps H L s)(hg:JW g w g' w'){o}(ho:WJ g' w' w.heap.size o):
  s w.heap.size=nO/\Zu g' Z w' tmps H L (s.upd w.heap.size o):=by
 have hn:s w.heap.size=nO:=by
  cases h:s w.heap.size with
  |none=>rfl
  |some x=>exact absurd (m.st.obj _ x h).lt (Nat.lt_irrefl _)
 have u:=m.grow hg;refine⟨hn,⟨u.st.updL ho (by rw[hg.kept];exact(m.st.fresh _ (ZIO _)).2),u.loc,u.locKept,?_,u.inj,u.env⟩⟩;intro l cs hl;have hlt:=(m.loc l cs hl).lt;have t:Z l≠w.heap.size:=ω;simp[St.upd,t];exact u.locSt l cs hl
def ZoD(b:Nat){en:Array MapEntry}{cl:Nat}(o:Obj)(hb:w.heap[b]?=sO (.map en cl))(hp:g.prot b=0)(hk:¬g.kept b):Ext g w g { w with heap:=w.heap.setIfInBounds b o } where
 size:=by simp
 prot _:=ZIO _
 cell b' o' ho:=by by_cases h:b'=b;subst h;omega;exact JA (by simp[Ne.symm h])
 hdr b' x hx:=by by_cases h:b'=b;subst h;simp[hdr,hb]at hx;rw[Zbs (w:=w) (by simp[Ne.symm h])];exact hx
 kept b' hb':=by have h:b'≠b:=λh=>hk (h▸hb');simp[Ne.symm h]
 keptProt _ _:=rfl
 keptEq:=rfl
 os:=rfl
 output:=rfl
 tape:=rfl
def ZrU{b en cl}{o}(hb:w.heap[b]?=sO (.map en cl)):({ w with heap:=w.heap.setIfInBounds b o }:World).heap[b]?=sO o:=by grind
def JK{b c}{o}(h:c≠b):({ w with heap:=w.heap.setIfInBounds b o }:World).heap[c]?=w.heap[c]?:=by grind
def ZAe{op}(h:ck P op=sO .mkmap):∃t,op=.makeMap t nO:=by
 unfold ck at h;split at h;simp at h;split at h<;>(try(simp at h;done));all_goals (try(repeat' (split at h<;>(try(simp at h;done)))))
 grind
def ZwQ{op e n bytes z l c}(h:ck P op=sO (.mkslice e n bytes z l c)):
  ∃t l' c',op=.makeSlice t l' c'/\P.underlying t=sO (.slice e)/\ZS P e=sO n/\Zab P e=sO z/\bytes=P.bytesOf e/\ZW l'=sO l/\ZW c'=sO c/\0<n/\I z=n:=by
 unfold ck at h;split at h;simp at h;split at h<;>(try(simp at h;done));all_goals (try(repeat' (split at h<;>(try(simp at h;done)))))
 rename_i u;cases h;simp at u;exact⟨_,_,_,rfl,‹_›,‹_›,‹_›,rfl,‹_›,‹_›,u.1,u.2⟩
def ZDl{op x}(h:ck P op=sO (.s2b x)):∃s d x' e,op=.convert s d x'/\P.underlying s=sO .string/\P.underlying d=sO (.slice e)/\P.underlying e=sO (.int .u8)/\ZW x'=sO x:=by
 unfold ck at h;split at h;simp at h;split at h<;>(try(simp at h;done));all_goals (try(repeat' (split at h<;>(try(grind;done)))))
 simp at h;grind
def Zyh{op kp m k v}(h:ck P op=sO (.mapupd kp m k v)):
  ∃t kt et m' k' v',(op=.mapUpdate t m' k' v'\/op=.insert t m' k' v')/\P.underlying t=sO (.map kt et)/\J5 P kt=sO kp/\ZW m'=sO m/\ZW k'=sO k/\ZW v'=sO v:=by
 unfold ck at h;split at h;simp at h;split at h<;>(try(simp at h;done));all_goals (try(repeat' (split at h<;>(try(simp at h;done)))))
 all_goals (cases h)
 grind;grind
def Zyf{op kp m k}(h:ck P op=sO (.delete kp m k)):
  ∃ats t kt et m' k',op=.call ⟨.builtin .delete,#[m',k'],ats⟩/\ats[0]?=sO t/\P.underlying t=sO (.map kt et)/\J5 P kt=sO kp/\ZW m'=sO m/\ZW k'=sO k:=by
 unfold ck at h;split at h;simp at h;split at h<;>(try(simp at h;done));all_goals (try(repeat' (split at h<;>(try(simp at h;done)))))
 simp at h;obtain⟨rfl,rfl,rfl⟩:=h;rename_i c hcq x1 ae o0 x kt et m' k' hu ac o1 o2 o3 kp m k hk hm af;obtain⟨u,⟨al⟩,ats⟩:=c;have ad:u=_:=ae;have ab:al=_:=ac;subst ad ab;simp[Option.bind_eq_some_iff]at hu;obtain⟨t,ht,hu⟩:=hu;exact⟨ats,t,kt,et,m',k',rfl,ht,hu,hk,hm,af⟩
def Zyg{op kp z m k}(h:ck P op=sO (.mapent kp z m k)):
  ∃t kt et m' k',op=.mapEntry t m' k'/\P.underlying t=sO (.map kt et)/\J5 P kt=sO kp/\ZdQ P et=sO z/\ZW m'=sO m/\ZW k'=sO k:=by
 unfold ck at h;split at h;simp at h;split at h<;>(try(simp at h;done));all_goals (try(repeat' (split at h<;>(try(simp at h;done)))))
 grind
def ZAd{op m k v}(h:ck P op=sO (.entst m k v)):∃t m' k' v',op=.entryStore t m' k' v'/\ZW m'=sO m/\ZW k'=sO k/\ZW v'=sO v:=by
 unfold ck at h;split at h;simp at h;split at h<;>(try(simp at h;done));all_goals (try(repeat' (split at h<;>(try(simp at h;done)))))
 grind
def Zga{F:Fr P}{kp dk o os H L s}(hg:o.guard=nO){a v}(hk:o.k=.store1 a v/\True\/∃n,o.k=.storeN n a v){p q b off d cs}(ha:ZC H true a=sO (p,.d (.ptr b off)))(hv:ZC H true v=sO (q,.d d))(hp:p)(hq:q)(hL:Z2 s b=sO cs)(hd1:o.k=.store1 a v->QU d=true)(hd2:∀n,o.k=.storeN n a v->(∃xs,d=.agg xs)/\(cellsOf d).length=n)(hlen:off+(cellsOf d).length<=I cs)(hdst0:o.dst=nO)(h:DO F kp dk os H L (s.upd b (.cells (Zy cs off (cellsOf d))))):DO F kp dk (o::os) H L s:=by
 refine Y7 λoo g Z w tmps a6 i r k a0 ac av ai hd hN m hr ay=>?_;have hw:=Z7 m av (c:=true) (by rw[hg];rfl);have az:=Yb ac (by rcases hk with ⟨hk,_⟩|⟨n,hk⟩<;>rw[hk]<;>rfl);have ag:∃t a' v',oo.op=.store t a' v'/\ZW a'=sO a/\ZW v'=sO v/\ZS P t=sO (cellsOf d).length/\Kb d=true:=by rcases hk with ⟨hk,_⟩|⟨n,hk⟩;have ad:=hd1 hk;rw[hk]at ac;obtain⟨t,a',v',h1,h2,h3,h4,h5⟩:=Zra ac;refine⟨t,a',v',h1,h4,h5,?_,?_⟩;rw[h3];cases d<;>simp[QU]at ad<;>rfl;cases d<;>simp[QU]at ad<;>rfl;obtain⟨⟨xs,rfl⟩,hn⟩:=hd2 n hk;rw[hk]at ac;obtain⟨t,a',v',h1,h2,h3,h4,h5⟩:=Zrb ac;exact⟨t,a',v',h1,h4,h5,by grind,rfl⟩
 obtain⟨t,a',v',a3,ap,a5,a4,ad⟩:=ag;have ao:s b=sO (.cells cs):=by unfold Z2 at hL;split at hL<;>cases hL;assumption
 have al:Rep g w ((Act.mk tmps F.ds).eval a') (.ptr b off):=ZY m ap rfl ha hp F.ds;have am:Rep g w ((Act.mk tmps F.ds).eval v') d:=ZY m a5 rfl hv hq F.ds;have aq:(Act.mk tmps F.ds).eval a'=.pointer (sO ⟨b,off,nO⟩):=by generalize (Act.mk tmps F.ds).eval a'=z at al;cases al;rfl
 obtain⟨ar,au⟩:=Zd5 am ad;have aj:=ZhP am ad;obtain⟨ak,u,T,hb,aw,ax,ah⟩:=Qv m.st hL;generalize hvv:(Act.mk tmps F.ds).eval v'=vv at *;have hst:=run_storeCells_at (P:=P) b off T vv.cells.toList 0 u w hb (by grind) (λx hx=>by rw[Zdo];exact aj x (Array.mem_toList_iff.1 hx));have ab:ZI (Rep g w) (u.toList.take off++vv.cells.toList++u.toList.drop (off+vv.cells.size)) (Zy cs off (cellsOf d)):=by have af:ZI (Rep g w) u.toList cs:=Ye ω (λi v d hv hd=>ax i v d (by grind) hd);unfold Zy;rw[<-ar];exact((af.take off).append (Ye ω au)).append (af.drop _)
 have ae:((u.toList.take off++vv.cells.toList++u.toList.drop (off+vv.cells.size)).toArray).size=u.size:=by have:=ab.len;simp at this⊢;omega
 have he:=Ziw (g:=g) b hb ae ak (m.st.kept b _ ao);have m':=m.named (o':=.cells (Zy cs off (cellsOf d))) ao he ψ (λc hc=>setRow_other w b c _ hc) ⟨ak,_,T,setRow_heap w b u _ T (0,0) hb,by rw[ae,aw];simp[Zy];omega,
  λi v d hv hd=>(ab.get i v d (by grind) hd).mono he,λx hx=>by
   simp only[List.mem_toArray,List.mem_append]at hx;rcases hx with (hx|hx)|hx;exact ah x (Array.mem_toList_iff.1 (List.mem_of_mem_take hx));simp_all;exact ah x (Array.mem_toList_iff.1 (List.mem_of_mem_drop hx))⟩
 refine F.T.back _ _ _ _ (.one (Zja a0 hw az (w':=w.setRow b (u.toList.take off++vv.cells.toList++u.toList.drop (off+vv.cells.size)).toArray) ?_)) ?_;simp only[execOp,a3,aq,Instr.storeAt,Instr.sureAddr,storeVar,Sem.run_bind,Sem.run_pure,YI a4];simp_all;rw[ai,hdst0];exact F.T.ext _ _ _ _ _ he (h a6 r k hr ay g Z _ tmps hN m')
def J2(o:Obj)(t:∀b,w.heap.size<=b->g.prot b=0/\¬g.kept b):JW g w g (w.alloc o):={
 size:=by simp
 old b hb:=ZjH w hb
 prot _ _:=rfl
 fresh b hb:=(t b (by simp at hb;omega)).1
 kept:=rfl
 os:=rfl
 output:=rfl
 tape:=rfl }
def ZsU{F:Fr P}{kp dk o os H L s}(hg:o.guard=nO){t}(hdt:o.dst=sO t)(hk:o.k=.mkmap)(h:∀b,s b=nO->DO F kp dk os ((t,.d (.map b))::H) L (s.upd b (.map []))):DO F kp dk (o::os) H L s:=by
 refine Y7 λoo g Z w tmps ai i r k ag u ad ab hd hN m hr ae=>?_;have hw:=Z7 m ad (c:=true) (by rw[hg];rfl);have af:=Yb u (by rw[hk];rfl);rw[hk]at u;obtain⟨T,ah⟩:=ZAe u;have ac:=J2 (g:=g) (w:=w) (.map #[] 0) m.st.fresh;obtain⟨hn,m'⟩:=m.newObj ac (o:=.map []) ⟨(m.st.fresh _ (ZIO _)).1,#[],0,Kk w,rfl,ψ,ψ,ψ,ψ⟩;refine Yk (L':=L) hN ag ab hd hw af (v:=.map (sO w.heap.size)) (e:=.d (.map w.heap.size)) ?_ (ac.ext m.st.fresh) m' (Rep.map _) ?_;simp[execOp,ah,Instr.makeMap];rw[hdt];exact h _ hn ai r k hr ae
def Zlu{z n}:∀{c},I z=n->(W3 z c).length=c*n/\∀i,i<c*n->(W3 z c)[i]?=z[i % n]?
 |0,hz=>by simp[W3]
 |c+1,hz=>by
  obtain⟨h1,h2⟩:=Zlu (c:=c) hz;have t:W3 z (c+1)=z++W3 z c:=by simp[W3,List.replicate_succ]
  rw[t];refine⟨by grind,λi hi=>?_⟩;by_cases h:i<n;rw[ZI6 ω,Nat.mod_eq_of_lt h];rw[ZJi ω,hz,h2 _ (by grind)];rw[Nat.mod_eq_sub_mod (by omega:n<=i)]
def Zn8{F:Fr P}{kp dk o os H L s}(hg:o.guard=nO){t:Nat}(hdt:o.dst=sO t){e:TypeId}{n bytes:Nat}{z:List D}{lx hx:Opd}(hk:o.k=.mkslice e n bytes z lx hx){p q:Prop}{k1 k2:IntKind}{l c:Int}(hl:ZC H true lx=sO (p,.d (.int k1 l)))(hc:ZC H true hx=sO (q,.d (.int k2 c)))(hp:p)(hq:q)(h0:0<=l)(hlc:l<=c)(hbytes:(bytes:Int)*c<=140737488355328)(h63:c<=big)(h:∀b,s b=nO->DO F kp dk os ((t,.d (.msl b 0 l.toNat c.toNat n))::H) L (s.upd b (.cells (W3 z c.toNat)))):DO F kp dk (o::os) H L s:=by
 refine Y7 λoo g Z w tmps a3 i r k aw ab al ae hd hN m hr ao=>?_;have hw:=Z7 m al (c:=true) (by rw[hg];rfl);have au:=Yb ab (by rw[hk];rfl);rw[hk]at ab;obtain⟨T,l',c',ax,hu,ay,hz,aj,ap,ak,ar,ai⟩:=ZwQ ab;obtain⟨zv,hz1,ah,hz3,ie,ac,a0⟩:=Qh (g:=g) (w:=w) hz;obtain⟨aq,_⟩:=Qf (g:=g) (w:=w) (ZY m ap rfl hl hp F.ds);obtain⟨am,_⟩:=Qf (g:=g) (w:=w) (ZY m ak rfl hc hq F.ds);have u:ie.size=n:=by simpa[ZS,ac]using ay
 have hbt:ie.bytes=bytes:=by rw[aj];simp[Program.bytesOf,ac]
 have ad:zv.cells.size=I z:=by have:=ah.len;simpa using this
 have ag:=run_make (P:=P) w T e ie zv hu ac a0 k1 k2 l c h0 hlc (by grind) (by unfold big at h63;omega);obtain⟨a4,a5⟩:=Zlu (z:=z) (n:=n) (c:=c.toNat) ai;have af:=J2 (g:=g) (w:=w) (.cells (madeCells zv.cells (c.toNat*ie.size)) e) m.st.fresh;have he:=af.ext m.st.fresh;have av:WJ g (w.alloc (.cells (madeCells zv.cells (c.toNat*ie.size)) e)) w.heap.size (.cells (W3 z c.toNat)):=by
  refine⟨(m.st.fresh _ (ZIO _)).1,_,e,Kk w,by rw[size_madeCells,a4,u],λi v d hv hd=>?_,λx hx=>?_⟩;have hi:i<c.toNat*n:=by grind
  rw[a5 i hi]at hd;have hm:i % n<n:=Nat.mod_lt _ ar;have az:zv.cells.toList[i % n]?=sO v:=by simp[madeCells,u,hi,ad,ai]at hv;simp_all
  exact(ah.get _ v d az hd).mono he;simp only[madeCells,Array.mem_map]at hx;obtain⟨a,_,rfl⟩:=hx;have hlt:a % zv.cells.size<zv.cells.size:=Nat.mod_lt _ ω;simp_all
 obtain⟨hn,m'⟩:=m.newObj af av;refine Yk (L':=L) hN aw ae hd hw au (v:=.slice (sO ⟨w.heap.size,0,nO⟩) l.toNat c.toNat) (e:=.d (.msl w.heap.size 0 l.toNat c.toNat n)) ?_ he m' (Rep.msl _ _ _ _ _ ω ω) ?_;simp[execOp,ax,aq,am,ag];rw[hdt];exact h _ hn a3 r k hr ao
end
section
variable {P:Program}
def ZmZ{g w k k1 k2 d1 d2}(t:Rep g w k1 d1)(u:Rep g w k2 d2)(h:Yj k d1 d2=sO true)(n):Instr.sameBits n k1 k2=true:=by
 cases k;cases t<;>cases u<;>simp only[Yj,reduceCtorEq]at h;split at h<;>simp only[reduceCtorEq,ZIx,decide_eq_true_eq]at h;rename_i hk;subst hk;subst h;cases n<;>simp[Instr.sameBits];cases t<;>cases u<;>simp only[Yj,reduceCtorEq,ZIx,decide_eq_true_eq]at h;rename_i s1 a e1 _ s2 b e2 _;subst h;have:s1=s2:=by cases s1;cases s2;simp only[ByteArray.mk.injEq];apply Array.ext';simp only at e1 e2;rw[e1,e2]
 subst this;cases n<;>simp[Instr.sameBits,MapKept.bytes_beq];cases t<;>cases u<;>simp only[Yj,reduceCtorEq,ZIx,decide_eq_true_eq]at h;subst h;cases n<;>simp[Instr.sameBits]
def Zfi{xs u}:∀{l},Wo xs u l=sO true->∀o k,(o,k)∈l->∃x y,xs[o]?=sO x/\u[o]?=sO y/\Yj k x y=sO true
 | [],_,o,k,hm=>by simp at hm
 | (o',k')::r,h,o,k,hm=>by simp only[Wo]at h;split at h<;>(try(simp at h;done));rename_i x y hx hy;split at h<;>(try(simp at h;done));rename_i b c hb hc;simp only[ZIx,ZIJ]at h;obtain⟨rfl,rfl⟩:=h;rcases List.mem_cons.1 hm with t|hm;simp only[ZIK]at t;obtain⟨rfl,rfl⟩:=t;exact⟨x,y,hx,hy,hb⟩;exact Zfi hc o k hm
def ZmY{g w kt kp}(hk:J5 P kt=sO kp){k1 k2 d1 d2}(h1:Rep g w k1 d1)(h2:Rep g w k2 d2)(h:Kr kp d1 d2=sO true)(n):Instr.sameBits (n+1) k1 k2=true:=by
 rcases ZeI hk with ⟨sk,rfl,hs⟩|⟨fs,l,m,rfl,hu,hn,hl,t,hst⟩;exact ZmZ h1 h2 h _;cases h1<;>cases h2<;>simp only[Kr,reduceCtorEq]at h;rename_i v1 xs hn1 r1 o1 v2 ys hn2 r2 o2;split at h<;>(try(simp at h;done));rename_i hlen;simp only[Instr.sameBits,List.size_toArray,ZIJ,beq_iff_eq];refine⟨ω,?_⟩;rw[List.all_eq_true];intro p hp;obtain⟨i,hi,ae⟩:=ZIV hp;simp only[List.length_zip]at hi;have ab:i<I v1:=ω;have ac:i<I v2:=ω;have u:i<I l:=ω;have hm:(l[i].1,l[i].2)∈l:=List.getElem_mem u;have ad:l[i].1=i:=by
  have h3:(l.map (·.1))[i]?=sO l[i].1:=by simp[u]
  rw[t]at h3;have hlm:I l=m:=by have:=congrArg List.length t;simpa using this
  rw[List.getElem?_range ω]at h3;exact(Option.some.inj h3).symm
 rw[ad]at hm;obtain⟨x,y,hx,hy,he⟩:=Zfi h i _ hm;have e1:p=(v1[i],v2[i]):=by rw[<-ae];simp
 rw[e1];exact ZmZ (r1 i _ x (by simp[ab]) hx) (r2 i _ y (by simp[ac]) hy) he n
def ZoX{kp a b}(h:Kr kp a b=sO true):Kr kp b a=sO true:=by
 have sc:∀(k:SK) (a b:D),Yj k a b=sO true->Yj k b a=sO true:=by intro k a b h;cases k<;>cases a<;>cases b<;>simp only[Yj,reduceCtorEq]at h⊢;split at h<;>simp only[reduceCtorEq,ZIx,decide_eq_true_eq]at h;rename_i hk;simp[hk,h];simp only[ZIx,decide_eq_true_eq]at h⊢;exact h.symm;simp only[ZIx,decide_eq_true_eq]at h⊢;exact h.symm
 cases kp with
 |sc k=>exact sc k a b h
 |st l =>
  cases a<;>cases b<;>simp only[Kr,reduceCtorEq]at h⊢;rename_i xs ys;split at h<;>(try(simp at h;done));rename_i t;rw[if_pos ⟨t.2,t.1⟩];clear t;induction l with
  |nil=>rfl
  |cons p r ih =>
   obtain⟨x,y,hx,hy,u⟩:=Zfi h p.1 p.2 ψ;have hr:Wo xs ys r=sO true:=by simp only[Wo,hx,hy,u]at h;split at h<;>(try(simp at h;done));rename_i b c hb hc;simp only[ZIx,ZIJ]at h;rw[hc,h.2]
   simp only[Wo,hx,hy,sc _ _ _ u,ih hr,Bool.and_self]
def Zoa(g:G)(w:World)(b:Nat)(en':Array MapEntry)(cl':Nat)(o:QO):Prop :=
 ∀w',Ext g w g w'->w'.heap[b]?=sO (.map en' cl')->WJ g w' b o
def Zua{g w t kt et kp}(hu:P.underlying t=sO (.map kt et))(hk:J5 P kt=sO kp){b es es' k v dk dv}(ho:WJ g w b (.map es))(hrk:Rep g w k dk)(hrv:Rep g w v dv)(hok:QA kp dk=true)(hupd:JL kp dk dv es=sO es'):
  ∃en' cl',(Instr.mapUpdate t (.map (sO b)) k v).run P w=.ok () { w with heap:=w.heap.setIfInBounds b (.map en' cl') }/\Zoa g w b en' cl' (.map es'):=by
 obtain⟨ar,en,ad,hb,ab,h3,h4,h5,h6⟩:=ho;obtain⟨io,ao,ag⟩:=Zn1 hupd;have ac:=ZcA (P:=P) hk hrk (es:=en.toList) (by simpa using ab) (λi e d a b=>h3 i e d (by simpa using a) b) ao;have al:=Zbq (P:=P) hk hrk hok false;cases io with
 |none =>
  simp only[Option.bind_none]at ac;simp only at ag;subst ag;refine⟨en.push { key:=k,val:=v,born:=ad },ad+1,by simp[Instr.mapUpdate,run_underlying hu,MapKept.run_getObj_map hb,al,ac,MapKept.run_setObj_map _ hb],λw' he aj=>?_⟩;refine⟨ar,_,_,aj,by simp[ab],λi e d hi hd=>?_,λi e d hi hd=>?_,λi j e e' hi hj af=>?_,λi e hi=>?_⟩;rw[Array.getElem?_push]at hi;split at hi;rename_i u;simp only[ZIx]at hi;subst hi;simp[u,ab]at hd;subst hd;exact hrk.mono he;have ae:i<I es:=by rw[<-ab];exact(Array.getElem?_eq_some_iff.1 hi).1
  rw[ZI6 ae]at hd;exact(h3 i e d hi hd).mono he;rw[Array.getElem?_push]at hi;split at hi;rename_i u;simp only[ZIx]at hi;subst hi;simp[u,ab]at hd;subst hd;exact hrv.mono he;have ae:i<I es:=by rw[<-ab];exact(Array.getElem?_eq_some_iff.1 hi).1
  rw[ZI6 ae]at hd;exact(h4 i e d hi hd).mono he;rw[Array.getElem?_push]at hi hj;split at hi<;>split at hj;omega;simp only[ZIx]at hi;subst hi;have:=h6 j e' hj;simp only at af;omega;simp only[ZIx]at hj;subst hj;have:=h6 i e hi;simp only at af;omega;exact h5 i j e e' hi hj af;rw[Array.getElem?_push]at hi;split at hi;simp only[ZIx]at hi;subst hi;simp;have:=h6 i e hi;omega
 |some i0 =>
  simp only at ag;subst ag;obtain⟨ae,ap⟩:=Zdj ao;have aq:i0<en.size:=ω;have ah:en[i0]?=sO en[i0]:=by simp[aq]
  have am:es[i0]?=sO es[i0]:=by simp[ae]
  simp only[Option.bind_some,Array.getElem?_toList,ah,ZI3]at ac;have ai:(Instr.keyThatStays en[i0].key k).run P w=.ok k w:=by have:=ZmY (P:=P) hk (h3 i0 _ _ ah am) hrk (ZoX (ap _ am)) 9999;simp[Instr.keyThatStays,this]
  refine⟨en.modify i0 λe=>{ e with key:=k,val:=v },ad,by simp[Instr.mapUpdate,run_underlying hu,MapKept.run_getObj_map hb,al,ac,MapKept.run_setObj_map _ hb,ah,ai],λw' he aj=>?_⟩;refine⟨ar,_,_,aj,by simp[ab],λi e d hi hd=>?_,λi e d hi hd=>?_,λi j e e' hi hj af=>?_,λi e hi=>?_⟩;rw[Array.getElem?_modify]at hi;split at hi;rename_i u;subst u;simp only[ZIL]at hi;obtain⟨e1,h1,rfl⟩:=hi;simp[ae]at hd;subst hd;exact hrk.mono he;rename_i u;rw[List.getElem?_set_ne u]at hd;exact(h3 i e d hi hd).mono he;rw[Array.getElem?_modify]at hi;split at hi;rename_i u;subst u;simp only[ZIL]at hi;obtain⟨e1,h1,rfl⟩:=hi;simp[ae]at hd;subst hd;exact hrv.mono he;rename_i u;rw[List.getElem?_set_ne u]at hd;exact(h4 i e d hi hd).mono he;have ak:∀{i:Nat} {e:MapEntry},(en.modify i0 λe=>{ e with key:=k,val:=v })[i]?=sO e->∃e1,en[i]?=sO e1/\e1.born=e.born:=by intro i e hi;rw[Array.getElem?_modify]at hi;split at hi;simp only[ZIL]at hi;obtain⟨e1,h1,rfl⟩:=hi;exact⟨e1,h1,rfl⟩;exact⟨e,hi,rfl⟩
  obtain⟨a,ha,ha'⟩:=ak hi;obtain⟨c,hc,hc'⟩:=ak hj;exact h5 i j a c ha hc ω;rw[Array.getElem?_modify]at hi;split at hi;simp only[ZIL]at hi;obtain⟨e1,h1,rfl⟩:=hi;exact h6 i e1 h1;exact h6 i e hi
def Zt8{g w t kt et kp ats}(ht:ats[0]?=sO t)(hu:P.underlying t=sO (.map kt et))(hk:J5 P kt=sO kp){b es es' k dk}(ho:WJ g w b (.map es))(hrk:Rep g w k dk)(hok:QA kp dk=true)(hdel:ZgU kp dk es=sO es')(ty):
  ∃en' cl',(Builtin.delete_ ats ty #[.map (sO b),k]).run P w=.ok (.tuple #[]) { w with heap:=w.heap.setIfInBounds b (.map en' cl') }/\Zoa g w b en' cl' (.map es'):=by
 obtain⟨am,en,ac,hb,ae,h3,h4,h5,h6⟩:=ho;obtain⟨io,al,ah⟩:=ZtG hdel;have u:=ZcA (P:=P) hk hrk (es:=en.toList) (by simpa using ae) (λi e d a b=>h3 i e d (by simpa using a) b) al;have ak:=Zbq (P:=P) hk hrk hok en.isEmpty;cases io with
 |none =>simp only[Option.bind_none]at u;simp only at ah;subst ah;refine⟨en,ac,by simp[Builtin.delete_,ht,run_underlying hu,MapKept.run_getObj_map hb,ak,u,MapKept.run_setObj_map _ hb],λw' he aj=>?_⟩;exact⟨am,_,_,aj,ae,λi e d hi hd=>(h3 i e d hi hd).mono he,λi e d hi hd=>(h4 i e d hi hd).mono he,h5,h6⟩
 |some i0 =>
  simp only at ah;subst ah;obtain⟨ap,hkeq⟩:=Zdj al;have af:i0<en.size:=ω;have ao:en[i0]?=sO en[i0]:=by simp[af]
  simp only[Option.bind_some,Array.getElem?_toList,ao,ZI3]at u;have ai:en.eraseIdxIfInBounds i0=en.eraseIdx i0 af:=by simp[Array.eraseIdxIfInBounds,af]
  have ab:∀i,(en.eraseIdxIfInBounds i0)[i]?=if i<i0 then en[i]? else en[i+1]?:=λi=>by rw[ai,<-Array.getElem?_toList,Array.toList_eraseIdx,List.getElem?_eraseIdx];simp
  have ad:∀i,(es.eraseIdx i0)[i]?=if i<i0 then es[i]? else es[i+1]?:=λi=>List.getElem?_eraseIdx ..
  refine⟨en.eraseIdxIfInBounds i0,ac,by simp[Builtin.delete_,ht,run_underlying hu,MapKept.run_getObj_map hb,ak,u,MapKept.run_setObj_map _ hb],λw' he aj=>?_⟩;refine⟨am,_,_,aj,by rw[ai];simp[ap,ae,List.length_eraseIdx],λi e d hi hd=>?_,λi e d hi hd=>?_,λi j e e' hi hj ag=>?_,λi e hi=>?_⟩;rw[ab]at hi;rw[ad]at hd;split at hi;rename_i h;rw[if_pos h]at hd;exact(h3 i e d hi hd).mono he;rename_i h;rw[if_neg h]at hd;exact(h3 _ e d hi hd).mono he;rw[ab]at hi;rw[ad]at hd;split at hi;rename_i h;rw[if_pos h]at hd;exact(h4 i e d hi hd).mono he;rename_i h;rw[if_neg h]at hd;exact(h4 _ e d hi hd).mono he;rw[ab]at hi hj;split at hi<;>split at hj;exact h5 i j e e' hi hj ag;have:=h5 i (j+1) e e' hi hj ag;omega;have:=h5 (i+1) j e e' hi hj ag;omega;have:=h5 (i+1) (j+1) e e' hi hj ag;omega;rw[ab]at hi;split at hi<;>exact h6 _ e hi
def ZtM{kp:KP}{k z:D}:∀{es:List (D×D)} {v:D},Zek kp k z es=sO v->∃t,Q2 kp k es=sO t/\v=match t with
  |none=>z
  |some i=>((es[i]?).map (·.2)).getD z
 | [],v,h=>by simp[Zek]at h;exact⟨nO,rfl,h.symm⟩
 |e::es,v,h=>by simp[Zek]at h;split at h;rename_i u;exact⟨sO 0,by simp[Q2,u],by simp[h]⟩;rename_i u;obtain⟨t,h1,h2⟩:=ZtM h;refine⟨t.map (· + 1),by simp[Q2,u,h1],?_⟩;rw[h2];cases t<;>simp;grind
def Zu6{g w t kt et kp z}(hu:P.underlying t=sO (.map kt et))(hk:J5 P kt=sO kp)(hz:ZdQ P et=sO z){b es k dk dv}(ho:WJ g w b (.map es))(hrk:Rep g w k dk)(hok:QA kp dk=true)(hent:Zek kp dk z es=sO dv):
  ∃en' cl' v n,(Instr.mapEntry t (.map (sO b)) k).run P w=.ok (.tuple #[v,.i (n:Nat)]) { w with heap:=w.heap.setIfInBounds b (.map en' cl') }/\Rep g w v dv/\Zoa g w b en' cl' (.mapE kp es dk n):=by
 obtain⟨au,en,u,hb,ac,h3,h4,h5,h6⟩:=ho;obtain⟨io,ai,ah⟩:=ZtM hent;have ab:=ZcA (P:=P) hk hrk (es:=en.toList) (by simpa using ac) (λi e d a b=>h3 i e d (by simpa using a) b) ai;have ap:=Zbq (P:=P) hk hrk hok false;cases io with
 |none =>obtain⟨zv,ax,ay⟩:=ZuS (P:=P) (g:=g) (w:=w) hz;simp only[Option.bind_none]at ab;simp only at ah;subst ah;refine⟨en.push { key:=k,val:=zv,born:=u },u+1,zv,u,by simp[Instr.mapEntry,run_underlying hu,MapKept.run_getObj_map hb,ap,ab,MapKept.run_setObj_map _ hb,ax,goInt],ay,λw' he ao=>?_⟩;refine⟨au,nO,ai,_,_,ao,by simp[ac],λi e d aj hi hd=>?_,λi e d aj hi hd=>?_,λe hi=>?_,λi j e e' hi hj ae=>?_,λi e hi=>?_⟩;have al:i<I es:=(List.getElem?_eq_some_iff.1 hd).1;rw[Array.getElem?_push,if_neg ω]at hi;exact(h3 i e d hi hd).mono he;have al:i<I es:=(List.getElem?_eq_some_iff.1 hd).1;rw[Array.getElem?_push,if_neg ω]at hi;exact(h4 i e d hi hd).mono he;simp only[Option.getD_none,<-ac,Array.getElem?_push,if_true,ZIx]at hi;subst hi;exact⟨hrk.mono he,rfl⟩;rw[Array.getElem?_push]at hi hj;split at hi<;>split at hj;omega;simp only[ZIx]at hi;subst hi;have:=h6 j e' hj;simp only at ae;omega;simp only[ZIx]at hj;subst hj;have:=h6 i e hi;simp only at ae;omega;exact h5 i j e e' hi hj ae;rw[Array.getElem?_push]at hi;split at hi;simp only[ZIx]at hi;subst hi;simp;have:=h6 i e hi;omega
 |some i0 =>
  obtain⟨al,aq⟩:=Zdj ai;have ar:i0<en.size:=ω;have af:en[i0]?=sO en[i0]:=by simp[ar]
  have ag:es[i0]?=sO es[i0]:=by simp[al]
  simp only[ag,ZI3,ZJe]at ah;subst ah;simp only[Option.bind_some,Array.getElem?_toList,af,ZI3]at ab;have am:(Instr.keyThatStays en[i0].key k).run P w=.ok k w:=by have:=ZmY (P:=P) hk (h3 i0 _ _ af ag) hrk (ZoX (aq _ ag)) 9999;simp[Instr.keyThatStays,this]
  have ad:∀{i:Nat} {e:MapEntry},(en.modify i0 λe=>{ e with key:=k })[i]?=sO e->∃e1,en[i]?=sO e1/\e1.born=e.born/\e.val=e1.val/\(i≠i0->e=e1)/\(i=i0->e.key=k):=by intro i e hi;rw[Array.getElem?_modify]at hi;split at hi;rename_i ak;simp only[ZIL]at hi;obtain⟨e1,h1,rfl⟩:=hi;exact⟨e1,h1,rfl,rfl,λh=>absurd ak.symm h,λ_=>rfl⟩;rename_i ak;exact⟨e,hi,rfl,rfl,λ_=>rfl,λh=>absurd h.symm ak⟩
  refine⟨en.modify i0 λe=>{ e with key:=k },u,en[i0].val,en[i0].born,by simp[Instr.mapEntry,run_underlying hu,MapKept.run_getObj_map hb,ap,ab,MapKept.run_setObj_map _ hb,af,am,goInt],h4 i0 _ _ af ag,λw' he ao=>?_⟩;refine⟨au,sO i0,ai,_,_,ao,by simp[ac],λi e d aj hi hd=>?_,λi e d aj hi hd=>?_,λe hi=>?_,λi j e e' hi hj ae=>?_,λi e hi=>?_⟩;obtain⟨e1,ha,_,_,hc,_⟩:=ad hi;rw[hc (by simpa using aj)];exact(h3 i e1 d ha hd).mono he;obtain⟨e1,ha,_,hv,_⟩:=ad hi;rw[hv];exact(h4 i e1 d ha hd).mono he;simp only[ZJe]at hi;obtain⟨e1,ha,ae,hv,_,aw⟩:=ad hi;rw[af]at ha;simp only[ZIx]at ha;exact⟨by rw[aw rfl];exact hrk.mono he,by rw[<-ae,<-ha]⟩;obtain⟨a,ha,av,_⟩:=ad hi;obtain⟨c,hc,hc',_⟩:=ad hj;exact h5 i j a c ha hc ω;obtain⟨a,ha,av,_⟩:=ad hi;have:=h6 i a ha;omega
def Zsc{g w t kp b n es es' v dk dv}(ho:WJ g w b (.mapE kp es dk n))(hrv:Rep g w v dv)(hupd:JL kp dk dv es=sO es'):
  ∃en' cl',(Instr.entryStore t (.map (sO b)) (.i n) v).run P w=.ok () { w with heap:=w.heap.setIfInBounds b (.map en' cl') }/\Zoa g w b en' cl' (.map es'):=by
 obtain⟨au,io,al,en,ah,hb,u,h3,h4,h5,h6,h7⟩:=ho;obtain⟨io',ae,ab⟩:=Zn1 hupd;rw[al]at ae;simp only[ZIx]at ae;subst ae;generalize ac:io.getD (I es)=ix at *;have am:ix<en.size:=by
  cases io with
  |none=>simp only[Option.getD_none]at ac;simp only at u;omega
  |some i=>simp only[ZJe]at ac;simp only at u;have:=(Zdj al).1;omega
 have aj:en[ix]?=sO en[ix]:=by simp[am]
 obtain⟨ar,ap⟩:=h5 _ aj;have aq:en.findIdx? (λe=>(e.born:Int)==(n:Int))=sO ix:=by rw[Array.findIdx?_eq_some_iff_getElem];refine⟨am,by simp[ap],λj hj=>?_⟩;simp only[beq_iff_eq,Int.natCast_inj];intro hjn;have:=h6 j ix en[j] en[ix] (by simp[show j<en.size by omega]) aj ω;omega
 have av:en.size=I es':=by
  cases io with
  |none=>simp only at ab u;rw[ab];simp[u]
  |some i=>simp only at ab u;rw[ab];simp[u]
 have ag:∀i d,es'[i]?=sO d->(i=ix/\d=(dk,dv))\/(i≠ix/\es[i]?=sO d):=by
  intro i d hd;cases io with
  |none =>
   simp only[Option.getD_none]at ac;subst ac;simp only at ab;rw[ab]at hd;by_cases hi:i<I es;rw[ZI6 hi]at hd;exact .inr ⟨ω,hd⟩;rw[ZJi ω]at hd;have h0:i-I es=0:=by rcases Nat.eq_zero_or_pos (i-I es) with h|h;exact h;rw[ZJj (by simp;omega)]at hd;simp at hd
   rw[h0]at hd;simp at hd;exact .inl ⟨ω,hd.symm⟩
  |some j =>simp only[ZJe]at ac;subst ac;simp only at ab;rw[ab]at hd;by_cases hi:j=i;subst hi;have:=(Zdj al).1;simp[this]at hd;exact .inl ⟨rfl,hd.symm⟩;rw[List.getElem?_set_ne hi]at hd;exact .inr ⟨λh=>hi h.symm,hd⟩
 have ad:∀{i:Nat} {e:MapEntry},(en.modify ix λe=>{ e with val:=v })[i]?=sO e->∃e1,en[i]?=sO e1/\e1.born=e.born/\e.key=e1.key/\(i≠ix->e=e1)/\(i=ix->e.val=v):=by intro i e hi;rw[Array.getElem?_modify]at hi;split at hi;rename_i ak;simp only[ZIL]at hi;obtain⟨e1,h1,rfl⟩:=hi;exact⟨e1,h1,rfl,rfl,λh=>absurd ak.symm h,λ_=>rfl⟩;rename_i ak;exact⟨e,hi,rfl,rfl,λ_=>rfl,λh=>absurd h.symm ak⟩
 refine⟨en.modify ix λe=>{ e with val:=v },ah,by simp[Instr.entryStore,MapKept.run_getObj_map hb,asInt,asIntOf,aq,MapKept.run_setObj_map _ hb],λw' he aw=>?_⟩;refine⟨au,_,_,aw,by simp[av],λi e d hi hd=>?_,λi e d hi hd=>?_,λi j e e' hi hj hbn=>?_,λi e hi=>?_⟩;obtain⟨e1,ha,_,hk,_⟩:=ad hi;rw[hk];rcases ag i d hd with ⟨rfl,rfl⟩|⟨af,ai⟩;rw[aj]at ha;simp only[ZIx]at ha;rw[<-ha];exact ar.mono he;exact(h3 i e1 d af ha ai).mono he;obtain⟨e1,ha,_,_,hc,hv⟩:=ad hi;rcases ag i d hd with ⟨rfl,rfl⟩|⟨af,ai⟩;rw[hv rfl];exact hrv.mono he;rw[hc af];exact(h4 i e1 d af ha ai).mono he;obtain⟨a,ha,ao,_⟩:=ad hi;obtain⟨c,hc,hc',_⟩:=ad hj;exact h6 i j a c ha hc ω;obtain⟨a,ha,ao,_⟩:=ad hi;have:=h7 i a ha;omega
end
section
variable {P:Program}
def ZlX{g w v b}(h:Rep g w v (.map b)):v=.map (sO b):=by cases h;rfl
def ZiO{s b es}(h:KY s b=sO es):s b=sO (.map es):=by
 unfold KY at h;split at h<;>simp only[ZIx,reduceCtorEq]at h;subst h;assumption
def ZnF{F:Fr P}{ops i r k oo}{o:DOp}{g Z w tmps H L s}(hN:F.N<=tmps.size)(m:Zu g Z w tmps H L s)(hoo:ops[i]?=sO oo)(hdst:oo.dst=o.dst)(hdst0:o.dst=nO)(hw:Region.wanted oo (yielded ops tmps)=true)(hnd:∀c,oo.op≠.defer c){b o1 o'}(hb:s b=sO o1){en en' cl cl'}(hh:w.heap[b]?=sO (.map en cl))(hp:g.prot b=0)(hmap:Zoa g w b en' cl' o'){x}(hrun:(execOp (Act.mk tmps F.ds).eval oo).run P w=.ok .skip { w with heap:=w.heap.setIfInBounds b (.map en' cl') }\/(execOp (Act.mk tmps F.ds).eval oo).run P w=.ok (.value x) { w with heap:=w.heap.setIfInBounds b (.map en' cl') })(h:Jl F (.inRegion ops r::k) H L (s.upd b o')):F.T.T g w (lone (F.b.atR ⟨tmps,F.ds⟩ (.inRegion ops (i::r)::k)) F.cs w):=by
 have he:=ZoD (g:=g) b (.map en' cl') hh hp (m.st.kept b _ hb);have m':=m.named hb he ψ (λc hc=>JK hc) (hmap _ he (ZrU hh));rcases hrun with hrun|hrun;refine F.T.back _ _ _ _ (.one (Zja hoo hw hnd hrun)) ?_;rw[hdst,hdst0];exact F.T.ext _ _ _ _ _ he (h g Z _ tmps hN m');refine F.T.back _ _ _ _ (.one (Zjb hoo hw hnd hrun)) ?_;rw[hdst,hdst0];exact F.T.ext _ _ _ _ _ he (h g Z _ tmps hN m')
def Zq1{F:Fr P}{kp dk o os H L s}(hg:o.guard=nO)(hdn:o.dst=nO){mk mx kx vx}(hk:o.k=.mapupd mk mx kx vx){p q r b kd vd}(hm:ZC H true mx=sO (p,.d (.map b)))(hkk:ZC H true kx=sO (q,.d kd))(hv:ZC H true vx=sO (r,.d vd))(hp:p)(hq:q)(hr:r){es es'}(hb:KY s b=sO es)(hupd:JL mk kd vd es=sO es')(hok:QA mk kd=true)(h:DO F kp dk os H L (s.upd b (.map es'))):DO F kp dk (o::os) H L s:=by
 refine Y7 λoo g Z w tmps ap i r' k aj u ae ab hd hN m al ac=>?_;have hw:=Z7 m ae (c:=true) (by rw[hg];rfl);have ai:=Yb u (by rw[hk];rfl);rw[hk]at u;obtain⟨t,kt,et,m',k',v',hop,hu,ag,ah,af,ao⟩:=Zyh u;have e1:=ZlX (g:=g) (w:=w) (ZY m ah rfl hm hp F.ds);have e2:Rep g w _ _:=ZY m af rfl hkk hq F.ds;have e3:Rep g w _ _:=ZY m ao rfl hv hr F.ds;have ho:=ZfC m.st hb;obtain⟨en',cl',ad,am⟩:=Zua hu ag ho e2 e3 hok hupd;obtain⟨ak,en,cl,hh,_⟩:=ho;refine ZnF (x:=undef) hN m aj ab hdn hw ai (ZiO hb) hh ak am (.inl ?_) (h ap r' k al ac);rcases hop with hop|hop<;>simp[execOp,hop,e1,ad]
def ZqZ{F:Fr P}{kp dk o os H L s}(hg:o.guard=nO)(hdn:o.dst=nO){mk mx kx}(hk:o.k=.delete mk mx kx){p q b kd}(hm:ZC H true mx=sO (p,.d (.map b)))(hkk:ZC H true kx=sO (q,.d kd))(hp:p)(hq:q){es es'}(hb:KY s b=sO es)(hupd:ZgU mk kd es=sO es')(hok:QA mk kd=true)(h:DO F kp dk os H L (s.upd b (.map es'))):DO F kp dk (o::os) H L s:=by
 refine Y7 λoo g Z w tmps ap i r' k aj u ae ab hd hN m am ac=>?_;have hw:=Z7 m ae (c:=true) (by rw[hg];rfl);have ai:=Yb u (by rw[hk];rfl);rw[hk]at u;obtain⟨ats,t,kt,et,m',k',ak,ht,hu,ag,ah,af⟩:=Zyf u;have e1:=ZlX (g:=g) (w:=w) (ZY m ah rfl hm hp F.ds);have e2:Rep g w _ _:=ZY m af rfl hkk hq F.ds;have ho:=ZfC m.st hb;obtain⟨en',cl',ad,ao⟩:=Zt8 ht hu ag ho e2 hok hupd oo.type;obtain⟨al,en,cl,hh,_⟩:=ho;refine ZnF (x:=.tuple #[]) hN m aj ab hdn hw ai (ZiO hb) hh al ao (.inr ?_) (h ap r' k am ac);simp[execOp,ak,resolve,invoke,builtin,e1,ad]
def Zq0{F:Fr P}{kp dk o os H L s}(hg:o.guard=nO){t}(hdt:o.dst=sO t){mk z mx kx}(hk:o.k=.mapent mk z mx kx){p q b kd v}(hm:ZC H true mx=sO (p,.d (.map b)))(hkk:ZC H true kx=sO (q,.d kd))(hp:p)(hq:q){es}(hb:KY s b=sO es)(hent:Zek mk kd z es=sO v)(hok:QA mk kd=true)(h:∀n,DO F kp dk os ((t,.d (.tup [v,.stamp n]))::H) L (s.upd b (.mapE mk es kd n))):DO F kp dk (o::os) H L s:=by
 refine Y7 λoo g Z w tmps aw i r' k am u ah ab hd hN m aq ac=>?_;have hw:=Z7 m ah (c:=true) (by rw[hg];rfl);have al:=Yb u (by rw[hk];rfl);rw[hk]at u;obtain⟨ty,kt,et,m',k',ao,hu,aj,hz,ak,ai⟩:=Zyg u;have e1:=ZlX (g:=g) (w:=w) (ZY m ak rfl hm hp F.ds);have e2:Rep g w _ _:=ZY m ai rfl hkk hq F.ds;have ho:=ZfC m.st hb;obtain⟨ag,af,vv,n,ad,ar,au⟩:=Zu6 hu aj hz ho e2 hok hent;obtain⟨ap,en,cl,hh,_⟩:=ho;have ae:=ZiO hb;have he:=ZoD (g:=g) b (.map ag af) hh ap (m.st.kept b _ ae);have av:=m.named ae he ψ (λc hc=>JK hc) (au _ he (ZrU hh));refine Yk (L':=L) hN am ab hd hw al (v:=.tuple #[vv,.i n]) (e:=.d (.tup [v,.stamp n])) ?_ he av ((ZiW ar (.stamp n)).mono he) ?_;simp[execOp,ao,e1,ad];rw[hdt];exact h n aw r' k aq ac
def ZsT{F:Fr P}{kp dk o os H L s}(hg:o.guard=nO)(hdn:o.dst=nO){mk mx kx vx}(hk:o.k=.entst mx kx vx){p q r b n kd vd}(hm:ZC H true mx=sO (p,.d (.map b)))(hkk:ZC H true kx=sO (q,.d (.stamp n)))(hv:ZC H true vx=sO (r,.d vd))(hp:p)(hq:q)(hr:r){es es'}(hb:s b=sO (.mapE mk es kd n))(hupd:JL mk kd vd es=sO es')(h:DO F kp dk os H L (s.upd b (.map es'))):DO F kp dk (o::os) H L s:=by
 refine Y7 λoo g Z w tmps aq i r' k aj u af ab hd hN m am ac=>?_;have hw:=Z7 m af (c:=true) (by rw[hg];rfl);have ai:=Yb u (by rw[hk];rfl);rw[hk]at u;obtain⟨t,m',k',v',ak,ah,ag,ap⟩:=ZAd u;have e1:=ZlX (g:=g) (w:=w) (ZY m ah rfl hm hp F.ds);have e2:Rep g w _ _:=ZY m ag rfl hkk hq F.ds;have e3:Rep g w _ _:=ZY m ap rfl hv hr F.ds;have ae:(Act.mk tmps F.ds).eval k'=.i n:=by generalize (Act.mk tmps F.ds).eval k'=z at e2;cases e2;rfl
 have ho:=m.st.obj b _ hb;obtain⟨en',cl',ad,ao⟩:=Zsc (P:=P) (t:=t) ho e3 hupd;obtain⟨al,io,_,en,cl,hh,_⟩:=ho;refine ZnF (x:=undef) hN m aj ab hdn hw ai hb hh al ao (.inl ?_) (h aq r' k am ac);simp[execOp,ak,e1,ae,ad]
def Zx2{F:Fr P}{kp dk o os H L s c}(hg:Zj H o.guard=sO c){x}(hk:o.k=.s2b x){p l}(ha:ZC H c x=sO (p,.d (.str l)))(hs:c=true->p){e'}(he:e'=.when c (.d (.sl .none (I l) 1 (λi=>[.int .u8 ((l.getD i 0).toNat:Int)])))\/(c=true/\e'=.d (.sl .none (I l) 1 (λi=>[.int .u8 ((l.getD i 0).toNat:Int)]))))(h:DO F kp dk os (Zx H o.dst e') L s):DO F kp dk (o::os) H L s:=by
 refine Y7 λoo g Z w tmps aw i r k af ab aj t hd hN m hr al=>?_;have ac:=h aw r k hr al;have hw:=Z7 m aj hg;have am:=Yb ab (by rw[hk];rfl);cases c;rcases he with rfl|⟨h0,_⟩;exact ZbF (P:=P) hN m af t hd hw ac;simp at h0;rw[hk]at ab;obtain⟨sT,dT,x',e,ao,au,aq,ar,av⟩:=ZDl ab;obtain⟨s0,ap,e0,ai⟩:=ZlY (g:=g) (w:=w) (ZY m av rfl ha (hs rfl) F.ds);have ah:s0.size=I l:=by rw[<-e0];rfl
 have ag:=Lib.run_convert_string_bytes (P:=P) w sT dT e s0 au aq ar;have ae:=grownCap_le_maxLen w s0.size 0 e (by rw[ah];unfold big at ai;unfold maxLen;omega);have ak:=grownCap_ge w s0.size 0 e;let g':G:={ g with prot:=λb=>if b=w.heap.size then (I l) else g.prot b };have ad:JW g w g' (Lib.bytesWorld w e s0):=by refine⟨by rw[Lib.bytesWorld_size];omega,λb hb=>Lib.bytesWorld_at_old w e s0 b hb,λb hb=>by simp[g',Nat.ne_of_lt hb],λb hb=>?_,rfl,?_,?_,?_⟩;rw[Lib.bytesWorld_size]at hb;simp[g',show b≠w.heap.size by omega,(m.st.fresh b ω).1];rfl;rfl;rfl
 have u:Rep g' (Lib.bytesWorld w e s0) (.slice (sO ⟨w.heap.size,0,nO⟩) s0.size (grownCap w s0.size 0 e)) (.sl .none (I l) 1 (λi=>[.int .u8 ((l.getD i 0).toNat:Int)])):=by
  rw[ah]at ae ak⊢;refine .sl w.heap.size 0 (I l) _ 1 _ .none (λi _=>.int .u8 ((l.getD i 0).toNat:Int)) (λi hi=>rfl) (λi j hi hj=>?_) (λi j hi hj=>?_) (λi j d hi hd=>?_) (λi j _ _=>rfl) trivial ω (by unfold big;unfold maxLen at ae;omega);have:=Lib.bytesWorld_cell w e s0 (0+i*1+j) ω;rw[this,e0];have:0+i*1+j=i:=ω;rw[this];simp[g'];omega;cases j with
  |zero=>simp only[List.getElem?_cons_zero,ZIx]at hd;subst hd;exact .int _ _ (Zt1 _)
  |succ j=>simp at hd
 refine Yk hN af t hd hw am (v:=.slice (sO ⟨w.heap.size,0,nO⟩) s0.size (grownCap w s0.size 0 e)) ?_ (ad.ext m.st.fresh) (m.grow ad) ?_ ac;simp[execOp,ao,ap,ag];rcases he with rfl|⟨_,rfl⟩;exact⟨λ_=>u,λh=>by simp at h⟩;exact u
end
section
variable {P:Program}
def Zx1{F:Fr P}{kp dk o os H L s c}(hg:Zj H o.guard=sO c){len n z is xs}(hk:o.k=.bsl len n z is xs){p es ds}(ha:Z8 H c xs=sO (p,es))(hds:Ka es=sO ds)(hs:c=true->p/\Qd n ds=true){e'}(he:e'=.when c (.d (.sl .full len n (ZV z (is.zip ds))))\/(c=true/\e'=.d (.sl .full len n (ZV z (is.zip ds)))))(h:DO F kp dk os (Zx H o.dst e') L s):DO F kp dk (o::os) H L s:=by
 refine Y7 λoo g Z w tmps av i r k ai ac ak u hd hN m hr al=>?_;have ah:=h av r k hr al;have hw:=Z7 m ak hg;have am:=Yb ac (by rw[hk];rfl);cases c;rcases he with rfl|⟨h0,_⟩;exact ZbF (P:=P) hN m ai u hd hw ah;grind;rw[hk]at ac;obtain⟨t,e,parts,ao,hu,aq,hz,ar,rfl,ag,au,ap,af⟩:=Zyd ac;have ab:=Zce m rfl F.ds ar ha (hs rfl).1;have ad:=K5 ab hds;obtain⟨v,w',g',h1,h2,h3⟩:=ZDf (P:=P) (g:=g) (w:=w) (parts:=parts.toList.map λx=>(x.1,(Act.mk tmps F.ds).eval x.2)) hu aq hz (by simpa[Function.comp_def]using ag) au ap af
  (by simpa[Function.comp_def]using ad) (hs rfl).2 m.st.fresh
 have hx:=h2.ext m.st.fresh;have aj:(execOp (Act.mk tmps F.ds).eval oo).run P w=.ok (.value v) w':=by
  simp[execOp,ao,Sem.run_bind];have e1:(parts.map λx=>(x.1,(Act.mk tmps F.ds).eval x.2))=(parts.toList.map λx=>(x.1,(Act.mk tmps F.ds).eval x.2)).toArray:=by apply Array.ext';simp
  rw[e1,h1];rfl
 have ae:Rep g' w' v (.sl .full len n (ZV z ((parts.toList.map (·.1)).zip ds))):=by simpa[Function.comp_def]using h3
 refine Yk hN ai u hd hw am aj hx (m.grow h2) ?_ ah;rcases he with rfl|⟨_,rfl⟩;exact⟨λ_=>ae,λh=>by simp at h⟩;exact ae
def ZvA{F:Fr P}{kp dk o os H L s c}(hg:Zj H o.guard=sO c){x a b}(hk:o.k=.pick x a b){p v}(ha:ZdO H c x a b=sO (p,v))(hs:c=true->p){e'}(he:e'=.when c (.d (.bool v))\/(c=true/\e'=.d (.bool v)))(h:DO F kp dk os (Zx H o.dst e') L s):DO F kp dk (o::os) H L s:=by
 refine ZsW hg (by rw[hk];rfl) he (λhc oo g Z w tmps t m=>?_) h;rw[hk]at t;obtain⟨x',a',b',u,h1,h2,h3⟩:=ZB4 t;refine⟨.bool v,?_,.bool v⟩;obtain⟨dst,op,ty,pos,af,gd⟩:=oo;cases u;exact ZA0 m h1 h2 h3 hc ha (hs hc)
def ZgD{H H' L L' s s' p q ok side a n xs}(h:K8 H L s p q ok a n xs=.ok side H' L' s'):
  H'=H/\((∃l off u,a=.loc l off/\Zh L l=sO u/\side=(p/\q/\off+n<=I u/\ok)/\L'=(l,Zy u off xs)::L/\s'=s) \/
   ∃b off u,a=.d (.ptr b off)/\Z2 s b=sO u/\side=(p/\q/\off+n<=I u/\ok)/\L'=L/\s'=s.upd b (.cells (Zy u off xs))):=by
 unfold K8 at h;split at h<;>(try(simp at h;done));rename_i l off;split at h<;>simp only[SR.ok.injEq,reduceCtorEq]at h;rename_i u t;obtain⟨rfl,rfl,rfl,rfl⟩:=h;exact⟨rfl,.inl ⟨l,off,u,rfl,t,rfl,rfl,rfl⟩⟩;rename_i b off;split at h<;>simp only[SR.ok.injEq,reduceCtorEq]at h;rename_i u t;obtain⟨rfl,rfl,rfl,rfl⟩:=h;exact⟨rfl,.inr ⟨b,off,u,rfl,t,rfl,rfl,rfl⟩⟩
def ZeU{H L s p q ok side a n xs pre H' s'}:K8 H L s p q ok a n xs≠.all side pre H' s':=by
 unfold K8;split<;>(try(split<;>simp))<;>simp
def QJ{F:Fr P}{kp dk o os H H' L L' s s' side}(hst:ZF o H L s=.ok side H' L' s')(hs:side)(h:DO F kp dk os H' L' s'):DO F kp dk (o::os) H L s:=by
 obtain⟨dst,gd,k⟩:=o;unfold ZF at hst;cases hg:Zj H gd with
 |none=>simp[hg]at hst
 |some c =>
  simp only[hg]at hst;have ac:gd=nO->c=true:=λh0=>by subst h0;simpa[Zj]using hg.symm
  cases k with
  |q q xs =>simp only at hst;split at hst<;>(try(simp at hst;done));rename_i p es ha;split at hst<;>(try(simp at hst;done));rename_i sd e hq;split at hst<;>(cases hst);obtain rfl:=ac rfl;exact ZC9 hg rfl ha hq (λ_=>hs) (.inr ⟨rfl,rfl⟩) h;exact ZC9 hg rfl ha hq hs (.inl rfl) h
  |pick x a b =>simp only at hst;split at hst<;>(try(simp at hst;done));rename_i p v ha;split at hst<;>(cases hst);obtain rfl:=ac rfl;exact ZvA hg rfl ha (λ_=>hs) (.inr ⟨rfl,rfl⟩) h;exact ZvA hg rfl ha hs (.inl rfl) h
  |alloc z =>simp only at hst;split at hst<;>(try(simp at hst;done));rename_i t;cases hst;exact ZsS rfl rfl rfl hs h
  |box x =>simp only at hst;split at hst<;>(try(simp at hst;done));rename_i t p v ha;cases hst;exact ZC6 rfl rfl rfl ha hs.1 hs.2.1 hs.2.2 h
  |bsl len n z is xs =>simp only at hst;split at hst<;>(try(simp at hst;done));rename_i p es ha;split at hst<;>(try(simp at hst;done));rename_i ds ae;split at hst<;>(cases hst);obtain rfl:=ac rfl;exact Zx1 hg rfl ha ae (λ_=>hs) (.inr ⟨rfl,rfl⟩) h;exact Zx1 hg rfl ha ae hs (.inl rfl) h
  |s2b x =>simp only at hst;split at hst<;>(try(simp at hst;done));rename_i p l ha;split at hst<;>(cases hst);obtain rfl:=ac rfl;exact Zx2 hg rfl ha (λ_=>hs) (.inr ⟨rfl,rfl⟩) h;exact Zx2 hg rfl ha hs (.inl rfl) h
  |store1 a v =>
   simp only at hst;split at hst<;>(try(simp at hst;done));rename_i p ea q x ha hv;obtain⟨rfl,⟨l,off,cs,rfl,hL,rfl,rfl,rfl⟩|⟨b,off,cs,rfl,hL,rfl,rfl,rfl⟩⟩:=ZgD hst;all_goals obtain⟨h1,h2,h3,h4⟩:=hs
   all_goals have hx:cellsOf x=[x]:=by cases x<;>simp[QU]at h4<;>rfl
   exact ZsV rfl (.inl ⟨rfl,trivial⟩) ha hv h1 h2 hL (λ_=>h4) (λn hn=>by simp at hn) (by rw[hx];simpa using h3) rfl (by rw[hx];exact h);exact Zga rfl (.inl ⟨rfl,trivial⟩) ha hv h1 h2 hL (λ_=>h4) (λn hn=>by simp at hn) (by rw[hx];simpa using h3) rfl (by rw[hx];exact h)
  |storeN n a v =>
   simp only at hst;split at hst<;>(try(simp at hst;done));rename_i p ea q xs ha hv;obtain⟨rfl,⟨l,off,cs,rfl,hL,rfl,rfl,rfl⟩|⟨b,off,cs,rfl,hL,rfl,rfl,rfl⟩⟩:=ZgD hst;all_goals obtain⟨h1,h2,h3,h4⟩:=hs
   exact ZsV rfl (.inr ⟨n,rfl⟩) ha hv h1 h2 hL (λhn=>by simp at hn) (λn' hn=>by simp only[K.storeN.injEq]at hn;exact⟨⟨xs,rfl⟩,by rw[<-hn.1];exact h4⟩) (by simp only[cellsOf];omega) rfl h;exact Zga rfl (.inr ⟨n,rfl⟩) ha hv h1 h2 hL (λhn=>by simp at hn) (λn' hn=>by simp only[K.storeN.injEq]at hn;exact⟨⟨xs,rfl⟩,by rw[<-hn.1];exact h4⟩) (by simp only[cellsOf];omega) rfl h
  |mkmap =>simp only at hst;split at hst<;>simp at hst
  |mkslice e n by_ z l c =>simp only at hst;split at hst<;>simp at hst
  |mapent kp z m k =>simp only at hst;split at hst<;>(try(simp at hst;done));split at hst<;>(try(simp at hst;done));split at hst<;>simp at hst
  |mapupd kp m k v =>simp only at hst;split at hst<;>(try(simp at hst;done));rename_i p b q dk r dv hm hk hv;split at hst<;>(try(simp at hst;done));rename_i es ab;split at hst<;>simp only[SR.ok.injEq,reduceCtorEq]at hst;rename_i ad u;obtain⟨rfl,rfl,rfl,rfl⟩:=hst;exact Zq1 rfl rfl rfl hm hk hv hs.1 hs.2.1 hs.2.2.1 ab u hs.2.2.2 h
  |delete kp m k =>simp only at hst;split at hst<;>(try(simp at hst;done));rename_i p b q dk hm hk;split at hst<;>(try(simp at hst;done));rename_i es ab;split at hst<;>simp only[SR.ok.injEq,reduceCtorEq]at hst;rename_i ad u;obtain⟨rfl,rfl,rfl,rfl⟩:=hst;exact ZqZ rfl rfl rfl hm hk hs.1 hs.2.1 ab u hs.2.2 h
  |entst m k v =>simp only at hst;split at hst<;>(try(simp at hst;done));rename_i p b q n r dv hm hk hv;split at hst<;>(try(simp at hst;done));rename_i kp es dk n' ab;split at hst<;>simp only[SR.ok.injEq,reduceCtorEq]at hst;rename_i ad u;obtain⟨rfl,rfl,rfl,rfl⟩:=hst;obtain⟨h1,h2,h3,rfl⟩:=hs;exact ZsT rfl rfl rfl hm hk hv h1 h2 h3 ab u h
  |_=>simp at hst
def Zn7{F:Fr P}{kp dk o os H L s side pre H' s'}(t:ZF o H L s=.all side pre H' s')(u:side)(h:∀b,pre b->DO F kp dk os (H' b) L (s' b)):DO F kp dk (o::os) H L s:=by
 obtain⟨dst,gd,k⟩:=o;unfold ZF at t;cases hg:Zj H gd with
 |none=>grind
 |some c =>
  simp[hg]at t;cases k with
  |mkmap =>simp only at t;split at t<;>cases t;exact ZsU rfl rfl rfl h
  |mkslice e n by_ z l c =>simp only at t;split at t<;>cases t;obtain⟨h1,h2,h3,h4,h5,h6⟩:=u;exact Zn8 rfl rfl rfl ‹_› ‹_› h1 h2 h3 h4 h5 h6 h
  |mapent kp z m k =>simp only at t;split at t<;>(try(grind;done));split at t<;>(try(grind;done));split at t<;>cases t;exact Zq0 rfl rfl rfl ‹_› ‹_› u.1 u.2.1 ‹_› ‹_› u.2.2 (λn=>h n trivial)
  |store1 a v =>simp only at t;split at t<;>(try(grind;done));exact absurd t ZeU
  |storeN n a v =>simp only at t;split at t<;>(try(grind;done));exact absurd t ZeU
  |_ =>
   grind;first
    | (grind;done)
    |repeat' (split at t<;>(try(grind;done)))
def Zm{F:Fr P}{kp}{dk}:∀{os} {H} {L} {s},
  Zj2 (λH L s=>Zt F dk (kept kp H) (ZlM kp H L) s) (λos H L s=>DO F kp dk os H L s) os H L s->DO F kp dk os H L s
 | [],H,L,s,h=>Ze8 h
 |o::os,H,L,s,h=>by simp[Zj2]at h;split at h;rename_i sd H' L' s' t;exact QJ t h.1 (Zm h.2);rename_i sd pre H' s' t;exact Zn7 t h.1 λb u=>Zm (h.2 b u);exact h
end
inductive Res where
 |ret (d:D)
 |panic (d:D)
def Zod(g:G)(w:World):Ending->Res->Prop
 |.returned v,.ret d=>Rep g w v d
 |.panicked ch,.panic d=>∃v,ch=[{ v,recovered:=false }]/\Rep g w v d
 |_,_=>False
def Zhq(g:G)(w:World)(Φ:Res->St->Prop)(e:Ending)(w':World):Prop :=
 ∃g' s' r,Ext g w g' w'/\Yf g' s' w'/\Zod g' w' e r/\Φ r s'
section
variable {P:Program}
def Za(P:Program)(f:FuncId)(args:List D)(s:St)(Φ:Res->St->Prop):Prop :=
 (∃fn,P.funcs[f]?=sO fn/\fn.body.isSome=true/\(fn.name == "runtime.NumGoroutine")=false) /\
 ∀g w (vs:List Value),Yf g s w->ZI (Rep g w) vs args->Calls P f vs.toArray w (Zhq g w Φ)
def Za.mono{f args s Φ Φ'}(h:Za P f args s Φ)(hp:∀r s',Φ r s'->Φ' r s'):Za P f args s Φ' :=
 ⟨h.1,λg w vs hs u=>(h.2 g w vs hs u).mono λ_ _ ⟨t,s',r,a,b,c,d⟩=>⟨t,s',r,a,b,c,hp _ _ d⟩⟩
def ZlI(P:Program)(f:FuncId)(cs:List Frame)(Φ:Res->St->Prop):ZwD P where
 T g w m:=∃e w' fr,Comes P m (lone fr cs w') e/\fr.fn=f/\fr.leaving P w' e/\Zhq g w Φ e w'
 back g w m m' hs h:=let ⟨e,w',fr,a,b⟩:=h;⟨e,w',fr,a.of_steps hs,b⟩
 ext g w g' w' m hx h:=by obtain⟨e,w2,fr,a,b,c,g2,s2,r,d1,d2,d3,d4⟩:=h;exact⟨e,w2,fr,a,b,c,g2,s2,r,hx.trans d1,d2,d3,d4⟩
def ZoS(P:Program)(an:Ann)(f:FuncId)(N:Nat)(cs:List Frame)(Φ:Res->St->Prop):Fr P where
 T:=ZlI P f cs Φ
 b:={ (dE:Frame) with fn:=f,kind:=.normal,roundOf:=nO }
 cs:=cs
 N:=N
 ds:=[]
 an:=an
def Qa:Nat->List D->Env
 |_,[]=>[]
 |i,d::ds=>(i,.d d)::Qa (i+1) ds
def Zrr:∀(ds i t e),ZM (Qa i ds) t=sO e->∃d,e=.d d/\i<=t/\ds[t-i]?=sO d
 | [],i,t,e,h=>by simp[Qa,ZM]at h
 |d::ds,i,t,e,h=>by simp only[Qa,ZM]at h;by_cases u:i=t;subst u;simp only[if_true,ZIx]at h;subst h;exact⟨d,rfl,ZIO _,ψ⟩;simp only[u,if_false]at h;obtain⟨d',h1,h2,h3⟩:=Zrr ds (i+1) t e h;refine⟨d',h1,ω,?_⟩;rw[show t-i=(t-(i+1))+1 from by omega,List.getElem?_cons_succ];exact h3
def Zg9(hs:Yf g s w){vs:List Value}{args:List D}(ha:ZI (Rep g w) vs args){n:Nat}:
  Zu g (λ_=>0) w (vs.toArray++Array.replicate n undef) (Qa 0 args) [] s:={
 st:=hs
 loc l cs h:=by simp[Zh]at h
 locKept l cs h:=by simp[Zh]at h
 locSt l cs h:=by simp[Zh]at h
 inj l l' cs cs' h:=by simp[Zh]at h
 env t e h:=by
  obtain⟨d,rfl,_,hd⟩:=Zrr args 0 t e h;simp only[Nat.sub_zero]at hd;have u:t<I vs:=by rw[ha.len];exact(List.getElem?_eq_some_iff.1 hd).1
  have:(vs.toArray++Array.replicate n undef).getD t undef=vs[t]:=by simp[ZJm,Array.getElem?_append,u]
  rw[this];exact ha.get t _ d (by simp[u]) hd }
def Zjv{an f df}(hf:cf P an f=sO df){args s Φ}(h:∀cs,Zt (ZoS P an f df.n cs Φ) [.code df.body] (Qa 0 args) [] s):Za P f args s Φ:=by
 unfold cf at hf;split at hf<;>(try(simp at hf;done));rename_i fn ab;split at hf<;>(try(simp at hf;done));rename_i c hc;split at hf<;>(try(simp at hf;done));rename_i u;split at hf<;>simp at hf;rename_i rs d hrs hd;subst hf;refine⟨⟨fn,ab,by simp[hc],by simpa using u⟩,λg w vs hs ha=>?_⟩;intro cs;have t:Frame.enter P f vs.toArray .normal =
   (ZoS P an f fn.ntmps cs Φ).b.atR { tmps:=vs.toArray++Array.replicate (fn.ntmps-I vs) undef,defers:=[] } [.code c]:=by
  simp[Frame.enter,Frame.atR,ab,hc,ZoS]
 have:=h cs [.code c] (.code hd .nil) g (λ_=>0) w (vs.toArray++Array.replicate (fn.ntmps-I vs) undef) (by simp[ZoS];omega) (Zg9 hs ha);obtain⟨e,w',fr,a,b,c',d'⟩:=this;refine⟨e,w',fr,d',?_,b,c'⟩;rw[t];exact a
def Kt(H:Env)(L:Loc)(s:St):RV->Option (Prop×D)
 |.tmp t=>match ZM H t with
  |some (.d x)=>sO (True,x)
  |some (.when c (.d x))=>sO (c=true,x)
  |_=>nO
 |.cell1 t=>match ZM H t with
  |some e=>(Wn L s e).map (True,·)
  |none=>nO
 |.cellN t n=>match ZM H t with
  |some e=>(Km L s n e).map λr=>(r.1,.agg r.2)
  |none=>nO
def YD(H:Env)(L:Loc)(s:St):List RV->Option (Prop×List D)
 | []=>sO (True,[])
 |r::rs=>match Kt H L s r,YD H L s rs with
  |some (p,d),sO (q,ds)=>sO (p/\q,d::ds)
  |_,_=>nO
def Qb:List D->D
 | [d]=>d
 |ds=>.tup ds
def ZlZ(tmps:Array Value):ResultVar->Sem Value
 |.tmp t=>pure (tmps.getD t undef)
 |.cell a t=>do loadVar t (<-asAddr (tmps.getD a undef))
def Zpi(fn tmps):results fn tmps=(do
  let vs <-fn.results.mapM (ZlZ tmps)
  pure (if h:vs.size=1 then vs[0] else .tuple vs)):=by
 unfold results
 congr 1
def ZEl{g Z w tmps H L s}(m:Zu g Z w tmps H L s){r rv}(hc:crv P r=sO rv){p d}(h:Kt H L s rv=sO (p,d))(hp:p):
  ∃v,(ZlZ tmps r).run P w=.ok v w/\Rep g w v d:=by
 cases r with
 |tmp t =>simp only[crv,ZIx]at hc;subst hc;simp only[Kt]at h;split at h<;>simp only[ZIx,ZIK,reduceCtorEq]at h;rename_i x hx;obtain⟨rfl,rfl⟩:=h;exact⟨_,rfl,m.env t _ hx⟩;rename_i c x hx;obtain⟨rfl,rfl⟩:=h;exact⟨_,rfl,(m.env t _ hx).1 hp⟩
 |cell a t =>
  simp only[crv]at hc;split at hc<;>simp at hc;·rename_i n ha ac;subst hc;simp only[Kt]at h;split at h<;>(try(simp at h;done));rename_i e he;simp only[ZIL,ZIK]at h;obtain⟨⟨q,ds⟩,hq,rfl,rfl⟩:=h;obtain⟨ad,hv,vs,ab,u⟩:=Zo8 (P:=P) m.loc m.st (m.env a e he) hq hp;exact⟨.agg vs.toArray,by simp only[ZlZ,hv,asAddr];simp[loadVar,Zgc ha,YI ac,ab],u⟩
  rename_i n ha ac;subst hc;simp only[Kt]at h;split at h<;>(try(simp at h;done));rename_i e he;simp only[ZIL,ZIK]at h;obtain⟨x,hx,_,rfl⟩:=h;obtain⟨b,o,y,hv,hy,hr,_⟩:=Zok m.loc m.st (m.env a e he) hx;exact⟨y,by simp only[ZlZ,hv,asAddr];simp[loadVar,ZeB ha,hy],hr⟩
def Zzr{g Z w tmps H L s}(m:Zu g Z w tmps H L s):∀{rs rvs},ZjZ P rs=sO rvs->∀{p ds},
  YD H L s rvs=sO (p,ds)->p->∃vs:List Value,(rs.mapM (ZlZ tmps)).run P w=.ok vs w/\ZI (Rep g w) vs ds
 | [],rvs,hc,p,ds,h,hp=>by simp only[ZjZ,ZIx]at hc;subst hc;simp only[YD,ZIx,ZIK]at h;obtain⟨rfl,rfl⟩:=h;exact⟨[],ψ,.nil⟩
 |r::rs,rvs,hc,p,ds,h,hp=>by simp only[ZjZ]at hc;split at hc<;>simp at hc;rename_i x xs hx ad;subst hc;simp only[YD]at h;split at h<;>simp only[ZIx,ZIK,reduceCtorEq]at h;rename_i p1 d1 p2 ds' h1 h2;obtain⟨rfl,rfl⟩:=h;obtain⟨v,ab,ac⟩:=ZEl m hx h1 hp.1;obtain⟨vs,t,u⟩:=Zzr m ad h2 hp.2;exact⟨v::vs,by simp only[List.mapM_cons,Sem.run_bind];rw[ab];simp only[Result.andThen_ok,t,Sem.run_pure],.cons ac u⟩
def D.Le(d d':D):Prop:=∀g w v,Rep g w v d->Rep g w v d'
def D.Le.refl(d:D):d.Le d:=λ_ _ _ h=>h
def Zpj{g Z w tmps H L s}(m:Zu g Z w tmps H L s){fn rvs}(hc:ZjZ P fn.results.toList=sO rvs){p ds}(h:YD H L s rvs=sO (p,ds))(hp:p):∃v,(results fn tmps).run P w=.ok v w/\Rep g w v (Qb ds):=by
 obtain⟨vs,h1,h2⟩:=Zzr m hc h hp;have ab:(fn.results.mapM (ZlZ tmps)).run P w=.ok vs.toArray w:=by rw[Array.mapM_eq_mapM_toList];simp[h1]
 by_cases t:I vs=1
 .match vs,t,h2 with
  | [v],_,.cons hv .nil =>refine⟨v,?_,hv⟩;rw[Zpi];simp[ab]
 refine⟨.tuple vs.toArray,?_,?_⟩;rw[Zpi];simp[ab,t];have u:=h2.len;have:Qb ds=.tup ds:=by
  match ds,u with
  | [],_=>rfl
  | [_],hl=>exact absurd hl t
  |_::_::_,_=>rfl
 rw[this];exact .tup vs ds u h2.get
def St.sub(s' s:St):Prop:=∀b o,s' b=sO o->s b=sO o
def Yf.sub{s s':St}(h:Yf g s w)(t:s'.sub s):Yf g s' w:={
 obj b o ho:=h.obj b o (t b o ho)
 kept b o ho:=h.kept b o (t b o ho)
 fresh:=h.fresh
 tabs:=h.tabs }
end
end Go.DL
namespace Go.DL
open Go
variable [Zs5]
section
variable {P:Program}
def Y3(F:Fr P)(H:Env)(L:Loc)(d:D)(s:St):Prop :=
 ∀g Z w v todo tmps,F.N<=tmps.size->Zu g Z w tmps H L s->Rep g w v d->F.T.T g w (lone { F.b.atR ⟨tmps,F.ds⟩ todo with mode:=.panicking [{ v,recovered:=false }] } F.cs w)
def Zu.empty{g:G}{Z:Nat->Nat}{w:World}{tmps:Array Value}{H:Env}{L:Loc}{s:St}(m:Zu g Z w tmps H L s):Zu g Z w tmps [] [] s:={
 st:=m.st
 loc l cs h:=by simp[Zh]at h
 locKept l cs h:=by simp[Zh]at h
 locSt l cs h:=by simp[Zh]at h
 inj l l' cs cs' h:=by simp[Zh]at h
 env t e h:=by simp[ZM]at h }
def Y3.weak{F:Fr P}{d s}(h:Y3 F [] [] d s)(H L):Y3 F H L d s :=
 λg Z w v t tmps u m hr=>h g Z w v t tmps u m.empty hr
def Zgd(g:G)(Z:Nat->Nat)(L:Loc):G:={ g with kept:=λb=>g.kept b\/∃l cs,Zh L l=sO cs/\b=Z l }
def Wu{g t w v d}(h:Rep g w v d)(u:t.prot=g.prot):Rep t w v d :=
 h.mono0 (λb=>by rw[u];exact ZIO _) (λ_ _ _=>rfl) (λ_ _ h=>h)
def Zzm{g t Z w L v e}(h:ZL g Z w L v e)(hp:t.prot=g.prot):ZL t Z w L v e:=by
 induction e with
 |d x=>exact Wu h hp
 |loc l o=>exact h
 |when c e ih=>exact⟨λu=>ih (h.1 u),h.2⟩
def Zo5{g g' w b o}(h:WJ g w b o)(u:g'.prot=g.prot):WJ g' w b o:=by
 cases o with
 |cells ds =>obtain⟨h0,vs,T,h1,h2,h3,h4⟩:=h;exact⟨by rw[u];exact h0,vs,T,h1,h2,λi v d hv hd=>Wu (h3 i v d hv hd) u,h4⟩
 |map es =>obtain⟨h0,en,cl,h1,h2,h3,h4,h5,h6⟩:=h;exact⟨by rw[u];exact h0,en,cl,h1,h2,λi v d hv hd=>Wu (h3 i v d hv hd) u,λi v d hv hd=>Wu (h4 i v d hv hd) u,h5,h6⟩
 |tip k =>obtain⟨h0,h1⟩:=h;exact⟨by rw[u];exact h0,h1⟩
 |mapE kp es k n =>obtain⟨h0,io,h1,en,cl,h2,h3,h4,h5,h6,h7⟩:=h;exact⟨by rw[u];exact h0,io,h1,en,cl,h2,h3,λi v d hi hv hd=>Wu (h4 i v d hi hv hd) u,λi v d hi hv hd=>Wu (h5 i v d hi hv hd) u,λe he=>⟨Wu (h6 e he).1 u,(h6 e he).2⟩,h7⟩
 |loop r st =>obtain⟨h0,l,h1,h2,h3,h4,h5,h6,h7,h8,h9⟩:=h;exact⟨by rw[u];exact h0,l,h1,h2,h3,h4,h5,h6,h7,λt e he=>Zzm (h8 t e he) u,h9⟩
 |dfr =>obtain⟨h0,h1⟩:=h;exact⟨by rw[u];exact h0,h1⟩
def Zu.callSt{g:G}{Z:Nat->Nat}{w:World}{tmps:Array Value}{H:Env}{L:Loc}{s:St}(m:Zu g Z w tmps H L s):Yf (Zgd g Z L) s w:={
 obj b o ho:=Zo5 (m.st.obj b o ho) rfl
 kept b o ho:=by rintro(h|⟨l,t,u,rfl⟩);exact m.st.kept b o ho h;rw[m.locSt l t u]at ho;simp at ho
 fresh b hb:=⟨(m.st.fresh b hb).1,by
  rintro(h|⟨l,t,u,rfl⟩);exact(m.st.fresh b hb).2 h;have:=(m.loc l t u).lt;omega⟩
 tabs n t hc:=Wu (m.st.tabs n t hc) rfl }
def Zu.afterCall{g g' Z w w' tmps H L s s'}(m:Zu g Z w tmps H L s)(hx:Ext (Zgd g Z L) w g' w')(hs:Yf g' s' w') :
  Ext g w { g' with kept:=g.kept } w'/\Zu { g' with kept:=g.kept } Z w' tmps H L s':=by
 have u:Ext g w { g' with kept:=g.kept } w' :=
  ⟨hx.size,hx.prot,hx.cell,hx.hdr,λb hb=>hx.kept b (.inl hb),λb hb=>hx.keptProt b (.inl hb),rfl,hx.os,hx.output,hx.tape⟩
 refine⟨u,⟨⟨λb o ho=>Zo5 (hs.obj b o ho) rfl,λb o ho hk=>hs.kept b o ho (by rw[hx.keptEq];exact .inl hk),λb hb=>⟨(hs.fresh b hb).1,λhk=>(hs.fresh b hb).2 (by rw[hx.keptEq];exact .inl hk)⟩,λn cs hc=>Wu (hs.tabs n cs hc) rfl⟩,?_,m.locKept,?_,m.inj,?_⟩⟩;intro l cs hl;exact(m.loc l cs hl).mono u (hx.kept _ (.inr ⟨l,cs,hl,rfl⟩)) (hx.keptProt _ (.inr ⟨l,cs,hl,rfl⟩))
 .intro l cs hl;cases ab:s' (Z l) with
  |none=>rfl
  |some o=>exact absurd (by rw[hx.keptEq];exact .inr ⟨l,cs,hl,rfl⟩) (hs.kept _ o ab)
 intro t e he;exact(m.env t e he).mono u
def ZvJ{op f xs}(h:ck P op=sO (.call f xs)):∃f' args ats,op=.call ⟨.value f',args,ats⟩/\ZW f'=sO f/\Zct args.toList=sO xs:=by
 unfold ck at h;split at h;simp at h;split at h<;>(try(simp at h;done));all_goals (try(repeat' (split at h<;>(try(simp at h;done)))))
 simp only[ZIx,K.call.injEq]at h;obtain⟨rfl,rfl⟩:=h;rename_i c _ _ f' t _ _ f xs hf u;obtain⟨callee,args,ats⟩:=c;simp only at t;exact⟨f',args,ats,by rw[t],hf,u⟩
def ZAf{op x}(h:ck P op=sO (.panic x)):∃x',op=.panic x'/\ZW x'=sO x:=by
 unfold ck at h;split at h;simp at h;split at h<;>(try(simp at h;done));all_goals (try(repeat' (split at h<;>(try(simp at h;done)))))
 simp only[ZIL,K.panic.injEq,exists_eq_right]at h;exact⟨_,rfl,h⟩
def Zgu(P:Program):Next->Option Frame
 |.enter f args=>sO (Frame.enter P f args .normal)
 |.round l f tmps a b=>sO (Frame.round l f tmps a b .normal)
 |_=>nO
def ZC4(P:Program)(m:Machine)(c:Frame)(cs:List Frame)(e:Ending)(w':World):Prop :=
 match e with
 |.returned v=>Steps P m (lone (c.finish v) cs w')
 |.panicked ch=>Steps P m (lone (c.raise ch) cs w')
 |.outgrown=>False
def WP(P:Program)(f:D)(args:List D)(s:St)(Φ:Res->St->Prop):Prop :=
 ∀g w fv (vs:List Value),Yf g s w->Rep g w fv f->ZI (Rep g w) vs args ->
  ∃d nx fr,(Deferred.ofValue fv vs.toArray).run P w=.ok d w/\(invoke d.target d.args).run P w=.ok nx w/\Zgu P nx=sO fr /\
   ∀c cs,∃e w',Zhq g w Φ e w'/\ZC4 P (lone fr (c::cs) w) c cs e w'
def Za.V{f first args caps s Φ}(h:Za P f (first++args++caps) s Φ):WP P (.fn (.func f) first caps) args s Φ:=by
 intro g w fv vs hs hf ha;cases hf with
 |fn _ fs cs' _ _ hn1 hn2 h1 h2 =>
 obtain⟨⟨fn,ae,af,ag⟩,ac⟩:=h;have ad:ZI (Rep g w) (fs++vs++cs') (first++args++caps):=((Ye hn1 h1).append ha).append (Ye hn2 h2);have ab:fn.body.isNone=false:=by cases hb:fn.body<;>simp[hb]at af⊢
 refine⟨_,.enter f (fs++vs++cs').toArray,_,by simp[Deferred.ofValue];rfl,?_,rfl,λc cs=>?_⟩;simp only[invoke,callFunc,Sem.run_bind,run_program,Result.andThen_ok,ae,ag,ab,ZI7,if_false,Sem.run_pure];simp;obtain⟨e,w',fr,hp,t,hfrf,u⟩:=ac g w _ hs ad (c::cs);refine⟨e,w',hp,?_⟩;cases e with
 |returned v=>exact Steps.trans t (.one (step_leave_returned u))
 |panicked ch=>exact Steps.trans t (.one (step_leave_panicked u))
 |outgrown =>obtain⟨g',s',r,b1,b2,b3,b4⟩:=hp;cases r<;>exact b3.elim
def ZbL{F:Fr P}{kp dk o os H L s}(hg:Zj H o.guard=sO true){fx xs}(hk:o.k=.call fx xs)
  {p q f es ds} (hf:ZC H true fx=sO (q,.d f)) (ha:Z8 H true xs=sO (p,es)) (hds:Ka es=sO ds) (hp:p) (hq:q)
  {Ψ} (hc:WP P f ds s Ψ)
  (hret:∀d s',Ψ (.ret d) s'->DO F kp dk os (Zx H o.dst (.d d)) L s') (hpan:∀d s',Ψ (.panic d) s'->Y3 F H L d s'):DO F kp dk (o::os) H L s:=by
 refine Y7 λoo g Z w tmps t i r k ap ag ar ak hd hN m hr ay=>?_;have hw:=Z7 m ar hg;have az:=Yb ag (by rw[hk];rfl);rw[hk]at ag;obtain⟨f',ad,ats,a0,aw,a3⟩:=ZvJ ag;have am:Rep g w _ _:=ZY m aw rfl hf hq F.ds;have ae:=K5 (Zce m rfl F.ds a3 ha hp) hds;generalize ax:(Act.mk tmps F.ds).eval f'=fv at am;have ai:ZI (Rep (Zgd g Z L) w) (ad.toList.map (Act.mk tmps F.ds).eval) ds:=Ye ae.len (λi a b hx hy=>Wu (ae.get i a b hx hy) rfl);obtain⟨d,nx,fr,au,av,aj,hC⟩:=hc (Zgd g Z L) w fv _ m.callSt (Wu am rfl) ai;have ao:(Array.map (Act.mk tmps F.ds).eval ad)=(ad.toList.map (Act.mk tmps F.ds).eval).toArray:=by apply Array.ext';simp
 have aq:(execOp (Act.mk tmps F.ds).eval oo).run P w=.ok nx w:=by simp only[execOp,a0,resolve,ax,ao,Sem.run_bind,au,Result.andThen_ok,av]
 have ac:step P (lone (F.b.atR ⟨tmps,F.ds⟩ (.inRegion t (i::r)::k)) F.cs w) =
   .next (lone fr (F.b.atR ⟨tmps,F.ds⟩ (.inRegion t (i::r)::k)::F.cs) w):=by
  refine step_lone_go ?_;rw[stepGR_op ap hw,Oper.semAt_eq _ _ _ az];cases nx<;>simp only[Zgu,ZIx,reduceCtorEq]at aj<;>subst aj<;>simp[stepG.apply,aq,Frame.atR]
 obtain⟨e,w',⟨g',s',res,x1,x2,x3,x4⟩,ab⟩:=hC (F.b.atR ⟨tmps,F.ds⟩ (.inRegion t (i::r)::k)) F.cs;obtain⟨af,hm⟩:=m.afterCall x1 x2;cases e with
 |returned v =>
  cases res with
  |panic d=>exact x3.elim
  |ret d =>
   have al:(F.b.atR ⟨tmps,F.ds⟩ (.inRegion t (i::r)::k)).finish v=F.b.atR ((Act.mk tmps F.ds).put oo.dst v) (.inRegion t r::k):=by rw[Frame.finish_atR,ap];rfl
   have u:Steps P (lone (F.b.atR ⟨tmps,F.ds⟩ (.inRegion t (i::r)::k)) F.cs w) (lone (F.b.atR ((Act.mk tmps F.ds).put oo.dst v) (.inRegion t r::k)) F.cs w'):=by refine .head ac ?_;rw[<-al];exact ab
   refine F.T.back _ _ _ _ u ?_;rw[ak];obtain⟨ah,e1,e2,m'⟩:=ZfJ hm hN hd (v:=v) (e:=.d d) (Wu x3 rfl) F.ds;rw[e1];exact F.T.ext _ _ _ _ _ af (hret d s' x4 t r k hr ay _ _ _ ah e2 m')
 |panicked ch =>
  cases res with
  |ret d=>exact x3.elim
  |panic d =>
   obtain⟨v,rfl,hv⟩:=x3;have u:Steps P (lone (F.b.atR ⟨tmps,F.ds⟩ (.inRegion t (i::r)::k)) F.cs w) (lone { F.b.atR ⟨tmps,F.ds⟩ (.inRegion t (i::r)::k) with mode:=.panicking [{ v,recovered:=false }] } F.cs w'):=by refine .head ac ?_;rw[<-Frame.raise_atR];exact ab
   refine F.T.back _ _ _ _ u ?_;exact F.T.ext _ _ _ _ _ af (hpan d s' x4 _ _ _ v _ _ hN hm (Wu hv rfl))
 |outgrown=>exact ab.elim
def Zly{F:Fr P}{kp dk o os H L s}(hg:Zj H o.guard=sO true){fx xs}(hk:o.k=.call fx xs)
  {p q f first caps es ds} (hf:ZC H true fx=sO (q,.d (.fn (.func f) first caps))) (ha:Z8 H true xs=sO (p,es)) (hds:Ka es=sO ds) (hp:p) (hq:q)
  {Ψ} (hc:Za P f (first++ds++caps) s Ψ)
  (u:∀d s',Ψ (.ret d) s'->DO F kp dk os (Zx H o.dst (.d d)) L s') (t:∀d s',Ψ (.panic d) s'->Y3 F H L d s'):DO F kp dk (o::os) H L s :=
 ZbL hg hk hf ha hds hp hq hc.V u t
def Zm9{F:Fr P}{kp dk o os H L s}(hg:Zj H o.guard=sO true){x}(hk:o.k=.panic x)
  {p t d} (ha:ZC H true x=sO (p,.d (.iface t d))) (hp:p) (h:Y3 F H L (.iface t d) s):DO F kp dk (o::os) H L s:=by
 refine Y7 λoo g Z w tmps ai i r k af ab ad hdst hd hN m hr hkk=>?_;have hw:=Z7 m ad hg;have ae:=Yb ab (by rw[hk];rfl);rw[hk]at ab;obtain⟨x',ag,ah⟩:=ZAf ab;have u:Rep g w _ _:=ZY m ah rfl ha hp F.ds;generalize hv:(Act.mk tmps F.ds).eval x'=v at u;have ac:(execOp (Act.mk tmps F.ds).eval oo).run P w=.halt (.panic v) w:=by cases u;simp[execOp,ag,hv,Instr.panic]
 refine F.T.back _ _ _ _ (.one (step_lone_go (fr':={ F.b.atR ⟨tmps,F.ds⟩ (.inRegion ai (i::r)::k) with mode:=.panicking [{ v,recovered:=false }] }) (cs':=F.cs) (w':=w) ?_)) (h g Z w v _ _ hN m u);rw[stepGR_op af hw,Oper.semAt_eq _ _ _ ae];rw[<-Frame.raise_atR];simp[stepG.apply,ac]
end
end Go.DL
namespace Go.DL
open Go
variable [Zs5]
section
variable {P:Program}
def Zaq:D->Option Value
 |.int k n=>sO (.int k n)
 |.bool b=>sO (.bool b)
 |.str l=>sO (.string ⟨l.toArray⟩)
 |.nilsl=>sO (.slice nO 0 0)
 |.nilptr=>sO (.pointer nO)
 |.ptr b o=>sO (.pointer (sO ⟨b,o,nO⟩))
 |.map b=>sO (.map (sO b))
 |.nilmap=>sO (.map nO)
 |.nilfn=>sO .nilFunc
 |.niliface=>sO .nilIface
 |_=>nO
def Zlk:List D->Option (List Value)
 | []=>sO []
 |d::r=>match Zaq d,Zlk r with
  |some v,sO vs=>sO (v::vs)
  |_,_=>nO
def Zwr{g w v u d}(h:Rep g w v d)(t:Zaq d=sO u):v=u:=by
 cases h<;>simp only[Zaq,ZIx,reduceCtorEq]at t<;>(try exact t);rename_i s l h hb;rw[<-t];cases s;simp only at h;rw[<-h]
def Zl5{g w}:∀{vs vs' ds},ZI (Rep g w) vs ds->Zlk ds=sO vs'->vs=vs'
 |_,_,_,.nil,h=>by simp only[Zlk,ZIx]at h;exact h
 |_,_,_,.cons h1 h2,h=>by simp only[Zlk]at h;split at h<;>simp only[ZIx,reduceCtorEq]at h;rename_i v vs e1 e2;rw[<-h,Zwr h1 e1,Zl5 h2 e2]
def ZfL:D->Prop
 |.int k n=>inR k n
 |.str l=>I l<=big
 |d=>(Zaq d).isSome=true
def Zby:List D->Prop
 | []=>True
 |d::r=>ZfL d/\Zby r
def ZrP{d}(h:ZfL d):∃v,Zaq d=sO v/\v.one1=true/\∀g w,Rep g w v d:=by
 cases d<;>simp only[ZfL,Zaq,Option.isSome_none,ZI7]at h;exact⟨_,rfl,rfl,λg w=>.int _ _ h⟩;exact⟨_,rfl,rfl,λg w=>.bool _⟩;exact⟨_,rfl,rfl,λg w=>.str _ _ rfl h⟩;exact⟨_,rfl,rfl,λg w=>.nilsl⟩;exact⟨_,rfl,rfl,λg w=>.nilptr⟩;exact⟨_,rfl,rfl,λg w=>.ptr _ _⟩;exact⟨_,rfl,rfl,λg w=>.map _⟩;exact⟨_,rfl,rfl,λg w=>.nilmap⟩;exact⟨_,rfl,rfl,λg w=>.nilfn⟩;exact⟨_,rfl,rfl,λg w=>.niliface⟩
def Zcf:∀{ds},Zby ds->∃vs,Zlk ds=sO vs/\(∀v∈vs,v.one1=true)/\∀g w,ZI (Rep g w) vs ds
 | [],_=>⟨[],rfl,ψ,λg w=>.nil⟩
 |d::r,h=>by obtain⟨v,h1,h2,h3⟩:=ZrP h.1;obtain⟨vs,t,g2,u⟩:=Zcf h.2;exact⟨v::vs,by simp[Zlk,h1,t],by simp only[ZJd,forall_eq_or_imp];exact⟨h2,g2⟩,λg w=>.cons (h3 g w) (u g w)⟩
inductive DD where
 |mark (q:Nat)
 |fn (i:FuncId) (args caps:List D)
def DD.def:DD->Deferred
 |.mark q=>{ target:=.collected q,args:=#[] }
 |.fn i args caps=>{ target:=.fn (.func i) ((Zlk caps).getD []).toArray,args:=((Zlk args).getD []).toArray }
def Zbu(g:G)(w:World)(m:FrameMode):Option D->Prop
 |none=>m=.returning
 |some d=>∃v,m=.panicking [{ v,recovered:=false }]/\Rep g w v d
def JV(P:Program)(i:FuncId)(args:List D)(pd:Option D)(s:St)(Ψ:Bool->St->Prop):Prop :=
 (∃fn,P.funcs[i]?=sO fn/\fn.body.isSome=true/\(fn.name == "runtime.NumGoroutine")=false) /\
 ∀g w (vs:List Value) (cf:Frame) (cs:List Frame),Yf g s w->ZI (Rep g w) vs args->Zbu g w cf.mode pd ->
  ∃g' w' s' b,Ext g w g' w'/\Yf g' s' w'/\Ψ b s' /\
   Steps P (lone (Frame.enter P i vs.toArray .deferred) (cf::cs) w) (lone { cf with mode:=if b then .returning else cf.mode } cs w')
def Unw(P:Program):List DD->Option D->St->(Option D->St->Prop)->Prop
 | [],m,s,Ψ=>Ψ m s
 |.mark q::r,m,s,Ψ=>s q=sO .dfr/\Unw P r m (s.del q) Ψ
 |.fn i args caps::r,m,s,Ψ=>Zby args/\Zby caps/\JV P i (args++caps) m s λb s'=>Unw P r (if b then nO else m) s' Ψ
def Zcz{g:G}{w:World}(b:Nat)(o:Obj)(hb:hdr w b=nO)(hp:g.prot b=0)(hk:¬g.kept b):Ext g w g { w with heap:=w.heap.setIfInBounds b o } where
 size:=by simp
 prot _:=ZIO _
 cell b' o' ho:=by by_cases h:b'=b;subst h;omega;exact JA (by simp[Array.getElem?_setIfInBounds,Ne.symm h])
 hdr b' x hx:=by by_cases h:b'=b;subst h;rw[hb]at hx;simp at hx;rw[Zbs (w:=w) (by simp[Array.getElem?_setIfInBounds,Ne.symm h])];exact hx
 kept b' hb':=by have h:b'≠b:=λh=>hk (h▸hb');simp[Array.getElem?_setIfInBounds,Ne.symm h]
 keptProt _ _:=rfl
 keptEq:=rfl
 os:=rfl
 output:=rfl
 tape:=rfl
def Zu.drop{g:G}{Z:Nat->Nat}{w w':World}{tmps:Array Value}{H:Env}{L:Loc}{s:St}(m:Zu g Z w tmps H L s){b:Nat}{o:QO}(hb:s b=sO o)(he:Ext g w g w')(hsz:w'.heap.size=w.heap.size)
  (hoth:∀c,c≠b->w'.heap[c]?=w.heap[c]?):Zu g Z w' tmps H L (s.del b):={
 st:=⟨λc x hx=>by simp only[St.del]at hx;by_cases u:c=b;simp[u]at hx;simp only[u,if_false]at hx;exact(m.st.obj c x hx).mono he (hoth c u) rfl,
   λc x hx=>by simp only[St.del]at hx;by_cases u:c=b;simp[u]at hx;simp only[u,if_false]at hx;exact m.st.kept c x hx,
   λc u=>m.st.fresh c ω,λn cs u=>(m.st.tabs n cs u).mono he⟩
 loc l cs hl:=(m.loc l cs hl).mono he (hoth _ (λh=>by have:=m.locSt l cs hl;rw[h,hb]at this;simp at this)) rfl
 locKept:=m.locKept
 locSt l cs hl:=by simp only[St.del];split;rfl;exact m.locSt l cs hl
 inj:=m.inj
 env t e ht:=(m.env t e ht).mono he }
def Zzz{fr cs w q ds args}(hm:fr.mode≠.run)(hd:fr.defers={ target:=.collected q,args }::ds)(hq:w.heap[q]?=sO (.deferred (sO []))) :
  step P (lone fr cs w)=.next (lone { fr with defers:=ds } cs { w with heap:=w.heap.setIfInBounds q (.deferred nO) }):=by
 have u:(Instr.takeDeferred q).run P w=.ok [] { w with heap:=w.heap.setIfInBounds q (.deferred nO) }:=by simp[Instr.takeDeferred,getObj,setObj,Sem.run,hq,Result.andThen]
 refine step_lone_go ?_;cases t:fr.mode with
 |run=>exact absurd t hm
 |returning=>simp[stepG,unwind,t,hd,Sem.runT_eq,u]
 |panicking chain=>simp[stepG,unwind,t,hd,Sem.runT_eq,u]
def Zo3{g w m o}(h:Zbu g w m o):m≠.run:=by
 cases o with
 |none=>simp only[Zbu]at h;rw[h];simp
 |some d=>obtain⟨v,h,_⟩:=h;rw[h];simp
def Zo2{g t w w' m o}(h:Zbu g w m o)(u:Ext g w t w'):Zbu t w' m o:=by
 cases o with
 |none=>exact h
 |some d=>obtain⟨v,h,hr⟩:=h;exact⟨v,h,hr.mono u⟩
def Zln{Ψ}:∀(dds) {m s},Unw P dds m s Ψ->∀{g Z w H L fr cs},Zu g Z w fr.tmps H L s->fr.defers=dds.map DD.def->Zbu g w fr.mode m ->
  ∃g' w' m' s' md,Ext g w g' w'/\Zu g' Z w' fr.tmps H L s'/\Ψ m' s'/\Zbu g' w' md m'/\Steps P (lone fr cs w) (lone { fr with defers:=[],mode:=md } cs w')
 | [],m,s,h,g,Z,w,H,L,fr,cs,M,hd,hm=>by
  refine⟨g,w,m,s,fr.mode,Ext.refl g w,M,h,hm,?_⟩;have:({ fr with defers:=[],mode:=fr.mode }:Frame)=fr:=by cases fr;simp only at hd;subst hd;rfl
  rw[this];exact Steps.refl P _
 |.mark q::r,m,s,h,g,Z,w,H,L,fr,cs,M,hd,hm=>by obtain⟨hq,hu⟩:=h;obtain⟨am,hh⟩:=M.st.obj q _ hq;have he:=Zcz (g:=g) (w:=w) q (.deferred nO) (by simp[hdr,hh]) am (M.st.kept q _ hq);have M':=M.drop hq he ψ (λc hc=>JK hc);obtain⟨g',w',m',s',md,a1,a2,a3,a4,a5⟩:=Zln r hu (fr:={ fr with defers:=r.map DD.def }) (cs:=cs) M' rfl (Zo2 hm he);exact⟨g',w',m',s',md,he.trans a1,a2,a3,a4,.head (Zzz (Zo3 hm) hd hh) a5⟩
 |.fn i args caps::r,m,s,h,g,Z,w,H,L,fr,cs,M,hd,hm=>by
  obtain⟨ao,ap,⟨fn,ad,ae,af⟩,hc⟩:=h;obtain⟨ac,ah,_,ai⟩:=Zcf ao;obtain⟨vs,ag,_,aq⟩:=Zcf ap;have aj:Zbu (Zgd g Z L) w ({ fr with defers:=r.map DD.def }:Frame).mode m:=by
   cases m with
   |none=>exact hm
   |some d=>obtain⟨v,h1,h2⟩:=hm;exact⟨v,h1,Wu h2 rfl⟩
  obtain⟨g1,w1,s1,b,x1,x2,x3,x4⟩:=hc (Zgd g Z L) w (ac++vs) { fr with defers:=r.map DD.def } cs M.callSt ((ai _ _).append (aq _ _)) aj;obtain⟨t,ak⟩:=M.afterCall x1 x2;have u:fn.body.isNone=false:=by cases hb:fn.body<;>simp[hb]at ae⊢
  have ab:step P (lone fr cs w)=.next (lone (Frame.enter P i (ac++vs).toArray .deferred) ({ fr with defers:=r.map DD.def }::cs) w):=by refine step_defer (d:=DD.def (.fn i args caps)) (fv:=.func i) (cap:=vs.toArray) (Zo3 hm) hd (by simp[DD.def,ag]) ?_;simp only[DD.def,ag,ah,ZJe,invoke,callFunc,Sem.run_bind,run_program,Result.andThen_ok,ad,af,u,ZI7,if_false,Sem.run_pure];simp
  have al:Zbu { g1 with kept:=g.kept } w1 (if b then .returning else fr.mode) (if b then nO else m):=by cases b;simp only[ZI7,if_false];exact Zo2 hm t;rfl
  obtain⟨g',w',m',s',md,a1,a2,a3,a4,a5⟩:=Zln r x3 (fr:={ fr with defers:=r.map DD.def,mode:=if b then .returning else fr.mode }) (cs:=cs) ak rfl al;exact⟨g',w',m',s',md,t.trans a1,a2,a3,a4,.head ab (Steps.trans x4 a5)⟩
def YL{P:Program}(F:Fr P)(rs:List RV)(Φ:Res->St->Prop)(dds:List DD):Prop :=
 ∃an f df cs,cf P an f=sO df/\rs=df.res/\F={ ZoS P an f df.n cs Φ with ds:=dds.map DD.def }
def St.sub_refl{s:St}:s.sub s:=λ_ _ h=>h
def ZlA(H:Env)(L:Loc)(rs:List RV)(Φ:Res->St->Prop):Option D->St->Prop
 |none,s=>∃p ds d s',YD H L s rs=sO (p,ds)/\p/\(Qb ds).Le d/\s'.sub s/\Φ (.ret d) s'
 |some d,s=>∃d' s',d.Le d'/\s'.sub s/\Φ (.panic d') s'
def ZtL{an f df}(hf:cf P an f=sO df){cs Φ g Z w fr H L s m dds}(hfn:fr.fn=f)(hkind:fr.kind=.normal)
  (M:Zu g Z w fr.tmps H L s) (hd:fr.defers=dds.map DD.def) (hm:Zbu g w fr.mode m) (hu:Unw P dds m s (ZlA H L df.res Φ)):(ZlI P f cs Φ).T g w (lone fr cs w):=by
 obtain⟨g',w',m',s',md,a1,a2,a3,a4,a5⟩:=Zln dds hu (cs:=cs) M hd hm;unfold cf at hf;split at hf<;>(try(simp at hf;done));rename_i fn t;split at hf<;>(try(simp at hf;done));split at hf<;>(try(simp at hf;done));split at hf<;>simp at hf;rename_i rs d' ac hd';subst hf;cases m' with
 |none =>obtain⟨p,ds,d,s2,h1,h2,h3,h4,h5⟩:=a3;obtain⟨v,u,ab⟩:=Zpj a2 ac h1 h2;exact⟨.returned v,w',_,a5,hfn,⟨a4,rfl,hkind,fn,by rw[<-t] ;exact congrArg _ hfn,u⟩,g',s2,.ret d,a1,a2.st.sub h4,h3 _ _ _ ab,h5⟩
 |some d =>obtain⟨d',s2,h1,h2,h3⟩:=a3;obtain⟨v,u,ab⟩:=a4;exact⟨.panicked [{ v,recovered:=false }],w',_,a5,hfn,⟨u,rfl,fn,by rw[<-t];exact congrArg _ hfn⟩,g',s2,.panic d',a1,a2.st.sub h2,⟨v,rfl,h1 _ _ _ ab⟩,h3⟩
def YL.retU{F:Fr P}{rs Φ dds}(u:YL F rs Φ dds){dk H L s}(h:Unw P dds nO s (ZlA H L rs Φ)):Zt F (.code .ret::dk) H L s:=by
 obtain⟨an,f,⟨N,rs,b⟩,t,hf,rfl,rfl⟩:=u;intro k hk;cases hk with
 |code hc ht =>obtain rfl:=Ztp hc;intro g Z w tmps hN m;refine(ZlI P f t Φ).back _ _ _ _ (.one (stepR_ret rfl)) ?_;exact ZtL (m:=nO) hf rfl rfl (dds:=dds) m rfl rfl h
def YL.finU{F:Fr P}{rs Φ dds}(u:YL F rs Φ dds){H L s}(h:Unw P dds nO s (ZlA H L rs Φ)):Zt F [] H L s:=by
 obtain⟨an,f,⟨N,rs,b⟩,t,hf,rfl,rfl⟩:=u;intro k hk;cases hk;intro g Z w tmps hN m;refine(ZlI P f t Φ).back _ _ _ _ (.one (stepR_end rfl)) ?_;exact ZtL (m:=nO) hf rfl rfl (dds:=dds) m rfl rfl h
def YL.panU{F:Fr P}{rs Φ dds}(t:YL F rs Φ dds){H L d s}(h:Unw P dds (sO d) s (ZlA H L rs Φ)):Y3 F H L d s:=by
 obtain⟨an,f,⟨N,rs,b⟩,cs,u,rfl,rfl⟩:=t;intro g Z w v todo tmps hN m hr;exact ZtL (m:=sO d) u rfl rfl (dds:=dds) m rfl ⟨v,rfl,hr⟩ h
def YL.ret{F:Fr P}{rs Φ}(hF:YL F rs Φ []){dk H L s p ds}(d s')(t:YD H L s rs=sO (p,ds))(u:p)(h3:(Qb ds).Le d)(h4:s'.sub s)(h5:Φ (.ret d) s') :
  Zt F (.code .ret::dk) H L s:=hF.retU ⟨p,ds,d,s',t,u,h3,h4,h5⟩
def YL.fin{F:Fr P}{rs Φ}(hF:YL F rs Φ []){H L s p ds}(d s')(t:YD H L s rs=sO (p,ds))(u:p)(h3:(Qb ds).Le d)(h4:s'.sub s)(h5:Φ (.ret d) s') :
  Zt F [] H L s:=hF.finU ⟨p,ds,d,s',t,u,h3,h4,h5⟩
def YL.pan{F:Fr P}{rs Φ}(hF:YL F rs Φ []){H L d s}(s')(t:s'.sub s)(u:Φ (.panic d) s'):Y3 F H L d s:=hF.panU ⟨d,s',D.Le.refl d,t,u⟩
def Zb{an f N rs b}(t:cf P an f=sO ⟨N,rs,b⟩){args s Φ}
  (h:∀F:Fr P,YL F rs Φ []->Zt F [.code b] (Qa 0 args) [] s):Za P f args s Φ :=
 Zjv t λu=>h _ ⟨an,f,⟨N,rs,b⟩,u,t,rfl,rfl⟩
end
end Go.DL
namespace Go.DL
open Go
variable [Zs5]
def Zd(P:Program)(f:FuncId)(args:List D)(d:D):Prop:=∀s,Za P f args s λr s'=>r=.ret d/\s'=s
def Zg{P an f N rs b}(hf:cf P an f=sO ⟨N,rs,b⟩){args d}
  (h:∀(F:Fr P) (s:St),(∀{dk:List WY} {H:Env} {L:Loc} {s':St} {p:Prop} {ds:List D},YD H L s' rs=sO (p,ds)->p->(Qb ds).Le d->s.sub s'->Zt F (.code .ret::dk) H L s') ->
   Zt F [.code b] (Qa 0 args) [] s):Zd P f args d :=
 λs=>Zb hf λF hF=>h F s λt u h3 h4=>hF.ret d s t u h3 h4 ⟨rfl,rfl⟩
def ZaD{P}{F:Fr P}{kp dk o os H L s}(hg:Zj H o.guard=sO true){fx xs}(hk:o.k=.call fx xs)
  {p q f first caps es ds} (hf:ZC H true fx=sO (q,.d (.fn (.func f) first caps))) (ha:Z8 H true xs=sO (p,es)) (u:Ka es=sO ds) (hp:p) (hq:q)
  {d} (hc:Zd P f (first++ds++caps) d) (h:DO F kp dk os (Zx H o.dst (.d d)) L s):DO F kp dk (o::os) H L s :=
 Zly hg hk hf ha u hp hq (hc s) (λd' s' ⟨t,h2⟩=>by simp only[Res.ret.injEq]at t;subst t;subst h2;exact h) (λd' s' ⟨t,_⟩=>by simp at t)
end Go.DL
namespace Go.DL
open Go
variable [Zs5]
section
variable {P:Program}
def ZC7{F:Fr P}{kp dk os H H' L s}(h:∀g Z w tmps,Zu g Z w tmps H L s->Zu g Z w tmps H' L s)(h':DO F kp dk os H' L s) :
  DO F kp dk os H L s:=λu is k t hk g Z w tmps hN m=>h' u is k t hk g Z w tmps hN (h g Z w tmps m)
def Zu.headWhen{g Z w tmps H L s dst e}(m:Zu g Z w tmps (Zx H dst e) L s):Zu g Z w tmps (Zx H dst (.when true e)) L s:=by
 cases dst with
 |none=>exact m
 |some t =>refine{ m with env:=λu x hx=>?_ };simp only[Zx,ZM]at hx;by_cases h:t=u;simp only[h,if_true,ZIx]at hx;subst hx;exact⟨λ_=>m.env u e (by simp[Zx,ZM,h]),λh=>by simp at h⟩;simp only[h,if_false]at hx;exact m.env u x (by simp[Zx,ZM,h,hx])
def Jw{F:Fr P}{kp dk o os H L s}(hg:Zj H o.guard=sO false){e}
  (h:DO F kp dk os (Zx H o.dst (.when false e)) L s):DO F kp dk (o::os) H L s:=by
 refine Y7 λoo g Z w tmps ad i r k ac hck u t hd hN m hr ab=>?_;exact ZbF (P:=P) hN m ac t hd (Z7 m u hg) (h ad r k hr ab)
def Zq3{F:Fr P}{kp dk o os H L s c}(hg:Zj H o.guard=sO c){u xs}(hk:o.k=.call u xs)
  {p q f first caps es ds} (hf:ZC H c u=sO (q,.d (.fn (.func f) first caps))) (ha:Z8 H c xs=sO (p,es)) (t:Ka es=sO ds)
  {d} (hc:c=true->p/\q/\Zd P f (first++ds++caps) d) (h:DO F kp dk os (Zx H o.dst (.when c (.d d))) L s):DO F kp dk (o::os) H L s:=by
 cases c;exact Jw hg h;obtain⟨h1,h2,h3⟩:=hc rfl;exact ZaD hg hk hf ha t h1 h2 h3 (ZC7 (λg Z w tmps m=>m.headWhen) h)
def Zu.sub{g:G}{Z:Nat->Nat}{w:World}{tmps:Array Value}{H:Env}{L:Loc}{s s':St}(m:Zu g Z w tmps H L s)(t:s'.sub s):Zu g Z w tmps H L s':={
 st:=m.st.sub t
 loc:=m.loc
 locKept:=m.locKept
 locSt l cs hl:=by
  cases u:s' (Z l) with
  |none=>rfl
  |some o=>have:=t _ _ u;rw[m.locSt l cs hl]at this;simp at this
 inj:=m.inj
 env:=m.env }
def KN{F:Fr P}{dk H L s s'}(hs:s'.sub s)(h:Zt F dk H L s'):Zt F dk H L s :=
 λk u g Z w tmps t m=>h k u g Z w tmps t (m.sub hs)
end
end Go.DL
namespace Go.DL
open Go
variable [Zs5]
variable {kp:Option (List Nat)}{L:Loc}{H:Env}{s:St}{w:World}{os:List DOp}{ds:List D}{B:List (Nat × Rd)}{dst:Option Nat}{tmps:Array Value}{g:G}{Φ:Res->St->Prop}{Z:Nat->Nat}{xs:List Opd}{side:Prop}{row:Nat->List D}
variable {P:Program}
def ZgM:BinOp->IntKind->IntKind->Int->Int->Option Int
 |.add,k,k2,a,b=>if k=k2 then sO (k.wrap (a+b)) else nO
 |.shl,k,_,a,b=>if 0<=b then sO (k.wrap (J8 k a b)) else nO
 |_,_,_,_,_=>nO
def ZpU{F:Fr P}{kp dk o os H L s}(hg:o.guard=nO){x y bo pl}(hk:o.k=.q (.bin bo pl) [x,y]){p k k2 a b v}(ha:Z8 H true [x,y]=sO (p,[.d (.int k a),.d (.int k2 b)]))(hp:p)(hv:ZgM bo k k2 a b=sO v)(h:DO F kp dk os (Zx H o.dst (.d (.int k v))) L s):DO F kp dk (o::os) H L s:=by
 refine ZsW (c:=true) (by rw[hg];rfl) (by rw[hk];rfl) (.inr ⟨rfl,rfl⟩) (λ_ oo g Z w tmps ae m=>?_) h;rw[hk]at ae;obtain⟨ys,u,aj⟩:=ZDk ae;have ac:=Zce m rfl F.ds aj ha hp;obtain⟨dst,ab,ty,pos,af,gd⟩:=oo;simp only at u;have ai:∃op t x' y' yt,ab=Op.binOp op t x' y' yt:=by
  cases ab<;>(try(simp[cq]at u;done));case binOp=>exact⟨_,_,_,_,_,rfl⟩
  all_goals
   exfalso;revert u;simp only[cq]
   repeat' split
   all_goals simp
   all_goals (intros;simp_all)
 obtain⟨op,t,x',y',yt,rfl⟩:=ai;simp only[cq]at u;simp only[ZIx,ZIK,Q.bin.injEq]at u;obtain⟨⟨rfl,_⟩,rfl⟩:=u;obtain⟨e1,e2,he,h1,h2⟩:=JY ac;simp only[List.cons.injEq,and_true]at he;obtain⟨rfl,rfl⟩:=he;obtain⟨v1,i1⟩:=Qf h1;obtain⟨v2,i2⟩:=Qf h2;unfold ZgM at hv;split at hv;split at hv;rename_i ah;subst ah;obtain rfl:=Option.some.inj hv;refine ev ⟨.int k (k.wrap (a+b)),?_,.int _ _ Zh6⟩;rw[v1,v2];have ad:(eqGuard .add t x' y' (.int k a) (.int k b)).run P w=.ok () w:=rfl;simp only[Sem.run_bind,ad,Result.andThen_ok,binOp,ne_eq,not_true_eq_false,if_false];rfl;cases hv;split at hv;rename_i ag;obtain rfl:=Option.some.inj hv;refine ev ⟨.int k (k.wrap (J8 k a b)),?_,.int _ _ Zh6⟩;rw[v1,v2];have ad:(eqGuard .shl t x' y' (.int k a) (.int k2 b)).run P w=.ok () w:=rfl;simp only[Sem.run_bind,ad,Result.andThen_ok,binOp,Op.shift,Int.not_lt.2 ag,if_false];rfl;cases hv;cases hv
def Zb7{F:Fr P}{kp dk o os H L s}(u:o.guard=nO){x y pl}(hk:o.k=.q (.bin .add pl) [x,y]){p k a b}(t:Z8 H true [x,y]=sO (p,[.d (.int k a),.d (.int k b)]))(hp:p)(h:DO F kp dk os (Zx H o.dst (.d (.int k (k.wrap (a+b))))) L s):DO F kp dk (o::os) H L s :=
 ZpU u hk t hp (by simp[ZgM]) h
end Go.DL
