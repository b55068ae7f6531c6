/- Lemmas: DlA, DlB, DlC, DlD, DlE, DlF, DlG, DlH, DlI, DlJ, DlK, DlL, DlM, DlMa, DlN, DlO, DlP, DlQ, DlR, DlS, DlT, DlTa, DlTb, DlTc, DlU, DlV, DlW, DlWa. -/
import Derived.AtR
import Derived.Calls
import Derived.Laws.Cells
import Derived.Laws.StructEq
import Derived.ChangeKeysEq
import Derived.Laws.Tables
import Derived.Laws.Build
import Derived.Laws.BytesString
import Derived.MapKept
import Derived.Laws.CopyRow
import Derived.Great.BuildSlice
import Derived.Laws.MakeOwn
import Derived.Laws.AppendOwn
import Derived.Lib.ConvBytes
import Derived.Defers
import Derived.Orders
import Derived.Lib.AppendStr
import Derived.RangeFuncIn
import Derived.OpenShut
import Derived.WalkKit
import Derived.ProofKit
import Derived.ChangeCalls
import Derived.KernelRfl
import Derived.Shelf.Spec.SlicesGrow
import Derived.Shelf.Strings.OnBuilder
import Derived.Ground.NamesProg
import Derived.Lib.Bytealg
import Derived.Lay
import Derived.LaidOnce
import Derived.Lib.LaidTab
import Derived.Stop.LaidErr
import Derived.SevenTiedAt
import Derived.Test.YtnkifankoijebaaGreatDoorProg
set_option maxHeartbeats 16000000
set_option maxRecDepth 100000
set_option linter.all false
def ω{p:Prop}(h:p:=by omega):p:=h
def φ{p:Prop}(h:p:=by trivial):p:=h
def ψ{p:Prop}(h:p:=by simp):p:=h
abbrev Go.Value.i(n:Int):Go.Value:=.int .i64 n
open List renaming length->I
open Option renaming some -> sO, none -> nO
open Inhabited renaming default -> dE
open Decidable renaming decide -> dC
open Bool renaming and_eq_true -> ZH1, false_eq_true -> ZIx
open List renaming append_assoc -> ZIh, getD -> ZH6, getElem?_append_left -> ZIm, getElem?_append_right -> ZIw, getElem?_eq_getElem -> ZIn, getElem?_eq_none -> ZIz, getElem?_take -> ZIv, getElem_of_mem -> ZIc, length_append -> ZHX, length_cons -> ZH3, length_take -> ZIa, map_cons -> ZIo, mem_cons -> ZIs, range -> ZH5
open Nat renaming add_mul -> ZIp, le_refl -> ZH9, le_trans -> ZIy, mul_le_mul_right -> ZIi
open Option renaming getD_some -> ZIr, map_eq_some_iff -> ZH8
open Option.some renaming injEq -> ZHQ
open Prod.mk renaming injEq -> ZH2
namespace Go.DL
open Go
variable {kp:Option (List Nat)}{w:World}{dst:Option Nat}{tmps:Array Value}{Z:Nat->Nat}{side:Prop}
inductive Tok where
 |none|full|tip (b:Nat)
inductive D where
 |int (k:IntKind) (n:Int)
 |bool (b:Bool)
 |str (s:List UInt8)
 |agg (cells:List D)
 |tup (vs:List D)
 |nilsl
 |sl (t:Tok) (n s:Nat) (row:Nat->List D)
 |ep (cells:List D) (off:Nat)
 |nilptr
 |ptr (b off:Nat)
 |msl (b off n cap s:Nat)
 |map (b:Nat)
 |nilmap
 |fn (f:Fn) (first caps:List D)
 |nilfn
 |iface (t:TypeId) (v:D)
 |niliface
 |stamp (n:Nat)
 |undef
 |any
abbrev D.i(n:Int):D:=.int .i64 n
instance:Inhabited D:=⟨.undef⟩
inductive SK where
 |int|str|bool
inductive KP where
 |sc (k:SK)
 |st (l:List (Nat×SK))
def YT:SK->D->D->Option Bool
 |.int,.int k a,.int k' b=>if k=k' then sO (dC (a=b)) else nO
 |.str,.str a,.str b=>sO (dC (a=b))
 |.bool,.bool a,.bool b=>sO (dC (a=b))
 |_,_,_=>nO
def Kk(xs ys:List D):List (Nat×SK)->Option Bool
 | []=>sO true
 | (o,k)::r=>match xs[o]?,ys[o]? with
  |some x,sO y=>match YT k x y,Kk xs ys r with
   |some b,sO c=>sO (b&&c)
   |_,_=>nO
  |_,_=>nO
def K6:KP->D->D->Option Bool
 |.sc k,x,y=>YT k x y
 |.st l,.agg xs,.agg ys=>if (I xs)=I l/\I ys=I l then Kk xs ys l else nO
 |_,_,_=>nO
def Ju(kp:KP)(k:D):List (D×D)->Option (Option Nat)
 | []=>sO nO
 |e::r=>match K6 kp k e.1 with
  |some true=>sO (sO 0)
  |some false=>(Ju kp k r).map (·.map (· + 1))
  |none=>nO
def hdr(w:World)(b:Nat):Option (TypeId×Nat×Nat×Nat) :=
 match w.heap[b]? with
 |some (.cells c t fr)=>sO (t,c.size,fr.1,fr.2)
 |_=>nO
def _root_.Go.Value.one1:Value->Bool
 |.agg _|.tuple _=>false
 |_=>true
structure G where
 prot:Nat->Nat
 kept:Nat->Prop
def QK(w:World)(b n:Nat):Prop:=∃t m,hdr w b=sO (t,m,0,0)/\n<=m
def ZkY(w:World):Tok->Nat->Nat->Nat->Nat->Nat->Prop
 |.none,_,_,_,_,_=>True
 |.full,_,_,n,cap,_=>cap=n
 |.tip t,b,o,_,cap,s=>b=t/\o=0/\QK w b (cap*s)
def inR(k:IntKind)(n:Int):Prop:=k.min<=n/\n<=k.max
def big:Nat:=9223372036854775807
inductive Rep(g:G)(w:World):Value->D->Prop where
 |int (k:IntKind) (n:Int) (h:inR k n):Rep g w (.int k n) (.int k n)
 |bool (b:Bool):Rep g w (.bool b) (.bool b)
 |str (s:ByteArray) (l:List UInt8) (h:s.data.toList=l) (hb:I l<=big):Rep g w (.string s) (.str l)
 |agg (vs:List Value) (cells:List D) (hn:I vs=I cells) (h:∀(i:Nat) (v:Value) (d:D),vs[i]?=some v->cells[i]?=some d->Rep g w v d)
   (one:∀v∈vs,v.one1=true):Rep g w (.agg vs.toArray) (.agg cells)
 |tup (vs:List Value) (ds:List D) (hn:I vs=I ds) (h:∀(i:Nat) (v:Value) (d:D),vs[i]?=some v->ds[i]?=some d->Rep g w v d) :
   Rep g w (.tuple vs.toArray) (.tup ds)
 |nilsl:Rep g w (.slice none 0 0) .nilsl
 |sl0 (a:Option Addr) (t:Tok) (s:Nat) (row:Nat->List D) (ht:∀b,t≠.tip b):Rep g w (.slice a 0 0) (.sl t 0 s row)
 |sl (b o n cap s:Nat) (row:Nat->List D) (t:Tok) (f:Nat->Nat->Value) (hl:∀i,i<n->(row i).length=s)
   (hc:∀i j,i<n->j<s->w.cell? ⟨b,o+i*s+j,none⟩=some (f i j)) (hp:∀i j,i<n->j<s->o+i*s+j<g.prot b)
   (hr:∀(i j:Nat) (d:D),i<n->(row i)[j]?=some d->Rep g w (f i j) d) (one:∀i j,i<n->j<s->(f i j).one1=true)
   (ht:ZkY w t b o n cap s) (hcap:n<=cap) (hb:cap<=big) :
   Rep g w (.slice (some ⟨b,o,none⟩) n cap) (.sl t n s row)
 |ep (b o off:Nat) (cells:List D) (f:Nat->Value) (hc:∀i,i<I cells->w.cell? ⟨b,o+i,none⟩=some (f i)) (hp:∀i,i<I cells->o+i<g.prot b)
   (hr:∀(i:Nat) (d:D),cells[i]?=some d->Rep g w (f i) d) (one:∀i,i<I cells->(f i).one1=true):Rep g w (.pointer (some ⟨b,o+off,none⟩)) (.ep cells off)
 |nilptr:Rep g w (.pointer none) .nilptr
 |ptr (b off:Nat):Rep g w (.pointer (some ⟨b,off,none⟩)) (.ptr b off)
 |msl (b off n cap s:Nat) (h:n<=cap) (hb:cap<=big):Rep g w (.slice (some ⟨b,off,none⟩) n cap) (.msl b off n cap s)
 |mslx (a:Addr) (b off s:Nat):Rep g w (.slice (some a) 0 0) (.msl b off 0 0 s)
 |map (b:Nat):Rep g w (.map (some b)) (.map b)
 |nilmap:Rep g w (.map none) .nilmap
 |fn (f:Fn) (fs cs:List Value) (df dc:List D) (hnf:I fs=I df) (hnc:I cs=I dc)
   (hf:∀(i:Nat) (v:Value) (d:D),fs[i]?=some v->df[i]?=some d->Rep g w v d)
   (hc:∀(i:Nat) (v:Value) (d:D),cs[i]?=some v->dc[i]?=some d->Rep g w v d):Rep g w (.func f fs.toArray cs.toArray) (.fn f df dc)
 |nilfn:Rep g w .nilFunc .nilfn
 |iface (t:TypeId) (v:Value) (d:D) (h:Rep g w v d):Rep g w (.iface t v) (.iface t d)
 |niliface:Rep g w .nilIface .niliface
 |stamp (n:Nat):Rep g w (.i n) (.stamp n)
 |undef:Rep g w undef .undef
 |any (v:Value):Rep g w v .any
structure Ext(g:G)(w:World)(g':G)(w':World):Prop where
 size:w.heap.size<=w'.heap.size
 prot:∀b,g.prot b<=g'.prot b
 cell:∀b o,o<g.prot b->w'.cell? ⟨b,o,none⟩=w.cell? ⟨b,o,none⟩
 hdr:∀b x,hdr w b=some x->hdr w' b=some x
 kept:∀b,g.kept b->w'.heap[b]?=w.heap[b]?
 keptProt:∀b,g.kept b->g'.prot b=g.prot b
 keptEq:g'.kept=g.kept
 os:w'.os=w.os
 output:w'.output=w.output
 tape:w'.tape=w.tape
def Ext.refl(g w):Ext g w g w:=⟨ZH9 _,λ_=>ZH9 _,λ_ _ _=>rfl,λ_ _ h=>h,λ_ _=>rfl,λ_ _=>rfl,rfl,rfl,rfl,rfl⟩
def Ext.trans{g u r:G}{w w' t:World}(h:Ext g w u w')(i:Ext u w' r t):Ext g w r t:={
 size:=ZIy h.size i.size
 prot b:=ZIy (h.prot b) (i.prot b)
 cell b o ho:=(i.cell b o (Nat.lt_of_lt_of_le ho (h.prot b))).trans (h.cell b o ho)
 hdr b x hx:=i.hdr b x (h.hdr b x hx)
 kept b hb:=(i.kept b (by rw[h.keptEq];exact hb)).trans (h.kept b hb)
 keptProt b hb:=(i.keptProt b (by rw[h.keptEq];exact hb)).trans (h.keptProt b hb)
 keptEq:=i.keptEq.trans h.keptEq
 os:=i.os.trans h.os
 output:=i.output.trans h.output
 tape:=i.tape.trans h.tape }
def QK.mono0{w w' b n}(h:QK w b n)(e:∀b x,hdr w b=sO x->hdr w' b=sO x):QK w' b n:=by
 obtain⟨t,m,i,o⟩:=h;exact⟨t,m,e _ _ i,o⟩
def Rep.mono0{g g' w w' v d}(h:Rep g w v d)(ep:∀b,g.prot b<=g'.prot b)(ec:∀b o,o<g.prot b->w'.cell? ⟨b,o,nO⟩=w.cell? ⟨b,o,nO⟩)(eh:∀b x,hdr w b=sO x->hdr w' b=sO x):Rep g' w' v d:=by
 induction h with
 |int k n h=>exact .int k n h
 |bool b=>exact .bool b
 |str s l h hb=>exact .str s l h hb
 |agg vs cells hn _ one ih=>exact .agg vs cells hn ih one
 |tup vs ds hn _ ih=>exact .tup vs ds hn ih
 |nilsl=>exact .nilsl
 |sl0 a t s row ht=>exact .sl0 a t s row ht
 |sl b o n cap s row t f hl hc hp _ one ht hcap hb ih =>
  refine .sl b o n cap s row t f hl (λi j r u=>?_) (λi j r u=>Nat.lt_of_lt_of_le (hp i j r u) (ep b)) ih one ?_ hcap hb;rw[ec _ _ (hp i j r u)];exact hc i j r u;cases t with
  |none=>trivial
  |full=>exact ht
  |tip t=>exact⟨ht.1,ht.2.1,ht.2.2.mono0 eh⟩
 |ep b o off cells f hc hp _ one ih =>exact .ep b o off cells f (λi r=>by rw[ec _ _ (hp i r)];exact hc i r) (λi r=>Nat.lt_of_lt_of_le (hp i r) (ep b)) ih one
 |nilptr=>exact .nilptr
 |ptr b off=>exact .ptr b off
 |msl b off n cap s h hb=>exact .msl b off n cap s h hb
 |mslx a b off s=>exact .mslx a b off s
 |map b=>exact .map b
 |nilmap=>exact .nilmap
 |fn f fs cs df dc hnf hnc _ _ ihf ihc=>exact .fn f fs cs df dc hnf hnc ihf ihc
 |nilfn=>exact .nilfn
 |iface t v d _ ih=>exact .iface t v d ih
 |niliface=>exact .niliface
 |stamp n=>exact .stamp n
 |undef=>exact .undef
 |any v=>exact .any v
def Rep.mono{g i w w' v d}(h:Rep g w v d)(e:Ext g w i w'):Rep i w' v d:=h.mono0 e.prot e.cell e.hdr
inductive E where
 |d (v:D)
 |loc (l off:Nat)
 |when (c:Bool) (e:E)
abbrev Env:=List (Nat×E)
abbrev Loc:=List (Nat×List D)
def Z9:Env->Nat->Option E
 | [],_=>nO
 | (k,e)::r,t=>if k=t then sO e else Z9 r t
def Zq:Loc->Nat->Option (List D)
 | [],_=>nO
 | (k,e)::r,t=>if k=t then sO e else Zq r t
def ZM(g:G)(Z:Nat->Nat)(w:World)(L:Loc):Value->E->Prop
 |v,.d x=>Rep g w v x
 |v,.loc l off=>(∃cs,Zq L l=sO cs)/\v=.pointer (sO ⟨Z l,off,nO⟩)
 |v,.when c e=>(c=true->ZM g Z w L v e)/\(c=false->v=undef)
def ZM.mono{g i Z w w' L v e}(h:ZM g Z w L v e)(x:Ext g w i w'):ZM i Z w' L v e:=by
 induction e with
 |d d=>exact Rep.mono h x
 |loc l off=>exact h
 |when c e ih=>exact⟨λo=>ih (h.1 o),h.2⟩
structure Zhf where
 fn:FuncId
 params:List Nat
 assign:Code
 body:Code
 defers:Nat
 H:Env
 N:Nat
inductive LSt where
 |ready|busy
 |done (j:Code)
inductive JW where
 |cells (ds:List D)
 |map (es:List (D×D))
 |tip (k:Nat)
 |mapE (kp:KP) (es:List (D×D)) (k:D) (n:Nat)
 |loop (r:Zhf) (st:LSt)
 |dfr
abbrev St:=Nat->Option JW
def St.upd(s:St)(b:Nat)(o:JW):St:=λx=>if x=b then sO o else s x
def St.del(s:St)(b:Nat):St:=λx=>if x=b then nO else s x
structure YI(g:G)(w:World)(b:Nat)(ds:List D):Prop where
 prot:g.prot b=0
 ex:∃(vs:Array Value) (T:TypeId),w.heap[b]?=some (.cells vs T (0,0))/\vs.size=I ds /\
  (∀(i:Nat) (v:Value) (d:D),vs[i]?=some v->ds[i]?=some d->Rep g w v d)/\∀v∈vs,v.one1=true
def WO(g:G)(w:World)(b:Nat):JW->Prop
  |.cells ds=>YI g w b ds
  |.map es=>g.prot b=0/\∃(en:Array MapEntry) (clock:Nat),w.heap[b]?=sO (.map en clock)/\en.size=I es /\
      (∀(i:Nat) (e:MapEntry) (d:D×D),en[i]?=sO e->es[i]?=sO d->Rep g w e.key d.1) /\
      (∀(i:Nat) (e:MapEntry) (d:D×D),en[i]?=sO e->es[i]?=sO d->Rep g w e.val d.2) /\
      (∀(i j:Nat) (e e':MapEntry),en[i]?=sO e->en[j]?=sO e'->e.born=e'.born->i=j)/\∀(i:Nat) (e:MapEntry),en[i]?=sO e->e.born<clock
  |.tip k=>g.prot b=k/\∃(vs:Array Value) (T:TypeId),w.heap[b]?=sO (.cells vs T (0,0))/\k<=vs.size
  |.mapE kp es k n=>g.prot b=0/\∃io,Ju kp k es=sO io/\∃(en:Array MapEntry) (clock:Nat),w.heap[b]?=sO (.map en clock)/\en.size=(match io with
        |none=>I es+1
        |some _=>I es) /\
      (∀(i:Nat) (e:MapEntry) (d:D×D),i≠io.getD (I es)->en[i]?=sO e->es[i]?=sO d->Rep g w e.key d.1) /\
      (∀(i:Nat) (e:MapEntry) (d:D×D),i≠io.getD (I es)->en[i]?=sO e->es[i]?=sO d->Rep g w e.val d.2) /\
      (∀e,en[io.getD (I es)]?=sO e->Rep g w e.key k/\e.born=n) /\
      (∀(i j:Nat) (e e':MapEntry),en[i]?=sO e->en[j]?=sO e'->e.born=e'.born->i=j)/\∀(i:Nat) (e:MapEntry),en[i]?=sO e->e.born<clock
  |.loop r st=>g.prot b=0/\∃l:Go.Loop,w.heap[b]?=sO (.loop l)/\l.fn=r.fn/\l.params.toList=r.params/\l.assign=r.assign/\l.body=r.body/\l.defers=r.defers/\r.N<=l.tmps.size /\
      (∀t e,Z9 r.H t=sO e->ZM g (λ_=>0) w [] (l.tmps.getD t undef) e) /\
      (match st with
       |.ready=>l.state=.ready/\l.pending=nO
       |.busy=>l.state=.busy
       |.done j=>l.state=.done/\l.pending=sO j)
  |.dfr=>g.prot b=0/\w.heap[b]?=sO (.deferred (sO []))
class Zo5 where
 tab:Nat->Option (List D)
variable [Zo5]
structure Ym(g:G)(s:St)(w:World):Prop where
 obj:∀b o,s b=some o->WO g w b o
 kept:∀b o,s b=some o->¬g.kept b
 fresh:∀b,w.heap.size<=b->g.prot b=0/\¬g.kept b
 tabs:∀n cs,Zo5.tab n=some cs->Rep g w (.pointer (some ⟨n,0,none⟩)) (.ep cs 0)
def YI.lt{g w b ds}(h:YI g w b ds):b<w.heap.size:=by
 obtain⟨_,_,h,_⟩:=h.ex;grind
def WO.lt{g w b o}(h:WO g w b o):b<w.heap.size:=by
 cases o with
 |cells ds=>exact YI.lt h
 |map es=>obtain⟨_,_,_,h,_⟩:=h;exact(Array.getElem?_eq_some_iff.1 h).1
 |tip k=>obtain⟨_,_,_,h,_⟩:=h;exact(Array.getElem?_eq_some_iff.1 h).1
 |mapE kp es k n=>obtain⟨_,_,_,_,_,h,_⟩:=h;exact(Array.getElem?_eq_some_iff.1 h).1
 |loop r st=>obtain⟨_,_,h,_⟩:=h;exact(Array.getElem?_eq_some_iff.1 h).1
 |dfr=>exact(Array.getElem?_eq_some_iff.1 h.2).1
def YI.mono{g r w w' b ds}(h:YI g w b ds)(e:Ext g w r w')(hb:w'.heap[b]?=w.heap[b]?)(hp:r.prot b=g.prot b):
  YI r w' b ds:=by
 obtain⟨o,vs,T,t,u,h4,h5⟩:=h;exact⟨hp.trans o,vs,T,hb.trans t,u,λi v d hv hd=>(h4 i v d hv hd).mono e,h5⟩
def WO.mono{g g' w w' b o}(h:WO g w b o)(e:Ext g w g' w')(hb:w'.heap[b]?=w.heap[b]?)(hp:g'.prot b=g.prot b):
  WO g' w' b o:=by
 cases o with
 |cells ds=>exact YI.mono h e hb hp
 |map es =>obtain⟨ab,en,u,h1,h2,h3,h4,h5,h6⟩:=h;exact⟨hp.trans ab,en,u,hb.trans h1,h2,λi x d hv hd=>(h3 i x d hv hd).mono e,λi x d hv hd=>(h4 i x d hv hd).mono e,h5,h6⟩
 |tip k =>obtain⟨ab,vs,T,h1,h2⟩:=h;exact⟨hp.trans ab,vs,T,hb.trans h1,h2⟩
 |mapE kp es k n =>obtain⟨ab,io,h0,en,u,h1,h2,h3,h4,h5,h6,h7⟩:=h;exact⟨hp.trans ab,io,h0,en,u,hb.trans h1,h2,λi x d hi hv hd=>(h3 i x d hi hv hd).mono e,λi x d hi hv hd=>(h4 i x d hi hv hd).mono e,λx hx=>⟨(h5 x hx).1.mono e,(h5 x hx).2⟩,h6,h7⟩
 |loop r st =>obtain⟨ab,l,h1,h2,h3,h4,h5,h6,h7,h8,h9⟩:=h;exact⟨hp.trans ab,l,hb.trans h1,h2,h3,h4,h5,h6,h7,λt x he=>(h8 t x he).mono e,h9⟩
 |dfr=>exact⟨hp.trans h.1,hb.trans h.2⟩
structure ZB(g:G)(Z:Nat->Nat)(w:World)(tmps:Array Value)(H:Env)(L:Loc)(s:St):Prop where
 st:Ym g s w
 loc:∀l cs,Zq L l=some cs->YI g w (Z l) cs
 locKept:∀l cs,Zq L l=some cs->¬g.kept (Z l)
 locSt:∀l cs,Zq L l=some cs->s (Z l)=none
 inj:∀l l' cs cs',Zq L l=some cs->Zq L l'=some cs'->Z l=Z l'->l=l'
 env:∀t e,Z9 H t=some e->ZM g Z w L (tmps.getD t undef) e
def ZM.locs{g Z Z' w L L' v e}(h:ZM g Z w L v e)(t:∀l i,Zq L l=sO i->(∃cs',Zq L' l=sO cs')/\Z' l=Z l):ZM g Z' w L' v e:=by
 induction e with
 |d d=>exact h
 |loc l off=>obtain⟨⟨i,o⟩,hv⟩:=h;obtain⟨r,h2⟩:=t l i o;exact⟨r,by grind⟩
 |when c e ih=>exact⟨λo=>ih (h.1 o),h.2⟩
def ZyN{a:Array Value}{t u v}(h:t<a.size):(a.setIfInBounds t v).getD u undef=if t=u then v else a.getD u undef:=by
 simp;grind
def ZB.put{g Z w tmps H L s}(m:ZB g Z w tmps H L s){t v e}(r:t<tmps.size)(h:ZM g Z w L v e):ZB g Z w (tmps.setIfInBounds t v) ((t,e)::H) L s :=
 { m with
  env:=λu x o=>by
   rw[ZyN r];simp[Z9]at o;by_cases i:t=u;grind;simp only[i]at o⊢;exact m.env u x o }
structure ZaC(g:G)(w:World)(g':G)(w':World):Prop where
 size:w.heap.size<=w'.heap.size
 old:∀b,b<w.heap.size->w'.heap[b]?=w.heap[b]?
 prot:∀b,b<w.heap.size->g'.prot b=g.prot b
 fresh:∀b,w'.heap.size<=b->g'.prot b=0
 kept:g'.kept=g.kept
 os:w'.os=w.os
 output:w'.output=w.output
 tape:w'.tape=w.tape
def Zae{w w':World}{b o}(h:w'.heap[b]?=w.heap[b]?):w'.cell? ⟨b,o,nO⟩=w.cell? ⟨b,o,nO⟩:=by
 unfold World.cell?;simp[h]
def Zb0{w w' b}(h:w'.heap[b]?=w.heap[b]?):hdr w' b=hdr w b:=by grind [hdr]
def ZBn{w b x}(h:hdr w b=sO x):b<w.heap.size:=by grind [hdr]
def ZaC.ext{g t:G}{w w':World}(h:ZaC g w t w')(r:∀b,w.heap.size<=b->g.prot b=0/\¬g.kept b):Ext g w t w':={
 size:=h.size
 prot b:=by rcases Nat.lt_or_ge b w.heap.size with hb|hb;rw[h.prot b hb];exact ZH9 _;rw[(r b hb).1];exact Nat.zero_le _
 cell b o ho:=by rcases Nat.lt_or_ge b w.heap.size with hb|hb;exact Zae (h.old b hb);simp_all
 hdr b x hx:=by rw[Zb0 (h.old b (ZBn hx))];exact hx
 kept b hb:=by rcases Nat.lt_or_ge b w.heap.size with i |i;exact h.old b i;exact absurd hb (r b i).2
 keptProt b hb:=by rcases Nat.lt_or_ge b w.heap.size with i |i;exact h.prot b i;exact absurd hb (r b i).2
 keptEq:=h.kept
 os:=h.os
 output:=h.output
 tape:=h.tape }
def Ym.grow{g i:G}{w w':World}{s:St}(m:Ym g s w)(h:ZaC g w i w'):Ym i s w':={
 obj b o ho:=(m.obj b o ho).mono (h.ext m.fresh) (h.old b (m.obj b o ho).lt) (h.prot b (m.obj b o ho).lt)
 kept b o ho:=by rw[h.kept];exact m.kept b o ho
 fresh b hb:=⟨h.fresh b hb,by rw[h.kept];exact(m.fresh b (ZIy h.size hb)).2⟩
 tabs n cs hc:=(m.tabs n cs hc).mono (h.ext m.fresh) }
def ZB.grow{g i:G}{w w':World}{H:Env}{L:Loc}{s:St}(m:ZB g Z w tmps H L s)(h:ZaC g w i w'):
  ZB i Z w' tmps H L s:={
 st:=m.st.grow h
 loc l cs hl:=(m.loc l cs hl).mono (h.ext m.st.fresh) (h.old _ (m.loc l cs hl).lt) (h.prot _ (m.loc l cs hl).lt)
 locKept l cs hl:=by rw[h.kept];exact m.locKept l cs hl
 locSt:=m.locSt
 inj:=m.inj
 env t e he:=(m.env t e he).mono (h.ext m.st.fresh) }
end Go.DL
namespace Go.DL
open Go
variable [Zo5]
variable {kp:Option (List Nat)}{L:Loc}{H:Env}{s:St}{w:World}{ds:List D}{dst:Option Nat}{tmps:Array Value}{g:G}{Z:Nat->Nat}{side:Prop}{row:Nat->List D}
inductive Opd where
 |tmp (t:Nat)
 |cst (d:D)
def Zny:Value->Option D
 |.int k n=>if k.min<=n/\n<=k.max then sO (.int k n) else nO
 |.bool b=>sO (.bool b)
 |.string s=>if (I s.data.toList)<=big then sO (.str s.data.toList) else nO
 |.pointer nO=>sO .nilptr
 |.slice nO 0 0=>sO .nilsl
 |.map nO=>sO .nilmap
 |.nilFunc=>sO .nilfn
 |.nilIface=>sO .niliface
 |_=>nO
def ZbY:List Value->Option (List D)
 | []=>sO []
 |v::vs=>match Zny v,ZbY vs with
  |some d,sO ds=>sO (d::ds)
  |_,_=>nO
def Znz:Value->Option D
 |.agg cs=>(ZbY cs.toList).map .agg
 |v=>Zny v
def Z6:Operand->Option Opd
 |.tmp t=>sO (.tmp t)
 |.const v=>(Znz v).map .cst
 |.func f=>sO (.cst (.fn (.func f) [] []))
 |.global n=>sO (.cst (match Zo5.tab n with
  |some cs=>.ep cs 0
  |none=>.any))
def Zc0:List Operand->Option (List Opd)
 | []=>sO []
 |x::xs=>match Z6 x,Zc0 xs with
  |some y,sO ys=>sO (y::ys)
  |_,_=>nO
inductive Zjm where
 |bool|sl|map|fn|ifc|ptr
 |cells (l:List (Nat×SK))
inductive Cv where
 |int (k:IntKind)|str|i2s|b2s
inductive Q where
 |mv|nilck|load1|loadN (n:Nat)
 |bin (op:BinOp) (p:Option Zjm)
 |not|neg|xorm
 |conv (c:Cv)
 |faddr (off:Nat)
 |fld1 (off:Nat)|fldN (off n:Nat)
 |iaddr (s:Nat)|iaddrA (m s:Nat)
 |idxA (m s:Nat) (one:Bool)
 |sliceA (m s:Nat) (lo hi mx:Bool)
 |idxS
 |lenS|lenL|lenA (n:Nat)
 |ext (k:Nat)
 |build (zero:List D) (parts:List (Nat×Nat))
 |mkfn (f:Fn) (first:Nat)
 |mkif (t:TypeId)
 |sliceS (lo hi:Bool)
 |slice (s:Nat) (lo hi mx:Bool)
 |min|max
 |tassert (t:TypeId) (ok:Bool) (zero:D)
 |lookup (kp:KP) (zero:D) (ok:Bool)
 |lenM
def cellsOf:D->List D
 |.agg cs=>cs
 |d=>[d]
def Qb:D->Bool
 |.tup _|.undef|.any=>false
 |_=>true
def Qy:D->Bool
 |.tup _|.undef|.agg _|.any=>false
 |_=>true
def JK(kp:KP)(k:D):Bool:=(K6 kp k k).isSome
def ZeO(kp:KP)(k:D):List (D×D)->Option (Option D)
 | []=>sO nO
 |e::r=>match K6 kp k e.1 with
  |some true=>sO (sO e.2)
  |some false=>ZeO kp k r
  |none=>nO
def ZbD(kp:KP)(k v:D):List (D×D)->Option (List (D×D))
 | []=>sO [(k,v)]
 |e::r=>match K6 kp k e.1 with
  |some true=>sO ((k,v)::r)
  |some false=>(ZbD kp k v r).map (e::·)
  |none=>nO
def ZmJ(kp:KP)(k:D):List (D×D)->Option (List (D×D))
 | []=>sO []
 |e::r=>match K6 kp k e.1 with
  |some true=>sO r
  |some false=>(ZmJ kp k r).map (e::·)
  |none=>nO
def WU(z:D)(ok:Bool):Option D->D
 |some v=>if ok then .tup [v,.bool true] else v
 |none=>if ok then .tup [z,.bool false] else z
def Y3:Zjm->D->D->Option (Prop×Bool)
 |.bool,.bool a,.bool b=>sO (True,dC (a=b))
 |.sl,.nilsl,.nilsl=>sO (True,true)
 |.sl,.sl _ n _ _,.nilsl=>sO (0<n,false)
 |.map,.nilmap,.nilmap=>sO (True,true)
 |.map,.map _,.nilmap=>sO (True,false)
 |.sl,.msl _ _ _ _ _,.nilsl=>sO (True,false)
 |.fn,.nilfn,.nilfn=>sO (True,true)
 |.fn,.fn _ _ _,.nilfn=>sO (True,false)
 |.ifc,.niliface,.niliface=>sO (True,true)
 |.ifc,.iface _ _,.niliface=>sO (True,false)
 |.ptr,.nilptr,.nilptr=>sO (True,true)
 |.ptr,.ptr _ _,.nilptr=>sO (True,false)
 |.ptr,.ep _ _,.nilptr=>sO (True,false)
 |.cells l,.agg xs,.agg ys=>(Kk xs ys l).map (True,·)
 |_,_,_=>nO
def Qp(op:BinOp)(k:IntKind)(x y:Int):Int :=
 let a:=BitVec.ofInt k.bits x;let b:=BitVec.ofInt k.bits y;let r:BitVec k.bits:=match op with
  |.and=>a &&& b
  |.or=>a |||b
  |.xor=>a ^^^ b
  |_=>a &&& ~~~b
 k.wrap r.toNat
def QQ(k:IntKind)(x y:Int):Int:=x*2 ^ (Nat.min y.toNat k.bits)
def WL(k:IntKind)(x y:Int):Int:=x.fdiv (2 ^ (Nat.min y.toNat k.bits))
def JY(op:BinOp)(k:IntKind)(a b:Int):Option (Prop×D) :=
 match op with
 |.add=>sO (inR k (a+b),.int k (a+b))
 |.sub=>sO (inR k (a-b),.int k (a-b))
 |.mul=>sO (inR k (a*b),.int k (a*b))
 |.quo=>sO (b≠0/\inR k (a.tdiv b),.int k (a.tdiv b))
 |.rem=>sO (b≠0/\inR k (a.tmod b),.int k (a.tmod b))
 |.and|.or|.xor|.andNot=>sO (True,.int k (Qp op k a b))
 |.eql=>sO (True,.bool (dC (a=b)))
 |.neq=>sO (True,.bool (!dC (a=b)))
 |.lss=>sO (True,.bool (dC (a<b)))
 |.leq=>sO (True,.bool (dC (a<=b)))
 |.gtr=>sO (True,.bool (dC (b<a)))
 |.geq=>sO (True,.bool (dC (b<=a)))
 |.shl|.shr=>nO
def Zfm(op:BinOp)(a b:List UInt8):Option (Prop×D) :=
 match op with
 |.add=>sO (I a+I b<=big,.str (a++b))
 |.eql=>sO (True,.bool (dC (a=b)))
 |.neq=>sO (True,.bool (!dC (a=b)))
 |.lss=>sO (True,.bool (Op.bytesLess a b))
 |.leq=>sO (True,.bool (Op.bytesLess a b ||decide (a=b)))
 |.gtr=>sO (True,.bool !(Op.bytesLess a b ||decide (a=b)))
 |.geq=>sO (True,.bool (!Op.bytesLess a b))
 |_=>nO
def eqO(op:BinOp)(p:Option Zjm)(x y:D):Option (Prop×D) :=
 match op,p with
 |.eql,sO p=>(Y3 p x y).map λr=>(r.1,.bool r.2)
 |.neq,sO p=>(Y3 p x y).map λr=>(r.1,.bool (!r.2))
 |_,_=>nO
def ZcZ(op:BinOp)(p:Option Zjm):D->D->Option (Prop×D)
 |.int k a,.int k' b =>
  match op with
  |.shl=>sO (0<=b/\inR k (QQ k a b),.int k (QQ k a b))
  |.shr=>sO (0<=b/\inR k (WL k a b),.int k (WL k a b))
  |_=>if k=k' then JY op k a b else nO
 |.str a,.str b=>Zfm op a b
 |x,y=>eqO op p x y
def part(cs:List D)(o n:Nat):List D:=(cs.drop o).take n
def Yq(s:St)(b:Nat):Option (List D) :=
 match s b with
 |some (.cells cs)=>sO cs
 |_=>nO
def J7(s:St)(b:Nat):Option (List (D×D)) :=
 match s b with
 |some (.map es)=>sO es
 |_=>nO
def Kj(L:Loc)(s:St):E->Option D
 |.d (.ep cs o)=>cs[o]?
 |.d (.ptr b o)=>match Yq s b with
  |some cs=>cs[o]?
  |none=>nO
 |.loc l o=>match Zq L l with
  |some cs=>cs[o]?
  |none=>nO
 |_=>nO
def QE(L:Loc)(s:St)(n:Nat):E->Option (Prop×List D)
 |.d (.ep cs o)=>sO (o+n<=I cs,part cs o n)
 |.d (.ptr b o)=>match Yq s b with
  |some cs=>sO (o+n<=I cs,part cs o n)
  |none=>nO
 |.loc l o=>match Zq L l with
  |some cs=>sO (o+n<=I cs,part cs o n)
  |none=>nO
 |_=>nO
def ZF(cs:List D)(o:Nat)(vs:List D):List D:=cs.take o++vs++cs.drop (o+I vs)
def ZdZ(cells:List D):List (Nat×Nat)->List D->Option (List D)
 | [],[]=>sO cells
 | (o,n)::ps,d::ds=>if Qb d=true/\(cellsOf d).length=n/\o+n<=I cells then ZdZ (ZF cells o (cellsOf d)) ps ds else nO
 |_,_=>nO
def ZcB:List D->UInt8
 | [.int _ n]=>UInt8.ofNat n.toNat
 |_=>0
def ZmY(r:List D):Prop:=∃n:Int,r=[.int .u8 n]
def KA:List E->Option (List D)
 | []=>sO []
 |.d x::r=>(KA r).map (x::·)
 |_::_=>nO
def Zd6(t:Tok)(n:Nat)(l h:Int):Option Int->Tok
 |some m=>if m=h then .full else .none
 |none=>if h=n then (match t with
  |.full=>.full
  |.tip b=>if l=0 then .tip b else .none
  |.none=>.none) else .none
def ZfR(s:Nat)(lo hi mx:Option Int):D->Option (Prop×D)
 |.sl t n s' row =>
  if s'=s then
   let h:=hi.getD n;let l:=lo.getD 0
   sO (0<=l/\l<=h/\h<=n/\(∀m∈mx,h<=m/\m<=n),
    .sl (Zd6 t n l h mx)
     (h-l).toNat s (λi=>row (l.toNat+i)))
  else nO
 |.nilsl=>sO (lo.getD 0=0/\hi.getD 0=0/\mx.getD 0=0,.nilsl)
 |.msl b o n cap s' =>
  if s'=s then
   let h:=hi.getD n;let l:=lo.getD 0;let m:=mx.getD cap
   sO (0<=l/\l<=h/\h<=m/\m<=cap,.msl b (if m=l then o else o+l.toNat*s) (h-l).toNat (m-l).toNat s)
  else nO
 |_=>nO
def K2:List Bool->List E->Option (List (Option Int))
 | [],[]=>sO []
 |true::bs,.d (.int _ n)::r=>(K2 bs r).map (sO n::·)
 |false::bs,r=>(K2 bs r).map (nO::·)
 |_,_=>nO
def qv(L:Loc)(s:St):Q->List E->Option (Prop×E)
 |.mv,[e]=>sO (True,e)
 |.nilck,[.loc l o]=>sO (True,.loc l o)
 |.nilck,[.d (.ep cs o)]=>sO (True,.d (.ep cs o))
 |.nilck,[.d (.ptr b o)]=>sO (True,.d (.ptr b o))
 |.nilck,[.d (.fn f x y)]=>match f with
  |.func g=>sO (True,.d (.fn (.func g) x y))
  |.yield l=>sO (True,.d (.fn (.yield l) x y))
  |_=>nO
 |.load1,[a]=>(Kj L s a).map λd=>(True,.d d)
 |.loadN n,[a]=>(QE L s n a).map λr=>(r.1,.d (.agg r.2))
 |.bin op p,[.d x,.d y]=>(ZcZ op p x y).map λr=>(r.1,.d r.2)
 |.not,[.d (.bool b)]=>sO (True,.d (.bool !b))
 |.neg,[.d (.int k n)]=>sO (inR k (-n),.d (.int k (-n)))
 |.xorm,[.d (.int k n)]=>sO (True,.d (.int k (Qp .xor k (if k.signed then -1 else k.max) n)))
 |.conv (.int k),[.d (.int k' n)]=>if k=k' then sO (True,.d (.int k n)) else sO (True,.d (.int k (k.wrap n)))
 |.conv .str,[.d (.str s)]=>sO (True,.d (.str s))
 |.conv .i2s,[.d (.int _ n)]=>sO ((Utf8.encode n).data.toList.length<=big,.d (.str (Utf8.encode n).data.toList))
 |.conv .b2s,[.d .nilsl]=>sO (True,.d (.str []))
 |.conv .b2s,[.d (.sl _ n s row)]=>if s=1 then sO (∀i,i<n->ZmY (row i),.d (.str ((ZH5 n).map λi=>ZcB (row i)))) else nO
 |.conv .b2s,[.d (.msl b o n _ z)]=>match Yq s b with
  |some cs=>if z=1 then sO (o+n<=I cs/\∀i,i<n->ZmY (part cs (o+i) 1),.d (.str ((ZH5 n).map λi=>ZcB (part cs (o+i) 1)))) else nO
  |none=>nO
 |.faddr off,[.d (.ep cs o)]=>sO (True,.d (.ep cs (o+off)))
 |.faddr off,[.d (.ptr b o)]=>sO (True,.d (.ptr b (o+off)))
 |.faddr off,[.loc l o]=>sO (True,.loc l (o+off))
 |.fld1 off,[.d (.agg cs)]=>(cs[off]?).map λd=>(True,.d d)
 |.fldN off n,[.d (.agg cs)]=>sO (off+n<=I cs,.d (.agg (part cs off n)))
 |.iaddr z,[.d (.sl _ n z' row),.d (.int _ i)]=>if z'=z then sO (0<=i/\i<n,.d (.ep (row i.toNat) 0)) else nO
 |.iaddr z,[.d (.msl b o n _ z'),.d (.int _ i)]=>if z'=z then sO (0<=i/\i<n,.d (.ptr b (o+i.toNat*z))) else nO
 |.iaddrA m z,[.d (.ptr b o),.d (.int _ i)]=>sO (0<=i/\i<m,.d (.ptr b (o+i.toNat*z)))
 |.iaddrA m s,[.loc l o,.d (.int _ i)]=>sO (0<=i/\i<m,.loc l (o+i.toNat*s))
 |.iaddrA m s,[.d (.ep cs o),.d (.int _ i)]=>sO (0<=i/\i<m,.d (.ep cs (o+i.toNat*s)))
 |.idxA m z true,[.d (.agg cs),.d (.int _ i)]=>(cs[i.toNat*z]?).map λd=>(0<=i/\i<m,.d d)
 |.idxA m z false,[.d (.agg cs),.d (.int _ i)]=>sO (0<=i/\i<m/\i.toNat*z+z<=I cs,.d (.agg (part cs (i.toNat*z) z)))
 |.sliceA m z lo hi mx,.d (.ptr b o)::r=>match K2 [lo,hi,mx] r with
  |some [l,h,x]=>sO (0<=l.getD 0/\l.getD 0<=h.getD m/\h.getD m<=x.getD m/\x.getD m<=m/\m<=big,
    .d (.msl b (if x.getD m=l.getD 0 then o else o+(l.getD 0).toNat*z) (h.getD m-l.getD 0).toNat (x.getD m-l.getD 0).toNat z))
  |_=>nO
 |.idxS,[.d (.str s),.d (.int _ i)]=>sO (0<=i/\i<I s,.d (.int .u8 ((s.getD i.toNat 0).toNat:Int)))
 |.lenS,[.d (.str s)]=>sO (True,.d (.i (I s)))
 |.lenL,[.d (.sl _ n _ _)]=>sO (True,.d (.i n))
 |.lenL,[.d (.msl _ _ n _ _)]=>sO (True,.d (.i n))
 |.lenL,[.d .nilsl]=>sO (True,.d (.i 0))
 |.lenA n,[_]=>sO (inR .i64 n,.d (.i n))
 |.ext k,[.d (.tup vs)]=>(vs[k]?).map λd=>(True,.d d)
 |.build zero parts,es=>match KA es with
  |some ds=>(ZdZ zero parts ds).map λcs=>(True,.d (.agg cs))
  |none=>nO
 |.mkfn f k,es=>(KA es).map λds=>(True,.d (.fn f (ds.take k) (ds.drop k)))
 |.mkif t,[.d x]=>sO (True,.d (.iface t x))
 |.sliceS lo hi,.d (.str s)::r=>match K2 [lo,hi,false] r with
  |some [l,h,_]=>sO (0<=l.getD 0/\l.getD 0<=h.getD (I s)/\h.getD (I s)<=I s,
    .d (.str ((s.drop (l.getD 0).toNat).take ((h.getD (I s)).toNat-(l.getD 0).toNat))))
  |_=>nO
 |.slice s lo hi mx,.d x::r=>match K2 [lo,hi,mx] r with
  |some [l,h,m]=>(ZfR s l h m x).map λr=>(r.1,.d r.2)
  |_=>nO
 |.min,[.d (.int k a),.d (.int k' b)]=>if k=k' then sO (True,.d (.int k (Min.min a b))) else nO
 |.max,[.d (.int k a),.d (.int k' b)]=>if k=k' then sO (True,.d (.int k (Max.max a b))) else nO
 |.tassert t true _,[.d (.iface t' v)]=>if t'=t then sO (True,.d (.tup [v,.bool true])) else nO
 |.lookup kp z ok,[.d (.map b),.d k]=>match J7 s b with
  |some es=>(ZeO kp k es).map λr=>(JK kp k=true,.d (WU z ok r))
  |none=>nO
 |.lookup kp z ok,[.d .nilmap,.d k]=>sO (JK kp k=true,.d (WU z ok nO))
 |.lenM,[.d (.map b)]=>match J7 s b with
  |some es=>sO (I es<=big,.d (.i (I es)))
  |none=>nO
 |.lenM,[.d .nilmap]=>sO (True,.d (.i 0))
 |.tassert _ true zero,[.d .niliface]=>sO (True,.d (.tup [zero,.bool false]))
 |.tassert t false _,[.d (.iface t' v)]=>if t'=t then sO (True,.d v) else nO
 |_,_=>nO
inductive K where
 |q (q:Q) (args:List Opd)
 |pick (c a b:Opd)
 |alloc (zero:List D)
 |box (x:Opd)
 |bsl (len s:Nat) (zero:List D) (idx:List Nat) (parts:List Opd)
 |s2b (x:Opd)
 |store1 (a v:Opd)
 |storeN (n:Nat) (a v:Opd)
 |call (f:Opd) (args:List Opd)
 |append (elem:TypeId) (s bytes:Nat) (zero:List D) (x y:Opd)
 |mkmap
 |mapupd (kp:KP) (m k v:Opd)
 |mapent (kp:KP) (zero:D) (m k:Opd)
 |entst (m st v:Opd)
 |mkslice (elem:TypeId) (s bytes:Nat) (zero:List D) (l c:Opd)
 |panic (x:Opd)
 |delete (kp:KP) (m k:Opd)
 |clear (s:Nat) (zero:List D) (x:Opd)
 |copy (s:Nat) (x y:Opd)
 |fork (k:K)
 |defer (f:Opd) (args:List Opd)
 |recover
def K.isDefer:K->Bool
 |.defer _ _=>true
 |_=>false
structure DOp where
 dst:Option Nat
 guard:Option (Nat×Bool)
 k:K
inductive DC where
 |skip
 |reg (ops:List DOp) (keep:Option (List Nat))
 |regD (order:List Nat) (ops:List (DOp×List Nat)) (keep:Option (List Nat))
 |seq (a b:DC)
 |cond (c:Opd) (a b:DC)
 |block (id:Nat) (a:DC)
 |loop (a:DC)
 |rangeF (f:Opd) (params:List Nat) (assign body:DC)
 |exit (id:Nat)
 |ret
 |scope (a:DC)
 |label (id:Nat)
 |goto (id:Nat)
def QH(P:Program)(t:TypeId):Option SK :=
 match P.underlying t with
 |some .bool=>sO .bool
 |some (.int _)=>sO .int
 |some .string=>sO .str
 |_=>nO
def KU(P:Program):List Field->Option (List (Nat×SK))
 | []=>sO []
 |f::r=>if f.name = "_" then KU P r else
  match QH P f.type,KU P r with
  |some k,sO l=>sO ((f.offset,k)::l)
  |_,_=>nO
def ZaD(P:Program)(t:TypeId):Option Bool :=
 match P.underlying t with
 |some (.struct _)|some (.array _ _)=>sO true
 |some _=>sO false
 |none=>nO
def ZX(P:Program)(t:TypeId):Option Nat:=(P.info? t).map (·.size)
def Zfb:Operand->Bool
 |.const _=>true
 |_=>false
def Zel(P:Program)(t:TypeId)(x y:Operand):Option Zjm :=
 match P.underlying t with
 |some .bool=>sO .bool
 |some (.slice _)=>sO .sl
 |some (.map _ _)=>sO .map
 |some (.func _ _ _)=>sO .fn
 |some (.interface _)=>if Zfb x ||Zfb y then sO .ifc else nO
 |some (.pointer _)=>sO .ptr
 |some (.struct fs)=>if P.eqGuardType P.depth t ||P.stoodInHeld t then nO else (KU P fs.toList).map .cells
 |some (.array n e) =>
  if P.eqGuardType P.depth t then nO
  else match QH P e,ZX P e with
   |some k,sO 1=>sO (.cells ((ZH5 n).map (·,k)))
   |_,_=>nO
 |_=>nO
def Zht(P:Program)(s:TypeId)(k:Nat):Option Field :=
 match P.underlying s with
 |some (.struct fs)=>fs[k]?
 |_=>nO
def ZaL(P:Program)(t:TypeId):Option (List D) :=
 match P.info? t with
 |some i=>match i.zero with
  |some z=>ZbY z.cells.toList
  |none=>nO
 |none=>nO
def Zd7(P:Program)(t:TypeId):Option D :=
 match P.info? t with
 |some i=>match i.zero with
  |some z=>Znz z
  |none=>nO
 |none=>nO
def QF(P:Program)(t:TypeId):List Nat->Option (List (Nat×Nat))
 | []=>sO []
 |k::r =>
  match P.underlying t,QF P t r with
  |some (.struct fs),sO l=>match fs[k]? with
   |some f=>(ZX P f.type).map λn=>(f.offset,n)::l
   |none=>nO
  |some (.array _ e),sO l=>(ZX P e).map λn=>(k*n,n)::l
  |_,_=>nO
def ZkA(P:Program)(t:TypeId):Bool :=
 match P.underlying t with
 |some (.struct fs)=>fs.toList.all λf=>(ZX P f.type).isSome
 |some (.array _ e)=>(ZX P e).isSome
 |_=>false
def Zvs(P:Program)(s d:TypeId):Option Cv :=
 match P.underlying s,P.underlying d with
 |some (.int _),sO (.int k)=>sO (.int k)
 |some (.int _),sO .string=>sO .i2s
 |some .string,sO .string=>sO .str
 |some (.slice e),sO .string=>match P.underlying e with
  |some (.int .u8)=>sO .b2s
  |_=>nO
 |_,_=>nO
def ZaH(P:Program)(t:TypeId):Option KP :=
 match QH P t with
 |some k=>sO (.sc k)
 |none=>match P.underlying t,ZX P t with
  |some (.struct fs),sO n=>match KU P fs.toList with
   |some l=>if l.map (·.1)=ZH5 n/\P.stoodInHeld t=false then sO (.st l) else nO
   |none=>nO
  |_,_=>nO
def Jf(x:Option Operand):List Operand:=x.toList
def cq(P:Program):Op->Option (Q×List Operand)
 |.move x|.assign x=>sO (.mv,[x])
 |.load t a=>match ZaD P t,ZX P t with
  |some true,sO n=>sO (.loadN n,[a])
  |some false,sO _=>sO (.load1,[a])
  |_,_=>nO
 |.nilCheck x=>sO (.nilck,[x])
 |.binOp op t x y _=>sO (.bin op (Zel P t x y),[x,y])
 |.unOp .not _ x=>sO (.not,[x])
 |.unOp .neg _ x=>sO (.neg,[x])
 |.unOp .xor _ x=>sO (.xorm,[x])
 |.convert s d x=>(Zvs P s d).map λc=>(.conv c,[x])
 |.fieldAddr s x k=>match Zht P s k with
  |some f=>match ZX P f.type with
   |some n=>if n=0 then nO else sO (.faddr f.offset,[x])
   |none=>nO
  |none=>nO
 |.field s x k=>match Zht P s k with
  |some f=>match ZaD P f.type,ZX P f.type with
   |some true,sO n=>sO (.fldN f.offset n,[x])
   |some false,sO _=>sO (.fld1 f.offset,[x])
   |_,_=>nO
  |none=>nO
 |.indexAddr t x i=>match P.underlying t with
  |some (.slice e)=>(ZX P e).map λn=>(.iaddr n,[x,i])
  |some (.array m e)=>(ZX P e).map λn=>(.iaddrA m n,[x,i])
  |_=>nO
 |.index t x i=>match P.underlying t with
  |some .string=>sO (.idxS,[x,i])
  |some (.array m e)=>match ZaD P e,ZX P e with
   |some b,sO n=>sO (.idxA m n !b,[x,i])
   |_,_=>nO
  |_=>nO
 |.extract x k=>sO (.ext k,[x])
 |.build t parts=>match (P.info? t).bind (·.zero),QF P t (parts.toList.map (·.1)) with
  |some z,sO l=>if ZkA P t then (ZbY z.cells.toList).map λzs=>(.build zs l,parts.toList.map (·.2)) else nO
  |_,_=>nO
 |.makeFunc f first caps=>sO (.mkfn f first.size,first.toList++caps.toList)
 |.makeInterface t x=>match P.underlying t with
  |some (.interface _)=>nO
  |some _=>sO (.mkif t,[x])
  |none=>nO
 |.slice t x lo hi mx=>match P.underlying t with
  |some .string=>if mx.isSome then nO else sO (.sliceS lo.isSome hi.isSome,x::(Jf lo++Jf hi))
  |some (.slice e)=>if mx.isSome&&!hi.isSome then nO else (ZX P e).map λn=>(.slice n lo.isSome hi.isSome mx.isSome,x::(Jf lo++Jf hi++Jf mx))
  |some (.array m e)=>if mx.isSome&&!hi.isSome then nO else (ZX P e).map λn=>(.sliceA m n lo.isSome hi.isSome mx.isSome,x::(Jf lo++Jf hi++Jf mx))
  |_=>nO
 |.typeAssert x _ t ok=>match P.underlying t with
  |some (.interface _)=>nO
  |some _=>(Zd7 P t).map λz=>(.tassert t ok z,[x])
  |none=>nO
 |.lookup t m k ok=>match P.underlying t with
  |some (.map kt e)=>match ZaH P kt,Zd7 P e with
   |some kp,sO z=>sO (.lookup kp z ok,[m,k])
   |_,_=>nO
  |_=>nO
 |.call c=>match c.callee with
  |.builtin .len=>match c.argTypes[0]?.bind P.underlying with
   |some .string=>if c.args.size=1 then sO (.lenS,c.args.toList) else nO
   |some (.slice _)=>if c.args.size=1 then sO (.lenL,c.args.toList) else nO
   |some (.array n _)=>if c.args.size=1 then sO (.lenA n,c.args.toList) else nO
   |some (.map _ _)=>if c.args.size=1 then sO (.lenM,c.args.toList) else nO
   |_=>nO
  |.builtin .min=>if c.args.size=2 then sO (.min,c.args.toList) else nO
  |.builtin .max=>if c.args.size=2 then sO (.max,c.args.toList) else nO
  |_=>nO
 |_=>nO
inductive ZN{α β:Type}(R:α->β->Prop):List α->List β->Prop where
 |nil:ZN R [] []
 |cons {a b as9 bs} (h:R a b) (t:ZN R as9 bs):ZN R (a::as9) (b::bs)
def ZhS{k n}:inR k (k.wrap n):=by
 unfold inR IntKind.wrap IntKind.min IntKind.max;cases k<;>simp[IntKind.signed,IntKind.bits]<;>(try split)<;>omega
def Zav(k n)(h:inR k n):k.wrap n=n:=by
 unfold inR IntKind.min IntKind.max at h;unfold IntKind.wrap;cases k<;>simp[IntKind.signed,IntKind.bits]at h⊢<;>(try split)<;>omega
def Kz(b o n):(⟨b,o,nO⟩:Addr).add n=⟨b,o+n,nO⟩:=by grind [Addr.add]
def Zgd{P t}(h:ZaD P t=sO true)(w):(isAgg t).run P w=.ok true w:=by
 unfold ZaD at h;unfold isAgg;split at h<;>simp_all[run_underlying]
def ZeM{P t}(h:ZaD P t=sO false)(w):(isAgg t).run P w=.ok false w:=by
 unfold ZaD at h;unfold isAgg;split at h;simp at h;simp at h;rename_i d h1 h2 i;simp only[Sem.run_bind,run_underlying i,Result.andThen_ok];simp_all;simp at h
def YV{P t n}(h:ZX P t=sO n)(w):(sizeOf t).run P w=.ok n w:=by
 unfold ZX at h;cases o:P.info? t with
 |none=>simp[o]at h
 |some i =>simp_all[o,sizeOf,typeInfo]
def QW{g w s}(i:Ym g s w){b cs}(h:Yq s b=sO cs):YI g w b cs:=by
 unfold Yq at h;split at h<;>simp at h;rename_i c o;subst h;exact i.obj b _ o
def Znq{g Z w L}(hL:∀l u,Zq L l=sO u->YI g w (Z l) u){s}(hS:Ym g s w){v e d}(h:ZM g Z w L v e)(t:Kj L s e=sO d):∃b o x,v=.pointer (sO ⟨b,o,nO⟩)/\w.cell? ⟨b,o,nO⟩=sO x/\Rep g w x d/\x.one1=true:=by
 cases e with
 |d v' =>
  cases v'<;>simp only[Kj]at t<;>try(simp at t;done)
  .rename_i u o;cases h with
   |ep b o0 _ _ f h1 h2 h3 one =>have r:o<I u:=(List.getElem?_eq_some_iff.1 t).1;exact⟨b,o0+o,f o,rfl,h1 o r,h3 o d t,one o r⟩
  rename_i b o;split at t<;>(try(simp at t;done));rename_i u i;obtain⟨_,vs,T,h1,h2,h4,h5⟩:=QW hS i;cases h;have r:o<I u:=(List.getElem?_eq_some_iff.1 t).1;have hv:vs[o]?=sO (vs[o]' ω):=Array.getElem?_eq_getElem ω;refine⟨b,o,vs[o]' ω,rfl,?_,h4 o _ d hv t,h5 _ (Array.getElem_mem _)⟩;simp[World.cell?,h1,hv]
 |loc l o =>obtain⟨⟨u,i⟩,rfl⟩:=h;simp only[Kj,i]at t;obtain⟨_,vs,T,h1,h2,h4,h5⟩:=hL l u i;have r:o<I u:=(List.getElem?_eq_some_iff.1 t).1;have hv:vs[o]?=sO (vs[o]' ω):=Array.getElem?_eq_getElem ω;refine⟨Z l,o,vs[o]' ω,rfl,?_,h4 o _ d hv t,h5 _ (Array.getElem_mem _)⟩;simp[World.cell?,h1,hv]
 |when c e=>simp[Kj]at t
def ZfJ{P g w b o n cs}(h:YI g w b cs)(hs:o+n<=I cs):
  ∃u:List Value,(loadCells ⟨b,o,nO⟩ n).run P w=.ok u.toArray w/\Rep g w (.agg u.toArray) (.agg (part cs o n)):=by
 obtain⟨_,u,T,h1,h2,h4,h5⟩:=h;refine⟨(u.toList.drop o).take n,?_,?_⟩;have:=run_loadCells (P:=P) (w:=w) ⟨b,o,nO⟩ n (λi=>u.getD (o+i) undef) (λj hj=>by
  rw[Kz];simp[World.cell?,h1];have t:o+j<u.size:=ω;simp[t])
 rw[this];congr 1;apply Array.ext_getElem?;intro i;simp[List.getElem?_toArray,ZIv,Array.getElem?_toList];by_cases r:i<n;have:o+i<u.size:=ω;simp[r,this];simp[r];refine .agg _ _ (by simp[part];omega) (λi v d hv hd=>?_) (λv hv=>?_);have hi:i<n:=by rcases Nat.lt_or_ge i n with h|h;exact h;grind
 simp[hi,part]at hv hd;exact h4 _ _ _ hv hd;exact h5 v (by
  have:=List.mem_of_mem_drop (List.mem_of_mem_take hv);exact Array.mem_toList_iff.1 this)
def Zoc{P g Z w L}(hL:∀l u,Zq L l=sO u->YI g w (Z l) u){s}(hS:Ym g s w){v e n side ds}(h:ZM g Z w L v e)(t:QE L s n e=sO (side,ds))(hs:side):
  ∃a,v=.pointer (sO a)/\∃vs:List Value,(loadCells a n).run P w=.ok vs.toArray w/\Rep g w (.agg vs.toArray) (.agg ds):=by
 cases e with
 |d v' =>
  cases v'<;>simp only[QE]at t<;>try(grind;done)
  .rename_i u o;cases t;cases h with
   |ep b o0 _ _ f h1 h2 h3 one =>
    refine⟨_,rfl,(ZH5 n).map (λi=>f (o+i)),?_,?_⟩;have:=run_loadCells (P:=P) (w:=w) ⟨b,o0+o,nO⟩ n (λi=>f (o+i)) (λj hj=>by
     rw[Kz,Nat.add_assoc];exact h1 _ ω)
    rw[this];refine .agg _ _ (by simp[part];omega) (λi v d hv hd=>?_) (λv hv=>?_);simp at hv;have hi:i<n:=by rcases Nat.lt_or_ge i n with h|h;exact h;simp_all
    simp[List.getElem?_range hi]at hv;subst hv;refine h3 _ _ ?_;simpa[part,ZIv,hi]using hd;simp at hv;obtain⟨i,hi,rfl⟩:=hv;exact one _ ω
  rename_i b o;split at t<;>(try(grind;done));rename_i u r;cases t;cases h;obtain⟨vs,h1,h2⟩:=ZfJ (P:=P) (QW hS r) hs;exact⟨_,rfl,vs,h1,h2⟩
 |loc l o =>obtain⟨⟨u,r⟩,rfl⟩:=h;simp only[QE,r]at t;obtain⟨rfl,rfl⟩:=t;obtain⟨vs,h1,h2⟩:=ZfJ (P:=P) (hL l u r) hs;exact⟨_,rfl,vs,h1,h2⟩
 |when c e=>cases t
def Q7{n}(h:n<=big):inR .i64 (n:Int):=by
 unfold big at h;unfold inR IntKind.min IntKind.max;simp[IntKind.signed,IntKind.bits];omega
def Zsz(b:UInt8):inR .u8 (b.toNat:Int):=by
 unfold inR IntKind.min IntKind.max;simp[IntKind.signed,IntKind.bits];have:=b.toNat_lt;omega
def Zz2{P g w op k a b side d}(o:JY op k a b=sO (side,d))(i:side):
  ∃v,(match op with
   |.add|.sub|.mul=>Op.intArith op k a b
   |.quo|.rem=>Op.intDiv op k a b
   |.and|.or|.xor|.andNot=>Op.intBits op k a b
   |_=>Op.intCmp op a b).run P w=.ok v w/\Rep g w v d:=by
 cases op<;>simp only[JY,ZHQ,ZH2,reduceCtorEq]at o;all_goals obtain⟨rfl,rfl⟩:=o
 case add=>exact⟨_,by simp only[Op.intArith,Sem.run_pure];rfl,by rw[Zav _ _ i];exact .int _ _ i⟩
 case sub=>exact⟨_,by simp only[Op.intArith,Sem.run_pure];rfl,by rw[Zav _ _ i];exact .int _ _ i⟩
 case mul=>exact⟨_,by simp only[Op.intArith,Sem.run_pure];rfl,by rw[Zav _ _ i];exact .int _ _ i⟩
 case quo=>exact⟨_,by simp only[Op.intDiv,i.1,if_false,Sem.run_pure];rfl,by rw[Zav _ _ i.2];exact .int _ _ i.2⟩
 case rem=>exact⟨_,by simp only[Op.intDiv,i.1,if_false,Sem.run_pure],.int _ _ i.2⟩
 case eql=>exact⟨_,by simp only[Op.intCmp,Sem.run_pure];rfl,.bool _⟩
 case neq=>exact⟨_,by simp only[Op.intCmp,Sem.run_pure];rfl,.bool _⟩
 case lss=>exact⟨_,by simp only[Op.intCmp,Sem.run_pure],.bool _⟩
 case leq=>exact⟨_,by simp only[Op.intCmp,Sem.run_pure],.bool _⟩
 case gtr=>exact⟨_,by simp only[Op.intCmp,Sem.run_pure],.bool _⟩
 case geq=>exact⟨_,by simp only[Op.intCmp,Sem.run_pure],.bool _⟩
 all_goals exact⟨_,by simp only[Op.intBits,Sem.run_pure];rfl,.int _ _ ZhS⟩
def ZdR{s:ByteArray}{l}(h:s.data.toList=l):s.toList=l:=by rw[ByteArray.toList_eq,h]
def Zz3{P g w op s1 s2 a b}(r:s1.data.toList=a)(t:s2.data.toList=b){side d}(u:Zfm op a b=sO (side,d))(hs:side):
  ∃v,(Op.stringOp op s1 s2).run P w=.ok v w/\Rep g w v d:=by
 have e1:=ZdR r;have e2:=ZdR t;cases op<;>simp only[Zfm,ZHQ,ZH2,reduceCtorEq]at u;all_goals obtain⟨rfl,rfl⟩:=u
 case add =>
  have i:s1.size=I a:=by rw[<-r];rfl
  have o:s2.size=I b:=by rw[<-t];rfl
  refine⟨.string (s1++s2),?_,.str _ _ ?_ (by simpa using hs)⟩;unfold big at hs;simp only[Op.stringOp,i,o,Sem.run_ite];rw[if_neg (by simp[IntKind.max,IntKind.signed,IntKind.bits];omega)];rfl;simp[<-r,<-t]
 all_goals simp only[Op.stringOp,Sem.run_pure,e1,e2]
 all_goals have hb:(a==b)=dC (a=b):=by rw[Bool.eq_iff_iff];simp
 all_goals try simp only[hb]
 all_goals exact⟨_,rfl,.bool _⟩
def Zg5{P g w t sk}(r:QH P t=sO sk){v1 v2 x y}(u:Rep g w v1 x)(h2:Rep g w v2 y){b}(o:YT sk x y=sO b)(n):(Op.equalIn (n+1) t v1 v2).run P w=.ok b w:=by
 unfold QH at r;cases sk;obtain⟨k0,i⟩:∃k0,P.underlying t=sO (.int k0):=by split at r<;>simp_all
 cases u<;>cases h2<;>simp only[YT,reduceCtorEq]at o;split at o;rename_i k a ha k' b' hb' hk;simp only[ZHQ]at o;subst o;subst hk;rw[run_equalIn_int w n t _ _ _ _ i];rfl;simp at o;have i:P.underlying t=sO .string:=by split at r<;>simp_all
 cases u<;>cases h2<;>simp only[YT,reduceCtorEq,ZHQ]at o;rename_i s1 l1 e1 _ s2 l2 e2 _;subst o;rw[run_equalIn_string w n t _ _ i,ZdR e1,ZdR e2]
 congr 1;rw[Bool.eq_iff_iff];simp
 have i:P.underlying t=sO .bool:=by split at r<;>simp_all
 cases u<;>cases h2<;>simp only[YT,reduceCtorEq,ZHQ]at o;subst o;rw[run_equalIn_bool' w n t _ _ i];rfl
def Zb7{P t k}(h:QH P t=sO k):ZaD P t=sO false:=by
 unfold QH at h;unfold ZaD;split at h<;>simp_all
def ZdK{P w t}(h:ZaD P t=sO false){cs o v}(i:cs[o]?=sO v):
  (Go.part t cs o).run P w=.ok v w:=by
 simp[Go.part,ZeM h,i]
def Zcy{g w}{vs:List Value}(hn:I vs=I ds)(h:∀(i:Nat) (v:Value) (d:D),vs[i]?=sO v->ds[i]?=sO d->Rep g w v d){o:Nat}{d}(r:ds[o]?=sO d):∃v,vs[o]?=sO v/\Rep g w v d:=by
 have hlt:o<I ds:=(List.getElem?_eq_some_iff.1 r).1;exact⟨vs[o]' ω,ZIn _,h o _ d (ZIn _) r⟩
def ZdY{P g w}{v1 v2:List Value}{xs ys}(hn1:I v1=I xs)(hn2:I v2=I ys)
  (h1:∀(i:Nat) (v:Value) (d:D),v1[i]?=sO v->xs[i]?=sO d->Rep g w v d) (h2:∀(i:Nat) (v:Value) (d:D),v2[i]?=sO v->ys[i]?=sO d->Rep g w v d) (n) :
  ∀(fs l b),KU P fs=sO l->Kk xs ys l=sO b ->
   (Op.eqFields (n+1) v1.toArray v2.toArray fs).run P w=.ok b w
 | [],l,b,hl,hb=>by simp only[KU,ZHQ]at hl;subst hl;simp only[Kk,ZHQ]at hb;subst hb;simp[Op.eqFields]
 |f::fs,l,b,hl,hb=>by simp only[KU]at hl;by_cases hf:f.name = "_";simp only[hf,if_true]at hl;have:=ZdY hn1 hn2 h1 h2 n fs l b hl hb;simp only[Op.eqFields,hf,ne_eq,not_true_eq_false,if_false];exact this;simp only[hf,if_false]at hl;split at hl;rename_i k l' hk t;simp only[ZHQ]at hl;subst hl;simp only[Kk]at hb;split at hb;rename_i x y hx hy;split at hb;rename_i b1 b2 o r;simp only[ZHQ]at hb;obtain⟨u1,u,r1⟩:=Zcy hn1 h1 hx;obtain⟨u2,ab,r2⟩:=Zcy hn2 h2 hy;have ih:=ZdY hn1 hn2 h1 h2 n fs l' b2 t r;have he:=Zg5 (P:=P) hk r1 r2 o n;simp only[Op.eqFields,ne_eq,hf,not_false_eq_true,if_true,Sem.run_bind];rw[ZdK (Zb7 hk) (v:=u1) (by simpa using u)];simp only[Result.andThen_ok];rw[ZdK (Zb7 hk) (v:=u2) (by simpa using ab)];simp only[Result.andThen_ok,he];subst hb;cases b1;simp;simpa using ih;simp at hb;simp at hb;simp at hl
def ZnE{P g w}{v1 v2:List Value}{xs ys}(hn1:I v1=I xs)(hn2:I v2=I ys)
  (h1:∀(i:Nat) (v:Value) (d:D),v1[i]?=sO v->xs[i]?=sO d->Rep g w v d) (h2:∀(i:Nat) (v:Value) (d:D),v2[i]?=sO v->ys[i]?=sO d->Rep g w v d) (n)
  {e k} (hk:QH P e=sO k) :
  ∀(is b),Kk xs ys (is.map (·,k))=sO b->(Op.eqItems (n+1) e 1 v1.toArray v2.toArray is).run P w=.ok b w
 | [],b,hb=>by simp only[List.map_nil,Kk,ZHQ]at hb;subst hb;simp[Op.eqItems]
 |i::is,b,hb=>by simp only[ZIo,Kk]at hb;split at hb;rename_i x y hx hy;split at hb;rename_i b1 b2 o r;simp only[ZHQ]at hb;obtain⟨u1,t,r1⟩:=Zcy hn1 h1 hx;obtain⟨u2,u,r2⟩:=Zcy hn2 h2 hy;have ih:=ZnE hn1 hn2 h1 h2 n hk is b2 r;have he:=Zg5 (P:=P) hk r1 r2 o n;simp only[Op.eqItems,Nat.mul_one,Sem.run_bind];rw[ZdK (Zb7 hk) (v:=u1) (by simpa using t)];simp only[Result.andThen_ok];rw[ZdK (Zb7 hk) (v:=u2) (by simpa using u)];simp only[Result.andThen_ok,he];subst hb;cases b1;simp;simpa using ih;simp at hb;simp at hb
def Zcp{P w t i o b}(h:∀n,(Op.equalIn (n+1) t i o).run P w=.ok b w):(Op.equal t i o).run P w=.ok b w:=h 9999
def ZqB{P g w t x y p}(hp:Zel P t x y=sO p){v1 v2 d1 d2}(h1:Rep g w v1 d1)(h2:Rep g w v2 d2){side b}(hq:Y3 p d1 d2=sO (side,b))(hs:side):
  (Op.equal t v1 v2).run P w=.ok b w/\(eqGuard .eql t x y v1 v2).run P w=.ok () w/\(eqGuard .neq t x y v1 v2).run P w=.ok () w:=by
 unfold Zel at hp;split at hp<;>(try(simp at hp;done))
 .
  rename_i hu;simp only[ZHQ]at hp;subst hp;cases h1<;>cases h2<;>simp only[Y3,reduceCtorEq,ZHQ,ZH2]at hq;obtain⟨rfl,rfl⟩:=hq;exact⟨Zcp λn=>by rw[run_equalIn_bool w _ t _ _ hu];rfl,rfl,rfl⟩
 .rename_i e hu;simp only[ZHQ]at hp;subst hp;cases h1<;>cases h2<;>simp only[Y3,reduceCtorEq,ZHQ,ZH2]at hq;all_goals obtain⟨rfl,rfl⟩:=hq
  all_goals first
   |exact absurd hs ω
   |exact⟨Zcp λn=>by simp[Op.equalIn,run_underlying hu],rfl,rfl⟩
 .rename_i k e hu;simp only[ZHQ]at hp;subst hp;cases h1<;>cases h2<;>simp only[Y3,reduceCtorEq,ZHQ,ZH2]at hq;all_goals obtain⟨rfl,rfl⟩:=hq
  all_goals exact⟨Zcp λn=>by simp[Op.equalIn,run_underlying hu],rfl,rfl⟩
 .rename_i a b c hu;simp only[ZHQ]at hp;subst hp;cases h1<;>cases h2<;>simp only[Y3,reduceCtorEq,ZHQ,ZH2]at hq;all_goals obtain⟨rfl,rfl⟩:=hq
  all_goals exact⟨Zcp λn=>by simp[Op.equalIn,run_underlying hu],rfl,rfl⟩
 .rename_i ms hu;split at hp
  .rename_i hc;simp only[ZHQ]at hp;subst hp;have ae:Zfb x=true\/Zfb y=true:=by simpa using hc
   have hg:∀op,(eqGuard op t x y .nilIface .nilIface).run P w=.ok () w:=λop=>by rcases ae with h|h;cases x<;>simp[Zfb]at h;cases op<;>simp[eqGuard];cases y<;>simp[Zfb]at h;cases op<;>simp[eqGuard]
   cases h1<;>cases h2<;>simp only[Y3,reduceCtorEq,ZHQ,ZH2]at hq;all_goals obtain⟨rfl,rfl⟩:=hq
   all_goals first
    |exact⟨Zcp λn=>by simp[Op.equalIn,run_underlying hu],rfl,rfl⟩
    |exact⟨Zcp λn=>by simp[Op.equalIn,run_underlying hu],hg _,hg _⟩
  simp at hp
 .rename_i e hu;simp only[ZHQ]at hp;subst hp;cases h1<;>cases h2<;>simp only[Y3,reduceCtorEq,ZHQ,ZH2]at hq;all_goals obtain⟨rfl,rfl⟩:=hq
  all_goals exact⟨Zcp λn=>by simp[Op.equalIn,run_underlying hu],rfl,rfl⟩
 rename_i fs hu;split at hp;simp at hp;rename_i r;have o:P.eqGuardType P.depth t=false:=by simp at r;exact r.1
 have ag:P.stoodInHeld t=false:=by simp at r;exact r.2
 simp only[ZH8]at hp;obtain⟨l,hl,rfl⟩:=hp;cases h1<;>cases h2<;>simp only[Y3,reduceCtorEq,ZH8]at hq;rename_i v1 xs ac r1 o1 v2 ys ad r2 o2;obtain⟨b',hb,hq⟩:=hq;simp only[ZH2]at hq;obtain⟨rfl,rfl⟩:=hq;have hf:P.underlying t=sO (.struct (P.fieldsOf t)):=by simp[Program.fieldsOf,hu]
 refine⟨?_,run_eqGuard_agg w _ t x y _ _ o,run_eqGuard_agg w _ t x y _ _ o⟩;refine(run_equalIn_struct w 9999 t _ _ hf ag).trans ?_;simp only[Program.fieldsOf,hu];exact ZdY ac ad r1 r2 9998 _ l b' hl hb;rename_i n e hu;split at hp;simp at hp;rename_i o;split at hp
 .rename_i k hk u;simp only[ZHQ]at hp;subst hp;cases h1<;>cases h2<;>simp only[Y3,reduceCtorEq,ZH8]at hq;rename_i v1 xs ac r1 o1 v2 ys ad r2 o2;obtain⟨b',hb,hq⟩:=hq;simp only[ZH2]at hq;obtain⟨rfl,rfl⟩:=hq;have ab:P.eqGuardType P.depth t=false:=by simpa using o
  refine⟨?_,run_eqGuard_agg w _ t x y _ _ ab,run_eqGuard_agg w _ t x y _ _ ab⟩;unfold ZX at u;cases hi:P.info? e with
  |none=>simp[hi]at u
  |some i =>
   simp only[hi,Option.map_some,ZHQ]at u;refine(run_equalIn_array w 9999 _ _ hu hi).trans ?_;have af:P.cellsOf e=1:=by simp[Program.cellsOf,hi,u]
   rw[af];exact ZnE ac ad r1 r2 9998 hk _ _ hb
 simp at hp
def Zz1{P g w op t x y v1 v2 d1 d2 d}(h1:Rep g w v1 d1)(h2:Rep g w v2 d2){side}(hq:ZcZ op (Zel P t x y) d1 d2=sO (side,d))(hs:side):
  ∃v,(do eqGuard op t x y v1 v2;binOp op t v1 v2).run P w=.ok v w/\Rep g w v d:=by
 by_cases hi:∃k a,d1=.int k a
 .obtain⟨k,a,rfl⟩:=hi;cases h1;rename_i ha;have hg:(eqGuard op t x y (.int k a) v2).run P w=.ok () w:=by cases op<;>rfl
  by_cases ac:∃k' b,d2=.int k' b
  .obtain⟨k',b,rfl⟩:=ac;cases h2;rename_i hb;simp only[Sem.run_bind,hg,Result.andThen_ok];by_cases ab:op=.shl\/op=.shr;rcases ab with rfl|rfl;simp only[ZcZ,ZHQ,ZH2]at hq;obtain⟨rfl,rfl⟩:=hq;refine⟨.int k (QQ k a b),?_,.int _ _ hs.2⟩;simp only[binOp,Op.shift,Int.not_lt.2 hs.1,if_false];rw[show k.wrap (a*2 ^ min b.toNat k.bits)=QQ k a b from Zav _ _ hs.2];rfl;simp only[ZcZ,ZHQ,ZH2]at hq;obtain⟨rfl,rfl⟩:=hq;refine⟨.int k (WL k a b),?_,.int _ _ hs.2⟩;simp only[binOp,Op.shift,Int.not_lt.2 hs.1,if_false];rfl;have i:(if k=k' then JY op k a b else nO)=sO (side,d):=by cases op<;>first|(simp only[ZcZ]at hq;exact hq)|simp at ab
   split at i;·rename_i hk;subst hk;obtain⟨v,hv,r⟩:=Zz2 (P:=P) (g:=g) (w:=w) i hs;refine⟨v,?_,r⟩;rw[<-hv];cases op<;>first|(simp at ab;done)|(simp[binOp])
   simp at i
  have i:eqO op (Zel P t x y) (.int k a) d2=sO (side,d):=by cases d2<;>first|(simp only[ZcZ]at hq;exact hq)|(exact absurd ⟨_,_,rfl⟩ ac)
  unfold eqO at i;split at i<;>simp[Y3]at i
 by_cases o:∃a,d1=.str a;obtain⟨a,rfl⟩:=o;cases h1;rename_i s1 e1 b1;have hg:(eqGuard op t x y (.string s1) v2).run P w=.ok () w:=by cases op<;>rfl
 by_cases u:∃b,d2=.str b;obtain⟨b,rfl⟩:=u;cases h2;rename_i s2 e2 b2;simp only[Sem.run_bind,hg,Result.andThen_ok];obtain⟨v,hv,r⟩:=Zz3 (P:=P) (g:=g) (w:=w) (op:=op) e1 e2 (by simpa[ZcZ]using hq) hs;refine⟨v,?_,r⟩;rw[<-hv];cases op<;>simp[binOp];have i:eqO op (Zel P t x y) (.str a) d2=sO (side,d):=by cases d2<;>first|(simp only[ZcZ]at hq;exact hq)|(exact absurd ⟨_,rfl⟩ u)
 unfold eqO at i;split at i<;>simp[Y3]at i;have i:eqO op (Zel P t x y) d1 d2=sO (side,d):=by cases d1<;>first|(simp only[ZcZ]at hq;exact hq)|(exact absurd ⟨_,_,rfl⟩ hi)|(exact absurd ⟨_,rfl⟩ o)
 unfold eqO at i;split at i
 .rename_i p hp;simp only[ZH8]at i;obtain⟨⟨s',b⟩,hb,i⟩:=i;simp only[ZH2]at i;obtain⟨rfl,rfl⟩:=i;obtain⟨he,hg,_⟩:=ZqB hp h1 h2 hb hs;refine⟨.bool b,?_,.bool _⟩;simp only[Sem.run_bind,hg,Result.andThen_ok];cases h1<;>first
   | (exact absurd ⟨_,_,rfl⟩ hi)
   | (exact absurd ⟨_,rfl⟩ o)
   | (cases h2<;>first|(simp[binOp,he];done)|(cases p<;>simp[Y3]at hb;done))
 .rename_i p hp;simp only[ZH8]at i;obtain⟨⟨s',b⟩,hb,i⟩:=i;simp only[ZH2]at i;obtain⟨rfl,rfl⟩:=i;obtain⟨he,_,hg⟩:=ZqB hp h1 h2 hb hs;refine⟨.bool (!b),?_,.bool _⟩;simp only[Sem.run_bind,hg,Result.andThen_ok];cases h1<;>first
   | (exact absurd ⟨_,_,rfl⟩ hi)
   | (exact absurd ⟨_,rfl⟩ o)
   | (cases h2<;>first|(simp[binOp,he];done)|(cases p<;>simp[Y3]at hb;done))
 simp at i
end Go.DL
namespace Go.DL
open Go
variable [Zo5]
def Zye(P:Program)(g:G)(Z:Nat->Nat)(w:World)(L:Loc)(s:Sem Value)(e:E):Prop:=∃v,s.run P w=.ok v w/\ZM g Z w L v e
def Zye.next{P g Z w L s e}(h:Zye P g Z w L s e) :
  ∃v,(do pure (Next.value (<-s)):Sem Next).run P w=.ok (.value v) w/\ZM g Z w L v e:=by
 obtain⟨v,h1,h2⟩:=h;simp_all
section
variable {P:Program} {g:G} {Z:Nat->Nat} {w:World} {L:Loc}
def QB:∀{vs es ds},ZN (ZM g Z w L) vs es->KA es=sO ds->ZN (Rep g w) vs ds
 |_,_,ds,.nil,hd=>by cases hd;exact .nil
 |_,_,ds,.cons (b:=e) h t,hd=>by
  cases e with
  |d x =>simp[KA]at hd;obtain⟨ds',hd',rfl⟩:=hd;exact .cons h (QB t hd')
  |loc l o=>cases hd
  |when c e=>cases hd
def ZN.len{α β R}{i:List α}{bs:List β}(h:ZN R i bs):I i=I bs:=by
 induction h with
 |nil=>rfl
 |cons _ _ ih=>simp[ih]
def ZN.get{α β R o}{bs:List β}(h:ZN R o bs):∀(i:Nat) (a:α) (b:β),o[i]?=sO a->bs[i]?=sO b->R a b:=by
 induction h with
 |nil=>intro i a b ha;grind
 |cons h _ ih =>grind
def ZN.take{α β R}{i:List α}{bs:List β}(h:ZN R i bs):∀n,ZN R (i.take n) (bs.take n):=by
 induction h with
 |nil=>intro n;simp;exact .nil
 |cons h _ ih=>intro n;cases n with
  |zero=>exact .nil
  |succ n=>exact .cons h (ih n)
def ZN.drop{α β R}{i:List α}{bs:List β}(h:ZN R i bs):∀n,ZN R (i.drop n) (bs.drop n):=by
 induction h with
 |nil=>intro n;simp;exact .nil
 |cons h t ih=>intro n;cases n with
  |zero=>exact .cons h t
  |succ n=>exact ih n
def ZN.append{α β R}{o i:List α}{bs r:List β}(h:ZN R o bs)(t:ZN R i r):ZN R (o++i) (bs++r):=by
 induction h with
 |nil=>exact t
 |cons h _ ih=>exact .cons h ih
def Zgt{v d}(h:Rep g w v d)(t:Qb d=true):v.cells.size=(cellsOf d).length/\(∀(i:Nat) (x y),v.cells.toList[i]?=sO x->(cellsOf d)[i]?=sO y->Rep g w x y):=by
 cases h with
 |agg vs cells hn h one=>exact⟨by simpa[Value.cells,cellsOf]using hn,by simpa[Value.cells,cellsOf]using h⟩
 |any v=>simp[Qb]at t
 |_ =>
  refine⟨by simp[Value.cells,cellsOf,Go.undef],λi x y o r=>?_⟩;simp only[Value.cells,cellsOf,Go.undef]at o r;cases i with
  |zero =>simp at o r;subst o;subst r;first|assumption|constructor<;>assumption|constructor
  |succ i=>simp at o
end
end Go.DL
namespace Go.DL
open Go
variable [Zo5]
section
variable {P:Program} {g:G} {Z:Nat->Nat} {w:World} {L:Loc}
def Zlf{v d}(h:Rep g w v d)(o:Qb d=true):∀x∈v.cells,x.one1=true:=by
 cases h with
 |agg vs cells hn h one=>simpa[Value.cells]using one
 |_=>first
  | (simp[Qb]at o;done)
  | (intro x i;simp[Value.cells]at i;subst i;rfl)
def Zqm:∀(l k off) (cs:Array Value),off+k+I l<=cs.size ->
  ((l.zipIdx k).foldl (λ(cs:Array Value) (x:Value×Nat)=>cs.setIfInBounds (off+x.2) x.1) cs).toList=cs.toList.take (off+k)++l++cs.toList.drop (off+k+I l)
 | [],k,off,cs,h=>by simp
 |v::l,k,off,cs,h=>by
  simp at h;simp only[List.zipIdx_cons,List.foldl_cons];rw[Zqm l (k+1) off _ (by simp;omega)];simp only[Array.toList_setIfInBounds];apply List.ext_getElem?;intro i;simp only[List.getElem?_append,ZIv,List.getElem?_drop,List.getElem?_set,ZHX,ZIa,List.length_set,Array.length_toList,ZH3];by_cases o:i<off+k;simp[show i<min (off+(k+1)) cs.size+I l from by omega,show i<min (off+(k+1)) cs.size from by omega,show i<min (off+k) cs.size+(I l+1) from by omega,
   show i<min (off+k) cs.size from by omega,show i<off+(k+1) from by omega,o,show ¬off+k=i from by omega]
  by_cases r:i=off+k;subst r;simp[show off+k<min (off+(k+1)) cs.size+I l from by omega,show off+k<min (off+(k+1)) cs.size from by omega,show off+k<min (off+k) cs.size+(I l+1) from by omega,
   show ¬off+k<min (off+k) cs.size from by omega,show off+k<off+(k+1) from by omega,show off+k<cs.size from by omega]
  rw[show off+k-min (off+k) cs.size=0 from by omega];rfl;by_cases h3:i<off+k+(I l+1);simp[show i<min (off+(k+1)) cs.size+I l from by omega,show ¬i<min (off+(k+1)) cs.size from by omega,show i<min (off+k) cs.size+(I l+1) from by omega,
   show ¬i<min (off+k) cs.size from by omega]
  rw[show i-min (off+k) cs.size=(i-min (off+(k+1)) cs.size)+1 from by omega];rfl;simp[show ¬i<min (off+(k+1)) cs.size+I l from by omega,show ¬i<min (off+k) cs.size+(I l+1) from by omega];rw[show off+(k+1)+I l+(i-(min (off+(k+1)) cs.size+I l))=i from by omega,show off+k+(I l+1)+(i-(min (off+k) cs.size+(I l+1)))=i from by omega];simp[show ¬off+k=i from by omega]
def Yn{α β R}:∀{o} {bs:List β},I o=I bs->(∀(i:Nat) (a:α) (b:β),o[i]?=sO a->bs[i]?=sO b->R a b)->ZN R o bs
 | [],[],_,_=>.nil
 |a::o,b::bs,hn,h=>.cons (h 0 a b rfl rfl) (Yn (by simpa using hn) (λi x y r t=>h (i+1) x y (by simpa using r) (by simpa using t)))
 | [],_::_,hn,_=>by grind
 |_::_,[],hn,_=>by grind
def Zhu(place):∀(parts pl ds cs cells cv),
  (∀(i:Nat) (x q),parts[i]?=sO x->pl[i]?=sO q->place x.1=sO q)->I parts=I pl->ZN (Rep g w) (parts.map (·.2)) ds ->
  ZN (Rep g w) cv.toList cells->(∀v∈cv,v.one1=true)->ZdZ cells pl ds=sO cs ->
  ∃cv',Instr.fill place cv parts=sO cv'/\ZN (Rep g w) cv'.toList cs/\∀v∈cv',v.one1=true
 | [],[],ds,cs,cells,cv,_,_,hd,hc,ho,hf=>by cases hd;cases hf;exact⟨cv,rfl,hc,ho⟩
 |x::parts,q::pl,ds,cs,cells,cv,hpl,hn,hd,hc,ho,hf=>by
  obtain⟨i,v⟩:=x;obtain⟨o,n⟩:=q;cases hd with
  |cons hv hd =>
   rename_i d ds;simp only[ZdZ]at hf;split at hf;rename_i ab;obtain⟨h0,h1,h2⟩:=ab;have hp:=hpl 0 _ _ rfl rfl;obtain⟨af,u⟩:=Zgt hv h0;have hlen:=hc.len;have r:=Zqm v.cells.toList 0 o cv (by grind);simp only[Nat.add_zero,Array.length_toList,af,h1]at r;have ha:ZN (Rep g w) (v.cells.toList) (cellsOf d):=Yn ω u;generalize ac:(v.cells.toList.zipIdx 0).foldl (λ(cs:Array Value) (x:Value×Nat)=>cs.setIfInBounds (o+x.2) x.1) cv=cv2 at r;have ae:ZN (Rep g w) cv2.toList (ZF cells o (cellsOf d)):=by rw[r];unfold ZF;rw[h1];exact((hc.take o).append ha).append (hc.drop (o+n))
   have ad:∀x∈cv2,x.one1=true:=λx hx=>by have t:x∈cv2.toList:=Array.mem_toList_iff.2 hx;rw[r]at t;simp only[List.mem_append]at t;rcases t with (t |t)|t;exact ho x (Array.mem_toList_iff.1 (List.mem_of_mem_take t));exact Zlf hv h0 x (Array.mem_toList_iff.1 t);exact ho x (Array.mem_toList_iff.1 (List.mem_of_mem_drop t))
   obtain⟨cv',ag,r1,r2⟩:=Zhu place parts pl ds cs _ cv2 (λi x q hx hq=>hpl (i+1) x q (by grind) (by grind)) (by grind) hd ae ad hf;refine⟨cv',?_,r1,r2⟩;simp only[Instr.fill,hp,af,h1];have:¬(n≠n ||decide (o+n > cv.size))=true:=by grind
   rw[if_neg ω];rw[<-ag,<-ac]
   congr 1
   rw[<-Array.foldl_toList,Array.toList_zipIdx];simp at hf
 | [],_::_,_,_,_,_,_,hn,_,_,_,_=>by simp at hn
 |_::_,[],_,_,_,_,_,hn,_,_,_,_=>by simp at hn
end
end Go.DL
namespace Go.DL
open Go
variable [Zo5]
variable {kp:Option (List Nat)}{L:Loc}{H:Env}{s:St}{w:World}{os:List DOp}{ds:List D}{dst:Option Nat}{tmps:Array Value}{g:G}{Z:Nat->Nat}{xs:List Opd}{side:Prop}{row:Nat->List D}
section
variable {P:Program} {g:G} {Z:Nat->Nat} {w:World} {L:Loc}
def Zeg:∀{vs ds},ZbY vs=sO ds->ZN (Rep g w) vs ds/\∀v∈vs,v.one1=true
 | [],ds,h=>by simp only[ZbY,ZHQ]at h;subst h;exact⟨.nil,λv u=>by simp at u⟩
 |v::vs,ds,h=>by
  simp only[ZbY]at h;split at h
  .rename_i d ds' i t;simp only[ZHQ]at h;subst h;obtain⟨r1,r2⟩:=Zeg t;have r:Rep g w v d/\v.one1=true:=by unfold Zny at i;split at i<;>(try(simp at i;done));split at i;rename_i o;simp only[ZHQ]at i;subst i;exact⟨.int _ _ o,rfl⟩;simp at i;simp only[ZHQ]at i;subst i;exact⟨.bool _,rfl⟩;split at i;rename_i o;simp only[ZHQ]at i;subst i;exact⟨.str _ _ rfl o,rfl⟩;simp at i;simp only[ZHQ]at i;subst i;exact⟨.nilptr,rfl⟩;simp only[ZHQ]at i;subst i;exact⟨.nilsl,rfl⟩;simp only[ZHQ]at i;subst i;exact⟨.nilmap,rfl⟩;simp only[ZHQ]at i;subst i;exact⟨.nilfn,rfl⟩;simp only[ZHQ]at i;subst i;exact⟨.niliface,rfl⟩
   exact⟨.cons r.1 r1,λx hx=>by
    rcases List.mem_cons.1 hx with rfl|hx;exact r.2;exact r2 x hx⟩
  simp at h
def ZwO{v d}(h:Zny v=sO d):Rep g w v d/\v.one1=true:=by
 have:=Zeg (g:=g) (w:=w) (vs:=[v]) (ds:=[d]) (by simp[ZbY,h]);obtain⟨i,o⟩:=this;cases i with
 |cons h _=>exact⟨h,o v ψ⟩
def Zld{vs ds}(h:ZN (Rep g w) vs.toList ds)(i:∀v∈vs,v.one1=true):Rep g w (.agg vs) (.agg ds):=by
 have:=Rep.agg (g:=g) (w:=w) vs.toList ds h.len h.get (λv o=>i v (Array.mem_toList_iff.1 o));simpa using this
def ZjA{v d}(h:Znz v=sO d):Rep g w v d:=by
 unfold Znz at h;split at h;rename_i cs;simp only[ZH8]at h;obtain⟨ds,r,rfl⟩:=h;obtain⟨i,o⟩:=Zeg (g:=g) (w:=w) r;exact Zld i (λv t=>o v (Array.mem_toList_iff.2 t));exact(ZwO h).1
def ZqA{t fs}(hu:P.underlying t=sO (.struct fs)):∀(is pl),QF P t is=sO pl ->
  (I pl)=I is/\∀(i k:Nat) (q),is[i]?=sO k->pl[i]?=sO q->∃f,fs[k]?=sO f/\ZX P f.type=sO q.2/\f.offset=q.1
 | [],pl,h=>by simp only[QF,ZHQ]at h;subst h;simp
 |k::is,pl,h=>by
  cases r:QF P t is with
  |none=>simp[QF,hu,r]at h
  |some l =>
   simp only[QF,hu,r]at h;split at h
   .rename_i f hf;simp only[ZH8]at h;obtain⟨n,hn,rfl⟩:=h;obtain⟨h1,h2⟩:=ZqA hu is l r;refine⟨by simp[h1],λi k' q o u=>?_⟩;cases i with
    |zero=>simp at o u;subst o;subst u;exact⟨f,hf,hn,rfl⟩
    |succ i=>exact h2 i k' q (by simpa using o) (by simpa using u)
   simp at h
def Zog{t e m}(hu:P.underlying t=sO (.array m e)):∀(is pl),QF P t is=sO pl ->
  (I pl)=I is/\∀(i k:Nat) (q),is[i]?=sO k->pl[i]?=sO q->∃n,ZX P e=sO n/\q=(k*n,n)
 | [],pl,h=>by simp only[QF,ZHQ]at h;subst h;simp
 |k::is,pl,h=>by
  cases r:QF P t is with
  |none=>simp[QF,hu,r]at h
  |some l =>
   simp only[QF,hu,r,ZH8]at h;obtain⟨n,hn,rfl⟩:=h;obtain⟨h1,h2⟩:=Zog hu is l r;refine⟨by simp[h1],λi k' q o u=>?_⟩;cases i with
   |zero=>simp at o u;subst o;subst u;exact⟨n,hn,rfl⟩
   |succ i=>exact h2 i k' q (by simpa using o) (by simpa using u)
def Zmd:∀(o:List Field),(o.all λf=>(ZX P f.type).isSome)=true ->
  ∃r,o.mapM (λf=>(P.info? f.type).map λi=>(f.offset,i.size))=sO r/\∀(k:Nat) (f n),o[k]?=sO f->ZX P f.type=sO n->r[k]?=sO (f.offset,n)
 | [],_=>⟨[],ψ,ψ⟩
 |f::o,h=>by
  simp only[List.all_cons,ZH1]at h;obtain⟨r,h1,h2⟩:=Zmd o h.2;unfold ZX at h;cases t:P.info? f.type with
  |none=>simp[t]at h
  |some i =>
   refine⟨(f.offset,i.size)::r,by simp[List.mapM_cons,t,h1],λk f' n u hn=>?_⟩;cases k with
   |zero =>simp at u;subst u;simp only[ZX,t,Option.map_some,ZHQ]at hn;subst hn;rfl
   |succ k=>simpa using h2 k f' n (by simpa using u) hn
def Zyk{t}{parts:List (Nat×Value)}{z pl zs ds cs}(hz:(P.info? t).bind (·.zero)=sO z)(hp:QF P t (parts.map (·.1))=sO pl)(hsz:ZkA P t=true)(hzs:ZbY z.cells.toList=sO zs)(hd:ZN (Rep g w) (parts.map (·.2)) ds)(hf:ZdZ zs pl ds=sO cs)(hne:∃d,P.underlying t=sO d/\((∃fs,d=.struct fs)\/∃m e i,d=.array m e/\P.info? e=sO i)):
  ∃cv,(Instr.build t parts.toArray).run P w=.ok (.agg cv) w/\Rep g w (.agg cv) (.agg cs):=by
 obtain⟨d,hu,ae⟩:=hne;obtain⟨c1,c2⟩:=Zeg (g:=g) (w:=w) hzs;have ac:∀v∈z.cells,v.one1=true:=λv hv=>c2 v (Array.mem_toList_iff.2 hv);cases ab:P.info? t with
 |none=>simp[ab]at hz
 |some it =>
  simp only[ab,Option.bind_some]at hz;rcases ae with ⟨fs,rfl⟩|⟨m,e,i,rfl,hi⟩;simp only[ZkA,hu]at hsz;obtain⟨ai,hm,ad⟩:=Zmd (P:=P) fs.toList hsz;obtain⟨h1,h2⟩:=ZqA hu _ _ hp;obtain⟨cv,o,u,r⟩:=Zhu (g:=g) (w:=w) (ai.toArray[·]?) parts pl ds cs zs z.cells (λi x q hx hq=>by
   obtain⟨f,af,ag,ah⟩:=h2 i x.1 q (by simp[hx]) hq;have:=ad x.1 f q.2 (by simpa using af) ag;simp only[List.getElem?_toArray,this,ah]) (by simpa using h1.symm) hd c1 ac hf
  refine⟨cv,run_build w t _ cv ?_,Zld u r⟩;simp only[Program.built,ab,hu,hz,hm];exact o;obtain⟨h1,h2⟩:=Zog hu _ _ hp;obtain⟨cv,o,u,r⟩:=Zhu (g:=g) (w:=w) (λk=>sO (k*i.size,i.size)) parts pl ds cs zs z.cells (λj x q hx hq=>by
   obtain⟨n,hn,rfl⟩:=h2 j x.1 q (by simp[hx]) hq;simp only[ZX,hi,Option.map_some,ZHQ]at hn;rw[hn]) (by simpa using h1.symm) hd c1 ac hf
  refine⟨cv,run_build w t _ cv ?_,Zld u r⟩;simp only[Program.built,ab,hu,hz,hi];exact o
end
section
variable {P:Program} {g:G} {Z:Nat->Nat} {w:World} {L:Loc} {U:St}
def WJ{α β R}{a:α}{bs:List β}(h:ZN R [a] bs):∃b,bs=[b]/\R a b:=by
 cases h with
 |cons h t=>cases t;exact⟨_,rfl,h⟩
def ZaE{α β R}{a o:α}{bs:List β}(h:ZN R [a,o] bs):∃b i,bs=[b,i]/\R a b/\R o i:=by
 cases h with
 |cons h t=>obtain⟨i,rfl,r⟩:=WJ t;exact⟨_,_,rfl,h,r⟩
def Zie:∀(i:List Int) (s:ByteArray),(i.foldl (λr n=>r.push (UInt8.ofNat n.toNat)) s).data.toList=s.data.toList++i.map λn=>UInt8.ofNat n.toNat
 | [],s=>by simp
 |n::i,s=>by rw[List.foldl_cons,Zie i];simp
def Zuj{t x e r side}(ha:ZaD P t=sO false)(hx:ZM g Z w L x e)(u:∀l cs,Zq L l=sO cs->YI g w (Z l) cs)(hS:Ym g U w)(i:qv L U .load1 [e]=sO (side,r)):∃v,(Instr.loadAt t x).run P w=.ok v w/\ZM g Z w L v r:=by
 simp only[qv,ZH8]at i;obtain⟨d,hd,rfl,rfl⟩:=i;obtain⟨b,o,y,rfl,hy,hr,_⟩:=Znq u hS hx hd;exact⟨y,by simp[Instr.loadAt,Instr.sureAddr,loadVar,ZeM ha,hy],hr⟩
def Zuk{t n x e r side}(ha:ZaD P t=sO true)(o:ZX P t=sO n)(hx:ZM g Z w L x e)(hL:∀l cs,Zq L l=sO cs->YI g w (Z l) cs)(hS:Ym g U w)(u:qv L U (.loadN n) [e]=sO (side,r))(hs:side):∃v,(Instr.loadAt t x).run P w=.ok v w/\ZM g Z w L v r:=by
 simp only[qv,ZH8]at u;obtain⟨⟨s',ds⟩,hd,rfl,rfl⟩:=u;obtain⟨a,rfl,vs,i,hr⟩:=Zoc (P:=P) hL hS hx hd hs;exact⟨.agg vs.toArray,by simp[Instr.loadAt,Instr.sureAddr,loadVar,Zgd ha,YV o,i],hr⟩
def Zz0{b o n cap cs v}(hS:Ym g U w)(hv:Rep g w v (.msl b o n cap 1))(hcs:Yq U b=sO cs)(hlen:o+n<=I cs)(hu:∀i,i<n->ZmY (part cs (o+i) 1)):
  ∃x:Value,(Conv.bytesToString v).run P w=.ok x w/\Rep g w x (.str ((ZH5 n).map λi=>ZcB (part cs (o+i) 1))):=by
 have u:∀r,n<=r->r<=big->∃x:Value,(Conv.bytesToString (.slice (sO ⟨b,o,nO⟩) n r)).run P w=.ok x w/\Rep g w x (.str ((ZH5 n).map λi=>ZcB (part cs (o+i) 1))):=by
  intro r h1 h2;obtain⟨vs,hr,hp⟩:=ZfJ (P:=P) (QW hS hcs) hlen;have ae:vs=((ZH5 n).map λi=>((ZcB (part cs (o+i) 1)).toNat:Int)).map (Value.int .u8):=by
   generalize t:part cs o n=pc at hp;have hpl:I pc=n:=by rw[<-t];simp[part];omega
   cases hp with
   |agg vs' _ hn hg _ =>
   apply List.ext_getElem?;intro i;by_cases hi:i<n;have hvi:i<I vs:=ω;obtain⟨m,hm⟩:=hu i hi;have ab:cs[o+i]?=sO (.int .u8 m):=by have:=congrArg (λl=>l[0]?) hm;simpa[part]using this
   have ad:pc[i]?=sO (.int .u8 m):=by rw[<-t];simp[part,hi];exact ab
   have:=hg i vs[i] _ (by grind) ad;simp_all;generalize vs[i]=xv at this;cases this;rename_i ac;simp[hi,ZcB];simp[inR,IntKind.min,IntKind.max,IntKind.signed,IntKind.bits]at ac;omega;simp_all
  refine⟨_,run_bytesToString w _ _ r _ (by rw[hr,ae]),.str _ _ ?_ (by grind)⟩;rw[Zie];simp
 cases hv with
 |msl _ _ _ _ _ h hb=>exact u cap h hb
 |mslx a=>exact⟨.string .empty,by simp[Conv.bytesToString,loadCells,loadCellsFrom],.str _ _ rfl ψ⟩
def Zwa{s d c x e r side}(hS:Ym g U w)(hc:Zvs P s d=sO c)(hx:ZM g Z w L x e)(hq:qv L U (.conv c) [e]=sO (side,r))(hs:side):
  ∃v,(convert s d x).run P w=.ok v w/\ZM g Z w L v r:=by
 unfold Zvs at hc;split at hc<;>(try(simp at hc;done))
 .rename_i k0 k h1 h2;cases hc;cases e with
  |d y =>cases y<;>simp only[qv,reduceCtorEq]at hq;rename_i k' n;cases hx;rename_i hn;split at hq;rename_i hk;subst hk;cases hq;exact⟨.int k n,by simp[convert,run_underlying h1,run_underlying h2,Conv.intToInt,Zav _ _ hn],.int _ _ hn⟩;cases hq;exact⟨.int k (k.wrap n),by simp[convert,run_underlying h1,run_underlying h2,Conv.intToInt],.int _ _ ZhS⟩
  |loc l o=>simp[qv]at hq
  |when b e=>simp[qv]at hq
 .rename_i k0 h1 h2;cases hc;cases e with
  |d y =>cases y<;>simp only[qv,reduceCtorEq]at hq;rename_i k' n;cases hx;cases hq;exact⟨.string (Utf8.encode n),by simp[convert,run_underlying h1,run_underlying h2,Conv.intToString],.str _ _ rfl hs⟩
  |loc l o=>simp[qv]at hq
  |when b e=>simp[qv]at hq
 .rename_i h1 h2;cases hc;cases e with
  |d y =>cases y<;>simp only[qv,reduceCtorEq]at hq;cases hq;cases hx;rename_i s0 e0 b0;exact⟨.string s0,by simp[convert,run_underlying h1,run_underlying h2],.str _ _ e0 b0⟩
  |loc l o=>simp[qv]at hq
  |when b e=>simp[qv]at hq
 rename_i el h1 h2;split at hc<;>(try(simp at hc;done));rename_i h3;cases hc;cases e with
 |d y =>
  cases y<;>simp only[qv,reduceCtorEq]at hq;cases hq;cases hx;exact⟨.string .empty,by simp[convert,run_underlying h1,run_underlying h2,run_underlying h3,Conv.bytesToString],.str _ _ rfl (by simp[big])⟩
  .split at hq<;>(try(simp at hq;done));rename_i t n s row ae;cases hq;subst ae;cases hx with
   |sl0 av=>exact⟨.string .empty,by cases av<;>simp[convert,run_underlying h1,run_underlying h2,run_underlying h3,Conv.bytesToString,loadCells,loadCellsFrom],.str _ _ rfl (by simp[big])⟩
   |sl b o _ cap _ _ _ f hl hc hp hr one ht hcap hb =>
    have hf:∀i,i<n->f i 0=.int .u8 ((ZcB (row i)).toNat:Int):=λi hi=>by
     obtain⟨m,hm⟩:=hs i hi;have:=hr i 0 _ hi (by rw[hm];rfl);generalize f i 0=fv at this;cases this;rename_i ad;rw[hm];simp only[ZcB]
     congr 1
     simp[inR,IntKind.min,IntKind.max,IntKind.signed,IntKind.bits]at ad;simp;omega
    have u:(loadCells ⟨b,o,nO⟩ n).run P w=.ok (((ZH5 n).map λi=>((ZcB (row i)).toNat:Int)).map (Value.int .u8)).toArray w:=by
     rw[run_loadCells (P:=P) w ⟨b,o,nO⟩ n (λi=>f i 0) (λj hj=>by
      have:=hc j 0 hj ω;rw[Kz];simpa using this)]
     congr 2
     rw[List.map_map];exact List.map_congr_left λi hi=>hf i (by simpa using hi)
    refine⟨_,by simp[convert,run_underlying h1,run_underlying h2,run_underlying h3,run_bytesToString w _ _ cap _ u];rfl,.str _ _ ?_ (by simp;omega)⟩;rw[Zie];simp[List.map_map,Function.comp_def]
  split at hq<;>(try(simp at hq;done));rename_i b o n cap z cs ac;split at hq<;>(try(simp at hq;done));rename_i hz;cases hq;subst hz;obtain⟨xv,hr,hp⟩:=Zz0 (P:=P) hS hx ac hs.1 hs.2;have ab:(convert s d x).run P w=(Conv.bytesToString x).run P w:=by cases hx<;>simp[convert,run_underlying h1,run_underlying h2,run_underlying h3]
  exact⟨xv,ab.trans hr,hp⟩
 |loc l o=>simp[qv]at hq
 |when b e=>simp[qv]at hq
end
section
variable {P:Program} {g:G} {Z:Nat->Nat} {w:World} {L:Loc}
def QG{v k n}(h:Rep g w v (.int k n)):v=.int k n/\inR k n:=by
 cases h with
 |int _ _ h=>exact⟨rfl,h⟩
def ZdA{x k n}(h:Rep g w x (.int k n)){y:Nat}{code}(i:0<=n)(o:n<=y):
  (Instr.sliceBound x y code).run P w=.ok n.toNat w:=by
 obtain⟨rfl,_⟩:=QG h;simp[Instr.sliceBound,asIntOf,i,o]
def JU(g:G)(w:World):Option Value->Option Int->Prop
 |none,nO=>True
 |some v,sO n=>∃k,Rep g w v (.int k n)
 |_,_=>False
def Zbi{is}{n cap:Nat}{lo hi mx r t mx'}(u:JU g w lo r)(h2:JU g w hi t)(h3:JU g w mx mx')(hmh:mx.isSome=true->hi.isSome=true)(a:0<=r.getD 0)(b:r.getD 0<=t.getD n)(c:t.getD n<=mx'.getD cap)(d:mx'.getD cap<=cap):
  (Instr.sliceBounds is n cap lo hi mx).run P w=.ok ((r.getD 0).toNat,(t.getD n).toNat,(mx'.getD cap).toNat) w:=by
 cases mx with
 |none =>
  cases mx' with
  |some _=>exact h3.elim
  |none =>
   cases hi with
   |none =>
    cases t with
    |some _=>exact h2.elim
    |none =>
     cases lo with
     |none =>
      cases r with
      |some _=>exact u.elim
      |none=>simp[Instr.sliceBounds]
     |some lv =>
      cases r with
      |none=>exact u.elim
      |some l =>obtain⟨k,hk⟩:=u;simp[Instr.sliceBounds,ZdA hk a b]
   |some hv =>
    cases t with
    |none=>exact h2.elim
    |some hh =>
     obtain⟨k2,i⟩:=h2;simp at b c⊢;have bo:=ZdA (P:=P) i (y:=cap) (code:=if is then .sliceAcap else .sliceAlen) ω c;cases lo with
     |none =>
      cases r with
      |some _=>exact u.elim
      |none=>simp[Instr.sliceBounds,bo]
     |some lv =>
      cases r with
      |none=>exact u.elim
      |some l =>obtain⟨k,hk⟩:=u;simp at a b⊢;have bl:=ZdA (P:=P) hk (y:=hh.toNat) (code:=.sliceB) a ω;simp[Instr.sliceBounds,bo,bl]
 |some mv =>
  cases mx' with
  |none=>exact h3.elim
  |some m =>
   obtain⟨k3,o⟩:=h3;cases hi with
   |none=>grind
   |some hv =>
    cases t with
    |none=>exact h2.elim
    |some hh =>
     obtain⟨k2,i⟩:=h2;simp at b c⊢;have bm:=ZdA (P:=P) o (y:=cap) (code:=if is then .slice3Acap else .slice3Alen) ω d;have bo:=ZdA (P:=P) i (y:=m.toNat) (code:=.slice3B) ω ω;cases lo with
     |none =>
      cases r with
      |some _=>exact u.elim
      |none=>simp[Instr.sliceBounds,bo,bm]
     |some lv =>
      cases r with
      |none=>exact u.elim
      |some l =>obtain⟨k,hk⟩:=u;simp at a b⊢;have bl:=ZdA (P:=P) hk (y:=hh.toNat) (code:=.slice3C) a ω;simp[Instr.sliceBounds,bo,bm,bl]
def Zzw{t e s}(hu:P.underlying t=sO (.slice e))(hsz:ZX P e=sO s){x d r}(hx:Rep g w x d){lo hi mx lo' hi' mx'}(h1:JU g w lo lo')(h2:JU g w hi hi')(h3:JU g w mx mx')(hmh:mx.isSome=true->hi.isSome=true){side}(hq:ZfR s lo' hi' mx' d=sO (side,r))(hs:side):
  ∃v,(Instr.sliceAt t x lo hi mx).run P w=.ok v w/\Rep g w v r:=by
 cases d<;>simp only[ZfR,reduceCtorEq]at hq
 .
  simp only[ZHQ,ZH2]at hq;obtain⟨rfl,rfl⟩:=hq;cases hx;obtain⟨e1,e2,e3⟩:=hs;refine⟨.slice nO 0 0,?_,.nilsl⟩;have hb:=Zbi (P:=P) (is:=true) (n:=0) (cap:=0) h1 h2 h3 hmh ω (by simp[e1,e2]) (by simp[e2,e3]) (by simp[e3]);simp only[Instr.sliceAt,Sem.run_bind,run_underlying hu,Result.andThen_ok,Instr.slice,hb];simp[e1,e2,e3,YV hsz]
 .
  rename_i t n s' row;split at hq<;>(try(simp at hq;done));rename_i ai;subst ai;simp only[ZHQ,ZH2]at hq;obtain⟨rfl,rfl⟩:=hq;obtain⟨a,b,c,d⟩:=hs;have mk:∀(cap:Nat),n<=cap->hi'.getD n<=mx'.getD cap/\mx'.getD cap<=cap:=λcap ab=>by
   cases mx' with
   |none=>simp only[Option.getD_none];omega
   |some m=>have:=d m rfl;simp only[ZIr];omega
  cases hx with
  |sl0 av _ _ _ ht =>
   have hb:=Zbi (P:=P) (is:=true) (n:=0) (cap:=0) h1 h2 h3 hmh a b (mk 0 (ZH9 _)).1 (mk 0 (ZH9 _)).2;have e2:hi'.getD ((0:Nat):Int)=0:=ω;have e1:lo'.getD 0=0:=ω;have e3:mx'.getD ((0:Nat):Int)=0:=by have:=mk 0 (ZH9 _);omega
   simp only[Int.natCast_zero]at e2 e3;refine⟨.slice av 0 0,?_,?_⟩;·cases av<;>simp only[Instr.sliceAt,Sem.run_bind,run_underlying hu,Result.andThen_ok,Instr.slice,hb];all_goals simp[e1,e2,e3,YV hsz]
   have:(hi'.getD ((0:Nat):Int)-lo'.getD 0).toNat=0:=by simp[e1,e2]
   rw[this];refine .sl0 av _ _ _ ?_;intro b hb;cases mx' with
   |some m=>simp only[Zd6]at hb;split at hb<;>simp at hb
   |none =>
    simp only[Zd6]at hb;split at hb
    .cases t with
     |tip b'=>exact absurd rfl (ht b')
     |_=>simp at hb
    simp at hb
  |sl bb o _ cap _ _ _ f hl hc hp hr one ht ab hbig =>
   have hb:=Zbi (P:=P) (is:=true) (n:=n) (cap:=cap) h1 h2 h3 hmh a b (mk cap ab).1 (mk cap ab).2;have hm:=mk cap ab;simp only[Instr.sliceAt,Sem.run_bind,run_underlying hu,Result.andThen_ok,Instr.slice,hb];simp only[YV hsz,Result.andThen_ok,Sem.run_pure];generalize al:lo'.getD 0=l at *;generalize ak:hi'.getD (n:Int)=h at *;obtain⟨l,rfl⟩:=Int.eq_ofNat_of_zero_le a;obtain⟨h,rfl⟩:=Int.eq_ofNat_of_zero_le (show 0<=h by omega);generalize ah:mx'.getD (cap:Int)=m at *;obtain⟨m,rfl⟩:=Int.eq_ofNat_of_zero_le (show 0<=m by omega);simp only[Int.toNat_natCast];refine⟨_,rfl,?_⟩;have aj:((h:Int)-(l:Int)).toNat=h-l:=ω;rw[aj];have hle:h<=n:=ω;have hlh:l<=h:=ω;have hhm:h<=m:=ω;have hmc:m<=cap:=ω;generalize u:Zd6 t n l h mx'=tk;have af:∀o',(l=0->o'=o)->ZkY w tk bb o' (h-l) (m-l) s':=by
    intro o' am;cases mx' with
    |some m' =>simp only[Zd6]at u;simp only[ZIr]at ah;split at u;subst u;simp only[ZkY];omega;subst u;trivial
    |none =>
     simp only[Zd6]at u;simp only[Option.getD_none]at ah;have ag:m=cap:=ω;split at u
     .rename_i hhn';cases t with
      |none=>simp only at u;subst u;trivial
      |full=>simp only at u;subst u;simp only[ZkY]at ht⊢;omega
      |tip b' =>simp only at u;split at u;rename_i hl0;subst u;obtain⟨t1,t2,t3⟩:=ht;have ae:l=0:=ω;exact⟨t1,(am ae).trans t2,by rw[ag,ae];simpa using t3⟩;subst u;trivial
     subst u;trivial
   by_cases ac:m=l;simp only[ac,if_true];have hh:h-l=0:=ω;rw[hh,Nat.sub_self];have ad:=af o (λ_=>rfl);rw[hh,ac,Nat.sub_self]at ad;exact .sl bb o 0 0 s' _ tk (λ_ _=>undef) (λi hi=>by omega) (λi j hi=>by omega) (λi j hi=>by omega) (λi j d hi=>by omega) (λi j hi=>by omega) ad ω ω;simp only[ac,if_false,Option.map_some,Kz];refine .sl bb (o+l*s') (h-l) (m-l) s' _ tk (λi j=>f (l+i) j) (λi hi=>hl _ ω) (λi j hi hj=>?_) (λi j hi hj=>?_) (λi j d hi hd=>hr _ _ _ ω hd)
    (λi j hi hj=>one _ _ ω hj) (af _ (λh0=>by rw[h0];simp)) ω ω
   have:=hc (l+i) j ω hj;rw[show o+l*s'+i*s'+j=o+(l+i)*s'+j from by rw[ZIp];omega];exact this;have:=hp (l+i) j ω hj;rw[show o+l*s'+i*s'+j=o+(l+i)*s'+j from by rw[ZIp];omega];exact this
 .
  rename_i bb o n cap s';split at hq<;>(try(simp at hq;done));rename_i ai;subst ai;simp only[ZHQ,ZH2]at hq;obtain⟨rfl,rfl⟩:=hq;obtain⟨a,b,c,d⟩:=hs;cases hx with
  |mslx av _ _ _ =>have hb:=Zbi (P:=P) (is:=true) (n:=0) (cap:=0) h1 h2 h3 hmh a b c d;have e3:mx'.getD ((0:Nat):Int)=0:=ω;have e2:hi'.getD ((0:Nat):Int)=0:=ω;have e1:lo'.getD 0=0:=ω;refine⟨.slice (sO av) 0 0,?_,?_⟩;simp only[Instr.sliceAt,Sem.run_bind,run_underlying hu,Result.andThen_ok,Instr.slice,hb];simp only[Int.natCast_zero]at e2 e3;simp[e1,e2,e3,YV hsz];rw[e1,e2,e3];exact .mslx _ _ _ _
  |msl _ _ _ _ _ hn hb' =>have hb:=Zbi (P:=P) (is:=true) (n:=n) (cap:=cap) h1 h2 h3 hmh a b c d;simp only[Instr.sliceAt,Sem.run_bind,run_underlying hu,Result.andThen_ok,Instr.slice,hb];simp only[YV hsz,Result.andThen_ok,Sem.run_pure];generalize al:lo'.getD 0=l at *;generalize ak:hi'.getD (n:Int)=h at *;generalize ah:mx'.getD (cap:Int)=m at *;obtain⟨l,rfl⟩:=Int.eq_ofNat_of_zero_le a;obtain⟨h,rfl⟩:=Int.eq_ofNat_of_zero_le (show 0<=h by omega);obtain⟨m,rfl⟩:=Int.eq_ofNat_of_zero_le (show 0<=m by omega);simp only[Int.toNat_natCast,show((h:Int)-(l:Int)).toNat=h-l by omega,show((m:Int)-(l:Int)).toNat=m-l by omega];refine⟨_,rfl,?_⟩;by_cases ac:m=l;subst ac;simp only[if_true];exact .msl _ _ _ _ _ ω ω;have:¬(m:Int)=l:=ω;simp only[ac,this,if_false,Option.map_some,Kz];exact .msl _ _ _ _ _ ω ω
end
section
variable {P:Program} {g:G} {Z:Nat->Nat} {w:World} {L:Loc} {U:St}
def ZqL{s k f}(h:Zht P s k=sO f):∃i,P.underlying s=sO (.struct i)/\i[k]?=sO f:=by
 unfold Zht at h;split at h;rename_i i o;exact⟨i,o,h⟩;simp at h
def Zuh{s k n f x e r side}(hf:Zht P s k=sO f)(hsz:ZX P f.type=sO n)(hn:n≠0)(hx:ZM g Z w L x e)(t:qv L U (.faddr f.offset) [e]=sO (side,r)):∃v,(Instr.fieldAt s x k).run P w=.ok v w/\ZM g Z w L v r:=by
 obtain⟨fs,hu,hk⟩:=ZqL hf;have run:∀b o,(Instr.fieldAt s (.pointer (sO ⟨b,o,nO⟩)) k).run P w=.ok (.pointer (sO ⟨b,o+f.offset,nO⟩)) w:=λb o=>by simp[Instr.fieldAt,run_underlying hu,hk,Instr.sureAddr,fieldPlace,YV hsz,hn,Kz]
 cases e with
 |d y =>
  cases y<;>simp only[qv,reduceCtorEq,ZHQ,ZH2]at t
  .rename_i cells i;obtain⟨rfl,rfl⟩:=t;cases hx with
   |ep b o _ _ f' u h2 h3 one =>have:=Rep.ep (g:=g) (w:=w) b o (i+f.offset) cells f' u h2 h3 one;exact⟨_,run _ _,by rw[Nat.add_assoc];exact this⟩
  obtain⟨rfl,rfl⟩:=t;cases hx;exact⟨_,run _ _,.ptr _ _⟩
 |loc l o =>simp only[qv,ZHQ,ZH2]at t;obtain⟨rfl,rfl⟩:=t;obtain⟨u,rfl⟩:=hx;exact⟨_,run _ _,u,rfl⟩
 |when b e=>simp[qv]at t
def Zui{t e n x i ex ei r side}(hu:P.underlying t=sO (.slice e))(hsz:ZX P e=sO n)(hx:ZM g Z w L x ex)(hi:ZM g Z w L i ei)(hq:qv L U (.iaddr n) [ex,ei]=sO (side,r))(hs:side):∃v,(Instr.indexAt t x i).run P w=.ok v w/\ZM g Z w L v r:=by
 cases ex with
 |d y =>
  cases y<;>(try(simp[qv]at hq;done))
  .rename_i tk m s' row;cases ei with
   |d z =>
    cases z<;>simp only[qv,reduceCtorEq]at hq;rename_i k j;obtain⟨rfl,ad⟩:=QG hi;split at hq<;>(try(simp at hq;done));rename_i ac;subst ac;simp only[ZHQ,ZH2]at hq;obtain⟨rfl,rfl⟩:=hq;obtain⟨h0,h1⟩:=hs;cases hx with
    |sl0=>omega
    |sl b o _ cap _ _ _ f hl hc hp hr one ht hcap hbig =>
     have ab:j.toNat<m:=ω;have:=Rep.ep (g:=g) (w:=w) b (o+j.toNat*s') 0 (row j.toNat) (λc=>f j.toNat c) (λc u=>by
      rw[hl _ ab]at u;exact hc _ _ ab u) (λc u=>by rw[hl _ ab]at u;exact hp _ _ ab u) (λc d hd=>hr _ _ _ ab hd) (λc u=>by rw[hl _ ab]at u;exact one _ _ ab u)
     refine⟨_,?_,this⟩;simp[Instr.indexAt,asIntOf,run_underlying hu,h0,h1,YV hsz,Kz]
   |loc l o=>simp[qv]at hq
   |when b e=>simp[qv]at hq
  rename_i b o m cap s';cases ei with
  |d z =>
   cases z<;>simp only[qv,reduceCtorEq]at hq;rename_i k j;obtain⟨rfl,ad⟩:=QG hi;split at hq<;>(try(simp at hq;done));rename_i ac;subst ac;simp only[ZHQ,ZH2]at hq;obtain⟨rfl,rfl⟩:=hq;obtain⟨h0,h1⟩:=hs;cases hx<;>try omega
   refine⟨_,?_,Rep.ptr b (o+j.toNat*s')⟩;simp[Instr.indexAt,asIntOf,run_underlying hu,h0,h1,YV hsz,Kz]
  |loc l o=>simp[qv]at hq
  |when b e=>simp[qv]at hq
 |loc l o=>cases ei<;>simp[qv]at hq
 |when b e=>cases ei<;>simp[qv]at hq
def Ztu{t e m n x i ex ei r side}(hu:P.underlying t=sO (.array m e))(hsz:ZX P e=sO n)(hx:ZM g Z w L x ex)(hi:ZM g Z w L i ei)(hq:qv L U (.iaddrA m n) [ex,ei]=sO (side,r))(hs:side):∃v,(Instr.indexAt t x i).run P w=.ok v w/\ZM g Z w L v r:=by
 cases ei with
 |d z =>
  cases z<;>(try(cases ex<;>(try(rename_i y;cases y))<;>simp[qv]at hq;done));rename_i k j;obtain⟨rfl,hin⟩:=QG hi;have run:∀b o,(0<=j/\j<(m:Int))->(Instr.indexAt t (.pointer (sO ⟨b,o,nO⟩)) (.int k j)).run P w=.ok (.pointer (sO ⟨b,o+j.toNat*n,nO⟩)) w:=λb o h=>by simp[Instr.indexAt,asIntOf,run_underlying hu,h.1,h.2,YV hsz,Kz,Instr.sureAddr]
  cases ex with
  |d y =>
   cases y<;>simp only[qv,reduceCtorEq,ZHQ,ZH2]at hq
   .rename_i cells u;obtain⟨rfl,rfl⟩:=hq;cases hx with
    |ep b o _ _ f' h1 h2 h3 one =>have:=Rep.ep (g:=g) (w:=w) b o (u+j.toNat*n) cells f' h1 h2 h3 one;exact⟨_,run _ _ hs,by rw[Nat.add_assoc];exact this⟩
   rename_i b o;obtain⟨rfl,rfl⟩:=hq;cases hx;exact⟨_,run _ _ hs,Rep.ptr _ _⟩
  |loc l o =>simp only[qv,ZHQ,ZH2]at hq;obtain⟨rfl,rfl⟩:=hq;obtain⟨h1,rfl⟩:=hx;exact⟨_,run _ _ hs,h1,rfl⟩
  |when b e=>simp[qv]at hq
 |loc l o=>cases ex<;>(try(rename_i y;cases y))<;>simp[qv]at hq
 |when b e=>cases ex<;>(try(rename_i y;cases y))<;>simp[qv]at hq
def ev{s e}(h:∃v,s.run P w=.ok v w/\ZM g Z w L v e):
  ∃v,(do pure (Next.value (<-s)):Sem Next).run P w=.ok (.value v) w/\ZM g Z w L v e:=Zye.next h
def Zul{x e r side op ρv}(hv:ρv op=x)(u:ZM g Z w L x e)(t:qv L U .nilck [e]=sO (side,r))(dst ty pos)(af gd):∃v,(execOp ρv ⟨dst,.nilCheck op,ty,pos,af,gd⟩).run P w=.ok (.value v) w/\ZM g Z w L v r:=by
 subst hv;cases e with
 |d y =>cases y<;>simp only[qv,reduceCtorEq,ZHQ,ZH2]at t;obtain⟨rfl,rfl⟩:=t;refine⟨_,?_,u⟩;have i:Rep g w (ρv op) _:=u;generalize hz:ρv op=z at i;cases i;simp[execOp,hz];obtain⟨rfl,rfl⟩:=t;refine⟨_,?_,u⟩;have i:Rep g w (ρv op) _:=u;generalize hz:ρv op=z at i;cases i;simp[execOp,hz];rename_i fn fs cs;refine⟨ρv op,?_,?_⟩;have i:Rep g w (ρv op) _:=u;generalize hz:ρv op=z at i;cases i;cases fn<;>simp at t;simp[execOp,hz];simp[execOp,hz];cases fn<;>simp at t;obtain⟨_,rfl⟩:=t;exact u;obtain⟨_,rfl⟩:=t;exact u
 |loc l o =>simp only[qv,ZHQ,ZH2]at t;obtain⟨rfl,rfl⟩:=t;refine⟨_,?_,u⟩;obtain⟨_,h2⟩:=u;simp[execOp,h2]
 |when b e=>simp[qv]at t
end
section
variable {P:Program} {g:G} {Z:Nat->Nat} {w:World} {L:Loc} {U:St}
def Zh1{ρv lo hi mx es l h m}(hes:ZN (ZM g Z w L) ((Jf lo++Jf hi++Jf mx).map ρv) es)(hl:K2 [lo.isSome,hi.isSome,mx.isSome] es=sO [l,h,m]):JU g w (lo.map ρv) l/\JU g w (hi.map ρv) h/\JU g w (mx.map ρv) m:=by
 have step:∀(o:Option Operand) (rest:List Operand) (es:List E) (bs:List Bool) (r:List (Option Int)),ZN (ZM g Z w L) ((Jf o++rest).map ρv) es->K2 (o.isSome::bs) es=sO r ->
   ∃x r' es',r=x::r'/\JU g w (o.map ρv) x/\K2 bs es'=sO r'/\ZN (ZM g Z w L) (rest.map ρv) es':=by
  intro o rest es bs r hes hl;cases o with
  |none =>simp only[Option.isSome_none,K2,ZH8]at hl;obtain⟨r',i,rfl⟩:=hl;exact⟨nO,r',es,rfl,trivial,i,by simpa[Jf]using hes⟩
  |some x =>
   simp only[Jf,Option.toList_some,List.singleton_append,ZIo]at hes;cases hes with
   |cons hx ht =>
    rename_i e es;cases e with
    |d y =>cases y<;>simp only[Option.isSome_some,K2,reduceCtorEq,ZH8]at hl;obtain⟨r',i,rfl⟩:=hl;exact⟨_,r',es,rfl,⟨_,hx⟩,i,ht⟩
    |loc l o=>simp[K2]at hl
    |when c e=>simp[K2]at hl
 rw[ZIh]at hes;obtain⟨x,r1,ab,e1,b1,ad,t⟩:=step lo _ es _ _ hes hl;obtain⟨y,r2,ac,e2,b2,ae,u⟩:=step hi _ ab _ _ t ad;obtain⟨z,r3,es3,e3,b3,hl3,hes3⟩:=step mx [] ac _ _ (by simpa using u) ae;subst e2;subst e3;simp only[List.cons.injEq]at e1;obtain⟨rfl,rfl,rfl,rfl⟩:=e1;exact⟨b1,b2,b3⟩
def Zlg{v l}(h:Rep g w v (.str l)):∃s:ByteArray,v=.string s/\s.data.toList=l/\I l<=big:=by
 cases h with
 |str s _ h hb=>exact⟨s,rfl,h,hb⟩
def Zcx{v b}(h:Rep g w v (.bool b)):v=.bool b:=by
 cases h;rfl
def Ztx{t}(hu:P.underlying t=sO .string){ρv x lo hi es}(hes:ZN (ZM g Z w L) ((x::(Jf lo++Jf hi)).map ρv) es){side r}(hq:qv L U (.sliceS lo.isSome hi.isSome) es=sO (side,r))(hs:side):
  ∃v,(Instr.sliceAt t (ρv x) (lo.map ρv) (hi.map ρv) nO).run P w=.ok v w/\ZM g Z w L v r:=by
 simp only[ZIo]at hes;cases hes with
 |cons hx ht =>
  rename_i e es;cases e with
  |loc l o=>simp[qv]at hq
  |when c e=>simp[qv]at hq
  |d y =>
   cases y<;>(try(simp[qv]at hq;done));rename_i s;simp only[qv]at hq;split at hq;rename_i l h m hl;simp only[ZHQ,ZH2]at hq;obtain⟨rfl,rfl⟩:=hq;obtain⟨b1,b2,b3⟩:=Zh1 (mx:=nO) (by simpa[Jf]using ht) hl;obtain⟨a,b,c⟩:=hs;obtain⟨s0,u,e0,hb0⟩:=Zlg hx;have i:s0.size=I s:=by rw[<-e0];rfl
   have hb:=Zbi (P:=P) (is:=false) (n:=s0.size) (cap:=s0.size) (mx:=nO) (mx':=nO) b1 b2 trivial ψ a (by rw[i];exact b) (by rw[i];simpa using c) ψ;simp only[Instr.sliceAt,Sem.run_bind,run_underlying hu,Result.andThen_ok,Instr.slice,u];simp only[Option.isSome_none,ZIx,if_false,hb,Result.andThen_ok,Sem.run_pure,Sem.run_bind];refine⟨_,rfl,.str _ _ ?_ ?_⟩;rw[i];simp only[ByteArray.data_extract,Array.toList_extract,List.extract_eq_take_drop,e0];simp;omega;simp at hq
def Zum{t el n}(hu:P.underlying t=sO (.slice el))(hsz:ZX P el=sO n){ρv x lo hi mx es}(hmh:mx.isSome=true->hi.isSome=true)(hes:ZN (ZM g Z w L) ((x::(Jf lo++Jf hi++Jf mx)).map ρv) es){side r}(u:qv L U (.slice n lo.isSome hi.isSome mx.isSome) es=sO (side,r))(hs:side):
  ∃v,(Instr.sliceAt t (ρv x) (lo.map ρv) (hi.map ρv) (mx.map ρv)).run P w=.ok v w/\ZM g Z w L v r:=by
 simp only[ZIo]at hes;cases hes with
 |cons hx ht =>
  rename_i e es;cases e with
  |loc l o=>simp[qv]at u
  |when c e=>simp[qv]at u
  |d y =>simp only[qv]at u;split at u;rename_i l h m hl;simp only[ZH8,ZH2]at u;obtain⟨⟨s',r'⟩,i,rfl,rfl⟩:=u;obtain⟨b1,b2,b3⟩:=Zh1 ht hl;exact Zzw hu hsz hx b1 b2 b3 (by simpa using hmh) i hs;simp at u
def Ztw{t el k n}(hu:P.underlying t=sO (.array k el))(hsz:ZX P el=sO n){ρv x lo hi mx es}(hmh:mx.isSome=true->hi.isSome=true)(hes:ZN (ZM g Z w L) ((x::(Jf lo++Jf hi++Jf mx)).map ρv) es){side r}(hq:qv L U (.sliceA k n lo.isSome hi.isSome mx.isSome) es=sO (side,r))(hs:side):
  ∃v,(Instr.sliceAt t (ρv x) (lo.map ρv) (hi.map ρv) (mx.map ρv)).run P w=.ok v w/\ZM g Z w L v r:=by
 simp only[ZIo]at hes;cases hes with
 |cons hx ht =>
  rename_i e es;cases e with
  |loc l o=>simp[qv]at hq
  |when c e=>simp[qv]at hq
  |d y =>
   cases y<;>(try(simp[qv]at hq;done));rename_i b o;simp only[qv]at hq;split at hq;rename_i l h m hl;simp only[ZHQ,ZH2]at hq;obtain⟨rfl,rfl⟩:=hq;obtain⟨b1,b2,b3⟩:=Zh1 ht hl;obtain⟨h1,h2,h3,h4,h5⟩:=hs;have hb:=Zbi (P:=P) (is:=false) (n:=k) (cap:=k) b1 b2 b3 (by simpa using hmh) h1 h2 h3 h4;have ac:ρv x=.pointer (sO ⟨b,o,nO⟩):=by have ab:Rep g w (ρv x) (.ptr b o):=hx;generalize ρv x=xv at ab;cases ab;rfl
   have u:Rep g w (.slice (sO ⟨b,(if m.getD (k:Int)=l.getD 0 then o else o+(l.getD 0).toNat*n),nO⟩) (h.getD (k:Int)-l.getD 0).toNat (m.getD (k:Int)-l.getD 0).toNat)
     (.msl b (if m.getD (k:Int)=l.getD 0 then o else o+(l.getD 0).toNat*n) (h.getD (k:Int)-l.getD 0).toNat (m.getD (k:Int)-l.getD 0).toNat n):=.msl _ _ _ _ _ ω ω
   refine⟨_,?_,u⟩;have e1:(h.getD (k:Int)-l.getD 0).toNat=(h.getD (k:Int)).toNat-(l.getD 0).toNat:=ω;have e2:(m.getD (k:Int)-l.getD 0).toNat=(m.getD (k:Int)).toNat-(l.getD 0).toNat:=ω;by_cases hm:m.getD (k:Int)=l.getD 0;have i:(m.getD (k:Int)).toNat=(l.getD 0).toNat:=ω;simp only[Instr.sliceAt,ac,Instr.sureAddr,Sem.run_bind,run_underlying hu,Result.andThen_ok,Sem.run_pure,hb,YV hsz,hm,if_true,e1,i];simp;have i:¬(m.getD (k:Int)).toNat=(l.getD 0).toNat:=ω;simp only[Instr.sliceAt,ac,Instr.sureAddr,Sem.run_bind,run_underlying hu,Result.andThen_ok,Sem.run_pure,hb,YV hsz,hm,i,if_false,e1,e2,Kz];simp at hq
end
section
variable {P:Program} {g:G} {Z:Nat->Nat} {w:World} {L:Loc} {U:St}
def ZqK{s k f x e r side q}(hf:Zht P s k=sO f)(u:(ZaD P f.type=sO true/\∃n,ZX P f.type=sO n/\q=.fldN f.offset n)\/(ZaD P f.type=sO false/\q=.fld1 f.offset))(hx:ZM g Z w L x e)(i:qv L U q [e]=sO (side,r))(hs:side):∃v,(Instr.field s x k).run P w=.ok v w/\ZM g Z w L v r:=by
 obtain⟨fs,hu,hk⟩:=ZqL hf;rcases u with ⟨t,n,hn,rfl⟩|⟨t,rfl⟩
 .cases e with
  |d y =>
   cases y<;>simp only[qv,reduceCtorEq,ZHQ,ZH2]at i;obtain⟨rfl,rfl⟩:=i;cases hx with
   |agg vs cells hl h one =>
    rename_i cs;refine⟨.agg (vs.toArray.extract f.offset (f.offset+n)),?_,?_⟩;simp[Instr.field,run_underlying hu,hk,asAgg,Go.part,Zgd t,YV hn];have:vs.toArray.extract f.offset (f.offset+n)=((vs.drop f.offset).take n).toArray:=by apply Array.ext';simp[List.extract_eq_take_drop,Nat.add_sub_cancel_left]
    rw[this];exact Zld (by simpa[part]using((Yn hl h).drop f.offset).take n) (λv hv=>one v (List.mem_of_mem_drop (List.mem_of_mem_take (by simpa using hv))))
  |loc l o=>simp[qv]at i
  |when b e=>simp[qv]at i
 cases e with
 |d y =>
  cases y<;>simp only[qv,reduceCtorEq,ZH8,ZH2]at i;obtain⟨d,hd,rfl,rfl⟩:=i;cases hx with
  |agg vs cells hl h one =>obtain⟨v,hv,hr⟩:=Zcy hl h hd;exact⟨v,by simp[Instr.field,run_underlying hu,hk,asAgg,Go.part,ZeM t,hv],hr⟩
 |loc l o=>simp[qv]at i
 |when b e=>simp[qv]at i
def Zwc{t x i ex ei r side}(hu:P.underlying t=sO .string)(hx:ZM g Z w L x ex)(hi:ZM g Z w L i ei)(hq:qv L U .idxS [ex,ei]=sO (side,r))(hs:side):∃v,(Instr.index t x i).run P w=.ok v w/\ZM g Z w L v r:=by
 cases ex with
 |d y =>
  cases y<;>(try(simp[qv]at hq;done));rename_i s;cases ei with
  |d z =>
   cases z<;>simp only[qv,reduceCtorEq,ZHQ,ZH2]at hq;rename_i k j;obtain⟨rfl,hin⟩:=QG hi;obtain⟨s0,rfl,e0,hb⟩:=Zlg hx;obtain⟨rfl,rfl⟩:=hq;obtain⟨h0,h1⟩:=hs;have hsz:s0.size=I s:=by rw[<-e0];rfl
   have ab:j.toNat<s0.size:=ω;have u:s0[j.toNat]?=sO (s.getD j.toNat 0):=by
    have h3:j.toNat<I s:=ω;have:s0[j.toNat]?=s0.data.toList[j.toNat]?:=by rw[getElem?_pos s0 j.toNat ab,Array.getElem?_toList,Array.getElem?_eq_getElem (show j.toNat<s0.data.size from ab)];rfl
    rw[this,e0];simp[ZH6,ZIn h3]
   refine⟨_,?_,.int _ _ (Zsz _)⟩;simp[Instr.index,asIntOf,run_underlying hu,h0,u]
  |loc l o=>simp[qv]at hq
  |when b e=>simp[qv]at hq
 |loc l o=>cases ei<;>simp[qv]at hq
 |when b e=>cases ei<;>simp[qv]at hq
def Zwb{t e m n b x i ex ei r side}(hu:P.underlying t=sO (.array m e))(ha:ZaD P e=sO b)(hsz:ZX P e=sO n)(hx:ZM g Z w L x ex)(hi:ZM g Z w L i ei)(hq:qv L U (.idxA m n !b) [ex,ei]=sO (side,r))(hs:side):∃v,(Instr.index t x i).run P w=.ok v w/\ZM g Z w L v r:=by
 cases ex with
 |d y =>
  cases y<;>(try(cases b<;>simp[qv]at hq;done));rename_i cs;cases ei with
  |d z =>
   cases z<;>(try(cases b<;>simp[qv]at hq;done));rename_i k j;obtain⟨rfl,hin⟩:=QG hi;cases hx with
   |agg vs _ hn h one =>
   cases b with
   |false =>
    simp only[Bool.not_false,qv,ZH8,ZH2]at hq;obtain⟨d,hd,rfl,rfl⟩:=hq;obtain⟨h0,h1⟩:=hs;obtain⟨v,hv,hr⟩:=Zcy hn h hd;refine⟨v,?_,hr⟩;simp only[Instr.index,asIntOf,Sem.run_bind,Sem.run_pure,Result.andThen_ok,run_underlying hu,YV hsz];rw[if_pos ⟨h0,h1⟩];have ac:vs.toArray[j.toNat*n]?=sO v:=by rw[List.getElem?_toArray];exact hv
    rw[Sem.run_bind,YV hsz];exact ZdK ha ac
   |true =>
    simp only[Bool.not_true,qv,ZHQ,ZH2]at hq;obtain⟨rfl,rfl⟩:=hq;obtain⟨h0,h1,h2⟩:=hs;have hlen:j.toNat*n+n<=I vs:=ω;refine⟨.agg (vs.toArray.extract (j.toNat*n) (j.toNat*n+n)),?_,?_⟩;simp only[Instr.index,asIntOf,Sem.run_bind,Sem.run_pure,Result.andThen_ok,run_underlying hu,YV hsz];rw[if_pos ⟨h0,h1⟩];simp[Go.part,Zgd ha,YV hsz];have:(vs.toArray.extract (j.toNat*n) (j.toNat*n+n))=((vs.drop (j.toNat*n)).take n).toArray:=by apply Array.ext';simp[List.extract_eq_take_drop]
    rw[this];have ab:part cs (j.toNat*n) n=(cs.drop (j.toNat*n)).take n:=rfl;rw[ab];have u:=(Yn hn h).drop (j.toNat*n) |>.take n;exact .agg _ _ u.len u.get (λv hv=>one v (List.mem_of_mem_drop (List.mem_of_mem_take hv)))
  |loc l o=>cases b<;>simp[qv]at hq
  |when c e=>cases b<;>simp[qv]at hq
 |loc l o=>cases ei<;>cases b<;>simp[qv]at hq
 |when c e=>cases ei<;>cases b<;>simp[qv]at hq
def Zwg{t ts x e r side}(ht:ts[0]?=sO t)(hu:P.underlying t=sO .string)(hx:ZM g Z w L x e)(u:qv L U .lenS [e]=sO (side,r))(ty):∃v,(Builtin.len_ ts ty #[x]).run P w=.ok v w/\ZM g Z w L v r:=by
 cases e with
 |d y =>
  cases y<;>simp only[qv,reduceCtorEq,ZHQ,ZH2]at u;obtain⟨rfl,rfl⟩:=u;obtain⟨s0,rfl,e0,hb⟩:=Zlg hx;rename_i s;have i:s0.size=I s:=by rw[<-e0];rfl
  refine⟨_,?_,.int _ _ (Q7 hb)⟩;simp[Builtin.len_,ht,run_underlying hu,goInt,i]
 |loc l o=>simp[qv]at u
 |when b e=>simp[qv]at u
def Zwe{t el ts x e r side}(u:ts[0]?=sO t)(hu:P.underlying t=sO (.slice el))(hx:ZM g Z w L x e)(i:qv L U .lenL [e]=sO (side,r))(ty):∃v,(Builtin.len_ ts ty #[x]).run P w=.ok v w/\ZM g Z w L v r:=by
 cases e with
 |d y =>
  cases y<;>simp only[qv,reduceCtorEq,ZHQ,ZH2]at i;obtain⟨rfl,rfl⟩:=i;cases hx;exact⟨_,by simp[Builtin.len_,u,run_underlying hu,goInt],.int _ _ (Q7 (n:=0) (Nat.zero_le _))⟩
  .obtain⟨rfl,rfl⟩:=i;cases hx with
   |sl0=>exact⟨_,by simp[Builtin.len_,u,run_underlying hu,goInt],.int _ _ (Q7 (n:=0) (Nat.zero_le _))⟩
   |sl b o _ cap _ _ _ f hl hc hp hr one ht' hcap hbig =>exact⟨_,by simp[Builtin.len_,u,run_underlying hu,goInt],.int _ _ (Q7 ω)⟩
  obtain⟨rfl,rfl⟩:=i;cases hx with
  |mslx=>exact⟨_,by simp[Builtin.len_,u,run_underlying hu,goInt],.int _ _ (Q7 (n:=0) (Nat.zero_le _))⟩
  |msl _ _ _ _ _ h1 h2=>exact⟨_,by simp[Builtin.len_,u,run_underlying hu,goInt],.int _ _ (Q7 ω)⟩
 |loc l o=>simp[qv]at i
 |when b e=>simp[qv]at i
def Zwd{t u n o x e r side}(ht:o[0]?=sO t)(hu:P.underlying t=sO (.array n u))(i:qv L U (.lenA n) [e]=sO (side,r))(hs:side)(ty):∃v,(Builtin.len_ o ty #[x]).run P w=.ok v w/\ZM g Z w L v r:=by
 simp only[qv,ZHQ,ZH2]at i;obtain⟨rfl,rfl⟩:=i;refine⟨.i n,?_,.int _ _ hs⟩;simp only[Builtin.len_,ht];cases x<;>simp[run_underlying hu,goInt]
def ZkD{x y ex t r side}(mx:Bool)(hx:ZM g Z w L x ex)(hy:ZM g Z w L y t)(i:qv L U (if mx then .max else .min) [ex,t]=sO (side,r))(ts ty):
  ∃v,(if mx then Builtin.max_ ts ty #[x,y] else Builtin.min_ ts ty #[x,y]).run P w=.ok v w/\ZM g Z w L v r:=by
 cases ex with
 |d a =>
  cases a<;>(try(cases mx<;>simp[qv]at i;done));rename_i k n;cases t with
  |d b =>
   cases b<;>(try(cases mx<;>simp[qv]at i;done));rename_i k' m;obtain⟨rfl,h1⟩:=QG hx;obtain⟨rfl,h2⟩:=QG hy;cases mx
   .simp only[qv,ZIx,if_false]at i;split at i<;>(try(simp at i;done));rename_i u;subst u;simp only[ZHQ,ZH2]at i;obtain⟨rfl,rfl⟩:=i;refine⟨.int k (Min.min n m),?_,.int _ _ ?_⟩;have:(if m<n then m else n)=Min.min n m:=by split<;>omega
    simp[Builtin.min_,Builtin.min2,this];unfold inR at *;omega
   simp only[qv,if_true]at i;split at i<;>(try(simp at i;done));rename_i u;subst u;simp only[ZHQ,ZH2]at i;obtain⟨rfl,rfl⟩:=i;refine⟨.int k (Max.max n m),?_,.int _ _ ?_⟩;have:(if m > n then m else n)=Max.max n m:=by split<;>omega
   simp[Builtin.max_,Builtin.max2,this];unfold inR at *;omega
  |loc l o=>cases mx<;>simp[qv]at i
  |when b e=>cases mx<;>simp[qv]at i
 |loc l o=>cases mx<;>cases t<;>simp[qv]at i
 |when b e=>cases mx<;>cases t<;>simp[qv]at i
def Zrm{x t xt ok z e r side}(hu:∃d,P.underlying t=sO d/\∀ms,d≠.interface ms)(hz:Zd7 P t=sO z)(hx:ZM g Z w L x e)(hq:qv L U (.tassert t ok z) [e]=sO (side,r)):∃v,(Instr.typeAssert x xt t ok).run P w=.ok v w/\ZM g Z w L v r:=by
 obtain⟨d,hu,u⟩:=hu;have ac:∃zv,(zeroValue t).run P w=.ok zv w/\Rep g w zv z:=by
  unfold Zd7 at hz;cases hi:P.info? t with
  |none=>simp[hi]at hz
  |some i =>
   cases ad:i.zero with
   |none=>simp[hi,ad]at hz
   |some zv=>simp only[hi,ad]at hz;exact⟨zv,by simp[zeroValue,typeInfo,hi,ad],ZjA hz⟩
 cases e with
 |d y =>
  cases y<;>(try(cases ok<;>simp[qv]at hq;done))
  .rename_i t' v';cases hx with
   |iface _ v _ hv =>
    cases ok;·simp only[qv]at hq;split at hq<;>(try(simp at hq;done));rename_i ab;subst ab;simp only[ZHQ,ZH2]at hq;obtain⟨rfl,rfl⟩:=hq;refine⟨v,?_,hv⟩;simp only[Instr.typeAssert,Sem.run_bind,run_underlying hu,Result.andThen_ok];cases d<;>first|(simp;done)|(exact absurd rfl (u _))
    simp only[qv]at hq;split at hq<;>(try(simp at hq;done));rename_i ab;subst ab;simp only[ZHQ,ZH2]at hq;obtain⟨rfl,rfl⟩:=hq;refine⟨.tuple #[v,.bool true],?_,?_⟩;·simp only[Instr.typeAssert,Sem.run_bind,run_underlying hu,Result.andThen_ok];cases d<;>first|(simp;done)|(exact absurd rfl (u _))
    exact .tup [v,.bool true] _ rfl (ZN.get (.cons hv (.cons (.bool true) .nil)))
  cases hx;cases ok;simp[qv]at hq;simp only[qv,ZHQ,ZH2]at hq;obtain⟨rfl,rfl⟩:=hq;obtain⟨zv,h1,h2⟩:=ac;refine⟨.tuple #[zv,.bool false],?_,?_⟩;·simp only[Instr.typeAssert,Sem.run_bind,run_underlying hu,Result.andThen_ok];cases d<;>first|(simp[h1];done)|(exact absurd rfl (u _))
  exact .tup [zv,.bool false] _ rfl (ZN.get (.cons h2 (.cons (.bool false) .nil)))
 |loc l o=>cases ok<;>simp[qv]at hq
 |when b e=>cases ok<;>simp[qv]at hq
end
section
variable {P:Program} {g:G} {w:World}
def Zcl{t k}(h:QH P t=sO k):(k=.bool/\P.underlying t=sO .bool)\/(k=.int/\∃ik,P.underlying t=sO (.int ik))\/(k=.str/\P.underlying t=sO .string):=by
 unfold QH at h;split at h<;>simp at h<;>subst h<;>rename_i i;exact .inl ⟨rfl,i⟩;exact .inr (.inl ⟨rfl,_,i⟩);exact .inr (.inr ⟨rfl,i⟩)
def ZeT{t kp}(h:ZaH P t=sO kp):(∃k,kp=.sc k/\QH P t=sO k) \/
  ∃i l n,kp=.st l/\P.underlying t=sO (.struct i)/\ZX P t=sO n/\KU P i.toList=sO l/\l.map (·.1)=ZH5 n/\P.stoodInHeld t=false:=by
 unfold ZaH at h;split at h;rename_i k r;simp at h;exact .inl ⟨k,h.symm,r⟩;split at h<;>(try(simp at h;done));rename_i i n hu hn;split at h<;>(try(simp at h;done));rename_i l u;split at h<;>simp at h;rename_i o;exact .inr ⟨i,l,n,h.symm,hu,hn,u,o.1,o.2⟩
def Zmc{t kp}(hk:ZaH P t=sO kp){k1 k2 u d2}(h1:Rep g w k1 u)(h2:Rep g w k2 d2){b}(h:K6 kp u d2=sO b):
  (Op.equal t k1 k2).run P w=.ok b w:=by
 rcases ZeT hk with ⟨k,rfl,hs⟩|⟨fs,l,n,rfl,hu,hn,hl,_,r⟩;exact Zg5 hs h1 h2 h 9999;cases h1<;>cases h2<;>simp only[K6,reduceCtorEq]at h;rename_i v1 xs i r1 o1 v2 ys o r2 o2;split at h<;>(try(simp at h;done));have hf:P.underlying t=sO (.struct (P.fieldsOf t)):=by simp[Program.fieldsOf,hu]
 refine(run_equalIn_struct w 9999 t _ _ hf r).trans ?_;simp only[Program.fieldsOf,hu];exact ZdY i o r1 r2 9998 _ l b hl h
def ZdB(em n){vs:List Value}{ds}(hn:I vs=I ds):∀(fs l b),KU P fs=sO l->Kk ds ds l=sO b ->
  (do
   for f in fs do
    if f.name ≠ "_" then Instr.checkKey em (n+1) f.type (<-Go.part f.type vs.toArray f.offset):Sem Unit).run P w=.ok () w
 | [],_,_,_,_=>by simp
 |f::fs,l,b,hl,hb=>by
  simp only[KU]at hl;by_cases u:f.name = "_";simp only[u,if_true]at hl;have:=ZdB em n hn fs l b hl hb;simp only[List.forIn_cons,u,ne_eq,not_true_eq_false,if_false,Sem.run_bind,Sem.run_pure,Result.andThen_ok]at this⊢;exact this;simp only[u,if_false]at hl;split at hl<;>simp only[ZHQ,reduceCtorEq]at hl;rename_i k l' hk r;subst hl;simp only[Kk]at hb;split at hb<;>(try(simp at hb;done));rename_i x y hx hy;split at hb<;>(try(simp at hb;done));rename_i b1 b2 hb1 i;have ih:=ZdB em n hn fs l' b2 r i;have t:f.offset<I vs:=by rw[hn];exact(List.getElem?_eq_some_iff.1 hx).1
  have hv:vs.toArray[f.offset]?=sO vs[f.offset]:=by simp[t]
  have hp:=ZdK (P:=P) (w:=w) (Zb7 hk) hv;have o:(Instr.checkKey em (n+1) f.type vs[f.offset]).run P w=.ok () w:=by rcases Zcl hk with ⟨_,hu⟩|⟨_,ik,hu⟩|⟨_,hu⟩<;>simp[Instr.checkKey,run_underlying hu]
  simp only[List.forIn_cons,u,ne_eq,not_false_eq_true,if_true,Sem.run_bind,hp,Result.andThen_ok,o,Sem.run_pure]at ih⊢;exact ih
def Zr2{kt kp}(hk:ZaH P kt=sO kp){k d}(h:Rep g w k d)(i:JK kp d=true)(em n):(Instr.checkKey em (n+2) kt k).run P w=.ok () w:=by
 rcases ZeT hk with ⟨sk,rfl,hs⟩|⟨fs,l,m,rfl,t,hn,hl,_,hst⟩;rcases Zcl hs with ⟨_,t⟩|⟨_,ik,t⟩|⟨_,t⟩<;>simp[Instr.checkKey,run_underlying t];cases h<;>simp[JK,K6]at i;rename_i vs cells hn r o;obtain⟨b,u⟩:=Option.isSome_iff_exists.1 i;split at u<;>(try(grind;done));have:=ZdB (P:=P) (w:=w) em n hn fs.toList l b hl u;rw[Instr.checkKey];simp[run_underlying t];first
  | (simp at this;simp[this])
  |simp
def ZbW{o kp}(r:ZaH P o=sO kp){k d}(h:Rep g w k d)(i:JK kp d=true)(em):(Instr.checkKey em 10000 o k).run P w=.ok () w:=Zr2 r h i em 9998
def Zqk{kp k}:∀{es r},ZeO kp k es=sO r->∃o,Ju kp k es=sO o/\r=o.bind λi=>(es[i]?).map (·.2)
 | [],r,h=>by simp[ZeO]at h;exact⟨nO,rfl,h.symm⟩
 |e::es,r,h=>by simp[ZeO]at h;split at h;rename_i t;simp at h;exact⟨sO 0,by simp[Ju,t],by simp[h]⟩;rename_i t;obtain⟨o,u,h2⟩:=Zqk h;refine⟨o.map (· + 1),by simp[Ju,t,u],?_⟩;rw[h2];cases o<;>simp;grind
def Znc{kp:KP}{k v:D}:∀{es o:List (D×D)},ZbD kp k v es=sO o->∃t,Ju kp k es=sO t/\o=match t with
  |none=>es++[(k,v)]
  |some i=>es.set i (k,v)
 | [],o,h=>by simp[ZbD]at h;exact⟨nO,rfl,h.symm⟩
 |e::es,o,h=>by simp[ZbD]at h;split at h;rename_i u;simp at h;exact⟨sO 0,by simp[Ju,u],by simp[h]⟩;rename_i u;simp at h;obtain⟨r,hr,rfl⟩:=h;obtain⟨t,h1,h2⟩:=Znc hr;refine⟨t.map (· + 1),by simp[Ju,u,h1],?_⟩;rw[h2];cases t<;>simp;grind
def Zsh{kp:KP}{k:D}:∀{es o:List (D×D)},ZmJ kp k es=sO o->∃t,Ju kp k es=sO t/\o=match t with
  |none=>es
  |some i=>es.eraseIdx i
 | [],o,h=>by simp only[ZmJ,ZHQ]at h;exact⟨nO,rfl,h.symm⟩
 |e::es,o,h=>by simp[ZmJ]at h;split at h;rename_i u;simp at h;exact⟨sO 0,by simp[Ju,u],by simp[h]⟩;rename_i u;simp at h;obtain⟨r,hr,rfl⟩:=h;obtain⟨t,h1,h2⟩:=Zsh hr;refine⟨t.map (· + 1),by simp[Ju,u,h1],?_⟩;rw[h2];cases t<;>simp;grind
def ZdG{kp k}:∀{es i},Ju kp k es=sO (sO i)->i<I es/\∀e,es[i]?=sO e->K6 kp k e.1=sO true
 | [],i,h=>by cases h
 |e::es,i,h=>by
  simp[Ju]at h;split at h;rename_i he;cases h;exact⟨ψ,λx o=>by cases o;exact he⟩
  .simp at h;obtain⟨io,r,t⟩:=h;cases io with
   |none=>grind
   |some j =>obtain⟨j',u,h4⟩:=t;cases u;subst h4;obtain⟨a,b⟩:=ZdG r;exact⟨by simp;omega,λx o=>b x (by simpa using o)⟩
  grind
def ZnH{kt kp}(t:ZaH P kt=sO kp){k dk}(u:Rep g w k dk):∀(es ds n io),I es=I ds ->
  (∀(i:Nat) (e d),es[i]?=sO e->ds[i]?=sO d->Rep g w e.key d.1)->Ju kp dk ds=sO io ->
  (Instr.findAsking kt k es n).run P w=.ok (io.bind λi=>(es[i]?).map λe=>(n+i,e.val)) w
 | [],[],n,io,_,_,h=>by cases h;simp[Instr.findAsking]
 |e::es,d::ds,n,io,hn,hkey,h=>by simp[Ju]at h;have h0:=hkey 0 e d ψ ψ;split at h;rename_i r;cases h;simp[Instr.findAsking,Zmc t u h0 r];rename_i r;simp at h;obtain⟨o,h1,rfl⟩:=h;have ih:=ZnH t u es ds (n+1) o (by simpa using hn) (λi e d a b=>hkey (i+1) e d (by simpa using a) (by simpa using b)) h1;simp[Instr.findAsking,Zmc t u h0 r,ih];cases o<;>simp[Nat.add_assoc,Nat.add_comm 1];grind
 | [],_::_,_,_,hn,_,_=>by grind
 |_::_,[],_,_,hn,_,_=>by grind
def Zos{t k u}(hs:QH P t=sO k)(hu:P.underlying t=sO u){k1 k2 d1 d2}(o:Rep g w k1 d1)(r:Rep g w k2 d2){b}(h:YT k d1 d2=sO b):
  Instr.sameNow u k1 k2=sO b:=by
 rcases Zcl hs with ⟨rfl,i⟩|⟨rfl,ik,i⟩|⟨rfl,i⟩<;>(rw[hu]at i;simp only[ZHQ]at i;subst i);cases o<;>cases r<;>cases h;simp[Instr.sameNow];rename_i a b;cases a<;>cases b<;>rfl;cases o<;>cases r<;>simp only[YT,reduceCtorEq]at h;split at h<;>simp only[reduceCtorEq,ZHQ]at h;rename_i hk;subst h;simp only[Instr.sameNow,hk,if_true,ZHQ];rename_i a _ _ b _;rw[Bool.eq_iff_iff];simp;cases o<;>cases r<;>simp only[YT,reduceCtorEq,ZHQ]at h;rename_i s1 a e1 _ s2 b e2 _;subst h;simp only[Instr.sameNow,ZHQ];rw[beq_toListBytes,ZdR e1,ZdR e2,Bool.eq_iff_iff];simp
def ZnK{t sk u}(hs:QH P t=sO sk)(hu:P.underlying t=sO u){k dk}(hr:Rep g w k dk):∀(es ds n io),I es=I ds ->
  (∀(i:Nat) (e d),es[i]?=sO e->ds[i]?=sO d->Rep g w e.key d.1)->Ju (.sc sk) dk ds=sO io ->
  Instr.findNow u k es n=sO (io.bind λi=>(es[i]?).map λe=>(n+i,e.val))
 | [],[],n,io,_,_,h=>by simp only[Ju,ZHQ]at h;subst h;simp[Instr.findNow]
 |e::es,d::ds,n,io,hn,hkey,h=>by simp only[Ju]at h;have h0:=hkey 0 e d ψ ψ;split at h;rename_i r;simp only[ZHQ]at h;subst h;simp[Instr.findNow,Zos hs hu hr h0 r];rename_i r;simp only[ZH8]at h;obtain⟨o,h1,rfl⟩:=h;have ih:=ZnK hs hu hr es ds (n+1) o (by simpa using hn) (λi e d a b=>hkey (i+1) e d (by simpa using a) (by simpa using b)) h1;simp only[Instr.findNow,Zos hs hu hr h0 r,ih];cases o<;>simp[Nat.add_assoc,Nat.add_comm 1];simp at h
 | [],_::_,_,_,hn,_,_=>by simp at hn
 |_::_,[],_,_,hn,_,_=>by simp at hn
def Zc6{t kp}(hk:ZaH P t=sO kp){k dk}(hr:Rep g w k dk){es ds io}(hn:I es=I ds)(r:∀(i:Nat) (e:MapEntry) (d:D×D),es[i]?=sO e->ds[i]?=sO d->Rep g w e.key d.1)(h:Ju kp dk ds=sO io):
  (Instr.findKey t k es).run P w=.ok (io.bind λi=>(es[i]?).map λe=>(i,e.val)) w:=by
 rcases ZeT hk with ⟨sk,rfl,hs⟩|⟨fs,l,m,rfl,o,_,_,_,_⟩;obtain⟨u,o⟩:∃u,P.underlying t=sO u:=by rcases Zcl hs with ⟨_,o⟩|⟨_,ik,o⟩|⟨_,o⟩<;>exact⟨_,o⟩
 have:=ZnK hs o hr es ds 0 io hn r h;simp[Instr.findKey,run_underlying o,this];have ha:=ZnH hk hr es ds 0 io hn r h;cases es with
 |nil =>
  cases ds with
  |nil=>cases h;simp[Instr.findKey,run_underlying o,Instr.findNow]
  |cons=>grind
 |cons e es =>
  have:Instr.findNow (.struct fs) k (e::es) 0=nO:=by simp[Instr.findNow,Instr.sameNow]
  simp[Instr.findKey,run_underlying o,this,ha]
def ZfD{U}(i:Ym g U w){b es}(h:J7 U b=sO es):WO g w b (.map es):=by
 unfold J7 at h;split at h<;>simp at h;rename_i c o;subst h;exact i.obj b _ o
def ZtD{t z}(r:Zd7 P t=sO z):∃zv,(zeroValue t).run P w=.ok zv w/\Rep g w zv z:=by
 unfold Zd7 at r;cases u:P.info? t with
 |none=>grind
 |some i =>
  cases o:i.zero with
  |none=>grind
  |some zv=>simp[u,o]at r;exact⟨zv,by simp[zeroValue,typeInfo,u,o],ZjA r⟩
def Zix{a b x y}(i:Rep g w a x)(o:Rep g w b y):Rep g w (.tuple #[a,b]) (.tup [x,y]) :=
 .tup [a,b] _ rfl (ZN.get (.cons i (.cons o .nil)))
def Ztv{Z L U}(hS:Ym g U w){t kt et kp z ok}(hu:P.underlying t=sO (.map kt et))(hk:ZaH P kt=sO kp)(hz:Zd7 P et=sO z){m k em ek r side}(hm:ZM g Z w L m em)(hkk:ZM g Z w L k ek)(hq:qv L U (.lookup kp z ok) [em,ek]=sO (side,r))(hs:side):∃v,(Instr.lookup t m k ok).run P w=.ok v w/\ZM g Z w L v r:=by
 obtain⟨zv,ac,ad⟩:=ZtD (P:=P) (g:=g) (w:=w) hz;cases em with
 |loc l o=>cases ek<;>simp[qv]at hq
 |when c e=>cases ek<;>simp[qv]at hq
 |d dm =>
  cases ek with
  |loc l o=>cases dm<;>simp[qv]at hq
  |when c e=>cases dm<;>simp[qv]at hq
  |d dk =>
   have hr:Rep g w k dk:=hkk;cases dm<;>(try(simp[qv]at hq;done))
   .rename_i b;simp only[qv]at hq;split at hq<;>(try(simp at hq;done));rename_i es aj;simp only[ZH8,ZH2]at hq;obtain⟨ro,hf,rfl,rfl⟩:=hq;obtain⟨hp0,en,clock,hb,ag,h3,h4,h5,h6⟩:=ZfD hS aj;obtain⟨io,af,ae⟩:=Zqk hf;cases hm;have u:=Zc6 (P:=P) hk hr (es:=en.toList) (by simpa using ag) (λi e d a b=>h3 i e d (by simpa using a) b) af;have ab:=ZbW (P:=P) hk hr hs en.isEmpty;cases io with
    |none =>subst ae;cases ok;exact⟨zv,by simp[Instr.lookup,run_underlying hu,MapKept.run_getObj_map hb,ab,u,ac],by simpa[WU,ZM]using ad⟩;exact⟨.tuple #[zv,.bool false],by simp[Instr.lookup,run_underlying hu,MapKept.run_getObj_map hb,ab,u,ac],by simpa[WU,ZM]using Zix ad (.bool false)⟩
    |some i =>
     obtain⟨ak,_⟩:=ZdG af;have ah:i<en.size:=ω;have he:en[i]?=sO en[i]:=by simp[ah]
     have hd:es[i]?=sO es[i]:=by simp[ak]
     have ai:=h4 i _ _ he hd;simp[hd]at ae;subst ae;simp[he]at u;cases ok;exact⟨en[i].val,by simp[Instr.lookup,run_underlying hu,MapKept.run_getObj_map hb,ab,u],by simpa[WU,ZM]using ai⟩;exact⟨.tuple #[en[i].val,.bool true],by simp[Instr.lookup,run_underlying hu,MapKept.run_getObj_map hb,ab,u],by simpa[WU,ZM]using Zix ai (.bool true)⟩
   cases hq;cases hm;have ab:=ZbW (P:=P) hk hr hs true;have u:=Zc6 (P:=P) hk hr (es:=[]) (ds:=[]) rfl (λi e d a b=>by simp at a) (io:=nO) rfl;cases ok;exact⟨zv,by simp[Instr.lookup,run_underlying hu,ab,u,ac],by simpa[WU,ZM]using ad⟩;exact⟨.tuple #[zv,.bool false],by simp[Instr.lookup,run_underlying hu,ab,u,ac],by simpa[WU,ZM]using Zix ad (.bool false)⟩
def Zwf{Z L U}(hS:Ym g U w){t kt et ts x e r side}(ht:ts[0]?=sO t)(hu:P.underlying t=sO (.map kt et))(hx:ZM g Z w L x e)(hq:qv L U .lenM [e]=sO (side,r))(hs:side)(ty):∃v,(Builtin.len_ ts ty #[x]).run P w=.ok v w/\ZM g Z w L v r:=by
 cases e with
 |loc l o=>cases hq
 |when c e=>cases hq
 |d y =>
  cases y<;>(try(cases hq;done));·simp[qv]at hq;split at hq<;>(try(grind;done));rename_i es u;cases hq;obtain⟨hp0,en,clock,hb,i,_⟩:=ZfD hS u;cases hx;exact⟨.i (I es),by simp[Builtin.len_,ht,run_underlying hu,MapKept.run_getObj_map hb,goInt,i],.int _ _ (Q7 hs)⟩
  cases hq;cases hx;exact⟨.i 0,by simp[Builtin.len_,ht,run_underlying hu,goInt],.int _ _ (Q7 (n:=0) (Nat.zero_le _))⟩
end
section
variable {P:Program} {g:G} {Z:Nat->Nat} {w:World} {L:Loc} {U:St}
def Zug{t}{parts:Array (Nat×Operand)}{z pl zs ρv es}(hz:(P.info? t).bind (·.zero)=sO z)(hp:QF P t (parts.toList.map (·.1))=sO pl)(hsz:ZkA P t=true)(hzs:ZbY z.cells.toList=sO zs)(hes:ZN (ZM g Z w L) ((parts.toList.map (·.2)).map ρv) es){side r}(hq:qv L U (.build zs pl) es=sO (side,r)):∃v,(Instr.build t (parts.map λ(i,x)=>(i,ρv x))).run P w=.ok v w/\ZM g Z w L v r:=by
 simp[qv]at hq;split at hq<;>(try(grind;done));rename_i ds ab;simp only[ZH8]at hq;obtain⟨cs,u,rfl,rfl⟩:=hq;have ac:∃d,P.underlying t=sO d/\((∃fs,d=.struct fs)\/∃m e i,d=.array m e/\P.info? e=sO i):=by
  unfold ZkA at hsz;split at hsz;rename_i fs hu;exact⟨_,hu,.inl ⟨fs,rfl⟩⟩
  .rename_i m e hu;unfold ZX at hsz;cases hi:P.info? e with
   |none=>grind
   |some i=>exact⟨_,hu,.inr ⟨m,e,i,rfl,hi⟩⟩
  grind
 have o:=QB hes ab;obtain⟨cv,h1,h2⟩:=Zyk (g:=g) (w:=w) (parts:=parts.toList.map λ(i,x)=>(i,ρv x)) hz (by simpa[Function.comp_def]using hp) hsz hzs
  (by simpa[Function.comp_def]using o) u ac
 refine⟨_,?_,h2⟩;rw[<-h1]
 congr 2
 apply Array.ext';simp
def Zwh{f}{first caps:Array Operand}{ρv es}(u:ZN (ZM g Z w L) ((first.toList++caps.toList).map ρv) es){side r}(hq:qv L U (.mkfn f first.size) es=sO (side,r)):∃v,(Instr.makeFunc f (first.map ρv) (caps.map ρv)).run P w=.ok v w/\ZM g Z w L v r:=by
 simp only[qv,ZH8]at hq;obtain⟨ds,i,rfl,rfl⟩:=hq;have h:=QB u i;have o:=h.take first.size
 have t:=h.drop first.size
 have e1:((first.toList++caps.toList).map ρv).take first.size=(first.map ρv).toList:=by simp
 have e2:((first.toList++caps.toList).map ρv).drop first.size=(caps.map ρv).toList:=by simp
 rw[e1]at o;rw[e2]at t;have:=Rep.fn (g:=g) (w:=w) f _ _ _ _ o.len t.len o.get t.get;exact⟨_,by simp only[Instr.makeFunc,Sem.run_pure],this⟩
def Zbb{α:Type}{a:Array α}(h:a.size=1):∃x,a = #[x]:=by
 obtain⟨l⟩:=a
 match l,h with
 | [x],_=>exact⟨x,rfl⟩
def ZgC{α:Type}{a:Array α}(h:a.size=2):∃x y,a = #[x,y]:=by
 obtain⟨l⟩:=a
 match l,h with
 | [x,y],_=>exact⟨x,y,rfl⟩
def ZAw{o q xs}(hc:cq P o=sO (q,xs)){ρv es}(hes:ZN (ZM g Z w L) (xs.map ρv) es)(hL:∀l cs,Zq L l=sO cs->YI g w (Z l) cs)(hS:Ym g U w){side e}(hq:qv L U q es=sO (side,e))(hs:side){dst ty pos af gd}:
  ∃v,(execOp ρv ⟨dst,o,ty,pos,af,gd⟩).run P w=.ok (.value v) w/\ZM g Z w L v e:=by
 cases o<;>(try(simp[cq]at hc;done));case move x =>simp only[cq,ZHQ,ZH2]at hc;obtain⟨rfl,rfl⟩:=hc;obtain⟨e0,rfl,h0⟩:=WJ hes;simp only[qv,ZHQ,ZH2]at hq;obtain⟨rfl,rfl⟩:=hq;exact⟨_,rfl,h0⟩
 case assign x =>simp only[cq,ZHQ,ZH2]at hc;obtain⟨rfl,rfl⟩:=hc;obtain⟨e0,rfl,h0⟩:=WJ hes;simp only[qv,ZHQ,ZH2]at hq;obtain⟨rfl,rfl⟩:=hq;exact⟨_,rfl,h0⟩
 case load t a =>simp only[cq]at hc;split at hc<;>(try(simp at hc;done));rename_i n ha r;simp only[ZHQ,ZH2]at hc;obtain⟨rfl,rfl⟩:=hc;obtain⟨e0,rfl,h0⟩:=WJ hes;exact ev (Zuk ha r h0 hL hS hq hs);rename_i n ha r;simp only[ZHQ,ZH2]at hc;obtain⟨rfl,rfl⟩:=hc;obtain⟨e0,rfl,h0⟩:=WJ hes;exact ev (Zuj ha h0 hL hS hq)
 case nilCheck x =>simp only[cq,ZHQ,ZH2]at hc;obtain⟨rfl,rfl⟩:=hc;obtain⟨e0,rfl,h0⟩:=WJ hes;exact Zul rfl h0 hq dst ty pos af gd
 case binOp op t x y yt =>
  simp only[cq,ZHQ,ZH2]at hc;obtain⟨rfl,rfl⟩:=hc;obtain⟨e1,e2,rfl,h1,h2⟩:=ZaE hes;cases e1 with
  |d a =>
   cases e2 with
   |d b =>simp only[qv,ZH8,ZH2]at hq;obtain⟨⟨s',d⟩,hd,rfl,rfl⟩:=hq;exact ev (Zz1 (P:=P) h1 h2 hd hs)
   |loc l o=>simp[qv]at hq
   |when b e=>simp[qv]at hq
  |loc l o=>cases e2<;>simp[qv]at hq
  |when b e=>cases e2<;>simp[qv]at hq
 case unOp op t x =>
  cases op<;>simp only[cq,ZHQ,ZH2,reduceCtorEq]at hc;all_goals obtain⟨rfl,rfl⟩:=hc
  all_goals obtain⟨e0,rfl,h0⟩:=WJ hes
  all_goals cases e0 with
   |loc l o=>simp[qv]at hq
   |when b e=>simp[qv]at hq
   |d y=>?_
  cases y<;>simp only[qv,reduceCtorEq,ZHQ,ZH2]at hq;obtain⟨rfl,rfl⟩:=hq;obtain⟨hv,ae⟩:=QG h0;exact ev ⟨.int _ _,by simp only[hv,Op.unary,Op.intArith,Sem.run_pure,Int.zero_sub];rw[Zav _ _ hs],.int _ _ hs⟩;cases y<;>simp only[qv,reduceCtorEq,ZHQ,ZH2]at hq;obtain⟨rfl,rfl⟩:=hq;obtain⟨hv,ae⟩:=QG h0;exact ev ⟨_,by simp only[hv,Op.unary,Op.intBits,Sem.run_pure];rfl,.int _ _ ZhS⟩;cases y<;>simp only[qv,reduceCtorEq,ZHQ,ZH2]at hq;obtain⟨rfl,rfl⟩:=hq;have hv:=Zcx h0;exact ev ⟨_,by simp only[hv,Op.unary,Sem.run_pure],.bool _⟩
 case convert s d x =>simp only[cq,ZH8,ZH2]at hc;obtain⟨c,hc,rfl,rfl⟩:=hc;obtain⟨e0,rfl,h0⟩:=WJ hes;exact ev (Zwa hS hc h0 hq hs)
 case fieldAddr s x k =>simp only[cq]at hc;split at hc<;>(try(simp at hc;done));rename_i f hf;split at hc<;>(try(simp at hc;done));rename_i n hn;split at hc<;>(try(simp at hc;done));rename_i ag;simp only[ZHQ,ZH2]at hc;obtain⟨rfl,rfl⟩:=hc;obtain⟨e0,rfl,h0⟩:=WJ hes;exact ev (Zuh hf hn ag h0 hq)
 case field s x k =>simp only[cq]at hc;split at hc<;>(try(simp at hc;done));rename_i f hf;split at hc<;>(try(simp at hc;done));rename_i n ha hn;simp only[ZHQ,ZH2]at hc;obtain⟨rfl,rfl⟩:=hc;obtain⟨e0,rfl,h0⟩:=WJ hes;exact ev (ZqK hf (.inl ⟨ha,n,hn,rfl⟩) h0 hq hs);rename_i n ha hn;simp only[ZHQ,ZH2]at hc;obtain⟨rfl,rfl⟩:=hc;obtain⟨e0,rfl,h0⟩:=WJ hes;exact ev (ZqK hf (.inr ⟨ha,rfl⟩) h0 hq hs)
 case indexAddr t x i =>simp only[cq]at hc;split at hc<;>(try(simp at hc;done));rename_i el hu;simp only[ZH8,ZH2]at hc;obtain⟨n,hn,rfl,rfl⟩:=hc;obtain⟨e1,e2,rfl,h1,h2⟩:=ZaE hes;exact ev (Zui hu hn h1 h2 hq hs);rename_i m el hu;simp only[ZH8,ZH2]at hc;obtain⟨n,hn,rfl,rfl⟩:=hc;obtain⟨e1,e2,rfl,h1,h2⟩:=ZaE hes;exact ev (Ztu hu hn h1 h2 hq hs)
 case index t x i =>simp only[cq]at hc;split at hc<;>(try(simp at hc;done));rename_i hu;simp only[ZHQ,ZH2]at hc;obtain⟨rfl,rfl⟩:=hc;obtain⟨e1,e2,rfl,h1,h2⟩:=ZaE hes;exact ev (Zwc hu h1 h2 hq hs);rename_i m el hu;split at hc<;>simp only[ZHQ,ZH2,reduceCtorEq]at hc;rename_i b n hb hn;obtain⟨rfl,rfl⟩:=hc;obtain⟨e1,e2,rfl,h1,h2⟩:=ZaE hes;exact ev (Zwb hu hb hn h1 h2 hq hs)
 case extract x k =>
  simp only[cq,ZHQ,ZH2]at hc;obtain⟨rfl,rfl⟩:=hc;obtain⟨e0,rfl,h0⟩:=WJ hes;cases e0 with
  |loc l o=>simp[qv]at hq
  |when b e=>simp[qv]at hq
  |d y =>
   cases y<;>simp only[qv,reduceCtorEq,ZH8,ZH2]at hq;obtain⟨d,hd,rfl,rfl⟩:=hq;have ad:Rep g w (ρv x) _:=h0;generalize hz:ρv x=z at ad;cases ad with
   |tup vs _ hn h =>obtain⟨v,hv,hr⟩:=Zcy hn h hd;exact ev ⟨v,by simp[Instr.extract,hz,hv],hr⟩
 case build t parts =>simp only[cq]at hc;split at hc<;>(try(simp at hc;done));rename_i z pl hz hp;split at hc<;>(try(simp at hc;done));rename_i r;simp only[ZH8,ZH2]at hc;obtain⟨zs,ah,rfl,rfl⟩:=hc;exact ev (Zug hz hp r ah hes hq)
 case makeFunc f first caps =>simp only[cq,ZHQ,ZH2]at hc;obtain⟨rfl,rfl⟩:=hc;exact ev (Zwh hes hq)
 case makeInterface t x =>
  simp only[cq]at hc;split at hc<;>(try(simp at hc;done));rename_i d ab hu;simp only[ZHQ,ZH2]at hc;obtain⟨rfl,rfl⟩:=hc;obtain⟨e0,rfl,h0⟩:=WJ hes;cases e0 with
  |loc l o=>simp[qv]at hq
  |when b e=>simp[qv]at hq
  |d y =>simp only[qv,ZHQ,ZH2]at hq;obtain⟨rfl,rfl⟩:=hq;refine ev ⟨.iface t (ρv x),?_,.iface _ _ _ h0⟩;refine run_makeInterface w t (ρv x) ?_;unfold Program.concrete;rw[hu];cases d<;>first|rfl|(exact absurd rfl (ab _))
 case slice t x lo hi mx =>
  simp only[cq]at hc;split at hc<;>(try(simp at hc;done))
  .rename_i hu;split at hc<;>(try(simp at hc;done));rename_i u;simp only[ZHQ,ZH2]at hc;obtain⟨rfl,rfl⟩:=hc;cases mx with
   |some _=>simp at u
   |none=>exact ev (Ztx hu hes hq hs)
  .rename_i el hu;split at hc<;>(try(simp at hc;done));rename_i u;simp only[ZH8,ZH2]at hc;obtain⟨n,hn,rfl,rfl⟩:=hc;exact ev (Zum hu hn (by cases mx<;>cases hi<;>simp_all) hes hq hs)
  rename_i k el hu;split at hc<;>(try(simp at hc;done));rename_i u;simp only[ZH8,ZH2]at hc;obtain⟨n,hn,rfl,rfl⟩:=hc;exact ev (Ztw hu hn (by cases mx<;>cases hi<;>simp_all) hes hq hs)
 case typeAssert x xt t ok =>simp only[cq]at hc;split at hc<;>(try(simp at hc;done));rename_i d ab hu;simp only[ZH8,ZH2]at hc;obtain⟨z,hz,rfl,rfl⟩:=hc;obtain⟨e0,rfl,h0⟩:=WJ hes;exact ev (Zrm ⟨d,hu,λms hm=>ab ms (hm▸rfl)⟩ hz h0 hq)
 case lookup t m k ok =>simp only[cq]at hc;split at hc<;>(try(simp at hc;done));rename_i kt et hu;split at hc<;>(try(simp at hc;done));rename_i kp z hk hz;simp only[ZHQ,ZH2]at hc;obtain⟨rfl,rfl⟩:=hc;obtain⟨e1,e2,rfl,h1,h2⟩:=ZaE hes;exact ev (Ztv hS hu hk hz h1 h2 hq hs)
 case call c =>
  obtain⟨callee,args,ac⟩:=c;simp only[cq]at hc;split at hc<;>(try(simp at hc;done))
  .split at hc<;>(try(simp at hc;done));·rename_i hu;simp only[Option.bind_eq_some_iff]at hu;obtain⟨t,ht,hu⟩:=hu;split at hc<;>(try(simp at hc;done));rename_i r;obtain⟨x,rfl⟩:=Zbb r;simp only[ZHQ,ZH2]at hc;obtain⟨rfl,rfl⟩:=hc;obtain⟨e0,rfl,h0⟩:=WJ hes;obtain⟨v,r1,r2⟩:=Zwg ht hu h0 hq ty;exact⟨v,by simp[execOp,resolve,invoke,builtin,r1],r2⟩
   .rename_i el hu;simp only[Option.bind_eq_some_iff]at hu;obtain⟨t,ht,hu⟩:=hu;split at hc<;>(try(simp at hc;done));rename_i r;obtain⟨x,rfl⟩:=Zbb r;simp only[ZHQ,ZH2]at hc;obtain⟨rfl,rfl⟩:=hc;obtain⟨e0,rfl,h0⟩:=WJ hes;obtain⟨v,r1,r2⟩:=Zwe ht hu h0 hq ty;exact⟨v,by simp[execOp,resolve,invoke,builtin,r1],r2⟩
   .rename_i n el hu;simp only[Option.bind_eq_some_iff]at hu;obtain⟨t,ht,hu⟩:=hu;split at hc<;>(try(simp at hc;done));rename_i r;obtain⟨x,rfl⟩:=Zbb r;simp only[ZHQ,ZH2]at hc;obtain⟨rfl,rfl⟩:=hc;obtain⟨e0,rfl,h0⟩:=WJ hes;obtain⟨v,r1,r2⟩:=Zwd (x:=ρv x) ht hu hq hs ty;exact⟨v,by simp[execOp,resolve,invoke,builtin,r1],r2⟩
   rename_i kt el hu;simp only[Option.bind_eq_some_iff]at hu;obtain⟨t,ht,hu⟩:=hu;split at hc<;>(try(simp at hc;done));rename_i r;obtain⟨x,rfl⟩:=Zbb r;simp only[ZHQ,ZH2]at hc;obtain⟨rfl,rfl⟩:=hc;obtain⟨e0,rfl,h0⟩:=WJ hes;obtain⟨v,r1,r2⟩:=Zwf hS ht hu h0 hq hs ty;exact⟨v,by simp[execOp,resolve,invoke,builtin,r1],r2⟩
  .split at hc<;>(try(simp at hc;done));rename_i r;obtain⟨x,y,rfl⟩:=ZgC r;simp only[ZHQ,ZH2]at hc;obtain⟨rfl,rfl⟩:=hc;obtain⟨e1,e2,rfl,h1,h2⟩:=ZaE hes;obtain⟨v,r1,r2⟩:=ZkD (P:=P) false h1 h2 hq ac ty;simp at r1;exact⟨v,by simp[execOp,resolve,invoke,builtin,r1],r2⟩
  split at hc<;>(try(simp at hc;done));rename_i r;obtain⟨x,y,rfl⟩:=ZgC r;simp only[ZHQ,ZH2]at hc;obtain⟨rfl,rfl⟩:=hc;obtain⟨e1,e2,rfl,h1,h2⟩:=ZaE hes;obtain⟨v,r1,r2⟩:=ZkD (P:=P) true h1 h2 hq ac ty;simp at r1;exact⟨v,by simp[execOp,resolve,invoke,builtin,r1],r2⟩
end
def QX(n:Nat):List Nat->Bool
 | []=>true
 |i::r=>i<n&&!r.contains i&&QX n r
def ck(P:Program)(op:Op):Option K :=
 match cq P op with
 |some (q,xs)=>(Zc0 xs).map (K.q q)
 |none =>
  match op with
  |.pick c a b=>match Z6 c,Z6 a,Z6 b with
   |some c,sO a,sO b=>sO (.pick c a b)
   |_,_,_=>nO
  |.alloc e=>(ZaL P e).map .alloc
  |.box _ x=>(Z6 x).map .box
  |.buildSlice t len parts=>match P.underlying t with
   |some (.slice e)=>match ZX P e,ZaL P e,Zc0 (parts.toList.map (·.2)) with
    |some s,sO z,sO xs =>
     if QX len (parts.toList.map (·.1))&&dC (I z=s)&&dC (0<s)&&dC (len*s<=2 ^ 24) then sO (.bsl len s z (parts.toList.map (·.1)) xs) else nO
    |_,_,_=>nO
   |_=>nO
  |.convert s d x=>match P.underlying s,P.underlying d with
   |some .string,sO (.slice e)=>match P.underlying e with
    |some (.int .u8)=>(Z6 x).map .s2b
    |_=>nO
   |_,_=>nO
  |.store t a v=>match ZaD P t,ZX P t,Z6 a,Z6 v with
   |some true,sO n,sO a,sO v=>sO (.storeN n a v)
   |some false,sO 1,sO a,sO v=>sO (.store1 a v)
   |_,_,_,_=>nO
  |.makeMap _ nO=>sO .mkmap
  |.mapUpdate t m k x|.insert t m k x=>match P.underlying t with
   |some (.map kt _)=>match ZaH P kt,Z6 m,Z6 k,Z6 x with
    |some kp,sO m,sO k,sO x=>sO (.mapupd kp m k x)
    |_,_,_,_=>nO
   |_=>nO
  |.mapEntry t m k=>match P.underlying t with
   |some (.map kt e)=>match ZaH P kt,Zd7 P e,Z6 m,Z6 k with
    |some kp,sO z,sO m,sO k=>sO (.mapent kp z m k)
    |_,_,_,_=>nO
   |_=>nO
  |.entryStore _ m k x=>match Z6 m,Z6 k,Z6 x with
   |some m,sO k,sO x=>sO (.entst m k x)
   |_,_,_=>nO
  |.panic x=>(Z6 x).map .panic
  |.defer c=>match c.callee with
   |.value f=>match Z6 f,Zc0 c.args.toList with
    |some f,sO xs=>sO (.defer f xs)
    |_,_=>nO
   |_=>nO
  |.makeSlice t l c=>match P.underlying t with
   |some (.slice e)=>match ZX P e,ZaL P e,Z6 l,Z6 c with
    |some s,sO z,sO l,sO c=>if dC (0<s)&&dC (I z=s) then sO (.mkslice e s (P.bytesOf e) z l c) else nO
    |_,_,_,_=>nO
   |_=>nO
  |.call c=>match c.callee with
   |.value f=>match Z6 f,Zc0 c.args.toList with
    |some f,sO xs=>sO (.call f xs)
    |_,_=>nO
   |.builtin .append=>match c.argTypes[0]?.bind P.underlying,c.argTypes[1]?.bind P.underlying,c.args.toList with
    |some (.slice e),sO t2,[x,y]=>match ZX P e,ZaL P e,Z6 x,Z6 y with
     |some s,sO z,sO x,sO y =>
      match t2 with
      |.slice _|.string=>if dC (0<s)&&dC (I z=s) then sO (.append e s (P.bytesOf e) z x y) else nO
      |_=>nO
     |_,_,_,_=>nO
    |_,_,_=>nO
   |.builtin .recover=>sO .recover
   |.builtin .delete=>match c.argTypes[0]?.bind P.underlying,c.args.toList with
    |some (.map kt _),[m,k]=>match ZaH P kt,Z6 m,Z6 k with
     |some kp,sO m,sO k=>sO (.delete kp m k)
     |_,_,_=>nO
    |_,_=>nO
   |.builtin .clear=>match c.argTypes[0]?.bind P.underlying,c.args.toList with
    |some (.slice e),[x]=>match ZX P e,ZaL P e,Z6 x with
     |some s,sO z,sO x=>if dC (0<s)&&dC (I z=s) then sO (.clear s z x) else nO
     |_,_,_=>nO
    |_,_=>nO
   |.builtin .copy=>match c.argTypes[0]?.bind P.underlying,c.args.toList with
    |some (.slice e),[x,y]=>match ZX P e,Z6 x,Z6 y with
     |some s,sO x,sO y=>if dC (0<s) then sO (.copy s x y) else nO
     |_,_,_=>nO
    |_,_=>nO
   |_=>nO
  |_=>nO
def Zjt(ops:Array Oper):Option (Nat×Bool)->Option (Option (Nat×Bool))
 |none=>sO nO
 |some (j,b)=>match (ops[j]?).bind (·.dst) with
  |some t=>sO (sO (t,b))
  |none=>nO
def cop(P:Program)(N:Nat)(ops:Array Oper)(o:Oper):Option DOp :=
 match ck P o.op,Zjt ops o.guard with
 |some k,sO g =>
  match o.dst with
  |none=>sO ⟨nO,g,k⟩
  |some d=>if d<N then sO ⟨sO d,g,k⟩ else nO
 |_,_=>nO
def Zag(P:Program)(N:Nat)(ops:Array Oper):List Nat->Option (List DOp)
 | []=>sO []
 |i::r=>match ops[i]? with
  |some o=>match cop P N ops o,Zag P N ops r with
   |some d,sO ds=>sO (d::ds)
   |_,_=>nO
  |none=>nO
abbrev Ann:=List (Nat×List Nat)
def Ann.get:Ann->Nat->Option (List Nat)
 | [],_=>nO
 | (k,l)::r,n=>if k=n then sO l else Ann.get r n
def Yg:Opd->List Nat
 |.tmp t=>[t]
 |.cst _=>[]
def Zch(xs:List Opd):List Nat:=xs.flatMap Yg
def Yp:K->List Nat
 |.q _ xs=>Zch xs
 |.pick c a b=>Yg c++Yg a++Yg b
 |.alloc _|.mkmap|.recover=>[]
 |.box x|.s2b x|.panic x=>Yg x
 |.bsl _ _ _ _ xs=>Zch xs
 |.store1 a v|.storeN _ a v=>Yg a++Yg v
 |.call f xs|.defer f xs=>Yg f++Zch xs
 |.append _ _ _ _ x y=>Yg x++Yg y
 |.mapupd _ m k v=>Yg m++Yg k++Yg v
 |.mapent _ _ m k=>Yg m++Yg k
 |.entst m e v=>Yg m++Yg e++Yg v
 |.mkslice _ _ _ _ l c=>Yg l++Yg c
 |.delete _ m k=>Yg m++Yg k
 |.clear _ _ x=>Yg x
 |.copy _ x y=>Yg x++Yg y
 |.fork k=>Yp k
def ZbZ:Option (Nat×Bool)->List Nat
 |none=>[]
 |some (t,_)=>[t]
def ZC(o:DOp):List Nat:=ZbZ o.guard++Yp o.k
def WE:K->Bool
 |.q _ _|.pick _ _ _|.bsl _ _ _ _ _|.s2b _|.alloc _|.fork _=>true
 |_=>false
def pqK:K->Bool
 |.q _ _|.pick _ _ _|.bsl _ _ _ _ _|.s2b _|.alloc _=>true
 |_=>false
def Zdb:K->Bool
 |.q .load1 _|.q (.loadN _) _=>true
 |_=>false
def Wz:K->Bool
 |.q .load1 _|.q (.loadN _) _|.q (.lookup _ _ _) _|.q .lenM _|.q (.conv .b2s) _=>true
 |_=>false
def Zer:K->Bool
 |.store1 _ _|.storeN _ _ _=>true
 |_=>false
def Zvr:K->Bool
 |.alloc _|.fork _=>false
 |_=>true
instance:Inhabited DOp:=⟨⟨nO,nO,.mkmap⟩⟩
abbrev Tab:=List (DOp×List Nat)
def Tab.op(T:Tab)(i:Nat):DOp:=(T.getD i dE).1
def Tab.deps(T:Tab)(i:Nat):List Nat:=(T.getD i dE).2
def nd(d:Option Nat)(l:List Nat):Bool :=
 match d with
 |some t=>!l.contains t
 |none=>true
def ndd:Option Nat->Option Nat->Bool
 |some t,sO u=>t != u
 |_,_=>true
def Zdc(bs:List Nat):List Nat->Nat
 | []=>0
 |d::ds=>(bs.getD d 0 |||(1 <<< d)) |||Zdc bs ds
def Zip:List (List Nat)->List Nat->List Nat
 | [],acc=>acc
 |d::r,acc=>Zip r (acc++[Zdc acc d])
def ZdC(T:Tab)(A:List Nat)(i:Nat):Bool :=
 pqK (T.op i).k&&nd (T.op i).dst (ZC (T.op i))&&A.all λa=>nd (T.op i).dst (ZC (T.op a))&&ndd (T.op i).dst (T.op a).dst
def Zdp(o:DOp):Nat:=o.dst.getD 0
def Zcu(n:Nat):List Nat->Bool
 | []=>false
 |a::l=>a==n ||Zcu n l
def Zjy(T:Tab)(fl:List Nat)(QK rest:List Nat)(i:Nat):Bool :=
 Zvr (T.op i).k&&(rest.all λr=>(T.deps r).any λd=>(i::rest).contains d) &&
  QK.all λa=>nd (T.op i).dst (ZC (T.op a))&&ndd (T.op i).dst (T.op a).dst&&(Zcu (Zdp (T.op a)) fl||!Wz (T.op a).k)
def chk(T:Tab)(ms:List Nat)(fl:Nat->List Nat):List Nat->List Nat->Bool
 |_,[]=>true
 |A,i::rest =>
  let QK:=A.filter λa=>!(ms.getD i 0).testBit a
  dC (i<T.length)&&((T.deps i).all λd=>!(i::rest).contains d)&&!rest.contains i&&(QK.all λa=>nd (T.op a).dst (ZC (T.op i))) &&
   if ZdC T A i then chk T ms fl (i::A) rest else Zjy T (fl i) QK rest i&&chk T ms fl QK rest
def ZuI(T:Tab)(fl:List Nat)(QK:List Nat)(i:Nat):Bool :=
 Zvr (T.op i).k&&!WE (T.op i).k&&(QK.all λa=>nd (T.op a).dst (ZC (T.op i)))&&QK.all λa=>nd (T.op i).dst (ZC (T.op a))&&ndd (T.op i).dst (T.op a).dst&&(Zcu (Zdp (T.op a)) fl||!Wz (T.op a).k)
def ZAc(T:Tab)(ms:List Nat)(fl:Nat->List Nat)(A:List Nat)(i j:Nat)(rest:List Nat):Bool :=
 let fi:=A.filter λa=>!(ms.getD i 0).testBit a;let fj:=A.filter λa=>!(ms.getD j 0).testBit a
 dC (i<T.length)&&dC (j<T.length)&&((T.deps i).all λd=>!(i::j::rest).contains d)&&((T.deps j).all λd=>!(i::j::rest).contains d)&&(i != j)&&!rest.contains i&&!rest.contains j &&
  (rest.all λr=>(T.deps r).any λd=>(i::j::rest).contains d)&&ZuI T (fl i) fi i&&ZuI T (fl j) fj j &&
  chk T ms fl fi (j::rest)&&chk T ms fl fj (i::rest)
def Zef(T:Tab)(ms:List Nat)(fl:Nat->List Nat)(fk:Option Nat):List Nat->List Nat->Bool
 |_,[]=>true
 |A,i::rest =>
  if fk=sO i then match rest with
   |j::rest'=>ZAc T ms fl A i j rest'
   | []=>false
  else
   let QK:=A.filter λa=>!(ms.getD i 0).testBit a
   dC (i<T.length)&&((T.deps i).all λd=>!(i::rest).contains d)&&!rest.contains i&&(QK.all λa=>nd (T.op a).dst (ZC (T.op i))) &&
    if ZdC T A i then Zef T ms fl fk (i::A) rest else Zjy T (fl i) QK rest i&&Zef T ms fl fk QK rest
def ZBX(o:DOp):DOp:={ o with k:=.fork o.k }
def Tab.mk(T:Tab)(fk:Option Nat)(i:Nat):DOp:=if fk=sO i then ZBX (T.op i) else T.op i
def ZaO(o:Oper):List Nat:=(o.after.toList.filter (Region.binds .any ·)).map (·.on)
def ZnA:Nat->List (List Nat)->Bool
 |_,[]=>true
 |i,d::r=>d.all (λx=>dC (x<i))&&ZnA (i+1) r
def Zxy(n:Nat)(order:List Nat):Bool:=(ZH5 n).all order.contains
def ZyH(an:Ann)(id:Nat):Option Nat :=
 match an.get (id+3000000) with
 |some (i::_)=>sO i
 |_=>nO
def ccD(P:Program)(an:Ann)(N:Nat)(id:Nat)(ops:Array Oper):Option (List Nat×List (DOp×List Nat)×Option (List Nat)) :=
 match Zag P N ops (ZH5 ops.size),an.get (id+1000000),an.get id with
 |some l,sO order,sO kp =>
  let fl:=λi=>(an.get (id+1000000*(i+4))).getD [];let ds:=ops.toList.map ZaO;let T:Tab:=l.zip ds
  if P.follows .mixedOrders&&ZnA 0 ds&&Zxy ops.size order&&Zef T (Zip ds []) fl (ZyH an id) [] order then sO (order,order.map λi=>(T.mk (ZyH an id) i,fl i),sO kp) else nO
 |_,_,_=>nO
def cc(P:Program)(an:Ann)(N:Nat):Code->Option DC
 |.skip=>sO .skip
 |.region id ops true=>(ccD P an N id ops).map λx=>.regD x.1 x.2.1 x.2.2
 |.region id ops false=>(Zag P N ops (ZH5 ops.size)).map λl=>.reg l (an.get id)
 |.seq a b=>match cc P an N a,cc P an N b with
  |some x,sO y=>sO (.seq x y)
  |_,_=>nO
 |.cond c a b=>match Z6 c,cc P an N a,cc P an N b with
  |some c,sO x,sO y=>sO (.cond c x y)
  |_,_,_=>nO
 |.block id a=>(cc P an N a).map (.block id)
 |.loop a=>(cc P an N a).map .loop
 |.exit id=>sO (.exit id)
 |.ret=>sO .ret
 |.scope a=>(cc P an N a).map .scope
 |.label l=>sO (.label l)
 |.goto l=>sO (.goto l)
 |.rangeFunc f params a b=>match Z6 f,cc P an N a,cc P an N b with
  |some f,sO x,sO y=>if params.toList.all (· < N) then sO (.rangeF f params.toList x y) else nO
  |_,_,_=>nO
 |_=>nO
inductive RV where
 |tmp (t:Nat)|cell1 (t:Nat)|cellN (t n:Nat)
def crv(P:Program):ResultVar->Option RV
 |.tmp t=>sO (.tmp t)
 |.cell a t=>match ZaD P t,ZX P t with
  |some true,sO n=>sO (.cellN a n)
  |some false,sO _=>sO (.cell1 a)
  |_,_=>nO
def ZjC(P:Program):List ResultVar->Option (List RV)
 | []=>sO []
 |r::rs=>match crv P r,ZjC P rs with
  |some x,sO xs=>sO (x::xs)
  |_,_=>nO
structure DF where
 n:Nat
 res:List RV
 body:DC
def cf(P:Program)(an:Ann)(f:FuncId):Option DF :=
 match P.funcs[f]? with
 |some fn=>match fn.body with
  |some c=>if fn.name == "runtime.NumGoroutine" then nO else
   match ZjC P fn.results.toList,cc P an fn.ntmps c with
   |some rs,sO d=>sO ⟨fn.ntmps,rs,d⟩
   |_,_=>nO
  |none=>nO
 |none=>nO
def ZbO:Bool->Bool->Bool
 |b,true=>b
 |b,false=>!b
def Zw(H:Env):Option (Nat×Bool)->Option Bool
 |none=>sO true
 |some (t,want)=>match Z9 H t with
  |some (.d (.bool b))=>sO (ZbO b want)
  |some (.when c (.d (.bool b)))=>sO (c&&ZbO b want)
  |_=>nO
def ZH(H:Env)(c:Bool):Opd->Option (Prop×E)
 |.cst d=>sO (True,.d d)
 |.tmp t=>match Z9 H t with
  |some (.when c' e)=>sO (c=true->c'=true,e)
  |some e=>sO (True,e)
  |none=>nO
def Yr(H:Env)(c:Bool):List Opd->Option (Prop×List E)
 | []=>sO (True,[])
 |x::xs=>match ZH H c x,Yr H c xs with
  |some (p,e),sO (q,es)=>sO (p/\q,e::es)
  |_,_=>nO
def putE(H:Env)(dst:Option Nat)(e:E):Env :=
 match dst with
 |some t=>(t,e)::H
 |none=>H
inductive SR where
 |ok (side:Prop) (H:Env) (L:Loc) (s:St)
 |all (side:Prop) (pre:Nat->Prop) (H:Nat->Env) (s:Nat->St)
 |stop
def Zc8(L:Loc)(l:Nat):Bool:=(Zq L l).isSome
def Zgq(H:Env)(c:Bool)(x a b:Opd):Option (Prop×Bool) :=
 match ZH H c x with
 |some (p,.d (.bool v)) =>
  match ZH H (c&&v) a,ZH H (c&&!v) b with
  |some (pa,.d (.bool y)),sO (pb,.d (.bool z))=>sO (p/\pa/\pb,if v then y else z)
  |_,_=>nO
 |_=>nO
def ZI(zero:List D)(ps:List (Nat×D))(i:Nat):List D :=
 match ps with
 | []=>zero
 | (k,d)::r=>if k=i then cellsOf d else ZI zero r i
def Zam(s:Nat):List D->Bool
 | []=>true
 |d::r=>Qb d&&dC ((cellsOf d).length=s)&&Zam s r
def WT(z:List D)(n:Nat):List D:=(List.replicate n z).flatten
def Jl(H:Env)(L:Loc)(s:St)(p q ok:Prop)(a:E)(n:Nat)(xs:List D):SR :=
 match a with
 |.loc l off=>match Zq L l with
  |some cs=>.ok (p/\q/\off+n<=I cs/\ok) H ((l,ZF cs off xs)::L) s
  |none=>.stop
 |.d (.ptr b off)=>match Yq s b with
  |some cs=>.ok (p/\q/\off+n<=I cs/\ok) H L (s.upd b (.cells (ZF cs off xs)))
  |none=>.stop
 |_=>.stop
def Zh9(kp:KP)(k z:D):List (D×D)->Option D
 | []=>sO z
 |e::r=>match K6 kp k e.1 with
  |some true=>sO e.2
  |some false=>Zh9 kp k z r
  |none=>nO
def ZP(o:DOp)(H:Env)(L:Loc)(s:St):SR :=
 match Zw H o.guard with
 |none=>.stop
 |some c =>
  match o.k with
  |.q q xs=>match Yr H c xs with
   |some (p,es)=>match qv L s q es with
    |some (side,e)=>match o.guard with
     |none=>.ok (p/\side) (putE H o.dst e) L s
     |some _=>.ok (c=true->p/\side) (putE H o.dst (.when c e)) L s
    |none=>.stop
   |none=>.stop
  |.pick x a b=>match Zgq H c x a b with
   |some (p,v)=>match o.guard with
    |none=>.ok p (putE H o.dst (.d (.bool v))) L s
    |some _=>.ok (c=true->p) (putE H o.dst (.when c (.d (.bool v)))) L s
   |none=>.stop
  |.alloc z=>match o.guard,o.dst with
   |none,sO t=>.ok (Zc8 L t=false) ((t,.loc t 0)::H) ((t,z)::L) s
   |_,_=>.stop
  |.box x=>match o.guard,o.dst,ZH H true x with
   |none,sO t,sO (p,.d v)=>.ok (p/\Zc8 L t=false/\Qb v=true) ((t,.loc t 0)::H) ((t,cellsOf v)::L) s
   |_,_,_=>.stop
  |.bsl len n z is xs=>match Yr H c xs with
   |some (p,es)=>match KA es with
    |some ds=>match o.guard with
     |none=>.ok (p/\Zam n ds=true) (putE H o.dst (.d (.sl .full len n (ZI z (is.zip ds))))) L s
     |some _=>.ok (c=true->p/\Zam n ds=true) (putE H o.dst (.when c (.d (.sl .full len n (ZI z (is.zip ds)))))) L s
    |none=>.stop
   |none=>.stop
  |.s2b x=>match ZH H c x with
   |some (p,.d (.str l))=>match o.guard with
    |none=>.ok p (putE H o.dst (.d (.sl .none (I l) 1 (λi=>[.int .u8 ((l.getD i 0).toNat:Int)])))) L s
    |some _=>.ok (c=true->p) (putE H o.dst (.when c (.d (.sl .none (I l) 1 (λi=>[.int .u8 ((l.getD i 0).toNat:Int)]))))) L s
   |_=>.stop
  |.store1 a v=>match o.guard,o.dst,ZH H true a,ZH H true v with
   |none,nO,sO (p,a),sO (q,.d x)=>Jl H L s p q (Qy x=true) a 1 [x]
   |_,_,_,_=>.stop
  |.storeN n a v=>match o.guard,o.dst,ZH H true a,ZH H true v with
   |none,nO,sO (p,a),sO (q,.d (.agg xs))=>Jl H L s p q (I xs=n) a n xs
   |_,_,_,_=>.stop
  |.mkmap=>match o.guard,o.dst with
   |none,sO t=>.all True (λb=>s b=nO) (λb=>(t,.d (.map b))::H) (λb=>s.upd b (.map []))
   |_,_=>.stop
  |.mkslice _ n bytes z l h=>match o.guard,o.dst,ZH H true l,ZH H true h with
   |none,sO t,sO (p,.d (.int _ l)),sO (q,.d (.int _ h)) =>
    .all (p/\q/\0<=l/\l<=h/\(bytes:Int)*h<=140737488355328/\h<=big) (λb=>s b=nO) (λb=>(t,.d (.msl b 0 l.toNat h.toNat n))::H) (λb=>s.upd b (.cells (WT z h.toNat)))
   |_,_,_,_=>.stop
  |.mapupd kp m k v=>match o.guard,o.dst,ZH H true m,ZH H true k,ZH H true v with
   |none,nO,sO (p,.d (.map b)),sO (q,.d dk),sO (r,.d dv)=>match J7 s b with
    |some es=>match ZbD kp dk dv es with
     |some es'=>.ok (p/\q/\r/\JK kp dk=true) H L (s.upd b (.map es'))
     |none=>.stop
    |none=>.stop
   |_,_,_,_,_=>.stop
  |.delete kp m k=>match o.guard,o.dst,ZH H true m,ZH H true k with
   |none,nO,sO (p,.d (.map b)),sO (q,.d dk)=>match J7 s b with
    |some es=>match ZmJ kp dk es with
     |some es'=>.ok (p/\q/\JK kp dk=true) H L (s.upd b (.map es'))
     |none=>.stop
    |none=>.stop
   |_,_,_,_=>.stop
  |.mapent kp z m k=>match o.guard,o.dst,ZH H true m,ZH H true k with
   |none,sO t,sO (p,.d (.map b)),sO (q,.d dk)=>match J7 s b with
    |some es=>match Zh9 kp dk z es with
     |some v=>.all (p/\q/\JK kp dk=true) (λ_=>True) (λn=>(t,.d (.tup [v,.stamp n]))::H) (λn=>s.upd b (.mapE kp es dk n))
     |none=>.stop
    |none=>.stop
   |_,_,_,_=>.stop
  |.entst m st v=>match o.guard,o.dst,ZH H true m,ZH H true st,ZH H true v with
   |none,nO,sO (p,.d (.map b)),sO (q,.d (.stamp n)),sO (r,.d dv)=>match s b with
    |some (.mapE kp es dk n')=>match ZbD kp dk dv es with
     |some es'=>.ok (p/\q/\r/\n=n') H L (s.upd b (.map es'))
     |none=>.stop
    |_=>.stop
   |_,_,_,_,_=>.stop
  |_=>.stop
def ZjF(K:Env->Loc->St->Prop)(X:List DOp->Env->Loc->St->Prop):List DOp->Env->Loc->St->Prop
 | [],H,L,s=>K H L s
 |o::os,H,L,s=>match ZP o H L s with
  |.ok side H' L' s'=>side/\ZjF K X os H' L' s'
  |.all side pre H' s'=>side/\∀b,pre b->ZjF K X os (H' b) L (s' b)
  |.stop=>X (o::os) H L s
inductive Rd where
 |blk (b:Nat)
 |loc (l:Nat)
def Ji:E->List Rd
 |.d (.ptr b _)=>[.blk b]
 |.d (.map b)=>[.blk b]
 |.d (.msl b _ _ _ _)=>[.blk b]
 |.loc l _=>[.loc l]
 |_=>[]
def WR(o:DOp)(H:Env):List Rd :=
 match o.k with
 |.q q xs=>if Wz (.q q xs) then match Zw H o.guard with
  |some true=>match Yr H true xs with
   |some (_,e::_)=>Ji e
   |_=>[]
  |_=>[]
  else []
 |_=>[]
def ZaP(o:DOp)(H:Env):List (Nat×Rd):=(WR o H).map λb=>(Zdp o,b)
def Qv(s s':St)(L L':Loc):List (Nat×Rd)->Prop
 | []=>True
 | (_,.blk b)::B=>s' b=s b/\Qv s s' L L' B
 | (_,.loc l)::B=>Zq L' l=Zq L l/\Qv s s' L L' B
def Wk(fl:List Nat):List (Nat×Rd)->List (Nat×Rd)
 | []=>[]
 |x::B=>if Zcu x.1 fl then x::Wk fl B else Wk fl B
def Wo(fl:List Nat)(s s':St)(L L':Loc)(B:List (Nat×Rd)):Prop:=Qv s s' L L' (Wk fl B)
def Zh6(K:Env->Loc->St->Prop)(X:List (DOp×List Nat)->Env->Loc->St->List (Nat×Rd)->Prop):List (DOp×List Nat)->Env->Loc->St->List (Nat×Rd)->Prop
 | [],H,L,s,_=>K H L s
 |o::os,H,L,s,B=>match ZP o.1 H L s with
  |.ok side H' L' s'=>if WE o.1.k then side/\Zh6 K X os H' L' s' (ZaP o.1 H++B) else side/\Wo o.2 s s' L L' B/\Zh6 K X os H' L' s' (ZaP o.1 H++Wk o.2 B)
  |.all side pre H' s'=>side/\∀b,pre b->Wo o.2 s (s' b) L L B/\Zh6 K X os (H' b) L (s' b) (Wk o.2 B)
  |.stop=>X (o::os) H L s B
def Qj:E->List Nat
 |.loc l _=>[l]
 |.when _ e=>Qj e
 |_=>[]
def Wh(H:Env):List Nat->Env
 | []=>[]
 |k::ks=>match Z9 H k with
  |some e=>(k,e)::Wh H ks
  |none=>Wh H ks
def Zba(L:Loc):List Nat->Loc
 | []=>[]
 |l::ls=>match Zq L l with
  |some cs=>(l,cs)::Zba L ls
  |none=>Zba L ls
def Zce(H:Env)(L:Loc):Loc:=Zba L (H.flatMap λx=>Qj x.2)
structure Zvn(P:Program) where
 T:G->World->Machine->Prop
 back:∀g w m m',Steps P m m'->T g w m'->T g w m
 ext:∀g w g' w' m,Ext g w g' w'->T g' w' m->T g w m
structure Fr(P:Program) where
 T:Zvn P
 b:Frame
 cs:List Frame
 N:Nat
 ds:List Deferred
 an:Ann
inductive QU where
 |code (c:DC)
 |inBlock (id:Nat)
 |inLoop (c:DC)
 |inScope (c:DC)
 |beginR
inductive Ki(P:Program)(an:Ann)(N:Nat):List Item->List QU->Prop where
 |nil:Ki P an N [] []
 |code {c d k dk} (h:cc P an N c=some d) (t:Ki P an N k dk):Ki P an N (.code c::k) (.code d::dk)
 |inBlock {id k dk} (t:Ki P an N k dk):Ki P an N (.inBlock id::k) (.inBlock id::dk)
 |inLoop {c d k dk} (h:cc P an N c=some d) (t:Ki P an N k dk):Ki P an N (.inLoop c::k) (.inLoop d::dk)
 |inScope {c d k dk} (h:cc P an N c=some d) (t:Ki P an N k dk):Ki P an N (.inScope c::k) (.inScope d::dk)
 |beginR {k dk} (t:Ki P an N k dk):Ki P an N (.beginRound::k) (.beginR::dk)
section
variable {P:Program}
def Zur{b:Frame}{a k cs w c}:step P (lone (b.atR a (.code (.scope c)::k)) cs w)=.next (lone (b.atR a (.code c::.inScope c::k)) cs w) :=
 step_lone_go (by simp[stepG,stepG.exec,Frame.atR])
def Zrn{b:Frame}{a k cs w c}:step P (lone (b.atR a (.inScope c::k)) cs w)=.next (lone (b.atR a k) cs w) :=
 step_lone_go (by simp[stepG,stepG.exec,Frame.atR])
def Zaa(F:Fr P)(todo:List Item)(H:Env)(L:Loc)(s:St):Prop :=
 ∀g Z w tmps,F.N<=tmps.size->ZB g Z w tmps H L s->F.T.T g w (lone (F.b.atR ⟨tmps,F.ds⟩ todo) F.cs w)
def ZA(F:Fr P)(dk:List QU)(H:Env)(L:Loc)(s:St):Prop:=∀k,Ki P F.an F.N k dk->Zaa F k H L s
def DO(F:Fr P)(_keep:Option (List Nat))(dk:List QU)(os:List DOp)(H:Env)(L:Loc)(s:St):Prop :=
 ∀ops is k,Zag P F.N ops is=sO os->Ki P F.an F.N k dk->Zaa F (.inRegion ops is::k) H L s
def Zaa.step{F:Fr P}{k k' H L s}(h:∀a w,step P (lone (F.b.atR a k) F.cs w)=.next (lone (F.b.atR a k') F.cs w))(i:Zaa F k' H L s):Zaa F k H L s :=
 λg Z w tmps o m=>F.T.back _ _ _ _ (.one (h _ w)) (i g Z w tmps o m)
def Zz9{an N c}(h:cc P an N c=sO .skip):c=.skip:=by
 unfold cc at h;split at h<;>simp_all;all_goals (split at h<;>grind)
def ZwH{an N c}(h:cc P an N c=sO .ret):c=.ret:=by
 unfold cc at h;split at h<;>simp_all;all_goals (split at h<;>grind)
def ZuH{an N id c}(h:cc P an N c=sO (.exit id)):c=.exit id:=by
 unfold cc at h;split at h<;>simp_all;all_goals (split at h<;>grind)
def ZBc{an N c x y}(h:cc P an N c=sO (.seq x y)):∃a b,c=.seq a b/\cc P an N a=sO x/\cc P an N b=sO y:=by
 unfold cc at h;split at h<;>simp_all;all_goals (split at h<;>simp_all)
 grind
def Zz6{an N c x y o}(h:cc P an N c=sO (.cond o x y)):∃o' a b,c=.cond o' a b/\Z6 o'=sO o/\cc P an N a=sO x/\cc P an N b=sO y:=by
 unfold cc at h;split at h<;>simp_all;all_goals (split at h<;>simp_all)
 grind
def Zym{an N id c x}(h:cc P an N c=sO (.block id x)):∃a,c=.block id a/\cc P an N a=sO x:=by
 unfold cc at h;split at h<;>simp_all;all_goals (split at h<;>grind)
def Zz7{an N c x}(h:cc P an N c=sO (.loop x)):∃a,c=.loop a/\cc P an N a=sO x:=by
 unfold cc at h;split at h<;>simp_all;all_goals (split at h<;>grind)
def ZBb{an N c os ks}(h:cc P an N c=sO (.reg os ks)):
  ∃id ops,c=.region id ops false/\Zag P N ops (ZH5 ops.size)=sO os/\an.get id=ks:=by
 unfold cc at h;split at h<;>simp_all;grind;all_goals (split at h<;>grind)
def Zyo{an N c x}(h:cc P an N c=sO (.scope x)):∃a,c=.scope a/\cc P an N a=sO x:=by
 unfold cc at h;split at h<;>simp_all;all_goals (split at h<;>grind)
def Zyn{an N l c}(h:cc P an N c=sO (.label l)):c=.label l:=by
 unfold cc at h;split at h<;>simp_all;all_goals (split at h<;>grind)
def ZwG{an N c f ps x y}(h:cc P an N c=sO (.rangeF f ps x y)):
  ∃f' ps' a b,c=.rangeFunc f' ps' a b/\Z6 f'=sO f/\ps'.toList=ps/\cc P an N a=sO x/\cc P an N b=sO y/\∀t∈ps,t<N:=by
 unfold cc at h;split at h<;>simp_all;all_goals (split at h<;>simp_all)
 obtain⟨o,rfl,rfl,rfl,rfl⟩:=h;exact⟨_,_,_,_,⟨rfl,rfl,rfl,rfl⟩,‹_›,rfl,‹_›,‹_›,λt r=>by obtain⟨i,hi,rfl⟩:=ZIc r;simpa using o i ω⟩
def Zo{F:Fr P}{dk H L s}(h:ZA F dk H L s):ZA F (.code .skip::dk) H L s:=by
 intro k i;cases i with
 |code hc ht=>obtain rfl:=Zz9 hc;exact Zaa.step (λa w=>stepR_skip) (h _ ht)
def Zi{F:Fr P}{id dk H L s}(h:ZA F dk H L s):ZA F (.inBlock id::dk) H L s:=by
 intro k i;cases i with
 |inBlock ht=>exact Zaa.step (λa w=>stepR_inBlock) (h _ ht)
def Zd{F:Fr P}{x y dk H L s}(h:ZA F (.code x::.code y::dk) H L s):ZA F (.code (.seq x y)::dk) H L s:=by
 intro k r;cases r with
 |code hc ht=>obtain⟨a,b,rfl,i,o⟩:=ZBc hc;exact Zaa.step (λa w=>stepR_seq) (h _ (.code i (.code o ht)))
def Zb{F:Fr P}{id x dk H L s}(h:ZA F (.code x::.inBlock id::dk) H L s):ZA F (.code (.block id x)::dk) H L s:=by
 intro k o;cases o with
 |code hc ht=>obtain⟨a,rfl,i⟩:=Zym hc;exact Zaa.step (λa w=>stepR_block) (h _ (.code i (.inBlock ht)))
def Qm{F:Fr P}{x dk H L s}(h:ZA F (.code x::.inLoop x::dk) H L s):ZA F (.code (.loop x)::dk) H L s:=by
 intro k o;cases o with
 |code hc ht=>obtain⟨a,rfl,i⟩:=Zz7 hc;exact Zaa.step (λa w=>stepR_loop) (h _ (.code i (.inLoop i ht)))
def Za{F:Fr P}{x dk H L s}(h:ZA F (.code x::.inLoop x::dk) H L s):ZA F (.inLoop x::dk) H L s:=by
 intro k i;cases i with
 |inLoop hc ht=>exact Zaa.step (λa w=>stepR_inLoop) (h _ (.code hc (.inLoop hc ht)))
def YJ{F:Fr P}{x dk H L s}(h:ZA F (.code x::.inScope x::dk) H L s):ZA F (.code (.scope x)::dk) H L s:=by
 intro k o;cases o with
 |code hc ht=>obtain⟨a,rfl,i⟩:=Zyo hc;exact Zaa.step (λa w=>Zur) (h _ (.code i (.inScope i ht)))
def Z8{F:Fr P}{x dk H L s}(h:ZA F dk H L s):ZA F (.inScope x::dk) H L s:=by
 intro k i;cases i with
 |inScope hc ht=>exact Zaa.step (λa w=>Zrn) (h _ ht)
def YQ{F:Fr P}{l dk H L s}(h:ZA F dk H L s):ZA F (.code (.label l)::dk) H L s:=by
 intro k i;cases i with
 |code hc ht=>obtain rfl:=Zyn hc;exact Zaa.step (λa w=>stepR_label) (h _ ht)
def JG(id:Nat):List QU->Option (List QU)
 |.inBlock id'::k=>if id'=id then sO k else JG id k
 |_::k=>JG id k
 | []=>nO
def ZdE{an N id}:∀{k dk dk'},Ki P an N k dk->JG id dk=sO dk'->∃o,exitTo id k=sO o/\Ki P an N o dk'
 |_,_,_,.nil,h=>by cases h
 |_,_,_,.code _ t,h=>by simp[JG]at h;obtain⟨o,r,u⟩:=ZdE t h;exact⟨o,by simpa[exitTo]using r,u⟩
 |_,_,_,.inLoop _ t,h=>by simp[JG]at h;obtain⟨o,r,u⟩:=ZdE t h;exact⟨o,by simpa[exitTo]using r,u⟩
 |_,_,_,.inScope _ t,h=>by simp[JG]at h;obtain⟨o,r,u⟩:=ZdE t h;exact⟨o,by simpa[exitTo]using r,u⟩
 |_,_,_,.beginR t,h=>by simp[JG]at h;obtain⟨o,r,u⟩:=ZdE t h;exact⟨o,by simpa[exitTo]using r,u⟩
 |_,_,_,.inBlock (id:=id') t,h=>by simp[JG]at h;by_cases i:id'=id;simp[i]at h;subst h;exact⟨_,by simp[exitTo,i],t⟩;simp[i]at h;obtain⟨o,r,u⟩:=ZdE t h;exact⟨o,by simpa[exitTo,i]using r,u⟩
def ZbH{an N id}:∀{k dk},Ki P an N k dk->JG id dk=nO->exitTo id k=nO
 |_,_,.nil,_=>rfl
 |_,_,.code _ t,h=>by simp[JG]at h;simpa[exitTo]using ZbH t h
 |_,_,.inLoop _ t,h=>by simp[JG]at h;simpa[exitTo]using ZbH t h
 |_,_,.inScope _ t,h=>by simp[JG]at h;simpa[exitTo]using ZbH t h
 |_,_,.beginR t,h=>by simp[JG]at h;simpa[exitTo]using ZbH t h
 |_,_,.inBlock (id:=id') t,h=>by simp[JG]at h;by_cases hid:id'=id;grind;simp[hid]at h;simpa[exitTo,hid]using ZbH t h
def ZG{F:Fr P}{id dk i H L s}(t:JG id dk=sO i)(h:ZA F i H L s):ZA F (.code (.exit id)::dk) H L s:=by
 intro k u;cases u with
 |code hc ht =>obtain rfl:=ZuH hc;obtain⟨k',o,r⟩:=ZdE ht t;exact Zaa.step (λa w=>stepR_exit o) (h _ r)
def Yh{g Z w tmps H L s}(m:ZB g Z w tmps H L s){x y}(u:Z6 x=sO y){c}(r:c=true){p e}(o:ZH H c y=sO (p,e))(hp:p)(ds):ZM g Z w L ((Act.mk tmps ds).eval x) e:=by
 cases x with
 |tmp t =>cases u;simp[ZH]at o;split at o;rename_i c' e' hg;cases o;exact(m.env t _ hg).1 (hp r);rename_i e' hne hg;cases o;exact m.env t _ hg;grind
 |const v =>simp[Z6]at u;obtain⟨d,hd,rfl⟩:=u;cases o;exact ZjA hd
 |func f =>cases u;cases o;exact .fn (.func f) [] [] [] [] rfl rfl (λi v d h=>by grind) (λi v d h=>by grind)
 |global g =>
  cases u;cases o;cases ht:Zo5.tab g with
  |none=>exact .any _
  |some cs=>exact m.st.tabs g cs ht
def ZcM{g Z w tmps H L s}(m:ZB g Z w tmps H L s){c}(o:c=true)(ds) :
  ∀{xs r p es},Zc0 xs=sO r->Yr H c r=sO (p,es)->p->ZN (ZM g Z w L) (xs.map (Act.mk tmps ds).eval) es
 | [],r,p,es,hc,ha,hp=>by cases hc;cases ha;exact .nil
 |x::xs,r,p,es,hc,ha,hp=>by simp[Zc0]at hc;split at hc<;>simp at hc;rename_i y ys' hy i;subst hc;simp[Yr]at ha;split at ha<;>simp only[ZHQ,reduceCtorEq]at ha;rename_i p1 e1 p2 es' t u;obtain⟨rfl,rfl⟩:=ha;exact .cons (Yh m hy o t hp.1 ds) (ZcM m o ds i u hp.2)
def Zj{F:Fr P}{o x y dk H L s b p}(ho:ZH H true o=sO (p,.d (.bool b)))(hp:p)(ht:b=true->ZA F (.code x::dk) H L s)(hf:b=false->ZA F (.code y::dk) H L s):ZA F (.code (.cond o x y)::dk) H L s:=by
 intro k hk;cases hk with
 |code hc htl =>obtain⟨o',a,b',rfl,i,u,hb⟩:=Zz6 hc;intro g Z w tmps t m;have hv:=Yh m i rfl ho hp F.ds;have r:(Act.mk tmps F.ds).eval o'=.bool b:=Zcx hv;refine F.T.back _ _ _ _ (.one (stepR_cond r)) ?_;cases b;exact hf rfl _ (.code hb htl) g Z w tmps t m;exact ht rfl _ (.code u htl) g Z w tmps t m
def Zmv{F:Fr P}{os ks dk H L s}(h:DO F ks dk os H L s):ZA F (.code (.reg os ks)::dk) H L s:=by
 intro k o;cases o with
 |code hc ht =>obtain⟨id,ops,rfl,i,_⟩:=ZBb hc;exact Zaa.step (λa w=>stepR_region) (h _ _ _ i ht)
end
def Zjo(w:World){o}{b}(h:b<w.heap.size):(w.alloc o).heap[b]?=w.heap[b]?:=by
 show(w.heap.push o)[b]?=_;rw[Array.getElem?_push];simp[Nat.ne_of_lt h]
def JD(w:World){o}:(w.alloc o).heap[w.heap.size]?=sO o:=by
 show(w.heap.push o)[w.heap.size]?=_;rw[Array.getElem?_push];simp
def ZdJ(v:Value):v.oneCell'=v.one1:=by cases v<;>rfl
section
variable {P:Program} {g:G} {Z:Nat->Nat} {w:World} {tmps:Array Value} {H:Env} {L:Loc} {s:St}
def Zia(b:Nat){i vs:Array Value}{T:TypeId}(t:w.heap[b]?=sO (.cells i T (0,0)))(r:vs.size=i.size)(hp:g.prot b=0)(u:¬g.kept b):Ext g w g (w.setRow b vs):={
 size:=by simp
 prot _:=ZH9 _
 cell b' o ho:=by by_cases h:b'=b;subst h;omega;exact Zae (setRow_other w b b' vs h)
 hdr b' x hx:=by by_cases h:b'=b;subst h;simp only[hdr,t]at hx;simp only[hdr,setRow_heap w b' i vs T (0,0) t,r];exact hx;rw[Zb0 (setRow_other w b b' vs h)];exact hx
 kept b' hb':=setRow_other w b b' vs (λh=>u (h▸hb'))
 keptProt _ _:=rfl
 keptEq:=rfl
 os:=rfl
 output:=rfl
 tape:=rfl }
def Ym.other{g:G}{w w':World}{s:St}(m:Ym g s w)(e:Ext g w g w')(hs:w'.heap.size=w.heap.size)(i:∀b o,s b=sO o->w'.heap[b]?=w.heap[b]?):Ym g s w':={
 obj b o ho:=(m.obj b o ho).mono e (i b o ho) rfl
 kept:=m.kept
 fresh b h:=m.fresh b ω
 tabs n cs hc:=(m.tabs n cs hc).mono e }
def ZB.store(m:ZB g Z w tmps H L s){l cs ds}(hl:Zq L l=sO cs){vs}(hr:ZN (Rep g w) vs.toList ds)(ho:∀v∈vs,v.one1=true)(hn:I ds=I cs):
  Ext g w g (w.setRow (Z l) vs)/\ZB g Z (w.setRow (Z l) vs) tmps H ((l,ds)::L) s:=by
 obtain⟨hp,ac,T,h1,h2,_,_⟩:=m.loc l cs hl;have ad:vs.size=ac.size:=by have:=hr.len;simp at this;omega
 have he:=Zia (g:=g) (Z l) h1 ad hp (m.locKept l cs hl);refine⟨he,⟨?_,?_,?_,?_,?_,?_⟩⟩;exact m.st.other he ψ (λb o hb=>setRow_other w (Z l) b vs (λh=>by subst h;rw[m.locSt l cs hl]at hb;simp at hb));intro l' u r;simp only[Zq]at r;by_cases h:l=l';subst h;simp only[if_true,ZHQ]at r;subst r;refine⟨hp,vs,T,setRow_heap w (Z l) ac vs T (0,0) h1,by rw[ad,h2,hn],λi v d hv hd=>?_,ho⟩;exact(hr.get i v d (by simpa using hv) hd).mono he;simp only[h,if_false]at r;have ae:Z l'≠Z l:=λhh=>h (m.inj l l' cs u hl r hh.symm);exact(m.loc l' u r).mono he (setRow_other w (Z l) (Z l') vs ae) rfl;intro l' u r;simp only[Zq]at r;by_cases h:l=l';subst h;exact m.locKept l cs hl;simp only[h,if_false]at r;exact m.locKept l' u r;intro l' u r;simp only[Zq]at r;by_cases h:l=l';subst h;exact m.locSt l cs hl;simp only[h,if_false]at r;exact m.locSt l' u r;intro a b ca cb ha hb ab;simp only[Zq]at ha hb;by_cases h1:l=a;by_cases h2:l=b;exact h1.symm.trans h2;simp only[h2,if_false]at hb;subst h1;exact m.inj _ _ cs cb hl hb ab;simp only[h1,if_false]at ha;by_cases h2:l=b;subst h2;exact m.inj _ _ ca cs ha hl ab;simp only[h2,if_false]at hb;exact m.inj _ _ ca cb ha hb ab;intro t e ht;refine((m.env t e ht).mono he).locs (λl' u r=>⟨?_,rfl⟩);by_cases h:l=l';exact⟨ds,by simp[Zq,h]⟩;exact⟨u,by simp[Zq,h,r]⟩
def ZvF(c:Array Value)(T:TypeId)(i:∀b,w.heap.size<=b->g.prot b=0/\¬g.kept b):ZaC g w g (w.alloc (.cells c T)):={
 size:=by simp
 old b hb:=Zjo w hb
 prot _ _:=rfl
 fresh b hb:=(i b (by simp at hb;omega)).1
 kept:=rfl
 os:=rfl
 output:=rfl
 tape:=rfl }
def ZB.alloc(m:ZB g Z w tmps H L s){l ds}(hl:Zc8 L l=false){vs}(hr:ZN (Rep g w) vs.toList ds)(ho:∀v∈vs,v.one1=true)(T):
  Ext g w g (w.alloc (.cells vs T))/\ZB g (λx=>if x=l then w.heap.size else Z x) (w.alloc (.cells vs T)) tmps H ((l,ds)::L) s:=by
 have hg:=ZvF (g:=g) vs T m.st.fresh;have he:=hg.ext m.st.fresh;have m':=m.grow hg;have hn:Zq L l=nO:=by simpa[Zc8]using hl
 have ac:∀l' u,Zq L l'=sO u->l'≠l:=λl' u h hh=>by subst hh;rw[hn]at h;simp at h
 refine⟨he,⟨m'.st,?_,?_,?_,?_,?_⟩⟩;intro l' u r;simp only[Zq]at r;by_cases h:l=l';subst h;simp only[if_true,ZHQ]at r;subst r;simp only[if_true];refine⟨(m.st.fresh _ (ZH9 _)).1,vs,T,JD w,by simpa using hr.len,λi v d hv hd=>?_,ho⟩;exact(hr.get i v d (by simpa using hv) hd).mono he;simp only[h,if_false]at r;simp only[show ¬l'=l from λhh=>h hh.symm,if_false];exact m'.loc l' u r;intro l' u r;simp only[Zq]at r;by_cases h:l=l';subst h;simp only[if_true];exact(m.st.fresh _ (ZH9 _)).2;simp only[h,if_false]at r;simp only[show ¬l'=l from λhh=>h hh.symm,if_false];exact m.locKept l' u r
 .intro l' u r;simp only[Zq]at r;by_cases h:l=l'
  .subst h;simp only[if_true];cases hs:s w.heap.size with
   |none=>rfl
   |some o=>exact absurd (m.st.obj _ o hs).lt (Nat.lt_irrefl _)
  simp only[h,if_false]at r;simp only[show ¬l'=l from λhh=>h hh.symm,if_false];exact m.locSt l' u r
 intro a b ca cb ha hb ab;simp only[Zq]at ha hb;by_cases h1:l=a;by_cases h2:l=b;exact h1.symm.trans h2;simp only[h2,if_false]at hb;simp only[h1.symm,if_true,show ¬b=l from λhh=>h2 hh.symm,if_false]at ab;have:=(m.loc b cb hb).lt;omega;simp only[h1,if_false]at ha;by_cases h2:l=b;simp only[h2.symm,if_true,show ¬a=l from λhh=>h1 hh.symm,if_false]at ab;have:=(m.loc a ca ha).lt;omega;simp only[h2,if_false]at hb;simp only[show ¬a=l from λhh=>h1 hh.symm,show ¬b=l from λhh=>h2 hh.symm,if_false]at ab;exact m.inj _ _ ca cb ha hb ab;intro t e ht;refine(m'.env t e ht).locs (λl' u r=>⟨⟨u,?_⟩,?_⟩);have:=ac l' u r;simp[Zq,show ¬l=l' from λhh=>this hh.symm,r];simp[ac l' u r]
def Zl7(c:Array Value)(T:TypeId)(hf:∀b,w.heap.size<=b->g.prot b=0/\¬g.kept b):
  ZaC g w { g with prot:=λb=>if b=w.heap.size then c.size else g.prot b } (w.alloc (.cells c T)) where
 size:=by simp
 old b hb:=Zjo w hb
 prot b hb:=by simp[Nat.ne_of_lt hb]
 fresh b hb:=by simp at hb;simp[show b≠w.heap.size by omega,(hf b ω).1]
 kept:=rfl
 os:=rfl
 output:=rfl
 tape:=rfl
def Yo(m:ZB g Z w tmps H L s){ops o gd}(u:Zjt ops o.guard=sO gd){c}(r:Zw H gd=sO c):Region.wanted o (yielded ops tmps)=c:=by
 unfold Zjt at u;unfold Region.wanted;split at u;rename_i h0;simp only[ZHQ]at u;subst u;simp only[Zw,ZHQ]at r;subst r;simp[h0];rename_i j b h0;split at u<;>simp at u;rename_i t ht;subst u;simp only[h0];have hy:yielded ops tmps j=match tmps.getD t undef with
   |.bool b=>sO b
   |_=>nO:=by
  unfold yielded;rw[ht];simp only[Option.bind_some];rcases Nat.lt_or_ge t tmps.size with i|hge;simp[Array.getD,i];split<;>simp_all;simp[Array.getD,Nat.not_lt.2 hge,undef]
 simp only[Zw]at r;split at r;rename_i b' he;simp only[ZHQ]at r;subst r;have:=Zcx (m.env t _ he);rw[hy,this];cases b<;>cases b'<;>rfl;rename_i c0 b' he;simp only[ZHQ]at r;subst r;have h:=m.env t _ he;cases c0;have:=h.2 rfl;rw[hy,this];simp[undef];have:=Zcx (h.1 rfl);rw[hy,this];cases b<;>cases b'<;>rfl;simp at r
end
section
variable {P:Program}
def Yu{op k}(h:ck P op=sO k)(i:k.isDefer=false)(c):op≠.defer c:=by
 rintro rfl;simp only[ck,cq]at h;split at h<;>(try(simp at h;done));split at h<;>simp only[ZHQ,reduceCtorEq]at h;subst h;simp[K.isDefer]at i
def ZiM{b:Frame}{a k cs w w' ops i rest o v}(u:ops[i]?=sO o)(hw:Region.wanted o (yielded ops a.tmps)=true)(t:∀c,o.op≠.defer c)(hr:(execOp a.eval o).run P w=.ok (.value v) w'):
  step P (lone (b.atR a (.inRegion ops (i::rest)::k)) cs w)=.next (lone (b.atR (a.put o.dst v) (.inRegion ops rest::k)) cs w'):=by
 refine step_lone_go ?_;rw[stepGR_op u hw,Oper.semAt_eq _ _ _ t];have r:(b.atR a (.inRegion ops (i::rest)::k)).finish v=b.atR (a.put o.dst v) (.inRegion ops rest::k):=by rw[Frame.finish_atR,u];rfl
 rw[<-r];simp[stepG.apply,hr]
def ZiL{b:Frame}{a k cs w w' ops i rest o}(u:ops[i]?=sO o)(hw:Region.wanted o (yielded ops a.tmps)=true)(t:∀c,o.op≠.defer c)(hr:(execOp a.eval o).run P w=.ok .skip w'):
  step P (lone (b.atR a (.inRegion ops (i::rest)::k)) cs w)=.next (lone (b.atR (a.put o.dst undef) (.inRegion ops rest::k)) cs w'):=by
 refine step_lone_go ?_;rw[stepGR_op u hw,Oper.semAt_eq _ _ _ t];have r:(b.atR a (.inRegion ops (i::rest)::k)).finish undef=b.atR (a.put o.dst undef) (.inRegion ops rest::k):=by rw[Frame.finish_atR,u];rfl
 rw[<-r];simp[stepG.apply,hr]
def Zro{b:Frame}{a k cs w ops i rest o}(r:ops[i]?=sO o)(t:Region.wanted o (yielded ops a.tmps)=false):
  step P (lone (b.atR a (.inRegion ops (i::rest)::k)) cs w)=.next (lone (b.atR (a.put o.dst undef) (.inRegion ops rest::k)) cs w):=by
 have:=stepR_op_skip (P:=P) (b:=b) (a:=a) (k:=k) (cs:=cs) (w:=w) (ops:=ops) (i:=i) (rest:=rest) (by simp[r,t]);simpa[r]using this
def ZwP{N ops is o os}(h:Zag P N ops is=sO (o::os)):
  ∃i r oo,is=i::r/\ops[i]?=sO oo/\Zag P N ops r=sO os/\ck P oo.op=sO o.k/\Zjt ops oo.guard=sO o.guard/\oo.dst=o.dst/\∀d,o.dst=sO d->d<N:=by
 cases is with
 |nil=>simp[Zag]at h
 |cons i r =>simp only[Zag]at h;split at h<;>(try(simp at h;done));rename_i oo ac;split at h<;>simp only[ZHQ,List.cons.injEq,reduceCtorEq]at h;rename_i d ds hd u;obtain⟨rfl,rfl⟩:=h;simp only[cop]at hd;split at hd<;>(try(simp at hd;done));rename_i k g hk hg;refine⟨i,r,oo,rfl,ac,u,?_⟩;split at hd;rename_i t;simp only[ZHQ]at hd;subst hd;exact⟨hk,hg,t,λd h=>by simp at h⟩;rename_i d' t;split at hd<;>simp at hd;rename_i ab;subst hd;exact⟨hk,hg,t,λd h=>by simp only[ZHQ]at h;exact h▸ab⟩
def Zyw{N ops is}(h:Zag P N ops is=sO []):is=[]:=by
 cases is with
 |nil=>rfl
 |cons i r=>simp only[Zag]at h;split at h<;>(try(simp at h;done));split at h<;>simp at h
def ZhD{g Z w tmps H L s}(m:ZB g Z w tmps H L s){N}(i:N<=tmps.size){dst}(o:∀d,dst=sO d->d<N){v e}(h:ZM g Z w L v e)(ds):∃tmps',(Act.mk tmps ds).put dst v=⟨tmps',ds⟩/\N<=tmps'.size/\ZB g Z w tmps' (putE H dst e) L s:=by
 cases dst with
 |none=>exact⟨tmps,rfl,i,m⟩
 |some d=>exact⟨tmps.setIfInBounds d v,rfl,by simpa using i,m.put (by have:=o d rfl;omega) h⟩
def ZnU{F:Fr P}{ops i r k oo}{o:DOp}{g Z w tmps H L s}(hN:F.N<=tmps.size)(m:ZB g Z w tmps H L s)(hoo:ops[i]?=sO oo)(u:oo.dst=o.dst)(hd:∀d,o.dst=sO d->d<F.N)(hw:Region.wanted oo (yielded ops tmps)=true)(hnd:∀c,oo.op≠.defer c){e}(hv:∃v,(execOp (Act.mk tmps F.ds).eval oo).run P w=.ok (.value v) w/\ZM g Z w L v e)(h:Zaa F (.inRegion ops r::k) (putE H o.dst e) L s):
  F.T.T g w (lone (F.b.atR ⟨tmps,F.ds⟩ (.inRegion ops (i::r)::k)) F.cs w):=by
 obtain⟨v,hr,hv⟩:=hv;refine F.T.back _ _ _ _ (.one (ZiM hoo hw hnd hr)) ?_;rw[u];obtain⟨t,e1,e2,m'⟩:=ZhD m hN hd hv F.ds;rw[e1];exact h g Z w t e2 m'
def Zcc{F:Fr P}{ops i r k oo}{o:DOp}{g Z w tmps H L s}(hN:F.N<=tmps.size)(m:ZB g Z w tmps H L s)(hoo:ops[i]?=sO oo)(u:oo.dst=o.dst)(hd:∀d,o.dst=sO d->d<F.N)(hw:Region.wanted oo (yielded ops tmps)=false){e}(h:Zaa F (.inRegion ops r::k) (putE H o.dst (.when false e)) L s):F.T.T g w (lone (F.b.atR ⟨tmps,F.ds⟩ (.inRegion ops (i::r)::k)) F.cs w):=by
 refine F.T.back _ _ _ _ (.one (Zro hoo hw)) ?_;rw[u];obtain⟨t,e1,e2,m'⟩:=ZhD m hN hd (v:=undef) (e:=.when false e) ⟨λh=>by simp at h,λ_=>rfl⟩ F.ds;rw[e1];exact h g Z w t e2 m'
def ZBg{op q xs}(h:ck P op=sO (.q q xs)):∃i,cq P op=sO (q,i)/\Zc0 i=sO xs:=by
 unfold ck at h;split at h;rename_i q' i o;simp only[ZH8,K.q.injEq]at h;obtain⟨zs,r,rfl,rfl⟩:=h;exact⟨i,o,r⟩;exfalso;split at h<;>(try(simp at h;done));all_goals (repeat' (split at h<;>(try(simp at h;done))))
def Zgj(H):∀(ks t e),Z9 (Wh H ks) t=sO e->Z9 H t=sO e
 | [],t,e,h=>by simp[Wh,Z9]at h
 |k::ks,t,e,h=>by simp only[Wh]at h;split at h;rename_i e' i;simp only[Z9]at h;by_cases o:k=t;subst o;simp only[if_true]at h;rw[i,h];simp only[o,if_false]at h;exact Zgj H ks t e h;exact Zgj H ks t e h
def ZgW:∀{H t e},Z9 H t=sO e->(t,e)∈H
 | (k,e')::H,t,e,h=>by simp only[Z9]at h;by_cases i:k=t;simp only[i,if_true,ZHQ]at h;subst h;subst i;simp;simp only[i,if_false]at h;exact List.mem_cons_of_mem _ (ZgW h)
def Zbq(L):∀(ls l cs),Zq (Zba L ls) l=sO cs->Zq L l=sO cs
 | [],l,cs,h=>by simp[Zba,Zq]at h
 |k::ls,l,cs,h=>by simp only[Zba]at h;split at h;rename_i c' i;simp only[Zq]at h;by_cases o:k=l;subst o;simp only[if_true]at h;rw[i,h];simp only[o,if_false]at h;exact Zbq L ls l cs h;exact Zbq L ls l cs h
def ZkI(L):∀(ls l cs),l∈ls->Zq L l=sO cs->Zq (Zba L ls) l=sO cs
 |k::ls,l,cs,hm,h=>by
  simp only[Zba];by_cases hk:k=l;subst hk;simp[h,Zq];have hm':l∈ls:=by rcases List.mem_cons.1 hm with rfl|h;exact absurd rfl hk;exact h
  split;simp only[Zq,hk,if_false];exact ZkI L ls l cs hm' h;exact ZkI L ls l cs hm' h
def ZM.keep{g Z w L r v e}(h:ZM g Z w L v e)(u:∀l∈Qj e,l∈r):ZM g Z w (Zba L r) v e:=by
 induction e with
 |d x=>exact h
 |loc l o=>obtain⟨⟨t,i⟩,hv⟩:=h;exact⟨⟨t,ZkI L r l t (u l (by simp[Qj])) i⟩,hv⟩
 |when c e ih=>exact⟨λi=>ih (h.1 i) u,h.2⟩
def ZB.keep(m:ZB g Z w tmps H L s)(ks:List Nat):ZB g Z w tmps (Wh H ks) (Zce (Wh H ks) L) s:={
 st:=m.st
 loc l cs h:=m.loc l cs (Zbq _ _ _ _ h)
 locKept l cs h:=m.locKept l cs (Zbq _ _ _ _ h)
 locSt l cs h:=m.locSt l cs (Zbq _ _ _ _ h)
 inj l l' cs cs' h h':=m.inj l l' cs cs' (Zbq _ _ _ _ h) (Zbq _ _ _ _ h')
 env t e h:=(m.env t e (Zgj H ks t e h)).keep (λl i=>List.mem_flatMap.2 ⟨(t,e),ZgW h,i⟩) }
def Zd9{F:Fr P}{dk H L s}(ks)(h:ZA F dk (Wh H ks) (Zce (Wh H ks) L) s):ZA F dk H L s :=
 λk o g Z w tmps i m=>h k o g Z w tmps i (m.keep ks)
def ZA5{F:Fr P}{kp dk H L s}(h:ZA F dk H L s):DO F kp dk [] H L s:=by
 intro ops is k i r g Z w tmps o m;obtain rfl:=Zyw i;exact F.T.back _ _ _ _ (.one stepR_region_end) (h k r g Z w tmps o m)
def kept(kp:Option (List Nat))(H:Env):Env :=
 match kp with
 |some ks=>Wh H ks
 |none=>H
def Zk9(kp:Option (List Nat))(H:Env)(L:Loc):Loc :=
 match kp with
 |some ks=>Zce (Wh H ks) L
 |none=>L
def Zhd{F:Fr P}{kp}{dk}{H}{L}{s}(h:ZA F dk (kept kp H) (Zk9 kp H L) s):DO F kp dk [] H L s:=by
 refine ZA5 ?_;cases kp with
 |none=>exact h
 |some ks=>exact Zd9 ks h
end
section
variable {P:Program}
def Zzc{g Z w tmps H L s}(m:ZB g Z w tmps H L s){x a b x' o r}(hx:Z6 x=sO x')(ha:Z6 a=sO o)(hb:Z6 b=sO r){c}(hc:c=true){p v}(h:Zgq H c x' o r=sO (p,v))(i:p){ds dst ty pos af gd}:
  (execOp (Act.mk tmps ds).eval ⟨dst,.pick x a b,ty,pos,af,gd⟩).run P w=.ok (.value (.bool v)) w:=by
 unfold Zgq at h;split at h<;>(try(grind;done));rename_i p0 v0 h0;split at h<;>(try(grind;done));rename_i pa y pb z h1 h2;cases h;subst hc;have t:=Zcx (Yh m hx rfl h0 i.1 ds);cases v0;have e2:=Zcx (Yh m hb rfl h2 i.2.2 ds);simp[execOp,t,e2,asBool];have u:=Zcx (Yh m ha rfl h1 i.2.1 ds);simp[execOp,t,u,asBool]
def ZAe{op x a b}(h:ck P op=sO (.pick x a b)):∃x' a' b',op=.pick x' a' b'/\Z6 x'=sO x/\Z6 a'=sO a/\Z6 b'=sO b:=by
 unfold ck at h;split at h;simp at h;split at h<;>(try(simp at h;done));all_goals (try(repeat' (split at h<;>(try(simp at h;done)))))
 cases h;exact⟨_,_,_,rfl,‹_›,‹_›,‹_›⟩
def Zyr{op z}(h:ck P op=sO (.alloc z)):∃e,op=.alloc e/\ZaL P e=sO z:=by
 unfold ck at h;split at h;simp at h;split at h<;>(try(simp at h;done));all_goals (try(repeat' (split at h<;>(try(simp at h;done)))))
 simp at h;exact⟨_,rfl,h⟩
def ZBf{op x}(h:ck P op=sO (.box x)):∃e x',op=.box e x'/\Z6 x'=sO x:=by
 unfold ck at h;split at h;simp at h;split at h<;>(try(simp at h;done));all_goals (try(repeat' (split at h<;>(try(simp at h;done)))))
 simp at h;exact⟨_,_,rfl,h⟩
def Zp7{op a v}(h:ck P op=sO (.store1 a v)):∃t a' v',op=.store t a' v'/\ZaD P t=sO false/\ZX P t=sO 1/\Z6 a'=sO a/\Z6 v'=sO v:=by
 unfold ck at h;split at h;simp at h;split at h<;>(try(simp at h;done));all_goals (try(repeat' (split at h<;>(try(simp at h;done)))))
 cases h;exact⟨_,_,_,rfl,‹_›,‹_›,‹_›,‹_›⟩
def Zp8{op a v n}(h:ck P op=sO (.storeN n a v)):∃t a' v',op=.store t a' v'/\ZaD P t=sO true/\ZX P t=sO n/\Z6 a'=sO a/\Z6 v'=sO v:=by
 unfold ck at h;split at h;simp at h;split at h<;>(try(simp at h;done));all_goals (try(repeat' (split at h<;>(try(simp at h;done)))))
 cases h;exact⟨_,_,_,rfl,‹_›,‹_›,‹_›,‹_›⟩
def ZwI{op len n z is xs}(h:ck P op=sO (.bsl len n z is xs)):
  ∃t e parts,op=.buildSlice t len parts/\P.underlying t=sO (.slice e)/\ZX P e=sO n/\ZaL P e=sO z/\Zc0 (parts.toList.map (·.2))=sO xs/\is=parts.toList.map (·.1) /\
   QX len is=true/\I z=n/\0<n/\len*n<=2 ^ 24:=by
 unfold ck at h;split at h;simp at h;split at h<;>(try(simp at h;done));all_goals (try(repeat' (split at h<;>(try(simp at h;done)))))
 rename_i i;cases h;simp at i;exact⟨_,_,_,rfl,‹_›,‹_›,‹_›,‹_›,rfl,i.1.1.1,i.1.1.2,i.1.2,i.2⟩
def JC{g w t z}(h:ZaL P t=sO z):∃v,(zeroValue t).run P w=.ok v w/\ZN (Rep g w) v.cells.toList z/\(∀x∈v.cells,x.one1=true)/\∃i,P.info? t=sO i/\i.zero=sO v:=by
 unfold ZaL at h;cases r:P.info? t with
 |none=>grind
 |some i =>
  cases o:i.zero with
  |none=>grind
  |some v =>simp[r,o]at h;obtain⟨u,h2⟩:=Zeg (g:=g) (w:=w) h;exact⟨v,by simp[zeroValue,typeInfo,r,o],u,λx hx=>h2 x (Array.mem_toList_iff.2 hx),i,rfl,o⟩
def WN{F:Fr P}{kp dk o os H L s}(h:∀(oo:Oper) (g:G) (Z:Nat->Nat) (w:World) (tmps:Array Value) (u:Array Oper) (i:Nat) (r:List Nat) (k:List Item),u[i]?=sO oo->ck P oo.op=sO o.k->Zjt u oo.guard=sO o.guard ->
   oo.dst=o.dst->(∀d,o.dst=sO d->d<F.N)->F.N<=tmps.size->ZB g Z w tmps H L s->Zag P F.N u r=sO os->Ki P F.an F.N k dk ->
   F.T.T g w (lone (F.b.atR ⟨tmps,F.ds⟩ (.inRegion u (i::r)::k)) F.cs w)):DO F kp dk (o::os) H L s:=by
 intro u is k t hk g Z w tmps hN m;obtain⟨i,r,oo,rfl,h1,h2,h3,h4,h5,h6⟩:=ZwP t;exact h oo g Z w tmps u i r k h1 h3 h4 h5 h6 hN m h2 hk
def ZrN{F:Fr P}{kp dk o os H L s c}(hg:Zw H o.guard=sO c)(hnk:o.k.isDefer=false){e e'}(he:e'=.when c e\/(c=true/\e'=e))(hv:c=true->∀(oo:Oper) (g:G) (Z:Nat->Nat) (w:World) (tmps:Array Value),ck P oo.op=sO o.k->ZB g Z w tmps H L s ->
   ∃v,(execOp (Act.mk tmps F.ds).eval oo).run P w=.ok (.value v) w/\ZM g Z w L v e)(h:DO F kp dk os (putE H o.dst e') L s):DO F kp dk (o::os) H L s:=by
 refine WN λoo g Z w tmps ag i r k ac u ad t hd hN m hr ae=>?_;have ab:=h ag r k hr ae;have hw:=Yo m ad hg;have af:=Yu u hnk;cases c;rcases he with rfl|⟨h0,_⟩;exact Zcc (P:=P) hN m ac t hd hw ab;grind;obtain⟨v,h1,h2⟩:=hv rfl oo g Z w tmps u m;refine ZnU hN m ac t hd hw af ⟨v,h1,?_⟩ ab;rcases he with rfl|⟨_,rfl⟩;exact⟨λ_=>h2,λh=>by simp at h⟩;exact h2
def ZA6{F:Fr P}{kp dk o os H L s c}(hg:Zw H o.guard=sO c){q xs}(hk:o.k=.q q xs){p side es e}(ha:Yr H c xs=sO (p,es))(hq:qv L s q es=sO (side,e))(hs:c=true->p/\side){e'}(he:e'=.when c e\/(c=true/\e'=e))(h:DO F kp dk os (putE H o.dst e') L s):DO F kp dk (o::os) H L s:=by
 refine ZrN hg (by rw[hk];rfl) he (λhc oo g Z w tmps r m=>?_) h;rw[hk]at r;obtain⟨ys,t,u⟩:=ZBg r;have i:=ZcM m hc F.ds u ha (hs hc).1;exact ZAw t i m.loc m.st hq (hs hc).2
def YS{F:Fr P}{ops i r k oo}{o:DOp}{g g' Z' w w' tmps H L' s'}(hN:F.N<=tmps.size)(hoo:ops[i]?=sO oo)(hdst:oo.dst=o.dst)(hd:∀d,o.dst=sO d->d<F.N)(hw:Region.wanted oo (yielded ops tmps)=true)(hnd:∀c,oo.op≠.defer c){e v}(hr:(execOp (Act.mk tmps F.ds).eval oo).run P w=.ok (.value v) w')(hx:Ext g w g' w')(m':ZB g' Z' w' tmps H L' s')(hv:ZM g' Z' w' L' v e)(h:Zaa F (.inRegion ops r::k) (putE H o.dst e) L' s'):F.T.T g w (lone (F.b.atR ⟨tmps,F.ds⟩ (.inRegion ops (i::r)::k)) F.cs w):=by
 refine F.T.back _ _ _ _ (.one (ZiM hoo hw hnd hr)) ?_;rw[hdst];obtain⟨t,e1,e2,u⟩:=ZhD m' hN hd hv F.ds;rw[e1];exact F.T.ext _ _ _ _ _ hx (h g' Z' w' t e2 u)
def ZrI{F:Fr P}{kp dk o os H L s}(hg:o.guard=nO){t}(hdt:o.dst=sO t){z}(hk:o.k=.alloc z)(hl:Zc8 L t=false)(h:DO F kp dk os ((t,.loc t 0)::H) ((t,z)::L) s):DO F kp dk (o::os) H L s:=by
 refine WN λoo g Z w tmps ak i r k af u ac ab hd hN m hr ad=>?_;have hw:=Yo m ac (c:=true) (by rw[hg];rfl);have ae:=Yu u (by rw[hk];rfl);rw[hk]at u;obtain⟨T,ag,hz⟩:=Zyr u;obtain⟨v,ah,ai,aj,_⟩:=JC (g:=g) (w:=w) hz;obtain⟨hx,m'⟩:=m.alloc hl ai aj T;refine YS (s':=s) hN af ab hd hw ae (v:=.pointer (sO ⟨w.heap.size,0,nO⟩)) (e:=.loc t 0) ?_ hx m' ⟨⟨z,by simp[Zq]⟩,ψ⟩ ?_;simp[execOp,ag,Instr.alloc,ah,newVar,newRow];rw[hdt];exact h ak r k hr ad
def ZA3{F:Fr P}{kp dk o os H L s}(hg:o.guard=nO){t}(hdt:o.dst=sO t){x}(hk:o.k=.box x){p v}(ha:ZH H true x=sO (p,.d v))(hp:p)(hl:Zc8 L t=false)(hok:Qb v=true)(h:DO F kp dk os ((t,.loc t 0)::H) ((t,cellsOf v)::L) s):DO F kp dk (o::os) H L s:=by
 refine WN λoo g Z w tmps am i r k aj ab ag ac hd hN m hr ah=>?_;have hw:=Yo m ag (c:=true) (by rw[hg];rfl);have ai:=Yu ab (by rw[hk];rfl);rw[hk]at ab;obtain⟨T,x',ak,al⟩:=ZBf ab;have u:Rep g w _ v:=Yh m al rfl ha hp F.ds;obtain⟨ae,af⟩:=Zgt u hok;have ad:=Zlf u hok;obtain⟨hx,m'⟩:=m.alloc hl (Yn (by simpa using ae) af) (λv hv=>ad v hv) T;refine YS (s':=s) hN aj ac hd hw ai (v:=.pointer (sO ⟨w.heap.size,0,nO⟩)) (e:=.loc t 0) ?_ hx m' ⟨⟨cellsOf v,by simp[Zq]⟩,ψ⟩ ?_;simp[execOp,ak,Instr.box,newVar,newRow];rw[hdt];exact h am r k hr ah
def ZAv{g Z w L v l off}(h:ZM g Z w L v (.loc l off)):v=.pointer (sO ⟨Z l,off,nO⟩):=h.2
def ZrM{F:Fr P}{kp dk o os H L s}(hg:o.guard=nO){a v}(hk:o.k=.store1 a v/\True\/∃n,o.k=.storeN n a v){p q l off d cs}(ha:ZH H true a=sO (p,.loc l off))(hv:ZH H true v=sO (q,.d d))(hp:p)(hq:q)(hL:Zq L l=sO cs)(hd1:o.k=.store1 a v->Qy d=true)(hd2:∀n,o.k=.storeN n a v->(∃xs,d=.agg xs)/\(cellsOf d).length=n)(hlen:off+(cellsOf d).length<=I cs)(hdst0:o.dst=nO)(h:DO F kp dk os H ((l,ZF cs off (cellsOf d))::L) s):DO F kp dk (o::os) H L s:=by
 refine WN λoo g Z w tmps a1 i r k av ab ao ak hd hN m hr ar=>?_;have hw:=Yo m ao (c:=true) (by rw[hg];rfl);have au:=Yu ab (by rcases hk with ⟨hk,_⟩|⟨n,hk⟩<;>rw[hk]<;>rfl);have ai:∃t a' v',oo.op=.store t a' v'/\Z6 a'=sO a/\Z6 v'=sO v/\ZX P t=sO (cellsOf d).length/\Qb d=true:=by rcases hk with ⟨hk,_⟩|⟨n,hk⟩;have ac:=hd1 hk;rw[hk]at ab;obtain⟨t,a',v',h1,h2,h3,h4,h5⟩:=Zp7 ab;refine⟨t,a',v',h1,h4,h5,?_,?_⟩;rw[h3];cases d<;>simp[Qy]at ac<;>rfl;cases d<;>simp[Qy]at ac<;>rfl;obtain⟨⟨xs,rfl⟩,hn⟩:=hd2 n hk;rw[hk]at ab;obtain⟨t,a',v',h1,h2,h3,h4,h5⟩:=Zp8 ab;exact⟨t,a',v',h1,h4,h5,by rw[h3,hn],rfl⟩
 obtain⟨t,a',v',aw,al,az,ay,ac⟩:=ai;have am:=ZAv (Yh m al rfl ha hp F.ds);have ag:Rep g w _ d:=Yh m az rfl hv hq F.ds;obtain⟨ah,an⟩:=Zgt ag ac;have af:=Zlf ag ac;obtain⟨hpr,u,T,hb,ap,aq,aj⟩:=m.loc l cs hL;generalize a0:(Act.mk tmps F.ds).eval v'=vv at *;have ax:=run_storeCells_at (P:=P) (Z l) off T vv.cells.toList 0 u w hb (by simp;omega) (λx hx=>by rw[ZdJ];exact af x (Array.mem_toList_iff.1 hx));have ad:ZN (Rep g w) (u.toList.take off++vv.cells.toList++u.toList.drop (off+vv.cells.size)) (ZF cs off (cellsOf d)):=by have ae:ZN (Rep g w) u.toList cs:=Yn (by simpa using ap) (λi v d hv hd=>aq i v d (by simpa using hv) hd);unfold ZF;rw[<-ah];exact((ae.take off).append (Yn (by simpa using ah) an)).append (ae.drop _)
 obtain⟨hx,m'⟩:=m.store hL (vs:=(u.toList.take off++vv.cells.toList++u.toList.drop (off+vv.cells.size)).toArray) (ds:=ZF cs off (cellsOf d)) (by simpa using ad) (λx hx=>by
  simp only[List.mem_toArray,List.mem_append]at hx;rcases hx with (hx|hx)|hx;exact aj x (Array.mem_toList_iff.1 (List.mem_of_mem_take hx));exact af x (Array.mem_toList_iff.1 hx);exact aj x (Array.mem_toList_iff.1 (List.mem_of_mem_drop hx))) (by simp[ZF];omega)
 refine F.T.back _ _ _ _ (.one (ZiL av hw au (w':=w.setRow (Z l) (u.toList.take off++vv.cells.toList++u.toList.drop (off+vv.cells.size)).toArray) ?_)) ?_;simp only[execOp,aw,am,a0,Instr.storeAt,Instr.sureAddr,storeVar,Sem.run_bind,Sem.run_pure,Result.andThen_ok,YV ay];rw[if_neg (by simp[ah])];rw[ax];rfl;rw[ak,hdst0];exact F.T.ext _ _ _ _ _ hx (h a1 r k hr ar g Z _ tmps hN m')
end
def ZsU{cs vs s k i}(hv:I vs=s)(u:(k+1)*s<=I cs)(hi:(i+1)*s<=I cs):
  part (ZF cs (k*s) vs) (i*s) s=if i=k then vs else part cs (i*s) s:=by
 have hk':k*s+s<=I cs:=by rw[ZIp,Nat.one_mul]at u;exact u
 unfold part ZF;apply List.ext_getElem?;intro j;by_cases r:j<s;simp only[ZIv,r,if_true,List.getElem?_drop,List.getElem?_append,ZHX,ZIa,hv];by_cases o:i=k;subst o;simp only[show i*s+j<min (i*s) (I cs)+s from by omega,show ¬i*s+j<min (i*s) (I cs) from by omega,if_true,if_false];rw[show i*s+j-min (i*s) (I cs)=j from by omega];simp only[o,if_false,ZIv,r,if_true,List.getElem?_drop];rcases Nat.lt_or_gt_of_ne o with h|h;have:(i+1)*s<=k*s:=ZIi s h;rw[ZIp,Nat.one_mul]at this;simp only[show i*s+j<min (k*s) (I cs)+s from by omega,show i*s+j<min (k*s) (I cs) from by omega,if_true,show i*s+j<k*s from by omega];have:(k+1)*s<=i*s:=ZIi s h;rw[ZIp,Nat.one_mul]at this;simp only[show ¬i*s+j<min (k*s) (I cs)+s from by omega,if_false]
 congr 1;omega
 have t:∀l:List D,(l.take s)[j]?=nO:=λl=>by simp[ZIv,r]
 rw[t];split;exact(ZIz (l:=vs) (i:=j) ω).symm;rw[t]
def ZpG{cs vs o}(h:o+I vs<=I cs):(ZF cs o vs).length=I cs:=by
 simp[ZF];omega
def Zhq{n}:∀{is},QX n is=true->∀i∈is,i<n
 |i::r,h,j,hj=>by simp[QX]at h;rcases List.mem_cons.1 hj with rfl|hj;exact h.1.1;exact Zhq h.2 j hj
def Zn3{z}:∀{ps i},(∀p∈ps,p.1≠i)->ZI z ps i=z
 | [],_,_=>rfl
 | (k,d)::r,i,h=>by have o:¬k=i:=h (k,d) ψ;simp[ZI,o];exact Zn3 λp t=>h p (List.mem_cons_of_mem _ t)
def ZjK{len s}:∀(is ds cells),QX len is=true->I is=I ds->Zam s ds=true->I cells=len*s ->
  ∃cs,ZdZ cells (is.map λi=>(i*s,s)) ds=sO cs/\I cs=len*s/\∀i,i<len->part cs (i*s) s=ZI (part cells (i*s) s) (is.zip ds) i
 | [],[],cells,_,_,_,hc=>⟨cells,rfl,hc,λi _=>rfl⟩
 |k::is,d::ds,cells,hd,hn,hp,hc=>by
  simp[QX]at hd;simp[Zam]at hp;obtain⟨⟨hk,u⟩,hd⟩:=hd;obtain⟨⟨ac,ab⟩,ad⟩:=hp;have r:(k+1)*s<=I cells:=by rw[hc];exact ZIi s hk
  have t:k*s+s<=I cells:=by rw[ZIp,Nat.one_mul]at r;exact r
  obtain⟨cs,h1,h2,h3⟩:=ZjK is ds (ZF cells (k*s) (cellsOf d)) hd (by simpa using hn) ad (by rw[ZpG ω,hc]);refine⟨cs,?_,h2,λi hi=>?_⟩;simp only[ZIo,ZdZ];rw[if_pos ⟨ac,ab,t⟩];exact h1;rw[h3 i hi,ZsU ab r (by rw[hc];exact ZIi s hi)];simp[ZI];by_cases o:i=k;subst o;simp;exact Zn3 λp hp=>by have:=(List.of_mem_zip hp).1;intro h;subst h;exact u this
  simp[o,show ¬k=i from λh=>o h.symm]
 | [],_::_,_,_,hn,_,_=>by grind
 |_::_,[],_,_,hn,_,_=>by grind
def ZkQ{z len s i}(hzl:I z=s)(_hs0:0<s)(u:i<len):part ((ZH5 (len*s)).map λi=>z.getD (i % s) .undef) (i*s) s=z:=by
 apply List.ext_getElem?;intro c;by_cases t:c<s;have r:i*s+c<len*s:=by have:(i+1)*s<=len*s:=ZIi s u;rw[ZIp,Nat.one_mul]at this;omega
 have hm:(i*s+c) % s=c:=by rw[Nat.mul_comm,Nat.mul_add_mod,Nat.mod_eq_of_lt t]
 have o:c<I z:=ω;simp only[part,ZIv,t,List.getElem?_drop,List.getElem?_map,List.getElem?_range r,Option.map_some,hm];simp[o];rw[ZIz (l:=z) ω];simp[part,ZIv,t]
section
variable {P:Program}
def ZBa{g w len s z t e}{parts:List (Nat×Value)}{ds}(hu:P.underlying t=sO (.slice e))(hsz:ZX P e=sO s)(hz:ZaL P e=sO z)(hdis:QX len (parts.map (·.1))=true)(hzl:I z=s)(hs0:0<s)(hbig:len*s<=2 ^ 24)(hd:ZN (Rep g w) (parts.map (·.2)) ds)(hp:Zam s ds=true)(hf:∀b,w.heap.size<=b->g.prot b=0/\¬g.kept b):
  ∃v w' g',(Instr.buildSlice t len parts.toArray).run P w=.ok v w'/\ZaC g w g' w'/\Rep g' w' v (.sl .full len s (ZI z ((parts.map (·.1)).zip ds))):=by
 obtain⟨zv,hz1,au,az,ie,ap,a1⟩:=JC (g:=g) (w:=w) hz;have ab:ie.size=s:=by simpa[ZX,ap]using hsz
 have ae:zv.cells.size=s:=by have:=au.len;simp at this;omega
 have hn:(parts.map (·.1)).length=I ds:=by have:=hd.len;simpa using this
 let c0:Array Value:=(Array.range (len*s)).map (zv.cells[· % zv.cells.size]!);let d0:List D:=(ZH5 (len*s)).map λi=>z.getD (i % s) .undef;have ak:ZN (Rep g w) c0.toList d0:=by refine Yn (by simp[c0,d0]) (λi v d hv hd=>?_);simp[c0,d0]at hv hd;obtain⟨a,ha,rfl⟩:=hv;obtain⟨b,hb,rfl⟩:=hd;rw[ha]at hb;cases hb;have o:a % s<s:=Nat.mod_lt _ hs0;refine au.get (a % s) _ _ ?_ ?_;rw[ae];simp[ae,o];simp[hzl,o]
 have aj:∀v∈c0,v.one1=true:=λv hv=>by simp[c0]at hv;obtain⟨a,_,rfl⟩:=hv;have o:a % zv.cells.size<zv.cells.size:=Nat.mod_lt _ ω;rw[getElem!_pos zv.cells (a % zv.cells.size) o];exact az _ (Array.getElem_mem o)
 have ai:I d0=len*s:=by simp[d0]
 obtain⟨cs,ah,hcl,ad⟩:=ZjK (parts.map (·.1)) ds d0 hdis hn hp ai;obtain⟨cv,av,an,aw⟩:=Zhu (g:=g) (w:=w) (λi=>sO (i*s,s)) parts ((parts.map (·.1)).map λi=>(i*s,s)) ds cs d0 c0 (λi x q hx hq=>by
  simp[hx,Function.comp_def]at hq;rw[<-hq]) ψ hd ak aj ah
 have ag:cv.size=len*s:=by have:=an.len;simp at this;omega
 have u:∀i j,i<len->j<s->i*s+j<len*s:=λi j hi hj=>by have:(i+1)*s<=len*s:=ZIi s hi;rw[ZIp,Nat.one_mul]at this;omega
 have af:∀i j d,i<len->j<s->(ZI z ((parts.map (·.1)).zip ds) i)[j]?=sO d->cs[i*s+j]?=sO d:=λi j d hi hj hd=>by have h:=ad i hi;have al:part d0 (i*s) s=z:=ZkQ hzl hs0 hi;rw[al]at h;rw[<-h]at hd;simpa[part,hj]using hd
 have ac:∀i,i<len->(ZI z ((parts.map (·.1)).zip ds) i).length=s:=λi hi=>by
  have al:=ad i hi;have:(part cs (i*s) s).length=s:=by have:=u i (s-1) hi ω;simp[part];omega
  have a0:part d0 (i*s) s=z:=ZkQ hzl hs0 hi;rw[al,a0]at this;exact this
 by_cases ax:len=0
 .subst ax;have ay:parts=[]:=by
   cases parts with
   |nil=>rfl
   |cons x r=>have:=Zhq hdis x.1 ψ;omega
  subst ay;refine⟨.slice (sO ⟨w.heap.size,0,nO⟩) 0 0,w.alloc (.cells #[] e),{ g with prot:=λb=>if b=w.heap.size then 0 else g.prot b },?_,Zl7 #[] e hf,?_⟩;simp[Instr.buildSlice,run_underlying hu,YV hsz,Instr.fill,newRow];exact congrArg (λc=>w.alloc (Obj.cells c e)) (Array.ext' ψ);exact .sl w.heap.size 0 0 0 s _ .full (λ_ _=>undef) (λi hi=>by omega) (λi j hi=>by omega) (λi j hi=>by omega) (λi j d hi=>by omega) (λi j hi=>by omega) rfl ω ψ
 have aq:¬len*s=0:=by simp[Nat.mul_eq_zero];omega
 have ar:=run_buildSlice (P:=P) w t e len parts.toArray cv ie zv hu ap a1 (by rw[ab];omega) (by rw[ab];exact aq) (by rw[ab];exact av);have ao:=Zl7 (g:=g) (w:=w) cv e hf;refine⟨_,_,_,ar,ao,?_⟩;have am:=ao.ext hf;refine .sl w.heap.size 0 len len s _ .full (λi j=>cv.getD (i*s+j) undef) ac (λi j hi hj=>?_) (λi j hi hj=>?_) (λi j d hi hd=>?_) (λi j hi hj=>?_) rfl (ZH9 _) ?_;have o:i*s+j<cv.size:=by rw[ag];exact u i j hi hj
 have:(w.alloc (.cells cv e)).cell? ⟨w.heap.size,0+i*s+j,nO⟩=cv[0+i*s+j]?:=World.cell?_alloc_new w cv e _;rw[this];simp[o];simp;have:=u i j hi hj;omega;have hj:j<s:=by rw[<-ac i hi];exact(List.getElem?_eq_some_iff.1 hd).1
 have o:i*s+j<cv.size:=by rw[ag];exact u i j hi hj
 refine(an.get (i*s+j) _ d ?_ (af i j d hi hj hd)).mono am;simp[o];have o:i*s+j<cv.size:=by rw[ag];exact u i j hi hj
 simp[o,dite_true];exact aw _ (Array.getElem_mem o);unfold big;have:len<=len*s:=Nat.le_mul_of_pos_right _ hs0;omega
end
section
variable {P:Program}
def Ym.updL(h:Ym g s w){b:Nat}{o:JW}(ho:WO g w b o)(hk:¬g.kept b):Ym g (s.upd b o) w:={
 obj c x hx:=by simp[St.upd]at hx;by_cases i:c=b;grind;simp[i]at hx;exact h.obj c x hx
 kept c x hx:=by simp[St.upd]at hx;by_cases i:c=b;grind;simp[i]at hx;exact h.kept c x hx
 fresh:=h.fresh
 tabs:=h.tabs }
def ZB.named{w w':World}(m:ZB g Z w tmps H L s){b:Nat}{o o':JW}(hb:s b=sO o)(he:Ext g w g w')(hsz:w'.heap.size=w.heap.size)(u:∀c,c≠b->w'.heap[c]?=w.heap[c]?)(ho:WO g w' b o'):ZB g Z w' tmps H L (s.upd b o'):={
 st:=by
  have h1:Ym g (s.del b) w':=⟨λc x hx=>by simp[St.del]at hx;by_cases r:c=b;grind;simp[r]at hx;exact(m.st.obj c x hx).mono he (u c r) rfl,
   λc x hx=>by simp[St.del]at hx;by_cases r:c=b;grind;simp[r]at hx;exact m.st.kept c x hx,
   λc r=>m.st.fresh c ω,λn cs r=>(m.st.tabs n cs r).mono he⟩
  have h2:=h1.updL ho (m.st.kept b o hb);have:(s.del b).upd b o'=s.upd b o':=by funext c;simp[St.upd,St.del];by_cases r:c=b<;>simp[r]
  rw[this]at h2;exact h2
 loc l cs hl:=(m.loc l cs hl).mono he (u _ (λh=>by have:=m.locSt l cs hl;grind)) rfl
 locKept:=m.locKept
 locSt l cs hl:=by
  have i:Z l≠b:=λh=>by have:=m.locSt l cs hl;grind
  simp[St.upd,i];exact m.locSt l cs hl
 inj:=m.inj
 env t e ht:=(m.env t e ht).mono he }
def ZB.newObj{g t Z w w' tmps H L s}(m:ZB g Z w tmps H L s)(hg:ZaC g w t w'){o}(ho:WO t w' w.heap.size o):
  s w.heap.size=nO/\ZB t Z w' tmps H L (s.upd w.heap.size o):=by
 have hn:s w.heap.size=nO:=by
  cases h:s w.heap.size with
  |none=>rfl
  |some x=>exact absurd (m.st.obj _ x h).lt (Nat.lt_irrefl _)
 have r:=m.grow hg;refine⟨hn,⟨r.st.updL ho (by rw[hg.kept];exact(m.st.fresh _ (ZH9 _)).2),r.loc,r.locKept,?_,r.inj,r.env⟩⟩;intro l u hl;have hlt:=(m.loc l u hl).lt;have i:Z l≠w.heap.size:=ω;simp[St.upd,i];exact r.locSt l u hl
def ZnF(b:Nat){en:Array MapEntry}{cl:Nat}(o:Obj)(hb:w.heap[b]?=sO (.map en cl))(hp:g.prot b=0)(hk:¬g.kept b):Ext g w g { w with heap:=w.heap.setIfInBounds b o } where
 size:=by simp
 prot _:=ZH9 _
 cell b' o' ho:=by by_cases h:b'=b;subst h;omega;exact Zae (by simp[Ne.symm h])
 hdr b' x hx:=by by_cases h:b'=b;subst h;simp[hdr,hb]at hx;rw[Zb0 (w:=w) (by simp[Ne.symm h])];exact hx
 kept b' hb':=by have h:b'≠b:=λh=>hk (h▸hb');simp[Ne.symm h]
 keptProt _ _:=rfl
 keptEq:=rfl
 os:=rfl
 output:=rfl
 tape:=rfl
def ZqI{b en cl}{o}(hb:w.heap[b]?=sO (.map en cl)):({ w with heap:=w.heap.setIfInBounds b o }:World).heap[b]?=sO o:=by grind
def Zar{b c}{o}(h:c≠b):({ w with heap:=w.heap.setIfInBounds b o }:World).heap[c]?=w.heap[c]?:=by grind
def Zyu{op}(h:ck P op=sO .mkmap):∃t,op=.makeMap t nO:=by
 unfold ck at h;split at h;simp at h;split at h<;>(try(simp at h;done));all_goals (try(repeat' (split at h<;>(try(simp at h;done)))))
 grind
def Zvw{op e n bytes z l c}(h:ck P op=sO (.mkslice e n bytes z l c)):
  ∃t l' c',op=.makeSlice t l' c'/\P.underlying t=sO (.slice e)/\ZX P e=sO n/\ZaL P e=sO z/\bytes=P.bytesOf e/\Z6 l'=sO l/\Z6 c'=sO c/\0<n/\I z=n:=by
 unfold ck at h;split at h;simp at h;split at h<;>(try(simp at h;done));all_goals (try(repeat' (split at h<;>(try(simp at h;done)))))
 rename_i i;cases h;simp at i;exact⟨_,_,_,rfl,‹_›,‹_›,‹_›,rfl,‹_›,‹_›,i.1,i.2⟩
def ZBh{op x}(h:ck P op=sO (.s2b x)):∃s d x' e,op=.convert s d x'/\P.underlying s=sO .string/\P.underlying d=sO (.slice e)/\P.underlying e=sO (.int .u8)/\Z6 x'=sO x:=by
 unfold ck at h;split at h;simp at h;split at h<;>(try(simp at h;done));all_goals (try(repeat' (split at h<;>(try(grind;done)))))
 simp at h;grind
def ZwM{op kp m k v}(h:ck P op=sO (.mapupd kp m k v)):
  ∃t kt et m' k' v',(op=.mapUpdate t m' k' v'\/op=.insert t m' k' v')/\P.underlying t=sO (.map kt et)/\ZaH P kt=sO kp/\Z6 m'=sO m/\Z6 k'=sO k/\Z6 v'=sO v:=by
 unfold ck at h;split at h;simp at h;split at h<;>(try(simp at h;done));all_goals (try(repeat' (split at h<;>(try(simp at h;done)))))
 all_goals (cases h)
 grind;grind
def ZwK{op kp m k}(h:ck P op=sO (.delete kp m k)):
  ∃ats t kt et m' k',op=.call ⟨.builtin .delete,#[m',k'],ats⟩/\ats[0]?=sO t/\P.underlying t=sO (.map kt et)/\ZaH P kt=sO kp/\Z6 m'=sO m/\Z6 k'=sO k:=by
 unfold ck at h;split at h;simp at h;split at h<;>(try(simp at h;done));all_goals (try(repeat' (split at h<;>(try(simp at h;done)))))
 simp at h;obtain⟨rfl,rfl,rfl⟩:=h;rename_i c hcq x1 ab o0 x kt et m' k' hu r o1 o2 o3 kp m k hk hm ac;obtain⟨i,⟨al⟩,ats⟩:=c;have u:i=_:=ab;have o:al=_:=r;subst u o;simp[Option.bind_eq_some_iff]at hu;obtain⟨t,ht,hu⟩:=hu;exact⟨ats,t,kt,et,m',k',rfl,ht,hu,hk,hm,ac⟩
def ZwL{op kp z m k}(h:ck P op=sO (.mapent kp z m k)):
  ∃t kt et m' k',op=.mapEntry t m' k'/\P.underlying t=sO (.map kt et)/\ZaH P kt=sO kp/\Zd7 P et=sO z/\Z6 m'=sO m/\Z6 k'=sO k:=by
 unfold ck at h;split at h;simp at h;split at h<;>(try(simp at h;done));all_goals (try(repeat' (split at h<;>(try(simp at h;done)))))
 grind
def Zyt{op m k v}(h:ck P op=sO (.entst m k v)):∃t m' k' v',op=.entryStore t m' k' v'/\Z6 m'=sO m/\Z6 k'=sO k/\Z6 v'=sO v:=by
 unfold ck at h;split at h;simp at h;split at h<;>(try(simp at h;done));all_goals (try(repeat' (split at h<;>(try(simp at h;done)))))
 grind
def Zp2{F:Fr P}{kp dk o os H L s}(hg:o.guard=nO){a v}(hk:o.k=.store1 a v/\True\/∃n,o.k=.storeN n a v){p q b off d cs}(ha:ZH H true a=sO (p,.d (.ptr b off)))(hv:ZH H true v=sO (q,.d d))(hp:p)(hq:q)(hL:Yq s b=sO cs)(hd1:o.k=.store1 a v->Qy d=true)(hd2:∀n,o.k=.storeN n a v->(∃xs,d=.agg xs)/\(cellsOf d).length=n)(hlen:off+(cellsOf d).length<=I cs)(hdst0:o.dst=nO)(h:DO F kp dk os H L (s.upd b (.cells (ZF cs off (cellsOf d))))):DO F kp dk (o::os) H L s:=by
 refine WN λoo g Z w tmps a3 i r k az ac au ai hd hN m hr ax=>?_;have hw:=Yo m au (c:=true) (by rw[hg];rfl);have ay:=Yu ac (by rcases hk with ⟨hk,_⟩|⟨n,hk⟩<;>rw[hk]<;>rfl);have ag:∃t a' v',oo.op=.store t a' v'/\Z6 a'=sO a/\Z6 v'=sO v/\ZX P t=sO (cellsOf d).length/\Qb d=true:=by rcases hk with ⟨hk,_⟩|⟨n,hk⟩;have ad:=hd1 hk;rw[hk]at ac;obtain⟨t,a',v',h1,h2,h3,h4,h5⟩:=Zp7 ac;refine⟨t,a',v',h1,h4,h5,?_,?_⟩;rw[h3];cases d<;>simp[Qy]at ad<;>rfl;cases d<;>simp[Qy]at ad<;>rfl;obtain⟨⟨xs,rfl⟩,hn⟩:=hd2 n hk;rw[hk]at ac;obtain⟨t,a',v',h1,h2,h3,h4,h5⟩:=Zp8 ac;exact⟨t,a',v',h1,h4,h5,by grind,rfl⟩
 obtain⟨t,a',v',a0,ao,a2,a1,ad⟩:=ag;have an:s b=sO (.cells cs):=by unfold Yq at hL;split at hL<;>cases hL;assumption
 have al:Rep g w ((Act.mk tmps F.ds).eval a') (.ptr b off):=Yh m ao rfl ha hp F.ds;have am:Rep g w ((Act.mk tmps F.ds).eval v') d:=Yh m a2 rfl hv hq F.ds;have ap:(Act.mk tmps F.ds).eval a'=.pointer (sO ⟨b,off,nO⟩):=by generalize (Act.mk tmps F.ds).eval a'=z at al;cases al;rfl
 obtain⟨aq,ar⟩:=Zgt am ad;have aj:=Zlf am ad;obtain⟨ak,u,T,hb,av,aw,ah⟩:=QW m.st hL;generalize hvv:(Act.mk tmps F.ds).eval v'=vv at *;have hst:=run_storeCells_at (P:=P) b off T vv.cells.toList 0 u w hb (by grind) (λx hx=>by rw[ZdJ];exact aj x (Array.mem_toList_iff.1 hx));have ab:ZN (Rep g w) (u.toList.take off++vv.cells.toList++u.toList.drop (off+vv.cells.size)) (ZF cs off (cellsOf d)):=by have af:ZN (Rep g w) u.toList cs:=Yn ω (λi v d hv hd=>aw i v d (by grind) hd);unfold ZF;rw[<-aq];exact((af.take off).append (Yn ω ar)).append (af.drop _)
 have ae:((u.toList.take off++vv.cells.toList++u.toList.drop (off+vv.cells.size)).toArray).size=u.size:=by have:=ab.len;simp at this⊢;omega
 have he:=Zia (g:=g) b hb ae ak (m.st.kept b _ an);have m':=m.named (o':=.cells (ZF cs off (cellsOf d))) an he ψ (λc hc=>setRow_other w b c _ hc) ⟨ak,_,T,setRow_heap w b u _ T (0,0) hb,by rw[ae,av];simp[ZF];omega,
  λi v d hv hd=>(ab.get i v d (by grind) hd).mono he,λx hx=>by
   simp only[List.mem_toArray,List.mem_append]at hx;rcases hx with (hx|hx)|hx;exact ah x (Array.mem_toList_iff.1 (List.mem_of_mem_take hx));simp_all;exact ah x (Array.mem_toList_iff.1 (List.mem_of_mem_drop hx))⟩
 refine F.T.back _ _ _ _ (.one (ZiL az hw ay (w':=w.setRow b (u.toList.take off++vv.cells.toList++u.toList.drop (off+vv.cells.size)).toArray) ?_)) ?_;simp only[execOp,a0,ap,Instr.storeAt,Instr.sureAddr,storeVar,Sem.run_bind,Sem.run_pure,YV a1];simp_all;rw[ai,hdst0];exact F.T.ext _ _ _ _ _ he (h a3 r k hr ax g Z _ tmps hN m')
def ZfA(o:Obj)(i:∀b,w.heap.size<=b->g.prot b=0/\¬g.kept b):ZaC g w g (w.alloc o):={
 size:=by simp
 old b hb:=Zjo w hb
 prot _ _:=rfl
 fresh b hb:=(i b (by simp at hb;omega)).1
 kept:=rfl
 os:=rfl
 output:=rfl
 tape:=rfl }
def Zyb{F:Fr P}{kp dk o os H L s}(hg:o.guard=nO){t}(hdt:o.dst=sO t)(hk:o.k=.mkmap)(h:∀b,s b=nO->DO F kp dk os ((t,.d (.map b))::H) L (s.upd b (.map []))):DO F kp dk (o::os) H L s:=by
 refine WN λoo g Z w tmps ai i r k ag u ad ab hd hN m hr ae=>?_;have hw:=Yo m ad (c:=true) (by rw[hg];rfl);have af:=Yu u (by rw[hk];rfl);rw[hk]at u;obtain⟨T,ah⟩:=Zyu u;have ac:=ZfA (g:=g) (w:=w) (.map #[] 0) m.st.fresh;obtain⟨hn,m'⟩:=m.newObj ac (o:=.map []) ⟨(m.st.fresh _ (ZH9 _)).1,#[],0,JD w,rfl,ψ,ψ,ψ,ψ⟩;refine YS (L':=L) hN ag ab hd hw af (v:=.map (sO w.heap.size)) (e:=.d (.map w.heap.size)) ?_ (ac.ext m.st.fresh) m' (Rep.map _) ?_;simp[execOp,ah,Instr.makeMap];rw[hdt];exact h _ hn ai r k hr ae
def ZkR{z n}:∀{c},I z=n->(WT z c).length=c*n/\∀i,i<c*n->(WT z c)[i]?=z[i % n]?
 |0,hz=>by simp[WT]
 |c+1,hz=>by
  obtain⟨h1,h2⟩:=ZkR (c:=c) hz;have o:WT z (c+1)=z++WT z c:=by simp[WT,List.replicate_succ]
  rw[o];refine⟨by grind,λi hi=>?_⟩;by_cases h:i<n;rw[ZIm ω,Nat.mod_eq_of_lt h];rw[ZIw ω,hz,h2 _ (by grind)];rw[Nat.mod_eq_sub_mod (by omega:n<=i)]
def Zvh{F:Fr P}{kp dk o os H L s}(hg:o.guard=nO){t:Nat}(hdt:o.dst=sO t){e:TypeId}{n bytes:Nat}{z:List D}{lx hx:Opd}(hk:o.k=.mkslice e n bytes z lx hx){p q:Prop}{k1 k2:IntKind}{l c:Int}(hl:ZH H true lx=sO (p,.d (.int k1 l)))(hc:ZH H true hx=sO (q,.d (.int k2 c)))(hp:p)(hq:q)(h0:0<=l)(hlc:l<=c)(hbytes:(bytes:Int)*c<=140737488355328)(h63:c<=big)(h:∀b,s b=nO->DO F kp dk os ((t,.d (.msl b 0 l.toNat c.toNat n))::H) L (s.upd b (.cells (WT z c.toNat)))):DO F kp dk (o::os) H L s:=by
 refine WN λoo g Z w tmps a0 i r k av ab al ae hd hN m hr an=>?_;have hw:=Yo m al (c:=true) (by rw[hg];rfl);have ar:=Yu ab (by rw[hk];rfl);rw[hk]at ab;obtain⟨T,l',c',aw,hu,ax,hz,aj,ao,ak,aq,ai⟩:=Zvw ab;obtain⟨zv,hz1,ah,hz3,ie,ac,az⟩:=JC (g:=g) (w:=w) hz;obtain⟨ap,_⟩:=QG (g:=g) (w:=w) (Yh m ao rfl hl hp F.ds);obtain⟨am,_⟩:=QG (g:=g) (w:=w) (Yh m ak rfl hc hq F.ds);have u:ie.size=n:=by simpa[ZX,ac]using ax
 have hbt:ie.bytes=bytes:=by rw[aj];simp[Program.bytesOf,ac]
 have ad:zv.cells.size=I z:=by have:=ah.len;simpa using this
 have ag:=run_make (P:=P) w T e ie zv hu ac az k1 k2 l c h0 hlc (by grind) (by unfold big at h63;omega);obtain⟨a1,a2⟩:=ZkR (z:=z) (n:=n) (c:=c.toNat) ai;have af:=ZfA (g:=g) (w:=w) (.cells (madeCells zv.cells (c.toNat*ie.size)) e) m.st.fresh;have he:=af.ext m.st.fresh;have au:WO g (w.alloc (.cells (madeCells zv.cells (c.toNat*ie.size)) e)) w.heap.size (.cells (WT z c.toNat)):=by
  refine⟨(m.st.fresh _ (ZH9 _)).1,_,e,JD w,by rw[size_madeCells,a1,u],λi v d hv hd=>?_,λx hx=>?_⟩;have hi:i<c.toNat*n:=by grind
  rw[a2 i hi]at hd;have hm:i % n<n:=Nat.mod_lt _ aq;have ay:zv.cells.toList[i % n]?=sO v:=by simp[madeCells,u,hi,ad,ai]at hv;simp_all
  exact(ah.get _ v d ay hd).mono he;simp only[madeCells,Array.mem_map]at hx;obtain⟨a,_,rfl⟩:=hx;have hlt:a % zv.cells.size<zv.cells.size:=Nat.mod_lt _ ω;simp_all
 obtain⟨hn,m'⟩:=m.newObj af au;refine YS (L':=L) hN av ae hd hw ar (v:=.slice (sO ⟨w.heap.size,0,nO⟩) l.toNat c.toNat) (e:=.d (.msl w.heap.size 0 l.toNat c.toNat n)) ?_ he m' (Rep.msl _ _ _ _ _ ω ω) ?_;simp[execOp,aw,ap,am,ag];rw[hdt];exact h _ hn a0 r k hr an
end
section
variable {P:Program}
def Zmn{g w k k1 k2 r t}(i:Rep g w k1 r)(o:Rep g w k2 t)(h:YT k r t=sO true)(n):Instr.sameBits n k1 k2=true:=by
 cases k;cases i<;>cases o<;>simp only[YT,reduceCtorEq]at h;split at h<;>simp only[reduceCtorEq,ZHQ,decide_eq_true_eq]at h;rename_i hk;subst hk;subst h;cases n<;>simp[Instr.sameBits];cases i<;>cases o<;>simp only[YT,reduceCtorEq,ZHQ,decide_eq_true_eq]at h;rename_i s1 a u _ s2 b e2 _;subst h;have:s1=s2:=by cases s1;cases s2;simp only[ByteArray.mk.injEq];apply Array.ext';simp only at u e2;rw[u,e2]
 subst this;cases n<;>simp[Instr.sameBits,MapKept.bytes_beq];cases i<;>cases o<;>simp only[YT,reduceCtorEq,ZHQ,decide_eq_true_eq]at h;subst h;cases n<;>simp[Instr.sameBits]
def Zfn{xs t}:∀{l},Kk xs t l=sO true->∀o k,(o,k)∈l->∃x y,xs[o]?=sO x/\t[o]?=sO y/\YT k x y=sO true
 | [],_,o,k,hm=>by simp at hm
 | (o',k')::r,h,o,k,hm=>by simp only[Kk]at h;split at h<;>(try(simp at h;done));rename_i x y hx hy;split at h<;>(try(simp at h;done));rename_i b c u hc;simp only[ZHQ,ZH1]at h;obtain⟨rfl,rfl⟩:=h;rcases List.mem_cons.1 hm with i|hm;simp only[ZH2]at i;obtain⟨rfl,rfl⟩:=i;exact⟨x,y,hx,hy,u⟩;exact Zfn hc o k hm
def Zmm{g w kt kp}(hk:ZaH P kt=sO kp){k1 k2 d1 d2}(h1:Rep g w k1 d1)(h2:Rep g w k2 d2)(h:K6 kp d1 d2=sO true)(n):Instr.sameBits (n+1) k1 k2=true:=by
 rcases ZeT hk with ⟨sk,rfl,hs⟩|⟨fs,l,m,rfl,hu,hn,hl,o,hst⟩;exact Zmn h1 h2 h _;cases h1<;>cases h2<;>simp only[K6,reduceCtorEq]at h;rename_i v1 xs hn1 r1 o1 v2 ys hn2 r2 o2;split at h<;>(try(simp at h;done));rename_i hlen;simp only[Instr.sameBits,List.size_toArray,ZH1,beq_iff_eq];refine⟨ω,?_⟩;rw[List.all_eq_true];intro p hp;obtain⟨i,hi,ac⟩:=ZIc hp;simp only[List.length_zip]at hi;have t:i<I v1:=ω;have u:i<I v2:=ω;have r:i<I l:=ω;have hm:(l[i].1,l[i].2)∈l:=List.getElem_mem r;have ab:l[i].1=i:=by
  have h3:(l.map (·.1))[i]?=sO l[i].1:=by simp[r]
  rw[o]at h3;have hlm:I l=m:=by have:=congrArg List.length o;simpa using this
  rw[List.getElem?_range ω]at h3;exact(Option.some.inj h3).symm
 rw[ab]at hm;obtain⟨x,y,hx,hy,he⟩:=Zfn h i _ hm;have e1:p=(v1[i],v2[i]):=by rw[<-ac];simp
 rw[e1];exact Zmn (r1 i _ x (by simp[t]) hx) (r2 i _ y (by simp[u]) hy) he n
def ZnZ{kp a b}(h:K6 kp a b=sO true):K6 kp b a=sO true:=by
 have sc:∀(k:SK) (a b:D),YT k a b=sO true->YT k b a=sO true:=by intro k a b h;cases k<;>cases a<;>cases b<;>simp only[YT,reduceCtorEq]at h⊢;split at h<;>simp only[reduceCtorEq,ZHQ,decide_eq_true_eq]at h;rename_i hk;simp[hk,h];simp only[ZHQ,decide_eq_true_eq]at h⊢;exact h.symm;simp only[ZHQ,decide_eq_true_eq]at h⊢;exact h.symm
 cases kp with
 |sc k=>exact sc k a b h
 |st l =>
  cases a<;>cases b<;>simp only[K6,reduceCtorEq]at h⊢;rename_i xs ys;split at h<;>(try(simp at h;done));rename_i i;rw[if_pos ⟨i.2,i.1⟩];clear i;induction l with
  |nil=>rfl
  |cons p r ih =>
   obtain⟨x,y,t,u,o⟩:=Zfn h p.1 p.2 ψ;have hr:Kk xs ys r=sO true:=by simp only[Kk,t,u,o]at h;split at h<;>(try(simp at h;done));rename_i b c hb hc;simp only[ZHQ,ZH1]at h;rw[hc,h.2]
   simp only[Kk,t,u,sc _ _ _ o,ih hr,Bool.and_self]
def Znk(g:G)(w:World)(b:Nat)(en':Array MapEntry)(cl':Nat)(o:JW):Prop :=
 ∀w',Ext g w g w'->w'.heap[b]?=sO (.map en' cl')->WO g w' b o
def ZsH{g w t kt et kp}(hu:P.underlying t=sO (.map kt et))(hk:ZaH P kt=sO kp){b es es' k v dk dv}(ho:WO g w b (.map es))(hrk:Rep g w k dk)(hrv:Rep g w v dv)(hok:JK kp dk=true)(hupd:ZbD kp dk dv es=sO es'):
  ∃en' cl',(Instr.mapUpdate t (.map (sO b)) k v).run P w=.ok () { w with heap:=w.heap.setIfInBounds b (.map en' cl') }/\Znk g w b en' cl' (.map es'):=by
 obtain⟨ao,en,ab,hb,r,h3,h4,h5,h6⟩:=ho;obtain⟨io,al,ae⟩:=Znc hupd;have u:=Zc6 (P:=P) hk hrk (es:=en.toList) (by simpa using r) (λi e d a b=>h3 i e d (by simpa using a) b) al;have aj:=ZbW (P:=P) hk hrk hok false;cases io with
 |none =>
  simp only[Option.bind_none]at u;simp only at ae;subst ae;refine⟨en.push { key:=k,val:=v,born:=ab },ab+1,by simp[Instr.mapUpdate,run_underlying hu,MapKept.run_getObj_map hb,aj,u,MapKept.run_setObj_map _ hb],λw' he ah=>?_⟩;refine⟨ao,_,_,ah,by simp[r],λi e d hi hd=>?_,λi e d hi hd=>?_,λi j e e' hi hj ad=>?_,λi e hi=>?_⟩;rw[Array.getElem?_push]at hi;split at hi;rename_i o;simp only[ZHQ]at hi;subst hi;simp[o,r]at hd;subst hd;exact hrk.mono he;have ac:i<I es:=by rw[<-r];exact(Array.getElem?_eq_some_iff.1 hi).1
  rw[ZIm ac]at hd;exact(h3 i e d hi hd).mono he;rw[Array.getElem?_push]at hi;split at hi;rename_i o;simp only[ZHQ]at hi;subst hi;simp[o,r]at hd;subst hd;exact hrv.mono he;have ac:i<I es:=by rw[<-r];exact(Array.getElem?_eq_some_iff.1 hi).1
  rw[ZIm ac]at hd;exact(h4 i e d hi hd).mono he;rw[Array.getElem?_push]at hi hj;split at hi<;>split at hj;omega;simp only[ZHQ]at hi;subst hi;have:=h6 j e' hj;simp only at ad;omega;simp only[ZHQ]at hj;subst hj;have:=h6 i e hi;simp only at ad;omega;exact h5 i j e e' hi hj ad;rw[Array.getElem?_push]at hi;split at hi;simp only[ZHQ]at hi;subst hi;simp;have:=h6 i e hi;omega
 |some i0 =>
  simp only at ae;subst ae;obtain⟨ac,am⟩:=ZdG al;have an:i0<en.size:=ω;have af:en[i0]?=sO en[i0]:=by simp[an]
  have ak:es[i0]?=sO es[i0]:=by simp[ac]
  simp only[Option.bind_some,Array.getElem?_toList,af,Option.map_some]at u;have ag:(Instr.keyThatStays en[i0].key k).run P w=.ok k w:=by have:=Zmm (P:=P) hk (h3 i0 _ _ af ak) hrk (ZnZ (am _ ak)) 9999;simp[Instr.keyThatStays,this]
  refine⟨en.modify i0 λe=>{ e with key:=k,val:=v },ab,by simp[Instr.mapUpdate,run_underlying hu,MapKept.run_getObj_map hb,aj,u,MapKept.run_setObj_map _ hb,af,ag],λw' he ah=>?_⟩;refine⟨ao,_,_,ah,by simp[r],λi e d hi hd=>?_,λi e d hi hd=>?_,λi j e e' hi hj ad=>?_,λi e hi=>?_⟩;rw[Array.getElem?_modify]at hi;split at hi;rename_i o;subst o;simp only[ZH8]at hi;obtain⟨e1,h1,rfl⟩:=hi;simp[ac]at hd;subst hd;exact hrk.mono he;rename_i o;rw[List.getElem?_set_ne o]at hd;exact(h3 i e d hi hd).mono he;rw[Array.getElem?_modify]at hi;split at hi;rename_i o;subst o;simp only[ZH8]at hi;obtain⟨e1,h1,rfl⟩:=hi;simp[ac]at hd;subst hd;exact hrv.mono he;rename_i o;rw[List.getElem?_set_ne o]at hd;exact(h4 i e d hi hd).mono he;have ai:∀{i:Nat} {e:MapEntry},(en.modify i0 λe=>{ e with key:=k,val:=v })[i]?=sO e->∃e1,en[i]?=sO e1/\e1.born=e.born:=by intro i e hi;rw[Array.getElem?_modify]at hi;split at hi;simp only[ZH8]at hi;obtain⟨e1,h1,rfl⟩:=hi;exact⟨e1,h1,rfl⟩;exact⟨e,hi,rfl⟩
  obtain⟨a,ha,ha'⟩:=ai hi;obtain⟨c,hc,hc'⟩:=ai hj;exact h5 i j a c ha hc ω;rw[Array.getElem?_modify]at hi;split at hi;simp only[ZH8]at hi;obtain⟨e1,h1,rfl⟩:=hi;exact h6 i e1 h1;exact h6 i e hi
def ZsF{g w t kt et kp ats}(ht:ats[0]?=sO t)(hu:P.underlying t=sO (.map kt et))(hk:ZaH P kt=sO kp){b es es' k dk}(ho:WO g w b (.map es))(hrk:Rep g w k dk)(hok:JK kp dk=true)(hdel:ZmJ kp dk es=sO es')(ty):
  ∃en' cl',(Builtin.delete_ ats ty #[.map (sO b),k]).run P w=.ok (.tuple #[]) { w with heap:=w.heap.setIfInBounds b (.map en' cl') }/\Znk g w b en' cl' (.map es'):=by
 obtain⟨ak,en,u,hb,ac,h3,h4,h5,h6⟩:=ho;obtain⟨io,aj,af⟩:=Zsh hdel;have o:=Zc6 (P:=P) hk hrk (es:=en.toList) (by simpa using ac) (λi e d a b=>h3 i e d (by simpa using a) b) aj;have ai:=ZbW (P:=P) hk hrk hok en.isEmpty;cases io with
 |none =>simp only[Option.bind_none]at o;simp only at af;subst af;refine⟨en,u,by simp[Builtin.delete_,ht,run_underlying hu,MapKept.run_getObj_map hb,ai,o,MapKept.run_setObj_map _ hb],λw' he ah=>?_⟩;exact⟨ak,_,_,ah,ac,λi e d hi hd=>(h3 i e d hi hd).mono he,λi e d hi hd=>(h4 i e d hi hd).mono he,h5,h6⟩
 |some i0 =>
  simp only at af;subst af;obtain⟨am,hkeq⟩:=ZdG aj;have ad:i0<en.size:=ω;have al:en[i0]?=sO en[i0]:=by simp[ad]
  simp only[Option.bind_some,Array.getElem?_toList,al,Option.map_some]at o;have ag:en.eraseIdxIfInBounds i0=en.eraseIdx i0 ad:=by simp[Array.eraseIdxIfInBounds,ad]
  have r:∀i,(en.eraseIdxIfInBounds i0)[i]?=if i<i0 then en[i]? else en[i+1]?:=λi=>by rw[ag,<-Array.getElem?_toList,Array.toList_eraseIdx,List.getElem?_eraseIdx];simp
  have ab:∀i,(es.eraseIdx i0)[i]?=if i<i0 then es[i]? else es[i+1]?:=λi=>List.getElem?_eraseIdx ..
  refine⟨en.eraseIdxIfInBounds i0,u,by simp[Builtin.delete_,ht,run_underlying hu,MapKept.run_getObj_map hb,ai,o,MapKept.run_setObj_map _ hb],λw' he ah=>?_⟩;refine⟨ak,_,_,ah,by rw[ag];simp[am,ac,List.length_eraseIdx],λi e d hi hd=>?_,λi e d hi hd=>?_,λi j e e' hi hj ae=>?_,λi e hi=>?_⟩;rw[r]at hi;rw[ab]at hd;split at hi;rename_i h;rw[if_pos h]at hd;exact(h3 i e d hi hd).mono he;rename_i h;rw[if_neg h]at hd;exact(h3 _ e d hi hd).mono he;rw[r]at hi;rw[ab]at hd;split at hi;rename_i h;rw[if_pos h]at hd;exact(h4 i e d hi hd).mono he;rename_i h;rw[if_neg h]at hd;exact(h4 _ e d hi hd).mono he;rw[r]at hi hj;split at hi<;>split at hj;exact h5 i j e e' hi hj ae;have:=h5 i (j+1) e e' hi hj ae;omega;have:=h5 (i+1) j e e' hi hj ae;omega;have:=h5 (i+1) (j+1) e e' hi hj ae;omega;rw[r]at hi;split at hi<;>exact h6 _ e hi
def Zsn{kp:KP}{k z:D}:∀{es:List (D×D)} {v:D},Zh9 kp k z es=sO v->∃o,Ju kp k es=sO o/\v=match o with
  |none=>z
  |some i=>((es[i]?).map (·.2)).getD z
 | [],v,h=>by simp[Zh9]at h;exact⟨nO,rfl,h.symm⟩
 |e::es,v,h=>by simp[Zh9]at h;split at h;rename_i r;exact⟨sO 0,by simp[Ju,r],by simp[h]⟩;rename_i r;obtain⟨o,t,u⟩:=Zsn h;refine⟨o.map (· + 1),by simp[Ju,r,t],?_⟩;rw[u];cases o<;>simp;grind
def ZtR{g w t kt et kp z}(hu:P.underlying t=sO (.map kt et))(hk:ZaH P kt=sO kp)(hz:Zd7 P et=sO z){b es k dk dv}(ho:WO g w b (.map es))(hrk:Rep g w k dk)(hok:JK kp dk=true)(hent:Zh9 kp dk z es=sO dv):
  ∃en' cl' v n,(Instr.mapEntry t (.map (sO b)) k).run P w=.ok (.tuple #[v,.i (n:Nat)]) { w with heap:=w.heap.setIfInBounds b (.map en' cl') }/\Rep g w v dv/\Znk g w b en' cl' (.mapE kp es dk n):=by
 obtain⟨ap,en,o,hb,u,h3,h4,h5,h6⟩:=ho;obtain⟨io,ag,af⟩:=Zsn hent;have r:=Zc6 (P:=P) hk hrk (es:=en.toList) (by simpa using u) (λi e d a b=>h3 i e d (by simpa using a) b) ag;have am:=ZbW (P:=P) hk hrk hok false;cases io with
 |none =>obtain⟨zv,au,av⟩:=ZtD (P:=P) (g:=g) (w:=w) hz;simp only[Option.bind_none]at r;simp only at af;subst af;refine⟨en.push { key:=k,val:=zv,born:=o },o+1,zv,o,by simp[Instr.mapEntry,run_underlying hu,MapKept.run_getObj_map hb,am,r,MapKept.run_setObj_map _ hb,au,goInt],av,λw' he al=>?_⟩;refine⟨ap,nO,ag,_,_,al,by simp[u],λi e d ah hi hd=>?_,λi e d ah hi hd=>?_,λe hi=>?_,λi j e e' hi hj ac=>?_,λi e hi=>?_⟩;have aj:i<I es:=(List.getElem?_eq_some_iff.1 hd).1;rw[Array.getElem?_push,if_neg ω]at hi;exact(h3 i e d hi hd).mono he;have aj:i<I es:=(List.getElem?_eq_some_iff.1 hd).1;rw[Array.getElem?_push,if_neg ω]at hi;exact(h4 i e d hi hd).mono he;simp only[Option.getD_none,<-u,Array.getElem?_push,if_true,ZHQ]at hi;subst hi;exact⟨hrk.mono he,rfl⟩;rw[Array.getElem?_push]at hi hj;split at hi<;>split at hj;omega;simp only[ZHQ]at hi;subst hi;have:=h6 j e' hj;simp only at ac;omega;simp only[ZHQ]at hj;subst hj;have:=h6 i e hi;simp only at ac;omega;exact h5 i j e e' hi hj ac;rw[Array.getElem?_push]at hi;split at hi;simp only[ZHQ]at hi;subst hi;simp;have:=h6 i e hi;omega
 |some i0 =>
  obtain⟨aj,an⟩:=ZdG ag;have ao:i0<en.size:=ω;have ad:en[i0]?=sO en[i0]:=by simp[ao]
  have ae:es[i0]?=sO es[i0]:=by simp[aj]
  simp only[ae,Option.map_some,ZIr]at af;subst af;simp only[Option.bind_some,Array.getElem?_toList,ad,Option.map_some]at r;have ak:(Instr.keyThatStays en[i0].key k).run P w=.ok k w:=by have:=Zmm (P:=P) hk (h3 i0 _ _ ad ae) hrk (ZnZ (an _ ae)) 9999;simp[Instr.keyThatStays,this]
  have ab:∀{i:Nat} {e:MapEntry},(en.modify i0 λe=>{ e with key:=k })[i]?=sO e->∃e1,en[i]?=sO e1/\e1.born=e.born/\e.val=e1.val/\(i≠i0->e=e1)/\(i=i0->e.key=k):=by intro i e hi;rw[Array.getElem?_modify]at hi;split at hi;rename_i ai;simp only[ZH8]at hi;obtain⟨e1,h1,rfl⟩:=hi;exact⟨e1,h1,rfl,rfl,λh=>absurd ai.symm h,λ_=>rfl⟩;rename_i ai;exact⟨e,hi,rfl,rfl,λ_=>rfl,λh=>absurd h.symm ai⟩
  refine⟨en.modify i0 λe=>{ e with key:=k },o,en[i0].val,en[i0].born,by simp[Instr.mapEntry,run_underlying hu,MapKept.run_getObj_map hb,am,r,MapKept.run_setObj_map _ hb,ad,ak,goInt],h4 i0 _ _ ad ae,λw' he al=>?_⟩;refine⟨ap,sO i0,ag,_,_,al,by simp[u],λi e d ah hi hd=>?_,λi e d ah hi hd=>?_,λe hi=>?_,λi j e e' hi hj ac=>?_,λi e hi=>?_⟩;obtain⟨e1,ha,_,_,hc,_⟩:=ab hi;rw[hc (by simpa using ah)];exact(h3 i e1 d ha hd).mono he;obtain⟨e1,ha,_,hv,_⟩:=ab hi;rw[hv];exact(h4 i e1 d ha hd).mono he;simp only[ZIr]at hi;obtain⟨e1,ha,ac,hv,_,ar⟩:=ab hi;rw[ad]at ha;simp only[ZHQ]at ha;exact⟨by rw[ar rfl];exact hrk.mono he,by rw[<-ac,<-ha]⟩;obtain⟨a,ha,aq,_⟩:=ab hi;obtain⟨c,hc,hc',_⟩:=ab hj;exact h5 i j a c ha hc ω;obtain⟨a,ha,aq,_⟩:=ab hi;have:=h6 i a ha;omega
def Zq2{g w t kp b n es es' v dk dv}(ho:WO g w b (.mapE kp es dk n))(hrv:Rep g w v dv)(hupd:ZbD kp dk dv es=sO es'):
  ∃en' cl',(Instr.entryStore t (.map (sO b)) (.i n) v).run P w=.ok () { w with heap:=w.heap.setIfInBounds b (.map en' cl') }/\Znk g w b en' cl' (.map es'):=by
 obtain⟨ap,io,aj,en,af,hb,o,h3,h4,h5,h6,h7⟩:=ho;obtain⟨io',ac,r⟩:=Znc hupd;rw[aj]at ac;simp only[ZHQ]at ac;subst ac;generalize u:io.getD (I es)=ix at *;have ak:ix<en.size:=by
  cases io with
  |none=>simp only[Option.getD_none]at u;simp only at o;omega
  |some i=>simp only[ZIr]at u;simp only at o;have:=(ZdG aj).1;omega
 have ah:en[ix]?=sO en[ix]:=by simp[ak]
 obtain⟨ao,am⟩:=h5 _ ah;have an:en.findIdx? (λe=>(e.born:Int)==(n:Int))=sO ix:=by rw[Array.findIdx?_eq_some_iff_getElem];refine⟨ak,by simp[am],λj hj=>?_⟩;simp only[beq_iff_eq,Int.natCast_inj];intro hjn;have:=h6 j ix en[j] en[ix] (by simp[show j<en.size by omega]) ah ω;omega
 have aq:en.size=I es':=by
  cases io with
  |none=>simp only at r o;rw[r];simp[o]
  |some i=>simp only at r o;rw[r];simp[o]
 have ae:∀i d,es'[i]?=sO d->(i=ix/\d=(dk,dv))\/(i≠ix/\es[i]?=sO d):=by
  intro i d hd;cases io with
  |none =>
   simp only[Option.getD_none]at u;subst u;simp only at r;rw[r]at hd;by_cases hi:i<I es;rw[ZIm hi]at hd;exact .inr ⟨ω,hd⟩;rw[ZIw ω]at hd;have h0:i-I es=0:=by rcases Nat.eq_zero_or_pos (i-I es) with h|h;exact h;rw[ZIz (by simp;omega)]at hd;simp at hd
   rw[h0]at hd;simp at hd;exact .inl ⟨ω,hd.symm⟩
  |some j =>simp only[ZIr]at u;subst u;simp only at r;rw[r]at hd;by_cases hi:j=i;subst hi;have:=(ZdG aj).1;simp[this]at hd;exact .inl ⟨rfl,hd.symm⟩;rw[List.getElem?_set_ne hi]at hd;exact .inr ⟨λh=>hi h.symm,hd⟩
 have ab:∀{i:Nat} {e:MapEntry},(en.modify ix λe=>{ e with val:=v })[i]?=sO e->∃e1,en[i]?=sO e1/\e1.born=e.born/\e.key=e1.key/\(i≠ix->e=e1)/\(i=ix->e.val=v):=by intro i e hi;rw[Array.getElem?_modify]at hi;split at hi;rename_i ai;simp only[ZH8]at hi;obtain⟨e1,h1,rfl⟩:=hi;exact⟨e1,h1,rfl,rfl,λh=>absurd ai.symm h,λ_=>rfl⟩;rename_i ai;exact⟨e,hi,rfl,rfl,λ_=>rfl,λh=>absurd h.symm ai⟩
 refine⟨en.modify ix λe=>{ e with val:=v },af,by simp[Instr.entryStore,MapKept.run_getObj_map hb,asInt,asIntOf,an,MapKept.run_setObj_map _ hb],λw' he ar=>?_⟩;refine⟨ap,_,_,ar,by simp[aq],λi e d hi hd=>?_,λi e d hi hd=>?_,λi j e e' hi hj hbn=>?_,λi e hi=>?_⟩;obtain⟨e1,ha,_,hk,_⟩:=ab hi;rw[hk];rcases ae i d hd with ⟨rfl,rfl⟩|⟨ad,ag⟩;rw[ah]at ha;simp only[ZHQ]at ha;rw[<-ha];exact ao.mono he;exact(h3 i e1 d ad ha ag).mono he;obtain⟨e1,ha,_,_,hc,hv⟩:=ab hi;rcases ae i d hd with ⟨rfl,rfl⟩|⟨ad,ag⟩;rw[hv rfl];exact hrv.mono he;rw[hc ad];exact(h4 i e1 d ad ha ag).mono he;obtain⟨a,ha,al,_⟩:=ab hi;obtain⟨c,hc,hc',_⟩:=ab hj;exact h6 i j a c ha hc ω;obtain⟨a,ha,al,_⟩:=ab hi;have:=h7 i a ha;omega
end
section
variable {P:Program}
def Zle{g w v b}(h:Rep g w v (.map b)):v=.map (sO b):=by cases h;rfl
def Zio{s b es}(h:J7 s b=sO es):s b=sO (.map es):=by
 unfold J7 at h;split at h<;>simp only[ZHQ,reduceCtorEq]at h;subst h;assumption
def ZmV{F:Fr P}{ops i r k oo}{o:DOp}{g Z w tmps H L s}(hN:F.N<=tmps.size)(m:ZB g Z w tmps H L s)(hoo:ops[i]?=sO oo)(hdst:oo.dst=o.dst)(hdst0:o.dst=nO)(hw:Region.wanted oo (yielded ops tmps)=true)(hnd:∀c,oo.op≠.defer c){b o1 o'}(hb:s b=sO o1){en en' cl cl'}(hh:w.heap[b]?=sO (.map en cl))(hp:g.prot b=0)(hmap:Znk g w b en' cl' o'){x}(hrun:(execOp (Act.mk tmps F.ds).eval oo).run P w=.ok .skip { w with heap:=w.heap.setIfInBounds b (.map en' cl') }\/(execOp (Act.mk tmps F.ds).eval oo).run P w=.ok (.value x) { w with heap:=w.heap.setIfInBounds b (.map en' cl') })(h:Zaa F (.inRegion ops r::k) H L (s.upd b o')):F.T.T g w (lone (F.b.atR ⟨tmps,F.ds⟩ (.inRegion ops (i::r)::k)) F.cs w):=by
 have he:=ZnF (g:=g) b (.map en' cl') hh hp (m.st.kept b _ hb);have m':=m.named hb he ψ (λc hc=>Zar hc) (hmap _ he (ZqI hh));rcases hrun with hrun|hrun;refine F.T.back _ _ _ _ (.one (ZiL hoo hw hnd hrun)) ?_;rw[hdst,hdst0];exact F.T.ext _ _ _ _ _ he (h g Z _ tmps hN m');refine F.T.back _ _ _ _ (.one (ZiM hoo hw hnd hrun)) ?_;rw[hdst,hdst0];exact F.T.ext _ _ _ _ _ he (h g Z _ tmps hN m')
def Zwx{F:Fr P}{kp dk o os H L s}(hg:o.guard=nO)(hdn:o.dst=nO){mk mx kx vx}(hk:o.k=.mapupd mk mx kx vx){p q r b kd vd}(hm:ZH H true mx=sO (p,.d (.map b)))(hkk:ZH H true kx=sO (q,.d kd))(hv:ZH H true vx=sO (r,.d vd))(hp:p)(hq:q)(hr:r){es es'}(hb:J7 s b=sO es)(hupd:ZbD mk kd vd es=sO es')(hok:JK mk kd=true)(h:DO F kp dk os H L (s.upd b (.map es'))):DO F kp dk (o::os) H L s:=by
 refine WN λoo g Z w tmps ao i r' k aj u ae ab hd hN m al ac=>?_;have hw:=Yo m ae (c:=true) (by rw[hg];rfl);have ai:=Yu u (by rw[hk];rfl);rw[hk]at u;obtain⟨t,kt,et,m',k',v',hop,hu,ag,ah,af,an⟩:=ZwM u;have e1:=Zle (g:=g) (w:=w) (Yh m ah rfl hm hp F.ds);have e2:Rep g w _ _:=Yh m af rfl hkk hq F.ds;have e3:Rep g w _ _:=Yh m an rfl hv hr F.ds;have ho:=ZfD m.st hb;obtain⟨en',cl',ad,am⟩:=ZsH hu ag ho e2 e3 hok hupd;obtain⟨ak,en,cl,hh,_⟩:=ho;refine ZmV (x:=undef) hN m aj ab hdn hw ai (Zio hb) hh ak am (.inl ?_) (h ao r' k al ac);rcases hop with hop|hop<;>simp[execOp,hop,e1,ad]
def Zwv{F:Fr P}{kp dk o os H L s}(hg:o.guard=nO)(hdn:o.dst=nO){mk mx kx}(hk:o.k=.delete mk mx kx){p q b kd}(hm:ZH H true mx=sO (p,.d (.map b)))(hkk:ZH H true kx=sO (q,.d kd))(hp:p)(hq:q){es es'}(hb:J7 s b=sO es)(hupd:ZmJ mk kd es=sO es')(hok:JK mk kd=true)(h:DO F kp dk os H L (s.upd b (.map es'))):DO F kp dk (o::os) H L s:=by
 refine WN λoo g Z w tmps an i r' k ai r ad u hd hN m al ab=>?_;have hw:=Yo m ad (c:=true) (by rw[hg];rfl);have ah:=Yu r (by rw[hk];rfl);rw[hk]at r;obtain⟨ats,t,kt,et,m',k',aj,ht,hu,af,ag,ae⟩:=ZwK r;have e1:=Zle (g:=g) (w:=w) (Yh m ag rfl hm hp F.ds);have e2:Rep g w _ _:=Yh m ae rfl hkk hq F.ds;have ho:=ZfD m.st hb;obtain⟨en',cl',ac,am⟩:=ZsF ht hu af ho e2 hok hupd oo.type;obtain⟨ak,en,cl,hh,_⟩:=ho;refine ZmV (x:=.tuple #[]) hN m ai u hdn hw ah (Zio hb) hh ak am (.inr ?_) (h an r' k al ab);simp[execOp,aj,resolve,invoke,builtin,e1,ac]
def Zww{F:Fr P}{kp dk o os H L s}(hg:o.guard=nO){t}(hdt:o.dst=sO t){mk z mx kx}(hk:o.k=.mapent mk z mx kx){p q b kd v}(hm:ZH H true mx=sO (p,.d (.map b)))(hkk:ZH H true kx=sO (q,.d kd))(hp:p)(hq:q){es}(hb:J7 s b=sO es)(hent:Zh9 mk kd z es=sO v)(hok:JK mk kd=true)(h:∀n,DO F kp dk os ((t,.d (.tup [v,.stamp n]))::H) L (s.upd b (.mapE mk es kd n))):DO F kp dk (o::os) H L s:=by
 refine WN λoo g Z w tmps au i r' k al r ag u hd hN m ao ab=>?_;have hw:=Yo m ag (c:=true) (by rw[hg];rfl);have ak:=Yu r (by rw[hk];rfl);rw[hk]at r;obtain⟨ty,kt,et,m',k',am,hu,ai,hz,aj,ah⟩:=ZwL r;have e1:=Zle (g:=g) (w:=w) (Yh m aj rfl hm hp F.ds);have e2:Rep g w _ _:=Yh m ah rfl hkk hq F.ds;have ho:=ZfD m.st hb;obtain⟨af,ae,vv,n,ac,ap,aq⟩:=ZtR hu ai hz ho e2 hok hent;obtain⟨an,en,cl,hh,_⟩:=ho;have ad:=Zio hb;have he:=ZnF (g:=g) b (.map af ae) hh an (m.st.kept b _ ad);have ar:=m.named ad he ψ (λc hc=>Zar hc) (aq _ he (ZqI hh));refine YS (L':=L) hN al u hd hw ak (v:=.tuple #[vv,.i n]) (e:=.d (.tup [v,.stamp n])) ?_ he ar ((Zix ap (.stamp n)).mono he) ?_;simp[execOp,am,e1,ac];rw[hdt];exact h n au r' k ao ab
def Zya{F:Fr P}{kp dk o os H L s}(hg:o.guard=nO)(hdn:o.dst=nO){mk mx kx vx}(hk:o.k=.entst mx kx vx){p q r b n kd vd}(hm:ZH H true mx=sO (p,.d (.map b)))(hkk:ZH H true kx=sO (q,.d (.stamp n)))(hv:ZH H true vx=sO (r,.d vd))(hp:p)(hq:q)(hr:r){es es'}(hb:s b=sO (.mapE mk es kd n))(hupd:ZbD mk kd vd es=sO es')(h:DO F kp dk os H L (s.upd b (.map es'))):DO F kp dk (o::os) H L s:=by
 refine WN λoo g Z w tmps ap i r' k aj u af ab hd hN m am ac=>?_;have hw:=Yo m af (c:=true) (by rw[hg];rfl);have ai:=Yu u (by rw[hk];rfl);rw[hk]at u;obtain⟨t,m',k',v',ak,ah,ag,ao⟩:=Zyt u;have e1:=Zle (g:=g) (w:=w) (Yh m ah rfl hm hp F.ds);have e2:Rep g w _ _:=Yh m ag rfl hkk hq F.ds;have e3:Rep g w _ _:=Yh m ao rfl hv hr F.ds;have ae:(Act.mk tmps F.ds).eval k'=.i n:=by generalize (Act.mk tmps F.ds).eval k'=z at e2;cases e2;rfl
 have ho:=m.st.obj b _ hb;obtain⟨en',cl',ad,an⟩:=Zq2 (P:=P) (t:=t) ho e3 hupd;obtain⟨al,io,_,en,cl,hh,_⟩:=ho;refine ZmV (x:=undef) hN m aj ab hdn hw ai hb hh al an (.inl ?_) (h ap r' k am ac);simp[execOp,ak,e1,ae,ad]
def Zwz{F:Fr P}{kp dk o os H L s c}(hg:Zw H o.guard=sO c){x}(hk:o.k=.s2b x){p l}(ha:ZH H c x=sO (p,.d (.str l)))(hs:c=true->p){e'}(he:e'=.when c (.d (.sl .none (I l) 1 (λi=>[.int .u8 ((l.getD i 0).toNat:Int)])))\/(c=true/\e'=.d (.sl .none (I l) 1 (λi=>[.int .u8 ((l.getD i 0).toNat:Int)]))))(h:DO F kp dk os (putE H o.dst e') L s):DO F kp dk (o::os) H L s:=by
 refine WN λoo g Z w tmps av i r k af ab aj t hd hN m hr al=>?_;have ac:=h av r k hr al;have hw:=Yo m aj hg;have am:=Yu ab (by rw[hk];rfl);cases c;rcases he with rfl|⟨h0,_⟩;exact Zcc (P:=P) hN m af t hd hw ac;simp at h0;rw[hk]at ab;obtain⟨sT,dT,x',e,an,ar,ap,aq,au⟩:=ZBh ab;obtain⟨s0,ao,e0,ai⟩:=Zlg (g:=g) (w:=w) (Yh m au rfl ha (hs rfl) F.ds);have ah:s0.size=I l:=by rw[<-e0];rfl
 have ag:=Lib.run_convert_string_bytes (P:=P) w sT dT e s0 ar ap aq;have ae:=grownCap_le_maxLen w s0.size 0 e (by rw[ah];unfold big at ai;unfold maxLen;omega);have ak:=grownCap_ge w s0.size 0 e;let g':G:={ g with prot:=λb=>if b=w.heap.size then (I l) else g.prot b };have ad:ZaC g w g' (Lib.bytesWorld w e s0):=by refine⟨by rw[Lib.bytesWorld_size];omega,λb hb=>Lib.bytesWorld_at_old w e s0 b hb,λb hb=>by simp[g',Nat.ne_of_lt hb],λb hb=>?_,rfl,?_,?_,?_⟩;rw[Lib.bytesWorld_size]at hb;simp[g',show b≠w.heap.size by omega,(m.st.fresh b ω).1];rfl;rfl;rfl
 have u:Rep g' (Lib.bytesWorld w e s0) (.slice (sO ⟨w.heap.size,0,nO⟩) s0.size (grownCap w s0.size 0 e)) (.sl .none (I l) 1 (λi=>[.int .u8 ((l.getD i 0).toNat:Int)])):=by
  rw[ah]at ae ak⊢;refine .sl w.heap.size 0 (I l) _ 1 _ .none (λi _=>.int .u8 ((l.getD i 0).toNat:Int)) (λi hi=>rfl) (λi j hi hj=>?_) (λi j hi hj=>?_) (λi j d hi hd=>?_) (λi j _ _=>rfl) trivial ω (by unfold big;unfold maxLen at ae;omega);have:=Lib.bytesWorld_cell w e s0 (0+i*1+j) ω;rw[this,e0];have:0+i*1+j=i:=ω;rw[this];simp[g'];omega;cases j with
  |zero=>simp only[List.getElem?_cons_zero,ZHQ]at hd;subst hd;exact .int _ _ (Zsz _)
  |succ j=>simp at hd
 refine YS hN af t hd hw am (v:=.slice (sO ⟨w.heap.size,0,nO⟩) s0.size (grownCap w s0.size 0 e)) ?_ (ad.ext m.st.fresh) (m.grow ad) ?_ ac;simp[execOp,an,ao,ag];rcases he with rfl|⟨_,rfl⟩;exact⟨λ_=>u,λh=>by simp at h⟩;exact u
end
section
variable {P:Program}
def Zwu{F:Fr P}{kp dk o os H L s c}(hg:Zw H o.guard=sO c){len n z is xs}(hk:o.k=.bsl len n z is xs){p es ds}(ha:Yr H c xs=sO (p,es))(hds:KA es=sO ds)(hs:c=true->p/\Zam n ds=true){e'}(he:e'=.when c (.d (.sl .full len n (ZI z (is.zip ds))))\/(c=true/\e'=.d (.sl .full len n (ZI z (is.zip ds)))))(h:DO F kp dk os (putE H o.dst e') L s):DO F kp dk (o::os) H L s:=by
 refine WN λoo g Z w tmps au i r k ai ac ak u hd hN m hr al=>?_;have ah:=h au r k hr al;have hw:=Yo m ak hg;have am:=Yu ac (by rw[hk];rfl);cases c;rcases he with rfl|⟨h0,_⟩;exact Zcc (P:=P) hN m ai u hd hw ah;grind;rw[hk]at ac;obtain⟨t,e,parts,an,hu,ap,hz,aq,rfl,ag,ar,ao,af⟩:=ZwI ac;have ab:=ZcM m rfl F.ds aq ha (hs rfl).1;have ad:=QB ab hds;obtain⟨v,w',g',h1,h2,h3⟩:=ZBa (P:=P) (g:=g) (w:=w) (parts:=parts.toList.map λx=>(x.1,(Act.mk tmps F.ds).eval x.2)) hu ap hz (by simpa[Function.comp_def]using ag) ar ao af
  (by simpa[Function.comp_def]using ad) (hs rfl).2 m.st.fresh
 have hx:=h2.ext m.st.fresh;have aj:(execOp (Act.mk tmps F.ds).eval oo).run P w=.ok (.value v) w':=by
  simp[execOp,an,Sem.run_bind];have e1:(parts.map λx=>(x.1,(Act.mk tmps F.ds).eval x.2))=(parts.toList.map λx=>(x.1,(Act.mk tmps F.ds).eval x.2)).toArray:=by apply Array.ext';simp
  rw[e1,h1];rfl
 have ae:Rep g' w' v (.sl .full len n (ZI z ((parts.toList.map (·.1)).zip ds))):=by simpa[Function.comp_def]using h3
 refine YS hN ai u hd hw am aj hx (m.grow h2) ?_ ah;rcases he with rfl|⟨_,rfl⟩;exact⟨λ_=>ae,λh=>by simp at h⟩;exact ae
def Zuz{F:Fr P}{kp dk o os H L s c}(hg:Zw H o.guard=sO c){x a b}(hk:o.k=.pick x a b){p v}(ha:Zgq H c x a b=sO (p,v))(hs:c=true->p){t}(he:t=.when c (.d (.bool v))\/(c=true/\t=.d (.bool v)))(h:DO F kp dk os (putE H o.dst t) L s):DO F kp dk (o::os) H L s:=by
 refine ZrN hg (by rw[hk];rfl) he (λu oo g Z w tmps i m=>?_) h;rw[hk]at i;obtain⟨x',a',b',r,h1,h2,h3⟩:=ZAe i;refine⟨.bool v,?_,.bool v⟩;obtain⟨dst,op,ty,pos,af,gd⟩:=oo;cases r;exact Zzc m h1 h2 h3 u ha (hs u)
def ZgA{H H' L L' s s' p q ok side a n xs}(h:Jl H L s p q ok a n xs=.ok side H' L' s'):
  H'=H/\((∃l o r,a=.loc l o/\Zq L l=sO r/\side=(p/\q/\o+n<=I r/\ok)/\L'=(l,ZF r o xs)::L/\s'=s) \/
   ∃b o r,a=.d (.ptr b o)/\Yq s b=sO r/\side=(p/\q/\o+n<=I r/\ok)/\L'=L/\s'=s.upd b (.cells (ZF r o xs))):=by
 unfold Jl at h;split at h<;>(try(simp at h;done));rename_i l o;split at h<;>simp only[SR.ok.injEq,reduceCtorEq]at h;rename_i r i;obtain⟨rfl,rfl,rfl,rfl⟩:=h;exact⟨rfl,.inl ⟨l,o,r,rfl,i,rfl,rfl,rfl⟩⟩;rename_i b o;split at h<;>simp only[SR.ok.injEq,reduceCtorEq]at h;rename_i r i;obtain⟨rfl,rfl,rfl,rfl⟩:=h;exact⟨rfl,.inr ⟨b,o,r,rfl,i,rfl,rfl,rfl⟩⟩
def Ze5{H L s p q ok side a n xs pre H' s'}:Jl H L s p q ok a n xs≠.all side pre H' s':=by
 unfold Jl;split<;>(try(split<;>simp))<;>simp
def Jw{F:Fr P}{kp dk o os H H' L L' s s' side}(hst:ZP o H L s=.ok side H' L' s')(hs:side)(h:DO F kp dk os H' L' s'):DO F kp dk (o::os) H L s:=by
 obtain⟨dst,gd,k⟩:=o;unfold ZP at hst;cases hg:Zw H gd with
 |none=>simp[hg]at hst
 |some c =>
  simp only[hg]at hst;have ab:gd=nO->c=true:=λh0=>by subst h0;simpa[Zw]using hg.symm
  cases k with
  |q q xs =>simp only at hst;split at hst<;>(try(simp at hst;done));rename_i p es ha;split at hst<;>(try(simp at hst;done));rename_i sd e hq;split at hst<;>(cases hst);obtain rfl:=ab rfl;exact ZA6 hg rfl ha hq (λ_=>hs) (.inr ⟨rfl,rfl⟩) h;exact ZA6 hg rfl ha hq hs (.inl rfl) h
  |pick x a b =>simp only at hst;split at hst<;>(try(simp at hst;done));rename_i p v ha;split at hst<;>(cases hst);obtain rfl:=ab rfl;exact Zuz hg rfl ha (λ_=>hs) (.inr ⟨rfl,rfl⟩) h;exact Zuz hg rfl ha hs (.inl rfl) h
  |alloc z =>simp only at hst;split at hst<;>(try(simp at hst;done));rename_i t;cases hst;exact ZrI rfl rfl rfl hs h
  |box x =>simp only at hst;split at hst<;>(try(simp at hst;done));rename_i t p v ha;cases hst;exact ZA3 rfl rfl rfl ha hs.1 hs.2.1 hs.2.2 h
  |bsl len n z is xs =>simp only at hst;split at hst<;>(try(simp at hst;done));rename_i p es ha;split at hst<;>(try(simp at hst;done));rename_i ds ae;split at hst<;>(cases hst);obtain rfl:=ab rfl;exact Zwu hg rfl ha ae (λ_=>hs) (.inr ⟨rfl,rfl⟩) h;exact Zwu hg rfl ha ae hs (.inl rfl) h
  |s2b x =>simp only at hst;split at hst<;>(try(simp at hst;done));rename_i p l ha;split at hst<;>(cases hst);obtain rfl:=ab rfl;exact Zwz hg rfl ha (λ_=>hs) (.inr ⟨rfl,rfl⟩) h;exact Zwz hg rfl ha hs (.inl rfl) h
  |store1 a v =>
   simp only at hst;split at hst<;>(try(simp at hst;done));rename_i p ea q x ha hv;obtain⟨rfl,⟨l,ac,cs,rfl,hL,rfl,rfl,rfl⟩|⟨b,ac,cs,rfl,hL,rfl,rfl,rfl⟩⟩:=ZgA hst;all_goals obtain⟨h1,h2,h3,h4⟩:=hs
   all_goals have hx:cellsOf x=[x]:=by cases x<;>simp[Qy]at h4<;>rfl
   exact ZrM rfl (.inl ⟨rfl,trivial⟩) ha hv h1 h2 hL (λ_=>h4) (λn hn=>by simp at hn) (by rw[hx];simpa using h3) rfl (by rw[hx];exact h);exact Zp2 rfl (.inl ⟨rfl,trivial⟩) ha hv h1 h2 hL (λ_=>h4) (λn hn=>by simp at hn) (by rw[hx];simpa using h3) rfl (by rw[hx];exact h)
  |storeN n a v =>
   simp only at hst;split at hst<;>(try(simp at hst;done));rename_i p ea q xs ha hv;obtain⟨rfl,⟨l,ac,cs,rfl,hL,rfl,rfl,rfl⟩|⟨b,ac,cs,rfl,hL,rfl,rfl,rfl⟩⟩:=ZgA hst;all_goals obtain⟨h1,h2,h3,h4⟩:=hs
   exact ZrM rfl (.inr ⟨n,rfl⟩) ha hv h1 h2 hL (λhn=>by simp at hn) (λn' hn=>by simp only[K.storeN.injEq]at hn;exact⟨⟨xs,rfl⟩,by rw[<-hn.1];exact h4⟩) (by simp only[cellsOf];omega) rfl h;exact Zp2 rfl (.inr ⟨n,rfl⟩) ha hv h1 h2 hL (λhn=>by simp at hn) (λn' hn=>by simp only[K.storeN.injEq]at hn;exact⟨⟨xs,rfl⟩,by rw[<-hn.1];exact h4⟩) (by simp only[cellsOf];omega) rfl h
  |mkmap =>simp only at hst;split at hst<;>simp at hst
  |mkslice e n by_ z l c =>simp only at hst;split at hst<;>simp at hst
  |mapent kp z m k =>simp only at hst;split at hst<;>(try(simp at hst;done));split at hst<;>(try(simp at hst;done));split at hst<;>simp at hst
  |mapupd kp m k v =>simp only at hst;split at hst<;>(try(simp at hst;done));rename_i p b q dk r dv hm hk hv;split at hst<;>(try(simp at hst;done));rename_i es u;split at hst<;>simp only[SR.ok.injEq,reduceCtorEq]at hst;rename_i ad i;obtain⟨rfl,rfl,rfl,rfl⟩:=hst;exact Zwx rfl rfl rfl hm hk hv hs.1 hs.2.1 hs.2.2.1 u i hs.2.2.2 h
  |delete kp m k =>simp only at hst;split at hst<;>(try(simp at hst;done));rename_i p b q dk hm hk;split at hst<;>(try(simp at hst;done));rename_i es u;split at hst<;>simp only[SR.ok.injEq,reduceCtorEq]at hst;rename_i ad i;obtain⟨rfl,rfl,rfl,rfl⟩:=hst;exact Zwv rfl rfl rfl hm hk hs.1 hs.2.1 u i hs.2.2 h
  |entst m k v =>simp only at hst;split at hst<;>(try(simp at hst;done));rename_i p b q n r dv hm hk hv;split at hst<;>(try(simp at hst;done));rename_i kp es dk n' u;split at hst<;>simp only[SR.ok.injEq,reduceCtorEq]at hst;rename_i ad i;obtain⟨rfl,rfl,rfl,rfl⟩:=hst;obtain⟨h1,h2,h3,rfl⟩:=hs;exact Zya rfl rfl rfl hm hk hv h1 h2 h3 u i h
  |_=>simp at hst
def Zng{F:Fr P}{kp dk o os H L s side pre H' s'}(i:ZP o H L s=.all side pre H' s')(r:side)(h:∀b,pre b->DO F kp dk os (H' b) L (s' b)):DO F kp dk (o::os) H L s:=by
 obtain⟨dst,t,k⟩:=o;unfold ZP at i;cases hg:Zw H t with
 |none=>grind
 |some c =>
  simp[hg]at i;cases k with
  |mkmap =>simp only at i;split at i<;>cases i;exact Zyb rfl rfl rfl h
  |mkslice e n by_ z l c =>simp only at i;split at i<;>cases i;obtain⟨u,h2,h3,h4,h5,h6⟩:=r;exact Zvh rfl rfl rfl ‹_› ‹_› u h2 h3 h4 h5 h6 h
  |mapent kp z m k =>simp only at i;split at i<;>(try(grind;done));split at i<;>(try(grind;done));split at i<;>cases i;exact Zww rfl rfl rfl ‹_› ‹_› r.1 r.2.1 ‹_› ‹_› r.2.2 (λn=>h n trivial)
  |store1 a v =>simp only at i;split at i<;>(try(grind;done));exact absurd i Ze5
  |storeN n a v =>simp only at i;split at i<;>(try(grind;done));exact absurd i Ze5
  |_ =>
   grind;first
    | (grind;done)
    |repeat' (split at i<;>(try(grind;done)))
def Zk{F:Fr P}{kp}{dk}:∀{os} {H} {L} {s},
  ZjF (λH L s=>ZA F dk (kept kp H) (Zk9 kp H L) s) (λos H L s=>DO F kp dk os H L s) os H L s->DO F kp dk os H L s
 | [],H,L,s,h=>Zhd h
 |o::os,H,L,s,h=>by simp[ZjF]at h;split at h;rename_i u H' L' t i;exact Jw i h.1 (Zk h.2);rename_i u pre H' t i;exact Zng i h.1 λb r=>Zk (h.2 b r);exact h
end
inductive Res where
 |ret (d:D)
 |panic (d:D)
def Zgc(g:G)(w:World):Ending->Res->Prop
 |.returned v,.ret d=>Rep g w v d
 |.panicked ch,.panic d=>∃v,ch=[{ v,recovered:=false }]/\Rep g w v d
 |_,_=>False
def Zhh(g:G)(w:World)(Φ:Res->St->Prop)(e:Ending)(w':World):Prop :=
 ∃g' s' r,Ext g w g' w'/\Ym g' s' w'/\Zgc g' w' e r/\Φ r s'
section
variable {P:Program}
def Zf(P:Program)(f:FuncId)(args:List D)(s:St)(Φ:Res->St->Prop):Prop :=
 (∃fn,P.funcs[f]?=sO fn/\fn.body.isSome=true/\(fn.name == "runtime.NumGoroutine")=false) /\
 ∀g w (vs:List Value),Ym g s w->ZN (Rep g w) vs args->Calls P f vs.toArray w (Zhh g w Φ)
def Zf.mono{f args s Φ Φ'}(h:Zf P f args s Φ)(u:∀r i,Φ r i->Φ' r i):Zf P f args s Φ' :=
 ⟨h.1,λg w vs hs t=>(h.2 g w vs hs t).mono λ_ _ ⟨o,i,r,a,b,c,d⟩=>⟨o,i,r,a,b,c,u _ _ d⟩⟩
def Zk5(P:Program)(f:FuncId)(cs:List Frame)(Φ:Res->St->Prop):Zvn P where
 T g w m:=∃e w' fr,Comes P m (lone fr cs w') e/\fr.fn=f/\fr.leaving P w' e/\Zhh g w Φ e w'
 back g w m m' hs h:=let ⟨e,w',fr,a,b⟩:=h;⟨e,w',fr,a.of_steps hs,b⟩
 ext g w g' w' m hx h:=by obtain⟨e,w2,fr,a,b,c,g2,s2,r,d1,d2,d3,d4⟩:=h;exact⟨e,w2,fr,a,b,c,g2,s2,r,hx.trans d1,d2,d3,d4⟩
def ZnT(P:Program)(an:Ann)(f:FuncId)(N:Nat)(cs:List Frame)(Φ:Res->St->Prop):Fr P where
 T:=Zk5 P f cs Φ
 b:={ (dE:Frame) with fn:=f,kind:=.normal,roundOf:=nO }
 cs:=cs
 N:=N
 ds:=[]
 an:=an
def Za6:Nat->List D->Env
 |_,[]=>[]
 |i,d::ds=>(i,.d d)::Za6 (i+1) ds
def Zqn:∀(ds i t e),Z9 (Za6 i ds) t=sO e->∃d,e=.d d/\i<=t/\ds[t-i]?=sO d
 | [],i,t,e,h=>by simp[Za6,Z9]at h
 |d::ds,i,t,e,h=>by simp only[Za6,Z9]at h;by_cases o:i=t;subst o;simp only[if_true,ZHQ]at h;subst h;exact⟨d,rfl,ZH9 _,ψ⟩;simp only[o,if_false]at h;obtain⟨r,u,h2,h3⟩:=Zqn ds (i+1) t e h;refine⟨r,u,ω,?_⟩;rw[show t-i=(t-(i+1))+1 from by omega,List.getElem?_cons_succ];exact h3
def Zmf(u:Ym g s w){vs:List Value}{args:List D}(r:ZN (Rep g w) vs args){n:Nat}:
  ZB g (λ_=>0) w (vs.toArray++Array.replicate n undef) (Za6 0 args) [] s:={
 st:=u
 loc l cs h:=by simp[Zq]at h
 locKept l cs h:=by simp[Zq]at h
 locSt l cs h:=by simp[Zq]at h
 inj l l' cs cs' h:=by simp[Zq]at h
 env t e h:=by
  obtain⟨d,rfl,_,o⟩:=Zqn args 0 t e h;simp only[Nat.sub_zero]at o;have i:t<I vs:=by rw[r.len];exact(List.getElem?_eq_some_iff.1 o).1
  have:(vs.toArray++Array.replicate n undef).getD t undef=vs[t]:=by simp[Array.getD_eq_getD_getElem?,Array.getElem?_append,i]
  rw[this];exact r.get t _ d (by simp[i]) o }
def ZrF{an f df}(t:cf P an f=sO df){args s Φ}(h:∀cs,ZA (ZnT P an f df.n cs Φ) [.code df.body] (Za6 0 args) [] s):Zf P f args s Φ:=by
 unfold cf at t;split at t<;>(try(simp at t;done));rename_i fn r;split at t<;>(try(simp at t;done));rename_i c hc;split at t<;>(try(simp at t;done));rename_i o;split at t<;>simp at t;rename_i rs d hrs hd;subst t;refine⟨⟨fn,r,by simp[hc],by simpa using o⟩,λg w u hs ha=>?_⟩;intro cs;have i:Frame.enter P f u.toArray .normal =
   (ZnT P an f fn.ntmps cs Φ).b.atR { tmps:=u.toArray++Array.replicate (fn.ntmps-I u) undef,defers:=[] } [.code c]:=by
  simp[Frame.enter,Frame.atR,r,hc,ZnT]
 have:=h cs [.code c] (.code hd .nil) g (λ_=>0) w (u.toArray++Array.replicate (fn.ntmps-I u) undef) (by simp[ZnT];omega) (Zmf hs ha);obtain⟨e,w',fr,a,b,c',d'⟩:=this;refine⟨e,w',fr,d',?_,b,c'⟩;rw[i];exact a
def K7(H:Env)(L:Loc)(s:St):RV->Option (Prop×D)
 |.tmp t=>match Z9 H t with
  |some (.d x)=>sO (True,x)
  |some (.when c (.d x))=>sO (c=true,x)
  |_=>nO
 |.cell1 t=>match Z9 H t with
  |some e=>(Kj L s e).map (True,·)
  |none=>nO
 |.cellN t n=>match Z9 H t with
  |some e=>(QE L s n e).map λr=>(r.1,.agg r.2)
  |none=>nO
def YP(H:Env)(L:Loc)(s:St):List RV->Option (Prop×List D)
 | []=>sO (True,[])
 |r::rs=>match K7 H L s r,YP H L s rs with
  |some (p,d),sO (q,ds)=>sO (p/\q,d::ds)
  |_,_=>nO
def QZ:List D->D
 | [d]=>d
 |ds=>.tup ds
def Zlh(tmps:Array Value):ResultVar->Sem Value
 |.tmp t=>pure (tmps.getD t undef)
 |.cell a t=>do loadVar t (<-asAddr (tmps.getD a undef))
def Zoq(fn tmps):results fn tmps=(do
  let vs <-fn.results.mapM (Zlh tmps)
  pure (if h:vs.size=1 then vs[0] else .tuple vs)):=by
 unfold results
 congr 1
def ZB4{g Z w tmps H L s}(m:ZB g Z w tmps H L s){r rv}(hc:crv P r=sO rv){p d}(h:K7 H L s rv=sO (p,d))(hp:p):
  ∃v,(Zlh tmps r).run P w=.ok v w/\Rep g w v d:=by
 cases r with
 |tmp t =>simp only[crv,ZHQ]at hc;subst hc;simp only[K7]at h;split at h<;>simp only[ZHQ,ZH2,reduceCtorEq]at h;rename_i x hx;obtain⟨rfl,rfl⟩:=h;exact⟨_,rfl,m.env t _ hx⟩;rename_i c x hx;obtain⟨rfl,rfl⟩:=h;exact⟨_,rfl,(m.env t _ hx).1 hp⟩
 |cell a t =>
  simp only[crv]at hc;split at hc<;>simp at hc;·rename_i n ha ab;subst hc;simp only[K7]at h;split at h<;>(try(simp at h;done));rename_i e he;simp only[ZH8,ZH2]at h;obtain⟨⟨q,ds⟩,hq,rfl,rfl⟩:=h;obtain⟨ad,hv,vs,u,i⟩:=Zoc (P:=P) m.loc m.st (m.env a e he) hq hp;exact⟨.agg vs.toArray,by simp only[Zlh,hv,asAddr];simp[loadVar,Zgd ha,YV ab,u],i⟩
  rename_i n ha ab;subst hc;simp only[K7]at h;split at h<;>(try(simp at h;done));rename_i e he;simp only[ZH8,ZH2]at h;obtain⟨x,hx,_,rfl⟩:=h;obtain⟨b,o,y,hv,hy,hr,_⟩:=Znq m.loc m.st (m.env a e he) hx;exact⟨y,by simp only[Zlh,hv,asAddr];simp[loadVar,ZeM ha,hy],hr⟩
def ZxL{g Z w tmps H L s}(m:ZB g Z w tmps H L s):∀{rs rvs},ZjC P rs=sO rvs->∀{p ds},
  YP H L s rvs=sO (p,ds)->p->∃vs:List Value,(rs.mapM (Zlh tmps)).run P w=.ok vs w/\ZN (Rep g w) vs ds
 | [],rvs,hc,p,ds,h,hp=>by simp only[ZjC,ZHQ]at hc;subst hc;simp only[YP,ZHQ,ZH2]at h;obtain⟨rfl,rfl⟩:=h;exact⟨[],ψ,.nil⟩
 |r::rs,rvs,hc,p,ds,h,hp=>by simp only[ZjC]at hc;split at hc<;>simp at hc;rename_i x xs hx ab;subst hc;simp only[YP]at h;split at h<;>simp only[ZHQ,ZH2,reduceCtorEq]at h;rename_i p1 d1 p2 ds' h1 h2;obtain⟨rfl,rfl⟩:=h;obtain⟨v,t,u⟩:=ZB4 m hx h1 hp.1;obtain⟨vs,i,o⟩:=ZxL m ab h2 hp.2;exact⟨v::vs,by simp only[List.mapM_cons,Sem.run_bind];rw[t];simp only[Result.andThen_ok,i,Sem.run_pure],.cons u o⟩
def D.Le(d d':D):Prop:=∀g w v,Rep g w v d->Rep g w v d'
def D.Le.refl(d:D):d.Le d:=λ_ _ _ h=>h
def Zor{g Z w tmps H L s}(m:ZB g Z w tmps H L s){fn t}(hc:ZjC P fn.results.toList=sO t){p ds}(h:YP H L s t=sO (p,ds))(hp:p):∃v,(results fn tmps).run P w=.ok v w/\Rep g w v (QZ ds):=by
 obtain⟨u,h1,h2⟩:=ZxL m hc h hp;have r:(fn.results.mapM (Zlh tmps)).run P w=.ok u.toArray w:=by rw[Array.mapM_eq_mapM_toList];simp[h1]
 by_cases i:I u=1
 .match u,i,h2 with
  | [v],_,.cons hv .nil =>refine⟨v,?_,hv⟩;rw[Zoq];simp[r]
 refine⟨.tuple u.toArray,?_,?_⟩;rw[Zoq];simp[r,i];have o:=h2.len;have:QZ ds=.tup ds:=by
  match ds,o with
  | [],_=>rfl
  | [_],hl=>exact absurd hl i
  |_::_::_,_=>rfl
 rw[this];exact .tup u ds o h2.get
def St.sub(s' s:St):Prop:=∀b o,s' b=sO o->s b=sO o
def Ym.sub{s s':St}(h:Ym g s w)(i:s'.sub s):Ym g s' w:={
 obj b o ho:=h.obj b o (i b o ho)
 kept b o ho:=h.kept b o (i b o ho)
 fresh:=h.fresh
 tabs:=h.tabs }
end
end Go.DL
namespace Go.DL
open Go
variable [Zo5]
section
variable {P:Program}
def WB(F:Fr P)(H:Env)(L:Loc)(d:D)(s:St):Prop :=
 ∀g Z w v todo tmps,F.N<=tmps.size->ZB g Z w tmps H L s->Rep g w v d->F.T.T g w (lone { F.b.atR ⟨tmps,F.ds⟩ todo with mode:=.panicking [{ v,recovered:=false }] } F.cs w)
def ZB.empty{g:G}{Z:Nat->Nat}{w:World}{tmps:Array Value}{H:Env}{L:Loc}{s:St}(m:ZB g Z w tmps H L s):ZB g Z w tmps [] [] s:={
 st:=m.st
 loc l cs h:=by simp[Zq]at h
 locKept l cs h:=by simp[Zq]at h
 locSt l cs h:=by simp[Zq]at h
 inj l l' cs cs' h:=by simp[Zq]at h
 env t e h:=by simp[Z9]at h }
def WB.weak{F:Fr P}{d s}(h:WB F [] [] d s)(H L):WB F H L d s :=
 λg Z w v i tmps o m r=>h g Z w v i tmps o m.empty r
def Zh2(g:G)(Z:Nat->Nat)(L:Loc):G:={ g with kept:=λb=>g.kept b\/∃l cs,Zq L l=sO cs/\b=Z l }
def Kg{g i w v d}(h:Rep g w v d)(o:i.prot=g.prot):Rep i w v d :=
 h.mono0 (λb=>by rw[o];exact ZH9 _) (λ_ _ _=>rfl) (λ_ _ h=>h)
def ZxH{g i Z w L v e}(h:ZM g Z w L v e)(t:i.prot=g.prot):ZM i Z w L v e:=by
 induction e with
 |d x=>exact Kg h t
 |loc l o=>exact h
 |when c e ih=>exact⟨λr=>ih (h.1 r),h.2⟩
def Zoa{g g' w b o}(h:WO g w b o)(u:g'.prot=g.prot):WO g' w b o:=by
 cases o with
 |cells ds =>obtain⟨h0,vs,T,h1,h2,h3,h4⟩:=h;exact⟨by rw[u];exact h0,vs,T,h1,h2,λi v d hv hd=>Kg (h3 i v d hv hd) u,h4⟩
 |map es =>obtain⟨h0,en,cl,h1,h2,h3,h4,h5,h6⟩:=h;exact⟨by rw[u];exact h0,en,cl,h1,h2,λi v d hv hd=>Kg (h3 i v d hv hd) u,λi v d hv hd=>Kg (h4 i v d hv hd) u,h5,h6⟩
 |tip k =>obtain⟨h0,h1⟩:=h;exact⟨by rw[u];exact h0,h1⟩
 |mapE kp es k n =>obtain⟨h0,io,h1,en,cl,h2,h3,h4,h5,h6,h7⟩:=h;exact⟨by rw[u];exact h0,io,h1,en,cl,h2,h3,λi v d hi hv hd=>Kg (h4 i v d hi hv hd) u,λi v d hi hv hd=>Kg (h5 i v d hi hv hd) u,λe he=>⟨Kg (h6 e he).1 u,(h6 e he).2⟩,h7⟩
 |loop r st =>obtain⟨h0,l,h1,h2,h3,h4,h5,h6,h7,h8,h9⟩:=h;exact⟨by rw[u];exact h0,l,h1,h2,h3,h4,h5,h6,h7,λt e he=>ZxH (h8 t e he) u,h9⟩
 |dfr =>obtain⟨h0,h1⟩:=h;exact⟨by rw[u];exact h0,h1⟩
def ZB.callSt{g:G}{Z:Nat->Nat}{w:World}{tmps:Array Value}{H:Env}{L:Loc}{s:St}(m:ZB g Z w tmps H L s):Ym (Zh2 g Z L) s w:={
 obj b o ho:=Zoa (m.st.obj b o ho) rfl
 kept b o ho:=by rintro(h|⟨l,i,r,rfl⟩);exact m.st.kept b o ho h;rw[m.locSt l i r]at ho;simp at ho
 fresh b hb:=⟨(m.st.fresh b hb).1,by
  rintro(h|⟨l,i,r,rfl⟩);exact(m.st.fresh b hb).2 h;have:=(m.loc l i r).lt;omega⟩
 tabs n i hc:=Kg (m.st.tabs n i hc) rfl }
def ZB.afterCall{g g' Z w w' tmps H L s s'}(m:ZB g Z w tmps H L s)(hx:Ext (Zh2 g Z L) w g' w')(hs:Ym g' s' w') :
  Ext g w { g' with kept:=g.kept } w'/\ZB { g' with kept:=g.kept } Z w' tmps H L s':=by
 have i:Ext g w { g' with kept:=g.kept } w' :=
  ⟨hx.size,hx.prot,hx.cell,hx.hdr,λb hb=>hx.kept b (.inl hb),λb hb=>hx.keptProt b (.inl hb),rfl,hx.os,hx.output,hx.tape⟩
 refine⟨i,⟨⟨λb o ho=>Zoa (hs.obj b o ho) rfl,λb o ho hk=>hs.kept b o ho (by rw[hx.keptEq];exact .inl hk),λb hb=>⟨(hs.fresh b hb).1,λhk=>(hs.fresh b hb).2 (by rw[hx.keptEq];exact .inl hk)⟩,λn cs hc=>Kg (hs.tabs n cs hc) rfl⟩,?_,m.locKept,?_,m.inj,?_⟩⟩;intro l cs hl;exact(m.loc l cs hl).mono i (hx.kept _ (.inr ⟨l,cs,hl,rfl⟩)) (hx.keptProt _ (.inr ⟨l,cs,hl,rfl⟩))
 .intro l cs hl;cases r:s' (Z l) with
  |none=>rfl
  |some o=>exact absurd (by rw[hx.keptEq];exact .inr ⟨l,cs,hl,rfl⟩) (hs.kept _ o r)
 intro t e he;exact(m.env t e he).mono i
def ZuJ{op f xs}(h:ck P op=sO (.call f xs)):∃u r t,op=.call ⟨.value u,r,t⟩/\Z6 u=sO f/\Zc0 r.toList=sO xs:=by
 unfold ck at h;split at h;simp at h;split at h<;>(try(simp at h;done));all_goals (try(repeat' (split at h<;>(try(simp at h;done)))))
 simp only[ZHQ,K.call.injEq]at h;obtain⟨rfl,rfl⟩:=h;rename_i c _ _ u i _ _ f xs hf o;obtain⟨callee,r,t⟩:=c;simp only at i;exact⟨u,r,t,by rw[i],hf,o⟩
def Zyv{op x}(h:ck P op=sO (.panic x)):∃x',op=.panic x'/\Z6 x'=sO x:=by
 unfold ck at h;split at h;simp at h;split at h<;>(try(simp at h;done));all_goals (try(repeat' (split at h<;>(try(simp at h;done)))))
 simp only[ZH8,K.panic.injEq,exists_eq_right]at h;exact⟨_,rfl,h⟩
def Zgp(P:Program):Next->Option Frame
 |.enter f args=>sO (Frame.enter P f args .normal)
 |.round l f tmps a b=>sO (Frame.round l f tmps a b .normal)
 |_=>nO
def ZA1(P:Program)(m:Machine)(c:Frame)(cs:List Frame)(e:Ending)(w':World):Prop :=
 match e with
 |.returned v=>Steps P m (lone (c.finish v) cs w')
 |.panicked ch=>Steps P m (lone (c.raise ch) cs w')
 |.outgrown=>False
def KC(P:Program)(f:D)(args:List D)(s:St)(Φ:Res->St->Prop):Prop :=
 ∀g w fv (vs:List Value),Ym g s w->Rep g w fv f->ZN (Rep g w) vs args ->
  ∃d nx fr,(Deferred.ofValue fv vs.toArray).run P w=.ok d w/\(invoke d.target d.args).run P w=.ok nx w/\Zgp P nx=sO fr /\
   ∀c cs,∃e w',Zhh g w Φ e w'/\ZA1 P (lone fr (c::cs) w) c cs e w'
def Zf.V{f first args caps s Φ}(h:Zf P f (first++args++caps) s Φ):KC P (.fn (.func f) first caps) args s Φ:=by
 intro g w fv vs hs hf ha;cases hf with
 |fn _ fs cs' _ _ hn1 hn2 h1 h2 =>
 obtain⟨⟨fn,ac,ad,ae⟩,u⟩:=h;have ab:ZN (Rep g w) (fs++vs++cs') (first++args++caps):=((Yn hn1 h1).append ha).append (Yn hn2 h2);have t:fn.body.isNone=false:=by cases hb:fn.body<;>simp[hb]at ad⊢
 refine⟨_,.enter f (fs++vs++cs').toArray,_,by simp[Deferred.ofValue];rfl,?_,rfl,λc cs=>?_⟩;simp only[invoke,callFunc,Sem.run_bind,run_program,Result.andThen_ok,ac,ae,t,ZIx,if_false,Sem.run_pure];simp;obtain⟨e,w',fr,hp,i,hfrf,o⟩:=u g w _ hs ab (c::cs);refine⟨e,w',hp,?_⟩;cases e with
 |returned v=>exact Steps.trans i (.one (step_leave_returned o))
 |panicked ch=>exact Steps.trans i (.one (step_leave_panicked o))
 |outgrown =>obtain⟨g',s',r,b1,b2,b3,b4⟩:=hp;cases r<;>exact b3.elim
def Zdx{F:Fr P}{kp dk o os H L s}(hg:Zw H o.guard=sO true){fx xs}(hk:o.k=.call fx xs)
  {p q f es ds} (hf:ZH H true fx=sO (q,.d f)) (ha:Yr H true xs=sO (p,es)) (hds:KA es=sO ds) (hp:p) (hq:q)
  {Ψ} (hc:KC P f ds s Ψ)
  (hret:∀d s',Ψ (.ret d) s'->DO F kp dk os (putE H o.dst (.d d)) L s') (hpan:∀d s',Ψ (.panic d) s'->WB F H L d s'):DO F kp dk (o::os) H L s:=by
 refine WN λoo g Z w tmps t i r k ao ag aq ak hd hN m hr ax=>?_;have hw:=Yo m aq hg;have ay:=Yu ag (by rw[hk];rfl);rw[hk]at ag;obtain⟨f',ad,ats,az,av,a0⟩:=ZuJ ag;have am:Rep g w _ _:=Yh m av rfl hf hq F.ds;have ae:=QB (ZcM m rfl F.ds a0 ha hp) hds;generalize aw:(Act.mk tmps F.ds).eval f'=fv at am;have ai:ZN (Rep (Zh2 g Z L) w) (ad.toList.map (Act.mk tmps F.ds).eval) ds:=Yn ae.len (λi a b hx hy=>Kg (ae.get i a b hx hy) rfl);obtain⟨d,nx,fr,ar,au,aj,hC⟩:=hc (Zh2 g Z L) w fv _ m.callSt (Kg am rfl) ai;have an:(Array.map (Act.mk tmps F.ds).eval ad)=(ad.toList.map (Act.mk tmps F.ds).eval).toArray:=by apply Array.ext';simp
 have ap:(execOp (Act.mk tmps F.ds).eval oo).run P w=.ok nx w:=by simp only[execOp,az,resolve,aw,an,Sem.run_bind,ar,Result.andThen_ok,au]
 have ac:step P (lone (F.b.atR ⟨tmps,F.ds⟩ (.inRegion t (i::r)::k)) F.cs w) =
   .next (lone fr (F.b.atR ⟨tmps,F.ds⟩ (.inRegion t (i::r)::k)::F.cs) w):=by
  refine step_lone_go ?_;rw[stepGR_op ao hw,Oper.semAt_eq _ _ _ ay];cases nx<;>simp only[Zgp,ZHQ,reduceCtorEq]at aj<;>subst aj<;>simp[stepG.apply,ap,Frame.atR]
 obtain⟨e,w',⟨g',s',res,x1,x2,x3,x4⟩,ab⟩:=hC (F.b.atR ⟨tmps,F.ds⟩ (.inRegion t (i::r)::k)) F.cs;obtain⟨af,hm⟩:=m.afterCall x1 x2;cases e with
 |returned v =>
  cases res with
  |panic d=>exact x3.elim
  |ret d =>
   have al:(F.b.atR ⟨tmps,F.ds⟩ (.inRegion t (i::r)::k)).finish v=F.b.atR ((Act.mk tmps F.ds).put oo.dst v) (.inRegion t r::k):=by rw[Frame.finish_atR,ao];rfl
   have u:Steps P (lone (F.b.atR ⟨tmps,F.ds⟩ (.inRegion t (i::r)::k)) F.cs w) (lone (F.b.atR ((Act.mk tmps F.ds).put oo.dst v) (.inRegion t r::k)) F.cs w'):=by refine .head ac ?_;rw[<-al];exact ab
   refine F.T.back _ _ _ _ u ?_;rw[ak];obtain⟨ah,e1,e2,m'⟩:=ZhD hm hN hd (v:=v) (e:=.d d) (Kg x3 rfl) F.ds;rw[e1];exact F.T.ext _ _ _ _ _ af (hret d s' x4 t r k hr ax _ _ _ ah e2 m')
 |panicked ch =>
  cases res with
  |ret d=>exact x3.elim
  |panic d =>
   obtain⟨v,rfl,hv⟩:=x3;have u:Steps P (lone (F.b.atR ⟨tmps,F.ds⟩ (.inRegion t (i::r)::k)) F.cs w) (lone { F.b.atR ⟨tmps,F.ds⟩ (.inRegion t (i::r)::k) with mode:=.panicking [{ v,recovered:=false }] } F.cs w'):=by refine .head ac ?_;rw[<-Frame.raise_atR];exact ab
   refine F.T.back _ _ _ _ u ?_;exact F.T.ext _ _ _ _ _ af (hpan d s' x4 _ _ _ v _ _ hN hm (Kg hv rfl))
 |outgrown=>exact ab.elim
def Ze8{F:Fr P}{kp dk o os H L s}(hg:Zw H o.guard=sO true){u xs}(hk:o.k=.call u xs)
  {p q f first caps es ds} (hf:ZH H true u=sO (q,.d (.fn (.func f) first caps))) (ha:Yr H true xs=sO (p,es)) (t:KA es=sO ds) (hp:p) (hq:q)
  {Ψ} (hc:Zf P f (first++ds++caps) s Ψ)
  (r:∀d s',Ψ (.ret d) s'->DO F kp dk os (putE H o.dst (.d d)) L s') (i:∀d s',Ψ (.panic d) s'->WB F H L d s'):DO F kp dk (o::os) H L s :=
 Zdx hg hk hf ha t hp hq hc.V r i
def ZrL{F:Fr P}{kp dk o os H L s}(hg:Zw H o.guard=sO true){x}(hk:o.k=.panic x)
  {p t d} (ha:ZH H true x=sO (p,.d (.iface t d))) (hp:p) (h:WB F H L (.iface t d) s):DO F kp dk (o::os) H L s:=by
 refine WN λoo g Z w tmps ai i r k af ab ad hdst hd hN m hr hkk=>?_;have hw:=Yo m ad hg;have ae:=Yu ab (by rw[hk];rfl);rw[hk]at ab;obtain⟨x',ag,ah⟩:=Zyv ab;have u:Rep g w _ _:=Yh m ah rfl ha hp F.ds;generalize hv:(Act.mk tmps F.ds).eval x'=v at u;have ac:(execOp (Act.mk tmps F.ds).eval oo).run P w=.halt (.panic v) w:=by cases u;simp[execOp,ag,hv,Instr.panic]
 refine F.T.back _ _ _ _ (.one (step_lone_go (fr':={ F.b.atR ⟨tmps,F.ds⟩ (.inRegion ai (i::r)::k) with mode:=.panicking [{ v,recovered:=false }] }) (cs':=F.cs) (w':=w) ?_)) (h g Z w v _ _ hN m u);rw[stepGR_op af hw,Oper.semAt_eq _ _ _ ae];rw[<-Frame.raise_atR];simp[stepG.apply,ac]
end
end Go.DL
namespace Go.DL
open Go
variable [Zo5]
section
variable {P:Program}
def ZbC:D->Option Value
 |.int k n=>sO (.int k n)
 |.bool b=>sO (.bool b)
 |.str l=>sO (.string ⟨l.toArray⟩)
 |.nilsl=>sO (.slice nO 0 0)
 |.nilptr=>sO (.pointer nO)
 |.ptr b o=>sO (.pointer (sO ⟨b,o,nO⟩))
 |.map b=>sO (.map (sO b))
 |.nilmap=>sO (.map nO)
 |.nilfn=>sO .nilFunc
 |.niliface=>sO .nilIface
 |_=>nO
def ZkJ:List D->Option (List Value)
 | []=>sO []
 |d::r=>match ZbC d,ZkJ r with
  |some v,sO vs=>sO (v::vs)
  |_,_=>nO
def Zvb{g w v o d}(h:Rep g w v d)(i:ZbC d=sO o):v=o:=by
 cases h<;>simp only[ZbC,ZHQ,reduceCtorEq]at i<;>(try exact i);rename_i s l h hb;rw[<-i];cases s;simp only at h;rw[<-h]
def Zln{g w}:∀{vs vs' ds},ZN (Rep g w) vs ds->ZkJ ds=sO vs'->vs=vs'
 |_,_,_,.nil,h=>by simp only[ZkJ,ZHQ]at h;exact h
 |_,_,_,.cons h1 h2,h=>by simp only[ZkJ]at h;split at h<;>simp only[ZHQ,reduceCtorEq]at h;rename_i v vs e1 e2;rw[<-h,Zvb h1 e1,Zln h2 e2]
def Zkc:D->Prop
 |.int k n=>inR k n
 |.str l=>I l<=big
 |d=>(ZbC d).isSome=true
def ZfM:List D->Prop
 | []=>True
 |d::r=>Zkc d/\ZfM r
def ZqD{d}(h:Zkc d):∃v,ZbC d=sO v/\v.one1=true/\∀g w,Rep g w v d:=by
 cases d<;>simp only[Zkc,ZbC,Option.isSome_none,ZIx]at h;exact⟨_,rfl,rfl,λg w=>.int _ _ h⟩;exact⟨_,rfl,rfl,λg w=>.bool _⟩;exact⟨_,rfl,rfl,λg w=>.str _ _ rfl h⟩;exact⟨_,rfl,rfl,λg w=>.nilsl⟩;exact⟨_,rfl,rfl,λg w=>.nilptr⟩;exact⟨_,rfl,rfl,λg w=>.ptr _ _⟩;exact⟨_,rfl,rfl,λg w=>.map _⟩;exact⟨_,rfl,rfl,λg w=>.nilmap⟩;exact⟨_,rfl,rfl,λg w=>.nilfn⟩;exact⟨_,rfl,rfl,λg w=>.niliface⟩
def ZcO:∀{ds},ZfM ds->∃i,ZkJ ds=sO i/\(∀v∈i,v.one1=true)/\∀g w,ZN (Rep g w) i ds
 | [],_=>⟨[],rfl,ψ,λg w=>.nil⟩
 |d::r,h=>by obtain⟨v,u,h2,h3⟩:=ZqD h.1;obtain⟨i,o,g2,t⟩:=ZcO h.2;exact⟨v::i,by simp[ZkJ,u,o],by simp only[ZIs,forall_eq_or_imp];exact⟨h2,g2⟩,λg w=>.cons (h3 g w) (t g w)⟩
inductive DD where
 |mark (q:Nat)
 |fn (i:FuncId) (args caps:List D)
def DD.def:DD->Deferred
 |.mark q=>{ target:=.collected q,args:=#[] }
 |.fn i args caps=>{ target:=.fn (.func i) ((ZkJ caps).getD []).toArray,args:=((ZkJ args).getD []).toArray }
def Zb1(g:G)(w:World)(m:FrameMode):Option D->Prop
 |none=>m=.returning
 |some d=>∃v,m=.panicking [{ v,recovered:=false }]/\Rep g w v d
def ZaB(P:Program)(i:FuncId)(args:List D)(pd:Option D)(s:St)(Ψ:Bool->St->Prop):Prop :=
 (∃fn,P.funcs[i]?=sO fn/\fn.body.isSome=true/\(fn.name == "runtime.NumGoroutine")=false) /\
 ∀g w (vs:List Value) (cf:Frame) (cs:List Frame),Ym g s w->ZN (Rep g w) vs args->Zb1 g w cf.mode pd ->
  ∃g' w' s' b,Ext g w g' w'/\Ym g' s' w'/\Ψ b s' /\
   Steps P (lone (Frame.enter P i vs.toArray .deferred) (cf::cs) w) (lone { cf with mode:=if b then .returning else cf.mode } cs w')
def Unw(P:Program):List DD->Option D->St->(Option D->St->Prop)->Prop
 | [],m,s,Ψ=>Ψ m s
 |.mark q::r,m,s,Ψ=>s q=sO .dfr/\Unw P r m (s.del q) Ψ
 |.fn i args caps::r,m,s,Ψ=>ZfM args/\ZfM caps/\ZaB P i (args++caps) m s λb s'=>Unw P r (if b then nO else m) s' Ψ
def Zc5{g:G}{w:World}(b:Nat)(o:Obj)(hb:hdr w b=nO)(hp:g.prot b=0)(hk:¬g.kept b):Ext g w g { w with heap:=w.heap.setIfInBounds b o } where
 size:=by simp
 prot _:=ZH9 _
 cell b' o' ho:=by by_cases h:b'=b;subst h;omega;exact Zae (by simp[Array.getElem?_setIfInBounds,Ne.symm h])
 hdr b' x hx:=by by_cases h:b'=b;subst h;rw[hb]at hx;simp at hx;rw[Zb0 (w:=w) (by simp[Array.getElem?_setIfInBounds,Ne.symm h])];exact hx
 kept b' hb':=by have h:b'≠b:=λh=>hk (h▸hb');simp[Array.getElem?_setIfInBounds,Ne.symm h]
 keptProt _ _:=rfl
 keptEq:=rfl
 os:=rfl
 output:=rfl
 tape:=rfl
def ZB.drop{g:G}{Z:Nat->Nat}{w w':World}{tmps:Array Value}{H:Env}{L:Loc}{s:St}(m:ZB g Z w tmps H L s){b:Nat}{o:JW}(hb:s b=sO o)(he:Ext g w g w')(hsz:w'.heap.size=w.heap.size)
  (u:∀c,c≠b->w'.heap[c]?=w.heap[c]?):ZB g Z w' tmps H L (s.del b):={
 st:=⟨λc x r=>by simp only[St.del]at r;by_cases i:c=b;simp[i]at r;simp only[i,if_false]at r;exact(m.st.obj c x r).mono he (u c i) rfl,
   λc x r=>by simp only[St.del]at r;by_cases i:c=b;simp[i]at r;simp only[i,if_false]at r;exact m.st.kept c x r,
   λc i=>m.st.fresh c ω,λn cs i=>(m.st.tabs n cs i).mono he⟩
 loc l cs hl:=(m.loc l cs hl).mono he (u _ (λh=>by have:=m.locSt l cs hl;rw[h,hb]at this;simp at this)) rfl
 locKept:=m.locKept
 locSt l cs hl:=by simp only[St.del];split;rfl;exact m.locSt l cs hl
 inj:=m.inj
 env t e ht:=(m.env t e ht).mono he }
def ZxR{fr cs w q ds args}(hm:fr.mode≠.run)(hd:fr.defers={ target:=.collected q,args }::ds)(hq:w.heap[q]?=sO (.deferred (sO []))) :
  step P (lone fr cs w)=.next (lone { fr with defers:=ds } cs { w with heap:=w.heap.setIfInBounds q (.deferred nO) }):=by
 have o:(Instr.takeDeferred q).run P w=.ok [] { w with heap:=w.heap.setIfInBounds q (.deferred nO) }:=by simp[Instr.takeDeferred,getObj,setObj,Sem.run,hq,Result.andThen]
 refine step_lone_go ?_;cases i:fr.mode with
 |run=>exact absurd i hm
 |returning=>simp[stepG,unwind,i,hd,Sem.runT_eq,o]
 |panicking chain=>simp[stepG,unwind,i,hd,Sem.runT_eq,o]
def Zn6{g w m o}(h:Zb1 g w m o):m≠.run:=by
 cases o with
 |none=>simp only[Zb1]at h;rw[h];simp
 |some d=>obtain⟨v,h,_⟩:=h;rw[h];simp
def Zn5{g i w w' m o}(h:Zb1 g w m o)(r:Ext g w i w'):Zb1 i w' m o:=by
 cases o with
 |none=>exact h
 |some d=>obtain⟨v,h,t⟩:=h;exact⟨v,h,t.mono r⟩
def ZkK{Ψ}:∀(dds) {m s},Unw P dds m s Ψ->∀{g Z w H L fr cs},ZB g Z w fr.tmps H L s->fr.defers=dds.map DD.def->Zb1 g w fr.mode m ->
  ∃g' w' m' s' md,Ext g w g' w'/\ZB g' Z w' fr.tmps H L s'/\Ψ m' s'/\Zb1 g' w' md m'/\Steps P (lone fr cs w) (lone { fr with defers:=[],mode:=md } cs w')
 | [],m,s,h,g,Z,w,H,L,fr,cs,M,hd,hm=>by
  refine⟨g,w,m,s,fr.mode,Ext.refl g w,M,h,hm,?_⟩;have:({ fr with defers:=[],mode:=fr.mode }:Frame)=fr:=by cases fr;simp only at hd;subst hd;rfl
  rw[this];exact Steps.refl P _
 |.mark q::r,m,s,h,g,Z,w,H,L,fr,cs,M,hd,hm=>by obtain⟨hq,hu⟩:=h;obtain⟨al,hh⟩:=M.st.obj q _ hq;have he:=Zc5 (g:=g) (w:=w) q (.deferred nO) (by simp[hdr,hh]) al (M.st.kept q _ hq);have M':=M.drop hq he ψ (λc hc=>Zar hc);obtain⟨g',w',m',s',md,a1,a2,a3,a4,a5⟩:=ZkK r hu (fr:={ fr with defers:=r.map DD.def }) (cs:=cs) M' rfl (Zn5 hm he);exact⟨g',w',m',s',md,he.trans a1,a2,a3,a4,.head (ZxR (Zn6 hm) hd hh) a5⟩
 |.fn i args caps::r,m,s,h,g,Z,w,H,L,fr,cs,M,hd,hm=>by
  obtain⟨am,an,⟨fn,ac,ad,ae⟩,hc⟩:=h;obtain⟨ab,ag,_,ah⟩:=ZcO am;obtain⟨vs,af,_,ao⟩:=ZcO an;have ai:Zb1 (Zh2 g Z L) w ({ fr with defers:=r.map DD.def }:Frame).mode m:=by
   cases m with
   |none=>exact hm
   |some d=>obtain⟨v,h1,h2⟩:=hm;exact⟨v,h1,Kg h2 rfl⟩
  obtain⟨g1,w1,s1,b,x1,x2,x3,x4⟩:=hc (Zh2 g Z L) w (ab++vs) { fr with defers:=r.map DD.def } cs M.callSt ((ah _ _).append (ao _ _)) ai;obtain⟨o,aj⟩:=M.afterCall x1 x2;have t:fn.body.isNone=false:=by cases hb:fn.body<;>simp[hb]at ad⊢
  have u:step P (lone fr cs w)=.next (lone (Frame.enter P i (ab++vs).toArray .deferred) ({ fr with defers:=r.map DD.def }::cs) w):=by refine step_defer (d:=DD.def (.fn i args caps)) (fv:=.func i) (cap:=vs.toArray) (Zn6 hm) hd (by simp[DD.def,af]) ?_;simp only[DD.def,af,ag,ZIr,invoke,callFunc,Sem.run_bind,run_program,Result.andThen_ok,ac,ae,t,ZIx,if_false,Sem.run_pure];simp
  have ak:Zb1 { g1 with kept:=g.kept } w1 (if b then .returning else fr.mode) (if b then nO else m):=by cases b;simp only[ZIx,if_false];exact Zn5 hm o;rfl
  obtain⟨g',w',m',s',md,a1,a2,a3,a4,a5⟩:=ZkK r x3 (fr:={ fr with defers:=r.map DD.def,mode:=if b then .returning else fr.mode }) (cs:=cs) aj rfl ak;exact⟨g',w',m',s',md,o.trans a1,a2,a3,a4,.head u (Steps.trans x4 a5)⟩
def Y0{P:Program}(F:Fr P)(rs:List RV)(Φ:Res->St->Prop)(dds:List DD):Prop :=
 ∃an f df cs,cf P an f=sO df/\rs=df.res/\F={ ZnT P an f df.n cs Φ with ds:=dds.map DD.def }
def St.sub_refl{s:St}:s.sub s:=λ_ _ h=>h
def Zni(H:Env)(L:Loc)(rs:List RV)(Φ:Res->St->Prop):Option D->St->Prop
 |none,s=>∃p ds d s',YP H L s rs=sO (p,ds)/\p/\(QZ ds).Le d/\s'.sub s/\Φ (.ret d) s'
 |some d,s=>∃d' s',d.Le d'/\s'.sub s/\Φ (.panic d') s'
def Zsm{an f df}(u:cf P an f=sO df){cs Φ g Z w fr H L s m dds}(hfn:fr.fn=f)(hkind:fr.kind=.normal)
  (M:ZB g Z w fr.tmps H L s) (hd:fr.defers=dds.map DD.def) (hm:Zb1 g w fr.mode m) (hu:Unw P dds m s (Zni H L df.res Φ)):(Zk5 P f cs Φ).T g w (lone fr cs w):=by
 obtain⟨g',w',m',s',md,a1,a2,a3,a4,a5⟩:=ZkK dds hu (cs:=cs) M hd hm;unfold cf at u;split at u<;>(try(simp at u;done));rename_i fn i;split at u<;>(try(simp at u;done));split at u<;>(try(simp at u;done));split at u<;>simp at u;rename_i rs d' t hd';subst u;cases m' with
 |none =>obtain⟨p,ds,d,s2,h1,h2,h3,h4,h5⟩:=a3;obtain⟨v,o,r⟩:=Zor a2 t h1 h2;exact⟨.returned v,w',_,a5,hfn,⟨a4,rfl,hkind,fn,by rw[<-i] ;exact congrArg _ hfn,o⟩,g',s2,.ret d,a1,a2.st.sub h4,h3 _ _ _ r,h5⟩
 |some d =>obtain⟨d',s2,h1,h2,h3⟩:=a3;obtain⟨v,o,r⟩:=a4;exact⟨.panicked [{ v,recovered:=false }],w',_,a5,hfn,⟨o,rfl,fn,by rw[<-i];exact congrArg _ hfn⟩,g',s2,.panic d',a1,a2.st.sub h2,⟨v,rfl,h1 _ _ _ r⟩,h3⟩
def Y0.retU{F:Fr P}{rs Φ dds}(o:Y0 F rs Φ dds){dk H L s}(h:Unw P dds nO s (Zni H L rs Φ)):ZA F (.code .ret::dk) H L s:=by
 obtain⟨an,f,⟨N,rs,b⟩,i,r,rfl,rfl⟩:=o;intro k t;cases t with
 |code hc ht =>obtain rfl:=ZwH hc;intro g Z w tmps hN m;refine(Zk5 P f i Φ).back _ _ _ _ (.one (stepR_ret rfl)) ?_;exact Zsm (m:=nO) r rfl rfl (dds:=dds) m rfl rfl h
def Y0.finU{F:Fr P}{rs Φ dds}(o:Y0 F rs Φ dds){H L s}(h:Unw P dds nO s (Zni H L rs Φ)):ZA F [] H L s:=by
 obtain⟨an,f,⟨N,rs,b⟩,i,r,rfl,rfl⟩:=o;intro k t;cases t;intro g Z w tmps hN m;refine(Zk5 P f i Φ).back _ _ _ _ (.one (stepR_end rfl)) ?_;exact Zsm (m:=nO) r rfl rfl (dds:=dds) m rfl rfl h
def Y0.panU{F:Fr P}{rs Φ dds}(i:Y0 F rs Φ dds){H L d s}(h:Unw P dds (sO d) s (Zni H L rs Φ)):WB F H L d s:=by
 obtain⟨an,f,⟨N,rs,b⟩,cs,o,rfl,rfl⟩:=i;intro g Z w v todo tmps hN m r;exact Zsm (m:=sO d) o rfl rfl (dds:=dds) m rfl ⟨v,rfl,r⟩ h
def Y0.ret{F:Fr P}{rs Φ}(hF:Y0 F rs Φ []){dk H L s p ds}(d s')(i:YP H L s rs=sO (p,ds))(o:p)(r:(QZ ds).Le d)(t:s'.sub s)(u:Φ (.ret d) s') :
  ZA F (.code .ret::dk) H L s:=hF.retU ⟨p,ds,d,s',i,o,r,t,u⟩
def Y0.fin{F:Fr P}{rs Φ}(hF:Y0 F rs Φ []){H L s p ds}(d s')(i:YP H L s rs=sO (p,ds))(o:p)(r:(QZ ds).Le d)(t:s'.sub s)(u:Φ (.ret d) s') :
  ZA F [] H L s:=hF.finU ⟨p,ds,d,s',i,o,r,t,u⟩
def Y0.pan{F:Fr P}{rs Φ}(r:Y0 F rs Φ []){H L d s}(s')(i:s'.sub s)(o:Φ (.panic d) s'):WB F H L d s:=r.panU ⟨d,s',D.Le.refl d,i,o⟩
def Zh{an f N rs b}(i:cf P an f=sO ⟨N,rs,b⟩){args s Φ}
  (h:∀F:Fr P,Y0 F rs Φ []->ZA F [.code b] (Za6 0 args) [] s):Zf P f args s Φ :=
 ZrF i λo=>h _ ⟨an,f,⟨N,rs,b⟩,o,i,rfl,rfl⟩
end
end Go.DL
namespace Go.DL
open Go
variable [Zo5]
def Zc(P:Program)(f:FuncId)(args:List D)(d:D):Prop:=∀s,Zf P f args s λr s'=>r=.ret d/\s'=s
def Ze{P an f N rs b}(hf:cf P an f=sO ⟨N,rs,b⟩){args d}
  (h:∀(F:Fr P) (s:St),(∀{dk:List QU} {H:Env} {L:Loc} {s':St} {p:Prop} {ds:List D},YP H L s' rs=sO (p,ds)->p->(QZ ds).Le d->s.sub s'->ZA F (.code .ret::dk) H L s') ->
   ZA F [.code b] (Za6 0 args) [] s):Zc P f args d :=
 λs=>Zh hf λF u=>h F s λi o r t=>u.ret d s i o r t ⟨rfl,rfl⟩
def JV{P}{F:Fr P}{kp dk o os H L s}(hg:Zw H o.guard=sO true){t xs}(hk:o.k=.call t xs)
  {p q f first caps es ds} (hf:ZH H true t=sO (q,.d (.fn (.func f) first caps))) (ha:Yr H true xs=sO (p,es)) (r:KA es=sO ds) (hp:p) (hq:q)
  {d} (hc:Zc P f (first++ds++caps) d) (h:DO F kp dk os (putE H o.dst (.d d)) L s):DO F kp dk (o::os) H L s :=
 Ze8 hg hk hf ha r hp hq (hc s) (λu s' ⟨i,h2⟩=>by simp only[Res.ret.injEq]at i;subst i;subst h2;exact h) (λu s' ⟨i,_⟩=>by simp at i)
end Go.DL
namespace Go.DL
open Go
variable [Zo5]
section
variable {P:Program}
def ZA4{F:Fr P}{kp dk os H H' L s}(h:∀g Z w tmps,ZB g Z w tmps H L s->ZB g Z w tmps H' L s)(r:DO F kp dk os H' L s) :
  DO F kp dk os H L s:=λo is k i u g Z w tmps t m=>r o is k i u g Z w tmps t (h g Z w tmps m)
def ZB.headWhen{g Z w tmps H L s dst e}(m:ZB g Z w tmps (putE H dst e) L s):ZB g Z w tmps (putE H dst (.when true e)) L s:=by
 cases dst with
 |none=>exact m
 |some t =>refine{ m with env:=λu x i=>?_ };simp only[putE,Z9]at i;by_cases h:t=u;simp only[h,if_true,ZHQ]at i;subst i;exact⟨λ_=>m.env u e (by simp[putE,Z9,h]),λh=>by simp at h⟩;simp only[h,if_false]at i;exact m.env u x (by simp[putE,Z9,h,i])
def Jv{F:Fr P}{kp dk o os H L s}(hg:Zw H o.guard=sO false){e}
  (h:DO F kp dk os (putE H o.dst (.when false e)) L s):DO F kp dk (o::os) H L s:=by
 refine WN λoo g Z w tmps ad i r k ac hck u t hd hN m hr ab=>?_;exact Zcc (P:=P) hN m ac t hd (Yo m u hg) (h ad r k hr ab)
def Zbd{F:Fr P}{kp dk o os H L s c}(t:Zw H o.guard=sO c){r xs}(hk:o.k=.call r xs)
  {p q f first caps es ds} (hf:ZH H c r=sO (q,.d (.fn (.func f) first caps))) (ha:Yr H c xs=sO (p,es)) (i:KA es=sO ds)
  {d} (hc:c=true->p/\q/\Zc P f (first++ds++caps) d) (h:DO F kp dk os (putE H o.dst (.when c (.d d))) L s):DO F kp dk (o::os) H L s:=by
 cases c;exact Jv t h;obtain⟨u,h2,h3⟩:=hc rfl;exact JV t hk hf ha i u h2 h3 (ZA4 (λg Z w tmps m=>m.headWhen) h)
def ZB.sub{g:G}{Z:Nat->Nat}{w:World}{tmps:Array Value}{H:Env}{L:Loc}{s s':St}(m:ZB g Z w tmps H L s)(i:s'.sub s):ZB g Z w tmps H L s':={
 st:=m.st.sub i
 loc:=m.loc
 locKept:=m.locKept
 locSt l cs hl:=by
  cases r:s' (Z l) with
  |none=>rfl
  |some o=>have:=i _ _ r;rw[m.locSt l cs hl]at this;simp at this
 inj:=m.inj
 env:=m.env }
def Ww{F:Fr P}{dk H L s s'}(r:s'.sub s)(h:ZA F dk H L s'):ZA F dk H L s :=
 λk o g Z w tmps i m=>h k o g Z w tmps i (m.sub r)
end
end Go.DL
namespace Go.DL
open Go
variable [Zo5]
variable {kp:Option (List Nat)}{L:Loc}{H:Env}{s:St}{w:World}{os:List DOp}{ds:List D}{B:List (Nat × Rd)}{dst:Option Nat}{tmps:Array Value}{g:G}{Φ:Res->St->Prop}{Z:Nat->Nat}{xs:List Opd}{side:Prop}{row:Nat->List D}
variable {P:Program}
def ZgH:BinOp->IntKind->IntKind->Int->Int->Option Int
 |.add,k,k2,a,b=>if k=k2 then sO (k.wrap (a+b)) else nO
 |.shl,k,_,a,b=>if 0<=b then sO (k.wrap (QQ k a b)) else nO
 |_,_,_,_,_=>nO
def Zo1{F:Fr P}{kp dk o os H L s}(hg:o.guard=nO){x y bo pl}(hk:o.k=.q (.bin bo pl) [x,y]){p k k2 a b v}(ha:Yr H true [x,y]=sO (p,[.d (.int k a),.d (.int k2 b)]))(hp:p)(hv:ZgH bo k k2 a b=sO v)(h:DO F kp dk os (putE H o.dst (.d (.int k v))) L s):DO F kp dk (o::os) H L s:=by
 refine ZrN (c:=true) (by rw[hg];rfl) (by rw[hk];rfl) (.inr ⟨rfl,rfl⟩) (λ_ oo g Z w tmps ac m=>?_) h;rw[hk]at ac;obtain⟨ys,i,ah⟩:=ZBg ac;have u:=ZcM m rfl F.ds ah ha hp;obtain⟨dst,r,ty,pos,af,gd⟩:=oo;simp only at i;have ag:∃op t x' y' yt,r=Op.binOp op t x' y' yt:=by
  cases r<;>(try(simp[cq]at i;done));case binOp=>exact⟨_,_,_,_,_,rfl⟩
  all_goals
   exfalso;revert i;simp only[cq]
   repeat' split
   all_goals simp
   all_goals (intros;simp_all)
 obtain⟨op,t,x',y',yt,rfl⟩:=ag;simp only[cq]at i;simp only[ZHQ,ZH2,Q.bin.injEq]at i;obtain⟨⟨rfl,_⟩,rfl⟩:=i;obtain⟨e1,e2,he,h1,h2⟩:=ZaE u;simp only[List.cons.injEq,and_true]at he;obtain⟨rfl,rfl⟩:=he;obtain⟨v1,i1⟩:=QG h1;obtain⟨v2,i2⟩:=QG h2;unfold ZgH at hv;split at hv;split at hv;rename_i ae;subst ae;obtain rfl:=Option.some.inj hv;refine ev ⟨.int k (k.wrap (a+b)),?_,.int _ _ ZhS⟩;rw[v1,v2];have ab:(eqGuard .add t x' y' (.int k a) (.int k b)).run P w=.ok () w:=rfl;simp only[Sem.run_bind,ab,Result.andThen_ok,binOp,ne_eq,not_true_eq_false,if_false];rfl;cases hv;split at hv;rename_i ad;obtain rfl:=Option.some.inj hv;refine ev ⟨.int k (k.wrap (QQ k a b)),?_,.int _ _ ZhS⟩;rw[v1,v2];have ab:(eqGuard .shl t x' y' (.int k a) (.int k2 b)).run P w=.ok () w:=rfl;simp only[Sem.run_bind,ab,Result.andThen_ok,binOp,Op.shift,Int.not_lt.2 ad,if_false];rfl;cases hv;cases hv
def ZaU{F:Fr P}{kp dk o os H L s}(r:o.guard=nO){x y pl}(t:o.k=.q (.bin .add pl) [x,y]){p k a b}(i:Yr H true [x,y]=sO (p,[.d (.int k a),.d (.int k b)]))(u:p)(h:DO F kp dk os (putE H o.dst (.d (.int k (k.wrap (a+b))))) L s):DO F kp dk (o::os) H L s :=
 Zo1 r t i u (by simp[ZgH]) h
end Go.DL
