/- Lemmas: DlA, DlB, DlC, DlD, DlE, DlF, DlG, DlH, DlI, DlJ, DlK, DlL, DlM, DlMa, DlN, DlO, DlP, DlQ, DlR, DlS, DlT, DlTa, DlTb, DlTc, DlU, DlV, DlW, DlWa. -/
import Derived.AtR
import Derived.Calls
import Derived.Laws.Cells
import Derived.Laws.StructEq
import Derived.ChangeKeysEq
import Derived.Laws.Tables
import Derived.Laws.Build
import Derived.Laws.BytesString
import Derived.MapKept
import Derived.Laws.CopyRow
import Derived.Great.BuildSlice
import Derived.Laws.MakeOwn
import Derived.Laws.AppendOwn
import Derived.Lib.ConvBytes
import Derived.Defers
import Derived.Orders
import Derived.Lib.AppendStr
import Derived.RangeFuncIn
import Derived.OpenShut
import Derived.WalkKit
import Derived.ProofKit
import Derived.ChangeCalls
import Derived.KernelRfl
import Derived.Shelf.Spec.SlicesGrow
import Derived.Shelf.Strings.OnBuilder
import Derived.Ground.NamesProg
import Derived.Lib.Bytealg
import Derived.Lay
import Derived.LaidOnce
import Derived.Lib.LaidTab
import Derived.Stop.LaidErr
import Derived.SevenTiedAt
import Derived.Test.YtimmfiofbjpjbaaGreatDoorProg
set_option maxHeartbeats 16000000
set_option maxRecDepth 100000
set_option linter.all false
def ω{p:Prop}(h:p:=by omega):p:=h
def φ{p:Prop}(h:p:=by trivial):p:=h
def ψ{p:Prop}(h:p:=by simp):p:=h
abbrev Go.Value.i(n:Int):Go.Value:=.int .i64 n
open List renaming length->I
open Option renaming some -> sO, none -> nO
open Inhabited renaming default -> dE
open Decidable renaming decide -> dC
open Array renaming getD_eq_getD_getElem? -> ZIh
open Bool renaming and_eq_true -> ZHG, false_eq_true -> ZH5
open List renaming append_assoc -> ZHY, getD -> ZHL, getElem?_append_left -> ZHW, getElem?_append_right -> ZIf, getElem?_eq_getElem -> ZH6, getElem?_eq_none -> ZIi, getElem?_take -> ZIb, getElem_of_mem -> ZHR, length_append -> ZHF, length_cons -> ZHN, length_take -> ZHQ, map_cons -> ZHM, map_nil -> ZH2, mem_cons -> ZIa, range -> ZHJ
open Nat renaming add_mul -> ZHU, le_refl -> ZHK, le_trans -> ZIg, mul_le_mul_right -> ZHP
open Option renaming getD_some -> ZIc, map_eq_some_iff -> ZHI, map_some -> ZH4
open Option.some renaming injEq -> ZHu
open Prod.mk renaming injEq -> ZHH
namespace Go.DL
open Go
variable {kp:Option (List Nat)}{w:World}{dst:Option Nat}{tmps:Array Value}{Z:Nat->Nat}{side:Prop}
inductive Tok where
 |none|full|tip (b:Nat)
inductive D where
 |int (k:IntKind) (n:Int)
 |bool (b:Bool)
 |str (s:List UInt8)
 |agg (cells:List D)
 |tup (vs:List D)
 |nilsl
 |sl (t:Tok) (n s:Nat) (row:Nat->List D)
 |ep (cells:List D) (off:Nat)
 |nilptr
 |ptr (b off:Nat)
 |msl (b off n cap s:Nat)
 |map (b:Nat)
 |nilmap
 |fn (f:Fn) (first caps:List D)
 |nilfn
 |iface (t:TypeId) (v:D)
 |niliface
 |stamp (n:Nat)
 |undef
 |any
abbrev D.i(n:Int):D:=.int .i64 n
instance:Inhabited D:=⟨.undef⟩
inductive SK where
 |int|str|bool
inductive KP where
 |sc (k:SK)
 |st (l:List (Nat×SK))
def Yk:SK->D->D->Option Bool
 |.int,.int k a,.int k' b=>if k=k' then sO (dC (a=b)) else nO
 |.str,.str a,.str b=>sO (dC (a=b))
 |.bool,.bool a,.bool b=>sO (dC (a=b))
 |_,_,_=>nO
def Wn(xs ys:List D):List (Nat×SK)->Option Bool
 | []=>sO true
 | (o,k)::r=>match xs[o]?,ys[o]? with
  |some x,sO y=>match Yk k x y,Wn xs ys r with
   |some b,sO c=>sO (b&&c)
   |_,_=>nO
  |_,_=>nO
def Kl:KP->D->D->Option Bool
 |.sc k,x,y=>Yk k x y
 |.st l,.agg xs,.agg ys=>if (I xs)=I l/\I ys=I l then Wn xs ys l else nO
 |_,_,_=>nO
def Q6(kp:KP)(k:D):List (D×D)->Option (Option Nat)
 | []=>sO nO
 |e::r=>match Kl kp k e.1 with
  |some true=>sO (sO 0)
  |some false=>(Q6 kp k r).map (·.map (· + 1))
  |none=>nO
def hdr(w:World)(b:Nat):Option (TypeId×Nat×Nat×Nat) :=
 match w.heap[b]? with
 |some (.cells c t fr)=>sO (t,c.size,fr.1,fr.2)
 |_=>nO
def _root_.Go.Value.one1:Value->Bool
 |.agg _|.tuple _=>false
 |_=>true
structure G where
 prot:Nat->Nat
 kept:Nat->Prop
def free(w:World)(b n:Nat):Prop:=∃t m,hdr w b=sO (t,m,0,0)/\n<=m
def ZhK(w:World):Tok->Nat->Nat->Nat->Nat->Nat->Prop
 |.none,_,_,_,_,_=>True
 |.full,_,_,n,cap,_=>cap=n
 |.tip t,b,o,_,cap,s=>b=t/\o=0/\free w b (cap*s)
def inR(k:IntKind)(n:Int):Prop:=k.min<=n/\n<=k.max
def big:Nat:=9223372036854775807
inductive Rep(g:G)(w:World):Value->D->Prop where
 |int (k:IntKind) (n:Int) (h:inR k n):Rep g w (.int k n) (.int k n)
 |bool (b:Bool):Rep g w (.bool b) (.bool b)
 |str (s:ByteArray) (l:List UInt8) (h:s.data.toList=l) (hb:I l<=big):Rep g w (.string s) (.str l)
 |agg (vs:List Value) (cells:List D) (hn:I vs=I cells) (h:∀(i:Nat) (v:Value) (d:D),vs[i]?=some v->cells[i]?=some d->Rep g w v d)
   (one:∀v∈vs,v.one1=true):Rep g w (.agg vs.toArray) (.agg cells)
 |tup (vs:List Value) (ds:List D) (hn:I vs=I ds) (h:∀(i:Nat) (v:Value) (d:D),vs[i]?=some v->ds[i]?=some d->Rep g w v d) :
   Rep g w (.tuple vs.toArray) (.tup ds)
 |nilsl:Rep g w (.slice none 0 0) .nilsl
 |sl0 (a:Option Addr) (t:Tok) (s:Nat) (row:Nat->List D) (ht:∀b,t≠.tip b):Rep g w (.slice a 0 0) (.sl t 0 s row)
 |sl (b o n cap s:Nat) (row:Nat->List D) (t:Tok) (f:Nat->Nat->Value) (hl:∀i,i<n->(row i).length=s)
   (hc:∀i j,i<n->j<s->w.cell? ⟨b,o+i*s+j,none⟩=some (f i j)) (hp:∀i j,i<n->j<s->o+i*s+j<g.prot b)
   (hr:∀(i j:Nat) (d:D),i<n->(row i)[j]?=some d->Rep g w (f i j) d) (one:∀i j,i<n->j<s->(f i j).one1=true)
   (ht:ZhK w t b o n cap s) (hcap:n<=cap) (hb:cap<=big) :
   Rep g w (.slice (some ⟨b,o,none⟩) n cap) (.sl t n s row)
 |ep (b o off:Nat) (cells:List D) (f:Nat->Value) (hc:∀i,i<I cells->w.cell? ⟨b,o+i,none⟩=some (f i)) (hp:∀i,i<I cells->o+i<g.prot b)
   (hr:∀(i:Nat) (d:D),cells[i]?=some d->Rep g w (f i) d) (one:∀i,i<I cells->(f i).one1=true):Rep g w (.pointer (some ⟨b,o+off,none⟩)) (.ep cells off)
 |nilptr:Rep g w (.pointer none) .nilptr
 |ptr (b off:Nat):Rep g w (.pointer (some ⟨b,off,none⟩)) (.ptr b off)
 |msl (b off n cap s:Nat) (h:n<=cap) (hb:cap<=big):Rep g w (.slice (some ⟨b,off,none⟩) n cap) (.msl b off n cap s)
 |mslx (a:Addr) (b off s:Nat):Rep g w (.slice (some a) 0 0) (.msl b off 0 0 s)
 |map (b:Nat):Rep g w (.map (some b)) (.map b)
 |nilmap:Rep g w (.map none) .nilmap
 |fn (f:Fn) (fs cs:List Value) (df dc:List D) (hnf:I fs=I df) (hnc:I cs=I dc)
   (hf:∀(i:Nat) (v:Value) (d:D),fs[i]?=some v->df[i]?=some d->Rep g w v d)
   (hc:∀(i:Nat) (v:Value) (d:D),cs[i]?=some v->dc[i]?=some d->Rep g w v d):Rep g w (.func f fs.toArray cs.toArray) (.fn f df dc)
 |nilfn:Rep g w .nilFunc .nilfn
 |iface (t:TypeId) (v:Value) (d:D) (h:Rep g w v d):Rep g w (.iface t v) (.iface t d)
 |niliface:Rep g w .nilIface .niliface
 |stamp (n:Nat):Rep g w (.i n) (.stamp n)
 |undef:Rep g w undef .undef
 |any (v:Value):Rep g w v .any
structure Ext(g:G)(w:World)(g':G)(w':World):Prop where
 size:w.heap.size<=w'.heap.size
 prot:∀b,g.prot b<=g'.prot b
 cell:∀b o,o<g.prot b->w'.cell? ⟨b,o,none⟩=w.cell? ⟨b,o,none⟩
 hdr:∀b x,hdr w b=some x->hdr w' b=some x
 kept:∀b,g.kept b->w'.heap[b]?=w.heap[b]?
 keptProt:∀b,g.kept b->g'.prot b=g.prot b
 keptEq:g'.kept=g.kept
 os:w'.os=w.os
 output:w'.output=w.output
 tape:w'.tape=w.tape
def Ext.refl(g w):Ext g w g w:=⟨ZHK _,λ_=>ZHK _,λ_ _ _=>rfl,λ_ _ h=>h,λ_ _=>rfl,λ_ _=>rfl,rfl,rfl,rfl,rfl⟩
def Ext.trans{g g' t:G}{w w' u:World}(h:Ext g w g' w')(i:Ext g' w' t u):Ext g w t u:={
 size:=ZIg h.size i.size
 prot b:=ZIg (h.prot b) (i.prot b)
 cell b o ho:=(i.cell b o (Nat.lt_of_lt_of_le ho (h.prot b))).trans (h.cell b o ho)
 hdr b x hx:=i.hdr b x (h.hdr b x hx)
 kept b hb:=(i.kept b (by rw[h.keptEq];exact hb)).trans (h.kept b hb)
 keptProt b hb:=(i.keptProt b (by rw[h.keptEq];exact hb)).trans (h.keptProt b hb)
 keptEq:=i.keptEq.trans h.keptEq
 os:=i.os.trans h.os
 output:=i.output.trans h.output
 tape:=i.tape.trans h.tape }
def free.mono0{w w' b n}(h:free w b n)(e:∀b x,hdr w b=sO x->hdr w' b=sO x):free w' b n:=by
 obtain⟨t,m,i,u⟩:=h;exact⟨t,m,e _ _ i,u⟩
def Rep.mono0{g g' w w' v d}(h:Rep g w v d)(ep:∀b,g.prot b<=g'.prot b)(ec:∀b o,o<g.prot b->w'.cell? ⟨b,o,nO⟩=w.cell? ⟨b,o,nO⟩)(eh:∀b x,hdr w b=sO x->hdr w' b=sO x):Rep g' w' v d:=by
 induction h with
 |int k n h=>exact .int k n h
 |bool b=>exact .bool b
 |str s l h hb=>exact .str s l h hb
 |agg vs cells hn _ one ih=>exact .agg vs cells hn ih one
 |tup vs ds hn _ ih=>exact .tup vs ds hn ih
 |nilsl=>exact .nilsl
 |sl0 a t s row ht=>exact .sl0 a t s row ht
 |sl b o n cap s row t f hl hc hp _ one ht hcap hb ih =>
  refine .sl b o n cap s row t f hl (λi j u hj=>?_) (λi j u hj=>Nat.lt_of_lt_of_le (hp i j u hj) (ep b)) ih one ?_ hcap hb;rw[ec _ _ (hp i j u hj)];exact hc i j u hj;cases t with
  |none=>trivial
  |full=>exact ht
  |tip t=>exact⟨ht.1,ht.2.1,ht.2.2.mono0 eh⟩
 |ep b o off cells f hc hp _ one ih =>exact .ep b o off cells f (λi u=>by rw[ec _ _ (hp i u)];exact hc i u) (λi u=>Nat.lt_of_lt_of_le (hp i u) (ep b)) ih one
 |nilptr=>exact .nilptr
 |ptr b off=>exact .ptr b off
 |msl b off n cap s h hb=>exact .msl b off n cap s h hb
 |mslx a b off s=>exact .mslx a b off s
 |map b=>exact .map b
 |nilmap=>exact .nilmap
 |fn f fs cs df dc hnf hnc _ _ ihf ihc=>exact .fn f fs cs df dc hnf hnc ihf ihc
 |nilfn=>exact .nilfn
 |iface t v d _ ih=>exact .iface t v d ih
 |niliface=>exact .niliface
 |stamp n=>exact .stamp n
 |undef=>exact .undef
 |any v=>exact .any v
def Rep.mono{g i w w' v d}(h:Rep g w v d)(e:Ext g w i w'):Rep i w' v d:=h.mono0 e.prot e.cell e.hdr
inductive E where
 |d (v:D)
 |loc (l off:Nat)
 |when (c:Bool) (e:E)
abbrev Env:=List (Nat×E)
abbrev Loc:=List (Nat×List D)
def ZK:Env->Nat->Option E
 | [],_=>nO
 | (k,e)::r,t=>if k=t then sO e else ZK r t
def Zg:Loc->Nat->Option (List D)
 | [],_=>nO
 | (k,e)::r,t=>if k=t then sO e else Zg r t
def ZJ(g:G)(Z:Nat->Nat)(w:World)(L:Loc):Value->E->Prop
 |v,.d x=>Rep g w v x
 |v,.loc l off=>(∃cs,Zg L l=sO cs)/\v=.pointer (sO ⟨Z l,off,nO⟩)
 |v,.when c e=>(c=true->ZJ g Z w L v e)/\(c=false->v=undef)
def ZJ.mono{g i Z w w' L v e}(h:ZJ g Z w L v e)(x:Ext g w i w'):ZJ i Z w' L v e:=by
 induction e with
 |d d=>exact Rep.mono h x
 |loc l off=>exact h
 |when c e ih=>exact⟨λt=>ih (h.1 t),h.2⟩
structure ZbT where
 fn:FuncId
 params:List Nat
 assign:Code
 body:Code
 defers:Nat
 H:Env
 N:Nat
inductive LSt where
 |ready|busy
 |done (j:Code)
inductive QL where
 |cells (ds:List D)
 |map (es:List (D×D))
 |tip (k:Nat)
 |mapE (kp:KP) (es:List (D×D)) (k:D) (n:Nat)
 |loop (r:ZbT) (st:LSt)
 |dfr
abbrev St:=Nat->Option QL
def St.upd(s:St)(b:Nat)(o:QL):St:=λx=>if x=b then sO o else s x
def St.del(s:St)(b:Nat):St:=λx=>if x=b then nO else s x
structure YI(g:G)(w:World)(b:Nat)(ds:List D):Prop where
 prot:g.prot b=0
 ex:∃(vs:Array Value) (T:TypeId),w.heap[b]?=some (.cells vs T (0,0))/\vs.size=I ds /\
  (∀(i:Nat) (v:Value) (d:D),vs[i]?=some v->ds[i]?=some d->Rep g w v d)/\∀v∈vs,v.one1=true
def WI(g:G)(w:World)(b:Nat):QL->Prop
  |.cells ds=>YI g w b ds
  |.map es=>g.prot b=0/\∃(en:Array MapEntry) (clock:Nat),w.heap[b]?=sO (.map en clock)/\en.size=I es /\
      (∀(i:Nat) (e:MapEntry) (d:D×D),en[i]?=sO e->es[i]?=sO d->Rep g w e.key d.1) /\
      (∀(i:Nat) (e:MapEntry) (d:D×D),en[i]?=sO e->es[i]?=sO d->Rep g w e.val d.2) /\
      (∀(i j:Nat) (e e':MapEntry),en[i]?=sO e->en[j]?=sO e'->e.born=e'.born->i=j)/\∀(i:Nat) (e:MapEntry),en[i]?=sO e->e.born<clock
  |.tip k=>g.prot b=k/\∃(vs:Array Value) (T:TypeId),w.heap[b]?=sO (.cells vs T (0,0))/\k<=vs.size
  |.mapE kp es k n=>g.prot b=0/\∃io,Q6 kp k es=sO io/\∃(en:Array MapEntry) (clock:Nat),w.heap[b]?=sO (.map en clock)/\en.size=(match io with
        |none=>I es+1
        |some _=>I es) /\
      (∀(i:Nat) (e:MapEntry) (d:D×D),i≠io.getD (I es)->en[i]?=sO e->es[i]?=sO d->Rep g w e.key d.1) /\
      (∀(i:Nat) (e:MapEntry) (d:D×D),i≠io.getD (I es)->en[i]?=sO e->es[i]?=sO d->Rep g w e.val d.2) /\
      (∀e,en[io.getD (I es)]?=sO e->Rep g w e.key k/\e.born=n) /\
      (∀(i j:Nat) (e e':MapEntry),en[i]?=sO e->en[j]?=sO e'->e.born=e'.born->i=j)/\∀(i:Nat) (e:MapEntry),en[i]?=sO e->e.born<clock
  |.loop r st=>g.prot b=0/\∃l:Go.Loop,w.heap[b]?=sO (.loop l)/\l.fn=r.fn/\l.params.toList=r.params/\l.assign=r.assign/\l.body=r.body/\l.defers=r.defers/\r.N<=l.tmps.size /\
      (∀t e,ZK r.H t=sO e->ZJ g (λ_=>0) w [] (l.tmps.getD t undef) e) /\
      (match st with
       |.ready=>l.state=.ready/\l.pending=nO
       |.busy=>l.state=.busy
       |.done j=>l.state=.done/\l.pending=sO j)
  |.dfr=>g.prot b=0/\w.heap[b]?=sO (.deferred (sO []))
class Zsc where
 tab:Nat->Option (List D)
variable [Zsc]
structure Ya(g:G)(s:St)(w:World):Prop where
 obj:∀b o,s b=some o->WI g w b o
 kept:∀b o,s b=some o->¬g.kept b
 fresh:∀b,w.heap.size<=b->g.prot b=0/\¬g.kept b
 tabs:∀n cs,Zsc.tab n=some cs->Rep g w (.pointer (some ⟨n,0,none⟩)) (.ep cs 0)
def YI.lt{g w b ds}(h:YI g w b ds):b<w.heap.size:=by
 obtain⟨_,_,h,_⟩:=h.ex;grind
def WI.lt{g w b o}(h:WI g w b o):b<w.heap.size:=by
 cases o with
 |cells ds=>exact YI.lt h
 |map es=>obtain⟨_,_,_,h,_⟩:=h;exact(Array.getElem?_eq_some_iff.1 h).1
 |tip k=>obtain⟨_,_,_,h,_⟩:=h;exact(Array.getElem?_eq_some_iff.1 h).1
 |mapE kp es k n=>obtain⟨_,_,_,_,_,h,_⟩:=h;exact(Array.getElem?_eq_some_iff.1 h).1
 |loop r st=>obtain⟨_,_,h,_⟩:=h;exact(Array.getElem?_eq_some_iff.1 h).1
 |dfr=>exact(Array.getElem?_eq_some_iff.1 h.2).1
def YI.mono{g u w w' b ds}(h:YI g w b ds)(e:Ext g w u w')(hb:w'.heap[b]?=w.heap[b]?)(hp:u.prot b=g.prot b):
  YI u w' b ds:=by
 obtain⟨t,vs,T,h1,h2,h4,h5⟩:=h;exact⟨hp.trans t,vs,T,hb.trans h1,h2,λi v d hv hd=>(h4 i v d hv hd).mono e,h5⟩
def WI.mono{g g' w w' b o}(h:WI g w b o)(e:Ext g w g' w')(hb:w'.heap[b]?=w.heap[b]?)(hp:g'.prot b=g.prot b):
  WI g' w' b o:=by
 cases o with
 |cells ds=>exact YI.mono h e hb hp
 |map es =>obtain⟨ab,en,u,h1,h2,h3,h4,h5,h6⟩:=h;exact⟨hp.trans ab,en,u,hb.trans h1,h2,λi x d hv hd=>(h3 i x d hv hd).mono e,λi x d hv hd=>(h4 i x d hv hd).mono e,h5,h6⟩
 |tip k =>obtain⟨ab,vs,T,h1,h2⟩:=h;exact⟨hp.trans ab,vs,T,hb.trans h1,h2⟩
 |mapE kp es k n =>obtain⟨ab,io,h0,en,u,h1,h2,h3,h4,h5,h6,h7⟩:=h;exact⟨hp.trans ab,io,h0,en,u,hb.trans h1,h2,λi x d hi hv hd=>(h3 i x d hi hv hd).mono e,λi x d hi hv hd=>(h4 i x d hi hv hd).mono e,λx hx=>⟨(h5 x hx).1.mono e,(h5 x hx).2⟩,h6,h7⟩
 |loop r st =>obtain⟨ab,l,h1,h2,h3,h4,h5,h6,h7,h8,h9⟩:=h;exact⟨hp.trans ab,l,hb.trans h1,h2,h3,h4,h5,h6,h7,λt x he=>(h8 t x he).mono e,h9⟩
 |dfr=>exact⟨hp.trans h.1,hb.trans h.2⟩
structure Zu(g:G)(Z:Nat->Nat)(w:World)(tmps:Array Value)(H:Env)(L:Loc)(s:St):Prop where
 st:Ya g s w
 loc:∀l cs,Zg L l=some cs->YI g w (Z l) cs
 locKept:∀l cs,Zg L l=some cs->¬g.kept (Z l)
 locSt:∀l cs,Zg L l=some cs->s (Z l)=none
 inj:∀l l' cs cs',Zg L l=some cs->Zg L l'=some cs'->Z l=Z l'->l=l'
 env:∀t e,ZK H t=some e->ZJ g Z w L (tmps.getD t undef) e
def ZJ.locs{g Z Z' w L L' v e}(h:ZJ g Z w L v e)(hL:∀l i,Zg L l=sO i->(∃cs',Zg L' l=sO cs')/\Z' l=Z l):ZJ g Z' w L' v e:=by
 induction e with
 |d d=>exact h
 |loc l off=>obtain⟨⟨i,t⟩,hv⟩:=h;obtain⟨u,h2⟩:=hL l i t;exact⟨u,by grind⟩
 |when c e ih=>exact⟨λt=>ih (h.1 t),h.2⟩
def ZzC{a:Array Value}{t u v}(h:t<a.size):(a.setIfInBounds t v).getD u undef=if t=u then v else a.getD u undef:=by
 simp;grind
def Zu.put{g Z w tmps H L s}(m:Zu g Z w tmps H L s){t v e}(ht:t<tmps.size)(h:ZJ g Z w L v e):Zu g Z w (tmps.setIfInBounds t v) ((t,e)::H) L s :=
 { m with
  env:=λu x hx=>by
   rw[ZzC ht];simp[ZK]at hx;by_cases i:t=u;grind;simp only[i]at hx⊢;exact m.env u x hx }
structure JZ(g:G)(w:World)(g':G)(w':World):Prop where
 size:w.heap.size<=w'.heap.size
 old:∀b,b<w.heap.size->w'.heap[b]?=w.heap[b]?
 prot:∀b,b<w.heap.size->g'.prot b=g.prot b
 fresh:∀b,w'.heap.size<=b->g'.prot b=0
 kept:g'.kept=g.kept
 os:w'.os=w.os
 output:w'.output=w.output
 tape:w'.tape=w.tape
def QO{w w':World}{b o}(h:w'.heap[b]?=w.heap[b]?):w'.cell? ⟨b,o,nO⟩=w.cell? ⟨b,o,nO⟩:=by
 unfold World.cell?;simp[h]
def Zah{w w' b}(h:w'.heap[b]?=w.heap[b]?):hdr w' b=hdr w b:=by grind [hdr]
def ZCz{w b x}(h:hdr w b=sO x):b<w.heap.size:=by grind [hdr]
def JZ.ext{g u:G}{w w':World}(h:JZ g w u w')(t:∀b,w.heap.size<=b->g.prot b=0/\¬g.kept b):Ext g w u w':={
 size:=h.size
 prot b:=by rcases Nat.lt_or_ge b w.heap.size with hb|hb;rw[h.prot b hb];exact ZHK _;rw[(t b hb).1];exact Nat.zero_le _
 cell b o ho:=by rcases Nat.lt_or_ge b w.heap.size with hb|hb;exact QO (h.old b hb);simp_all
 hdr b x hx:=by rw[Zah (h.old b (ZCz hx))];exact hx
 kept b hb:=by rcases Nat.lt_or_ge b w.heap.size with i |i;exact h.old b i;exact absurd hb (t b i).2
 keptProt b hb:=by rcases Nat.lt_or_ge b w.heap.size with i |i;exact h.prot b i;exact absurd hb (t b i).2
 keptEq:=h.kept
 os:=h.os
 output:=h.output
 tape:=h.tape }
def Ya.grow{g i:G}{w w':World}{s:St}(m:Ya g s w)(h:JZ g w i w'):Ya i s w':={
 obj b o ho:=(m.obj b o ho).mono (h.ext m.fresh) (h.old b (m.obj b o ho).lt) (h.prot b (m.obj b o ho).lt)
 kept b o ho:=by rw[h.kept];exact m.kept b o ho
 fresh b hb:=⟨h.fresh b hb,by rw[h.kept];exact(m.fresh b (ZIg h.size hb)).2⟩
 tabs n cs hc:=(m.tabs n cs hc).mono (h.ext m.fresh) }
def Zu.grow{g i:G}{w w':World}{H:Env}{L:Loc}{s:St}(m:Zu g Z w tmps H L s)(h:JZ g w i w'):
  Zu i Z w' tmps H L s:={
 st:=m.st.grow h
 loc l cs hl:=(m.loc l cs hl).mono (h.ext m.st.fresh) (h.old _ (m.loc l cs hl).lt) (h.prot _ (m.loc l cs hl).lt)
 locKept l cs hl:=by rw[h.kept];exact m.locKept l cs hl
 locSt:=m.locSt
 inj:=m.inj
 env t e he:=(m.env t e he).mono (h.ext m.st.fresh) }
end Go.DL
namespace Go.DL
open Go
variable [Zsc]
variable {kp:Option (List Nat)}{L:Loc}{H:Env}{s:St}{w:World}{ds:List D}{dst:Option Nat}{tmps:Array Value}{g:G}{Z:Nat->Nat}{side:Prop}{row:Nat->List D}
inductive Opd where
 |tmp (t:Nat)
 |cst (d:D)
def ZnG:Value->Option D
 |.int k n=>if k.min<=n/\n<=k.max then sO (.int k n) else nO
 |.bool b=>sO (.bool b)
 |.string s=>if (I s.data.toList)<=big then sO (.str s.data.toList) else nO
 |.pointer nO=>sO .nilptr
 |.slice nO 0 0=>sO .nilsl
 |.map nO=>sO .nilmap
 |.nilFunc=>sO .nilfn
 |.nilIface=>sO .niliface
 |_=>nO
def Zbh:List Value->Option (List D)
 | []=>sO []
 |v::vs=>match ZnG v,Zbh vs with
  |some d,sO ds=>sO (d::ds)
  |_,_=>nO
def ZnH:Value->Option D
 |.agg cs=>(Zbh cs.toList).map .agg
 |v=>ZnG v
def ZW:Operand->Option Opd
 |.tmp t=>sO (.tmp t)
 |.const v=>(ZnH v).map .cst
 |.func f=>sO (.cst (.fn (.func f) [] []))
 |.global n=>sO (.cst (match Zsc.tab n with
  |some cs=>.ep cs 0
  |none=>.any))
def Zcg:List Operand->Option (List Opd)
 | []=>sO []
 |x::xs=>match ZW x,Zcg xs with
  |some y,sO ys=>sO (y::ys)
  |_,_=>nO
inductive ZeR where
 |bool|sl|map|fn|ifc|ptr
 |cells (l:List (Nat×SK))
inductive Cv where
 |int (k:IntKind)|str|i2s|b2s
inductive Q where
 |mv|nilck|load1|loadN (n:Nat)
 |bin (op:BinOp) (p:Option ZeR)
 |not|neg|xorm
 |conv (c:Cv)
 |faddr (off:Nat)
 |fld1 (off:Nat)|fldN (off n:Nat)
 |iaddr (s:Nat)|iaddrA (m s:Nat)
 |idxA (m s:Nat) (one:Bool)
 |sliceA (m s:Nat) (lo hi mx:Bool)
 |idxS
 |lenS|lenL|lenA (n:Nat)
 |ext (k:Nat)
 |build (zero:List D) (parts:List (Nat×Nat))
 |mkfn (f:Fn) (first:Nat)
 |mkif (t:TypeId)
 |sliceS (lo hi:Bool)
 |slice (s:Nat) (lo hi mx:Bool)
 |min|max
 |tassert (t:TypeId) (ok:Bool) (zero:D)
 |lookup (kp:KP) (zero:D) (ok:Bool)
 |lenM
def cellsOf:D->List D
 |.agg cs=>cs
 |d=>[d]
def W7:D->Bool
 |.tup _|.undef|.any=>false
 |_=>true
def QV:D->Bool
 |.tup _|.undef|.agg _|.any=>false
 |_=>true
def Qz(kp:KP)(k:D):Bool:=(Kl kp k k).isSome
def Zbs(kp:KP)(k:D):List (D×D)->Option (Option D)
 | []=>sO nO
 |e::r=>match Kl kp k e.1 with
  |some true=>sO (sO e.2)
  |some false=>Zbs kp k r
  |none=>nO
def JP(kp:KP)(k v:D):List (D×D)->Option (List (D×D))
 | []=>sO [(k,v)]
 |e::r=>match Kl kp k e.1 with
  |some true=>sO ((k,v)::r)
  |some false=>(JP kp k v r).map (e::·)
  |none=>nO
def Zgw(kp:KP)(k:D):List (D×D)->Option (List (D×D))
 | []=>sO []
 |e::r=>match Kl kp k e.1 with
  |some true=>sO r
  |some false=>(Zgw kp k r).map (e::·)
  |none=>nO
def Wh(z:D)(ok:Bool):Option D->D
 |some v=>if ok then .tup [v,.bool true] else v
 |none=>if ok then .tup [z,.bool false] else z
def YG:ZeR->D->D->Option (Prop×Bool)
 |.bool,.bool a,.bool b=>sO (True,dC (a=b))
 |.sl,.nilsl,.nilsl=>sO (True,true)
 |.sl,.sl _ n _ _,.nilsl=>sO (0<n,false)
 |.map,.nilmap,.nilmap=>sO (True,true)
 |.map,.map _,.nilmap=>sO (True,false)
 |.sl,.msl _ _ _ _ _,.nilsl=>sO (True,false)
 |.fn,.nilfn,.nilfn=>sO (True,true)
 |.fn,.fn _ _ _,.nilfn=>sO (True,false)
 |.ifc,.niliface,.niliface=>sO (True,true)
 |.ifc,.iface _ _,.niliface=>sO (True,false)
 |.ptr,.nilptr,.nilptr=>sO (True,true)
 |.ptr,.ptr _ _,.nilptr=>sO (True,false)
 |.ptr,.ep _ _,.nilptr=>sO (True,false)
 |.cells l,.agg xs,.agg ys=>(Wn xs ys l).map (True,·)
 |_,_,_=>nO
def Qf(op:BinOp)(k:IntKind)(x y:Int):Int :=
 let a:=BitVec.ofInt k.bits x;let b:=BitVec.ofInt k.bits y;let r:BitVec k.bits:=match op with
  |.and=>a &&& b
  |.or=>a |||b
  |.xor=>a ^^^ b
  |_=>a &&& ~~~b
 k.wrap r.toNat
def J8(k:IntKind)(x y:Int):Int:=x*2 ^ (Nat.min y.toNat k.bits)
def QE(k:IntKind)(x y:Int):Int:=x.fdiv (2 ^ (Nat.min y.toNat k.bits))
def Q5(op:BinOp)(k:IntKind)(a b:Int):Option (Prop×D) :=
 match op with
 |.add=>sO (inR k (a+b),.int k (a+b))
 |.sub=>sO (inR k (a-b),.int k (a-b))
 |.mul=>sO (inR k (a*b),.int k (a*b))
 |.quo=>sO (b≠0/\inR k (a.tdiv b),.int k (a.tdiv b))
 |.rem=>sO (b≠0/\inR k (a.tmod b),.int k (a.tmod b))
 |.and|.or|.xor|.andNot=>sO (True,.int k (Qf op k a b))
 |.eql=>sO (True,.bool (dC (a=b)))
 |.neq=>sO (True,.bool (!dC (a=b)))
 |.lss=>sO (True,.bool (dC (a<b)))
 |.leq=>sO (True,.bool (dC (a<=b)))
 |.gtr=>sO (True,.bool (dC (b<a)))
 |.geq=>sO (True,.bool (dC (b<=a)))
 |.shl|.shr=>nO
def ZdW(op:BinOp)(a b:List UInt8):Option (Prop×D) :=
 match op with
 |.add=>sO (I a+I b<=big,.str (a++b))
 |.eql=>sO (True,.bool (dC (a=b)))
 |.neq=>sO (True,.bool (!dC (a=b)))
 |.lss=>sO (True,.bool (Op.bytesLess a b))
 |.leq=>sO (True,.bool (Op.bytesLess a b ||decide (a=b)))
 |.gtr=>sO (True,.bool !(Op.bytesLess a b ||decide (a=b)))
 |.geq=>sO (True,.bool (!Op.bytesLess a b))
 |_=>nO
def eqO(op:BinOp)(p:Option ZeR)(x y:D):Option (Prop×D) :=
 match op,p with
 |.eql,sO p=>(YG p x y).map λr=>(r.1,.bool r.2)
 |.neq,sO p=>(YG p x y).map λr=>(r.1,.bool (!r.2))
 |_,_=>nO
def Zal(op:BinOp)(p:Option ZeR):D->D->Option (Prop×D)
 |.int k a,.int k' b =>
  match op with
  |.shl=>sO (0<=b/\inR k (J8 k a b),.int k (J8 k a b))
  |.shr=>sO (0<=b/\inR k (QE k a b),.int k (QE k a b))
  |_=>if k=k' then Q5 op k a b else nO
 |.str a,.str b=>ZdW op a b
 |x,y=>eqO op p x y
def part(cs:List D)(o n:Nat):List D:=(cs.drop o).take n
def Z1(s:St)(b:Nat):Option (List D) :=
 match s b with
 |some (.cells cs)=>sO cs
 |_=>nO
def KT(s:St)(b:Nat):Option (List (D×D)) :=
 match s b with
 |some (.map es)=>sO es
 |_=>nO
def Wm(L:Loc)(s:St):E->Option D
 |.d (.ep cs o)=>cs[o]?
 |.d (.ptr b o)=>match Z1 s b with
  |some cs=>cs[o]?
  |none=>nO
 |.loc l o=>match Zg L l with
  |some cs=>cs[o]?
  |none=>nO
 |_=>nO
def Kh(L:Loc)(s:St)(n:Nat):E->Option (Prop×List D)
 |.d (.ep cs o)=>sO (o+n<=I cs,part cs o n)
 |.d (.ptr b o)=>match Z1 s b with
  |some cs=>sO (o+n<=I cs,part cs o n)
  |none=>nO
 |.loc l o=>match Zg L l with
  |some cs=>sO (o+n<=I cs,part cs o n)
  |none=>nO
 |_=>nO
def Zx(cs:List D)(o:Nat)(vs:List D):List D:=cs.take o++vs++cs.drop (o+I vs)
def Zbr(cells:List D):List (Nat×Nat)->List D->Option (List D)
 | [],[]=>sO cells
 | (o,n)::ps,d::ds=>if W7 d=true/\(cellsOf d).length=n/\o+n<=I cells then Zbr (Zx cells o (cellsOf d)) ps ds else nO
 |_,_=>nO
def ZaV:List D->UInt8
 | [.int _ n]=>UInt8.ofNat n.toNat
 |_=>0
def ZgF(r:List D):Prop:=∃n:Int,r=[.int .u8 n]
def Ka:List E->Option (List D)
 | []=>sO []
 |.d x::r=>(Ka r).map (x::·)
 |_::_=>nO
def Zby(t:Tok)(n:Nat)(l h:Int):Option Int->Tok
 |some m=>if m=h then .full else .none
 |none=>if h=n then (match t with
  |.full=>.full
  |.tip b=>if l=0 then .tip b else .none
  |.none=>.none) else .none
def ZaU(s:Nat)(lo hi mx:Option Int):D->Option (Prop×D)
 |.sl t n s' row =>
  if s'=s then
   let h:=hi.getD n;let l:=lo.getD 0
   sO (0<=l/\l<=h/\h<=n/\(∀m∈mx,h<=m/\m<=n),
    .sl (Zby t n l h mx)
     (h-l).toNat s (λi=>row (l.toNat+i)))
  else nO
 |.nilsl=>sO (lo.getD 0=0/\hi.getD 0=0/\mx.getD 0=0,.nilsl)
 |.msl b o n cap s' =>
  if s'=s then
   let h:=hi.getD n;let l:=lo.getD 0;let m:=mx.getD cap
   sO (0<=l/\l<=h/\h<=m/\m<=cap,.msl b (if m=l then o else o+l.toNat*s) (h-l).toNat (m-l).toNat s)
  else nO
 |_=>nO
def Wz:List Bool->List E->Option (List (Option Int))
 | [],[]=>sO []
 |true::bs,.d (.int _ n)::r=>(Wz bs r).map (sO n::·)
 |false::bs,r=>(Wz bs r).map (nO::·)
 |_,_=>nO
def qv(L:Loc)(s:St):Q->List E->Option (Prop×E)
 |.mv,[e]=>sO (True,e)
 |.nilck,[.loc l o]=>sO (True,.loc l o)
 |.nilck,[.d (.ep cs o)]=>sO (True,.d (.ep cs o))
 |.nilck,[.d (.ptr b o)]=>sO (True,.d (.ptr b o))
 |.nilck,[.d (.fn f x y)]=>match f with
  |.func g=>sO (True,.d (.fn (.func g) x y))
  |.yield l=>sO (True,.d (.fn (.yield l) x y))
  |_=>nO
 |.load1,[a]=>(Wm L s a).map λd=>(True,.d d)
 |.loadN n,[a]=>(Kh L s n a).map λr=>(r.1,.d (.agg r.2))
 |.bin op p,[.d x,.d y]=>(Zal op p x y).map λr=>(r.1,.d r.2)
 |.not,[.d (.bool b)]=>sO (True,.d (.bool !b))
 |.neg,[.d (.int k n)]=>sO (inR k (-n),.d (.int k (-n)))
 |.xorm,[.d (.int k n)]=>sO (True,.d (.int k (Qf .xor k (if k.signed then -1 else k.max) n)))
 |.conv (.int k),[.d (.int k' n)]=>if k=k' then sO (True,.d (.int k n)) else sO (True,.d (.int k (k.wrap n)))
 |.conv .str,[.d (.str s)]=>sO (True,.d (.str s))
 |.conv .i2s,[.d (.int _ n)]=>sO ((Utf8.encode n).data.toList.length<=big,.d (.str (Utf8.encode n).data.toList))
 |.conv .b2s,[.d .nilsl]=>sO (True,.d (.str []))
 |.conv .b2s,[.d (.sl _ n s row)]=>if s=1 then sO (∀i,i<n->ZgF (row i),.d (.str ((ZHJ n).map λi=>ZaV (row i)))) else nO
 |.conv .b2s,[.d (.msl b o n _ z)]=>match Z1 s b with
  |some cs=>if z=1 then sO (o+n<=I cs/\∀i,i<n->ZgF (part cs (o+i) 1),.d (.str ((ZHJ n).map λi=>ZaV (part cs (o+i) 1)))) else nO
  |none=>nO
 |.faddr off,[.d (.ep cs o)]=>sO (True,.d (.ep cs (o+off)))
 |.faddr off,[.d (.ptr b o)]=>sO (True,.d (.ptr b (o+off)))
 |.faddr off,[.loc l o]=>sO (True,.loc l (o+off))
 |.fld1 off,[.d (.agg cs)]=>(cs[off]?).map λd=>(True,.d d)
 |.fldN off n,[.d (.agg cs)]=>sO (off+n<=I cs,.d (.agg (part cs off n)))
 |.iaddr z,[.d (.sl _ n z' row),.d (.int _ i)]=>if z'=z then sO (0<=i/\i<n,.d (.ep (row i.toNat) 0)) else nO
 |.iaddr z,[.d (.msl b o n _ z'),.d (.int _ i)]=>if z'=z then sO (0<=i/\i<n,.d (.ptr b (o+i.toNat*z))) else nO
 |.iaddrA m z,[.d (.ptr b o),.d (.int _ i)]=>sO (0<=i/\i<m,.d (.ptr b (o+i.toNat*z)))
 |.iaddrA m s,[.loc l o,.d (.int _ i)]=>sO (0<=i/\i<m,.loc l (o+i.toNat*s))
 |.iaddrA m s,[.d (.ep cs o),.d (.int _ i)]=>sO (0<=i/\i<m,.d (.ep cs (o+i.toNat*s)))
 |.idxA m z true,[.d (.agg cs),.d (.int _ i)]=>(cs[i.toNat*z]?).map λd=>(0<=i/\i<m,.d d)
 |.idxA m z false,[.d (.agg cs),.d (.int _ i)]=>sO (0<=i/\i<m/\i.toNat*z+z<=I cs,.d (.agg (part cs (i.toNat*z) z)))
 |.sliceA m z lo hi mx,.d (.ptr b o)::r=>match Wz [lo,hi,mx] r with
  |some [l,h,x]=>sO (0<=l.getD 0/\l.getD 0<=h.getD m/\h.getD m<=x.getD m/\x.getD m<=m/\m<=big,
    .d (.msl b (if x.getD m=l.getD 0 then o else o+(l.getD 0).toNat*z) (h.getD m-l.getD 0).toNat (x.getD m-l.getD 0).toNat z))
  |_=>nO
 |.idxS,[.d (.str s),.d (.int _ i)]=>sO (0<=i/\i<I s,.d (.int .u8 ((s.getD i.toNat 0).toNat:Int)))
 |.lenS,[.d (.str s)]=>sO (True,.d (.i (I s)))
 |.lenL,[.d (.sl _ n _ _)]=>sO (True,.d (.i n))
 |.lenL,[.d (.msl _ _ n _ _)]=>sO (True,.d (.i n))
 |.lenL,[.d .nilsl]=>sO (True,.d (.i 0))
 |.lenA n,[_]=>sO (inR .i64 n,.d (.i n))
 |.ext k,[.d (.tup vs)]=>(vs[k]?).map λd=>(True,.d d)
 |.build zero parts,es=>match Ka es with
  |some ds=>(Zbr zero parts ds).map λcs=>(True,.d (.agg cs))
  |none=>nO
 |.mkfn f k,es=>(Ka es).map λds=>(True,.d (.fn f (ds.take k) (ds.drop k)))
 |.mkif t,[.d x]=>sO (True,.d (.iface t x))
 |.sliceS lo hi,.d (.str s)::r=>match Wz [lo,hi,false] r with
  |some [l,h,_]=>sO (0<=l.getD 0/\l.getD 0<=h.getD (I s)/\h.getD (I s)<=I s,
    .d (.str ((s.drop (l.getD 0).toNat).take ((h.getD (I s)).toNat-(l.getD 0).toNat))))
  |_=>nO
 |.slice s lo hi mx,.d x::r=>match Wz [lo,hi,mx] r with
  |some [l,h,m]=>(ZaU s l h m x).map λr=>(r.1,.d r.2)
  |_=>nO
 |.min,[.d (.int k a),.d (.int k' b)]=>if k=k' then sO (True,.d (.int k (Min.min a b))) else nO
 |.max,[.d (.int k a),.d (.int k' b)]=>if k=k' then sO (True,.d (.int k (Max.max a b))) else nO
 |.tassert t true _,[.d (.iface t' v)]=>if t'=t then sO (True,.d (.tup [v,.bool true])) else nO
 |.lookup kp z ok,[.d (.map b),.d k]=>match KT s b with
  |some es=>(Zbs kp k es).map λr=>(Qz kp k=true,.d (Wh z ok r))
  |none=>nO
 |.lookup kp z ok,[.d .nilmap,.d k]=>sO (Qz kp k=true,.d (Wh z ok nO))
 |.lenM,[.d (.map b)]=>match KT s b with
  |some es=>sO (I es<=big,.d (.i (I es)))
  |none=>nO
 |.lenM,[.d .nilmap]=>sO (True,.d (.i 0))
 |.tassert _ true zero,[.d .niliface]=>sO (True,.d (.tup [zero,.bool false]))
 |.tassert t false _,[.d (.iface t' v)]=>if t'=t then sO (True,.d v) else nO
 |_,_=>nO
inductive K where
 |q (q:Q) (args:List Opd)
 |pick (c a b:Opd)
 |alloc (zero:List D)
 |box (x:Opd)
 |bsl (len s:Nat) (zero:List D) (idx:List Nat) (parts:List Opd)
 |s2b (x:Opd)
 |store1 (a v:Opd)
 |storeN (n:Nat) (a v:Opd)
 |call (f:Opd) (args:List Opd)
 |append (elem:TypeId) (s bytes:Nat) (zero:List D) (x y:Opd)
 |mkmap
 |mapupd (kp:KP) (m k v:Opd)
 |mapent (kp:KP) (zero:D) (m k:Opd)
 |entst (m st v:Opd)
 |mkslice (elem:TypeId) (s bytes:Nat) (zero:List D) (l c:Opd)
 |panic (x:Opd)
 |delete (kp:KP) (m k:Opd)
 |clear (s:Nat) (zero:List D) (x:Opd)
 |copy (s:Nat) (x y:Opd)
 |fork (k:K)
 |defer (f:Opd) (args:List Opd)
 |recover
def K.isDefer:K->Bool
 |.defer _ _=>true
 |_=>false
structure DOp where
 dst:Option Nat
 guard:Option (Nat×Bool)
 k:K
inductive DC where
 |skip
 |reg (ops:List DOp) (keep:Option (List Nat))
 |regD (order:List Nat) (ops:List (DOp×List Nat)) (keep:Option (List Nat))
 |seq (a b:DC)
 |cond (c:Opd) (a b:DC)
 |block (id:Nat) (a:DC)
 |loop (a:DC)
 |rangeF (f:Opd) (params:List Nat) (assign body:DC)
 |exit (id:Nat)
 |ret
 |scope (a:DC)
 |label (id:Nat)
 |goto (id:Nat)
def Qc(P:Program)(t:TypeId):Option SK :=
 match P.underlying t with
 |some .bool=>sO .bool
 |some (.int _)=>sO .int
 |some .string=>sO .str
 |_=>nO
def Kq(P:Program):List Field->Option (List (Nat×SK))
 | []=>sO []
 |f::r=>if f.name = "_" then Kq P r else
  match Qc P f.type,Kq P r with
  |some k,sO l=>sO ((f.offset,k)::l)
  |_,_=>nO
def J0(P:Program)(t:TypeId):Option Bool :=
 match P.underlying t with
 |some (.struct _)|some (.array _ _)=>sO true
 |some _=>sO false
 |none=>nO
def ZP(P:Program)(t:TypeId):Option Nat:=(P.info? t).map (·.size)
def ZeH:Operand->Bool
 |.const _=>true
 |_=>false
def ZdK(P:Program)(t:TypeId)(x y:Operand):Option ZeR :=
 match P.underlying t with
 |some .bool=>sO .bool
 |some (.slice _)=>sO .sl
 |some (.map _ _)=>sO .map
 |some (.func _ _ _)=>sO .fn
 |some (.interface _)=>if ZeH x ||ZeH y then sO .ifc else nO
 |some (.pointer _)=>sO .ptr
 |some (.struct fs)=>if P.eqGuardType P.depth t ||P.stoodInHeld t then nO else (Kq P fs.toList).map .cells
 |some (.array n e) =>
  if P.eqGuardType P.depth t then nO
  else match Qc P e,ZP P e with
   |some k,sO 1=>sO (.cells ((ZHJ n).map (·,k)))
   |_,_=>nO
 |_=>nO
def Zhd(P:Program)(s:TypeId)(k:Nat):Option Field :=
 match P.underlying s with
 |some (.struct fs)=>fs[k]?
 |_=>nO
def Zaa(P:Program)(t:TypeId):Option (List D) :=
 match P.info? t with
 |some i=>match i.zero with
  |some z=>Zbh z.cells.toList
  |none=>nO
 |none=>nO
def Zdy(P:Program)(t:TypeId):Option D :=
 match P.info? t with
 |some i=>match i.zero with
  |some z=>ZnH z
  |none=>nO
 |none=>nO
def Qa(P:Program)(t:TypeId):List Nat->Option (List (Nat×Nat))
 | []=>sO []
 |k::r =>
  match P.underlying t,Qa P t r with
  |some (.struct fs),sO l=>match fs[k]? with
   |some f=>(ZP P f.type).map λn=>(f.offset,n)::l
   |none=>nO
  |some (.array _ e),sO l=>(ZP P e).map λn=>(k*n,n)::l
  |_,_=>nO
def ZkC(P:Program)(t:TypeId):Bool :=
 match P.underlying t with
 |some (.struct fs)=>fs.toList.all λf=>(ZP P f.type).isSome
 |some (.array _ e)=>(ZP P e).isSome
 |_=>false
def ZvS(P:Program)(s d:TypeId):Option Cv :=
 match P.underlying s,P.underlying d with
 |some (.int _),sO (.int k)=>sO (.int k)
 |some (.int _),sO .string=>sO .i2s
 |some .string,sO .string=>sO .str
 |some (.slice e),sO .string=>match P.underlying e with
  |some (.int .u8)=>sO .b2s
  |_=>nO
 |_,_=>nO
def J7(P:Program)(t:TypeId):Option KP :=
 match Qc P t with
 |some k=>sO (.sc k)
 |none=>match P.underlying t,ZP P t with
  |some (.struct fs),sO n=>match Kq P fs.toList with
   |some l=>if l.map (·.1)=ZHJ n/\P.stoodInHeld t=false then sO (.st l) else nO
   |none=>nO
  |_,_=>nO
def QW(x:Option Operand):List Operand:=x.toList
def cq(P:Program):Op->Option (Q×List Operand)
 |.move x|.assign x=>sO (.mv,[x])
 |.load t a=>match J0 P t,ZP P t with
  |some true,sO n=>sO (.loadN n,[a])
  |some false,sO _=>sO (.load1,[a])
  |_,_=>nO
 |.nilCheck x=>sO (.nilck,[x])
 |.binOp op t x y _=>sO (.bin op (ZdK P t x y),[x,y])
 |.unOp .not _ x=>sO (.not,[x])
 |.unOp .neg _ x=>sO (.neg,[x])
 |.unOp .xor _ x=>sO (.xorm,[x])
 |.convert s d x=>(ZvS P s d).map λc=>(.conv c,[x])
 |.fieldAddr s x k=>match Zhd P s k with
  |some f=>match ZP P f.type with
   |some n=>if n=0 then nO else sO (.faddr f.offset,[x])
   |none=>nO
  |none=>nO
 |.field s x k=>match Zhd P s k with
  |some f=>match J0 P f.type,ZP P f.type with
   |some true,sO n=>sO (.fldN f.offset n,[x])
   |some false,sO _=>sO (.fld1 f.offset,[x])
   |_,_=>nO
  |none=>nO
 |.indexAddr t x i=>match P.underlying t with
  |some (.slice e)=>(ZP P e).map λn=>(.iaddr n,[x,i])
  |some (.array m e)=>(ZP P e).map λn=>(.iaddrA m n,[x,i])
  |_=>nO
 |.index t x i=>match P.underlying t with
  |some .string=>sO (.idxS,[x,i])
  |some (.array m e)=>match J0 P e,ZP P e with
   |some b,sO n=>sO (.idxA m n !b,[x,i])
   |_,_=>nO
  |_=>nO
 |.extract x k=>sO (.ext k,[x])
 |.build t parts=>match (P.info? t).bind (·.zero),Qa P t (parts.toList.map (·.1)) with
  |some z,sO l=>if ZkC P t then (Zbh z.cells.toList).map λzs=>(.build zs l,parts.toList.map (·.2)) else nO
  |_,_=>nO
 |.makeFunc f first caps=>sO (.mkfn f first.size,first.toList++caps.toList)
 |.makeInterface t x=>match P.underlying t with
  |some (.interface _)=>nO
  |some _=>sO (.mkif t,[x])
  |none=>nO
 |.slice t x lo hi mx=>match P.underlying t with
  |some .string=>if mx.isSome then nO else sO (.sliceS lo.isSome hi.isSome,x::(QW lo++QW hi))
  |some (.slice e)=>if mx.isSome&&!hi.isSome then nO else (ZP P e).map λn=>(.slice n lo.isSome hi.isSome mx.isSome,x::(QW lo++QW hi++QW mx))
  |some (.array m e)=>if mx.isSome&&!hi.isSome then nO else (ZP P e).map λn=>(.sliceA m n lo.isSome hi.isSome mx.isSome,x::(QW lo++QW hi++QW mx))
  |_=>nO
 |.typeAssert x _ t ok=>match P.underlying t with
  |some (.interface _)=>nO
  |some _=>(Zdy P t).map λz=>(.tassert t ok z,[x])
  |none=>nO
 |.lookup t m k ok=>match P.underlying t with
  |some (.map kt e)=>match J7 P kt,Zdy P e with
   |some kp,sO z=>sO (.lookup kp z ok,[m,k])
   |_,_=>nO
  |_=>nO
 |.call c=>match c.callee with
  |.builtin .len=>match c.argTypes[0]?.bind P.underlying with
   |some .string=>if c.args.size=1 then sO (.lenS,c.args.toList) else nO
   |some (.slice _)=>if c.args.size=1 then sO (.lenL,c.args.toList) else nO
   |some (.array n _)=>if c.args.size=1 then sO (.lenA n,c.args.toList) else nO
   |some (.map _ _)=>if c.args.size=1 then sO (.lenM,c.args.toList) else nO
   |_=>nO
  |.builtin .min=>if c.args.size=2 then sO (.min,c.args.toList) else nO
  |.builtin .max=>if c.args.size=2 then sO (.max,c.args.toList) else nO
  |_=>nO
 |_=>nO
inductive ZH{α β:Type}(R:α->β->Prop):List α->List β->Prop where
 |nil:ZH R [] []
 |cons {a b as9 bs} (h:R a b) (t:ZH R as9 bs):ZH R (a::as9) (b::bs)
def ZhD{k n}:inR k (k.wrap n):=by
 unfold inR IntKind.wrap IntKind.min IntKind.max;cases k<;>simp[IntKind.signed,IntKind.bits]<;>(try split)<;>omega
def Zaj(k n)(h:inR k n):k.wrap n=n:=by
 unfold inR IntKind.min IntKind.max at h;unfold IntKind.wrap;cases k<;>simp[IntKind.signed,IntKind.bits]at h⊢<;>(try split)<;>omega
def WT(b o n):(⟨b,o,nO⟩:Addr).add n=⟨b,o+n,nO⟩:=by grind [Addr.add]
def ZfP{P t}(h:J0 P t=sO true)(w):(isAgg t).run P w=.ok true w:=by
 unfold J0 at h;unfold isAgg;split at h<;>simp_all[run_underlying]
def Zeh{P t}(h:J0 P t=sO false)(w):(isAgg t).run P w=.ok false w:=by
 unfold J0 at h;unfold isAgg;split at h;simp at h;simp at h;rename_i d h1 h2 i;simp only[Sem.run_bind,run_underlying i,Result.andThen_ok];simp_all;simp at h
def YH{P t n}(h:ZP P t=sO n)(w):(sizeOf t).run P w=.ok n w:=by
 unfold ZP at h;cases u:P.info? t with
 |none=>simp[u]at h
 |some i =>simp_all[u,sizeOf,typeInfo]
def Qt{g w s}(i:Ya g s w){b cs}(h:Z1 s b=sO cs):YI g w b cs:=by
 unfold Z1 at h;split at h<;>simp at h;rename_i c t;subst h;exact i.obj b _ t
def Zny{g Z w L}(hL:∀l cs,Zg L l=sO cs->YI g w (Z l) cs){s}(hS:Ya g s w){v e d}(h:ZJ g Z w L v e)(u:Wm L s e=sO d):∃b o x,v=.pointer (sO ⟨b,o,nO⟩)/\w.cell? ⟨b,o,nO⟩=sO x/\Rep g w x d/\x.one1=true:=by
 cases e with
 |d v' =>
  cases v'<;>simp only[Wm]at u<;>try(simp at u;done)
  .rename_i cs o;cases h with
   |ep b o0 _ _ f h1 h2 h3 one =>have t:o<I cs:=(List.getElem?_eq_some_iff.1 u).1;exact⟨b,o0+o,f o,rfl,h1 o t,h3 o d u,one o t⟩
  rename_i b o;split at u<;>(try(simp at u;done));rename_i cs i;obtain⟨_,vs,T,h1,h2,h4,h5⟩:=Qt hS i;cases h;have t:o<I cs:=(List.getElem?_eq_some_iff.1 u).1;have hv:vs[o]?=sO (vs[o]' ω):=Array.getElem?_eq_getElem ω;refine⟨b,o,vs[o]' ω,rfl,?_,h4 o _ d hv u,h5 _ (Array.getElem_mem _)⟩;simp[World.cell?,h1,hv]
 |loc l o =>obtain⟨⟨cs,i⟩,rfl⟩:=h;simp only[Wm,i]at u;obtain⟨_,vs,T,h1,h2,h4,h5⟩:=hL l cs i;have t:o<I cs:=(List.getElem?_eq_some_iff.1 u).1;have hv:vs[o]?=sO (vs[o]' ω):=Array.getElem?_eq_getElem ω;refine⟨Z l,o,vs[o]' ω,rfl,?_,h4 o _ d hv u,h5 _ (Array.getElem_mem _)⟩;simp[World.cell?,h1,hv]
 |when c e=>simp[Wm]at u
def Zfj{P g w b o n cs}(h:YI g w b cs)(hs:o+n<=I cs):
  ∃vs:List Value,(loadCells ⟨b,o,nO⟩ n).run P w=.ok vs.toArray w/\Rep g w (.agg vs.toArray) (.agg (part cs o n)):=by
 obtain⟨_,vs,T,h1,h2,h4,h5⟩:=h;refine⟨(vs.toList.drop o).take n,?_,?_⟩;have:=run_loadCells (P:=P) (w:=w) ⟨b,o,nO⟩ n (λi=>vs.getD (o+i) undef) (λj hj=>by
  rw[WT];simp[World.cell?,h1];have u:o+j<vs.size:=ω;simp[u])
 rw[this];congr 1;apply Array.ext_getElem?;intro i;simp[List.getElem?_toArray,ZIb,Array.getElem?_toList];by_cases t:i<n;have:o+i<vs.size:=ω;simp[t,this];simp[t];refine .agg _ _ (by simp[part];omega) (λi v d hv hd=>?_) (λv hv=>?_);have hi:i<n:=by rcases Nat.lt_or_ge i n with h|h;exact h;grind
 simp[hi,part]at hv hd;exact h4 _ _ _ hv hd;exact h5 v (by
  have:=List.mem_of_mem_drop (List.mem_of_mem_take hv);exact Array.mem_toList_iff.1 this)
def Zom{P g Z w L}(hL:∀l cs,Zg L l=sO cs->YI g w (Z l) cs){s}(hS:Ya g s w){v e n side ds}(h:ZJ g Z w L v e)(u:Kh L s n e=sO (side,ds))(hs:side):
  ∃a,v=.pointer (sO a)/\∃vs:List Value,(loadCells a n).run P w=.ok vs.toArray w/\Rep g w (.agg vs.toArray) (.agg ds):=by
 cases e with
 |d v' =>
  cases v'<;>simp only[Kh]at u<;>try(grind;done)
  .rename_i cs o;cases u;cases h with
   |ep b o0 _ _ f h1 h2 h3 one =>
    refine⟨_,rfl,(ZHJ n).map (λi=>f (o+i)),?_,?_⟩;have:=run_loadCells (P:=P) (w:=w) ⟨b,o0+o,nO⟩ n (λi=>f (o+i)) (λj hj=>by
     rw[WT,Nat.add_assoc];exact h1 _ ω)
    rw[this];refine .agg _ _ (by simp[part];omega) (λi v d hv hd=>?_) (λv hv=>?_);simp at hv;have hi:i<n:=by rcases Nat.lt_or_ge i n with h|h;exact h;simp_all
    simp[List.getElem?_range hi]at hv;subst hv;refine h3 _ _ ?_;simpa[part,ZIb,hi]using hd;simp at hv;obtain⟨i,hi,rfl⟩:=hv;exact one _ ω
  rename_i b o;split at u<;>(try(grind;done));rename_i cs t;cases u;cases h;obtain⟨vs,h1,h2⟩:=Zfj (P:=P) (Qt hS t) hs;exact⟨_,rfl,vs,h1,h2⟩
 |loc l o =>obtain⟨⟨cs,t⟩,rfl⟩:=h;simp only[Kh,t]at u;obtain⟨rfl,rfl⟩:=u;obtain⟨vs,h1,h2⟩:=Zfj (P:=P) (hL l cs t) hs;exact⟨_,rfl,vs,h1,h2⟩
 |when c e=>cases u
def KR{n}(h:n<=big):inR .i64 (n:Int):=by
 unfold big at h;unfold inR IntKind.min IntKind.max;simp[IntKind.signed,IntKind.bits];omega
def Zs7(b:UInt8):inR .u8 (b.toNat:Int):=by
 unfold inR IntKind.min IntKind.max;simp[IntKind.signed,IntKind.bits];have:=b.toNat_lt;omega
def ZAS{P g w op k a b side d}(t:Q5 op k a b=sO (side,d))(i:side):
  ∃v,(match op with
   |.add|.sub|.mul=>Op.intArith op k a b
   |.quo|.rem=>Op.intDiv op k a b
   |.and|.or|.xor|.andNot=>Op.intBits op k a b
   |_=>Op.intCmp op a b).run P w=.ok v w/\Rep g w v d:=by
 cases op<;>simp only[Q5,ZHu,ZHH,reduceCtorEq]at t;all_goals obtain⟨rfl,rfl⟩:=t
 case add=>exact⟨_,by simp only[Op.intArith,Sem.run_pure];rfl,by rw[Zaj _ _ i];exact .int _ _ i⟩
 case sub=>exact⟨_,by simp only[Op.intArith,Sem.run_pure];rfl,by rw[Zaj _ _ i];exact .int _ _ i⟩
 case mul=>exact⟨_,by simp only[Op.intArith,Sem.run_pure];rfl,by rw[Zaj _ _ i];exact .int _ _ i⟩
 case quo=>exact⟨_,by simp only[Op.intDiv,i.1,if_false,Sem.run_pure];rfl,by rw[Zaj _ _ i.2];exact .int _ _ i.2⟩
 case rem=>exact⟨_,by simp only[Op.intDiv,i.1,if_false,Sem.run_pure],.int _ _ i.2⟩
 case eql=>exact⟨_,by simp only[Op.intCmp,Sem.run_pure];rfl,.bool _⟩
 case neq=>exact⟨_,by simp only[Op.intCmp,Sem.run_pure];rfl,.bool _⟩
 case lss=>exact⟨_,by simp only[Op.intCmp,Sem.run_pure],.bool _⟩
 case leq=>exact⟨_,by simp only[Op.intCmp,Sem.run_pure],.bool _⟩
 case gtr=>exact⟨_,by simp only[Op.intCmp,Sem.run_pure],.bool _⟩
 case geq=>exact⟨_,by simp only[Op.intCmp,Sem.run_pure],.bool _⟩
 all_goals exact⟨_,by simp only[Op.intBits,Sem.run_pure];rfl,.int _ _ ZhD⟩
def Zdg{s:ByteArray}{l}(h:s.data.toList=l):s.toList=l:=by rw[ByteArray.toList_eq,h]
def ZAT{P g w op s1 s2 a b}(u:s1.data.toList=a)(h2:s2.data.toList=b){side d}(hq:ZdW op a b=sO (side,d))(hs:side):
  ∃v,(Op.stringOp op s1 s2).run P w=.ok v w/\Rep g w v d:=by
 have e1:=Zdg u;have e2:=Zdg h2;cases op<;>simp only[ZdW,ZHu,ZHH,reduceCtorEq]at hq;all_goals obtain⟨rfl,rfl⟩:=hq
 case add =>
  have i:s1.size=I a:=by rw[<-u];rfl
  have t:s2.size=I b:=by rw[<-h2];rfl
  refine⟨.string (s1++s2),?_,.str _ _ ?_ (by simpa using hs)⟩;unfold big at hs;simp only[Op.stringOp,i,t,Sem.run_ite];rw[if_neg (by simp[IntKind.max,IntKind.signed,IntKind.bits];omega)];rfl;simp[<-u,<-h2]
 all_goals simp only[Op.stringOp,Sem.run_pure,e1,e2]
 all_goals have hb:(a==b)=dC (a=b):=by rw[Bool.eq_iff_iff];simp
 all_goals try simp only[hb]
 all_goals exact⟨_,rfl,.bool _⟩
def ZgR{P g w t sk}(ht:Qc P t=sO sk){v1 v2 x y}(h1:Rep g w v1 x)(h2:Rep g w v2 y){b}(u:Yk sk x y=sO b)(n):(Op.equalIn (n+1) t v1 v2).run P w=.ok b w:=by
 unfold Qc at ht;cases sk;obtain⟨k0,i⟩:∃k0,P.underlying t=sO (.int k0):=by split at ht<;>simp_all
 cases h1<;>cases h2<;>simp only[Yk,reduceCtorEq]at u;split at u;rename_i k a ha k' b' hb' hk;simp only[ZHu]at u;subst u;subst hk;rw[run_equalIn_int w n t _ _ _ _ i];rfl;simp at u;have i:P.underlying t=sO .string:=by split at ht<;>simp_all
 cases h1<;>cases h2<;>simp only[Yk,reduceCtorEq,ZHu]at u;rename_i s1 l1 e1 _ s2 l2 e2 _;subst u;rw[run_equalIn_string w n t _ _ i,Zdg e1,Zdg e2]
 congr 1;rw[Bool.eq_iff_iff];simp
 have i:P.underlying t=sO .bool:=by split at ht<;>simp_all
 cases h1<;>cases h2<;>simp only[Yk,reduceCtorEq,ZHu]at u;subst u;rw[run_equalIn_bool' w n t _ _ i];rfl
def Zbo{P t k}(h:Qc P t=sO k):J0 P t=sO false:=by
 unfold Qc at h;unfold J0;split at h<;>simp_all
def Zdb{P w t}(h:J0 P t=sO false){cs o v}(i:cs[o]?=sO v):
  (Go.part t cs o).run P w=.ok v w:=by
 simp[Go.part,Zeh h,i]
def ZbL{g w}{vs:List Value}(hn:I vs=I ds)(h:∀(i:Nat) (v:Value) (d:D),vs[i]?=sO v->ds[i]?=sO d->Rep g w v d){o:Nat}{d}(t:ds[o]?=sO d):∃v,vs[o]?=sO v/\Rep g w v d:=by
 have hlt:o<I ds:=(List.getElem?_eq_some_iff.1 t).1;exact⟨vs[o]' ω,ZH6 _,h o _ d (ZH6 _) t⟩
def Zdn{P g w}{v1 v2:List Value}{xs ys}(hn1:I v1=I xs)(hn2:I v2=I ys)
  (h1:∀(i:Nat) (v:Value) (d:D),v1[i]?=sO v->xs[i]?=sO d->Rep g w v d) (h2:∀(i:Nat) (v:Value) (d:D),v2[i]?=sO v->ys[i]?=sO d->Rep g w v d) (n) :
  ∀(fs l b),Kq P fs=sO l->Wn xs ys l=sO b ->
   (Op.eqFields (n+1) v1.toArray v2.toArray fs).run P w=.ok b w
 | [],l,b,hl,hb=>by simp only[Kq,ZHu]at hl;subst hl;simp only[Wn,ZHu]at hb;subst hb;simp[Op.eqFields]
 |f::fs,l,b,hl,hb=>by simp only[Kq]at hl;by_cases hf:f.name = "_";simp only[hf,if_true]at hl;have:=Zdn hn1 hn2 h1 h2 n fs l b hl hb;simp only[Op.eqFields,hf,ne_eq,not_true_eq_false,if_false];exact this;simp only[hf,if_false]at hl;split at hl;rename_i k l' hk ab;simp only[ZHu]at hl;subst hl;simp only[Wn]at hb;split at hb;rename_i x y hx hy;split at hb;rename_i b1 b2 t u;simp only[ZHu]at hb;obtain⟨u1,ac,r1⟩:=ZbL hn1 h1 hx;obtain⟨u2,ad,r2⟩:=ZbL hn2 h2 hy;have ih:=Zdn hn1 hn2 h1 h2 n fs l' b2 ab u;have he:=ZgR (P:=P) hk r1 r2 t n;simp only[Op.eqFields,ne_eq,hf,not_false_eq_true,if_true,Sem.run_bind];rw[Zdb (Zbo hk) (v:=u1) (by simpa using ac)];simp only[Result.andThen_ok];rw[Zdb (Zbo hk) (v:=u2) (by simpa using ad)];simp only[Result.andThen_ok,he];subst hb;cases b1;simp;simpa using ih;simp at hb;simp at hb;simp at hl
def ZnP{P g w}{v1 v2:List Value}{xs ys}(hn1:I v1=I xs)(hn2:I v2=I ys)
  (h1:∀(i:Nat) (v:Value) (d:D),v1[i]?=sO v->xs[i]?=sO d->Rep g w v d) (h2:∀(i:Nat) (v:Value) (d:D),v2[i]?=sO v->ys[i]?=sO d->Rep g w v d) (n)
  {e k} (hk:Qc P e=sO k) :
  ∀(is b),Wn xs ys (is.map (·,k))=sO b->(Op.eqItems (n+1) e 1 v1.toArray v2.toArray is).run P w=.ok b w
 | [],b,hb=>by simp only[ZH2,Wn,ZHu]at hb;subst hb;simp[Op.eqItems]
 |i::is,b,hb=>by simp only[ZHM,Wn]at hb;split at hb;rename_i x y hx hy;split at hb;rename_i b1 b2 t u;simp only[ZHu]at hb;obtain⟨u1,ab,r1⟩:=ZbL hn1 h1 hx;obtain⟨u2,ac,r2⟩:=ZbL hn2 h2 hy;have ih:=ZnP hn1 hn2 h1 h2 n hk is b2 u;have he:=ZgR (P:=P) hk r1 r2 t n;simp only[Op.eqItems,Nat.mul_one,Sem.run_bind];rw[Zdb (Zbo hk) (v:=u1) (by simpa using ab)];simp only[Result.andThen_ok];rw[Zdb (Zbo hk) (v:=u2) (by simpa using ac)];simp only[Result.andThen_ok,he];subst hb;cases b1;simp;simpa using ih;simp at hb;simp at hb
def ZbC{P w t i u b}(h:∀n,(Op.equalIn (n+1) t i u).run P w=.ok b w):(Op.equal t i u).run P w=.ok b w:=h 9999
def ZqT{P g w t x y p}(hp:ZdK P t x y=sO p){v1 v2 d1 d2}(h1:Rep g w v1 d1)(h2:Rep g w v2 d2){side b}(hq:YG p d1 d2=sO (side,b))(hs:side):
  (Op.equal t v1 v2).run P w=.ok b w/\(eqGuard .eql t x y v1 v2).run P w=.ok () w/\(eqGuard .neq t x y v1 v2).run P w=.ok () w:=by
 unfold ZdK at hp;split at hp<;>(try(simp at hp;done))
 .
  rename_i hu;simp only[ZHu]at hp;subst hp;cases h1<;>cases h2<;>simp only[YG,reduceCtorEq,ZHu,ZHH]at hq;obtain⟨rfl,rfl⟩:=hq;exact⟨ZbC λn=>by rw[run_equalIn_bool w _ t _ _ hu];rfl,rfl,rfl⟩
 .rename_i e hu;simp only[ZHu]at hp;subst hp;cases h1<;>cases h2<;>simp only[YG,reduceCtorEq,ZHu,ZHH]at hq;all_goals obtain⟨rfl,rfl⟩:=hq
  all_goals first
   |exact absurd hs ω
   |exact⟨ZbC λn=>by simp[Op.equalIn,run_underlying hu],rfl,rfl⟩
 .rename_i k e hu;simp only[ZHu]at hp;subst hp;cases h1<;>cases h2<;>simp only[YG,reduceCtorEq,ZHu,ZHH]at hq;all_goals obtain⟨rfl,rfl⟩:=hq
  all_goals exact⟨ZbC λn=>by simp[Op.equalIn,run_underlying hu],rfl,rfl⟩
 .rename_i a b c hu;simp only[ZHu]at hp;subst hp;cases h1<;>cases h2<;>simp only[YG,reduceCtorEq,ZHu,ZHH]at hq;all_goals obtain⟨rfl,rfl⟩:=hq
  all_goals exact⟨ZbC λn=>by simp[Op.equalIn,run_underlying hu],rfl,rfl⟩
 .rename_i ms hu;split at hp
  .rename_i hc;simp only[ZHu]at hp;subst hp;have ag:ZeH x=true\/ZeH y=true:=by simpa using hc
   have hg:∀op,(eqGuard op t x y .nilIface .nilIface).run P w=.ok () w:=λop=>by rcases ag with h|h;cases x<;>simp[ZeH]at h;cases op<;>simp[eqGuard];cases y<;>simp[ZeH]at h;cases op<;>simp[eqGuard]
   cases h1<;>cases h2<;>simp only[YG,reduceCtorEq,ZHu,ZHH]at hq;all_goals obtain⟨rfl,rfl⟩:=hq
   all_goals first
    |exact⟨ZbC λn=>by simp[Op.equalIn,run_underlying hu],rfl,rfl⟩
    |exact⟨ZbC λn=>by simp[Op.equalIn,run_underlying hu],hg _,hg _⟩
  simp at hp
 .rename_i e hu;simp only[ZHu]at hp;subst hp;cases h1<;>cases h2<;>simp only[YG,reduceCtorEq,ZHu,ZHH]at hq;all_goals obtain⟨rfl,rfl⟩:=hq
  all_goals exact⟨ZbC λn=>by simp[Op.equalIn,run_underlying hu],rfl,rfl⟩
 rename_i fs hu;split at hp;simp at hp;rename_i ab;have u:P.eqGuardType P.depth t=false:=by simp at ab;exact ab.1
 have ai:P.stoodInHeld t=false:=by simp at ab;exact ab.2
 simp only[ZHI]at hp;obtain⟨l,hl,rfl⟩:=hp;cases h1<;>cases h2<;>simp only[YG,reduceCtorEq,ZHI]at hq;rename_i v1 xs ae r1 o1 v2 ys af r2 o2;obtain⟨b',hb,hq⟩:=hq;simp only[ZHH]at hq;obtain⟨rfl,rfl⟩:=hq;have hf:P.underlying t=sO (.struct (P.fieldsOf t)):=by simp[Program.fieldsOf,hu]
 refine⟨?_,run_eqGuard_agg w _ t x y _ _ u,run_eqGuard_agg w _ t x y _ _ u⟩;refine(run_equalIn_struct w 9999 t _ _ hf ai).trans ?_;simp only[Program.fieldsOf,hu];exact Zdn ae af r1 r2 9998 _ l b' hl hb;rename_i n e hu;split at hp;simp at hp;rename_i u;split at hp
 .rename_i k hk ac;simp only[ZHu]at hp;subst hp;cases h1<;>cases h2<;>simp only[YG,reduceCtorEq,ZHI]at hq;rename_i v1 xs ae r1 o1 v2 ys af r2 o2;obtain⟨b',hb,hq⟩:=hq;simp only[ZHH]at hq;obtain⟨rfl,rfl⟩:=hq;have ad:P.eqGuardType P.depth t=false:=by simpa using u
  refine⟨?_,run_eqGuard_agg w _ t x y _ _ ad,run_eqGuard_agg w _ t x y _ _ ad⟩;unfold ZP at ac;cases hi:P.info? e with
  |none=>simp[hi]at ac
  |some i =>
   simp only[hi,ZH4,ZHu]at ac;refine(run_equalIn_array w 9999 _ _ hu hi).trans ?_;have ah:P.cellsOf e=1:=by simp[Program.cellsOf,hi,ac]
   rw[ah];exact ZnP ae af r1 r2 9998 hk _ _ hb
 simp at hp
def ZAR{P g w op t x y v1 v2 d1 d2 d}(h1:Rep g w v1 d1)(h2:Rep g w v2 d2){side}(hq:Zal op (ZdK P t x y) d1 d2=sO (side,d))(hs:side):
  ∃v,(do eqGuard op t x y v1 v2;binOp op t v1 v2).run P w=.ok v w/\Rep g w v d:=by
 by_cases hi:∃k a,d1=.int k a
 .obtain⟨k,a,rfl⟩:=hi;cases h1;rename_i ha;have hg:(eqGuard op t x y (.int k a) v2).run P w=.ok () w:=by cases op<;>rfl
  by_cases ad:∃k' b,d2=.int k' b
  .obtain⟨k',b,rfl⟩:=ad;cases h2;rename_i hb;simp only[Sem.run_bind,hg,Result.andThen_ok];by_cases ac:op=.shl\/op=.shr;rcases ac with rfl|rfl;simp only[Zal,ZHu,ZHH]at hq;obtain⟨rfl,rfl⟩:=hq;refine⟨.int k (J8 k a b),?_,.int _ _ hs.2⟩;simp only[binOp,Op.shift,Int.not_lt.2 hs.1,if_false];rw[show k.wrap (a*2 ^ min b.toNat k.bits)=J8 k a b from Zaj _ _ hs.2];rfl;simp only[Zal,ZHu,ZHH]at hq;obtain⟨rfl,rfl⟩:=hq;refine⟨.int k (QE k a b),?_,.int _ _ hs.2⟩;simp only[binOp,Op.shift,Int.not_lt.2 hs.1,if_false];rfl;have i:(if k=k' then Q5 op k a b else nO)=sO (side,d):=by cases op<;>first|(simp only[Zal]at hq;exact hq)|simp at ac
   split at i;·rename_i hk;subst hk;obtain⟨v,hv,r⟩:=ZAS (P:=P) (g:=g) (w:=w) i hs;refine⟨v,?_,r⟩;rw[<-hv];cases op<;>first|(simp at ac;done)|(simp[binOp])
   simp at i
  have i:eqO op (ZdK P t x y) (.int k a) d2=sO (side,d):=by cases d2<;>first|(simp only[Zal]at hq;exact hq)|(exact absurd ⟨_,_,rfl⟩ ad)
  unfold eqO at i;split at i<;>simp[YG]at i
 by_cases u:∃a,d1=.str a;obtain⟨a,rfl⟩:=u;cases h1;rename_i s1 e1 b1;have hg:(eqGuard op t x y (.string s1) v2).run P w=.ok () w:=by cases op<;>rfl
 by_cases ab:∃b,d2=.str b;obtain⟨b,rfl⟩:=ab;cases h2;rename_i s2 e2 b2;simp only[Sem.run_bind,hg,Result.andThen_ok];obtain⟨v,hv,r⟩:=ZAT (P:=P) (g:=g) (w:=w) (op:=op) e1 e2 (by simpa[Zal]using hq) hs;refine⟨v,?_,r⟩;rw[<-hv];cases op<;>simp[binOp];have i:eqO op (ZdK P t x y) (.str a) d2=sO (side,d):=by cases d2<;>first|(simp only[Zal]at hq;exact hq)|(exact absurd ⟨_,rfl⟩ ab)
 unfold eqO at i;split at i<;>simp[YG]at i;have i:eqO op (ZdK P t x y) d1 d2=sO (side,d):=by cases d1<;>first|(simp only[Zal]at hq;exact hq)|(exact absurd ⟨_,_,rfl⟩ hi)|(exact absurd ⟨_,rfl⟩ u)
 unfold eqO at i;split at i
 .rename_i p hp;simp only[ZHI]at i;obtain⟨⟨s',b⟩,hb,i⟩:=i;simp only[ZHH]at i;obtain⟨rfl,rfl⟩:=i;obtain⟨he,hg,_⟩:=ZqT hp h1 h2 hb hs;refine⟨.bool b,?_,.bool _⟩;simp only[Sem.run_bind,hg,Result.andThen_ok];cases h1<;>first
   | (exact absurd ⟨_,_,rfl⟩ hi)
   | (exact absurd ⟨_,rfl⟩ u)
   | (cases h2<;>first|(simp[binOp,he];done)|(cases p<;>simp[YG]at hb;done))
 .rename_i p hp;simp only[ZHI]at i;obtain⟨⟨s',b⟩,hb,i⟩:=i;simp only[ZHH]at i;obtain⟨rfl,rfl⟩:=i;obtain⟨he,_,hg⟩:=ZqT hp h1 h2 hb hs;refine⟨.bool (!b),?_,.bool _⟩;simp only[Sem.run_bind,hg,Result.andThen_ok];cases h1<;>first
   | (exact absurd ⟨_,_,rfl⟩ hi)
   | (exact absurd ⟨_,rfl⟩ u)
   | (cases h2<;>first|(simp[binOp,he];done)|(cases p<;>simp[YG]at hb;done))
 simp at i
end Go.DL
namespace Go.DL
open Go
variable [Zsc]
def Zy1(P:Program)(g:G)(Z:Nat->Nat)(w:World)(L:Loc)(s:Sem Value)(e:E):Prop:=∃v,s.run P w=.ok v w/\ZJ g Z w L v e
def Zy1.next{P g Z w L s e}(h:Zy1 P g Z w L s e) :
  ∃v,(do pure (Next.value (<-s)):Sem Next).run P w=.ok (.value v) w/\ZJ g Z w L v e:=by
 obtain⟨v,h1,h2⟩:=h;simp_all
section
variable {P:Program} {g:G} {Z:Nat->Nat} {w:World} {L:Loc}
def K1:∀{vs es ds},ZH (ZJ g Z w L) vs es->Ka es=sO ds->ZH (Rep g w) vs ds
 |_,_,ds,.nil,hd=>by cases hd;exact .nil
 |_,_,ds,.cons (b:=e) h t,hd=>by
  cases e with
  |d x =>simp[Ka]at hd;obtain⟨ds',hd',rfl⟩:=hd;exact .cons h (K1 t hd')
  |loc l o=>cases hd
  |when c e=>cases hd
def ZH.len{α β R}{i:List α}{bs:List β}(h:ZH R i bs):I i=I bs:=by
 induction h with
 |nil=>rfl
 |cons _ _ ih=>simp[ih]
def ZH.get{α β R t}{bs:List β}(h:ZH R t bs):∀(i:Nat) (a:α) (b:β),t[i]?=sO a->bs[i]?=sO b->R a b:=by
 induction h with
 |nil=>intro i a b ha;grind
 |cons h _ ih =>grind
def ZH.take{α β R}{i:List α}{bs:List β}(h:ZH R i bs):∀n,ZH R (i.take n) (bs.take n):=by
 induction h with
 |nil=>intro n;simp;exact .nil
 |cons h _ ih=>intro n;cases n with
  |zero=>exact .nil
  |succ n=>exact .cons h (ih n)
def ZH.drop{α β R}{i:List α}{bs:List β}(h:ZH R i bs):∀n,ZH R (i.drop n) (bs.drop n):=by
 induction h with
 |nil=>intro n;simp;exact .nil
 |cons h t ih=>intro n;cases n with
  |zero=>exact .cons h t
  |succ n=>exact ih n
def ZH.append{α β R}{t i:List α}{bs u:List β}(h:ZH R t bs)(h':ZH R i u):ZH R (t++i) (bs++u):=by
 induction h with
 |nil=>exact h'
 |cons h _ ih=>exact .cons h ih
def ZdN{v d}(h:Rep g w v d)(ho:W7 d=true):v.cells.size=(cellsOf d).length/\(∀(i:Nat) (x y),v.cells.toList[i]?=sO x->(cellsOf d)[i]?=sO y->Rep g w x y):=by
 cases h with
 |agg vs cells hn h one=>exact⟨by simpa[Value.cells,cellsOf]using hn,by simpa[Value.cells,cellsOf]using h⟩
 |any v=>simp[W7]at ho
 |_ =>
  refine⟨by simp[Value.cells,cellsOf,Go.undef],λi x y t u=>?_⟩;simp only[Value.cells,cellsOf,Go.undef]at t u;cases i with
  |zero =>simp at t u;subst t;subst u;first|assumption|constructor<;>assumption|constructor
  |succ i=>simp at t
end
end Go.DL
namespace Go.DL
open Go
variable [Zsc]
section
variable {P:Program} {g:G} {Z:Nat->Nat} {w:World} {L:Loc}
def Zhp{v d}(h:Rep g w v d)(t:W7 d=true):∀x∈v.cells,x.one1=true:=by
 cases h with
 |agg vs cells hn h one=>simpa[Value.cells]using one
 |_=>first
  | (simp[W7]at t;done)
  | (intro x i;simp[Value.cells]at i;subst i;rfl)
def Zqy:∀(l k off) (cs:Array Value),off+k+I l<=cs.size ->
  ((l.zipIdx k).foldl (λ(cs:Array Value) (x:Value×Nat)=>cs.setIfInBounds (off+x.2) x.1) cs).toList=cs.toList.take (off+k)++l++cs.toList.drop (off+k+I l)
 | [],k,off,cs,h=>by simp
 |v::l,k,off,cs,h=>by
  simp at h;simp only[List.zipIdx_cons,List.foldl_cons];rw[Zqy l (k+1) off _ (by simp;omega)];simp only[Array.toList_setIfInBounds];apply List.ext_getElem?;intro i;simp only[List.getElem?_append,ZIb,List.getElem?_drop,List.getElem?_set,ZHF,ZHQ,List.length_set,Array.length_toList,ZHN];by_cases t:i<off+k;simp[show i<min (off+(k+1)) cs.size+I l from by omega,show i<min (off+(k+1)) cs.size from by omega,show i<min (off+k) cs.size+(I l+1) from by omega,
   show i<min (off+k) cs.size from by omega,show i<off+(k+1) from by omega,t,show ¬off+k=i from by omega]
  by_cases u:i=off+k;subst u;simp[show off+k<min (off+(k+1)) cs.size+I l from by omega,show off+k<min (off+(k+1)) cs.size from by omega,show off+k<min (off+k) cs.size+(I l+1) from by omega,
   show ¬off+k<min (off+k) cs.size from by omega,show off+k<off+(k+1) from by omega,show off+k<cs.size from by omega]
  rw[show off+k-min (off+k) cs.size=0 from by omega];rfl;by_cases h3:i<off+k+(I l+1);simp[show i<min (off+(k+1)) cs.size+I l from by omega,show ¬i<min (off+(k+1)) cs.size from by omega,show i<min (off+k) cs.size+(I l+1) from by omega,
   show ¬i<min (off+k) cs.size from by omega]
  rw[show i-min (off+k) cs.size=(i-min (off+(k+1)) cs.size)+1 from by omega];rfl;simp[show ¬i<min (off+(k+1)) cs.size+I l from by omega,show ¬i<min (off+k) cs.size+(I l+1) from by omega];rw[show off+(k+1)+I l+(i-(min (off+(k+1)) cs.size+I l))=i from by omega,show off+k+(I l+1)+(i-(min (off+k) cs.size+(I l+1)))=i from by omega];simp[show ¬off+k=i from by omega]
def Ye{α β R}:∀{t} {bs:List β},I t=I bs->(∀(i:Nat) (a:α) (b:β),t[i]?=sO a->bs[i]?=sO b->R a b)->ZH R t bs
 | [],[],_,_=>.nil
 |a::t,b::bs,hn,h=>.cons (h 0 a b rfl rfl) (Ye (by simpa using hn) (λi x y u hy=>h (i+1) x y (by simpa using u) (by simpa using hy)))
 | [],_::_,hn,_=>by grind
 |_::_,[],hn,_=>by grind
def Zhe(place):∀(parts pl ds cs cells cv),
  (∀(i:Nat) (x q),parts[i]?=sO x->pl[i]?=sO q->place x.1=sO q)->I parts=I pl->ZH (Rep g w) (parts.map (·.2)) ds ->
  ZH (Rep g w) cv.toList cells->(∀v∈cv,v.one1=true)->Zbr cells pl ds=sO cs ->
  ∃cv',Instr.fill place cv parts=sO cv'/\ZH (Rep g w) cv'.toList cs/\∀v∈cv',v.one1=true
 | [],[],ds,cs,cells,cv,_,_,hd,hc,ho,hf=>by cases hd;cases hf;exact⟨cv,rfl,hc,ho⟩
 |x::parts,q::pl,ds,cs,cells,cv,hpl,hn,hd,hc,ho,hf=>by
  obtain⟨i,v⟩:=x;obtain⟨o,n⟩:=q;cases hd with
  |cons hv hd =>
   rename_i d ds;simp only[Zbr]at hf;split at hf;rename_i ac;obtain⟨h0,h1,h2⟩:=ac;have hp:=hpl 0 _ _ rfl rfl;obtain⟨ag,ab⟩:=ZdN hv h0;have hlen:=hc.len;have t:=Zqy v.cells.toList 0 o cv (by grind);simp only[Nat.add_zero,Array.length_toList,ag,h1]at t;have ha:ZH (Rep g w) (v.cells.toList) (cellsOf d):=Ye ω ab;generalize ad:(v.cells.toList.zipIdx 0).foldl (λ(cs:Array Value) (x:Value×Nat)=>cs.setIfInBounds (o+x.2) x.1) cv=cv2 at t;have af:ZH (Rep g w) cv2.toList (Zx cells o (cellsOf d)):=by rw[t];unfold Zx;rw[h1];exact((hc.take o).append ha).append (hc.drop (o+n))
   have ae:∀x∈cv2,x.one1=true:=λx hx=>by have u:x∈cv2.toList:=Array.mem_toList_iff.2 hx;rw[t]at u;simp only[List.mem_append]at u;rcases u with (u |u)|u;exact ho x (Array.mem_toList_iff.1 (List.mem_of_mem_take u));exact Zhp hv h0 x (Array.mem_toList_iff.1 u);exact ho x (Array.mem_toList_iff.1 (List.mem_of_mem_drop u))
   obtain⟨cv',ah,r1,r2⟩:=Zhe place parts pl ds cs _ cv2 (λi x q hx hq=>hpl (i+1) x q (by grind) (by grind)) (by grind) hd af ae hf;refine⟨cv',?_,r1,r2⟩;simp only[Instr.fill,hp,ag,h1];have:¬(n≠n ||decide (o+n > cv.size))=true:=by grind
   rw[if_neg ω];rw[<-ah,<-ad]
   congr 1
   rw[<-Array.foldl_toList,Array.toList_zipIdx];simp at hf
 | [],_::_,_,_,_,_,_,hn,_,_,_,_=>by simp at hn
 |_::_,[],_,_,_,_,_,hn,_,_,_,_=>by simp at hn
end
end Go.DL
namespace Go.DL
open Go
variable [Zsc]
variable {kp:Option (List Nat)}{L:Loc}{H:Env}{s:St}{w:World}{os:List DOp}{ds:List D}{dst:Option Nat}{tmps:Array Value}{g:G}{Z:Nat->Nat}{xs:List Opd}{side:Prop}{row:Nat->List D}
section
variable {P:Program} {g:G} {Z:Nat->Nat} {w:World} {L:Loc}
def ZdD:∀{vs ds},Zbh vs=sO ds->ZH (Rep g w) vs ds/\∀v∈vs,v.one1=true
 | [],ds,h=>by simp only[Zbh,ZHu]at h;subst h;exact⟨.nil,λv hv=>by simp at hv⟩
 |v::vs,ds,h=>by
  simp only[Zbh]at h;split at h
  .rename_i d ds' i h2;simp only[ZHu]at h;subst h;obtain⟨r1,r2⟩:=ZdD h2;have u:Rep g w v d/\v.one1=true:=by unfold ZnG at i;split at i<;>(try(simp at i;done));split at i;rename_i t;simp only[ZHu]at i;subst i;exact⟨.int _ _ t,rfl⟩;simp at i;simp only[ZHu]at i;subst i;exact⟨.bool _,rfl⟩;split at i;rename_i t;simp only[ZHu]at i;subst i;exact⟨.str _ _ rfl t,rfl⟩;simp at i;simp only[ZHu]at i;subst i;exact⟨.nilptr,rfl⟩;simp only[ZHu]at i;subst i;exact⟨.nilsl,rfl⟩;simp only[ZHu]at i;subst i;exact⟨.nilmap,rfl⟩;simp only[ZHu]at i;subst i;exact⟨.nilfn,rfl⟩;simp only[ZHu]at i;subst i;exact⟨.niliface,rfl⟩
   exact⟨.cons u.1 r1,λx hx=>by
    rcases List.mem_cons.1 hx with rfl|hx;exact u.2;exact r2 x hx⟩
  simp at h
def Zxp{v d}(h:ZnG v=sO d):Rep g w v d/\v.one1=true:=by
 have:=ZdD (g:=g) (w:=w) (vs:=[v]) (ds:=[d]) (by simp[Zbh,h]);obtain⟨i,t⟩:=this;cases i with
 |cons h _=>exact⟨h,t v ψ⟩
def Zlh{vs ds}(h:ZH (Rep g w) vs.toList ds)(i:∀v∈vs,v.one1=true):Rep g w (.agg vs) (.agg ds):=by
 have:=Rep.agg (g:=g) (w:=w) vs.toList ds h.len h.get (λv t=>i v (Array.mem_toList_iff.1 t));simpa using this
def Zjo{v d}(h:ZnH v=sO d):Rep g w v d:=by
 unfold ZnH at h;split at h;rename_i cs;simp only[ZHI]at h;obtain⟨ds,u,rfl⟩:=h;obtain⟨i,t⟩:=ZdD (g:=g) (w:=w) u;exact Zlh i (λv hv=>t v (Array.mem_toList_iff.2 hv));exact(Zxp h).1
def ZqS{t fs}(hu:P.underlying t=sO (.struct fs)):∀(is pl),Qa P t is=sO pl ->
  (I pl)=I is/\∀(i k:Nat) (q),is[i]?=sO k->pl[i]?=sO q->∃f,fs[k]?=sO f/\ZP P f.type=sO q.2/\f.offset=q.1
 | [],pl,h=>by simp only[Qa,ZHu]at h;subst h;simp
 |k::is,pl,h=>by
  cases hl:Qa P t is with
  |none=>simp[Qa,hu,hl]at h
  |some l =>
   simp only[Qa,hu,hl]at h;split at h
   .rename_i f hf;simp only[ZHI]at h;obtain⟨n,hn,rfl⟩:=h;obtain⟨h1,h2⟩:=ZqS hu is l hl;refine⟨by simp[h1],λi k' q u hq=>?_⟩;cases i with
    |zero=>simp at u hq;subst u;subst hq;exact⟨f,hf,hn,rfl⟩
    |succ i=>exact h2 i k' q (by simpa using u) (by simpa using hq)
   simp at h
def Zoq{t e m}(hu:P.underlying t=sO (.array m e)):∀(is pl),Qa P t is=sO pl ->
  (I pl)=I is/\∀(i k:Nat) (q),is[i]?=sO k->pl[i]?=sO q->∃n,ZP P e=sO n/\q=(k*n,n)
 | [],pl,h=>by simp only[Qa,ZHu]at h;subst h;simp
 |k::is,pl,h=>by
  cases hl:Qa P t is with
  |none=>simp[Qa,hu,hl]at h
  |some l =>
   simp only[Qa,hu,hl,ZHI]at h;obtain⟨n,hn,rfl⟩:=h;obtain⟨h1,h2⟩:=Zoq hu is l hl;refine⟨by simp[h1],λi k' q u hq=>?_⟩;cases i with
   |zero=>simp at u hq;subst u;subst hq;exact⟨n,hn,rfl⟩
   |succ i=>exact h2 i k' q (by simpa using u) (by simpa using hq)
def Zl8:∀(t:List Field),(t.all λf=>(ZP P f.type).isSome)=true ->
  ∃u,t.mapM (λf=>(P.info? f.type).map λi=>(f.offset,i.size))=sO u/\∀(k:Nat) (f n),t[k]?=sO f->ZP P f.type=sO n->u[k]?=sO (f.offset,n)
 | [],_=>⟨[],ψ,ψ⟩
 |f::t,h=>by
  simp only[List.all_cons,ZHG]at h;obtain⟨u,h1,h2⟩:=Zl8 t h.2;unfold ZP at h;cases hi:P.info? f.type with
  |none=>simp[hi]at h
  |some i =>
   refine⟨(f.offset,i.size)::u,by simp[List.mapM_cons,hi,h1],λk f' n hk hn=>?_⟩;cases k with
   |zero =>simp at hk;subst hk;simp only[ZP,hi,ZH4,ZHu]at hn;subst hn;rfl
   |succ k=>simpa using h2 k f' n (by simpa using hk) hn
def Zy8{t}{parts:List (Nat×Value)}{z pl zs ds cs}(hz:(P.info? t).bind (·.zero)=sO z)(hp:Qa P t (parts.map (·.1))=sO pl)(hsz:ZkC P t=true)(hzs:Zbh z.cells.toList=sO zs)(hd:ZH (Rep g w) (parts.map (·.2)) ds)(hf:Zbr zs pl ds=sO cs)(hne:∃d,P.underlying t=sO d/\((∃fs,d=.struct fs)\/∃m e i,d=.array m e/\P.info? e=sO i)):
  ∃cv,(Instr.build t parts.toArray).run P w=.ok (.agg cv) w/\Rep g w (.agg cv) (.agg cs):=by
 obtain⟨d,hu,ag⟩:=hne;obtain⟨c1,c2⟩:=ZdD (g:=g) (w:=w) hzs;have ae:∀v∈z.cells,v.one1=true:=λv hv=>c2 v (Array.mem_toList_iff.2 hv);cases ad:P.info? t with
 |none=>simp[ad]at hz
 |some it =>
  simp only[ad,Option.bind_some]at hz;rcases ag with ⟨fs,rfl⟩|⟨m,e,i,rfl,hi⟩;simp only[ZkC,hu]at hsz;obtain⟨ak,hm,af⟩:=Zl8 (P:=P) fs.toList hsz;obtain⟨h1,h2⟩:=ZqS hu _ _ hp;obtain⟨cv,u,ac,ab⟩:=Zhe (g:=g) (w:=w) (ak.toArray[·]?) parts pl ds cs zs z.cells (λi x q hx hq=>by
   obtain⟨f,ah,ai,aj⟩:=h2 i x.1 q (by simp[hx]) hq;have:=af x.1 f q.2 (by simpa using ah) ai;simp only[List.getElem?_toArray,this,aj]) (by simpa using h1.symm) hd c1 ae hf
  refine⟨cv,run_build w t _ cv ?_,Zlh ac ab⟩;simp only[Program.built,ad,hu,hz,hm];exact u;obtain⟨h1,h2⟩:=Zoq hu _ _ hp;obtain⟨cv,u,ac,ab⟩:=Zhe (g:=g) (w:=w) (λk=>sO (k*i.size,i.size)) parts pl ds cs zs z.cells (λj x q hx hq=>by
   obtain⟨n,hn,rfl⟩:=h2 j x.1 q (by simp[hx]) hq;simp only[ZP,hi,ZH4,ZHu]at hn;rw[hn]) (by simpa using h1.symm) hd c1 ae hf
  refine⟨cv,run_build w t _ cv ?_,Zlh ac ab⟩;simp only[Program.built,ad,hu,hz,hi];exact u
end
section
variable {P:Program} {g:G} {Z:Nat->Nat} {w:World} {L:Loc} {U:St}
def Ws{α β R}{a:α}{bs:List β}(h:ZH R [a] bs):∃b,bs=[b]/\R a b:=by
 cases h with
 |cons h t=>cases t;exact⟨_,rfl,h⟩
def J1{α β R}{a u:α}{bs:List β}(h:ZH R [a,u] bs):∃b i,bs=[b,i]/\R a b/\R u i:=by
 cases h with
 |cons h t=>obtain⟨i,rfl,h'⟩:=Ws t;exact⟨_,_,rfl,h,h'⟩
def Zh7:∀(i:List Int) (s:ByteArray),(i.foldl (λr n=>r.push (UInt8.ofNat n.toNat)) s).data.toList=s.data.toList++i.map λn=>UInt8.ofNat n.toNat
 | [],s=>by simp
 |n::i,s=>by rw[List.foldl_cons,Zh7 i];simp
def Zuw{t x e r side}(ha:J0 P t=sO false)(hx:ZJ g Z w L x e)(u:∀l cs,Zg L l=sO cs->YI g w (Z l) cs)(hS:Ya g U w)(i:qv L U .load1 [e]=sO (side,r)):∃v,(Instr.loadAt t x).run P w=.ok v w/\ZJ g Z w L v r:=by
 simp only[qv,ZHI]at i;obtain⟨d,hd,rfl,rfl⟩:=i;obtain⟨b,o,y,rfl,hy,hr,_⟩:=Zny u hS hx hd;exact⟨y,by simp[Instr.loadAt,Instr.sureAddr,loadVar,Zeh ha,hy],hr⟩
def Zux{t n x e r side}(ha:J0 P t=sO true)(u:ZP P t=sO n)(hx:ZJ g Z w L x e)(hL:∀l cs,Zg L l=sO cs->YI g w (Z l) cs)(hS:Ya g U w)(hq:qv L U (.loadN n) [e]=sO (side,r))(hs:side):∃v,(Instr.loadAt t x).run P w=.ok v w/\ZJ g Z w L v r:=by
 simp only[qv,ZHI]at hq;obtain⟨⟨s',ds⟩,hd,rfl,rfl⟩:=hq;obtain⟨a,rfl,vs,i,hr⟩:=Zom (P:=P) hL hS hx hd hs;exact⟨.agg vs.toArray,by simp[Instr.loadAt,Instr.sureAddr,loadVar,ZfP ha,YH u,i],hr⟩
def ZAQ{b o n cap cs v}(hS:Ya g U w)(hv:Rep g w v (.msl b o n cap 1))(hcs:Z1 U b=sO cs)(hlen:o+n<=I cs)(hu:∀i,i<n->ZgF (part cs (o+i) 1)):
  ∃x:Value,(Conv.bytesToString v).run P w=.ok x w/\Rep g w x (.str ((ZHJ n).map λi=>ZaV (part cs (o+i) 1))):=by
 have ab:∀t,n<=t->t<=big->∃x:Value,(Conv.bytesToString (.slice (sO ⟨b,o,nO⟩) n t)).run P w=.ok x w/\Rep g w x (.str ((ZHJ n).map λi=>ZaV (part cs (o+i) 1))):=by
  intro t h1 h2;obtain⟨vs,hr,hp⟩:=Zfj (P:=P) (Qt hS hcs) hlen;have af:vs=((ZHJ n).map λi=>((ZaV (part cs (o+i) 1)).toNat:Int)).map (Value.int .u8):=by
   generalize u:part cs o n=pc at hp;have hpl:I pc=n:=by rw[<-u];simp[part];omega
   cases hp with
   |agg vs' _ hn hg _ =>
   apply List.ext_getElem?;intro i;by_cases hi:i<n;have hvi:i<I vs:=ω;obtain⟨m,hm⟩:=hu i hi;have ac:cs[o+i]?=sO (.int .u8 m):=by have:=congrArg (λl=>l[0]?) hm;simpa[part]using this
   have ae:pc[i]?=sO (.int .u8 m):=by rw[<-u];simp[part,hi];exact ac
   have:=hg i vs[i] _ (by grind) ae;simp_all;generalize vs[i]=xv at this;cases this;rename_i ad;simp[hi,ZaV];simp[inR,IntKind.min,IntKind.max,IntKind.signed,IntKind.bits]at ad;omega;simp_all
  refine⟨_,run_bytesToString w _ _ t _ (by rw[hr,af]),.str _ _ ?_ (by grind)⟩;rw[Zh7];simp
 cases hv with
 |msl _ _ _ _ _ h hb=>exact ab cap h hb
 |mslx a=>exact⟨.string .empty,by simp[Conv.bytesToString,loadCells,loadCellsFrom],.str _ _ rfl ψ⟩
def ZwK{s d c x e r side}(hS:Ya g U w)(hc:ZvS P s d=sO c)(hx:ZJ g Z w L x e)(hq:qv L U (.conv c) [e]=sO (side,r))(hs:side):
  ∃v,(convert s d x).run P w=.ok v w/\ZJ g Z w L v r:=by
 unfold ZvS at hc;split at hc<;>(try(simp at hc;done))
 .rename_i k0 k h1 h2;cases hc;cases e with
  |d y =>cases y<;>simp only[qv,reduceCtorEq]at hq;rename_i k' n;cases hx;rename_i hn;split at hq;rename_i hk;subst hk;cases hq;exact⟨.int k n,by simp[convert,run_underlying h1,run_underlying h2,Conv.intToInt,Zaj _ _ hn],.int _ _ hn⟩;cases hq;exact⟨.int k (k.wrap n),by simp[convert,run_underlying h1,run_underlying h2,Conv.intToInt],.int _ _ ZhD⟩
  |loc l o=>simp[qv]at hq
  |when b e=>simp[qv]at hq
 .rename_i k0 h1 h2;cases hc;cases e with
  |d y =>cases y<;>simp only[qv,reduceCtorEq]at hq;rename_i k' n;cases hx;cases hq;exact⟨.string (Utf8.encode n),by simp[convert,run_underlying h1,run_underlying h2,Conv.intToString],.str _ _ rfl hs⟩
  |loc l o=>simp[qv]at hq
  |when b e=>simp[qv]at hq
 .rename_i h1 h2;cases hc;cases e with
  |d y =>cases y<;>simp only[qv,reduceCtorEq]at hq;cases hq;cases hx;rename_i s0 e0 b0;exact⟨.string s0,by simp[convert,run_underlying h1,run_underlying h2],.str _ _ e0 b0⟩
  |loc l o=>simp[qv]at hq
  |when b e=>simp[qv]at hq
 rename_i el h1 h2;split at hc<;>(try(simp at hc;done));rename_i h3;cases hc;cases e with
 |d y =>
  cases y<;>simp only[qv,reduceCtorEq]at hq;cases hq;cases hx;exact⟨.string .empty,by simp[convert,run_underlying h1,run_underlying h2,run_underlying h3,Conv.bytesToString],.str _ _ rfl (by simp[big])⟩
  .split at hq<;>(try(simp at hq;done));rename_i t n s row ae;cases hq;subst ae;cases hx with
   |sl0 av=>exact⟨.string .empty,by cases av<;>simp[convert,run_underlying h1,run_underlying h2,run_underlying h3,Conv.bytesToString,loadCells,loadCellsFrom],.str _ _ rfl (by simp[big])⟩
   |sl b o _ cap _ _ _ f hl hc hp hr one ht hcap hb =>
    have hf:∀i,i<n->f i 0=.int .u8 ((ZaV (row i)).toNat:Int):=λi hi=>by
     obtain⟨m,hm⟩:=hs i hi;have:=hr i 0 _ hi (by rw[hm];rfl);generalize f i 0=fv at this;cases this;rename_i ad;rw[hm];simp only[ZaV]
     congr 1
     simp[inR,IntKind.min,IntKind.max,IntKind.signed,IntKind.bits]at ad;simp;omega
    have u:(loadCells ⟨b,o,nO⟩ n).run P w=.ok (((ZHJ n).map λi=>((ZaV (row i)).toNat:Int)).map (Value.int .u8)).toArray w:=by
     rw[run_loadCells (P:=P) w ⟨b,o,nO⟩ n (λi=>f i 0) (λj hj=>by
      have:=hc j 0 hj ω;rw[WT];simpa using this)]
     congr 2
     rw[List.map_map];exact List.map_congr_left λi hi=>hf i (by simpa using hi)
    refine⟨_,by simp[convert,run_underlying h1,run_underlying h2,run_underlying h3,run_bytesToString w _ _ cap _ u];rfl,.str _ _ ?_ (by simp;omega)⟩;rw[Zh7];simp[List.map_map,Function.comp_def]
  split at hq<;>(try(simp at hq;done));rename_i b o n cap z cs ac;split at hq<;>(try(simp at hq;done));rename_i hz;cases hq;subst hz;obtain⟨xv,hr,hp⟩:=ZAQ (P:=P) hS hx ac hs.1 hs.2;have ab:(convert s d x).run P w=(Conv.bytesToString x).run P w:=by cases hx<;>simp[convert,run_underlying h1,run_underlying h2,run_underlying h3]
  exact⟨xv,ab.trans hr,hp⟩
 |loc l o=>simp[qv]at hq
 |when b e=>simp[qv]at hq
end
section
variable {P:Program} {g:G} {Z:Nat->Nat} {w:World} {L:Loc}
def Qb{v k n}(h:Rep g w v (.int k n)):v=.int k n/\inR k n:=by
 cases h with
 |int _ _ h=>exact⟨rfl,h⟩
def ZcV{x k n}(h:Rep g w x (.int k n)){y:Nat}{code}(i:0<=n)(t:n<=y):
  (Instr.sliceBound x y code).run P w=.ok n.toNat w:=by
 obtain⟨rfl,_⟩:=Qb h;simp[Instr.sliceBound,asIntOf,i,t]
def Jm(g:G)(w:World):Option Value->Option Int->Prop
 |none,nO=>True
 |some v,sO n=>∃k,Rep g w v (.int k n)
 |_,_=>False
def ZaF{is}{n cap:Nat}{lo hi mx u hi' mx'}(h1:Jm g w lo u)(h2:Jm g w hi hi')(h3:Jm g w mx mx')(hmh:mx.isSome=true->hi.isSome=true)(a:0<=u.getD 0)(b:u.getD 0<=hi'.getD n)(c:hi'.getD n<=mx'.getD cap)(d:mx'.getD cap<=cap):
  (Instr.sliceBounds is n cap lo hi mx).run P w=.ok ((u.getD 0).toNat,(hi'.getD n).toNat,(mx'.getD cap).toNat) w:=by
 cases mx with
 |none =>
  cases mx' with
  |some _=>exact h3.elim
  |none =>
   cases hi with
   |none =>
    cases hi' with
    |some _=>exact h2.elim
    |none =>
     cases lo with
     |none =>
      cases u with
      |some _=>exact h1.elim
      |none=>simp[Instr.sliceBounds]
     |some lv =>
      cases u with
      |none=>exact h1.elim
      |some l =>obtain⟨k,hk⟩:=h1;simp[Instr.sliceBounds,ZcV hk a b]
   |some hv =>
    cases hi' with
    |none=>exact h2.elim
    |some hh =>
     obtain⟨k2,i⟩:=h2;simp at b c⊢;have bo:=ZcV (P:=P) i (y:=cap) (code:=if is then .sliceAcap else .sliceAlen) ω c;cases lo with
     |none =>
      cases u with
      |some _=>exact h1.elim
      |none=>simp[Instr.sliceBounds,bo]
     |some lv =>
      cases u with
      |none=>exact h1.elim
      |some l =>obtain⟨k,hk⟩:=h1;simp at a b⊢;have bl:=ZcV (P:=P) hk (y:=hh.toNat) (code:=.sliceB) a ω;simp[Instr.sliceBounds,bo,bl]
 |some mv =>
  cases mx' with
  |none=>exact h3.elim
  |some m =>
   obtain⟨k3,t⟩:=h3;cases hi with
   |none=>grind
   |some hv =>
    cases hi' with
    |none=>exact h2.elim
    |some hh =>
     obtain⟨k2,i⟩:=h2;simp at b c⊢;have bm:=ZcV (P:=P) t (y:=cap) (code:=if is then .slice3Acap else .slice3Alen) ω d;have bo:=ZcV (P:=P) i (y:=m.toNat) (code:=.slice3B) ω ω;cases lo with
     |none =>
      cases u with
      |some _=>exact h1.elim
      |none=>simp[Instr.sliceBounds,bo,bm]
     |some lv =>
      cases u with
      |none=>exact h1.elim
      |some l =>obtain⟨k,hk⟩:=h1;simp at a b⊢;have bl:=ZcV (P:=P) hk (y:=hh.toNat) (code:=.slice3C) a ω;simp[Instr.sliceBounds,bo,bm,bl]
def ZAq{t e s}(hu:P.underlying t=sO (.slice e))(hsz:ZP P e=sO s){x d r}(hx:Rep g w x d){lo hi mx lo' hi' mx'}(h1:Jm g w lo lo')(h2:Jm g w hi hi')(h3:Jm g w mx mx')(hmh:mx.isSome=true->hi.isSome=true){side}(hq:ZaU s lo' hi' mx' d=sO (side,r))(hs:side):
  ∃v,(Instr.sliceAt t x lo hi mx).run P w=.ok v w/\Rep g w v r:=by
 cases d<;>simp only[ZaU,reduceCtorEq]at hq
 .
  simp only[ZHu,ZHH]at hq;obtain⟨rfl,rfl⟩:=hq;cases hx;obtain⟨e1,e2,e3⟩:=hs;refine⟨.slice nO 0 0,?_,.nilsl⟩;have hb:=ZaF (P:=P) (is:=true) (n:=0) (cap:=0) h1 h2 h3 hmh ω (by simp[e1,e2]) (by simp[e2,e3]) (by simp[e3]);simp only[Instr.sliceAt,Sem.run_bind,run_underlying hu,Result.andThen_ok,Instr.slice,hb];simp[e1,e2,e3,YH hsz]
 .
  rename_i t n s' row;split at hq<;>(try(simp at hq;done));rename_i ai;subst ai;simp only[ZHu,ZHH]at hq;obtain⟨rfl,rfl⟩:=hq;obtain⟨a,b,c,d⟩:=hs;have mk:∀(cap:Nat),n<=cap->hi'.getD n<=mx'.getD cap/\mx'.getD cap<=cap:=λcap ab=>by
   cases mx' with
   |none=>simp only[Option.getD_none];omega
   |some m=>have:=d m rfl;simp only[ZIc];omega
  cases hx with
  |sl0 av _ _ _ ht =>
   have hb:=ZaF (P:=P) (is:=true) (n:=0) (cap:=0) h1 h2 h3 hmh a b (mk 0 (ZHK _)).1 (mk 0 (ZHK _)).2;have e2:hi'.getD ((0:Nat):Int)=0:=ω;have e1:lo'.getD 0=0:=ω;have e3:mx'.getD ((0:Nat):Int)=0:=by have:=mk 0 (ZHK _);omega
   simp only[Int.natCast_zero]at e2 e3;refine⟨.slice av 0 0,?_,?_⟩;·cases av<;>simp only[Instr.sliceAt,Sem.run_bind,run_underlying hu,Result.andThen_ok,Instr.slice,hb];all_goals simp[e1,e2,e3,YH hsz]
   have:(hi'.getD ((0:Nat):Int)-lo'.getD 0).toNat=0:=by simp[e1,e2]
   rw[this];refine .sl0 av _ _ _ ?_;intro b hb;cases mx' with
   |some m=>simp only[Zby]at hb;split at hb<;>simp at hb
   |none =>
    simp only[Zby]at hb;split at hb
    .cases t with
     |tip b'=>exact absurd rfl (ht b')
     |_=>simp at hb
    simp at hb
  |sl bb o _ cap _ _ _ f hl hc hp hr one ht ab hbig =>
   have hb:=ZaF (P:=P) (is:=true) (n:=n) (cap:=cap) h1 h2 h3 hmh a b (mk cap ab).1 (mk cap ab).2;have hm:=mk cap ab;simp only[Instr.sliceAt,Sem.run_bind,run_underlying hu,Result.andThen_ok,Instr.slice,hb];simp only[YH hsz,Result.andThen_ok,Sem.run_pure];generalize al:lo'.getD 0=l at *;generalize ak:hi'.getD (n:Int)=h at *;obtain⟨l,rfl⟩:=Int.eq_ofNat_of_zero_le a;obtain⟨h,rfl⟩:=Int.eq_ofNat_of_zero_le (show 0<=h by omega);generalize ah:mx'.getD (cap:Int)=m at *;obtain⟨m,rfl⟩:=Int.eq_ofNat_of_zero_le (show 0<=m by omega);simp only[Int.toNat_natCast];refine⟨_,rfl,?_⟩;have aj:((h:Int)-(l:Int)).toNat=h-l:=ω;rw[aj];have hle:h<=n:=ω;have hlh:l<=h:=ω;have hhm:h<=m:=ω;have hmc:m<=cap:=ω;generalize u:Zby t n l h mx'=tk;have af:∀o',(l=0->o'=o)->ZhK w tk bb o' (h-l) (m-l) s':=by
    intro o' am;cases mx' with
    |some m' =>simp only[Zby]at u;simp only[ZIc]at ah;split at u;subst u;simp only[ZhK];omega;subst u;trivial
    |none =>
     simp only[Zby]at u;simp only[Option.getD_none]at ah;have ag:m=cap:=ω;split at u
     .rename_i hhn';cases t with
      |none=>simp only at u;subst u;trivial
      |full=>simp only at u;subst u;simp only[ZhK]at ht⊢;omega
      |tip b' =>simp only at u;split at u;rename_i hl0;subst u;obtain⟨t1,t2,t3⟩:=ht;have ae:l=0:=ω;exact⟨t1,(am ae).trans t2,by rw[ag,ae];simpa using t3⟩;subst u;trivial
     subst u;trivial
   by_cases ac:m=l;simp only[ac,if_true];have hh:h-l=0:=ω;rw[hh,Nat.sub_self];have ad:=af o (λ_=>rfl);rw[hh,ac,Nat.sub_self]at ad;exact .sl bb o 0 0 s' _ tk (λ_ _=>undef) (λi hi=>by omega) (λi j hi=>by omega) (λi j hi=>by omega) (λi j d hi=>by omega) (λi j hi=>by omega) ad ω ω;simp only[ac,if_false,ZH4,WT];refine .sl bb (o+l*s') (h-l) (m-l) s' _ tk (λi j=>f (l+i) j) (λi hi=>hl _ ω) (λi j hi hj=>?_) (λi j hi hj=>?_) (λi j d hi hd=>hr _ _ _ ω hd)
    (λi j hi hj=>one _ _ ω hj) (af _ (λh0=>by rw[h0];simp)) ω ω
   have:=hc (l+i) j ω hj;rw[show o+l*s'+i*s'+j=o+(l+i)*s'+j from by rw[ZHU];omega];exact this;have:=hp (l+i) j ω hj;rw[show o+l*s'+i*s'+j=o+(l+i)*s'+j from by rw[ZHU];omega];exact this
 .
  rename_i bb o n cap s';split at hq<;>(try(simp at hq;done));rename_i ai;subst ai;simp only[ZHu,ZHH]at hq;obtain⟨rfl,rfl⟩:=hq;obtain⟨a,b,c,d⟩:=hs;cases hx with
  |mslx av _ _ _ =>have hb:=ZaF (P:=P) (is:=true) (n:=0) (cap:=0) h1 h2 h3 hmh a b c d;have e3:mx'.getD ((0:Nat):Int)=0:=ω;have e2:hi'.getD ((0:Nat):Int)=0:=ω;have e1:lo'.getD 0=0:=ω;refine⟨.slice (sO av) 0 0,?_,?_⟩;simp only[Instr.sliceAt,Sem.run_bind,run_underlying hu,Result.andThen_ok,Instr.slice,hb];simp only[Int.natCast_zero]at e2 e3;simp[e1,e2,e3,YH hsz];rw[e1,e2,e3];exact .mslx _ _ _ _
  |msl _ _ _ _ _ hn hb' =>have hb:=ZaF (P:=P) (is:=true) (n:=n) (cap:=cap) h1 h2 h3 hmh a b c d;simp only[Instr.sliceAt,Sem.run_bind,run_underlying hu,Result.andThen_ok,Instr.slice,hb];simp only[YH hsz,Result.andThen_ok,Sem.run_pure];generalize al:lo'.getD 0=l at *;generalize ak:hi'.getD (n:Int)=h at *;generalize ah:mx'.getD (cap:Int)=m at *;obtain⟨l,rfl⟩:=Int.eq_ofNat_of_zero_le a;obtain⟨h,rfl⟩:=Int.eq_ofNat_of_zero_le (show 0<=h by omega);obtain⟨m,rfl⟩:=Int.eq_ofNat_of_zero_le (show 0<=m by omega);simp only[Int.toNat_natCast,show((h:Int)-(l:Int)).toNat=h-l by omega,show((m:Int)-(l:Int)).toNat=m-l by omega];refine⟨_,rfl,?_⟩;by_cases ac:m=l;subst ac;simp only[if_true];exact .msl _ _ _ _ _ ω ω;have:¬(m:Int)=l:=ω;simp only[ac,this,if_false,ZH4,WT];exact .msl _ _ _ _ _ ω ω
end
section
variable {P:Program} {g:G} {Z:Nat->Nat} {w:World} {L:Loc} {U:St}
def Zq3{s k f}(h:Zhd P s k=sO f):∃i,P.underlying s=sO (.struct i)/\i[k]?=sO f:=by
 unfold Zhd at h;split at h;rename_i i t;exact⟨i,t,h⟩;simp at h
def Zuu{s k n f x e r side}(hf:Zhd P s k=sO f)(u:ZP P f.type=sO n)(hn:n≠0)(hx:ZJ g Z w L x e)(i:qv L U (.faddr f.offset) [e]=sO (side,r)):∃v,(Instr.fieldAt s x k).run P w=.ok v w/\ZJ g Z w L v r:=by
 obtain⟨fs,hu,hk⟩:=Zq3 hf;have run:∀b o,(Instr.fieldAt s (.pointer (sO ⟨b,o,nO⟩)) k).run P w=.ok (.pointer (sO ⟨b,o+f.offset,nO⟩)) w:=λb o=>by simp[Instr.fieldAt,run_underlying hu,hk,Instr.sureAddr,fieldPlace,YH u,hn,WT]
 cases e with
 |d y =>
  cases y<;>simp only[qv,reduceCtorEq,ZHu,ZHH]at i
  .rename_i cells off;obtain⟨rfl,rfl⟩:=i;cases hx with
   |ep b o _ _ f' t h2 h3 one =>have:=Rep.ep (g:=g) (w:=w) b o (off+f.offset) cells f' t h2 h3 one;exact⟨_,run _ _,by rw[Nat.add_assoc];exact this⟩
  obtain⟨rfl,rfl⟩:=i;cases hx;exact⟨_,run _ _,.ptr _ _⟩
 |loc l o =>simp only[qv,ZHu,ZHH]at i;obtain⟨rfl,rfl⟩:=i;obtain⟨t,rfl⟩:=hx;exact⟨_,run _ _,t,rfl⟩
 |when b e=>simp[qv]at i
def Zuv{t e n x i ex ei r side}(hu:P.underlying t=sO (.slice e))(hsz:ZP P e=sO n)(hx:ZJ g Z w L x ex)(hi:ZJ g Z w L i ei)(hq:qv L U (.iaddr n) [ex,ei]=sO (side,r))(hs:side):∃v,(Instr.indexAt t x i).run P w=.ok v w/\ZJ g Z w L v r:=by
 cases ex with
 |d y =>
  cases y<;>(try(simp[qv]at hq;done))
  .rename_i tk m s' row;cases ei with
   |d z =>
    cases z<;>simp only[qv,reduceCtorEq]at hq;rename_i k j;obtain⟨rfl,ad⟩:=Qb hi;split at hq<;>(try(simp at hq;done));rename_i ac;subst ac;simp only[ZHu,ZHH]at hq;obtain⟨rfl,rfl⟩:=hq;obtain⟨h0,h1⟩:=hs;cases hx with
    |sl0=>omega
    |sl b o _ cap _ _ _ f hl hc hp hr one ht hcap hbig =>
     have ab:j.toNat<m:=ω;have:=Rep.ep (g:=g) (w:=w) b (o+j.toNat*s') 0 (row j.toNat) (λc=>f j.toNat c) (λc u=>by
      rw[hl _ ab]at u;exact hc _ _ ab u) (λc u=>by rw[hl _ ab]at u;exact hp _ _ ab u) (λc d hd=>hr _ _ _ ab hd) (λc u=>by rw[hl _ ab]at u;exact one _ _ ab u)
     refine⟨_,?_,this⟩;simp[Instr.indexAt,asIntOf,run_underlying hu,h0,h1,YH hsz,WT]
   |loc l o=>simp[qv]at hq
   |when b e=>simp[qv]at hq
  rename_i b o m cap s';cases ei with
  |d z =>
   cases z<;>simp only[qv,reduceCtorEq]at hq;rename_i k j;obtain⟨rfl,ad⟩:=Qb hi;split at hq<;>(try(simp at hq;done));rename_i ac;subst ac;simp only[ZHu,ZHH]at hq;obtain⟨rfl,rfl⟩:=hq;obtain⟨h0,h1⟩:=hs;cases hx<;>try omega
   refine⟨_,?_,Rep.ptr b (o+j.toNat*s')⟩;simp[Instr.indexAt,asIntOf,run_underlying hu,h0,h1,YH hsz,WT]
  |loc l o=>simp[qv]at hq
  |when b e=>simp[qv]at hq
 |loc l o=>cases ei<;>simp[qv]at hq
 |when b e=>cases ei<;>simp[qv]at hq
def ZtN{t e m n x i ex ei r side}(hu:P.underlying t=sO (.array m e))(hsz:ZP P e=sO n)(hx:ZJ g Z w L x ex)(hi:ZJ g Z w L i ei)(u:qv L U (.iaddrA m n) [ex,ei]=sO (side,r))(hs:side):∃v,(Instr.indexAt t x i).run P w=.ok v w/\ZJ g Z w L v r:=by
 cases ei with
 |d z =>
  cases z<;>(try(cases ex<;>(try(rename_i y;cases y))<;>simp[qv]at u;done));rename_i k j;obtain⟨rfl,hin⟩:=Qb hi;have run:∀b o,(0<=j/\j<(m:Int))->(Instr.indexAt t (.pointer (sO ⟨b,o,nO⟩)) (.int k j)).run P w=.ok (.pointer (sO ⟨b,o+j.toNat*n,nO⟩)) w:=λb o h=>by simp[Instr.indexAt,asIntOf,run_underlying hu,h.1,h.2,YH hsz,WT,Instr.sureAddr]
  cases ex with
  |d y =>
   cases y<;>simp only[qv,reduceCtorEq,ZHu,ZHH]at u
   .rename_i cells off;obtain⟨rfl,rfl⟩:=u;cases hx with
    |ep b o _ _ f' h1 h2 h3 one =>have:=Rep.ep (g:=g) (w:=w) b o (off+j.toNat*n) cells f' h1 h2 h3 one;exact⟨_,run _ _ hs,by rw[Nat.add_assoc];exact this⟩
   rename_i b o;obtain⟨rfl,rfl⟩:=u;cases hx;exact⟨_,run _ _ hs,Rep.ptr _ _⟩
  |loc l o =>simp only[qv,ZHu,ZHH]at u;obtain⟨rfl,rfl⟩:=u;obtain⟨h1,rfl⟩:=hx;exact⟨_,run _ _ hs,h1,rfl⟩
  |when b e=>simp[qv]at u
 |loc l o=>cases ex<;>(try(rename_i y;cases y))<;>simp[qv]at u
 |when b e=>cases ex<;>(try(rename_i y;cases y))<;>simp[qv]at u
def ev{s e}(h:∃v,s.run P w=.ok v w/\ZJ g Z w L v e):
  ∃v,(do pure (Next.value (<-s)):Sem Next).run P w=.ok (.value v) w/\ZJ g Z w L v e:=Zy1.next h
def Zuy{x e r side op ρv}(hv:ρv op=x)(u:ZJ g Z w L x e)(t:qv L U .nilck [e]=sO (side,r))(dst ty pos)(af gd):∃v,(execOp ρv ⟨dst,.nilCheck op,ty,pos,af,gd⟩).run P w=.ok (.value v) w/\ZJ g Z w L v r:=by
 subst hv;cases e with
 |d y =>cases y<;>simp only[qv,reduceCtorEq,ZHu,ZHH]at t;obtain⟨rfl,rfl⟩:=t;refine⟨_,?_,u⟩;have i:Rep g w (ρv op) _:=u;generalize hz:ρv op=z at i;cases i;simp[execOp,hz];obtain⟨rfl,rfl⟩:=t;refine⟨_,?_,u⟩;have i:Rep g w (ρv op) _:=u;generalize hz:ρv op=z at i;cases i;simp[execOp,hz];rename_i fn fs cs;refine⟨ρv op,?_,?_⟩;have i:Rep g w (ρv op) _:=u;generalize hz:ρv op=z at i;cases i;cases fn<;>simp at t;simp[execOp,hz];simp[execOp,hz];cases fn<;>simp at t;obtain⟨_,rfl⟩:=t;exact u;obtain⟨_,rfl⟩:=t;exact u
 |loc l o =>simp only[qv,ZHu,ZHH]at t;obtain⟨rfl,rfl⟩:=t;refine⟨_,?_,u⟩;obtain⟨_,h2⟩:=u;simp[execOp,h2]
 |when b e=>simp[qv]at t
end
section
variable {P:Program} {g:G} {Z:Nat->Nat} {w:World} {L:Loc} {U:St}
def ZhO{ρv lo hi mx es l h m}(hes:ZH (ZJ g Z w L) ((QW lo++QW hi++QW mx).map ρv) es)(hl:Wz [lo.isSome,hi.isSome,mx.isSome] es=sO [l,h,m]):Jm g w (lo.map ρv) l/\Jm g w (hi.map ρv) h/\Jm g w (mx.map ρv) m:=by
 have step:∀(o:Option Operand) (rest:List Operand) (es:List E) (bs:List Bool) (r:List (Option Int)),ZH (ZJ g Z w L) ((QW o++rest).map ρv) es->Wz (o.isSome::bs) es=sO r ->
   ∃x r' es',r=x::r'/\Jm g w (o.map ρv) x/\Wz bs es'=sO r'/\ZH (ZJ g Z w L) (rest.map ρv) es':=by
  intro o rest es bs r hes hl;cases o with
  |none =>simp only[Option.isSome_none,Wz,ZHI]at hl;obtain⟨r',i,rfl⟩:=hl;exact⟨nO,r',es,rfl,trivial,i,by simpa[QW]using hes⟩
  |some x =>
   simp only[QW,Option.toList_some,List.singleton_append,ZHM]at hes;cases hes with
   |cons hx ht =>
    rename_i e es;cases e with
    |d y =>cases y<;>simp only[Option.isSome_some,Wz,reduceCtorEq,ZHI]at hl;obtain⟨r',i,rfl⟩:=hl;exact⟨_,r',es,rfl,⟨_,hx⟩,i,ht⟩
    |loc l o=>simp[Wz]at hl
    |when c e=>simp[Wz]at hl
 rw[ZHY]at hes;obtain⟨x,r1,ab,e1,b1,ad,t⟩:=step lo _ es _ _ hes hl;obtain⟨y,r2,ac,e2,b2,ae,u⟩:=step hi _ ab _ _ t ad;obtain⟨z,r3,es3,e3,b3,hl3,hes3⟩:=step mx [] ac _ _ (by simpa using u) ae;subst e2;subst e3;simp only[List.cons.injEq]at e1;obtain⟨rfl,rfl,rfl,rfl⟩:=e1;exact⟨b1,b2,b3⟩
def Zlj{v l}(h:Rep g w v (.str l)):∃s:ByteArray,v=.string s/\s.data.toList=l/\I l<=big:=by
 cases h with
 |str s _ h hb=>exact⟨s,rfl,h,hb⟩
def ZbK{v b}(h:Rep g w v (.bool b)):v=.bool b:=by
 cases h;rfl
def ZtQ{t}(hu:P.underlying t=sO .string){ρv x lo hi es}(hes:ZH (ZJ g Z w L) ((x::(QW lo++QW hi)).map ρv) es){side r}(hq:qv L U (.sliceS lo.isSome hi.isSome) es=sO (side,r))(hs:side):
  ∃v,(Instr.sliceAt t (ρv x) (lo.map ρv) (hi.map ρv) nO).run P w=.ok v w/\ZJ g Z w L v r:=by
 simp only[ZHM]at hes;cases hes with
 |cons hx ht =>
  rename_i e es;cases e with
  |loc l o=>simp[qv]at hq
  |when c e=>simp[qv]at hq
  |d y =>
   cases y<;>(try(simp[qv]at hq;done));rename_i s;simp only[qv]at hq;split at hq;rename_i l h m hl;simp only[ZHu,ZHH]at hq;obtain⟨rfl,rfl⟩:=hq;obtain⟨b1,b2,b3⟩:=ZhO (mx:=nO) (by simpa[QW]using ht) hl;obtain⟨a,b,c⟩:=hs;obtain⟨s0,u,e0,hb0⟩:=Zlj hx;have i:s0.size=I s:=by rw[<-e0];rfl
   have hb:=ZaF (P:=P) (is:=false) (n:=s0.size) (cap:=s0.size) (mx:=nO) (mx':=nO) b1 b2 trivial ψ a (by rw[i];exact b) (by rw[i];simpa using c) ψ;simp only[Instr.sliceAt,Sem.run_bind,run_underlying hu,Result.andThen_ok,Instr.slice,u];simp only[Option.isSome_none,ZH5,if_false,hb,Result.andThen_ok,Sem.run_pure,Sem.run_bind];refine⟨_,rfl,.str _ _ ?_ ?_⟩;rw[i];simp only[ByteArray.data_extract,Array.toList_extract,List.extract_eq_take_drop,e0];simp;omega;simp at hq
def Zuz{t el n}(hu:P.underlying t=sO (.slice el))(hsz:ZP P el=sO n){ρv x lo hi mx es}(hmh:mx.isSome=true->hi.isSome=true)(hes:ZH (ZJ g Z w L) ((x::(QW lo++QW hi++QW mx)).map ρv) es){side r}(u:qv L U (.slice n lo.isSome hi.isSome mx.isSome) es=sO (side,r))(hs:side):
  ∃v,(Instr.sliceAt t (ρv x) (lo.map ρv) (hi.map ρv) (mx.map ρv)).run P w=.ok v w/\ZJ g Z w L v r:=by
 simp only[ZHM]at hes;cases hes with
 |cons hx ht =>
  rename_i e es;cases e with
  |loc l o=>simp[qv]at u
  |when c e=>simp[qv]at u
  |d y =>simp only[qv]at u;split at u;rename_i l h m hl;simp only[ZHI,ZHH]at u;obtain⟨⟨s',r'⟩,i,rfl,rfl⟩:=u;obtain⟨b1,b2,b3⟩:=ZhO ht hl;exact ZAq hu hsz hx b1 b2 b3 (by simpa using hmh) i hs;simp at u
def ZtP{t el k n}(hu:P.underlying t=sO (.array k el))(hsz:ZP P el=sO n){ρv x lo hi mx es}(hmh:mx.isSome=true->hi.isSome=true)(hes:ZH (ZJ g Z w L) ((x::(QW lo++QW hi++QW mx)).map ρv) es){side r}(hq:qv L U (.sliceA k n lo.isSome hi.isSome mx.isSome) es=sO (side,r))(hs:side):
  ∃v,(Instr.sliceAt t (ρv x) (lo.map ρv) (hi.map ρv) (mx.map ρv)).run P w=.ok v w/\ZJ g Z w L v r:=by
 simp only[ZHM]at hes;cases hes with
 |cons hx ht =>
  rename_i e es;cases e with
  |loc l o=>simp[qv]at hq
  |when c e=>simp[qv]at hq
  |d y =>
   cases y<;>(try(simp[qv]at hq;done));rename_i b o;simp only[qv]at hq;split at hq;rename_i l h m hl;simp only[ZHu,ZHH]at hq;obtain⟨rfl,rfl⟩:=hq;obtain⟨b1,b2,b3⟩:=ZhO ht hl;obtain⟨h1,h2,h3,h4,h5⟩:=hs;have hb:=ZaF (P:=P) (is:=false) (n:=k) (cap:=k) b1 b2 b3 (by simpa using hmh) h1 h2 h3 h4;have ac:ρv x=.pointer (sO ⟨b,o,nO⟩):=by have ab:Rep g w (ρv x) (.ptr b o):=hx;generalize ρv x=xv at ab;cases ab;rfl
   have u:Rep g w (.slice (sO ⟨b,(if m.getD (k:Int)=l.getD 0 then o else o+(l.getD 0).toNat*n),nO⟩) (h.getD (k:Int)-l.getD 0).toNat (m.getD (k:Int)-l.getD 0).toNat)
     (.msl b (if m.getD (k:Int)=l.getD 0 then o else o+(l.getD 0).toNat*n) (h.getD (k:Int)-l.getD 0).toNat (m.getD (k:Int)-l.getD 0).toNat n):=.msl _ _ _ _ _ ω ω
   refine⟨_,?_,u⟩;have e1:(h.getD (k:Int)-l.getD 0).toNat=(h.getD (k:Int)).toNat-(l.getD 0).toNat:=ω;have e2:(m.getD (k:Int)-l.getD 0).toNat=(m.getD (k:Int)).toNat-(l.getD 0).toNat:=ω;by_cases hm:m.getD (k:Int)=l.getD 0;have i:(m.getD (k:Int)).toNat=(l.getD 0).toNat:=ω;simp only[Instr.sliceAt,ac,Instr.sureAddr,Sem.run_bind,run_underlying hu,Result.andThen_ok,Sem.run_pure,hb,YH hsz,hm,if_true,e1,i];simp;have i:¬(m.getD (k:Int)).toNat=(l.getD 0).toNat:=ω;simp only[Instr.sliceAt,ac,Instr.sureAddr,Sem.run_bind,run_underlying hu,Result.andThen_ok,Sem.run_pure,hb,YH hsz,hm,i,if_false,e1,e2,WT];simp at hq
end
section
variable {P:Program} {g:G} {Z:Nat->Nat} {w:World} {L:Loc} {U:St}
def Zq2{s k f x e r side q}(hf:Zhd P s k=sO f)(u:(J0 P f.type=sO true/\∃n,ZP P f.type=sO n/\q=.fldN f.offset n)\/(J0 P f.type=sO false/\q=.fld1 f.offset))(hx:ZJ g Z w L x e)(i:qv L U q [e]=sO (side,r))(hs:side):∃v,(Instr.field s x k).run P w=.ok v w/\ZJ g Z w L v r:=by
 obtain⟨fs,hu,hk⟩:=Zq3 hf;rcases u with ⟨t,n,hn,rfl⟩|⟨t,rfl⟩
 .cases e with
  |d y =>
   cases y<;>simp only[qv,reduceCtorEq,ZHu,ZHH]at i;obtain⟨rfl,rfl⟩:=i;cases hx with
   |agg vs cells hl h one =>
    rename_i cs;refine⟨.agg (vs.toArray.extract f.offset (f.offset+n)),?_,?_⟩;simp[Instr.field,run_underlying hu,hk,asAgg,Go.part,ZfP t,YH hn];have:vs.toArray.extract f.offset (f.offset+n)=((vs.drop f.offset).take n).toArray:=by apply Array.ext';simp[List.extract_eq_take_drop,Nat.add_sub_cancel_left]
    rw[this];exact Zlh (by simpa[part]using((Ye hl h).drop f.offset).take n) (λv hv=>one v (List.mem_of_mem_drop (List.mem_of_mem_take (by simpa using hv))))
  |loc l o=>simp[qv]at i
  |when b e=>simp[qv]at i
 cases e with
 |d y =>
  cases y<;>simp only[qv,reduceCtorEq,ZHI,ZHH]at i;obtain⟨d,hd,rfl,rfl⟩:=i;cases hx with
  |agg vs cells hl h one =>obtain⟨v,hv,hr⟩:=ZbL hl h hd;exact⟨v,by simp[Instr.field,run_underlying hu,hk,asAgg,Go.part,Zeh t,hv],hr⟩
 |loc l o=>simp[qv]at i
 |when b e=>simp[qv]at i
def ZwM{t x i ex ei r side}(hu:P.underlying t=sO .string)(hx:ZJ g Z w L x ex)(hi:ZJ g Z w L i ei)(hq:qv L U .idxS [ex,ei]=sO (side,r))(hs:side):∃v,(Instr.index t x i).run P w=.ok v w/\ZJ g Z w L v r:=by
 cases ex with
 |d y =>
  cases y<;>(try(simp[qv]at hq;done));rename_i s;cases ei with
  |d z =>
   cases z<;>simp only[qv,reduceCtorEq,ZHu,ZHH]at hq;rename_i k j;obtain⟨rfl,hin⟩:=Qb hi;obtain⟨s0,rfl,e0,hb⟩:=Zlj hx;obtain⟨rfl,rfl⟩:=hq;obtain⟨h0,h1⟩:=hs;have hsz:s0.size=I s:=by rw[<-e0];rfl
   have ab:j.toNat<s0.size:=ω;have u:s0[j.toNat]?=sO (s.getD j.toNat 0):=by
    have h3:j.toNat<I s:=ω;have:s0[j.toNat]?=s0.data.toList[j.toNat]?:=by rw[getElem?_pos s0 j.toNat ab,Array.getElem?_toList,Array.getElem?_eq_getElem (show j.toNat<s0.data.size from ab)];rfl
    rw[this,e0];simp[ZHL,ZH6 h3]
   refine⟨_,?_,.int _ _ (Zs7 _)⟩;simp[Instr.index,asIntOf,run_underlying hu,h0,u]
  |loc l o=>simp[qv]at hq
  |when b e=>simp[qv]at hq
 |loc l o=>cases ei<;>simp[qv]at hq
 |when b e=>cases ei<;>simp[qv]at hq
def ZwL{t e m n b x i ex ei r side}(hu:P.underlying t=sO (.array m e))(ha:J0 P e=sO b)(hsz:ZP P e=sO n)(hx:ZJ g Z w L x ex)(hi:ZJ g Z w L i ei)(hq:qv L U (.idxA m n !b) [ex,ei]=sO (side,r))(hs:side):∃v,(Instr.index t x i).run P w=.ok v w/\ZJ g Z w L v r:=by
 cases ex with
 |d y =>
  cases y<;>(try(cases b<;>simp[qv]at hq;done));rename_i cs;cases ei with
  |d z =>
   cases z<;>(try(cases b<;>simp[qv]at hq;done));rename_i k j;obtain⟨rfl,hin⟩:=Qb hi;cases hx with
   |agg vs _ hn h one =>
   cases b with
   |false =>
    simp only[Bool.not_false,qv,ZHI,ZHH]at hq;obtain⟨d,hd,rfl,rfl⟩:=hq;obtain⟨h0,h1⟩:=hs;obtain⟨v,hv,hr⟩:=ZbL hn h hd;refine⟨v,?_,hr⟩;simp only[Instr.index,asIntOf,Sem.run_bind,Sem.run_pure,Result.andThen_ok,run_underlying hu,YH hsz];rw[if_pos ⟨h0,h1⟩];have ac:vs.toArray[j.toNat*n]?=sO v:=by rw[List.getElem?_toArray];exact hv
    rw[Sem.run_bind,YH hsz];exact Zdb ha ac
   |true =>
    simp only[Bool.not_true,qv,ZHu,ZHH]at hq;obtain⟨rfl,rfl⟩:=hq;obtain⟨h0,h1,h2⟩:=hs;have hlen:j.toNat*n+n<=I vs:=ω;refine⟨.agg (vs.toArray.extract (j.toNat*n) (j.toNat*n+n)),?_,?_⟩;simp only[Instr.index,asIntOf,Sem.run_bind,Sem.run_pure,Result.andThen_ok,run_underlying hu,YH hsz];rw[if_pos ⟨h0,h1⟩];simp[Go.part,ZfP ha,YH hsz];have:(vs.toArray.extract (j.toNat*n) (j.toNat*n+n))=((vs.drop (j.toNat*n)).take n).toArray:=by apply Array.ext';simp[List.extract_eq_take_drop]
    rw[this];have ab:part cs (j.toNat*n) n=(cs.drop (j.toNat*n)).take n:=rfl;rw[ab];have u:=(Ye hn h).drop (j.toNat*n) |>.take n;exact .agg _ _ u.len u.get (λv hv=>one v (List.mem_of_mem_drop (List.mem_of_mem_take hv)))
  |loc l o=>cases b<;>simp[qv]at hq
  |when c e=>cases b<;>simp[qv]at hq
 |loc l o=>cases ei<;>cases b<;>simp[qv]at hq
 |when c e=>cases ei<;>cases b<;>simp[qv]at hq
def ZwQ{t ts x e r side}(ht:ts[0]?=sO t)(hu:P.underlying t=sO .string)(hx:ZJ g Z w L x e)(u:qv L U .lenS [e]=sO (side,r))(ty):∃v,(Builtin.len_ ts ty #[x]).run P w=.ok v w/\ZJ g Z w L v r:=by
 cases e with
 |d y =>
  cases y<;>simp only[qv,reduceCtorEq,ZHu,ZHH]at u;obtain⟨rfl,rfl⟩:=u;obtain⟨s0,rfl,e0,hb⟩:=Zlj hx;rename_i s;have i:s0.size=I s:=by rw[<-e0];rfl
  refine⟨_,?_,.int _ _ (KR hb)⟩;simp[Builtin.len_,ht,run_underlying hu,goInt,i]
 |loc l o=>simp[qv]at u
 |when b e=>simp[qv]at u
def ZwO{t el ts x e r side}(u:ts[0]?=sO t)(hu:P.underlying t=sO (.slice el))(hx:ZJ g Z w L x e)(i:qv L U .lenL [e]=sO (side,r))(ty):∃v,(Builtin.len_ ts ty #[x]).run P w=.ok v w/\ZJ g Z w L v r:=by
 cases e with
 |d y =>
  cases y<;>simp only[qv,reduceCtorEq,ZHu,ZHH]at i;obtain⟨rfl,rfl⟩:=i;cases hx;exact⟨_,by simp[Builtin.len_,u,run_underlying hu,goInt],.int _ _ (KR (n:=0) (Nat.zero_le _))⟩
  .obtain⟨rfl,rfl⟩:=i;cases hx with
   |sl0=>exact⟨_,by simp[Builtin.len_,u,run_underlying hu,goInt],.int _ _ (KR (n:=0) (Nat.zero_le _))⟩
   |sl b o _ cap _ _ _ f hl hc hp hr one ht' hcap hbig =>exact⟨_,by simp[Builtin.len_,u,run_underlying hu,goInt],.int _ _ (KR ω)⟩
  obtain⟨rfl,rfl⟩:=i;cases hx with
  |mslx=>exact⟨_,by simp[Builtin.len_,u,run_underlying hu,goInt],.int _ _ (KR (n:=0) (Nat.zero_le _))⟩
  |msl _ _ _ _ _ h1 h2=>exact⟨_,by simp[Builtin.len_,u,run_underlying hu,goInt],.int _ _ (KR ω)⟩
 |loc l o=>simp[qv]at i
 |when b e=>simp[qv]at i
def ZwN{t u n ts x e r side}(ht:ts[0]?=sO t)(hu:P.underlying t=sO (.array n u))(i:qv L U (.lenA n) [e]=sO (side,r))(hs:side)(ty):∃v,(Builtin.len_ ts ty #[x]).run P w=.ok v w/\ZJ g Z w L v r:=by
 simp only[qv,ZHu,ZHH]at i;obtain⟨rfl,rfl⟩:=i;refine⟨.i n,?_,.int _ _ hs⟩;simp only[Builtin.len_,ht];cases x<;>simp[run_underlying hu,goInt]
def ZkG{x y ex t r side}(mx:Bool)(hx:ZJ g Z w L x ex)(hy:ZJ g Z w L y t)(i:qv L U (if mx then .max else .min) [ex,t]=sO (side,r))(ts ty):
  ∃v,(if mx then Builtin.max_ ts ty #[x,y] else Builtin.min_ ts ty #[x,y]).run P w=.ok v w/\ZJ g Z w L v r:=by
 cases ex with
 |d a =>
  cases a<;>(try(cases mx<;>simp[qv]at i;done));rename_i k n;cases t with
  |d b =>
   cases b<;>(try(cases mx<;>simp[qv]at i;done));rename_i k' m;obtain⟨rfl,h1⟩:=Qb hx;obtain⟨rfl,h2⟩:=Qb hy;cases mx
   .simp only[qv,ZH5,if_false]at i;split at i<;>(try(simp at i;done));rename_i u;subst u;simp only[ZHu,ZHH]at i;obtain⟨rfl,rfl⟩:=i;refine⟨.int k (Min.min n m),?_,.int _ _ ?_⟩;have:(if m<n then m else n)=Min.min n m:=by split<;>omega
    simp[Builtin.min_,Builtin.min2,this];unfold inR at *;omega
   simp only[qv,if_true]at i;split at i<;>(try(simp at i;done));rename_i u;subst u;simp only[ZHu,ZHH]at i;obtain⟨rfl,rfl⟩:=i;refine⟨.int k (Max.max n m),?_,.int _ _ ?_⟩;have:(if m > n then m else n)=Max.max n m:=by split<;>omega
   simp[Builtin.max_,Builtin.max2,this];unfold inR at *;omega
  |loc l o=>cases mx<;>simp[qv]at i
  |when b e=>cases mx<;>simp[qv]at i
 |loc l o=>cases mx<;>cases t<;>simp[qv]at i
 |when b e=>cases mx<;>cases t<;>simp[qv]at i
def Zrw{x t xt ok z e r side}(hu:∃d,P.underlying t=sO d/\∀ms,d≠.interface ms)(hz:Zdy P t=sO z)(hx:ZJ g Z w L x e)(hq:qv L U (.tassert t ok z) [e]=sO (side,r)):∃v,(Instr.typeAssert x xt t ok).run P w=.ok v w/\ZJ g Z w L v r:=by
 obtain⟨d,hu,u⟩:=hu;have ac:∃zv,(zeroValue t).run P w=.ok zv w/\Rep g w zv z:=by
  unfold Zdy at hz;cases hi:P.info? t with
  |none=>simp[hi]at hz
  |some i =>
   cases ad:i.zero with
   |none=>simp[hi,ad]at hz
   |some zv=>simp only[hi,ad]at hz;exact⟨zv,by simp[zeroValue,typeInfo,hi,ad],Zjo hz⟩
 cases e with
 |d y =>
  cases y<;>(try(cases ok<;>simp[qv]at hq;done))
  .rename_i t' v';cases hx with
   |iface _ v _ hv =>
    cases ok;·simp only[qv]at hq;split at hq<;>(try(simp at hq;done));rename_i ab;subst ab;simp only[ZHu,ZHH]at hq;obtain⟨rfl,rfl⟩:=hq;refine⟨v,?_,hv⟩;simp only[Instr.typeAssert,Sem.run_bind,run_underlying hu,Result.andThen_ok];cases d<;>first|(simp;done)|(exact absurd rfl (u _))
    simp only[qv]at hq;split at hq<;>(try(simp at hq;done));rename_i ab;subst ab;simp only[ZHu,ZHH]at hq;obtain⟨rfl,rfl⟩:=hq;refine⟨.tuple #[v,.bool true],?_,?_⟩;·simp only[Instr.typeAssert,Sem.run_bind,run_underlying hu,Result.andThen_ok];cases d<;>first|(simp;done)|(exact absurd rfl (u _))
    exact .tup [v,.bool true] _ rfl (ZH.get (.cons hv (.cons (.bool true) .nil)))
  cases hx;cases ok;simp[qv]at hq;simp only[qv,ZHu,ZHH]at hq;obtain⟨rfl,rfl⟩:=hq;obtain⟨zv,h1,h2⟩:=ac;refine⟨.tuple #[zv,.bool false],?_,?_⟩;·simp only[Instr.typeAssert,Sem.run_bind,run_underlying hu,Result.andThen_ok];cases d<;>first|(simp[h1];done)|(exact absurd rfl (u _))
  exact .tup [zv,.bool false] _ rfl (ZH.get (.cons h2 (.cons (.bool false) .nil)))
 |loc l o=>cases ok<;>simp[qv]at hq
 |when b e=>cases ok<;>simp[qv]at hq
end
section
variable {P:Program} {g:G} {w:World}
def Zbw{t k}(h:Qc P t=sO k):(k=.bool/\P.underlying t=sO .bool)\/(k=.int/\∃ik,P.underlying t=sO (.int ik))\/(k=.str/\P.underlying t=sO .string):=by
 unfold Qc at h;split at h<;>simp at h<;>subst h<;>rename_i i;exact .inl ⟨rfl,i⟩;exact .inr (.inl ⟨rfl,_,i⟩);exact .inr (.inr ⟨rfl,i⟩)
def Zeo{t kp}(h:J7 P t=sO kp):(∃k,kp=.sc k/\Qc P t=sO k) \/
  ∃i l n,kp=.st l/\P.underlying t=sO (.struct i)/\ZP P t=sO n/\Kq P i.toList=sO l/\l.map (·.1)=ZHJ n/\P.stoodInHeld t=false:=by
 unfold J7 at h;split at h;rename_i k hk;simp at h;exact .inl ⟨k,h.symm,hk⟩;split at h<;>(try(simp at h;done));rename_i i n hu hn;split at h<;>(try(simp at h;done));rename_i l hl;split at h<;>simp at h;rename_i u;exact .inr ⟨i,l,n,h.symm,hu,hn,hl,u.1,u.2⟩
def Zl7{kt kp}(hk:J7 P kt=sO kp){k1 k2 d1 d2}(h1:Rep g w k1 d1)(h2:Rep g w k2 d2){b}(h:Kl kp d1 d2=sO b):
  (Op.equal kt k1 k2).run P w=.ok b w:=by
 rcases Zeo hk with ⟨k,rfl,hs⟩|⟨fs,l,n,rfl,hu,hn,hl,_,u⟩;exact ZgR hs h1 h2 h 9999;cases h1<;>cases h2<;>simp only[Kl,reduceCtorEq]at h;rename_i v1 xs i r1 o1 v2 ys t r2 o2;split at h<;>(try(simp at h;done));have hf:P.underlying kt=sO (.struct (P.fieldsOf kt)):=by simp[Program.fieldsOf,hu]
 refine(run_equalIn_struct w 9999 kt _ _ hf u).trans ?_;simp only[Program.fieldsOf,hu];exact Zdn i t r1 r2 9998 _ l b hl h
def ZcW(em n){vs:List Value}{ds}(hn:I vs=I ds):∀(fs l b),Kq P fs=sO l->Wn ds ds l=sO b ->
  (do
   for f in fs do
    if f.name ≠ "_" then Instr.checkKey em (n+1) f.type (<-Go.part f.type vs.toArray f.offset):Sem Unit).run P w=.ok () w
 | [],_,_,_,_=>by simp
 |f::fs,l,b,hl,hb=>by
  simp only[Kq]at hl;by_cases hf:f.name = "_";simp only[hf,if_true]at hl;have:=ZcW em n hn fs l b hl hb;simp only[List.forIn_cons,hf,ne_eq,not_true_eq_false,if_false,Sem.run_bind,Sem.run_pure,Result.andThen_ok]at this⊢;exact this;simp only[hf,if_false]at hl;split at hl<;>simp only[ZHu,reduceCtorEq]at hl;rename_i k l' hk u;subst hl;simp only[Wn]at hb;split at hb<;>(try(simp at hb;done));rename_i x y hx hy;split at hb<;>(try(simp at hb;done));rename_i b1 b2 hb1 i;have ih:=ZcW em n hn fs l' b2 u i;have ab:f.offset<I vs:=by rw[hn];exact(List.getElem?_eq_some_iff.1 hx).1
  have hv:vs.toArray[f.offset]?=sO vs[f.offset]:=by simp[ab]
  have hp:=Zdb (P:=P) (w:=w) (Zbo hk) hv;have t:(Instr.checkKey em (n+1) f.type vs[f.offset]).run P w=.ok () w:=by rcases Zbw hk with ⟨_,hu⟩|⟨_,ik,hu⟩|⟨_,hu⟩<;>simp[Instr.checkKey,run_underlying hu]
  simp only[List.forIn_cons,hf,ne_eq,not_false_eq_true,if_true,Sem.run_bind,hp,Result.andThen_ok,t,Sem.run_pure]at ih⊢;exact ih
def Zsv{kt kp}(hk:J7 P kt=sO kp){k d}(h:Rep g w k d)(i:Qz kp d=true)(em n):(Instr.checkKey em (n+2) kt k).run P w=.ok () w:=by
 rcases Zeo hk with ⟨sk,rfl,hs⟩|⟨fs,l,m,rfl,t,hn,hl,_,hst⟩;rcases Zbw hs with ⟨_,t⟩|⟨_,ik,t⟩|⟨_,t⟩<;>simp[Instr.checkKey,run_underlying t];cases h<;>simp[Qz,Kl]at i;rename_i vs cells hn r o;obtain⟨b,u⟩:=Option.isSome_iff_exists.1 i;split at u<;>(try(grind;done));have:=ZcW (P:=P) (w:=w) em n hn fs.toList l b hl u;rw[Instr.checkKey];simp[run_underlying t];first
  | (simp at this;simp[this])
  |simp
def Zbg{t kp}(u:J7 P t=sO kp){k d}(h:Rep g w k d)(i:Qz kp d=true)(em):(Instr.checkKey em 10000 t k).run P w=.ok () w:=Zsv u h i em 9998
def Zqt{kp k}:∀{es r},Zbs kp k es=sO r->∃t,Q6 kp k es=sO t/\r=t.bind λi=>(es[i]?).map (·.2)
 | [],r,h=>by simp[Zbs]at h;exact⟨nO,rfl,h.symm⟩
 |e::es,r,h=>by simp[Zbs]at h;split at h;rename_i u;simp at h;exact⟨sO 0,by simp[Q6,u],by simp[h]⟩;rename_i u;obtain⟨t,h1,h2⟩:=Zqt h;refine⟨t.map (· + 1),by simp[Q6,u,h1],?_⟩;rw[h2];cases t<;>simp;grind
def Znf{kp:KP}{k v:D}:∀{es t:List (D×D)},JP kp k v es=sO t->∃u,Q6 kp k es=sO u/\t=match u with
  |none=>es++[(k,v)]
  |some i=>es.set i (k,v)
 | [],t,h=>by simp[JP]at h;exact⟨nO,rfl,h.symm⟩
 |e::es,t,h=>by simp[JP]at h;split at h;rename_i he;simp at h;exact⟨sO 0,by simp[Q6,he],by simp[h]⟩;rename_i he;simp at h;obtain⟨r,hr,rfl⟩:=h;obtain⟨u,h1,h2⟩:=Znf hr;refine⟨u.map (· + 1),by simp[Q6,he,h1],?_⟩;rw[h2];cases u<;>simp;grind
def ZsK{kp:KP}{k:D}:∀{es t:List (D×D)},Zgw kp k es=sO t->∃u,Q6 kp k es=sO u/\t=match u with
  |none=>es
  |some i=>es.eraseIdx i
 | [],t,h=>by simp only[Zgw,ZHu]at h;exact⟨nO,rfl,h.symm⟩
 |e::es,t,h=>by simp[Zgw]at h;split at h;rename_i he;simp at h;exact⟨sO 0,by simp[Q6,he],by simp[h]⟩;rename_i he;simp at h;obtain⟨r,hr,rfl⟩:=h;obtain⟨u,h1,h2⟩:=ZsK hr;refine⟨u.map (· + 1),by simp[Q6,he,h1],?_⟩;rw[h2];cases u<;>simp;grind
def Zc4{kp k}:∀{es i},Q6 kp k es=sO (sO i)->i<I es/\∀e,es[i]?=sO e->Kl kp k e.1=sO true
 | [],i,h=>by cases h
 |e::es,i,h=>by
  simp[Q6]at h;split at h;rename_i he;cases h;exact⟨ψ,λx t=>by cases t;exact he⟩
  .simp at h;obtain⟨io,u,h2⟩:=h;cases io with
   |none=>grind
   |some j =>obtain⟨j',h3,h4⟩:=h2;cases h3;subst h4;obtain⟨a,b⟩:=Zc4 u;exact⟨by simp;omega,λx t=>b x (by simpa using t)⟩
  grind
def ZnT{kt kp}(hk:J7 P kt=sO kp){k dk}(hr:Rep g w k dk):∀(es ds n io),I es=I ds ->
  (∀(i:Nat) (e d),es[i]?=sO e->ds[i]?=sO d->Rep g w e.key d.1)->Q6 kp dk ds=sO io ->
  (Instr.findAsking kt k es n).run P w=.ok (io.bind λi=>(es[i]?).map λe=>(n+i,e.val)) w
 | [],[],n,io,_,_,h=>by cases h;simp[Instr.findAsking]
 |e::es,d::ds,n,io,hn,hkey,h=>by simp[Q6]at h;have h0:=hkey 0 e d ψ ψ;split at h;rename_i u;cases h;simp[Instr.findAsking,Zl7 hk hr h0 u];rename_i u;simp at h;obtain⟨t,h1,rfl⟩:=h;have ih:=ZnT hk hr es ds (n+1) t (by simpa using hn) (λi e d a b=>hkey (i+1) e d (by simpa using a) (by simpa using b)) h1;simp[Instr.findAsking,Zl7 hk hr h0 u,ih];cases t<;>simp[Nat.add_assoc,Nat.add_comm 1];grind
 | [],_::_,_,_,hn,_,_=>by grind
 |_::_,[],_,_,hn,_,_=>by grind
def Zoz{t k u}(hs:Qc P t=sO k)(hu:P.underlying t=sO u){k1 k2 d1 d2}(h1:Rep g w k1 d1)(h2:Rep g w k2 d2){b}(h:Yk k d1 d2=sO b):
  Instr.sameNow u k1 k2=sO b:=by
 rcases Zbw hs with ⟨rfl,i⟩|⟨rfl,ik,i⟩|⟨rfl,i⟩<;>(rw[hu]at i;simp only[ZHu]at i;subst i);cases h1<;>cases h2<;>cases h;simp[Instr.sameNow];rename_i a b;cases a<;>cases b<;>rfl;cases h1<;>cases h2<;>simp only[Yk,reduceCtorEq]at h;split at h<;>simp only[reduceCtorEq,ZHu]at h;rename_i hk;subst h;simp only[Instr.sameNow,hk,if_true,ZHu];rename_i a _ _ b _;rw[Bool.eq_iff_iff];simp;cases h1<;>cases h2<;>simp only[Yk,reduceCtorEq,ZHu]at h;rename_i s1 a e1 _ s2 b e2 _;subst h;simp only[Instr.sameNow,ZHu];rw[beq_toListBytes,Zdg e1,Zdg e2,Bool.eq_iff_iff];simp
def ZnV{t sk u}(hs:Qc P t=sO sk)(hu:P.underlying t=sO u){k dk}(hr:Rep g w k dk):∀(es ds n io),I es=I ds ->
  (∀(i:Nat) (e d),es[i]?=sO e->ds[i]?=sO d->Rep g w e.key d.1)->Q6 (.sc sk) dk ds=sO io ->
  Instr.findNow u k es n=sO (io.bind λi=>(es[i]?).map λe=>(n+i,e.val))
 | [],[],n,io,_,_,h=>by simp only[Q6,ZHu]at h;subst h;simp[Instr.findNow]
 |e::es,d::ds,n,io,hn,hkey,h=>by simp only[Q6]at h;have h0:=hkey 0 e d ψ ψ;split at h;rename_i he;simp only[ZHu]at h;subst h;simp[Instr.findNow,Zoz hs hu hr h0 he];rename_i he;simp only[ZHI]at h;obtain⟨ab,h1,rfl⟩:=h;have ih:=ZnV hs hu hr es ds (n+1) ab (by simpa using hn) (λi e d a b=>hkey (i+1) e d (by simpa using a) (by simpa using b)) h1;simp only[Instr.findNow,Zoz hs hu hr h0 he,ih];cases ab<;>simp[Nat.add_assoc,Nat.add_comm 1];simp at h
 | [],_::_,_,_,hn,_,_=>by simp at hn
 |_::_,[],_,_,hn,_,_=>by simp at hn
def Zcn{kt kp}(hk:J7 P kt=sO kp){k dk}(hr:Rep g w k dk){es ds io}(hn:I es=I ds)(hkey:∀(i:Nat) (e:MapEntry) (d:D×D),es[i]?=sO e->ds[i]?=sO d->Rep g w e.key d.1)(h:Q6 kp dk ds=sO io):
  (Instr.findKey kt k es).run P w=.ok (io.bind λi=>(es[i]?).map λe=>(i,e.val)) w:=by
 rcases Zeo hk with ⟨sk,rfl,hs⟩|⟨fs,l,m,rfl,t,_,_,_,_⟩;obtain⟨u,t⟩:∃u,P.underlying kt=sO u:=by rcases Zbw hs with ⟨_,t⟩|⟨_,ik,t⟩|⟨_,t⟩<;>exact⟨_,t⟩
 have:=ZnV hs t hr es ds 0 io hn hkey h;simp[Instr.findKey,run_underlying t,this];have ha:=ZnT hk hr es ds 0 io hn hkey h;cases es with
 |nil =>
  cases ds with
  |nil=>cases h;simp[Instr.findKey,run_underlying t,Instr.findNow]
  |cons=>grind
 |cons e es =>
  have:Instr.findNow (.struct fs) k (e::es) 0=nO:=by simp[Instr.findNow,Instr.sameNow]
  simp[Instr.findKey,run_underlying t,this,ha]
def Zff{U}(i:Ya g U w){b es}(h:KT U b=sO es):WI g w b (.map es):=by
 unfold KT at h;split at h<;>simp at h;rename_i c t;subst h;exact i.obj b _ t
def Zt3{t z}(hz:Zdy P t=sO z):∃zv,(zeroValue t).run P w=.ok zv w/\Rep g w zv z:=by
 unfold Zdy at hz;cases hi:P.info? t with
 |none=>grind
 |some i =>
  cases u:i.zero with
  |none=>grind
  |some zv=>simp[hi,u]at hz;exact⟨zv,by simp[zeroValue,typeInfo,hi,u],Zjo hz⟩
def Zis{a b x y}(i:Rep g w a x)(t:Rep g w b y):Rep g w (.tuple #[a,b]) (.tup [x,y]) :=
 .tup [a,b] _ rfl (ZH.get (.cons i (.cons t .nil)))
def ZtO{Z L U}(hS:Ya g U w){t kt et kp z ok}(hu:P.underlying t=sO (.map kt et))(hk:J7 P kt=sO kp)(hz:Zdy P et=sO z){m k em ek r side}(hm:ZJ g Z w L m em)(hkk:ZJ g Z w L k ek)(hq:qv L U (.lookup kp z ok) [em,ek]=sO (side,r))(hs:side):∃v,(Instr.lookup t m k ok).run P w=.ok v w/\ZJ g Z w L v r:=by
 obtain⟨zv,ac,ad⟩:=Zt3 (P:=P) (g:=g) (w:=w) hz;cases em with
 |loc l o=>cases ek<;>simp[qv]at hq
 |when c e=>cases ek<;>simp[qv]at hq
 |d dm =>
  cases ek with
  |loc l o=>cases dm<;>simp[qv]at hq
  |when c e=>cases dm<;>simp[qv]at hq
  |d dk =>
   have hr:Rep g w k dk:=hkk;cases dm<;>(try(simp[qv]at hq;done))
   .rename_i b;simp only[qv]at hq;split at hq<;>(try(simp at hq;done));rename_i es aj;simp only[ZHI,ZHH]at hq;obtain⟨ro,hf,rfl,rfl⟩:=hq;obtain⟨hp0,en,clock,hb,ag,h3,h4,h5,h6⟩:=Zff hS aj;obtain⟨io,af,ae⟩:=Zqt hf;cases hm;have u:=Zcn (P:=P) hk hr (es:=en.toList) (by simpa using ag) (λi e d a b=>h3 i e d (by simpa using a) b) af;have ab:=Zbg (P:=P) hk hr hs en.isEmpty;cases io with
    |none =>subst ae;cases ok;exact⟨zv,by simp[Instr.lookup,run_underlying hu,MapKept.run_getObj_map hb,ab,u,ac],by simpa[Wh,ZJ]using ad⟩;exact⟨.tuple #[zv,.bool false],by simp[Instr.lookup,run_underlying hu,MapKept.run_getObj_map hb,ab,u,ac],by simpa[Wh,ZJ]using Zis ad (.bool false)⟩
    |some i =>
     obtain⟨ak,_⟩:=Zc4 af;have ah:i<en.size:=ω;have he:en[i]?=sO en[i]:=by simp[ah]
     have hd:es[i]?=sO es[i]:=by simp[ak]
     have ai:=h4 i _ _ he hd;simp[hd]at ae;subst ae;simp[he]at u;cases ok;exact⟨en[i].val,by simp[Instr.lookup,run_underlying hu,MapKept.run_getObj_map hb,ab,u],by simpa[Wh,ZJ]using ai⟩;exact⟨.tuple #[en[i].val,.bool true],by simp[Instr.lookup,run_underlying hu,MapKept.run_getObj_map hb,ab,u],by simpa[Wh,ZJ]using Zis ai (.bool true)⟩
   cases hq;cases hm;have ab:=Zbg (P:=P) hk hr hs true;have u:=Zcn (P:=P) hk hr (es:=[]) (ds:=[]) rfl (λi e d a b=>by simp at a) (io:=nO) rfl;cases ok;exact⟨zv,by simp[Instr.lookup,run_underlying hu,ab,u,ac],by simpa[Wh,ZJ]using ad⟩;exact⟨.tuple #[zv,.bool false],by simp[Instr.lookup,run_underlying hu,ab,u,ac],by simpa[Wh,ZJ]using Zis ad (.bool false)⟩
def ZwP{Z L U}(hS:Ya g U w){t kt et ts x e r side}(ht:ts[0]?=sO t)(hu:P.underlying t=sO (.map kt et))(hx:ZJ g Z w L x e)(hq:qv L U .lenM [e]=sO (side,r))(hs:side)(ty):∃v,(Builtin.len_ ts ty #[x]).run P w=.ok v w/\ZJ g Z w L v r:=by
 cases e with
 |loc l o=>cases hq
 |when c e=>cases hq
 |d y =>
  cases y<;>(try(cases hq;done));·simp[qv]at hq;split at hq<;>(try(grind;done));rename_i es u;cases hq;obtain⟨hp0,en,clock,hb,i,_⟩:=Zff hS u;cases hx;exact⟨.i (I es),by simp[Builtin.len_,ht,run_underlying hu,MapKept.run_getObj_map hb,goInt,i],.int _ _ (KR hs)⟩
  cases hq;cases hx;exact⟨.i 0,by simp[Builtin.len_,ht,run_underlying hu,goInt],.int _ _ (KR (n:=0) (Nat.zero_le _))⟩
end
section
variable {P:Program} {g:G} {Z:Nat->Nat} {w:World} {L:Loc} {U:St}
def Zut{t}{parts:Array (Nat×Operand)}{z pl zs ρv es}(hz:(P.info? t).bind (·.zero)=sO z)(hp:Qa P t (parts.toList.map (·.1))=sO pl)(hsz:ZkC P t=true)(hzs:Zbh z.cells.toList=sO zs)(hes:ZH (ZJ g Z w L) ((parts.toList.map (·.2)).map ρv) es){side r}(hq:qv L U (.build zs pl) es=sO (side,r)):∃v,(Instr.build t (parts.map λ(i,x)=>(i,ρv x))).run P w=.ok v w/\ZJ g Z w L v r:=by
 simp[qv]at hq;split at hq<;>(try(grind;done));rename_i ds ac;simp only[ZHI]at hq;obtain⟨cs,ab,rfl,rfl⟩:=hq;have ad:∃d,P.underlying t=sO d/\((∃fs,d=.struct fs)\/∃m e i,d=.array m e/\P.info? e=sO i):=by
  unfold ZkC at hsz;split at hsz;rename_i fs hu;exact⟨_,hu,.inl ⟨fs,rfl⟩⟩
  .rename_i m e hu;unfold ZP at hsz;cases hi:P.info? e with
   |none=>grind
   |some i=>exact⟨_,hu,.inr ⟨m,e,i,rfl,hi⟩⟩
  grind
 have u:=K1 hes ac;obtain⟨cv,h1,h2⟩:=Zy8 (g:=g) (w:=w) (parts:=parts.toList.map λ(i,x)=>(i,ρv x)) hz (by simpa[Function.comp_def]using hp) hsz hzs
  (by simpa[Function.comp_def]using u) ab ad
 refine⟨_,?_,h2⟩;rw[<-h1]
 congr 2
 apply Array.ext';simp
def ZwR{f}{first caps:Array Operand}{ρv es}(hes:ZH (ZJ g Z w L) ((first.toList++caps.toList).map ρv) es){side r}(hq:qv L U (.mkfn f first.size) es=sO (side,r)):∃v,(Instr.makeFunc f (first.map ρv) (caps.map ρv)).run P w=.ok v w/\ZJ g Z w L v r:=by
 simp only[qv,ZHI]at hq;obtain⟨ds,i,rfl,rfl⟩:=hq;have h:=K1 hes i;have t:=h.take first.size
 have u:=h.drop first.size
 have e1:((first.toList++caps.toList).map ρv).take first.size=(first.map ρv).toList:=by simp
 have e2:((first.toList++caps.toList).map ρv).drop first.size=(caps.map ρv).toList:=by simp
 rw[e1]at t;rw[e2]at u;have:=Rep.fn (g:=g) (w:=w) f _ _ _ _ t.len u.len t.get u.get;exact⟨_,by simp only[Instr.makeFunc,Sem.run_pure],this⟩
def Zaw{α:Type}{a:Array α}(h:a.size=1):∃x,a = #[x]:=by
 obtain⟨l⟩:=a
 match l,h with
 | [x],_=>exact⟨x,rfl⟩
def Zgi{α:Type}{a:Array α}(h:a.size=2):∃x y,a = #[x,y]:=by
 obtain⟨l⟩:=a
 match l,h with
 | [x,y],_=>exact⟨x,y,rfl⟩
def ZBF{o q xs}(hc:cq P o=sO (q,xs)){ρv es}(hes:ZH (ZJ g Z w L) (xs.map ρv) es)(hL:∀l cs,Zg L l=sO cs->YI g w (Z l) cs)(hS:Ya g U w){side e}(hq:qv L U q es=sO (side,e))(hs:side){dst ty pos af gd}:
  ∃v,(execOp ρv ⟨dst,o,ty,pos,af,gd⟩).run P w=.ok (.value v) w/\ZJ g Z w L v e:=by
 cases o<;>(try(simp[cq]at hc;done));case move x =>simp only[cq,ZHu,ZHH]at hc;obtain⟨rfl,rfl⟩:=hc;obtain⟨e0,rfl,h0⟩:=Ws hes;simp only[qv,ZHu,ZHH]at hq;obtain⟨rfl,rfl⟩:=hq;exact⟨_,rfl,h0⟩
 case assign x =>simp only[cq,ZHu,ZHH]at hc;obtain⟨rfl,rfl⟩:=hc;obtain⟨e0,rfl,h0⟩:=Ws hes;simp only[qv,ZHu,ZHH]at hq;obtain⟨rfl,rfl⟩:=hq;exact⟨_,rfl,h0⟩
 case load t a =>simp only[cq]at hc;split at hc<;>(try(simp at hc;done));rename_i n ha u;simp only[ZHu,ZHH]at hc;obtain⟨rfl,rfl⟩:=hc;obtain⟨e0,rfl,h0⟩:=Ws hes;exact ev (Zux ha u h0 hL hS hq hs);rename_i n ha u;simp only[ZHu,ZHH]at hc;obtain⟨rfl,rfl⟩:=hc;obtain⟨e0,rfl,h0⟩:=Ws hes;exact ev (Zuw ha h0 hL hS hq)
 case nilCheck x =>simp only[cq,ZHu,ZHH]at hc;obtain⟨rfl,rfl⟩:=hc;obtain⟨e0,rfl,h0⟩:=Ws hes;exact Zuy rfl h0 hq dst ty pos af gd
 case binOp op t x y yt =>
  simp only[cq,ZHu,ZHH]at hc;obtain⟨rfl,rfl⟩:=hc;obtain⟨e1,e2,rfl,h1,h2⟩:=J1 hes;cases e1 with
  |d a =>
   cases e2 with
   |d b =>simp only[qv,ZHI,ZHH]at hq;obtain⟨⟨s',d⟩,hd,rfl,rfl⟩:=hq;exact ev (ZAR (P:=P) h1 h2 hd hs)
   |loc l o=>simp[qv]at hq
   |when b e=>simp[qv]at hq
  |loc l o=>cases e2<;>simp[qv]at hq
  |when b e=>cases e2<;>simp[qv]at hq
 case unOp op t x =>
  cases op<;>simp only[cq,ZHu,ZHH,reduceCtorEq]at hc;all_goals obtain⟨rfl,rfl⟩:=hc
  all_goals obtain⟨e0,rfl,h0⟩:=Ws hes
  all_goals cases e0 with
   |loc l o=>simp[qv]at hq
   |when b e=>simp[qv]at hq
   |d y=>?_
  cases y<;>simp only[qv,reduceCtorEq,ZHu,ZHH]at hq;obtain⟨rfl,rfl⟩:=hq;obtain⟨hv,ag⟩:=Qb h0;exact ev ⟨.int _ _,by simp only[hv,Op.unary,Op.intArith,Sem.run_pure,Int.zero_sub];rw[Zaj _ _ hs],.int _ _ hs⟩;cases y<;>simp only[qv,reduceCtorEq,ZHu,ZHH]at hq;obtain⟨rfl,rfl⟩:=hq;obtain⟨hv,ag⟩:=Qb h0;exact ev ⟨_,by simp only[hv,Op.unary,Op.intBits,Sem.run_pure];rfl,.int _ _ ZhD⟩;cases y<;>simp only[qv,reduceCtorEq,ZHu,ZHH]at hq;obtain⟨rfl,rfl⟩:=hq;have hv:=ZbK h0;exact ev ⟨_,by simp only[hv,Op.unary,Sem.run_pure],.bool _⟩
 case convert s d x =>simp only[cq,ZHI,ZHH]at hc;obtain⟨c,hc,rfl,rfl⟩:=hc;obtain⟨e0,rfl,h0⟩:=Ws hes;exact ev (ZwK hS hc h0 hq hs)
 case fieldAddr s x k =>simp only[cq]at hc;split at hc<;>(try(simp at hc;done));rename_i f hf;split at hc<;>(try(simp at hc;done));rename_i n hn;split at hc<;>(try(simp at hc;done));rename_i ah;simp only[ZHu,ZHH]at hc;obtain⟨rfl,rfl⟩:=hc;obtain⟨e0,rfl,h0⟩:=Ws hes;exact ev (Zuu hf hn ah h0 hq)
 case field s x k =>simp only[cq]at hc;split at hc<;>(try(simp at hc;done));rename_i f hf;split at hc<;>(try(simp at hc;done));rename_i n ha hn;simp only[ZHu,ZHH]at hc;obtain⟨rfl,rfl⟩:=hc;obtain⟨e0,rfl,h0⟩:=Ws hes;exact ev (Zq2 hf (.inl ⟨ha,n,hn,rfl⟩) h0 hq hs);rename_i n ha hn;simp only[ZHu,ZHH]at hc;obtain⟨rfl,rfl⟩:=hc;obtain⟨e0,rfl,h0⟩:=Ws hes;exact ev (Zq2 hf (.inr ⟨ha,rfl⟩) h0 hq hs)
 case indexAddr t x i =>simp only[cq]at hc;split at hc<;>(try(simp at hc;done));rename_i el hu;simp only[ZHI,ZHH]at hc;obtain⟨n,hn,rfl,rfl⟩:=hc;obtain⟨e1,e2,rfl,h1,h2⟩:=J1 hes;exact ev (Zuv hu hn h1 h2 hq hs);rename_i m el hu;simp only[ZHI,ZHH]at hc;obtain⟨n,hn,rfl,rfl⟩:=hc;obtain⟨e1,e2,rfl,h1,h2⟩:=J1 hes;exact ev (ZtN hu hn h1 h2 hq hs)
 case index t x i =>simp only[cq]at hc;split at hc<;>(try(simp at hc;done));rename_i hu;simp only[ZHu,ZHH]at hc;obtain⟨rfl,rfl⟩:=hc;obtain⟨e1,e2,rfl,h1,h2⟩:=J1 hes;exact ev (ZwM hu h1 h2 hq hs);rename_i m el hu;split at hc<;>simp only[ZHu,ZHH,reduceCtorEq]at hc;rename_i b n hb hn;obtain⟨rfl,rfl⟩:=hc;obtain⟨e1,e2,rfl,h1,h2⟩:=J1 hes;exact ev (ZwL hu hb hn h1 h2 hq hs)
 case extract x k =>
  simp only[cq,ZHu,ZHH]at hc;obtain⟨rfl,rfl⟩:=hc;obtain⟨e0,rfl,h0⟩:=Ws hes;cases e0 with
  |loc l o=>simp[qv]at hq
  |when b e=>simp[qv]at hq
  |d y =>
   cases y<;>simp only[qv,reduceCtorEq,ZHI,ZHH]at hq;obtain⟨d,hd,rfl,rfl⟩:=hq;have ae:Rep g w (ρv x) _:=h0;generalize hz:ρv x=z at ae;cases ae with
   |tup vs _ hn h =>obtain⟨v,hv,hr⟩:=ZbL hn h hd;exact ev ⟨v,by simp[Instr.extract,hz,hv],hr⟩
 case build t parts =>simp only[cq]at hc;split at hc<;>(try(simp at hc;done));rename_i z pl hz hp;split at hc<;>(try(simp at hc;done));rename_i u;simp only[ZHI,ZHH]at hc;obtain⟨zs,ai,rfl,rfl⟩:=hc;exact ev (Zut hz hp u ai hes hq)
 case makeFunc f first caps =>simp only[cq,ZHu,ZHH]at hc;obtain⟨rfl,rfl⟩:=hc;exact ev (ZwR hes hq)
 case makeInterface t x =>
  simp only[cq]at hc;split at hc<;>(try(simp at hc;done));rename_i d ac hu;simp only[ZHu,ZHH]at hc;obtain⟨rfl,rfl⟩:=hc;obtain⟨e0,rfl,h0⟩:=Ws hes;cases e0 with
  |loc l o=>simp[qv]at hq
  |when b e=>simp[qv]at hq
  |d y =>simp only[qv,ZHu,ZHH]at hq;obtain⟨rfl,rfl⟩:=hq;refine ev ⟨.iface t (ρv x),?_,.iface _ _ _ h0⟩;refine run_makeInterface w t (ρv x) ?_;unfold Program.concrete;rw[hu];cases d<;>first|rfl|(exact absurd rfl (ac _))
 case slice t x lo hi mx =>
  simp only[cq]at hc;split at hc<;>(try(simp at hc;done))
  .rename_i hu;split at hc<;>(try(simp at hc;done));rename_i ab;simp only[ZHu,ZHH]at hc;obtain⟨rfl,rfl⟩:=hc;cases mx with
   |some _=>simp at ab
   |none=>exact ev (ZtQ hu hes hq hs)
  .rename_i el hu;split at hc<;>(try(simp at hc;done));rename_i ab;simp only[ZHI,ZHH]at hc;obtain⟨n,hn,rfl,rfl⟩:=hc;exact ev (Zuz hu hn (by cases mx<;>cases hi<;>simp_all) hes hq hs)
  rename_i k el hu;split at hc<;>(try(simp at hc;done));rename_i ab;simp only[ZHI,ZHH]at hc;obtain⟨n,hn,rfl,rfl⟩:=hc;exact ev (ZtP hu hn (by cases mx<;>cases hi<;>simp_all) hes hq hs)
 case typeAssert x xt t ok =>simp only[cq]at hc;split at hc<;>(try(simp at hc;done));rename_i d ac hu;simp only[ZHI,ZHH]at hc;obtain⟨z,hz,rfl,rfl⟩:=hc;obtain⟨e0,rfl,h0⟩:=Ws hes;exact ev (Zrw ⟨d,hu,λms hm=>ac ms (hm▸rfl)⟩ hz h0 hq)
 case lookup t m k ok =>simp only[cq]at hc;split at hc<;>(try(simp at hc;done));rename_i kt et hu;split at hc<;>(try(simp at hc;done));rename_i kp z hk hz;simp only[ZHu,ZHH]at hc;obtain⟨rfl,rfl⟩:=hc;obtain⟨e1,e2,rfl,h1,h2⟩:=J1 hes;exact ev (ZtO hS hu hk hz h1 h2 hq hs)
 case call c =>
  obtain⟨callee,args,ad⟩:=c;simp only[cq]at hc;split at hc<;>(try(simp at hc;done))
  .split at hc<;>(try(simp at hc;done));·rename_i hu;simp only[Option.bind_eq_some_iff]at hu;obtain⟨t,ht,hu⟩:=hu;split at hc<;>(try(simp at hc;done));rename_i u;obtain⟨x,rfl⟩:=Zaw u;simp only[ZHu,ZHH]at hc;obtain⟨rfl,rfl⟩:=hc;obtain⟨e0,rfl,h0⟩:=Ws hes;obtain⟨v,r1,r2⟩:=ZwQ ht hu h0 hq ty;exact⟨v,by simp[execOp,resolve,invoke,builtin,r1],r2⟩
   .rename_i el hu;simp only[Option.bind_eq_some_iff]at hu;obtain⟨t,ht,hu⟩:=hu;split at hc<;>(try(simp at hc;done));rename_i u;obtain⟨x,rfl⟩:=Zaw u;simp only[ZHu,ZHH]at hc;obtain⟨rfl,rfl⟩:=hc;obtain⟨e0,rfl,h0⟩:=Ws hes;obtain⟨v,r1,r2⟩:=ZwO ht hu h0 hq ty;exact⟨v,by simp[execOp,resolve,invoke,builtin,r1],r2⟩
   .rename_i n el hu;simp only[Option.bind_eq_some_iff]at hu;obtain⟨t,ht,hu⟩:=hu;split at hc<;>(try(simp at hc;done));rename_i u;obtain⟨x,rfl⟩:=Zaw u;simp only[ZHu,ZHH]at hc;obtain⟨rfl,rfl⟩:=hc;obtain⟨e0,rfl,h0⟩:=Ws hes;obtain⟨v,r1,r2⟩:=ZwN (x:=ρv x) ht hu hq hs ty;exact⟨v,by simp[execOp,resolve,invoke,builtin,r1],r2⟩
   rename_i kt el hu;simp only[Option.bind_eq_some_iff]at hu;obtain⟨t,ht,hu⟩:=hu;split at hc<;>(try(simp at hc;done));rename_i u;obtain⟨x,rfl⟩:=Zaw u;simp only[ZHu,ZHH]at hc;obtain⟨rfl,rfl⟩:=hc;obtain⟨e0,rfl,h0⟩:=Ws hes;obtain⟨v,r1,r2⟩:=ZwP hS ht hu h0 hq hs ty;exact⟨v,by simp[execOp,resolve,invoke,builtin,r1],r2⟩
  .split at hc<;>(try(simp at hc;done));rename_i u;obtain⟨x,y,rfl⟩:=Zgi u;simp only[ZHu,ZHH]at hc;obtain⟨rfl,rfl⟩:=hc;obtain⟨e1,e2,rfl,h1,h2⟩:=J1 hes;obtain⟨v,r1,r2⟩:=ZkG (P:=P) false h1 h2 hq ad ty;simp at r1;exact⟨v,by simp[execOp,resolve,invoke,builtin,r1],r2⟩
  split at hc<;>(try(simp at hc;done));rename_i u;obtain⟨x,y,rfl⟩:=Zgi u;simp only[ZHu,ZHH]at hc;obtain⟨rfl,rfl⟩:=hc;obtain⟨e1,e2,rfl,h1,h2⟩:=J1 hes;obtain⟨v,r1,r2⟩:=ZkG (P:=P) true h1 h2 hq ad ty;simp at r1;exact⟨v,by simp[execOp,resolve,invoke,builtin,r1],r2⟩
end
def Qu(n:Nat):List Nat->Bool
 | []=>true
 |i::r=>i<n&&!r.contains i&&Qu n r
def ck(P:Program)(op:Op):Option K :=
 match cq P op with
 |some (q,xs)=>(Zcg xs).map (K.q q)
 |none =>
  match op with
  |.pick c a b=>match ZW c,ZW a,ZW b with
   |some c,sO a,sO b=>sO (.pick c a b)
   |_,_,_=>nO
  |.alloc e=>(Zaa P e).map .alloc
  |.box _ x=>(ZW x).map .box
  |.buildSlice t len parts=>match P.underlying t with
   |some (.slice e)=>match ZP P e,Zaa P e,Zcg (parts.toList.map (·.2)) with
    |some s,sO z,sO xs =>
     if Qu len (parts.toList.map (·.1))&&dC (I z=s)&&dC (0<s)&&dC (len*s<=2 ^ 24) then sO (.bsl len s z (parts.toList.map (·.1)) xs) else nO
    |_,_,_=>nO
   |_=>nO
  |.convert s d x=>match P.underlying s,P.underlying d with
   |some .string,sO (.slice e)=>match P.underlying e with
    |some (.int .u8)=>(ZW x).map .s2b
    |_=>nO
   |_,_=>nO
  |.store t a v=>match J0 P t,ZP P t,ZW a,ZW v with
   |some true,sO n,sO a,sO v=>sO (.storeN n a v)
   |some false,sO 1,sO a,sO v=>sO (.store1 a v)
   |_,_,_,_=>nO
  |.makeMap _ nO=>sO .mkmap
  |.mapUpdate t m k x|.insert t m k x=>match P.underlying t with
   |some (.map kt _)=>match J7 P kt,ZW m,ZW k,ZW x with
    |some kp,sO m,sO k,sO x=>sO (.mapupd kp m k x)
    |_,_,_,_=>nO
   |_=>nO
  |.mapEntry t m k=>match P.underlying t with
   |some (.map kt e)=>match J7 P kt,Zdy P e,ZW m,ZW k with
    |some kp,sO z,sO m,sO k=>sO (.mapent kp z m k)
    |_,_,_,_=>nO
   |_=>nO
  |.entryStore _ m k x=>match ZW m,ZW k,ZW x with
   |some m,sO k,sO x=>sO (.entst m k x)
   |_,_,_=>nO
  |.panic x=>(ZW x).map .panic
  |.defer c=>match c.callee with
   |.value f=>match ZW f,Zcg c.args.toList with
    |some f,sO xs=>sO (.defer f xs)
    |_,_=>nO
   |_=>nO
  |.makeSlice t l c=>match P.underlying t with
   |some (.slice e)=>match ZP P e,Zaa P e,ZW l,ZW c with
    |some s,sO z,sO l,sO c=>if dC (0<s)&&dC (I z=s) then sO (.mkslice e s (P.bytesOf e) z l c) else nO
    |_,_,_,_=>nO
   |_=>nO
  |.call c=>match c.callee with
   |.value f=>match ZW f,Zcg c.args.toList with
    |some f,sO xs=>sO (.call f xs)
    |_,_=>nO
   |.builtin .append=>match c.argTypes[0]?.bind P.underlying,c.argTypes[1]?.bind P.underlying,c.args.toList with
    |some (.slice e),sO t2,[x,y]=>match ZP P e,Zaa P e,ZW x,ZW y with
     |some s,sO z,sO x,sO y =>
      match t2 with
      |.slice _|.string=>if dC (0<s)&&dC (I z=s) then sO (.append e s (P.bytesOf e) z x y) else nO
      |_=>nO
     |_,_,_,_=>nO
    |_,_,_=>nO
   |.builtin .recover=>sO .recover
   |.builtin .delete=>match c.argTypes[0]?.bind P.underlying,c.args.toList with
    |some (.map kt _),[m,k]=>match J7 P kt,ZW m,ZW k with
     |some kp,sO m,sO k=>sO (.delete kp m k)
     |_,_,_=>nO
    |_,_=>nO
   |.builtin .clear=>match c.argTypes[0]?.bind P.underlying,c.args.toList with
    |some (.slice e),[x]=>match ZP P e,Zaa P e,ZW x with
     |some s,sO z,sO x=>if dC (0<s)&&dC (I z=s) then sO (.clear s z x) else nO
     |_,_,_=>nO
    |_,_=>nO
   |.builtin .copy=>match c.argTypes[0]?.bind P.underlying,c.args.toList with
    |some (.slice e),[x,y]=>match ZP P e,ZW x,ZW y with
     |some s,sO x,sO y=>if dC (0<s) then sO (.copy s x y) else nO
     |_,_,_=>nO
    |_,_=>nO
   |_=>nO
  |_=>nO
def Zjg(ops:Array Oper):Option (Nat×Bool)->Option (Option (Nat×Bool))
 |none=>sO nO
 |some (j,b)=>match (ops[j]?).bind (·.dst) with
  |some t=>sO (sO (t,b))
  |none=>nO
def cop(P:Program)(N:Nat)(ops:Array Oper)(o:Oper):Option DOp :=
 match ck P o.op,Zjg ops o.guard with
 |some k,sO g =>
  match o.dst with
  |none=>sO ⟨nO,g,k⟩
  |some d=>if d<N then sO ⟨sO d,g,k⟩ else nO
 |_,_=>nO
def Jq(P:Program)(N:Nat)(ops:Array Oper):List Nat->Option (List DOp)
 | []=>sO []
 |i::r=>match ops[i]? with
  |some o=>match cop P N ops o,Jq P N ops r with
   |some d,sO ds=>sO (d::ds)
   |_,_=>nO
  |none=>nO
abbrev Ann:=List (Nat×List Nat)
def Ann.get:Ann->Nat->Option (List Nat)
 | [],_=>nO
 | (k,l)::r,n=>if k=n then sO l else Ann.get r n
def ZQ:Opd->List Nat
 |.tmp t=>[t]
 |.cst _=>[]
def Za2(xs:List Opd):List Nat:=xs.flatMap ZQ
def Yh:K->List Nat
 |.q _ xs=>Za2 xs
 |.pick c a b=>ZQ c++ZQ a++ZQ b
 |.alloc _|.mkmap|.recover=>[]
 |.box x|.s2b x|.panic x=>ZQ x
 |.bsl _ _ _ _ xs=>Za2 xs
 |.store1 a v|.storeN _ a v=>ZQ a++ZQ v
 |.call f xs|.defer f xs=>ZQ f++Za2 xs
 |.append _ _ _ _ x y=>ZQ x++ZQ y
 |.mapupd _ m k v=>ZQ m++ZQ k++ZQ v
 |.mapent _ _ m k=>ZQ m++ZQ k
 |.entst m e v=>ZQ m++ZQ e++ZQ v
 |.mkslice _ _ _ _ l c=>ZQ l++ZQ c
 |.delete _ m k=>ZQ m++ZQ k
 |.clear _ _ x=>ZQ x
 |.copy _ x y=>ZQ x++ZQ y
 |.fork k=>Yh k
def Zcr:Option (Nat×Bool)->List Nat
 |none=>[]
 |some (t,_)=>[t]
def ZA(o:DOp):List Nat:=Zcr o.guard++Yh o.k
def Y3:K->Bool
 |.q _ _|.pick _ _ _|.bsl _ _ _ _ _|.s2b _|.alloc _|.fork _=>true
 |_=>false
def pqK:K->Bool
 |.q _ _|.pick _ _ _|.bsl _ _ _ _ _|.s2b _|.alloc _=>true
 |_=>false
def Zcx:K->Bool
 |.q .load1 _|.q (.loadN _) _=>true
 |_=>false
def YU:K->Bool
 |.q .load1 _|.q (.loadN _) _|.q (.lookup _ _ _) _|.q .lenM _|.q (.conv .b2s) _=>true
 |_=>false
def ZdU:K->Bool
 |.store1 _ _|.storeN _ _ _=>true
 |_=>false
def ZvR:K->Bool
 |.alloc _|.fork _=>false
 |_=>true
instance:Inhabited DOp:=⟨⟨nO,nO,.mkmap⟩⟩
abbrev Tab:=List (DOp×List Nat)
def Tab.op(T:Tab)(i:Nat):DOp:=(T.getD i dE).1
def Tab.deps(T:Tab)(i:Nat):List Nat:=(T.getD i dE).2
def nd(d:Option Nat)(l:List Nat):Bool :=
 match d with
 |some t=>!l.contains t
 |none=>true
def ndd:Option Nat->Option Nat->Bool
 |some t,sO u=>t != u
 |_,_=>true
def Zcy(bs:List Nat):List Nat->Nat
 | []=>0
 |d::ds=>(bs.getD d 0 |||(1 <<< d)) |||Zcy bs ds
def Zf3:List (List Nat)->List Nat->List Nat
 | [],acc=>acc
 |d::r,acc=>Zf3 r (acc++[Zcy acc d])
def ZcX(T:Tab)(A:List Nat)(i:Nat):Bool :=
 pqK (T.op i).k&&nd (T.op i).dst (ZA (T.op i))&&A.all λa=>nd (T.op i).dst (ZA (T.op a))&&ndd (T.op i).dst (T.op a).dst
def ZbO(o:DOp):Nat:=o.dst.getD 0
def Zan(n:Nat):List Nat->Bool
 | []=>false
 |a::l=>a==n ||Zan n l
def Zjl(T:Tab)(fl:List Nat)(free rest:List Nat)(i:Nat):Bool :=
 ZvR (T.op i).k&&(rest.all λr=>(T.deps r).any λd=>(i::rest).contains d) &&
  free.all λa=>nd (T.op i).dst (ZA (T.op a))&&ndd (T.op i).dst (T.op a).dst&&(Zan (ZbO (T.op a)) fl||!YU (T.op a).k)
def chk(T:Tab)(ms:List Nat)(fl:Nat->List Nat):List Nat->List Nat->Bool
 |_,[]=>true
 |A,i::rest =>
  let free:=A.filter λa=>!(ms.getD i 0).testBit a
  dC (i<T.length)&&((T.deps i).all λd=>!(i::rest).contains d)&&!rest.contains i&&(free.all λa=>nd (T.op a).dst (ZA (T.op i))) &&
   if ZcX T A i then chk T ms fl (i::A) rest else Zjl T (fl i) free rest i&&chk T ms fl free rest
def ZuR(T:Tab)(fl:List Nat)(free:List Nat)(i:Nat):Bool :=
 ZvR (T.op i).k&&!Y3 (T.op i).k&&(free.all λa=>nd (T.op a).dst (ZA (T.op i)))&&free.all λa=>nd (T.op i).dst (ZA (T.op a))&&ndd (T.op i).dst (T.op a).dst&&(Zan (ZbO (T.op a)) fl||!YU (T.op a).k)
def ZA4(T:Tab)(ms:List Nat)(fl:Nat->List Nat)(A:List Nat)(i j:Nat)(rest:List Nat):Bool :=
 let fi:=A.filter λa=>!(ms.getD i 0).testBit a;let fj:=A.filter λa=>!(ms.getD j 0).testBit a
 dC (i<T.length)&&dC (j<T.length)&&((T.deps i).all λd=>!(i::j::rest).contains d)&&((T.deps j).all λd=>!(i::j::rest).contains d)&&(i != j)&&!rest.contains i&&!rest.contains j &&
  (rest.all λr=>(T.deps r).any λd=>(i::j::rest).contains d)&&ZuR T (fl i) fi i&&ZuR T (fl j) fj j &&
  chk T ms fl fi (j::rest)&&chk T ms fl fj (i::rest)
def ZdC(T:Tab)(ms:List Nat)(fl:Nat->List Nat)(fk:Option Nat):List Nat->List Nat->Bool
 |_,[]=>true
 |A,i::rest =>
  if fk=sO i then match rest with
   |j::rest'=>ZA4 T ms fl A i j rest'
   | []=>false
  else
   let free:=A.filter λa=>!(ms.getD i 0).testBit a
   dC (i<T.length)&&((T.deps i).all λd=>!(i::rest).contains d)&&!rest.contains i&&(free.all λa=>nd (T.op a).dst (ZA (T.op i))) &&
    if ZcX T A i then ZdC T ms fl fk (i::A) rest else Zjl T (fl i) free rest i&&ZdC T ms fl fk free rest
def ZDh(o:DOp):DOp:={ o with k:=.fork o.k }
def Tab.mk(T:Tab)(fk:Option Nat)(i:Nat):DOp:=if fk=sO i then ZDh (T.op i) else T.op i
def JK(o:Oper):List Nat:=(o.after.toList.filter (Region.binds .any ·)).map (·.on)
def ZnI:Nat->List (List Nat)->Bool
 |_,[]=>true
 |i,d::r=>d.all (λx=>dC (x<i))&&ZnI (i+1) r
def Zye(n:Nat)(order:List Nat):Bool:=(ZHJ n).all order.contains
def Zzw(an:Ann)(id:Nat):Option Nat :=
 match an.get (id+3000000) with
 |some (i::_)=>sO i
 |_=>nO
def ccD(P:Program)(an:Ann)(N:Nat)(id:Nat)(ops:Array Oper):Option (List Nat×List (DOp×List Nat)×Option (List Nat)) :=
 match Jq P N ops (ZHJ ops.size),an.get (id+1000000),an.get id with
 |some l,sO order,sO kp =>
  let fl:=λi=>(an.get (id+1000000*(i+4))).getD [];let ds:=ops.toList.map JK;let T:Tab:=l.zip ds
  if P.follows .mixedOrders&&ZnI 0 ds&&Zye ops.size order&&ZdC T (Zf3 ds []) fl (Zzw an id) [] order then sO (order,order.map λi=>(T.mk (Zzw an id) i,fl i),sO kp) else nO
 |_,_,_=>nO
def cc(P:Program)(an:Ann)(N:Nat):Code->Option DC
 |.skip=>sO .skip
 |.region id ops true=>(ccD P an N id ops).map λx=>.regD x.1 x.2.1 x.2.2
 |.region id ops false=>(Jq P N ops (ZHJ ops.size)).map λl=>.reg l (an.get id)
 |.seq a b=>match cc P an N a,cc P an N b with
  |some x,sO y=>sO (.seq x y)
  |_,_=>nO
 |.cond c a b=>match ZW c,cc P an N a,cc P an N b with
  |some c,sO x,sO y=>sO (.cond c x y)
  |_,_,_=>nO
 |.block id a=>(cc P an N a).map (.block id)
 |.loop a=>(cc P an N a).map .loop
 |.exit id=>sO (.exit id)
 |.ret=>sO .ret
 |.scope a=>(cc P an N a).map .scope
 |.label l=>sO (.label l)
 |.goto l=>sO (.goto l)
 |.rangeFunc f params a b=>match ZW f,cc P an N a,cc P an N b with
  |some f,sO x,sO y=>if params.toList.all (· < N) then sO (.rangeF f params.toList x y) else nO
  |_,_,_=>nO
 |_=>nO
inductive RV where
 |tmp (t:Nat)|cell1 (t:Nat)|cellN (t n:Nat)
def crv(P:Program):ResultVar->Option RV
 |.tmp t=>sO (.tmp t)
 |.cell a t=>match J0 P t,ZP P t with
  |some true,sO n=>sO (.cellN a n)
  |some false,sO _=>sO (.cell1 a)
  |_,_=>nO
def Zjq(P:Program):List ResultVar->Option (List RV)
 | []=>sO []
 |r::rs=>match crv P r,Zjq P rs with
  |some x,sO xs=>sO (x::xs)
  |_,_=>nO
structure DF where
 n:Nat
 res:List RV
 body:DC
def cf(P:Program)(an:Ann)(f:FuncId):Option DF :=
 match P.funcs[f]? with
 |some fn=>match fn.body with
  |some c=>if fn.name == "runtime.NumGoroutine" then nO else
   match Zjq P fn.results.toList,cc P an fn.ntmps c with
   |some rs,sO d=>sO ⟨fn.ntmps,rs,d⟩
   |_,_=>nO
  |none=>nO
 |none=>nO
def Zgl:Bool->Bool->Bool
 |b,true=>b
 |b,false=>!b
def Zk(H:Env):Option (Nat×Bool)->Option Bool
 |none=>sO true
 |some (t,want)=>match ZK H t with
  |some (.d (.bool b))=>sO (Zgl b want)
  |some (.when c (.d (.bool b)))=>sO (c&&Zgl b want)
  |_=>nO
def Zy(H:Env)(c:Bool):Opd->Option (Prop×E)
 |.cst d=>sO (True,.d d)
 |.tmp t=>match ZK H t with
  |some (.when c' e)=>sO (c=true->c'=true,e)
  |some e=>sO (True,e)
  |none=>nO
def Z8(H:Env)(c:Bool):List Opd->Option (Prop×List E)
 | []=>sO (True,[])
 |x::xs=>match Zy H c x,Z8 H c xs with
  |some (p,e),sO (q,es)=>sO (p/\q,e::es)
  |_,_=>nO
def Zv(H:Env)(dst:Option Nat)(e:E):Env :=
 match dst with
 |some t=>(t,e)::H
 |none=>H
inductive SR where
 |ok (side:Prop) (H:Env) (L:Loc) (s:St)
 |all (side:Prop) (pre:Nat->Prop) (H:Nat->Env) (s:Nat->St)
 |stop
def Zam(L:Loc)(l:Nat):Bool:=(Zg L l).isSome
def Zdx(H:Env)(c:Bool)(x a b:Opd):Option (Prop×Bool) :=
 match Zy H c x with
 |some (p,.d (.bool v)) =>
  match Zy H (c&&v) a,Zy H (c&&!v) b with
  |some (pa,.d (.bool y)),sO (pb,.d (.bool z))=>sO (p/\pa/\pb,if v then y else z)
  |_,_=>nO
 |_=>nO
def ZR(zero:List D)(ps:List (Nat×D))(i:Nat):List D :=
 match ps with
 | []=>zero
 | (k,d)::r=>if k=i then cellsOf d else ZR zero r i
def K9(s:Nat):List D->Bool
 | []=>true
 |d::r=>W7 d&&dC ((cellsOf d).length=s)&&K9 s r
def W0(z:List D)(n:Nat):List D:=(List.replicate n z).flatten
def K3(H:Env)(L:Loc)(s:St)(p q ok:Prop)(a:E)(n:Nat)(xs:List D):SR :=
 match a with
 |.loc l off=>match Zg L l with
  |some cs=>.ok (p/\q/\off+n<=I cs/\ok) H ((l,Zx cs off xs)::L) s
  |none=>.stop
 |.d (.ptr b off)=>match Z1 s b with
  |some cs=>.ok (p/\q/\off+n<=I cs/\ok) H L (s.upd b (.cells (Zx cs off xs)))
  |none=>.stop
 |_=>.stop
def ZdY(kp:KP)(k z:D):List (D×D)->Option D
 | []=>sO z
 |e::r=>match Kl kp k e.1 with
  |some true=>sO e.2
  |some false=>ZdY kp k z r
  |none=>nO
def ZC(o:DOp)(H:Env)(L:Loc)(s:St):SR :=
 match Zk H o.guard with
 |none=>.stop
 |some c =>
  match o.k with
  |.q q xs=>match Z8 H c xs with
   |some (p,es)=>match qv L s q es with
    |some (side,e)=>match o.guard with
     |none=>.ok (p/\side) (Zv H o.dst e) L s
     |some _=>.ok (c=true->p/\side) (Zv H o.dst (.when c e)) L s
    |none=>.stop
   |none=>.stop
  |.pick x a b=>match Zdx H c x a b with
   |some (p,v)=>match o.guard with
    |none=>.ok p (Zv H o.dst (.d (.bool v))) L s
    |some _=>.ok (c=true->p) (Zv H o.dst (.when c (.d (.bool v)))) L s
   |none=>.stop
  |.alloc z=>match o.guard,o.dst with
   |none,sO t=>.ok (Zam L t=false) ((t,.loc t 0)::H) ((t,z)::L) s
   |_,_=>.stop
  |.box x=>match o.guard,o.dst,Zy H true x with
   |none,sO t,sO (p,.d v)=>.ok (p/\Zam L t=false/\W7 v=true) ((t,.loc t 0)::H) ((t,cellsOf v)::L) s
   |_,_,_=>.stop
  |.bsl len n z is xs=>match Z8 H c xs with
   |some (p,es)=>match Ka es with
    |some ds=>match o.guard with
     |none=>.ok (p/\K9 n ds=true) (Zv H o.dst (.d (.sl .full len n (ZR z (is.zip ds))))) L s
     |some _=>.ok (c=true->p/\K9 n ds=true) (Zv H o.dst (.when c (.d (.sl .full len n (ZR z (is.zip ds)))))) L s
    |none=>.stop
   |none=>.stop
  |.s2b x=>match Zy H c x with
   |some (p,.d (.str l))=>match o.guard with
    |none=>.ok p (Zv H o.dst (.d (.sl .none (I l) 1 (λi=>[.int .u8 ((l.getD i 0).toNat:Int)])))) L s
    |some _=>.ok (c=true->p) (Zv H o.dst (.when c (.d (.sl .none (I l) 1 (λi=>[.int .u8 ((l.getD i 0).toNat:Int)]))))) L s
   |_=>.stop
  |.store1 a v=>match o.guard,o.dst,Zy H true a,Zy H true v with
   |none,nO,sO (p,a),sO (q,.d x)=>K3 H L s p q (QV x=true) a 1 [x]
   |_,_,_,_=>.stop
  |.storeN n a v=>match o.guard,o.dst,Zy H true a,Zy H true v with
   |none,nO,sO (p,a),sO (q,.d (.agg xs))=>K3 H L s p q (I xs=n) a n xs
   |_,_,_,_=>.stop
  |.mkmap=>match o.guard,o.dst with
   |none,sO t=>.all True (λb=>s b=nO) (λb=>(t,.d (.map b))::H) (λb=>s.upd b (.map []))
   |_,_=>.stop
  |.mkslice _ n bytes z l h=>match o.guard,o.dst,Zy H true l,Zy H true h with
   |none,sO t,sO (p,.d (.int _ l)),sO (q,.d (.int _ h)) =>
    .all (p/\q/\0<=l/\l<=h/\(bytes:Int)*h<=140737488355328/\h<=big) (λb=>s b=nO) (λb=>(t,.d (.msl b 0 l.toNat h.toNat n))::H) (λb=>s.upd b (.cells (W0 z h.toNat)))
   |_,_,_,_=>.stop
  |.mapupd kp m k v=>match o.guard,o.dst,Zy H true m,Zy H true k,Zy H true v with
   |none,nO,sO (p,.d (.map b)),sO (q,.d dk),sO (r,.d dv)=>match KT s b with
    |some es=>match JP kp dk dv es with
     |some es'=>.ok (p/\q/\r/\Qz kp dk=true) H L (s.upd b (.map es'))
     |none=>.stop
    |none=>.stop
   |_,_,_,_,_=>.stop
  |.delete kp m k=>match o.guard,o.dst,Zy H true m,Zy H true k with
   |none,nO,sO (p,.d (.map b)),sO (q,.d dk)=>match KT s b with
    |some es=>match Zgw kp dk es with
     |some es'=>.ok (p/\q/\Qz kp dk=true) H L (s.upd b (.map es'))
     |none=>.stop
    |none=>.stop
   |_,_,_,_=>.stop
  |.mapent kp z m k=>match o.guard,o.dst,Zy H true m,Zy H true k with
   |none,sO t,sO (p,.d (.map b)),sO (q,.d dk)=>match KT s b with
    |some es=>match ZdY kp dk z es with
     |some v=>.all (p/\q/\Qz kp dk=true) (λ_=>True) (λn=>(t,.d (.tup [v,.stamp n]))::H) (λn=>s.upd b (.mapE kp es dk n))
     |none=>.stop
    |none=>.stop
   |_,_,_,_=>.stop
  |.entst m st v=>match o.guard,o.dst,Zy H true m,Zy H true st,Zy H true v with
   |none,nO,sO (p,.d (.map b)),sO (q,.d (.stamp n)),sO (r,.d dv)=>match s b with
    |some (.mapE kp es dk n')=>match JP kp dk dv es with
     |some es'=>.ok (p/\q/\r/\n=n') H L (s.upd b (.map es'))
     |none=>.stop
    |_=>.stop
   |_,_,_,_,_=>.stop
  |_=>.stop
def Zjs(K:Env->Loc->St->Prop)(X:List DOp->Env->Loc->St->Prop):List DOp->Env->Loc->St->Prop
 | [],H,L,s=>K H L s
 |o::os,H,L,s=>match ZC o H L s with
  |.ok side H' L' s'=>side/\Zjs K X os H' L' s'
  |.all side pre H' s'=>side/\∀b,pre b->Zjs K X os (H' b) L (s' b)
  |.stop=>X (o::os) H L s
inductive Rd where
 |blk (b:Nat)
 |loc (l:Nat)
def KZ:E->List Rd
 |.d (.ptr b _)=>[.blk b]
 |.d (.map b)=>[.blk b]
 |.d (.msl b _ _ _ _)=>[.blk b]
 |.loc l _=>[.loc l]
 |_=>[]
def Y5(o:DOp)(H:Env):List Rd :=
 match o.k with
 |.q q xs=>if YU (.q q xs) then match Zk H o.guard with
  |some true=>match Z8 H true xs with
   |some (_,e::_)=>KZ e
   |_=>[]
  |_=>[]
  else []
 |_=>[]
def Ki(o:DOp)(H:Env):List (Nat×Rd):=(Y5 o H).map λb=>(ZbO o,b)
def KY(s s':St)(L L':Loc):List (Nat×Rd)->Prop
 | []=>True
 | (_,.blk b)::B=>s' b=s b/\KY s s' L L' B
 | (_,.loc l)::B=>Zg L' l=Zg L l/\KY s s' L L' B
def YZ(fl:List Nat):List (Nat×Rd)->List (Nat×Rd)
 | []=>[]
 |x::B=>if Zan x.1 fl then x::YZ fl B else YZ fl B
def Wg(fl:List Nat)(s s':St)(L L':Loc)(B:List (Nat×Rd)):Prop:=KY s s' L L' (YZ fl B)
def ZhY(K:Env->Loc->St->Prop)(X:List (DOp×List Nat)->Env->Loc->St->List (Nat×Rd)->Prop):List (DOp×List Nat)->Env->Loc->St->List (Nat×Rd)->Prop
 | [],H,L,s,_=>K H L s
 |o::os,H,L,s,B=>match ZC o.1 H L s with
  |.ok side H' L' s'=>if Y3 o.1.k then side/\ZhY K X os H' L' s' (Ki o.1 H++B) else side/\Wg o.2 s s' L L' B/\ZhY K X os H' L' s' (Ki o.1 H++YZ o.2 B)
  |.all side pre H' s'=>side/\∀b,pre b->Wg o.2 s (s' b) L L B/\ZhY K X os (H' b) L (s' b) (YZ o.2 B)
  |.stop=>X (o::os) H L s B
def Km:E->List Nat
 |.loc l _=>[l]
 |.when _ e=>Km e
 |_=>[]
def Yn(H:Env):List Nat->Env
 | []=>[]
 |k::ks=>match ZK H k with
  |some e=>(k,e)::Yn H ks
  |none=>Yn H ks
def Zav(L:Loc):List Nat->Loc
 | []=>[]
 |l::ls=>match Zg L l with
  |some cs=>(l,cs)::Zav L ls
  |none=>Zav L ls
def ZaZ(H:Env)(L:Loc):Loc:=Zav L (H.flatMap λx=>Km x.2)
structure ZvK(P:Program) where
 T:G->World->Machine->Prop
 back:∀g w m m',Steps P m m'->T g w m'->T g w m
 ext:∀g w g' w' m,Ext g w g' w'->T g' w' m->T g w m
structure Fr(P:Program) where
 T:ZvK P
 b:Frame
 cs:List Frame
 N:Nat
 ds:List Deferred
 an:Ann
inductive WW where
 |code (c:DC)
 |inBlock (id:Nat)
 |inLoop (c:DC)
 |inScope (c:DC)
 |beginR
inductive Ww(P:Program)(an:Ann)(N:Nat):List Item->List WW->Prop where
 |nil:Ww P an N [] []
 |code {c d k dk} (h:cc P an N c=some d) (t:Ww P an N k dk):Ww P an N (.code c::k) (.code d::dk)
 |inBlock {id k dk} (t:Ww P an N k dk):Ww P an N (.inBlock id::k) (.inBlock id::dk)
 |inLoop {c d k dk} (h:cc P an N c=some d) (t:Ww P an N k dk):Ww P an N (.inLoop c::k) (.inLoop d::dk)
 |inScope {c d k dk} (h:cc P an N c=some d) (t:Ww P an N k dk):Ww P an N (.inScope c::k) (.inScope d::dk)
 |beginR {k dk} (t:Ww P an N k dk):Ww P an N (.beginRound::k) (.beginR::dk)
section
variable {P:Program}
def ZuE{b:Frame}{a k cs w c}:step P (lone (b.atR a (.code (.scope c)::k)) cs w)=.next (lone (b.atR a (.code c::.inScope c::k)) cs w) :=
 step_lone_go (by simp[stepG,stepG.exec,Frame.atR])
def Zrx{b:Frame}{a k cs w c}:step P (lone (b.atR a (.inScope c::k)) cs w)=.next (lone (b.atR a k) cs w) :=
 step_lone_go (by simp[stepG,stepG.exec,Frame.atR])
def Jo(F:Fr P)(todo:List Item)(H:Env)(L:Loc)(s:St):Prop :=
 ∀g Z w tmps,F.N<=tmps.size->Zu g Z w tmps H L s->F.T.T g w (lone (F.b.atR ⟨tmps,F.ds⟩ todo) F.cs w)
def Zw(F:Fr P)(dk:List WW)(H:Env)(L:Loc)(s:St):Prop:=∀k,Ww P F.an F.N k dk->Jo F k H L s
def DO(F:Fr P)(_keep:Option (List Nat))(dk:List WW)(os:List DOp)(H:Env)(L:Loc)(s:St):Prop :=
 ∀ops is k,Jq P F.N ops is=sO os->Ww P F.an F.N k dk->Jo F (.inRegion ops is::k) H L s
def Jo.step{F:Fr P}{k k' H L s}(h:∀a w,step P (lone (F.b.atR a k) F.cs w)=.next (lone (F.b.atR a k') F.cs w))(i:Jo F k' H L s):Jo F k H L s :=
 λg Z w tmps t m=>F.T.back _ _ _ _ (.one (h _ w)) (i g Z w tmps t m)
def ZA2{an N c}(h:cc P an N c=sO .skip):c=.skip:=by
 unfold cc at h;split at h<;>simp_all;all_goals (split at h<;>grind)
def Zst{an N c}(h:cc P an N c=sO .ret):c=.ret:=by
 unfold cc at h;split at h<;>simp_all;all_goals (split at h<;>grind)
def ZuQ{an N id c}(h:cc P an N c=sO (.exit id)):c=.exit id:=by
 unfold cc at h;split at h<;>simp_all;all_goals (split at h<;>grind)
def ZCp{an N c x y}(h:cc P an N c=sO (.seq x y)):∃a b,c=.seq a b/\cc P an N a=sO x/\cc P an N b=sO y:=by
 unfold cc at h;split at h<;>simp_all;all_goals (split at h<;>simp_all)
 grind
def ZAY{an N c x y o}(h:cc P an N c=sO (.cond o x y)):∃o' a b,c=.cond o' a b/\ZW o'=sO o/\cc P an N a=sO x/\cc P an N b=sO y:=by
 unfold cc at h;split at h<;>simp_all;all_goals (split at h<;>simp_all)
 grind
def Zzc{an N id c x}(h:cc P an N c=sO (.block id x)):∃a,c=.block id a/\cc P an N a=sO x:=by
 unfold cc at h;split at h<;>simp_all;all_goals (split at h<;>grind)
def ZA0{an N c x}(h:cc P an N c=sO (.loop x)):∃a,c=.loop a/\cc P an N a=sO x:=by
 unfold cc at h;split at h<;>simp_all;all_goals (split at h<;>grind)
def ZCo{an N c os ks}(h:cc P an N c=sO (.reg os ks)):
  ∃id ops,c=.region id ops false/\Jq P N ops (ZHJ ops.size)=sO os/\an.get id=ks:=by
 unfold cc at h;split at h<;>simp_all;grind;all_goals (split at h<;>grind)
def Zze{an N c x}(h:cc P an N c=sO (.scope x)):∃a,c=.scope a/\cc P an N a=sO x:=by
 unfold cc at h;split at h<;>simp_all;all_goals (split at h<;>grind)
def Zzd{an N l c}(h:cc P an N c=sO (.label l)):c=.label l:=by
 unfold cc at h;split at h<;>simp_all;all_goals (split at h<;>grind)
def ZAZ{an N l c}(h:cc P an N c=sO (.goto l)):c=.goto l:=by
 unfold cc at h;split at h<;>simp_all;all_goals (split at h<;>grind)
def Zqj{an N c f ps x y}(h:cc P an N c=sO (.rangeF f ps x y)):
  ∃f' ps' a b,c=.rangeFunc f' ps' a b/\ZW f'=sO f/\ps'.toList=ps/\cc P an N a=sO x/\cc P an N b=sO y/\∀t∈ps,t<N:=by
 unfold cc at h;split at h<;>simp_all;all_goals (split at h<;>simp_all)
 obtain⟨u,rfl,rfl,rfl,rfl⟩:=h;exact⟨_,_,_,_,⟨rfl,rfl,rfl,rfl⟩,‹_›,rfl,‹_›,‹_›,λt ht=>by obtain⟨i,hi,rfl⟩:=ZHR ht;simpa using u i ω⟩
def ZI{F:Fr P}{dk H L s}(h:Zw F dk H L s):Zw F (.code .skip::dk) H L s:=by
 intro k i;cases i with
 |code hc ht=>obtain rfl:=ZA2 hc;exact Jo.step (λa w=>stepR_skip) (h _ ht)
def Zs{F:Fr P}{id dk H L s}(h:Zw F dk H L s):Zw F (.inBlock id::dk) H L s:=by
 intro k i;cases i with
 |inBlock ht=>exact Jo.step (λa w=>stepR_inBlock) (h _ ht)
def Zc{F:Fr P}{x y dk H L s}(h:Zw F (.code x::.code y::dk) H L s):Zw F (.code (.seq x y)::dk) H L s:=by
 intro k u;cases u with
 |code hc ht=>obtain⟨a,b,rfl,i,t⟩:=ZCp hc;exact Jo.step (λa w=>stepR_seq) (h _ (.code i (.code t ht)))
def Zd{F:Fr P}{id x dk H L s}(h:Zw F (.code x::.inBlock id::dk) H L s):Zw F (.code (.block id x)::dk) H L s:=by
 intro k t;cases t with
 |code hc ht=>obtain⟨a,rfl,i⟩:=Zzc hc;exact Jo.step (λa w=>stepR_block) (h _ (.code i (.inBlock ht)))
def ZaA{F:Fr P}{x dk H L s}(h:Zw F (.code x::.inLoop x::dk) H L s):Zw F (.code (.loop x)::dk) H L s:=by
 intro k t;cases t with
 |code hc ht=>obtain⟨a,rfl,i⟩:=ZA0 hc;exact Jo.step (λa w=>stepR_loop) (h _ (.code i (.inLoop i ht)))
def Ze{F:Fr P}{x dk H L s}(h:Zw F (.code x::.inLoop x::dk) H L s):Zw F (.inLoop x::dk) H L s:=by
 intro k i;cases i with
 |inLoop hc ht=>exact Jo.step (λa w=>stepR_inLoop) (h _ (.code hc (.inLoop hc ht)))
def Yr{F:Fr P}{x dk H L s}(h:Zw F (.code x::.inScope x::dk) H L s):Zw F (.code (.scope x)::dk) H L s:=by
 intro k t;cases t with
 |code hc ht=>obtain⟨a,rfl,i⟩:=Zze hc;exact Jo.step (λa w=>ZuE) (h _ (.code i (.inScope i ht)))
def Z3{F:Fr P}{x dk H L s}(h:Zw F dk H L s):Zw F (.inScope x::dk) H L s:=by
 intro k i;cases i with
 |inScope hc ht=>exact Jo.step (λa w=>Zrx) (h _ ht)
def Yx{F:Fr P}{l dk H L s}(h:Zw F dk H L s):Zw F (.code (.label l)::dk) H L s:=by
 intro k i;cases i with
 |code hc ht=>obtain rfl:=Zzd hc;exact Jo.step (λa w=>stepR_label) (h _ ht)
def W9:DC->Nat->Option DC
 |.seq a b,l=>match W9 a l with
  |some r=>sO (.seq r b)
  |none=>W9 b l
 |.label l',l=>if l'=l then sO .skip else nO
 |_,_=>nO
def ZsZ{an N l}:∀{c d},cc P an N c=sO d->(∀u,W9 d l=sO u->∃c',findLabel c l=sO c'/\cc P an N c'=sO u)/\(W9 d l=nO->findLabel c l=nO):=by
 intro c;induction c with
 |seq a b iha ihb =>
  intro d h;unfold cc at h;split at h<;>simp at h;rename_i x y hx hy;subst h;obtain⟨a1,a2⟩:=iha hx;obtain⟨b1,b2⟩:=ihb hy;refine⟨λu t=>?_,λt=>?_⟩
  .simp[W9]at t;cases i:W9 x l with
   |some r =>simp[i]at t;obtain⟨c',h1,h2⟩:=a1 r i;subst t;exact⟨.seq c' b,by simp[findLabel,h1],by simp[cc,h2,hy]⟩
   |none =>simp[i]at t;obtain⟨c',h1,h2⟩:=b1 u t;exact⟨c',by simp[findLabel,a2 i,h1],h2⟩
  simp[W9]at t;cases i:W9 x l with
  |some r=>grind
  |none=>simp[i]at t;simp[findLabel,a2 i,b2 t]
 |label l' =>intro d h;cases h;refine⟨λu t=>?_,λt=>?_⟩;simp only[W9]at t;split at t<;>simp at t;rename_i hl;subst t;exact⟨.skip,by simp[findLabel,hl],rfl⟩;simp only[W9]at t;split at t<;>simp at t;rename_i hl;simp[findLabel,hl]
 |region id ops dr =>intro d h;refine⟨λu t=>?_,λ_=>rfl⟩;cases dr<;>simp only[cc,ZHI]at h<;>(obtain⟨_,_,rfl⟩:=h;cases t)
 |_ =>
  intro d h;refine⟨λu t=>?_,λ_=>rfl⟩;first
   | (cases h;done)
   | (simp[cc]at h;obtain⟨_,_,rfl⟩:=h;cases t;done)
   | (cases h;done)
   | (simp[cc]at h;split at h<;>(try(split at h))<;>simp at h<;>(subst h;cases t))
def Zdq(l:Nat):List WW->Option (List WW)
 |.inScope body::k=>match W9 body l with
  |some r=>sO (.code r::.inScope body::k)
  |none=>Zdq l k
 |_::k=>Zdq l k
 | []=>nO
def Zc3{an N l}:∀{k dk dk'},Ww P an N k dk->Zdq l dk=sO dk'->∃i,gotoIn l k=sO i/\Ww P an N i dk'
 |_,_,_,.nil,h=>by cases h
 |_,_,_,.code _ t,h=>by simp[Zdq]at h;obtain⟨i,u,h2⟩:=Zc3 t h;exact⟨i,by simpa[gotoIn]using u,h2⟩
 |_,_,_,.inLoop _ t,h=>by simp[Zdq]at h;obtain⟨i,u,h2⟩:=Zc3 t h;exact⟨i,by simpa[gotoIn]using u,h2⟩
 |_,_,_,.inBlock t,h=>by simp[Zdq]at h;obtain⟨i,u,h2⟩:=Zc3 t h;exact⟨i,by simpa[gotoIn]using u,h2⟩
 |_,_,_,.beginR t,h=>by simp[Zdq]at h;obtain⟨i,u,h2⟩:=Zc3 t h;exact⟨i,by simpa[gotoIn]using u,h2⟩
 |_,_,_,.inScope (c:=c) (d:=d) hc t,h=>by
  simp[Zdq]at h;obtain⟨f1,f2⟩:=ZsZ (l:=l) hc;cases hf:W9 d l with
  |some r =>simp[hf]at h;subst h;obtain⟨c',u,h2⟩:=f1 r hf;exact⟨_,by simp[gotoIn,u],.code h2 (.inScope hc t)⟩
  |none =>simp[hf]at h;obtain⟨i,u,h2⟩:=Zc3 t h;exact⟨i,by simpa[gotoIn,f2 hf]using u,h2⟩
def Zxc{F:Fr P}{l dk i H L s}(he:Zdq l dk=sO i)(h:Zw F i H L s):Zw F (.code (.goto l)::dk) H L s:=by
 intro k hk;cases hk with
 |code hc ht =>obtain rfl:=ZAZ hc;obtain⟨k',t,u⟩:=Zc3 ht he;exact Jo.step (λa w=>stepR_goto t) (h _ u)
def Q2(id:Nat):List WW->Option (List WW)
 |.inBlock id'::k=>if id'=id then sO k else Q2 id k
 |_::k=>Q2 id k
 | []=>nO
def ZcZ{an N id}:∀{k dk dk'},Ww P an N k dk->Q2 id dk=sO dk'->∃u,exitTo id k=sO u/\Ww P an N u dk'
 |_,_,_,.nil,h=>by cases h
 |_,_,_,.code _ t,h=>by simp[Q2]at h;obtain⟨u,h1,h2⟩:=ZcZ t h;exact⟨u,by simpa[exitTo]using h1,h2⟩
 |_,_,_,.inLoop _ t,h=>by simp[Q2]at h;obtain⟨u,h1,h2⟩:=ZcZ t h;exact⟨u,by simpa[exitTo]using h1,h2⟩
 |_,_,_,.inScope _ t,h=>by simp[Q2]at h;obtain⟨u,h1,h2⟩:=ZcZ t h;exact⟨u,by simpa[exitTo]using h1,h2⟩
 |_,_,_,.beginR t,h=>by simp[Q2]at h;obtain⟨u,h1,h2⟩:=ZcZ t h;exact⟨u,by simpa[exitTo]using h1,h2⟩
 |_,_,_,.inBlock (id:=id') t,h=>by simp[Q2]at h;by_cases i:id'=id;simp[i]at h;subst h;exact⟨_,by simp[exitTo,i],t⟩;simp[i]at h;obtain⟨u,h1,h2⟩:=ZcZ t h;exact⟨u,by simpa[exitTo,i]using h1,h2⟩
def ZaY{an N id}:∀{k dk},Ww P an N k dk->Q2 id dk=nO->exitTo id k=nO
 |_,_,.nil,_=>rfl
 |_,_,.code _ t,h=>by simp[Q2]at h;simpa[exitTo]using ZaY t h
 |_,_,.inLoop _ t,h=>by simp[Q2]at h;simpa[exitTo]using ZaY t h
 |_,_,.inScope _ t,h=>by simp[Q2]at h;simpa[exitTo]using ZaY t h
 |_,_,.beginR t,h=>by simp[Q2]at h;simpa[exitTo]using ZaY t h
 |_,_,.inBlock (id:=id') t,h=>by simp[Q2]at h;by_cases hid:id'=id;grind;simp[hid]at h;simpa[exitTo,hid]using ZaY t h
def ZS{F:Fr P}{id dk i H L s}(he:Q2 id dk=sO i)(h:Zw F i H L s):Zw F (.code (.exit id)::dk) H L s:=by
 intro k hk;cases hk with
 |code hc ht =>obtain rfl:=ZuQ hc;obtain⟨k',t,u⟩:=ZcZ ht he;exact Jo.step (λa w=>stepR_exit t) (h _ u)
def ZX{g Z w tmps H L s}(m:Zu g Z w tmps H L s){x y}(hc:ZW x=sO y){c}(hcond:c=true){p e}(u:Zy H c y=sO (p,e))(hp:p)(ds):ZJ g Z w L ((Act.mk tmps ds).eval x) e:=by
 cases x with
 |tmp t =>cases hc;simp[Zy]at u;split at u;rename_i c' e' hg;cases u;exact(m.env t _ hg).1 (hp hcond);rename_i e' hne hg;cases u;exact m.env t _ hg;grind
 |const v =>simp[ZW]at hc;obtain⟨d,hd,rfl⟩:=hc;cases u;exact Zjo hd
 |func f =>cases hc;cases u;exact .fn (.func f) [] [] [] [] rfl rfl (λi v d h=>by grind) (λi v d h=>by grind)
 |global g =>
  cases hc;cases u;cases ht:Zsc.tab g with
  |none=>exact .any _
  |some cs=>exact m.st.tabs g cs ht
def Zb0{g Z w tmps H L s}(m:Zu g Z w tmps H L s){c}(t:c=true)(ds) :
  ∀{xs u p es},Zcg xs=sO u->Z8 H c u=sO (p,es)->p->ZH (ZJ g Z w L) (xs.map (Act.mk tmps ds).eval) es
 | [],u,p,es,hc,ha,hp=>by cases hc;cases ha;exact .nil
 |x::xs,u,p,es,hc,ha,hp=>by simp[Zcg]at hc;split at hc<;>simp at hc;rename_i y ys' hy i;subst hc;simp[Z8]at ha;split at ha<;>simp only[ZHu,reduceCtorEq]at ha;rename_i p1 e1 p2 es' h1 h2;obtain⟨rfl,rfl⟩:=ha;exact .cons (ZX m hy t h1 hp.1 ds) (Zb0 m t ds i h2 hp.2)
def Zn{F:Fr P}{o x y dk H L s b p}(ho:Zy H true o=sO (p,.d (.bool b)))(hp:p)(ht:b=true->Zw F (.code x::dk) H L s)(hf:b=false->Zw F (.code y::dk) H L s):Zw F (.code (.cond o x y)::dk) H L s:=by
 intro k hk;cases hk with
 |code hc htl =>obtain⟨o',a,b',rfl,i,ha,hb⟩:=ZAY hc;intro g Z w tmps u m;have hv:=ZX m i rfl ho hp F.ds;have t:(Act.mk tmps F.ds).eval o'=.bool b:=ZbK hv;refine F.T.back _ _ _ _ (.one (stepR_cond t)) ?_;cases b;exact hf rfl _ (.code hb htl) g Z w tmps u m;exact ht rfl _ (.code ha htl) g Z w tmps u m
def ZhI{F:Fr P}{os ks dk H L s}(h:DO F ks dk os H L s):Zw F (.code (.reg os ks)::dk) H L s:=by
 intro k t;cases t with
 |code hc ht =>obtain⟨id,ops,rfl,i,_⟩:=ZCo hc;exact Jo.step (λa w=>stepR_region) (h _ _ _ i ht)
end
def Zja(w:World){o}{b}(h:b<w.heap.size):(w.alloc o).heap[b]?=w.heap[b]?:=by
 show(w.heap.push o)[b]?=_;rw[Array.getElem?_push];simp[Nat.ne_of_lt h]
def Kf(w:World){o}:(w.alloc o).heap[w.heap.size]?=sO o:=by
 show(w.heap.push o)[w.heap.size]?=_;rw[Array.getElem?_push];simp
def ZbZ(v:Value):v.oneCell'=v.one1:=by cases v<;>rfl
section
variable {P:Program} {g:G} {Z:Nat->Nat} {w:World} {tmps:Array Value} {H:Env} {L:Loc} {s:St}
def Zh2(b:Nat){i vs:Array Value}{T:TypeId}(u:w.heap[b]?=sO (.cells i T (0,0)))(t:vs.size=i.size)(hp:g.prot b=0)(hk:¬g.kept b):Ext g w g (w.setRow b vs):={
 size:=by simp
 prot _:=ZHK _
 cell b' o ho:=by by_cases h:b'=b;subst h;omega;exact QO (setRow_other w b b' vs h)
 hdr b' x hx:=by by_cases h:b'=b;subst h;simp only[hdr,u]at hx;simp only[hdr,setRow_heap w b' i vs T (0,0) u,t];exact hx;rw[Zah (setRow_other w b b' vs h)];exact hx
 kept b' hb':=setRow_other w b b' vs (λh=>hk (h▸hb'))
 keptProt _ _:=rfl
 keptEq:=rfl
 os:=rfl
 output:=rfl
 tape:=rfl }
def Ya.other{g:G}{w w':World}{s:St}(m:Ya g s w)(e:Ext g w g w')(hs:w'.heap.size=w.heap.size)(i:∀b o,s b=sO o->w'.heap[b]?=w.heap[b]?):Ya g s w':={
 obj b o ho:=(m.obj b o ho).mono e (i b o ho) rfl
 kept:=m.kept
 fresh b h:=m.fresh b ω
 tabs n cs hc:=(m.tabs n cs hc).mono e }
def Zu.store(m:Zu g Z w tmps H L s){l cs ds}(hl:Zg L l=sO cs){vs}(hr:ZH (Rep g w) vs.toList ds)(ho:∀v∈vs,v.one1=true)(hn:I ds=I cs):
  Ext g w g (w.setRow (Z l) vs)/\Zu g Z (w.setRow (Z l) vs) tmps H ((l,ds)::L) s:=by
 obtain⟨hp,ad,T,h1,h2,_,_⟩:=m.loc l cs hl;have ae:vs.size=ad.size:=by have:=hr.len;simp at this;omega
 have he:=Zh2 (g:=g) (Z l) h1 ae hp (m.locKept l cs hl);refine⟨he,⟨?_,?_,?_,?_,?_,?_⟩⟩;exact m.st.other he ψ (λb o hb=>setRow_other w (Z l) b vs (λh=>by subst h;rw[m.locSt l cs hl]at hb;simp at hb));intro l' ab u;simp only[Zg]at u;by_cases h:l=l';subst h;simp only[if_true,ZHu]at u;subst u;refine⟨hp,vs,T,setRow_heap w (Z l) ad vs T (0,0) h1,by rw[ae,h2,hn],λi v d hv hd=>?_,ho⟩;exact(hr.get i v d (by simpa using hv) hd).mono he;simp only[h,if_false]at u;have af:Z l'≠Z l:=λhh=>h (m.inj l l' cs ab hl u hh.symm);exact(m.loc l' ab u).mono he (setRow_other w (Z l) (Z l') vs af) rfl;intro l' ab u;simp only[Zg]at u;by_cases h:l=l';subst h;exact m.locKept l cs hl;simp only[h,if_false]at u;exact m.locKept l' ab u;intro l' ab u;simp only[Zg]at u;by_cases h:l=l';subst h;exact m.locSt l cs hl;simp only[h,if_false]at u;exact m.locSt l' ab u;intro a b ca cb ha hb ac;simp only[Zg]at ha hb;by_cases h1:l=a;by_cases h2:l=b;exact h1.symm.trans h2;simp only[h2,if_false]at hb;subst h1;exact m.inj _ _ cs cb hl hb ac;simp only[h1,if_false]at ha;by_cases h2:l=b;subst h2;exact m.inj _ _ ca cs ha hl ac;simp only[h2,if_false]at hb;exact m.inj _ _ ca cb ha hb ac;intro t e ht;refine((m.env t e ht).mono he).locs (λl' ab u=>⟨?_,rfl⟩);by_cases h:l=l';exact⟨ds,by simp[Zg,h]⟩;exact⟨ab,by simp[Zg,h,u]⟩
def Zwc(c:Array Value)(T:TypeId)(i:∀b,w.heap.size<=b->g.prot b=0/\¬g.kept b):JZ g w g (w.alloc (.cells c T)):={
 size:=by simp
 old b hb:=Zja w hb
 prot _ _:=rfl
 fresh b hb:=(i b (by simp at hb;omega)).1
 kept:=rfl
 os:=rfl
 output:=rfl
 tape:=rfl }
def Zu.alloc(m:Zu g Z w tmps H L s){l ds}(hl:Zam L l=false){vs}(hr:ZH (Rep g w) vs.toList ds)(ho:∀v∈vs,v.one1=true)(T):
  Ext g w g (w.alloc (.cells vs T))/\Zu g (λx=>if x=l then w.heap.size else Z x) (w.alloc (.cells vs T)) tmps H ((l,ds)::L) s:=by
 have hg:=Zwc (g:=g) vs T m.st.fresh;have he:=hg.ext m.st.fresh;have m':=m.grow hg;have hn:Zg L l=nO:=by simpa[Zam]using hl
 have ad:∀l' ab,Zg L l'=sO ab->l'≠l:=λl' ab h hh=>by subst hh;rw[hn]at h;simp at h
 refine⟨he,⟨m'.st,?_,?_,?_,?_,?_⟩⟩;intro l' ab u;simp only[Zg]at u;by_cases h:l=l';subst h;simp only[if_true,ZHu]at u;subst u;simp only[if_true];refine⟨(m.st.fresh _ (ZHK _)).1,vs,T,Kf w,by simpa using hr.len,λi v d hv hd=>?_,ho⟩;exact(hr.get i v d (by simpa using hv) hd).mono he;simp only[h,if_false]at u;simp only[show ¬l'=l from λhh=>h hh.symm,if_false];exact m'.loc l' ab u;intro l' ab u;simp only[Zg]at u;by_cases h:l=l';subst h;simp only[if_true];exact(m.st.fresh _ (ZHK _)).2;simp only[h,if_false]at u;simp only[show ¬l'=l from λhh=>h hh.symm,if_false];exact m.locKept l' ab u
 .intro l' ab u;simp only[Zg]at u;by_cases h:l=l'
  .subst h;simp only[if_true];cases hs:s w.heap.size with
   |none=>rfl
   |some o=>exact absurd (m.st.obj _ o hs).lt (Nat.lt_irrefl _)
  simp only[h,if_false]at u;simp only[show ¬l'=l from λhh=>h hh.symm,if_false];exact m.locSt l' ab u
 intro a b ca cb ha hb ac;simp only[Zg]at ha hb;by_cases h1:l=a;by_cases h2:l=b;exact h1.symm.trans h2;simp only[h2,if_false]at hb;simp only[h1.symm,if_true,show ¬b=l from λhh=>h2 hh.symm,if_false]at ac;have:=(m.loc b cb hb).lt;omega;simp only[h1,if_false]at ha;by_cases h2:l=b;simp only[h2.symm,if_true,show ¬a=l from λhh=>h1 hh.symm,if_false]at ac;have:=(m.loc a ca ha).lt;omega;simp only[h2,if_false]at hb;simp only[show ¬a=l from λhh=>h1 hh.symm,show ¬b=l from λhh=>h2 hh.symm,if_false]at ac;exact m.inj _ _ ca cb ha hb ac;intro t e ht;refine(m'.env t e ht).locs (λl' ab u=>⟨⟨ab,?_⟩,?_⟩);have:=ad l' ab u;simp[Zg,show ¬l=l' from λhh=>this hh.symm,u];simp[ad l' ab u]
def Zl2(c:Array Value)(T:TypeId)(hf:∀b,w.heap.size<=b->g.prot b=0/\¬g.kept b):
  JZ g w { g with prot:=λb=>if b=w.heap.size then c.size else g.prot b } (w.alloc (.cells c T)) where
 size:=by simp
 old b hb:=Zja w hb
 prot b hb:=by simp[Nat.ne_of_lt hb]
 fresh b hb:=by simp at hb;simp[show b≠w.heap.size by omega,(hf b ω).1]
 kept:=rfl
 os:=rfl
 output:=rfl
 tape:=rfl
def Z2(m:Zu g Z w tmps H L s){ops o gd}(hc:Zjg ops o.guard=sO gd){c}(u:Zk H gd=sO c):Region.wanted o (yielded ops tmps)=c:=by
 unfold Zjg at hc;unfold Region.wanted;split at hc;rename_i h0;simp only[ZHu]at hc;subst hc;simp only[Zk,ZHu]at u;subst u;simp[h0];rename_i j b h0;split at hc<;>simp at hc;rename_i t ht;subst hc;simp only[h0];have hy:yielded ops tmps j=match tmps.getD t undef with
   |.bool b=>sO b
   |_=>nO:=by
  unfold yielded;rw[ht];simp only[Option.bind_some];rcases Nat.lt_or_ge t tmps.size with i|hge;simp[Array.getD,i];split<;>simp_all;simp[Array.getD,Nat.not_lt.2 hge,undef]
 simp only[Zk]at u;split at u;rename_i b' he;simp only[ZHu]at u;subst u;have:=ZbK (m.env t _ he);rw[hy,this];cases b<;>cases b'<;>rfl;rename_i c0 b' he;simp only[ZHu]at u;subst u;have h:=m.env t _ he;cases c0;have:=h.2 rfl;rw[hy,this];simp[undef];have:=ZbK (h.1 rfl);rw[hy,this];cases b<;>cases b'<;>rfl;simp at u
end
section
variable {P:Program}
def Z9{op k}(h:ck P op=sO k)(i:k.isDefer=false)(c):op≠.defer c:=by
 rintro rfl;simp only[ck,cq]at h;split at h<;>(try(simp at h;done));split at h<;>simp only[ZHu,reduceCtorEq]at h;subst h;simp[K.isDefer]at i
def ZiI{b:Frame}{a k cs w w' ops i rest o v}(ho:ops[i]?=sO o)(hw:Region.wanted o (yielded ops a.tmps)=true)(u:∀c,o.op≠.defer c)(hr:(execOp a.eval o).run P w=.ok (.value v) w'):
  step P (lone (b.atR a (.inRegion ops (i::rest)::k)) cs w)=.next (lone (b.atR (a.put o.dst v) (.inRegion ops rest::k)) cs w'):=by
 refine step_lone_go ?_;rw[stepGR_op ho hw,Oper.semAt_eq _ _ _ u];have t:(b.atR a (.inRegion ops (i::rest)::k)).finish v=b.atR (a.put o.dst v) (.inRegion ops rest::k):=by rw[Frame.finish_atR,ho];rfl
 rw[<-t];simp[stepG.apply,hr]
def ZiH{b:Frame}{a k cs w w' ops i rest o}(ho:ops[i]?=sO o)(hw:Region.wanted o (yielded ops a.tmps)=true)(u:∀c,o.op≠.defer c)(hr:(execOp a.eval o).run P w=.ok .skip w'):
  step P (lone (b.atR a (.inRegion ops (i::rest)::k)) cs w)=.next (lone (b.atR (a.put o.dst undef) (.inRegion ops rest::k)) cs w'):=by
 refine step_lone_go ?_;rw[stepGR_op ho hw,Oper.semAt_eq _ _ _ u];have t:(b.atR a (.inRegion ops (i::rest)::k)).finish undef=b.atR (a.put o.dst undef) (.inRegion ops rest::k):=by rw[Frame.finish_atR,ho];rfl
 rw[<-t];simp[stepG.apply,hr]
def Zry{b:Frame}{a k cs w ops i rest o}(t:ops[i]?=sO o)(u:Region.wanted o (yielded ops a.tmps)=false):
  step P (lone (b.atR a (.inRegion ops (i::rest)::k)) cs w)=.next (lone (b.atR (a.put o.dst undef) (.inRegion ops rest::k)) cs w):=by
 have:=stepR_op_skip (P:=P) (b:=b) (a:=a) (k:=k) (cs:=cs) (w:=w) (ops:=ops) (i:=i) (rest:=rest) (by simp[t,u]);simpa[t]using this
def Zxq{N ops is o os}(h:Jq P N ops is=sO (o::os)):
  ∃i r oo,is=i::r/\ops[i]?=sO oo/\Jq P N ops r=sO os/\ck P oo.op=sO o.k/\Zjg ops oo.guard=sO o.guard/\oo.dst=o.dst/\∀d,o.dst=sO d->d<N:=by
 cases is with
 |nil=>simp[Jq]at h
 |cons i r =>simp only[Jq]at h;split at h<;>(try(simp at h;done));rename_i oo ac;split at h<;>simp only[ZHu,List.cons.injEq,reduceCtorEq]at h;rename_i d ds hd u;obtain⟨rfl,rfl⟩:=h;simp only[cop]at hd;split at hd<;>(try(simp at hd;done));rename_i k g hk hg;refine⟨i,r,oo,rfl,ac,u,?_⟩;split at hd;rename_i t;simp only[ZHu]at hd;subst hd;exact⟨hk,hg,t,λd h=>by simp at h⟩;rename_i d' t;split at hd<;>simp at hd;rename_i ab;subst hd;exact⟨hk,hg,t,λd h=>by simp only[ZHu]at h;exact h▸ab⟩
def Zzm{N ops is}(h:Jq P N ops is=sO []):is=[]:=by
 cases is with
 |nil=>rfl
 |cons i r=>simp only[Jq]at h;split at h<;>(try(simp at h;done));split at h<;>simp at h
def Zfm{g Z w tmps H L s}(m:Zu g Z w tmps H L s){N}(i:N<=tmps.size){dst}(t:∀d,dst=sO d->d<N){v e}(h:ZJ g Z w L v e)(ds):∃tmps',(Act.mk tmps ds).put dst v=⟨tmps',ds⟩/\N<=tmps'.size/\Zu g Z w tmps' (Zv H dst e) L s:=by
 cases dst with
 |none=>exact⟨tmps,rfl,i,m⟩
 |some d=>exact⟨tmps.setIfInBounds d v,rfl,by simpa using i,m.put (by have:=t d rfl;omega) h⟩
def Zn6{F:Fr P}{ops i r k oo}{o:DOp}{g Z w tmps H L s}(hN:F.N<=tmps.size)(m:Zu g Z w tmps H L s)(hoo:ops[i]?=sO oo)(u:oo.dst=o.dst)(hd:∀d,o.dst=sO d->d<F.N)(hw:Region.wanted oo (yielded ops tmps)=true)(hnd:∀c,oo.op≠.defer c){e}(hv:∃v,(execOp (Act.mk tmps F.ds).eval oo).run P w=.ok (.value v) w/\ZJ g Z w L v e)(h:Jo F (.inRegion ops r::k) (Zv H o.dst e) L s):
  F.T.T g w (lone (F.b.atR ⟨tmps,F.ds⟩ (.inRegion ops (i::r)::k)) F.cs w):=by
 obtain⟨v,hr,hv⟩:=hv;refine F.T.back _ _ _ _ (.one (ZiI hoo hw hnd hr)) ?_;rw[u];obtain⟨t,e1,e2,m'⟩:=Zfm m hN hd hv F.ds;rw[e1];exact h g Z w t e2 m'
def Zbt{F:Fr P}{ops i r k oo}{o:DOp}{g Z w tmps H L s}(hN:F.N<=tmps.size)(m:Zu g Z w tmps H L s)(hoo:ops[i]?=sO oo)(u:oo.dst=o.dst)(hd:∀d,o.dst=sO d->d<F.N)(hw:Region.wanted oo (yielded ops tmps)=false){e}(h:Jo F (.inRegion ops r::k) (Zv H o.dst (.when false e)) L s):F.T.T g w (lone (F.b.atR ⟨tmps,F.ds⟩ (.inRegion ops (i::r)::k)) F.cs w):=by
 refine F.T.back _ _ _ _ (.one (Zry hoo hw)) ?_;rw[u];obtain⟨t,e1,e2,m'⟩:=Zfm m hN hd (v:=undef) (e:=.when false e) ⟨λh=>by simp at h,λ_=>rfl⟩ F.ds;rw[e1];exact h g Z w t e2 m'
def ZCs{op q xs}(h:ck P op=sO (.q q xs)):∃i,cq P op=sO (q,i)/\Zcg i=sO xs:=by
 unfold ck at h;split at h;rename_i q' i t;simp only[ZHI,K.q.injEq]at h;obtain⟨zs,u,rfl,rfl⟩:=h;exact⟨i,t,u⟩;exfalso;split at h<;>(try(simp at h;done));all_goals (repeat' (split at h<;>(try(simp at h;done))))
def ZdG(H):∀(ks t e),ZK (Yn H ks) t=sO e->ZK H t=sO e
 | [],t,e,h=>by simp[Yn,ZK]at h
 |k::ks,t,e,h=>by simp only[Yn]at h;split at h;rename_i e' i;simp only[ZK]at h;by_cases u:k=t;subst u;simp only[if_true]at h;rw[i,h];simp only[u,if_false]at h;exact ZdG H ks t e h;exact ZdG H ks t e h
def ZgM:∀{H t e},ZK H t=sO e->(t,e)∈H
 | (k,e')::H,t,e,h=>by simp only[ZK]at h;by_cases i:k=t;simp only[i,if_true,ZHu]at h;subst h;subst i;simp;simp only[i,if_false]at h;exact List.mem_cons_of_mem _ (ZgM h)
def JU(L):∀(ls l cs),Zg (Zav L ls) l=sO cs->Zg L l=sO cs
 | [],l,cs,h=>by simp[Zav,Zg]at h
 |k::ls,l,cs,h=>by simp only[Zav]at h;split at h;rename_i c' i;simp only[Zg]at h;by_cases t:k=l;subst t;simp only[if_true]at h;rw[i,h];simp only[t,if_false]at h;exact JU L ls l cs h;exact JU L ls l cs h
def Zgh(L):∀(ls l cs),l∈ls->Zg L l=sO cs->Zg (Zav L ls) l=sO cs
 |k::ls,l,cs,hm,h=>by
  simp only[Zav];by_cases hk:k=l;subst hk;simp[h,Zg];have hm':l∈ls:=by rcases List.mem_cons.1 hm with rfl|h;exact absurd rfl hk;exact h
  split;simp only[Zg,hk,if_false];exact Zgh L ls l cs hm' h;exact Zgh L ls l cs hm' h
def ZJ.keep{g Z w L t v e}(h:ZJ g Z w L v e)(hl:∀l∈Km e,l∈t):ZJ g Z w (Zav L t) v e:=by
 induction e with
 |d x=>exact h
 |loc l o=>obtain⟨⟨u,i⟩,hv⟩:=h;exact⟨⟨u,Zgh L t l u (hl l (by simp[Km])) i⟩,hv⟩
 |when c e ih=>exact⟨λi=>ih (h.1 i) hl,h.2⟩
def Zu.keep(m:Zu g Z w tmps H L s)(ks:List Nat):Zu g Z w tmps (Yn H ks) (ZaZ (Yn H ks) L) s:={
 st:=m.st
 loc l cs h:=m.loc l cs (JU _ _ _ _ h)
 locKept l cs h:=m.locKept l cs (JU _ _ _ _ h)
 locSt l cs h:=m.locSt l cs (JU _ _ _ _ h)
 inj l l' cs cs' h h':=m.inj l l' cs cs' (JU _ _ _ _ h) (JU _ _ _ _ h')
 env t e h:=(m.env t e (ZdG H ks t e h)).keep (λl i=>List.mem_flatMap.2 ⟨(t,e),ZgM h,i⟩) }
def Zqh{F:Fr P}{dk H L s}(ks)(h:Zw F dk (Yn H ks) (ZaZ (Yn H ks) L) s):Zw F dk H L s :=
 λk t g Z w tmps i m=>h k t g Z w tmps i (m.keep ks)
def ZCg{F:Fr P}{kp dk H L s}(h:Zw F dk H L s):DO F kp dk [] H L s:=by
 intro ops is k i u g Z w tmps t m;obtain rfl:=Zzm i;exact F.T.back _ _ _ _ (.one stepR_region_end) (h k u g Z w tmps t m)
def kept(kp:Option (List Nat))(H:Env):Env :=
 match kp with
 |some ks=>Yn H ks
 |none=>H
def Zk6(kp:Option (List Nat))(H:Env)(L:Loc):Loc :=
 match kp with
 |some ks=>ZaZ (Yn H ks) L
 |none=>L
def ZeO{F:Fr P}{kp}{dk}{H}{L}{s}(h:Zw F dk (kept kp H) (Zk6 kp H L) s):DO F kp dk [] H L s:=by
 refine ZCg ?_;cases kp with
 |none=>exact h
 |some ks=>exact Zqh ks h
end
section
variable {P:Program}
def Zz5{g Z w tmps H L s}(m:Zu g Z w tmps H L s){x a b x' t u}(hx:ZW x=sO x')(ha:ZW a=sO t)(hb:ZW b=sO u){c}(hc:c=true){p v}(h:Zdx H c x' t u=sO (p,v))(i:p){ds dst ty pos af gd}:
  (execOp (Act.mk tmps ds).eval ⟨dst,.pick x a b,ty,pos,af,gd⟩).run P w=.ok (.value (.bool v)) w:=by
 unfold Zdx at h;split at h<;>(try(grind;done));rename_i p0 v0 h0;split at h<;>(try(grind;done));rename_i pa y pb z h1 h2;cases h;subst hc;have e0:=ZbK (ZX m hx rfl h0 i.1 ds);cases v0;have e2:=ZbK (ZX m hb rfl h2 i.2.2 ds);simp[execOp,e0,e2,asBool];have e1:=ZbK (ZX m ha rfl h1 i.2.1 ds);simp[execOp,e0,e1,asBool]
def ZA6{op x a b}(h:ck P op=sO (.pick x a b)):∃x' a' b',op=.pick x' a' b'/\ZW x'=sO x/\ZW a'=sO a/\ZW b'=sO b:=by
 unfold ck at h;split at h;simp at h;split at h<;>(try(simp at h;done));all_goals (try(repeat' (split at h<;>(try(simp at h;done)))))
 cases h;exact⟨_,_,_,rfl,‹_›,‹_›,‹_›⟩
def Zsy{op z}(h:ck P op=sO (.alloc z)):∃e,op=.alloc e/\Zaa P e=sO z:=by
 unfold ck at h;split at h;simp at h;split at h<;>(try(simp at h;done));all_goals (try(repeat' (split at h<;>(try(simp at h;done)))))
 simp at h;exact⟨_,rfl,h⟩
def Zxi{op x}(h:ck P op=sO (.box x)):∃e x',op=.box e x'/\ZW x'=sO x:=by
 unfold ck at h;split at h;simp at h;split at h<;>(try(simp at h;done));all_goals (try(repeat' (split at h<;>(try(simp at h;done)))))
 simp at h;exact⟨_,_,rfl,h⟩
def Zql{op a v}(h:ck P op=sO (.store1 a v)):∃t a' v',op=.store t a' v'/\J0 P t=sO false/\ZP P t=sO 1/\ZW a'=sO a/\ZW v'=sO v:=by
 unfold ck at h;split at h;simp at h;split at h<;>(try(simp at h;done));all_goals (try(repeat' (split at h<;>(try(simp at h;done)))))
 cases h;exact⟨_,_,_,rfl,‹_›,‹_›,‹_›,‹_›⟩
def Zqm{op a v n}(h:ck P op=sO (.storeN n a v)):∃t a' v',op=.store t a' v'/\J0 P t=sO true/\ZP P t=sO n/\ZW a'=sO a/\ZW v'=sO v:=by
 unfold ck at h;split at h;simp at h;split at h<;>(try(simp at h;done));all_goals (try(repeat' (split at h<;>(try(simp at h;done)))))
 cases h;exact⟨_,_,_,rfl,‹_›,‹_›,‹_›,‹_›⟩
def Zxj{op len n z is xs}(h:ck P op=sO (.bsl len n z is xs)):
  ∃t e parts,op=.buildSlice t len parts/\P.underlying t=sO (.slice e)/\ZP P e=sO n/\Zaa P e=sO z/\Zcg (parts.toList.map (·.2))=sO xs/\is=parts.toList.map (·.1) /\
   Qu len is=true/\I z=n/\0<n/\len*n<=2 ^ 24:=by
 unfold ck at h;split at h;simp at h;split at h<;>(try(simp at h;done));all_goals (try(repeat' (split at h<;>(try(simp at h;done)))))
 rename_i i;cases h;simp at i;exact⟨_,_,_,rfl,‹_›,‹_›,‹_›,‹_›,rfl,i.1.1.1,i.1.1.2,i.1.2,i.2⟩
def KK{g w t z}(h:Zaa P t=sO z):∃v,(zeroValue t).run P w=.ok v w/\ZH (Rep g w) v.cells.toList z/\(∀x∈v.cells,x.one1=true)/\∃i,P.info? t=sO i/\i.zero=sO v:=by
 unfold Zaa at h;cases hi:P.info? t with
 |none=>grind
 |some i =>
  cases u:i.zero with
  |none=>grind
  |some v =>simp[hi,u]at h;obtain⟨h1,h2⟩:=ZdD (g:=g) (w:=w) h;exact⟨v,by simp[zeroValue,typeInfo,hi,u],h1,λx hx=>h2 x (Array.mem_toList_iff.2 hx),i,rfl,u⟩
def Y1{F:Fr P}{kp dk o os H L s}(h:∀(oo:Oper) (g:G) (Z:Nat->Nat) (w:World) (tmps:Array Value) (u:Array Oper) (i:Nat) (r:List Nat) (k:List Item),u[i]?=sO oo->ck P oo.op=sO o.k->Zjg u oo.guard=sO o.guard ->
   oo.dst=o.dst->(∀d,o.dst=sO d->d<F.N)->F.N<=tmps.size->Zu g Z w tmps H L s->Jq P F.N u r=sO os->Ww P F.an F.N k dk ->
   F.T.T g w (lone (F.b.atR ⟨tmps,F.ds⟩ (.inRegion u (i::r)::k)) F.cs w)):DO F kp dk (o::os) H L s:=by
 intro u is k t hk g Z w tmps hN m;obtain⟨i,r,oo,rfl,h1,h2,h3,h4,h5,h6⟩:=Zxq t;exact h oo g Z w tmps u i r k h1 h3 h4 h5 h6 hN m h2 hk
def Zr4{F:Fr P}{kp dk o os H L s c}(hg:Zk H o.guard=sO c)(hnk:o.k.isDefer=false){e e'}(he:e'=.when c e\/(c=true/\e'=e))(hv:c=true->∀(oo:Oper) (g:G) (Z:Nat->Nat) (w:World) (tmps:Array Value),ck P oo.op=sO o.k->Zu g Z w tmps H L s ->
   ∃v,(execOp (Act.mk tmps F.ds).eval oo).run P w=.ok (.value v) w/\ZJ g Z w L v e)(h:DO F kp dk os (Zv H o.dst e') L s):DO F kp dk (o::os) H L s:=by
 refine Y1 λoo g Z w tmps ag i r k ac u ad t hd hN m hr ae=>?_;have ab:=h ag r k hr ae;have hw:=Z2 m ad hg;have af:=Z9 u hnk;cases c;rcases he with rfl|⟨h0,_⟩;exact Zbt (P:=P) hN m ac t hd hw ab;grind;obtain⟨v,h1,h2⟩:=hv rfl oo g Z w tmps u m;refine Zn6 hN m ac t hd hw af ⟨v,h1,?_⟩ ab;rcases he with rfl|⟨_,rfl⟩;exact⟨λ_=>h2,λh=>by simp at h⟩;exact h2
def ZCh{F:Fr P}{kp dk o os H L s c}(hg:Zk H o.guard=sO c){q xs}(hk:o.k=.q q xs){p side es e}(ha:Z8 H c xs=sO (p,es))(hq:qv L s q es=sO (side,e))(hs:c=true->p/\side){e'}(he:e'=.when c e\/(c=true/\e'=e))(h:DO F kp dk os (Zv H o.dst e') L s):DO F kp dk (o::os) H L s:=by
 refine Zr4 hg (by rw[hk];rfl) he (λhc oo g Z w tmps t m=>?_) h;rw[hk]at t;obtain⟨ys,u,ab⟩:=ZCs t;have i:=Zb0 m hc F.ds ab ha (hs hc).1;exact ZBF u i m.loc m.st hq (hs hc).2
def Yf{F:Fr P}{ops i r k oo}{o:DOp}{g g' Z' w w' tmps H L' s'}(hN:F.N<=tmps.size)(hoo:ops[i]?=sO oo)(hdst:oo.dst=o.dst)(hd:∀d,o.dst=sO d->d<F.N)(hw:Region.wanted oo (yielded ops tmps)=true)(hnd:∀c,oo.op≠.defer c){e v}(hr:(execOp (Act.mk tmps F.ds).eval oo).run P w=.ok (.value v) w')(hx:Ext g w g' w')(m':Zu g' Z' w' tmps H L' s')(hv:ZJ g' Z' w' L' v e)(h:Jo F (.inRegion ops r::k) (Zv H o.dst e) L' s'):F.T.T g w (lone (F.b.atR ⟨tmps,F.ds⟩ (.inRegion ops (i::r)::k)) F.cs w):=by
 refine F.T.back _ _ _ _ (.one (ZiI hoo hw hnd hr)) ?_;rw[hdst];obtain⟨t,e1,e2,u⟩:=Zfm m' hN hd hv F.ds;rw[e1];exact F.T.ext _ _ _ _ _ hx (h g' Z' w' t e2 u)
def Zr0{F:Fr P}{kp dk o os H L s}(hg:o.guard=nO){t}(hdt:o.dst=sO t){z}(hk:o.k=.alloc z)(hl:Zam L t=false)(h:DO F kp dk os ((t,.loc t 0)::H) ((t,z)::L) s):DO F kp dk (o::os) H L s:=by
 refine Y1 λoo g Z w tmps ak i r k af u ac ab hd hN m hr ad=>?_;have hw:=Z2 m ac (c:=true) (by rw[hg];rfl);have ae:=Z9 u (by rw[hk];rfl);rw[hk]at u;obtain⟨T,ag,hz⟩:=Zsy u;obtain⟨v,ah,ai,aj,_⟩:=KK (g:=g) (w:=w) hz;obtain⟨hx,m'⟩:=m.alloc hl ai aj T;refine Yf (s':=s) hN af ab hd hw ae (v:=.pointer (sO ⟨w.heap.size,0,nO⟩)) (e:=.loc t 0) ?_ hx m' ⟨⟨z,by simp[Zg]⟩,ψ⟩ ?_;simp[execOp,ag,Instr.alloc,ah,newVar,newRow];rw[hdt];exact h ak r k hr ad
def ZCe{F:Fr P}{kp dk o os H L s}(hg:o.guard=nO){t}(hdt:o.dst=sO t){x}(hk:o.k=.box x){p v}(ha:Zy H true x=sO (p,.d v))(hp:p)(hl:Zam L t=false)(hok:W7 v=true)(h:DO F kp dk os ((t,.loc t 0)::H) ((t,cellsOf v)::L) s):DO F kp dk (o::os) H L s:=by
 refine Y1 λoo g Z w tmps am i r k aj ab ag ac hd hN m hr ah=>?_;have hw:=Z2 m ag (c:=true) (by rw[hg];rfl);have ai:=Z9 ab (by rw[hk];rfl);rw[hk]at ab;obtain⟨T,x',ak,al⟩:=Zxi ab;have u:Rep g w _ v:=ZX m al rfl ha hp F.ds;obtain⟨ae,af⟩:=ZdN u hok;have ad:=Zhp u hok;obtain⟨hx,m'⟩:=m.alloc hl (Ye (by simpa using ae) af) (λv hv=>ad v hv) T;refine Yf (s':=s) hN aj ac hd hw ai (v:=.pointer (sO ⟨w.heap.size,0,nO⟩)) (e:=.loc t 0) ?_ hx m' ⟨⟨cellsOf v,by simp[Zg]⟩,ψ⟩ ?_;simp[execOp,ak,Instr.box,newVar,newRow];rw[hdt];exact h am r k hr ah
def ZBz{g Z w L v l off}(h:ZJ g Z w L v (.loc l off)):v=.pointer (sO ⟨Z l,off,nO⟩):=h.2
def Zr3{F:Fr P}{kp dk o os H L s}(hg:o.guard=nO){a v}(hk:o.k=.store1 a v/\True\/∃n,o.k=.storeN n a v){p q l off d cs}(ha:Zy H true a=sO (p,.loc l off))(hv:Zy H true v=sO (q,.d d))(hp:p)(hq:q)(hL:Zg L l=sO cs)(hd1:o.k=.store1 a v->QV d=true)(hd2:∀n,o.k=.storeN n a v->(∃xs,d=.agg xs)/\(cellsOf d).length=n)(hlen:off+(cellsOf d).length<=I cs)(hdst0:o.dst=nO)(h:DO F kp dk os H ((l,Zx cs off (cellsOf d))::L) s):DO F kp dk (o::os) H L s:=by
 refine Y1 λoo g Z w tmps a4 i r k aw ab ap ak hd hN m hr au=>?_;have hw:=Z2 m ap (c:=true) (by rw[hg];rfl);have av:=Z9 ab (by rcases hk with ⟨hk,_⟩|⟨n,hk⟩<;>rw[hk]<;>rfl);have ai:∃t a' v',oo.op=.store t a' v'/\ZW a'=sO a/\ZW v'=sO v/\ZP P t=sO (cellsOf d).length/\W7 d=true:=by rcases hk with ⟨hk,_⟩|⟨n,hk⟩;have ac:=hd1 hk;rw[hk]at ab;obtain⟨t,a',v',h1,h2,h3,h4,h5⟩:=Zql ab;refine⟨t,a',v',h1,h4,h5,?_,?_⟩;rw[h3];cases d<;>simp[QV]at ac<;>rfl;cases d<;>simp[QV]at ac<;>rfl;obtain⟨⟨xs,rfl⟩,hn⟩:=hd2 n hk;rw[hk]at ab;obtain⟨t,a',v',h1,h2,h3,h4,h5⟩:=Zqm ab;exact⟨t,a',v',h1,h4,h5,by rw[h3,hn],rfl⟩
 obtain⟨t,a',v',ax,al,a0,az,ac⟩:=ai;have am:=ZBz (ZX m al rfl ha hp F.ds);have ag:Rep g w _ d:=ZX m a0 rfl hv hq F.ds;obtain⟨ah,ao⟩:=ZdN ag ac;have af:=Zhp ag ac;obtain⟨hpr,u,T,hb,aq,ar,aj⟩:=m.loc l cs hL;generalize a3:(Act.mk tmps F.ds).eval v'=vv at *;have ay:=run_storeCells_at (P:=P) (Z l) off T vv.cells.toList 0 u w hb (by simp;omega) (λx hx=>by rw[ZbZ];exact af x (Array.mem_toList_iff.1 hx));have ad:ZH (Rep g w) (u.toList.take off++vv.cells.toList++u.toList.drop (off+vv.cells.size)) (Zx cs off (cellsOf d)):=by have ae:ZH (Rep g w) u.toList cs:=Ye (by simpa using aq) (λi v d hv hd=>ar i v d (by simpa using hv) hd);unfold Zx;rw[<-ah];exact((ae.take off).append (Ye (by simpa using ah) ao)).append (ae.drop _)
 obtain⟨hx,m'⟩:=m.store hL (vs:=(u.toList.take off++vv.cells.toList++u.toList.drop (off+vv.cells.size)).toArray) (ds:=Zx cs off (cellsOf d)) (by simpa using ad) (λx hx=>by
  simp only[List.mem_toArray,List.mem_append]at hx;rcases hx with (hx|hx)|hx;exact aj x (Array.mem_toList_iff.1 (List.mem_of_mem_take hx));exact af x (Array.mem_toList_iff.1 hx);exact aj x (Array.mem_toList_iff.1 (List.mem_of_mem_drop hx))) (by simp[Zx];omega)
 refine F.T.back _ _ _ _ (.one (ZiH aw hw av (w':=w.setRow (Z l) (u.toList.take off++vv.cells.toList++u.toList.drop (off+vv.cells.size)).toArray) ?_)) ?_;simp only[execOp,ax,am,a3,Instr.storeAt,Instr.sureAddr,storeVar,Sem.run_bind,Sem.run_pure,Result.andThen_ok,YH az];rw[if_neg (by simp[ah])];rw[ay];rfl;rw[ak,hdst0];exact F.T.ext _ _ _ _ _ hx (h a4 r k hr au g Z _ tmps hN m')
end
def Ztv{cs vs s k i}(hv:I vs=s)(hk:(k+1)*s<=I cs)(hi:(i+1)*s<=I cs):
  part (Zx cs (k*s) vs) (i*s) s=if i=k then vs else part cs (i*s) s:=by
 have hk':k*s+s<=I cs:=by rw[ZHU,Nat.one_mul]at hk;exact hk
 unfold part Zx;apply List.ext_getElem?;intro j;by_cases u:j<s;simp only[ZIb,u,if_true,List.getElem?_drop,List.getElem?_append,ZHF,ZHQ,hv];by_cases t:i=k;subst t;simp only[show i*s+j<min (i*s) (I cs)+s from by omega,show ¬i*s+j<min (i*s) (I cs) from by omega,if_true,if_false];rw[show i*s+j-min (i*s) (I cs)=j from by omega];simp only[t,if_false,ZIb,u,if_true,List.getElem?_drop];rcases Nat.lt_or_gt_of_ne t with h|h;have:(i+1)*s<=k*s:=ZHP s h;rw[ZHU,Nat.one_mul]at this;simp only[show i*s+j<min (k*s) (I cs)+s from by omega,show i*s+j<min (k*s) (I cs) from by omega,if_true,show i*s+j<k*s from by omega];have:(k+1)*s<=i*s:=ZHP s h;rw[ZHU,Nat.one_mul]at this;simp only[show ¬i*s+j<min (k*s) (I cs)+s from by omega,if_false]
 congr 1;omega
 have e1:∀l:List D,(l.take s)[j]?=nO:=λl=>by simp[ZIb,u]
 rw[e1];split;exact(ZIi (l:=vs) (i:=j) ω).symm;rw[e1]
def ZpO{cs vs o}(h:o+I vs<=I cs):(Zx cs o vs).length=I cs:=by
 simp[Zx];omega
def Zhc{n}:∀{is},Qu n is=true->∀i∈is,i<n
 |i::r,h,j,hj=>by simp[Qu]at h;rcases List.mem_cons.1 hj with rfl|hj;exact h.1.1;exact Zhc h.2 j hj
def Zoe{z}:∀{ps i},(∀p∈ps,p.1≠i)->ZR z ps i=z
 | [],_,_=>rfl
 | (k,d)::r,i,h=>by have t:¬k=i:=h (k,d) ψ;simp[ZR,t];exact Zoe λp u=>h p (List.mem_cons_of_mem _ u)
def ZjA{len s}:∀(is ds cells),Qu len is=true->I is=I ds->K9 s ds=true->I cells=len*s ->
  ∃cs,Zbr cells (is.map λi=>(i*s,s)) ds=sO cs/\I cs=len*s/\∀i,i<len->part cs (i*s) s=ZR (part cells (i*s) s) (is.zip ds) i
 | [],[],cells,_,_,_,hc=>⟨cells,rfl,hc,λi _=>rfl⟩
 |k::is,d::ds,cells,hd,hn,hp,hc=>by
  simp[Qu]at hd;simp[K9]at hp;obtain⟨⟨hk,ac⟩,hd⟩:=hd;obtain⟨⟨ae,ad⟩,af⟩:=hp;have u:(k+1)*s<=I cells:=by rw[hc];exact ZHP s hk
  have ab:k*s+s<=I cells:=by rw[ZHU,Nat.one_mul]at u;exact u
  obtain⟨cs,h1,h2,h3⟩:=ZjA is ds (Zx cells (k*s) (cellsOf d)) hd (by simpa using hn) af (by rw[ZpO ω,hc]);refine⟨cs,?_,h2,λi hi=>?_⟩;simp only[ZHM,Zbr];rw[if_pos ⟨ae,ad,ab⟩];exact h1;rw[h3 i hi,Ztv ad u (by rw[hc];exact ZHP s hi)];simp[ZR];by_cases t:i=k;subst t;simp;exact Zoe λp hp=>by have:=(List.of_mem_zip hp).1;intro h;subst h;exact ac this
  simp[t,show ¬k=i from λh=>t h.symm]
 | [],_::_,_,_,hn,_,_=>by grind
 |_::_,[],_,_,hn,_,_=>by grind
def ZkQ{z len s i}(hzl:I z=s)(_hs0:0<s)(hi:i<len):part ((ZHJ (len*s)).map λi=>z.getD (i % s) .undef) (i*s) s=z:=by
 apply List.ext_getElem?;intro c;by_cases hc:c<s;have u:i*s+c<len*s:=by have:(i+1)*s<=len*s:=ZHP s hi;rw[ZHU,Nat.one_mul]at this;omega
 have hm:(i*s+c) % s=c:=by rw[Nat.mul_comm,Nat.mul_add_mod,Nat.mod_eq_of_lt hc]
 have t:c<I z:=ω;simp only[part,ZIb,hc,List.getElem?_drop,List.getElem?_map,List.getElem?_range u,ZH4,hm];simp[t];rw[ZIi (l:=z) ω];simp[part,ZIb,hc]
section
variable {P:Program}
def ZCn{g w len s z t e}{parts:List (Nat×Value)}{ds}(hu:P.underlying t=sO (.slice e))(hsz:ZP P e=sO s)(hz:Zaa P e=sO z)(hdis:Qu len (parts.map (·.1))=true)(hzl:I z=s)(hs0:0<s)(hbig:len*s<=2 ^ 24)(hd:ZH (Rep g w) (parts.map (·.2)) ds)(hp:K9 s ds=true)(hf:∀b,w.heap.size<=b->g.prot b=0/\¬g.kept b):
  ∃v w' g',(Instr.buildSlice t len parts.toArray).run P w=.ok v w'/\JZ g w g' w'/\Rep g' w' v (.sl .full len s (ZR z ((parts.map (·.1)).zip ds))):=by
 obtain⟨zv,hz1,aw,a3,ie,ar,a5⟩:=KK (g:=g) (w:=w) hz;have ac:ie.size=s:=by simpa[ZP,ar]using hsz
 have af:zv.cells.size=s:=by have:=aw.len;simp at this;omega
 have hn:(parts.map (·.1)).length=I ds:=by have:=hd.len;simpa using this
 let c0:Array Value:=(Array.range (len*s)).map (zv.cells[· % zv.cells.size]!);let d0:List D:=(ZHJ (len*s)).map λi=>z.getD (i % s) .undef;have al:ZH (Rep g w) c0.toList d0:=by refine Ye (by simp[c0,d0]) (λi v d hv hd=>?_);simp[c0,d0]at hv hd;obtain⟨a,ha,rfl⟩:=hv;obtain⟨b,hb,rfl⟩:=hd;rw[ha]at hb;cases hb;have u:a % s<s:=Nat.mod_lt _ hs0;refine aw.get (a % s) _ _ ?_ ?_;rw[af];simp[af,u];simp[hzl,u]
 have ak:∀v∈c0,v.one1=true:=λv hv=>by simp[c0]at hv;obtain⟨a,_,rfl⟩:=hv;have u:a % zv.cells.size<zv.cells.size:=Nat.mod_lt _ ω;rw[getElem!_pos zv.cells (a % zv.cells.size) u];exact a3 _ (Array.getElem_mem u)
 have aj:I d0=len*s:=by simp[d0]
 obtain⟨cs,ai,hcl,ae⟩:=ZjA (parts.map (·.1)) ds d0 hdis hn hp aj;obtain⟨cv,ax,ap,ay⟩:=Zhe (g:=g) (w:=w) (λi=>sO (i*s,s)) parts ((parts.map (·.1)).map λi=>(i*s,s)) ds cs d0 c0 (λi x q hx hq=>by
  simp[hx,Function.comp_def]at hq;rw[<-hq]) ψ hd al ak ai
 have ah:cv.size=len*s:=by have:=ap.len;simp at this;omega
 have ab:∀i j,i<len->j<s->i*s+j<len*s:=λi j hi hj=>by have:(i+1)*s<=len*s:=ZHP s hi;rw[ZHU,Nat.one_mul]at this;omega
 have ag:∀i j d,i<len->j<s->(ZR z ((parts.map (·.1)).zip ds) i)[j]?=sO d->cs[i*s+j]?=sO d:=λi j d hi hj hd=>by have h:=ae i hi;have am:part d0 (i*s) s=z:=ZkQ hzl hs0 hi;rw[am]at h;rw[<-h]at hd;simpa[part,hj]using hd
 have ad:∀i,i<len->(ZR z ((parts.map (·.1)).zip ds) i).length=s:=λi hi=>by
  have am:=ae i hi;have:(part cs (i*s) s).length=s:=by have:=ab i (s-1) hi ω;simp[part];omega
  have a4:part d0 (i*s) s=z:=ZkQ hzl hs0 hi;rw[am,a4]at this;exact this
 by_cases az:len=0
 .subst az;have a0:parts=[]:=by
   cases parts with
   |nil=>rfl
   |cons x r=>have:=Zhc hdis x.1 ψ;omega
  subst a0;refine⟨.slice (sO ⟨w.heap.size,0,nO⟩) 0 0,w.alloc (.cells #[] e),{ g with prot:=λb=>if b=w.heap.size then 0 else g.prot b },?_,Zl2 #[] e hf,?_⟩;simp[Instr.buildSlice,run_underlying hu,YH hsz,Instr.fill,newRow];exact congrArg (λc=>w.alloc (Obj.cells c e)) (Array.ext' ψ);exact .sl w.heap.size 0 0 0 s _ .full (λ_ _=>undef) (λi hi=>by omega) (λi j hi=>by omega) (λi j hi=>by omega) (λi j d hi=>by omega) (λi j hi=>by omega) rfl ω ψ
 have au:¬len*s=0:=by simp[Nat.mul_eq_zero];omega
 have av:=run_buildSlice (P:=P) w t e len parts.toArray cv ie zv hu ar a5 (by rw[ac];omega) (by rw[ac];exact au) (by rw[ac];exact ax);have aq:=Zl2 (g:=g) (w:=w) cv e hf;refine⟨_,_,_,av,aq,?_⟩;have ao:=aq.ext hf;refine .sl w.heap.size 0 len len s _ .full (λi j=>cv.getD (i*s+j) undef) ad (λi j hi hj=>?_) (λi j hi hj=>?_) (λi j d hi hd=>?_) (λi j hi hj=>?_) rfl (ZHK _) ?_;have u:i*s+j<cv.size:=by rw[ah];exact ab i j hi hj
 have:(w.alloc (.cells cv e)).cell? ⟨w.heap.size,0+i*s+j,nO⟩=cv[0+i*s+j]?:=World.cell?_alloc_new w cv e _;rw[this];simp[u];simp;have:=ab i j hi hj;omega;have hj:j<s:=by rw[<-ad i hi];exact(List.getElem?_eq_some_iff.1 hd).1
 have u:i*s+j<cv.size:=by rw[ah];exact ab i j hi hj
 refine(ap.get (i*s+j) _ d ?_ (ag i j d hi hj hd)).mono ao;simp[u];have u:i*s+j<cv.size:=by rw[ah];exact ab i j hi hj
 simp[u,dite_true];exact ay _ (Array.getElem_mem u);unfold big;have:len<=len*s:=Nat.le_mul_of_pos_right _ hs0;omega
end
section
variable {P:Program}
def Ya.updL(h:Ya g s w){b:Nat}{o:QL}(ho:WI g w b o)(hk:¬g.kept b):Ya g (s.upd b o) w:={
 obj c x hx:=by simp[St.upd]at hx;by_cases i:c=b;grind;simp[i]at hx;exact h.obj c x hx
 kept c x hx:=by simp[St.upd]at hx;by_cases i:c=b;grind;simp[i]at hx;exact h.kept c x hx
 fresh:=h.fresh
 tabs:=h.tabs }
def Zu.named{w w':World}(m:Zu g Z w tmps H L s){b:Nat}{o o':QL}(hb:s b=sO o)(he:Ext g w g w')(hsz:w'.heap.size=w.heap.size)(hoth:∀c,c≠b->w'.heap[c]?=w.heap[c]?)(ho:WI g w' b o'):Zu g Z w' tmps H L (s.upd b o'):={
 st:=by
  have h1:Ya g (s.del b) w':=⟨λc x hx=>by simp[St.del]at hx;by_cases u:c=b;grind;simp[u]at hx;exact(m.st.obj c x hx).mono he (hoth c u) rfl,
   λc x hx=>by simp[St.del]at hx;by_cases u:c=b;grind;simp[u]at hx;exact m.st.kept c x hx,
   λc u=>m.st.fresh c ω,λn cs u=>(m.st.tabs n cs u).mono he⟩
  have h2:=h1.updL ho (m.st.kept b o hb);have:(s.del b).upd b o'=s.upd b o':=by funext c;simp[St.upd,St.del];by_cases u:c=b<;>simp[u]
  rw[this]at h2;exact h2
 loc l cs hl:=(m.loc l cs hl).mono he (hoth _ (λh=>by have:=m.locSt l cs hl;grind)) rfl
 locKept:=m.locKept
 locSt l cs hl:=by
  have i:Z l≠b:=λh=>by have:=m.locSt l cs hl;grind
  simp[St.upd,i];exact m.locSt l cs hl
 inj:=m.inj
 env t e ht:=(m.env t e ht).mono he }
def Zu.newObj{g u Z w w' tmps H L s}(m:Zu g Z w tmps H L s)(hg:JZ g w u w'){o}(ho:WI u w' w.heap.size o):
  s w.heap.size=nO/\Zu u Z w' tmps H L (s.upd w.heap.size o):=by
 have hn:s w.heap.size=nO:=by
  cases h:s w.heap.size with
  |none=>rfl
  |some x=>exact absurd (m.st.obj _ x h).lt (Nat.lt_irrefl _)
 have t:=m.grow hg;refine⟨hn,⟨t.st.updL ho (by rw[hg.kept];exact(m.st.fresh _ (ZHK _)).2),t.loc,t.locKept,?_,t.inj,t.env⟩⟩;intro l cs hl;have hlt:=(m.loc l cs hl).lt;have i:Z l≠w.heap.size:=ω;simp[St.upd,i];exact t.locSt l cs hl
def ZnR(b:Nat){en:Array MapEntry}{cl:Nat}(o:Obj)(hb:w.heap[b]?=sO (.map en cl))(hp:g.prot b=0)(hk:¬g.kept b):Ext g w g { w with heap:=w.heap.setIfInBounds b o } where
 size:=by simp
 prot _:=ZHK _
 cell b' o' ho:=by by_cases h:b'=b;subst h;omega;exact QO (by simp[Ne.symm h])
 hdr b' x hx:=by by_cases h:b'=b;subst h;simp[hdr,hb]at hx;rw[Zah (w:=w) (by simp[Ne.symm h])];exact hx
 kept b' hb':=by have h:b'≠b:=λh=>hk (h▸hb');simp[Ne.symm h]
 keptProt _ _:=rfl
 keptEq:=rfl
 os:=rfl
 output:=rfl
 tape:=rfl
def Zq0{b en cl}{o}(hb:w.heap[b]?=sO (.map en cl)):({ w with heap:=w.heap.setIfInBounds b o }:World).heap[b]?=sO o:=by grind
def JO{b c}{o}(h:c≠b):({ w with heap:=w.heap.setIfInBounds b o }:World).heap[c]?=w.heap[c]?:=by grind
def Zzk{op}(h:ck P op=sO .mkmap):∃t,op=.makeMap t nO:=by
 unfold ck at h;split at h;simp at h;split at h<;>(try(simp at h;done));all_goals (try(repeat' (split at h<;>(try(simp at h;done)))))
 grind
def ZvX{op e n bytes z l c}(h:ck P op=sO (.mkslice e n bytes z l c)):
  ∃t l' c',op=.makeSlice t l' c'/\P.underlying t=sO (.slice e)/\ZP P e=sO n/\Zaa P e=sO z/\bytes=P.bytesOf e/\ZW l'=sO l/\ZW c'=sO c/\0<n/\I z=n:=by
 unfold ck at h;split at h;simp at h;split at h<;>(try(simp at h;done));all_goals (try(repeat' (split at h<;>(try(simp at h;done)))))
 rename_i i;cases h;simp at i;exact⟨_,_,_,rfl,‹_›,‹_›,‹_›,rfl,‹_›,‹_›,i.1,i.2⟩
def ZCt{op x}(h:ck P op=sO (.s2b x)):∃s d x' e,op=.convert s d x'/\P.underlying s=sO .string/\P.underlying d=sO (.slice e)/\P.underlying e=sO (.int .u8)/\ZW x'=sO x:=by
 unfold ck at h;split at h;simp at h;split at h<;>(try(simp at h;done));all_goals (try(repeat' (split at h<;>(try(grind;done)))))
 simp at h;grind
def Zxn{op kp m k v}(h:ck P op=sO (.mapupd kp m k v)):
  ∃t kt et m' k' v',(op=.mapUpdate t m' k' v'\/op=.insert t m' k' v')/\P.underlying t=sO (.map kt et)/\J7 P kt=sO kp/\ZW m'=sO m/\ZW k'=sO k/\ZW v'=sO v:=by
 unfold ck at h;split at h;simp at h;split at h<;>(try(simp at h;done));all_goals (try(repeat' (split at h<;>(try(simp at h;done)))))
 all_goals (cases h)
 grind;grind
def Zxl{op kp m k}(h:ck P op=sO (.delete kp m k)):
  ∃ats t kt et m' k',op=.call ⟨.builtin .delete,#[m',k'],ats⟩/\ats[0]?=sO t/\P.underlying t=sO (.map kt et)/\J7 P kt=sO kp/\ZW m'=sO m/\ZW k'=sO k:=by
 unfold ck at h;split at h;simp at h;split at h<;>(try(simp at h;done));all_goals (try(repeat' (split at h<;>(try(simp at h;done)))))
 simp at h;obtain⟨rfl,rfl,rfl⟩:=h;rename_i c hcq x1 ad o0 x kt et m' k' hu ab o1 o2 o3 kp m k hk hm ae;obtain⟨i,⟨al⟩,ats⟩:=c;have ac:i=_:=ad;have u:al=_:=ab;subst ac u;simp[Option.bind_eq_some_iff]at hu;obtain⟨t,ht,hu⟩:=hu;exact⟨ats,t,kt,et,m',k',rfl,ht,hu,hk,hm,ae⟩
def Zxm{op kp z m k}(h:ck P op=sO (.mapent kp z m k)):
  ∃t kt et m' k',op=.mapEntry t m' k'/\P.underlying t=sO (.map kt et)/\J7 P kt=sO kp/\Zdy P et=sO z/\ZW m'=sO m/\ZW k'=sO k:=by
 unfold ck at h;split at h;simp at h;split at h<;>(try(simp at h;done));all_goals (try(repeat' (split at h<;>(try(simp at h;done)))))
 grind
def Zzj{op m k v}(h:ck P op=sO (.entst m k v)):∃t m' k' v',op=.entryStore t m' k' v'/\ZW m'=sO m/\ZW k'=sO k/\ZW v'=sO v:=by
 unfold ck at h;split at h;simp at h;split at h<;>(try(simp at h;done));all_goals (try(repeat' (split at h<;>(try(simp at h;done)))))
 grind
def ZfO{F:Fr P}{kp dk o os H L s}(hg:o.guard=nO){a v}(hk:o.k=.store1 a v/\True\/∃n,o.k=.storeN n a v){p q b off d cs}(ha:Zy H true a=sO (p,.d (.ptr b off)))(hv:Zy H true v=sO (q,.d d))(hp:p)(hq:q)(hL:Z1 s b=sO cs)(hd1:o.k=.store1 a v->QV d=true)(hd2:∀n,o.k=.storeN n a v->(∃xs,d=.agg xs)/\(cellsOf d).length=n)(hlen:off+(cellsOf d).length<=I cs)(hdst0:o.dst=nO)(h:DO F kp dk os H L (s.upd b (.cells (Zx cs off (cellsOf d))))):DO F kp dk (o::os) H L s:=by
 refine Y1 λoo g Z w tmps a6 i r k a0 ac av ai hd hN m hr ay=>?_;have hw:=Z2 m av (c:=true) (by rw[hg];rfl);have az:=Z9 ac (by rcases hk with ⟨hk,_⟩|⟨n,hk⟩<;>rw[hk]<;>rfl);have ag:∃t a' v',oo.op=.store t a' v'/\ZW a'=sO a/\ZW v'=sO v/\ZP P t=sO (cellsOf d).length/\W7 d=true:=by rcases hk with ⟨hk,_⟩|⟨n,hk⟩;have ad:=hd1 hk;rw[hk]at ac;obtain⟨t,a',v',h1,h2,h3,h4,h5⟩:=Zql ac;refine⟨t,a',v',h1,h4,h5,?_,?_⟩;rw[h3];cases d<;>simp[QV]at ad<;>rfl;cases d<;>simp[QV]at ad<;>rfl;obtain⟨⟨xs,rfl⟩,hn⟩:=hd2 n hk;rw[hk]at ac;obtain⟨t,a',v',h1,h2,h3,h4,h5⟩:=Zqm ac;exact⟨t,a',v',h1,h4,h5,by grind,rfl⟩
 obtain⟨t,a',v',a3,ap,a5,a4,ad⟩:=ag;have ao:s b=sO (.cells cs):=by unfold Z1 at hL;split at hL<;>cases hL;assumption
 have al:Rep g w ((Act.mk tmps F.ds).eval a') (.ptr b off):=ZX m ap rfl ha hp F.ds;have am:Rep g w ((Act.mk tmps F.ds).eval v') d:=ZX m a5 rfl hv hq F.ds;have aq:(Act.mk tmps F.ds).eval a'=.pointer (sO ⟨b,off,nO⟩):=by generalize (Act.mk tmps F.ds).eval a'=z at al;cases al;rfl
 obtain⟨ar,au⟩:=ZdN am ad;have aj:=Zhp am ad;obtain⟨ak,u,T,hb,aw,ax,ah⟩:=Qt m.st hL;generalize hvv:(Act.mk tmps F.ds).eval v'=vv at *;have hst:=run_storeCells_at (P:=P) b off T vv.cells.toList 0 u w hb (by grind) (λx hx=>by rw[ZbZ];exact aj x (Array.mem_toList_iff.1 hx));have ab:ZH (Rep g w) (u.toList.take off++vv.cells.toList++u.toList.drop (off+vv.cells.size)) (Zx cs off (cellsOf d)):=by have af:ZH (Rep g w) u.toList cs:=Ye ω (λi v d hv hd=>ax i v d (by grind) hd);unfold Zx;rw[<-ar];exact((af.take off).append (Ye ω au)).append (af.drop _)
 have ae:((u.toList.take off++vv.cells.toList++u.toList.drop (off+vv.cells.size)).toArray).size=u.size:=by have:=ab.len;simp at this⊢;omega
 have he:=Zh2 (g:=g) b hb ae ak (m.st.kept b _ ao);have m':=m.named (o':=.cells (Zx cs off (cellsOf d))) ao he ψ (λc hc=>setRow_other w b c _ hc) ⟨ak,_,T,setRow_heap w b u _ T (0,0) hb,by rw[ae,aw];simp[Zx];omega,
  λi v d hv hd=>(ab.get i v d (by grind) hd).mono he,λx hx=>by
   simp only[List.mem_toArray,List.mem_append]at hx;rcases hx with (hx|hx)|hx;exact ah x (Array.mem_toList_iff.1 (List.mem_of_mem_take hx));simp_all;exact ah x (Array.mem_toList_iff.1 (List.mem_of_mem_drop hx))⟩
 refine F.T.back _ _ _ _ (.one (ZiH a0 hw az (w':=w.setRow b (u.toList.take off++vv.cells.toList++u.toList.drop (off+vv.cells.size)).toArray) ?_)) ?_;simp only[execOp,a3,aq,Instr.storeAt,Instr.sureAddr,storeVar,Sem.run_bind,Sem.run_pure,YH a4];simp_all;rw[ai,hdst0];exact F.T.ext _ _ _ _ _ he (h a6 r k hr ay g Z _ tmps hN m')
def J4(o:Obj)(i:∀b,w.heap.size<=b->g.prot b=0/\¬g.kept b):JZ g w g (w.alloc o):={
 size:=by simp
 old b hb:=Zja w hb
 prot _ _:=rfl
 fresh b hb:=(i b (by simp at hb;omega)).1
 kept:=rfl
 os:=rfl
 output:=rfl
 tape:=rfl }
def Zr2{F:Fr P}{kp dk o os H L s}(hg:o.guard=nO){t}(hdt:o.dst=sO t)(hk:o.k=.mkmap)(h:∀b,s b=nO->DO F kp dk os ((t,.d (.map b))::H) L (s.upd b (.map []))):DO F kp dk (o::os) H L s:=by
 refine Y1 λoo g Z w tmps ai i r k ag u ad ab hd hN m hr ae=>?_;have hw:=Z2 m ad (c:=true) (by rw[hg];rfl);have af:=Z9 u (by rw[hk];rfl);rw[hk]at u;obtain⟨T,ah⟩:=Zzk u;have ac:=J4 (g:=g) (w:=w) (.map #[] 0) m.st.fresh;obtain⟨hn,m'⟩:=m.newObj ac (o:=.map []) ⟨(m.st.fresh _ (ZHK _)).1,#[],0,Kf w,rfl,ψ,ψ,ψ,ψ⟩;refine Yf (L':=L) hN ag ab hd hw af (v:=.map (sO w.heap.size)) (e:=.d (.map w.heap.size)) ?_ (ac.ext m.st.fresh) m' (Rep.map _) ?_;simp[execOp,ah,Instr.makeMap];rw[hdt];exact h _ hn ai r k hr ae
def ZkS{z n}:∀{c},I z=n->(W0 z c).length=c*n/\∀i,i<c*n->(W0 z c)[i]?=z[i % n]?
 |0,hz=>by simp[W0]
 |c+1,hz=>by
  obtain⟨h1,h2⟩:=ZkS (c:=c) hz;have t:W0 z (c+1)=z++W0 z c:=by simp[W0,List.replicate_succ]
  rw[t];refine⟨by grind,λi hi=>?_⟩;by_cases h:i<n;rw[ZHW ω,Nat.mod_eq_of_lt h];rw[ZIf ω,hz,h2 _ (by grind)];rw[Nat.mod_eq_sub_mod (by omega:n<=i)]
def Znl{F:Fr P}{kp dk o os H L s}(hg:o.guard=nO){t:Nat}(hdt:o.dst=sO t){e:TypeId}{n bytes:Nat}{z:List D}{lx hx:Opd}(hk:o.k=.mkslice e n bytes z lx hx){p q:Prop}{k1 k2:IntKind}{l c:Int}(hl:Zy H true lx=sO (p,.d (.int k1 l)))(hc:Zy H true hx=sO (q,.d (.int k2 c)))(hp:p)(hq:q)(h0:0<=l)(hlc:l<=c)(hbytes:(bytes:Int)*c<=140737488355328)(h63:c<=big)(h:∀b,s b=nO->DO F kp dk os ((t,.d (.msl b 0 l.toNat c.toNat n))::H) L (s.upd b (.cells (W0 z c.toNat)))):DO F kp dk (o::os) H L s:=by
 refine Y1 λoo g Z w tmps a3 i r k aw ab al ae hd hN m hr ao=>?_;have hw:=Z2 m al (c:=true) (by rw[hg];rfl);have au:=Z9 ab (by rw[hk];rfl);rw[hk]at ab;obtain⟨T,l',c',ax,hu,ay,hz,aj,ap,ak,ar,ai⟩:=ZvX ab;obtain⟨zv,hz1,ah,hz3,ie,ac,a0⟩:=KK (g:=g) (w:=w) hz;obtain⟨aq,_⟩:=Qb (g:=g) (w:=w) (ZX m ap rfl hl hp F.ds);obtain⟨am,_⟩:=Qb (g:=g) (w:=w) (ZX m ak rfl hc hq F.ds);have u:ie.size=n:=by simpa[ZP,ac]using ay
 have hbt:ie.bytes=bytes:=by rw[aj];simp[Program.bytesOf,ac]
 have ad:zv.cells.size=I z:=by have:=ah.len;simpa using this
 have ag:=run_make (P:=P) w T e ie zv hu ac a0 k1 k2 l c h0 hlc (by grind) (by unfold big at h63;omega);obtain⟨a4,a5⟩:=ZkS (z:=z) (n:=n) (c:=c.toNat) ai;have af:=J4 (g:=g) (w:=w) (.cells (madeCells zv.cells (c.toNat*ie.size)) e) m.st.fresh;have he:=af.ext m.st.fresh;have av:WI g (w.alloc (.cells (madeCells zv.cells (c.toNat*ie.size)) e)) w.heap.size (.cells (W0 z c.toNat)):=by
  refine⟨(m.st.fresh _ (ZHK _)).1,_,e,Kf w,by rw[size_madeCells,a4,u],λi v d hv hd=>?_,λx hx=>?_⟩;have hi:i<c.toNat*n:=by grind
  rw[a5 i hi]at hd;have hm:i % n<n:=Nat.mod_lt _ ar;have az:zv.cells.toList[i % n]?=sO v:=by simp[madeCells,u,hi,ad,ai]at hv;simp_all
  exact(ah.get _ v d az hd).mono he;simp only[madeCells,Array.mem_map]at hx;obtain⟨a,_,rfl⟩:=hx;have hlt:a % zv.cells.size<zv.cells.size:=Nat.mod_lt _ ω;simp_all
 obtain⟨hn,m'⟩:=m.newObj af av;refine Yf (L':=L) hN aw ae hd hw au (v:=.slice (sO ⟨w.heap.size,0,nO⟩) l.toNat c.toNat) (e:=.d (.msl w.heap.size 0 l.toNat c.toNat n)) ?_ he m' (Rep.msl _ _ _ _ _ ω ω) ?_;simp[execOp,ax,aq,am,ag];rw[hdt];exact h _ hn a3 r k hr ao
end
section
variable {P:Program}
def Zmh{g w k k1 k2 u d2}(i:Rep g w k1 u)(t:Rep g w k2 d2)(h:Yk k u d2=sO true)(n):Instr.sameBits n k1 k2=true:=by
 cases k;cases i<;>cases t<;>simp only[Yk,reduceCtorEq]at h;split at h<;>simp only[reduceCtorEq,ZHu,decide_eq_true_eq]at h;rename_i hk;subst hk;subst h;cases n<;>simp[Instr.sameBits];cases i<;>cases t<;>simp only[Yk,reduceCtorEq,ZHu,decide_eq_true_eq]at h;rename_i s1 a e1 _ s2 b e2 _;subst h;have:s1=s2:=by cases s1;cases s2;simp only[ByteArray.mk.injEq];apply Array.ext';simp only at e1 e2;rw[e1,e2]
 subst this;cases n<;>simp[Instr.sameBits,MapKept.bytes_beq];cases i<;>cases t<;>simp only[Yk,reduceCtorEq,ZHu,decide_eq_true_eq]at h;subst h;cases n<;>simp[Instr.sameBits]
def ZeX{xs t}:∀{l},Wn xs t l=sO true->∀o k,(o,k)∈l->∃x y,xs[o]?=sO x/\t[o]?=sO y/\Yk k x y=sO true
 | [],_,o,k,hm=>by simp at hm
 | (o',k')::r,h,o,k,hm=>by simp only[Wn]at h;split at h<;>(try(simp at h;done));rename_i x y hx hy;split at h<;>(try(simp at h;done));rename_i b c u hc;simp only[ZHu,ZHG]at h;obtain⟨rfl,rfl⟩:=h;rcases List.mem_cons.1 hm with i|hm;simp only[ZHH]at i;obtain⟨rfl,rfl⟩:=i;exact⟨x,y,hx,hy,u⟩;exact ZeX hc o k hm
def Zmg{g w kt kp}(hk:J7 P kt=sO kp){k1 k2 d1 d2}(h1:Rep g w k1 d1)(h2:Rep g w k2 d2)(h:Kl kp d1 d2=sO true)(n):Instr.sameBits (n+1) k1 k2=true:=by
 rcases Zeo hk with ⟨sk,rfl,hs⟩|⟨fs,l,m,rfl,hu,hn,hl,t,hst⟩;exact Zmh h1 h2 h _;cases h1<;>cases h2<;>simp only[Kl,reduceCtorEq]at h;rename_i v1 xs hn1 r1 o1 v2 ys hn2 r2 o2;split at h<;>(try(simp at h;done));rename_i hlen;simp only[Instr.sameBits,List.size_toArray,ZHG,beq_iff_eq];refine⟨ω,?_⟩;rw[List.all_eq_true];intro p hp;obtain⟨i,hi,ae⟩:=ZHR hp;simp only[List.length_zip]at hi;have ab:i<I v1:=ω;have ac:i<I v2:=ω;have u:i<I l:=ω;have hm:(l[i].1,l[i].2)∈l:=List.getElem_mem u;have ad:l[i].1=i:=by
  have h3:(l.map (·.1))[i]?=sO l[i].1:=by simp[u]
  rw[t]at h3;have hlm:I l=m:=by have:=congrArg List.length t;simpa using this
  rw[List.getElem?_range ω]at h3;exact(Option.some.inj h3).symm
 rw[ad]at hm;obtain⟨x,y,hx,hy,he⟩:=ZeX h i _ hm;have e1:p=(v1[i],v2[i]):=by rw[<-ae];simp
 rw[e1];exact Zmh (r1 i _ x (by simp[ab]) hx) (r2 i _ y (by simp[ac]) hy) he n
def Zn9{kp a b}(h:Kl kp a b=sO true):Kl kp b a=sO true:=by
 have sc:∀(k:SK) (a b:D),Yk k a b=sO true->Yk k b a=sO true:=by intro k a b h;cases k<;>cases a<;>cases b<;>simp only[Yk,reduceCtorEq]at h⊢;split at h<;>simp only[reduceCtorEq,ZHu,decide_eq_true_eq]at h;rename_i hk;simp[hk,h];simp only[ZHu,decide_eq_true_eq]at h⊢;exact h.symm;simp only[ZHu,decide_eq_true_eq]at h⊢;exact h.symm
 cases kp with
 |sc k=>exact sc k a b h
 |st l =>
  cases a<;>cases b<;>simp only[Kl,reduceCtorEq]at h⊢;rename_i xs ys;split at h<;>(try(simp at h;done));rename_i i;rw[if_pos ⟨i.2,i.1⟩];clear i;induction l with
  |nil=>rfl
  |cons p r ih =>
   obtain⟨x,y,u,hy,t⟩:=ZeX h p.1 p.2 ψ;have hr:Wn xs ys r=sO true:=by simp only[Wn,u,hy,t]at h;split at h<;>(try(simp at h;done));rename_i b c hb hc;simp only[ZHu,ZHG]at h;rw[hc,h.2]
   simp only[Wn,u,hy,sc _ _ _ t,ih hr,Bool.and_self]
def Zno(g:G)(w:World)(b:Nat)(en':Array MapEntry)(cl':Nat)(o:QL):Prop :=
 ∀w',Ext g w g w'->w'.heap[b]?=sO (.map en' cl')->WI g w' b o
def Zth{g w t kt et kp}(hu:P.underlying t=sO (.map kt et))(hk:J7 P kt=sO kp){b es es' k v dk dv}(ho:WI g w b (.map es))(hrk:Rep g w k dk)(hrv:Rep g w v dv)(hok:Qz kp dk=true)(hupd:JP kp dk dv es=sO es'):
  ∃en' cl',(Instr.mapUpdate t (.map (sO b)) k v).run P w=.ok () { w with heap:=w.heap.setIfInBounds b (.map en' cl') }/\Zno g w b en' cl' (.map es'):=by
 obtain⟨ar,en,ad,hb,ab,h3,h4,h5,h6⟩:=ho;obtain⟨io,ao,ag⟩:=Znf hupd;have ac:=Zcn (P:=P) hk hrk (es:=en.toList) (by simpa using ab) (λi e d a b=>h3 i e d (by simpa using a) b) ao;have al:=Zbg (P:=P) hk hrk hok false;cases io with
 |none =>
  simp only[Option.bind_none]at ac;simp only at ag;subst ag;refine⟨en.push { key:=k,val:=v,born:=ad },ad+1,by simp[Instr.mapUpdate,run_underlying hu,MapKept.run_getObj_map hb,al,ac,MapKept.run_setObj_map _ hb],λw' he aj=>?_⟩;refine⟨ar,_,_,aj,by simp[ab],λi e d hi hd=>?_,λi e d hi hd=>?_,λi j e e' hi hj af=>?_,λi e hi=>?_⟩;rw[Array.getElem?_push]at hi;split at hi;rename_i u;simp only[ZHu]at hi;subst hi;simp[u,ab]at hd;subst hd;exact hrk.mono he;have ae:i<I es:=by rw[<-ab];exact(Array.getElem?_eq_some_iff.1 hi).1
  rw[ZHW ae]at hd;exact(h3 i e d hi hd).mono he;rw[Array.getElem?_push]at hi;split at hi;rename_i u;simp only[ZHu]at hi;subst hi;simp[u,ab]at hd;subst hd;exact hrv.mono he;have ae:i<I es:=by rw[<-ab];exact(Array.getElem?_eq_some_iff.1 hi).1
  rw[ZHW ae]at hd;exact(h4 i e d hi hd).mono he;rw[Array.getElem?_push]at hi hj;split at hi<;>split at hj;omega;simp only[ZHu]at hi;subst hi;have:=h6 j e' hj;simp only at af;omega;simp only[ZHu]at hj;subst hj;have:=h6 i e hi;simp only at af;omega;exact h5 i j e e' hi hj af;rw[Array.getElem?_push]at hi;split at hi;simp only[ZHu]at hi;subst hi;simp;have:=h6 i e hi;omega
 |some i0 =>
  simp only at ag;subst ag;obtain⟨ae,ap⟩:=Zc4 ao;have aq:i0<en.size:=ω;have ah:en[i0]?=sO en[i0]:=by simp[aq]
  have am:es[i0]?=sO es[i0]:=by simp[ae]
  simp only[Option.bind_some,Array.getElem?_toList,ah,ZH4]at ac;have ai:(Instr.keyThatStays en[i0].key k).run P w=.ok k w:=by have:=Zmg (P:=P) hk (h3 i0 _ _ ah am) hrk (Zn9 (ap _ am)) 9999;simp[Instr.keyThatStays,this]
  refine⟨en.modify i0 λe=>{ e with key:=k,val:=v },ad,by simp[Instr.mapUpdate,run_underlying hu,MapKept.run_getObj_map hb,al,ac,MapKept.run_setObj_map _ hb,ah,ai],λw' he aj=>?_⟩;refine⟨ar,_,_,aj,by simp[ab],λi e d hi hd=>?_,λi e d hi hd=>?_,λi j e e' hi hj af=>?_,λi e hi=>?_⟩;rw[Array.getElem?_modify]at hi;split at hi;rename_i u;subst u;simp only[ZHI]at hi;obtain⟨e1,h1,rfl⟩:=hi;simp[ae]at hd;subst hd;exact hrk.mono he;rename_i u;rw[List.getElem?_set_ne u]at hd;exact(h3 i e d hi hd).mono he;rw[Array.getElem?_modify]at hi;split at hi;rename_i u;subst u;simp only[ZHI]at hi;obtain⟨e1,h1,rfl⟩:=hi;simp[ae]at hd;subst hd;exact hrv.mono he;rename_i u;rw[List.getElem?_set_ne u]at hd;exact(h4 i e d hi hd).mono he;have ak:∀{i:Nat} {e:MapEntry},(en.modify i0 λe=>{ e with key:=k,val:=v })[i]?=sO e->∃e1,en[i]?=sO e1/\e1.born=e.born:=by intro i e hi;rw[Array.getElem?_modify]at hi;split at hi;simp only[ZHI]at hi;obtain⟨e1,h1,rfl⟩:=hi;exact⟨e1,h1,rfl⟩;exact⟨e,hi,rfl⟩
  obtain⟨a,ha,ha'⟩:=ak hi;obtain⟨c,hc,hc'⟩:=ak hj;exact h5 i j a c ha hc ω;rw[Array.getElem?_modify]at hi;split at hi;simp only[ZHI]at hi;obtain⟨e1,h1,rfl⟩:=hi;exact h6 i e1 h1;exact h6 i e hi
def Ztf{g w t kt et kp ats}(ht:ats[0]?=sO t)(hu:P.underlying t=sO (.map kt et))(hk:J7 P kt=sO kp){b es es' k dk}(ho:WI g w b (.map es))(hrk:Rep g w k dk)(hok:Qz kp dk=true)(hdel:Zgw kp dk es=sO es')(ty):
  ∃en' cl',(Builtin.delete_ ats ty #[.map (sO b),k]).run P w=.ok (.tuple #[]) { w with heap:=w.heap.setIfInBounds b (.map en' cl') }/\Zno g w b en' cl' (.map es'):=by
 obtain⟨am,en,ac,hb,ae,h3,h4,h5,h6⟩:=ho;obtain⟨io,al,ah⟩:=ZsK hdel;have u:=Zcn (P:=P) hk hrk (es:=en.toList) (by simpa using ae) (λi e d a b=>h3 i e d (by simpa using a) b) al;have ak:=Zbg (P:=P) hk hrk hok en.isEmpty;cases io with
 |none =>simp only[Option.bind_none]at u;simp only at ah;subst ah;refine⟨en,ac,by simp[Builtin.delete_,ht,run_underlying hu,MapKept.run_getObj_map hb,ak,u,MapKept.run_setObj_map _ hb],λw' he aj=>?_⟩;exact⟨am,_,_,aj,ae,λi e d hi hd=>(h3 i e d hi hd).mono he,λi e d hi hd=>(h4 i e d hi hd).mono he,h5,h6⟩
 |some i0 =>
  simp only at ah;subst ah;obtain⟨ap,hkeq⟩:=Zc4 al;have af:i0<en.size:=ω;have ao:en[i0]?=sO en[i0]:=by simp[af]
  simp only[Option.bind_some,Array.getElem?_toList,ao,ZH4]at u;have ai:en.eraseIdxIfInBounds i0=en.eraseIdx i0 af:=by simp[Array.eraseIdxIfInBounds,af]
  have ab:∀i,(en.eraseIdxIfInBounds i0)[i]?=if i<i0 then en[i]? else en[i+1]?:=λi=>by rw[ai,<-Array.getElem?_toList,Array.toList_eraseIdx,List.getElem?_eraseIdx];simp
  have ad:∀i,(es.eraseIdx i0)[i]?=if i<i0 then es[i]? else es[i+1]?:=λi=>List.getElem?_eraseIdx ..
  refine⟨en.eraseIdxIfInBounds i0,ac,by simp[Builtin.delete_,ht,run_underlying hu,MapKept.run_getObj_map hb,ak,u,MapKept.run_setObj_map _ hb],λw' he aj=>?_⟩;refine⟨am,_,_,aj,by rw[ai];simp[ap,ae,List.length_eraseIdx],λi e d hi hd=>?_,λi e d hi hd=>?_,λi j e e' hi hj ag=>?_,λi e hi=>?_⟩;rw[ab]at hi;rw[ad]at hd;split at hi;rename_i h;rw[if_pos h]at hd;exact(h3 i e d hi hd).mono he;rename_i h;rw[if_neg h]at hd;exact(h3 _ e d hi hd).mono he;rw[ab]at hi;rw[ad]at hd;split at hi;rename_i h;rw[if_pos h]at hd;exact(h4 i e d hi hd).mono he;rename_i h;rw[if_neg h]at hd;exact(h4 _ e d hi hd).mono he;rw[ab]at hi hj;split at hi<;>split at hj;exact h5 i j e e' hi hj ag;have:=h5 i (j+1) e e' hi hj ag;omega;have:=h5 (i+1) j e e' hi hj ag;omega;have:=h5 (i+1) (j+1) e e' hi hj ag;omega;rw[ab]at hi;split at hi<;>exact h6 _ e hi
def ZsR{kp:KP}{k z:D}:∀{es:List (D×D)} {v:D},ZdY kp k z es=sO v->∃t,Q6 kp k es=sO t/\v=match t with
  |none=>z
  |some i=>((es[i]?).map (·.2)).getD z
 | [],v,h=>by simp[ZdY]at h;exact⟨nO,rfl,h.symm⟩
 |e::es,v,h=>by simp[ZdY]at h;split at h;rename_i u;exact⟨sO 0,by simp[Q6,u],by simp[h]⟩;rename_i u;obtain⟨t,h1,h2⟩:=ZsR h;refine⟨t.map (· + 1),by simp[Q6,u,h1],?_⟩;rw[h2];cases t<;>simp;grind
def Zuh{g w t kt et kp z}(hu:P.underlying t=sO (.map kt et))(hk:J7 P kt=sO kp)(hz:Zdy P et=sO z){b es k dk dv}(ho:WI g w b (.map es))(hrk:Rep g w k dk)(hok:Qz kp dk=true)(hent:ZdY kp dk z es=sO dv):
  ∃en' cl' v n,(Instr.mapEntry t (.map (sO b)) k).run P w=.ok (.tuple #[v,.i (n:Nat)]) { w with heap:=w.heap.setIfInBounds b (.map en' cl') }/\Rep g w v dv/\Zno g w b en' cl' (.mapE kp es dk n):=by
 obtain⟨au,en,u,hb,ac,h3,h4,h5,h6⟩:=ho;obtain⟨io,ai,ah⟩:=ZsR hent;have ab:=Zcn (P:=P) hk hrk (es:=en.toList) (by simpa using ac) (λi e d a b=>h3 i e d (by simpa using a) b) ai;have ap:=Zbg (P:=P) hk hrk hok false;cases io with
 |none =>obtain⟨zv,ax,ay⟩:=Zt3 (P:=P) (g:=g) (w:=w) hz;simp only[Option.bind_none]at ab;simp only at ah;subst ah;refine⟨en.push { key:=k,val:=zv,born:=u },u+1,zv,u,by simp[Instr.mapEntry,run_underlying hu,MapKept.run_getObj_map hb,ap,ab,MapKept.run_setObj_map _ hb,ax,goInt],ay,λw' he ao=>?_⟩;refine⟨au,nO,ai,_,_,ao,by simp[ac],λi e d aj hi hd=>?_,λi e d aj hi hd=>?_,λe hi=>?_,λi j e e' hi hj ae=>?_,λi e hi=>?_⟩;have al:i<I es:=(List.getElem?_eq_some_iff.1 hd).1;rw[Array.getElem?_push,if_neg ω]at hi;exact(h3 i e d hi hd).mono he;have al:i<I es:=(List.getElem?_eq_some_iff.1 hd).1;rw[Array.getElem?_push,if_neg ω]at hi;exact(h4 i e d hi hd).mono he;simp only[Option.getD_none,<-ac,Array.getElem?_push,if_true,ZHu]at hi;subst hi;exact⟨hrk.mono he,rfl⟩;rw[Array.getElem?_push]at hi hj;split at hi<;>split at hj;omega;simp only[ZHu]at hi;subst hi;have:=h6 j e' hj;simp only at ae;omega;simp only[ZHu]at hj;subst hj;have:=h6 i e hi;simp only at ae;omega;exact h5 i j e e' hi hj ae;rw[Array.getElem?_push]at hi;split at hi;simp only[ZHu]at hi;subst hi;simp;have:=h6 i e hi;omega
 |some i0 =>
  obtain⟨al,aq⟩:=Zc4 ai;have ar:i0<en.size:=ω;have af:en[i0]?=sO en[i0]:=by simp[ar]
  have ag:es[i0]?=sO es[i0]:=by simp[al]
  simp only[ag,ZH4,ZIc]at ah;subst ah;simp only[Option.bind_some,Array.getElem?_toList,af,ZH4]at ab;have am:(Instr.keyThatStays en[i0].key k).run P w=.ok k w:=by have:=Zmg (P:=P) hk (h3 i0 _ _ af ag) hrk (Zn9 (aq _ ag)) 9999;simp[Instr.keyThatStays,this]
  have ad:∀{i:Nat} {e:MapEntry},(en.modify i0 λe=>{ e with key:=k })[i]?=sO e->∃e1,en[i]?=sO e1/\e1.born=e.born/\e.val=e1.val/\(i≠i0->e=e1)/\(i=i0->e.key=k):=by intro i e hi;rw[Array.getElem?_modify]at hi;split at hi;rename_i ak;simp only[ZHI]at hi;obtain⟨e1,h1,rfl⟩:=hi;exact⟨e1,h1,rfl,rfl,λh=>absurd ak.symm h,λ_=>rfl⟩;rename_i ak;exact⟨e,hi,rfl,rfl,λ_=>rfl,λh=>absurd h.symm ak⟩
  refine⟨en.modify i0 λe=>{ e with key:=k },u,en[i0].val,en[i0].born,by simp[Instr.mapEntry,run_underlying hu,MapKept.run_getObj_map hb,ap,ab,MapKept.run_setObj_map _ hb,af,am,goInt],h4 i0 _ _ af ag,λw' he ao=>?_⟩;refine⟨au,sO i0,ai,_,_,ao,by simp[ac],λi e d aj hi hd=>?_,λi e d aj hi hd=>?_,λe hi=>?_,λi j e e' hi hj ae=>?_,λi e hi=>?_⟩;obtain⟨e1,ha,_,_,hc,_⟩:=ad hi;rw[hc (by simpa using aj)];exact(h3 i e1 d ha hd).mono he;obtain⟨e1,ha,_,hv,_⟩:=ad hi;rw[hv];exact(h4 i e1 d ha hd).mono he;simp only[ZIc]at hi;obtain⟨e1,ha,ae,hv,_,aw⟩:=ad hi;rw[af]at ha;simp only[ZHu]at ha;exact⟨by rw[aw rfl];exact hrk.mono he,by rw[<-ae,<-ha]⟩;obtain⟨a,ha,av,_⟩:=ad hi;obtain⟨c,hc,hc',_⟩:=ad hj;exact h5 i j a c ha hc ω;obtain⟨a,ha,av,_⟩:=ad hi;have:=h6 i a ha;omega
def Zrj{g w t kp b n es es' v dk dv}(ho:WI g w b (.mapE kp es dk n))(hrv:Rep g w v dv)(hupd:JP kp dk dv es=sO es'):
  ∃en' cl',(Instr.entryStore t (.map (sO b)) (.i n) v).run P w=.ok () { w with heap:=w.heap.setIfInBounds b (.map en' cl') }/\Zno g w b en' cl' (.map es'):=by
 obtain⟨au,io,al,en,ah,hb,u,h3,h4,h5,h6,h7⟩:=ho;obtain⟨io',ae,ab⟩:=Znf hupd;rw[al]at ae;simp only[ZHu]at ae;subst ae;generalize ac:io.getD (I es)=ix at *;have am:ix<en.size:=by
  cases io with
  |none=>simp only[Option.getD_none]at ac;simp only at u;omega
  |some i=>simp only[ZIc]at ac;simp only at u;have:=(Zc4 al).1;omega
 have aj:en[ix]?=sO en[ix]:=by simp[am]
 obtain⟨ar,ap⟩:=h5 _ aj;have aq:en.findIdx? (λe=>(e.born:Int)==(n:Int))=sO ix:=by rw[Array.findIdx?_eq_some_iff_getElem];refine⟨am,by simp[ap],λj hj=>?_⟩;simp only[beq_iff_eq,Int.natCast_inj];intro hjn;have:=h6 j ix en[j] en[ix] (by simp[show j<en.size by omega]) aj ω;omega
 have av:en.size=I es':=by
  cases io with
  |none=>simp only at ab u;rw[ab];simp[u]
  |some i=>simp only at ab u;rw[ab];simp[u]
 have ag:∀i d,es'[i]?=sO d->(i=ix/\d=(dk,dv))\/(i≠ix/\es[i]?=sO d):=by
  intro i d hd;cases io with
  |none =>
   simp only[Option.getD_none]at ac;subst ac;simp only at ab;rw[ab]at hd;by_cases hi:i<I es;rw[ZHW hi]at hd;exact .inr ⟨ω,hd⟩;rw[ZIf ω]at hd;have h0:i-I es=0:=by rcases Nat.eq_zero_or_pos (i-I es) with h|h;exact h;rw[ZIi (by simp;omega)]at hd;simp at hd
   rw[h0]at hd;simp at hd;exact .inl ⟨ω,hd.symm⟩
  |some j =>simp only[ZIc]at ac;subst ac;simp only at ab;rw[ab]at hd;by_cases hi:j=i;subst hi;have:=(Zc4 al).1;simp[this]at hd;exact .inl ⟨rfl,hd.symm⟩;rw[List.getElem?_set_ne hi]at hd;exact .inr ⟨λh=>hi h.symm,hd⟩
 have ad:∀{i:Nat} {e:MapEntry},(en.modify ix λe=>{ e with val:=v })[i]?=sO e->∃e1,en[i]?=sO e1/\e1.born=e.born/\e.key=e1.key/\(i≠ix->e=e1)/\(i=ix->e.val=v):=by intro i e hi;rw[Array.getElem?_modify]at hi;split at hi;rename_i ak;simp only[ZHI]at hi;obtain⟨e1,h1,rfl⟩:=hi;exact⟨e1,h1,rfl,rfl,λh=>absurd ak.symm h,λ_=>rfl⟩;rename_i ak;exact⟨e,hi,rfl,rfl,λ_=>rfl,λh=>absurd h.symm ak⟩
 refine⟨en.modify ix λe=>{ e with val:=v },ah,by simp[Instr.entryStore,MapKept.run_getObj_map hb,asInt,asIntOf,aq,MapKept.run_setObj_map _ hb],λw' he aw=>?_⟩;refine⟨au,_,_,aw,by simp[av],λi e d hi hd=>?_,λi e d hi hd=>?_,λi j e e' hi hj hbn=>?_,λi e hi=>?_⟩;obtain⟨e1,ha,_,hk,_⟩:=ad hi;rw[hk];rcases ag i d hd with ⟨rfl,rfl⟩|⟨af,ai⟩;rw[aj]at ha;simp only[ZHu]at ha;rw[<-ha];exact ar.mono he;exact(h3 i e1 d af ha ai).mono he;obtain⟨e1,ha,_,_,hc,hv⟩:=ad hi;rcases ag i d hd with ⟨rfl,rfl⟩|⟨af,ai⟩;rw[hv rfl];exact hrv.mono he;rw[hc af];exact(h4 i e1 d af ha ai).mono he;obtain⟨a,ha,ao,_⟩:=ad hi;obtain⟨c,hc,hc',_⟩:=ad hj;exact h6 i j a c ha hc ω;obtain⟨a,ha,ao,_⟩:=ad hi;have:=h7 i a ha;omega
end
section
variable {P:Program}
def Zli{g w v b}(h:Rep g w v (.map b)):v=.map (sO b):=by cases h;rfl
def Zii{s b es}(h:KT s b=sO es):s b=sO (.map es):=by
 unfold KT at h;split at h<;>simp only[ZHu,reduceCtorEq]at h;subst h;assumption
def ZmS{F:Fr P}{ops i r k oo}{o:DOp}{g Z w tmps H L s}(hN:F.N<=tmps.size)(m:Zu g Z w tmps H L s)(hoo:ops[i]?=sO oo)(hdst:oo.dst=o.dst)(hdst0:o.dst=nO)(hw:Region.wanted oo (yielded ops tmps)=true)(hnd:∀c,oo.op≠.defer c){b o1 o'}(hb:s b=sO o1){en en' cl cl'}(hh:w.heap[b]?=sO (.map en cl))(hp:g.prot b=0)(hmap:Zno g w b en' cl' o'){x}(hrun:(execOp (Act.mk tmps F.ds).eval oo).run P w=.ok .skip { w with heap:=w.heap.setIfInBounds b (.map en' cl') }\/(execOp (Act.mk tmps F.ds).eval oo).run P w=.ok (.value x) { w with heap:=w.heap.setIfInBounds b (.map en' cl') })(h:Jo F (.inRegion ops r::k) H L (s.upd b o')):F.T.T g w (lone (F.b.atR ⟨tmps,F.ds⟩ (.inRegion ops (i::r)::k)) F.cs w):=by
 have he:=ZnR (g:=g) b (.map en' cl') hh hp (m.st.kept b _ hb);have m':=m.named hb he ψ (λc hc=>JO hc) (hmap _ he (Zq0 hh));rcases hrun with hrun|hrun;refine F.T.back _ _ _ _ (.one (ZiH hoo hw hnd hrun)) ?_;rw[hdst,hdst0];exact F.T.ext _ _ _ _ _ he (h g Z _ tmps hN m');refine F.T.back _ _ _ _ (.one (ZiI hoo hw hnd hrun)) ?_;rw[hdst,hdst0];exact F.T.ext _ _ _ _ _ he (h g Z _ tmps hN m')
def Zqe{F:Fr P}{kp dk o os H L s}(hg:o.guard=nO)(hdn:o.dst=nO){mk mx kx vx}(hk:o.k=.mapupd mk mx kx vx){p q r b kd vd}(hm:Zy H true mx=sO (p,.d (.map b)))(hkk:Zy H true kx=sO (q,.d kd))(hv:Zy H true vx=sO (r,.d vd))(hp:p)(hq:q)(hr:r){es es'}(hb:KT s b=sO es)(hupd:JP mk kd vd es=sO es')(hok:Qz mk kd=true)(h:DO F kp dk os H L (s.upd b (.map es'))):DO F kp dk (o::os) H L s:=by
 refine Y1 λoo g Z w tmps ap i r' k aj u ae ab hd hN m al ac=>?_;have hw:=Z2 m ae (c:=true) (by rw[hg];rfl);have ai:=Z9 u (by rw[hk];rfl);rw[hk]at u;obtain⟨t,kt,et,m',k',v',hop,hu,ag,ah,af,ao⟩:=Zxn u;have e1:=Zli (g:=g) (w:=w) (ZX m ah rfl hm hp F.ds);have e2:Rep g w _ _:=ZX m af rfl hkk hq F.ds;have e3:Rep g w _ _:=ZX m ao rfl hv hr F.ds;have ho:=Zff m.st hb;obtain⟨en',cl',ad,am⟩:=Zth hu ag ho e2 e3 hok hupd;obtain⟨ak,en,cl,hh,_⟩:=ho;refine ZmS (x:=undef) hN m aj ab hdn hw ai (Zii hb) hh ak am (.inl ?_) (h ap r' k al ac);rcases hop with hop|hop<;>simp[execOp,hop,e1,ad]
def Zqc{F:Fr P}{kp dk o os H L s}(hg:o.guard=nO)(hdn:o.dst=nO){mk mx kx}(hk:o.k=.delete mk mx kx){p q b kd}(hm:Zy H true mx=sO (p,.d (.map b)))(hkk:Zy H true kx=sO (q,.d kd))(hp:p)(hq:q){es es'}(hb:KT s b=sO es)(hupd:Zgw mk kd es=sO es')(hok:Qz mk kd=true)(h:DO F kp dk os H L (s.upd b (.map es'))):DO F kp dk (o::os) H L s:=by
 refine Y1 λoo g Z w tmps ap i r' k aj u ae ab hd hN m am ac=>?_;have hw:=Z2 m ae (c:=true) (by rw[hg];rfl);have ai:=Z9 u (by rw[hk];rfl);rw[hk]at u;obtain⟨ats,t,kt,et,m',k',ak,ht,hu,ag,ah,af⟩:=Zxl u;have e1:=Zli (g:=g) (w:=w) (ZX m ah rfl hm hp F.ds);have e2:Rep g w _ _:=ZX m af rfl hkk hq F.ds;have ho:=Zff m.st hb;obtain⟨en',cl',ad,ao⟩:=Ztf ht hu ag ho e2 hok hupd oo.type;obtain⟨al,en,cl,hh,_⟩:=ho;refine ZmS (x:=.tuple #[]) hN m aj ab hdn hw ai (Zii hb) hh al ao (.inr ?_) (h ap r' k am ac);simp[execOp,ak,resolve,invoke,builtin,e1,ad]
def Zqd{F:Fr P}{kp dk o os H L s}(hg:o.guard=nO){t}(hdt:o.dst=sO t){mk z mx kx}(hk:o.k=.mapent mk z mx kx){p q b kd v}(hm:Zy H true mx=sO (p,.d (.map b)))(hkk:Zy H true kx=sO (q,.d kd))(hp:p)(hq:q){es}(hb:KT s b=sO es)(hent:ZdY mk kd z es=sO v)(hok:Qz mk kd=true)(h:∀n,DO F kp dk os ((t,.d (.tup [v,.stamp n]))::H) L (s.upd b (.mapE mk es kd n))):DO F kp dk (o::os) H L s:=by
 refine Y1 λoo g Z w tmps aw i r' k am u ah ab hd hN m aq ac=>?_;have hw:=Z2 m ah (c:=true) (by rw[hg];rfl);have al:=Z9 u (by rw[hk];rfl);rw[hk]at u;obtain⟨ty,kt,et,m',k',ao,hu,aj,hz,ak,ai⟩:=Zxm u;have e1:=Zli (g:=g) (w:=w) (ZX m ak rfl hm hp F.ds);have e2:Rep g w _ _:=ZX m ai rfl hkk hq F.ds;have ho:=Zff m.st hb;obtain⟨ag,af,vv,n,ad,ar,au⟩:=Zuh hu aj hz ho e2 hok hent;obtain⟨ap,en,cl,hh,_⟩:=ho;have ae:=Zii hb;have he:=ZnR (g:=g) b (.map ag af) hh ap (m.st.kept b _ ae);have av:=m.named ae he ψ (λc hc=>JO hc) (au _ he (Zq0 hh));refine Yf (L':=L) hN am ab hd hw al (v:=.tuple #[vv,.i n]) (e:=.d (.tup [v,.stamp n])) ?_ he av ((Zis ar (.stamp n)).mono he) ?_;simp[execOp,ao,e1,ad];rw[hdt];exact h n aw r' k aq ac
def Zr1{F:Fr P}{kp dk o os H L s}(hg:o.guard=nO)(hdn:o.dst=nO){mk mx kx vx}(hk:o.k=.entst mx kx vx){p q r b n kd vd}(hm:Zy H true mx=sO (p,.d (.map b)))(hkk:Zy H true kx=sO (q,.d (.stamp n)))(hv:Zy H true vx=sO (r,.d vd))(hp:p)(hq:q)(hr:r){es es'}(hb:s b=sO (.mapE mk es kd n))(hupd:JP mk kd vd es=sO es')(h:DO F kp dk os H L (s.upd b (.map es'))):DO F kp dk (o::os) H L s:=by
 refine Y1 λoo g Z w tmps aq i r' k aj u af ab hd hN m am ac=>?_;have hw:=Z2 m af (c:=true) (by rw[hg];rfl);have ai:=Z9 u (by rw[hk];rfl);rw[hk]at u;obtain⟨t,m',k',v',ak,ah,ag,ap⟩:=Zzj u;have e1:=Zli (g:=g) (w:=w) (ZX m ah rfl hm hp F.ds);have e2:Rep g w _ _:=ZX m ag rfl hkk hq F.ds;have e3:Rep g w _ _:=ZX m ap rfl hv hr F.ds;have ae:(Act.mk tmps F.ds).eval k'=.i n:=by generalize (Act.mk tmps F.ds).eval k'=z at e2;cases e2;rfl
 have ho:=m.st.obj b _ hb;obtain⟨en',cl',ad,ao⟩:=Zrj (P:=P) (t:=t) ho e3 hupd;obtain⟨al,io,_,en,cl,hh,_⟩:=ho;refine ZmS (x:=undef) hN m aj ab hdn hw ai hb hh al ao (.inl ?_) (h aq r' k am ac);simp[execOp,ak,e1,ae,ad]
def Zxa{F:Fr P}{kp dk o os H L s c}(hg:Zk H o.guard=sO c){x}(hk:o.k=.s2b x){p l}(ha:Zy H c x=sO (p,.d (.str l)))(hs:c=true->p){e'}(he:e'=.when c (.d (.sl .none (I l) 1 (λi=>[.int .u8 ((l.getD i 0).toNat:Int)])))\/(c=true/\e'=.d (.sl .none (I l) 1 (λi=>[.int .u8 ((l.getD i 0).toNat:Int)]))))(h:DO F kp dk os (Zv H o.dst e') L s):DO F kp dk (o::os) H L s:=by
 refine Y1 λoo g Z w tmps aw i r k af ab aj t hd hN m hr al=>?_;have ac:=h aw r k hr al;have hw:=Z2 m aj hg;have am:=Z9 ab (by rw[hk];rfl);cases c;rcases he with rfl|⟨h0,_⟩;exact Zbt (P:=P) hN m af t hd hw ac;simp at h0;rw[hk]at ab;obtain⟨sT,dT,x',e,ao,au,aq,ar,av⟩:=ZCt ab;obtain⟨s0,ap,e0,ai⟩:=Zlj (g:=g) (w:=w) (ZX m av rfl ha (hs rfl) F.ds);have ah:s0.size=I l:=by rw[<-e0];rfl
 have ag:=Lib.run_convert_string_bytes (P:=P) w sT dT e s0 au aq ar;have ae:=grownCap_le_maxLen w s0.size 0 e (by rw[ah];unfold big at ai;unfold maxLen;omega);have ak:=grownCap_ge w s0.size 0 e;let g':G:={ g with prot:=λb=>if b=w.heap.size then (I l) else g.prot b };have ad:JZ g w g' (Lib.bytesWorld w e s0):=by refine⟨by rw[Lib.bytesWorld_size];omega,λb hb=>Lib.bytesWorld_at_old w e s0 b hb,λb hb=>by simp[g',Nat.ne_of_lt hb],λb hb=>?_,rfl,?_,?_,?_⟩;rw[Lib.bytesWorld_size]at hb;simp[g',show b≠w.heap.size by omega,(m.st.fresh b ω).1];rfl;rfl;rfl
 have u:Rep g' (Lib.bytesWorld w e s0) (.slice (sO ⟨w.heap.size,0,nO⟩) s0.size (grownCap w s0.size 0 e)) (.sl .none (I l) 1 (λi=>[.int .u8 ((l.getD i 0).toNat:Int)])):=by
  rw[ah]at ae ak⊢;refine .sl w.heap.size 0 (I l) _ 1 _ .none (λi _=>.int .u8 ((l.getD i 0).toNat:Int)) (λi hi=>rfl) (λi j hi hj=>?_) (λi j hi hj=>?_) (λi j d hi hd=>?_) (λi j _ _=>rfl) trivial ω (by unfold big;unfold maxLen at ae;omega);have:=Lib.bytesWorld_cell w e s0 (0+i*1+j) ω;rw[this,e0];have:0+i*1+j=i:=ω;rw[this];simp[g'];omega;cases j with
  |zero=>simp only[List.getElem?_cons_zero,ZHu]at hd;subst hd;exact .int _ _ (Zs7 _)
  |succ j=>simp at hd
 refine Yf hN af t hd hw am (v:=.slice (sO ⟨w.heap.size,0,nO⟩) s0.size (grownCap w s0.size 0 e)) ?_ (ad.ext m.st.fresh) (m.grow ad) ?_ ac;simp[execOp,ao,ap,ag];rcases he with rfl|⟨_,rfl⟩;exact⟨λ_=>u,λh=>by simp at h⟩;exact u
end
section
variable {P:Program}
def Zw8{F:Fr P}{kp dk o os H L s c}(hg:Zk H o.guard=sO c){len n z is xs}(hk:o.k=.bsl len n z is xs){p es ds}(ha:Z8 H c xs=sO (p,es))(hds:Ka es=sO ds)(hs:c=true->p/\K9 n ds=true){e'}(he:e'=.when c (.d (.sl .full len n (ZR z (is.zip ds))))\/(c=true/\e'=.d (.sl .full len n (ZR z (is.zip ds)))))(h:DO F kp dk os (Zv H o.dst e') L s):DO F kp dk (o::os) H L s:=by
 refine Y1 λoo g Z w tmps av i r k ai ac ak u hd hN m hr al=>?_;have ah:=h av r k hr al;have hw:=Z2 m ak hg;have am:=Z9 ac (by rw[hk];rfl);cases c;rcases he with rfl|⟨h0,_⟩;exact Zbt (P:=P) hN m ai u hd hw ah;grind;rw[hk]at ac;obtain⟨t,e,parts,ao,hu,aq,hz,ar,rfl,ag,au,ap,af⟩:=Zxj ac;have ab:=Zb0 m rfl F.ds ar ha (hs rfl).1;have ad:=K1 ab hds;obtain⟨v,w',g',h1,h2,h3⟩:=ZCn (P:=P) (g:=g) (w:=w) (parts:=parts.toList.map λx=>(x.1,(Act.mk tmps F.ds).eval x.2)) hu aq hz (by simpa[Function.comp_def]using ag) au ap af
  (by simpa[Function.comp_def]using ad) (hs rfl).2 m.st.fresh
 have hx:=h2.ext m.st.fresh;have aj:(execOp (Act.mk tmps F.ds).eval oo).run P w=.ok (.value v) w':=by
  simp[execOp,ao,Sem.run_bind];have e1:(parts.map λx=>(x.1,(Act.mk tmps F.ds).eval x.2))=(parts.toList.map λx=>(x.1,(Act.mk tmps F.ds).eval x.2)).toArray:=by apply Array.ext';simp
  rw[e1,h1];rfl
 have ae:Rep g' w' v (.sl .full len n (ZR z ((parts.toList.map (·.1)).zip ds))):=by simpa[Function.comp_def]using h3
 refine Yf hN ai u hd hw am aj hx (m.grow h2) ?_ ah;rcases he with rfl|⟨_,rfl⟩;exact⟨λ_=>ae,λh=>by simp at h⟩;exact ae
def ZuL{F:Fr P}{kp dk o os H L s c}(hg:Zk H o.guard=sO c){x a b}(hk:o.k=.pick x a b){p v}(ha:Zdx H c x a b=sO (p,v))(hs:c=true->p){u}(he:u=.when c (.d (.bool v))\/(c=true/\u=.d (.bool v)))(h:DO F kp dk os (Zv H o.dst u) L s):DO F kp dk (o::os) H L s:=by
 refine Zr4 hg (by rw[hk];rfl) he (λhc oo g Z w tmps i m=>?_) h;rw[hk]at i;obtain⟨x',a',b',t,h1,h2,h3⟩:=ZA6 i;refine⟨.bool v,?_,.bool v⟩;obtain⟨dst,op,ty,pos,af,gd⟩:=oo;cases t;exact Zz5 m h1 h2 h3 hc ha (hs hc)
def Zgf{H H' L L' s s' p q ok side a n xs}(h:K3 H L s p q ok a n xs=.ok side H' L' s'):
  H'=H/\((∃l off t,a=.loc l off/\Zg L l=sO t/\side=(p/\q/\off+n<=I t/\ok)/\L'=(l,Zx t off xs)::L/\s'=s) \/
   ∃b off t,a=.d (.ptr b off)/\Z1 s b=sO t/\side=(p/\q/\off+n<=I t/\ok)/\L'=L/\s'=s.upd b (.cells (Zx t off xs))):=by
 unfold K3 at h;split at h<;>(try(simp at h;done));rename_i l off;split at h<;>simp only[SR.ok.injEq,reduceCtorEq]at h;rename_i t i;obtain⟨rfl,rfl,rfl,rfl⟩:=h;exact⟨rfl,.inl ⟨l,off,t,rfl,i,rfl,rfl,rfl⟩⟩;rename_i b off;split at h<;>simp only[SR.ok.injEq,reduceCtorEq]at h;rename_i t i;obtain⟨rfl,rfl,rfl,rfl⟩:=h;exact⟨rfl,.inr ⟨b,off,t,rfl,i,rfl,rfl,rfl⟩⟩
def Zez{H L s p q ok side a n xs pre H' s'}:K3 H L s p q ok a n xs≠.all side pre H' s':=by
 unfold K3;split<;>(try(split<;>simp))<;>simp
def QI{F:Fr P}{kp dk o os H H' L L' s s' side}(hst:ZC o H L s=.ok side H' L' s')(hs:side)(h:DO F kp dk os H' L' s'):DO F kp dk (o::os) H L s:=by
 obtain⟨dst,gd,k⟩:=o;unfold ZC at hst;cases hg:Zk H gd with
 |none=>simp[hg]at hst
 |some c =>
  simp only[hg]at hst;have ab:gd=nO->c=true:=λh0=>by subst h0;simpa[Zk]using hg.symm
  cases k with
  |q q xs =>simp only at hst;split at hst<;>(try(simp at hst;done));rename_i p es ha;split at hst<;>(try(simp at hst;done));rename_i sd e hq;split at hst<;>(cases hst);obtain rfl:=ab rfl;exact ZCh hg rfl ha hq (λ_=>hs) (.inr ⟨rfl,rfl⟩) h;exact ZCh hg rfl ha hq hs (.inl rfl) h
  |pick x a b =>simp only at hst;split at hst<;>(try(simp at hst;done));rename_i p v ha;split at hst<;>(cases hst);obtain rfl:=ab rfl;exact ZuL hg rfl ha (λ_=>hs) (.inr ⟨rfl,rfl⟩) h;exact ZuL hg rfl ha hs (.inl rfl) h
  |alloc z =>simp only at hst;split at hst<;>(try(simp at hst;done));rename_i t;cases hst;exact Zr0 rfl rfl rfl hs h
  |box x =>simp only at hst;split at hst<;>(try(simp at hst;done));rename_i t p v ha;cases hst;exact ZCe rfl rfl rfl ha hs.1 hs.2.1 hs.2.2 h
  |bsl len n z is xs =>simp only at hst;split at hst<;>(try(simp at hst;done));rename_i p es ha;split at hst<;>(try(simp at hst;done));rename_i ds ad;split at hst<;>(cases hst);obtain rfl:=ab rfl;exact Zw8 hg rfl ha ad (λ_=>hs) (.inr ⟨rfl,rfl⟩) h;exact Zw8 hg rfl ha ad hs (.inl rfl) h
  |s2b x =>simp only at hst;split at hst<;>(try(simp at hst;done));rename_i p l ha;split at hst<;>(cases hst);obtain rfl:=ab rfl;exact Zxa hg rfl ha (λ_=>hs) (.inr ⟨rfl,rfl⟩) h;exact Zxa hg rfl ha hs (.inl rfl) h
  |store1 a v =>
   simp only at hst;split at hst<;>(try(simp at hst;done));rename_i p ea q x ha hv;obtain⟨rfl,⟨l,off,cs,rfl,hL,rfl,rfl,rfl⟩|⟨b,off,cs,rfl,hL,rfl,rfl,rfl⟩⟩:=Zgf hst;all_goals obtain⟨h1,h2,h3,h4⟩:=hs
   all_goals have hx:cellsOf x=[x]:=by cases x<;>simp[QV]at h4<;>rfl
   exact Zr3 rfl (.inl ⟨rfl,trivial⟩) ha hv h1 h2 hL (λ_=>h4) (λn hn=>by simp at hn) (by rw[hx];simpa using h3) rfl (by rw[hx];exact h);exact ZfO rfl (.inl ⟨rfl,trivial⟩) ha hv h1 h2 hL (λ_=>h4) (λn hn=>by simp at hn) (by rw[hx];simpa using h3) rfl (by rw[hx];exact h)
  |storeN n a v =>
   simp only at hst;split at hst<;>(try(simp at hst;done));rename_i p ea q xs ha hv;obtain⟨rfl,⟨l,off,cs,rfl,hL,rfl,rfl,rfl⟩|⟨b,off,cs,rfl,hL,rfl,rfl,rfl⟩⟩:=Zgf hst;all_goals obtain⟨h1,h2,h3,h4⟩:=hs
   exact Zr3 rfl (.inr ⟨n,rfl⟩) ha hv h1 h2 hL (λhn=>by simp at hn) (λn' hn=>by simp only[K.storeN.injEq]at hn;exact⟨⟨xs,rfl⟩,by rw[<-hn.1];exact h4⟩) (by simp only[cellsOf];omega) rfl h;exact ZfO rfl (.inr ⟨n,rfl⟩) ha hv h1 h2 hL (λhn=>by simp at hn) (λn' hn=>by simp only[K.storeN.injEq]at hn;exact⟨⟨xs,rfl⟩,by rw[<-hn.1];exact h4⟩) (by simp only[cellsOf];omega) rfl h
  |mkmap =>simp only at hst;split at hst<;>simp at hst
  |mkslice e n by_ z l c =>simp only at hst;split at hst<;>simp at hst
  |mapent kp z m k =>simp only at hst;split at hst<;>(try(simp at hst;done));split at hst<;>(try(simp at hst;done));split at hst<;>simp at hst
  |mapupd kp m k v =>simp only at hst;split at hst<;>(try(simp at hst;done));rename_i p b q dk r dv hm hk hv;split at hst<;>(try(simp at hst;done));rename_i es u;split at hst<;>simp only[SR.ok.injEq,reduceCtorEq]at hst;rename_i ac i;obtain⟨rfl,rfl,rfl,rfl⟩:=hst;exact Zqe rfl rfl rfl hm hk hv hs.1 hs.2.1 hs.2.2.1 u i hs.2.2.2 h
  |delete kp m k =>simp only at hst;split at hst<;>(try(simp at hst;done));rename_i p b q dk hm hk;split at hst<;>(try(simp at hst;done));rename_i es u;split at hst<;>simp only[SR.ok.injEq,reduceCtorEq]at hst;rename_i ac i;obtain⟨rfl,rfl,rfl,rfl⟩:=hst;exact Zqc rfl rfl rfl hm hk hs.1 hs.2.1 u i hs.2.2 h
  |entst m k v =>simp only at hst;split at hst<;>(try(simp at hst;done));rename_i p b q n r dv hm hk hv;split at hst<;>(try(simp at hst;done));rename_i kp es dk n' u;split at hst<;>simp only[SR.ok.injEq,reduceCtorEq]at hst;rename_i ac i;obtain⟨rfl,rfl,rfl,rfl⟩:=hst;obtain⟨h1,h2,h3,rfl⟩:=hs;exact Zr1 rfl rfl rfl hm hk hv h1 h2 h3 u i h
  |_=>simp at hst
def Znk{F:Fr P}{kp dk o os H L s side pre H' s'}(i:ZC o H L s=.all side pre H' s')(t:side)(h:∀b,pre b->DO F kp dk os (H' b) L (s' b)):DO F kp dk (o::os) H L s:=by
 obtain⟨dst,u,k⟩:=o;unfold ZC at i;cases hg:Zk H u with
 |none=>grind
 |some c =>
  simp[hg]at i;cases k with
  |mkmap =>simp only at i;split at i<;>cases i;exact Zr2 rfl rfl rfl h
  |mkslice e n by_ z l c =>simp only at i;split at i<;>cases i;obtain⟨h1,h2,h3,h4,h5,h6⟩:=t;exact Znl rfl rfl rfl ‹_› ‹_› h1 h2 h3 h4 h5 h6 h
  |mapent kp z m k =>simp only at i;split at i<;>(try(grind;done));split at i<;>(try(grind;done));split at i<;>cases i;exact Zqd rfl rfl rfl ‹_› ‹_› t.1 t.2.1 ‹_› ‹_› t.2.2 (λn=>h n trivial)
  |store1 a v =>simp only at i;split at i<;>(try(grind;done));exact absurd i Zez
  |storeN n a v =>simp only at i;split at i<;>(try(grind;done));exact absurd i Zez
  |_ =>
   grind;first
    | (grind;done)
    |repeat' (split at i<;>(try(grind;done)))
def Zm{F:Fr P}{kp}{dk}:∀{os} {H} {L} {s},
  Zjs (λH L s=>Zw F dk (kept kp H) (Zk6 kp H L) s) (λos H L s=>DO F kp dk os H L s) os H L s->DO F kp dk os H L s
 | [],H,L,s,h=>ZeO h
 |o::os,H,L,s,h=>by simp[Zjs]at h;split at h;rename_i u H' L' s' i;exact QI i h.1 (Zm h.2);rename_i u pre H' s' i;exact Znk i h.1 λb t=>Zm (h.2 b t);exact h
end
inductive Res where
 |ret (d:D)
 |panic (d:D)
def Znr(g:G)(w:World):Ending->Res->Prop
 |.returned v,.ret d=>Rep g w v d
 |.panicked ch,.panic d=>∃v,ch=[{ v,recovered:=false }]/\Rep g w v d
 |_,_=>False
def Zg3(g:G)(w:World)(Φ:Res->St->Prop)(e:Ending)(w':World):Prop :=
 ∃g' s' r,Ext g w g' w'/\Ya g' s' w'/\Znr g' w' e r/\Φ r s'
section
variable {P:Program}
def Za(P:Program)(f:FuncId)(args:List D)(s:St)(Φ:Res->St->Prop):Prop :=
 (∃fn,P.funcs[f]?=sO fn/\fn.body.isSome=true/\(fn.name == "runtime.NumGoroutine")=false) /\
 ∀g w (vs:List Value),Ya g s w->ZH (Rep g w) vs args->Calls P f vs.toArray w (Zg3 g w Φ)
def Za.mono{f args s Φ Φ'}(h:Za P f args s Φ)(u:∀r s',Φ r s'->Φ' r s'):Za P f args s Φ' :=
 ⟨h.1,λg w vs hs t=>(h.2 g w vs hs t).mono λ_ _ ⟨i,s',r,a,b,c,d⟩=>⟨i,s',r,a,b,c,u _ _ d⟩⟩
def Zk4(P:Program)(f:FuncId)(cs:List Frame)(Φ:Res->St->Prop):ZvK P where
 T g w m:=∃e w' fr,Comes P m (lone fr cs w') e/\fr.fn=f/\fr.leaving P w' e/\Zg3 g w Φ e w'
 back g w m m' hs h:=let ⟨e,w',fr,a,b⟩:=h;⟨e,w',fr,a.of_steps hs,b⟩
 ext g w g' w' m hx h:=by obtain⟨e,w2,fr,a,b,c,g2,s2,r,d1,d2,d3,d4⟩:=h;exact⟨e,w2,fr,a,b,c,g2,s2,r,hx.trans d1,d2,d3,d4⟩
def Zn5(P:Program)(an:Ann)(f:FuncId)(N:Nat)(cs:List Frame)(Φ:Res->St->Prop):Fr P where
 T:=Zk4 P f cs Φ
 b:={ (dE:Frame) with fn:=f,kind:=.normal,roundOf:=nO }
 cs:=cs
 N:=N
 ds:=[]
 an:=an
def K6:Nat->List D->Env
 |_,[]=>[]
 |i,d::ds=>(i,.d d)::K6 (i+1) ds
def ZqC:∀(ds i t e),ZK (K6 i ds) t=sO e->∃d,e=.d d/\i<=t/\ds[t-i]?=sO d
 | [],i,t,e,h=>by simp[K6,ZK]at h
 |d::ds,i,t,e,h=>by simp only[K6,ZK]at h;by_cases u:i=t;subst u;simp only[if_true,ZHu]at h;subst h;exact⟨d,rfl,ZHK _,ψ⟩;simp only[u,if_false]at h;obtain⟨d',h1,h2,h3⟩:=ZqC ds (i+1) t e h;refine⟨d',h1,ω,?_⟩;rw[show t-i=(t-(i+1))+1 from by omega,List.getElem?_cons_succ];exact h3
def ZgO(hs:Ya g s w){vs:List Value}{args:List D}(ha:ZH (Rep g w) vs args){n:Nat}:
  Zu g (λ_=>0) w (vs.toArray++Array.replicate n undef) (K6 0 args) [] s:={
 st:=hs
 loc l cs h:=by simp[Zg]at h
 locKept l cs h:=by simp[Zg]at h
 locSt l cs h:=by simp[Zg]at h
 inj l l' cs cs' h:=by simp[Zg]at h
 env t e h:=by
  obtain⟨d,rfl,_,u⟩:=ZqC args 0 t e h;simp only[Nat.sub_zero]at u;have i:t<I vs:=by rw[ha.len];exact(List.getElem?_eq_some_iff.1 u).1
  have:(vs.toArray++Array.replicate n undef).getD t undef=vs[t]:=by simp[ZIh,Array.getElem?_append,i]
  rw[this];exact ha.get t _ d (by simp[i]) u }
def ZiY{an f df}(hf:cf P an f=sO df){args s Φ}(h:∀cs,Zw (Zn5 P an f df.n cs Φ) [.code df.body] (K6 0 args) [] s):Za P f args s Φ:=by
 unfold cf at hf;split at hf<;>(try(simp at hf;done));rename_i fn u;split at hf<;>(try(simp at hf;done));rename_i c hc;split at hf<;>(try(simp at hf;done));rename_i t;split at hf<;>simp at hf;rename_i rs d hrs hd;subst hf;refine⟨⟨fn,u,by simp[hc],by simpa using t⟩,λg w vs hs ha=>?_⟩;intro cs;have i:Frame.enter P f vs.toArray .normal =
   (Zn5 P an f fn.ntmps cs Φ).b.atR { tmps:=vs.toArray++Array.replicate (fn.ntmps-I vs) undef,defers:=[] } [.code c]:=by
  simp[Frame.enter,Frame.atR,u,hc,Zn5]
 have:=h cs [.code c] (.code hd .nil) g (λ_=>0) w (vs.toArray++Array.replicate (fn.ntmps-I vs) undef) (by simp[Zn5];omega) (ZgO hs ha);obtain⟨e,w',fr,a,b,c',d'⟩:=this;refine⟨e,w',fr,d',?_,b,c'⟩;rw[i];exact a
def Kn(H:Env)(L:Loc)(s:St):RV->Option (Prop×D)
 |.tmp t=>match ZK H t with
  |some (.d x)=>sO (True,x)
  |some (.when c (.d x))=>sO (c=true,x)
  |_=>nO
 |.cell1 t=>match ZK H t with
  |some e=>(Wm L s e).map (True,·)
  |none=>nO
 |.cellN t n=>match ZK H t with
  |some e=>(Kh L s n e).map λr=>(r.1,.agg r.2)
  |none=>nO
def YC(H:Env)(L:Loc)(s:St):List RV->Option (Prop×List D)
 | []=>sO (True,[])
 |r::rs=>match Kn H L s r,YC H L s rs with
  |some (p,d),sO (q,ds)=>sO (p/\q,d::ds)
  |_,_=>nO
def K7:List D->D
 | [d]=>d
 |ds=>.tup ds
def Zlk(tmps:Array Value):ResultVar->Sem Value
 |.tmp t=>pure (tmps.getD t undef)
 |.cell a t=>do loadVar t (<-asAddr (tmps.getD a undef))
def Zov(fn tmps):results fn tmps=(do
  let vs <-fn.results.mapM (Zlk tmps)
  pure (if h:vs.size=1 then vs[0] else .tuple vs)):=by
 unfold results
 congr 1
def ZDt{g Z w tmps H L s}(m:Zu g Z w tmps H L s){r rv}(hc:crv P r=sO rv){p d}(h:Kn H L s rv=sO (p,d))(hp:p):
  ∃v,(Zlk tmps r).run P w=.ok v w/\Rep g w v d:=by
 cases r with
 |tmp t =>simp only[crv,ZHu]at hc;subst hc;simp only[Kn]at h;split at h<;>simp only[ZHu,ZHH,reduceCtorEq]at h;rename_i x hx;obtain⟨rfl,rfl⟩:=h;exact⟨_,rfl,m.env t _ hx⟩;rename_i c x hx;obtain⟨rfl,rfl⟩:=h;exact⟨_,rfl,(m.env t _ hx).1 hp⟩
 |cell a t =>
  simp only[crv]at hc;split at hc<;>simp at hc;·rename_i n ha ab;subst hc;simp only[Kn]at h;split at h<;>(try(simp at h;done));rename_i e he;simp only[ZHI,ZHH]at h;obtain⟨⟨q,ds⟩,hq,rfl,rfl⟩:=h;obtain⟨ad,hv,vs,u,i⟩:=Zom (P:=P) m.loc m.st (m.env a e he) hq hp;exact⟨.agg vs.toArray,by simp only[Zlk,hv,asAddr];simp[loadVar,ZfP ha,YH ab,u],i⟩
  rename_i n ha ab;subst hc;simp only[Kn]at h;split at h<;>(try(simp at h;done));rename_i e he;simp only[ZHI,ZHH]at h;obtain⟨x,hx,_,rfl⟩:=h;obtain⟨b,o,y,hv,hy,hr,_⟩:=Zny m.loc m.st (m.env a e he) hx;exact⟨y,by simp only[Zlk,hv,asAddr];simp[loadVar,Zeh ha,hy],hr⟩
def Zyv{g Z w tmps H L s}(m:Zu g Z w tmps H L s):∀{rs rvs},Zjq P rs=sO rvs->∀{p ds},
  YC H L s rvs=sO (p,ds)->p->∃vs:List Value,(rs.mapM (Zlk tmps)).run P w=.ok vs w/\ZH (Rep g w) vs ds
 | [],rvs,hc,p,ds,h,hp=>by simp only[Zjq,ZHu]at hc;subst hc;simp only[YC,ZHu,ZHH]at h;obtain⟨rfl,rfl⟩:=h;exact⟨[],ψ,.nil⟩
 |r::rs,rvs,hc,p,ds,h,hp=>by simp only[Zjq]at hc;split at hc<;>simp at hc;rename_i x xs hx ac;subst hc;simp only[YC]at h;split at h<;>simp only[ZHu,ZHH,reduceCtorEq]at h;rename_i p1 d1 p2 ds' h1 h2;obtain⟨rfl,rfl⟩:=h;obtain⟨v,u,ab⟩:=ZDt m hx h1 hp.1;obtain⟨vs,i,t⟩:=Zyv m ac h2 hp.2;exact⟨v::vs,by simp only[List.mapM_cons,Sem.run_bind];rw[u];simp only[Result.andThen_ok,i,Sem.run_pure],.cons ab t⟩
def D.Le(d d':D):Prop:=∀g w v,Rep g w v d->Rep g w v d'
def D.Le.refl(d:D):d.Le d:=λ_ _ _ h=>h
def Zow{g Z w tmps H L s}(m:Zu g Z w tmps H L s){fn rvs}(hc:Zjq P fn.results.toList=sO rvs){p ds}(h:YC H L s rvs=sO (p,ds))(hp:p):∃v,(results fn tmps).run P w=.ok v w/\Rep g w v (K7 ds):=by
 obtain⟨vs,h1,h2⟩:=Zyv m hc h hp;have u:(fn.results.mapM (Zlk tmps)).run P w=.ok vs.toArray w:=by rw[Array.mapM_eq_mapM_toList];simp[h1]
 by_cases i:I vs=1
 .match vs,i,h2 with
  | [v],_,.cons hv .nil =>refine⟨v,?_,hv⟩;rw[Zov];simp[u]
 refine⟨.tuple vs.toArray,?_,?_⟩;rw[Zov];simp[u,i];have t:=h2.len;have:K7 ds=.tup ds:=by
  match ds,t with
  | [],_=>rfl
  | [_],hl=>exact absurd hl i
  |_::_::_,_=>rfl
 rw[this];exact .tup vs ds t h2.get
def St.sub(s' s:St):Prop:=∀b o,s' b=sO o->s b=sO o
def Ya.sub{s s':St}(h:Ya g s w)(i:s'.sub s):Ya g s' w:={
 obj b o ho:=h.obj b o (i b o ho)
 kept b o ho:=h.kept b o (i b o ho)
 fresh:=h.fresh
 tabs:=h.tabs }
end
end Go.DL
namespace Go.DL
open Go
variable [Zsc]
section
variable {P:Program}
def Y4(F:Fr P)(H:Env)(L:Loc)(d:D)(s:St):Prop :=
 ∀g Z w v todo tmps,F.N<=tmps.size->Zu g Z w tmps H L s->Rep g w v d->F.T.T g w (lone { F.b.atR ⟨tmps,F.ds⟩ todo with mode:=.panicking [{ v,recovered:=false }] } F.cs w)
def Zu.empty{g:G}{Z:Nat->Nat}{w:World}{tmps:Array Value}{H:Env}{L:Loc}{s:St}(m:Zu g Z w tmps H L s):Zu g Z w tmps [] [] s:={
 st:=m.st
 loc l cs h:=by simp[Zg]at h
 locKept l cs h:=by simp[Zg]at h
 locSt l cs h:=by simp[Zg]at h
 inj l l' cs cs' h:=by simp[Zg]at h
 env t e h:=by simp[ZK]at h }
def Y4.weak{F:Fr P}{d s}(h:Y4 F [] [] d s)(H L):Y4 F H L d s :=
 λg Z w v i tmps t m u=>h g Z w v i tmps t m.empty u
def ZfR(g:G)(Z:Nat->Nat)(L:Loc):G:={ g with kept:=λb=>g.kept b\/∃l cs,Zg L l=sO cs/\b=Z l }
def Wt{g i w v d}(h:Rep g w v d)(t:i.prot=g.prot):Rep i w v d :=
 h.mono0 (λb=>by rw[t];exact ZHK _) (λ_ _ _=>rfl) (λ_ _ h=>h)
def Zyq{g i Z w L v e}(h:ZJ g Z w L v e)(u:i.prot=g.prot):ZJ i Z w L v e:=by
 induction e with
 |d x=>exact Wt h u
 |loc l o=>exact h
 |when c e ih=>exact⟨λt=>ih (h.1 t),h.2⟩
def Zoj{g g' w b o}(h:WI g w b o)(u:g'.prot=g.prot):WI g' w b o:=by
 cases o with
 |cells ds =>obtain⟨h0,vs,T,h1,h2,h3,h4⟩:=h;exact⟨by rw[u];exact h0,vs,T,h1,h2,λi v d hv hd=>Wt (h3 i v d hv hd) u,h4⟩
 |map es =>obtain⟨h0,en,cl,h1,h2,h3,h4,h5,h6⟩:=h;exact⟨by rw[u];exact h0,en,cl,h1,h2,λi v d hv hd=>Wt (h3 i v d hv hd) u,λi v d hv hd=>Wt (h4 i v d hv hd) u,h5,h6⟩
 |tip k =>obtain⟨h0,h1⟩:=h;exact⟨by rw[u];exact h0,h1⟩
 |mapE kp es k n =>obtain⟨h0,io,h1,en,cl,h2,h3,h4,h5,h6,h7⟩:=h;exact⟨by rw[u];exact h0,io,h1,en,cl,h2,h3,λi v d hi hv hd=>Wt (h4 i v d hi hv hd) u,λi v d hi hv hd=>Wt (h5 i v d hi hv hd) u,λe he=>⟨Wt (h6 e he).1 u,(h6 e he).2⟩,h7⟩
 |loop r st =>obtain⟨h0,l,h1,h2,h3,h4,h5,h6,h7,h8,h9⟩:=h;exact⟨by rw[u];exact h0,l,h1,h2,h3,h4,h5,h6,h7,λt e he=>Zyq (h8 t e he) u,h9⟩
 |dfr =>obtain⟨h0,h1⟩:=h;exact⟨by rw[u];exact h0,h1⟩
def Zu.callSt{g:G}{Z:Nat->Nat}{w:World}{tmps:Array Value}{H:Env}{L:Loc}{s:St}(m:Zu g Z w tmps H L s):Ya (ZfR g Z L) s w:={
 obj b o ho:=Zoj (m.st.obj b o ho) rfl
 kept b o ho:=by rintro(h|⟨l,i,t,rfl⟩);exact m.st.kept b o ho h;rw[m.locSt l i t]at ho;simp at ho
 fresh b hb:=⟨(m.st.fresh b hb).1,by
  rintro(h|⟨l,i,t,rfl⟩);exact(m.st.fresh b hb).2 h;have:=(m.loc l i t).lt;omega⟩
 tabs n i hc:=Wt (m.st.tabs n i hc) rfl }
def Zu.afterCall{g g' Z w w' tmps H L s s'}(m:Zu g Z w tmps H L s)(hx:Ext (ZfR g Z L) w g' w')(hs:Ya g' s' w') :
  Ext g w { g' with kept:=g.kept } w'/\Zu { g' with kept:=g.kept } Z w' tmps H L s':=by
 have i:Ext g w { g' with kept:=g.kept } w' :=
  ⟨hx.size,hx.prot,hx.cell,hx.hdr,λb hb=>hx.kept b (.inl hb),λb hb=>hx.keptProt b (.inl hb),rfl,hx.os,hx.output,hx.tape⟩
 refine⟨i,⟨⟨λb o ho=>Zoj (hs.obj b o ho) rfl,λb o ho hk=>hs.kept b o ho (by rw[hx.keptEq];exact .inl hk),λb hb=>⟨(hs.fresh b hb).1,λhk=>(hs.fresh b hb).2 (by rw[hx.keptEq];exact .inl hk)⟩,λn cs hc=>Wt (hs.tabs n cs hc) rfl⟩,?_,m.locKept,?_,m.inj,?_⟩⟩;intro l cs hl;exact(m.loc l cs hl).mono i (hx.kept _ (.inr ⟨l,cs,hl,rfl⟩)) (hx.keptProt _ (.inr ⟨l,cs,hl,rfl⟩))
 .intro l cs hl;cases u:s' (Z l) with
  |none=>rfl
  |some o=>exact absurd (by rw[hx.keptEq];exact .inr ⟨l,cs,hl,rfl⟩) (hs.kept _ o u)
 intro t e he;exact(m.env t e he).mono i
def ZuS{op f xs}(h:ck P op=sO (.call f xs)):∃f' u ats,op=.call ⟨.value f',u,ats⟩/\ZW f'=sO f/\Zcg u.toList=sO xs:=by
 unfold ck at h;split at h;simp at h;split at h<;>(try(simp at h;done));all_goals (try(repeat' (split at h<;>(try(simp at h;done)))))
 simp only[ZHu,K.call.injEq]at h;obtain⟨rfl,rfl⟩:=h;rename_i c _ _ f' i _ _ f xs hf t;obtain⟨callee,u,ats⟩:=c;simp only at i;exact⟨f',u,ats,by rw[i],hf,t⟩
def Zzl{op x}(h:ck P op=sO (.panic x)):∃x',op=.panic x'/\ZW x'=sO x:=by
 unfold ck at h;split at h;simp at h;split at h<;>(try(simp at h;done));all_goals (try(repeat' (split at h<;>(try(simp at h;done)))))
 simp only[ZHI,K.panic.injEq,exists_eq_right]at h;exact⟨_,rfl,h⟩
def Zf7(P:Program):Next->Option Frame
 |.enter f args=>sO (Frame.enter P f args .normal)
 |.round l f tmps a b=>sO (Frame.round l f tmps a b .normal)
 |_=>nO
def ZCb(P:Program)(m:Machine)(c:Frame)(cs:List Frame)(e:Ending)(w':World):Prop :=
 match e with
 |.returned v=>Steps P m (lone (c.finish v) cs w')
 |.panicked ch=>Steps P m (lone (c.raise ch) cs w')
 |.outgrown=>False
def WN(P:Program)(f:D)(args:List D)(s:St)(Φ:Res->St->Prop):Prop :=
 ∀g w fv (vs:List Value),Ya g s w->Rep g w fv f->ZH (Rep g w) vs args ->
  ∃d nx fr,(Deferred.ofValue fv vs.toArray).run P w=.ok d w/\(invoke d.target d.args).run P w=.ok nx w/\Zf7 P nx=sO fr /\
   ∀c cs,∃e w',Zg3 g w Φ e w'/\ZCb P (lone fr (c::cs) w) c cs e w'
def Za.V{f first args caps s Φ}(h:Za P f (first++args++caps) s Φ):WN P (.fn (.func f) first caps) args s Φ:=by
 intro g w fv vs hs hf ha;cases hf with
 |fn _ fs cs' _ _ hn1 hn2 h1 h2 =>
 obtain⟨⟨fn,ad,ae,af⟩,ab⟩:=h;have ac:ZH (Rep g w) (fs++vs++cs') (first++args++caps):=((Ye hn1 h1).append ha).append (Ye hn2 h2);have u:fn.body.isNone=false:=by cases hb:fn.body<;>simp[hb]at ae⊢
 refine⟨_,.enter f (fs++vs++cs').toArray,_,by simp[Deferred.ofValue];rfl,?_,rfl,λc cs=>?_⟩;simp only[invoke,callFunc,Sem.run_bind,run_program,Result.andThen_ok,ad,af,u,ZH5,if_false,Sem.run_pure];simp;obtain⟨e,w',fr,hp,i,hfrf,t⟩:=ab g w _ hs ac (c::cs);refine⟨e,w',hp,?_⟩;cases e with
 |returned v=>exact Steps.trans i (.one (step_leave_returned t))
 |panicked ch=>exact Steps.trans i (.one (step_leave_panicked t))
 |outgrown =>obtain⟨g',s',r,b1,b2,b3,b4⟩:=hp;cases r<;>exact b3.elim
def Zbz{F:Fr P}{kp dk o os H L s}(hg:Zk H o.guard=sO true){fx xs}(hk:o.k=.call fx xs)
  {p q f es ds} (hf:Zy H true fx=sO (q,.d f)) (ha:Z8 H true xs=sO (p,es)) (hds:Ka es=sO ds) (hp:p) (hq:q)
  {Ψ} (hc:WN P f ds s Ψ)
  (hret:∀d s',Ψ (.ret d) s'->DO F kp dk os (Zv H o.dst (.d d)) L s') (hpan:∀d s',Ψ (.panic d) s'->Y4 F H L d s'):DO F kp dk (o::os) H L s:=by
 refine Y1 λoo g Z w tmps t i r k ap ag ar ak hd hN m hr ay=>?_;have hw:=Z2 m ar hg;have az:=Z9 ag (by rw[hk];rfl);rw[hk]at ag;obtain⟨f',ad,ats,a0,aw,a3⟩:=ZuS ag;have am:Rep g w _ _:=ZX m aw rfl hf hq F.ds;have ae:=K1 (Zb0 m rfl F.ds a3 ha hp) hds;generalize ax:(Act.mk tmps F.ds).eval f'=fv at am;have ai:ZH (Rep (ZfR g Z L) w) (ad.toList.map (Act.mk tmps F.ds).eval) ds:=Ye ae.len (λi a b hx hy=>Wt (ae.get i a b hx hy) rfl);obtain⟨d,nx,fr,au,av,aj,hC⟩:=hc (ZfR g Z L) w fv _ m.callSt (Wt am rfl) ai;have ao:(Array.map (Act.mk tmps F.ds).eval ad)=(ad.toList.map (Act.mk tmps F.ds).eval).toArray:=by apply Array.ext';simp
 have aq:(execOp (Act.mk tmps F.ds).eval oo).run P w=.ok nx w:=by simp only[execOp,a0,resolve,ax,ao,Sem.run_bind,au,Result.andThen_ok,av]
 have ac:step P (lone (F.b.atR ⟨tmps,F.ds⟩ (.inRegion t (i::r)::k)) F.cs w) =
   .next (lone fr (F.b.atR ⟨tmps,F.ds⟩ (.inRegion t (i::r)::k)::F.cs) w):=by
  refine step_lone_go ?_;rw[stepGR_op ap hw,Oper.semAt_eq _ _ _ az];cases nx<;>simp only[Zf7,ZHu,reduceCtorEq]at aj<;>subst aj<;>simp[stepG.apply,aq,Frame.atR]
 obtain⟨e,w',⟨g',s',res,x1,x2,x3,x4⟩,ab⟩:=hC (F.b.atR ⟨tmps,F.ds⟩ (.inRegion t (i::r)::k)) F.cs;obtain⟨af,hm⟩:=m.afterCall x1 x2;cases e with
 |returned v =>
  cases res with
  |panic d=>exact x3.elim
  |ret d =>
   have al:(F.b.atR ⟨tmps,F.ds⟩ (.inRegion t (i::r)::k)).finish v=F.b.atR ((Act.mk tmps F.ds).put oo.dst v) (.inRegion t r::k):=by rw[Frame.finish_atR,ap];rfl
   have u:Steps P (lone (F.b.atR ⟨tmps,F.ds⟩ (.inRegion t (i::r)::k)) F.cs w) (lone (F.b.atR ((Act.mk tmps F.ds).put oo.dst v) (.inRegion t r::k)) F.cs w'):=by refine .head ac ?_;rw[<-al];exact ab
   refine F.T.back _ _ _ _ u ?_;rw[ak];obtain⟨ah,e1,e2,m'⟩:=Zfm hm hN hd (v:=v) (e:=.d d) (Wt x3 rfl) F.ds;rw[e1];exact F.T.ext _ _ _ _ _ af (hret d s' x4 t r k hr ay _ _ _ ah e2 m')
 |panicked ch =>
  cases res with
  |ret d=>exact x3.elim
  |panic d =>
   obtain⟨v,rfl,hv⟩:=x3;have u:Steps P (lone (F.b.atR ⟨tmps,F.ds⟩ (.inRegion t (i::r)::k)) F.cs w) (lone { F.b.atR ⟨tmps,F.ds⟩ (.inRegion t (i::r)::k) with mode:=.panicking [{ v,recovered:=false }] } F.cs w'):=by refine .head ac ?_;rw[<-Frame.raise_atR];exact ab
   refine F.T.back _ _ _ _ u ?_;exact F.T.ext _ _ _ _ _ af (hpan d s' x4 _ _ _ v _ _ hN hm (Wt hv rfl))
 |outgrown=>exact ab.elim
def Zg0{F:Fr P}{kp dk o os H L s}(hg:Zk H o.guard=sO true){fx xs}(hk:o.k=.call fx xs)
  {p q f first caps es ds} (hf:Zy H true fx=sO (q,.d (.fn (.func f) first caps))) (ha:Z8 H true xs=sO (p,es)) (u:Ka es=sO ds) (hp:p) (hq:q)
  {Ψ} (hc:Za P f (first++ds++caps) s Ψ)
  (t:∀d s',Ψ (.ret d) s'->DO F kp dk os (Zv H o.dst (.d d)) L s') (i:∀d s',Ψ (.panic d) s'->Y4 F H L d s'):DO F kp dk (o::os) H L s :=
 Zbz hg hk hf ha u hp hq hc.V t i
def Zmr{F:Fr P}{kp dk o os H L s}(hg:Zk H o.guard=sO true){x}(hk:o.k=.panic x)
  {p t d} (ha:Zy H true x=sO (p,.d (.iface t d))) (hp:p) (h:Y4 F H L (.iface t d) s):DO F kp dk (o::os) H L s:=by
 refine Y1 λoo g Z w tmps ai i r k af ab ad hdst hd hN m hr hkk=>?_;have hw:=Z2 m ad hg;have ae:=Z9 ab (by rw[hk];rfl);rw[hk]at ab;obtain⟨x',ag,ah⟩:=Zzl ab;have u:Rep g w _ _:=ZX m ah rfl ha hp F.ds;generalize hv:(Act.mk tmps F.ds).eval x'=v at u;have ac:(execOp (Act.mk tmps F.ds).eval oo).run P w=.halt (.panic v) w:=by cases u;simp[execOp,ag,hv,Instr.panic]
 refine F.T.back _ _ _ _ (.one (step_lone_go (fr':={ F.b.atR ⟨tmps,F.ds⟩ (.inRegion ai (i::r)::k) with mode:=.panicking [{ v,recovered:=false }] }) (cs':=F.cs) (w':=w) ?_)) (h g Z w v _ _ hN m u);rw[stepGR_op af hw,Oper.semAt_eq _ _ _ ae];rw[<-Frame.raise_atR];simp[stepG.apply,ac]
end
end Go.DL
namespace Go.DL
open Go
variable [Zsc]
section
variable {P:Program}
def Zap:D->Option Value
 |.int k n=>sO (.int k n)
 |.bool b=>sO (.bool b)
 |.str l=>sO (.string ⟨l.toArray⟩)
 |.nilsl=>sO (.slice nO 0 0)
 |.nilptr=>sO (.pointer nO)
 |.ptr b o=>sO (.pointer (sO ⟨b,o,nO⟩))
 |.map b=>sO (.map (sO b))
 |.nilmap=>sO (.map nO)
 |.nilfn=>sO .nilFunc
 |.niliface=>sO .nilIface
 |_=>nO
def ZkL:List D->Option (List Value)
 | []=>sO []
 |d::r=>match Zap d,ZkL r with
  |some v,sO vs=>sO (v::vs)
  |_,_=>nO
def Zvw{g w v t d}(h:Rep g w v d)(i:Zap d=sO t):v=t:=by
 cases h<;>simp only[Zap,ZHu,reduceCtorEq]at i<;>(try exact i);rename_i s l h hb;rw[<-i];cases s;simp only at h;rw[<-h]
def Zlq{g w}:∀{vs vs' ds},ZH (Rep g w) vs ds->ZkL ds=sO vs'->vs=vs'
 |_,_,_,.nil,h=>by simp only[ZkL,ZHu]at h;exact h
 |_,_,_,.cons h1 h2,h=>by simp only[ZkL]at h;split at h<;>simp only[ZHu,reduceCtorEq]at h;rename_i v vs e1 e2;rw[<-h,Zvw h1 e1,Zlq h2 e2]
def Zfo:D->Prop
 |.int k n=>inR k n
 |.str l=>I l<=big
 |d=>(Zap d).isSome=true
def Zbn:List D->Prop
 | []=>True
 |d::r=>Zfo d/\Zbn r
def ZqV{d}(h:Zfo d):∃v,Zap d=sO v/\v.one1=true/\∀g w,Rep g w v d:=by
 cases d<;>simp only[Zfo,Zap,Option.isSome_none,ZH5]at h;exact⟨_,rfl,rfl,λg w=>.int _ _ h⟩;exact⟨_,rfl,rfl,λg w=>.bool _⟩;exact⟨_,rfl,rfl,λg w=>.str _ _ rfl h⟩;exact⟨_,rfl,rfl,λg w=>.nilsl⟩;exact⟨_,rfl,rfl,λg w=>.nilptr⟩;exact⟨_,rfl,rfl,λg w=>.ptr _ _⟩;exact⟨_,rfl,rfl,λg w=>.map _⟩;exact⟨_,rfl,rfl,λg w=>.nilmap⟩;exact⟨_,rfl,rfl,λg w=>.nilfn⟩;exact⟨_,rfl,rfl,λg w=>.niliface⟩
def Zb1:∀{ds},Zbn ds->∃vs,ZkL ds=sO vs/\(∀v∈vs,v.one1=true)/\∀g w,ZH (Rep g w) vs ds
 | [],_=>⟨[],rfl,ψ,λg w=>.nil⟩
 |d::r,h=>by obtain⟨v,u,h2,h3⟩:=ZqV h.1;obtain⟨vs,i,g2,t⟩:=Zb1 h.2;exact⟨v::vs,by simp[ZkL,u,i],by simp only[ZIa,forall_eq_or_imp];exact⟨h2,g2⟩,λg w=>.cons (h3 g w) (t g w)⟩
inductive DD where
 |mark (q:Nat)
 |fn (i:FuncId) (args caps:List D)
def DD.def:DD->Deferred
 |.mark q=>{ target:=.collected q,args:=#[] }
 |.fn i args caps=>{ target:=.fn (.func i) ((ZkL caps).getD []).toArray,args:=((ZkL args).getD []).toArray }
def Zbk(g:G)(w:World)(m:FrameMode):Option D->Prop
 |none=>m=.returning
 |some d=>∃v,m=.panicking [{ v,recovered:=false }]/\Rep g w v d
def JY(P:Program)(i:FuncId)(args:List D)(pd:Option D)(s:St)(Ψ:Bool->St->Prop):Prop :=
 (∃fn,P.funcs[i]?=sO fn/\fn.body.isSome=true/\(fn.name == "runtime.NumGoroutine")=false) /\
 ∀g w (vs:List Value) (cf:Frame) (cs:List Frame),Ya g s w->ZH (Rep g w) vs args->Zbk g w cf.mode pd ->
  ∃g' w' s' b,Ext g w g' w'/\Ya g' s' w'/\Ψ b s' /\
   Steps P (lone (Frame.enter P i vs.toArray .deferred) (cf::cs) w) (lone { cf with mode:=if b then .returning else cf.mode } cs w')
def Unw(P:Program):List DD->Option D->St->(Option D->St->Prop)->Prop
 | [],m,s,Ψ=>Ψ m s
 |.mark q::r,m,s,Ψ=>s q=sO .dfr/\Unw P r m (s.del q) Ψ
 |.fn i args caps::r,m,s,Ψ=>Zbn args/\Zbn caps/\JY P i (args++caps) m s λb s'=>Unw P r (if b then nO else m) s' Ψ
def Zcm{g:G}{w:World}(b:Nat)(o:Obj)(hb:hdr w b=nO)(hp:g.prot b=0)(hk:¬g.kept b):Ext g w g { w with heap:=w.heap.setIfInBounds b o } where
 size:=by simp
 prot _:=ZHK _
 cell b' o' ho:=by by_cases h:b'=b;subst h;omega;exact QO (by simp[Array.getElem?_setIfInBounds,Ne.symm h])
 hdr b' x hx:=by by_cases h:b'=b;subst h;rw[hb]at hx;simp at hx;rw[Zah (w:=w) (by simp[Array.getElem?_setIfInBounds,Ne.symm h])];exact hx
 kept b' hb':=by have h:b'≠b:=λh=>hk (h▸hb');simp[Array.getElem?_setIfInBounds,Ne.symm h]
 keptProt _ _:=rfl
 keptEq:=rfl
 os:=rfl
 output:=rfl
 tape:=rfl
def Zu.drop{g:G}{Z:Nat->Nat}{w w':World}{tmps:Array Value}{H:Env}{L:Loc}{s:St}(m:Zu g Z w tmps H L s){b:Nat}{o:QL}(hb:s b=sO o)(he:Ext g w g w')(hsz:w'.heap.size=w.heap.size)
  (hoth:∀c,c≠b->w'.heap[c]?=w.heap[c]?):Zu g Z w' tmps H L (s.del b):={
 st:=⟨λc x u=>by simp only[St.del]at u;by_cases i:c=b;simp[i]at u;simp only[i,if_false]at u;exact(m.st.obj c x u).mono he (hoth c i) rfl,
   λc x u=>by simp only[St.del]at u;by_cases i:c=b;simp[i]at u;simp only[i,if_false]at u;exact m.st.kept c x u,
   λc i=>m.st.fresh c ω,λn cs i=>(m.st.tabs n cs i).mono he⟩
 loc l cs hl:=(m.loc l cs hl).mono he (hoth _ (λh=>by have:=m.locSt l cs hl;rw[h,hb]at this;simp at this)) rfl
 locKept:=m.locKept
 locSt l cs hl:=by simp only[St.del];split;rfl;exact m.locSt l cs hl
 inj:=m.inj
 env t e ht:=(m.env t e ht).mono he }
def ZyD{fr cs w q ds args}(hm:fr.mode≠.run)(hd:fr.defers={ target:=.collected q,args }::ds)(hq:w.heap[q]?=sO (.deferred (sO []))) :
  step P (lone fr cs w)=.next (lone { fr with defers:=ds } cs { w with heap:=w.heap.setIfInBounds q (.deferred nO) }):=by
 have t:(Instr.takeDeferred q).run P w=.ok [] { w with heap:=w.heap.setIfInBounds q (.deferred nO) }:=by simp[Instr.takeDeferred,getObj,setObj,Sem.run,hq,Result.andThen]
 refine step_lone_go ?_;cases i:fr.mode with
 |run=>exact absurd i hm
 |returning=>simp[stepG,unwind,i,hd,Sem.runT_eq,t]
 |panicking chain=>simp[stepG,unwind,i,hd,Sem.runT_eq,t]
def Zoh{g w m o}(h:Zbk g w m o):m≠.run:=by
 cases o with
 |none=>simp only[Zbk]at h;rw[h];simp
 |some d=>obtain⟨v,h,_⟩:=h;rw[h];simp
def Zog{g i w w' m o}(h:Zbk g w m o)(t:Ext g w i w'):Zbk i w' m o:=by
 cases o with
 |none=>exact h
 |some d=>obtain⟨v,h,u⟩:=h;exact⟨v,h,u.mono t⟩
def ZkM{Ψ}:∀(dds) {m s},Unw P dds m s Ψ->∀{g Z w H L fr cs},Zu g Z w fr.tmps H L s->fr.defers=dds.map DD.def->Zbk g w fr.mode m ->
  ∃g' w' m' s' md,Ext g w g' w'/\Zu g' Z w' fr.tmps H L s'/\Ψ m' s'/\Zbk g' w' md m'/\Steps P (lone fr cs w) (lone { fr with defers:=[],mode:=md } cs w')
 | [],m,s,h,g,Z,w,H,L,fr,cs,M,hd,hm=>by
  refine⟨g,w,m,s,fr.mode,Ext.refl g w,M,h,hm,?_⟩;have:({ fr with defers:=[],mode:=fr.mode }:Frame)=fr:=by cases fr;simp only at hd;subst hd;rfl
  rw[this];exact Steps.refl P _
 |.mark q::r,m,s,h,g,Z,w,H,L,fr,cs,M,hd,hm=>by obtain⟨hq,hu⟩:=h;obtain⟨am,hh⟩:=M.st.obj q _ hq;have he:=Zcm (g:=g) (w:=w) q (.deferred nO) (by simp[hdr,hh]) am (M.st.kept q _ hq);have M':=M.drop hq he ψ (λc hc=>JO hc);obtain⟨g',w',m',s',md,a1,a2,a3,a4,a5⟩:=ZkM r hu (fr:={ fr with defers:=r.map DD.def }) (cs:=cs) M' rfl (Zog hm he);exact⟨g',w',m',s',md,he.trans a1,a2,a3,a4,.head (ZyD (Zoh hm) hd hh) a5⟩
 |.fn i args caps::r,m,s,h,g,Z,w,H,L,fr,cs,M,hd,hm=>by
  obtain⟨ao,ap,⟨fn,ad,ae,af⟩,hc⟩:=h;obtain⟨ac,ah,_,ai⟩:=Zb1 ao;obtain⟨vs,ag,_,aq⟩:=Zb1 ap;have aj:Zbk (ZfR g Z L) w ({ fr with defers:=r.map DD.def }:Frame).mode m:=by
   cases m with
   |none=>exact hm
   |some d=>obtain⟨v,h1,h2⟩:=hm;exact⟨v,h1,Wt h2 rfl⟩
  obtain⟨g1,w1,s1,b,x1,x2,x3,x4⟩:=hc (ZfR g Z L) w (ac++vs) { fr with defers:=r.map DD.def } cs M.callSt ((ai _ _).append (aq _ _)) aj;obtain⟨t,ak⟩:=M.afterCall x1 x2;have u:fn.body.isNone=false:=by cases hb:fn.body<;>simp[hb]at ae⊢
  have ab:step P (lone fr cs w)=.next (lone (Frame.enter P i (ac++vs).toArray .deferred) ({ fr with defers:=r.map DD.def }::cs) w):=by refine step_defer (d:=DD.def (.fn i args caps)) (fv:=.func i) (cap:=vs.toArray) (Zoh hm) hd (by simp[DD.def,ag]) ?_;simp only[DD.def,ag,ah,ZIc,invoke,callFunc,Sem.run_bind,run_program,Result.andThen_ok,ad,af,u,ZH5,if_false,Sem.run_pure];simp
  have al:Zbk { g1 with kept:=g.kept } w1 (if b then .returning else fr.mode) (if b then nO else m):=by cases b;simp only[ZH5,if_false];exact Zog hm t;rfl
  obtain⟨g',w',m',s',md,a1,a2,a3,a4,a5⟩:=ZkM r x3 (fr:={ fr with defers:=r.map DD.def,mode:=if b then .returning else fr.mode }) (cs:=cs) ak rfl al;exact⟨g',w',m',s',md,t.trans a1,a2,a3,a4,.head ab (Steps.trans x4 a5)⟩
def YJ{P:Program}(F:Fr P)(rs:List RV)(Φ:Res->St->Prop)(dds:List DD):Prop :=
 ∃an f df cs,cf P an f=sO df/\rs=df.res/\F={ Zn5 P an f df.n cs Φ with ds:=dds.map DD.def }
def St.sub_refl{s:St}:s.sub s:=λ_ _ h=>h
def ZkW(H:Env)(L:Loc)(rs:List RV)(Φ:Res->St->Prop):Option D->St->Prop
 |none,s=>∃p ds d s',YC H L s rs=sO (p,ds)/\p/\(K7 ds).Le d/\s'.sub s/\Φ (.ret d) s'
 |some d,s=>∃d' s',d.Le d'/\s'.sub s/\Φ (.panic d') s'
def ZsQ{an f df}(hf:cf P an f=sO df){cs Φ g Z w fr H L s m dds}(hfn:fr.fn=f)(hkind:fr.kind=.normal)
  (M:Zu g Z w fr.tmps H L s) (hd:fr.defers=dds.map DD.def) (hm:Zbk g w fr.mode m) (hu:Unw P dds m s (ZkW H L df.res Φ)):(Zk4 P f cs Φ).T g w (lone fr cs w):=by
 obtain⟨g',w',m',s',md,a1,a2,a3,a4,a5⟩:=ZkM dds hu (cs:=cs) M hd hm;unfold cf at hf;split at hf<;>(try(simp at hf;done));rename_i fn i;split at hf<;>(try(simp at hf;done));split at hf<;>(try(simp at hf;done));split at hf<;>simp at hf;rename_i rs d' ab hd';subst hf;cases m' with
 |none =>obtain⟨p,ds,d,s2,h1,h2,h3,h4,h5⟩:=a3;obtain⟨v,t,u⟩:=Zow a2 ab h1 h2;exact⟨.returned v,w',_,a5,hfn,⟨a4,rfl,hkind,fn,by rw[<-i] ;exact congrArg _ hfn,t⟩,g',s2,.ret d,a1,a2.st.sub h4,h3 _ _ _ u,h5⟩
 |some d =>obtain⟨d',s2,h1,h2,h3⟩:=a3;obtain⟨v,t,u⟩:=a4;exact⟨.panicked [{ v,recovered:=false }],w',_,a5,hfn,⟨t,rfl,fn,by rw[<-i];exact congrArg _ hfn⟩,g',s2,.panic d',a1,a2.st.sub h2,⟨v,rfl,h1 _ _ _ u⟩,h3⟩
def YJ.retU{F:Fr P}{rs Φ dds}(t:YJ F rs Φ dds){dk H L s}(h:Unw P dds nO s (ZkW H L rs Φ)):Zw F (.code .ret::dk) H L s:=by
 obtain⟨an,f,⟨N,rs,b⟩,i,u,rfl,rfl⟩:=t;intro k hk;cases hk with
 |code hc ht =>obtain rfl:=Zst hc;intro g Z w tmps hN m;refine(Zk4 P f i Φ).back _ _ _ _ (.one (stepR_ret rfl)) ?_;exact ZsQ (m:=nO) u rfl rfl (dds:=dds) m rfl rfl h
def YJ.finU{F:Fr P}{rs Φ dds}(t:YJ F rs Φ dds){H L s}(h:Unw P dds nO s (ZkW H L rs Φ)):Zw F [] H L s:=by
 obtain⟨an,f,⟨N,rs,b⟩,i,u,rfl,rfl⟩:=t;intro k hk;cases hk;intro g Z w tmps hN m;refine(Zk4 P f i Φ).back _ _ _ _ (.one (stepR_end rfl)) ?_;exact ZsQ (m:=nO) u rfl rfl (dds:=dds) m rfl rfl h
def YJ.panU{F:Fr P}{rs Φ dds}(i:YJ F rs Φ dds){H L d s}(h:Unw P dds (sO d) s (ZkW H L rs Φ)):Y4 F H L d s:=by
 obtain⟨an,f,⟨N,rs,b⟩,cs,t,rfl,rfl⟩:=i;intro g Z w v todo tmps hN m u;exact ZsQ (m:=sO d) t rfl rfl (dds:=dds) m rfl ⟨v,rfl,u⟩ h
def YJ.ret{F:Fr P}{rs Φ}(hF:YJ F rs Φ []){dk H L s p ds}(d s')(i:YC H L s rs=sO (p,ds))(t:p)(u:(K7 ds).Le d)(h4:s'.sub s)(h5:Φ (.ret d) s') :
  Zw F (.code .ret::dk) H L s:=hF.retU ⟨p,ds,d,s',i,t,u,h4,h5⟩
def YJ.fin{F:Fr P}{rs Φ}(hF:YJ F rs Φ []){H L s p ds}(d s')(i:YC H L s rs=sO (p,ds))(t:p)(u:(K7 ds).Le d)(h4:s'.sub s)(h5:Φ (.ret d) s') :
  Zw F [] H L s:=hF.finU ⟨p,ds,d,s',i,t,u,h4,h5⟩
def YJ.pan{F:Fr P}{rs Φ}(u:YJ F rs Φ []){H L d s}(s')(i:s'.sub s)(t:Φ (.panic d) s'):Y4 F H L d s:=u.panU ⟨d,s',D.Le.refl d,i,t⟩
def Zb{an f N rs b}(i:cf P an f=sO ⟨N,rs,b⟩){args s Φ}
  (h:∀F:Fr P,YJ F rs Φ []->Zw F [.code b] (K6 0 args) [] s):Za P f args s Φ :=
 ZiY i λt=>h _ ⟨an,f,⟨N,rs,b⟩,t,i,rfl,rfl⟩
end
end Go.DL
namespace Go.DL
open Go
variable [Zsc]
def Zf(P:Program)(f:FuncId)(args:List D)(d:D):Prop:=∀s,Za P f args s λr s'=>r=.ret d/\s'=s
def Zi{P an f N rs b}(hf:cf P an f=sO ⟨N,rs,b⟩){args d}
  (h:∀(F:Fr P) (s:St),(∀{dk:List WW} {H:Env} {L:Loc} {s':St} {p:Prop} {ds:List D},YC H L s' rs=sO (p,ds)->p->(K7 ds).Le d->s.sub s'->Zw F (.code .ret::dk) H L s') ->
   Zw F [.code b] (K6 0 args) [] s):Zf P f args d :=
 λs=>Zb hf λF hF=>h F s λi t u h4=>hF.ret d s i t u h4 ⟨rfl,rfl⟩
def Zay{P}{F:Fr P}{kp dk o os H L s}(hg:Zk H o.guard=sO true){u xs}(hk:o.k=.call u xs)
  {p q f first caps es ds} (hf:Zy H true u=sO (q,.d (.fn (.func f) first caps))) (ha:Z8 H true xs=sO (p,es)) (t:Ka es=sO ds) (hp:p) (hq:q)
  {d} (hc:Zf P f (first++ds++caps) d) (h:DO F kp dk os (Zv H o.dst (.d d)) L s):DO F kp dk (o::os) H L s :=
 Zg0 hg hk hf ha t hp hq (hc s) (λd' s' ⟨i,h2⟩=>by simp only[Res.ret.injEq]at i;subst i;subst h2;exact h) (λd' s' ⟨i,_⟩=>by simp at i)
end Go.DL
namespace Go.DL
open Go
variable [Zsc]
section
variable {P:Program}
def ZCf{F:Fr P}{kp dk os H H' L s}(h:∀g Z w tmps,Zu g Z w tmps H L s->Zu g Z w tmps H' L s)(u:DO F kp dk os H' L s) :
  DO F kp dk os H L s:=λt is k i hk g Z w tmps hN m=>u t is k i hk g Z w tmps hN (h g Z w tmps m)
def Zu.headWhen{g Z w tmps H L s dst e}(m:Zu g Z w tmps (Zv H dst e) L s):Zu g Z w tmps (Zv H dst (.when true e)) L s:=by
 cases dst with
 |none=>exact m
 |some t =>refine{ m with env:=λu x i=>?_ };simp only[Zv,ZK]at i;by_cases h:t=u;simp only[h,if_true,ZHu]at i;subst i;exact⟨λ_=>m.env u e (by simp[Zv,ZK,h]),λh=>by simp at h⟩;simp only[h,if_false]at i;exact m.env u x (by simp[Zv,ZK,h,i])
def JB{F:Fr P}{kp dk o os H L s}(hg:Zk H o.guard=sO false){e}
  (h:DO F kp dk os (Zv H o.dst (.when false e)) L s):DO F kp dk (o::os) H L s:=by
 refine Y1 λoo g Z w tmps ad i r k ac hck u t hd hN m hr ab=>?_;exact Zbt (P:=P) hN m ac t hd (Z2 m u hg) (h ad r k hr ab)
def Zi2{F:Fr P}{kp dk o os H L s c}(u:Zk H o.guard=sO c){t xs}(hk:o.k=.call t xs)
  {p q f first caps es ds} (hf:Zy H c t=sO (q,.d (.fn (.func f) first caps))) (ha:Z8 H c xs=sO (p,es)) (i:Ka es=sO ds)
  {d} (hc:c=true->p/\q/\Zf P f (first++ds++caps) d) (h:DO F kp dk os (Zv H o.dst (.when c (.d d))) L s):DO F kp dk (o::os) H L s:=by
 cases c;exact JB u h;obtain⟨h1,h2,h3⟩:=hc rfl;exact Zay u hk hf ha i h1 h2 h3 (ZCf (λg Z w tmps m=>m.headWhen) h)
def Zu.sub{g:G}{Z:Nat->Nat}{w:World}{tmps:Array Value}{H:Env}{L:Loc}{s s':St}(m:Zu g Z w tmps H L s)(i:s'.sub s):Zu g Z w tmps H L s':={
 st:=m.st.sub i
 loc:=m.loc
 locKept:=m.locKept
 locSt l cs hl:=by
  cases t:s' (Z l) with
  |none=>rfl
  |some o=>have:=i _ _ t;rw[m.locSt l cs hl]at this;simp at this
 inj:=m.inj
 env:=m.env }
def KF{F:Fr P}{dk H L s s'}(u:s'.sub s)(h:Zw F dk H L s'):Zw F dk H L s :=
 λk t g Z w tmps i m=>h k t g Z w tmps i (m.sub u)
end
end Go.DL
namespace Go.DL
open Go
variable [Zsc]
variable {kp:Option (List Nat)}{L:Loc}{H:Env}{s:St}{w:World}{os:List DOp}{ds:List D}{B:List (Nat × Rd)}{dst:Option Nat}{tmps:Array Value}{g:G}{Φ:Res->St->Prop}{Z:Nat->Nat}{xs:List Opd}{side:Prop}{row:Nat->List D}
variable {P:Program}
def Zgo:BinOp->IntKind->IntKind->Int->Int->Option Int
 |.add,k,k2,a,b=>if k=k2 then sO (k.wrap (a+b)) else nO
 |.shl,k,_,a,b=>if 0<=b then sO (k.wrap (J8 k a b)) else nO
 |_,_,_,_,_=>nO
def Zo8{F:Fr P}{kp dk o os H L s}(hg:o.guard=nO){x y bo pl}(hk:o.k=.q (.bin bo pl) [x,y]){p k k2 a b v}(ha:Z8 H true [x,y]=sO (p,[.d (.int k a),.d (.int k2 b)]))(hp:p)(hv:Zgo bo k k2 a b=sO v)(h:DO F kp dk os (Zv H o.dst (.d (.int k v))) L s):DO F kp dk (o::os) H L s:=by
 refine Zr4 (c:=true) (by rw[hg];rfl) (by rw[hk];rfl) (.inr ⟨rfl,rfl⟩) (λ_ oo g Z w tmps ad m=>?_) h;rw[hk]at ad;obtain⟨ys,i,ai⟩:=ZCs ad;have ab:=Zb0 m rfl F.ds ai ha hp;obtain⟨dst,u,ty,pos,af,gd⟩:=oo;simp only at i;have ah:∃op t x' y' yt,u=Op.binOp op t x' y' yt:=by
  cases u<;>(try(simp[cq]at i;done));case binOp=>exact⟨_,_,_,_,_,rfl⟩
  all_goals
   exfalso;revert i;simp only[cq]
   repeat' split
   all_goals simp
   all_goals (intros;simp_all)
 obtain⟨op,t,x',y',yt,rfl⟩:=ah;simp only[cq]at i;simp only[ZHu,ZHH,Q.bin.injEq]at i;obtain⟨⟨rfl,_⟩,rfl⟩:=i;obtain⟨e1,e2,he,h1,h2⟩:=J1 ab;simp only[List.cons.injEq,and_true]at he;obtain⟨rfl,rfl⟩:=he;obtain⟨v1,i1⟩:=Qb h1;obtain⟨v2,i2⟩:=Qb h2;unfold Zgo at hv;split at hv;split at hv;rename_i ag;subst ag;obtain rfl:=Option.some.inj hv;refine ev ⟨.int k (k.wrap (a+b)),?_,.int _ _ ZhD⟩;rw[v1,v2];have ac:(eqGuard .add t x' y' (.int k a) (.int k b)).run P w=.ok () w:=rfl;simp only[Sem.run_bind,ac,Result.andThen_ok,binOp,ne_eq,not_true_eq_false,if_false];rfl;cases hv;split at hv;rename_i ae;obtain rfl:=Option.some.inj hv;refine ev ⟨.int k (k.wrap (J8 k a b)),?_,.int _ _ ZhD⟩;rw[v1,v2];have ac:(eqGuard .shl t x' y' (.int k a) (.int k2 b)).run P w=.ok () w:=rfl;simp only[Sem.run_bind,ac,Result.andThen_ok,binOp,Op.shift,Int.not_lt.2 ae,if_false];rfl;cases hv;cases hv
def ZbS{F:Fr P}{kp dk o os H L s}(t:o.guard=nO){x y pl}(u:o.k=.q (.bin .add pl) [x,y]){p k a b}(i:Z8 H true [x,y]=sO (p,[.d (.int k a),.d (.int k b)]))(hp:p)(h:DO F kp dk os (Zv H o.dst (.d (.int k (k.wrap (a+b))))) L s):DO F kp dk (o::os) H L s :=
 Zo8 t u i hp (by simp[Zgo]) h
end Go.DL
