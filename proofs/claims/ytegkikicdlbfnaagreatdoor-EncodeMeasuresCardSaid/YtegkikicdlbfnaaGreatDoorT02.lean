/- Lemmas: DlX, DlY, DlZ, DlZA, DlZB, DlZC, DlZD, DlZE, DlZF, DlZGa, DlZG, DlZH, DlZI, DlZJ, DlZK, DlZL, DlZM, DlZN, DlZO, DlZP, DlZQ, DlZS, DlZT, DlTop, DlZU, DlZX, DlZY, DlAc, DlAd, Tab0, DlAg, Api. -/
import Derived.Test.YtegkikicdlbfnaaGreatDoorT01
set_option maxHeartbeats 16000000
set_option maxRecDepth 100000
set_option linter.all false
open List renaming length->I
open Option renaming some -> sO, none -> nO
open Inhabited renaming default -> dE
open Decidable renaming decide -> dC
open And renaming intro -> ZH4
open Array renaming getD_eq_getD_getElem? -> ZIN
open Bool renaming and_eq_true -> ZIb, false_eq_true -> ZIz, or_eq_true -> ZIp, true_and -> ZIt
open Go.DL.D.Le renaming refl -> ZH3
open Go.DL.St renaming upd -> ZID
open List renaming append_assoc -> ZIv, append_nil -> ZIy, getD -> ZIg, getElem?_append_left -> ZIB, getElem?_append_right -> ZIL, getElem?_eq_getElem -> ZIw, getElem?_eq_none -> ZIM, getElem?_take -> ZII, getElem_of_mem -> ZIl, length_append -> ZIc, length_cons -> ZIi, length_drop -> ZIG, length_map -> ZIo, length_take -> ZIm, map_cons -> ZIj, map_nil -> ZIA, mem_cons -> ZIF, range -> ZIf, take_length -> ZIC
open Nat renaming add_mul -> ZIs, le_refl -> ZIh, mul_le_mul_right -> ZIn
open Option renaming getD_some -> ZIH, map_eq_some_iff -> ZIe, map_some -> ZIx
open Option.some renaming injEq -> ZH0
open Prod.mk renaming injEq -> ZId
namespace Go.DL
open Go
variable [ZsL]
variable {kp:Option (List Nat)}{L:Loc}{H:Env}{s:St}{w:World}{os:List DOp}{ds:List D}{B:List (Nat × Rd)}{dst:Option Nat}{tmps:Array Value}{g:G}{Φ:Res->St->Prop}{Z:Nat->Nat}{xs:List Opd}{side:Prop}{row:Nat->List D}
inductive Sch(T:Tab):(Nat->Bool)->List Nat->Prop where
 |nil {l} (h:∀i,i<T.length->l i=true):Sch T l []
 |cons {l i is} (hi:i<T.length) (hl:l i=false) (hd:∀d∈T.deps i,l d=true) (t:Sch T (λj=>j==i ||l j) is):Sch T l (i::is)
def ZA(H H':Env)(ns:List Nat):Prop:=∀t∈ns,ZM H' t=ZM H t
def ZQ{H H' c x}(h:ZA H H' (ZS x)):ZC H' c x=ZC H c x:=by
 cases x with
 |cst d=>rfl
 |tmp t=>simp only[ZC,h t (by simp[ZS])]
def Ka{H H' c}:∀{xs},ZA H H' (Zbe xs)->Ya H' c xs=Ya H c xs
 | [],_=>rfl
 |x::xs,h=>by have u:ZA H H' (ZS x):=λt i=>h t (by simp[Zbe];exact .inl i);have h2:ZA H H' (Zbe xs):=λt i=>h t (by simp only[Zbe,List.flatMap_cons,List.mem_append];exact .inr i);simp only[Ya,ZQ u,Ka h2]
def YX{H H' g}(h:ZA H H' (ZcC g)):Zn H' g=Zn H g:=by
 cases g with
 |none=>rfl
 |some x=>obtain⟨t,w⟩:=x;simp only[Zn,h t (by simp[ZcC])]
def ZmB{H H' c x a b}(h:ZA H H' (ZS x++ZS a++ZS b)):ZdP H' c x a b=ZdP H c x a b:=by
 have u:ZA H H' (ZS x):=λt i=>h t (by simp[i]);have h2:ZA H H' (ZS a):=λt i=>h t (by simp[i]);have h3:ZA H H' (ZS b):=λt i=>h t (by simp[i]);simp only[ZdP,ZQ u];split;rw[ZQ h2,ZQ h3];rfl
def ZrM{L L' s e}(h:∀x o,e=.loc x o->Zg L' x=Zg L x):Wg L' s e=Wg L s e:=by
 cases e with
 |d v=>cases v<;>rfl
 |loc l o=>simp only[Wg,h l o rfl]
 |when c e=>rfl
def ZrY{L L' s n e}(h:∀x o,e=.loc x o->Zg L' x=Zg L x):Kn L' s n e=Kn L s n e:=by
 cases e with
 |d v=>cases v<;>rfl
 |loc l o=>simp only[Kn,h l o rfl]
 |when c e=>rfl
def Zua{L L' s q es}(h:ZcH (.q q [])=true->∀x o,.loc x o∈es->Zg L' x=Zg L x):qv L' s q es=qv L s q es:=by
 by_cases t:ZcH (.q q [])=true
 .replace h:=h t;cases q<;>simp[ZcH]at t
  .match es with
   | [a]=>simp only[qv,ZrM (e:=a) λx o i=>h x o (by rw[i];exact List.mem_singleton_self _)]
   | []=>rfl
   |_::_::_=>rfl
  match es with
  | [a]=>simp only[qv,ZrY (e:=a) λx o i=>h x o (by rw[i];exact List.mem_singleton_self _)]
  | []=>rfl
  |_::_::_=>rfl
 clear h;unfold qv;split<;>first|rfl|(exfalso;exact t rfl)|skip
def YF:K->Bool
 |.q _ _|.pick _ _ _|.bsl _ _ _ _ _|.s2b _=>true
 |_=>false
def Zu7{o H H' L L' s s1 side ρ1 L1}(hst:ZF o H L s=.ok side ρ1 L1 s1)(hs:side)(hgt:Zn H o.guard=sO true)(hk:YF o.k=true)(ha:ZA H H' (ZB o))(hl:ZcH o.k=true->∀q xs p es,o.k=.q q xs->Ya H true xs=sO (p,es)->p->∀x o,.loc x o∈es->Zg L' x=Zg L x):∃e,ρ1=Zx H o.dst e/\L1=L/\s1=s/\ZF o H' L' s=.ok side (Zx H' o.dst e) L' s:=by
 obtain⟨dst,gd,k⟩:=o;have hg:=YX (g:=gd) (λt ht=>ha t (by simp[ZB,ht]));have hn:ZA H H' (Yj k):=λt ht=>ha t (by simp[ZB,ht]);simp only at hgt;unfold ZF at hst⊢;simp only[hg,hgt]at hst⊢;cases k with
 |q q xs =>
  simp only at hst⊢;rw[Ka hn];split at hst<;>(try(simp at hst;done));rename_i p es i;try simp only[i]
  split at hst<;>(try(simp at hst;done));rename_i sd e hq;have hp:p:=by split at hst<;>(simp only[SR.ok.injEq]at hst;obtain⟨rfl,-,-,-⟩:=hst);exact hs.1;exact(hs trivial).1
  have ab:qv L' s q es=qv L s q es:=Zua λhld=>hl (by cases q<;>simp_all[ZcH]) q xs p es rfl i hp;simp only[ab,hq];split at hst<;>(simp only[SR.ok.injEq]at hst;obtain⟨rfl,rfl,rfl,rfl⟩:=hst);exact⟨e,rfl,rfl,rfl,rfl⟩;exact⟨_,rfl,rfl,rfl,rfl⟩
 |pick x a b =>
  simp only at hst⊢;rw[ZmB hn];split at hst<;>(try(simp at hst;done));rename_i p v hp;try simp only[hp]
  split at hst<;>(simp only[SR.ok.injEq]at hst;obtain⟨rfl,rfl,rfl,rfl⟩:=hst);exact⟨_,rfl,rfl,rfl,rfl⟩;exact⟨_,rfl,rfl,rfl,rfl⟩
 |bsl len n z is xs =>
  simp only at hst⊢;rw[Ka hn];split at hst<;>(try(simp at hst;done));rename_i p es i;try simp only[i]
  split at hst<;>(try(simp at hst;done));rename_i ds u;try simp only[u]
  split at hst<;>(simp only[SR.ok.injEq]at hst;obtain⟨rfl,rfl,rfl,rfl⟩:=hst);exact⟨_,rfl,rfl,rfl,rfl⟩;exact⟨_,rfl,rfl,rfl,rfl⟩
 |s2b x =>
  simp only at hst⊢;rw[ZQ hn];split at hst<;>(try(simp at hst;done));rename_i p l hl;try simp only[hl]
  split at hst<;>(simp only[SR.ok.injEq]at hst;obtain⟨rfl,rfl,rfl,rfl⟩:=hst);exact⟨_,rfl,rfl,rfl,rfl⟩;exact⟨_,rfl,rfl,rfl,rfl⟩
 |_=>simp[YF]at hk
def ZmK{o H L s s1 side ρ1 L1}(t:ZF o H L s=.ok side ρ1 L1 s1)(u:Zn H o.guard=sO false)(hk:YF o.k=true):∃e,ρ1=Zx H o.dst (.when false e)/\L1=L/\s1=s:=by
 obtain⟨dst,gd,k⟩:=o;have i:∃x,gd=sO x:=by
  cases gd with
  |none=>simp[Zn]at u
  |some x=>exact⟨x,rfl⟩
 obtain⟨x,rfl⟩:=i;simp only at u;unfold ZF at t;simp only[u]at t;cases k with
 |q q xs =>simp only at t;split at t<;>(try(simp at t;done));split at t<;>(try(simp at t;done));simp only[SR.ok.injEq]at t;obtain⟨rfl,rfl,rfl,rfl⟩:=t;exact⟨_,rfl,rfl,rfl⟩
 |pick x a b =>simp only at t;split at t<;>(try(simp at t;done));simp only[SR.ok.injEq]at t;obtain⟨rfl,rfl,rfl,rfl⟩:=t;exact⟨_,rfl,rfl,rfl⟩
 |bsl len n z is xs =>simp only at t;split at t<;>(try(simp at t;done));split at t<;>(try(simp at t;done));simp only[SR.ok.injEq]at t;obtain⟨rfl,rfl,rfl,rfl⟩:=t;exact⟨_,rfl,rfl,rfl⟩
 |s2b x =>simp only at t;split at t<;>(try(simp at t;done));simp only[SR.ok.injEq]at t;obtain⟨rfl,rfl,rfl,rfl⟩:=t;exact⟨_,rfl,rfl,rfl⟩
 |_=>simp[YF]at hk
def Ziy{s s' L L'}:∀{B},K0 s s' L L' B->(∀n b,(n,.blk b)∈B->s' b=s b)/\(∀n l,(n,.loc l)∈B->Zg L' l=Zg L l)
 | [],_=>⟨λn b h=>by simp at h,λn b h=>by simp at h⟩
 | (m,.blk c)::B,h=>by obtain⟨i,t⟩:=Ziy h.2;refine⟨λn b hb=>?_,λn l hl=>t n l (by simpa using hl)⟩;rcases List.mem_cons.1 hb with hb|hb;simp only[ZId,Rd.blk.injEq]at hb;rw[hb.2];exact h.1;exact i n b hb
 | (m,.loc c)::B,h=>by obtain⟨i,t⟩:=Ziy h.2;refine⟨λn b hb=>i n b (by simpa using hb),λn l hl=>?_⟩;rcases List.mem_cons.1 hl with hl|hl;simp only[ZId,Rd.loc.injEq]at hl;rw[hl.2];exact h.1;exact t n l hl
def ZgX(s L):∀B,K0 s s L L B
 | []=>trivial
 | (_,.blk _)::B=>⟨rfl,ZgX s L B⟩
 | (_,.loc _)::B=>⟨rfl,ZgX s L B⟩
def ZdK{fl s L B}:Wd fl s s L L B:=ZgX s L _
def Zkb:∀(B),YZ [] B=[]
 | []=>rfl
 |_::B=>Zkb B
def J9{s s' L L' B}:Wd [] s s' L L' B:=by
 unfold Wd;rw[Zkb];trivial
def QM{fl x}:∀{B},x∈YZ fl B↔Zaw x.1 fl=true/\x∈B
 | []=>by simp[YZ]
 |y::B=>by simp only[YZ];split;rename_i h;simp only[ZIF,QM (B:=B)];constructor;rintro(rfl|⟨i,h2⟩);exact⟨h,.inl rfl⟩;exact⟨i,.inr h2⟩;rintro⟨i,rfl|h2⟩;exact .inl rfl;exact .inr ⟨i,h2⟩;rename_i h;simp only[ZIF,QM (B:=B)];constructor;rintro⟨i,h2⟩;exact⟨i,.inr h2⟩;rintro⟨i,rfl|h2⟩;exact absurd i h;exact⟨i,h2⟩
def Zxi{o H x}:(Zb2 o,x)∈Ko o H↔x∈Y4 o H:=by simp[Ko]
def Zku{o H H'}(h:ZA H H' (ZB o)):Y4 o H'=Y4 o H:=by
 obtain⟨dst,u,k⟩:=o;have hg:=YX (g:=u) (λt i=>h t (by simp[ZB,i]));cases k with
 |q q xs =>
  have hn:ZA H H' (Zbe xs):=λt i=>h t (by simp[ZB,Yj,i]);simp only[Y4,hg];split
  .cases Zn H u with
   |none=>rfl
   |some c=>simp only[Ka hn]
  rfl
 |_=>rfl
def ZAP{L s s' q es}(h:YT (.q q [])=true->∀e r,es=e::r->∀b,.blk b∈K1 e->s' b=s b):qv L s' q es=qv L s q es:=by
 by_cases u:YT (.q q [])=true
 .replace h:=h u
  match es with
  | [] =>
   cases q;case conv c=>cases c<;>first|rfl|simp[YT]at u
   all_goals simp[YT]at u<;>rfl
  |e::r =>
   replace h:=h e r rfl;have hc:∀b o,e=.d (.ptr b o)->Z1 s' b=Z1 s b:=λb o he=>by subst he;simp only[Z1,h b (by simp[K1])]
   have hm:∀b,e=.d (.map b)->KU s' b=KU s b:=λb he=>by subst he;simp only[KU,h b (by simp[K1])]
   have t:∀b o n cap z,e=.d (.msl b o n cap z)->Z1 s' b=Z1 s b:=λb o n cap z he=>by subst he;simp only[Z1,h b (by simp[K1])]
   have i:q=.conv .b2s->qv L s' q (e::r)=qv L s q (e::r):=λhq=>by
    subst hq;cases r with
    |nil =>
     cases e with
     |d v=>cases v<;>first|rfl|(simp only[qv];rw[t _ _ _ _ _ rfl])
     |_=>rfl
    |cons =>
     cases e with
     |d v=>cases v<;>rfl
     |_=>rfl
   cases q;case conv c=>cases c<;>first|(simp[YT]at u;done)|exact i rfl
   all_goals simp[YT]at u
   .cases r with
    |nil =>
     simp only[qv]
     congr 1
     cases e with
     |d v=>cases v<;>first|rfl|(simp only[Wg];rw[hc _ _ rfl])
     |_=>rfl
    |cons=>rfl
   .cases r with
    |nil =>
     simp only[qv]
     congr 1
     cases e with
     |d v=>cases v<;>first|rfl|(simp only[Kn];rw[hc _ _ rfl])
     |_=>rfl
    |cons=>rfl
   .match r with
    | [] =>
     cases e with
     |d v=>cases v<;>rfl
     |_=>rfl
    | [e2] =>
     cases e with
     |d v =>
      cases e2 with
      |d v2=>cases v<;>first|rfl|(simp only[qv];rw[hm _ rfl])
      |_=>cases v<;>rfl
     |_=>cases e2<;>rfl
    |e2::_::_ =>
     cases e with
     |d v=>cases v<;>(cases e2<;>rfl)
     |_=>cases e2<;>rfl
   cases r with
   |nil =>
    cases e with
    |d v=>cases v<;>first|rfl|(simp only[qv];rw[hm _ rfl])
    |_=>rfl
   |cons =>
    cases e with
    |d v=>cases v<;>rfl
    |_=>rfl
 clear h;cases q;case conv c=>cases c<;>first|(simp[YT]at u;done)|(unfold qv;rfl)|(unfold qv;split<;>first|rfl|(rename_i hx;cases hx))
 all_goals first|(simp[YT]at u;done)|(unfold qv;rfl)|(unfold qv;split<;>first|rfl|(rename_i hx;cases hx))
def Zu8{o H L s s' side ρ1}(hst:ZF o H L s=.ok side ρ1 L s)(hk:YF o.k=true)(hgt:Zn H o.guard=sO true)(h:∀b,.blk b∈Y4 o H->s' b=s b):ZF o H L s'=.ok side ρ1 L s':=by
 obtain⟨dst,gd,k⟩:=o;unfold ZF at hst⊢;obtain⟨c,hg,hc⟩:∃c,Zn H gd=sO c/\c=true:=⟨true,hgt,rfl⟩;simp only[hg]at hst⊢;cases k with
 |q q xs =>
  simp only at hst⊢;split at hst<;>(try(simp at hst;done));rename_i p es i;have u:qv L s' q es=qv L s q es:=ZAP λhl e r he b hb=>h b (by
   subst he;have t:YT (.q q xs)=true:=by
    cases q;case conv c=>cases c<;>simp_all[YT]
    all_goals simp_all[YT]
   subst hc;simp only[Y4,t,if_true,hg,i];exact hb)
  simp only[u];split at hst<;>(try(simp at hst;done));split at hst<;>(simp only[SR.ok.injEq]at hst;obtain⟨rfl,rfl,-,-⟩:=hst;rfl)
 |pick x a b =>simp only at hst⊢;split at hst<;>(try(simp at hst;done));split at hst<;>(simp only[SR.ok.injEq]at hst;obtain⟨rfl,rfl,-,-⟩:=hst;rfl)
 |bsl len n z is xs =>simp only at hst⊢;split at hst<;>(try(simp at hst;done));split at hst<;>(try(simp at hst;done));split at hst<;>(simp only[SR.ok.injEq]at hst;obtain⟨rfl,rfl,-,-⟩:=hst;rfl)
 |s2b x =>simp only at hst⊢;split at hst<;>(try(simp at hst;done));split at hst<;>(simp only[SR.ok.injEq]at hst;obtain⟨rfl,rfl,-,-⟩:=hst;rfl)
 |_=>simp[YF]at hk
def ZaL(o:DOp)(x:Nat):Prop:=o.dst=sO x/\∃z,o.k=.alloc z
def Zcj(o:DOp)(H:Env)(e:E):Prop :=
 (Zn H o.guard=sO false/\∃e0,e=.when false e0) \/
 (∃x y bo pl p k k2 a b v,o.guard=nO/\o.k=.q (.bin bo pl) [x,y]/\Ya H true [x,y]=sO (p,[.d (.int k a),.d (.int k2 b)])/\p/\ZgD bo k k2 a b=sO v/\e=.d (.int k v))
def W9(o:DOp)(H:Env)(L:Loc)(s:St)(B:List (Nat×Rd)):Prop :=
 (YF o.k=true/\Zn H o.guard=sO true/\(∀b∈Y4 o H,(Zb2 o,b)∈B)/\∃side e,side/\ZF o H L s=.ok side (Zx H o.dst e) L s/\∀t,o.dst=sO t->ZM H t=sO e) \/
 (YF o.k=true/\∃e,Zcj o H e/\∀t,o.dst=sO t->ZM H t=sO e) \/
 (∃t z,o=⟨sO t,nO,.alloc z⟩/\ZM H t=sO (.loc t 0)/\Zg L t=sO z)
structure Inv(T:Tab)(ms:List Nat)(A rest:List Nat)(H:Env)(L:Loc)(s:St)(B:List (Nat×Rd))(l:Nat->Bool)(H':Env)(L':Loc):Prop where
 closed:∀i,i<T.length->l i=true->∀d∈T.deps i,l d=true
 restN:∀r∈rest,l r=false
 doneN:∀i,i<T.length->i∉rest->i∉A->l i=true
 alt:∀a∈A,a<T.length
 pair:∀p∈A,∀a∈A,(ms.getD p 0).testBit a=true\/nd (T.op a).dst (ZB (T.op p))=true
 uniq:∀p∈A,∀a∈A,p≠a->ndd (T.op p).dst (T.op a).dst=true
 env:∀t,ZM H' t=ZM H t\/∃a∈A,l a=false/\(T.op a).dst=some t
 loc0:∀a∈A,l a=false->∀x,ZaL (T.op a) x->Zg L' x=none
 loc:∀x,Zg L' x=Zg L x\/∃a∈A,l a=false/\ZaL (T.op a) x
 pend:∀a∈A,l a=false->W9 (T.op a) H L s B
def Zjq(T:Tab)(ms:List Nat):Prop :=
 ∀(l:Nat->Bool),(∀i,i<T.length->l i=true->∀d∈T.deps i,l d=true)->∀i,i<T.length->(∀d∈T.deps i,l d=true)->∀a,(ms.getD i 0).testBit a=true->l a=true
def W9.state{o H L s s' B}(h:W9 o H L s B)(hB:∀b,.blk b∈Y4 o H->s' b=s b):W9 o H L s' B:=by
 rcases h with ⟨u,t,hr,side,e,hs,i,he⟩|h|h;exact .inl ⟨u,t,hr,side,e,hs,Zu8 i u t hB,he⟩;exact .inr (.inl h);exact .inr (.inr h)
def W9.more{o H L s B B'}(h:W9 o H L s B)(t:∀b∈Y4 o H,(Zb2 o,b)∈B->(Zb2 o,b)∈B'):W9 o H L s B':=by
 rcases h with ⟨hk,u,hr,h⟩|h|h;exact .inl ⟨hk,u,λb i=>t b i (hr b i),h⟩;exact .inr (.inl h);exact .inr (.inr h)
def ZuR{o H}(h:Zn H o.guard=sO false):Y4 o H=[]:=by
 obtain⟨dst,gd,k⟩:=o;cases k<;>simp only[Y4];simp only at h;simp[h]
def ZmD{o H}(h:YT o.k=false):Y4 o H=[]:=by
 obtain⟨dst,gd,k⟩:=o;cases k<;>simp only[Y4];rename_i q xs;simp only at h;simp[h]
def Zcj.congr{o H H' e}(h:Zcj o H e)(ha:ZA H H' (ZB o)):Zcj o H' e:=by
 rcases h with ⟨u,i⟩|⟨x,y,bo,pl,p,k,k2,a,b,v,u,i,h3,h4,h5⟩;exact .inl ⟨by rw[YX λt ht=>ha t (by simp[ZB,ht])];exact u,i⟩;have hn:ZA H H' (Zbe [x,y]):=λt ht=>ha t (by simp[ZB,i,Yj,ht]);exact .inr ⟨x,y,bo,pl,p,k,k2,a,b,v,u,i,by rw[Ka hn];exact h3,h4,h5⟩
def Zcj.reads{o H e}(h:Zcj o H e):Y4 o H=[]:=by
 rcases h with ⟨i,_⟩|⟨x,y,bo,pl,p,k,k2,a,b,v,_,t,_⟩;exact ZuR i;exact ZmD (by rw[t];rfl)
section
variable {P:Program}
def ZqN{F:Fr P}{kp dk os H L s}(h:∀g Z w tmps,Zw g Z w tmps H L s->DO F kp dk os H L s):DO F kp dk os H L s :=
 λt is k i hk g Z w tmps u m=>h g Z w tmps m t is k i hk g Z w tmps u m
def Zm0{g Z w tmps H L s}(m:Zw g Z w tmps H L s):∀{xs p es},Ya H true xs=sO (p,es)->p->∀x o,.loc x o∈es->∃cs,Zg L x=sO cs
 | [],p,es,h,_,x,o,hx=>by simp only[Ya,ZH0,ZId]at h;obtain⟨_,rfl⟩:=h;simp at hx
 |y::ys,p,es,h,hp,x,o,hx=>by
  simp only[Ya]at h;split at h<;>simp only[ZH0,ZId,reduceCtorEq]at h;rename_i p1 e1 p2 es' i h2;obtain⟨rfl,rfl⟩:=h;rcases List.mem_cons.1 hx with hx|hx
  .subst hx;cases y with
   |cst d=>simp[ZC]at i
   |tmp t =>simp only[ZC]at i;split at i;rename_i c' e' u;simp only[ZH0,ZId]at i;obtain⟨rfl,rfl⟩:=i;exact((m.env t _ u).1 (by simpa using hp.1)).1;rename_i e' _ u;simp only[ZH0,ZId]at i;obtain⟨rfl,rfl⟩:=i;exact(m.env t _ u).1;simp at i
  exact Zm0 m h2 hp.2 x o hx
def Zcj.run{F:Fr P}{kp dk o os H L s e}(hl:Zcj o H e)(h:DO F kp dk os (Zx H o.dst e) L s):DO F kp dk (o::os) H L s:=by
 rcases hl with ⟨i,e0,rfl⟩|⟨x,y,bo,pl,p,k,k2,a,b,v,i,t,u,h4,h5,rfl⟩;exact Zao i h;exact ZpJ i t u h4 h5 h
def Zvg{F:Fr P}{kp dk o os H H' L L' s side e}(hst:ZF o H L s=.ok side (Zx H o.dst e) L s)(hs:side)(hk:YF o.k=true)(ha:ZA H H' (ZB o))(hl:∀x,Zg L' x=Zg L x\/Zg L' x=nO)(h:DO F kp dk os (Zx H' o.dst e) L' s):DO F kp dk (o::os) H' L' s:=by
 have i:∀e',Zx H o.dst e=Zx H o.dst e'->Zx H' o.dst e=Zx H' o.dst e':=λe' h=>by
  cases hd:o.dst with
  |none=>rfl
  |some t=>simp only[hd,Zx,List.cons.injEq,ZId,true_and,and_true]at h;rw[h]
 have hg:=YX (g:=o.guard) (λt ht=>ha t (by simp[ZB,ht]));cases hc:Zn H o.guard with
 |none=>unfold ZF at hst;simp[hc]at hst
 |some c =>
  cases c;obtain⟨e',h1,-,-⟩:=ZmK hst hc hk;rw[i _ h1]at h;exact Zao (by rw[hg,hc]) h;refine ZqN λg Z w tmps m=>?_;obtain⟨e',h1,-,-,h2⟩:=Zu7 (H':=H') (L':=L') hst hs hc hk ha (λhld q xs p es ac ab hp x of hx=>by
   have hn:ZA H H' (Zbe xs):=λt ht=>ha t (by simp[ZB,ac,Yj,ht]);obtain⟨cs,u⟩:=Zm0 m (by rw[Ka hn];exact ab) hp x of hx;rcases hl x with h|h;exact h;rw[h]at u;simp at u)
  rw[i _ h1]at h;exact QO h2 hs h
end
def ZbS{a b}(h:ndd a b=true):ndd b a=true:=by
 cases a<;>cases b<;>simp only[ndd,bne_iff_ne,ne_eq]at h⊢;exact λi=>h i.symm
def Zby{a b}(h:ndd a b=true){t}(ha:a=sO t):b≠sO t:=by
 subst ha;cases b with
 |none=>simp
 |some u=>simp only[ndd,bne_iff_ne]at h;intro i;simp only[ZH0]at i;exact h i.symm
def Zka{d l}(h:nd d l=true){t}(i:d=sO t):t∉l:=by
 subst i;simpa[nd]using h
def KY{H dst e i}(h:nd dst i=true):ZA H (Zx H dst e) i:=by
 intro t ht;cases dst with
 |none=>rfl
 |some u =>have:¬u=t:=λhu=>Zka h rfl (hu▸ht);simp[Zx,ZM,this]
def WJ(H dst e t):ZM (Zx H dst e) t=if dst=sO t then sO e else ZM H t:=by
 cases dst with
 |none=>simp[Zx]
 |some u=>simp[Zx,ZM]
def ZCe{L s q es r}(i:qv L s q es=sO r)(u:ZcH (.q q [])=true){x o}(t:.loc x o∈es):∃cs,Zg L x=sO cs:=by
 cases q<;>simp[ZcH]at u
 .match es with
  | [a] =>
   simp only[List.mem_singleton]at t;subst t;simp only[qv,Wg]at i;cases h:Zg L x with
   |none=>simp[h]at i
   |some cs=>exact⟨cs,rfl⟩
  | []=>simp at t
  |_::_::_=>simp[qv]at i
 match es with
 | [a] =>
  simp only[List.mem_singleton]at t;subst t;simp only[qv,Kn]at i;cases h:Zg L x with
  |none=>simp[h]at i
  |some cs=>exact⟨cs,rfl⟩
 | []=>simp at t
 |_::_::_=>simp[qv]at i
def ZiW{o H H' L L' s s1 side ρ1 L1}(hst:ZF o H L s=.ok side ρ1 L1 s1)(hk:YF o.k=true)(ha:ZA H H' (ZB o))(hl:L'=L\/Zn H o.guard=sO true/\∀x,.loc x∈Y4 o H->Zg L' x=Zg L x):∃e,ρ1=Zx H o.dst e/\L1=L/\s1=s/\ZF o H' L' s=.ok side (Zx H' o.dst e) L' s:=by
 obtain⟨dst,gd,k⟩:=o;have hg:=YX (g:=gd) (λt ht=>ha t (by simp[ZB,ht]));have hn:ZA H H' (Yj k):=λt ht=>ha t (by simp[ZB,ht]);unfold ZF at hst⊢;simp only[hg]at hst⊢;cases hc:Zn H gd with
 |none=>simp[hc]at hst
 |some c =>
 simp only[hc]at hst⊢;cases k with
 |q q xs =>
  simp only at hst⊢;rw[Ka hn];split at hst<;>(try(simp at hst;done));rename_i p es i;try simp only[i]
  split at hst<;>(try(simp at hst;done));rename_i sd e hq;have af:qv L' s q es=qv L s q es:=Zua λae x of hx=>by
   rcases hl with rfl|⟨ad,hl⟩;rfl;obtain rfl:c=true:=by simpa[hc]using ad
   refine hl x ?_;have ag:YT (.q q xs)=true:=by cases q<;>simp_all[ZcH,YT]
   have u:es=[.loc x of]:=by
    have ab:∃r,qv L s q es=sO r:=⟨_,hq⟩;cases q<;>simp[ZcH]at ae
    .match es with
     | [a]=>simp only[List.mem_singleton]at hx;rw[hx]
     | []=>simp at hx
     |_::_::_=>simp[qv]at ab
    match es with
    | [a]=>simp only[List.mem_singleton]at hx;rw[hx]
    | []=>simp at hx
    |_::_::_=>simp[qv]at ab
   subst u;simp only[Y4,ag,if_true,hc,i,K1,List.mem_singleton]
  simp only[af,hq];split at hst<;>(simp only[SR.ok.injEq]at hst;obtain⟨rfl,rfl,rfl,rfl⟩:=hst);exact⟨e,rfl,rfl,rfl,rfl⟩;exact⟨_,rfl,rfl,rfl,rfl⟩
 |pick x a b =>
  simp only at hst⊢;rw[ZmB hn];split at hst<;>(try(simp at hst;done));rename_i p v hp;try simp only[hp]
  split at hst<;>(simp only[SR.ok.injEq]at hst;obtain⟨rfl,rfl,rfl,rfl⟩:=hst);exact⟨_,rfl,rfl,rfl,rfl⟩;exact⟨_,rfl,rfl,rfl,rfl⟩
 |bsl len n z is xs =>
  simp only at hst⊢;rw[Ka hn];split at hst<;>(try(simp at hst;done));rename_i p es i;try simp only[i]
  split at hst<;>(try(simp at hst;done));rename_i ds ac;try simp only[ac]
  split at hst<;>(simp only[SR.ok.injEq]at hst;obtain⟨rfl,rfl,rfl,rfl⟩:=hst);exact⟨_,rfl,rfl,rfl,rfl⟩;exact⟨_,rfl,rfl,rfl,rfl⟩
 |s2b x =>
  simp only at hst⊢;rw[ZQ hn];split at hst<;>(try(simp at hst;done));rename_i p l hl;try simp only[hl]
  split at hst<;>(simp only[SR.ok.injEq]at hst;obtain⟨rfl,rfl,rfl,rfl⟩:=hst);exact⟨_,rfl,rfl,rfl,rfl⟩;exact⟨_,rfl,rfl,rfl,rfl⟩
 |_=>simp[YF]at hk
def W9.mono{o H ρ1 L L1 s B}(h:W9 o H L s B)(ha:ZA H ρ1 (ZB o))(hd:∀t,o.dst=sO t->ZM ρ1 t=ZM H t)(hl:∀x,.loc x∈Y4 o H->Zg L1 x=Zg L x)(hal:∀t,ZaL o t->Zg L1 t=Zg L t):W9 o ρ1 L1 s B:=by
 rcases h with ⟨hk,i,u,side,e,hs,ab,he⟩|⟨hk,e,hz,he⟩|⟨t,z,rfl,h1,h2⟩;left;obtain⟨e',h1,-,-,h2⟩:=ZiW ab hk ha (.inr ⟨i,hl⟩);refine⟨hk,by rw[YX λt ht=>ha t (by simp[ZB,ht])];exact i,by rw[Zku ha];exact u,side,e',hs,h2,λt ht=>?_⟩;rw[hd t ht,he t ht];rw[ht]at h1;simp only[Zx,List.cons.injEq,ZId,true_and,and_true]at h1;rw[h1];exact .inr (.inl ⟨hk,e,hz.congr ha,λt ht=>by rw[hd t ht,he t ht]⟩);right;right;exact⟨t,z,rfl,by rw[hd t rfl];exact h1,by rw[hal t ⟨rfl,z,rfl⟩];exact h2⟩
def Zcq{o x}(h:ZaL o x):YF o.k=false:=by
 obtain⟨_,z,i⟩:=h;rw[i];rfl
section
variable {P:Program}
def Zq0{F:Fr P}{kp dk T ms A rest H L l H' L' s B p os}(hm:Zjq T ms)(inv:Inv T ms A rest H L s B l H' L')(hA:p∈A)(hdis:p∉rest)(hl:l p=false)(hdeps:∀d∈T.deps p,l d=true)(h:∀ρ2 L2,Inv T ms A rest H L s B (λj=>j==p ||l j) ρ2 L2->DO F kp dk os ρ2 L2 s):DO F kp dk (T.op p::os) H' L' s:=by
 have aq:=inv.alt p hA;have aj:=hm l inv.closed p aq hdeps;have am:ZA H H' (ZB (T.op p)):=by intro t ht;rcases inv.env t with h|⟨a,ha,ab,ae⟩;exact h;exfalso;rcases inv.pair p hA a ha with hb|hb;rw[aj a hb]at ab;simp at ab;exact Zka hb ae ht
 have ao:∀x,Zg L' x=Zg L x\/Zg L' x=nO:=λx=>by rcases inv.loc x with h|⟨a,ha,ab,hx⟩;exact .inl h;exact .inr (inv.loc0 a ha ab x hx)
 have ad:∀i,i<T.length->(i==p ||l i)=true->∀d∈T.deps i,(d==p ||l d)=true:=λi hi hli d hd=>by simp only[ZIp,beq_iff_eq]at hli⊢;rcases hli with rfl|hli;exact .inr (hdeps d hd);exact .inr (inv.closed i hi hli d hd)
 have ag:∀r∈rest,(r==p ||l r)=false:=λr hr=>by simp only[Bool.or_eq_false_iff,beq_eq_false_iff_ne];exact⟨λh=>hdis (h▸hr),inv.restN r hr⟩
 have ah:∀i,i<T.length->i∉rest->i∉A->(i==p ||l i)=true:=λi hi h1 h2=>by simp[inv.doneN i hi h1 h2]
 have ai:∀a,(a==p ||l a)=false->a≠p/\l a=false:=λa ha=>by simpa using ha
 have af:∀a,a≠p->l a=false->(a==p ||l a)=false:=λa ha h=>by simp[ha,h]
 rcases inv.pend p hA hl with ⟨hk,hgt,hrd,side,e,hs,ar,he⟩|⟨hk,e,hz,he⟩|⟨t,z,ho,h1,h2⟩
 rotate_left
 refine(hz.congr am).run ?_;refine h _ _ ?_;refine⟨ad,ag,ah,inv.alt,inv.pair,inv.uniq,λt=>?_,λa ha ab x hx=>inv.loc0 a ha (ai a ab).2 x hx,λx=>?_,λa ha ab=>inv.pend a ha (ai a ab).2⟩;rw[WJ];by_cases hd:(T.op p).dst=sO t;rw[if_pos hd];exact .inl (he t hd).symm;rw[if_neg hd];rcases inv.env t with h|⟨a,ha,ab,ae⟩;exact .inl h;exact .inr ⟨a,ha,af a (λac=>hd (ac▸ae)) ab,ae⟩;rcases inv.loc x with h|⟨a,ha,ab,hx⟩;exact .inl h;refine .inr ⟨a,ha,af a (λac=>?_) ab,hx⟩;have:=Zcq hx;rw[ac,hk]at this;simp at this
 rotate_left
 refine Zvg ar hs hk am ao (h _ _ ?_);refine⟨ad,ag,ah,inv.alt,inv.pair,inv.uniq,λt=>?_,λa ha ab x hx=>inv.loc0 a ha (ai a ab).2 x hx,λx=>?_,λa ha ab=>inv.pend a ha (ai a ab).2⟩;rw[WJ];by_cases hd:(T.op p).dst=sO t;rw[if_pos hd];exact .inl (he t hd).symm;rw[if_neg hd];rcases inv.env t with h|⟨a,ha,ab,ae⟩;exact .inl h;exact .inr ⟨a,ha,af a (λac=>hd (ac▸ae)) ab,ae⟩;rcases inv.loc x with h|⟨a,ha,ab,hx⟩;exact .inl h;refine .inr ⟨a,ha,af a (λac=>?_) ab,hx⟩;have:=Zcq hx;rw[ac,hk]at this;simp at this;have ap:ZaL (T.op p) t:=⟨by rw[ho],z,by rw[ho]⟩;have al:=inv.loc0 p hA hl t ap;refine Zsx (o:=T.op p) (t:=t) (by rw[ho]) (by rw[ho]) (z:=z) (by rw[ho]) (by simp[Zav,al]) (h _ _ ?_);have ak:(T.op p).dst=sO t:=by rw[ho]
 refine⟨ad,ag,ah,inv.alt,inv.pair,inv.uniq,λu=>?_,λa ha ab x hx=>?_,λx=>?_,λa ha ab=>inv.pend a ha (ai a ab).2⟩;simp only[ZM];by_cases hd:t=u;subst hd;simp[h1];simp only[hd,if_false];rcases inv.env u with h|⟨a,ha,ab,ae⟩;exact .inl h;exact .inr ⟨a,ha,af a (λac=>hd (by rw[ac,ak]at ae;simpa using ae)) ab,ae⟩;obtain⟨ac,ab⟩:=ai a ab;have:¬t=x:=λau=>Zby (inv.uniq p hA a ha ac.symm) ak (au▸hx.1);simp only[Zg,this,if_false];exact inv.loc0 a ha ab x hx;simp only[Zg];by_cases hd:t=x;subst hd;simp[h2];simp only[hd,if_false];rcases inv.loc x with h|⟨a,ha,ab,hx⟩;exact .inl h;exact .inr ⟨a,ha,af a (λac=>hd (by have:=hx.1;rw[ac,ak]at this;simpa using this)) ab,hx⟩
def Zxh{F:Fr P}{kp dk T ms A rest H L s B i}(hm:Zjq T ms)(hi:i<T.length)(hdis:∀p∈A,p∉i::rest)(hready:∀r∈rest,∃d∈T.deps r,d∈i::rest)(cb:∀l H' L' is,Inv T ms A (i::rest) H L s B l H' L'->(∀d∈T.deps i,l d=true)->Sch T (λj=>j==i ||l j) is->DO F kp dk (T.op i::is.map T.op) H' L' s){l is}(sch:Sch T l is):∀{H' L'},Inv T ms A (i::rest) H L s B l H' L'->DO F kp dk (is.map T.op) H' L' s:=by
 induction sch with
 |nil h=>intro H' L' inv;have:=inv.restN i ψ;rw[h i hi]at this;simp at this
 | @cons l p is hp hlp hd t ih =>intro H' L' inv;by_cases ab:p=i;subst ab;exact cb l H' L' is inv hd t;by_cases ac:p∈rest;obtain⟨d,ad,ae⟩:=hready p ac;have:=inv.restN d ae;rw[hd d ad]at this;simp at this;by_cases u:p∈A;exact Zq0 hm inv u (hdis p u) hlp hd λρ2 L2 inv2=>ih inv2;have:=inv.doneN p hp (by simp[ab,ac]) u;rw[hlp]at this;simp at this
def ZmM{L L'}(h:∀x,Zg L' x=Zg L x):∀ls,ZaG L' ls=ZaG L ls
 | []=>rfl
 |l::ls=>by simp only[ZaG,h l,ZmM h ls]
def Zms{H H'}(h:∀x,ZM H' x=ZM H x):∀ks,Yn H' ks=Yn H ks
 | []=>rfl
 |k::ks=>by simp only[Yn,h k,Zms h ks]
def Zy6{F:Fr P}{ks dk T ms A H L s B}(hm:Zjq T ms)(h:Zv F dk (Yn H ks) (Za9 (Yn H ks) L) s){l is}(sch:Sch T l is):∀{H' L'},Inv T ms A [] H L s B l H' L'->DO F (sO ks) dk (is.map T.op) H' L' s:=by
 induction sch with
 |nil hall =>
  intro H' L' inv;have h1:∀t,ZM H' t=ZM H t:=λt=>by rcases inv.env t with h|⟨a,ha,i,_⟩;exact h;rw[hall a (inv.alt a ha)]at i;simp at i
  have h2:∀t,Zg L' t=Zg L t:=λt=>by rcases inv.loc t with h|⟨a,ha,i,_⟩;exact h;rw[hall a (inv.alt a ha)]at i;simp at i
  refine ZeY ?_;show Zv F dk (Yn H' ks) (Za9 (Yn H' ks) L') s;rw[Zms h1];simp only[Za9,ZmM h2];exact h
 | @cons l p is hp hlp hd t ih =>intro H' L' inv;by_cases u:p∈A;exact Zq0 hm inv u ψ hlp hd λρ2 L2 inv2=>ih inv2;have:=inv.doneN p hp ψ u;rw[hlp]at this;simp at this
def DOA(F:Fr P)(kp:Option (List Nat))(dk:List W2)(os:List (DOp×List Nat))(H:Env)(L:Loc)(s:St)(B:List (Nat×Rd)):Prop :=
 ∀(T:Tab) ms fl (fk:Option Nat) A rest is l H' L',Zjq T ms->ZdV T ms fl fk A rest=true->(∀p∈A,p∉rest)->os=rest.map (λi=>(T.mk fk i,fl i))->Inv T ms A rest H L s B l H' L'->Sch T l is->DO F kp dk (is.map T.op) H' L' s
def ZpI{F:Fr P}{ks dk H L s B}(h:Zv F dk (Yn H ks) (Za9 (Yn H ks) L) s):DOA F (sO ks) dk [] H L s B:=by
 intro T ms fl fk A rest is l H' L' hm hc hdis i inv t;have u:rest=[]:=by cases rest<;>simp at i⊢
 subst u;exact Zy6 hm h t inv
def ZmL{o H L s s1 side ρ1 L1}(i:ZF o H L s=.ok side ρ1 L1 s1)(hk:YF o.k=true):∃e,ρ1=Zx H o.dst e/\L1=L/\s1=s:=by
 obtain⟨e,t,u,h3,_⟩:=ZiW (H':=H) (L':=L) i hk (λ_ _=>rfl) (.inl rfl);exact⟨e,t,u,h3⟩
def Zu6{o H L s s1 side ρ1 L1 z}(i:ZF o H L s=.ok side ρ1 L1 s1)(hk:o.k=.alloc z):∃t,o=⟨sO t,nO,.alloc z⟩/\side=(Zav L t=false)/\ρ1=(t,.loc t 0)::H/\L1=(t,z)::L/\s1=s:=by
 obtain⟨dst,gd,k⟩:=o;simp only at hk;subst hk;unfold ZF at i;cases u:Zn H gd with
 |none=>simp[u]at i
 |some c =>simp only[u]at i;split at i<;>simp only[SR.ok.injEq,reduceCtorEq]at i;rename_i t;obtain⟨rfl,rfl,rfl,rfl⟩:=i;exact⟨t,rfl,rfl,rfl,rfl,rfl⟩
def Zqe{T:Tab}{t i o}(h:T.mk t i=o)(u:∀k,o.k≠.fork k):t≠sO i/\T.op i=o:=by
 unfold Tab.mk at h;split at h;subst h;exact absurd rfl (u _);exact⟨‹_›,h⟩
def Zm4{T t fl A rest fk i}(hfk:fk≠sO i)(h:ZdV T t fl fk A (i::rest)=true):
  i<T.length/\(∀d∈T.deps i,d∉i::rest)/\i∉rest/\(∀a∈A,(t.getD i 0).testBit a=true\/nd (T.op a).dst (ZB (T.op i))=true) /\
  ((Zdc T A i=true/\ZdV T t fl fk (i::A) rest=true) \/
   (ZjF T (fl i) (A.filter λa=>!(t.getD i 0).testBit a) rest i=true/\ZdV T t fl fk (A.filter λa=>!(t.getD i 0).testBit a) rest=true/\Zdc T A i=false)):=by
 simp only[ZdV,hfk,if_false,ZIb,decide_eq_true_eq,List.all_eq_true,Bool.not_eq_true',List.contains_eq_mem,decide_eq_false_iff_not]at h;obtain⟨⟨⟨⟨h1,h2⟩,h3⟩,h4⟩,u⟩:=h;refine⟨h1,h2,h3,λa ha=>?_,?_⟩;cases hb:(t.getD i 0).testBit a;exact .inr (h4 a (List.mem_filter.2 ⟨ha,by simp only[hb];rfl⟩));exact .inl rfl;split at u;rename_i hp;exact .inl ⟨hp,u⟩;rename_i hp;simp only[ZIb]at u;exact .inr ⟨by simpa using u.1,u.2,by simpa using hp⟩
def ZgK{T fl free rest i}(h:ZjF T fl free rest i=true):
  Zwv (T.op i).k=true/\(∀r∈rest,∃d∈T.deps r,d∈i::rest) /\
  ∀a∈free,nd (T.op i).dst (ZB (T.op a))=true/\ndd (T.op i).dst (T.op a).dst=true/\(Zaw (Zb2 (T.op a)) fl=false->YT (T.op a).k=false):=by
 simp only[ZjF,ZIb,List.all_eq_true,List.any_eq_true,List.contains_eq_mem,decide_eq_true_eq,Bool.not_eq_true',ZIp]at h;obtain⟨⟨u,h2⟩,h3⟩:=h;refine⟨u,h2,λa ha=>?_⟩;obtain⟨⟨h4,h5⟩,t⟩:=h3 a ha;refine⟨h4,h5,λhs=>?_⟩;rw[hs]at t;simpa using t
def Zfa{T A i}(h:Zdc T A i=true):
  Y1 (T.op i).k=true/\nd (T.op i).dst (ZB (T.op i))=true/\∀a∈A,nd (T.op i).dst (ZB (T.op a))=true/\ndd (T.op i).dst (T.op a).dst=true:=by
 simp only[Zdc,ZIb,List.all_eq_true]at h;exact⟨by cases t:(T.op i).k<;>rw[t]at h<;>simp[pqK]at h<;>rfl,h.1.2,h.2⟩
def Inv.bar{T ms A rest H L s s2 B B2 l H' L' i}(hm:Zjq T ms)(inv:Inv T ms A (i::rest) H L s B l H' L')(hdis:∀p∈A,p∉i::rest)(hi:i<T.length)(hir:i∉rest)(hd:∀d∈T.deps i,l d=true)(hf:∀a∈A.filter (λa=>!(ms.getD i 0).testBit a),nd (T.op i).dst (ZB (T.op a))=true/\ndd (T.op i).dst (T.op a).dst=true)(e){L2 L2'}(hL:∀x,Zg L' x=Zg L x->Zg L2' x=Zg L2 x)(h0:∀x,(∀a,ndd (T.op i).dst (T.op a).dst=true->ZaL (T.op a) x->Zg L' x=nO->Zg L2' x=nO))(hp:∀a∈A.filter (λa=>!(ms.getD i 0).testBit a),l a=false->W9 (T.op a) H L s B->W9 (T.op a) (Zx H (T.op i).dst e) L2 s2 B2):
  Inv T ms (A.filter λa=>!(ms.getD i 0).testBit a) rest (Zx H (T.op i).dst e) L2 s2 B2 (λj=>j==i ||l j) (Zx H' (T.op i).dst e) L2':=by
 have ad:=hm l inv.closed i hi hd;have ac:∀a∈A,l a=false->a∈A.filter λa=>!(ms.getD i 0).testBit a:=λa ha u=>by refine List.mem_filter.2 ⟨ha,?_⟩;cases hb:(ms.getD i 0).testBit a;rfl;rw[ad a hb]at u;simp at u
 have ab:∀a∈A.filter (λa=>!(ms.getD i 0).testBit a),a∈A:=λa ha=>(List.mem_filter.1 ha).1;have af:∀a,(a==i ||l a)=false->a≠i/\l a=false:=λa ha=>by simpa using ha
 have ae:∀a∈A,l a=false->(a==i ||l a)=false:=λa ha h=>by have:a≠i:=λak=>hdis a ha (by simp[ak]);simp[this,h]
 refine⟨λj hj hlj d ah=>?_,λr hr=>?_,λj hj h1 h2=>?_,λa ha=>inv.alt a (ab a ha),λp ag a ha=>inv.pair p (ab p ag) a (ab a ha),λp ag a ha=>inv.uniq p (ab p ag) a (ab a ha),λt=>?_,λa ha u x hx=>?_,
  λx=>?_,λa ha u=>hp a ha (af a u).2 (inv.pend a (ab a ha) (af a u).2)⟩
 simp only[ZIp,beq_iff_eq]at hlj⊢;rcases hlj with rfl|hlj;exact .inr (hd d ah);exact .inr (inv.closed j hj hlj d ah);simp only[Bool.or_eq_false_iff,beq_eq_false_iff_ne];exact⟨λh=>hir (h▸hr),inv.restN r (by simp[hr])⟩;by_cases aj:j=i;simp[aj];by_cases ai:j∈A;cases hlj:l j;exact absurd (ac j ai hlj) h2;simp;simp[inv.doneN j hj (by simp[aj,h1]) ai];rw[WJ,WJ];by_cases ht:(T.op i).dst=sO t;simp[ht];simp only[ht,if_false];rcases inv.env t with h|⟨a,ha,u,al⟩;exact .inl h;exact .inr ⟨a,ac a ha u,ae a ha u,al⟩;exact h0 x a (hf a ha).2 hx (inv.loc0 a (ab a ha) (af a u).2 x hx);rcases inv.loc x with h|⟨a,ha,u,hx⟩;exact .inl (hL x h);exact .inr ⟨a,ac a ha u,ae a ha u,hx⟩
def W9.keep{o H L L2 s s2 B fl}(h:W9 o H L s B)(hk:Wd fl s s2 L L2 B)(hf:Zaw (Zb2 o) fl=false->YT o.k=false)(hal:∀t,ZaL o t->Zg L2 t=Zg L t):W9 o H L2 s2 (YZ fl B):=by
 cases u:Zaw (Zb2 o) fl;have hr:=ZmD (H:=H) (hf u);exact((h.state (s':=s2) (λb hb=>by rw[hr]at hb;simp at hb)).more (λb hb=>by rw[hr]at hb;simp at hb)).mono (λ_ _=>rfl) (λ_ _=>rfl) (λx hx=>by rw[hr]at hx;simp at hx) hal;have hm:=Ziy (show K0 s s2 L L2 (YZ fl B) from hk);have i:∀b,(Zb2 o,b)∈B->(Zb2 o,b)∈YZ fl B:=λb hb=>QM.2 ⟨u,hb⟩;rcases h with ⟨hq,hg,hr,h'⟩|⟨hq,hg,h'⟩|h';exact((W9.state (s':=s2) (.inl ⟨hq,hg,hr,h'⟩) (λb hb=>hm.1 _ b (i _ (hr _ hb)))).more (B':=YZ fl B) (λb _ hb=>i b hb)).mono (λ_ _=>rfl) (λ_ _=>rfl) (λx hx=>hm.2 _ x (i _ (hr _ hx))) hal;exact .inr (.inl ⟨hq,hg,h'⟩);exact(W9.more (B':=YZ fl B) (s:=s2) (.inr (.inr h'):W9 o H L s2 B) (λb _ hb=>i b hb)).mono (λ_ _=>rfl) (λ_ _=>rfl) (λx hx=>by
  obtain⟨t,z,rfl,_⟩:=h';simp[Y4]at hx) hal
def ZDl{L s q es r}(t:qv L s q es=sO r){e i}(he:es=e::i)(hr:YT (.q q [])=true){x}(u:.loc x∈K1 e):∃cs,Zg L x=sO cs:=by
 subst he;cases e with
 |d v=>cases v<;>simp[K1]at u
 |when c e=>simp[K1]at u
 |loc l o =>
  simp only[K1,List.mem_singleton,Rd.loc.injEq]at u;subst u;by_cases hl:ZcH (.q q [])=true;exact ZCe t hl (x:=x) (o:=o) ψ;cases q;case conv c =>cases c<;>simp[YT]at hr;cases i<;>simp[qv]at t
  all_goals simp[YT,ZcH]at hr hl
  .cases i with
   |nil=>simp[qv]at t
   |cons e2 r2=>cases r2<;>simp[qv]at t
  cases i<;>simp[qv]at t
def W9.loc{o H L s B}(h:W9 o H L s B){x}(hx:.loc x∈Y4 o H):∃cs,Zg L x=sO cs:=by
 rcases h with ⟨hk,ab,hr,side,e,hs,i,he⟩|⟨hk,_,u,_⟩|⟨t,z,rfl,_⟩
 rotate_left
 rw[u.reads]at hx;simp at hx
 rotate_left
 .obtain⟨dst,gd,k⟩:=o;cases k with
  |q q xs =>
   simp only[Y4]at hx;split at hx<;>(try(simp at hx;done));rename_i hrd;unfold ZF at i;have hg:Zn H gd=sO true:=ab;simp only[hg]at hx i;cases ha:Ya H true xs with
   |none=>simp[ha]at hx
   |some pe =>
    obtain⟨p,es⟩:=pe;simp only[ha]at hx i;cases es with
    |nil=>simp at hx
    |cons e1 es' =>
     simp only at hx;split at i<;>(try(simp at i;done));rename_i sd e2 hq;exact ZDl hq rfl (by
      cases q;case conv c=>cases c<;>simp_all[YT]
      all_goals simp_all[YT]) hx
  |_=>simp[Y4]at hx
 simp[Y4]at hx
def Zb5{F:Fr P}{kp dk o f os H L s B}(R:E->St->Prop)(hk:Y1 o.k=false)(h1:∀H' L' os',ZA H H' (ZB o)->(∀e s2,R e s2->DO F kp dk os' (Zx H' o.dst e) L' s2)->DO F kp dk (o::os') H' L' s)(h2:∀e s2,R e s2->Wd f s s2 L L B/\DOA F kp dk os (Zx H o.dst e) L s2 (YZ f B)):
  DOA F kp dk ((o,f)::os) H L s B:=by
 intro T ms fl fk A rest is l H' L' hm hc ab af inv ag;cases rest with
 |nil=>simp at af
 |cons i rest =>
  simp only[ZIj,List.cons.injEq,ZId]at af;obtain⟨⟨ho,rfl⟩,rfl⟩:=af;obtain⟨am,rfl⟩:=Zqe ho.symm (λk h=>by rw[h]at hk;simp[Y1]at hk);obtain⟨hi,hdeps,ao,aq,ak⟩:=Zm4 am hc;rcases ak with ⟨hp,_⟩|⟨hb,aj,_⟩;have:=(Zfa hp).1;rw[hk]at this;simp at this;obtain⟨hbk,ad,u⟩:=ZgK hb;refine Zxh hm hi ab ad (λl H' L' is inv hd ag=>?_) ag inv;have ac:=hm l inv.closed i hi hd;have ai:ZA H H' (ZB (T.op i)):=by intro t ht;rcases inv.env t with h|⟨a,ha,ae,al⟩;exact h;exfalso;rcases aq a ha with hb|hb;rw[ac a hb]at ae;simp at ae;exact Zka hb al ht
  refine h1 H' L' _ ai λe s2 hR=>?_;obtain⟨ap,ah⟩:=h2 e s2 hR;refine ah T ms fl fk _ rest is _ _ _ hm aj (λp hp au=>ab p (List.mem_filter.1 hp).1 (by simp[au])) rfl (inv.bar hm ab hi ao hd (λa ha=>⟨(u a ha).1,(u a ha).2.1⟩) e (λ_ h=>h) (λ_ _ _ _ h=>h) λa ha ae ar=>?_) ag;refine(ar.keep ap (u a ha).2.2 (λ_ _=>rfl)).mono (KY (u a ha).1) (λt ht=>?_) (λ_ _=>rfl) (λ_ _=>rfl);rw[WJ];have:=Zby (ZbS (u a ha).2.1) ht;simp[this]
end
def Zk1{H L s s1 p q ok side a n xs ρ1 L1}(h:K5 H L s p q ok a n xs=.ok side ρ1 L1 s1):
  ρ1=H/\((∃l off i,a=.loc l off/\L1=(l,Zt i off xs)::L/\s1=s/\Zg L l=sO i/\∀H' L',Zg L' l=Zg L l->K5 H' L' s p q ok a n xs=.ok side H' ((l,Zt i off xs)::L') s) \/
   (L1=L/\∀H' L',K5 H' L' s p q ok a n xs=.ok side H' L' s1)):=by
 obtain⟨rfl,⟨l,off,i,rfl,t,rfl,rfl,rfl⟩|⟨b,off,i,rfl,t,rfl,rfl,rfl⟩⟩:=Zgv h;exact⟨rfl,.inl ⟨l,off,i,rfl,rfl,rfl,t,λH' L' u=>by simp only[K5,u,t]⟩⟩;exact⟨rfl,.inr ⟨rfl,λH' L'=>by simp only[K5,t]⟩⟩
def Zu9{o H L s s1 side ρ1 L1}(hst:ZF o H L s=.ok side ρ1 L1 s1)(hk:Zed o.k=true):
  ρ1=H/\o.dst=nO/\((∃lx cs new,L1=(lx,new)::L/\s1=s/\Zg L lx=sO cs /\
   ∀H' L',ZA H H' (ZB o)->Zg L' lx=Zg L lx->ZF o H' L' s=.ok side H' ((lx,new)::L') s) \/
   (L1=L/\∀H' L',ZA H H' (ZB o)->ZF o H' L' s=.ok side H' L' s1)):=by
 obtain⟨dst,gd,k⟩:=o;cases hg:Zn H gd with
 |none=>unfold ZF at hst;simp[hg]at hst
 |some c =>
 cases k with
 |store1 a v =>unfold ZF at hst;simp only[hg]at hst;split at hst<;>(try(simp at hst;done));rename_i p ea q x ha hv;obtain⟨rfl,⟨l,off,cs,rfl,rfl,rfl,hL,i⟩|⟨rfl,i⟩⟩:=Zk1 hst;refine⟨rfl,rfl,.inl ⟨l,cs,_,rfl,rfl,hL,λH' L' u hl=>?_⟩⟩;have h1:ZA ρ1 H' (ZS a):=λt ht=>u t (by simp[ZB,Yj,ht]);have h2:ZA ρ1 H' (ZS v):=λt ht=>u t (by simp[ZB,Yj,ht]);unfold ZF;simp only[Zn,ZQ h1,ZQ h2,ha,hv];exact i H' L' hl;refine⟨rfl,rfl,.inr ⟨rfl,λH' L' u=>?_⟩⟩;have h1:ZA ρ1 H' (ZS a):=λt ht=>u t (by simp[ZB,Yj,ht]);have h2:ZA ρ1 H' (ZS v):=λt ht=>u t (by simp[ZB,Yj,ht]);unfold ZF;simp only[Zn,ZQ h1,ZQ h2,ha,hv];exact i H' L'
 |storeN n a v =>unfold ZF at hst;simp only[hg]at hst;split at hst<;>(try(simp at hst;done));rename_i p ea q xs ha hv;obtain⟨rfl,⟨l,off,cs,rfl,rfl,rfl,hL,i⟩|⟨rfl,i⟩⟩:=Zk1 hst;refine⟨rfl,rfl,.inl ⟨l,cs,_,rfl,rfl,hL,λH' L' u hl=>?_⟩⟩;have h1:ZA ρ1 H' (ZS a):=λt ht=>u t (by simp[ZB,Yj,ht]);have h2:ZA ρ1 H' (ZS v):=λt ht=>u t (by simp[ZB,Yj,ht]);unfold ZF;simp only[Zn,ZQ h1,ZQ h2,ha,hv];exact i H' L' hl;refine⟨rfl,rfl,.inr ⟨rfl,λH' L' u=>?_⟩⟩;have h1:ZA ρ1 H' (ZS a):=λt ht=>u t (by simp[ZB,Yj,ht]);have h2:ZA ρ1 H' (ZS v):=λt ht=>u t (by simp[ZB,Yj,ht]);unfold ZF;simp only[Zn,ZQ h1,ZQ h2,ha,hv];exact i H' L'
 |_=>simp[Zed]at hk
def ZtK:K->Bool
 |.mapupd _ _ _ _|.delete _ _ _|.entst _ _ _=>true
 |_=>false
def Zzo{o H L s s1 side ρ1 L1}(hst:ZF o H L s=.ok side ρ1 L1 s1)(hk:ZtK o.k=true):
  ρ1=H/\o.dst=nO/\L1=L/\∀H' L',ZA H H' (ZB o)->ZF o H' L' s=.ok side H' L' s1:=by
 obtain⟨dst,gd,k⟩:=o;cases hg:Zn H gd with
 |none=>unfold ZF at hst;simp[hg]at hst
 |some c =>
 cases k with
 |mapupd kp m k v =>unfold ZF at hst;simp only[hg]at hst;split at hst<;>(try(simp at hst;done));rename_i p b q dk r dv hm ac hv;split at hst<;>(try(simp at hst;done));rename_i es ab;split at hst<;>simp only[SR.ok.injEq,reduceCtorEq]at hst;rename_i ad u;obtain⟨rfl,rfl,rfl,rfl⟩:=hst;refine⟨rfl,rfl,rfl,λH' L' i=>?_⟩;have h1:ZA H H' (ZS m):=λt ht=>i t (by simp[ZB,Yj,ht]);have h2:ZA H H' (ZS k):=λt ht=>i t (by simp[ZB,Yj,ht]);have h3:ZA H H' (ZS v):=λt ht=>i t (by simp[ZB,Yj,ht]);unfold ZF;simp only[Zn,ZQ h1,ZQ h2,ZQ h3,hm,ac,hv,ab,u]
 |delete kp m k =>unfold ZF at hst;simp only[hg]at hst;split at hst<;>(try(simp at hst;done));rename_i p b q dk hm ac;split at hst<;>(try(simp at hst;done));rename_i es ab;split at hst<;>simp only[SR.ok.injEq,reduceCtorEq]at hst;rename_i ad u;obtain⟨rfl,rfl,rfl,rfl⟩:=hst;refine⟨rfl,rfl,rfl,λH' L' i=>?_⟩;have h1:ZA H H' (ZS m):=λt ht=>i t (by simp[ZB,Yj,ht]);have h2:ZA H H' (ZS k):=λt ht=>i t (by simp[ZB,Yj,ht]);unfold ZF;simp only[Zn,ZQ h1,ZQ h2,hm,ac,ab,u]
 |entst m k v =>unfold ZF at hst;simp only[hg]at hst;split at hst<;>(try(simp at hst;done));rename_i p b q n r dv hm ac hv;split at hst<;>(try(simp at hst;done));rename_i kp es dk n' ab;split at hst<;>simp only[SR.ok.injEq,reduceCtorEq]at hst;rename_i ad u;obtain⟨rfl,rfl,rfl,rfl⟩:=hst;refine⟨rfl,rfl,rfl,λH' L' i=>?_⟩;have h1:ZA H H' (ZS m):=λt ht=>i t (by simp[ZB,Yj,ht]);have h2:ZA H H' (ZS k):=λt ht=>i t (by simp[ZB,Yj,ht]);have h3:ZA H H' (ZS v):=λt ht=>i t (by simp[ZB,Yj,ht]);unfold ZF;simp only[Zn,ZQ h1,ZQ h2,ZQ h3,hm,ac,hv,ab,u]
 |_=>simp[ZtK]at hk
def Zzm{o H L s side pre ρf sf}(hst:ZF o H L s=.all side pre ρf sf):
  Y1 o.k=false/\∃(t:Nat) (ef:Nat->E),o.dst=sO t/\(ρf=λb=>(t,ef b)::H)/\∀H' L',ZA H H' (ZB o)->ZF o H' L' s=.all side pre (λb=>(t,ef b)::H') sf:=by
 obtain⟨dst,gd,k⟩:=o;cases hg:Zn H gd with
 |none=>unfold ZF at hst;simp[hg]at hst
 |some c =>
 cases k with
 |mkmap =>unfold ZF at hst;simp only[hg]at hst;split at hst<;>simp only[SR.all.injEq,reduceCtorEq]at hst;obtain⟨rfl,rfl,rfl,rfl⟩:=hst;refine⟨rfl,_,λb=>.d (.map b),rfl,rfl,λH' L' i=>?_⟩;unfold ZF;simp only[Zn]
 |mkslice e n by_ z l c =>unfold ZF at hst;simp only[hg]at hst;split at hst<;>simp only[SR.all.injEq,reduceCtorEq]at hst;rename_i t p k1 lv q k2 hv hl hc;obtain⟨rfl,rfl,rfl,rfl⟩:=hst;refine⟨rfl,t,λb=>.d (.msl b 0 lv.toNat hv.toNat n),rfl,rfl,λH' L' i=>?_⟩;have h1:ZA H H' (ZS l):=λt ht=>i t (by simp[ZB,Yj,ht]);have h2:ZA H H' (ZS c):=λt ht=>i t (by simp[ZB,Yj,ht]);unfold ZF;simp only[Zn,ZQ h1,ZQ h2,hl,hc]
 |mapent kp z m k =>unfold ZF at hst;simp only[hg]at hst;split at hst<;>(try(simp at hst;done));rename_i t p b q dk hm ab;split at hst<;>(try(simp at hst;done));rename_i es u;split at hst<;>simp only[SR.all.injEq,reduceCtorEq]at hst;rename_i v hv;obtain⟨rfl,rfl,rfl,rfl⟩:=hst;refine⟨rfl,t,λn=>.d (.tup [v,.stamp n]),rfl,rfl,λH' L' i=>?_⟩;have h1:ZA H H' (ZS m):=λt ht=>i t (by simp[ZB,Yj,ht]);have h2:ZA H H' (ZS k):=λt ht=>i t (by simp[ZB,Yj,ht]);unfold ZF;simp only[Zn,ZQ h1,ZQ h2,hm,ab,u,hv]
 |store1 a v =>unfold ZF at hst;simp only[hg]at hst;split at hst<;>(try(simp at hst;done));exact absurd hst ZeM
 |storeN n a v =>unfold ZF at hst;simp only[hg]at hst;split at hst<;>(try(simp at hst;done));exact absurd hst ZeM
 |_ =>
  unfold ZF at hst;simp only[hg]at hst;first
   | (simp at hst;done)
   |repeat' (split at hst<;>(try(simp at hst;done)))
def ZxB{o H L s s1 side ρ1 L1}(i:ZF o H L s=.ok side ρ1 L1 s1):YF o.k=true\/(∃z,o.k=.alloc z)\/Zed o.k=true\/(∃x,o.k=.box x)\/ZtK o.k=true:=by
 obtain⟨dst,u,k⟩:=o;unfold ZF at i;cases t:Zn H u with
 |none=>simp[t]at i
 |some c =>
  simp only[t]at i;cases k with
  |q q xs=>exact .inl rfl
  |pick x a b=>exact .inl rfl
  |bsl len n z is xs=>exact .inl rfl
  |s2b x=>exact .inl rfl
  |alloc z=>exact .inr (.inl ⟨z,rfl⟩)
  |store1 a v=>exact .inr (.inr (.inl rfl))
  |storeN n a v=>exact .inr (.inr (.inl rfl))
  |box x=>exact .inr (.inr (.inr (.inl ⟨x,rfl⟩)))
  |mapupd kp m k v=>exact .inr (.inr (.inr (.inr rfl)))
  |delete kp m k=>exact .inr (.inr (.inr (.inr rfl)))
  |entst m k v=>exact .inr (.inr (.inr (.inr rfl)))
  |mkmap=>simp only at i;split at i<;>simp at i
  |mkslice e n by_ z l c=>simp only at i;split at i<;>simp at i
  |mapent kp z m k =>simp only at i;split at i<;>(try(simp at i;done));split at i<;>(try(simp at i;done));split at i<;>simp at i
  |call f xs=>simp at i
  |append e n by_ z x y=>simp at i
  |panic x=>simp at i
  |defer f xs=>simp at i
  |recover=>simp at i
  |clear n z x=>simp at i
  |copy n x y=>simp at i
  |fork k=>simp at i
section
variable {P:Program}
def Zzq{o H L L' side ρ1 u new g Z w tmps s}(t:ZF o H L s=.ok side ρ1 ((u,new)::L) s)(hk:Zed o.k=true)(hs:side)(m:Zw g Z w tmps H L' s):∃cs,Zg L' u=sO cs:=by
 have i:∀{p q ok:Prop} {a:Opd} {ea:E} {n:Nat} {xs:List D},ZC H true a=sO (p,ea)->K5 H L s p q ok ea n xs=.ok side ρ1 ((u,new)::L) s->∃cs,Zg L' u=sO cs:=by intro p q ok a ea n xs ha h;obtain⟨rfl,⟨l,off,cs,rfl,hL,rfl,h1,h2⟩|⟨b,off,cs,rfl,hL,rfl,h1,h2⟩⟩:=Zgv h;simp only[List.cons.injEq,ZId,and_true]at h1;obtain⟨rfl,rfl⟩:=h1;exact Zm0 m (xs:=[a]) (p:=p/\True) (es:=[.loc u off]) (by simp[Ya,ha]) ⟨hs.1,trivial⟩ u off ψ;exact absurd (congrArg List.length h1) ψ
 obtain⟨dst,gd,k⟩:=o;cases hg:Zn H gd with
 |none=>unfold ZF at t;simp[hg]at t
 |some c =>
 cases k with
 |store1 a v =>unfold ZF at t;simp only[hg]at t;split at t<;>(try(simp at t;done));rename_i p ea q x ha hv;exact i ha t
 |storeN n a v =>unfold ZF at t;simp only[hg]at t;split at t<;>(try(simp at t;done));rename_i p ea q xs ha hv;exact i ha t
 |_=>simp[Zed]at hk
def Zzn{o H ρ1 L L1 s s1 side x}(hst:ZF o H L s=.ok side ρ1 L1 s1)(hk:o.k=.box x):
  ∃t p v,o.dst=sO t/\o.guard=nO/\side=(p/\Zav L t=false/\Kc v=true)/\ρ1=(t,.loc t 0)::H/\L1=(t,cellsOf v)::L/\s1=s /\
   ∀H' L',ZA H H' (ZB o)->ZF o H' L' s=.ok (p/\Zav L' t=false/\Kc v=true) ((t,.loc t 0)::H') ((t,cellsOf v)::L') s:=by
 obtain⟨dst,gd,k⟩:=o;simp only at hk;subst hk;unfold ZF at hst;cases hg:Zn H gd with
 |none=>simp[hg]at hst
 |some c =>simp only[hg]at hst;split at hst<;>simp only[SR.ok.injEq,reduceCtorEq]at hst;rename_i t p v hx;obtain⟨rfl,rfl,rfl,rfl⟩:=hst;refine⟨t,p,v,rfl,rfl,rfl,rfl,rfl,rfl,λH' L' i=>?_⟩;have h1:ZA H H' (ZS x):=λu hu=>i u (by simp[ZB,Yj,hu]);unfold ZF;simp only[Zn,ZQ h1,hx]
def Zk0{o H ρ1 L L1 s s1 side}(i:ZF o H L s=.ok side ρ1 L1 s1):∀k,o.k≠.fork k:=λk t=>by
 obtain⟨dst,u,k'⟩:=o;simp only at t;subst t;unfold ZF at i;cases hg:Zn H u<;>simp[hg]at i
def Jn{F:Fr P}{kp dk o f os H ρ1 L L1 s s1 B side}(hst:ZF o H L s=.ok side ρ1 L1 s1)(hs:side)(h:if Y1 o.k then DOA F kp dk os ρ1 L1 s1 (Ko o H++B) else Wd f s s1 L L1 B/\DOA F kp dk os ρ1 L1 s1 (Ko o H++YZ f B)):DOA F kp dk ((o,f)::os) H L s B:=by
 intro T ms fl fk A rest is l H' L' hm hc af bh inv am;cases rest with
 |nil=>simp at bh
 |cons i rest =>
  simp only[ZIj,List.cons.injEq,ZId]at bh;obtain⟨⟨ho,rfl⟩,rfl⟩:=bh;obtain⟨b0,rfl⟩:=Zqe ho.symm (Zk0 hst);obtain⟨hi,hdeps,ar,bq,a0⟩:=Zm4 b0 hc;have bp:=inv.restN i ψ;rcases a0 with ⟨hp,ao⟩|⟨hb,ao,hnp⟩
  .obtain⟨ca,a7,ap⟩:=Zfa hp;rw[ca]at h;simp only[if_true]at h;have hiA:i∉A:=λhA=>af i hA ψ;have bx:∀(av:∀t,(T.op i).dst=sO t\/ZM ρ1 t=ZM H t) (bc:∀a∈A,ZA H ρ1 (ZB (T.op a))) (hL:∀x,Zg L1 x=Zg L x\/(ZaL (T.op i) x/\Zg L x=nO)) (bk:∀x,ZaL (T.op i) x->Zg L x=nO)
     (az:W9 (T.op i) ρ1 L1 s (Ko (T.op i) H++B)) (bb:s1=s),DO F kp dk (is.map T.op) H' L' s:=by
    intro av bc hL bk az bb;subst bb;refine h T ms fl fk (i::A) rest is l H' L' hm ao (λp hp a9=>?_) rfl ⟨inv.closed,λr hr=>inv.restN r (by simp[hr]),λj hj h1 h2=>?_,λa ha=>?_,λp hp a ha=>?_,λp hp a ha br=>?_,λt=>?_,λa ha ad x hx=>?_,λx=>?_,λa ha ad=>?_⟩ am;rcases List.mem_cons.1 hp with rfl|hp;exact ar a9;exact af p hp (by simp[a9]);simp only[ZIF,not_or]at h2;exact inv.doneN j hj (by simp[h2.1,h1]) h2.2;rcases List.mem_cons.1 ha with rfl|ha;exact hi;exact inv.alt a ha;rcases List.mem_cons.1 hp with rfl|hpA<;>rcases List.mem_cons.1 ha with rfl|haA;exact .inr a7;exact bq a haA;exact .inr (ap p hpA).1;exact inv.pair p hpA a haA;rcases List.mem_cons.1 hp with rfl|hpA<;>rcases List.mem_cons.1 ha with rfl|haA;exact absurd rfl br;exact(ap a haA).2;exact ZbS (ap p hpA).2;exact inv.uniq p hpA a haA br;rcases av t with hd|hg;exact .inr ⟨i,ψ,bp,hd⟩;rw[hg];rcases inv.env t with h|⟨a,ha,ad,be⟩;exact .inl h;exact .inr ⟨a,by simp[ha],ad,be⟩;rcases List.mem_cons.1 ha with rfl|ha;have:=bk x hx;rcases inv.loc x with h|⟨b,hb,bf,bj⟩;rw[h];exact this;exact inv.loc0 b hb bf x bj;exact inv.loc0 a ha ad x hx;rcases hL x with hx|⟨hx,_⟩;rw[hx];rcases inv.loc x with h|⟨b,hb,bf,bj⟩;exact .inl h;exact .inr ⟨b,by simp[hb],bf,bj⟩;exact .inr ⟨i,ψ,bp,hx⟩;rcases List.mem_cons.1 ha with rfl|ha;exact az;refine((inv.pend a ha ad).more (B':=Ko (T.op i) H++B) (λb _ hb=>List.mem_append_right _ hb)).mono (bc a ha) (λt ht=>?_) (λx hx=>?_) (λt ai=>?_);rcases av t with hd|hg;exact absurd ht (Zby (ap a ha).2 hd);exact hg;obtain⟨cs,a0⟩:=(inv.pend a ha ad).loc hx;rcases hL x with h|⟨_,h⟩;exact h;rw[h]at a0;simp at a0;rcases hL t with h|⟨h,_⟩;exact h;exact absurd ai.1 (Zby (ap a ha).2 h.1)
   by_cases hq:YF (T.op i).k=true
   .obtain⟨e,rfl,rfl,rfl⟩:=ZmL hst hq;have bo:=YX (g:=(T.op i).guard) (H:=H) (H':=Zx H (T.op i).dst e) (λt ht=>KY a7 t (by simp[ZB,ht]));refine bx (λt=>?_) (λa ha=>KY (ap a ha).1) (λx=>.inl rfl) (λx hx=>by have:=Zcq hx;rw[hq]at this;simp at this) ?_ rfl;rw[WJ];by_cases ht:(T.op i).dst=sO t;exact .inl ht;exact .inr (by simp[ht]);cases a4:Zn H (T.op i).guard with
    |none=>unfold ZF at hst;simp[a4]at hst
    |some c =>
    cases c;obtain⟨e',h1,-,-⟩:=ZmK hst a4 hq;refine .inr (.inl ⟨hq,_,.inl ⟨by rw[bo,a4],e',rfl⟩,λt ht=>?_⟩);rw[h1,WJ,if_pos ht];obtain⟨e',h1,-,-,h2⟩:=ZiW (H':=Zx H (T.op i).dst e) (L':=L1) hst hq (KY a7) (.inl rfl);refine .inl ⟨hq,by rw[bo,a4],by rw[Zku (KY a7)];exact λb hb=>List.mem_append_left _ (Zxi.2 hb),side,e',hs,h2,λt ht=>?_⟩;rw[h1,WJ,if_pos ht]
   obtain⟨z,hz⟩:∃z,(T.op i).k=.alloc z:=by cases hk:(T.op i).k<;>first|exact absurd hk (Zk0 hst _)|simp_all[Y1,YF]
   obtain⟨t,ho,rfl,rfl,rfl,rfl⟩:=Zu6 hst hz;have aj:Zg L t=nO:=by cases hg:Zg L t<;>simp[Zav,hg]at hs⊢
   have al:(T.op i).dst=sO t:=by rw[ho]
   refine bx (λu=>?_) (λa ha=>?_) (λx=>?_) (λx hx=>?_) (.inr (.inr ⟨t,z,ho,by simp[ZM],by simp[Zg]⟩)) rfl;by_cases bu:t=u;exact .inl (by rw[al,bu]);exact .inr (by simp[ZM,bu]);have:=KY (H:=H) (e:=.loc t 0) (ap a ha).1;rw[al]at this;exact this;by_cases bv:t=x;subst bv;exact .inr ⟨⟨al,z,hz⟩,aj⟩;exact .inl (by simp[Zg,bv]);have:=hx.1;rw[al]at this;simp only[ZH0]at this;subst this;exact aj
  obtain⟨bl,ba,ab⟩:=ZgK hb;have a5:Wd (fl i) s s1 L L1 B\/Y1 (T.op i).k=true:=by cases a8:Y1 (T.op i).k;rw[a8]at h;exact .inl h.1;exact .inr rfl
  have hD:∃B2,(B2=Ko (T.op i) H++B/\Y1 (T.op i).k=true\/B2=Ko (T.op i) H++YZ (fl i) B/\Y1 (T.op i).k=false)/\DOA F kp dk (rest.map λi=>(T.mk fk i,fl i)) ρ1 L1 s1 B2:=by cases a8:Y1 (T.op i).k;rw[a8]at h;exact⟨_,.inr ⟨rfl,rfl⟩,h.2⟩;rw[a8]at h;exact⟨_,.inl ⟨rfl,rfl⟩,h⟩
  clear h;obtain⟨B2,bz,h⟩:=hD;have ah:∀b∈YZ (fl i) B,b∈B2:=λb hb=>by rcases bz with ⟨rfl,_⟩|⟨rfl,_⟩;exact List.mem_append_right _ (QM.1 hb).2;exact List.mem_append_right _ hb
  refine Zxh hm hi af ba (λl H' L' is inv hd am=>?_) am inv;have au:=hm l inv.closed i hi hd;have aq:ZA H H' (ZB (T.op i)):=by intro t ht;rcases inv.env t with h|⟨a,ha,ad,be⟩;exact h;exfalso;rcases bq a ha with hb|hb;rw[au a hb]at ad;simp at ad;exact Zka hb be ht
  have ay:∀x,Zg L' x=Zg L x\/Zg L' x=nO:=λx=>by rcases inv.loc x with h|⟨a,ha,ad,hx⟩;exact .inl h;exact .inr (inv.loc0 a ha ad x hx)
  have ag:∀p∈A.filter (λa=>!(ms.getD i 0).testBit a),p∉rest:=λp hp a9=>af p (List.mem_filter.1 hp).1 (by simp[a9]);rcases ZxB hst with hq|⟨z,hz⟩|hq|⟨x,hx⟩|hq;obtain⟨e,rfl,rfl,rfl⟩:=ZmL hst hq;refine Zvg hst hs hq aq ay ?_;refine h T ms fl fk _ rest is _ _ _ hm ao ag rfl (inv.bar hm af hi ar hd (λa ha=>⟨(ab a ha).1,(ab a ha).2.1⟩) e (λ_ h=>h) (λ_ _ _ _ h=>h) λa ha ad ak=>?_) am;refine((ak.keep (fl:=fl i) ZdK (ab a ha).2.2 (λ_ _=>rfl)).more (λb _ hb=>ah _ hb)).mono (KY (ab a ha).1) (λt ht=>?_) (λ_ _=>rfl) (λ_ _=>rfl);rw[WJ];have:=Zby (ZbS (ab a ha).2.1) ht;simp[this];rw[hz]at bl;simp[Zwv]at bl;obtain⟨rfl,a3,⟨lx,cs,new,rfl,rfl,bg,ac⟩|⟨rfl,ac⟩⟩:=Zu9 hst hq;refine ZqN λg Z w tmps m=>?_;have bt:ZF (T.op i) H' ((lx,cs)::L') s1=.ok side H' ((lx,new)::(lx,cs)::L') s1:=ac H' _ aq (by simp[Zg,bg]);have bi:Zg L' lx=Zg L lx:=by obtain⟨c2,bn⟩:∃cs,Zg L' lx=sO cs:=Zzq (L:=(lx,cs)::L') bt hq hs m;rcases ay lx with h|h;exact h;rw[h]at bn;simp at bn
  refine QO (ac H' L' aq bi) hs ?_;have ae:∀r:Env,Zx r (T.op i).dst (.d .undef)=r:=λr=>by rw[a3];rfl
  have hb:=inv.bar (s2:=s1) (B2:=B2) hm af hi ar hd (λa ha=>⟨(ab a ha).1,(ab a ha).2.1⟩) (.d .undef) (L2:=(lx,new)::L) (L2':=(lx,new)::L') (λx hx=>by simp only[Zg,hx]) (λx _ _ _ hx=>by
   by_cases bw:lx=x;subst bw;rw[bi,bg]at hx;simp at hx;simp only[Zg,bw,if_false];exact hx) (λa ha ad ak=>?_)
  rw[ae,ae]at hb;exact h T ms fl fk _ rest is _ _ _ hm ao ag rfl hb am;rw[ae];have aw:Wd (fl i) s1 s1 L ((lx,new)::L) B:=by rcases a5 with h|h;exact h;cases ax:(T.op i).k<;>rw[ax]at hq h<;>simp[Zed,Y1]at hq h
  refine(ak.keep aw (ab a ha).2.2 (λt ai=>?_)).more (λb _ hb=>ah _ hb);have hn:=inv.loc0 a (List.mem_filter.1 ha).1 ad t ai;have:¬lx=t:=λh=>by subst h;rw[bi,bg]at hn;simp at hn
  simp[Zg,this];refine QO (ac H' L' aq) hs ?_;have ae:∀r:Env,Zx r (T.op i).dst (.d .undef)=r:=λr=>by rw[a3];rfl
  have hb:=inv.bar (s2:=s1) (B2:=B2) hm af hi ar hd (λa ha=>⟨(ab a ha).1,(ab a ha).2.1⟩) (.d .undef) (L2:=L1) (L2':=L') (λx hx=>hx) (λ_ _ _ _ hx=>hx) (λa ha ad ak=>by
   rw[ae];exact(ak.keep (a5.resolve_right (by cases ax:(T.op i).k<;>rw[ax]at hq<;>simp[Zed,ZtK]at hq<;>simp[Y1])) (ab a ha).2.2 (λ_ _=>rfl)).more (λb _ hb=>ah _ hb))
  rw[ae,ae]at hb;exact h T ms fl fk _ rest is _ _ _ hm ao ag rfl hb am;obtain⟨t,p,v,al,hgn,rfl,rfl,rfl,rfl,ac⟩:=Zzn hst hx;obtain⟨bb,cb,ce⟩:=hs;have aj:Zg L t=nO:=by cases hg:Zg L t<;>simp[Zav,hg]at cb⊢
  have a6:Zg L' t=nO:=by rcases ay t with h|h;rw[h];exact aj;exact h
  refine QO (ac H' L' aq) ⟨bb,by simp[Zav,a6],ce⟩ ?_;have hb:=inv.bar (s2:=s1) (B2:=B2) hm af hi ar hd (λa ha=>⟨(ab a ha).1,(ab a ha).2.1⟩) (.loc t 0) (L2:=(t,cellsOf v)::L) (L2':=(t,cellsOf v)::L') (λx hx=>by simp only[Zg,hx]) (λx a b1 ai hx=>by
    have:¬t=x:=λh=>by subst h;exact Zby b1 al ai.1
    simp only[Zg,this,if_false];exact hx) (λa ha ad ak=>?_)
  rw[al]at hb;exact h T ms fl fk _ rest is _ _ _ hm ao ag rfl hb am;have aw:Wd (fl i) s1 s1 L ((t,cellsOf v)::L) B:=a5.resolve_right (by rw[hx];simp[Y1]);have b2:∀u,ZaL (T.op a) u->¬t=u:=λu ai h=>by subst h;exact Zby (ab a ha).2.1 al ai.1
  refine((ak.keep aw (ab a ha).2.2 (λu ai=>by simp[Zg,b2 u ai])).more (λb _ hb=>ah _ hb)).mono (KY (ab a ha).1) (λu hu=>?_) (λ_ _=>rfl) (λ_ _=>rfl);rw[WJ];have:=Zby (ZbS (ab a ha).2.1) hu;simp[this];obtain⟨rfl,a3,rfl,ac⟩:=Zzo hst hq;refine QO (ac H' L' aq) hs ?_;have ae:∀r:Env,Zx r (T.op i).dst (.d .undef)=r:=λr=>by rw[a3];rfl
  have hb:=inv.bar (s2:=s1) (B2:=B2) hm af hi ar hd (λa ha=>⟨(ab a ha).1,(ab a ha).2.1⟩) (.d .undef) (L2:=L1) (L2':=L') (λx hx=>hx) (λ_ _ _ _ hx=>hx) (λa ha ad ak=>by
   rw[ae];exact(ak.keep (a5.resolve_right (by cases ax:(T.op i).k<;>rw[ax]at hq<;>simp[Zed,ZtK]at hq<;>simp[Y1])) (ab a ha).2.2 (λ_ _=>rfl)).more (λb _ hb=>ah _ hb))
  rw[ae,ae]at hb;exact h T ms fl fk _ rest is _ _ _ hm ao ag rfl hb am
def Zsw{F:Fr P}{kp dk o f os H L s B e}(hz:Zcj o H e)(hk:YF o.k=true)(h:DOA F kp dk os (Zx H o.dst e) L s B):DOA F kp dk ((o,f)::os) H L s B:=by
 intro T ms fl fk A rest is l H' L' hm hc ac al inv ah;cases rest with
 |nil=>simp at al
 |cons i rest =>
  simp only[ZIj,List.cons.injEq,ZId]at al;obtain⟨⟨ho,rfl⟩,rfl⟩:=al;obtain⟨aw,rfl⟩:=Zqe ho.symm (λk h=>by rw[h]at hk;simp[YF]at hk);obtain⟨hi,hdeps,am,ap,av⟩:=Zm4 aw hc;have az:=inv.restN i ψ;have ao:∀x,¬ZaL (T.op i) x:=λx hx=>by have:=Zcq hx;rw[hk]at this;simp at this
  rcases av with ⟨hp,ai⟩|⟨hb,ai,hnp⟩;obtain⟨hp1,aq,ae⟩:=Zfa hp;have ax:=hz.congr (H':=Zx H (T.op i).dst e) (KY aq);refine h T ms fl fk (i::A) rest is l H' L' hm ai (λp hp af=>?_) rfl ⟨inv.closed,λr hr=>inv.restN r (by simp[hr]),λj hj h1 h2=>?_,λa ha=>?_,λp hp a ha=>?_,λp hp a ha ar=>?_,λt=>?_,λa ha ab x hx=>?_,λx=>?_,λa ha ab=>?_⟩ ah;rcases List.mem_cons.1 hp with rfl|hp;exact am af;exact ac p hp (by simp[af]);simp only[ZIF,not_or]at h2;exact inv.doneN j hj (by simp[h2.1,h1]) h2.2;rcases List.mem_cons.1 ha with rfl|ha;exact hi;exact inv.alt a ha;rcases List.mem_cons.1 hp with rfl|hpA<;>rcases List.mem_cons.1 ha with rfl|haA;exact .inr aq;exact ap a haA;exact .inr (ae p hpA).1;exact inv.pair p hpA a haA;rcases List.mem_cons.1 hp with rfl|hpA<;>rcases List.mem_cons.1 ha with rfl|haA;exact absurd rfl ar;exact(ae a haA).2;exact ZbS (ae p hpA).2;exact inv.uniq p hpA a haA ar;rw[WJ];by_cases ht:(T.op i).dst=sO t;exact .inr ⟨i,ψ,az,ht⟩;rw[if_neg ht];rcases inv.env t with h|⟨a,ha,ab,aj⟩;exact .inl h;exact .inr ⟨a,by simp[ha],ab,aj⟩;rcases List.mem_cons.1 ha with rfl|ha;exact absurd hx (ao x);exact inv.loc0 a ha ab x hx;rcases inv.loc x with h|⟨b,hb,ay,a3⟩;exact .inl h;exact .inr ⟨b,by simp[hb],ay,a3⟩;rcases List.mem_cons.1 ha with rfl|ha;exact .inr (.inl ⟨hk,e,ax,λt ht=>by rw[WJ,if_pos ht]⟩);refine(inv.pend a ha ab).mono (KY (ae a ha).1) (λt ht=>?_) (λ_ _=>rfl) (λ_ _=>rfl);rw[WJ,if_neg (Zby (ZbS (ae a ha).2) ht)];obtain⟨hbk,ag,u⟩:=ZgK hb;refine Zxh hm hi ac ag (λl H' L' is inv hd ah=>?_) ah inv;have ad:=hm l inv.closed i hi hd;have au:ZA H H' (ZB (T.op i)):=by intro t ht;rcases inv.env t with h|⟨a,ha,ab,aj⟩;exact h;exfalso;rcases ap a ha with hb|hb;rw[ad a hb]at ab;simp at ab;exact Zka hb aj ht
  have ak:∀p∈A.filter (λa=>!(ms.getD i 0).testBit a),p∉rest:=λp hp af=>ac p (List.mem_filter.1 hp).1 (by simp[af]);refine(hz.congr au).run ?_;refine h T ms fl fk _ rest is _ _ _ hm ai ak rfl (inv.bar hm ac hi am hd (λa ha=>⟨(u a ha).1,(u a ha).2.1⟩) e (λ_ h=>h) (λ_ _ _ _ h=>h) λa ha ab a0=>?_) ah;refine a0.mono (KY (u a ha).1) (λt ht=>?_) (λ_ _=>rfl) (λ_ _=>rfl);rw[WJ];have:=Zby (ZbS (u a ha).2.1) ht;simp[this]
def ZxO{F:Fr P}{kp dk o f os H L s B}(i:Zn H o.guard=sO false)(t:YF o.k=true)(e)(h:DOA F kp dk os (Zx H o.dst (.when false e)) L s B):DOA F kp dk ((o,f)::os) H L s B:=Zsw (.inl ⟨i,e,rfl⟩) t h
def ZzD{F:Fr P}{kp dk o f os H L s B}(hg:o.guard=nO){x y i pl}(u:o.k=.q (.bin i pl) [x,y]){p k t a b v}(ha:Ya H true [x,y]=sO (p,[.d (.int k a),.d (.int t b)]))(hp:p)(hv:ZgD i k t a b=sO v)(h:DOA F kp dk os (Zx H o.dst (.d (.int k v))) L s B):DOA F kp dk ((o,f)::os) H L s B :=
 Zsw (.inr ⟨x,y,i,pl,p,k,t,a,b,v,hg,u,ha,hp,hv,rfl⟩) (by rw[u];rfl) h
def ZpH{F:Fr P}{kp}{dk}{o}{f}{os}{H}{L}{s}{B}{side}{pre}{ρf}{sf}(hst:ZF o H L s=.all side pre ρf sf)(hs:side)(h:∀b,pre b->Wd f s (sf b) L L B/\DOA F kp dk os (ρf b) L (sf b) (YZ f B)):DOA F kp dk ((o,f)::os) H L s B:=by
 obtain⟨hp,t,ef,ab,rfl,i⟩:=Zzm hst;refine Zb5 (λe s2=>∃b,pre b/\e=ef b/\s2=sf b) hp (λH' L' os' ac u=>?_) (λe s2 ⟨b,hb,he,h2⟩=>?_);refine ZnO (i H' L' ac) hs λb hb=>?_;have:=u (ef b) (sf b) ⟨b,hb,rfl,rfl⟩;rw[ab]at this;exact this;subst he;subst h2;have:=h b hb;rw[ab];exact this
def Zlc{F:Fr P}{ks dk}:∀{os H L s B},
  Zik (λH L s=>Zv F dk (Yn H ks) (Za9 (Yn H ks) L) s) (λos H L s B=>DOA F (sO ks) dk os H L s B) os H L s B->DOA F (sO ks) dk os H L s B
 | [],H,L,s,B,h=>ZpI h
 | (o,f)::os,H,L,s,B,h=>by simp only[Zik]at h;split at h;rename_i sd H' L' s' i;by_cases t:Y1 o.k=true;rw[if_pos t]at h;exact Jn i h.1 (by rw[if_pos t];exact Zlc h.2);rw[if_neg t]at h;exact Jn i h.1 (by rw[if_neg t];exact⟨h.2.1,Zlc h.2.2⟩);rename_i sd pre H' s' i;exact ZpH i h.1 λb u=>⟨(h.2 b u).1,Zlc (h.2 b u).2⟩;exact h
end
def ZhU{bs}:∀{ds a},(ZcI bs ds).testBit a=true->∃d∈ds,a=d\/(bs.getD d 0).testBit a=true
 | [],a,h=>by simp[ZcI]at h
 |d::ds,a,h=>by simp only[ZcI,Nat.testBit_or,ZIp]at h;rcases h with (h|h)|h;exact⟨d,ψ,.inr h⟩;refine⟨d,ψ,.inl ?_⟩;rw[Nat.one_shiftLeft,Nat.testBit_two_pow]at h;exact(of_decide_eq_true h).symm;obtain⟨i,t,u⟩:=ZhU h;exact⟨i,by simp[t],u⟩
def ZtM(l:Nat->Bool)(all)(hcl:∀i,i<I all->l i=true->∀d∈all.getD i [],l d=true) :
  ∀(r acc pre),all=pre++r->I acc=I pre ->
   (∀i,i<I acc->(∀d∈all.getD i [],l d=true)->∀a,(acc.getD i 0).testBit a=true->l a=true) ->
   ∀i,i<I all->(∀d∈all.getD i [],l d=true)->∀a,((Zgi r acc).getD i 0).testBit a=true->l a=true
 | [],acc,pre,hall,hlen,hacc=>by intro i hi;simp only[Zgi];exact hacc i (by rw[hlen];simp only[hall,ZIy]at hi;exact hi)
 |d::r,acc,pre,hall,hlen,hacc=>by
  simp only[Zgi];refine ZtM l all hcl r (acc++[ZcI acc d]) (pre++[d]) (by simp[hall]) (by simp[hlen]) λi hi hd a ha=>?_;simp only[ZIc,ZIi,List.length_nil]at hi;by_cases t:i<I acc;have e:(acc++[ZcI acc d]).getD i 0=acc.getD i 0:=by simp[ZIg,List.getElem?_append,t]
  rw[e]at ha;exact hacc i t hd a ha;have ab:i=I acc:=ω;subst ab;have e:(acc++[ZcI acc d]).getD (I acc) 0=ZcI acc d:=by simp[ZIg]
  rw[e]at ha;have e2:all.getD (I acc) []=d:=by rw[hall,hlen];simp[ZIg]
  rw[e2]at hd;obtain⟨d',h1,h2⟩:=ZhU ha;rcases h2 with rfl|h2;exact hd a h1;by_cases u:d'<I acc;exact hacc d' u (hcl d' (by rw[hall];simp;omega) (hd d' h1)) a h2;have:acc.getD d' 0=0:=by simp[ZIg,ZIM (Nat.le_of_not_lt u)]
  rw[this]at h2;simp at h2
def cnt(l:Nat->Bool):Nat->Nat
 |0=>0
 |n+1=>cnt l n+if l n then 0 else 1
def Ztf{l l'}:∀{n},(∀i,i<n->l' i=l i)->cnt l' n=cnt l n
 |0,_=>rfl
 |n+1,h=>by have:=Ztf (l:=l) (l':=l') (n:=n) λi hi=>h i ω;simp only[cnt,h n ω,this]
def Zvr{l i}:∀{n},i<n->l i=false->cnt (λj=>j==i ||l j) n+1=cnt l n
 |n+1,hi,hl=>by
  by_cases hn:i=n;subst hn;have:cnt (λj=>j==i ||l j) i=cnt l i:=Ztf λj hj=>by have:¬j=i:=ω;simp[this]
  simp[cnt,this,hl];have h:=Zvr (n:=n) ω hl;have t:¬n=i:=λh=>hn h.symm;have:(n==i ||l n)=l n:=by simp[t]
  simp only[cnt,this];omega
def Ztg{l}:∀{n},cnt l n=0->∀i,i<n->l i=true
 |n+1,h,i,hi=>by simp only[cnt]at h;by_cases hn:i=n;subst hn;cases hl:l i;simp[hl]at h;rfl;exact Ztg (n:=n) ω i ω
def Zx9(l):∀n,cnt l n<=n
 |0=>ZIh _
 |n+1=>by have:=Zx9 l n;simp only[cnt];split<;>omega
def ZyO{ops listed i}(h:i∈Region.ready .any ops listed):
  ∃o,ops[i]?=sO o/\listed.getD i true=false/\∀d∈JJ o,listed.getD d false=true:=by
 simp only[Region.ready,List.mem_filter,List.mem_range,ZIb,Bool.not_eq_true']at h;obtain⟨hi,hl,ha⟩:=h;refine⟨ops[i],by simp[hi],hl,λd hd=>?_⟩;simp only[hi,Array.getElem?_eq_getElem,ZIx,ZIH,Array.all_eq_true]at ha;simp only[JJ,List.mem_map,List.mem_filter]at hd;obtain⟨e,⟨he,hb⟩,rfl⟩:=hd;obtain⟨n,hn,t⟩:=ZIl he;have u:n<ops[i].after.size:=by simpa using hn
 have h2:=ha n u;have:ops[i].after[n]=e:=by rw[<-t];simp
 rw[this]at h2;simpa[hb]using h2
def Zy9{ops t i o}(ho:ops[i]?=sO o)(hl:t.getD i true=false)(hd:∀d∈JJ o,t.getD d false=true):i∈Region.ready .any ops t:=by
 obtain⟨u,rfl⟩:=Array.getElem?_eq_some_iff.1 ho;simp only[Region.ready,List.mem_filter,List.mem_range,ZIb,Bool.not_eq_true'];refine⟨u,hl,?_⟩;simp only[u,Array.getElem?_eq_getElem,ZIx,ZIH,Array.all_eq_true];intro n hn;cases hb:Region.binds .any ops[i].after[n];simp;simp only[Bool.not_true,Bool.false_or];exact hd _ (by
  simp only[JJ,List.mem_map,List.mem_filter];exact⟨_,⟨ψ,hb⟩,rfl⟩)
def ZDt{ops T}(hT:T.length=ops.size)(hdep:∀i o,ops[i]?=sO o->T.deps i=JJ o)(hlt:∀i,i<T.length->∀d∈T.deps i,d<i):
  ∀(fuel t listed),listed.size=ops.size->cnt (λj=>listed.getD j false) ops.size<=fuel ->
   Sch T (λj=>listed.getD j false) (Region.linearise.go .any ops fuel t listed []):=by
 have u:∀listed:Array Bool,listed.size=ops.size->Region.ready .any ops listed=[]->∀i,i<ops.size->listed.getD i false=true:=by
  intro listed ab hr i;induction i using Nat.strongRecOn with
  |ind i ih =>
   intro hi;cases hl:listed.getD i false;exfalso;have af:i<listed.size:=ω;have ah:listed.getD i true=false:=by simpa[Array.getD,af]using hl
   have hm:i∈Region.ready .any ops listed:=Zy9 (o:=ops[i]) (by simp[hi]) ah λd hd=>by have ak:d<i:=hlt i ω d (by rw[hdep i ops[i] (by simp[hi])];exact hd);exact ih d ak ω
   rw[hr]at hm;simp at hm;rfl
 intro fuel;induction fuel with
 |zero =>intro t listed ab hc;simp only[Region.linearise.go,List.reverse_nil];exact .nil λi hi=>Ztg (Nat.le_zero.1 hc) i ω
 |succ fuel ih =>
  intro t listed ab hc;simp only[Region.linearise.go];change Sch T _ (match (Region.ready .any ops listed)[t % (Region.ready .any ops listed).length]? with
   |some i=>Region.linearise.go .any ops fuel (t / (Region.ready .any ops listed).length) (listed.setIfInBounds i true) [i]
   |none=>[].reverse)
  cases hi:(Region.ready .any ops listed)[t % (Region.ready .any ops listed).length]? with
  |none =>
   have ai:Region.ready .any ops listed=[]:=by
    cases hr:Region.ready .any ops listed with
    |nil=>rfl
    |cons x xs =>rw[hr]at hi;have hl:t % (x::xs).length<(x::xs).length:=Nat.mod_lt _ ψ;rw[ZIw hl]at hi;simp at hi
   exact .nil λi af=>u listed ab ai i ω
  |some i =>
   simp only[];rw[linearise_go_acc,List.reverse_singleton,List.singleton_append];obtain⟨o,ho,hl,hd⟩:=ZyO (List.mem_of_getElem? hi);obtain⟨al,-⟩:=Array.getElem?_eq_some_iff.1 ho;have ad:i<listed.size:=ω;have ag:listed.getD i false=false:=by simpa[Array.getD,ad]using hl
   have ac:(λj=>(listed.setIfInBounds i true).getD j false)=λj=>j==i ||listed.getD j false:=by funext j;simp only[ZIN,Array.getElem?_setIfInBounds];by_cases ae:i=j;subst ae;simp[ad];have:¬j=i:=λh=>ae h.symm;simp[ae,this]
   refine .cons ω ag (λd aj=>hd d (by rw[<-hdep i o ho];exact aj)) ?_;rw[<-ac];refine ih _ _ (by simp[ab]) ?_;rw[ac];have:=Zvr (l:=λj=>listed.getD j false) al ag;omega
section
variable {P:Program}
def ZBy{an N c i os ks}(h:cc P an N c=sO (.regD i os ks)):
  ∃id ops,c=.region id ops true/\ccD P an N id ops=sO (i,os,ks):=by
 unfold cc at h;split at h<;>simp_all;obtain⟨a,b,c',t,u,h3,h4⟩:=h;exact⟨_,_,⟨rfl,rfl⟩,by rw[t];simp[u,h3,h4]⟩;all_goals (split at h<;>simp at h)
end
def ZDu{T l is}(h:Sch T l is):∀i∈is,i<T.length:=by
 induction h with
 |nil h=>simp
 |cons hi hl hd t ih=>intro i u;rcases List.mem_cons.1 u with rfl|h;exact hi;exact ih i h
section
variable {P:Program}
def Zth{N ops}:∀{is l},Jt P N ops is=sO l->I l=I is/\∀(j i:Nat),is[j]?=sO i->∃o d,ops[i]?=sO o/\cop P N ops o=sO d/\l[j]?=sO d
 | [],l,h=>by simp only[Jt,ZH0]at h;subst h;simp
 |i::is,l,h=>by
  simp only[Jt]at h;split at h<;>(try(simp at h;done));rename_i o ho;split at h<;>simp only[ZH0,reduceCtorEq]at h;rename_i d ds hd t;subst h;obtain⟨h1,h2⟩:=Zth t;refine⟨by simp[h1],λj i' u=>?_⟩;cases j with
  |zero=>simp only[List.getElem?_cons_zero,ZH0]at u;subst u;exact⟨o,d,ho,hd,ψ⟩
  |succ j=>simp only[List.getElem?_cons_succ]at u⊢;exact h2 j i' u
def Zvs{N ops f}:∀{is},(∀i∈is,∃o,ops[i]?=sO o/\cop P N ops o=sO (f i))->Jt P N ops is=sO (is.map f)
 | [],_=>rfl
 |i::is,h=>by obtain⟨o,t,u⟩:=h i ψ;have:=Zvs (is:=is) λj hj=>h j (by simp[hj]);simp only[Jt,t,u,this,ZIj]
def Zyr(g w){n}:Ext g w g { w with drawn:=n }:=⟨ZIh _,λ_=>ZIh _,λ_ _ _=>rfl,λ_ _ h=>h,λ_ _=>rfl,λ_ _=>rfl,rfl,rfl,rfl,rfl⟩
def Zw.drawn{g Z w tmps H L s}(m:Zw g Z w tmps H L s)(n):Zw g Z { w with drawn:=n } tmps H L s:=by
 have hg:J2 g w g { w with drawn:=n }:=⟨ZIh _,λ_ _=>rfl,λ_ _=>rfl,λb hb=>(m.st.fresh b hb).1,rfl,rfl,rfl,rfl⟩;exact m.grow hg
def Zmj:∀{n ds},Zob n ds=true->∀i l,ds[i]?=sO l->∀d∈l,d<n+i
 |n,[],_,i,l,hi=>by simp at hi
 |n,x::r,h,i,l,hi=>by
  simp only[Zob,ZIb,List.all_eq_true,decide_eq_true_eq]at h;cases i with
  |zero=>simp only[List.getElem?_cons_zero,ZH0]at hi;subst hi;exact λd hd=>h.1 d hd
  |succ i=>simp only[List.getElem?_cons_succ]at hi;intro d hd;have:=Zmj h.2 i l hi d hd;omega
def Zjn{F:Fr P}{order os ks dk H L s}(h:DOA F ks dk os H L s []):Zv F (.code (.regD order os ks)::dk) H L s:=by
 intro k hk;cases hk with
 |code hc ht =>
 obtain⟨id,ops,rfl,hD⟩:=ZBy hc;unfold ccD at hD;generalize ZAb F.an id=fk at hD;split at hD<;>(try(simp at hD;done));rename_i l ah kp al _ _;simp only at hD;split at hD<;>simp only[ZH0,ZId,reduceCtorEq]at hD;rename_i ad;obtain⟨rfl,rfl,rfl⟩:=hD;simp only[ZIb]at ad;obtain⟨⟨⟨au,ar⟩,ae⟩,ac⟩:=ad;obtain⟨aj,ap⟩:=Zth al;simp only[List.length_range]at aj;generalize af:ops.toList.map JJ=ds at ar ac h;have az:I ds=ops.size:=by rw[<-af];simp
 generalize hT:List.zip l ds=T at ac h;have aw:List.length T=ops.size:=by rw[<-hT];simp[aj,az]
 have am:∀(i:Nat) (o:Oper),ops[i]?=sO o->∃d,cop P F.N ops o=sO d/\T[i]?=sO (d,JJ o):=by intro i o ho;obtain⟨hi,-⟩:=Array.getElem?_eq_some_iff.1 ho;obtain⟨o',d,h1,h2,h3⟩:=ap i i (by simp[hi]);rw[ho]at h1;obtain rfl:=Option.some.inj h1;refine⟨d,h2,?_⟩;rw[<-hT,List.getElem?_zip_eq_some];exact⟨h3,by rw[<-af];simp[ho]⟩
 have ab:∀(i:Nat) (o:Oper),ops[i]?=sO o->Tab.deps T i=JJ o:=λi o ho=>by obtain⟨d,_,h2⟩:=am i o ho;simp[Tab.deps,ZIg,h2]
 have a0:∀i,i<List.length T->∃o,ops[i]?=sO o/\cop P F.N ops o=sO (Tab.op T i):=λi hi=>by have u:i<ops.size:=ω;obtain⟨d,h1,h2⟩:=am i ops[i] (by simp[u]);exact⟨ops[i],by simp[u],by simp[Tab.op,ZIg,h2,h1]⟩
 have ao:∀i,i<List.length T->∀d∈Tab.deps T i,d<i:=λi hi d hd=>by have u:i<ops.size:=ω;have he:=ab i ops[i] (by simp[u]);have:=Zmj ar i (JJ ops[i]) (by rw[<-af];simp[u]) d (by rw[<-he];exact hd);omega
 have ai:∀i,i<List.length T->ds.getD i []=Tab.deps T i:=λi hi=>by have u:i<ops.size:=ω;rw[ab i ops[i] (by simp[u]),<-af];simp[ZIg,u]
 intro g Z w tmps hN m;refine F.T.back _ _ _ _ (.one stepR_region_draw) ?_;refine F.T.ext g w g { w with drawn:=w.drawn+1 } _ (Zyr g w) ?_;have a3:∀t,Region.schedule (P.follows .mixedOrders) ops t=Region.linearise .any ops t:=λt=>by simp[Region.schedule,au]
 rw[a3];have aq:∀j,(Array.replicate ops.size false).getD j false=false:=λj=>by simp only[ZIN,Array.getElem?_replicate];split<;>rfl
 have ak:=ZDt (ops:=ops) (T:=T) aw ab ao ops.size (w.tape w.drawn (.order F.b.fn id)) (Array.replicate ops.size false) ψ (Zx9 _ _);have av:=h T (Zgi ds []) (λi=>(F.an.get (id+1000000*(i+4))).getD []) _ [] ah _ _ H L ?_ ac ψ rfl ?_ ak;refine av ops _ _ (Zvs λi hi=>a0 i (ZDu ak i hi)) ht g Z _ tmps hN (m.drawn _);intro lf ax i hi hd a ha;refine ZtM lf ds (λi hi ag d hd=>?_) ds [] [] rfl rfl (λi hi=>by simp at hi) i ω (λd ay=>hd d (by rw[<-ai i hi];exact ay)) a ha;exact ax i ω ag d (by rw[<-ai i ω];exact hd);refine⟨λi hi ag=>?_,λr hr=>aq r,λi hi h1 h2=>?_,ψ,ψ,ψ,λt=>.inl rfl,ψ,λx=>.inl rfl,ψ⟩;rw[aq]at ag;simp at ag;exfalso;simp only[ZyZ,List.all_eq_true,List.mem_range,List.contains_eq_mem,decide_eq_true_eq]at ae;exact h1 (ae i ω)
def ZdR{F:Fr P}{kp dk o f os H L s B}(hg:Zn H o.guard=sO true){fx xs}(hk:o.k=.call fx xs){p q fd es ds}(hf:ZC H true fx=sO (q,.d fd))(ha:Ya H true xs=sO (p,es))(hds:Kh es=sO ds)(hp:p)(hq:q){Ψ}(hc:WP P fd ds s Ψ)(hret:∀d s',Ψ (.ret d) s'->Wd f s s' L L B/\DOA F kp dk os (Zx H o.dst (.d d)) L s' (YZ f B))(hpan:∀d s',Ψ (.panic d) s'->Y3 F [] [] d s'):DOA F kp dk ((o,f)::os) H L s B:=by
 refine Zb5 (λe s'=>∃d,e=.d d/\Ψ (.ret d) s') (by rw[hk];rfl) (λH' L' os' i u=>?_) (λe s2 ⟨d,he,hd⟩=>by subst he;exact hret d s2 hd);have h1:ZA H H' (ZS fx):=λt ht=>i t (by simp[ZB,hk,Yj,ht]);have h2:ZA H H' (Zbe xs):=λt ht=>i t (by simp[ZB,hk,Yj,ht]);have h3:ZA H H' (ZcC o.guard):=λt ht=>i t (by simp[ZB,ht]);exact ZbL (by rw[YX h3];exact hg) hk (by rw[ZQ h1];exact hf) (by rw[Ka h2];exact ha) hds hp hq hc (λd s' hd=>u (.d d) s' ⟨d,rfl,hd⟩) (λd s' hd=>(hpan d s' hd).weak _ _)
def Zh2{F:Fr P}{kp dk o f os H L s B}(hg:Zn H o.guard=sO true){fx xs}(hk:o.k=.call fx xs){p q fi first caps es ds}(hf:ZC H true fx=sO (q,.d (.fn (.func fi) first caps)))(ha:Ya H true xs=sO (p,es))(u:Kh es=sO ds)(hp:p)(hq:q){Ψ}(hc:Za P fi (first++ds++caps) s Ψ)(t:∀d s',Ψ (.ret d) s'->Wd f s s' L L B/\DOA F kp dk os (Zx H o.dst (.d d)) L s' (YZ f B))(i:∀d s',Ψ (.panic d) s'->Y3 F [] [] d s'):DOA F kp dk ((o,f)::os) H L s B :=
 ZdR hg hk hf ha u hp hq hc.V t i
def ZqJ{F:Fr P}{kp dk o f os H L s B}(hg:Zn H o.guard=sO true){x}(u:o.k=.panic x){p t d}(ha:ZC H true x=sO (p,.d (.iface t d)))(hp:p)(h:Y3 F [] [] (.iface t d) s):DOA F kp dk ((o,f)::os) H L s B:=by
 refine Zb5 (λ_ _=>False) (by rw[u];rfl) (λH' L' os' i hcont=>?_) (λe s2 h=>h.elim);have h1:ZA H H' (ZS x):=λt ht=>i t (by simp[ZB,u,Yj,ht]);have h3:ZA H H' (ZcC o.guard):=λt ht=>i t (by simp[ZB,ht]);exact ZmR (by rw[YX h3];exact hg) u (by rw[ZQ h1];exact ha) hp (h.weak _ _)
def ZeX{F:Fr P}{kp dk o f os H L s B}(hg:Zn H o.guard=sO false)(hk:Y1 o.k=false){e}(h:DOA F kp dk os (Zx H o.dst (.when false e)) L s (YZ f B)):DOA F kp dk ((o,f)::os) H L s B:=by
 refine Zb5 (λe' s'=>e'=.when false e/\s'=s) hk (λH' L' os' u i=>?_) (λe s2 ⟨h1,h2⟩=>by subst h1;subst h2;exact⟨ZdK,h⟩);have h3:ZA H H' (ZcC o.guard):=λt ht=>u t (by simp[ZB,ht]);exact Zao (by rw[YX h3];exact hg) (i _ _ ⟨rfl,rfl⟩)
def Zwi{F:Fr P}{kp dk o f os H L s B c}(hg:Zn H o.guard=sO c){fx xs}(hk:o.k=.call fx xs){p q fi first caps es ds}(hf:ZC H c fx=sO (q,.d (.fn (.func fi) first caps)))(ha:Ya H c xs=sO (p,es))(hds:Kh es=sO ds){d}(hc:c=true->p/\q/\Zf P fi (first++ds++caps) d)(h:DOA F kp dk os (Zx H o.dst (.when c (.d d))) L s (YZ f B)):DOA F kp dk ((o,f)::os) H L s B:=by
 refine Zb5 (λe' s'=>e'=.when c (.d d)/\s'=s) (by rw[hk];rfl) (λH' L' os' i u=>?_) (λe s2 ⟨h1,h2⟩=>by subst h1;subst h2;exact⟨ZdK,h⟩);have h1:ZA H H' (ZS fx):=λt ht=>i t (by simp[ZB,hk,Yj,ht]);have h2:ZA H H' (Zbe xs):=λt ht=>i t (by simp[ZB,hk,Yj,ht]);have h3:ZA H H' (ZcC o.guard):=λt ht=>i t (by simp[ZB,ht]);exact ZqO (by rw[YX h3];exact hg) hk (by rw[ZQ h1];exact hf) (by rw[Ka h2];exact ha) hds hc (u _ _ ⟨rfl,rfl⟩)
def Zf2{F:Fr P}{kp dk o f os H L s B}(hg:Zn H o.guard=sO true){fx xs}(hk:o.k=.call fx xs){p q u first caps es ds}(hf:ZC H true fx=sO (q,.d (.fn (.func u) first caps)))(ha:Ya H true xs=sO (p,es))(t:Kh es=sO ds)(hp:p)(hq:q){d}(hc:Zf P u (first++ds++caps) d)(h:DOA F kp dk os (Zx H o.dst (.d d)) L s (YZ f B)):DOA F kp dk ((o,f)::os) H L s B :=
 Zh2 hg hk hf ha t hp hq (hc s) (λd' s' ⟨i,h2⟩=>by simp only[Res.ret.injEq]at i;subst i;subst h2;exact⟨ZdK,h⟩) (λd' s' ⟨i,_⟩=>by simp at i)
end
section
variable {P:Program}
def Zbs(P:Program)(w:World)(size m:Nat)(x:Value)(news:List Value):Prop :=
 (∀w2,(Builtin.lenOf x).run P w2=.ok m w2)/\∀w2:World,w2.heap=w.heap->(Builtin.firstCells size m x).run P w2=.ok news.toArray w2
def Zju{w t u ty e tu i}(ht:P.underlying t=sO (.slice e))(hu:P.underlying u=sO tu)(hnu:∀k,tu≠.int k)(hi:P.info? e=sO i){base n cap x}(hx:Zbs P w i.size 0 x [])(hroom:n<=cap):(Builtin.append_ #[t,u] ty #[.slice base n cap,x]).run P w=.ok (.slice base n cap) w:=by
 obtain⟨h1,h2⟩:=hx;have h2:=h2 w rfl;have hz:(match tu with|.int _=>true|_=>false)=false:=by cases tu<;>first|rfl|exact absurd rfl (hnu _)
 cases base with
 |none=>simp[Builtin.append_,run_underlying ht,run_underlying hu,hz,sizeOf,typeInfo,hi,h1,h2,hroom]
 |some a=>simp[Builtin.append_,run_underlying ht,run_underlying hu,hz,sizeOf,typeInfo,hi,h1,h2,hroom,storeCells]
def ZsV{w t u ty e tu i}(ht:P.underlying t=sO (.slice e))(hu:P.underlying u=sO tu)(hnu:∀k,tu≠.int k)(hi:P.info? e=sO i){g n cap m x news}(hx:Zbs P w i.size m x news){cur T}(hg:w.heap[g]?=sO (.cells cur T (0,0)))(h1:∀u∈news,u.oneCell'=true)(hroom:n+m<=cap)(hfit:n*i.size+I news<=cur.size):
  (Builtin.append_ #[t,u] ty #[.slice (sO ⟨g,0,nO⟩) n cap,x]).run P w =
   .ok (.slice (sO ⟨g,0,nO⟩) (n+m) cap) (w.setRow g (cur.toList.take (n*i.size)++news++cur.toList.drop (n*i.size+I news)).toArray):=by
 obtain⟨ad,ab⟩:=hx;have ab:=ab w rfl;have hz:(match tu with|.int _=>true|_=>false)=false:=by cases tu<;>first|rfl|exact absurd rfl (hnu _)
 have ac:=run_storeCells_at P g (n*i.size) T news 0 cur w hg (by simpa using hfit) h1;simp only[Nat.add_zero]at ac;simp[Builtin.append_,run_underlying ht,run_underlying hu,hz,sizeOf,typeInfo,hi,ad,ab,hroom,Addr.add_lit,ac]
def ZmZ{w t u ty e tu i z}(ht:P.underlying t=sO (.slice e))(hu:P.underlying u=sO tu)(hnu:∀k,tu≠.int k)(hi:P.info? e=sO i)(hz':i.zero=sO z){base n cap m x olds news}(hx:Zbs P w i.size m x news)(ho:∀w2:World,w2.heap=w.heap->(Builtin.firstCells i.size n (.slice base n cap)).run P w2=.ok olds.toArray w2)(hg:cap<n+m)(h63:((n+m:Nat):Int)<=9223372036854775807)(hfit:(n+m)*i.bytes<=140737488355328):
  (Builtin.append_ #[t,u] ty #[.slice base n cap,x]).run P w =
   .ok (.slice (sO ⟨w.heap.size,0,nO⟩) (n+m) (grownCap w (n+m) cap e))
    (w.drew.alloc (.cells (olds++news++(Builtin.zeroCells z.cells (grownCap w (n+m) cap e-(n+m))).toList).toArray e)):=by
 obtain⟨ae,ab⟩:=hx;have ab:=ab w.drew rfl;have ho:=ho w.drew rfl;have hz:(match tu with|.int _=>true|_=>false)=false:=by cases tu<;>first|rfl|exact absurd rfl (hnu _)
 have hn:¬(n+m<=cap):=ω;have ad:¬(9223372036854775807<((n:Int)+(m:Int))):=ω;have hf:=growslice_fits hg hfit;have ac:¬(281474976710656<Builtin.nextslicecap (n+m) cap*i.bytes):=ω;simp[Builtin.append_,run_underlying ht,run_underlying hu,hz,sizeOf,typeInfo,zeroValue,hi,hz',ae,hn,ad,ac,Question.forced,ab,ho,newRow,grownCap]
 congr 2
 apply Array.ext';simp[ZIv]
end
structure WO(g:G)(w:World)(sz n:Nat)(vals:List Value)(row:Nat->List D):Prop where
 len:I vals=n*sz
 rlen:∀i,i<n->(row i).length=sz
 rep:∀(i j:Nat) (v:Value) (d:D),i<n->j<sz->vals[i*sz+j]?=some v->(row i)[j]?=some d->Rep g w v d
 one:∀v∈vals,v.one1=true
def YW(n:Nat)(row row2:Nat->List D):Nat->List D:=λi=>if i<n then row i else row2 (i-n)
def WO.append{sz n m:Nat}{a b:List Value}{row row2:Nat->List D}(u:WO g w sz n a row)(hb:WO g w sz m b row2):WO g w sz (n+m) (a++b) (YW n row row2):={
 len:=by rw[ZIc,u.len,hb.len,ZIs]
 rlen i hi:=by unfold YW;split;rename_i h;exact u.rlen i h;exact hb.rlen (i-n) ω
 rep i j v d hi hj hv hd:=by
  unfold YW at hd;split at hd;rename_i h;have:i*sz+j<I a:=by rw[u.len];have:=ZIn sz (show i+1<=n from h);rw[ZIs,Nat.one_mul]at this;omega
  rw[ZIB this]at hv;exact u.rep i j v d h hj hv hd;rename_i h;have e:i*sz+j-I a=(i-n)*sz+j:=by rw[u.len,Nat.sub_mul];have:=ZIn sz (show n<=i by omega);omega
  have t:I a<=i*sz+j:=by rw[u.len];have:=ZIn sz (show n<=i by omega);omega
  rw[ZIL t,e]at hv;exact hb.rep (i-n) j v d ω hj hv hd
 one v hv:=by
  rcases List.mem_append.1 hv with h|h;exact u.one v h;exact hb.one v h }
def WO.mono{g t w w' sz n a row}(h:WO g w sz n a row)(e:Ext g w t w'):WO t w' sz n a row :=
 ⟨h.len,h.rlen,λi j v d hi hj hv u=>(h.rep i j v d hi hj hv u).mono e,h.one⟩
def JU{b o cs T fr}(h:w.heap[b]?=sO (.cells cs T fr)):w.cell? ⟨b,o,nO⟩=cs[o]?:=by
 unfold World.cell?;simp[h]
section
variable {P:Program}
def ZiM{g w v t n sz row}(h:Rep g w v (.sl t n sz row))(hsz:0<sz):
  ∃vals,WO g w sz n vals row/\Zbs P w sz n v vals:=by
 cases h with
 |sl0 a t s row ht =>refine⟨[],⟨ψ,λi hi=>by omega,λi j v d hi=>by omega,ψ⟩,λw2=>by simp[Builtin.lenOf],λw2 _=>by cases a<;>simp[Builtin.firstCells,loadCells,loadCellsFrom]⟩
 |sl b o n cap s row t f hl hc hp hr one ht hcap hb =>
  let vals:=(ZIf (n*sz)).map λk=>f (k / sz) (k % sz);have hk:∀k,k<n*sz->k / sz<n/\k % sz<sz:=λk hk=>⟨(Nat.div_lt_iff_lt_mul hsz).2 hk,Nat.mod_lt _ hsz⟩;have u:∀k v,vals[k]?=sO v->k<n*sz/\v=f (k / sz) (k % sz):=λk v hv=>by simp only[vals,List.getElem?_map,ZIe]at hv;obtain⟨k',h1,h2⟩:=hv;obtain⟨h3,h4⟩:=List.getElem?_eq_some_iff.1 h1;simp only[List.getElem_range]at h4;subst h4;exact⟨by simpa using h3,h2.symm⟩
  refine⟨vals,⟨by simp[vals],hl,λi j v d hi hj hv hd=>?_,λv hv=>?_⟩,λw2=>by simp[Builtin.lenOf],λw2 ad=>?_⟩;obtain⟨_,rfl⟩:=u _ _ hv;have e1:(i*sz+j) / sz=i:=by rw[Nat.mul_comm,Nat.mul_add_div hsz,Nat.div_eq_of_lt hj,Nat.add_zero]
  have e2:(i*sz+j) % sz=j:=by rw[Nat.mul_comm,Nat.mul_add_mod,Nat.mod_eq_of_lt hj]
  rw[e1,e2];exact hr i j d hi hd;obtain⟨k,ac,rfl⟩:=ZIl hv;obtain⟨h1,h2⟩:=u k _ (ZIw ac);rw[h2];exact one _ _ (hk k h1).1 (hk k h1).2;refine run_firstCells_some (P:=P) w2 sz n ⟨b,o,nO⟩ n cap vals (by simp[vals]) λk v hv=>?_;obtain⟨h1,h2⟩:=u k v hv;have ab:(⟨b,o,nO⟩:Addr).add k=⟨b,o+k,nO⟩:=Kg b o k;rw[ab];have h3:=hc (k / sz) (k % sz) (hk k h1).1 (hk k h1).2;have e:o+k / sz*sz+k % sz=o+k:=by rw[Nat.add_assoc,Nat.mul_comm,Nat.div_add_mod]
  rw[e]at h3;rw[h2,<-h3];unfold World.cell?;simp only[ad]
def Zpp{g w sz n cap b vals row}(h:WO g w sz n vals row){cur T}(hb:w.heap[b]?=sO (.cells cur T (0,0)))(ht:cur.toList.take (n*sz)=vals)(hn:n<=cap)(hcap:cap*sz<=cur.size)(hp:g.prot b=n*sz)(hbig:cap<=big):Rep g w (.slice (sO ⟨b,0,nO⟩) n cap) (.sl (.tip b) n sz row):=by
 have u:∀i j,i<n->j<sz->i*sz+j<n*sz:=λi j hi hj=>by have:=ZIn sz (show i+1<=n from hi);rw[ZIs,Nat.one_mul]at this;omega
 have hle:n*sz<=cur.size:=Nat.le_trans (ZIn sz hn) hcap;have t:∀i j,i<n->j<sz->cur[i*sz+j]?=sO (cur.getD (i*sz+j) undef)/\vals[i*sz+j]?=sO (cur.getD (i*sz+j) undef):=λi j hi hj=>by
  have h1:=u i j hi hj;have h2:i*sz+j<cur.size:=ω;have e:cur[i*sz+j]?=sO (cur.getD (i*sz+j) undef):=by simp[Array.getD,h2]
  refine⟨e,?_⟩;rw[<-ht,ZII,if_pos h1,Array.getElem?_toList];exact e
 refine .sl b 0 n cap sz row (.tip b) (λi j=>cur.getD (i*sz+j) undef) h.rlen (λi j hi hj=>?_) (λi j hi hj=>?_) (λi j d hi hd=>?_) (λi j hi hj=>?_) ⟨rfl,rfl,T,cur.size,?_,hcap⟩ hn hbig;rw[JU hb,Nat.zero_add];exact(t i j hi hj).1;rw[hp,Nat.zero_add];exact u i j hi hj;have hj:j<sz:=by rw[<-h.rlen i hi];exact(List.getElem?_eq_some_iff.1 hd).1
 exact h.rep i j _ d hi hj (t i j hi hj).2 hd;exact h.one _ (List.mem_of_getElem? (t i j hi hj).2);simp[hdr,hb]
end
def St.own(s:St)(t:Tok)(k:Nat):St :=
 match t with
 |.tip b=>s.upd b (.tip k)
 |_=>s
def Tok.okIn(t:Tok)(s:St):Prop :=
 match t with
 |.tip b=>s b=Option.none
 |.full=>True
 |.none=>False
def Y2{s}{t:Tok}{k:Nat}(h:t.okIn s):s.sub (s.own t k):=by
 intro b o i;cases t with
 |tip c =>simp only[St.own,ZID];by_cases u:b=c;subst u;simp only[Tok.okIn]at h;rw[h]at i;simp at i;simp only[u,if_false];exact i
 |_=>exact i
def Yh.upd(h:Yh g s w){b:Nat}{o:Qv}(u:WN g w b o)(t:¬g.kept b):Yh g (s.upd b o) w:={
 obj c x hx:=by simp only[ZID]at hx;by_cases i:c=b;simp only[i,if_true,ZH0]at hx;subst hx;rw[i];exact u;simp only[i,if_false]at hx;exact h.obj c x hx
 kept c x hx:=by simp only[ZID]at hx;by_cases i:c=b;rw[i];exact t;simp only[i,if_false]at hx;exact h.kept c x hx
 fresh:=h.fresh
 tabs:=h.tabs }
def ZcK(g:G)(b k:Nat):G:={ g with prot:=λc=>if c=b then k else g.prot c }
def ZAi{c:Array Value}(T:TypeId){k:Nat}(i:∀b,w.heap.size<=b->g.prot b=0/\¬g.kept b):J2 g w (ZcK g w.heap.size k) (w.drew.alloc (.cells c T)):={
 size:=by simp
 old b hb:=(by first|exact heap_alloc_old w.drew _ b hb|exact heap_alloc_old w.drew _ hb)
 prot b hb:=by simp[ZcK,show ¬b=w.heap.size by omega]
 fresh b hb:=by
  have:(w.drew.alloc (.cells c T)).heap.size=w.heap.size+1:=by simp
  rw[this]at hb;simp only[ZcK,show ¬b=w.heap.size by omega,if_false];exact(i b ω).1
 kept:=rfl
 os:=rfl
 output:=rfl
 tape:=rfl }
def Rep.slRow{g w v t n sz row row'}(h:Rep g w v (.sl t n sz row))(hr:∀i,i<n->row' i=row i):Rep g w v (.sl t n sz row'):=by
 cases h with
 |sl0 a t s row ht=>exact .sl0 a t sz row' ht
 |sl b o n cap s row t f hl hc hp hrep one ht hcap hb =>exact .sl b o n cap sz row' t f (λi u=>by rw[hr i u];exact hl i u) hc hp (λi j d u hd=>hrep i j d u (by rw[<-hr i u];exact hd)) one ht hcap hb
section
variable {P:Program}
def Zvn{sz k:Nat}{vals rest:List Value}{T:TypeId}{cap:Nat}(hs:Yh g s w)(hr:WO g w sz k vals row)(hn:k<=cap)(hrest:I vals+I rest=cap*sz)(hbig:cap<=big):
  let w':=w.drew.alloc (.cells (vals++rest).toArray T);let g':=ZcK g w.heap.size (k*sz)
  J2 g w g' w'/\Yh g' (s.own (.tip w.heap.size) (k*sz)) w'/\(Tok.tip w.heap.size).okIn s/\Rep g' w' (.slice (sO ⟨w.heap.size,0,nO⟩) k cap) (.sl (.tip w.heap.size) k sz row):=by
 intro w' g';have hg:J2 g w g' w':=ZAi T hs.fresh;have i:w'.heap[w.heap.size]?=sO (.cells (vals++rest).toArray T (0,0)):=heap_alloc_new w.drew _;have hp:g'.prot w.heap.size=k*sz:=by simp[g',ZcK]
 have t:k*sz<=(vals++rest).toArray.size:=by have:=ZIn sz hn;simp only[List.size_toArray,ZIc];omega
 refine⟨hg,(hs.grow hg).upd ⟨hp,_,T,i,t⟩ (λh=>(hs.fresh _ (ZIh _)).2 h),?_,?_⟩
 .simp only[Tok.okIn];cases u:s w.heap.size with
  |none=>rfl
  |some o=>have:=(hs.obj _ o u).lt;omega
 refine Zpp (hr.mono (hg.ext hs.fresh)) i ?_ hn ?_ hp hbig;rw[<-hr.len];simp;simp only[List.size_toArray,ZIc];omega
def ZsU{g w s t sz n m v1 v2 row row2 tT u ty e tu i z}(ht:P.underlying tT=sO (.slice e))(hu:P.underlying u=sO tu)(hnu:∀k,tu≠.int k)(hi:P.info? e=sO i)(hz:i.zero=sO z)(hsz:i.size=sz)(hzc:z.cells.size=sz)(h0:0<sz)(hs:Yh g (s.own t (n*sz)) w)(hok:t.okIn s)(h1:Rep g w v1 (.sl t n sz row)){news}(h2:WO g w sz m news row2)(h3:Zbs P w sz m v2 news)(hb:(n+m)*i.bytes<=140737488355328)(hbig:n+m<=big):
  ∃v' w' g' t',(Builtin.append_ #[tT,u] ty #[v1,v2]).run P w=.ok v' w'/\Ext g w g' w'/\Yh g' (s.own t' ((n+m)*sz)) w'/\t'.okIn s/\Rep g' w' v' (.sl t' (n+m) sz (YW n row row2)) /\
   (∀b,b<w.heap.size->t≠.tip b->w'.heap[b]?=w.heap[b]?/\g'.prot b=g.prot b)/\∀b,t'=.tip b->t=.tip b\/w.heap.size<=b:=by
 subst hsz;have ai:Yh g s w:=hs.sub (Y2 hok);obtain⟨ap,bf,ho1,ay⟩:=ZiM (P:=P) h1 h0;have ao:=bf.append h2;have aj:∀ad cap,v1=.slice ad n cap->cap<n+m->∃v' w' g' t',(Builtin.append_ #[tT,u] ty #[v1,v2]).run P w=.ok v' w'/\Ext g w g' w'/\Yh g' (s.own t' ((n+m)*i.size)) w'/\t'.okIn s /\
   Rep g' w' v' (.sl t' (n+m) i.size (YW n row row2))/\(∀b,b<w.heap.size->t≠.tip b->w'.heap[b]?=w.heap[b]?/\g'.prot b=g.prot b)/\∀b,t'=.tip b->t=.tip b\/w.heap.size<=b:=by
  intro ad cap hv bc;subst hv;have ah:=ZmZ (ty:=ty) ht hu hnu hi hz h3 ay bc (by simp only[big]at hbig;omega) hb;have a8:=grownCap_ge w (n+m) cap e;have au:=grownCap_le_maxLen w (n+m) cap e (by simp only[big]at hbig;simp only[maxLen];omega);have hn:=Zvn (T:=e) (rest:=(Builtin.zeroCells z.cells (grownCap w (n+m) cap e-(n+m))).toList) ai ao a8 (by
   simp only[Array.length_toList,size_zeroCells,hzc,ao.len,<-ZIs];congr 1;omega) (by simp only[maxLen]at au;simp only[big];omega)
  obtain⟨a1,a2,a3,a4⟩:=hn;exact⟨_,_,_,_,ah,a1.ext ai.fresh,a2,a3,a4,λb hb _=>⟨a1.old b hb,a1.prot b hb⟩,λb hb=>.inr (by simp only[Tok.tip.injEq]at hb;omega)⟩
 have aq:∀ad cap,v1=.slice ad n cap->m=0->n<=cap->∃v' w' g' t',(Builtin.append_ #[tT,u] ty #[v1,v2]).run P w=.ok v' w'/\Ext g w g' w'/\Yh g' (s.own t' ((n+m)*i.size)) w'/\t'.okIn s /\
   Rep g' w' v' (.sl t' (n+m) i.size (YW n row row2))/\(∀b,b<w.heap.size->t≠.tip b->w'.heap[b]?=w.heap[b]?/\g'.prot b=g.prot b)/\∀b,t'=.tip b->t=.tip b\/w.heap.size<=b:=by
  intro ad cap hv hm au;subst hv;subst hm;have be:news=[]:=List.eq_nil_of_length_eq_zero (by simpa using h2.len);subst be;exact⟨_,_,g,t,Zju (ty:=ty) ht hu hnu hi h3 au,Ext.refl g w,hs,hok,h1.slRow λi hi=>by simp only[YW,if_pos (show i<n from hi)],λ_ _ _=>⟨rfl,rfl⟩,λb hb=>.inl hb⟩
 cases h1 with
 |sl0 a t s row htt =>by_cases hm:m=0;exact aq a 0 rfl hm (ZIh _);exact aj a 0 rfl ω
 |sl b o n cap sz row t f hl hc hp hr one htok hcap hb' =>
  have a9:=aj (sO ⟨b,o,nO⟩) cap rfl;have bg:=aq (sO ⟨b,o,nO⟩) cap rfl;by_cases hm:m=0;exact bg hm hcap;by_cases ac:n+m<=cap;case neg=>exact a9 ω
  cases t with
  |none=>exact hok.elim
  |full=>simp only[Zli]at htok;omega
  |tip tb =>
   obtain⟨rfl,rfl,T0,m0,hh,hm0⟩:=htok;have az:=hs.obj b (.tip (n*i.size)) (by simp[St.own,ZID]);have af:=hs.kept b (.tip (n*i.size)) (by simp[St.own,ZID]);obtain⟨a6,ab,T,ae,hb2⟩:=az;have ar:cap*i.size<=ab.size:=by simp only[hdr,ae,ZH0,ZId]at hh;omega
   have ax:n*i.size+I news<=ab.size:=by rw[h2.len,<-ZIs];exact Nat.le_trans (ZIn _ ac) ar
   have ah:=ZsV (ty:=ty) ht hu hnu hi h3 ae (λv hv=>by rw[Zdp];exact h2.one v hv) ac ax;have al:∀k v,(ab.toList.take (n*i.size))[k]?=sO v->w.cell? ((⟨b,0,nO⟩:Addr).add k)=sO v:=λk v hv=>by rw[Kg,JU ae,Nat.zero_add];rw[ZII]at hv;split at hv;simpa using hv;simp at hv
   have a0:ap=ab.toList.take (n*i.size):=by have h:=run_firstCells_some (P:=P) w i.size n ⟨b,0,nO⟩ n cap (ab.toList.take (n*i.size)) (by simp;omega) al;rw[ay w rfl]at h;simpa using h
   generalize aw:ab.toList.take (n*i.size)++news++ab.toList.drop (n*i.size+I news)=nw at ah;have av:I nw=ab.size:=by rw[<-aw];simp only[ZIc,ZIm,ZIG,Array.length_toList];omega
   have am:=setRow_heap w b ab nw.toArray T (0,0) ae;have ak:∀c,c≠b->(w.setRow b nw.toArray).heap[c]?=w.heap[c]?:=λc hc=>setRow_other w b c _ hc;have a7:(w.setRow b nw.toArray).heap.size=w.heap.size:=by simp[World.setRow]
   have ba:n*i.size<=(n+m)*i.size:=ZIn _ ω;have ag:Ext g w (ZcK g b ((n+m)*i.size)) (w.setRow b nw.toArray):=by
    refine⟨ω,λc=>?_,λc o ho=>?_,λc x hx=>?_,λc hc=>ak c (λh=>af (h▸hc)),λc hc=>?_,rfl,rfl,rfl,rfl⟩;simp only[ZcK];split;rename_i h;rw[h,a6];exact ba;exact ZIh _;by_cases hc:c=b;subst hc;rw[JU am,JU ae];rw[a6]at ho;have:o<(ab.toList.take (n*i.size)).length:=by simp;omega
    rw[List.getElem?_toArray,<-aw,ZIv,ZIB this,ZII,if_pos ho];simp;exact JD (ak c hc);by_cases hc:c=b;subst hc;simp only[hdr,ae]at hx;simp only[hdr,am,List.size_toArray,av];exact hx;rw[Zbv (ak c hc)];exact hx;simp only[ZcK];split;rename_i h;exact absurd hc (h▸af);rfl
   have a5:(ZcK g b ((n+m)*i.size)).prot b=(n+m)*i.size:=by simp[ZcK]
   refine⟨_,_,ZcK g b ((n+m)*i.size),.tip b,ah,ag,?_,hok,?_,λc _ hc=>?_,λc hc=>.inl hc⟩;refine⟨λc x hx=>?_,λc x hx=>?_,λc hc=>?_,λn cs hc=>(ai.tabs n cs hc).mono ag⟩;by_cases hc:c=b;subst hc;simp only[St.own,ZID,if_true,ZH0]at hx;subst hx;refine⟨a5,_,T,am,?_⟩;simp only[List.size_toArray,av];exact Nat.le_trans (ZIn _ ac) ar;simp only[St.own,ZID,hc,if_false]at hx;exact(ai.obj c x hx).mono ag (ak c hc) (by simp[ZcK,hc]);by_cases hc:c=b;rw[hc];exact af;simp only[St.own,ZID,hc,if_false]at hx;exact ai.kept c x hx;rw[a7]at hc;have hbl:b<w.heap.size:=(Array.getElem?_eq_some_iff.1 ae).1;simp only[ZcK,show ¬c=b by omega,if_false];exact ai.fresh c hc;refine Zpp (ao.mono ag) am ?_ ac (by simp only[List.size_toArray,av];exact ar) a5 hb';have bb:(ap++news).length=(n+m)*i.size:=ao.len;rw[<-aw,a0,<-bb,a0];exact List.take_left;have:c≠b:=λh=>hc (by rw[h]);exact⟨ak c this,by simp[ZcK,this]⟩
end
end Go.DL
namespace Go.DL
open Go Go.Lib
variable [ZsL]
def ZaT(s:Nat):D->Option (Nat×(Nat->List D))
 |.nilsl=>sO (0,λ_=>[])
 |.sl _ m s' row=>if s'=s then sO (m,row) else nO
 |.str l=>if s=1 then sO (I l,λi=>[.int .u8 ((l.getD i 0).toNat:Int)]) else nO
 |_=>nO
def Zee(s:Nat):D->Option (Tok×Nat×(Nat->List D))
 |.nilsl=>sO (.full,0,λ_=>[])
 |.sl t n s' row=>if s'=s then sO (t,n,row) else nO
 |_=>nO
def Zhp{g w v d sz n t row}(h:Rep g w v d)(i:Zee sz d=sO (t,n,row)):Rep g w v (.sl t n sz row):=by
 cases d<;>simp only[Zee,reduceCtorEq]at i;simp only[ZH0,ZId]at i;obtain⟨rfl,rfl,rfl⟩:=i;cases h;exact .sl0 _ _ _ _ ψ;split at i<;>simp only[ZH0,ZId,reduceCtorEq]at i;rename_i u;obtain⟨rfl,rfl,rfl⟩:=i;subst u;exact h
section
variable {P:Program}
def ZaP{op e s b z x y}(h:ck P op=sO (.append e s b z x y)) :
  ∃x' y' args ats t1 t2 tu,op=.call ⟨.builtin .append,args,ats⟩/\args.toList=[x',y']/\ats[0]?=sO t1/\ats[1]?=sO t2/\P.underlying t1=sO (.slice e)/\P.underlying t2=sO tu/\(∀k,tu≠.int k) /\
   ZT P e=sO s/\Zak P e=sO z/\b=P.bytesOf e/\ZW x'=sO x/\ZW y'=sO y/\0<s/\I z=s:=by
 unfold ck at h;split at h;simp at h;split at h<;>(try(simp at h;done));all_goals (try(repeat' (split at h<;>(try(simp at h;done)))))
 all_goals
  simp only[ZH0,K.append.injEq]at h;obtain⟨rfl,rfl,rfl,rfl,rfl,rfl⟩:=h
 rename_i c _ _ t _ _ _ e' x' y' h0 u _ _ _ _ s' z' l' c' ac af ad ae t2 el h1 i;obtain⟨t1,g1,g2⟩:=Option.bind_eq_some_iff.1 h0;obtain⟨t3,g3,g4⟩:=Option.bind_eq_some_iff.1 h1;simp only[ZIb,decide_eq_true_eq]at i;obtain⟨ab,args,ats⟩:=c;simp only at t;subst t;exact⟨x',y',args,ats,t1,t3,_,rfl,u,g1,g3,g2,g4,λk h=>by simp at h,ac,af,rfl,ad,ae,i.1,i.2⟩;rename_i c _ _ t _ _ _ e' x' y' h0 u _ _ _ _ s' z' l' c' ac af ad ae t2 h1 i;obtain⟨t1,g1,g2⟩:=Option.bind_eq_some_iff.1 h0;obtain⟨t3,g3,g4⟩:=Option.bind_eq_some_iff.1 h1;simp only[ZIb,decide_eq_true_eq]at i;obtain⟨ab,args,ats⟩:=c;simp only at t;subst t;exact⟨x',y',args,ats,t1,t3,_,rfl,u,g1,g3,g2,g4,λk h=>by simp at h,ac,af,rfl,ad,ae,i.1,i.2⟩
def Zm7{g w v d sz m row}(h:Rep g w v d)(he:ZaT sz d=sO (m,row))(h0:0<sz):∃news,WO g w sz m news row/\Zbs P w sz m v news:=by
 cases d with
 |nilsl =>simp only[ZaT,ZH0,ZId]at he;obtain⟨rfl,rfl⟩:=he;cases h;exact⟨[],⟨ψ,λi hi=>by omega,λi j v d hi=>by omega,ψ⟩,λw2=>by simp[Builtin.lenOf],λw2 _=>by simp[Builtin.firstCells]⟩
 |sl t n s' row' =>simp only[ZaT]at he;split at he<;>simp only[ZH0,ZId,reduceCtorEq]at he;rename_i hs;obtain⟨rfl,rfl⟩:=he;subst hs;exact ZiM h h0
 |str l =>
  simp only[ZaT]at he;split at he<;>simp only[ZH0,ZId,reduceCtorEq]at he;rename_i hs;obtain⟨rfl,rfl⟩:=he;subst hs;cases h with
  |str s _ hl hb =>
   subst hl;have u:s.size=I s.data.toList:=by rw[Array.length_toList];rfl
   refine⟨strCells s,⟨by simp[strCells],λi hi=>rfl,λi j v d hi hj hv hd=>?_,λv hv=>by rw[<-Zdp];exact strCells_oneCell s v hv⟩,λw2=>by simp only[Builtin.lenOf,Sem.run_pure,u],λw2 _=>?_⟩;obtain rfl:j=0:=ω;simp only[Nat.mul_one,Nat.add_zero,strCells,List.getElem?_map,ZIe]at hv;obtain⟨b,ab,rfl⟩:=hv;simp only[List.getElem?_cons_zero,ZH0]at hd;subst hd;have:s.data.toList.getD i 0=b:=by simp only[ZIg,ab,ZIH]
   rw[this];exact .int .u8 _ (ZtB b);rw[<-u];exact run_firstCells_string w2 1 s
 |_=>simp[ZaT]at he
def ZxQ{F:Fr P}{kp dk o os H L s}(hg:Zn H o.guard=sO true){e sz b z x y}(hk:o.k=.append e sz b z x y)
  {p q t n m row row2 dy dx} (hx:ZC H true x=sO (p,.d dx)) (hsl:Zee sz dx=sO (t,n,row)) (hy:ZC H true y=sO (q,.d dy)) (hp:p) (hq:q) (hel:ZaT sz dy=sO (m,row2)) (hok:t.okIn s)
  (hb:(n+m)*b<=140737488355328) (hbig:n+m<=big) (h:∀t':Tok,t'.okIn s->DO F kp dk os (Zx H o.dst (.d (.sl t' (n+m) sz (YW n row row2)))) L (s.own t' ((n+m)*sz))) :
  DO F kp dk (o::os) H L (s.own t (n*sz)):=by
 refine Y5 λoo g Z w tmps bi i r k az ab ar ai hd hN M hr au=>?_;have hw:=Z9 M ar hg;have ax:=Yd ab (by rw[hk];rfl);rw[hk]at ab;obtain⟨x',y',ag,ak,t1,t2,tu,a0,u,al,am,bb,bc,ay,ba,hz,ap,be,bf,h0,hzl⟩:=ZaP ab;subst ap;have a8:Rep g w _ (.sl t n sz row):=Zhp (Z0 M be rfl hx hp F.ds) hsl;have a9:Rep g w _ _:=Z0 M bf rfl hy hq F.ds;obtain⟨zv,hz1,bg,hz3,ie,ac,bh⟩:=Qf (g:=g) (w:=w) hz;have ae:ie.size=sz:=by simpa[ZT,ac]using ba
 have af:zv.cells.size=sz:=by have:=bg.len;simp at this;omega
 have aq:P.bytesOf e=ie.bytes:=by simp[Program.bytesOf,ac]
 rw[aq]at hb;obtain⟨news,av,aw⟩:=Zm7 (P:=P) a9 hel h0;obtain⟨v',w',g',t',a1,a2,a3,a4,a5,a6,a7⟩:=ZsU (ty:=oo.type) bb bc ay ac bh ae af h0 M.st hok a8 av aw hb hbig;have ad:∀l cs,Zg L l=sO cs->t≠.tip (Z l):=λl cs hl ht=>by have:=M.locSt l cs hl;rw[ht]at this;simp[St.own,ZID]at this
 have aj:∀l cs,Zg L l=sO cs->s (Z l)=nO:=λl cs hl=>by
  cases hx:s (Z l) with
  |none=>rfl
  |some o=>have:=Y2 (k:=n*sz) hok _ _ hx;rw[M.locSt l cs hl]at this;simp at this
 have mm:Zw g' Z w' tmps H L (s.own t' ((n+m)*sz)):=by
  refine⟨a3,λl cs hl=>(M.loc l cs hl).mono a2 (a6 (Z l) (M.loc l cs hl).lt (ad l cs hl)).1 (a6 (Z l) (M.loc l cs hl).lt (ad l cs hl)).2,λl cs hl=>by rw[a2.keptEq];exact M.locKept l cs hl,λl cs hl=>?_,M.inj,λt e he=>(M.env t e he).mono a2⟩;cases t' with
  |tip b =>
   have:¬Z l=b:=λhb=>by rcases a7 b rfl with h1|h1;exact ad l cs hl (by rw[hb];exact h1);have:=(M.loc l cs hl).lt;omega
   simp only[St.own,ZID,this,if_false];exact aj l cs hl
  |_=>exact aj l cs hl
 refine Yl hN az ai hd hw ax (v:=v') (w':=w') (e:=.d (.sl t' (n+m) sz (YW n row row2))) ?_ a2 mm a5 (h t' a4 bi r k hr au);have ao:ag = #[x',y']:=by apply Array.ext';simpa using u
 have ah:∀vs,Builtin.append_ ak oo.type vs=Builtin.append_ #[t1,t2] oo.type vs:=λvs=>by unfold Builtin.append_;simp[al,am]
 unfold execOp;simp only[a0,ao,resolve,invoke,builtin,Sem.run_bind,Sem.run_pure,Result.andThen_ok,List.map_toArray,ZIj,ZIA,ah,a1]
end
end Go.DL
namespace Go.DL
open Go
variable [ZsL]
variable {kp:Option (List Nat)}{L:Loc}{H:Env}{s:St}{w:World}{os:List DOp}{ds:List D}{B:List (Nat × Rd)}{dst:Option Nat}{tmps:Array Value}{g:G}{Φ:Res->St->Prop}{Z:Nat->Nat}{xs:List Opd}{side:Prop}{row:Nat->List D}
def ZxH(os:List DOp):List (DOp×List Nat):=os.map λo=>(o,[])
section
variable {P:Program}
def Q6(F:Fr P)(kp:Option (List Nat))(dk:List W2)(os:List DOp)(H:Env)(L:Loc)(s:St):Prop:=∀B,DOA F kp dk (ZxH os) H L s B
def Zwl{F:Fr P}{i os ks dk H L s}(h:Q6 F ks dk os H L s):Zv F (.code (.regD i (ZxH os) ks)::dk) H L s:=Zjn (h [])
def YM{F:Fr P}{ks dk}:∀{os H L s},
  ZjL (λH L s=>Zv F dk (Yn H ks) (Za9 (Yn H ks) L) s) (λos H L s=>Q6 F (sO ks) dk os H L s) os H L s->Q6 F (sO ks) dk os H L s
 | [],H,L,s,h=>λB=>ZpI h
 |o::os,H,L,s,h=>by intro B;simp only[ZjL]at h;split at h;rename_i u H' L' s' i;refine Jn i h.1 ?_;split;exact YM h.2 _;exact⟨J9,YM h.2 _⟩;rename_i u pre H' s' i;exact ZpH i h.1 λb t=>⟨J9,YM (h.2 b t) _⟩;exact h B
def ZnN{F:Fr P}{kp dk o os H L s}(hg:Zn H o.guard=sO true){fx xs}(hk:o.k=.call fx xs){p q fd es ds}(hf:ZC H true fx=sO (q,.d fd))(ha:Ya H true xs=sO (p,es))(u:Kh es=sO ds)(hp:p)(hq:q){Ψ}(hc:WP P fd ds s Ψ)(t:∀d s',Ψ (.ret d) s'->Q6 F kp dk os (Zx H o.dst (.d d)) L s')(i:∀d s',Ψ (.panic d) s'->Y3 F [] [] d s'):Q6 F kp dk (o::os) H L s :=
 λB=>ZdR hg hk hf ha u hp hq hc (λd s' h=>⟨J9,t d s' h _⟩) i
def ZxM{F:Fr P}{kp dk o os H L s}(hg:Zn H o.guard=sO true){fx xs}(hk:o.k=.call fx xs){p q fi first caps es ds}(hf:ZC H true fx=sO (q,.d (.fn (.func fi) first caps)))(ha:Ya H true xs=sO (p,es))(u:Kh es=sO ds)(hp:p)(hq:q){Ψ}(hc:Za P fi (first++ds++caps) s Ψ)(t:∀d s',Ψ (.ret d) s'->Q6 F kp dk os (Zx H o.dst (.d d)) L s')(i:∀d s',Ψ (.panic d) s'->Y3 F [] [] d s'):Q6 F kp dk (o::os) H L s :=
 ZnN hg hk hf ha u hp hq hc.V t i
def Zwg{F:Fr P}{kp dk o os H L s}(u:Zn H o.guard=sO true){x}(hk:o.k=.panic x){p t d}(i:ZC H true x=sO (p,.d (.iface t d)))(hp:p)(h:Y3 F [] [] (.iface t d) s):Q6 F kp dk (o::os) H L s:=λ_=>ZqJ u hk i hp h
def Zwh{F:Fr P}{kp dk o os H L s}(hg:Zn H o.guard=sO true){u xs}(hk:o.k=.call u xs){p q t first caps es ds}(hf:ZC H true u=sO (q,.d (.fn (.func t) first caps)))(ha:Ya H true xs=sO (p,es))(i:Kh es=sO ds)(hp:p)(hq:q){d}(hc:Zf P t (first++ds++caps) d)(h:Q6 F kp dk os (Zx H o.dst (.d d)) L s):Q6 F kp dk (o::os) H L s:=λ_=>Zf2 hg hk hf ha i hp hq hc (h _)
end
def Jc(l b:Nat):E->E
 |.d v=>.d v
 |.loc l' off=>if l'=l then .d (.ptr b off) else .loc l' off
 |.when c e=>.when c (Jc l b e)
def JW(l b:Nat):Env->Env
 | []=>[]
 | (t,e)::r=>(t,Jc l b e)::JW l b r
def delL(l:Nat):Loc->Loc
 | []=>[]
 | (k,c)::r=>if k=l then delL l r else (k,c)::delL l r
def ZdI(l b):∀(H t),ZM (JW l b H) t=(ZM H t).map (Jc l b)
 | [],t=>rfl
 | (k,e)::r,t=>by simp only[JW,ZM];by_cases h:k=t;simp[h];simp only[h,if_false];exact ZdI l b r t
def Zdg(l):∀(L x),Zg (delL l L) x=if x=l then nO else Zg L x
 | [],x=>by simp[delL,Zg]
 | (k,c)::r,x=>by simp only[delL];by_cases h:k=l;simp only[h,if_true,Zg,Zdg l r x];by_cases i:x=l;simp[i];simp[i,show ¬l=x from λh=>i h.symm];simp only[h,if_false,Zg,Zdg l r x];by_cases i:x=l;subst i;simp[h];simp[i]
section
variable {P:Program}
def ZK.expose{g Z w L l v e}(h:ZK g Z w L v e):ZK g Z w (delL l L) v (Jc l (Z l) e):=by
 induction e with
 |d x=>exact h
 |loc l' off =>obtain⟨⟨u,i⟩,rfl⟩:=h;simp only[Jc];split;rename_i t;subst t;exact Rep.ptr _ _;rename_i t;exact⟨⟨u,by rw[Zdg,if_neg t];exact i⟩,rfl⟩
 |when c e ih=>exact⟨λhc=>ih (h.1 hc),h.2⟩
def Zw.expose{g Z w tmps H L s}(m:Zw g Z w tmps H L s){l cs}(hl:Zg L l=sO cs):
  s (Z l)=nO/\Zw g Z w tmps (JW l (Z l) H) (delL l L) (s.upd (Z l) (.cells cs)):=by
 have u:∀l' i,Zg (delL l L) l'=sO i->l'≠l/\Zg L l'=sO i:=λl' i h=>by rw[Zdg]at h;split at h;simp at h;exact⟨‹_›,h⟩
 refine⟨m.locSt l cs hl,⟨m.st.updL (o:=.cells cs) (m.loc l cs hl) (m.locKept l cs hl),λl' i h=>m.loc l' i (u l' i h).2,λl' i h=>m.locKept l' i (u l' i h).2,λl' i h=>?_,λa b ca cb ha hb ab=>m.inj a b ca cb (u a ca ha).2 (u b cb hb).2 ab,λt e he=>?_⟩⟩;obtain⟨h1,h2⟩:=u l' i h;have:Z l'≠Z l:=λhh=>h1 (m.inj l' l i cs h2 hl hh);simp only[ZID,this,if_false];exact m.locSt l' i h2;rw[ZdI]at he;simp only[ZIe]at he;obtain⟨e0,h1,rfl⟩:=he;exact(m.env t e0 h1).expose
def ZdC{F:Fr P}{dk}{H}{L}{s}(l){cs}(hl:Zg L l=sO cs)(h:∀b,s b=nO->Zv F dk (JW l b H) (delL l L) (s.upd b (.cells cs))):Zv F dk H L s:=by
 intro k hk g Z w tmps u m;obtain⟨i,t⟩:=m.expose hl;exact h (Z l) i k hk g Z w tmps u t
def WB:List Nat->List D->Env->Env
 |t::ts,a::as9,H=>WB ts as9 ((t,.d a)::H)
 |_,_,H=>H
def Zkz(P:Program)(c:Frame)(cs:List Frame)(Φ:Res->St->Prop):Zwo P where
 T g w m:=∃e w',Zhl g w Φ e w'/\ZCC P m c cs e w'
 back g w m m' hs h:=by
  obtain⟨e,w',a,b⟩:=h;refine⟨e,w',a,?_⟩;cases e with
  |returned v=>exact Steps.trans hs b
  |panicked ch=>exact Steps.trans hs b
  |outgrown=>exact b.elim
 ext g w g' w' m hx h:=by obtain⟨e,w2,⟨g2,s2,r,d1,d2,d3,d4⟩,b⟩:=h;exact⟨e,w2,⟨g2,s2,r,hx.trans d1,d2,d3,d4⟩,b⟩
def Zbf(P:Program)(an:Ann)(fn:FuncId)(N l:Nat)(c:Frame)(cs:List Frame)(Φ:Res->St->Prop):Fr P where
 T:=Zkz P c cs Φ
 b:={ (dE:Frame) with fn,kind:=.normal,roundOf:=sO l }
 cs:=c::cs
 N:=N
 ds:=[]
 an:=an
def K7(F:Fr P)(l:Nat)(Φ:Res->St->Prop):Prop:=∃an fn N c cs,F=Zbf P an fn N l c cs Φ
def Jl{w r o}(i:w.heap[r]?=sO (.loop o)):(getObj r).run P w=.ok (.loop o) w:=by
 simp[getObj,Sem.run,i]
def ZcR{w r o o'}(hb:w.heap[r]?=sO (.loop o')):(setObj r o).run P w=.ok () { w with heap:=w.heap.setIfInBounds r o }:=by
 simp[setObj,Sem.run,hb]
def ZDv{b o'}{o}(hb:w.heap[b]?=sO o'):({ w with heap:=w.heap.setIfInBounds b o }:World).heap[b]?=sO o:=by
 have:=(Array.getElem?_eq_some_iff.1 hb).1;simp[Array.getElem?_setIfInBounds,this]
def Zw.loopTo{g Z w tmps H L s}(m:Zw g Z w tmps H L s){l r st st'}(hs:s l=sO (.loop r st)){lp}(hh:w.heap[l]?=sO (.loop lp))(lp')(h1:lp'.fn=lp.fn/\lp'.params=lp.params/\lp'.assign=lp.assign/\lp'.body=lp.body/\lp'.defers=lp.defers/\lp'.tmps=lp.tmps)(h2:match st' with|.ready=>lp'.state=.ready/\lp'.pending=nO|.busy=>lp'.state=.busy|.done j=>lp'.state=.done/\lp'.pending=sO j):
  Ext g w g { w with heap:=w.heap.setIfInBounds l (.loop lp') }/\Zw g Z { w with heap:=w.heap.setIfInBounds l (.loop lp') } tmps H L (s.upd l (.loop r st')):=by
 obtain⟨hp,l0,a1,a2,a3,a4,a5,a6,a7,a8,a9⟩:=m.st.obj l _ hs;rw[hh]at a1;simp only[ZH0,Obj.loop.injEq]at a1;subst a1;obtain⟨b1,b2,b3,b4,b5,b6⟩:=h1;have he:=Zcx (g:=g) (w:=w) l (.loop lp') (by simp[hdr,hh]) hp (m.st.kept l _ hs);refine⟨he,m.named hs he ψ (λc hc=>JO hc) ⟨hp,lp',ZDv hh,by rw[b1,a2],by rw[b2,a3],by rw[b3,a4],by rw[b4,a5],by rw[b5,a6],by rw[b6];exact a7,λt e ht=>by rw[b6];exact(a8 t e ht).mono he,h2⟩⟩
def K7.begin{F:Fr P}{l Φ}(hF:K7 F l Φ){dk H L s r}(u:s l=sO (.loop r .ready))(h:Zv F dk H L (s.upd l (.loop r .busy))):Zv F (.beginR::dk) H L s:=by
 obtain⟨an,fn,N,c,t,rfl⟩:=hF;intro k hk;cases hk with
 |beginR ht =>
  intro g Z w tmps hN m;obtain⟨hp,l0,a1,a2,a3,a4,a5,a6,a7,a8,a9,a10⟩:=m.st.obj l _ u;obtain⟨he,m'⟩:=m.loopTo (st':=.busy) u a1 { l0 with state:=.busy } ⟨rfl,rfl,rfl,rfl,rfl,rfl⟩ rfl;have i:(Instr.beginRound l).run P w=.ok () { w with heap:=w.heap.setIfInBounds l (.loop { l0 with state:=.busy }) }:=by simp[Instr.beginRound,Instr.getLoop,Jl a1,ZcR a1,a9]
  refine(Zkz P c t Φ).back _ _ _ _ (.one (stepR_beginRound rfl i)) ?_;exact(Zkz P c t Φ).ext _ _ _ _ _ he (h _ ht g Z _ tmps hN m')
def Zfi{w l l0}(h:w.heap[l]?=sO (.loop l0))(j):
  (Instr.endRound l j).run P w=.ok (.bool j.isNone) { w with heap:=w.heap.setIfInBounds l (.loop { l0 with state:=if j.isNone then .ready else .done,pending:=j }) }:=by
 simp[Instr.endRound,Instr.getLoop,Jl h,ZcR h]
def K7.fin{F:Fr P}{l Φ}(u:K7 F l Φ){H L s s' r}(t:s l=sO (.loop r .busy))(i:s'.sub (s.upd l (.loop r .ready)))(hΦ:Φ (.ret (.bool true)) s'):Zv F [] H L s:=by
 obtain⟨an,fn,N,c,cs,rfl⟩:=u;intro k hk;cases hk;intro g Z w tmps hN m;obtain⟨hp,l0,a1,_⟩:=m.st.obj l _ t;obtain⟨he,m'⟩:=m.loopTo (st':=.ready) t a1 { l0 with state:=.ready,pending:=nO } ⟨rfl,rfl,rfl,rfl,rfl,rfl⟩ ⟨rfl,rfl⟩;exact⟨.returned (.bool true),_,⟨g,s',.ret (.bool true),he,m'.st.sub i,.bool true,hΦ⟩,.one (stepR_round_end rfl rfl (Zfi a1 nO))⟩
def K7.ret{F:Fr P}{l Φ}(u:K7 F l Φ){dk H L s s' r}(t:s l=sO (.loop r .busy))(i:s'.sub (s.upd l (.loop r (.done .ret))))(hΦ:Φ (.ret (.bool false)) s'):
  Zv F (.code .ret::dk) H L s:=by
 obtain⟨an,fn,N,c,cs,rfl⟩:=u;intro k hk;cases hk with
 |code hc ht =>obtain rfl:=Zs2 hc;intro g Z w tmps hN m;obtain⟨hp,l0,a1,_⟩:=m.st.obj l _ t;obtain⟨he,m'⟩:=m.loopTo (st':=.done .ret) t a1 { l0 with state:=.done,pending:=sO .ret } ⟨rfl,rfl,rfl,rfl,rfl,rfl⟩ ⟨rfl,rfl⟩;exact⟨.returned (.bool false),_,⟨g,s',.ret (.bool false),he,m'.st.sub i,.bool false,hΦ⟩,.one (stepR_round_ret rfl rfl (Zfi a1 (sO .ret)))⟩
def K7.exit{F:Fr P}{l id Φ}(u:K7 F l Φ){dk H L s s' r}(hx:Q2 id dk=nO)(t:s l=sO (.loop r .busy))(i:s'.sub (s.upd l (.loop r (.done (.exit id)))))(hΦ:Φ (.ret (.bool false)) s'):Zv F (.code (.exit id)::dk) H L s:=by
 obtain⟨an,fn,N,c,cs,rfl⟩:=u;intro k hk;cases hk with
 |code hc ht =>obtain rfl:=Zvo hc;intro g Z w tmps hN m;obtain⟨hp,l0,a1,_⟩:=m.st.obj l _ t;obtain⟨he,m'⟩:=m.loopTo (st':=.done (.exit id)) t a1 { l0 with state:=.done,pending:=sO (.exit id) } ⟨rfl,rfl,rfl,rfl,rfl,rfl⟩ ⟨rfl,rfl⟩;exact⟨.returned (.bool false),_,⟨g,s',.ret (.bool false),he,m'.st.sub i,.bool false,hΦ⟩,.one (stepR_round_exit rfl rfl (Za7 ht hx) (Zfi a1 (sO (.exit id))))⟩
def K7.pan{F l Φ}(hF:K7 F l Φ){H L d s s'}(u:s'.sub s)(hΦ:Φ (.panic d) s')(hfn:∀an t N c cs,F=Zbf P an t N l c cs Φ->∃f,P.funcs[t]?=sO f):Y3 F H L d s:=by
 obtain⟨an,t,N,c,cs,rfl⟩:=hF;intro g Z w v i tmps hN m hr;obtain⟨f,hf⟩:=hfn an t N c cs rfl;refine⟨.panicked [{ v,recovered:=false }],w,⟨g,s',.panic d,Ext.refl g w,m.st.sub u,⟨v,rfl,hr⟩,hΦ⟩,.one ?_⟩;exact step_leave_panicked (P:=P) (fr:={ (Zbf P an t N l c cs Φ).b.atR ⟨tmps,[]⟩ i with mode:=.panicking [{ v,recovered:=false }] }) ⟨rfl,rfl,f,hf⟩
def ZiI{g Z w L s N}:∀{ps ds vs tmps H},Zw g Z w tmps H L s->ZI (Rep g w) vs ds->I ds=I ps->(∀t∈ps,t<N)->N<=tmps.size ->
  N<=((ps.zip vs).foldl (λtmps (x:Nat×Value)=>tmps.setIfInBounds x.1 x.2) tmps).size/\Zw g Z w ((ps.zip vs).foldl (λtmps (x:Nat×Value)=>tmps.setIfInBounds x.1 x.2) tmps) (WB ps ds H) L s
 | [],_,_,tmps,H,m,_,_,_,hN=>by simpa[WB]using⟨hN,m⟩
 |t::ps,[],_,tmps,H,m,_,hl,_,_=>by simp at hl
 |t::ps,d::ds,v::vs,tmps,H,m,.cons h1 h2,hl,hp,hN=>by have m':=m.put (t:=t) (v:=v) (e:=.d d) (by have:=hp t ψ;omega) h1;simpa[WB]using ZiI m' h2 (by simpa using hl) (λu i=>hp u (by simp[i])) (by simpa using hN)
def Q5:Env->Env
 | []=>[]
 | (t,e)::r=>if (Ke e).isEmpty then (t,e)::Q5 r else Q5 r
def W1(ks:List Nat)(H:Env):Env:=Q5 (Yn H ks)
def ZeA:∀{H t e},(H.map (·.1)).Nodup->ZM (Q5 H) t=sO e->ZM H t=sO e/\Ke e=[]
 | [],t,e,_,h=>by simp[Q5,ZM]at h
 | (k,x)::r,t,e,hn,h=>by
  simp only[ZIj,List.nodup_cons]at hn;simp only[Q5]at h;split at h;rename_i hx;simp only[ZM]at h⊢;by_cases u:k=t;simp only[u,if_true,ZH0]at h⊢;subst h;exact⟨rfl,by simpa using hx⟩;simp only[u,if_false]at h⊢;exact ZeA hn.2 h;obtain⟨h1,h2⟩:=ZeA hn.2 h;refine⟨?_,h2⟩;have i:k≠t:=λu=>by subst u;have:=Zg1 h1;exact hn.1 (List.mem_map.2 ⟨_,this,rfl⟩)
  simp only[ZM,i,if_false];exact h1
def Zo0{g Z Z' w L L' v e}(h:ZK g Z w L v e)(i:Ke e=[]):ZK g Z' w L' v e:=by
 induction e with
 |d x=>exact h
 |loc l o=>simp[Ke]at i
 |when c e ih=>exact⟨λt=>ih (h.1 t) i,h.2⟩
def Fr.mark(F:Fr P)(q:Nat):Fr P:={ F with ds:=DD.def (.mark q)::F.ds }
def ZhR{b:Frame}{a k cs w g ps assign body l mark w₁ d nx fr}(he:(Instr.enterLoop b.fn a.tmps ps assign body b.roundOf).run P w=.ok (l,mark) w₁)(hres:(Deferred.ofValue (a.eval g) #[.func (.yield l) #[] #[]]).run P w₁=.ok d w₁)(hinv:(invoke d.target d.args).run P w₁=.ok nx w₁)(hnx:Zgm P nx=sO fr):
  step P (lone (b.atR a (.code (.rangeFunc g ps assign body)::k)) cs w) =
   .next (lone fr (b.atR { a with defers:=mark++a.defers } (.inRangeFunc l::k)::cs) w₁) :=
 step_lone_go (by
  have t:=Frame.eval_atR b { a with defers:=mark++a.defers } (.inRangeFunc l::k);simp only[Frame.atR]at t;have i:Sem.run P (resolve ({ tmps:=a.tmps,defers:=mark++a.defers }:Act).eval { callee:=.value g,args:=#[.const (.func (.yield l) #[] #[])],argTypes:=#[] } 0) w₁=.ok d w₁:=by
   simp only[resolve];have e1:({ tmps:=a.tmps,defers:=mark++a.defers }:Act).eval g=a.eval g:=by cases g<;>rfl
   have e2:Array.map ({ tmps:=a.tmps,defers:=mark++a.defers }:Act).eval #[Operand.const (Value.func (Fn.yield l) #[] #[])] = #[.func (.yield l) #[] #[]]:=by simp[Act.eval]
   rw[e1,e2];exact hres
  cases nx<;>simp only[Zgm,ZH0,reduceCtorEq]at hnx<;>subst hnx <;>
   simp[stepG,stepG.exec,Frame.atR,Sem.runT_eq,he,GStep.bare_after,stepG.apply,t,Sem.run_bind,i,hinv,Result.andThen])
def Zjr(F:Fr P)(l:Nat)(r:Zb7)(dk:List W2)(H:Env)(L:Loc)(s':St):Prop :=
 (s' l=sO (.loop r .ready)/\Zv F dk H L (s'.del l))\/∃j dj,s' l=sO (.loop r (.done j))/\cc P F.an F.N j=sO dj/\Zv F (.code dj::dk) H L (s'.del l)
def Zml{w l l0}(h:w.heap[l]?=sO (.loop l0))(hb:l0.state≠.busy):
  (Instr.endLoop l).run P w=.ok l0.pending { w with heap:=w.heap.setIfInBounds l (.loop { l0 with state:=.exhausted }) }:=by
 have:(l0.state==.busy)=false:=by cases hs:l0.state<;>first|rfl|exact absurd hs hb
 simp[Instr.endLoop,Instr.getLoop,Jl h,ZcR h,hb]
def ZoY{F:Fr P}{l r dk k H L g Z w tmps s'}(hk:Wx P F.an F.N k dk)(hN:F.N<=tmps.size)(m:Zw g Z w tmps H L s')(h:Zjr F l r dk H L s'):F.T.T g w (lone (F.b.atR ⟨tmps,F.ds⟩ (.endRangeFunc l::k)) F.cs w):=by
 rcases h with ⟨u,h⟩|⟨j,dj,u,hj,h⟩;obtain⟨hp,l0,a1,a2,a3,a4,a5,a6,a7,a8,a9,t⟩:=m.st.obj l _ u;have he:=Zcx (g:=g) (w:=w) l (.loop { l0 with state:=.exhausted }) (by simp[hdr,a1]) hp (m.st.kept l _ u);have m':=m.drop u he ψ (λc hc=>JO hc);have i:(Instr.endLoop l).run P w=.ok nO { w with heap:=w.heap.setIfInBounds l (.loop { l0 with state:=.exhausted }) }:=by rw[Zml a1 (by rw[a9];simp)];simp[t]
 refine F.T.back _ _ _ _ (.one (stepR_endRangeFunc i)) ?_;exact F.T.ext _ _ _ _ _ he (h k hk g Z _ tmps hN m');obtain⟨hp,l0,a1,a2,a3,a4,a5,a6,a7,a8,a9,t⟩:=m.st.obj l _ u;have he:=Zcx (g:=g) (w:=w) l (.loop { l0 with state:=.exhausted }) (by simp[hdr,a1]) hp (m.st.kept l _ u);have m':=m.drop u he ψ (λc hc=>JO hc);have i:(Instr.endLoop l).run P w=.ok (sO j) { w with heap:=w.heap.setIfInBounds l (.loop { l0 with state:=.exhausted }) }:=by rw[Zml a1 (by rw[a9];simp)];simp[t]
 refine F.T.back _ _ _ _ (.one (stepR_endRangeFunc i)) ?_;exact F.T.ext _ _ _ _ _ he (h _ (.code hj hk) g Z _ tmps hN m')
def YL.mark{F:Fr P}{rs Φ dds}(u:YL F rs Φ dds)(q):YL (F.mark q) rs Φ (.mark q::dds):=by
 obtain⟨an,f,df,t,hf,i,rfl⟩:=u;exact⟨an,f,df,t,hf,i,rfl⟩
def YL.roundOf{F:Fr P}{rs Φ dds}(i:YL F rs Φ dds):F.b.roundOf=nO:=by
 obtain⟨an,f,df,cs,hf,hrs,rfl⟩:=i;rfl
end
section
variable {P:Program}
def Zx5{op f xs}(h:ck P op=sO (.defer f xs)):∃f' u ats,op=.defer ⟨.value f',u,ats⟩/\ZW f'=sO f/\Zcs u.toList=sO xs:=by
 unfold ck at h;split at h;simp at h;split at h<;>(try(simp at h;done));all_goals (try(repeat' (split at h<;>(try(simp at h;done)))))
 simp at h;obtain⟨rfl,rfl⟩:=h;rename_i c _ _ f' i _ _ f xs hf t;obtain⟨callee,u,ats⟩:=c;simp only at i;exact⟨f',u,ats,by rw[i],hf,t⟩
def Fr.defer(F:Fr P)(i:FuncId)(args caps:List D):Fr P:={ F with ds:=DD.def (.fn i args caps)::F.ds }
def YL.defer{F:Fr P}{rs Φ dds}(hF:YL F rs Φ dds)(i args caps):YL (F.defer i args caps) rs Φ (.fn i args caps::dds):=by
 obtain⟨an,f,df,u,hf,t,rfl⟩:=hF;exact⟨an,f,df,u,hf,t,rfl⟩
def ZmQ{F:Fr P}(hround:F.b.roundOf=nO){kp dk o os H L s}(hg:o.guard=nO)(hdn:o.dst=nO){fx xs}(hk:o.k=.defer fx xs){p q i first caps es ds}(hf:ZC H true fx=sO (q,.d (.fn (.func i) first caps)))(ha:Ya H true xs=sO (p,es))(hds:Kh es=sO ds)(hp:p)(hq:q)(hr1:ZbA (first++ds))(hr2:ZbA caps)(h:DO (F.defer i (first++ds) caps) kp dk os H L s):DO F kp dk (o::os) H L s:=by
 refine Y5 λoo g Z w tmps t j r k ah ad al ae hd hN m hr aq=>?_;have hw:=Z9 m al (c:=true) (by rw[hg];rfl);rw[hk]at ad;obtain⟨f',args,ats,ar,ao,au⟩:=Zx5 ad;have ag:Rep g w _ _:=Z0 m ao rfl hf hq F.ds;have u:=K3 (Zcd m rfl F.ds au ha hp) hds;generalize ap:(Act.mk tmps F.ds).eval f'=fv at ag;cases ag with
 |fn _ fs cs' _ _ hn1 hn2 h1 h2 =>
 obtain⟨ak,ac,_,ha2⟩:=Zce hr1;obtain⟨vs,aj,_,hv2⟩:=Zce hr2;have e1:fs++args.toList.map (Act.mk tmps F.ds).eval=ak:=ZlL ((Yg hn1 h1).append u) ac;have e2:cs'=vs:=ZlL (Yg hn2 h2) aj;have hmap:(Array.map (Act.mk tmps F.ds).eval args)=(args.toList.map (Act.mk tmps F.ds).eval).toArray:=by apply Array.ext';simp
 have am:DD.def (.fn i (first++ds) caps)={ target:=.fn (.func i) cs'.toArray,args:=fs.toArray++(args.toList.map (Act.mk tmps F.ds).eval).toArray }:=by simp only[DD.def,aj,ac,e2,<-e1];simp
 have ai:(execOp (Act.mk tmps F.ds).eval oo).run P w=.ok (.defer (DD.def (.fn i (first++ds) caps))) w:=by rw[am];simp[execOp,ar,resolve,ap,Deferred.ofValue]
 have ab:step P (lone (F.b.atR ⟨tmps,F.ds⟩ (.inRegion t (j::r)::k)) F.cs w)=.next (lone (F.b.atR ⟨tmps,(F.defer i (first++ds) caps).ds⟩ (.inRegion t r::k)) F.cs w):=by
  refine step_lone_go ?_;rw[stepGR_op ah hw,hround,Oper.semAt_none];have af:(F.b.atR ⟨tmps,(F.defer i (first++ds) caps).ds⟩ (.inRegion t (j::r)::k)).finish undef=F.b.atR ⟨tmps,(F.defer i (first++ds) caps).ds⟩ (.inRegion t r::k):=by rw[Frame.finish_atR,ah];simp[Act.put,ae,hdn]
  rw[<-af];simp[stepG.apply,ai,Frame.atR,Fr.defer]
 refine F.T.back _ _ _ _ (.one ab) ?_;exact h t r k hr aq g Z w tmps hN m
def Zkw:D->Prop
 |.iface _ (.agg cs)=>ZbA cs
 |.iface _ d=>ZfA d
 |_=>False
def Zrv{d}(h:Zkw d):∃v,(∀g w,Rep g w v d)/\∀g w u,Rep g w u d->u=v:=by
 cases d<;>simp[Zkw]at h;rename_i t d;by_cases hd:∃cs,d=.agg cs
 .obtain⟨cs,rfl⟩:=hd;obtain⟨vs,h1,h2,i⟩:=Zce h;refine⟨.iface t (.agg vs.toArray),λg w=>.iface t _ _ (.agg vs cs (i g w).len (i g w).get h2),λg w u hr=>?_⟩;cases hr with
  |iface _ v _ hv =>
   cases hv with
   |agg vs' _ hn hg _=>rw[ZlL (Yg hn hg) h1]
 have h':ZfA d:=by cases d<;>simp at h<;>first|exact h|exact absurd ⟨_,rfl⟩ hd
 obtain⟨v,h1,h2,i⟩:=Zru h';refine⟨.iface t v,λg w=>.iface t _ _ (i g w),λg w u hr=>?_⟩;cases hr with
 |iface _ v'' _ hv=>rw[Zwc hv h1]
def Ja(m:Option D)(v:Value)(rec:Bool):FrameMode :=
 match m with
 |none=>.returning
 |some _=>.panicking [{ v,recovered:=rec }]
def ZeP(P:Program)(cf:Frame)(cs:List Frame)(Ψ:Bool->St->Prop):Zwo P where
 T g w m:=∃g' w' s' b,Ext g w g' w'/\Yh g' s' w'/\Ψ b s'/\Steps P m (lone { cf with mode:=if b then .returning else cf.mode } cs w')
 back g w m m' hs h:=let ⟨g',w',s',b,a1,a2,a3,a4⟩:=h;⟨g',w',s',b,a1,a2,a3,Steps.trans hs a4⟩
 ext g w g' w' m hx h:=let ⟨g2,w2,s',b,a1,a2,a3,a4⟩:=h;⟨g2,w2,s',b,hx.trans a1,a2,a3,a4⟩
def Y6(P:Program)(an:Ann)(f:FuncId)(N:Nat)(cf:Frame)(cs:List Frame)(Ψ:Bool->St->Prop)(m:Option D)(v:Value)(rec:Bool):Fr P where
 T:=ZeP P cf cs Ψ
 b:={ (dE:Frame) with fn:=f,kind:=.deferred,roundOf:=nO }
 cs:={ cf with mode:=Ja m v rec }::cs
 N:=N
 ds:=[]
 an:=an
def Zaz(F:Fr P)(m:Option D)(Ψ:Bool->St->Prop)(rec:Bool):Prop :=
 ∃an f df cf cs v,Go.DL.cf P an f=sO df/\df.res=[]/\cf.mode=Ja m v false/\(∀d,m=sO d->∀g w,Rep g w v d)/\F=Y6 P an f df.n cf cs Ψ m v rec
def Zci{an i N rs b}(hf:cf P an i=sO ⟨N,rs,b⟩)(hres:rs=[]){args m s Ψ}(hm:∀d,m=sO d->Zkw d)(h:∀F:Fr P,Zaz F m Ψ false->Zv F [.code b] (K9 0 args) [] s):J1 P i args m s Ψ:=by
 have ai:=hf;unfold cf at hf;split at hf<;>(try(simp at hf;done));rename_i fn ae;split at hf<;>(try(simp at hf;done));rename_i c hc;split at hf<;>(try(simp at hf;done));rename_i ac;split at hf<;>simp at hf;rename_i rs d hrs hd;obtain⟨rfl,rfl,rfl⟩:=hf;refine⟨⟨fn,ae,by simp[hc],by simpa using ac⟩,λg w vs t cs hs ha u=>?_⟩;obtain⟨v,af,aj⟩:∃v,t.mode=Ja m v false/\∀d,m=sO d->∀g w,Rep g w v d:=by
  cases m with
  |none=>exact⟨undef,u,λd hd=>by simp at hd⟩
  |some d =>obtain⟨v,h1,h2⟩:=u;obtain⟨v',r1,r2⟩:=Zrv (hm d rfl);have:=r2 g w v h2;subst this;exact⟨v,h1,λd' ad=>by simp only[ZH0]at ad;subst ad;exact r1⟩
 have ag:({ t with mode:=Ja m v false }:Frame)=t:=by rw[<-af]
 have ab:Frame.enter P i vs.toArray .deferred=(Y6 P an i fn.ntmps t cs Ψ m v false).b.atR { tmps:=vs.toArray++Array.replicate (fn.ntmps-I vs) undef,defers:=[] } [.code c]:=by simp[Frame.enter,Frame.atR,ae,hc,Y6]
 have:=h _ ⟨an,i,_,t,cs,v,ai,hres,af,aj,rfl⟩ [.code c] (.code hd .nil) g (λ_=>0) w (vs.toArray++Array.replicate (fn.ntmps-I vs) undef) (by simp[Y6];omega) (Zg3 hs ha);obtain⟨g',w',s',b,a1,a2,a3,a4⟩:=this;refine⟨g',w',s',b,a1,a2,a3,?_⟩;rw[ab];have ah:(Y6 P an i fn.ntmps t cs Ψ m v false).cs=t::cs:=by simp only[Y6,ag]
 rw[ah]at a4;exact a4
def Zaz.end{F:Fr P}{m Ψ rec}(hF:Zaz F m Ψ rec){H L s s'}(hs:s'.sub s)(hΨ:Ψ (m.isNone ||rec) s'){todo g Z w tmps}(M:Zw g Z w tmps H L s):F.T.T g w (lone { F.b.atR ⟨tmps,F.ds⟩ todo with mode:=.returning } F.cs w):=by
 obtain⟨an,f,df,i,cs,v,hf,u,t,hrep,rfl⟩:=hF;unfold cf at hf;split at hf<;>(try(grind;done));rename_i fn ae;split at hf<;>(try(grind;done));split at hf<;>(try(grind;done));split at hf<;>simp at hf;rename_i rs d af hd;subst hf;cases u;obtain⟨rv,ab,_⟩:=Zo2 M af (p:=True) (ds:=[]) rfl trivial;refine⟨g,w,s',m.isNone ||rec,Ext.refl g w,M.st.sub hs,hΨ,?_⟩;have ad:=step_going_returned (P:=P) (fr:={ (Y6 P an f fn.ntmps i cs Ψ m v rec).b.atR ⟨tmps,[]⟩ todo with mode:=.returning }) (c:={ i with mode:=Ja m v rec }) (cs:=cs) (w:=w) rfl ⟨rfl,rfl,fn,ae,ab⟩;have ac:({ ({ i with mode:=Ja m v rec }:Frame) with mode:=settle (Ja m v rec) }:Frame)={ i with mode:=if (m.isNone ||rec) then .returning else i.mode }:=by
  cases m with
  |none=>rfl
  |some d =>cases rec;simp[t];rfl;rfl
 rw[ac]at ad;exact .one ad
def Zaz.fin{F:Fr P}{m Ψ rec}(u:Zaz F m Ψ rec){H L s s'}(hs:s'.sub s)(hΨ:Ψ (m.isNone ||rec) s'):Zv F [] H L s:=by
 have t:=u;obtain⟨an,f,df,i,cs,v,hf,hres,hmode,hrep,rfl⟩:=u;intro k hk;cases hk;intro g Z w tmps hN M;refine(ZeP P i cs Ψ).back _ _ _ _ (.one (stepR_end rfl)) ?_;exact t.end hs hΨ M
def Zaz.ret{F:Fr P}{m Ψ rec}(u:Zaz F m Ψ rec){dk H L s s'}(hs:s'.sub s)(hΨ:Ψ (m.isNone ||rec) s'):Zv F (.code .ret::dk) H L s:=by
 have t:=u;obtain⟨an,f,df,i,cs,v,hf,hres,hmode,hrep,rfl⟩:=u;intro k hk;cases hk with
 |code hc ht =>obtain rfl:=Zs2 hc;intro g Z w tmps hN M;refine(ZeP P i cs Ψ).back _ _ _ _ (.one (stepR_ret rfl)) ?_;exact t.end hs hΨ M
def Zie{op}(h:ck P op=sO .recover):∃t u,op=.call ⟨.builtin .recover,t,u⟩:=by
 unfold ck at h;split at h;simp at h;split at h<;>(try(simp at h;done));all_goals (try(repeat' (split at h<;>(try(simp at h;done)))))
 rename_i c _ _ i;obtain⟨callee,t,u⟩:=c;simp only at i;exact⟨t,u,by rw[i]⟩
def ZnQ{F:Fr P}{d Ψ}(hF:Zaz F (sO d) Ψ false){kp dk o os H L s}(hg:o.guard=nO)(hk:o.k=.recover)(h:∀F':Fr P,Zaz F' (sO d) Ψ true->DO F' kp dk os (Zx H o.dst (.d d)) L s):DO F kp dk (o::os) H L s:=by
 obtain⟨an,f,df,i,cs,v,hf,ai,ac,u,rfl⟩:=hF;refine Y5 λoo g Z w tmps t j r k ah ab ak af hd hN m hr al=>?_;have hw:=Z9 m ak (c:=true) (by rw[hg];rfl);have am:=Yd ab (by rw[hk];rfl);rw[hk]at ab;obtain⟨args,ats,ao⟩:=Zie ab;have aj:(execOp (Act.mk tmps []).eval oo).run P w=.ok .recover w:=by simp[execOp,ao,resolve,invoke,builtin]
 have ad:step P (lone ((Y6 P an f df.n i cs Ψ (sO d) v false).b.atR ⟨tmps,[]⟩ (.inRegion t (j::r)::k)) (Y6 P an f df.n i cs Ψ (sO d) v false).cs w) =
   .next (lone ((Y6 P an f df.n i cs Ψ (sO d) v true).b.atR ((Act.mk tmps []).put oo.dst v) (.inRegion t r::k)) (Y6 P an f df.n i cs Ψ (sO d) v true).cs w):=by
  refine step_lone_go ?_;rw[stepGR_op ah hw,Oper.semAt_eq _ _ _ am];have ag:((Y6 P an f df.n i cs Ψ (sO d) v false).b.atR ⟨tmps,[]⟩ (.inRegion t (j::r)::k)).finish v=(Y6 P an f df.n i cs Ψ (sO d) v true).b.atR ((Act.mk tmps []).put oo.dst v) (.inRegion t r::k):=by rw[Frame.finish_atR,ah];rfl
  rw[<-ag];simp[stepG.apply,aj,Frame.atR,Y6,tryRecover,Ja]
 refine(ZeP P i cs Ψ).back _ _ _ _ (.one ad) ?_;obtain⟨ae,e1,e2,m'⟩:=Zfy m hN hd (v:=v) (e:=.d d) (u d rfl g w) [];rw[af,e1];exact h _ ⟨an,f,df,i,cs,v,hf,ai,ac,u,rfl⟩ t r k hr al g Z w ae e2 m'
def ZgE{F:Fr P}{Ψ rec}(hF:Zaz F nO Ψ rec){kp dk o os H L s}(hg:o.guard=nO)(hk:o.k=.recover)(h:DO F kp dk os (Zx H o.dst (.d .niliface)) L s):DO F kp dk (o::os) H L s:=by
 obtain⟨an,f,df,i,cs,v,hf,hres,hmode,hrep,rfl⟩:=hF;refine Y5 λoo g Z w tmps t j r k ae u ag hdst hd hN m hr ah=>?_;have hw:=Z9 m ag (c:=true) (by rw[hg];rfl);have ai:=Yd u (by rw[hk];rfl);rw[hk]at u;obtain⟨args,ats,aj⟩:=Zie u;have af:(execOp (Act.mk tmps []).eval oo).run P w=.ok .recover w:=by simp[execOp,aj,resolve,invoke,builtin]
 have ab:step P (lone ((Y6 P an f df.n i cs Ψ nO v rec).b.atR ⟨tmps,[]⟩ (.inRegion t (j::r)::k)) (Y6 P an f df.n i cs Ψ nO v rec).cs w) =
   .next (lone ((Y6 P an f df.n i cs Ψ nO v rec).b.atR ((Act.mk tmps []).put oo.dst .nilIface) (.inRegion t r::k)) (Y6 P an f df.n i cs Ψ nO v rec).cs w):=by
  refine step_lone_go ?_;rw[stepGR_op ae hw,Oper.semAt_eq _ _ _ ai];have ad:((Y6 P an f df.n i cs Ψ nO v rec).b.atR ⟨tmps,[]⟩ (.inRegion t (j::r)::k)).finish .nilIface=(Y6 P an f df.n i cs Ψ nO v rec).b.atR ((Act.mk tmps []).put oo.dst .nilIface) (.inRegion t r::k):=by rw[Frame.finish_atR,ae];rfl
  rw[<-ad];simp[stepG.apply,af,Frame.atR,Y6,tryRecover,Ja]
 refine(ZeP P i cs Ψ).back _ _ _ _ (.one ab) ?_;obtain⟨ac,e1,e2,m'⟩:=Zfy m hN hd (v:=.nilIface) (e:=.d .niliface) .niliface [];simp_all;exact h t r k hr ah g Z w ac e2 m'
end
def ZC3(n):inR .i64 n↔-9223372036854775808<=n/\n<=9223372036854775807:=by
 simp[inR,IntKind.min,IntKind.max,IntKind.signed,IntKind.bits]
def ZDI(n):inR .u8 n↔0<=n/\n<=255:=by
 simp[inR,IntKind.min,IntKind.max,IntKind.signed,IntKind.bits]
def ZC4(n):inR .u32 n↔0<=n/\n<=4294967295:=by
 simp[inR,IntKind.min,IntKind.max,IntKind.signed,IntKind.bits]
def ZC5(n):inR .u64 n↔0<=n/\n<=18446744073709551615:=by
 simp[inR,IntKind.min,IntKind.max,IntKind.signed,IntKind.bits]
def ZC2(n):inR .i32 n↔-2147483648<=n/\n<=2147483647:=by
 simp[inR,IntKind.min,IntKind.max,IntKind.signed,IntKind.bits]
def ZBT(a b):(if a=true then b else false)=(a&&b):=by cases a<;>rfl
def ZC7(a b):(if a=true then true else b)=(a ||b):=by cases a<;>rfl
def ZCI{d i}(h:d=i):(Qa [d]).Le i:=h▸ZH3 d
def ZeO{b i}(h:b=i):(Qa [.bool b]).Le (.bool i):=h▸ZH3 _
def Zhk{k n m}(h:n=m):(Qa [.int k n]).Le (.int k m):=h▸ZH3 _
def ZCJ{l m}(h:l=m):(Qa [.str l]).Le (.str m):=h▸ZH3 _
def Qn{l d}(h:.tup l=d)(i:Qa l=.tup l):(Qa l).Le d:=by rw[i,h];exact ZH3 _
def St.upd_same(s:St)(b o):(s.upd b o) b=sO o:=by simp[ZID]
def St.upd_ne(s:St){b c}(o)(h:c≠b):(s.upd b o) c=s c:=by simp[ZID,h]
def St.upd_upd(s:St)(b o o'):(s.upd b o).upd b o'=s.upd b o':=by
 funext c;simp only[ZID];by_cases h:c=b<;>simp[h]
def St.upd_comm{s:St}{b c}{o o'}(h:c≠b):(s.upd b o).upd c o'=(s.upd c o').upd b o:=by
 funext x;simp only[ZID];by_cases i:x=b;subst i;simp[Ne.symm h];simp[i]
def St.sub_upd{b}(o)(h:s b=nO):s.sub (s.upd b o):=λc x i=>by
 have:c≠b:=λt=>by rw[t,h]at i;simp at i
 rw[St.upd_ne s o this];exact i
def St.sub_trans{s s' i:St}(h:s.sub s')(t:s'.sub i):s.sub i:=λb o u=>t b o (h b o u)
inductive DWf:D->Prop where
 |int (k:IntKind) (n:Int) (h:inR k n):DWf (.int k n)
 |str (l:List UInt8) (h:I l<=big):DWf (.str l)
 |agg (cs:List D) (h:∀c∈cs,DWf c):DWf (.agg cs)
 |tup (cs:List D) (h:∀c∈cs,DWf c):DWf (.tup cs)
 |sl (t:Tok) (n s:Nat) (row:Nat->List D) (h:n<=big) (hl:∀i,i<n->(row i).length=s) (hr:∀i,i<n->∀c∈row i,DWf c):DWf (.sl t n s row)
 |ep (cs:List D) (o:Nat) (h:∀c∈cs,DWf c):DWf (.ep cs o)
 |iface (t:TypeId) (d:D) (h:DWf d):DWf (.iface t d)
 |msl (b o n cap s:Nat) (h:n<=cap) (h':cap<=big):DWf (.msl b o n cap s)
 |fn (f:Fn) (a b:List D) (h:∀c∈a,DWf c) (h':∀c∈b,DWf c):DWf (.fn f a b)
 |other (d:D) (h:match d with|.int .. |.str _|.agg _|.tup _|.sl .. |.ep .. |.iface .. |.msl .. |.fn ..=>False|_=>True):DWf d
def Zcp{Q:D->Prop}{vs:List Value}(hn:I vs=I ds)(h:∀(i:Nat) (v:Value) (d:D),vs[i]?=sO v->ds[i]?=sO d->Q d):∀c∈ds,Q c:=by
 intro c t;obtain⟨i,u,rfl⟩:=ZIl t;exact h i (vs[i]' ω) _ (by simp[show i<I vs by omega]) (by simp[u])
def Rep.wf{g w v d}(h:Rep g w v d):DWf d:=by
 induction h with
 |int k n h=>exact .int k n h
 |str s l h hb=>exact .str l hb
 |agg vs cells hn _ _ ih=>exact .agg _ (Zcp hn ih)
 |tup vs ds hn _ ih=>exact .tup _ (Zcp hn ih)
 |sl0 a t s row ht=>exact .sl t 0 s row (Nat.zero_le _) (λi hi=>by omega) (λi hi=>by omega)
 |sl b o n cap s row t f hl hc hp _ one ht hcap hb ih =>refine .sl t n s row ω hl λi hi c u=>?_;obtain⟨j,hj,rfl⟩:=ZIl u;exact ih i j _ hi (by simp[hj])
 |ep b o off cells f hc hp _ one ih =>refine .ep _ _ λc u=>?_;obtain⟨j,hj,rfl⟩:=ZIl u;exact ih j _ (by simp[hj])
 |iface t v d _ ih=>exact .iface t d ih
 |msl b off n cap s h hb=>exact .msl _ _ _ _ _ h hb
 |mslx a b off s=>exact .msl _ _ _ _ _ (ZIh _) (Nat.zero_le _)
 |fn f fs cs df dc hnf hnc _ _ ihf ihc=>exact .fn f df dc (Zcp hnf ihf) (Zcp hnc ihc)
 |_=>exact .other _ trivial
def DWf.int_inv{k n}(h:DWf (.int k n)):inR k n:=by
 cases h with
 |int _ _ h=>exact h
 |other _ h=>exact h.elim
def DWf.str_inv{l}(h:DWf (.str l)):I l<=big:=by
 cases h with
 |str _ h=>exact h
 |other _ h=>exact h.elim
def DWf.agg_inv{cs}(h:DWf (.agg cs)):∀c∈cs,DWf c:=by
 cases h with
 |agg _ h=>exact h
 |other _ h=>exact h.elim
def DWf.sl_inv{t n s row}(h:DWf (.sl t n s row)):n<=big/\(∀i,i<n->(row i).length=s)/\∀i,i<n->∀c∈row i,DWf c:=by
 cases h with
 |sl _ _ _ _ h1 h2 h3=>exact⟨h1,h2,h3⟩
 |other _ h=>exact h.elim
def ZBm{g w vs ds}(h:ZI (Rep g w) vs ds):∀d∈ds,DWf d:=Zcp h.len λi v d u t=>(h.get i v d u t).wf
section
variable {P:Program}
def Zjk{f args s Φ}(t:∃fn,P.funcs[f]?=sO fn/\fn.body.isSome=true/\(fn.name == "runtime.NumGoroutine")=false)(h:(∀a∈args,DWf a)->Za P f args s Φ):Za P f args s Φ :=
 ⟨t,λg w vs u i=>(h (ZBm i)).2 g w vs u i⟩
def Zsf{an f df}(u:cf P an f=sO df):∃fn,P.funcs[f]?=sO fn/\fn.body.isSome=true/\(fn.name == "runtime.NumGoroutine")=false:=by
 unfold cf at u;split at u<;>(try(simp at u;done));rename_i fn t;split at u<;>(try(simp at u;done));rename_i c hc;split at u<;>(try(simp at u;done));rename_i i;exact⟨fn,t,by simp[hc],by simpa using i⟩
def Zan{an f N rs b}(i:cf P an f=sO ⟨N,rs,b⟩){args s Φ}(h:(∀a∈args,DWf a)->∀F:Fr P,YL F rs Φ []->Zv F [.code b] (K9 0 args) [] s):Za P f args s Φ :=
 Zjk (Zsf i) λt=>Zb i (h t)
def WK{an f N rs b}(i:cf P an f=sO ⟨N,rs,b⟩){args d}(h:(∀a∈args,DWf a)->∀(F:Fr P) (s:St),(∀{dk:List W2} {H:Env} {L:Loc} {s':St} {p:Prop} {ds:List D},Yw H L s' rs=sO (p,ds)->p->(Qa ds).Le d->s.sub s'->Zv F (.code .ret::dk) H L s') ->
   Zv F [.code b] (K9 0 args) [] s):Zf P f args d :=
 λs=>Zjk (Zsf i) λhw=>Zb i λF hF=>h hw F s λt u h3 h4=>hF.ret d s t u h3 h4 ⟨rfl,rfl⟩
def ZBk{F:Fr P}{dk H L s}(t){d}(ht:ZM H t=sO (.d d))(h:DWf d->Zv F dk H L s):Zv F dk H L s :=
 λk u g Z w tmps i m=>h (Rep.wf (m.env t _ ht)) k u g Z w tmps i m
end
section
variable {P:Program}
def ZL(P:Program)(f:FuncId)(args:List D)(s:St)(d:D)(s':St):Prop:=Za P f args s λr t=>r=.ret d/\t=s'
def Jo{F:Fr P}{kp dk o os H L s s'}(hg:Zn H o.guard=sO true){fx xs}(hk:o.k=.call fx xs){p q f first caps es ds}(hf:ZC H true fx=sO (q,.d (.fn (.func f) first caps)))(ha:Ya H true xs=sO (p,es))(u:Kh es=sO ds)(hp:p)(hq:q){d}(hc:ZL P f (first++ds++caps) s d s')(h:DO F kp dk os (Zx H o.dst (.d d)) L s'):DO F kp dk (o::os) H L s :=
 Zhi hg hk hf ha u hp hq hc (λd' t ⟨i,h2⟩=>by simp only[Res.ret.injEq]at i;subst i;subst h2;exact h) (λd' t ⟨i,_⟩=>by simp at i)
def Zjm{F:Fr P}{kp dk o f os H L s s' B}(hg:Zn H o.guard=sO true){fx xs}(hk:o.k=.call fx xs){p q fi first caps es ds}(hf:ZC H true fx=sO (q,.d (.fn (.func fi) first caps)))(ha:Ya H true xs=sO (p,es))(u:Kh es=sO ds)(hp:p)(hq:q){d}(hc:ZL P fi (first++ds++caps) s d s')(hB:Wd f s s' L L B)(h:DOA F kp dk os (Zx H o.dst (.d d)) L s' (YZ f B)):DOA F kp dk ((o,f)::os) H L s B :=
 Zh2 hg hk hf ha u hp hq hc (λd' t ⟨i,h2⟩=>by simp only[Res.ret.injEq]at i;subst i;subst h2;exact⟨hB,h⟩) (λd' t ⟨i,_⟩=>by simp at i)
def ZxU{F:Fr P}{kp dk o os H L s s'}(hg:Zn H o.guard=sO true){fx xs}(hk:o.k=.call fx xs){p q f es ds}(hf:ZC H true fx=sO (q,.d f))(ha:Ya H true xs=sO (p,es))(u:Kh es=sO ds)(hp:p)(hq:q){d}(hc:WP P f ds s λr t=>r=.ret d/\t=s')(h:DO F kp dk os (Zx H o.dst (.d d)) L s'):DO F kp dk (o::os) H L s :=
 ZbL hg hk hf ha u hp hq hc (λd' t ⟨i,h2⟩=>by simp only[Res.ret.injEq]at i;subst i;subst h2;exact h) (λd' t ⟨i,_⟩=>by simp at i)
def Zf.le{f args d i}(h:Zf P f args d)(e:d=i):Zf P f args i:=e▸h
end
inductive LeC:List D->List D->Prop where
 |nil:LeC [] []
 |cons {d d':D} {l l':List D} (h:d.Le d') (t:LeC l l'):LeC (d::l) (d'::l')
def LeC.refl(l):LeC l l:=by
 induction l with
 |nil=>exact .nil
 |cons d l ih=>exact .cons (ZH3 d) ih
def LeC.len{l l'}(h:LeC l l'):I l=I l':=by
 induction h with
 |nil=>rfl
 |cons _ _ ih=>simp[ih]
def LeC.get{l l'}(h:LeC l l'){i:Nat}{u}(t:l'[i]?=sO u):∃d,l[i]?=sO d/\d.Le u:=by
 induction h generalizing i with
 |nil=>simp at t
 |cons h _ ih =>
  cases i with
  |zero=>simp at t;subst t;exact⟨_,rfl,h⟩
  |succ i=>exact ih (by simpa using t)
def ZsH{cs cs'}(h:LeC cs cs'):(D.agg cs).Le (.agg cs'):=by
 intro g w v t;cases t with
 |agg vs _ hn hr one=>exact .agg vs _ (hn.trans h.len) (λi v d' t hd=>by obtain⟨d,u,h2⟩:=h.get hd;exact h2 _ _ _ (hr i v d t u)) one
def Zvk{cs cs'}(h:LeC cs cs'):(D.tup cs).Le (.tup cs'):=by
 intro g w v t;cases t with
 |tup vs _ hn hr=>exact .tup vs _ (hn.trans h.len) (λi v d' t hd=>by obtain⟨d,u,h2⟩:=h.get hd;exact h2 _ _ _ (hr i v d t u))
def Zvj{t n s row}:(D.sl t n s row).Le (.sl .none n s row):=by
 intro g w v i;cases i with
 |sl0 _ _ _ _ ht=>exact .sl0 _ _ _ _ ψ
 |sl b o n cap s row t f hl hc hp hr one ht hcap hb=>exact .sl b o n cap s row _ f hl hc hp hr one trivial hcap hb
def ZxW{t}{n s}{row row'}(h:∀i,i<n->LeC (row i) (row' i)):(D.sl t n s row).Le (.sl t n s row'):=by
 intro g w v hv;cases hv with
 |sl0 _ _ _ _ ht=>exact .sl0 _ _ _ _ ht
 |sl b o n cap s row t f hl hc hp hr one ht hcap hb =>exact .sl b o n cap s _ _ f (λi u=>(h i u).len.symm.trans (hl i u)) hc hp (λi j d u hd=>by obtain⟨d',h1,h2⟩:=(h i u).get hd;exact h2 _ _ _ (hr i j d' u h1)) one ht hcap hb
def YV{s row t}(i:∀b,t≠.tip b):D.nilsl.Le (.sl t 0 s row):=by
 intro g w v u;cases u;exact .sl0 _ _ _ _ i
def D.Le.trans{a b c:D}(h:a.Le b)(i:b.Le c):a.Le c:=λg w v t=>i g w v (h g w v t)
def Zh5{t n u s row row'}(hn:n=u)(h:∀i,i<n->row i=row' i):(D.sl t n s row).Le (.sl .none u s row'):=by
 subst hn;exact Zvj.trans (ZxW λi hi=>by rw[h i hi];exact LeC.refl _)
inductive ZsG:E->E->Prop where
 |d {x y:D} (h:x.Le y):ZsG (.d x) (.d y)
 |refl (e:E):ZsG e e
inductive LeE:Env->Env->Prop where
 |nil:LeE [] []
 |cons {t:Nat} {e e':E} {H H':Env} (h:ZsG e e') (r:LeE H H'):LeE ((t,e)::H) ((t,e')::H')
 |skip {t:Nat} {e:E} {H H':Env} (r:LeE H H'):LeE ((t,e)::H) ((t,e)::H')
inductive LeL:Loc->Loc->Prop where
 |nil:LeL [] []
 |cons {t:Nat} {c c':List D} {H H':Loc} (h:LeC c c') (r:LeL H H'):LeL ((t,c)::H) ((t,c')::H')
 |skip {t:Nat} {c:List D} {H H':Loc} (r:LeL H H'):LeL ((t,c)::H) ((t,c)::H')
def LeE.get{H H'}(h:LeE H H'){t e'}(i:ZM H' t=sO e'):∃e,ZM H t=sO e/\ZsG e e':=by
 induction h with
 |nil=>simp[ZM]at i
 |cons h _ ih =>simp only[ZM]at i⊢;split at i;simp at i;subst i;rename_i u;rw[if_pos u];exact⟨_,rfl,h⟩;rename_i u;rw[if_neg u];exact ih i
 |skip _ ih =>simp only[ZM]at i⊢;split at i;simp at i;subst i;rename_i u;rw[if_pos u];exact⟨_,rfl,.refl _⟩;rename_i u;rw[if_neg u];exact ih i
def LeL.get{H H'}(h:LeL H H'){t e'}(i:Zg H' t=sO e'):∃e,Zg H t=sO e/\LeC e e':=by
 induction h with
 |nil=>simp[Zg]at i
 |cons h _ ih =>simp only[Zg]at i⊢;split at i;simp at i;subst i;rename_i u;rw[if_pos u];exact⟨_,rfl,h⟩;rename_i u;rw[if_neg u];exact ih i
 |skip _ ih =>simp only[Zg]at i⊢;split at i;simp at i;subst i;rename_i u;rw[if_pos u];exact⟨_,rfl,LeC.refl _⟩;rename_i u;rw[if_neg u];exact ih i
def LeL.getI{H H'}(h:LeL H H'){t e}(i:Zg H t=sO e):∃e',Zg H' t=sO e':=by
 induction h with
 |nil=>simp[Zg]at i
 |cons h _ ih =>simp only[Zg]at i⊢;split at i;rename_i u;rw[if_pos u];exact⟨_,rfl⟩;rename_i u;rw[if_neg u];exact ih i
 |skip _ ih =>simp only[Zg]at i⊢;split at i;rename_i u;rw[if_pos u];exact⟨_,rfl⟩;rename_i u;rw[if_neg u];exact ih i
def YK.le{g w b ds ds'}(h:YK g w b ds)(t:LeC ds ds'):YK g w b ds':=by
 obtain⟨hp,vs,T,h1,h2,h3,h4⟩:=h;exact⟨hp,vs,T,h1,h2.trans t.len,λi v d' hv hd=>by obtain⟨d,u,e2⟩:=t.get hd;exact e2 _ _ _ (h3 i v d hv u),h4⟩
def ZK.le{g Z w L v e i}(h:ZK g Z w L v e)(t:ZsG e i):ZK g Z w L v i:=by
 cases t with
 |refl=>exact h
 |d hd=>exact hd _ _ _ h
def Zw.le{H H':Env}{L L':Loc}(m:Zw g Z w tmps H L s)(hρ:LeE H H')(hL:LeL L L'):Zw g Z w tmps H' L' s:={
 st:=m.st
 loc l cs h:=by obtain⟨c,u,h2⟩:=hL.get h;exact(m.loc l c u).le h2
 locKept l cs h:=by obtain⟨c,u,_⟩:=hL.get h;exact m.locKept l c u
 locSt l cs h:=by obtain⟨c,u,_⟩:=hL.get h;exact m.locSt l c u
 inj l l' cs cs' h h' hν:=by obtain⟨c,u,_⟩:=hL.get h;obtain⟨c',i,_⟩:=hL.get h';exact m.inj l l' c c' u i hν
 env t e h:=by
  obtain⟨e0,u,h2⟩:=hρ.get h;exact((m.env t e0 u).le h2).locs λl cs hc=>⟨hL.getI hc,rfl⟩ }
section
variable {P:Program}
def Zvi{F:Fr P}{dk H H' L L' s}(hρ:LeE H H')(i:LeL L L')(h:Zv F dk H' L' s):Zv F dk H L s :=
 λk u g Z w tmps t m=>h k u g Z w tmps t (m.le hρ i)
end
def Js{H}:LeE H H:=by
 induction H with
 |nil=>exact .nil
 |cons a r ih=>obtain⟨t,e⟩:=a;exact .cons (.refl _) ih
def ZbM{H}:LeL H H:=by
 induction H with
 |nil=>exact .nil
 |cons a r ih=>obtain⟨t,e⟩:=a;exact .cons (LeC.refl _) ih
def ZpM{l cs}(i:Qa l=.tup l)(h:LeC l cs):(Qa l).Le (.tup cs):=by rw[i];exact Zvk h
def QP{d i}(h:d.Le i):(Qa [d]).Le i:=h
def ZhC:Bool->List Nat->St->St->Loc->Loc->List (Nat×Rd)->Prop
 |true,_,_,_,_,_,_=>True
 |false,fl,s,s',L,L',B=>Wd fl s s' L L' B
def Zlv:Bool->List Nat->List (Nat×Rd)->List (Nat×Rd)
 |true,_,B=>B
 |false,fl,B=>YZ fl B
def Zil(K:Env->Loc->St->Prop)(X:List (DOp×List Nat)->Env->Loc->St->List (Nat×Rd)->Prop):List (DOp×List Nat)->Env->Loc->St->List (Nat×Rd)->Prop
 | [],H,L,s,_=>K H L s
 |o::os,H,L,s,B=>match ZF o.1 H L s with
  |.ok side H' L' s'=>side/\ZhC (Y1 o.1.k) o.2 s s' L L' B/\Zil K X os H' L' s' (Ko o.1 H++Zlv (Y1 o.1.k) o.2 B)
  |.all side pre H' s'=>side/\∀b,pre b->ZhC false o.2 s (s' b) L L B/\Zil K X os (H' b) L (s' b) (Zlv false o.2 B)
  |.stop=>X (o::os) H L s B
def Zlm{K X}:∀{os H L s B},Zil K X os H L s B->Zik K X os H L s B
 | [],H,L,s,B,h=>h
 |o::os,H,L,s,B,h=>by simp only[Zil,Zik]at h⊢;split at h<;>rename_i i<;>simp only[i];cases u:Y1 o.1.k;rw[u]at h;exact⟨h.1,h.2.1,Zlm h.2.2⟩;rw[u]at h;simp only[ZhC,Zlv]at h;exact⟨h.1,Zlm h.2.2⟩;refine⟨h.1,λb t=>?_⟩;exact⟨(h.2 b t).1,Zlm (h.2 b t).2⟩;exact h
section
variable {P:Program}
def Yt{F:Fr P}{ks dk os H L s B}(h:Zil (λH L s=>Zv F dk (Yn H ks) (Za9 (Yn H ks) L) s) (λos H L s B=>DOA F (sO ks) dk os H L s B) os H L s B):DOA F (sO ks) dk os H L s B:=Zlc (Zlm h)
def ZaJ{F:Fr P}{kp dk o os H L s0}(s t)(hg:Zn H o.guard=sO true){e sz b z x y}(hk:o.k=.append e sz b z x y){p q n m row row2 dy dx}(hx:ZC H true x=sO (p,.d dx))(hsl:Zee sz dx=sO (t,n,row))(hy:ZC H true y=sO (q,.d dy))(u:ZaT sz dy=sO (m,row2))(hp:p)(hq:q)(hs:s0=s.own t (n*sz))(hok:t.okIn s)(hb:(n+m)*b<=140737488355328)(i:n+m<=big)(h:∀t':Tok,t'.okIn s->DO F kp dk os (Zx H o.dst (.d (.sl t' (n+m) sz (YW n row row2)))) L (s.own t' ((n+m)*sz))):
  DO F kp dk (o::os) H L s0:=by
 subst hs;exact ZxQ hg hk hx hsl hy hp hq u hok hb i h
end
section
variable {P:Program}
def Zz{an f N rs b}(i:cf P an f=sO ⟨N,rs,b⟩){args d s s'}(h:(∀a∈args,DWf a)->∀(F:Fr P),(∀{dk:List W2} {H:Env} {L:Loc} {t:St} {p:Prop} {ds:List D},Yw H L t rs=sO (p,ds)->p->(Qa ds).Le d->s'.sub t->Zv F (.code .ret::dk) H L t) ->
   Zv F [.code b] (K9 0 args) [] s):ZL P f args s d s' :=
 Zjk (Zsf i) λhw=>Zb i λF hF=>h hw F λu h2 h3 h4=>hF.ret d s' u h2 h3 h4 ⟨rfl,rfl⟩
def VT(P:Program)(f:D)(args:List D)(s:St)(d:D)(s':St):Prop:=WP P f args s λr t=>r=.ret d/\t=s'
def ZL.VT{f first args caps s s' d}(h:ZL P f (first++args++caps) s d s'):VT P (.fn (.func f) first caps) args s d s':=Za.V h
def Zf.VT{f first args caps d}(h:Zf P f (first++args++caps) d)(s):VT P (.fn (.func f) first caps) args s d s:=Za.V (h s)
def Zwk{F:Fr P}{kp dk o os H L s s'}(hg:Zn H o.guard=sO true){t xs}(hk:o.k=.call t xs){p q f es ds}(hf:ZC H true t=sO (q,.d f))(u:Ya H true xs=sO (p,es))(i:Kh es=sO ds)(hp:p)(hq:q){d}(hc:VT P f ds s d s')(h:DO F kp dk os (Zx H o.dst (.d d)) L s'):DO F kp dk (o::os) H L s:=ZxU hg hk hf u i hp hq hc h
def ZCD{F:Fr P}{kp dk o f os H L s s' B}(hg:Zn H o.guard=sO true){fx xs}(hk:o.k=.call fx xs){p q fv es ds}(hf:ZC H true fx=sO (q,.d fv))(ha:Ya H true xs=sO (p,es))(u:Kh es=sO ds)(hp:p)(hq:q){d}(hc:VT P fv ds s d s')(hB:Wd f s s' L L B)(h:DOA F kp dk os (Zx H o.dst (.d d)) L s' (YZ f B)):DOA F kp dk ((o,f)::os) H L s B :=
 ZdR hg hk hf ha u hp hq hc (λd' t ⟨i,h2⟩=>by simp only[Res.ret.injEq]at i;subst i;subst h2;exact⟨hB,h⟩) (λd' t ⟨i,_⟩=>by simp at i)
def ZI.leC{g w vs a i}(h:ZI (Rep g w) vs a)(t:LeC a i):ZI (Rep g w) vs i:=by
 induction t generalizing vs with
 |nil=>exact h
 |cons hd _ ih=>cases h with
  |cons h1 h2=>exact .cons (hd g w _ h1) (ih h2)
def Za.leA{f args i s Φ}(u:LeC args i)(h:Za P f i s Φ):Za P f args s Φ :=
 ⟨h.1,λg w vs hs t=>h.2 g w vs hs (ZI.leC t u)⟩
def Zf.leA{f args i d}(t:LeC args i)(h:Zf P f i d):Zf P f args d:=λs=>Za.leA t (h s)
def LeC.one{d i}(h:d.Le i):LeC [d] [i]:=.cons h .nil
def LeC.two{d i e t}(h:d.Le i)(u:e.Le t):LeC [d,e] [i,t]:=.cons h (.cons u .nil)
end
def St.or(s t:St):St:=λb=>match s b with
 |some o=>sO o
 |none=>t b
def WU(s t:St)(b o):(s.or t).upd b o=(s.upd b o).or t:=by
 funext c;simp only[St.or,ZID];by_cases h:c=b<;>simp[h]
def Zs{s t:St}{b o}(h:s b=sO o):(s.or t) b=sO o:=by simp[St.or,h]
def ZG{s t:St}{b}(h:s b=nO):(s.or t) b=t b:=by simp[St.or,h]
def KD{s t:St}:s.sub (s.or t):=λb o h=>Zs h
def Z8(s t:St):Prop:=∀b o,t b=sO o->s b=nO
def or_assoc(s t u:St):(s.or t).or u=s.or (t.or u):=by
 funext b;simp only[St.or];cases s b<;>rfl
def St.single(b:Nat)(o:Qv):St:=λc=>if c=b then sO o else nO
def Yi{b o}:(St.single b o) b=sO o:=by simp[St.single]
def Za1{b c}{o}(h:c≠b):(St.single b o) c=nO:=by simp[St.single,h]
def K6{b o}(h:s b=nO):s.upd b o=s.or (St.single b o):=by
 funext c;simp only[St.or,ZID,St.single];by_cases i:c=b;subst i;simp[h];simp only[i,if_false];cases s c<;>rfl
def Wl{s b o}(h:s b=nO):Z8 s (St.single b o):=λc x i=>by
 simp only[St.single]at i;split at i;rename_i e;rw[e];exact h;simp at i
def G.keep(g:G)(k:Nat->Prop):G:={ g with kept:=k }
def W0{g k w v d}(h:Rep g w v d):Rep (g.keep k) w v d:=h.mono0 (λ_=>ZIh _) (λ_ _ _=>rfl) (λ_ _ h=>h)
def Zza{g k Z w L v e}(h:ZK g Z w L v e):ZK (g.keep k) Z w L v e:=by
 induction e with
 |d d=>exact W0 h
 |loc l off=>exact h
 |when c e ih=>exact⟨λi=>ih (h.1 i),h.2⟩
def Zs3{g k w b ds}(h:YK g w b ds):YK (g.keep k) w b ds:=by
 obtain⟨hp,vs,T,t,u,h4,h5⟩:=h;exact⟨hp,vs,T,t,u,λi v d hv hd=>W0 (h4 i v d hv hd),h5⟩
def ZoK{g k w b o}(h:WN g w b o):WN (g.keep k) w b o:=by
 cases o with
 |cells ds=>exact Zs3 h
 |map es =>obtain⟨ab,en,u,h1,h2,h3,h4,h5,h6⟩:=h;exact⟨ab,en,u,h1,h2,λi x d hv hd=>W0 (h3 i x d hv hd),λi x d hv hd=>W0 (h4 i x d hv hd),h5,h6⟩
 |tip n=>exact h
 |mapE kp es kk n =>obtain⟨ab,io,ac,en,u,h1,h2,h3,h4,h5,h6,h7⟩:=h;exact⟨ab,io,ac,en,u,h1,h2,λi x d hi hv hd=>W0 (h3 i x d hi hv hd),λi x d hi hv hd=>W0 (h4 i x d hi hv hd),λe he=>⟨W0 (h5 e he).1,(h5 e he).2⟩,h6,h7⟩
 |loop r st =>obtain⟨hp,l,h1,h2,h3,h4,h5,h6,h7,h8,h9⟩:=h;exact⟨hp,l,h1,h2,h3,h4,h5,h6,h7,λt e he=>Zza (h8 t e he),h9⟩
 |dfr=>exact h
def ZI.imp{α β R S}{i:List α}{bs:List β}(h:ZI R i bs)(t:∀a b,R a b->S a b):ZI S i bs:=by
 induction h with
 |nil=>exact .nil
 |cons h _ ih=>exact .cons (t _ _ h) ih
def Zty{s t:St}(hd:Z8 s t)(h:Yh g (s.or t) w):Yh (g.keep λb=>g.kept b\/(t b).isSome) s w:={
 obj b o hb:=ZoK (h.obj b o (Zs hb))
 kept b o hb:=by rintro(hk|hk);exact h.kept b o (Zs hb) hk;obtain⟨x,i⟩:=Option.isSome_iff_exists.1 hk;rw[hd b x i]at hb;simp at hb
 fresh b hb:=by have u:=h.fresh b hb;refine⟨u.1,?_⟩;rintro(hk|hk);exact u.2 hk;obtain⟨x,i⟩:=Option.isSome_iff_exists.1 hk;have:=(h.obj b x (by rw[ZG (hd b x i)];exact i)).lt;omega
 tabs n cs hc:=W0 (h.tabs n cs hc) }
def Zq9{g w w' s t Φ e}(hd:Z8 s t)(h:Yh g (s.or t) w)(hp:Zhl (g.keep λb=>g.kept b\/(t b).isSome) w Φ e w'):
  Zhl g w (λr S=>∃s',Φ r s'/\Z8 s' t/\S=s'.or t) e w':=by
 obtain⟨g',s',r,he,hs,hr,hΦ⟩:=hp;have u:=he.keptEq;have ab:Ext g w (g'.keep g.kept) w':=⟨he.size,he.prot,he.cell,he.hdr,λb hb=>he.kept b (.inl hb),λb hb=>he.keptProt b (.inl hb),rfl,he.os,he.output,he.tape⟩;have ac:Z8 s' t:=λb o hb=>by
  cases i:s' b with
  |none=>rfl
  |some x=>exact absurd (by rw[u];exact .inr (by rw[hb];rfl)) (hs.kept b x i)
 refine⟨g'.keep g.kept,s'.or t,r,ab,⟨λb o hb=>?_,λb o hb=>?_,λb hb=>?_,λn cs hc=>W0 (hs.tabs n cs hc)⟩,?_,s',hΦ,ac,rfl⟩
 .cases i:s' b with
  |some x =>rw[Zs i]at hb;cases hb;exact ZoK (hs.obj b _ i)
  |none =>rw[ZG i]at hb;have h0:=h.obj b o (by rw[ZG (hd b o hb)];exact hb);have hk:(g.keep λb=>g.kept b\/(t b).isSome).kept b:=.inr (by rw[hb];rfl);exact h0.mono ab (he.kept b hk) (he.keptProt b hk)
 .cases i:s' b with
  |some x=>exact λhk=>hs.kept b x i (by rw[u];exact .inl hk)
  |none =>rw[ZG i]at hb;exact h.kept b o (by rw[ZG (hd b o hb)];exact hb)
 have:=hs.fresh b hb;exact⟨this.1,λhk=>this.2 (by rw[u];exact .inl hk)⟩;cases e<;>cases r<;>simp only[ZnU]at hr⊢;exact W0 hr;obtain⟨v,h1,h2⟩:=hr;exact⟨v,h1,W0 h2⟩
section
variable {P:Program}
def Za.frame{f args s t Φ}(i:Z8 s t)(h:Za P f args s Φ):Za P f args (s.or t) λr S=>∃s',Φ r s'/\Z8 s' t/\S=s'.or t :=
 ⟨h.1,λg w vs u ha=>(h.2 _ w vs (Zty i u) (ha.imp λ_ _=>W0)).mono λ_ _ hp=>Zq9 i u hp⟩
def WP.frame{f args s t Φ}(i:Z8 s t)(h:WP P f args s Φ):WP P f args (s.or t) λr S=>∃s',Φ r s'/\Z8 s' t/\S=s'.or t:=by
 intro g w fv vs u hf ha;obtain⟨d,nx,fr,h1,h2,h3,h4⟩:=h _ w fv vs (Zty i u) (W0 hf) (ha.imp λ_ _=>W0);refine⟨d,nx,fr,h1,h2,h3,λc cs=>?_⟩;obtain⟨e,w',h5,h6⟩:=h4 c cs;exact⟨e,w',Zq9 i u h5,h6⟩
end
section
variable {P:Program}
def ZrI{an l N r s da db args Φ}(hs:s l=sO (.loop r .ready))(hlen:I args=I r.params)(ha:cc P an N r.assign=sO da)(hb:cc P an N r.body=sO db)(hN:r.N=N)(hp:∀t∈r.params,t<N)(h:∀F:Fr P,K7 F l Φ->F.b.fn=r.fn->Zv F [.code da,.beginR,.code db] (WB r.params args r.H) [] s):WP P (.fn (.yield l) [] []) args s Φ:=by
 intro g w fv vs ab hf i;cases hf with
 |fn _ fs ac _ _ hn1 hn2 h1 h2 =>
 obtain rfl:fs=[]:=by simpa using hn1
 obtain⟨hp0,l0,a1,a2,a3,a4,a5,a6,a7,a8,a9,a10⟩:=ab.obj l _ hs;have u:vs.toArray.size=l0.params.size:=by
  have e1:=i.len;have e2:I l0.params.toList=I r.params:=by rw[a3]
  simp at e2⊢;omega
 refine⟨_,_,_,by simp[Deferred.ofValue];rfl,by simp[invoke,Instr.yield,Instr.getLoop,Jl a1,u];rfl,rfl,λc cs=>?_⟩;have M:Zw g (λ_=>0) w l0.tmps r.H [] s:=⟨ab,λl cs h=>by simp[Zg]at h,λl cs h=>by simp[Zg]at h,λl cs h=>by simp[Zg]at h,λl l' cs ac h=>by simp[Zg]at h,a8⟩;obtain⟨ad,M'⟩:=ZiI M i hlen (by rw[hN]at *;exact hp) (by rw[<-hN];exact a7);have:=h (Zbf P an r.fn N l c cs Φ) ⟨an,r.fn,N,c,cs,rfl⟩ rfl [.code r.assign,.beginRound,.code r.body] (.code ha (.beginR (.code hb .nil))) g (λ_=>0) w _ ad M';have ae:(Zbf P an r.fn N l c cs Φ).b.atR { tmps:=(r.params.zip vs).foldl (λtmps (x:Nat×Value)=>tmps.setIfInBounds x.1 x.2) l0.tmps,defers:=[] } [.code r.assign,.beginRound,.code r.body] =
   Frame.round l l0.fn ((l0.params.zip vs.toArray).foldl (λtmps (x:Nat×Value)=>tmps.setIfInBounds x.1 x.2) l0.tmps) l0.assign l0.body .normal:=by
  simp only[Frame.atR,Frame.round,a2,a4,a5,<-a3]
  congr 1
  rw[<-Array.foldl_toList];simp
 have e:(Zbf P an r.fn N l c cs Φ).ds=[]:=rfl;rw[e,ae]at this;have e2:(l0.params.zip vs.toArray).size=l0.params.size:=by simp at u⊢;omega
 rw[e2]at this;exact this
def ZsE{F:Fr P}(hr:F.b.roundOf=nO){o ps da db dk H L s p fv}(hf:ZC H true o=sO (p,.d fv))(hp:p)(ks)(hks:(Yn H ks).map (·.1) |>.Nodup)(h:∀q l r,s q=nO->s l=nO->q≠l->r.H=W1 ks H->r.params=ps->r.fn=F.b.fn->cc P F.an F.N r.assign=sO da->cc P F.an F.N r.body=sO db->r.N=F.N->(∀t∈ps,t<F.N) ->
   ∃Ψ,WP P fv [.fn (.yield l) [] []] ((s.upd q .dfr).upd l (.loop r .ready)) Ψ/\(∀d s',Ψ (.ret d) s'->Zjr (F.mark q) l r dk H L s')/\(∀d s',Ψ (.panic d) s'->Y3 (F.mark q) H L d s')):
  Zv F (.code (.rangeF o ps da db)::dk) H L s:=by
 intro k hk;cases hk with
 | @code _ _ kt _ hc ht =>
 obtain⟨f',al,a',b',rfl,ar,ay,ha,hb,aw⟩:=ZqS hc;intro g Z w tmps hN m;have au:Rep g w _ fv:=Z0 m ar rfl hf hp F.ds;have ah:=J7 (g:=g) (w:=w) (.deferred (sO [])) m.st.fresh;have af:=ah.ext m.st.fresh;obtain⟨hq,m1⟩:=m.newObj ah (o:=.dfr) ⟨(m.st.fresh _ (ZIh _)).1,Kl w⟩;let w1:=w.alloc (.deferred (sO []));let lp:Go.Loop:={ state:=.ready,pending:=nO,fn:=F.b.fn,tmps:=tmps,params:=al,assign:=a',body:=b',defers:=w.heap.size };let r:Zb7:={ fn:=F.b.fn,params:=ps,assign:=a',body:=b',defers:=w.heap.size,H:=W1 ks H,N:=F.N };have ai:=J7 (g:=g) (w:=w1) (.loop lp) m1.st.fresh;have ad:=ai.ext m1.st.fresh;obtain⟨hl,m2⟩:=m1.newObj ai (o:=.loop r .ready) ⟨(m1.st.fresh _ (ZIh _)).1,lp,Kl w1,rfl,ay,rfl,rfl,rfl,hN,λt e aq=>by
  obtain⟨h1,h2⟩:=ZeA hks aq;exact Zo0 (((m1.env t e (ZdY H ks t e h1))).mono ad) h2,rfl,rfl⟩
 have hqsz:w1.heap.size=w.heap.size+1:=by simp[w1]
 have av:s w1.heap.size=nO:=by have ax:¬w1.heap.size=w.heap.size:=ω;have h0:(s.upd w.heap.size .dfr) w1.heap.size=nO:=hl;simp[ZID,ax]at h0;exact h0
 obtain⟨Ψ,hV,ak,aj⟩:=h w.heap.size w1.heap.size r hq av ω rfl rfl rfl ha hb rfl aw;have ae:Rep g (w1.alloc (.loop lp)) _ fv:=(au.mono af).mono ad;obtain⟨d,nx,fr,am,ao,ap,hC⟩:=hV (Zf6 g Z L) (w1.alloc (.loop lp)) _ [.func (.yield w1.heap.size) #[] #[]] m2.callSt (Wq ae rfl) (.cons (.fn (.yield w1.heap.size) [] [] [] [] rfl rfl ψ ψ) .nil);have ac:(Instr.enterLoop F.b.fn tmps al a' b' F.b.roundOf).run P w=.ok (w1.heap.size,[{ target:=.collected w.heap.size,args:=#[] }]) (w1.alloc (.loop lp)):=by rw[hr];simp[Instr.enterLoop,w1,lp]
 have ab:=ZhR (P:=P) (b:=F.b) (a:=⟨tmps,F.ds⟩) (k:=kt) (cs:=F.cs) ac am ao ap;obtain⟨e,w',⟨g',s',res,x1,x2,x3,x4⟩,i⟩:=hC (F.b.atR { tmps:=tmps,defers:=[{ target:=.collected w.heap.size,args:=#[] }]++F.ds } (.inRangeFunc w1.heap.size::kt)) F.cs;obtain⟨ag,hm⟩:=m2.afterCall x1 x2;have u:=(af.trans ad).trans ag;cases e with
 |returned v =>
  cases res with
  |panic d=>exact x3.elim
  |ret d =>refine F.T.back _ _ _ _ (.head ab i) ?_;exact F.T.ext _ _ _ _ _ u (ZoY (F:=F.mark w.heap.size) ht hN hm (ak d s' x4))
 |panicked ch =>
  cases res with
  |ret d=>exact x3.elim
  |panic d =>obtain⟨v,rfl,hv⟩:=x3;refine F.T.back _ _ _ _ (.head ab i) ?_;exact F.T.ext _ _ _ _ _ u (aj d s' x4 _ _ _ v _ _ hN hm (Wq hv rfl))
 |outgrown=>exact i.elim
def Zwq{F:Fr P}{H L d s s'}(hs:s'.sub s)(h:Y3 F H L d s'):Y3 F H L d s :=
 λg Z w v i tmps t m u=>h g Z w v i tmps t (m.sub hs) u
inductive Oc where
 |next
 |stop (c:Code)
 |pan (d:D)
def Oc.res:Oc->Res
 |.next=>.ret (.bool true)
 |.stop _=>.ret (.bool false)
 |.pan d=>.panic d
def ZmN(P:Program)(y:D)(n:Nat)(args:Nat->List D)(go:Nat->Oc)(A:Nat->St->Prop):Prop :=
 ∀j,j<n->(∀i,i<j->go i=.next)->∀a,A j a->WP P y (args j) a λr a'=>r=(go j).res/\A (j+1) a'
inductive Zhj(n:Nat)(go:Nat->Oc)(A:Nat->St->Prop)(a:St):Res->Prop where
 |all (h:∀i,i<n->go i=.next) (ha:A n a):Zhj n go A a (.ret (.tup []))
 |stop (m:Nat) (c:Code) (hm:m<n) (h:∀i,i<m->go i=.next) (hc:go m=.stop c) (ha:A (m+1) a):Zhj n go A a (.ret (.tup []))
 |pan (m:Nat) (d:D) (hm:m<n) (h:∀i,i<m->go i=.next) (hc:go m=.pan d) (ha:A (m+1) a):Zhj n go A a (.panic d)
def Zc7(P:Program)(fv:D)(n:Nat)(args:Nat->List D)(t:St):Prop :=
 ∀(y:D) (go:Nat->Oc) (A:Nat->St->Prop) (a0:St),ZmN P y n args go A->A 0 a0->Z8 a0 t->WP P fv [y] (a0.or t) λr S=>∃a,Zhj n go A a r/\a.sub S
def lpS(q l:Nat)(r:Zb7)(st:LSt):St:=(St.single q .dfr).or (St.single l (.loop r st))
structure ZsK(F:Fr P)(busy:St)(E:Oc->St->Prop):Prop where
 fin:∀{H:Env} {L:Loc} {S a:St},E .next a->Z8 a busy->(a.or busy).sub S->Zv F [] H L S
 ret:∀{dk:List W2} {H:Env} {L:Loc} {S a:St},E (.stop .ret) a->Z8 a busy->(a.or busy).sub S->Zv F (.code .ret::dk) H L S
 exit:∀{id:Nat} {dk:List W2} {H:Env} {L:Loc} {S a:St},Q2 id dk=none->E (.stop (.exit id)) a->Z8 a busy->(a.or busy).sub S->Zv F (.code (.exit id)::dk) H L S
 pan:∀{H:Env} {L:Loc} {d:D} {S a:St},E (.pan d) a->Z8 a busy->(a.or busy).sub S->Y3 F H L d S
def YL.ex{F:Fr P}{rs Φ dds}(t:YL F rs Φ dds):∃f,P.funcs[F.b.fn]?=sO f:=by
 obtain⟨an,f,df,cs,u,hrs,rfl⟩:=t;obtain⟨i,h,_⟩:=Zsf u;exact⟨i,h⟩
def ZaE{q l r st}:(lpS q l r st) q=sO .dfr:=Zs Yi
def QE{q l r st}(h:q≠l):(lpS q l r st) l=sO (.loop r st):=by
 unfold lpS;rw[ZG (Za1 (Ne.symm h))];exact Yi
def Zfo{q l c r st}(i:c≠q)(t:c≠l):(lpS q l r st) c=nO:=by
 unfold lpS;rw[ZG (Za1 i)];exact Za1 t
def ZtI{q l r r' st st' a}(h:Z8 a (lpS q l r st))(hq:q≠l):Z8 a (lpS q l r' st'):=λb o u=>by
 by_cases i:b=q;rw[i];exact h q _ ZaE;by_cases t:b=l;rw[t];exact h l _ (QE hq);rw[Zfo i t]at u;grind
def Zqc{q l r st st' a S}(hq:q≠l)(hd:Z8 a (lpS q l r st))(hs:(a.or (lpS q l r st)).sub S):(a.or (lpS q l r st')).sub (S.upd l (.loop r st')):=λb o i=>by
 by_cases t:b=l;subst t;rw[ZG (hd b _ (QE hq)),QE hq]at i;rw[St.upd_same];exact i;rw[St.upd_ne _ _ t];refine hs b o ?_;by_cases u:b=q;subst u;rw[ZG (hd b _ ZaE),ZaE]at i⊢;exact i;cases ha:a b with
 |some x=>rw[Zs ha]at i⊢;exact i
 |none=>rw[ZG ha,Zfo u t]at i;grind
def ZuS{F:Fr P}{q l:Nat}{r:Zb7}(t:K7 F l Φ)(i:q≠l)(hex:∃f,P.funcs[F.b.fn]?=sO f){E:Oc->St->Prop}(u:∀oc a,E oc a->Z8 a (lpS q l r .busy)->Φ oc.res (a.or (lpS q l r (match oc with|.next=>.ready|.stop c=>.done c|.pan _=>.busy)))):ZsK F (lpS q l r .busy) E:={
 fin he hd hs:=t.fin (s':=_) (hs l _ (by rw[ZG (hd l _ (QE i))];exact QE i)) (Zqc i hd hs) (u .next _ he hd)
 ret he hd hs:=t.ret (hs l _ (by rw[ZG (hd l _ (QE i))];exact QE i)) (Zqc i hd hs) (u (.stop .ret) _ he hd)
 exit hx he hd hs:=t.exit hx (hs l _ (by rw[ZG (hd l _ (QE i))];exact QE i)) (Zqc i hd hs) (u (.stop (.exit _)) _ he hd)
 pan he hd hs:=t.pan hs (u (.pan _) _ he hd) λan fn N c cs e=>by
  obtain⟨f,hf⟩:=hex;refine⟨f,?_⟩;have:F.b.fn=fn:=by rw[e];rfl
  rw[<-this];exact hf }
end
end Go.DL
namespace Go.DL
open Go Go.Lib
variable [ZsL]
section
variable {P:Program}
def Zes{F:Fr P}{kp dk o os H L s}(hg:Zn H o.guard=sO true){e sz b z x y}(hk:o.k=.append e sz b z x y)
  {p q t n m row row2 dy dx} (hx:ZC H true x=sO (p,.d dx)) (hsl:Zee sz dx=sO (t,n,row)) (hy:ZC H true y=sO (q,.d dy)) (hp:p) (hq:q) (hel:∀g w v,Rep g w v dy->∃news,WO g w sz m news row2/\Zbs P w sz m v news) (hok:t.okIn s)
  (hb:(n+m)*b<=140737488355328) (hbig:n+m<=big) (h:∀t':Tok,t'.okIn s->DO F kp dk os (Zx H o.dst (.d (.sl t' (n+m) sz (YW n row row2)))) L (s.own t' ((n+m)*sz))) :
  DO F kp dk (o::os) H L (s.own t (n*sz)):=by
 refine Y5 λoo g Z w tmps bi i r k az ab ar ai hd hN M hr au=>?_;have hw:=Z9 M ar hg;have ax:=Yd ab (by rw[hk];rfl);rw[hk]at ab;obtain⟨x',y',ag,ak,t1,t2,tu,a0,u,al,am,bb,bc,ay,ba,hz,ap,be,bf,h0,hzl⟩:=ZaP ab;subst ap;have a8:Rep g w _ (.sl t n sz row):=Zhp (Z0 M be rfl hx hp F.ds) hsl;have a9:Rep g w _ _:=Z0 M bf rfl hy hq F.ds;obtain⟨zv,hz1,bg,hz3,ie,ac,bh⟩:=Qf (g:=g) (w:=w) hz;have ae:ie.size=sz:=by simpa[ZT,ac]using ba
 have af:zv.cells.size=sz:=by have:=bg.len;simp at this;omega
 have aq:P.bytesOf e=ie.bytes:=by simp[Program.bytesOf,ac]
 rw[aq]at hb;obtain⟨news,av,aw⟩:=hel _ _ _ a9;obtain⟨v',w',g',t',a1,a2,a3,a4,a5,a6,a7⟩:=ZsU (ty:=oo.type) bb bc ay ac bh ae af h0 M.st hok a8 av aw hb hbig;have ad:∀l cs,Zg L l=sO cs->t≠.tip (Z l):=λl cs hl ht=>by have:=M.locSt l cs hl;rw[ht]at this;simp[St.own,ZID]at this
 have aj:∀l cs,Zg L l=sO cs->s (Z l)=nO:=λl cs hl=>by
  cases hx:s (Z l) with
  |none=>rfl
  |some o=>have:=Y2 (k:=n*sz) hok _ _ hx;rw[M.locSt l cs hl]at this;simp at this
 have mm:Zw g' Z w' tmps H L (s.own t' ((n+m)*sz)):=by
  refine⟨a3,λl cs hl=>(M.loc l cs hl).mono a2 (a6 (Z l) (M.loc l cs hl).lt (ad l cs hl)).1 (a6 (Z l) (M.loc l cs hl).lt (ad l cs hl)).2,λl cs hl=>by rw[a2.keptEq];exact M.locKept l cs hl,λl cs hl=>?_,M.inj,λt e he=>(M.env t e he).mono a2⟩;cases t' with
  |tip b =>
   have:¬Z l=b:=λhb=>by rcases a7 b rfl with h1|h1;exact ad l cs hl (by rw[hb];exact h1);have:=(M.loc l cs hl).lt;omega
   simp only[St.own,ZID,this,if_false];exact aj l cs hl
  |_=>exact aj l cs hl
 refine Yl hN az ai hd hw ax (v:=v') (w':=w') (e:=.d (.sl t' (n+m) sz (YW n row row2))) ?_ a2 mm a5 (h t' a4 bi r k hr au);have ao:ag = #[x',y']:=by apply Array.ext';simpa using u
 have ah:∀vs,Builtin.append_ ak oo.type vs=Builtin.append_ #[t1,t2] oo.type vs:=λvs=>by unfold Builtin.append_;simp[al,am]
 unfold execOp;simp only[a0,ao,resolve,invoke,builtin,Sem.run_bind,Sem.run_pure,Result.andThen_ok,List.map_toArray,ZIj,ZIA,ah,a1]
def Zgl{g w v b off cap sz}(h:Rep g w v (.msl b off 0 cap sz)):∃news,WO g w sz 0 news (λ_=>[])/\Zbs P w sz 0 v news:=by
 cases h with
 |mslx a _ _ _=>exact⟨[],⟨ψ,λi u=>by omega,λi j v d u=>by omega,ψ⟩,λt=>by simp[Builtin.lenOf],λt _=>by simp[Builtin.firstCells,loadCells,loadCellsFrom]⟩
 |msl _ _ _ _ _ hn hb=>exact⟨[],⟨ψ,λi u=>by omega,λi j v d u=>by omega,ψ⟩,λt=>by simp[Builtin.lenOf],λt _=>run_firstCells_some (P:=P) t sz 0 ⟨b,off,nO⟩ 0 cap [] ψ (λk v hv=>by simp at hv)⟩
def Zet{F:Fr P}{dk H L s}(t){tk sz row}(ht:ZM H t=sO (.d (.sl tk 0 sz row)))(h1:Zv F dk ((t,.d .nilsl)::H) L s)
  (h2:∀b off cap,Zv F dk ((t,.d (.msl b off 0 cap sz))::H) L s):Zv F dk H L s:=by
 intro k hk g Z w tmps hN m;have hr:Rep g w (tmps.getD t undef) (.sl tk 0 sz row):=m.env t _ ht;have i:∀d,Rep g w (tmps.getD t undef) d->Zw g Z w tmps ((t,.d d)::H) L s:=λd hd=>⟨m.st,m.loc,m.locKept,m.locSt,m.inj,λt' e' u=>by
  simp only[ZM]at u;split at u;rename_i hx;subst hx;simp only[ZH0]at u;subst u;exact hd;exact m.env t' e' u⟩
 generalize tmps.getD t undef=v at hr i;cases hr with
 |sl0 a _ _ _ _ =>
  cases a with
  |none=>exact h1 k hk g Z w tmps hN (i _ .nilsl)
  |some a=>exact h2 0 0 0 k hk g Z w tmps hN (i _ (.mslx a 0 0 _))
 |sl b o n cap s row t f hl hc hp hr one ht hcap hb=>exact h2 b o cap k hk g Z w tmps hN (i _ (.msl _ _ _ _ _ hcap hb))
end
end Go.DL
namespace Go.DL
open Go
variable [ZsL]
variable {kp:Option (List Nat)}{L:Loc}{H:Env}{s:St}{w:World}{os:List DOp}{ds:List D}{B:List (Nat × Rd)}{dst:Option Nat}{tmps:Array Value}{g:G}{Φ:Res->St->Prop}{Z:Nat->Nat}{xs:List Opd}{side:Prop}{row:Nat->List D}
section
variable {P:Program}
def ZtW{a:St}{q o}(h:a q=nO):(a.or (St.single q o)).del q=a:=by
 funext b;simp only[St.del];by_cases i:b=q;rw[if_pos i,i,h];rw[if_neg i];cases t:a b with
 |some x=>exact Zs t
 |none=>rw[ZG t];exact Za1 i
def YL.retM{F:Fr P}{rs Φ dds}(t:YL F rs Φ dds){q a dk H L}(i:a q=nO)(h:Unw P dds nO a (Zlg H L rs Φ)):
  Zv (F.mark q) (.code .ret::dk) H L (a.or (St.single q .dfr)) :=
 (t.mark q).retU ⟨by rw[ZG i];exact Yi,by rw[ZtW i];exact h⟩
def YL.ret1{F:Fr P}{rs Φ}(hF:YL F rs Φ []){q a dk H L}(hq:a q=nO){p ds}(d s')(i:Yw H L a rs=sO (p,ds))(t:p)(u:(Qa ds).Le d)(h4:s'.sub a)(h5:Φ (.ret d) s'):
  Zv (F.mark q) (.code .ret::dk) H L (a.or (St.single q .dfr)):=hF.retM hq ⟨p,ds,d,s',i,t,u,h4,h5⟩
def YL.fin1{F:Fr P}{rs Φ}(hF:YL F rs Φ []){q a H L}(i:a q=nO){p ds}(d s')(t:Yw H L a rs=sO (p,ds))(u:p)(h3:(Qa ds).Le d)(h4:s'.sub a)(h5:Φ (.ret d) s'):
  Zv (F.mark q) [] H L (a.or (St.single q .dfr)) :=
 (hF.mark q).finU ⟨by rw[ZG i];exact Yi,by rw[ZtW i];exact⟨p,ds,d,s',t,u,h3,h4,h5⟩⟩
def YL.pan1{F:Fr P}{rs Φ}(hF:YL F rs Φ []){q a H L d}(i:a q=nO)(s')(t:s'.sub a)(u:Φ (.panic d) s'):Y3 (F.mark q) H L d (a.or (St.single q .dfr)) :=
 (hF.mark q).panU ⟨by rw[ZG i];exact Yi,by rw[ZtW i];exact⟨d,s',ZH3 d,t,u⟩⟩
def Zf7{a t}(h:Z8 a t){q o}(i:t q=sO o):a q=nO:=h q o i
end
section
variable {P:Program}
def Jp{F:Fr P}{dk H L s b ds ds'}(h:s b=sO (.cells ds))(hl:LeC ds ds')(k:Zv F dk H L (s.upd b (.cells ds'))):Zv F dk H L s:=by
 intro kk hk g Z w tmps hN m;have hc:YK g w b ds:=m.st.obj b _ h;exact k kk hk g Z w tmps hN ⟨m.st.updL (o:=.cells ds') (hc.le hl) (m.st.kept b _ h),m.loc,m.locKept,λl t u=>by
  have i:Z l≠b:=λe=>by have:=m.locSt l t u;rw[e,h]at this;simp at this
  rw[St.upd_ne _ _ i];exact m.locSt l t u,m.inj,m.env⟩
end
def Zzf{s cs r}:∀{len},I cs=len*s->(∀i,i<len->part cs (i*s) s=r i)->cs=(ZIf len).flatMap r:=by
 intro len hl hr;have t:∀k,k<=len->cs.take (k*s)=(ZIf k).flatMap r:=by
  intro k;induction k with
  |zero=>intro _;simp
  |succ k ih =>
   intro u;rw[List.range_succ,List.flatMap_append,<-ih ω,ZIs,Nat.one_mul,List.take_add]
   congr 1
   simp only[List.flatMap_cons,List.flatMap_nil,ZIy];rw[<-hr k u];rfl
 have:=t len (ZIh _);rw[<-hl,ZIC]at this;exact this
def ZjY(c:Array Value)(T:TypeId)(i:∀b,w.heap.size<=b->g.prot b=0/\¬g.kept b):J2 g w g (w.drew.alloc (.cells c T)):={
 size:=by simp
 old b hb:=(by first|exact heap_alloc_old w.drew _ b hb|exact heap_alloc_old w.drew _ hb)
 prot b hb:=rfl
 fresh b hb:=by
  have:(w.drew.alloc (.cells c T)).heap.size=w.heap.size+1:=by simp
  rw[this]at hb;exact(i b ω).1
 kept:=rfl
 os:=rfl
 output:=rfl
 tape:=rfl }
section
variable {P:Program}
def ZBt{g w len s z t e}{parts:List (Nat×Value)}{ds}(hu:P.underlying t=sO (.slice e))(hsz:ZT P e=sO s)(hz:Zak P e=sO z)(hdis:Qz len (parts.map (·.1))=true)(hzl:I z=s)(hs0:0<s)(hbig:len*s<=2 ^ 24)(hl0:0<len)(hd:ZI (Rep g w) (parts.map (·.2)) ds)(hp:Qb s ds=true):
  ∃cv:Array Value,(Instr.buildSlice t len parts.toArray).run P w=.ok (.slice (sO ⟨w.heap.size,0,nO⟩) len len) (w.alloc (.cells cv e)) /\
   ZI (Rep g w) cv.toList ((ZIf len).flatMap (ZZ z ((parts.map (·.1)).zip ds)))/\∀v∈cv,v.one1=true:=by
 obtain⟨zv,hz1,al,ar,ie,ai,av⟩:=Qf (g:=g) (w:=w) hz;have u:ie.size=s:=by simpa[ZT,ai]using hsz
 have ac:zv.cells.size=s:=by have:=al.len;simp at this;omega
 have hn:(parts.map (·.1)).length=I ds:=by have:=hd.len;simpa using this
 let c0:Array Value:=(Array.range (len*s)).map (zv.cells[· % zv.cells.size]!);let d0:List D:=(ZIf (len*s)).map λi=>z.getD (i % s) .undef;have ag:ZI (Rep g w) c0.toList d0:=by refine Yg (by simp[c0,d0]) (λi v d hv hd=>?_);simp only[c0,d0,Array.toList_map,Array.toList_range,List.getElem?_map,ZIe]at hv hd;obtain⟨a,ha,rfl⟩:=hv;obtain⟨b,hb,rfl⟩:=hd;rw[ha]at hb;simp only[ZH0]at hb;subst hb;have ab:a % s<s:=Nat.mod_lt _ hs0;refine al.get (a % s) _ _ ?_ ?_;rw[ac];simp[getElem!_pos,ac,ab];simp[ZIg,hzl,ab]
 have af:∀v∈c0,v.one1=true:=λv hv=>by simp only[c0,Array.mem_map]at hv;obtain⟨a,_,rfl⟩:=hv;have ab:a % zv.cells.size<zv.cells.size:=Nat.mod_lt _ ω;rw[getElem!_pos zv.cells (a % zv.cells.size) ab];exact ar _ (Array.getElem_mem ab)
 have ae:I d0=len*s:=by simp[d0]
 obtain⟨cs,ad,am,ah⟩:=ZjS (parts.map (·.1)) ds d0 hdis hn hp ae;obtain⟨cv,ao,ap,aq⟩:=Zhx (g:=g) (w:=w) (λi=>sO (i*s,s)) parts ((parts.map (·.1)).map λi=>(i*s,s)) ds cs d0 c0 (λi x q hx hq=>by
  simp only[List.map_map,List.getElem?_map,hx,ZIx,ZH0,Function.comp_def]at hq;rw[<-hq]) ψ hd ag af ad
 have aj:¬len*s=0:=by simp[Nat.mul_eq_zero];omega
 have ak:=run_buildSlice (P:=P) w t e len parts.toArray cv ie zv hu ai av (by rw[u];omega) (by rw[u];exact aj) (by rw[u];exact ao);refine⟨cv,ak,?_,aq⟩;have:cs=(ZIf len).flatMap (ZZ z ((parts.map (·.1)).zip ds)):=Zzf am λi hi=>by rw[ah i hi];have au:part d0 (i*s) s=z:=Zk9 hzl hs0 hi;rw[au]
 rw[<-this];exact ap
def Zve{F:Fr P}{kp dk o os H L s}(hg:Zn H o.guard=sO true){len n z is xs}(hk:o.k=.bsl len n z is xs){p es ds}(ha:Ya H true xs=sO (p,es))(hds:Kh es=sO ds)(hp:p)(hok:Qb n ds=true)(hl0:0<len)(h:∀b,s b=nO->DO F kp dk os (Zx H o.dst (.d (.msl b 0 len len n))) L (s.upd b (.cells ((ZIf len).flatMap (ZZ z (is.zip ds)))))):DO F kp dk (o::os) H L s:=by
 refine Y5 λoo g Z w tmps aw i r k ap ab ak ag hd hN m hr al=>?_;have hw:=Z9 m ak hg;have am:=Yd ab (by rw[hk];rfl);rw[hk]at ab;obtain⟨t,e,parts,aq,hu,ar,hz,au,rfl,af,av,aj,ae⟩:=Zx4 ab;have u:=Zcd m rfl F.ds au ha hp;have ac:=K3 u hds;obtain⟨cv,h1,h2,h3⟩:=ZBt (P:=P) (g:=g) (w:=w) (parts:=parts.toList.map λx=>(x.1,(Act.mk tmps F.ds).eval x.2)) hu ar hz (by simpa[List.map_map,Function.comp_def]using af) av aj ae hl0
  (by simpa[List.map_map,Function.comp_def]using ac) hok
 have ad:ZI (Rep g w) cv.toList ((ZIf len).flatMap (ZZ z ((parts.toList.map (·.1)).zip ds))):=by simpa[List.map_map,Function.comp_def]using h2
 have ah:=J7 (g:=g) (w:=w) (.cells cv e) m.st.fresh;have he:=ah.ext m.st.fresh;have ao:WN g (w.alloc (.cells cv e)) w.heap.size (.cells ((ZIf len).flatMap (ZZ z ((parts.toList.map (·.1)).zip ds)))) :=
  ⟨(m.st.fresh _ (ZIh _)).1,_,e,Kl w,by rw[<-ad.len];simp,λi v d hv hd=>(ad.get i v d (by simpa using hv) hd).mono he,h3⟩
 obtain⟨hn,m'⟩:=m.newObj ah ao;have ai:(execOp (Act.mk tmps F.ds).eval oo).run P w=.ok (.value (.slice (sO ⟨w.heap.size,0,nO⟩) len len)) (w.alloc (.cells cv e)):=by
  simp only[execOp,aq,Sem.run_bind];have e1:(parts.map λx=>(x.1,(Act.mk tmps F.ds).eval x.2))=(parts.toList.map λx=>(x.1,(Act.mk tmps F.ds).eval x.2)).toArray:=by apply Array.ext';simp
  rw[e1,h1];rfl
 refine Yl (L':=L) hN ap ag hd hw am (e:=.d (.msl w.heap.size 0 len len n)) ai he m' (Rep.msl _ _ _ _ _ (ZIh _) ?_) ?_;unfold big;have:len<=len*n:=Nat.le_mul_of_pos_right _ aj;omega;exact h _ hn aw r k hr al
def Zpq(o:DOp)(H:Env)(L:Loc)(s:St):SR :=
 match o.k with
 |.bsl _ _ _ _ _=>.stop
 |_=>ZF o H L s
def Zln(K:Env->Loc->St->Prop)(X:List DOp->Env->Loc->St->Prop):List DOp->Env->Loc->St->Prop
 | [],H,L,s=>K H L s
 |o::os,H,L,s=>match Zpq o H L s with
  |.ok side H' L' s'=>side/\Zln K X os H' L' s'
  |.all side pre H' s'=>side/\∀b,pre b->Zln K X os (H' b) L (s' b)
  |.stop=>X (o::os) H L s
def Zlf{F:Fr P}{kp}{dk}:∀{os} {H} {L} {s},
  Zln (λH L s=>Zv F dk (kept kp H) (Zlr kp H L) s) (λos H L s=>DO F kp dk os H L s) os H L s->DO F kp dk os H L s
 | [],H,L,s,h=>ZeY h
 |o::os,H,L,s,h=>by
  have i:∀r,Zpq o H L s=r->r=.stop\/ZF o H L s=r:=λr t=>by unfold Zpq at t;split at t;exact .inl t.symm;exact .inr t
  simp only[Zln]at h;split at h;rename_i sd H' L' s' u;rcases i _ u with h2|h2;cases h2;exact QO h2 h.1 (Zlf h.2);rename_i sd pre H' s' u;rcases i _ u with h2|h2;cases h2;exact ZnO h2 h.1 λb hb=>Zlf (h.2 b hb);exact h
def Zvm{g w s sz m v1 v2 row row2 tT u ty e tu i z}(ht:P.underlying tT=sO (.slice e))(hu:P.underlying u=sO tu)(hnu:∀k,tu≠.int k)(hi:P.info? e=sO i)(hz:i.zero=sO z)(hsz:i.size=sz)(hzc:z.cells.size=sz)(hone:∀x∈z.cells,x.one1=true)(h0:0<sz)(hs:Yh g s w)(h1:Rep g w v1 (.sl .full 0 sz row)){news}(hm:0<m)(h2:WO g w sz m news row2)(h3:Zbs P w sz m v2 news)(hb:m*i.bytes<=140737488355328)(hbig:m<=big):
    ∃(cap:Nat) (cv:Array Value),(Builtin.append_ #[tT,u] ty #[v1,v2]).run P w=.ok (.slice (sO ⟨w.heap.size,0,nO⟩) m cap) (w.drew.alloc (.cells cv e))/\m<=cap/\cap<=big/\cv.size=cap*sz/\(∀v∈cv,v.one1=true) /\
      ∀(k:Nat) (v d),cv[k]?=sO v->((ZIf m).flatMap row2++List.replicate ((cap-m)*sz) .any)[k]?=sO d->Rep g w v d:=by
  subst hsz;have ab:∀ac,v1=.slice ac 0 0->∃(cap:Nat) (cv:Array Value),(Builtin.append_ #[tT,u] ty #[v1,v2]).run P w=.ok (.slice (sO ⟨w.heap.size,0,nO⟩) m cap) (w.drew.alloc (.cells cv e))/\m<=cap/\cap<=big/\cv.size=cap*i.size/\(∀v∈cv,v.one1=true) /\
      ∀(k:Nat) (v:Value) (d:D),cv[k]?=sO v->((ZIf m).flatMap row2++List.replicate ((cap-m)*i.size) .any)[k]?=sO d->Rep g w v d:=by
    intro ac hv;subst hv;obtain⟨ak,aq,ho1,ap⟩:=ZiM (P:=P) h1 h0;have ao:ak=[]:=List.eq_nil_of_length_eq_zero (by simpa using aq.len);subst ao;have ho:=ap;have ad:=ZmZ (ty:=ty) (n:=0) (cap:=0) ht hu hnu hi hz h3 ho ω (by simp only[big]at hbig;omega) (by rw[Nat.zero_add];exact hb);rw[Nat.zero_add]at ad;have al:=grownCap_ge w m 0 e;have am:=grownCap_le_maxLen w m 0 e (by simp only[big]at hbig;simp only[maxLen];omega);refine⟨_,_,ad,al,by simp only[maxLen]at am;simp only[big];omega,?_,λv hv=>?_,λk v d hv hd=>?_⟩;simp only[List.nil_append,List.size_toArray,ZIc,h2.len,Array.length_toList,size_zeroCells,hzc,<-ZIs]
    congr 1;omega
    . simp only[List.nil_append,List.mem_toArray,List.mem_append]at hv;rcases hv with hv|hv;exact h2.one v hv;simp only[Builtin.zeroCells,Array.mem_toList_iff]at hv;first
      | (simp only[Array.mem_map,Array.mem_range]at hv
         obtain⟨a,_,rfl⟩:=hv;have ah:a % z.cells.size<z.cells.size:=Nat.mod_lt _ ω;rw[getElem!_pos z.cells (a % z.cells.size) ah];exact hone _ (Array.getElem_mem ah))
    simp only[List.nil_append,List.getElem?_toArray]at hv;have ag:((ZIf m).flatMap row2).length=m*i.size:=by
      have:∀k,k<=m->((ZIf k).flatMap row2).length=k*i.size:=by
        intro k;induction k with
        |zero=>intro _;simp
        |succ k ih =>intro hk;rw[List.range_succ,List.flatMap_append,ZIc,ih ω];simp[h2.rlen k hk,ZIs]
      exact this m (ZIh _)
    by_cases hk:k<m*i.size
    . rw[ZIB (by rw[h2.len];exact hk)]at hv;rw[ZIB (by rw[ag];exact hk)]at hd;have aj:k / i.size<m:=Nat.div_lt_of_lt_mul (by rw[Nat.mul_comm];exact hk);have ai:k % i.size<i.size:=Nat.mod_lt _ h0;have e1:k / i.size*i.size+k % i.size=k:=by rw[Nat.mul_comm];exact Nat.div_add_mod k i.size
      refine h2.rep (k / i.size) (k % i.size) v d aj ai (by rw[e1];exact hv) ?_;have ar:∀q,q<=m->∀a b,a<q->b<i.size->((ZIf q).flatMap row2)[a*i.size+b]?=(row2 a)[b]?:=by
        intro q;induction q with
        |zero=>intro _ a b ha;omega
        |succ q ih =>
          intro hq a b ha hb;have ae:((ZIf q).flatMap row2).length=q*i.size:=by
            have:∀k,k<=m->((ZIf k).flatMap row2).length=k*i.size:=by
              intro k;induction k with
              |zero=>intro _;simp
              |succ k ih =>intro hk;rw[List.range_succ,List.flatMap_append,ZIc,ih ω];simp[h2.rlen k hk,ZIs]
            exact this q ω
          rw[List.range_succ,List.flatMap_append];by_cases af:a<q;have:a*i.size+b<q*i.size:=by have:=ZIn i.size (show a+1<=q from af);rw[ZIs,Nat.one_mul]at this;omega
          rw[ZIB (by rw[ae];exact this)];exact ih ω a b af hb;obtain rfl:a=q:=ω;rw[ZIL (by rw[ae];omega),ae];simp
      rw[<-ar m (ZIh _) _ _ aj ai,e1];exact hd
    rw[ZIL (by rw[ag];omega),List.getElem?_replicate]at hd;split at hd;simp only[ZH0]at hd;subst hd;exact .any v;simp at hd
  cases h1 with
  |sl0 a t s row htt=>exact ab a rfl
  |sl b o n cap sz row t f hl hc hp hr one htok hcap hb' =>simp only[Zli]at htok;subst htok;exact ab _ rfl
def Zvd{F:Fr P}{kp dk o os H L s}(hg:Zn H o.guard=sO true){e sz b z x y}(hk:o.k=.append e sz b z x y){p q m row row2 dy dx}(hx:ZC H true x=sO (p,.d dx))(hsl:Zee sz dx=sO (.full,0,row))(hy:ZC H true y=sO (q,.d dy))(hel:ZaT sz dy=sO (m,row2))(hp:p)(hq:q)(hm:0<m)(hb:m*b<=140737488355328)(hbig:m<=big)(h:∀c cap,s c=nO->m<=cap->DO F kp dk os (Zx H o.dst (.d (.msl c 0 m cap sz))) L (s.upd c (.cells ((ZIf m).flatMap row2++List.replicate ((cap-m)*sz) .any)))):
  DO F kp dk (o::os) H L s:=by
 refine Y5 λoo g Z w tmps bi i r k az u aq ag hd hN M hr au=>?_;have hw:=Z9 M aq hg;have aw:=Yd u (by rw[hk];rfl);rw[hk]at u;obtain⟨x',y',ae,aj,t1,t2,tu,a0,t,ak,al,ba,bb,ax,a9,hz,ao,bc,be,h0,hzl⟩:=ZaP u;subst ao;have a7:Rep g w _ (.sl .full 0 sz row):=Zhp (Z0 M bc rfl hx hp F.ds) hsl;have a8:Rep g w _ _:=Z0 M be rfl hy hq F.ds;obtain⟨zv,hz1,bf,bg,ie,ab,bh⟩:=Qf (g:=g) (w:=w) hz;have ac:ie.size=sz:=by simpa[ZT,ab]using a9
 have ad:zv.cells.size=sz:=by have:=bf.len;simp at this;omega
 have ap:P.bytesOf e=ie.bytes:=by simp[Program.bytesOf,ab]
 rw[ap]at hb;obtain⟨news,ai,av⟩:=Zm7 (P:=P) a8 hel h0;obtain⟨cap,cv,a1,a2,a3,a4,a5,a6⟩:=Zvm (ty:=oo.type) ba bb ax ab bh ac ad bg h0 M.st a7 hm ai av hb hbig;have ah:J2 g w g (w.drew.alloc (.cells cv e)):=ZjY (g:=g) (w:=w) cv e M.st.fresh;have he:=ah.ext M.st.fresh;have ar:((ZIf m).flatMap row2).length=m*sz:=by
  have:∀k,k<=m->((ZIf k).flatMap row2).length=k*sz:=by
   intro k;induction k with
   |zero=>intro _;simp
   |succ k ih =>intro hk;rw[List.range_succ,List.flatMap_append,ZIc,ih ω];simp[ai.rlen k hk,ZIs]
  exact this m (ZIh _)
 have ay:WN g (w.drew.alloc (.cells cv e)) w.heap.size (.cells ((ZIf m).flatMap row2++List.replicate ((cap-m)*sz) .any)) :=
  ⟨(M.st.fresh _ (ZIh _)).1,_,e,Kl w.drew,by rw[ZIc,ar,List.length_replicate,a4,<-ZIs];congr 1;omega,λi v d hv hd=>(a6 i v d hv hd).mono he,a5⟩
 obtain⟨hn,m'⟩:=M.newObj ah ay;refine Yl (L':=L) hN az ag hd hw aw (e:=.d (.msl w.heap.size 0 m cap sz)) ?_ he m' (Rep.msl _ _ _ _ _ a2 a3) (h _ cap hn a2 bi r k hr au);have am:ae = #[x',y']:=by apply Array.ext';simpa using t
 have af:∀vs,Builtin.append_ aj oo.type vs=Builtin.append_ #[t1,t2] oo.type vs:=λvs=>by unfold Builtin.append_;simp[ak,al]
 unfold execOp;simp only[a0,am,resolve,invoke,builtin,Sem.run_bind,Sem.run_pure,Result.andThen_ok,List.map_toArray,ZIj,ZIA,af,a1]
end
def Zwn(g:G)(w:World)(b:Nat)(ds:List D):Prop :=
 ∃(vs:Array Value) (T:TypeId),w.heap[b]?=sO (.cells vs T (0,0))/\vs.size=I ds/\(∀(i:Nat) (v:Value) (d:D),vs[i]?=sO v->ds[i]?=sO d->Rep g w v d)/\(∀v∈vs,v.one1=true)/\I ds<=g.prot b
def Z2(t:St)(Ln:List Nat)(d d':D):Prop:=∀g w v,(∀b∈Ln,∀ds,t b=sO (.cells ds)->Zwn g w b ds)->Rep g w v d->Rep g w v d'
inductive LdC(t:St)(Ln:List Nat):List D->List D->Prop where
 |nil:LdC t Ln [] []
 |cons {d d':D} {l l':List D} (h:Z2 t Ln d d') (r:LdC t Ln l l'):LdC t Ln (d::l) (d'::l')
def Z2.refl{t Ln}(d):Z2 t Ln d d:=λ_ _ _ _ h=>h
def Z2.of_le{t Ln d i}(h:d.Le i):Z2 t Ln d i:=λg w v _ u=>h g w v u
def LdC.refl{t Ln}:∀l:List D,LdC t Ln l l
 | []=>.nil
 |d::l=>.cons (Z2.refl d) (LdC.refl l)
def LdC.len{t Ln l l'}(h:LdC t Ln l l'):I l=I l':=by
 induction h with
 |nil=>rfl
 |cons _ _ ih=>simp[ih]
def LdC.get{t Ln l l'}(h:LdC t Ln l l'){i:Nat}{d'}(u:l'[i]?=sO d'):∃d,l[i]?=sO d/\Z2 t Ln d d':=by
 induction h generalizing i with
 |nil=>simp at u
 |cons h1 _ ih =>
  cases i with
  |zero=>simp at u;subst u;exact⟨_,rfl,h1⟩
  |succ i=>simpa using ih (by simpa using u)
def Z2.agg{t Ln l l'}(h:LdC t Ln l l'):Z2 t Ln (.agg l) (.agg l'):=by
 intro g w v hf hr;cases hr with
 |agg vs _ hn hc one =>refine .agg vs _ (hn.trans h.len) (λi v d hv hd=>?_) one;obtain⟨x,hx,u⟩:=h.get hd;exact u g w v hf (hc i v x hv hx)
def Z2.msl{t Ln b n cap sz ds row}(hb:b∈Ln)(ht:t b=sO (.cells ds))(hlen:n*sz<=I ds)(hrow:∀i,i<n->LdC t Ln ((ds.drop (i*sz)).take sz) (row i)):Z2 t Ln (.msl b 0 n cap sz) (.sl .none n sz row):=by
 intro g w v hf hr;obtain⟨vs,T,hh,hsz,hc,one,hp⟩:=hf b hb ds ht;cases hr with
 |mslx a _ _ _=>exact .sl0 _ _ _ _ ψ
 |msl _ _ _ _ _ hcap hbig =>
 have ab:∀i j,i<n->j<sz->i*sz+j<I ds:=λi j hi hj=>by have:(i+1)*sz<=n*sz:=ZIn _ hi;rw[ZIs,Nat.one_mul]at this;omega
 have u:∀i j,i<n->j<sz->vs[i*sz+j]?=sO (vs.getD (i*sz+j) undef):=λi j hi hj=>by have h1:=ab i j hi hj;simp only[ZIN,Array.getElem?_eq_getElem (show i*sz+j<vs.size by omega),ZIH]
 have ac:∀i j,i<n->j<sz->vs.getD (i*sz+j) undef∈vs:=λi j hi hj=>by have h1:=ab i j hi hj;simp only[ZIN,Array.getElem?_eq_getElem (show i*sz+j<vs.size by omega),ZIH];exact Array.getElem_mem _
 have ad:∀i,i<n->(row i).length=sz:=λi hi=>by rw[<-(hrow i hi).len,ZIm,ZIG];have:(i+1)*sz<=n*sz:=ZIn _ hi;rw[ZIs,Nat.one_mul]at this;omega
 refine .sl b 0 n cap sz row .none (λi j=>vs.getD (i*sz+j) undef) ad (λi j hi hj=>?_) (λi j hi hj=>?_) (λi j d hi hd=>?_) (λi j hi hj=>one _ (ac i j hi hj)) trivial hcap hbig;rw[Nat.zero_add,JU hh];exact u i j hi hj;have:=ab i j hi hj;omega;have hj:j<sz:=by rw[<-ad i hi];exact(List.getElem?_eq_some_iff.1 hd).1
 obtain⟨x,hx,ae⟩:=(hrow i hi).get hd;rw[ZII,if_pos hj,List.getElem?_drop]at hx;exact ae g w _ hf (hc _ _ x (u i j hi hj) hx)
inductive LdE(t:St)(Ln:List Nat):Env->Env->Prop where
 |nil:LdE t Ln [] []
 |cons {k:Nat} {d d':D} {H H':Env} (h:Z2 t Ln d d') (r:LdE t Ln H H'):LdE t Ln ((k,.d d)::H) ((k,.d d')::H')
 |skip {k:Nat} {e:E} {H H':Env} (r:LdE t Ln H H'):LdE t Ln ((k,e)::H) ((k,e)::H')
inductive LdL(t:St)(Ln:List Nat):Loc->Loc->Prop where
 |nil:LdL t Ln [] []
 |cons {k:Nat} {c c':List D} {L L':Loc} (h:LdC t Ln c c') (r:LdL t Ln L L'):LdL t Ln ((k,c)::L) ((k,c')::L')
def LdE.refl{t Ln}:∀H:Env,LdE t Ln H H
 | []=>.nil
 |_::H=>.skip (LdE.refl H)
def LdE.get{t Ln H H'}(h:LdE t Ln H H'){k e'}(i:ZM H' k=sO e'):∃e,ZM H k=sO e/\(e=e'\/∃x y,e=.d x/\e'=.d y/\Z2 t Ln x y):=by
 induction h with
 |nil=>simp[ZM]at i
 |cons h1 _ ih =>rename_i k' d d' H H' _;simp only[ZM]at i⊢;by_cases u:k'=k;simp only[u,if_true,ZH0]at i⊢;exact⟨_,rfl,.inr ⟨d,d',rfl,i.symm,h1⟩⟩;simp only[u,if_false]at i⊢;exact ih i
 |skip _ ih =>rename_i k' e H H' _;simp only[ZM]at i⊢;by_cases u:k'=k;simp only[u,if_true,ZH0]at i⊢;exact⟨_,rfl,.inl i⟩;simp only[u,if_false]at i⊢;exact ih i
def LdL.get{t Ln L L'}(h:LdL t Ln L L'){k u}(i:Zg L' k=sO u):∃c,Zg L k=sO c/\LdC t Ln c u:=by
 induction h with
 |nil=>simp[Zg]at i
 |cons h1 _ ih =>rename_i k' c u L L' _;simp only[Zg]at i⊢;by_cases hk:k'=k;simp only[hk,if_true,ZH0]at i⊢;exact⟨_,rfl,i▸h1⟩;simp only[hk,if_false]at i⊢;exact ih i
def LdL.getI{t Ln L L'}(h:LdL t Ln L L'){k c}(i:Zg L k=sO c):∃u,Zg L' k=sO u:=by
 induction h with
 |nil=>simp[Zg]at i
 |cons h1 _ ih =>rename_i k' c u L L' _;simp only[Zg]at i⊢;by_cases hk:k'=k;simp only[hk,if_true];exact⟨_,rfl⟩;simp only[hk,if_false]at i⊢;exact ih i
def St.delL(s:St)(Ln:List Nat):St:=λb=>if b∈Ln then nO else s b
def KF(g:G)(t:St)(Ln:List Nat):G:={ g with prot:=λb=>if b∈Ln then (match t b with|some (.cells ds)=>I ds|_=>0) else g.prot b }
def Jw{t:St}{Ln:List Nat}(hs:Yh g t w)(u:∀b∈Ln,∃ds,t b=sO (.cells ds)):Ext g w (KF g t Ln) w:={
 size:=ZIh _
 prot b:=by simp only[KF];split;rename_i h;obtain⟨ds,i⟩:=u b h;have:=(hs.obj b _ i).1;omega;exact ZIh _
 cell _ _ _:=rfl
 hdr _ _ h:=h
 kept _ _:=rfl
 keptProt b hb:=by simp only[KF];split;rename_i h;obtain⟨ds,i⟩:=u b h;exact absurd hb (hs.kept b _ i);rfl
 keptEq:=rfl
 os:=rfl
 output:=rfl
 tape:=rfl }
def ZeQ{g w t Ln}(hs:Yh g t w)(hL:∀b∈Ln,∃ds,t b=sO (.cells ds)):∀b∈Ln,∀ds,t b=sO (.cells ds)->Zwn (KF g t Ln) w b ds:=by
 intro b hb ds hd;obtain⟨hp,vs,T,h1,h2,h3,h4⟩:=hs.obj b _ hd;exact⟨vs,T,h1,h2,λi v d hv u=>(h3 i v d hv u).mono (Jw hs hL),h4,by simp only[KF,if_pos hb,hd];exact ZIh _⟩
section
variable {P:Program}
def ZeZ{F:Fr P}{dk H H' L L' s}(Ln)(hL:∀b∈Ln,∃ds,s b=sO (.cells ds))(hE:LdE s Ln H H')(hLL:LdL s Ln L L')(k:Zv F dk H' L' (s.delL Ln)):Zv F dk H L s:=by
 intro kk hk g Z w tmps hN m;have hx:=Jw m.st hL;have ab:=ZeQ m.st hL;have u:∀c,c∉Ln->(KF g s Ln).prot c=g.prot c:=λc hc=>by simp only[KF,if_neg hc]
 refine F.T.ext _ _ _ _ _ hx (k kk hk _ Z w tmps hN ?_);have af:∀l cs,Zg L l=sO cs->Z l∉Ln:=λl cs hl h=>by obtain⟨ds,hd⟩:=hL _ h;have:=m.locSt l cs hl;rw[hd]at this;simp at this
 refine⟨⟨λc x t=>?_,λc x t=>?_,λc hc=>?_,λn cs hc=>(m.st.tabs n cs hc).mono hx⟩,λl cs hl=>?_,λl cs hl=>?_,λl cs hl=>?_,λl l' cs cs' h1 h2=>?_,λt' e he=>?_⟩;simp only[St.delL]at t;by_cases hc:c∈Ln;simp[hc]at t;simp only[hc,if_false]at t;exact(m.st.obj c x t).mono hx rfl (u c hc);simp only[St.delL]at t;by_cases hc:c∈Ln;simp[hc]at t;simp only[hc,if_false]at t;exact m.st.kept c x t;have h1:=m.st.fresh c hc;refine⟨(u c λh=>?_).trans h1.1,h1.2⟩;obtain⟨ds,hd⟩:=hL c h;have:=(m.st.obj c _ hd).lt;omega;obtain⟨c,hc,ac⟩:=hLL.get hl;have ae:=(m.loc l c hc).mono hx rfl (u _ (af l c hc));obtain⟨h1,vs,T,h2,h3,h4,h5⟩:=ae;refine⟨h1,vs,T,h2,h3.trans ac.len,λi v d hv hd=>?_,h5⟩;obtain⟨x,ag,ah⟩:=ac.get hd;exact ah _ w v ab (h4 i v x hv ag);obtain⟨c,hc,_⟩:=hLL.get hl;exact m.locKept l c hc;obtain⟨c,hc,_⟩:=hLL.get hl;simp only[St.delL];split;rfl;exact m.locSt l c hc;obtain⟨c,hc,_⟩:=hLL.get h1;obtain⟨c',ad,_⟩:=hLL.get h2;exact m.inj l l' c c' hc ad;obtain⟨e0,h0,h1⟩:=hE.get he;have hr:=m.env t' e0 h0;rcases h1 with h1|⟨x,y,h1,h2,h3⟩;subst h1;exact(hr.mono hx).locs λl cs hl=>⟨(hLL.getI hl),rfl⟩;subst h1;subst h2;exact h3 _ w _ ab (Rep.mono hr hx)
inductive SC(N:Nat->Prop):D->Prop where
 |int (k:IntKind) (n:Int):SC N (.int k n)
 |bool (b:Bool):SC N (.bool b)
 |str (l:List UInt8):SC N (.str l)
 |nilsl:SC N .nilsl
 |agg (cs:List D) (h:∀c∈cs,SC N c):SC N (.agg cs)
 |tup (cs:List D) (h:∀c∈cs,SC N c):SC N (.tup cs)
 |sl0 (t:Tok) (s:Nat) (row:Nat->List D):SC N (.sl t 0 s row)
 |tip (b n s:Nat) (row:Nat->List D) (hb:N b) (h:∀i,i<n->∀c∈row i,SC N c):SC N (.sl (.tip b) n s row)
 |ptr (b o:Nat):SC N (.ptr b o)
 |msl (b o n cap s:Nat):SC N (.msl b o n cap s)
 |fn (f:Fn) (a b:List D) (ha:∀c∈a,SC N c) (hb:∀c∈b,SC N c):SC N (.fn f a b)
 |nilptr:SC N .nilptr
 |map (b:Nat):SC N (.map b)
 |nilmap:SC N .nilmap
 |nilfn:SC N .nilfn
 |niliface:SC N .niliface
 |undef:SC N .undef
def SC.rep{N d}(h:SC N d):∀{g g' w v},(∀b,N b->g.prot b<=g'.prot b)->Rep g w v d->Rep g' w v d:=by
 induction h with
 |int k n=>intro g g' w v _ hr;cases hr with|int _ _ h=>exact .int k n h
 |bool b=>intro g g' w v _ hr;cases hr;exact .bool b
 |str l=>intro g g' w v _ hr;cases hr with|str s _ h hb=>exact .str s l h hb
 |nilsl=>intro g g' w v _ hr;cases hr;exact .nilsl
 |agg cs _ ih =>
  intro g g' w v hp hr;cases hr with
  |agg vs _ hn hc one=>exact .agg vs cs hn (λi v d hv hd=>ih d (List.mem_of_getElem? hd) hp (hc i v d hv hd)) one
 |tup cs _ ih =>
  intro g g' w v hp hr;cases hr with
  |tup vs _ hn hc=>exact .tup vs cs hn (λi v d hv hd=>ih d (List.mem_of_getElem? hd) hp (hc i v d hv hd))
 |sl0 t s row =>
  intro g g' w v hp hr;cases hr with
  |sl0 _ _ _ _ ht=>exact .sl0 _ t s row ht
  |sl b o n cap sz _ t f hl hc hpp hrr one ht hcap hb =>exact .sl b o 0 cap s row t f hl hc (λi j hi=>by omega) (λi j d hi=>by omega) one ht hcap hb
 |tip b n s row hb _ ih =>
  intro g g' w v hp hr;cases hr with
  |sl0 _ _ _ _ ht=>exact .sl0 _ _ s row ht
  |sl b' o n cap sz _ t f hl hc hpp hrr one ht hcap hbig =>have u:b'=b:=ht.1;subst u;exact .sl b' o n cap s row (.tip b') f hl hc (λi j hi hj=>Nat.lt_of_lt_of_le (hpp i j hi hj) (hp _ hb)) (λi j d hi hd=>ih i hi d (List.mem_of_getElem? hd) hp (hrr i j d hi hd)) one ht hcap hbig
 |ptr b o=>intro g g' w v _ hr;cases hr;exact .ptr b o
 |msl b o n cap s=>intro g g' w v _ hr;cases hr with|msl _ _ _ _ _ h hb=>exact .msl b o n cap s h hb|mslx a _ _ _=>exact .mslx a _ _ _
 |fn f a b _ _ iha ihb =>
  intro g g' w v hp hr;cases hr with
  |fn _ fs cs _ _ hnf hnc hf hc=>exact .fn f fs cs a b hnf hnc (λi v d hv hd=>iha d (List.mem_of_getElem? hd) hp (hf i v d hv hd)) (λi v d hv hd=>ihb d (List.mem_of_getElem? hd) hp (hc i v d hv hd))
 |nilptr=>intro g g' w v _ hr;cases hr;exact .nilptr
 |map b=>intro g g' w v _ hr;cases hr;exact .map b
 |nilmap=>intro g g' w v _ hr;cases hr;exact .nilmap
 |nilfn=>intro g g' w v _ hr;cases hr;exact .nilfn
 |niliface=>intro g g' w v _ hr;cases hr;exact .niliface
 |undef=>intro g g' w v _ hr;cases hr;exact .undef
def SCO(N:Nat->Prop):Qv->Prop
 |.cells ds=>∀d∈ds,SC N d
 |.map es=>∀e∈es,SC N e.1/\SC N e.2
 |.tip _=>True
 |.dfr=>True
 |_=>False
def SCO.ok{N o}(h:SCO N o){g g' w b}(hp:∀b,N b->g.prot b<=g'.prot b)(t:g'.prot b=g.prot b)(hr:WN g w b o):WN g' w b o:=by
 cases o with
 |cells ds =>obtain⟨h0,vs,T,h1,h2,h3,h4⟩:=hr;exact⟨t.trans h0,vs,T,h1,h2,λi v d hv u=>(h d (List.mem_of_getElem? u)).rep hp (h3 i v d hv u),h4⟩
 |map es =>obtain⟨h0,en,cl,h1,h2,h3,h4,h5,h6⟩:=hr;exact⟨t.trans h0,en,cl,h1,h2,λi x d hv u=>(h d (List.mem_of_getElem? u)).1.rep hp (h3 i x d hv u),λi x d hv u=>(h d (List.mem_of_getElem? u)).2.rep hp (h4 i x d hv u),h5,h6⟩
 |tip k =>obtain⟨h0,x⟩:=hr;exact⟨t.trans h0,x⟩
 |dfr=>exact⟨t.trans hr.1,hr.2⟩
 |mapE _ _ _ _=>exact h.elim
 |loop _ _=>exact h.elim
def SCR(N:Nat->Prop):Res->Prop
 |.ret d=>SC N d
 |.panic d=>SC N d
def ZI.ldC{g w t Ln}(u:∀b∈Ln,∀ds,t b=sO (.cells ds)->Zwn g w b ds){vs a i}(h:ZI (Rep g w) vs a)(hl:LdC t Ln a i):ZI (Rep g w) vs i:=by
 induction hl generalizing vs with
 |nil=>cases h;exact .nil
 |cons h1 _ ih=>cases h with|cons h2 h3=>exact .cons (h1 _ _ _ u h2) (ih h3)
def Za.lend{f args args' t Ln Φ}(hL:∀b∈Ln,∃ds,t b=sO (.cells ds))(hl:LdC t Ln args args')(h:Za P f args' (λ_=>nO) Φ)(hΦ:∀r S,Φ r S->SCR (λb=>(S b).isSome=true) r/\∀b o,S b=sO o->SCO (λb=>(S b).isSome=true) o):
  Za P f args t λr S=>∃S',Φ r S'/\Z8 S' t/\S=S'.or t:=by
 refine⟨h.1,λg w vs hs ha=>?_⟩;have hx:=Jw hs hL;have al:=ZeQ hs hL;have ak:ZI (Rep (KF g t Ln) w) vs args':=ZI.ldC al (ha.imp λ_ _ h=>Rep.mono h hx) hl;have ao:Yh ((KF g t Ln).keep λb=>g.kept b\/(t b).isSome=true) (λ_=>nO) w:=by
  refine⟨λb o hb=>by simp at hb,λb o hb=>by simp at hb,λb hb=>?_,λn cs hc=>W0 ((hs.tabs n cs hc).mono hx)⟩;have h1:=hs.fresh b hb;have ac:t b=nO:=by
   cases ac:t b with
   |none=>rfl
   |some o=>have:=(hs.obj b o ac).lt;omega
  have u:b∉Ln:=λhm=>by obtain⟨ds,hd⟩:=hL b hm;rw[ac]at hd;simp at hd
  exact⟨by show(KF g t Ln).prot b=0;simp only[KF,if_neg u];exact h1.1,λhk=>by rcases hk with hk|hk;exact h1.2 hk;rw[ac]at hk;simp at hk⟩
 refine(h.2 _ w vs ao (ak.imp λ_ _ h=>W0 h)).mono λe w' hp=>?_;obtain⟨g',S',r,he,hS,hr,hq⟩:=hp;have ab:=he.keptEq;obtain⟨ad,aj⟩:=hΦ r S' hq;have ah:Z8 S' t:=λb o hb=>by
  cases i:S' b with
  |none=>rfl
  |some x=>exact absurd (by rw[ab];exact .inr (by rw[hb];rfl)) (hS.kept b x i)
 have ai:∀b,(S' b).isSome=true->b∉Ln:=λb hb hm=>by obtain⟨ds,hd⟩:=hL b hm;rw[ah b _ hd]at hb;simp at hb
 let g2:G:={ prot:=λb=>if b∈Ln then 0 else g'.prot b,kept:=g.kept };have ag:∀b,(S' b).isSome=true->g'.prot b<=g2.prot b:=λb hb=>by simp only[g2,if_neg (ai b hb)];exact ZIh _
 have hf:∀b,b∉Ln->(KF g t Ln).prot b=g.prot b:=λb hb=>by simp only[KF,if_neg hb]
 have af:∀b,b∈Ln->g.prot b=0:=λb hb=>by obtain⟨ds,hd⟩:=hL b hb;exact(hs.obj b _ hd).1
 have ae:Ext g w g2 w':=by
  refine⟨he.size,λb=>?_,λb o ho=>?_,he.hdr,λb hb=>he.kept b (.inl hb),λb hb=>?_,rfl,he.os,he.output,he.tape⟩;simp only[g2];split;rename_i hb;rw[af b hb];exact ZIh _;rename_i hb;rw[<-hf b hb];exact he.prot b;have hb:b∉Ln:=λhb=>by rw[af b hb]at ho;omega
  exact he.cell b o (by show o<(KF g t Ln).prot b;rw[hf b hb];exact ho);have u:b∉Ln:=λhm=>by obtain⟨ds,hd⟩:=hL b hm;exact hs.kept b _ hd hb
  simp only[g2,if_neg u];rw[<-hf b u];exact he.keptProt b (.inl hb)
 have hg'0:∀b,w'.heap.size<=b->g'.prot b=0/\¬g'.kept b:=λb hb=>hS.fresh b hb;refine⟨g2,S'.or t,r,ae,⟨λb o hb=>?_,λb o hb=>?_,λb hb=>?_,λn cs hc=>(hs.tabs n cs hc).mono ae⟩,?_,S',hq,ah,rfl⟩
 .cases i:S' b with
  |some x =>
   rw[Zs i]at hb;cases hb;have am:(S' b).isSome=true:=by rw[i];rfl
   exact(aj b _ i).ok ag (by simp only[g2,if_neg (ai b am)]) (hS.obj b _ i)
  |none =>rw[ZG i]at hb;have hk:g.kept b\/(t b).isSome=true:=.inr (by rw[hb];rfl);refine(hs.obj b o hb).mono ae (he.kept b hk) ?_;by_cases u:b∈Ln;simp only[g2,if_pos u];exact(af b u).symm;simp only[g2,if_neg u];rw[<-hf b u];exact he.keptProt b hk
 .cases i:S' b with
  |some x=>exact λhk=>hS.kept b x i (by rw[ab];exact .inl hk)
  |none=>rw[ZG i]at hb;exact hs.kept b o hb
 have:=hS.fresh b hb;refine⟨?_,λhk=>this.2 (by rw[ab];exact .inl hk)⟩;simp only[g2];split;rfl;exact this.1;cases e<;>cases r<;>simp only[ZnU]at hr⊢;exact SC.rep ad ag hr;obtain⟨v,h1,h2⟩:=hr;exact⟨v,h1,SC.rep ad ag h2⟩
end
end Go.DL
namespace Go.DL
open Go Go.ChangeShapes Go.RowKit Go.WideShapes Go.ChangeAt
variable [ZsL]
def Zc2(W:World):G:={ prot:=λb=>match W.heap[b]? with|some (.cells vs _ _)=>vs.size|_=>0,kept:=λb=>b<W.heap.size }
def ZnV(W:World):Prop:=∀n cs,ZsL.tab n=sO cs->Rep (Zc2 W) W (.pointer (sO ⟨n,0,nO⟩)) (.ep cs 0)
def ZCx{W:World}(i:ZnV W):Yh (Zc2 W) (λ_=>nO) W:={
 tabs:=i
 obj b o h:=by simp at h
 kept b o h:=by simp at h
 fresh b hb:=⟨by simp[Zc2,hb],by simp only[Zc2];omega⟩ }
def ZCv{P W name g k}{zs:List Int}(h:W.var? P name=sO (zs.map λz=>Value.int k z).toArray)(hg:P.globalNamed name=sO g)(hz:∀z∈zs,inR k z) :
  Rep (Zc2 W) W (.pointer (sO ⟨g,0,nO⟩)) (.ep (zs.map λz=>.int k z) 0):=by
 unfold World.var? at h;rw[hg]at h;simp only[Option.bind_some]at h;split at h<;>(try(simp at h;done));rename_i cs T fr hh;simp only[ZH0]at h;subst h;have u:∀i (hi:i<I zs),W.cell? ⟨g,0+i,nO⟩=sO (.int k zs[i]):=λi hi=>by simp only[World.cell?,hh];simp[hi]
 refine .ep g 0 0 _ (λi=>.int k (zs.getD i 0)) (λi hi=>?_) (λi hi=>?_) (λi d hd=>?_) (λi hi=>rfl);simp only[ZIo]at hi;rw[u i hi];simp[ZIg,hi];simp only[ZIo]at hi;simp only[Zc2,hh];simpa using hi;simp only[List.getElem?_map,ZIe]at hd;obtain⟨z,t,rfl⟩:=hd;simp only[ZIg,t,ZIH];exact .int k z (hz z (List.mem_of_getElem? t))
def ZA9{P f args}(h:Zf P f args (.bool true)){W}(ht:ZnV W){vs}(u:ZI (Rep (Zc2 W) W) vs args) :
  Calls P f vs.toArray W λe W'=>e=.returned (.bool true)/\Below W.heap.size W W':=by
 refine((h (λ_=>nO)).2 _ W vs (ZCx ht) u).mono λe W' hp=>?_;obtain⟨g',s',r,i,hs,t,hq,_⟩:=hp;subst hq;cases e with
 |returned v=>cases t;exact⟨rfl,i.os,i.tape,i.output,i.size,λb hb=>i.kept b hb⟩
 |_=>exact t.elim
section
variable {H:Type} {enc:TypeId × Value->H} {P:Program} {w:World}
def Kk(p:Nat->Prop)(enc:TypeId×Value->H)(P:Program)(w:World)(t:TypeId)(R:List D->Prop):Prop :=
 ∀fuel cs x,p fuel->DataW.trod enc P w 0 (λ_=>true) true fuel t cs=sO x->(∀k∈x.1.weights P t,k<=reachBytes)->∃ds,R ds/\ZI (Rep (Zc2 w) w) cs ds/\∀v∈cs,v.one1=true
abbrev Za6(enc:TypeId×Value->H)(P:Program)(w:World)(t:TypeId)(R:List D->Prop):Prop:=Kk (λ_=>True) enc P w t R
variable {p q:Nat->Prop}
def ZyL{k n}(h:(Lit.int k n).wf=true):inR k n:=by
 simpa[Lit.wf,inR]using h
def ZoZ{t k}(ht:P.underlying t=sO (.int k)):Kk p enc P w t λds=>∃n,inR k n/\ds=[.int k n]:=by
 intro fuel cs x _ h _;obtain⟨n,rfl,_,i⟩:=DataW.trod_int ht h;exact⟨_,⟨n,ZyL i,rfl⟩,.cons (.int k n (ZyL i)) .nil,λv u=>by simp at u;subst u;rfl⟩
def Kk.imp{t R R'}(h:Kk p enc P w t R)(hi:∀ds,R ds->R' ds):Kk p enc P w t R':=λi u x hp hx hw=>by
 obtain⟨ds,h1,h2⟩:=h i u x hp hx hw;exact⟨ds,hi ds h1,h2⟩
def JZ{t k}(i:P.underlying t=sO (.int k)):Kk p enc P w t λds=>∃n,ds=[.int k n]:=(ZoZ i).imp λ_ ⟨n,_,h⟩=>⟨n,h⟩
def Zxj{t}(u:P.underlying t=sO .bool):Kk p enc P w t λds=>∃b,ds=[.bool b]:=by
 intro fuel cs x _ h _;obtain⟨n,rfl,_⟩:=DataW.trod_bool u h;exact⟨_,⟨n,rfl⟩,.cons (.bool n) .nil,λv i=>by simp at i;subst i;rfl⟩
def Zxk{t}(ht:P.underlying t=sO .string):Kk p enc P w t λds=>∃s:List UInt8,I s<=reachBytes/\ds=[.str s]:=by
 intro fuel cs x _ h hw;obtain⟨s,rfl,rfl,u⟩:=DataW.trod_string ht h;refine⟨_,⟨s.data.toList,hw _ (by simp[DataW.weights]),rfl⟩,.cons (.str s _ rfl ?_) .nil,λv i=>by simp at i;subst i;rfl⟩;have:I s.data.toList=s.size:=by rw[Array.length_toList];rfl
 rw[this];simp only[maxLen]at u;simp only[big];omega
def QN{t}(i:P.underlying t=sO .string):Kk p enc P w t λds=>∃s,ds=[.str s]:=(Zxk i).imp λ_ ⟨s,_,h⟩=>⟨s,h⟩
def ZgC:∀{ts ds} {i:Nat} {t:TypeId} {d:DataW H},ts[i]?=sO t->ds[i]?=sO d->∀k∈d.weights P t,k∈DataW.weightsEach P ts ds
 |t::ts,d::ds,0,_,_,ht,hd,k,hk=>by simp only[List.getElem?_cons_zero,ZH0]at ht hd;subst ht;subst hd;unfold DataW.weightsEach;exact List.mem_append_left _ hk
 |t::ts,d::ds,i+1,_,_,ht,hd,k,hk=>by unfold DataW.weightsEach;exact List.mem_append_right _ (ZgC (by simpa using ht) (by simpa using hd) k hk)
 | [],_,_,_,_,ht,_,_,_=>by simp at ht
 |_::_,[],_,_,_,_,hd,_,_=>by simp at hd
def ZgB:∀{ts i} {ds gs:List (DataW H)},I ds=I ts->∀k∈DataW.weightsEach P ts ds,k∈DataW.weightsEach P (ts++i) (ds++gs)
 | [],_,[],_,_,k,hk=>by simp[DataW.weightsEach]at hk
 |t::ts,i,d::ds,gs,hl,k,hk=>by unfold DataW.weightsEach at hk;rw[List.cons_append,List.cons_append];unfold DataW.weightsEach;rcases List.mem_append.1 hk with h|h;exact List.mem_append_left _ h;exact List.mem_append_right _ (ZgB (by simpa using hl) k h)
def ZhX{e}:∀{ds:List (DataW H)} {d:DataW H},d∈ds->∀k∈d.weights P e,k∈DataW.weightsAll P e ds
 |d::ds,x,hx,k,hk=>by unfold DataW.weightsAll;rcases List.mem_cons.1 hx with rfl|hx;exact List.mem_append_left _ hk;exact List.mem_append_right _ (ZhX hx k hk)
def ZuF{α β R}{a i:List α}{b t:List β}(h:ZI R a b)(u:ZI R i t):ZI R (a++i) (b++t):=by
 induction h with
 |nil=>exact u
 |cons h1 _ ih=>exact .cons h1 ih
def Cat:List (List D->Prop)->List D->Prop
 | [],ds=>ds=[]
 |R::Rs,ds=>∃a b,ds=a++b/\R a/\Cat Rs b
def ZtS(P:Program):Nat->List Field->Nat->Bool
 |o,[],n=>o==n
 |o,f::r,n=>f.offset==o&&ZtS P (o+P.cellsOf f.type) r n
inductive Zjs(p:Nat->Prop)(enc:TypeId×Value->H)(P:Program)(w:World):List Field->List (List D->Prop)->Prop where
 |nil:Zjs p enc P w [] []
 |cons {f:Field} {fs:List Field} {R:List D->Prop} {Rs:List (List D->Prop)} (h:Kk p enc P w f.type R) (t:Zjs p enc P w fs Rs):Zjs p enc P w (f::fs) (R::Rs)
def Zy7{fs Rs}(hR:Zjs q enc P w fs Rs):∀{o n m} {cs:List Value},q m->ZtS P o fs n=true->I cs=n ->
  (∀f∈fs,∃x,DataW.trod enc P w 0 (λ_=>true) true m f.type ((cs.drop f.offset).take (P.cellsOf f.type))=sO x/\∀k∈x.1.weights P f.type,k<=reachBytes) ->
  ∃ds,Cat Rs ds/\ZI (Rep (Zc2 w) w) (cs.drop o) ds/\∀v∈cs.drop o,v.one1=true:=by
 induction hR with
 |nil =>intro o n m cs _ ho hl _;simp only[ZtS,beq_iff_eq]at ho;subst ho;subst hl;exact⟨[],rfl,by rw[List.drop_length];exact .nil,ψ⟩
 |cons h _ ih =>
  rename_i f fs R Rs _;intro o n m cs hm ho hl hx;simp only[ZtS,ZIb,beq_iff_eq]at ho;obtain⟨af,ag⟩:=ho;obtain⟨x,h1,hw⟩:=hx f (List.mem_cons_self ..);obtain⟨a,u,i,t⟩:=h _ _ _ hm h1 hw;obtain⟨b,ab,ac,ad⟩:=ih hm ag hl λf' ae=>hx f' (List.mem_cons_of_mem _ ae);rw[af]at i t;have e:cs.drop o=(cs.drop o).take (P.cellsOf f.type)++cs.drop (o+P.cellsOf f.type):=by rw[<-List.drop_drop];exact(List.take_append_drop _ _).symm
  refine⟨a++b,⟨a,b,rfl,u,ab⟩,by rw[e];exact ZuF i ac,λv hv=>?_⟩;rw[e,List.mem_append]at hv;exact hv.elim (t v) (ad v)
def K2{t:TypeId}{fs:Array Field}(ht:P.underlying t=sO (.struct fs)){Rs:List (List D->Prop)}(hR:Zjs q enc P w fs.toList Rs)(ho:ZtS P 0 fs.toList (P.cellsOf t)=true)(hpq:∀n,p (n+1)->q n:=by intros;trivial):Kk p enc P w t (Cat Rs):=by
 intro fuel cs x hp h hw;obtain⟨xs,n,rfl,rfl,hl,hxl,hx⟩:=DataW.trod_struct ht h;obtain⟨ds,h1,h2,h3⟩:=Zy7 hR (m:=n) (hpq n hp) ho hl (λf hf=>by
  obtain⟨i,hi,rfl⟩:=ZIl hf;have u:i<fs.size:=by simpa using hi
  refine⟨xs[i]' ω,?_,λk hk=>hw k ?_⟩;have:=hx i fs[i] (by simp[u]);rw[ZIw ω]at this;simpa using this;unfold DataW.weights;rw[ht];exact ZgC (i:=i) (by simp[u]) (by rw[List.getElem?_map,ZIw ω];rfl) k hk)
 rw[List.drop_zero]at h2 h3;exact⟨ds,h1,h2,h3⟩
def Zb8{a n cs}(h:w.cells? 0 a n=sO cs):I cs=n/\∀j,j<n->w.cell? (a.add j)=cs[j]?:=by
 simp only[World.cells?,Nat.zero_le,if_true]at h;refine⟨by simpa using mapM_some_length h,λj i=>?_⟩;have:=mapM_some_get h j j (by simp[i]);exact this
def ZrZ{t e:TypeId}{n:Nat}{α:Type}[Inhabited α]{f:α->List D}{Qx:α->Prop}{row:List α->Nat->List D}(hrow:∀l i,i<I l->row l i=f (l.getD i dE))(ht:P.underlying t=sO (.slice e))(hn:P.cellsOf e=n)(hn0:0<n)(hf:∀x,(f x).length=n)
  (he:Kk q enc P w e λds=>∃x,Qx x/\ds=f x) (hpq:∀n,p (n+1)->q n:=by intros;trivial):Kk p enc P w t λds=>∃l:List α,(∀x∈l,Qx x)/\I l*P.bytesOf e<=reachBytes/\ds=[.sl .none (I l) n (row l)]:=by
 intro fuel cs x hp h hw;rcases DataW.trod_slice ht h with ⟨rfl,_⟩|⟨a,len,cap,elems,rest,m,rfl,rfl,rfl,_,ao,ag,al,hx,af,_⟩;exact⟨_,⟨[],λx hx=>absurd hx List.not_mem_nil,ψ,rfl⟩,.cons (.sl0 _ _ _ _ ψ) .nil,λv hv=>by simp at hv;subst hv;rfl⟩;unfold DataW.weights at hw;rw[ht]at hw;have ab:∀i,i<len->∃(cs:List Value) (y:α),Qx y/\w.cells? 0 (a.add (i*n)) n=sO cs/\ZI (Rep (Zc2 w) w) cs (f y)/\∀v∈cs,v.one1=true:=by intro i hi;have h1:=hx i hi;rw[ZIw ω,hn]at h1;obtain⟨cs,h2,h3⟩:=Option.bind_eq_some_iff.1 h1;obtain⟨ds,⟨y,hy,rfl⟩,h4,h5⟩:=he _ _ _ (hpq _ hp) h3 λk hk=>hw k (List.mem_cons_of_mem _ (List.mem_append_left _ (ZhX (List.mem_map_of_mem (List.getElem_mem _)) k hk)));exact⟨cs,y,hy,h2,h4,h5⟩
 have ac:cap<=big:=by simp only[maxLen]at ag;simp only[big];omega
 let g:(i:Nat)->i<len->α:=λi hi=>(Classical.choose_spec (ab i hi)).choose;let c:(i:Nat)->i<len->List Value:=λi hi=>Classical.choose (ab i hi);have hg:∀i (hi:i<len),w.cells? 0 (a.add (i*n)) n=sO (c i hi)/\ZI (Rep (Zc2 w) w) (c i hi) (f (g i hi))/\∀v∈c i hi,v.one1=true:=λi hi=>(Classical.choose_spec (ab i hi)).choose_spec.2;have hq:∀i (hi:i<len),Qx (g i hi):=λi hi=>(Classical.choose_spec (ab i hi)).choose_spec.1;let l:List α:=List.ofFn λi:Fin len=>g i.1 i.2;have ae:I l=len:=by simp[l]
 have aq:∀i (hi:i<len),l.getD i dE=g i hi:=λi hi=>by simp[l,ZIg,hi]
 have ah:∀i (hi:i<len),row l i=f (g i hi):=λi hi=>by rw[hrow l i ω,aq i hi]
 refine⟨_,⟨l,λx hx=>(by obtain⟨i,rfl⟩:=List.mem_ofFn.1 hx;exact hq i.1 i.2),Nat.le_trans (ZIn _ (by rw[ae,<-al,ZIo];exact Nat.le_add_right _ _)) (hw _ (List.mem_cons_self ..)),rfl⟩,.cons ?_ .nil,λv hv=>by simp at hv;subst hv;rfl⟩;by_cases am:len=0;subst am;have ap:l=[]:=List.eq_nil_of_length_eq_zero ae;rw[ap];by_cases hs:a.spot=nO;obtain⟨b,o,sp⟩:=a;simp only at hs;subst hs;exact .sl b o 0 cap n _ .none (λ_ _=>undef) (λi hi=>by simp at hi) (λi j hi=>by simp at hi) (λi j hi=>by simp at hi) (λi j d hi=>by simp at hi) (λi j hi=>by simp at hi) trivial (Nat.zero_le _) ac;have ak:cap=0:=by rcases Nat.eq_zero_or_pos cap with h0|h0;exact h0;obtain⟨h1,h2⟩:=af rfl;have h3:=h2 0 ω;rw[ZIw ω,hn]at h3;obtain⟨cs,h4,_⟩:=Option.bind_eq_some_iff.1 h3;have h5:=(Zb8 h4).2 0 ω;have h6:=(Zb8 h4).1;rw[ZIw ω]at h5;have:=World.cell?_spot h5;exact absurd (by simpa[Addr.add]using this) hs
 subst ak;exact .sl0 _ _ _ _ ψ;have ai:a.spot=nO:=by have h0:=(hg 0 ω).1;have h1:=(Zb8 h0).2 0 ω;have h2:(c 0 ω).length=n:=(Zb8 h0).1;rw[ZIw ω]at h1;have:=World.cell?_spot h1;simpa[Addr.add]using this
 obtain⟨b,o,sp⟩:=a;simp only at ai;subst ai;have ad:∀i j (hi:i<len) (hj:j<n),w.cell? ⟨b,o+i*n+j,nO⟩=(c i hi)[j]?:=λi j hi hj=>by have h1:=(Zb8 (hg i hi).1).2 j hj;rw[Kg,Kg]at h1;exact h1
 have u:∀i (hi:i<len),(c i hi).length=n:=λi hi=>(Zb8 (hg i hi).1).1;rw[ae];refine .sl b o len cap n _ .none (λi j=>if hi:i<len then (c i hi).getD j undef else undef) (λi hi=>by rw[ah i hi];exact hf _) (λi j hi hj=>?_) (λi j hi hj=>?_) (λi j d hi hd=>?_) (λi j hi hj=>?_) trivial ao ac;simp only[dif_pos hi];rw[ad i j hi hj,ZIg,ZIw (by rw[u i hi];exact hj)];rfl;have h1:=ad i j hi hj;rw[ZIw (by rw[u i hi];exact hj)]at h1;simp only[World.cell?]at h1;split at h1;rename_i vs T fr hh;simp only[Zc2,hh];have aj:vs[o+i*n+j]?=sO ((c i hi)[j]'(by rw[u i hi];exact hj)):=by simpa using h1
 exact(Array.getElem?_eq_some_iff.1 aj).1;simp at h1;simp only[dif_pos hi];rw[ah i hi]at hd;have hj:j<n:=by rw[<-hf (g i hi)];exact(List.getElem?_eq_some_iff.1 hd).1
 refine(hg i hi).2.1.get j _ d ?_ hd;rw[ZIg,ZIw (by rw[u i hi];exact hj)];rfl;simp only[dif_pos hi];refine(hg i hi).2.2 _ ?_;rw[ZIg,ZIw (by rw[u i hi];exact hj)];exact List.getElem_mem _
def Zkv{t e:TypeId}{n:Nat}{α:Type}[Inhabited α]{f:α->List D}{row:List α->Nat->List D}(hrow:∀l i,i<I l->row l i=f (l.getD i dE))(ht:P.underlying t=sO (.slice e))(hn:P.cellsOf e=n)(hn0:0<n)(hf:∀x,(f x).length=n)
  (he:Kk q enc P w e λds=>∃x,ds=f x) (hpq:∀n,p (n+1)->q n:=by intros;trivial):Kk p enc P w t λds=>∃l:List α,ds=[.sl .none (I l) n (row l)]:=(ZrZ (Qx:=λ_=>True) hrow ht hn hn0 hf (he.imp λ_ ⟨x,h⟩=>⟨x,trivial,h⟩) hpq).imp λ_ ⟨l,_,_,h⟩=>⟨l,h⟩
def Zar{t e:TypeId}{n:Nat}{α:Type}[Inhabited α]{f:α->List D}(ht:P.underlying t=sO (.slice e))(hn:P.cellsOf e=n)(hn0:0<n)(hf:∀x,(f x).length=n)
  (he:Kk q enc P w e λds=>∃x,ds=f x) (hpq:∀n,p (n+1)->q n:=by intros;trivial):Kk p enc P w t λds=>∃l:List α,ds=[.sl .none (I l) n λi=>f (l.getD i dE)] :=
 Zkv (row:=λl i=>f (l.getD i dE)) (λ_ _ _=>rfl) ht hn hn0 hf he hpq
def ZeW(enc:TypeId×Value->H)(P:Program)(t:TypeId)(Q:D->Prop):Prop :=
 ∀(W:World) (base:Nat) (v:Value) (d:DataW H) (ps:List MemPlace),Value.okWide P W .any base t v->DataW.Trod enc P W 0 (λ_=>true) true t v d ps->(∀k∈d.weights P t,k<=reachBytes)->∃x,Q x/\Rep (Zc2 W) W v x
def Zf5{t fs}(ht:P.underlying t=sO (.struct fs)){R}(h:∀W,Za6 enc P W t R):ZeW enc P t λx=>∃ds,R ds/\x=.agg ds:=by
 intro W base v d ps u ⟨fuel,hf⟩ hw;obtain⟨cs,rfl,_⟩:=okWide_struct ht u;obtain⟨ds,h1,h2,h3⟩:=h W _ _ _ trivial hf hw;exact⟨_,⟨ds,h1,rfl⟩,.agg cs.toList ds h2.len (λi v d hv hd=>h2.get i v d hv hd) h3⟩
def Zjv{t R Q}(h1:∀W u v,Value.okWide P W .any u t v->v.cells = #[v])(h:∀W,Za6 enc P W t R)(hq:∀ds,R ds->∃x,ds=[x]/\Q x):ZeW enc P t Q:=by
 intro W u v d ps i ⟨fuel,hf⟩ hw;rw[h1 _ _ _ i]at hf;obtain⟨ds,h2,h3,_⟩:=h W _ _ _ trivial hf hw;obtain⟨x,rfl,hx⟩:=hq ds h2;cases h3 with|cons h4 _=>exact⟨x,hx,h4⟩
def ZCN{t k}(u:P.underlying t=sO (.int k)):ZeW enc P t λx=>∃n,x=.int k n :=
 Zjv (λW base v i=>by obtain⟨a,rfl⟩:=okWide_int u i;rfl) (λW=>JZ u) λds ⟨n,hn⟩=>⟨_,hn,n,rfl⟩
def ZsW{t}(u:P.underlying t=sO .string):ZeW enc P t λx=>∃n,x=.str n :=
 Zjv (λW base v i=>by obtain⟨a,rfl⟩:=okWide_string u i;rfl) (λW=>QN u) λds ⟨n,hn⟩=>⟨_,hn,n,rfl⟩
inductive ZnM(enc:TypeId×Value->H)(P:Program):List TypeId->List (D->Prop)->Prop where
 |nil:ZnM enc P [] []
 |cons {t:TypeId} {Q:D->Prop} {ts:List TypeId} {Qs:List (D->Prop)} (h:ZeW enc P t Q) (r:ZnM enc P ts Qs):ZnM enc P (t::ts) (Q::Qs)
inductive Zss:List (D->Prop)->List D->Prop where
 |nil:Zss [] []
 |cons {Q:D->Prop} {x:D} {Qs:List (D->Prop)} {xs:List D} (h:Q x) (r:Zss Qs xs):Zss (Q::Qs) (x::xs)
def ZzN{ts Qs}(h:ZnM enc P ts Qs):∀{W base vs ds ps},
  (∀(j:Nat) t v,ts[j]?=sO t->vs[j]?=sO v->Value.okWide P W .any base t v)->DataW.TrodAll enc P W 0 (λ_=>true) true ts vs ds ps->(∀k∈DataW.weightsEach P ts ds,k<=reachBytes)->∃xs,Zss Qs xs/\ZI (Rep (Zc2 W) W) vs xs:=by
 induction h with
 |nil =>intro W base vs ds ps _ ht _;obtain⟨rfl,_⟩:=trodAll_nil ht;exact⟨[],.nil,.nil⟩
 |cons h1 _ ih =>intro W base vs ds ps i ht hw;obtain⟨v,vs',d,ds',p,q,rfl,rfl,rfl,h2,h3⟩:=trodAll_cons ht;unfold DataW.weightsEach at hw;obtain⟨x,ac,ad⟩:=h1 W base v d p (i 0 _ _ rfl rfl) h2 λk hk=>hw k (List.mem_append_left _ hk);obtain⟨xs,u,ab⟩:=ih (base:=base) (λj t v hj hv=>i (j+1) t v (by simpa using hj) (by simpa using hv)) h3 λk hk=>hw k (List.mem_append_right _ hk);exact⟨x::xs,.cons ac u,.cons ad ab⟩
def Zja(hl:laidOutB P=true){W W'}(hb:Below W.heap.size W W'):∀{ts vs ds ps},(∀t∈ts,P.readableRec t=true/\t<P.types.size) ->
  DataW.TrodAll enc P W 0 (λ_=>true) true ts vs ds ps->(∀x∈ps,x.block<W.heap.size)->DataW.TrodAll enc P W' 0 (λb=>dC (b<W.heap.size)) true ts vs ds ps
 | [],vs,ds,ps,_,h,_=>by obtain⟨rfl,rfl,rfl⟩:=trodAll_nil h;rfl
 |t::ts,vs,ds,ps,ht,h,hlt=>by obtain⟨v,vs',d,ds',p,q,rfl,rfl,rfl,h2,h3⟩:=trodAll_cons h;have h4:=ht t (List.mem_cons_self ..);exact trodAll_cons_mk (Below.trod hl h4.1 h4.2 h2 hb λx u=>hlt x (List.mem_append_left _ u)) (Zja hl hb (λt i=>ht t (List.mem_cons_of_mem _ i)) h3 λx u=>hlt x (List.mem_append_right _ u))
def ZtE{f fn}{s:ChangeSpec}{tb Qs}(hv:s.vars=[])(hl:laidOutB P=true)(hr:∀t∈fn.params.toList,P.readableRec t=true/\t<P.types.size)
  (hres:fn.resultTypes = #[tb]) (hb:P.underlying tb=sO .bool) (hfn:∀ds:List (DataW H),I ds=I fn.params.toList->s.fn H ds={ results:=[.lit (.bool true)],args:=ds })
  (hargs:ZnM enc P fn.params.toList Qs) (hcall:∀xs,Zss Qs xs->Zf P f xs (.bool true))
  (W) (ht:ZnV W) (base args ds gs before)
  (hval:∀(j:Nat) t v,fn.params[j]?=sO t->args[j]?=sO v->Value.okWide P W .any base t v) (hW:DataW.Whole enc P fn.params.toList s.vars false W args.toList ds gs before)
  (hz:(DataW.weightsEach P (fn.params.toList++s.plain.varTypes P) (ds++gs)).all (·<=reachBytes)=true) :
  Calls P f args W λe W'=>∃v,e=.returned v/\s.post enc P fn false true false false W args v W':=by
 have ac:=hW;obtain⟨p,q,hA,hV,rfl,_,_⟩:=hW;rw[hv]at hV;obtain⟨rfl,rfl⟩:=trodVars_none hV;have ab:=(trodAll_length hA).2;obtain⟨xs,af,ag⟩:=ZzN hargs (λj t v hj ae=>hval j t v (by simpa using hj) (by simpa using ae)) hA λk hk=>of_decide_eq_true (List.all_eq_true.1 hz k (ZgB ab k hk));have ad:∀x∈p,x.block<W.heap.size:=λx hx=>by simpa using ac.lt x (by simpa using hx)
 refine(ZA9 (hcall xs af) ht ag).mono λe W' ⟨he,u⟩=>⟨.bool true,he,?_⟩;have i:=hfn ds ab;refine⟨ds,[],p++[],[],p,[],ac,?_,?_,?_,u.frame _,λh=>by cases h⟩;rw[ZIy,i,hres];exact trodAll_mk1 ⟨1,by simp[DataW.trod,hb,Value.cells]⟩;rw[ZIy,i];exact Zja hl u hr hA ad;rw[hv,ZIy,i];rfl
end
end Go.DL
namespace Go.DL
open Go
variable {kp:Option (List Nat)}{L:Loc}{H:Env}{s:St}{w:World}{os:List DOp}{ds:List D}{B:List (Nat × Rd)}{dst:Option Nat}{tmps:Array Value}{g:G}{Φ:Res->St->Prop}{Z:Nat->Nat}{xs:List Opd}{side:Prop}{row:Nat->List D}
def ZyN(n a:Nat)(l:List Nat):Zaw n (a::l)=if a=n then true else Zaw n l:=by
 show(a==n ||Zaw n l)=_;by_cases h:a=n<;>simp[h]
set_option linter.defProp false
def Eqs:=ZH4 (ZH4 (ZH4 (ZH4 (ZH4 (ZH4 (ZH4 (ZH4 @Option.mem_def.{0} @ZH0.{0}) (ZH4 @forall_eq'.{1} @forall_eq'.{0})) (ZH4 (ZH4 @false_implies @decide_true) (ZH4 (@Int.sub_zero) (ZH4 @Int.sub_self @ZC3)))) (ZH4 (ZH4 (ZH4 @ZDI @ZC4) (ZH4 @ZC5 @ZC2)) (ZH4 (ZH4 @and_assoc @Int.toNat_zero) (ZH4 (@Bool.not_not) (ZH4 @ZBT @ZC7))))) (ZH4 (ZH4 (ZH4 (ZH4 @implies_true.{1} @implies_true.{0}) (ZH4 @true_and @and_true)) (ZH4 (ZH4 @and_self @List.drop_zero.{0}) (ZH4 (@List.drop_succ_cons.{0}) (ZH4 @List.take_succ_cons.{0} @List.take_zero.{0})))) (ZH4 (ZH4 (ZH4 @List.take_nil.{0} @ZIx.{0,0}) (ZH4 (@Option.map_none.{0,0}) (ZH4 @Option.isSome_some.{0} @Option.isSome_none.{0}))) (ZH4 (ZH4 @ZIH.{0} @Option.getD_none.{0}) (ZH4 (@List.flatMap_cons.{0,0}) (ZH4 @List.flatMap_nil.{0,0} @ZIy.{0})))))) (ZH4 (ZH4 (ZH4 (ZH4 (ZH4 @List.nil_append.{0} @List.cons_append.{0}) (ZH4 @List.append_eq.{0} @List.getElem?_cons_zero.{0})) (ZH4 (ZH4 @List.getElem?_cons_succ.{0} @ZIi.{0}) (ZH4 (@List.length_nil.{0}) (ZH4 @Nat.zero_add @Nat.add_zero)))) (ZH4 (ZH4 (ZH4 @Int.toNat_natCast @forall_const.{1}) (ZH4 @forall_const.{0} @imp_self)) (ZH4 (ZH4 @Bool.and_true @ZIt) (ZH4 (@Bool.cond_false_right) (ZH4 @ZIz @Bool.not_true))))) (ZH4 (ZH4 (ZH4 (ZH4 @Bool.not_false @if_true_right) (ZH4 @ZjL.eq_1 @ZjL.eq_2)) (ZH4 (ZH4 @Zil.eq_1 @Zil.eq_2) (ZH4 (@ZhC.eq_1) (ZH4 @ZhC.eq_2 @Zlv.eq_1)))) (ZH4 (ZH4 (ZH4 @Zlv.eq_2 @ZF.eq_1) (ZH4 (@K5.eq_1) (ZH4 @K5.eq_2 @K5.eq_3))) (ZH4 (ZH4 @Z1.eq_1 @KU.eq_1) (ZH4 (@Y4.eq_1) (ZH4 @K1.eq_1 @K1.eq_2))))))) (ZH4 (ZH4 (ZH4 (ZH4 (ZH4 (ZH4 @K1.eq_3 @K1.eq_4) (ZH4 @YT.eq_1 @YT.eq_2)) (ZH4 (ZH4 @YT.eq_3 @YT.eq_4) (ZH4 (@YT.eq_6) (ZH4 @qv.eq_51 @qv.eq_52)))) (ZH4 (ZH4 (ZH4 @qv.eq_53 @YT.eq_5) (ZH4 @Y1.eq_1 @Y1.eq_2)) (ZH4 (ZH4 @Y1.eq_3 @Y1.eq_4) (ZH4 (@Y1.eq_5) (ZH4 @Y1.eq_6 @Y1.eq_7))))) (ZH4 (ZH4 (ZH4 (ZH4 @Wd.eq_1 @K0.eq_1) (ZH4 @K0.eq_2 @K0.eq_3)) (ZH4 (ZH4 @YZ.eq_1 @YZ.eq_2) (ZH4 (@Ko.eq_1) (ZH4 @Zb2.eq_1 @Zaw.eq_1)))) (ZH4 (ZH4 (ZH4 @ZyN @ZIj.{0,0}) (ZH4 (@ZIA.{0,0}) (ZH4 @QD.eq_1 @Kr.eq_1))) (ZH4 (ZH4 @Kr.eq_2 @Kr.eq_3) (ZH4 (@Wh.eq_1) (ZH4 @Wh.eq_2 @Zay.eq_1)))))) (ZH4 (ZH4 (ZH4 (ZH4 (ZH4 @Zay.eq_2 @Zay.eq_3) (ZH4 @Zay.eq_4 @Zay.eq_5)) (ZH4 (ZH4 @Zay.eq_6 @Zay.eq_7) (ZH4 (@Zay.eq_8) (ZH4 @Zay.eq_9 @Zay.eq_10)))) (ZH4 (ZH4 (ZH4 @Zay.eq_11 @Zn.eq_1) (ZH4 (@Zn.eq_2) (ZH4 @ZC.eq_1 @ZC.eq_2))) (ZH4 (ZH4 @Ya.eq_1 @Ya.eq_2) (ZH4 (@ZM.eq_1) (ZH4 @ZM.eq_2 @qv.eq_1))))) (ZH4 (ZH4 (ZH4 (ZH4 @qv.eq_2 @qv.eq_3) (ZH4 @qv.eq_4 @qv.eq_5)) (ZH4 (ZH4 @qv.eq_6 @qv.eq_7) (ZH4 (@qv.eq_8) (ZH4 @qv.eq_9 @qv.eq_10)))) (ZH4 (ZH4 (ZH4 @qv.eq_11 @qv.eq_12) (ZH4 (@qv.eq_13) (ZH4 @qv.eq_14 @qv.eq_15))) (ZH4 (ZH4 @qv.eq_16 @qv.eq_17) (ZH4 (@qv.eq_18) (ZH4 @qv.eq_19 @qv.eq_20)))))))) (ZH4 (ZH4 (ZH4 (ZH4 (ZH4 (ZH4 (ZH4 @qv.eq_21 @qv.eq_22) (ZH4 @qv.eq_23 @qv.eq_24)) (ZH4 (ZH4 @qv.eq_25 @qv.eq_26) (ZH4 (@qv.eq_27) (ZH4 @qv.eq_28 @qv.eq_29)))) (ZH4 (ZH4 (ZH4 @qv.eq_30 @qv.eq_31) (ZH4 @qv.eq_32 @qv.eq_33)) (ZH4 (ZH4 @qv.eq_34 @qv.eq_35) (ZH4 (@qv.eq_36) (ZH4 @qv.eq_37 @qv.eq_38))))) (ZH4 (ZH4 (ZH4 (ZH4 @qv.eq_39 @qv.eq_40) (ZH4 @qv.eq_41 @qv.eq_42)) (ZH4 (ZH4 @qv.eq_43 @qv.eq_44) (ZH4 (@qv.eq_45) (ZH4 @qv.eq_46 @qv.eq_47)))) (ZH4 (ZH4 (ZH4 @qv.eq_48 @qv.eq_49) (ZH4 (@qv.eq_50) (ZH4 @Zx.eq_1 @Zx.eq_2))) (ZH4 (ZH4 @kept.eq_1 @kept.eq_2) (ZH4 (@Zlr.eq_1) (ZH4 @Zlr.eq_2 @Yn.eq_1)))))) (ZH4 (ZH4 (ZH4 (ZH4 (ZH4 @Yn.eq_2 @Za9.eq_1) (ZH4 @ZaG.eq_1 @ZaG.eq_2)) (ZH4 (ZH4 @Ke.eq_1 @Ke.eq_2) (ZH4 (@Ke.eq_3) (ZH4 @Zg.eq_1 @Zg.eq_2)))) (ZH4 (ZH4 (ZH4 @Zav.eq_1 @ZdP.eq_1) (ZH4 @Zi1.eq_1 @Zi1.eq_2)) (ZH4 (ZH4 @Zau.eq_1 @Zau.eq_2) (ZH4 (@Zau.eq_3) (ZH4 @Zau.eq_4 @Zau.eq_5))))) (ZH4 (ZH4 (ZH4 (ZH4 @Q7.eq_1 @Q7.eq_2) (ZH4 @Q7.eq_3 @Q7.eq_4)) (ZH4 (ZH4 @Q7.eq_5 @Q7.eq_6) (ZH4 (@Q7.eq_7) (ZH4 @Q7.eq_8 @Q7.eq_9)))) (ZH4 (ZH4 (ZH4 @Q7.eq_10 @Q7.eq_11) (ZH4 (@Q7.eq_12) (ZH4 @Q7.eq_13 @Q7.eq_14))) (ZH4 (ZH4 @Q7.eq_15 @Q7.eq_16) (ZH4 (@Q7.eq_17) (ZH4 @Zef.eq_1 @Zef.eq_2))))))) (ZH4 (ZH4 (ZH4 (ZH4 (ZH4 (ZH4 @Zef.eq_3 @Zef.eq_4) (ZH4 @Zef.eq_5 @Zef.eq_6)) (ZH4 (ZH4 @Zef.eq_7 @Zef.eq_8) (ZH4 (@eqO.eq_1) (ZH4 @eqO.eq_2 @eqO.eq_3)))) (ZH4 (ZH4 (ZH4 @YI.eq_1 @YI.eq_2) (ZH4 @YI.eq_3 @YI.eq_4)) (ZH4 (ZH4 @YI.eq_5 @YI.eq_6) (ZH4 (@YI.eq_7) (ZH4 @YI.eq_8 @YI.eq_9))))) (ZH4 (ZH4 (ZH4 (ZH4 @YI.eq_10 @YI.eq_11) (ZH4 @YI.eq_12 @YI.eq_13)) (ZH4 (ZH4 @YI.eq_14 @YI.eq_15) (ZH4 (@Wk.eq_1) (ZH4 @Wk.eq_2 @Yk.eq_1)))) (ZH4 (ZH4 (ZH4 @Yk.eq_2 @Yk.eq_3) (ZH4 (@Yk.eq_4) (ZH4 @Wg.eq_1 @Wg.eq_2))) (ZH4 (ZH4 @Wg.eq_3 @Wg.eq_4) (ZH4 (@Kn.eq_1) (ZH4 @Kn.eq_2 @Kn.eq_3)))))) (ZH4 (ZH4 (ZH4 (ZH4 (ZH4 @Kn.eq_4 @Zt.eq_1) (ZH4 @Kh.eq_1 @Kh.eq_2)) (ZH4 (ZH4 @Kh.eq_3 @cellsOf.eq_1) (ZH4 (@cellsOf.eq_2) (ZH4 @Qp.eq_1 @Qp.eq_2)))) (ZH4 (ZH4 (ZH4 @Qp.eq_3 @Qp.eq_4) (ZH4 (@Qp.eq_5) (ZH4 @Kc.eq_1 @Kc.eq_2))) (ZH4 (ZH4 @Kc.eq_3 @Kc.eq_4) (ZH4 (@ZbE.eq_1) (ZH4 @ZbE.eq_2 @ZbE.eq_3))))) (ZH4 (ZH4 (ZH4 (ZH4 @Qb.eq_1 @Qb.eq_2) (ZH4 @ZZ.eq_1 @ZZ.eq_2)) (ZH4 (ZH4 @K9.eq_1 @K9.eq_2) (ZH4 (@Wz.eq_1) (ZH4 @Wz.eq_2 @Wz.eq_3)))) (ZH4 (ZH4 (ZH4 @Wz.eq_4 @Za3.eq_1) (ZH4 (@Za3.eq_2) (ZH4 @Za3.eq_3 @Za3.eq_4))) (ZH4 (ZH4 @ZbK.eq_1 @ZbK.eq_2) (ZH4 (@ZbK.eq_3) (ZH4 @ZbK.eq_4 @part.eq_1))))))))
end Go.DL
namespace Go.DL
open Go
variable [ZsL]
variable {kp:Option (List Nat)}{L:Loc}{H:Env}{s:St}{w:World}{os:List DOp}{ds:List D}{B:List (Nat × Rd)}{dst:Option Nat}{tmps:Array Value}{g:G}{Φ:Res->St->Prop}{Z:Nat->Nat}{xs:List Opd}{side:Prop}{row:Nat->List D}
section
variable {P:Program}
def ZBj{F:Fr P}{kp dk o os H L s}(hg:o.guard=nO){x}(hk:o.k=.box x){t}(hdt:o.dst=sO t){p v}(ha:ZC H true x=sO (p,.d v))(hp:p)(hok:Kc v=true)(h:∀b,s b=nO->DO F kp dk os ((t,.d (.ptr b 0))::H) L (s.upd b (.cells (cellsOf v)))):DO F kp dk (o::os) H L s:=by
 refine Y5 λoo g Z w tmps ap i r k ak ab ah ac hd hN m hr ai=>?_;have hw:=Z9 m ah (c:=true) (by rw[hg];rfl);have aj:=Yd ab (by rw[hk];rfl);rw[hk]at ab;obtain⟨e,x',al,ao⟩:=Zx3 ab;have u:Rep g w _ v:=Z0 m ao rfl ha hp F.ds;generalize am:(Act.mk tmps F.ds).eval x'=vv at u;obtain⟨af,ag⟩:=Zd5 u hok;have ae:=ZhJ u hok;have ad:=J7 (g:=g) (w:=w) (.cells vv.cells e) m.st.fresh;have he:=ad.ext m.st.fresh;obtain⟨hn,m'⟩:=m.newObj ad (o:=.cells (cellsOf v)) ⟨(m.st.fresh _ (ZIh _)).1,_,e,Kl w,by rw[af],λi v d hv hd=>(ag i v d (by simpa using hv) hd).mono he,ae⟩;refine Yl (L':=L) hN ak ac hd hw aj (v:=.pointer (sO ⟨w.heap.size,0,nO⟩)) (e:=.d (.ptr w.heap.size 0)) ?_ he m' (Rep.ptr _ _) ?_;simp[execOp,al,am,Instr.box,newVar,newRow];rw[hdt];exact h _ hn ap r k hr ai
def ZxP{F:Fr P}{kp dk o os H L s}(hg:o.guard=nO){t}(hdt:o.dst=sO t){z}(hk:o.k=.alloc z)(h:∀b,s b=nO->DO F kp dk os ((t,.d (.ptr b 0))::H) L (s.upd b (.cells z))):DO F kp dk (o::os) H L s:=by
 refine Y5 λoo g Z w tmps al i r k ah u ae ab hd hN m hr af=>?_;have hw:=Z9 m ae (c:=true) (by rw[hg];rfl);have ag:=Yd u (by rw[hk];rfl);rw[hk]at u;obtain⟨T,ai,hz⟩:=Zs7 u;obtain⟨v,aj,ad,ak,_⟩:=Qf (g:=g) (w:=w) hz;have ac:=J7 (g:=g) (w:=w) (.cells v.cells T) m.st.fresh;have he:=ac.ext m.st.fresh;obtain⟨hn,m'⟩:=m.newObj ac (o:=.cells z) ⟨(m.st.fresh _ (ZIh _)).1,_,T,Kl w,by simpa using ad.len,λi v d hv hd=>(ad.get i v d (by simpa using hv) hd).mono he,ak⟩;refine Yl (L':=L) hN ah ab hd hw ag (v:=.pointer (sO ⟨w.heap.size,0,nO⟩)) (e:=.d (.ptr w.heap.size 0)) ?_ he m' (Rep.ptr _ _) ?_;simp[execOp,ai,Instr.alloc,aj,newVar,newRow];rw[hdt];exact h _ hn al r k hr af
def Zb1{g w b off cs xs vs}(h:YK g w b cs)(hx:ZI (Rep g w) vs xs)(ho:∀v∈vs,v.one1=true)(hlen:off+I xs<=I cs)(hkp:¬g.kept b):
  ∃w',(storeCells ⟨b,off,nO⟩ vs 0).run P w=.ok () w'/\Ext g w g w'/\w'.heap.size=w.heap.size/\(∀c,c≠b->w'.heap[c]?=w.heap[c]?)/\YK g w' b (Zt cs off xs):=by
 obtain⟨af,t,T,hb,ad,ah,ae⟩:=h;have ai:I vs=I xs:=hx.len;have ag:=run_storeCells_at (P:=P) b off T vs 0 t w hb (by simp;omega) (λx hx=>by rw[Zdp];exact ho x hx);simp only[Nat.add_zero]at ag;have u:ZI (Rep g w) (t.toList.take off++vs++t.toList.drop (off+I vs)) (Zt cs off xs):=by have ac:ZI (Rep g w) t.toList cs:=Yg (by simpa using ad) (λi v d hv hd=>ah i v d (by simpa using hv) hd);unfold Zt;rw[<-ai];exact((ac.take off).append hx).append (ac.drop _)
 have ab:((t.toList.take off++vs++t.toList.drop (off+I vs)).toArray).size=t.size:=by have:=u.len;simp[Zt]at this⊢;omega
 have he:=Zin (g:=g) b hb ab af hkp;refine⟨_,ag,he,by simp[World.setRow],λc hc=>setRow_other w b c _ hc,af,_,T,setRow_heap w b t _ T (0,0) hb,by rw[ab,ad];simp[Zt];omega,
  λi v d hv hd=>(u.get i v d (by simpa using hv) hd).mono he,λx hx=>?_⟩
 simp only[List.mem_toArray,List.mem_append]at hx;rcases hx with (hx|hx)|hx;exact ae x (Array.mem_toList_iff.1 (List.mem_of_mem_take hx));exact ho x hx;exact ae x (Array.mem_toList_iff.1 (List.mem_of_mem_drop hx))
def ZzY{op n z x}(h:ck P op=sO (.clear n z x)):
  ∃ats t e x',op=.call ⟨.builtin .clear,#[x'],ats⟩/\ats[0]?=sO t/\P.underlying t=sO (.slice e)/\ZT P e=sO n/\Zak P e=sO z/\ZW x'=sO x/\0<n/\I z=n:=by
 unfold ck at h;split at h;simp at h;split at h<;>(try(simp at h;done));all_goals (try(repeat' (split at h<;>(try(simp at h;done)))))
 rename_i c _ _ ab _ _ e x' hu i _ _ _ s z' x2 h1 h2 h3 hc;simp only[ZH0,K.clear.injEq]at h;obtain⟨rfl,rfl,rfl⟩:=h;obtain⟨callee,u,ats⟩:=c;simp only at ab hu i;obtain⟨u⟩:=u;simp only at i;subst i;subst ab;simp only[Option.bind_eq_some_iff]at hu;obtain⟨t,ht,hu⟩:=hu;simp only[ZIb,decide_eq_true_eq]at hc;exact⟨ats,t,e,x',rfl,ht,hu,h1,h2,h3,hc.1,hc.2⟩
def ZmP{F:Fr P}{kp dk o os H L s}(hg:Zn H o.guard=sO true){z x sz b off n cap}(hk:o.k=.clear sz z x){p}(ha:ZC H true x=sO (p,.d (.msl b off n cap sz)))(hp:p){cs}(hcs:Z1 s b=sO cs)(hlen:off+n*sz<=I cs)(h:DO F kp dk os (Zx H o.dst (.d (.tup []))) L (s.upd b (.cells (Zt cs off (W6 z n))))):DO F kp dk (o::os) H L s:=by
 refine Y5 λoo g Z w tmps a6 i r k ar af ao ah hd hN m hr ap=>?_;have hw:=Z9 m ao hg;have aq:=Yd af (by rw[hk];rfl);rw[hk]at af;obtain⟨am,t,e,x',au,ad,hu,hsz,hz,aw,h0,az⟩:=ZzY af;obtain⟨zv,ax,ak,ay,ie,hie,hzz⟩:=Qf (g:=g) (w:=w) hz;have u:zv.cells.size=sz:=by have:=ak.len;simp at this;omega
 have ac:Rep g w _ _:=Z0 m aw rfl ha hp F.ds;generalize av:(Act.mk tmps F.ds).eval x'=vv at ac;have aj:s b=sO (.cells cs):=by unfold Z1 at hcs;split at hcs<;>simp only[ZH0,reduceCtorEq]at hcs;subst hcs;assumption
 obtain⟨ag,a7⟩:=Zlb (z:=z) (n:=sz) (c:=n) az;have a0:ZI (Rep g w) (Builtin.zeroCells zv.cells n).toList (W6 z n):=by
  refine Yg (by rw[Array.length_toList,size_zeroCells,ag,u]) λi v d hv hd=>?_;have hi:i<n*sz:=by rw[<-ag];exact(List.getElem?_eq_some_iff.1 hd).1
  rw[a7 i hi]at hd;have hm:i % sz<sz:=Nat.mod_lt _ h0;simp only[Builtin.zeroCells,Array.toList_map,Array.toList_range,List.getElem?_map,ZIe,u]at hv;obtain⟨a,ha,rfl⟩:=hv;rw[List.getElem?_range hi]at ha;simp only[ZH0]at ha;subst ha;refine ak.get (i % sz) _ d ?_ hd;rw[getElem!_pos zv.cells (i % sz) ω];simp[u,hm]
 have ai:∀v∈(Builtin.zeroCells zv.cells n).toList,v.one1=true:=λv hv=>by simp only[Builtin.zeroCells,Array.mem_toList_iff,Array.mem_map]at hv;obtain⟨a,_,rfl⟩:=hv;by_cases hs0:zv.cells.size=0;omega;exact ay _ (by rw[getElem!_pos zv.cells _ (Nat.mod_lt _ ω)];exact Array.getElem_mem _)
 have ab:n=0->Zt cs off (W6 z n)=cs:=λhn=>by subst hn;simp[Zt,W6]
 have al:∃w',(Builtin.clear_ am oo.type #[vv]).run P w=.ok (.tuple #[]) w'/\Ext g w g w'/\w'.heap.size=w.heap.size/\(∀c,c≠b->w'.heap[c]?=w.heap[c]?)/\YK g w' b (Zt cs off (W6 z n)):=by
  have ae:=Qy m.st hcs;cases ac with
  |mslx a =>refine⟨w,?_,Ext.refl g w,rfl,λ_ _=>rfl,by rw[ab rfl];exact ae⟩;simp[Builtin.clear_,ad,run_underlying hu]
  |msl _ _ _ _ _ h1 h2 =>
   cases n with
   |zero =>refine⟨w,?_,Ext.refl g w,rfl,λ_ _=>rfl,by rw[ab rfl];exact ae⟩;simp[Builtin.clear_,ad,run_underlying hu]
   |succ n =>obtain⟨w',a1,a2,a3,a4,a5⟩:=Zb1 (P:=P) ae a0 ai (by rw[ag];exact hlen) (m.st.kept b _ aj);refine⟨w',?_,a2,a3,a4,a5⟩;simp only[Builtin.clear_,ad,List.getElem?_toArray,List.getElem?_cons_zero,Sem.run_bind,run_underlying hu,Result.andThen_ok,ax,a1,Sem.run_pure]
 obtain⟨w',a1,a2,a3,a4,a5⟩:=al;have m':=m.named (o':=.cells (Zt cs off (W6 z n))) aj a2 a3 a4 a5;refine Yl (L':=L) hN ar ah hd hw aq (v:=.tuple #[]) (e:=.d (.tup [])) ?_ a2 m' (Rep.tup [] [] rfl ψ) (h a6 r k hr ap);simp only[execOp,au,resolve,invoke,builtin,Sem.run_bind,Sem.run_pure,Result.andThen_ok,List.map_toArray,ZIj,ZIA,av,a1]
def W3(P:Program)(s:St)(sz:Nat)(dy:D)(m:Nat)(row:Nat->List D):Prop :=
 ∀g w v,Yh g s w->Rep g w v dy->0<sz->∃news,WO g w sz m news row/\Zbs P w sz m v news
def W3.elems{s sz i m row}(h:ZaT sz i=sO (m,row)):W3 P s sz i m row:=λg w v _ u t=>Zm7 (P:=P) u h t
def W3.msl{s sz b off n cap cs}(hcs:Z1 s b=sO cs)(hlen:off+n*sz<=I cs):W3 P s sz (.msl b off n cap sz) n (λi=>part cs (off+i*sz) sz):=λg w v hs hr h0=>by
 obtain⟨hp,ab,T,hb,hcl,ad,ac⟩:=Qy hs hcs;let vals:=(ab.toList.drop off).take (n*sz);have u:I vals=n*sz:=by simp[vals];omega
 have t:∀k,k<n*sz->vals[k]?=ab[off+k]?:=λk hk=>by simp only[vals,ZII,hk,if_true,List.getElem?_drop,Array.getElem?_toList]
 have hk:∀i j,i<n->j<sz->i*sz+j<n*sz:=λi j hi hj=>by have:(i+1)*sz<=n*sz:=ZIn _ hi;rw[ZIs,Nat.one_mul]at this;omega
 refine⟨vals,⟨u,λi hi=>?_,λi j v d hi hj hv hd=>?_,λv hv=>?_⟩,?_⟩;have:=hk i (sz-1) hi ω;simp only[part,ZIm,ZIG];omega;rw[t _ (hk i j hi hj)]at hv;refine ad _ v d hv ?_;simp only[part,ZII,hj,if_true,List.getElem?_drop]at hd;rw[<-hd];congr 1;omega;obtain⟨k,ae,rfl⟩:=ZIl hv;have h1:=t k ω;rw[ZIw ae]at h1;exact ac _ (Array.mem_of_getElem? h1.symm);cases hr with
 |mslx a =>have:vals=[]:=List.eq_nil_of_length_eq_zero (by simpa using u);rw[this];exact⟨λw2=>by simp[Builtin.lenOf],λw2 _=>by simp[Builtin.firstCells,loadCells,loadCellsFrom]⟩
 |msl _ _ _ _ _ h1 h2 =>
  refine⟨λw2=>by simp[Builtin.lenOf],λw2 ag=>?_⟩;refine run_firstCells_some (P:=P) w2 sz n ⟨b,off,nO⟩ n cap vals u λk v hv=>?_;have af:k<n*sz:=by rw[<-u];exact(List.getElem?_eq_some_iff.1 hv).1
  rw[t k af]at hv;rw[Kg,JD (ag▸rfl:w2.heap[b]?=w.heap[b]?),JU hb];exact hv
def Zwj{F:Fr P}{kp dk o os H L s}(hg:Zn H o.guard=sO true){e sz b z x y}(hk:o.k=.append e sz b z x y){p q t n m row row2 dy dx}(hx:ZC H true x=sO (p,.d dx))(hsl:Zee sz dx=sO (t,n,row))(hy:ZC H true y=sO (q,.d dy))(hp:p)(hq:q)(hel:W3 P (s.own t (n*sz)) sz dy m row2)(hok:t.okIn s)(hb:(n+m)*b<=140737488355328)(hbig:n+m<=big)(h:∀t':Tok,t'.okIn s->DO F kp dk os (Zx H o.dst (.d (.sl t' (n+m) sz (YW n row row2)))) L (s.own t' ((n+m)*sz))):
  DO F kp dk (o::os) H L (s.own t (n*sz)):=by
 refine Y5 λoo g Z w tmps bi i r k az ab ar ai hd hN M hr au=>?_;have hw:=Z9 M ar hg;have ax:=Yd ab (by rw[hk];rfl);rw[hk]at ab;obtain⟨x',y',ag,ak,t1,t2,tu,a0,u,al,am,bb,bc,ay,ba,hz,ap,be,bf,h0,hzl⟩:=ZaP ab;subst ap;have a8:Rep g w _ (.sl t n sz row):=Zhp (Z0 M be rfl hx hp F.ds) hsl;have a9:Rep g w _ _:=Z0 M bf rfl hy hq F.ds;obtain⟨zv,hz1,bg,hz3,ie,ac,bh⟩:=Qf (g:=g) (w:=w) hz;have ae:ie.size=sz:=by simpa[ZT,ac]using ba
 have af:zv.cells.size=sz:=by have:=bg.len;simp at this;omega
 have aq:P.bytesOf e=ie.bytes:=by simp[Program.bytesOf,ac]
 rw[aq]at hb;obtain⟨news,av,aw⟩:=hel _ _ _ M.st a9 h0;obtain⟨v',w',g',t',a1,a2,a3,a4,a5,a6,a7⟩:=ZsU (ty:=oo.type) bb bc ay ac bh ae af h0 M.st hok a8 av aw hb hbig;have ad:∀l cs,Zg L l=sO cs->t≠.tip (Z l):=λl cs hl ht=>by have:=M.locSt l cs hl;rw[ht]at this;simp[St.own,ZID]at this
 have aj:∀l cs,Zg L l=sO cs->s (Z l)=nO:=λl cs hl=>by
  cases hx:s (Z l) with
  |none=>rfl
  |some o=>have:=Y2 (k:=n*sz) hok _ _ hx;rw[M.locSt l cs hl]at this;simp at this
 have mm:Zw g' Z w' tmps H L (s.own t' ((n+m)*sz)):=by
  refine⟨a3,λl cs hl=>(M.loc l cs hl).mono a2 (a6 (Z l) (M.loc l cs hl).lt (ad l cs hl)).1 (a6 (Z l) (M.loc l cs hl).lt (ad l cs hl)).2,λl cs hl=>by rw[a2.keptEq];exact M.locKept l cs hl,λl cs hl=>?_,M.inj,λt e he=>(M.env t e he).mono a2⟩;cases t' with
  |tip b =>
   have:¬Z l=b:=λhb=>by rcases a7 b rfl with h1|h1;exact ad l cs hl (by rw[hb];exact h1);have:=(M.loc l cs hl).lt;omega
   simp only[St.own,ZID,this,if_false];exact aj l cs hl
  |_=>exact aj l cs hl
 refine Yl hN az ai hd hw ax (v:=v') (w':=w') (e:=.d (.sl t' (n+m) sz (YW n row row2))) ?_ a2 mm a5 (h t' a4 bi r k hr au);have ao:ag = #[x',y']:=by apply Array.ext';simpa using u
 have ah:∀vs,Builtin.append_ ak oo.type vs=Builtin.append_ #[t1,t2] oo.type vs:=λvs=>by unfold Builtin.append_;simp[al,am]
 unfold execOp;simp only[a0,ao,resolve,invoke,builtin,Sem.run_bind,Sem.run_pure,Result.andThen_ok,List.map_toArray,ZIj,ZIA,ah,a1]
def ZbP{sz m}{row:Nat->List D}(h:∀i,i<m->(row i).length=sz):∀k,k<=m->((ZIf k).flatMap row).length=k*sz
 |0,_=>by simp
 |k+1,hk=>by rw[List.range_succ,List.flatMap_append,ZIc,ZbP h k ω];simp[h k hk,ZIs]
def Znf{sz m}{row:Nat->List D}(h:∀i,i<m->(row i).length=sz):∀(k i j),k<=m->i<k->j<sz->((ZIf k).flatMap row)[i*sz+j]?=(row i)[j]?
 |0,i,j,_,hi,_=>by omega
 |k+1,i,j,hk,hi,hj=>by
  rw[List.range_succ,List.flatMap_append];have hl:=ZbP h k ω;by_cases t:i<k;have:i*sz+j<k*sz:=by have:(i+1)*sz<=k*sz:=ZIn _ t;rw[ZIs,Nat.one_mul]at this;omega
  rw[ZIB ω];exact Znf h k i j ω t hj;obtain rfl:i=k:=ω;rw[ZIL ω,hl];simp[List.flatMap_cons]
def WO.flat{g w sz m vs row}(h:WO g w sz m vs row):ZI (Rep g w) vs ((ZIf m).flatMap row):=by
 have hl:=ZbP h.rlen m (ZIh _);refine Yg (by rw[h.len,hl]) λk v d hv i=>?_;have hk:k<m*sz:=by rw[<-hl];exact(List.getElem?_eq_some_iff.1 i).1
 have hs:0<sz:=by rcases Nat.eq_zero_or_pos sz with h|h;subst h;simp at hk;exact h
 have t:k / sz<m:=(Nat.div_lt_iff_lt_mul hs).2 hk;have u:k % sz<sz:=Nat.mod_lt _ hs;have e:k / sz*sz+k % sz=k:=by rw[Nat.mul_comm];exact Nat.div_add_mod k sz
 rw[<-e]at hv i;rw[Znf h.rlen m _ _ (ZIh _) t u]at i;exact h.rep _ _ v d t u hv i
def ZmO{F:Fr P}{kp dk o os H L s}(hg:Zn H o.guard=sO true){e sz b z x y}(hk:o.k=.append e sz b z x y){p q m row row2 dy dx}(hx:ZC H true x=sO (p,.d dx))(hsl:Zee sz dx=sO (.full,0,row))(hy:ZC H true y=sO (q,.d dy))(hel:W3 P s sz dy m row2)(hp:p)(hq:q)(hm:0<m)(hb:m*b<=140737488355328)(hbig:m<=big)(h:∀c cap,s c=nO->m<=cap->DO F kp dk os (Zx H o.dst (.d (.msl c 0 m cap sz))) L (s.upd c (.cells ((ZIf m).flatMap row2++List.replicate ((cap-m)*sz) .any)))):
  DO F kp dk (o::os) H L s:=by
 refine Y5 λoo g Z w tmps bi i r k az u aq ag hd hN M hr au=>?_;have hw:=Z9 M aq hg;have aw:=Yd u (by rw[hk];rfl);rw[hk]at u;obtain⟨x',y',ae,aj,t1,t2,tu,a0,t,ak,al,ba,bb,ax,a9,hz,ao,bc,be,h0,hzl⟩:=ZaP u;subst ao;have a7:Rep g w _ (.sl .full 0 sz row):=Zhp (Z0 M bc rfl hx hp F.ds) hsl;have a8:Rep g w _ _:=Z0 M be rfl hy hq F.ds;obtain⟨zv,hz1,bf,bg,ie,ab,bh⟩:=Qf (g:=g) (w:=w) hz;have ac:ie.size=sz:=by simpa[ZT,ab]using a9
 have ad:zv.cells.size=sz:=by have:=bf.len;simp at this;omega
 have ap:P.bytesOf e=ie.bytes:=by simp[Program.bytesOf,ab]
 rw[ap]at hb;obtain⟨news,ai,av⟩:=hel _ _ _ M.st a8 h0;obtain⟨cap,cv,a1,a2,a3,a4,a5,a6⟩:=Zvm (ty:=oo.type) ba bb ax ab bh ac ad bg h0 M.st a7 hm ai av hb hbig;have ah:J2 g w g (w.drew.alloc (.cells cv e)):=ZjY (g:=g) (w:=w) cv e M.st.fresh;have he:=ah.ext M.st.fresh;have ar:=ZbP ai.rlen m (ZIh _);have ay:WN g (w.drew.alloc (.cells cv e)) w.heap.size (.cells ((ZIf m).flatMap row2++List.replicate ((cap-m)*sz) .any)) :=
  ⟨(M.st.fresh _ (ZIh _)).1,_,e,Kl w.drew,by rw[ZIc,ar,List.length_replicate,a4,<-ZIs];congr 1;omega,λi v d hv hd=>(a6 i v d hv hd).mono he,a5⟩
 obtain⟨hn,m'⟩:=M.newObj ah ay;refine Yl (L':=L) hN az ag hd hw aw (e:=.d (.msl w.heap.size 0 m cap sz)) ?_ he m' (Rep.msl _ _ _ _ _ a2 a3) (h _ cap hn a2 bi r k hr au);have am:ae = #[x',y']:=by apply Array.ext';simpa using t
 have af:∀vs,Builtin.append_ aj oo.type vs=Builtin.append_ #[t1,t2] oo.type vs:=λvs=>by unfold Builtin.append_;simp[ak,al]
 unfold execOp;simp only[a0,am,resolve,invoke,builtin,Sem.run_bind,Sem.run_pure,Result.andThen_ok,List.map_toArray,ZIj,ZIA,af,a1]
def Zle{F:Fr P}{kp dk o os H L s}(hg:Zn H o.guard=sO true){e sz bt z x y}(hk:o.k=.append e sz bt z x y){p q b off n cap m row2 dy cs}(hx:ZC H true x=sO (p,.d (.msl b off n cap sz)))(hy:ZC H true y=sO (q,.d dy))(hp:p)(hq:q)(hcs:Z1 s b=sO cs)(hlen:off+n*sz<=I cs)(hel:W3 P s sz dy m row2)(hroom:n+m<=cap->off=0/\(n+m)*sz<=I cs)(hb:(n+m)*bt<=140737488355328)(hbig:n+m<=big)(h1:n+m<=cap->DO F kp dk os (Zx H o.dst (.d (.msl b off (n+m) cap sz))) L (s.upd b (.cells (Zt cs (n*sz) ((ZIf m).flatMap row2)))))(h2:∀c cap',cap<n+m->s c=nO->n+m<=cap'->DO F kp dk os (Zx H o.dst (.d (.msl c 0 (n+m) cap' sz))) L (s.upd c (.cells (part cs off (n*sz)++(ZIf m).flatMap row2++List.replicate ((cap'-(n+m))*sz) .any)))):
  DO F kp dk (o::os) H L s:=by
 refine Y5 λoo g Z w tmps ak i r k a6 aw ca ae hd hN M hr ay=>?_;have hw:=Z9 M ca hg;have az:=Yd aw (by rw[hk];rfl);rw[hk]at aw;obtain⟨x',y',bb,bw,t1,t2,tu,cj,au,bx,bz,a8,a9,a0,cm,hz,b1,cr,cu,h0,hzl⟩:=ZaP aw;subst b1;have ai:Rep g w _ (.msl b off n cap sz):=Z0 M cr rfl hx hp F.ds;have bq:Rep g w _ _:=Z0 M cu rfl hy hq F.ds;obtain⟨zv,hz1,cw,cx,ie,ah,cz⟩:=Qf (g:=g) (w:=w) hz;have a7:ie.size=sz:=by simpa[ZT,ah]using cm
 have ba:zv.cells.size=sz:=by have:=cw.len;simp at this;omega
 have b2:P.bytesOf e=ie.bytes:=by simp[Program.bytesOf,ah]
 rw[b2]at hb;have br:s b=sO (.cells cs):=by unfold Z1 at hcs;split at hcs<;>simp only[ZH0,reduceCtorEq]at hcs;subst hcs;assumption
 obtain⟨ad,ab,am⟩:=hel _ _ _ M.st bq h0;obtain⟨bv,ao,bo⟩:=W3.msl (P:=P) (s:=s) (cap:=cap) hcs hlen g w _ M.st ai h0;have b0:bb = #[x',y']:=by apply Array.ext';simpa using au
 have be:∀vs,Builtin.append_ bw oo.type vs=Builtin.append_ #[t1,t2] oo.type vs:=λvs=>by unfold Builtin.append_;simp[bx,bz]
 generalize co:(Act.mk tmps F.ds).eval x'=vx at ai bo;generalize cp:(Act.mk tmps F.ds).eval y'=vy at bq am;have ac:∀v' w',(Builtin.append_ #[t1,t2] oo.type #[vx,vy]).run P w=.ok v' w'->(execOp (Act.mk tmps F.ds).eval oo).run P w=.ok (.value v') w':=λv' w' t=>by unfold execOp;simp only[cj,b0,resolve,invoke,builtin,Sem.run_bind,Sem.run_pure,Result.andThen_ok,List.map_toArray,ZIj,ZIA,be,co,cp,t]
 subst a7;have ce:=ZbP ab.rlen m (ZIh _);have hpl:(part cs off (n*ie.size)).length=n*ie.size:=by simp only[part,ZIm,ZIG];omega
 have bh:(ZIf n).flatMap (λi=>part cs (off+i*ie.size) ie.size)=part cs off (n*ie.size):=by
  have hlo:=ZbP ao.rlen n (ZIh _);apply List.ext_getElem?;intro k';by_cases bk:k'<n*ie.size;have e1:k' / ie.size*ie.size+k' % ie.size=k':=by rw[Nat.mul_comm];exact Nat.div_add_mod k' ie.size
  have e2:k' / ie.size<n:=(Nat.div_lt_iff_lt_mul h0).2 bk;have e3:k' % ie.size<ie.size:=Nat.mod_lt _ h0;have:=Znf ao.rlen n _ _ (ZIh _) e2 e3;rw[e1]at this;rw[this];simp only[part,ZII,e3,if_true,List.getElem?_drop,bk]
  congr 1;omega
  rw[ZIM ω,ZIM ω]
 have ag:∀base,vx=.slice base n cap->cap<n+m->F.T.T g w (lone (F.b.atR ⟨tmps,F.ds⟩ (.inRegion ak (i::r)::k)) F.cs w):=by
  intro base hv bl;subst hv;have t:=ZmZ (ty:=oo.type) a8 a9 a0 ah cz am bo.2 bl (by simp only[big]at hbig;omega) hb;have ax:=grownCap_ge w (n+m) cap e;have u:=grownCap_le_maxLen w (n+m) cap e (by simp only[big]at hbig;simp only[maxLen];omega);generalize grownCap w (n+m) cap e=cap' at t ax u;generalize bg:(bv++ad++(Builtin.zeroCells zv.cells (cap'-(n+m))).toList).toArray=cv at t;have cy:(Builtin.zeroCells zv.cells (cap'-(n+m))).toList.length=(cap'-(n+m))*ie.size:=by rw[Array.length_toList,size_zeroCells,ba]
  have bj:J2 g w g (w.drew.alloc (.cells cv e)):=ZjY (g:=g) (w:=w) cv e M.st.fresh;have he:=bj.ext M.st.fresh;have aq:ZI (Rep g w) cv.toList (part cs off (n*ie.size)++(ZIf m).flatMap row2++List.replicate ((cap'-(n+m))*ie.size) .any):=by rw[<-bg,<-bh];refine(ao.flat.append ab.flat).append (Yg (by rw[cy,List.length_replicate]) λk' v d hv hd=>?_);rw[List.getElem?_replicate]at hd;split at hd<;>simp only[ZH0,reduceCtorEq]at hd;subst hd;exact .any v
  have bp:∀v∈cv,v.one1=true:=λv hv=>by rw[<-bg]at hv;simp only[List.mem_toArray,List.mem_append]at hv;rcases hv with (hv|hv)|hv;exact ao.one v hv;exact ab.one v hv;simp only[Builtin.zeroCells,Array.mem_toList_iff,Array.mem_map]at hv;obtain⟨a,_,rfl⟩:=hv;exact cx _ (by rw[getElem!_pos zv.cells _ (Nat.mod_lt _ ω)];exact Array.getElem_mem _)
  have ci:WN g (w.drew.alloc (.cells cv e)) w.heap.size (.cells (part cs off (n*ie.size)++(ZIf m).flatMap row2++List.replicate ((cap'-(n+m))*ie.size) .any)) :=
   ⟨(M.st.fresh _ (ZIh _)).1,_,e,Kl w.drew,by simpa using aq.len,λi v d hv hd=>(aq.get i v d (by simpa using hv) hd).mono he,bp⟩
  obtain⟨hn,m'⟩:=M.newObj bj ci;exact Yl (L':=L) hN a6 ae hd hw az (e:=.d (.msl w.heap.size 0 (n+m) cap' ie.size)) (ac _ _ t) he m' (Rep.msl _ _ _ _ _ ax (by simp only[maxLen]at u;simp only[big];omega)) (h2 _ cap' bl hn ax ak r k hr ay)
 have aj:∀base,vx=.slice base n cap->base=sO ⟨b,off,nO⟩\/(n+m=0/\cap=0)->n+m<=cap->F.T.T g w (lone (F.b.atR ⟨tmps,F.ds⟩ (.inRegion ak (i::r)::k)) F.cs w):=by
  intro base hv av u;subst hv;obtain⟨ch,af⟩:=hroom u;subst ch;obtain⟨hpr,bc,T,bf,cb,hcr,hco⟩:=Qy M.st hcs;by_cases bn:m=0;subst bn;have cg:ad=[]:=List.eq_nil_of_length_eq_zero (by simpa using ab.len);subst cg;have t:=Zju (ty:=oo.type) (n:=n) (cap:=cap) (base:=base) a8 a9 a0 ah am ω;have bu:Zt cs (n*ie.size) ((ZIf 0).flatMap row2)=cs:=by simp[Zt]
  have cn:s.upd b (.cells cs)=s:=by funext c;simp only[ZID];split<;>simp_all
  have bi:=h1 u;rw[bu,cn]at bi;exact Yl (L':=L) (s':=s) hN a6 ae hd hw az (e:=.d (.msl b 0 (n+0) cap ie.size)) (ac _ _ t) (Ext.refl g w) M (by rw[Nat.add_zero];exact ai) (bi ak r k hr ay);have al:base=sO ⟨b,0,nO⟩:=av.resolve_right (λh=>bn ω);subst al;have ar:n*ie.size+I ad<=bc.size:=by rw[ab.len,<-ZIs,cb];exact af
  have t:=ZsV (ty:=oo.type) a8 a9 a0 ah am bf (λv hv=>by rw[Zdp];exact ab.one v hv) u ar;obtain⟨w',a1,a2,a3,a4,a5⟩:=Zb1 (P:=P) (off:=n*ie.size) (Qy M.st hcs) ab.flat ab.one (by rw[ce,<-ZIs];exact af) (M.st.kept b _ br);have ap:=run_storeCells_at (P:=P) b (n*ie.size) T ad 0 bc w bf (by simpa using ar) (λv hv=>by rw[Zdp];exact ab.one v hv);simp only[Nat.add_zero]at ap;rw[a1]at ap;simp only[Result.ok.injEq,true_and]at ap;rw[<-ap]at t;have m':=M.named (o':=.cells (Zt cs (n*ie.size) ((ZIf m).flatMap row2))) br a2 a3 a4 a5;exact Yl (L':=L) hN a6 ae hd hw az (e:=.d (.msl b 0 (n+m) cap ie.size)) (ac _ _ t) a2 m' (by
   cases ai with
   |msl _ _ _ _ _ _ hcb=>exact Rep.msl _ _ _ _ _ u hcb
   |mslx a=>exact absurd u ω) (h1 u ak r k hr ay)
 cases ai with
 |msl _ _ _ _ _ hc1 hc2 =>by_cases u:n+m<=cap;exact aj _ rfl (.inl rfl) u;exact ag _ rfl ω
 |mslx a =>by_cases u:0+m<=0;exact aj _ rfl (.inr ⟨ω,rfl⟩) u;exact ag _ rfl ω
end
variable {P:Program}
def KC(o:DOp)(H:Env)(L:Loc)(s:St):SR :=
 match o.k with
 |.q (.bin .add _) _=>.stop
 |.q (.bin .shl _) _=>.stop
 |_=>ZF o H L s
def W5(K:Env->Loc->St->Prop)(X:List DOp->Env->Loc->St->Prop):List DOp->Env->Loc->St->Prop
 | [],H,L,s=>K H L s
 |o::os,H,L,s=>match KC o H L s with
  |.ok side H' L' s'=>side/\W5 K X os H' L' s'
  |.all side pre H' s'=>side/\∀b,pre b->W5 K X os (H' b) L (s' b)
  |.stop=>X (o::os) H L s
def ZiX{o H L s}:∀r,KC o H L s=r->r=.stop\/ZF o H L s=r:=λr i=>by
 unfold KC at i;split at i;exact .inl i.symm;exact .inl i.symm;exact .inr i
def WM{F:Fr P}{kp}{dk}:∀{os} {H} {L} {s},
  W5 (λH L s=>Zv F dk (kept kp H) (Zlr kp H L) s) (λos H L s=>DO F kp dk os H L s) os H L s->DO F kp dk os H L s
 | [],H,L,s,h=>ZeY h
 |o::os,H,L,s,h=>by simp only[W5]at h;split at h;rename_i u H' L' s' i;rcases ZiX _ i with h2|h2;cases h2;exact QO h2 h.1 (WM h.2);rename_i u pre H' s' i;rcases ZiX _ i with h2|h2;cases h2;exact ZnO h2 h.1 λb t=>WM (h.2 b t);exact h
def Zb4{F:Fr P}{ks dk}:∀{os H L s},
  W5 (λH L s=>Zv F dk (Yn H ks) (Za9 (Yn H ks) L) s) (λos H L s=>Q6 F (sO ks) dk os H L s) os H L s->Q6 F (sO ks) dk os H L s
 | [],H,L,s,h=>YM (os:=[]) h
 |o::os,H,L,s,h=>by simp only[W5]at h;split at h;rename_i u H' L' s' i;rcases ZiX _ i with h2|h2;cases h2;intro B;refine Jn h2 h.1 ?_;split;exact Zb4 h.2 _;exact⟨J9,Zb4 h.2 _⟩;rename_i u pre H' s' i;rcases ZiX _ i with h2|h2;cases h2;intro B;exact ZpH h2 h.1 λb t=>⟨J9,Zb4 (h.2 b t) _⟩;exact h
def ZxN{F:Fr P}{kp dk o os H L s}(hg:o.guard=nO){x y i pl}(hk:o.k=.q (.bin i pl) [x,y]){p k t a b v}(u:Ya H true [x,y]=sO (p,[.d (.int k a),.d (.int t b)]))(hp:p)(hv:ZgD i k t a b=sO v)(h:Q6 F kp dk os (Zx H o.dst (.d (.int k v))) L s):Q6 F kp dk (o::os) H L s:=λB=>ZzD hg hk u hp hv (h B)
def ZqI{F:Fr P}{kp dk o os H L s}(t:o.guard=nO){x y pl}(u:o.k=.q (.bin .add pl) [x,y]){p k a b}(i:Ya H true [x,y]=sO (p,[.d (.int k a),.d (.int k b)]))(hp:p)(h:Q6 F kp dk os (Zx H o.dst (.d (.int k (k.wrap (a+b))))) L s):Q6 F kp dk (o::os) H L s:=ZxN t u i hp (by simp[ZgD]) h
section
variable {P:Program} {F:Fr P} {ks:Option (List Nat)} {dk:List W2} {H:Env} {L:Loc} {s:St}
def rgR{r os i}(e:r=os)(t:i=ks)(h:DO F ks dk os H L s):Zv F (.code (.reg r i)::dk) H L s:=by subst e t;exact Zh3 h
def ZiK{o r os i}(e:r=os)(t:i=ks)(h:Q6 F ks dk os H L s):Zv F (.code (.regD o (ZxH r) i)::dk) H L s:=by subst e t;exact Zwl h
def rgD{o r os i}(e:r=os)(t:i=ks)(h:DOA F ks dk os H L s []):Zv F (.code (.regD o r i)::dk) H L s:=by subst e t;exact Zjn h
end
structure Hid(p:Prop):Prop where
 out:p
def nd2{a b}(x:a)(y:b):a/\b:=⟨x,y⟩
def mv{A B:Prop}(k:B)(h:Hid B->A:=by
 intro hk;repeat(first|refine Zc ?_|refine Zk ?_|refine Z5 ?_|refine ZE ?_|refine Yy ?_|refine Zd ?_|refine Yr ?_|refine ZO rfl ?_)
 exact hk.out):A:=h ⟨k⟩
def rg{A B:Prop}(k:B)(h:Hid B->A:=by
 intro hk;repeat(first|refine Zc ?_|refine Zk ?_|refine Z5 ?_|refine ZE ?_|refine Yy ?_|refine Zd ?_|refine Yr ?_|refine ZO rfl ?_)
 first|refine rgR (by conv=>lhs;whnf) (by conv=>lhs;whnf) (Zp ?_)|refine ZiK (by conv=>lhs;whnf) (by conv=>lhs;whnf) (YM ?_)|refine rgD (by conv=>lhs;whnf) (by conv=>lhs;whnf) (Yt ?_)
 simp only[Eqs,reduceCtorEq,Int.reduceToNat,reduceIte,Nat.reduceEqDiff,Nat.reduceAdd,Nat.reduceLeDiff];exact hk.out):A:=h ⟨k⟩
def rx{p:Prop}(e:p){A B:Prop}(k:B)(h:p->Hid B->A:=by
 intro e1 hk;repeat(first|refine Zc ?_|refine Zk ?_|refine Z5 ?_|refine ZE ?_|refine Yy ?_|refine Zd ?_|refine Yr ?_|refine ZO rfl ?_)
 first|refine rgR (by conv=>lhs;whnf) (by conv=>lhs;whnf) (Zp ?_)|refine ZiK (by conv=>lhs;whnf) (by conv=>lhs;whnf) (YM ?_)|refine rgD (by conv=>lhs;whnf) (by conv=>lhs;whnf) (Yt ?_)
 simp only[Eqs,reduceCtorEq,Int.reduceToNat,reduceIte,Nat.reduceEqDiff,Nat.reduceAdd,Nat.reduceLeDiff,e1];exact hk.out):A:=h e ⟨k⟩
def rh{A B:Prop}(k:B)(h:Hid B->A:=by
 intro hk;repeat(first|refine Zc ?_|refine Zk ?_|refine Z5 ?_|refine ZE ?_|refine Yy ?_|refine Zd ?_|refine Yr ?_|refine ZO rfl ?_)
 first|refine rgR (by conv=>lhs;whnf) (by conv=>lhs;whnf) ?_|refine ZiK (by conv=>lhs;whnf) (by conv=>lhs;whnf) ?_|refine rgD (by conv=>lhs;whnf) (by conv=>lhs;whnf) ?_
 exact hk.out):A:=h ⟨k⟩
def aa{A B:Prop}(k:B)(h:Hid B->A:=by
 intro hk;repeat(refine And.intro (by first|omega|trivial|(intro h0;simp at h0;omega)) ?_)
 exact hk.out):A:=h ⟨k⟩
def cl{q:Prop}(c:q){A B:Prop}(k:B)(h:q->Hid B->A:=by
 intro hc hk;refine ZaK rfl rfl rfl rfl rfl φ φ hc (Zp ?_);simp only[Eqs,reduceCtorEq,Int.reduceToNat,reduceIte,Nat.reduceEqDiff,Nat.reduceAdd,Nat.reduceLeDiff];exact hk.out):A:=h c ⟨k⟩
def ct{q:Prop}(c:q){A B:Prop}(k:B)(h:q->Hid B->A:=by
 intro hc hk;refine Jo rfl rfl rfl rfl rfl φ φ hc (Zp ?_);simp only[Eqs,reduceCtorEq,Int.reduceToNat,reduceIte,Nat.reduceEqDiff,Nat.reduceAdd,Nat.reduceLeDiff];exact hk.out):A:=h c ⟨k⟩
def cl0{q:Prop}(c:q){A B:Prop}(k:B)(h:q->Hid B->A:=by
 intro hc hk;refine Zwh rfl rfl rfl rfl rfl φ φ hc (YM ?_);simp only[Eqs,reduceCtorEq,Int.reduceToNat,reduceIte,Nat.reduceEqDiff,Nat.reduceAdd,Nat.reduceLeDiff];exact hk.out):A:=h c ⟨k⟩
def clD{q:Prop}(c:q){A B:Prop}(k:B)(h:q->Hid B->A:=by
 intro hc hk;refine Zf2 rfl rfl rfl rfl rfl φ φ hc (Yt ?_);simp only[Eqs,reduceCtorEq,Int.reduceToNat,reduceIte,Nat.reduceEqDiff,Nat.reduceAdd,Nat.reduceLeDiff];exact hk.out):A:=h c ⟨k⟩
def ctD{q:Prop}(c:q){A B:Prop}(k:B)(h:q->Hid B->A:=by
 intro hc hk;refine Zjm rfl rfl rfl rfl rfl φ φ hc (by first|trivial|exact⟨rfl,trivial⟩|simp[Wd,K0]) (Yt ?_);simp only[Eqs,reduceCtorEq,Int.reduceToNat,reduceIte,Nat.reduceEqDiff,Nat.reduceAdd,Nat.reduceLeDiff];exact hk.out):A:=h c ⟨k⟩
section
variable {P:Program} {F:Fr P} {dk:List W2} {H:Env} {L:Loc} {s:St}
def cd{o:Opd}{x y:DC}{b:Bool}{p:Prop}(ht:b=true->Zv F (.code x::dk) H L s)(hf:b=false->Zv F (.code y::dk) H L s)(ho:ZC H true o=sO (p,.d (.bool b)):=by rfl)(hp:p:=by trivial):Zv F (.code (.cond o x y)::dk) H L s:=Zl ho hp ht hf
end
def rb{p:Prop}(c:p){A B:Prop}(k:B)(h:p->Hid B->A:=by
 intro hret hk;repeat(first|refine Zc ?_|refine Zk ?_|refine Z5 ?_|refine ZE ?_|refine Yy ?_|refine Zd ?_|refine Yr ?_|refine ZO rfl ?_)
 exact hret rfl (by first|trivial|simp) (ZeO hk.out) (by first|exact St.sub_refl|exact Y2 (by first|trivial|assumption)|assumption|exact St.sub_upd _ (by assumption))):A:=h c ⟨k⟩
def ri{p:Prop}(c:p){A B:Prop}(k:B)(h:p->Hid B->A:=by
 intro hret hk;repeat(first|refine Zc ?_|refine Zk ?_|refine Z5 ?_|refine ZE ?_|refine Yy ?_|refine Zd ?_|refine Yr ?_|refine ZO rfl ?_)
 exact hret rfl (by first|trivial|simp) (Zhk hk.out) (by first|exact St.sub_refl|exact Y2 (by first|trivial|assumption)|assumption|exact St.sub_upd _ (by assumption))):A:=h c ⟨k⟩
def rs{p:Prop}(c:p){A B:Prop}(k:B)(h:p->Hid B->A:=by
 intro hret hk;repeat(first|refine Zc ?_|refine Zk ?_|refine Z5 ?_|refine ZE ?_|refine Yy ?_|refine Zd ?_|refine Yr ?_|refine ZO rfl ?_)
 exact hret rfl (by first|trivial|simp) (ZCJ hk.out) (by first|exact St.sub_refl|exact Y2 (by first|trivial|assumption)|assumption|exact St.sub_upd _ (by assumption))):A:=h c ⟨k⟩
def ro{p:Prop}(c:p){A B:Prop}(k:B)(h:p->Hid B->A:=by
 intro hret hk;repeat(first|refine Zc ?_|refine Zk ?_|refine Z5 ?_|refine ZE ?_|refine Yy ?_|refine Zd ?_|refine Yr ?_|refine ZO rfl ?_)
 exact hret rfl (by first|trivial|simp) (ZCI hk.out) (by first|exact St.sub_refl|exact Y2 (by first|trivial|assumption)|assumption|exact St.sub_upd _ (by assumption))):A:=h c ⟨k⟩
def rt{p:Prop}(c:p){A B:Prop}(k:B)(h:p->Hid B->A:=by
 intro hret hk;repeat(first|refine Zc ?_|refine Zk ?_|refine Z5 ?_|refine ZE ?_|refine Yy ?_|refine Zd ?_|refine Yr ?_|refine ZO rfl ?_)
 exact hret rfl (by first|trivial|simp) (Qn hk.out rfl) (by first|exact St.sub_refl|exact Y2 (by first|trivial|assumption)|assumption|exact St.sub_upd _ (by assumption))):A:=h c ⟨k⟩
def fr{P}{F:Fr P}{x dk H L s}(N)(M:Nat->(Env->Loc->St->Prop)->Prop)(h:∀n,(∀m,m<n->∀i,N-i=m->M i λH L s=>Zv F (.code x::.inLoop x::dk) H L s)->∀i,N-i=n->M i λH L s=>Zv F (.code x::.inLoop x::dk) H L s)(g:(∀n i,N-i=n->M i λH L s=>Zv F (.code x::.inLoop x::dk) H L s)->Zv F (.code x::.inLoop x::dk) H L s):Zv F (.code (.loop x)::dk) H L s :=
 JT (g λn=>Nat.strongRecOn n h)
def i0{A B:Prop}(k:B)(h:Hid B->A:=by
 intro hq;repeat(first|refine Zc ?_|refine Zk ?_|refine Z5 ?_|refine ZE ?_|refine Yy ?_|refine Zd ?_|refine Yr ?_|refine ZO rfl ?_)
 exact Zl rfl trivial (λh=>by first|(simp at h;done)|(rw[hk]at h;simp at h;done)) (λ_=>hq.out)):A:=h ⟨k⟩
def i1{A B:Prop}(k:B)(h:Hid B->A:=by
 intro hq;repeat(first|refine Zc ?_|refine Zk ?_|refine Z5 ?_|refine ZE ?_|refine Yy ?_|refine Zd ?_|refine Yr ?_|refine ZO rfl ?_)
 exact Zl rfl trivial (λ_=>hq.out) (λh=>by first|(simp at h;done)|(rw[hk]at h;simp at h;done))):A:=h ⟨k⟩
def kl{P:Program}{F:Fr P}{dk:List W2}(s':St)(H':Env)(L':Loc)(h1:LeE H H')(h2:LeL L L')(h:Zv F dk H' L' s')(hs:s'.sub s:=by first|exact St.sub_refl|exact Y2 (by first|trivial|assumption)|exact St.sub_trans (Y2 (by first|trivial|assumption)) (Y2 (by first|trivial|assumption))|assumption):Zv F dk H L s :=
 WW hs (Zvi h1 h2 h)
end Go.DL
namespace Go.DL
open Go
variable {kp:Option (List Nat)}{L:Loc}{H:Env}{s:St}{w:World}{os:List DOp}{ds:List D}{B:List (Nat × Rd)}{dst:Option Nat}{tmps:Array Value}{g:G}{Φ:Res->St->Prop}{Z:Nat->Nat}{xs:List Opd}{side:Prop}{row:Nat->List D}
def Zt3:List Int:=[1,10,100,1000,10000,100000,1000000,10000000,100000000,1000000000,10000000000,100000000000,1000000000000,10000000000000,100000000000000,1000000000000000,10000000000000000,100000000000000000,1000000000000000000,10000000000000000000]
instance theTabs:ZsL:=⟨λn=>match Nat.beq n 3 with
 |true=>sO (Zt3.map λz=>.int .u64 z)
 |false=>nO⟩
end Go.DL
namespace Go.DL
open Go
variable [ZsL]
variable {kp:Option (List Nat)}{L:Loc}{H:Env}{s:St}{w:World}{os:List DOp}{ds:List D}{B:List (Nat × Rd)}{dst:Option Nat}{tmps:Array Value}{g:G}{Φ:Res->St->Prop}{Z:Nat->Nat}{xs:List Opd}{side:Prop}{row:Nat->List D}
def ZtX(T:Tab)(ms:List Nat):Nat->List Nat->List Nat->List Nat×List (Nat×List Nat)×List Nat
 |0,rest,_=>(rest,[],[])
 |n+1,rest,A =>
  let rdy:=rest.filter λi=>(T.deps i).all λd=>!rest.contains d;let free:=λ(i:Nat) (A:List Nat)=>A.filter λa=>!(ms.getD i 0).testBit a;let fl:=λ(i:Nat) (A:List Nat) (l:List (Nat×List Nat))=>match (free i A).filter λa=>YT (T.op a).k with
   | []=>l
   |as9=>(i,as9.map λa=>Zb2 (T.op a))::l
  match rdy.find? λi=>Zdc T A i&&A.all λa=>(ms.getD i 0).testBit a ||nd (T.op a).dst (ZB (T.op i)) with
  |some i=>match ZtX T ms n (rest.erase i) (i::A) with
   | (od,f,k)=>(i::od,f,k)
  |none=>match rdy with
   | []=>(rest,[],[])
   | [i]=>match ZtX T ms n (rest.erase i) (free i A) with
    | (od,f,k)=>(i::od,fl i A f,k)
   |i::j::_=>match ZtX T ms n ((rest.erase i).erase j) (free j (free i A)) with
    | (od,f,k)=>(i::j::od,fl i A (fl j A f),i::k)
def bS:List Nat->Nat
 | []=>0
 |a::l=>1 <<< a |||bS l
def bR:List DOp->Nat->Nat
 | [],m=>m
 |o::r,m=>bS (ZB o) |||match o.dst with
  |some d=>bR r m ^^^ (bR r m &&& 1 <<< d)
  |none=>bR r m
abbrev LB:=List (Nat×Nat)
def LB.get(d:Nat):LB->Nat->Nat
 | [],_=>d
 | (j,m)::r,k=>if j=k then m else LB.get d r k
def LB.put:LB->Nat->Nat->LB
 | [],k,m=>[(k,m)]
 | (j,n)::r,k,m=>if j=k then (j,n |||m)::r else (j,n)::LB.put r k m
def lvI(f:Nat->LB->Nat×LB×LB):Nat->Nat->LB->Nat×LB×LB
 |0,m,b=>f m b
 |n+1,m,b=>match f m b with
  | (m',k,b')=>if m' |||m=m then (m,k,b') else lvI f n (m' |||m) b'
def lvS(f:LB->Nat×LB×LB):Nat->LB->Nat×LB×LB
 |0,b=>f b
 |n+1,b=>match f b with
  | (m,k,b')=>if b'=b then (m,k,b') else lvS f n b'
def lvC(P:Program)(N ret:Nat):Code->LB->LB->Nat->Nat×LB×LB
 |.region id ops _,_,b,m=>match Jt P N ops (List.range ops.size) with
  |some l=>(bR l m,[(id,m)],b)
  |none=>(0,[],b)
 |.seq x y,ex,b,m=>match lvC P N ret y ex b m with
  | (m,k,b)=>match lvC P N ret x ex b m with
   | (m,k',b)=>(m,k'++k,b)
 |.cond c x y,ex,b,m=>match lvC P N ret x ex b m,ZW c with
  | (n,k,b),sO c=>match lvC P N ret y ex b m with
   | (m,k',b)=>(bS (ZS c) |||n |||m,k++k',b)
  |_,nO=>(0,[],b)
 |.block id x,ex,b,m=>lvC P N ret x ((id,m)::ex) b m
 |.loop x,ex,b,_=>lvI (λm b=>lvC P N ret x ex b m) 9 0 b
 |.exit id,ex,b,_=>(LB.get ret ex id,[],b)
 |.ret,_,b,_=>(ret,[],b)
 |.scope x,ex,b,m=>lvS (λb=>lvC P N ret x ex b m) 9 b
 |.label l,_,b,m=>(m,[],b.put l m)
 |.goto l,_,b,_=>(LB.get 0 b l,[],b)
 |.rangeFunc f _ x y,ex,b,m0=>match ZW f,lvI (λm b=>match lvC P N ret y ex b (m |||m0) with
   | (m1,k,b)=>match lvC P N ret x ex b m1 with
    | (m2,k',b)=>(m2 |||m0 |||m,k++k',b)) 9 0 b with
  |some f,(m,k,b)=>(bS (ZS f) |||m,k,b)
  |none,_=>(0,[],b)
 |_,_,b,m=>(m,[],b)
def fN:Nat->Option Nat
 |0=>sO 0
 |n+1=>sO (n+1)
def fNs:List Nat->Option (List Nat)
 | []=>sO []
 |a::l=>match fN a,fNs l with
  |some a,sO l=>sO (a::l)
  |_,_=>nO
def kpO:Nat->Nat->Nat->Option (List Nat)
 |0,_,_=>sO []
 |n+1,i,m=>match kpO n (i+1) (m / 2) with
  |some l=>if m % 2=1 then match fN i with
   |some i=>sO (i::l)
   |none=>nO
   else sO l
  |none=>nO
def kpM(N m:Nat):Option (List Nat):=kpO N 0 m
def rvM:List RV->Nat
 | []=>0
 |.tmp t::r=>1 <<< t |||rvM r
 |.cell1 t::r=>1 <<< t |||rvM r
 |.cellN t _::r=>1 <<< t |||rvM r
def dOf(P:Program)(N:Nat)(ops:Array Oper):List DOp×List Nat×List (Nat×List Nat)×List Nat :=
 match Jt P N ops (List.range ops.size) with
 |some l=>(l,ZtX (l.zip (ops.toList.map JJ)) (Zgi (ops.toList.map JJ) []) ops.size (List.range ops.size) [])
 |none=>([],[],[],[])
def anD(P:Program)(N:Nat):Code->Ann
 |.region id ops true=>match dOf P N ops with
  | (_,od,fl,_)=>(id+1000000,od)::fl.map λx=>(id+1000000*(x.1+4),x.2)
 |.seq a b=>anD P N a++anD P N b
 |.cond _ a b=>anD P N a++anD P N b
 |.block _ a=>anD P N a
 |.loop a=>anD P N a
 |.scope a=>anD P N a
 |.rangeFunc _ _ a b=>anD P N a++anD P N b
 |_=>[]
def lvF(P:Program)(fn:Func)(c:Code):LB :=
 match ZjK P fn.results.toList with
 |some rs=>(lvC P fn.ntmps (rvM rs) c [] [] (rvM rs)).2.1
 |none=>[]
def anF(P:Program)(f:FuncId):Ann :=
 match P.funcs[f]? with
 |some fn=>match fn.body with
  |some c=>(lvF P fn c).filterMap (λx=>(kpM fn.ntmps x.2).map λk=>(x.1,k))++anD P fn.ntmps c
  |none=>[]
 |none=>[]
def fLL:List (Nat×Nat)->Option (List (Nat×Nat))
 | []=>sO []
 | (a,b)::l=>match fN a,fN b,fLL l with
  |some a,sO b,sO l=>sO ((a,b)::l)
  |_,_,_=>nO
def fCC:List (Nat×SK)->Option (List (Nat×SK))
 | []=>sO []
 | (a,b)::l=>match fN a,fCC l with
  |some a,sO l=>sO ((a,b)::l)
  |_,_=>nO
def fP:Option Ze2->Option (Option Ze2)
 |none=>sO nO
 |some p=>match p with
  |.cells l=>match fCC l with
   |some l=>sO (sO (.cells l))
   |none=>nO
  |p=>sO (sO p)
def plP(P:Program):Op->Option Ze2
 |.binOp _ t x y _=>match P.underlying t with
  |some (.struct fs)=>(Kw P fs.toList).map .cells
  |some (.array n e)=>match Qe P e,ZT P e with
   |some k,sO 1=>sO (.cells ((List.range n).map (·,k)))
   |_,_=>nO
  |_=>Zd2 P t x y
 |_=>nO
def fQ(P:Program)(op:Op)(q:Q)(xs:List Opd):Option K :=
 match q with
 |.loadN n=>match fN n with
  |some n=>sO (.q (.loadN n) xs)
  |none=>nO
 |.bin o _=>match fP (plP P op) with
  |some p=>sO (.q (.bin o p) xs)
  |none=>nO
 |.faddr n=>match fN n with
  |some n=>sO (.q (.faddr n) xs)
  |none=>nO
 |.fld1 n=>match fN n with
  |some n=>sO (.q (.fld1 n) xs)
  |none=>nO
 |.fldN n m=>match fN n,fN m with
  |some n,sO m=>sO (.q (.fldN n m) xs)
  |_,_=>nO
 |.iaddr n=>match fN n with
  |some n=>sO (.q (.iaddr n) xs)
  |none=>nO
 |.iaddrA n m=>match fN n,fN m with
  |some n,sO m=>sO (.q (.iaddrA n m) xs)
  |_,_=>nO
 |.idxA n m o=>match fN n,fN m with
  |some n,sO m=>sO (.q (.idxA n m o) xs)
  |_,_=>nO
 |.sliceA n m a b c=>match fN n,fN m with
  |some n,sO m=>sO (.q (.sliceA n m a b c) xs)
  |_,_=>nO
 |.slice n a b c=>match fN n with
  |some n=>sO (.q (.slice n a b c) xs)
  |none=>nO
 |.build z l=>match fLL l with
  |some l=>sO (.q (.build z l) xs)
  |none=>nO
 |.mkfn f n=>match fN n with
  |some n=>sO (.q (.mkfn f n) xs)
  |none=>nO
 |q=>sO (.q q xs)
def fK(P:Program)(op:Op):K->Option K
 |.q q xs=>fQ P op q xs
 |.storeN n a v=>match fN n with
  |some n=>sO (.storeN n a v)
  |none=>nO
 |.bsl n s z is xs=>match fN s with
  |some s=>sO (.bsl n s z is xs)
  |none=>nO
 |.append e s b z x y=>match fN s,fN b with
  |some s,sO b=>sO (.append e s b z x y)
  |_,_=>nO
 |.mkslice e s b z x y=>match fN s,fN b with
  |some s,sO b=>sO (.mkslice e s b z x y)
  |_,_=>nO
 |.clear s z x=>match fN s with
  |some s=>sO (.clear s z x)
  |none=>nO
 |.copy s x y=>match fN s with
  |some s=>sO (.copy s x y)
  |none=>nO
 |.pick c a b=>sO (.pick c a b)
 |.alloc z=>sO (.alloc z)
 |.box x=>sO (.box x)
 |.s2b x=>sO (.s2b x)
 |.store1 a v=>sO (.store1 a v)
 |.call f xs=>sO (.call f xs)
 |.defer f xs=>sO (.defer f xs)
 |.mkmap=>sO .mkmap
 |.mapupd a b c d=>sO (.mapupd a b c d)
 |.mapent a b c d=>sO (.mapent a b c d)
 |.entst a b c=>sO (.entst a b c)
 |.panic x=>sO (.panic x)
 |.recover=>sO .recover
 |.delete a b c=>sO (.delete a b c)
 |.fork _=>nO
def fO(P:Program):List (DOp×Oper)->Option (List DOp)
 | []=>sO []
 | (o,r)::l=>match fK P r.op o.k,fO P l,o.dst,o.guard with
  |some k,sO l,sO d,nO=>sO (⟨sO d,nO,k⟩::l)
  |some k,sO l,nO,nO=>sO (⟨nO,nO,k⟩::l)
  |some k,sO l,sO d,sO (t,true)=>sO (⟨sO d,sO (t,true),k⟩::l)
  |some k,sO l,sO d,sO (t,false)=>sO (⟨sO d,sO (t,false),k⟩::l)
  |some k,sO l,nO,sO (t,true)=>sO (⟨nO,sO (t,true),k⟩::l)
  |some k,sO l,nO,sO (t,false)=>sO (⟨nO,sO (t,false),k⟩::l)
  |_,_,_,_=>nO
def ZgS(id:Nat):Code->Option (Array Oper)
 |.region i ops _=>if i=id then sO ops else nO
 |.seq a b=>match ZgS id a with
  |some x=>sO x
  |none=>ZgS id b
 |.cond _ a b=>match ZgS id a with
  |some x=>sO x
  |none=>ZgS id b
 |.block _ a=>ZgS id a
 |.loop a=>ZgS id a
 |.scope a=>ZgS id a
 |.rangeFunc _ _ a b=>match ZgS id a with
  |some x=>sO x
  |none=>ZgS id b
 |_=>nO
def Zw8(fn:Func)(id:Nat):Option (Array Oper):=match fn.body with
 |some c=>ZgS id c
 |none=>nO
def ZD2(P:Program)(fn:Func)(id:Nat):List DOp:=match Zw8 fn id with
 |some ops=>match Jt P fn.ntmps ops (List.range ops.size) with
  |some l=>match fO P (l.zip ops.toList) with
   |some l=>l
   |none=>[]
  |none=>[]
 |none=>[]
def ZD1(P:Program)(fn:Func)(id:Nat):List DOp:=match Zw8 fn id with
 |some ops=>match dOf P fn.ntmps ops with
  | (l,od,_)=>match fO P (od.map λi=>(l.zip ops.toList).getD i dE) with
   |some l=>l
   |none=>[]
 |none=>[]
def ZDD(fl:List (Nat×List Nat)):List Nat->List DOp->Option (List (DOp×List Nat))
 |i::od,o::l=>match ZDD fl od l,fl.find? λx=>x.1==i with
  |some r,sO (_,t)=>match fNs t with
   |some t=>sO ((o,t)::r)
   |none=>nO
  |some r,nO=>sO ((o,[])::r)
  |none,_=>nO
 |_,_=>sO []
def ZD3(P:Program)(fn:Func)(id:Nat):List (DOp×List Nat):=match Zw8 fn id with
 |some ops=>match dOf P fn.ntmps ops with
  | (l,od,fl,_)=>match fO P (od.map λi=>(l.zip ops.toList).getD i dE) with
   |some l=>match ZDD fl od l with
    |some r=>r
    |none=>[]
   |none=>[]
 |none=>[]
def ZDh(P:Program)(fn:Func)(id:Nat):List Nat:=match Zw8 fn id with
 |some ops=>(dOf P fn.ntmps ops).2.1
 |none=>[]
def skC(P:Program)(fn:Func)(lv:LB):Code->Option DC
 |.skip=>sO .skip
 |.region id ops true=>match fN (LB.get 0 lv id),(dOf P fn.ntmps ops).2.2.1 with
  |some m,[]=>sO (.regD (ZDh P fn id) (ZxH (ZD1 P fn id)) (kpM fn.ntmps m))
  |some m,_::_=>sO (.regD (ZDh P fn id) (ZD3 P fn id) (kpM fn.ntmps m))
  |none,_=>nO
 |.region id _ false=>match fN (LB.get 0 lv id) with
  |some m=>sO (.reg (ZD2 P fn id) (kpM fn.ntmps m))
  |none=>nO
 |.seq a b=>match skC P fn lv a,skC P fn lv b with
  |some x,sO y=>sO (.seq x y)
  |_,_=>nO
 |.cond c a b=>match ZW c,skC P fn lv a,skC P fn lv b with
  |some c,sO x,sO y=>sO (.cond c x y)
  |_,_,_=>nO
 |.block id a=>match skC P fn lv a with
  |some x=>sO (.block id x)
  |none=>nO
 |.loop a=>match skC P fn lv a with
  |some x=>sO (.loop x)
  |none=>nO
 |.exit id=>sO (.exit id)
 |.ret=>sO .ret
 |.scope a=>match skC P fn lv a with
  |some x=>sO (.scope x)
  |none=>nO
 |.label l=>sO (.label l)
 |.goto l=>sO (.goto l)
 |.rangeFunc f ps a b=>match ZW f,skC P fn lv a,skC P fn lv b with
  |some f,sO x,sO y=>sO (.rangeF f ps.toList x y)
  |_,_,_=>nO
 |_=>nO
def skF(P:Program)(fn:Func):DC:=match fn.body with
 |some c=>match skC P fn (lvF P fn c) c with
  |some d=>d
  |none=>.skip
 |none=>.skip
def fR:List RV->Option (List RV)
 | []=>sO []
 |.tmp t::r=>match fR r with
  |some r=>sO (.tmp t::r)
  |none=>nO
 |.cell1 t::r=>match fR r with
  |some r=>sO (.cell1 t::r)
  |none=>nO
 |.cellN t n::r=>match fN n,fR r with
  |some n,sO r=>sO (.cellN t n::r)
  |_,_=>nO
def rsF(P:Program)(fn:Func):List RV:=match ZjK P fn.results.toList with
 |some rs=>match fR rs with
  |some rs=>rs
  |none=>[]
 |none=>[]
def cR{P:Program}(f:FuncId)(fn:Func){rs:List RV}{b:DC}(h1:rsF P fn=rs:=by conv=>lhs;whnf)(h2:skF P fn=b:=by conv=>lhs;whnf)(h:cf P (anF P f) f=sO ⟨fn.ntmps,rsF P fn,skF P fn⟩:=by kernel_rfl):cf P (anF P f) f=sO ⟨fn.ntmps,rs,b⟩:=h1▸h2▸h
def upT:List Nat->List W2->List W2
 |0::r,_::d=>upT r d
 |1::r,.code (.seq a b)::d=>upT r (.code a::.code b::d)
 |2::r,.code (.block i a)::d=>upT r (.code a::.inBlock i::d)
 |_,d=>d
structure Tie{P:Program}(l:List Nat)(X:Fr P->Env->Loc->St->Prop)(A:Prop):Prop
section
variable {P:Program} {F:Fr P} {l:List Nat} {dk:List W2} {H:Env} {L:Loc} {s:St} {ks:Option (List Nat)} {os:List DOp} {ps:List (DOp × List Nat)} {B:List (Nat × Rd)}
def tU:Tie l (λ(F:Fr P)=>Zv F (upT l dk)) (Zv F dk H L s):=⟨⟩
def tO:Tie l (λ(F:Fr P)=>Zv F (upT l dk)) (DO F ks dk os H L s):=⟨⟩
def tO0:Tie l (λ(F:Fr P)=>Zv F (upT l dk)) (Q6 F ks dk os H L s):=⟨⟩
def tOD:Tie l (λ(F:Fr P)=>Zv F (upT l dk)) (DOA F ks dk ps H L s B):=⟨⟩
def jU(l:List Nat)(J:(Fr P->Env->Loc->St->Prop)->Prop){X:Fr P->Env->Loc->St->Prop}{A:Prop}(h1:J X)(h2:J X->A)(_h:Tie l X A:=by first|exact tU|exact tO|exact tO0|exact tOD):A:=h2 h1
def lpU{a}(J:(Fr P->Env->Loc->St->Prop)->Prop)(i:J λ(F:Fr P)=>Zv F (.code a::.inLoop a::dk))(t:(J λ(F:Fr P)=>Zv F (.code a::.inLoop a::dk))->Zv F (.code a::.inLoop a::dk) H L s):Zv F (.code (.loop a)::dk) H L s:=JT (t i)
end
end Go.DL
namespace Go.DL
open Go
variable {kp:Option (List Nat)}{L:Loc}{H:Env}{s:St}{w:World}{os:List DOp}{ds:List D}{B:List (Nat × Rd)}{dst:Option Nat}{tmps:Array Value}{g:G}{Φ:Res->St->Prop}{Z:Nat->Nat}{xs:List Opd}{side:Prop}{row:Nat->List D}
abbrev Str:=List UInt8
structure Yb where
 field:Str
 factor:Int
deriving Inhabited,DecidableEq
structure Zbo where
 base:Int
 terms:List Yb
deriving Inhabited,DecidableEq
structure YB where
 low:Int
 high:Int
 of:Str
deriving Inhabited,DecidableEq
structure Fld where
 name:Str
 kind:Int
 bits:Int
 little:Bool
 loose:Bool
 low:Int
 high:Int
 size:Zbo
 of:Str
 tag:Str
 from_:Str
 cases:List YB
 check:Int
 key:Int
deriving Inhabited,DecidableEq
structure Msg where
 name:Str
 fields:List Fld
deriving Inhabited,DecidableEq
structure Dfn where
 name:Str
 msgs:List Msg
 start:Str
deriving Inhabited,DecidableEq
def slD{α:Type}[Inhabited α](n:Nat)(f:α->List D)(l:List α):D:=.sl .none (I l) n (λi=>f (l.getD i dE))
def eQ1:=@slD.eq_1
def Yb.cells(t:Yb):List D:=[.str t.field,.i t.factor]
def YB.cells(c:YB):List D:=[.i c.low,.i c.high,.str c.of]
def Ye(l:List Yb):D:=slD 2 Yb.cells l
def WE(l:List YB):D:=slD 3 YB.cells l
def Zbo.cells(s:Zbo):List D:=[.i s.base,Ye s.terms]
def eQ4:=@Zbo.cells.eq_1
def Fld.cells(f:Fld):List D:=[.str f.name,.i f.kind,.i f.bits,.bool f.little,.bool f.loose,.i f.low,.i f.high,.i f.size.base,Ye f.size.terms,.str f.of,.str f.tag,.str f.from_,WE f.cases,.i f.check,.i f.key]
def eQ0:=@Fld.cells.eq_1
def Zq(l:List Fld):D:=slD 15 Fld.cells l
def Msg.cells(m:Msg):List D:=[.str m.name,Zq m.fields]
def eQ3:=@Msg.cells.eq_1
def YY(l:List Msg):D:=slD 2 Msg.cells l
def Dfn.cells(d:Dfn):List D:=[.str d.name,YY d.msgs,.str d.start]
def eQ2:=@Dfn.cells.eq_1
def Ww{α}[Inhabited α]{n}{f:α->List D}{l:List α}(h:DWf (slD n f l)):I l<=big/\∀x∈l,∀c∈f x,DWf c:=by
 obtain⟨u,h2,h3⟩:=h.sl_inv;refine⟨u,λx hx c hc=>?_⟩;obtain⟨i,t,rfl⟩:=ZIl hx;exact h3 i t c (by simpa[ZIg,t]using hc)
structure Yb.Wf(t:Yb):Prop where
 field:I t.field<=big
 factor:inR .i64 t.factor
structure YB.Wf(c:YB):Prop where
 low:inR .i64 c.low
 high:inR .i64 c.high
 of:I c.of<=big
structure Zbo.Wf(s:Zbo):Prop where
 base:inR .i64 s.base
 nterms:I s.terms<=big
 terms:∀t∈s.terms,t.Wf
structure Fld.Wf(f:Fld):Prop where
 name:I f.name<=big
 kind:inR .i64 f.kind
 bits:inR .i64 f.bits
 low:inR .i64 f.low
 high:inR .i64 f.high
 size:f.size.Wf
 of:I f.of<=big
 tag:I f.tag<=big
 from_:I f.from_<=big
 ncases:I f.cases<=big
 cases:∀c∈f.cases,c.Wf
 check:inR .i64 f.check
 key:inR .i64 f.key
structure Msg.Wf(m:Msg):Prop where
 name:I m.name<=big
 nfields:I m.fields<=big
 fields:∀f∈m.fields,f.Wf
structure Dfn.Wf(d:Dfn):Prop where
 name:I d.name<=big
 nmsgs:I d.msgs<=big
 msgs:∀m∈d.msgs,m.Wf
 start:I d.start<=big
def Yb.wf_of{t:Yb}(h:∀c∈t.cells,DWf c):t.Wf:=by
 simp only[Yb.cells,ZIF,List.not_mem_nil,or_false,forall_eq_or_imp,forall_eq]at h;exact⟨h.1.str_inv,h.2.int_inv⟩
def YB.wf_of{t:YB}(h:∀c∈t.cells,DWf c):t.Wf:=by
 simp only[YB.cells,ZIF,List.not_mem_nil,or_false,forall_eq_or_imp,forall_eq]at h;exact⟨h.1.int_inv,h.2.1.int_inv,h.2.2.str_inv⟩
def Zus{l}(h:DWf (Ye l)):I l<=big/\∀t∈l,t.Wf:=⟨(Ww h).1,λt i=>Yb.wf_of ((Ww h).2 t i)⟩
def Zs1{l}(h:DWf (WE l)):I l<=big/\∀t∈l,t.Wf:=⟨(Ww h).1,λt i=>YB.wf_of ((Ww h).2 t i)⟩
def Fld.wf_of{f:Fld}(h:∀c∈f.cells,DWf c):f.Wf:=by
 simp only[Fld.cells,ZIF,List.not_mem_nil,or_false,forall_eq_or_imp,forall_eq]at h;obtain⟨h1,h2,h3,h4,h5,h6,h7,h8,h9,t,u,ab,i,ac,ad⟩:=h;exact⟨h1.str_inv,h2.int_inv,h3.int_inv,h6.int_inv,h7.int_inv,⟨h8.int_inv,(Zus h9).1,(Zus h9).2⟩,t.str_inv,u.str_inv,ab.str_inv,(Zs1 i).1,(Zs1 i).2,ac.int_inv,ad.int_inv⟩
def ZjR{l}(h:DWf (Zq l)):I l<=big/\∀t∈l,t.Wf:=⟨(Ww h).1,λt i=>Fld.wf_of ((Ww h).2 t i)⟩
def Msg.wf_of{m:Msg}(h:∀c∈m.cells,DWf c):m.Wf:=by
 simp only[Msg.cells,ZIF,List.not_mem_nil,or_false,forall_eq_or_imp,forall_eq]at h;exact⟨h.1.str_inv,(ZjR h.2).1,(ZjR h.2).2⟩
def ZvO{l}(h:DWf (YY l)):I l<=big/\∀t∈l,t.Wf:=⟨(Ww h).1,λt i=>Msg.wf_of ((Ww h).2 t i)⟩
def Dfn.wf_of{m:Dfn}(h:∀c∈m.cells,DWf c):m.Wf:=by
 simp only[Dfn.cells,ZIF,List.not_mem_nil,or_false,forall_eq_or_imp,forall_eq]at h;exact⟨h.1.str_inv,(ZvO h.2.1).1,(ZvO h.2.1).2,h.2.2.str_inv⟩
def ZCZ{s:Fld}(h:DWf (.agg s.cells)):s.Wf:=Fld.wf_of h.agg_inv
def ZyQ{s:Msg}(h:DWf (.agg s.cells)):s.Wf:=Msg.wf_of h.agg_inv
def ZCX{s:Dfn}(h:DWf (.agg s.cells)):s.Wf:=Dfn.wf_of h.agg_inv
def Zu{α:Type}[Inhabited α]{l:List α}{i}(h:i<I l):l.getD i dE∈l:=by
 simp[ZIg,h]
end Go.DL
