/- Lemmas: DlX, DlY, DlZ, DlZA, DlZB, DlZC, DlZD, DlZE, DlZF, DlZGa, DlZG, DlZH, DlZI, DlZJ, DlZK, DlZL, DlZM, DlZN, DlZO, DlZP, DlZQ, DlZS, DlZT, DlTop, DlZU, DlZV, DlZX, DlZY, DlAc, DlAd, Tab0. -/
import Derived.Test.YtimmfiofbjpjbaaGreatDoorT01
set_option maxHeartbeats 16000000
set_option maxRecDepth 100000
set_option linter.all false
open List renaming length->I
open Option renaming some -> sO, none -> nO
open Inhabited renaming default -> dE
open Decidable renaming decide -> dC
open And renaming intro -> ZHy
open Array renaming getD_eq_getD_getElem? -> ZIh
open Bool renaming and_eq_true -> ZHG, false_eq_true -> ZH5, or_eq_true -> ZHT, true_and -> ZHX
open Go.DL.D.Le renaming refl -> ZHx
open Go.DL.St renaming upd -> ZH7
open List renaming append_assoc -> ZHY, append_nil -> ZH3, getD -> ZHL, getElem?_append_left -> ZHW, getElem?_append_right -> ZIf, getElem?_eq_getElem -> ZH6, getElem?_eq_none -> ZIi, getElem?_take -> ZIb, getElem_of_mem -> ZHR, length_append -> ZHF, length_cons -> ZHN, length_drop -> ZH9, length_map -> ZHS, length_take -> ZHQ, map_cons -> ZHM, map_nil -> ZH2, mem_cons -> ZIa, range -> ZHJ, take_length -> ZH0
open Nat renaming add_mul -> ZHU, le_refl -> ZHK, le_trans -> ZIg, mul_le_mul_right -> ZHP
open Option renaming getD_some -> ZIc, map_eq_some_iff -> ZHI, map_some -> ZH4
open Option.some renaming injEq -> ZHu
open Prod.mk renaming injEq -> ZHH
namespace Go.DL
open Go
variable [Zsc]
variable {kp:Option (List Nat)}{L:Loc}{H:Env}{s:St}{w:World}{os:List DOp}{ds:List D}{B:List (Nat × Rd)}{dst:Option Nat}{tmps:Array Value}{g:G}{Φ:Res->St->Prop}{Z:Nat->Nat}{xs:List Opd}{side:Prop}{row:Nat->List D}
inductive Sch(T:Tab):(Nat->Bool)->List Nat->Prop where
 |nil {l} (h:∀i,i<T.length->l i=true):Sch T l []
 |cons {l i is} (hi:i<T.length) (hl:l i=false) (hd:∀d∈T.deps i,l d=true) (t:Sch T (λj=>j==i ||l j) is):Sch T l (i::is)
def Zz(H H':Env)(ns:List Nat):Prop:=∀t∈ns,ZK H' t=ZK H t
def ZO{H H' c x}(h:Zz H H' (ZQ x)):Zy H' c x=Zy H c x:=by
 cases x with
 |cst d=>rfl
 |tmp t=>simp only[Zy,h t (by simp[ZQ])]
def W3{H H' c}:∀{xs},Zz H H' (Za2 xs)->Z8 H' c xs=Z8 H c xs
 | [],_=>rfl
 |x::xs,h=>by have u:Zz H H' (ZQ x):=λt i=>h t (by simp[Za2];exact .inl i);have h2:Zz H H' (Za2 xs):=λt i=>h t (by simp only[Za2,List.flatMap_cons,List.mem_append];exact .inr i);simp only[Z8,ZO u,W3 h2]
def YY{H H' g}(h:Zz H H' (Zcr g)):Zk H' g=Zk H g:=by
 cases g with
 |none=>rfl
 |some x=>obtain⟨t,w⟩:=x;simp only[Zk,h t (by simp[Zcr])]
def Zmd{H H' c x a b}(h:Zz H H' (ZQ x++ZQ a++ZQ b)):Zdx H' c x a b=Zdx H c x a b:=by
 have u:Zz H H' (ZQ x):=λt i=>h t (by simp[i]);have h2:Zz H H' (ZQ a):=λt i=>h t (by simp[i]);have h3:Zz H H' (ZQ b):=λt i=>h t (by simp[i]);simp only[Zdx,ZO u];split;rw[ZO h2,ZO h3];rfl
def Zre{L L' s e}(h:∀x o,e=.loc x o->Zg L' x=Zg L x):Wm L' s e=Wm L s e:=by
 cases e with
 |d v=>cases v<;>rfl
 |loc l o=>simp only[Wm,h l o rfl]
 |when c e=>rfl
def Zrq{L L' s n e}(h:∀x o,e=.loc x o->Zg L' x=Zg L x):Kh L' s n e=Kh L s n e:=by
 cases e with
 |d v=>cases v<;>rfl
 |loc l o=>simp only[Kh,h l o rfl]
 |when c e=>rfl
def ZtF{L L' s q es}(h:Zcx (.q q [])=true->∀x o,.loc x o∈es->Zg L' x=Zg L x):qv L' s q es=qv L s q es:=by
 by_cases t:Zcx (.q q [])=true
 .replace h:=h t;cases q<;>simp[Zcx]at t
  .match es with
   | [a]=>simp only[qv,Zre (e:=a) λx o i=>h x o (by rw[i];exact List.mem_singleton_self _)]
   | []=>rfl
   |_::_::_=>rfl
  match es with
  | [a]=>simp only[qv,Zrq (e:=a) λx o i=>h x o (by rw[i];exact List.mem_singleton_self _)]
  | []=>rfl
  |_::_::_=>rfl
 clear h;unfold qv;split<;>first|rfl|(exfalso;exact t rfl)|skip
def YB:K->Bool
 |.q _ _|.pick _ _ _|.bsl _ _ _ _ _|.s2b _=>true
 |_=>false
def ZuB{o H H' L L' s s1 side ρ1 L1}(hst:ZC o H L s=.ok side ρ1 L1 s1)(hs:side)(hgt:Zk H o.guard=sO true)(hk:YB o.k=true)(ha:Zz H H' (ZA o))(hl:Zcx o.k=true->∀q xs p es,o.k=.q q xs->Z8 H true xs=sO (p,es)->p->∀x o,.loc x o∈es->Zg L' x=Zg L x):∃e,ρ1=Zv H o.dst e/\L1=L/\s1=s/\ZC o H' L' s=.ok side (Zv H' o.dst e) L' s:=by
 obtain⟨dst,gd,k⟩:=o;have hg:=YY (g:=gd) (λt ht=>ha t (by simp[ZA,ht]));have hn:Zz H H' (Yh k):=λt ht=>ha t (by simp[ZA,ht]);simp only at hgt;unfold ZC at hst⊢;simp only[hg,hgt]at hst⊢;cases k with
 |q q xs =>
  simp only at hst⊢;rw[W3 hn];split at hst<;>(try(simp at hst;done));rename_i p es i;try simp only[i]
  split at hst<;>(try(simp at hst;done));rename_i sd e hq;have hp:p:=by split at hst<;>(simp only[SR.ok.injEq]at hst;obtain⟨rfl,-,-,-⟩:=hst);exact hs.1;exact(hs trivial).1
  have ab:qv L' s q es=qv L s q es:=ZtF λhld=>hl (by cases q<;>simp_all[Zcx]) q xs p es rfl i hp;simp only[ab,hq];split at hst<;>(simp only[SR.ok.injEq]at hst;obtain⟨rfl,rfl,rfl,rfl⟩:=hst);exact⟨e,rfl,rfl,rfl,rfl⟩;exact⟨_,rfl,rfl,rfl,rfl⟩
 |pick x a b =>
  simp only at hst⊢;rw[Zmd hn];split at hst<;>(try(simp at hst;done));rename_i p v hp;try simp only[hp]
  split at hst<;>(simp only[SR.ok.injEq]at hst;obtain⟨rfl,rfl,rfl,rfl⟩:=hst);exact⟨_,rfl,rfl,rfl,rfl⟩;exact⟨_,rfl,rfl,rfl,rfl⟩
 |bsl len n z is xs =>
  simp only at hst⊢;rw[W3 hn];split at hst<;>(try(simp at hst;done));rename_i p es i;try simp only[i]
  split at hst<;>(try(simp at hst;done));rename_i ds u;try simp only[u]
  split at hst<;>(simp only[SR.ok.injEq]at hst;obtain⟨rfl,rfl,rfl,rfl⟩:=hst);exact⟨_,rfl,rfl,rfl,rfl⟩;exact⟨_,rfl,rfl,rfl,rfl⟩
 |s2b x =>
  simp only at hst⊢;rw[ZO hn];split at hst<;>(try(simp at hst;done));rename_i p l hl;try simp only[hl]
  split at hst<;>(simp only[SR.ok.injEq]at hst;obtain⟨rfl,rfl,rfl,rfl⟩:=hst);exact⟨_,rfl,rfl,rfl,rfl⟩;exact⟨_,rfl,rfl,rfl,rfl⟩
 |_=>simp[YB]at hk
def Zmk{o H L s s1 side ρ1 L1}(t:ZC o H L s=.ok side ρ1 L1 s1)(u:Zk H o.guard=sO false)(hk:YB o.k=true):∃e,ρ1=Zv H o.dst (.when false e)/\L1=L/\s1=s:=by
 obtain⟨dst,gd,k⟩:=o;have i:∃x,gd=sO x:=by
  cases gd with
  |none=>simp[Zk]at u
  |some x=>exact⟨x,rfl⟩
 obtain⟨x,rfl⟩:=i;simp only at u;unfold ZC at t;simp only[u]at t;cases k with
 |q q xs =>simp only at t;split at t<;>(try(simp at t;done));split at t<;>(try(simp at t;done));simp only[SR.ok.injEq]at t;obtain⟨rfl,rfl,rfl,rfl⟩:=t;exact⟨_,rfl,rfl,rfl⟩
 |pick x a b =>simp only at t;split at t<;>(try(simp at t;done));simp only[SR.ok.injEq]at t;obtain⟨rfl,rfl,rfl,rfl⟩:=t;exact⟨_,rfl,rfl,rfl⟩
 |bsl len n z is xs =>simp only at t;split at t<;>(try(simp at t;done));split at t<;>(try(simp at t;done));simp only[SR.ok.injEq]at t;obtain⟨rfl,rfl,rfl,rfl⟩:=t;exact⟨_,rfl,rfl,rfl⟩
 |s2b x =>simp only at t;split at t<;>(try(simp at t;done));simp only[SR.ok.injEq]at t;obtain⟨rfl,rfl,rfl,rfl⟩:=t;exact⟨_,rfl,rfl,rfl⟩
 |_=>simp[YB]at hk
def Zid{s s' L L'}:∀{B},KY s s' L L' B->(∀n b,(n,.blk b)∈B->s' b=s b)/\(∀n l,(n,.loc l)∈B->Zg L' l=Zg L l)
 | [],_=>⟨λn b h=>by simp at h,λn b h=>by simp at h⟩
 | (m,.blk c)::B,h=>by obtain⟨i,t⟩:=Zid h.2;refine⟨λn b hb=>?_,λn l hl=>t n l (by simpa using hl)⟩;rcases List.mem_cons.1 hb with hb|hb;simp only[ZHH,Rd.blk.injEq]at hb;rw[hb.2];exact h.1;exact i n b hb
 | (m,.loc c)::B,h=>by obtain⟨i,t⟩:=Zid h.2;refine⟨λn b hb=>i n b (by simpa using hb),λn l hl=>?_⟩;rcases List.mem_cons.1 hl with hl|hl;simp only[ZHH,Rd.loc.injEq]at hl;rw[hl.2];exact h.1;exact t n l hl
def ZgI(s L):∀B,KY s s L L B
 | []=>trivial
 | (_,.blk _)::B=>⟨rfl,ZgI s L B⟩
 | (_,.loc _)::B=>⟨rfl,ZgI s L B⟩
def Zdr{fl s L B}:Wg fl s s L L B:=ZgI s L _
def ZjS:∀(B),YZ [] B=[]
 | []=>rfl
 |_::B=>ZjS B
def J6{s s' L L' B}:Wg [] s s' L L' B:=by
 unfold Wg;rw[ZjS];trivial
def QG{fl x}:∀{B},x∈YZ fl B↔Zan x.1 fl=true/\x∈B
 | []=>by simp[YZ]
 |y::B=>by simp only[YZ];split;rename_i h;simp only[ZIa,QG (B:=B)];constructor;rintro(rfl|⟨i,h2⟩);exact⟨h,.inl rfl⟩;exact⟨i,.inr h2⟩;rintro⟨i,rfl|h2⟩;exact .inl rfl;exact .inr ⟨i,h2⟩;rename_i h;simp only[ZIa,QG (B:=B)];constructor;rintro⟨i,h2⟩;exact⟨i,.inr h2⟩;rintro⟨i,rfl|h2⟩;exact absurd i h;exact⟨i,h2⟩
def ZwA{o H x}:(ZbO o,x)∈Ki o H↔x∈Y5 o H:=by simp[Ki]
def Zj8{o H H'}(h:Zz H H' (ZA o)):Y5 o H'=Y5 o H:=by
 obtain⟨dst,u,k⟩:=o;have hg:=YY (g:=u) (λt i=>h t (by simp[ZA,i]));cases k with
 |q q xs =>
  have hn:Zz H H' (Za2 xs):=λt i=>h t (by simp[ZA,Yh,i]);simp only[Y5,hg];split
  .cases Zk H u with
   |none=>rfl
   |some c=>simp only[W3 hn]
  rfl
 |_=>rfl
def ZAe{L s s' q es}(h:YU (.q q [])=true->∀e r,es=e::r->∀b,.blk b∈KZ e->s' b=s b):qv L s' q es=qv L s q es:=by
 by_cases u:YU (.q q [])=true
 .replace h:=h u
  match es with
  | [] =>
   cases q;case conv c=>cases c<;>first|rfl|simp[YU]at u
   all_goals simp[YU]at u<;>rfl
  |e::r =>
   replace h:=h e r rfl;have hc:∀b o,e=.d (.ptr b o)->Z1 s' b=Z1 s b:=λb o he=>by subst he;simp only[Z1,h b (by simp[KZ])]
   have hm:∀b,e=.d (.map b)->KT s' b=KT s b:=λb he=>by subst he;simp only[KT,h b (by simp[KZ])]
   have t:∀b o n cap z,e=.d (.msl b o n cap z)->Z1 s' b=Z1 s b:=λb o n cap z he=>by subst he;simp only[Z1,h b (by simp[KZ])]
   have i:q=.conv .b2s->qv L s' q (e::r)=qv L s q (e::r):=λhq=>by
    subst hq;cases r with
    |nil =>
     cases e with
     |d v=>cases v<;>first|rfl|(simp only[qv];rw[t _ _ _ _ _ rfl])
     |_=>rfl
    |cons =>
     cases e with
     |d v=>cases v<;>rfl
     |_=>rfl
   cases q;case conv c=>cases c<;>first|(simp[YU]at u;done)|exact i rfl
   all_goals simp[YU]at u
   .cases r with
    |nil =>
     simp only[qv]
     congr 1
     cases e with
     |d v=>cases v<;>first|rfl|(simp only[Wm];rw[hc _ _ rfl])
     |_=>rfl
    |cons=>rfl
   .cases r with
    |nil =>
     simp only[qv]
     congr 1
     cases e with
     |d v=>cases v<;>first|rfl|(simp only[Kh];rw[hc _ _ rfl])
     |_=>rfl
    |cons=>rfl
   .match r with
    | [] =>
     cases e with
     |d v=>cases v<;>rfl
     |_=>rfl
    | [e2] =>
     cases e with
     |d v =>
      cases e2 with
      |d v2=>cases v<;>first|rfl|(simp only[qv];rw[hm _ rfl])
      |_=>cases v<;>rfl
     |_=>cases e2<;>rfl
    |e2::_::_ =>
     cases e with
     |d v=>cases v<;>(cases e2<;>rfl)
     |_=>cases e2<;>rfl
   cases r with
   |nil =>
    cases e with
    |d v=>cases v<;>first|rfl|(simp only[qv];rw[hm _ rfl])
    |_=>rfl
   |cons =>
    cases e with
    |d v=>cases v<;>rfl
    |_=>rfl
 clear h;cases q;case conv c=>cases c<;>first|(simp[YU]at u;done)|(unfold qv;rfl)|(unfold qv;split<;>first|rfl|(rename_i hx;cases hx))
 all_goals first|(simp[YU]at u;done)|(unfold qv;rfl)|(unfold qv;split<;>first|rfl|(rename_i hx;cases hx))
def ZuC{o H L s s' side ρ1}(hst:ZC o H L s=.ok side ρ1 L s)(hk:YB o.k=true)(hgt:Zk H o.guard=sO true)(h:∀b,.blk b∈Y5 o H->s' b=s b):ZC o H L s'=.ok side ρ1 L s':=by
 obtain⟨dst,gd,k⟩:=o;unfold ZC at hst⊢;obtain⟨c,hg,hc⟩:∃c,Zk H gd=sO c/\c=true:=⟨true,hgt,rfl⟩;simp only[hg]at hst⊢;cases k with
 |q q xs =>
  simp only at hst⊢;split at hst<;>(try(simp at hst;done));rename_i p es i;have u:qv L s' q es=qv L s q es:=ZAe λhl e r he b hb=>h b (by
   subst he;have t:YU (.q q xs)=true:=by
    cases q;case conv c=>cases c<;>simp_all[YU]
    all_goals simp_all[YU]
   subst hc;simp only[Y5,t,if_true,hg,i];exact hb)
  simp only[u];split at hst<;>(try(simp at hst;done));split at hst<;>(simp only[SR.ok.injEq]at hst;obtain⟨rfl,rfl,-,-⟩:=hst;rfl)
 |pick x a b =>simp only at hst⊢;split at hst<;>(try(simp at hst;done));split at hst<;>(simp only[SR.ok.injEq]at hst;obtain⟨rfl,rfl,-,-⟩:=hst;rfl)
 |bsl len n z is xs =>simp only at hst⊢;split at hst<;>(try(simp at hst;done));split at hst<;>(try(simp at hst;done));split at hst<;>(simp only[SR.ok.injEq]at hst;obtain⟨rfl,rfl,-,-⟩:=hst;rfl)
 |s2b x =>simp only at hst⊢;split at hst<;>(try(simp at hst;done));split at hst<;>(simp only[SR.ok.injEq]at hst;obtain⟨rfl,rfl,-,-⟩:=hst;rfl)
 |_=>simp[YB]at hk
def ZaD(o:DOp)(x:Nat):Prop:=o.dst=sO x/\∃z,o.k=.alloc z
def Zb6(o:DOp)(H:Env)(e:E):Prop :=
 (Zk H o.guard=sO false/\∃e0,e=.when false e0) \/
 (∃x y bo pl p k k2 a b v,o.guard=nO/\o.k=.q (.bin bo pl) [x,y]/\Z8 H true [x,y]=sO (p,[.d (.int k a),.d (.int k2 b)])/\p/\Zgo bo k k2 a b=sO v/\e=.d (.int k v))
def W2(o:DOp)(H:Env)(L:Loc)(s:St)(B:List (Nat×Rd)):Prop :=
 (YB o.k=true/\Zk H o.guard=sO true/\(∀b∈Y5 o H,(ZbO o,b)∈B)/\∃side e,side/\ZC o H L s=.ok side (Zv H o.dst e) L s/\∀t,o.dst=sO t->ZK H t=sO e) \/
 (YB o.k=true/\∃e,Zb6 o H e/\∀t,o.dst=sO t->ZK H t=sO e) \/
 (∃t z,o=⟨sO t,nO,.alloc z⟩/\ZK H t=sO (.loc t 0)/\Zg L t=sO z)
structure Inv(T:Tab)(ms:List Nat)(A rest:List Nat)(H:Env)(L:Loc)(s:St)(B:List (Nat×Rd))(l:Nat->Bool)(H':Env)(L':Loc):Prop where
 closed:∀i,i<T.length->l i=true->∀d∈T.deps i,l d=true
 restN:∀r∈rest,l r=false
 doneN:∀i,i<T.length->i∉rest->i∉A->l i=true
 alt:∀a∈A,a<T.length
 pair:∀p∈A,∀a∈A,(ms.getD p 0).testBit a=true\/nd (T.op a).dst (ZA (T.op p))=true
 uniq:∀p∈A,∀a∈A,p≠a->ndd (T.op p).dst (T.op a).dst=true
 env:∀t,ZK H' t=ZK H t\/∃a∈A,l a=false/\(T.op a).dst=some t
 loc0:∀a∈A,l a=false->∀x,ZaD (T.op a) x->Zg L' x=none
 loc:∀x,Zg L' x=Zg L x\/∃a∈A,l a=false/\ZaD (T.op a) x
 pend:∀a∈A,l a=false->W2 (T.op a) H L s B
def Zi7(T:Tab)(ms:List Nat):Prop :=
 ∀(l:Nat->Bool),(∀i,i<T.length->l i=true->∀d∈T.deps i,l d=true)->∀i,i<T.length->(∀d∈T.deps i,l d=true)->∀a,(ms.getD i 0).testBit a=true->l a=true
def W2.state{o H L s s' B}(h:W2 o H L s B)(hB:∀b,.blk b∈Y5 o H->s' b=s b):W2 o H L s' B:=by
 rcases h with ⟨u,t,hr,side,e,hs,i,he⟩|h|h;exact .inl ⟨u,t,hr,side,e,hs,ZuC i u t hB,he⟩;exact .inr (.inl h);exact .inr (.inr h)
def W2.more{o H L s B B'}(h:W2 o H L s B)(t:∀b∈Y5 o H,(ZbO o,b)∈B->(ZbO o,b)∈B'):W2 o H L s B':=by
 rcases h with ⟨hk,u,hr,h⟩|h|h;exact .inl ⟨hk,u,λb i=>t b i (hr b i),h⟩;exact .inr (.inl h);exact .inr (.inr h)
def Zul{o H}(h:Zk H o.guard=sO false):Y5 o H=[]:=by
 obtain⟨dst,gd,k⟩:=o;cases k<;>simp only[Y5];simp only at h;simp[h]
def Zme{o H}(h:YU o.k=false):Y5 o H=[]:=by
 obtain⟨dst,gd,k⟩:=o;cases k<;>simp only[Y5];rename_i q xs;simp only at h;simp[h]
def Zb6.congr{o H H' e}(h:Zb6 o H e)(ha:Zz H H' (ZA o)):Zb6 o H' e:=by
 rcases h with ⟨u,i⟩|⟨x,y,bo,pl,p,k,k2,a,b,v,u,i,h3,h4,h5⟩;exact .inl ⟨by rw[YY λt ht=>ha t (by simp[ZA,ht])];exact u,i⟩;have hn:Zz H H' (Za2 [x,y]):=λt ht=>ha t (by simp[ZA,i,Yh,ht]);exact .inr ⟨x,y,bo,pl,p,k,k2,a,b,v,u,i,by rw[W3 hn];exact h3,h4,h5⟩
def Zb6.reads{o H e}(h:Zb6 o H e):Y5 o H=[]:=by
 rcases h with ⟨i,_⟩|⟨x,y,bo,pl,p,k,k2,a,b,v,_,t,_⟩;exact Zul i;exact Zme (by rw[t];rfl)
section
variable {P:Program}
def Zqf{F:Fr P}{kp dk os H L s}(h:∀g Z w tmps,Zu g Z w tmps H L s->DO F kp dk os H L s):DO F kp dk os H L s :=
 λt is k i hk g Z w tmps u m=>h g Z w tmps m t is k i hk g Z w tmps u m
def Zmz{g Z w tmps H L s}(m:Zu g Z w tmps H L s):∀{xs p es},Z8 H true xs=sO (p,es)->p->∀x o,.loc x o∈es->∃cs,Zg L x=sO cs
 | [],p,es,h,_,x,o,hx=>by simp only[Z8,ZHu,ZHH]at h;obtain⟨_,rfl⟩:=h;simp at hx
 |y::ys,p,es,h,hp,x,o,hx=>by
  simp only[Z8]at h;split at h<;>simp only[ZHu,ZHH,reduceCtorEq]at h;rename_i p1 e1 p2 es' i h2;obtain⟨rfl,rfl⟩:=h;rcases List.mem_cons.1 hx with hx|hx
  .subst hx;cases y with
   |cst d=>simp[Zy]at i
   |tmp t =>simp only[Zy]at i;split at i;rename_i c' e' u;simp only[ZHu,ZHH]at i;obtain⟨rfl,rfl⟩:=i;exact((m.env t _ u).1 (by simpa using hp.1)).1;rename_i e' _ u;simp only[ZHu,ZHH]at i;obtain⟨rfl,rfl⟩:=i;exact(m.env t _ u).1;simp at i
  exact Zmz m h2 hp.2 x o hx
def Zb6.run{F:Fr P}{kp dk o os H L s e}(hl:Zb6 o H e)(h:DO F kp dk os (Zv H o.dst e) L s):DO F kp dk (o::os) H L s:=by
 rcases hl with ⟨i,e0,rfl⟩|⟨x,y,bo,pl,p,k,k2,a,b,v,i,t,u,h4,h5,rfl⟩;exact JB i h;exact Zo8 i t u h4 h5 h
def ZuK{F:Fr P}{kp dk o os H H' L L' s side e}(hst:ZC o H L s=.ok side (Zv H o.dst e) L s)(hs:side)(hk:YB o.k=true)(ha:Zz H H' (ZA o))(hl:∀x,Zg L' x=Zg L x\/Zg L' x=nO)(h:DO F kp dk os (Zv H' o.dst e) L' s):DO F kp dk (o::os) H' L' s:=by
 have i:∀e',Zv H o.dst e=Zv H o.dst e'->Zv H' o.dst e=Zv H' o.dst e':=λe' h=>by
  cases hd:o.dst with
  |none=>rfl
  |some t=>simp only[hd,Zv,List.cons.injEq,ZHH,true_and,and_true]at h;rw[h]
 have hg:=YY (g:=o.guard) (λt ht=>ha t (by simp[ZA,ht]));cases hc:Zk H o.guard with
 |none=>unfold ZC at hst;simp[hc]at hst
 |some c =>
  cases c;obtain⟨e',h1,-,-⟩:=Zmk hst hc hk;rw[i _ h1]at h;exact JB (by rw[hg,hc]) h;refine Zqf λg Z w tmps m=>?_;obtain⟨e',h1,-,-,h2⟩:=ZuB (H':=H') (L':=L') hst hs hc hk ha (λhld q xs p es ac ab hp x of hx=>by
   have hn:Zz H H' (Za2 xs):=λt ht=>ha t (by simp[ZA,ac,Yh,ht]);obtain⟨cs,u⟩:=Zmz m (by rw[W3 hn];exact ab) hp x of hx;rcases hl x with h|h;exact h;rw[h]at u;simp at u)
  rw[i _ h1]at h;exact QI h2 hs h
end
def ZbG{a b}(h:ndd a b=true):ndd b a=true:=by
 cases a<;>cases b<;>simp only[ndd,bne_iff_ne,ne_eq]at h⊢;exact λi=>h i.symm
def Zbl{a b}(h:ndd a b=true){t}(ha:a=sO t):b≠sO t:=by
 subst ha;cases b with
 |none=>simp
 |some u=>simp only[ndd,bne_iff_ne]at h;intro i;simp only[ZHu]at i;exact h i.symm
def ZjR{d l}(h:nd d l=true){t}(i:d=sO t):t∉l:=by
 subst i;simpa[nd]using h
def KW{H dst e i}(h:nd dst i=true):Zz H (Zv H dst e) i:=by
 intro t ht;cases dst with
 |none=>rfl
 |some u =>have:¬u=t:=λhu=>ZjR h rfl (hu▸ht);simp[Zv,ZK,this]
def WD(H dst e t):ZK (Zv H dst e) t=if dst=sO t then sO e else ZK H t:=by
 cases dst with
 |none=>simp[Zv]
 |some u=>simp[Zv,ZK]
def ZBK{L s q es r}(i:qv L s q es=sO r)(u:Zcx (.q q [])=true){x o}(t:.loc x o∈es):∃cs,Zg L x=sO cs:=by
 cases q<;>simp[Zcx]at u
 .match es with
  | [a] =>
   simp only[List.mem_singleton]at t;subst t;simp only[qv,Wm]at i;cases h:Zg L x with
   |none=>simp[h]at i
   |some cs=>exact⟨cs,rfl⟩
  | []=>simp at t
  |_::_::_=>simp[qv]at i
 match es with
 | [a] =>
  simp only[List.mem_singleton]at t;subst t;simp only[qv,Kh]at i;cases h:Zg L x with
  |none=>simp[h]at i
  |some cs=>exact⟨cs,rfl⟩
 | []=>simp at t
 |_::_::_=>simp[qv]at i
def ZiF{o H H' L L' s s1 side ρ1 L1}(hst:ZC o H L s=.ok side ρ1 L1 s1)(hk:YB o.k=true)(ha:Zz H H' (ZA o))(hl:L'=L\/Zk H o.guard=sO true/\∀x,.loc x∈Y5 o H->Zg L' x=Zg L x):∃e,ρ1=Zv H o.dst e/\L1=L/\s1=s/\ZC o H' L' s=.ok side (Zv H' o.dst e) L' s:=by
 obtain⟨dst,gd,k⟩:=o;have hg:=YY (g:=gd) (λt ht=>ha t (by simp[ZA,ht]));have hn:Zz H H' (Yh k):=λt ht=>ha t (by simp[ZA,ht]);unfold ZC at hst⊢;simp only[hg]at hst⊢;cases hc:Zk H gd with
 |none=>simp[hc]at hst
 |some c =>
 simp only[hc]at hst⊢;cases k with
 |q q xs =>
  simp only at hst⊢;rw[W3 hn];split at hst<;>(try(simp at hst;done));rename_i p es i;try simp only[i]
  split at hst<;>(try(simp at hst;done));rename_i sd e hq;have af:qv L' s q es=qv L s q es:=ZtF λae x of hx=>by
   rcases hl with rfl|⟨ad,hl⟩;rfl;obtain rfl:c=true:=by simpa[hc]using ad
   refine hl x ?_;have ag:YU (.q q xs)=true:=by cases q<;>simp_all[Zcx,YU]
   have u:es=[.loc x of]:=by
    have ab:∃r,qv L s q es=sO r:=⟨_,hq⟩;cases q<;>simp[Zcx]at ae
    .match es with
     | [a]=>simp only[List.mem_singleton]at hx;rw[hx]
     | []=>simp at hx
     |_::_::_=>simp[qv]at ab
    match es with
    | [a]=>simp only[List.mem_singleton]at hx;rw[hx]
    | []=>simp at hx
    |_::_::_=>simp[qv]at ab
   subst u;simp only[Y5,ag,if_true,hc,i,KZ,List.mem_singleton]
  simp only[af,hq];split at hst<;>(simp only[SR.ok.injEq]at hst;obtain⟨rfl,rfl,rfl,rfl⟩:=hst);exact⟨e,rfl,rfl,rfl,rfl⟩;exact⟨_,rfl,rfl,rfl,rfl⟩
 |pick x a b =>
  simp only at hst⊢;rw[Zmd hn];split at hst<;>(try(simp at hst;done));rename_i p v hp;try simp only[hp]
  split at hst<;>(simp only[SR.ok.injEq]at hst;obtain⟨rfl,rfl,rfl,rfl⟩:=hst);exact⟨_,rfl,rfl,rfl,rfl⟩;exact⟨_,rfl,rfl,rfl,rfl⟩
 |bsl len n z is xs =>
  simp only at hst⊢;rw[W3 hn];split at hst<;>(try(simp at hst;done));rename_i p es i;try simp only[i]
  split at hst<;>(try(simp at hst;done));rename_i ds ac;try simp only[ac]
  split at hst<;>(simp only[SR.ok.injEq]at hst;obtain⟨rfl,rfl,rfl,rfl⟩:=hst);exact⟨_,rfl,rfl,rfl,rfl⟩;exact⟨_,rfl,rfl,rfl,rfl⟩
 |s2b x =>
  simp only at hst⊢;rw[ZO hn];split at hst<;>(try(simp at hst;done));rename_i p l hl;try simp only[hl]
  split at hst<;>(simp only[SR.ok.injEq]at hst;obtain⟨rfl,rfl,rfl,rfl⟩:=hst);exact⟨_,rfl,rfl,rfl,rfl⟩;exact⟨_,rfl,rfl,rfl,rfl⟩
 |_=>simp[YB]at hk
def W2.mono{o H ρ1 L L1 s B}(h:W2 o H L s B)(ha:Zz H ρ1 (ZA o))(hd:∀t,o.dst=sO t->ZK ρ1 t=ZK H t)(hl:∀x,.loc x∈Y5 o H->Zg L1 x=Zg L x)(hal:∀t,ZaD o t->Zg L1 t=Zg L t):W2 o ρ1 L1 s B:=by
 rcases h with ⟨hk,i,u,side,e,hs,ab,he⟩|⟨hk,e,hz,he⟩|⟨t,z,rfl,h1,h2⟩;left;obtain⟨e',h1,-,-,h2⟩:=ZiF ab hk ha (.inr ⟨i,hl⟩);refine⟨hk,by rw[YY λt ht=>ha t (by simp[ZA,ht])];exact i,by rw[Zj8 ha];exact u,side,e',hs,h2,λt ht=>?_⟩;rw[hd t ht,he t ht];rw[ht]at h1;simp only[Zv,List.cons.injEq,ZHH,true_and,and_true]at h1;rw[h1];exact .inr (.inl ⟨hk,e,hz.congr ha,λt ht=>by rw[hd t ht,he t ht]⟩);right;right;exact⟨t,z,rfl,by rw[hd t rfl];exact h1,by rw[hal t ⟨rfl,z,rfl⟩];exact h2⟩
def Zcd{o x}(h:ZaD o x):YB o.k=false:=by
 obtain⟨_,z,i⟩:=h;rw[i];rfl
section
variable {P:Program}
def Zqr{F:Fr P}{kp dk T ms A rest H L l H' L' s B p os}(hm:Zi7 T ms)(inv:Inv T ms A rest H L s B l H' L')(hA:p∈A)(hdis:p∉rest)(hl:l p=false)(hdeps:∀d∈T.deps p,l d=true)(h:∀ρ2 L2,Inv T ms A rest H L s B (λj=>j==p ||l j) ρ2 L2->DO F kp dk os ρ2 L2 s):DO F kp dk (T.op p::os) H' L' s:=by
 have aq:=inv.alt p hA;have aj:=hm l inv.closed p aq hdeps;have am:Zz H H' (ZA (T.op p)):=by intro t ht;rcases inv.env t with h|⟨a,ha,ab,ae⟩;exact h;exfalso;rcases inv.pair p hA a ha with hb|hb;rw[aj a hb]at ab;simp at ab;exact ZjR hb ae ht
 have ao:∀x,Zg L' x=Zg L x\/Zg L' x=nO:=λx=>by rcases inv.loc x with h|⟨a,ha,ab,hx⟩;exact .inl h;exact .inr (inv.loc0 a ha ab x hx)
 have ad:∀i,i<T.length->(i==p ||l i)=true->∀d∈T.deps i,(d==p ||l d)=true:=λi hi hli d hd=>by simp only[ZHT,beq_iff_eq]at hli⊢;rcases hli with rfl|hli;exact .inr (hdeps d hd);exact .inr (inv.closed i hi hli d hd)
 have ag:∀r∈rest,(r==p ||l r)=false:=λr hr=>by simp only[Bool.or_eq_false_iff,beq_eq_false_iff_ne];exact⟨λh=>hdis (h▸hr),inv.restN r hr⟩
 have ah:∀i,i<T.length->i∉rest->i∉A->(i==p ||l i)=true:=λi hi h1 h2=>by simp[inv.doneN i hi h1 h2]
 have ai:∀a,(a==p ||l a)=false->a≠p/\l a=false:=λa ha=>by simpa using ha
 have af:∀a,a≠p->l a=false->(a==p ||l a)=false:=λa ha h=>by simp[ha,h]
 rcases inv.pend p hA hl with ⟨hk,hgt,hrd,side,e,hs,ar,he⟩|⟨hk,e,hz,he⟩|⟨t,z,ho,h1,h2⟩
 rotate_left
 refine(hz.congr am).run ?_;refine h _ _ ?_;refine⟨ad,ag,ah,inv.alt,inv.pair,inv.uniq,λt=>?_,λa ha ab x hx=>inv.loc0 a ha (ai a ab).2 x hx,λx=>?_,λa ha ab=>inv.pend a ha (ai a ab).2⟩;rw[WD];by_cases hd:(T.op p).dst=sO t;rw[if_pos hd];exact .inl (he t hd).symm;rw[if_neg hd];rcases inv.env t with h|⟨a,ha,ab,ae⟩;exact .inl h;exact .inr ⟨a,ha,af a (λac=>hd (ac▸ae)) ab,ae⟩;rcases inv.loc x with h|⟨a,ha,ab,hx⟩;exact .inl h;refine .inr ⟨a,ha,af a (λac=>?_) ab,hx⟩;have:=Zcd hx;rw[ac,hk]at this;simp at this
 rotate_left
 refine ZuK ar hs hk am ao (h _ _ ?_);refine⟨ad,ag,ah,inv.alt,inv.pair,inv.uniq,λt=>?_,λa ha ab x hx=>inv.loc0 a ha (ai a ab).2 x hx,λx=>?_,λa ha ab=>inv.pend a ha (ai a ab).2⟩;rw[WD];by_cases hd:(T.op p).dst=sO t;rw[if_pos hd];exact .inl (he t hd).symm;rw[if_neg hd];rcases inv.env t with h|⟨a,ha,ab,ae⟩;exact .inl h;exact .inr ⟨a,ha,af a (λac=>hd (ac▸ae)) ab,ae⟩;rcases inv.loc x with h|⟨a,ha,ab,hx⟩;exact .inl h;refine .inr ⟨a,ha,af a (λac=>?_) ab,hx⟩;have:=Zcd hx;rw[ac,hk]at this;simp at this;have ap:ZaD (T.op p) t:=⟨by rw[ho],z,by rw[ho]⟩;have al:=inv.loc0 p hA hl t ap;refine Zr0 (o:=T.op p) (t:=t) (by rw[ho]) (by rw[ho]) (z:=z) (by rw[ho]) (by simp[Zam,al]) (h _ _ ?_);have ak:(T.op p).dst=sO t:=by rw[ho]
 refine⟨ad,ag,ah,inv.alt,inv.pair,inv.uniq,λu=>?_,λa ha ab x hx=>?_,λx=>?_,λa ha ab=>inv.pend a ha (ai a ab).2⟩;simp only[ZK];by_cases hd:t=u;subst hd;simp[h1];simp only[hd,if_false];rcases inv.env u with h|⟨a,ha,ab,ae⟩;exact .inl h;exact .inr ⟨a,ha,af a (λac=>hd (by rw[ac,ak]at ae;simpa using ae)) ab,ae⟩;obtain⟨ac,ab⟩:=ai a ab;have:¬t=x:=λau=>Zbl (inv.uniq p hA a ha ac.symm) ak (au▸hx.1);simp only[Zg,this,if_false];exact inv.loc0 a ha ab x hx;simp only[Zg];by_cases hd:t=x;subst hd;simp[h2];simp only[hd,if_false];rcases inv.loc x with h|⟨a,ha,ab,hx⟩;exact .inl h;exact .inr ⟨a,ha,af a (λac=>hd (by have:=hx.1;rw[ac,ak]at this;simpa using this)) ab,hx⟩
def Zwz{F:Fr P}{kp dk T ms A rest H L s B i}(hm:Zi7 T ms)(hi:i<T.length)(hdis:∀p∈A,p∉i::rest)(hready:∀r∈rest,∃d∈T.deps r,d∈i::rest)(cb:∀l H' L' is,Inv T ms A (i::rest) H L s B l H' L'->(∀d∈T.deps i,l d=true)->Sch T (λj=>j==i ||l j) is->DO F kp dk (T.op i::is.map T.op) H' L' s){l is}(sch:Sch T l is):∀{H' L'},Inv T ms A (i::rest) H L s B l H' L'->DO F kp dk (is.map T.op) H' L' s:=by
 induction sch with
 |nil h=>intro H' L' inv;have:=inv.restN i ψ;rw[h i hi]at this;simp at this
 | @cons l p is hp hlp hd t ih =>intro H' L' inv;by_cases ab:p=i;subst ab;exact cb l H' L' is inv hd t;by_cases ac:p∈rest;obtain⟨d,ad,ae⟩:=hready p ac;have:=inv.restN d ae;rw[hd d ad]at this;simp at this;by_cases u:p∈A;exact Zqr hm inv u (hdis p u) hlp hd λρ2 L2 inv2=>ih inv2;have:=inv.doneN p hp (by simp[ab,ac]) u;rw[hlp]at this;simp at this
def Zmm{L L'}(h:∀x,Zg L' x=Zg L x):∀ls,Zav L' ls=Zav L ls
 | []=>rfl
 |l::ls=>by simp only[Zav,h l,Zmm h ls]
def Zl4{H H'}(h:∀x,ZK H' x=ZK H x):∀ks,Yn H' ks=Yn H ks
 | []=>rfl
 |k::ks=>by simp only[Yn,h k,Zl4 h ks]
def Zyl{F:Fr P}{ks dk T ms A H L s B}(hm:Zi7 T ms)(h:Zw F dk (Yn H ks) (ZaZ (Yn H ks) L) s){l is}(sch:Sch T l is):∀{H' L'},Inv T ms A [] H L s B l H' L'->DO F (sO ks) dk (is.map T.op) H' L' s:=by
 induction sch with
 |nil hall =>
  intro H' L' inv;have h1:∀t,ZK H' t=ZK H t:=λt=>by rcases inv.env t with h|⟨a,ha,i,_⟩;exact h;rw[hall a (inv.alt a ha)]at i;simp at i
  have h2:∀t,Zg L' t=Zg L t:=λt=>by rcases inv.loc t with h|⟨a,ha,i,_⟩;exact h;rw[hall a (inv.alt a ha)]at i;simp at i
  refine ZeO ?_;show Zw F dk (Yn H' ks) (ZaZ (Yn H' ks) L') s;rw[Zl4 h1];simp only[ZaZ,Zmm h2];exact h
 | @cons l p is hp hlp hd t ih =>intro H' L' inv;by_cases u:p∈A;exact Zqr hm inv u ψ hlp hd λρ2 L2 inv2=>ih inv2;have:=inv.doneN p hp ψ u;rw[hlp]at this;simp at this
def DOA(F:Fr P)(kp:Option (List Nat))(dk:List WW)(os:List (DOp×List Nat))(H:Env)(L:Loc)(s:St)(B:List (Nat×Rd)):Prop :=
 ∀(T:Tab) ms fl (fk:Option Nat) A rest is l H' L',Zi7 T ms->ZdC T ms fl fk A rest=true->(∀p∈A,p∉rest)->os=rest.map (λi=>(T.mk fk i,fl i))->Inv T ms A rest H L s B l H' L'->Sch T l is->DO F kp dk (is.map T.op) H' L' s
def Zo6{F:Fr P}{ks dk H L s B}(h:Zw F dk (Yn H ks) (ZaZ (Yn H ks) L) s):DOA F (sO ks) dk [] H L s B:=by
 intro T ms fl fk A rest is l H' L' hm hc hdis i inv t;have u:rest=[]:=by cases rest<;>simp at i⊢
 subst u;exact Zyl hm h t inv
def Zml{o H L s s1 side ρ1 L1}(i:ZC o H L s=.ok side ρ1 L1 s1)(hk:YB o.k=true):∃e,ρ1=Zv H o.dst e/\L1=L/\s1=s:=by
 obtain⟨e,t,u,h3,_⟩:=ZiF (H':=H) (L':=L) i hk (λ_ _=>rfl) (.inl rfl);exact⟨e,t,u,h3⟩
def ZuA{o H L s s1 side ρ1 L1 z}(i:ZC o H L s=.ok side ρ1 L1 s1)(hk:o.k=.alloc z):∃t,o=⟨sO t,nO,.alloc z⟩/\side=(Zam L t=false)/\ρ1=(t,.loc t 0)::H/\L1=(t,z)::L/\s1=s:=by
 obtain⟨dst,gd,k⟩:=o;simp only at hk;subst hk;unfold ZC at i;cases u:Zk H gd with
 |none=>simp[u]at i
 |some c =>simp only[u]at i;split at i<;>simp only[SR.ok.injEq,reduceCtorEq]at i;rename_i t;obtain⟨rfl,rfl,rfl,rfl⟩:=i;exact⟨t,rfl,rfl,rfl,rfl,rfl⟩
def ZpD{T:Tab}{t i o}(h:T.mk t i=o)(u:∀k,o.k≠.fork k):t≠sO i/\T.op i=o:=by
 unfold Tab.mk at h;split at h;subst h;exact absurd rfl (u _);exact⟨‹_›,h⟩
def ZmD{T t fl A rest fk i}(hfk:fk≠sO i)(h:ZdC T t fl fk A (i::rest)=true):
  i<T.length/\(∀d∈T.deps i,d∉i::rest)/\i∉rest/\(∀a∈A,(t.getD i 0).testBit a=true\/nd (T.op a).dst (ZA (T.op i))=true) /\
  ((ZcX T A i=true/\ZdC T t fl fk (i::A) rest=true) \/
   (Zjl T (fl i) (A.filter λa=>!(t.getD i 0).testBit a) rest i=true/\ZdC T t fl fk (A.filter λa=>!(t.getD i 0).testBit a) rest=true/\ZcX T A i=false)):=by
 simp only[ZdC,hfk,if_false,ZHG,decide_eq_true_eq,List.all_eq_true,Bool.not_eq_true',List.contains_eq_mem,decide_eq_false_iff_not]at h;obtain⟨⟨⟨⟨h1,h2⟩,h3⟩,h4⟩,u⟩:=h;refine⟨h1,h2,h3,λa ha=>?_,?_⟩;cases hb:(t.getD i 0).testBit a;exact .inr (h4 a (List.mem_filter.2 ⟨ha,by simp only[hb];rfl⟩));exact .inl rfl;split at u;rename_i hp;exact .inl ⟨hp,u⟩;rename_i hp;simp only[ZHG]at u;exact .inr ⟨by simpa using u.1,u.2,by simpa using hp⟩
def Zgu{T fl free rest i}(h:Zjl T fl free rest i=true):
  ZvR (T.op i).k=true/\(∀r∈rest,∃d∈T.deps r,d∈i::rest) /\
  ∀a∈free,nd (T.op i).dst (ZA (T.op a))=true/\ndd (T.op i).dst (T.op a).dst=true/\(Zan (ZbO (T.op a)) fl=false->YU (T.op a).k=false):=by
 simp only[Zjl,ZHG,List.all_eq_true,List.any_eq_true,List.contains_eq_mem,decide_eq_true_eq,Bool.not_eq_true',ZHT]at h;obtain⟨⟨u,h2⟩,h3⟩:=h;refine⟨u,h2,λa ha=>?_⟩;obtain⟨⟨h4,h5⟩,t⟩:=h3 a ha;refine⟨h4,h5,λhs=>?_⟩;rw[hs]at t;simpa using t
def Ze0{T A i}(h:ZcX T A i=true):
  Y3 (T.op i).k=true/\nd (T.op i).dst (ZA (T.op i))=true/\∀a∈A,nd (T.op i).dst (ZA (T.op a))=true/\ndd (T.op i).dst (T.op a).dst=true:=by
 simp only[ZcX,ZHG,List.all_eq_true]at h;exact⟨by cases t:(T.op i).k<;>rw[t]at h<;>simp[pqK]at h<;>rfl,h.1.2,h.2⟩
def Inv.bar{T ms A rest H L s s2 B B2 l H' L' i}(hm:Zi7 T ms)(inv:Inv T ms A (i::rest) H L s B l H' L')(hdis:∀p∈A,p∉i::rest)(hi:i<T.length)(hir:i∉rest)(hd:∀d∈T.deps i,l d=true)(hf:∀a∈A.filter (λa=>!(ms.getD i 0).testBit a),nd (T.op i).dst (ZA (T.op a))=true/\ndd (T.op i).dst (T.op a).dst=true)(e){L2 L2'}(hL:∀x,Zg L' x=Zg L x->Zg L2' x=Zg L2 x)(h0:∀x,(∀a,ndd (T.op i).dst (T.op a).dst=true->ZaD (T.op a) x->Zg L' x=nO->Zg L2' x=nO))(hp:∀a∈A.filter (λa=>!(ms.getD i 0).testBit a),l a=false->W2 (T.op a) H L s B->W2 (T.op a) (Zv H (T.op i).dst e) L2 s2 B2):
  Inv T ms (A.filter λa=>!(ms.getD i 0).testBit a) rest (Zv H (T.op i).dst e) L2 s2 B2 (λj=>j==i ||l j) (Zv H' (T.op i).dst e) L2':=by
 have ad:=hm l inv.closed i hi hd;have ac:∀a∈A,l a=false->a∈A.filter λa=>!(ms.getD i 0).testBit a:=λa ha u=>by refine List.mem_filter.2 ⟨ha,?_⟩;cases hb:(ms.getD i 0).testBit a;rfl;rw[ad a hb]at u;simp at u
 have ab:∀a∈A.filter (λa=>!(ms.getD i 0).testBit a),a∈A:=λa ha=>(List.mem_filter.1 ha).1;have af:∀a,(a==i ||l a)=false->a≠i/\l a=false:=λa ha=>by simpa using ha
 have ae:∀a∈A,l a=false->(a==i ||l a)=false:=λa ha h=>by have:a≠i:=λak=>hdis a ha (by simp[ak]);simp[this,h]
 refine⟨λj hj hlj d ah=>?_,λr hr=>?_,λj hj h1 h2=>?_,λa ha=>inv.alt a (ab a ha),λp ag a ha=>inv.pair p (ab p ag) a (ab a ha),λp ag a ha=>inv.uniq p (ab p ag) a (ab a ha),λt=>?_,λa ha u x hx=>?_,
  λx=>?_,λa ha u=>hp a ha (af a u).2 (inv.pend a (ab a ha) (af a u).2)⟩
 simp only[ZHT,beq_iff_eq]at hlj⊢;rcases hlj with rfl|hlj;exact .inr (hd d ah);exact .inr (inv.closed j hj hlj d ah);simp only[Bool.or_eq_false_iff,beq_eq_false_iff_ne];exact⟨λh=>hir (h▸hr),inv.restN r (by simp[hr])⟩;by_cases aj:j=i;simp[aj];by_cases ai:j∈A;cases hlj:l j;exact absurd (ac j ai hlj) h2;simp;simp[inv.doneN j hj (by simp[aj,h1]) ai];rw[WD,WD];by_cases ht:(T.op i).dst=sO t;simp[ht];simp only[ht,if_false];rcases inv.env t with h|⟨a,ha,u,al⟩;exact .inl h;exact .inr ⟨a,ac a ha u,ae a ha u,al⟩;exact h0 x a (hf a ha).2 hx (inv.loc0 a (ab a ha) (af a u).2 x hx);rcases inv.loc x with h|⟨a,ha,u,hx⟩;exact .inl (hL x h);exact .inr ⟨a,ac a ha u,ae a ha u,hx⟩
def W2.keep{o H L L2 s s2 B fl}(h:W2 o H L s B)(hk:Wg fl s s2 L L2 B)(hf:Zan (ZbO o) fl=false->YU o.k=false)(hal:∀t,ZaD o t->Zg L2 t=Zg L t):W2 o H L2 s2 (YZ fl B):=by
 cases u:Zan (ZbO o) fl;have hr:=Zme (H:=H) (hf u);exact((h.state (s':=s2) (λb hb=>by rw[hr]at hb;simp at hb)).more (λb hb=>by rw[hr]at hb;simp at hb)).mono (λ_ _=>rfl) (λ_ _=>rfl) (λx hx=>by rw[hr]at hx;simp at hx) hal;have hm:=Zid (show KY s s2 L L2 (YZ fl B) from hk);have i:∀b,(ZbO o,b)∈B->(ZbO o,b)∈YZ fl B:=λb hb=>QG.2 ⟨u,hb⟩;rcases h with ⟨hq,hg,hr,h'⟩|⟨hq,hg,h'⟩|h';exact((W2.state (s':=s2) (.inl ⟨hq,hg,hr,h'⟩) (λb hb=>hm.1 _ b (i _ (hr _ hb)))).more (B':=YZ fl B) (λb _ hb=>i b hb)).mono (λ_ _=>rfl) (λ_ _=>rfl) (λx hx=>hm.2 _ x (i _ (hr _ hx))) hal;exact .inr (.inl ⟨hq,hg,h'⟩);exact(W2.more (B':=YZ fl B) (s:=s2) (.inr (.inr h'):W2 o H L s2 B) (λb _ hb=>i b hb)).mono (λ_ _=>rfl) (λ_ _=>rfl) (λx hx=>by
  obtain⟨t,z,rfl,_⟩:=h';simp[Y5]at hx) hal
def ZCT{L s q es r}(t:qv L s q es=sO r){e i}(he:es=e::i)(hr:YU (.q q [])=true){x}(u:.loc x∈KZ e):∃cs,Zg L x=sO cs:=by
 subst he;cases e with
 |d v=>cases v<;>simp[KZ]at u
 |when c e=>simp[KZ]at u
 |loc l o =>
  simp only[KZ,List.mem_singleton,Rd.loc.injEq]at u;subst u;by_cases hl:Zcx (.q q [])=true;exact ZBK t hl (x:=x) (o:=o) ψ;cases q;case conv c =>cases c<;>simp[YU]at hr;cases i<;>simp[qv]at t
  all_goals simp[YU,Zcx]at hr hl
  .cases i with
   |nil=>simp[qv]at t
   |cons e2 r2=>cases r2<;>simp[qv]at t
  cases i<;>simp[qv]at t
def W2.loc{o H L s B}(h:W2 o H L s B){x}(hx:.loc x∈Y5 o H):∃cs,Zg L x=sO cs:=by
 rcases h with ⟨hk,ab,hr,side,e,hs,i,he⟩|⟨hk,_,u,_⟩|⟨t,z,rfl,_⟩
 rotate_left
 rw[u.reads]at hx;simp at hx
 rotate_left
 .obtain⟨dst,gd,k⟩:=o;cases k with
  |q q xs =>
   simp only[Y5]at hx;split at hx<;>(try(simp at hx;done));rename_i hrd;unfold ZC at i;have hg:Zk H gd=sO true:=ab;simp only[hg]at hx i;cases ha:Z8 H true xs with
   |none=>simp[ha]at hx
   |some pe =>
    obtain⟨p,es⟩:=pe;simp only[ha]at hx i;cases es with
    |nil=>simp at hx
    |cons e1 es' =>
     simp only at hx;split at i<;>(try(simp at i;done));rename_i sd e2 hq;exact ZCT hq rfl (by
      cases q;case conv c=>cases c<;>simp_all[YU]
      all_goals simp_all[YU]) hx
  |_=>simp[Y5]at hx
 simp[Y5]at hx
def ZbR{F:Fr P}{kp dk o f os H L s B}(R:E->St->Prop)(hk:Y3 o.k=false)(h1:∀H' L' os',Zz H H' (ZA o)->(∀e s2,R e s2->DO F kp dk os' (Zv H' o.dst e) L' s2)->DO F kp dk (o::os') H' L' s)(h2:∀e s2,R e s2->Wg f s s2 L L B/\DOA F kp dk os (Zv H o.dst e) L s2 (YZ f B)):
  DOA F kp dk ((o,f)::os) H L s B:=by
 intro T ms fl fk A rest is l H' L' hm hc ab af inv ag;cases rest with
 |nil=>simp at af
 |cons i rest =>
  simp only[ZHM,List.cons.injEq,ZHH]at af;obtain⟨⟨ho,rfl⟩,rfl⟩:=af;obtain⟨am,rfl⟩:=ZpD ho.symm (λk h=>by rw[h]at hk;simp[Y3]at hk);obtain⟨hi,hdeps,ao,aq,ak⟩:=ZmD am hc;rcases ak with ⟨hp,_⟩|⟨hb,aj,_⟩;have:=(Ze0 hp).1;rw[hk]at this;simp at this;obtain⟨hbk,ad,u⟩:=Zgu hb;refine Zwz hm hi ab ad (λl H' L' is inv hd ag=>?_) ag inv;have ac:=hm l inv.closed i hi hd;have ai:Zz H H' (ZA (T.op i)):=by intro t ht;rcases inv.env t with h|⟨a,ha,ae,al⟩;exact h;exfalso;rcases aq a ha with hb|hb;rw[ac a hb]at ae;simp at ae;exact ZjR hb al ht
  refine h1 H' L' _ ai λe s2 hR=>?_;obtain⟨ap,ah⟩:=h2 e s2 hR;refine ah T ms fl fk _ rest is _ _ _ hm aj (λp hp au=>ab p (List.mem_filter.1 hp).1 (by simp[au])) rfl (inv.bar hm ab hi ao hd (λa ha=>⟨(u a ha).1,(u a ha).2.1⟩) e (λ_ h=>h) (λ_ _ _ _ h=>h) λa ha ae ar=>?_) ag;refine(ar.keep ap (u a ha).2.2 (λ_ _=>rfl)).mono (KW (u a ha).1) (λt ht=>?_) (λ_ _=>rfl) (λ_ _=>rfl);rw[WD];have:=Zbl (ZbG (u a ha).2.1) ht;simp[this]
end
def ZkI{H L s s1 p q ok side a n xs ρ1 L1}(h:K3 H L s p q ok a n xs=.ok side ρ1 L1 s1):
  ρ1=H/\((∃l off i,a=.loc l off/\L1=(l,Zx i off xs)::L/\s1=s/\Zg L l=sO i/\∀H' L',Zg L' l=Zg L l->K3 H' L' s p q ok a n xs=.ok side H' ((l,Zx i off xs)::L') s) \/
   (L1=L/\∀H' L',K3 H' L' s p q ok a n xs=.ok side H' L' s1)):=by
 obtain⟨rfl,⟨l,off,i,rfl,t,rfl,rfl,rfl⟩|⟨b,off,i,rfl,t,rfl,rfl,rfl⟩⟩:=Zgf h;exact⟨rfl,.inl ⟨l,off,i,rfl,rfl,rfl,t,λH' L' u=>by simp only[K3,u,t]⟩⟩;exact⟨rfl,.inr ⟨rfl,λH' L'=>by simp only[K3,t]⟩⟩
def ZuD{o H L s s1 side ρ1 L1}(hst:ZC o H L s=.ok side ρ1 L1 s1)(hk:ZdU o.k=true):
  ρ1=H/\o.dst=nO/\((∃lx cs new,L1=(lx,new)::L/\s1=s/\Zg L lx=sO cs /\
   ∀H' L',Zz H H' (ZA o)->Zg L' lx=Zg L lx->ZC o H' L' s=.ok side H' ((lx,new)::L') s) \/
   (L1=L/\∀H' L',Zz H H' (ZA o)->ZC o H' L' s=.ok side H' L' s1)):=by
 obtain⟨dst,gd,k⟩:=o;cases hg:Zk H gd with
 |none=>unfold ZC at hst;simp[hg]at hst
 |some c =>
 cases k with
 |store1 a v =>unfold ZC at hst;simp only[hg]at hst;split at hst<;>(try(simp at hst;done));rename_i p ea q x ha hv;obtain⟨rfl,⟨l,off,cs,rfl,rfl,rfl,hL,i⟩|⟨rfl,i⟩⟩:=ZkI hst;refine⟨rfl,rfl,.inl ⟨l,cs,_,rfl,rfl,hL,λH' L' u hl=>?_⟩⟩;have h1:Zz ρ1 H' (ZQ a):=λt ht=>u t (by simp[ZA,Yh,ht]);have h2:Zz ρ1 H' (ZQ v):=λt ht=>u t (by simp[ZA,Yh,ht]);unfold ZC;simp only[Zk,ZO h1,ZO h2,ha,hv];exact i H' L' hl;refine⟨rfl,rfl,.inr ⟨rfl,λH' L' u=>?_⟩⟩;have h1:Zz ρ1 H' (ZQ a):=λt ht=>u t (by simp[ZA,Yh,ht]);have h2:Zz ρ1 H' (ZQ v):=λt ht=>u t (by simp[ZA,Yh,ht]);unfold ZC;simp only[Zk,ZO h1,ZO h2,ha,hv];exact i H' L'
 |storeN n a v =>unfold ZC at hst;simp only[hg]at hst;split at hst<;>(try(simp at hst;done));rename_i p ea q xs ha hv;obtain⟨rfl,⟨l,off,cs,rfl,rfl,rfl,hL,i⟩|⟨rfl,i⟩⟩:=ZkI hst;refine⟨rfl,rfl,.inl ⟨l,cs,_,rfl,rfl,hL,λH' L' u hl=>?_⟩⟩;have h1:Zz ρ1 H' (ZQ a):=λt ht=>u t (by simp[ZA,Yh,ht]);have h2:Zz ρ1 H' (ZQ v):=λt ht=>u t (by simp[ZA,Yh,ht]);unfold ZC;simp only[Zk,ZO h1,ZO h2,ha,hv];exact i H' L' hl;refine⟨rfl,rfl,.inr ⟨rfl,λH' L' u=>?_⟩⟩;have h1:Zz ρ1 H' (ZQ a):=λt ht=>u t (by simp[ZA,Yh,ht]);have h2:Zz ρ1 H' (ZQ v):=λt ht=>u t (by simp[ZA,Yh,ht]);unfold ZC;simp only[Zk,ZO h1,ZO h2,ha,hv];exact i H' L'
 |_=>simp[ZdU]at hk
def Ztg:K->Bool
 |.mapupd _ _ _ _|.delete _ _ _|.entst _ _ _=>true
 |_=>false
def ZyC{o H L s s1 side ρ1 L1}(hst:ZC o H L s=.ok side ρ1 L1 s1)(hk:Ztg o.k=true):
  ρ1=H/\o.dst=nO/\L1=L/\∀H' L',Zz H H' (ZA o)->ZC o H' L' s=.ok side H' L' s1:=by
 obtain⟨dst,gd,k⟩:=o;cases hg:Zk H gd with
 |none=>unfold ZC at hst;simp[hg]at hst
 |some c =>
 cases k with
 |mapupd kp m k v =>unfold ZC at hst;simp only[hg]at hst;split at hst<;>(try(simp at hst;done));rename_i p b q dk r dv hm ac hv;split at hst<;>(try(simp at hst;done));rename_i es ab;split at hst<;>simp only[SR.ok.injEq,reduceCtorEq]at hst;rename_i ad u;obtain⟨rfl,rfl,rfl,rfl⟩:=hst;refine⟨rfl,rfl,rfl,λH' L' i=>?_⟩;have h1:Zz H H' (ZQ m):=λt ht=>i t (by simp[ZA,Yh,ht]);have h2:Zz H H' (ZQ k):=λt ht=>i t (by simp[ZA,Yh,ht]);have h3:Zz H H' (ZQ v):=λt ht=>i t (by simp[ZA,Yh,ht]);unfold ZC;simp only[Zk,ZO h1,ZO h2,ZO h3,hm,ac,hv,ab,u]
 |delete kp m k =>unfold ZC at hst;simp only[hg]at hst;split at hst<;>(try(simp at hst;done));rename_i p b q dk hm ac;split at hst<;>(try(simp at hst;done));rename_i es ab;split at hst<;>simp only[SR.ok.injEq,reduceCtorEq]at hst;rename_i ad u;obtain⟨rfl,rfl,rfl,rfl⟩:=hst;refine⟨rfl,rfl,rfl,λH' L' i=>?_⟩;have h1:Zz H H' (ZQ m):=λt ht=>i t (by simp[ZA,Yh,ht]);have h2:Zz H H' (ZQ k):=λt ht=>i t (by simp[ZA,Yh,ht]);unfold ZC;simp only[Zk,ZO h1,ZO h2,hm,ac,ab,u]
 |entst m k v =>unfold ZC at hst;simp only[hg]at hst;split at hst<;>(try(simp at hst;done));rename_i p b q n r dv hm ac hv;split at hst<;>(try(simp at hst;done));rename_i kp es dk n' ab;split at hst<;>simp only[SR.ok.injEq,reduceCtorEq]at hst;rename_i ad u;obtain⟨rfl,rfl,rfl,rfl⟩:=hst;refine⟨rfl,rfl,rfl,λH' L' i=>?_⟩;have h1:Zz H H' (ZQ m):=λt ht=>i t (by simp[ZA,Yh,ht]);have h2:Zz H H' (ZQ k):=λt ht=>i t (by simp[ZA,Yh,ht]);have h3:Zz H H' (ZQ v):=λt ht=>i t (by simp[ZA,Yh,ht]);unfold ZC;simp only[Zk,ZO h1,ZO h2,ZO h3,hm,ac,hv,ab,u]
 |_=>simp[Ztg]at hk
def ZyA{o H L s side pre ρf sf}(hst:ZC o H L s=.all side pre ρf sf):
  Y3 o.k=false/\∃(t:Nat) (ef:Nat->E),o.dst=sO t/\(ρf=λb=>(t,ef b)::H)/\∀H' L',Zz H H' (ZA o)->ZC o H' L' s=.all side pre (λb=>(t,ef b)::H') sf:=by
 obtain⟨dst,gd,k⟩:=o;cases hg:Zk H gd with
 |none=>unfold ZC at hst;simp[hg]at hst
 |some c =>
 cases k with
 |mkmap =>unfold ZC at hst;simp only[hg]at hst;split at hst<;>simp only[SR.all.injEq,reduceCtorEq]at hst;obtain⟨rfl,rfl,rfl,rfl⟩:=hst;refine⟨rfl,_,λb=>.d (.map b),rfl,rfl,λH' L' i=>?_⟩;unfold ZC;simp only[Zk]
 |mkslice e n by_ z l c =>unfold ZC at hst;simp only[hg]at hst;split at hst<;>simp only[SR.all.injEq,reduceCtorEq]at hst;rename_i t p k1 lv q k2 hv hl hc;obtain⟨rfl,rfl,rfl,rfl⟩:=hst;refine⟨rfl,t,λb=>.d (.msl b 0 lv.toNat hv.toNat n),rfl,rfl,λH' L' i=>?_⟩;have h1:Zz H H' (ZQ l):=λt ht=>i t (by simp[ZA,Yh,ht]);have h2:Zz H H' (ZQ c):=λt ht=>i t (by simp[ZA,Yh,ht]);unfold ZC;simp only[Zk,ZO h1,ZO h2,hl,hc]
 |mapent kp z m k =>unfold ZC at hst;simp only[hg]at hst;split at hst<;>(try(simp at hst;done));rename_i t p b q dk hm ab;split at hst<;>(try(simp at hst;done));rename_i es u;split at hst<;>simp only[SR.all.injEq,reduceCtorEq]at hst;rename_i v hv;obtain⟨rfl,rfl,rfl,rfl⟩:=hst;refine⟨rfl,t,λn=>.d (.tup [v,.stamp n]),rfl,rfl,λH' L' i=>?_⟩;have h1:Zz H H' (ZQ m):=λt ht=>i t (by simp[ZA,Yh,ht]);have h2:Zz H H' (ZQ k):=λt ht=>i t (by simp[ZA,Yh,ht]);unfold ZC;simp only[Zk,ZO h1,ZO h2,hm,ab,u,hv]
 |store1 a v =>unfold ZC at hst;simp only[hg]at hst;split at hst<;>(try(simp at hst;done));exact absurd hst Zez
 |storeN n a v =>unfold ZC at hst;simp only[hg]at hst;split at hst<;>(try(simp at hst;done));exact absurd hst Zez
 |_ =>
  unfold ZC at hst;simp only[hg]at hst;first
   | (simp at hst;done)
   |repeat' (split at hst<;>(try(simp at hst;done)))
def ZwS{o H L s s1 side ρ1 L1}(i:ZC o H L s=.ok side ρ1 L1 s1):YB o.k=true\/(∃z,o.k=.alloc z)\/ZdU o.k=true\/(∃x,o.k=.box x)\/Ztg o.k=true:=by
 obtain⟨dst,u,k⟩:=o;unfold ZC at i;cases t:Zk H u with
 |none=>simp[t]at i
 |some c =>
  simp only[t]at i;cases k with
  |q q xs=>exact .inl rfl
  |pick x a b=>exact .inl rfl
  |bsl len n z is xs=>exact .inl rfl
  |s2b x=>exact .inl rfl
  |alloc z=>exact .inr (.inl ⟨z,rfl⟩)
  |store1 a v=>exact .inr (.inr (.inl rfl))
  |storeN n a v=>exact .inr (.inr (.inl rfl))
  |box x=>exact .inr (.inr (.inr (.inl ⟨x,rfl⟩)))
  |mapupd kp m k v=>exact .inr (.inr (.inr (.inr rfl)))
  |delete kp m k=>exact .inr (.inr (.inr (.inr rfl)))
  |entst m k v=>exact .inr (.inr (.inr (.inr rfl)))
  |mkmap=>simp only at i;split at i<;>simp at i
  |mkslice e n by_ z l c=>simp only at i;split at i<;>simp at i
  |mapent kp z m k =>simp only at i;split at i<;>(try(simp at i;done));split at i<;>(try(simp at i;done));split at i<;>simp at i
  |call f xs=>simp at i
  |append e n by_ z x y=>simp at i
  |panic x=>simp at i
  |defer f xs=>simp at i
  |recover=>simp at i
  |clear n z x=>simp at i
  |copy n x y=>simp at i
  |fork k=>simp at i
section
variable {P:Program}
def ZyE{o H L L' side ρ1 u new g Z w tmps s}(t:ZC o H L s=.ok side ρ1 ((u,new)::L) s)(hk:ZdU o.k=true)(hs:side)(m:Zu g Z w tmps H L' s):∃cs,Zg L' u=sO cs:=by
 have i:∀{p q ok:Prop} {a:Opd} {ea:E} {n:Nat} {xs:List D},Zy H true a=sO (p,ea)->K3 H L s p q ok ea n xs=.ok side ρ1 ((u,new)::L) s->∃cs,Zg L' u=sO cs:=by intro p q ok a ea n xs ha h;obtain⟨rfl,⟨l,off,cs,rfl,hL,rfl,h1,h2⟩|⟨b,off,cs,rfl,hL,rfl,h1,h2⟩⟩:=Zgf h;simp only[List.cons.injEq,ZHH,and_true]at h1;obtain⟨rfl,rfl⟩:=h1;exact Zmz m (xs:=[a]) (p:=p/\True) (es:=[.loc u off]) (by simp[Z8,ha]) ⟨hs.1,trivial⟩ u off ψ;exact absurd (congrArg List.length h1) ψ
 obtain⟨dst,gd,k⟩:=o;cases hg:Zk H gd with
 |none=>unfold ZC at t;simp[hg]at t
 |some c =>
 cases k with
 |store1 a v =>unfold ZC at t;simp only[hg]at t;split at t<;>(try(simp at t;done));rename_i p ea q x ha hv;exact i ha t
 |storeN n a v =>unfold ZC at t;simp only[hg]at t;split at t<;>(try(simp at t;done));rename_i p ea q xs ha hv;exact i ha t
 |_=>simp[ZdU]at hk
def ZyB{o H ρ1 L L1 s s1 side x}(hst:ZC o H L s=.ok side ρ1 L1 s1)(hk:o.k=.box x):
  ∃t p v,o.dst=sO t/\o.guard=nO/\side=(p/\Zam L t=false/\W7 v=true)/\ρ1=(t,.loc t 0)::H/\L1=(t,cellsOf v)::L/\s1=s /\
   ∀H' L',Zz H H' (ZA o)->ZC o H' L' s=.ok (p/\Zam L' t=false/\W7 v=true) ((t,.loc t 0)::H') ((t,cellsOf v)::L') s:=by
 obtain⟨dst,gd,k⟩:=o;simp only at hk;subst hk;unfold ZC at hst;cases hg:Zk H gd with
 |none=>simp[hg]at hst
 |some c =>simp only[hg]at hst;split at hst<;>simp only[SR.ok.injEq,reduceCtorEq]at hst;rename_i t p v hx;obtain⟨rfl,rfl,rfl,rfl⟩:=hst;refine⟨t,p,v,rfl,rfl,rfl,rfl,rfl,rfl,λH' L' i=>?_⟩;have h1:Zz H H' (ZQ x):=λu hu=>i u (by simp[ZA,Yh,hu]);unfold ZC;simp only[Zk,ZO h1,hx]
def ZkH{o H ρ1 L L1 s s1 side}(i:ZC o H L s=.ok side ρ1 L1 s1):∀k,o.k≠.fork k:=λk t=>by
 obtain⟨dst,u,k'⟩:=o;simp only at t;subst t;unfold ZC at i;cases hg:Zk H u<;>simp[hg]at i
def Jn{F:Fr P}{kp dk o f os H ρ1 L L1 s s1 B side}(hst:ZC o H L s=.ok side ρ1 L1 s1)(hs:side)(h:if Y3 o.k then DOA F kp dk os ρ1 L1 s1 (Ki o H++B) else Wg f s s1 L L1 B/\DOA F kp dk os ρ1 L1 s1 (Ki o H++YZ f B)):DOA F kp dk ((o,f)::os) H L s B:=by
 intro T ms fl fk A rest is l H' L' hm hc af bh inv am;cases rest with
 |nil=>simp at bh
 |cons i rest =>
  simp only[ZHM,List.cons.injEq,ZHH]at bh;obtain⟨⟨ho,rfl⟩,rfl⟩:=bh;obtain⟨b0,rfl⟩:=ZpD ho.symm (ZkH hst);obtain⟨hi,hdeps,ar,bq,a0⟩:=ZmD b0 hc;have bp:=inv.restN i ψ;rcases a0 with ⟨hp,ao⟩|⟨hb,ao,hnp⟩
  .obtain⟨ca,a7,ap⟩:=Ze0 hp;rw[ca]at h;simp only[if_true]at h;have hiA:i∉A:=λhA=>af i hA ψ;have bx:∀(av:∀t,(T.op i).dst=sO t\/ZK ρ1 t=ZK H t) (bc:∀a∈A,Zz H ρ1 (ZA (T.op a))) (hL:∀x,Zg L1 x=Zg L x\/(ZaD (T.op i) x/\Zg L x=nO)) (bk:∀x,ZaD (T.op i) x->Zg L x=nO)
     (az:W2 (T.op i) ρ1 L1 s (Ki (T.op i) H++B)) (bb:s1=s),DO F kp dk (is.map T.op) H' L' s:=by
    intro av bc hL bk az bb;subst bb;refine h T ms fl fk (i::A) rest is l H' L' hm ao (λp hp a9=>?_) rfl ⟨inv.closed,λr hr=>inv.restN r (by simp[hr]),λj hj h1 h2=>?_,λa ha=>?_,λp hp a ha=>?_,λp hp a ha br=>?_,λt=>?_,λa ha ad x hx=>?_,λx=>?_,λa ha ad=>?_⟩ am;rcases List.mem_cons.1 hp with rfl|hp;exact ar a9;exact af p hp (by simp[a9]);simp only[ZIa,not_or]at h2;exact inv.doneN j hj (by simp[h2.1,h1]) h2.2;rcases List.mem_cons.1 ha with rfl|ha;exact hi;exact inv.alt a ha;rcases List.mem_cons.1 hp with rfl|hpA<;>rcases List.mem_cons.1 ha with rfl|haA;exact .inr a7;exact bq a haA;exact .inr (ap p hpA).1;exact inv.pair p hpA a haA;rcases List.mem_cons.1 hp with rfl|hpA<;>rcases List.mem_cons.1 ha with rfl|haA;exact absurd rfl br;exact(ap a haA).2;exact ZbG (ap p hpA).2;exact inv.uniq p hpA a haA br;rcases av t with hd|hg;exact .inr ⟨i,ψ,bp,hd⟩;rw[hg];rcases inv.env t with h|⟨a,ha,ad,be⟩;exact .inl h;exact .inr ⟨a,by simp[ha],ad,be⟩;rcases List.mem_cons.1 ha with rfl|ha;have:=bk x hx;rcases inv.loc x with h|⟨b,hb,bf,bj⟩;rw[h];exact this;exact inv.loc0 b hb bf x bj;exact inv.loc0 a ha ad x hx;rcases hL x with hx|⟨hx,_⟩;rw[hx];rcases inv.loc x with h|⟨b,hb,bf,bj⟩;exact .inl h;exact .inr ⟨b,by simp[hb],bf,bj⟩;exact .inr ⟨i,ψ,bp,hx⟩;rcases List.mem_cons.1 ha with rfl|ha;exact az;refine((inv.pend a ha ad).more (B':=Ki (T.op i) H++B) (λb _ hb=>List.mem_append_right _ hb)).mono (bc a ha) (λt ht=>?_) (λx hx=>?_) (λt ai=>?_);rcases av t with hd|hg;exact absurd ht (Zbl (ap a ha).2 hd);exact hg;obtain⟨cs,a0⟩:=(inv.pend a ha ad).loc hx;rcases hL x with h|⟨_,h⟩;exact h;rw[h]at a0;simp at a0;rcases hL t with h|⟨h,_⟩;exact h;exact absurd ai.1 (Zbl (ap a ha).2 h.1)
   by_cases hq:YB (T.op i).k=true
   .obtain⟨e,rfl,rfl,rfl⟩:=Zml hst hq;have bo:=YY (g:=(T.op i).guard) (H:=H) (H':=Zv H (T.op i).dst e) (λt ht=>KW a7 t (by simp[ZA,ht]));refine bx (λt=>?_) (λa ha=>KW (ap a ha).1) (λx=>.inl rfl) (λx hx=>by have:=Zcd hx;rw[hq]at this;simp at this) ?_ rfl;rw[WD];by_cases ht:(T.op i).dst=sO t;exact .inl ht;exact .inr (by simp[ht]);cases a4:Zk H (T.op i).guard with
    |none=>unfold ZC at hst;simp[a4]at hst
    |some c =>
    cases c;obtain⟨e',h1,-,-⟩:=Zmk hst a4 hq;refine .inr (.inl ⟨hq,_,.inl ⟨by rw[bo,a4],e',rfl⟩,λt ht=>?_⟩);rw[h1,WD,if_pos ht];obtain⟨e',h1,-,-,h2⟩:=ZiF (H':=Zv H (T.op i).dst e) (L':=L1) hst hq (KW a7) (.inl rfl);refine .inl ⟨hq,by rw[bo,a4],by rw[Zj8 (KW a7)];exact λb hb=>List.mem_append_left _ (ZwA.2 hb),side,e',hs,h2,λt ht=>?_⟩;rw[h1,WD,if_pos ht]
   obtain⟨z,hz⟩:∃z,(T.op i).k=.alloc z:=by cases hk:(T.op i).k<;>first|exact absurd hk (ZkH hst _)|simp_all[Y3,YB]
   obtain⟨t,ho,rfl,rfl,rfl,rfl⟩:=ZuA hst hz;have aj:Zg L t=nO:=by cases hg:Zg L t<;>simp[Zam,hg]at hs⊢
   have al:(T.op i).dst=sO t:=by rw[ho]
   refine bx (λu=>?_) (λa ha=>?_) (λx=>?_) (λx hx=>?_) (.inr (.inr ⟨t,z,ho,by simp[ZK],by simp[Zg]⟩)) rfl;by_cases bu:t=u;exact .inl (by rw[al,bu]);exact .inr (by simp[ZK,bu]);have:=KW (H:=H) (e:=.loc t 0) (ap a ha).1;rw[al]at this;exact this;by_cases bv:t=x;subst bv;exact .inr ⟨⟨al,z,hz⟩,aj⟩;exact .inl (by simp[Zg,bv]);have:=hx.1;rw[al]at this;simp only[ZHu]at this;subst this;exact aj
  obtain⟨bl,ba,ab⟩:=Zgu hb;have a5:Wg (fl i) s s1 L L1 B\/Y3 (T.op i).k=true:=by cases a8:Y3 (T.op i).k;rw[a8]at h;exact .inl h.1;exact .inr rfl
  have hD:∃B2,(B2=Ki (T.op i) H++B/\Y3 (T.op i).k=true\/B2=Ki (T.op i) H++YZ (fl i) B/\Y3 (T.op i).k=false)/\DOA F kp dk (rest.map λi=>(T.mk fk i,fl i)) ρ1 L1 s1 B2:=by cases a8:Y3 (T.op i).k;rw[a8]at h;exact⟨_,.inr ⟨rfl,rfl⟩,h.2⟩;rw[a8]at h;exact⟨_,.inl ⟨rfl,rfl⟩,h⟩
  clear h;obtain⟨B2,bz,h⟩:=hD;have ah:∀b∈YZ (fl i) B,b∈B2:=λb hb=>by rcases bz with ⟨rfl,_⟩|⟨rfl,_⟩;exact List.mem_append_right _ (QG.1 hb).2;exact List.mem_append_right _ hb
  refine Zwz hm hi af ba (λl H' L' is inv hd am=>?_) am inv;have au:=hm l inv.closed i hi hd;have aq:Zz H H' (ZA (T.op i)):=by intro t ht;rcases inv.env t with h|⟨a,ha,ad,be⟩;exact h;exfalso;rcases bq a ha with hb|hb;rw[au a hb]at ad;simp at ad;exact ZjR hb be ht
  have ay:∀x,Zg L' x=Zg L x\/Zg L' x=nO:=λx=>by rcases inv.loc x with h|⟨a,ha,ad,hx⟩;exact .inl h;exact .inr (inv.loc0 a ha ad x hx)
  have ag:∀p∈A.filter (λa=>!(ms.getD i 0).testBit a),p∉rest:=λp hp a9=>af p (List.mem_filter.1 hp).1 (by simp[a9]);rcases ZwS hst with hq|⟨z,hz⟩|hq|⟨x,hx⟩|hq;obtain⟨e,rfl,rfl,rfl⟩:=Zml hst hq;refine ZuK hst hs hq aq ay ?_;refine h T ms fl fk _ rest is _ _ _ hm ao ag rfl (inv.bar hm af hi ar hd (λa ha=>⟨(ab a ha).1,(ab a ha).2.1⟩) e (λ_ h=>h) (λ_ _ _ _ h=>h) λa ha ad ak=>?_) am;refine((ak.keep (fl:=fl i) Zdr (ab a ha).2.2 (λ_ _=>rfl)).more (λb _ hb=>ah _ hb)).mono (KW (ab a ha).1) (λt ht=>?_) (λ_ _=>rfl) (λ_ _=>rfl);rw[WD];have:=Zbl (ZbG (ab a ha).2.1) ht;simp[this];rw[hz]at bl;simp[ZvR]at bl;obtain⟨rfl,a3,⟨lx,cs,new,rfl,rfl,bg,ac⟩|⟨rfl,ac⟩⟩:=ZuD hst hq;refine Zqf λg Z w tmps m=>?_;have bt:ZC (T.op i) H' ((lx,cs)::L') s1=.ok side H' ((lx,new)::(lx,cs)::L') s1:=ac H' _ aq (by simp[Zg,bg]);have bi:Zg L' lx=Zg L lx:=by obtain⟨c2,bn⟩:∃cs,Zg L' lx=sO cs:=ZyE (L:=(lx,cs)::L') bt hq hs m;rcases ay lx with h|h;exact h;rw[h]at bn;simp at bn
  refine QI (ac H' L' aq bi) hs ?_;have ae:∀r:Env,Zv r (T.op i).dst (.d .undef)=r:=λr=>by rw[a3];rfl
  have hb:=inv.bar (s2:=s1) (B2:=B2) hm af hi ar hd (λa ha=>⟨(ab a ha).1,(ab a ha).2.1⟩) (.d .undef) (L2:=(lx,new)::L) (L2':=(lx,new)::L') (λx hx=>by simp only[Zg,hx]) (λx _ _ _ hx=>by
   by_cases bw:lx=x;subst bw;rw[bi,bg]at hx;simp at hx;simp only[Zg,bw,if_false];exact hx) (λa ha ad ak=>?_)
  rw[ae,ae]at hb;exact h T ms fl fk _ rest is _ _ _ hm ao ag rfl hb am;rw[ae];have aw:Wg (fl i) s1 s1 L ((lx,new)::L) B:=by rcases a5 with h|h;exact h;cases ax:(T.op i).k<;>rw[ax]at hq h<;>simp[ZdU,Y3]at hq h
  refine(ak.keep aw (ab a ha).2.2 (λt ai=>?_)).more (λb _ hb=>ah _ hb);have hn:=inv.loc0 a (List.mem_filter.1 ha).1 ad t ai;have:¬lx=t:=λh=>by subst h;rw[bi,bg]at hn;simp at hn
  simp[Zg,this];refine QI (ac H' L' aq) hs ?_;have ae:∀r:Env,Zv r (T.op i).dst (.d .undef)=r:=λr=>by rw[a3];rfl
  have hb:=inv.bar (s2:=s1) (B2:=B2) hm af hi ar hd (λa ha=>⟨(ab a ha).1,(ab a ha).2.1⟩) (.d .undef) (L2:=L1) (L2':=L') (λx hx=>hx) (λ_ _ _ _ hx=>hx) (λa ha ad ak=>by
   rw[ae];exact(ak.keep (a5.resolve_right (by cases ax:(T.op i).k<;>rw[ax]at hq<;>simp[ZdU,Ztg]at hq<;>simp[Y3])) (ab a ha).2.2 (λ_ _=>rfl)).more (λb _ hb=>ah _ hb))
  rw[ae,ae]at hb;exact h T ms fl fk _ rest is _ _ _ hm ao ag rfl hb am;obtain⟨t,p,v,al,hgn,rfl,rfl,rfl,rfl,ac⟩:=ZyB hst hx;obtain⟨bb,cb,ce⟩:=hs;have aj:Zg L t=nO:=by cases hg:Zg L t<;>simp[Zam,hg]at cb⊢
  have a6:Zg L' t=nO:=by rcases ay t with h|h;rw[h];exact aj;exact h
  refine QI (ac H' L' aq) ⟨bb,by simp[Zam,a6],ce⟩ ?_;have hb:=inv.bar (s2:=s1) (B2:=B2) hm af hi ar hd (λa ha=>⟨(ab a ha).1,(ab a ha).2.1⟩) (.loc t 0) (L2:=(t,cellsOf v)::L) (L2':=(t,cellsOf v)::L') (λx hx=>by simp only[Zg,hx]) (λx a b1 ai hx=>by
    have:¬t=x:=λh=>by subst h;exact Zbl b1 al ai.1
    simp only[Zg,this,if_false];exact hx) (λa ha ad ak=>?_)
  rw[al]at hb;exact h T ms fl fk _ rest is _ _ _ hm ao ag rfl hb am;have aw:Wg (fl i) s1 s1 L ((t,cellsOf v)::L) B:=a5.resolve_right (by rw[hx];simp[Y3]);have b2:∀u,ZaD (T.op a) u->¬t=u:=λu ai h=>by subst h;exact Zbl (ab a ha).2.1 al ai.1
  refine((ak.keep aw (ab a ha).2.2 (λu ai=>by simp[Zg,b2 u ai])).more (λb _ hb=>ah _ hb)).mono (KW (ab a ha).1) (λu hu=>?_) (λ_ _=>rfl) (λ_ _=>rfl);rw[WD];have:=Zbl (ZbG (ab a ha).2.1) hu;simp[this];obtain⟨rfl,a3,rfl,ac⟩:=ZyC hst hq;refine QI (ac H' L' aq) hs ?_;have ae:∀r:Env,Zv r (T.op i).dst (.d .undef)=r:=λr=>by rw[a3];rfl
  have hb:=inv.bar (s2:=s1) (B2:=B2) hm af hi ar hd (λa ha=>⟨(ab a ha).1,(ab a ha).2.1⟩) (.d .undef) (L2:=L1) (L2':=L') (λx hx=>hx) (λ_ _ _ _ hx=>hx) (λa ha ad ak=>by
   rw[ae];exact(ak.keep (a5.resolve_right (by cases ax:(T.op i).k<;>rw[ax]at hq<;>simp[ZdU,Ztg]at hq<;>simp[Y3])) (ab a ha).2.2 (λ_ _=>rfl)).more (λb _ hb=>ah _ hb))
  rw[ae,ae]at hb;exact h T ms fl fk _ rest is _ _ _ hm ao ag rfl hb am
def ZrZ{F:Fr P}{kp dk o f os H L s B e}(hz:Zb6 o H e)(hk:YB o.k=true)(h:DOA F kp dk os (Zv H o.dst e) L s B):DOA F kp dk ((o,f)::os) H L s B:=by
 intro T ms fl fk A rest is l H' L' hm hc ac al inv ah;cases rest with
 |nil=>simp at al
 |cons i rest =>
  simp only[ZHM,List.cons.injEq,ZHH]at al;obtain⟨⟨ho,rfl⟩,rfl⟩:=al;obtain⟨aw,rfl⟩:=ZpD ho.symm (λk h=>by rw[h]at hk;simp[YB]at hk);obtain⟨hi,hdeps,am,ap,av⟩:=ZmD aw hc;have az:=inv.restN i ψ;have ao:∀x,¬ZaD (T.op i) x:=λx hx=>by have:=Zcd hx;rw[hk]at this;simp at this
  rcases av with ⟨hp,ai⟩|⟨hb,ai,hnp⟩;obtain⟨hp1,aq,ae⟩:=Ze0 hp;have ax:=hz.congr (H':=Zv H (T.op i).dst e) (KW aq);refine h T ms fl fk (i::A) rest is l H' L' hm ai (λp hp af=>?_) rfl ⟨inv.closed,λr hr=>inv.restN r (by simp[hr]),λj hj h1 h2=>?_,λa ha=>?_,λp hp a ha=>?_,λp hp a ha ar=>?_,λt=>?_,λa ha ab x hx=>?_,λx=>?_,λa ha ab=>?_⟩ ah;rcases List.mem_cons.1 hp with rfl|hp;exact am af;exact ac p hp (by simp[af]);simp only[ZIa,not_or]at h2;exact inv.doneN j hj (by simp[h2.1,h1]) h2.2;rcases List.mem_cons.1 ha with rfl|ha;exact hi;exact inv.alt a ha;rcases List.mem_cons.1 hp with rfl|hpA<;>rcases List.mem_cons.1 ha with rfl|haA;exact .inr aq;exact ap a haA;exact .inr (ae p hpA).1;exact inv.pair p hpA a haA;rcases List.mem_cons.1 hp with rfl|hpA<;>rcases List.mem_cons.1 ha with rfl|haA;exact absurd rfl ar;exact(ae a haA).2;exact ZbG (ae p hpA).2;exact inv.uniq p hpA a haA ar;rw[WD];by_cases ht:(T.op i).dst=sO t;exact .inr ⟨i,ψ,az,ht⟩;rw[if_neg ht];rcases inv.env t with h|⟨a,ha,ab,aj⟩;exact .inl h;exact .inr ⟨a,by simp[ha],ab,aj⟩;rcases List.mem_cons.1 ha with rfl|ha;exact absurd hx (ao x);exact inv.loc0 a ha ab x hx;rcases inv.loc x with h|⟨b,hb,ay,a3⟩;exact .inl h;exact .inr ⟨b,by simp[hb],ay,a3⟩;rcases List.mem_cons.1 ha with rfl|ha;exact .inr (.inl ⟨hk,e,ax,λt ht=>by rw[WD,if_pos ht]⟩);refine(inv.pend a ha ab).mono (KW (ae a ha).1) (λt ht=>?_) (λ_ _=>rfl) (λ_ _=>rfl);rw[WD,if_neg (Zbl (ZbG (ae a ha).2) ht)];obtain⟨hbk,ag,u⟩:=Zgu hb;refine Zwz hm hi ac ag (λl H' L' is inv hd ah=>?_) ah inv;have ad:=hm l inv.closed i hi hd;have au:Zz H H' (ZA (T.op i)):=by intro t ht;rcases inv.env t with h|⟨a,ha,ab,aj⟩;exact h;exfalso;rcases ap a ha with hb|hb;rw[ad a hb]at ab;simp at ab;exact ZjR hb aj ht
  have ak:∀p∈A.filter (λa=>!(ms.getD i 0).testBit a),p∉rest:=λp hp af=>ac p (List.mem_filter.1 hp).1 (by simp[af]);refine(hz.congr au).run ?_;refine h T ms fl fk _ rest is _ _ _ hm ai ak rfl (inv.bar hm ac hi am hd (λa ha=>⟨(u a ha).1,(u a ha).2.1⟩) e (λ_ h=>h) (λ_ _ _ _ h=>h) λa ha ab a0=>?_) ah;refine a0.mono (KW (u a ha).1) (λt ht=>?_) (λ_ _=>rfl) (λ_ _=>rfl);rw[WD];have:=Zbl (ZbG (u a ha).2.1) ht;simp[this]
def Zw5{F:Fr P}{kp dk o f os H L s B}(i:Zk H o.guard=sO false)(t:YB o.k=true)(e)(h:DOA F kp dk os (Zv H o.dst (.when false e)) L s B):DOA F kp dk ((o,f)::os) H L s B:=ZrZ (.inl ⟨i,e,rfl⟩) t h
def ZyV{F:Fr P}{kp dk o f os H L s B}(hg:o.guard=nO){x y i pl}(u:o.k=.q (.bin i pl) [x,y]){p k t a b v}(ha:Z8 H true [x,y]=sO (p,[.d (.int k a),.d (.int t b)]))(hp:p)(hv:Zgo i k t a b=sO v)(h:DOA F kp dk os (Zv H o.dst (.d (.int k v))) L s B):DOA F kp dk ((o,f)::os) H L s B :=
 ZrZ (.inr ⟨x,y,i,pl,p,k,t,a,b,v,hg,u,ha,hp,hv,rfl⟩) (by rw[u];rfl) h
def Zo5{F:Fr P}{kp}{dk}{o}{f}{os}{H}{L}{s}{B}{side}{pre}{ρf}{sf}(hst:ZC o H L s=.all side pre ρf sf)(hs:side)(h:∀b,pre b->Wg f s (sf b) L L B/\DOA F kp dk os (ρf b) L (sf b) (YZ f B)):DOA F kp dk ((o,f)::os) H L s B:=by
 obtain⟨hp,t,ef,ab,rfl,i⟩:=ZyA hst;refine ZbR (λe s2=>∃b,pre b/\e=ef b/\s2=sf b) hp (λH' L' os' ac u=>?_) (λe s2 ⟨b,hb,he,h2⟩=>?_);refine Znk (i H' L' ac) hs λb hb=>?_;have:=u (ef b) (sf b) ⟨b,hb,rfl,rfl⟩;rw[ab]at this;exact this;subst he;subst h2;have:=h b hb;rw[ab];exact this
def ZkT{F:Fr P}{ks dk}:∀{os H L s B},
  ZhY (λH L s=>Zw F dk (Yn H ks) (ZaZ (Yn H ks) L) s) (λos H L s B=>DOA F (sO ks) dk os H L s B) os H L s B->DOA F (sO ks) dk os H L s B
 | [],H,L,s,B,h=>Zo6 h
 | (o,f)::os,H,L,s,B,h=>by simp only[ZhY]at h;split at h;rename_i sd H' L' s' i;by_cases t:Y3 o.k=true;rw[if_pos t]at h;exact Jn i h.1 (by rw[if_pos t];exact ZkT h.2);rw[if_neg t]at h;exact Jn i h.1 (by rw[if_neg t];exact⟨h.2.1,ZkT h.2.2⟩);rename_i sd pre H' s' i;exact Zo5 i h.1 λb u=>⟨(h.2 b u).1,ZkT (h.2 b u).2⟩;exact h
end
def Zhy{bs}:∀{ds a},(Zcy bs ds).testBit a=true->∃d∈ds,a=d\/(bs.getD d 0).testBit a=true
 | [],a,h=>by simp[Zcy]at h
 |d::ds,a,h=>by simp only[Zcy,Nat.testBit_or,ZHT]at h;rcases h with (h|h)|h;exact⟨d,ψ,.inr h⟩;refine⟨d,ψ,.inl ?_⟩;rw[Nat.one_shiftLeft,Nat.testBit_two_pow]at h;exact(of_decide_eq_true h).symm;obtain⟨i,t,u⟩:=Zhy h;exact⟨i,by simp[t],u⟩
def Zti(l:Nat->Bool)(all)(hcl:∀i,i<I all->l i=true->∀d∈all.getD i [],l d=true) :
  ∀(r acc pre),all=pre++r->I acc=I pre ->
   (∀i,i<I acc->(∀d∈all.getD i [],l d=true)->∀a,(acc.getD i 0).testBit a=true->l a=true) ->
   ∀i,i<I all->(∀d∈all.getD i [],l d=true)->∀a,((Zf3 r acc).getD i 0).testBit a=true->l a=true
 | [],acc,pre,hall,hlen,hacc=>by intro i hi;simp only[Zf3];exact hacc i (by rw[hlen];simp only[hall,ZH3]at hi;exact hi)
 |d::r,acc,pre,hall,hlen,hacc=>by
  simp only[Zf3];refine Zti l all hcl r (acc++[Zcy acc d]) (pre++[d]) (by simp[hall]) (by simp[hlen]) λi hi hd a ha=>?_;simp only[ZHF,ZHN,List.length_nil]at hi;by_cases t:i<I acc;have e:(acc++[Zcy acc d]).getD i 0=acc.getD i 0:=by simp[ZHL,List.getElem?_append,t]
  rw[e]at ha;exact hacc i t hd a ha;have ab:i=I acc:=ω;subst ab;have e:(acc++[Zcy acc d]).getD (I acc) 0=Zcy acc d:=by simp[ZHL]
  rw[e]at ha;have e2:all.getD (I acc) []=d:=by rw[hall,hlen];simp[ZHL]
  rw[e2]at hd;obtain⟨d',h1,h2⟩:=Zhy ha;rcases h2 with rfl|h2;exact hd a h1;by_cases u:d'<I acc;exact hacc d' u (hcl d' (by rw[hall];simp;omega) (hd d' h1)) a h2;have:acc.getD d' 0=0:=by simp[ZHL,ZIi (Nat.le_of_not_lt u)]
  rw[this]at h2;simp at h2
def cnt(l:Nat->Bool):Nat->Nat
 |0=>0
 |n+1=>cnt l n+if l n then 0 else 1
def ZsG{l l'}:∀{n},(∀i,i<n->l' i=l i)->cnt l' n=cnt l n
 |0,_=>rfl
 |n+1,h=>by have:=ZsG (l:=l) (l':=l') (n:=n) λi hi=>h i ω;simp only[cnt,h n ω,this]
def ZuT{l i}:∀{n},i<n->l i=false->cnt (λj=>j==i ||l j) n+1=cnt l n
 |n+1,hi,hl=>by
  by_cases hn:i=n;subst hn;have:cnt (λj=>j==i ||l j) i=cnt l i:=ZsG λj hj=>by have:¬j=i:=ω;simp[this]
  simp[cnt,this,hl];have h:=ZuT (n:=n) ω hl;have t:¬n=i:=λh=>hn h.symm;have:(n==i ||l n)=l n:=by simp[t]
  simp only[cnt,this];omega
def ZsH{l}:∀{n},cnt l n=0->∀i,i<n->l i=true
 |n+1,h,i,hi=>by simp only[cnt]at h;by_cases hn:i=n;subst hn;cases hl:l i;simp[hl]at h;rfl;exact ZsH (n:=n) ω i ω
def Zxo(l):∀n,cnt l n<=n
 |0=>ZHK _
 |n+1=>by have:=Zxo l n;simp only[cnt];split<;>omega
def Zx4{ops listed i}(h:i∈Region.ready .any ops listed):
  ∃o,ops[i]?=sO o/\listed.getD i true=false/\∀d∈JK o,listed.getD d false=true:=by
 simp only[Region.ready,List.mem_filter,List.mem_range,ZHG,Bool.not_eq_true']at h;obtain⟨hi,hl,ha⟩:=h;refine⟨ops[i],by simp[hi],hl,λd hd=>?_⟩;simp only[hi,Array.getElem?_eq_getElem,ZH4,ZIc,Array.all_eq_true]at ha;simp only[JK,List.mem_map,List.mem_filter]at hd;obtain⟨e,⟨he,hb⟩,rfl⟩:=hd;obtain⟨n,hn,t⟩:=ZHR he;have u:n<ops[i].after.size:=by simpa using hn
 have h2:=ha n u;have:ops[i].after[n]=e:=by rw[<-t];simp
 rw[this]at h2;simpa[hb]using h2
def Zyo{ops t i o}(ho:ops[i]?=sO o)(hl:t.getD i true=false)(hd:∀d∈JK o,t.getD d false=true):i∈Region.ready .any ops t:=by
 obtain⟨u,rfl⟩:=Array.getElem?_eq_some_iff.1 ho;simp only[Region.ready,List.mem_filter,List.mem_range,ZHG,Bool.not_eq_true'];refine⟨u,hl,?_⟩;simp only[u,Array.getElem?_eq_getElem,ZH4,ZIc,Array.all_eq_true];intro n hn;cases hb:Region.binds .any ops[i].after[n];simp;simp only[Bool.not_true,Bool.false_or];exact hd _ (by
  simp only[JK,List.mem_map,List.mem_filter];exact⟨_,⟨ψ,hb⟩,rfl⟩)
def ZC1{ops T}(hT:T.length=ops.size)(hdep:∀i o,ops[i]?=sO o->T.deps i=JK o)(hlt:∀i,i<T.length->∀d∈T.deps i,d<i):
  ∀(fuel t listed),listed.size=ops.size->cnt (λj=>listed.getD j false) ops.size<=fuel ->
   Sch T (λj=>listed.getD j false) (Region.linearise.go .any ops fuel t listed []):=by
 have u:∀listed:Array Bool,listed.size=ops.size->Region.ready .any ops listed=[]->∀i,i<ops.size->listed.getD i false=true:=by
  intro listed ab hr i;induction i using Nat.strongRecOn with
  |ind i ih =>
   intro hi;cases hl:listed.getD i false;exfalso;have af:i<listed.size:=ω;have ah:listed.getD i true=false:=by simpa[Array.getD,af]using hl
   have hm:i∈Region.ready .any ops listed:=Zyo (o:=ops[i]) (by simp[hi]) ah λd hd=>by have ak:d<i:=hlt i ω d (by rw[hdep i ops[i] (by simp[hi])];exact hd);exact ih d ak ω
   rw[hr]at hm;simp at hm;rfl
 intro fuel;induction fuel with
 |zero =>intro t listed ab hc;simp only[Region.linearise.go,List.reverse_nil];exact .nil λi hi=>ZsH (Nat.le_zero.1 hc) i ω
 |succ fuel ih =>
  intro t listed ab hc;simp only[Region.linearise.go];change Sch T _ (match (Region.ready .any ops listed)[t % (Region.ready .any ops listed).length]? with
   |some i=>Region.linearise.go .any ops fuel (t / (Region.ready .any ops listed).length) (listed.setIfInBounds i true) [i]
   |none=>[].reverse)
  cases hi:(Region.ready .any ops listed)[t % (Region.ready .any ops listed).length]? with
  |none =>
   have ai:Region.ready .any ops listed=[]:=by
    cases hr:Region.ready .any ops listed with
    |nil=>rfl
    |cons x xs =>rw[hr]at hi;have hl:t % (x::xs).length<(x::xs).length:=Nat.mod_lt _ ψ;rw[ZH6 hl]at hi;simp at hi
   exact .nil λi af=>u listed ab ai i ω
  |some i =>
   simp only[];rw[linearise_go_acc,List.reverse_singleton,List.singleton_append];obtain⟨o,ho,hl,hd⟩:=Zx4 (List.mem_of_getElem? hi);obtain⟨al,-⟩:=Array.getElem?_eq_some_iff.1 ho;have ad:i<listed.size:=ω;have ag:listed.getD i false=false:=by simpa[Array.getD,ad]using hl
   have ac:(λj=>(listed.setIfInBounds i true).getD j false)=λj=>j==i ||listed.getD j false:=by funext j;simp only[ZIh,Array.getElem?_setIfInBounds];by_cases ae:i=j;subst ae;simp[ad];have:¬j=i:=λh=>ae h.symm;simp[ae,this]
   refine .cons ω ag (λd aj=>hd d (by rw[<-hdep i o ho];exact aj)) ?_;rw[<-ac];refine ih _ _ (by simp[ab]) ?_;rw[ac];have:=ZuT (l:=λj=>listed.getD j false) al ag;omega
section
variable {P:Program}
def ZA1{an N c i os ks}(h:cc P an N c=sO (.regD i os ks)):
  ∃id ops,c=.region id ops true/\ccD P an N id ops=sO (i,os,ks):=by
 unfold cc at h;split at h<;>simp_all;obtain⟨a,b,c',t,u,h3,h4⟩:=h;exact⟨_,_,⟨rfl,rfl⟩,by rw[t];simp[u,h3,h4]⟩;all_goals (split at h<;>simp at h)
end
def ZC2{T l is}(h:Sch T l is):∀i∈is,i<T.length:=by
 induction h with
 |nil h=>simp
 |cons hi hl hd t ih=>intro i u;rcases List.mem_cons.1 u with rfl|h;exact hi;exact ih i h
section
variable {P:Program}
def ZsI{N ops}:∀{is l},Jq P N ops is=sO l->I l=I is/\∀(j i:Nat),is[j]?=sO i->∃o d,ops[i]?=sO o/\cop P N ops o=sO d/\l[j]?=sO d
 | [],l,h=>by simp only[Jq,ZHu]at h;subst h;simp
 |i::is,l,h=>by
  simp only[Jq]at h;split at h<;>(try(simp at h;done));rename_i o ho;split at h<;>simp only[ZHu,reduceCtorEq]at h;rename_i d ds hd t;subst h;obtain⟨h1,h2⟩:=ZsI t;refine⟨by simp[h1],λj i' u=>?_⟩;cases j with
  |zero=>simp only[List.getElem?_cons_zero,ZHu]at u;subst u;exact⟨o,d,ho,hd,ψ⟩
  |succ j=>simp only[List.getElem?_cons_succ]at u⊢;exact h2 j i' u
def ZuU{N ops f}:∀{is},(∀i∈is,∃o,ops[i]?=sO o/\cop P N ops o=sO (f i))->Jq P N ops is=sO (is.map f)
 | [],_=>rfl
 |i::is,h=>by obtain⟨o,t,u⟩:=h i ψ;have:=ZuU (is:=is) λj hj=>h j (by simp[hj]);simp only[Jq,t,u,this,ZHM]
def ZxG(g w){n}:Ext g w g { w with drawn:=n }:=⟨ZHK _,λ_=>ZHK _,λ_ _ _=>rfl,λ_ _ h=>h,λ_ _=>rfl,λ_ _=>rfl,rfl,rfl,rfl,rfl⟩
def Zu.drawn{g Z w tmps H L s}(m:Zu g Z w tmps H L s)(n):Zu g Z { w with drawn:=n } tmps H L s:=by
 have hg:JZ g w g { w with drawn:=n }:=⟨ZHK _,λ_ _=>rfl,λ_ _=>rfl,λb hb=>(m.st.fresh b hb).1,rfl,rfl,rfl,rfl⟩;exact m.grow hg
def ZlW:∀{n ds},ZnI n ds=true->∀i l,ds[i]?=sO l->∀d∈l,d<n+i
 |n,[],_,i,l,hi=>by simp at hi
 |n,x::r,h,i,l,hi=>by
  simp only[ZnI,ZHG,List.all_eq_true,decide_eq_true_eq]at h;cases i with
  |zero=>simp only[List.getElem?_cons_zero,ZHu]at hi;subst hi;exact λd hd=>h.1 d hd
  |succ i=>simp only[List.getElem?_cons_succ]at hi;intro d hd;have:=ZlW h.2 i l hi d hd;omega
def Zi4{F:Fr P}{order os ks dk H L s}(h:DOA F ks dk os H L s []):Zw F (.code (.regD order os ks)::dk) H L s:=by
 intro k hk;cases hk with
 |code hc ht =>
 obtain⟨id,ops,rfl,hD⟩:=ZA1 hc;unfold ccD at hD;generalize Zzw F.an id=fk at hD;split at hD<;>(try(simp at hD;done));rename_i l ah kp al _ _;simp only at hD;split at hD<;>simp only[ZHu,ZHH,reduceCtorEq]at hD;rename_i ad;obtain⟨rfl,rfl,rfl⟩:=hD;simp only[ZHG]at ad;obtain⟨⟨⟨au,ar⟩,ae⟩,ac⟩:=ad;obtain⟨aj,ap⟩:=ZsI al;simp only[List.length_range]at aj;generalize af:ops.toList.map JK=ds at ar ac h;have az:I ds=ops.size:=by rw[<-af];simp
 generalize hT:List.zip l ds=T at ac h;have aw:List.length T=ops.size:=by rw[<-hT];simp[aj,az]
 have am:∀(i:Nat) (o:Oper),ops[i]?=sO o->∃d,cop P F.N ops o=sO d/\T[i]?=sO (d,JK o):=by intro i o ho;obtain⟨hi,-⟩:=Array.getElem?_eq_some_iff.1 ho;obtain⟨o',d,h1,h2,h3⟩:=ap i i (by simp[hi]);rw[ho]at h1;obtain rfl:=Option.some.inj h1;refine⟨d,h2,?_⟩;rw[<-hT,List.getElem?_zip_eq_some];exact⟨h3,by rw[<-af];simp[ho]⟩
 have ab:∀(i:Nat) (o:Oper),ops[i]?=sO o->Tab.deps T i=JK o:=λi o ho=>by obtain⟨d,_,h2⟩:=am i o ho;simp[Tab.deps,ZHL,h2]
 have a0:∀i,i<List.length T->∃o,ops[i]?=sO o/\cop P F.N ops o=sO (Tab.op T i):=λi hi=>by have u:i<ops.size:=ω;obtain⟨d,h1,h2⟩:=am i ops[i] (by simp[u]);exact⟨ops[i],by simp[u],by simp[Tab.op,ZHL,h2,h1]⟩
 have ao:∀i,i<List.length T->∀d∈Tab.deps T i,d<i:=λi hi d hd=>by have u:i<ops.size:=ω;have he:=ab i ops[i] (by simp[u]);have:=ZlW ar i (JK ops[i]) (by rw[<-af];simp[u]) d (by rw[<-he];exact hd);omega
 have ai:∀i,i<List.length T->ds.getD i []=Tab.deps T i:=λi hi=>by have u:i<ops.size:=ω;rw[ab i ops[i] (by simp[u]),<-af];simp[ZHL,u]
 intro g Z w tmps hN m;refine F.T.back _ _ _ _ (.one stepR_region_draw) ?_;refine F.T.ext g w g { w with drawn:=w.drawn+1 } _ (ZxG g w) ?_;have a3:∀t,Region.schedule (P.follows .mixedOrders) ops t=Region.linearise .any ops t:=λt=>by simp[Region.schedule,au]
 rw[a3];have aq:∀j,(Array.replicate ops.size false).getD j false=false:=λj=>by simp only[ZIh,Array.getElem?_replicate];split<;>rfl
 have ak:=ZC1 (ops:=ops) (T:=T) aw ab ao ops.size (w.tape w.drawn (.order F.b.fn id)) (Array.replicate ops.size false) ψ (Zxo _ _);have av:=h T (Zf3 ds []) (λi=>(F.an.get (id+1000000*(i+4))).getD []) _ [] ah _ _ H L ?_ ac ψ rfl ?_ ak;refine av ops _ _ (ZuU λi hi=>a0 i (ZC2 ak i hi)) ht g Z _ tmps hN (m.drawn _);intro lf ax i hi hd a ha;refine Zti lf ds (λi hi ag d hd=>?_) ds [] [] rfl rfl (λi hi=>by simp at hi) i ω (λd ay=>hd d (by rw[<-ai i hi];exact ay)) a ha;exact ax i ω ag d (by rw[<-ai i ω];exact hd);refine⟨λi hi ag=>?_,λr hr=>aq r,λi hi h1 h2=>?_,ψ,ψ,ψ,λt=>.inl rfl,ψ,λx=>.inl rfl,ψ⟩;rw[aq]at ag;simp at ag;exfalso;simp only[Zye,List.all_eq_true,List.mem_range,List.contains_eq_mem,decide_eq_true_eq]at ae;exact h1 (ae i ω)
def ZfN{F:Fr P}{kp dk o f os H L s B}(hg:Zk H o.guard=sO true){fx xs}(hk:o.k=.call fx xs){p q fd es ds}(hf:Zy H true fx=sO (q,.d fd))(ha:Z8 H true xs=sO (p,es))(hds:Ka es=sO ds)(hp:p)(hq:q){Ψ}(hc:WN P fd ds s Ψ)(hret:∀d s',Ψ (.ret d) s'->Wg f s s' L L B/\DOA F kp dk os (Zv H o.dst (.d d)) L s' (YZ f B))(hpan:∀d s',Ψ (.panic d) s'->Y4 F [] [] d s'):DOA F kp dk ((o,f)::os) H L s B:=by
 refine ZbR (λe s'=>∃d,e=.d d/\Ψ (.ret d) s') (by rw[hk];rfl) (λH' L' os' i u=>?_) (λe s2 ⟨d,he,hd⟩=>by subst he;exact hret d s2 hd);have h1:Zz H H' (ZQ fx):=λt ht=>i t (by simp[ZA,hk,Yh,ht]);have h2:Zz H H' (Za2 xs):=λt ht=>i t (by simp[ZA,hk,Yh,ht]);have h3:Zz H H' (Zcr o.guard):=λt ht=>i t (by simp[ZA,ht]);exact Zbz (by rw[YY h3];exact hg) hk (by rw[ZO h1];exact hf) (by rw[W3 h2];exact ha) hds hp hq hc (λd s' hd=>u (.d d) s' ⟨d,rfl,hd⟩) (λd s' hd=>(hpan d s' hd).weak _ _)
def ZhH{F:Fr P}{kp dk o f os H L s B}(hg:Zk H o.guard=sO true){fx xs}(hk:o.k=.call fx xs){p q fi first caps es ds}(hf:Zy H true fx=sO (q,.d (.fn (.func fi) first caps)))(ha:Z8 H true xs=sO (p,es))(u:Ka es=sO ds)(hp:p)(hq:q){Ψ}(hc:Za P fi (first++ds++caps) s Ψ)(t:∀d s',Ψ (.ret d) s'->Wg f s s' L L B/\DOA F kp dk os (Zv H o.dst (.d d)) L s' (YZ f B))(i:∀d s',Ψ (.panic d) s'->Y4 F [] [] d s'):DOA F kp dk ((o,f)::os) H L s B :=
 ZfN hg hk hf ha u hp hq hc.V t i
def Zqb{F:Fr P}{kp dk o f os H L s B}(hg:Zk H o.guard=sO true){x}(u:o.k=.panic x){p t d}(ha:Zy H true x=sO (p,.d (.iface t d)))(hp:p)(h:Y4 F [] [] (.iface t d) s):DOA F kp dk ((o,f)::os) H L s B:=by
 refine ZbR (λ_ _=>False) (by rw[u];rfl) (λH' L' os' i hcont=>?_) (λe s2 h=>h.elim);have h1:Zz H H' (ZQ x):=λt ht=>i t (by simp[ZA,u,Yh,ht]);have h3:Zz H H' (Zcr o.guard):=λt ht=>i t (by simp[ZA,ht]);exact Zmr (by rw[YY h3];exact hg) u (by rw[ZO h1];exact ha) hp (h.weak _ _)
def ZeN{F:Fr P}{kp dk o f os H L s B}(hg:Zk H o.guard=sO false)(hk:Y3 o.k=false){e}(h:DOA F kp dk os (Zv H o.dst (.when false e)) L s (YZ f B)):DOA F kp dk ((o,f)::os) H L s B:=by
 refine ZbR (λe' s'=>e'=.when false e/\s'=s) hk (λH' L' os' u i=>?_) (λe s2 ⟨h1,h2⟩=>by subst h1;subst h2;exact⟨Zdr,h⟩);have h3:Zz H H' (Zcr o.guard):=λt ht=>u t (by simp[ZA,ht]);exact JB (by rw[YY h3];exact hg) (i _ _ ⟨rfl,rfl⟩)
def ZvE{F:Fr P}{kp dk o f os H L s B c}(hg:Zk H o.guard=sO c){fx xs}(hk:o.k=.call fx xs){p q fi first caps es ds}(hf:Zy H c fx=sO (q,.d (.fn (.func fi) first caps)))(ha:Z8 H c xs=sO (p,es))(hds:Ka es=sO ds){d}(hc:c=true->p/\q/\Zf P fi (first++ds++caps) d)(h:DOA F kp dk os (Zv H o.dst (.when c (.d d))) L s (YZ f B)):DOA F kp dk ((o,f)::os) H L s B:=by
 refine ZbR (λe' s'=>e'=.when c (.d d)/\s'=s) (by rw[hk];rfl) (λH' L' os' i u=>?_) (λe s2 ⟨h1,h2⟩=>by subst h1;subst h2;exact⟨Zdr,h⟩);have h1:Zz H H' (ZQ fx):=λt ht=>i t (by simp[ZA,hk,Yh,ht]);have h2:Zz H H' (Za2 xs):=λt ht=>i t (by simp[ZA,hk,Yh,ht]);have h3:Zz H H' (Zcr o.guard):=λt ht=>i t (by simp[ZA,ht]);exact Zi2 (by rw[YY h3];exact hg) hk (by rw[ZO h1];exact hf) (by rw[W3 h2];exact ha) hds hc (u _ _ ⟨rfl,rfl⟩)
def ZfM{F:Fr P}{kp dk o f os H L s B}(hg:Zk H o.guard=sO true){fx xs}(hk:o.k=.call fx xs){p q u first caps es ds}(hf:Zy H true fx=sO (q,.d (.fn (.func u) first caps)))(ha:Z8 H true xs=sO (p,es))(t:Ka es=sO ds)(hp:p)(hq:q){d}(hc:Zf P u (first++ds++caps) d)(h:DOA F kp dk os (Zv H o.dst (.d d)) L s (YZ f B)):DOA F kp dk ((o,f)::os) H L s B :=
 ZhH hg hk hf ha t hp hq (hc s) (λd' s' ⟨i,h2⟩=>by simp only[Res.ret.injEq]at i;subst i;subst h2;exact⟨Zdr,h⟩) (λd' s' ⟨i,_⟩=>by simp at i)
end
section
variable {P:Program}
def ZaC(P:Program)(w:World)(size m:Nat)(x:Value)(news:List Value):Prop :=
 (∀w2,(Builtin.lenOf x).run P w2=.ok m w2)/\∀w2:World,w2.heap=w.heap->(Builtin.firstCells size m x).run P w2=.ok news.toArray w2
def Zjb{w t u ty e tu i}(ht:P.underlying t=sO (.slice e))(hu:P.underlying u=sO tu)(hnu:∀k,tu≠.int k)(hi:P.info? e=sO i){base n cap x}(hx:ZaC P w i.size 0 x [])(hroom:n<=cap):(Builtin.append_ #[t,u] ty #[.slice base n cap,x]).run P w=.ok (.slice base n cap) w:=by
 obtain⟨h1,h2⟩:=hx;have h2:=h2 w rfl;have hz:(match tu with|.int _=>true|_=>false)=false:=by cases tu<;>first|rfl|exact absurd rfl (hnu _)
 cases base with
 |none=>simp[Builtin.append_,run_underlying ht,run_underlying hu,hz,sizeOf,typeInfo,hi,h1,h2,hroom]
 |some a=>simp[Builtin.append_,run_underlying ht,run_underlying hu,hz,sizeOf,typeInfo,hi,h1,h2,hroom,storeCells]
def Zmy{w t u ty e tu i}(ht:P.underlying t=sO (.slice e))(hu:P.underlying u=sO tu)(hnu:∀k,tu≠.int k)(hi:P.info? e=sO i){g n cap m x news}(hx:ZaC P w i.size m x news){cur T}(hg:w.heap[g]?=sO (.cells cur T (0,0)))(h1:∀u∈news,u.oneCell'=true)(hroom:n+m<=cap)(hfit:n*i.size+I news<=cur.size):
  (Builtin.append_ #[t,u] ty #[.slice (sO ⟨g,0,nO⟩) n cap,x]).run P w =
   .ok (.slice (sO ⟨g,0,nO⟩) (n+m) cap) (w.setRow g (cur.toList.take (n*i.size)++news++cur.toList.drop (n*i.size+I news)).toArray):=by
 obtain⟨ad,ab⟩:=hx;have ab:=ab w rfl;have hz:(match tu with|.int _=>true|_=>false)=false:=by cases tu<;>first|rfl|exact absurd rfl (hnu _)
 have ac:=run_storeCells_at P g (n*i.size) T news 0 cur w hg (by simpa using hfit) h1;simp only[Nat.add_zero]at ac;simp[Builtin.append_,run_underlying ht,run_underlying hu,hz,sizeOf,typeInfo,hi,ad,ab,hroom,Addr.add_lit,ac]
def ZhM{w t u ty e tu i z}(ht:P.underlying t=sO (.slice e))(hu:P.underlying u=sO tu)(hnu:∀k,tu≠.int k)(hi:P.info? e=sO i)(hz':i.zero=sO z){base n cap m x olds news}(hx:ZaC P w i.size m x news)(ho:∀w2:World,w2.heap=w.heap->(Builtin.firstCells i.size n (.slice base n cap)).run P w2=.ok olds.toArray w2)(hg:cap<n+m)(h63:((n+m:Nat):Int)<=9223372036854775807)(hfit:(n+m)*i.bytes<=140737488355328):
  (Builtin.append_ #[t,u] ty #[.slice base n cap,x]).run P w =
   .ok (.slice (sO ⟨w.heap.size,0,nO⟩) (n+m) (grownCap w (n+m) cap e))
    (w.drew.alloc (.cells (olds++news++(Builtin.zeroCells z.cells (grownCap w (n+m) cap e-(n+m))).toList).toArray e)):=by
 obtain⟨ae,ab⟩:=hx;have ab:=ab w.drew rfl;have ho:=ho w.drew rfl;have hz:(match tu with|.int _=>true|_=>false)=false:=by cases tu<;>first|rfl|exact absurd rfl (hnu _)
 have hn:¬(n+m<=cap):=ω;have ad:¬(9223372036854775807<((n:Int)+(m:Int))):=ω;have hf:=growslice_fits hg hfit;have ac:¬(281474976710656<Builtin.nextslicecap (n+m) cap*i.bytes):=ω;simp[Builtin.append_,run_underlying ht,run_underlying hu,hz,sizeOf,typeInfo,zeroValue,hi,hz',ae,hn,ad,ac,Question.forced,ab,ho,newRow,grownCap]
 congr 2
 apply Array.ext';simp[ZHY]
end
structure Wx(g:G)(w:World)(sz n:Nat)(vals:List Value)(row:Nat->List D):Prop where
 len:I vals=n*sz
 rlen:∀i,i<n->(row i).length=sz
 rep:∀(i j:Nat) (v:Value) (d:D),i<n->j<sz->vals[i*sz+j]?=some v->(row i)[j]?=some d->Rep g w v d
 one:∀v∈vals,v.one1=true
def Yg(n:Nat)(row row2:Nat->List D):Nat->List D:=λi=>if i<n then row i else row2 (i-n)
def Wx.append{sz n m:Nat}{a b:List Value}{row row2:Nat->List D}(u:Wx g w sz n a row)(hb:Wx g w sz m b row2):Wx g w sz (n+m) (a++b) (Yg n row row2):={
 len:=by rw[ZHF,u.len,hb.len,ZHU]
 rlen i hi:=by unfold Yg;split;rename_i h;exact u.rlen i h;exact hb.rlen (i-n) ω
 rep i j v d hi hj hv hd:=by
  unfold Yg at hd;split at hd;rename_i h;have:i*sz+j<I a:=by rw[u.len];have:=ZHP sz (show i+1<=n from h);rw[ZHU,Nat.one_mul]at this;omega
  rw[ZHW this]at hv;exact u.rep i j v d h hj hv hd;rename_i h;have e:i*sz+j-I a=(i-n)*sz+j:=by rw[u.len,Nat.sub_mul];have:=ZHP sz (show n<=i by omega);omega
  have t:I a<=i*sz+j:=by rw[u.len];have:=ZHP sz (show n<=i by omega);omega
  rw[ZIf t,e]at hv;exact hb.rep (i-n) j v d ω hj hv hd
 one v hv:=by
  rcases List.mem_append.1 hv with h|h;exact u.one v h;exact hb.one v h }
def Wx.mono{g t w w' sz n a row}(h:Wx g w sz n a row)(e:Ext g w t w'):Wx t w' sz n a row :=
 ⟨h.len,h.rlen,λi j v d hi hj hv u=>(h.rep i j v d hi hj hv u).mono e,h.one⟩
def KX{b o cs T fr}(h:w.heap[b]?=sO (.cells cs T fr)):w.cell? ⟨b,o,nO⟩=cs[o]?:=by
 unfold World.cell?;simp[h]
section
variable {P:Program}
def Zeu{g w v t n sz row}(h:Rep g w v (.sl t n sz row))(hsz:0<sz):
  ∃vals,Wx g w sz n vals row/\ZaC P w sz n v vals:=by
 cases h with
 |sl0 a t s row ht =>refine⟨[],⟨ψ,λi hi=>by omega,λi j v d hi=>by omega,ψ⟩,λw2=>by simp[Builtin.lenOf],λw2 _=>by cases a<;>simp[Builtin.firstCells,loadCells,loadCellsFrom]⟩
 |sl b o n cap s row t f hl hc hp hr one ht hcap hb =>
  let vals:=(ZHJ (n*sz)).map λk=>f (k / sz) (k % sz);have hk:∀k,k<n*sz->k / sz<n/\k % sz<sz:=λk hk=>⟨(Nat.div_lt_iff_lt_mul hsz).2 hk,Nat.mod_lt _ hsz⟩;have u:∀k v,vals[k]?=sO v->k<n*sz/\v=f (k / sz) (k % sz):=λk v hv=>by simp only[vals,List.getElem?_map,ZHI]at hv;obtain⟨k',h1,h2⟩:=hv;obtain⟨h3,h4⟩:=List.getElem?_eq_some_iff.1 h1;simp only[List.getElem_range]at h4;subst h4;exact⟨by simpa using h3,h2.symm⟩
  refine⟨vals,⟨by simp[vals],hl,λi j v d hi hj hv hd=>?_,λv hv=>?_⟩,λw2=>by simp[Builtin.lenOf],λw2 ad=>?_⟩;obtain⟨_,rfl⟩:=u _ _ hv;have e1:(i*sz+j) / sz=i:=by rw[Nat.mul_comm,Nat.mul_add_div hsz,Nat.div_eq_of_lt hj,Nat.add_zero]
  have e2:(i*sz+j) % sz=j:=by rw[Nat.mul_comm,Nat.mul_add_mod,Nat.mod_eq_of_lt hj]
  rw[e1,e2];exact hr i j d hi hd;obtain⟨k,ac,rfl⟩:=ZHR hv;obtain⟨h1,h2⟩:=u k _ (ZH6 ac);rw[h2];exact one _ _ (hk k h1).1 (hk k h1).2;refine run_firstCells_some (P:=P) w2 sz n ⟨b,o,nO⟩ n cap vals (by simp[vals]) λk v hv=>?_;obtain⟨h1,h2⟩:=u k v hv;have ab:(⟨b,o,nO⟩:Addr).add k=⟨b,o+k,nO⟩:=WT b o k;rw[ab];have h3:=hc (k / sz) (k % sz) (hk k h1).1 (hk k h1).2;have e:o+k / sz*sz+k % sz=o+k:=by rw[Nat.add_assoc,Nat.mul_comm,Nat.div_add_mod]
  rw[e]at h3;rw[h2,<-h3];unfold World.cell?;simp only[ad]
def Zix{g w sz n cap b vals row}(h:Wx g w sz n vals row){cur T}(hb:w.heap[b]?=sO (.cells cur T (0,0)))(ht:cur.toList.take (n*sz)=vals)(hn:n<=cap)(hcap:cap*sz<=cur.size)(hp:g.prot b=n*sz)(hbig:cap<=big):Rep g w (.slice (sO ⟨b,0,nO⟩) n cap) (.sl (.tip b) n sz row):=by
 have u:∀i j,i<n->j<sz->i*sz+j<n*sz:=λi j hi hj=>by have:=ZHP sz (show i+1<=n from hi);rw[ZHU,Nat.one_mul]at this;omega
 have hle:n*sz<=cur.size:=ZIg (ZHP sz hn) hcap;have t:∀i j,i<n->j<sz->cur[i*sz+j]?=sO (cur.getD (i*sz+j) undef)/\vals[i*sz+j]?=sO (cur.getD (i*sz+j) undef):=λi j hi hj=>by
  have h1:=u i j hi hj;have h2:i*sz+j<cur.size:=ω;have e:cur[i*sz+j]?=sO (cur.getD (i*sz+j) undef):=by simp[Array.getD,h2]
  refine⟨e,?_⟩;rw[<-ht,ZIb,if_pos h1,Array.getElem?_toList];exact e
 refine .sl b 0 n cap sz row (.tip b) (λi j=>cur.getD (i*sz+j) undef) h.rlen (λi j hi hj=>?_) (λi j hi hj=>?_) (λi j d hi hd=>?_) (λi j hi hj=>?_) ⟨rfl,rfl,T,cur.size,?_,hcap⟩ hn hbig;rw[KX hb,Nat.zero_add];exact(t i j hi hj).1;rw[hp,Nat.zero_add];exact u i j hi hj;have hj:j<sz:=by rw[<-h.rlen i hi];exact(List.getElem?_eq_some_iff.1 hd).1
 exact h.rep i j _ d hi hj (t i j hi hj).2 hd;exact h.one _ (List.mem_of_getElem? (t i j hi hj).2);simp[hdr,hb]
end
def St.own(s:St)(t:Tok)(k:Nat):St :=
 match t with
 |.tip b=>s.upd b (.tip k)
 |_=>s
def Tok.okIn(t:Tok)(s:St):Prop :=
 match t with
 |.tip b=>s b=Option.none
 |.full=>True
 |.none=>False
def YR{s}{t:Tok}{k:Nat}(h:t.okIn s):s.sub (s.own t k):=by
 intro b o i;cases t with
 |tip c =>simp only[St.own,ZH7];by_cases u:b=c;subst u;simp only[Tok.okIn]at h;rw[h]at i;simp at i;simp only[u,if_false];exact i
 |_=>exact i
def Ya.upd(h:Ya g s w){b:Nat}{o:QL}(u:WI g w b o)(t:¬g.kept b):Ya g (s.upd b o) w:={
 obj c x hx:=by simp only[ZH7]at hx;by_cases i:c=b;simp only[i,if_true,ZHu]at hx;subst hx;rw[i];exact u;simp only[i,if_false]at hx;exact h.obj c x hx
 kept c x hx:=by simp only[ZH7]at hx;by_cases i:c=b;rw[i];exact t;simp only[i,if_false]at hx;exact h.kept c x hx
 fresh:=h.fresh
 tabs:=h.tabs }
def QU(g:G)(b k:Nat):G:={ g with prot:=λc=>if c=b then k else g.prot c }
def ZzF{c:Array Value}(T:TypeId){k:Nat}(i:∀b,w.heap.size<=b->g.prot b=0/\¬g.kept b):JZ g w (QU g w.heap.size k) (w.drew.alloc (.cells c T)):={
 size:=by simp
 old b hb:=(by first|exact heap_alloc_old w.drew _ b hb|exact heap_alloc_old w.drew _ hb)
 prot b hb:=by simp[QU,show ¬b=w.heap.size by omega]
 fresh b hb:=by
  have:(w.drew.alloc (.cells c T)).heap.size=w.heap.size+1:=by simp
  rw[this]at hb;simp only[QU,show ¬b=w.heap.size by omega,if_false];exact(i b ω).1
 kept:=rfl
 os:=rfl
 output:=rfl
 tape:=rfl }
def Rep.slRow{g w v t n sz row row'}(h:Rep g w v (.sl t n sz row))(hr:∀i,i<n->row' i=row i):Rep g w v (.sl t n sz row'):=by
 cases h with
 |sl0 a t s row ht=>exact .sl0 a t sz row' ht
 |sl b o n cap s row t f hl hc hp hrep one ht hcap hb =>exact .sl b o n cap sz row' t f (λi u=>by rw[hr i u];exact hl i u) hc hp (λi j d u hd=>hrep i j d u (by rw[<-hr i u];exact hd)) one ht hcap hb
section
variable {P:Program}
def Zpk{sz k:Nat}{vals rest:List Value}{T:TypeId}{cap:Nat}(hs:Ya g s w)(hr:Wx g w sz k vals row)(hn:k<=cap)(hrest:I vals+I rest=cap*sz)(hbig:cap<=big):
  let w':=w.drew.alloc (.cells (vals++rest).toArray T);let g':=QU g w.heap.size (k*sz)
  JZ g w g' w'/\Ya g' (s.own (.tip w.heap.size) (k*sz)) w'/\(Tok.tip w.heap.size).okIn s/\Rep g' w' (.slice (sO ⟨w.heap.size,0,nO⟩) k cap) (.sl (.tip w.heap.size) k sz row):=by
 intro w' g';have hg:JZ g w g' w':=ZzF T hs.fresh;have i:w'.heap[w.heap.size]?=sO (.cells (vals++rest).toArray T (0,0)):=heap_alloc_new w.drew _;have hp:g'.prot w.heap.size=k*sz:=by simp[g',QU]
 have t:k*sz<=(vals++rest).toArray.size:=by have:=ZHP sz hn;simp only[List.size_toArray,ZHF];omega
 refine⟨hg,(hs.grow hg).upd ⟨hp,_,T,i,t⟩ (λh=>(hs.fresh _ (ZHK _)).2 h),?_,?_⟩
 .simp only[Tok.okIn];cases u:s w.heap.size with
  |none=>rfl
  |some o=>have:=(hs.obj _ o u).lt;omega
 refine Zix (hr.mono (hg.ext hs.fresh)) i ?_ hn ?_ hp hbig;rw[<-hr.len];simp;simp only[List.size_toArray,ZHF];omega
def Zsm{g w s t sz n m v1 v2 row row2 tT u ty e tu i z}(ht:P.underlying tT=sO (.slice e))(hu:P.underlying u=sO tu)(hnu:∀k,tu≠.int k)(hi:P.info? e=sO i)(hz:i.zero=sO z)(hsz:i.size=sz)(hzc:z.cells.size=sz)(h0:0<sz)(hs:Ya g (s.own t (n*sz)) w)(hok:t.okIn s)(h1:Rep g w v1 (.sl t n sz row)){news}(h2:Wx g w sz m news row2)(h3:ZaC P w sz m v2 news)(hb:(n+m)*i.bytes<=140737488355328)(hbig:n+m<=big):
  ∃v' w' g' t',(Builtin.append_ #[tT,u] ty #[v1,v2]).run P w=.ok v' w'/\Ext g w g' w'/\Ya g' (s.own t' ((n+m)*sz)) w'/\t'.okIn s/\Rep g' w' v' (.sl t' (n+m) sz (Yg n row row2)) /\
   (∀b,b<w.heap.size->t≠.tip b->w'.heap[b]?=w.heap[b]?/\g'.prot b=g.prot b)/\∀b,t'=.tip b->t=.tip b\/w.heap.size<=b:=by
 subst hsz;have ai:Ya g s w:=hs.sub (YR hok);obtain⟨ap,bf,ho1,ay⟩:=Zeu (P:=P) h1 h0;have ao:=bf.append h2;have aj:∀ad cap,v1=.slice ad n cap->cap<n+m->∃v' w' g' t',(Builtin.append_ #[tT,u] ty #[v1,v2]).run P w=.ok v' w'/\Ext g w g' w'/\Ya g' (s.own t' ((n+m)*i.size)) w'/\t'.okIn s /\
   Rep g' w' v' (.sl t' (n+m) i.size (Yg n row row2))/\(∀b,b<w.heap.size->t≠.tip b->w'.heap[b]?=w.heap[b]?/\g'.prot b=g.prot b)/\∀b,t'=.tip b->t=.tip b\/w.heap.size<=b:=by
  intro ad cap hv bc;subst hv;have ah:=ZhM (ty:=ty) ht hu hnu hi hz h3 ay bc (by simp only[big]at hbig;omega) hb;have a8:=grownCap_ge w (n+m) cap e;have au:=grownCap_le_maxLen w (n+m) cap e (by simp only[big]at hbig;simp only[maxLen];omega);have hn:=Zpk (T:=e) (rest:=(Builtin.zeroCells z.cells (grownCap w (n+m) cap e-(n+m))).toList) ai ao a8 (by
   simp only[Array.length_toList,size_zeroCells,hzc,ao.len,<-ZHU];congr 1;omega) (by simp only[maxLen]at au;simp only[big];omega)
  obtain⟨a1,a2,a3,a4⟩:=hn;exact⟨_,_,_,_,ah,a1.ext ai.fresh,a2,a3,a4,λb hb _=>⟨a1.old b hb,a1.prot b hb⟩,λb hb=>.inr (by simp only[Tok.tip.injEq]at hb;omega)⟩
 have aq:∀ad cap,v1=.slice ad n cap->m=0->n<=cap->∃v' w' g' t',(Builtin.append_ #[tT,u] ty #[v1,v2]).run P w=.ok v' w'/\Ext g w g' w'/\Ya g' (s.own t' ((n+m)*i.size)) w'/\t'.okIn s /\
   Rep g' w' v' (.sl t' (n+m) i.size (Yg n row row2))/\(∀b,b<w.heap.size->t≠.tip b->w'.heap[b]?=w.heap[b]?/\g'.prot b=g.prot b)/\∀b,t'=.tip b->t=.tip b\/w.heap.size<=b:=by
  intro ad cap hv hm au;subst hv;subst hm;have be:news=[]:=List.eq_nil_of_length_eq_zero (by simpa using h2.len);subst be;exact⟨_,_,g,t,Zjb (ty:=ty) ht hu hnu hi h3 au,Ext.refl g w,hs,hok,h1.slRow λi hi=>by simp only[Yg,if_pos (show i<n from hi)],λ_ _ _=>⟨rfl,rfl⟩,λb hb=>.inl hb⟩
 cases h1 with
 |sl0 a t s row htt =>by_cases hm:m=0;exact aq a 0 rfl hm (ZHK _);exact aj a 0 rfl ω
 |sl b o n cap sz row t f hl hc hp hr one htok hcap hb' =>
  have a9:=aj (sO ⟨b,o,nO⟩) cap rfl;have bg:=aq (sO ⟨b,o,nO⟩) cap rfl;by_cases hm:m=0;exact bg hm hcap;by_cases ac:n+m<=cap;case neg=>exact a9 ω
  cases t with
  |none=>exact hok.elim
  |full=>simp only[ZhK]at htok;omega
  |tip tb =>
   obtain⟨rfl,rfl,T0,m0,hh,hm0⟩:=htok;have az:=hs.obj b (.tip (n*i.size)) (by simp[St.own,ZH7]);have af:=hs.kept b (.tip (n*i.size)) (by simp[St.own,ZH7]);obtain⟨a6,ab,T,ae,hb2⟩:=az;have ar:cap*i.size<=ab.size:=by simp only[hdr,ae,ZHu,ZHH]at hh;omega
   have ax:n*i.size+I news<=ab.size:=by rw[h2.len,<-ZHU];exact ZIg (ZHP _ ac) ar
   have ah:=Zmy (ty:=ty) ht hu hnu hi h3 ae (λv hv=>by rw[ZbZ];exact h2.one v hv) ac ax;have al:∀k v,(ab.toList.take (n*i.size))[k]?=sO v->w.cell? ((⟨b,0,nO⟩:Addr).add k)=sO v:=λk v hv=>by rw[WT,KX ae,Nat.zero_add];rw[ZIb]at hv;split at hv;simpa using hv;simp at hv
   have a0:ap=ab.toList.take (n*i.size):=by have h:=run_firstCells_some (P:=P) w i.size n ⟨b,0,nO⟩ n cap (ab.toList.take (n*i.size)) (by simp;omega) al;rw[ay w rfl]at h;simpa using h
   generalize aw:ab.toList.take (n*i.size)++news++ab.toList.drop (n*i.size+I news)=nw at ah;have av:I nw=ab.size:=by rw[<-aw];simp only[ZHF,ZHQ,ZH9,Array.length_toList];omega
   have am:=setRow_heap w b ab nw.toArray T (0,0) ae;have ak:∀c,c≠b->(w.setRow b nw.toArray).heap[c]?=w.heap[c]?:=λc hc=>setRow_other w b c _ hc;have a7:(w.setRow b nw.toArray).heap.size=w.heap.size:=by simp[World.setRow]
   have ba:n*i.size<=(n+m)*i.size:=ZHP _ ω;have ag:Ext g w (QU g b ((n+m)*i.size)) (w.setRow b nw.toArray):=by
    refine⟨ω,λc=>?_,λc o ho=>?_,λc x hx=>?_,λc hc=>ak c (λh=>af (h▸hc)),λc hc=>?_,rfl,rfl,rfl,rfl⟩;simp only[QU];split;rename_i h;rw[h,a6];exact ba;exact ZHK _;by_cases hc:c=b;subst hc;rw[KX am,KX ae];rw[a6]at ho;have:o<(ab.toList.take (n*i.size)).length:=by simp;omega
    rw[List.getElem?_toArray,<-aw,ZHY,ZHW this,ZIb,if_pos ho];simp;exact QO (ak c hc);by_cases hc:c=b;subst hc;simp only[hdr,ae]at hx;simp only[hdr,am,List.size_toArray,av];exact hx;rw[Zah (ak c hc)];exact hx;simp only[QU];split;rename_i h;exact absurd hc (h▸af);rfl
   have a5:(QU g b ((n+m)*i.size)).prot b=(n+m)*i.size:=by simp[QU]
   refine⟨_,_,QU g b ((n+m)*i.size),.tip b,ah,ag,?_,hok,?_,λc _ hc=>?_,λc hc=>.inl hc⟩;refine⟨λc x hx=>?_,λc x hx=>?_,λc hc=>?_,λn cs hc=>(ai.tabs n cs hc).mono ag⟩;by_cases hc:c=b;subst hc;simp only[St.own,ZH7,if_true,ZHu]at hx;subst hx;refine⟨a5,_,T,am,?_⟩;simp only[List.size_toArray,av];exact ZIg (ZHP _ ac) ar;simp only[St.own,ZH7,hc,if_false]at hx;exact(ai.obj c x hx).mono ag (ak c hc) (by simp[QU,hc]);by_cases hc:c=b;rw[hc];exact af;simp only[St.own,ZH7,hc,if_false]at hx;exact ai.kept c x hx;rw[a7]at hc;have hbl:b<w.heap.size:=(Array.getElem?_eq_some_iff.1 ae).1;simp only[QU,show ¬c=b by omega,if_false];exact ai.fresh c hc;refine Zix (ao.mono ag) am ?_ ac (by simp only[List.size_toArray,av];exact ar) a5 hb';have bb:(ap++news).length=(n+m)*i.size:=ao.len;rw[<-aw,a0,<-bb,a0];exact List.take_left;have:c≠b:=λh=>hc (by rw[h]);exact⟨ak c this,by simp[QU,this]⟩
end
end Go.DL
namespace Go.DL
open Go Go.Lib
variable [Zsc]
def JF(s:Nat):D->Option (Nat×(Nat->List D))
 |.nilsl=>sO (0,λ_=>[])
 |.sl _ m s' row=>if s'=s then sO (m,row) else nO
 |.str l=>if s=1 then sO (I l,λi=>[.int .u8 ((l.getD i 0).toNat:Int)]) else nO
 |_=>nO
def Zcf(s:Nat):D->Option (Tok×Nat×(Nat->List D))
 |.nilsl=>sO (.full,0,λ_=>[])
 |.sl t n s' row=>if s'=s then sO (t,n,row) else nO
 |_=>nO
def ZeE{g w v d sz n t row}(h:Rep g w v d)(i:Zcf sz d=sO (t,n,row)):Rep g w v (.sl t n sz row):=by
 cases d<;>simp only[Zcf,reduceCtorEq]at i;simp only[ZHu,ZHH]at i;obtain⟨rfl,rfl,rfl⟩:=i;cases h;exact .sl0 _ _ _ _ ψ;split at i<;>simp only[ZHu,ZHH,reduceCtorEq]at i;rename_i u;obtain⟨rfl,rfl,rfl⟩:=i;subst u;exact h
section
variable {P:Program}
def JS{op e s b z x y}(h:ck P op=sO (.append e s b z x y)) :
  ∃x' y' args ats t1 t2 tu,op=.call ⟨.builtin .append,args,ats⟩/\args.toList=[x',y']/\ats[0]?=sO t1/\ats[1]?=sO t2/\P.underlying t1=sO (.slice e)/\P.underlying t2=sO tu/\(∀k,tu≠.int k) /\
   ZP P e=sO s/\Zaa P e=sO z/\b=P.bytesOf e/\ZW x'=sO x/\ZW y'=sO y/\0<s/\I z=s:=by
 unfold ck at h;split at h;simp at h;split at h<;>(try(simp at h;done));all_goals (try(repeat' (split at h<;>(try(simp at h;done)))))
 all_goals
  simp only[ZHu,K.append.injEq]at h;obtain⟨rfl,rfl,rfl,rfl,rfl,rfl⟩:=h
 rename_i c _ _ t _ _ _ e' x' y' h0 u _ _ _ _ s' z' l' c' ac af ad ae t2 el h1 i;obtain⟨t1,g1,g2⟩:=Option.bind_eq_some_iff.1 h0;obtain⟨t3,g3,g4⟩:=Option.bind_eq_some_iff.1 h1;simp only[ZHG,decide_eq_true_eq]at i;obtain⟨ab,args,ats⟩:=c;simp only at t;subst t;exact⟨x',y',args,ats,t1,t3,_,rfl,u,g1,g3,g2,g4,λk h=>by simp at h,ac,af,rfl,ad,ae,i.1,i.2⟩;rename_i c _ _ t _ _ _ e' x' y' h0 u _ _ _ _ s' z' l' c' ac af ad ae t2 h1 i;obtain⟨t1,g1,g2⟩:=Option.bind_eq_some_iff.1 h0;obtain⟨t3,g3,g4⟩:=Option.bind_eq_some_iff.1 h1;simp only[ZHG,decide_eq_true_eq]at i;obtain⟨ab,args,ats⟩:=c;simp only at t;subst t;exact⟨x',y',args,ats,t1,t3,_,rfl,u,g1,g3,g2,g4,λk h=>by simp at h,ac,af,rfl,ad,ae,i.1,i.2⟩
def Zh0{g w v d sz m row}(h:Rep g w v d)(he:JF sz d=sO (m,row))(h0:0<sz):∃news,Wx g w sz m news row/\ZaC P w sz m v news:=by
 cases d with
 |nilsl =>simp only[JF,ZHu,ZHH]at he;obtain⟨rfl,rfl⟩:=he;cases h;exact⟨[],⟨ψ,λi hi=>by omega,λi j v d hi=>by omega,ψ⟩,λw2=>by simp[Builtin.lenOf],λw2 _=>by simp[Builtin.firstCells]⟩
 |sl t n s' row' =>simp only[JF]at he;split at he<;>simp only[ZHu,ZHH,reduceCtorEq]at he;rename_i hs;obtain⟨rfl,rfl⟩:=he;subst hs;exact Zeu h h0
 |str l =>
  simp only[JF]at he;split at he<;>simp only[ZHu,ZHH,reduceCtorEq]at he;rename_i hs;obtain⟨rfl,rfl⟩:=he;subst hs;cases h with
  |str s _ hl hb =>
   subst hl;have u:s.size=I s.data.toList:=by rw[Array.length_toList];rfl
   refine⟨strCells s,⟨by simp[strCells],λi hi=>rfl,λi j v d hi hj hv hd=>?_,λv hv=>by rw[<-ZbZ];exact strCells_oneCell s v hv⟩,λw2=>by simp only[Builtin.lenOf,Sem.run_pure,u],λw2 _=>?_⟩;obtain rfl:j=0:=ω;simp only[Nat.mul_one,Nat.add_zero,strCells,List.getElem?_map,ZHI]at hv;obtain⟨b,ab,rfl⟩:=hv;simp only[List.getElem?_cons_zero,ZHu]at hd;subst hd;have:s.data.toList.getD i 0=b:=by simp only[ZHL,ab,ZIc]
   rw[this];exact .int .u8 _ (Zs7 b);rw[<-u];exact run_firstCells_string w2 1 s
 |_=>simp[JF]at he
def Zw7{F:Fr P}{kp dk o os H L s}(hg:Zk H o.guard=sO true){e sz b z x y}(hk:o.k=.append e sz b z x y)
  {p q t n m row row2 dy dx} (hx:Zy H true x=sO (p,.d dx)) (hsl:Zcf sz dx=sO (t,n,row)) (hy:Zy H true y=sO (q,.d dy)) (hp:p) (hq:q) (hel:JF sz dy=sO (m,row2)) (hok:t.okIn s)
  (hb:(n+m)*b<=140737488355328) (hbig:n+m<=big) (h:∀t':Tok,t'.okIn s->DO F kp dk os (Zv H o.dst (.d (.sl t' (n+m) sz (Yg n row row2)))) L (s.own t' ((n+m)*sz))) :
  DO F kp dk (o::os) H L (s.own t (n*sz)):=by
 refine Y1 λoo g Z w tmps bi i r k az ab ar ai hd hN M hr au=>?_;have hw:=Z2 M ar hg;have ax:=Z9 ab (by rw[hk];rfl);rw[hk]at ab;obtain⟨x',y',ag,ak,t1,t2,tu,a0,u,al,am,bb,bc,ay,ba,hz,ap,be,bf,h0,hzl⟩:=JS ab;subst ap;have a8:Rep g w _ (.sl t n sz row):=ZeE (ZX M be rfl hx hp F.ds) hsl;have a9:Rep g w _ _:=ZX M bf rfl hy hq F.ds;obtain⟨zv,hz1,bg,hz3,ie,ac,bh⟩:=KK (g:=g) (w:=w) hz;have ae:ie.size=sz:=by simpa[ZP,ac]using ba
 have af:zv.cells.size=sz:=by have:=bg.len;simp at this;omega
 have aq:P.bytesOf e=ie.bytes:=by simp[Program.bytesOf,ac]
 rw[aq]at hb;obtain⟨news,av,aw⟩:=Zh0 (P:=P) a9 hel h0;obtain⟨v',w',g',t',a1,a2,a3,a4,a5,a6,a7⟩:=Zsm (ty:=oo.type) bb bc ay ac bh ae af h0 M.st hok a8 av aw hb hbig;have ad:∀l cs,Zg L l=sO cs->t≠.tip (Z l):=λl cs hl ht=>by have:=M.locSt l cs hl;rw[ht]at this;simp[St.own,ZH7]at this
 have aj:∀l cs,Zg L l=sO cs->s (Z l)=nO:=λl cs hl=>by
  cases hx:s (Z l) with
  |none=>rfl
  |some o=>have:=YR (k:=n*sz) hok _ _ hx;rw[M.locSt l cs hl]at this;simp at this
 have mm:Zu g' Z w' tmps H L (s.own t' ((n+m)*sz)):=by
  refine⟨a3,λl cs hl=>(M.loc l cs hl).mono a2 (a6 (Z l) (M.loc l cs hl).lt (ad l cs hl)).1 (a6 (Z l) (M.loc l cs hl).lt (ad l cs hl)).2,λl cs hl=>by rw[a2.keptEq];exact M.locKept l cs hl,λl cs hl=>?_,M.inj,λt e he=>(M.env t e he).mono a2⟩;cases t' with
  |tip b =>
   have:¬Z l=b:=λhb=>by rcases a7 b rfl with h1|h1;exact ad l cs hl (by rw[hb];exact h1);have:=(M.loc l cs hl).lt;omega
   simp only[St.own,ZH7,this,if_false];exact aj l cs hl
  |_=>exact aj l cs hl
 refine Yf hN az ai hd hw ax (v:=v') (w':=w') (e:=.d (.sl t' (n+m) sz (Yg n row row2))) ?_ a2 mm a5 (h t' a4 bi r k hr au);have ao:ag = #[x',y']:=by apply Array.ext';simpa using u
 have ah:∀vs,Builtin.append_ ak oo.type vs=Builtin.append_ #[t1,t2] oo.type vs:=λvs=>by unfold Builtin.append_;simp[al,am]
 unfold execOp;simp only[a0,ao,resolve,invoke,builtin,Sem.run_bind,Sem.run_pure,Result.andThen_ok,List.map_toArray,ZHM,ZH2,ah,a1]
end
end Go.DL
namespace Go.DL
open Go
variable [Zsc]
variable {kp:Option (List Nat)}{L:Loc}{H:Env}{s:St}{w:World}{os:List DOp}{ds:List D}{B:List (Nat × Rd)}{dst:Option Nat}{tmps:Array Value}{g:G}{Φ:Res->St->Prop}{Z:Nat->Nat}{xs:List Opd}{side:Prop}{row:Nat->List D}
def ZwY(os:List DOp):List (DOp×List Nat):=os.map λo=>(o,[])
section
variable {P:Program}
def Q3(F:Fr P)(kp:Option (List Nat))(dk:List WW)(os:List DOp)(H:Env)(L:Loc)(s:St):Prop:=∀B,DOA F kp dk (ZwY os) H L s B
def ZvH{F:Fr P}{i os ks dk H L s}(h:Q3 F ks dk os H L s):Zw F (.code (.regD i (ZwY os) ks)::dk) H L s:=Zi4 (h [])
def YK{F:Fr P}{ks dk}:∀{os H L s},
  Zjs (λH L s=>Zw F dk (Yn H ks) (ZaZ (Yn H ks) L) s) (λos H L s=>Q3 F (sO ks) dk os H L s) os H L s->Q3 F (sO ks) dk os H L s
 | [],H,L,s,h=>λB=>Zo6 h
 |o::os,H,L,s,h=>by intro B;simp only[Zjs]at h;split at h;rename_i u H' L' s' i;refine Jn i h.1 ?_;split;exact YK h.2 _;exact⟨J6,YK h.2 _⟩;rename_i u pre H' s' i;exact Zo5 i h.1 λb t=>⟨J6,YK (h.2 b t) _⟩;exact h B
def Znj{F:Fr P}{kp dk o os H L s}(hg:Zk H o.guard=sO true){fx xs}(hk:o.k=.call fx xs){p q fd es ds}(hf:Zy H true fx=sO (q,.d fd))(ha:Z8 H true xs=sO (p,es))(u:Ka es=sO ds)(hp:p)(hq:q){Ψ}(hc:WN P fd ds s Ψ)(t:∀d s',Ψ (.ret d) s'->Q3 F kp dk os (Zv H o.dst (.d d)) L s')(i:∀d s',Ψ (.panic d) s'->Y4 F [] [] d s'):Q3 F kp dk (o::os) H L s :=
 λB=>ZfN hg hk hf ha u hp hq hc (λd s' h=>⟨J6,t d s' h _⟩) i
def Zw3{F:Fr P}{kp dk o os H L s}(hg:Zk H o.guard=sO true){fx xs}(hk:o.k=.call fx xs){p q fi first caps es ds}(hf:Zy H true fx=sO (q,.d (.fn (.func fi) first caps)))(ha:Z8 H true xs=sO (p,es))(u:Ka es=sO ds)(hp:p)(hq:q){Ψ}(hc:Za P fi (first++ds++caps) s Ψ)(t:∀d s',Ψ (.ret d) s'->Q3 F kp dk os (Zv H o.dst (.d d)) L s')(i:∀d s',Ψ (.panic d) s'->Y4 F [] [] d s'):Q3 F kp dk (o::os) H L s :=
 Znj hg hk hf ha u hp hq hc.V t i
def ZvC{F:Fr P}{kp dk o os H L s}(u:Zk H o.guard=sO true){x}(hk:o.k=.panic x){p t d}(i:Zy H true x=sO (p,.d (.iface t d)))(hp:p)(h:Y4 F [] [] (.iface t d) s):Q3 F kp dk (o::os) H L s:=λ_=>Zqb u hk i hp h
def ZvD{F:Fr P}{kp dk o os H L s}(hg:Zk H o.guard=sO true){u xs}(hk:o.k=.call u xs){p q t first caps es ds}(hf:Zy H true u=sO (q,.d (.fn (.func t) first caps)))(ha:Z8 H true xs=sO (p,es))(i:Ka es=sO ds)(hp:p)(hq:q){d}(hc:Zf P t (first++ds++caps) d)(h:Q3 F kp dk os (Zv H o.dst (.d d)) L s):Q3 F kp dk (o::os) H L s:=λ_=>ZfM hg hk hf ha i hp hq hc (h _)
end
def Ja(l b:Nat):E->E
 |.d v=>.d v
 |.loc l' off=>if l'=l then .d (.ptr b off) else .loc l' off
 |.when c e=>.when c (Ja l b e)
def JT(l b:Nat):Env->Env
 | []=>[]
 | (t,e)::r=>(t,Ja l b e)::JT l b r
def delL(l:Nat):Loc->Loc
 | []=>[]
 | (k,c)::r=>if k=l then delL l r else (k,c)::delL l r
def Zdp(l b):∀(H t),ZK (JT l b H) t=(ZK H t).map (Ja l b)
 | [],t=>rfl
 | (k,e)::r,t=>by simp only[JT,ZK];by_cases h:k=t;simp[h];simp only[h,if_false];exact Zdp l b r t
def Zc2(l):∀(L x),Zg (delL l L) x=if x=l then nO else Zg L x
 | [],x=>by simp[delL,Zg]
 | (k,c)::r,x=>by simp only[delL];by_cases h:k=l;simp only[h,if_true,Zg,Zc2 l r x];by_cases i:x=l;simp[i];simp[i,show ¬l=x from λh=>i h.symm];simp only[h,if_false,Zg,Zc2 l r x];by_cases i:x=l;subst i;simp[h];simp[i]
section
variable {P:Program}
def ZJ.expose{g Z w L l v e}(h:ZJ g Z w L v e):ZJ g Z w (delL l L) v (Ja l (Z l) e):=by
 induction e with
 |d x=>exact h
 |loc l' off =>obtain⟨⟨u,i⟩,rfl⟩:=h;simp only[Ja];split;rename_i t;subst t;exact Rep.ptr _ _;rename_i t;exact⟨⟨u,by rw[Zc2,if_neg t];exact i⟩,rfl⟩
 |when c e ih=>exact⟨λhc=>ih (h.1 hc),h.2⟩
def Zu.expose{g Z w tmps H L s}(m:Zu g Z w tmps H L s){l cs}(hl:Zg L l=sO cs):
  s (Z l)=nO/\Zu g Z w tmps (JT l (Z l) H) (delL l L) (s.upd (Z l) (.cells cs)):=by
 have u:∀l' i,Zg (delL l L) l'=sO i->l'≠l/\Zg L l'=sO i:=λl' i h=>by rw[Zc2]at h;split at h;simp at h;exact⟨‹_›,h⟩
 refine⟨m.locSt l cs hl,⟨m.st.updL (o:=.cells cs) (m.loc l cs hl) (m.locKept l cs hl),λl' i h=>m.loc l' i (u l' i h).2,λl' i h=>m.locKept l' i (u l' i h).2,λl' i h=>?_,λa b ca cb ha hb ab=>m.inj a b ca cb (u a ca ha).2 (u b cb hb).2 ab,λt e he=>?_⟩⟩;obtain⟨h1,h2⟩:=u l' i h;have:Z l'≠Z l:=λhh=>h1 (m.inj l' l i cs h2 hl hh);simp only[ZH7,this,if_false];exact m.locSt l' i h2;rw[Zdp]at he;simp only[ZHI]at he;obtain⟨e0,h1,rfl⟩:=he;exact(m.env t e0 h1).expose
def Zdk{F:Fr P}{dk}{H}{L}{s}(l){cs}(hl:Zg L l=sO cs)(h:∀b,s b=nO->Zw F dk (JT l b H) (delL l L) (s.upd b (.cells cs))):Zw F dk H L s:=by
 intro k hk g Z w tmps u m;obtain⟨i,t⟩:=m.expose hl;exact h (Z l) i k hk g Z w tmps u t
def WL:List Nat->List D->Env->Env
 |t::ts,a::as9,H=>WL ts as9 ((t,.d a)::H)
 |_,_,H=>H
def Zkd(P:Program)(c:Frame)(cs:List Frame)(Φ:Res->St->Prop):ZvK P where
 T g w m:=∃e w',Zg3 g w Φ e w'/\ZCb P m c cs e w'
 back g w m m' hs h:=by
  obtain⟨e,w',a,b⟩:=h;refine⟨e,w',a,?_⟩;cases e with
  |returned v=>exact Steps.trans hs b
  |panicked ch=>exact Steps.trans hs b
  |outgrown=>exact b.elim
 ext g w g' w' m hx h:=by obtain⟨e,w2,⟨g2,s2,r,d1,d2,d3,d4⟩,b⟩:=h;exact⟨e,w2,⟨g2,s2,r,hx.trans d1,d2,d3,d4⟩,b⟩
def Za3(P:Program)(an:Ann)(fn:FuncId)(N l:Nat)(c:Frame)(cs:List Frame)(Φ:Res->St->Prop):Fr P where
 T:=Zkd P c cs Φ
 b:={ (dE:Frame) with fn,kind:=.normal,roundOf:=sO l }
 cs:=c::cs
 N:=N
 ds:=[]
 an:=an
def K4(F:Fr P)(l:Nat)(Φ:Res->St->Prop):Prop:=∃an fn N c cs,F=Za3 P an fn N l c cs Φ
def Jj{w r o}(i:w.heap[r]?=sO (.loop o)):(getObj r).run P w=.ok (.loop o) w:=by
 simp[getObj,Sem.run,i]
def ZcG{w r o o'}(hb:w.heap[r]?=sO (.loop o')):(setObj r o).run P w=.ok () { w with heap:=w.heap.setIfInBounds r o }:=by
 simp[setObj,Sem.run,hb]
def ZC3{b o'}{o}(hb:w.heap[b]?=sO o'):({ w with heap:=w.heap.setIfInBounds b o }:World).heap[b]?=sO o:=by
 have:=(Array.getElem?_eq_some_iff.1 hb).1;simp[Array.getElem?_setIfInBounds,this]
def Zu.loopTo{g Z w tmps H L s}(m:Zu g Z w tmps H L s){l r st st'}(hs:s l=sO (.loop r st)){lp}(hh:w.heap[l]?=sO (.loop lp))(lp')(h1:lp'.fn=lp.fn/\lp'.params=lp.params/\lp'.assign=lp.assign/\lp'.body=lp.body/\lp'.defers=lp.defers/\lp'.tmps=lp.tmps)(h2:match st' with|.ready=>lp'.state=.ready/\lp'.pending=nO|.busy=>lp'.state=.busy|.done j=>lp'.state=.done/\lp'.pending=sO j):
  Ext g w g { w with heap:=w.heap.setIfInBounds l (.loop lp') }/\Zu g Z { w with heap:=w.heap.setIfInBounds l (.loop lp') } tmps H L (s.upd l (.loop r st')):=by
 obtain⟨hp,l0,a1,a2,a3,a4,a5,a6,a7,a8,a9⟩:=m.st.obj l _ hs;rw[hh]at a1;simp only[ZHu,Obj.loop.injEq]at a1;subst a1;obtain⟨b1,b2,b3,b4,b5,b6⟩:=h1;have he:=Zcm (g:=g) (w:=w) l (.loop lp') (by simp[hdr,hh]) hp (m.st.kept l _ hs);refine⟨he,m.named hs he ψ (λc hc=>JO hc) ⟨hp,lp',ZC3 hh,by rw[b1,a2],by rw[b2,a3],by rw[b3,a4],by rw[b4,a5],by rw[b5,a6],by rw[b6];exact a7,λt e ht=>by rw[b6];exact(a8 t e ht).mono he,h2⟩⟩
def K4.begin{F:Fr P}{l Φ}(hF:K4 F l Φ){dk H L s r}(u:s l=sO (.loop r .ready))(h:Zw F dk H L (s.upd l (.loop r .busy))):Zw F (.beginR::dk) H L s:=by
 obtain⟨an,fn,N,c,t,rfl⟩:=hF;intro k hk;cases hk with
 |beginR ht =>
  intro g Z w tmps hN m;obtain⟨hp,l0,a1,a2,a3,a4,a5,a6,a7,a8,a9,a10⟩:=m.st.obj l _ u;obtain⟨he,m'⟩:=m.loopTo (st':=.busy) u a1 { l0 with state:=.busy } ⟨rfl,rfl,rfl,rfl,rfl,rfl⟩ rfl;have i:(Instr.beginRound l).run P w=.ok () { w with heap:=w.heap.setIfInBounds l (.loop { l0 with state:=.busy }) }:=by simp[Instr.beginRound,Instr.getLoop,Jj a1,ZcG a1,a9]
  refine(Zkd P c t Φ).back _ _ _ _ (.one (stepR_beginRound rfl i)) ?_;exact(Zkd P c t Φ).ext _ _ _ _ _ he (h _ ht g Z _ tmps hN m')
def Ze8{w l l0}(h:w.heap[l]?=sO (.loop l0))(j):
  (Instr.endRound l j).run P w=.ok (.bool j.isNone) { w with heap:=w.heap.setIfInBounds l (.loop { l0 with state:=if j.isNone then .ready else .done,pending:=j }) }:=by
 simp[Instr.endRound,Instr.getLoop,Jj h,ZcG h]
def K4.fin{F:Fr P}{l Φ}(u:K4 F l Φ){H L s s' r}(t:s l=sO (.loop r .busy))(i:s'.sub (s.upd l (.loop r .ready)))(hΦ:Φ (.ret (.bool true)) s'):Zw F [] H L s:=by
 obtain⟨an,fn,N,c,cs,rfl⟩:=u;intro k hk;cases hk;intro g Z w tmps hN m;obtain⟨hp,l0,a1,_⟩:=m.st.obj l _ t;obtain⟨he,m'⟩:=m.loopTo (st':=.ready) t a1 { l0 with state:=.ready,pending:=nO } ⟨rfl,rfl,rfl,rfl,rfl,rfl⟩ ⟨rfl,rfl⟩;exact⟨.returned (.bool true),_,⟨g,s',.ret (.bool true),he,m'.st.sub i,.bool true,hΦ⟩,.one (stepR_round_end rfl rfl (Ze8 a1 nO))⟩
def K4.ret{F:Fr P}{l Φ}(u:K4 F l Φ){dk H L s s' r}(t:s l=sO (.loop r .busy))(i:s'.sub (s.upd l (.loop r (.done .ret))))(hΦ:Φ (.ret (.bool false)) s'):
  Zw F (.code .ret::dk) H L s:=by
 obtain⟨an,fn,N,c,cs,rfl⟩:=u;intro k hk;cases hk with
 |code hc ht =>obtain rfl:=Zst hc;intro g Z w tmps hN m;obtain⟨hp,l0,a1,_⟩:=m.st.obj l _ t;obtain⟨he,m'⟩:=m.loopTo (st':=.done .ret) t a1 { l0 with state:=.done,pending:=sO .ret } ⟨rfl,rfl,rfl,rfl,rfl,rfl⟩ ⟨rfl,rfl⟩;exact⟨.returned (.bool false),_,⟨g,s',.ret (.bool false),he,m'.st.sub i,.bool false,hΦ⟩,.one (stepR_round_ret rfl rfl (Ze8 a1 (sO .ret)))⟩
def K4.exit{F:Fr P}{l id Φ}(u:K4 F l Φ){dk H L s s' r}(hx:Q2 id dk=nO)(t:s l=sO (.loop r .busy))(i:s'.sub (s.upd l (.loop r (.done (.exit id)))))(hΦ:Φ (.ret (.bool false)) s'):Zw F (.code (.exit id)::dk) H L s:=by
 obtain⟨an,fn,N,c,cs,rfl⟩:=u;intro k hk;cases hk with
 |code hc ht =>obtain rfl:=ZuQ hc;intro g Z w tmps hN m;obtain⟨hp,l0,a1,_⟩:=m.st.obj l _ t;obtain⟨he,m'⟩:=m.loopTo (st':=.done (.exit id)) t a1 { l0 with state:=.done,pending:=sO (.exit id) } ⟨rfl,rfl,rfl,rfl,rfl,rfl⟩ ⟨rfl,rfl⟩;exact⟨.returned (.bool false),_,⟨g,s',.ret (.bool false),he,m'.st.sub i,.bool false,hΦ⟩,.one (stepR_round_exit rfl rfl (ZaY ht hx) (Ze8 a1 (sO (.exit id))))⟩
def K4.pan{F l Φ}(hF:K4 F l Φ){H L d s s'}(u:s'.sub s)(hΦ:Φ (.panic d) s')(hfn:∀an t N c cs,F=Za3 P an t N l c cs Φ->∃f,P.funcs[t]?=sO f):Y4 F H L d s:=by
 obtain⟨an,t,N,c,cs,rfl⟩:=hF;intro g Z w v i tmps hN m hr;obtain⟨f,hf⟩:=hfn an t N c cs rfl;refine⟨.panicked [{ v,recovered:=false }],w,⟨g,s',.panic d,Ext.refl g w,m.st.sub u,⟨v,rfl,hr⟩,hΦ⟩,.one ?_⟩;exact step_leave_panicked (P:=P) (fr:={ (Za3 P an t N l c cs Φ).b.atR ⟨tmps,[]⟩ i with mode:=.panicking [{ v,recovered:=false }] }) ⟨rfl,rfl,f,hf⟩
def Zio{g Z w L s N}:∀{ps ds vs tmps H},Zu g Z w tmps H L s->ZH (Rep g w) vs ds->I ds=I ps->(∀t∈ps,t<N)->N<=tmps.size ->
  N<=((ps.zip vs).foldl (λtmps (x:Nat×Value)=>tmps.setIfInBounds x.1 x.2) tmps).size/\Zu g Z w ((ps.zip vs).foldl (λtmps (x:Nat×Value)=>tmps.setIfInBounds x.1 x.2) tmps) (WL ps ds H) L s
 | [],_,_,tmps,H,m,_,_,_,hN=>by simpa[WL]using⟨hN,m⟩
 |t::ps,[],_,tmps,H,m,_,hl,_,_=>by simp at hl
 |t::ps,d::ds,v::vs,tmps,H,m,.cons h1 h2,hl,hp,hN=>by have m':=m.put (t:=t) (v:=v) (e:=.d d) (by have:=hp t ψ;omega) h1;simpa[WL]using Zio m' h2 (by simpa using hl) (λu i=>hp u (by simp[i])) (by simpa using hN)
def Ji:Env->Env
 | []=>[]
 | (t,e)::r=>if (Km e).isEmpty then (t,e)::Ji r else Ji r
def Kd(ks:List Nat)(H:Env):Env:=Ji (Yn H ks)
def Zem:∀{H t e},(H.map (·.1)).Nodup->ZK (Ji H) t=sO e->ZK H t=sO e/\Km e=[]
 | [],t,e,_,h=>by simp[Ji,ZK]at h
 | (k,x)::r,t,e,hn,h=>by
  simp only[ZHM,List.nodup_cons]at hn;simp only[Ji]at h;split at h;rename_i hx;simp only[ZK]at h⊢;by_cases u:k=t;simp only[u,if_true,ZHu]at h⊢;subst h;exact⟨rfl,by simpa using hx⟩;simp only[u,if_false]at h⊢;exact Zem hn.2 h;obtain⟨h1,h2⟩:=Zem hn.2 h;refine⟨?_,h2⟩;have i:k≠t:=λu=>by subst u;have:=ZgM h1;exact hn.1 (List.mem_map.2 ⟨_,this,rfl⟩)
  simp only[ZK,i,if_false];exact h1
def Zou{g Z Z' w L L' v e}(h:ZJ g Z w L v e)(i:Km e=[]):ZJ g Z' w L' v e:=by
 induction e with
 |d x=>exact h
 |loc l o=>simp[Km]at i
 |when c e ih=>exact⟨λt=>ih (h.1 t) i,h.2⟩
def Fr.mark(F:Fr P)(q:Nat):Fr P:={ F with ds:=DD.def (.mark q)::F.ds }
def Zhw{b:Frame}{a k cs w g ps assign body l mark w₁ d nx fr}(he:(Instr.enterLoop b.fn a.tmps ps assign body b.roundOf).run P w=.ok (l,mark) w₁)(hres:(Deferred.ofValue (a.eval g) #[.func (.yield l) #[] #[]]).run P w₁=.ok d w₁)(hinv:(invoke d.target d.args).run P w₁=.ok nx w₁)(hnx:Zf7 P nx=sO fr):
  step P (lone (b.atR a (.code (.rangeFunc g ps assign body)::k)) cs w) =
   .next (lone fr (b.atR { a with defers:=mark++a.defers } (.inRangeFunc l::k)::cs) w₁) :=
 step_lone_go (by
  have t:=Frame.eval_atR b { a with defers:=mark++a.defers } (.inRangeFunc l::k);simp only[Frame.atR]at t;have i:Sem.run P (resolve ({ tmps:=a.tmps,defers:=mark++a.defers }:Act).eval { callee:=.value g,args:=#[.const (.func (.yield l) #[] #[])],argTypes:=#[] } 0) w₁=.ok d w₁:=by
   simp only[resolve];have e1:({ tmps:=a.tmps,defers:=mark++a.defers }:Act).eval g=a.eval g:=by cases g<;>rfl
   have e2:Array.map ({ tmps:=a.tmps,defers:=mark++a.defers }:Act).eval #[Operand.const (Value.func (Fn.yield l) #[] #[])] = #[.func (.yield l) #[] #[]]:=by simp[Act.eval]
   rw[e1,e2];exact hres
  cases nx<;>simp only[Zf7,ZHu,reduceCtorEq]at hnx<;>subst hnx <;>
   simp[stepG,stepG.exec,Frame.atR,Sem.runT_eq,he,GStep.bare_after,stepG.apply,t,Sem.run_bind,i,hinv,Result.andThen])
def Zi8(F:Fr P)(l:Nat)(r:ZbT)(dk:List WW)(H:Env)(L:Loc)(s':St):Prop :=
 (s' l=sO (.loop r .ready)/\Zw F dk H L (s'.del l))\/∃j dj,s' l=sO (.loop r (.done j))/\cc P F.an F.N j=sO dj/\Zw F (.code dj::dk) H L (s'.del l)
def ZlY{w l l0}(h:w.heap[l]?=sO (.loop l0))(hb:l0.state≠.busy):
  (Instr.endLoop l).run P w=.ok l0.pending { w with heap:=w.heap.setIfInBounds l (.loop { l0 with state:=.exhausted }) }:=by
 have:(l0.state==.busy)=false:=by cases hs:l0.state<;>first|rfl|exact absurd hs hb
 simp[Instr.endLoop,Instr.getLoop,Jj h,ZcG h,hb]
def Zot{F:Fr P}{l r dk k H L g Z w tmps s'}(hk:Ww P F.an F.N k dk)(hN:F.N<=tmps.size)(m:Zu g Z w tmps H L s')(h:Zi8 F l r dk H L s'):F.T.T g w (lone (F.b.atR ⟨tmps,F.ds⟩ (.endRangeFunc l::k)) F.cs w):=by
 rcases h with ⟨u,h⟩|⟨j,dj,u,hj,h⟩;obtain⟨hp,l0,a1,a2,a3,a4,a5,a6,a7,a8,a9,t⟩:=m.st.obj l _ u;have he:=Zcm (g:=g) (w:=w) l (.loop { l0 with state:=.exhausted }) (by simp[hdr,a1]) hp (m.st.kept l _ u);have m':=m.drop u he ψ (λc hc=>JO hc);have i:(Instr.endLoop l).run P w=.ok nO { w with heap:=w.heap.setIfInBounds l (.loop { l0 with state:=.exhausted }) }:=by rw[ZlY a1 (by rw[a9];simp)];simp[t]
 refine F.T.back _ _ _ _ (.one (stepR_endRangeFunc i)) ?_;exact F.T.ext _ _ _ _ _ he (h k hk g Z _ tmps hN m');obtain⟨hp,l0,a1,a2,a3,a4,a5,a6,a7,a8,a9,t⟩:=m.st.obj l _ u;have he:=Zcm (g:=g) (w:=w) l (.loop { l0 with state:=.exhausted }) (by simp[hdr,a1]) hp (m.st.kept l _ u);have m':=m.drop u he ψ (λc hc=>JO hc);have i:(Instr.endLoop l).run P w=.ok (sO j) { w with heap:=w.heap.setIfInBounds l (.loop { l0 with state:=.exhausted }) }:=by rw[ZlY a1 (by rw[a9];simp)];simp[t]
 refine F.T.back _ _ _ _ (.one (stepR_endRangeFunc i)) ?_;exact F.T.ext _ _ _ _ _ he (h _ (.code hj hk) g Z _ tmps hN m')
def YJ.mark{F:Fr P}{rs Φ dds}(u:YJ F rs Φ dds)(q):YJ (F.mark q) rs Φ (.mark q::dds):=by
 obtain⟨an,f,df,t,hf,i,rfl⟩:=u;exact⟨an,f,df,t,hf,i,rfl⟩
def YJ.roundOf{F:Fr P}{rs Φ dds}(i:YJ F rs Φ dds):F.b.roundOf=nO:=by
 obtain⟨an,f,df,cs,hf,hrs,rfl⟩:=i;rfl
end
section
variable {P:Program}
def Zxk{op f xs}(h:ck P op=sO (.defer f xs)):∃f' u ats,op=.defer ⟨.value f',u,ats⟩/\ZW f'=sO f/\Zcg u.toList=sO xs:=by
 unfold ck at h;split at h;simp at h;split at h<;>(try(simp at h;done));all_goals (try(repeat' (split at h<;>(try(simp at h;done)))))
 simp at h;obtain⟨rfl,rfl⟩:=h;rename_i c _ _ f' i _ _ f xs hf t;obtain⟨callee,u,ats⟩:=c;simp only at i;exact⟨f',u,ats,by rw[i],hf,t⟩
def Fr.defer(F:Fr P)(i:FuncId)(args caps:List D):Fr P:={ F with ds:=DD.def (.fn i args caps)::F.ds }
def YJ.defer{F:Fr P}{rs Φ dds}(hF:YJ F rs Φ dds)(i args caps):YJ (F.defer i args caps) rs Φ (.fn i args caps::dds):=by
 obtain⟨an,f,df,u,hf,t,rfl⟩:=hF;exact⟨an,f,df,u,hf,t,rfl⟩
def Zmq{F:Fr P}(hround:F.b.roundOf=nO){kp dk o os H L s}(hg:o.guard=nO)(hdn:o.dst=nO){fx xs}(hk:o.k=.defer fx xs){p q i first caps es ds}(hf:Zy H true fx=sO (q,.d (.fn (.func i) first caps)))(ha:Z8 H true xs=sO (p,es))(hds:Ka es=sO ds)(hp:p)(hq:q)(hr1:Zbn (first++ds))(hr2:Zbn caps)(h:DO (F.defer i (first++ds) caps) kp dk os H L s):DO F kp dk (o::os) H L s:=by
 refine Y1 λoo g Z w tmps t j r k ah ad al ae hd hN m hr aq=>?_;have hw:=Z2 m al (c:=true) (by rw[hg];rfl);rw[hk]at ad;obtain⟨f',args,ats,ar,ao,au⟩:=Zxk ad;have ag:Rep g w _ _:=ZX m ao rfl hf hq F.ds;have u:=K1 (Zb0 m rfl F.ds au ha hp) hds;generalize ap:(Act.mk tmps F.ds).eval f'=fv at ag;cases ag with
 |fn _ fs cs' _ _ hn1 hn2 h1 h2 =>
 obtain⟨ak,ac,_,ha2⟩:=Zb1 hr1;obtain⟨vs,aj,_,hv2⟩:=Zb1 hr2;have e1:fs++args.toList.map (Act.mk tmps F.ds).eval=ak:=Zlq ((Ye hn1 h1).append u) ac;have e2:cs'=vs:=Zlq (Ye hn2 h2) aj;have hmap:(Array.map (Act.mk tmps F.ds).eval args)=(args.toList.map (Act.mk tmps F.ds).eval).toArray:=by apply Array.ext';simp
 have am:DD.def (.fn i (first++ds) caps)={ target:=.fn (.func i) cs'.toArray,args:=fs.toArray++(args.toList.map (Act.mk tmps F.ds).eval).toArray }:=by simp only[DD.def,aj,ac,e2,<-e1];simp
 have ai:(execOp (Act.mk tmps F.ds).eval oo).run P w=.ok (.defer (DD.def (.fn i (first++ds) caps))) w:=by rw[am];simp[execOp,ar,resolve,ap,Deferred.ofValue]
 have ab:step P (lone (F.b.atR ⟨tmps,F.ds⟩ (.inRegion t (j::r)::k)) F.cs w)=.next (lone (F.b.atR ⟨tmps,(F.defer i (first++ds) caps).ds⟩ (.inRegion t r::k)) F.cs w):=by
  refine step_lone_go ?_;rw[stepGR_op ah hw,hround,Oper.semAt_none];have af:(F.b.atR ⟨tmps,(F.defer i (first++ds) caps).ds⟩ (.inRegion t (j::r)::k)).finish undef=F.b.atR ⟨tmps,(F.defer i (first++ds) caps).ds⟩ (.inRegion t r::k):=by rw[Frame.finish_atR,ah];simp[Act.put,ae,hdn]
  rw[<-af];simp[stepG.apply,ai,Frame.atR,Fr.defer]
 refine F.T.back _ _ _ _ (.one ab) ?_;exact h t r k hr aq g Z w tmps hN m
def Zka:D->Prop
 |.iface _ (.agg cs)=>Zbn cs
 |.iface _ d=>Zfo d
 |_=>False
def ZqW{d}(h:Zka d):∃v,(∀g w,Rep g w v d)/\∀g w u,Rep g w u d->u=v:=by
 cases d<;>simp[Zka]at h;rename_i t d;by_cases hd:∃cs,d=.agg cs
 .obtain⟨cs,rfl⟩:=hd;obtain⟨vs,h1,h2,i⟩:=Zb1 h;refine⟨.iface t (.agg vs.toArray),λg w=>.iface t _ _ (.agg vs cs (i g w).len (i g w).get h2),λg w u hr=>?_⟩;cases hr with
  |iface _ v _ hv =>
   cases hv with
   |agg vs' _ hn hg _=>rw[Zlq (Ye hn hg) h1]
 have h':Zfo d:=by cases d<;>simp at h<;>first|exact h|exact absurd ⟨_,rfl⟩ hd
 obtain⟨v,h1,h2,i⟩:=ZqV h';refine⟨.iface t v,λg w=>.iface t _ _ (i g w),λg w u hr=>?_⟩;cases hr with
 |iface _ v'' _ hv=>rw[Zvw hv h1]
def Q8(m:Option D)(v:Value)(rec:Bool):FrameMode :=
 match m with
 |none=>.returning
 |some _=>.panicking [{ v,recovered:=rec }]
def ZeF(P:Program)(cf:Frame)(cs:List Frame)(Ψ:Bool->St->Prop):ZvK P where
 T g w m:=∃g' w' s' b,Ext g w g' w'/\Ya g' s' w'/\Ψ b s'/\Steps P m (lone { cf with mode:=if b then .returning else cf.mode } cs w')
 back g w m m' hs h:=let ⟨g',w',s',b,a1,a2,a3,a4⟩:=h;⟨g',w',s',b,a1,a2,a3,Steps.trans hs a4⟩
 ext g w g' w' m hx h:=let ⟨g2,w2,s',b,a1,a2,a3,a4⟩:=h;⟨g2,w2,s',b,hx.trans a1,a2,a3,a4⟩
def Y7(P:Program)(an:Ann)(f:FuncId)(N:Nat)(cf:Frame)(cs:List Frame)(Ψ:Bool->St->Prop)(m:Option D)(v:Value)(rec:Bool):Fr P where
 T:=ZeF P cf cs Ψ
 b:={ (dE:Frame) with fn:=f,kind:=.deferred,roundOf:=nO }
 cs:={ cf with mode:=Q8 m v rec }::cs
 N:=N
 ds:=[]
 an:=an
def Zaq(F:Fr P)(m:Option D)(Ψ:Bool->St->Prop)(rec:Bool):Prop :=
 ∃an f df cf cs v,Go.DL.cf P an f=sO df/\df.res=[]/\cf.mode=Q8 m v false/\(∀d,m=sO d->∀g w,Rep g w v d)/\F=Y7 P an f df.n cf cs Ψ m v rec
def Zb5{an i N rs b}(hf:cf P an i=sO ⟨N,rs,b⟩)(hres:rs=[]){args m s Ψ}(hm:∀d,m=sO d->Zka d)(h:∀F:Fr P,Zaq F m Ψ false->Zw F [.code b] (K6 0 args) [] s):JY P i args m s Ψ:=by
 have ai:=hf;unfold cf at hf;split at hf<;>(try(simp at hf;done));rename_i fn ae;split at hf<;>(try(simp at hf;done));rename_i c hc;split at hf<;>(try(simp at hf;done));rename_i ac;split at hf<;>simp at hf;rename_i rs d hrs hd;obtain⟨rfl,rfl,rfl⟩:=hf;refine⟨⟨fn,ae,by simp[hc],by simpa using ac⟩,λg w vs t cs hs ha u=>?_⟩;obtain⟨v,af,aj⟩:∃v,t.mode=Q8 m v false/\∀d,m=sO d->∀g w,Rep g w v d:=by
  cases m with
  |none=>exact⟨undef,u,λd hd=>by simp at hd⟩
  |some d =>obtain⟨v,h1,h2⟩:=u;obtain⟨v',r1,r2⟩:=ZqW (hm d rfl);have:=r2 g w v h2;subst this;exact⟨v,h1,λd' ad=>by simp only[ZHu]at ad;subst ad;exact r1⟩
 have ag:({ t with mode:=Q8 m v false }:Frame)=t:=by rw[<-af]
 have ab:Frame.enter P i vs.toArray .deferred=(Y7 P an i fn.ntmps t cs Ψ m v false).b.atR { tmps:=vs.toArray++Array.replicate (fn.ntmps-I vs) undef,defers:=[] } [.code c]:=by simp[Frame.enter,Frame.atR,ae,hc,Y7]
 have:=h _ ⟨an,i,_,t,cs,v,ai,hres,af,aj,rfl⟩ [.code c] (.code hd .nil) g (λ_=>0) w (vs.toArray++Array.replicate (fn.ntmps-I vs) undef) (by simp[Y7];omega) (ZgO hs ha);obtain⟨g',w',s',b,a1,a2,a3,a4⟩:=this;refine⟨g',w',s',b,a1,a2,a3,?_⟩;rw[ab];have ah:(Y7 P an i fn.ntmps t cs Ψ m v false).cs=t::cs:=by simp only[Y7,ag]
 rw[ah]at a4;exact a4
def Zaq.end{F:Fr P}{m Ψ rec}(hF:Zaq F m Ψ rec){H L s s'}(hs:s'.sub s)(hΨ:Ψ (m.isNone ||rec) s'){todo g Z w tmps}(M:Zu g Z w tmps H L s):F.T.T g w (lone { F.b.atR ⟨tmps,F.ds⟩ todo with mode:=.returning } F.cs w):=by
 obtain⟨an,f,df,i,cs,v,hf,u,t,hrep,rfl⟩:=hF;unfold cf at hf;split at hf<;>(try(grind;done));rename_i fn ae;split at hf<;>(try(grind;done));split at hf<;>(try(grind;done));split at hf<;>simp at hf;rename_i rs d af hd;subst hf;cases u;obtain⟨rv,ab,_⟩:=Zow M af (p:=True) (ds:=[]) rfl trivial;refine⟨g,w,s',m.isNone ||rec,Ext.refl g w,M.st.sub hs,hΨ,?_⟩;have ad:=step_going_returned (P:=P) (fr:={ (Y7 P an f fn.ntmps i cs Ψ m v rec).b.atR ⟨tmps,[]⟩ todo with mode:=.returning }) (c:={ i with mode:=Q8 m v rec }) (cs:=cs) (w:=w) rfl ⟨rfl,rfl,fn,ae,ab⟩;have ac:({ ({ i with mode:=Q8 m v rec }:Frame) with mode:=settle (Q8 m v rec) }:Frame)={ i with mode:=if (m.isNone ||rec) then .returning else i.mode }:=by
  cases m with
  |none=>rfl
  |some d =>cases rec;simp[t];rfl;rfl
 rw[ac]at ad;exact .one ad
def Zaq.fin{F:Fr P}{m Ψ rec}(u:Zaq F m Ψ rec){H L s s'}(hs:s'.sub s)(hΨ:Ψ (m.isNone ||rec) s'):Zw F [] H L s:=by
 have t:=u;obtain⟨an,f,df,i,cs,v,hf,hres,hmode,hrep,rfl⟩:=u;intro k hk;cases hk;intro g Z w tmps hN M;refine(ZeF P i cs Ψ).back _ _ _ _ (.one (stepR_end rfl)) ?_;exact t.end hs hΨ M
def Zaq.ret{F:Fr P}{m Ψ rec}(u:Zaq F m Ψ rec){dk H L s s'}(hs:s'.sub s)(hΨ:Ψ (m.isNone ||rec) s'):Zw F (.code .ret::dk) H L s:=by
 have t:=u;obtain⟨an,f,df,i,cs,v,hf,hres,hmode,hrep,rfl⟩:=u;intro k hk;cases hk with
 |code hc ht =>obtain rfl:=Zst hc;intro g Z w tmps hN M;refine(ZeF P i cs Ψ).back _ _ _ _ (.one (stepR_ret rfl)) ?_;exact t.end hs hΨ M
def ZhT{op}(h:ck P op=sO .recover):∃t u,op=.call ⟨.builtin .recover,t,u⟩:=by
 unfold ck at h;split at h;simp at h;split at h<;>(try(simp at h;done));all_goals (try(repeat' (split at h<;>(try(simp at h;done)))))
 rename_i c _ _ i;obtain⟨callee,t,u⟩:=c;simp only at i;exact⟨t,u,by rw[i]⟩
def Znm{F:Fr P}{d Ψ}(hF:Zaq F (sO d) Ψ false){kp dk o os H L s}(hg:o.guard=nO)(hk:o.k=.recover)(h:∀F':Fr P,Zaq F' (sO d) Ψ true->DO F' kp dk os (Zv H o.dst (.d d)) L s):DO F kp dk (o::os) H L s:=by
 obtain⟨an,f,df,i,cs,v,hf,ai,ac,u,rfl⟩:=hF;refine Y1 λoo g Z w tmps t j r k ah ab ak af hd hN m hr al=>?_;have hw:=Z2 m ak (c:=true) (by rw[hg];rfl);have am:=Z9 ab (by rw[hk];rfl);rw[hk]at ab;obtain⟨args,ats,ao⟩:=ZhT ab;have aj:(execOp (Act.mk tmps []).eval oo).run P w=.ok .recover w:=by simp[execOp,ao,resolve,invoke,builtin]
 have ad:step P (lone ((Y7 P an f df.n i cs Ψ (sO d) v false).b.atR ⟨tmps,[]⟩ (.inRegion t (j::r)::k)) (Y7 P an f df.n i cs Ψ (sO d) v false).cs w) =
   .next (lone ((Y7 P an f df.n i cs Ψ (sO d) v true).b.atR ((Act.mk tmps []).put oo.dst v) (.inRegion t r::k)) (Y7 P an f df.n i cs Ψ (sO d) v true).cs w):=by
  refine step_lone_go ?_;rw[stepGR_op ah hw,Oper.semAt_eq _ _ _ am];have ag:((Y7 P an f df.n i cs Ψ (sO d) v false).b.atR ⟨tmps,[]⟩ (.inRegion t (j::r)::k)).finish v=(Y7 P an f df.n i cs Ψ (sO d) v true).b.atR ((Act.mk tmps []).put oo.dst v) (.inRegion t r::k):=by rw[Frame.finish_atR,ah];rfl
  rw[<-ag];simp[stepG.apply,aj,Frame.atR,Y7,tryRecover,Q8]
 refine(ZeF P i cs Ψ).back _ _ _ _ (.one ad) ?_;obtain⟨ae,e1,e2,m'⟩:=Zfm m hN hd (v:=v) (e:=.d d) (u d rfl g w) [];rw[af,e1];exact h _ ⟨an,f,df,i,cs,v,hf,ai,ac,u,rfl⟩ t r k hr al g Z w ae e2 m'
def Zgp{F:Fr P}{Ψ rec}(hF:Zaq F nO Ψ rec){kp dk o os H L s}(hg:o.guard=nO)(hk:o.k=.recover)(h:DO F kp dk os (Zv H o.dst (.d .niliface)) L s):DO F kp dk (o::os) H L s:=by
 obtain⟨an,f,df,i,cs,v,hf,hres,hmode,hrep,rfl⟩:=hF;refine Y1 λoo g Z w tmps t j r k ae u ag hdst hd hN m hr ah=>?_;have hw:=Z2 m ag (c:=true) (by rw[hg];rfl);have ai:=Z9 u (by rw[hk];rfl);rw[hk]at u;obtain⟨args,ats,aj⟩:=ZhT u;have af:(execOp (Act.mk tmps []).eval oo).run P w=.ok .recover w:=by simp[execOp,aj,resolve,invoke,builtin]
 have ab:step P (lone ((Y7 P an f df.n i cs Ψ nO v rec).b.atR ⟨tmps,[]⟩ (.inRegion t (j::r)::k)) (Y7 P an f df.n i cs Ψ nO v rec).cs w) =
   .next (lone ((Y7 P an f df.n i cs Ψ nO v rec).b.atR ((Act.mk tmps []).put oo.dst .nilIface) (.inRegion t r::k)) (Y7 P an f df.n i cs Ψ nO v rec).cs w):=by
  refine step_lone_go ?_;rw[stepGR_op ae hw,Oper.semAt_eq _ _ _ ai];have ad:((Y7 P an f df.n i cs Ψ nO v rec).b.atR ⟨tmps,[]⟩ (.inRegion t (j::r)::k)).finish .nilIface=(Y7 P an f df.n i cs Ψ nO v rec).b.atR ((Act.mk tmps []).put oo.dst .nilIface) (.inRegion t r::k):=by rw[Frame.finish_atR,ae];rfl
  rw[<-ad];simp[stepG.apply,af,Frame.atR,Y7,tryRecover,Q8]
 refine(ZeF P i cs Ψ).back _ _ _ _ (.one ab) ?_;obtain⟨ac,e1,e2,m'⟩:=Zfm m hN hd (v:=.nilIface) (e:=.d .niliface) .niliface [];simp_all;exact h t r k hr ah g Z w ac e2 m'
end
def ZCB(n):inR .i64 n↔-9223372036854775808<=n/\n<=9223372036854775807:=by
 simp[inR,IntKind.min,IntKind.max,IntKind.signed,IntKind.bits]
def ZDi(n):inR .u8 n↔0<=n/\n<=255:=by
 simp[inR,IntKind.min,IntKind.max,IntKind.signed,IntKind.bits]
def ZCC(n):inR .u32 n↔0<=n/\n<=4294967295:=by
 simp[inR,IntKind.min,IntKind.max,IntKind.signed,IntKind.bits]
def ZCD(n):inR .u64 n↔0<=n/\n<=18446744073709551615:=by
 simp[inR,IntKind.min,IntKind.max,IntKind.signed,IntKind.bits]
def ZCA(n):inR .i32 n↔-2147483648<=n/\n<=2147483647:=by
 simp[inR,IntKind.min,IntKind.max,IntKind.signed,IntKind.bits]
def ZBp(a b):(if a=true then b else false)=(a&&b):=by cases a<;>rfl
def ZCF(a b):(if a=true then true else b)=(a ||b):=by cases a<;>rfl
def ZCi{d i}(h:d=i):(K7 [d]).Le i:=h▸ZHx d
def ZeD{b i}(h:b=i):(K7 [.bool b]).Le (.bool i):=h▸ZHx _
def Zg2{k n m}(h:n=m):(K7 [.int k n]).Le (.int k m):=h▸ZHx _
def ZCj{l m}(h:l=m):(K7 [.str l]).Le (.str m):=h▸ZHx _
def JC{l d}(h:.tup l=d)(i:K7 l=.tup l):(K7 l).Le d:=by rw[i,h];exact ZHx _
def St.upd_same(s:St)(b o):(s.upd b o) b=sO o:=by simp[ZH7]
def St.upd_ne(s:St){b c}(o)(h:c≠b):(s.upd b o) c=s c:=by simp[ZH7,h]
def St.upd_upd(s:St)(b o o'):(s.upd b o).upd b o'=s.upd b o':=by
 funext c;simp only[ZH7];by_cases h:c=b<;>simp[h]
def St.upd_comm{s:St}{b c}{o o'}(h:c≠b):(s.upd b o).upd c o'=(s.upd c o').upd b o:=by
 funext x;simp only[ZH7];by_cases i:x=b;subst i;simp[Ne.symm h];simp[i]
def St.sub_upd{b}(o)(h:s b=nO):s.sub (s.upd b o):=λc x i=>by
 have:c≠b:=λt=>by rw[t,h]at i;simp at i
 rw[St.upd_ne s o this];exact i
def St.sub_trans{s s' i:St}(h:s.sub s')(t:s'.sub i):s.sub i:=λb o u=>t b o (h b o u)
inductive DWf:D->Prop where
 |int (k:IntKind) (n:Int) (h:inR k n):DWf (.int k n)
 |str (l:List UInt8) (h:I l<=big):DWf (.str l)
 |agg (cs:List D) (h:∀c∈cs,DWf c):DWf (.agg cs)
 |tup (cs:List D) (h:∀c∈cs,DWf c):DWf (.tup cs)
 |sl (t:Tok) (n s:Nat) (row:Nat->List D) (h:n<=big) (hl:∀i,i<n->(row i).length=s) (hr:∀i,i<n->∀c∈row i,DWf c):DWf (.sl t n s row)
 |ep (cs:List D) (o:Nat) (h:∀c∈cs,DWf c):DWf (.ep cs o)
 |iface (t:TypeId) (d:D) (h:DWf d):DWf (.iface t d)
 |msl (b o n cap s:Nat) (h:n<=cap) (h':cap<=big):DWf (.msl b o n cap s)
 |fn (f:Fn) (a b:List D) (h:∀c∈a,DWf c) (h':∀c∈b,DWf c):DWf (.fn f a b)
 |other (d:D) (h:match d with|.int .. |.str _|.agg _|.tup _|.sl .. |.ep .. |.iface .. |.msl .. |.fn ..=>False|_=>True):DWf d
def Zcc{Q:D->Prop}{vs:List Value}(hn:I vs=I ds)(h:∀(i:Nat) (v:Value) (d:D),vs[i]?=sO v->ds[i]?=sO d->Q d):∀c∈ds,Q c:=by
 intro c t;obtain⟨i,u,rfl⟩:=ZHR t;exact h i (vs[i]' ω) _ (by simp[show i<I vs by omega]) (by simp[u])
def Rep.wf{g w v d}(h:Rep g w v d):DWf d:=by
 induction h with
 |int k n h=>exact .int k n h
 |str s l h hb=>exact .str l hb
 |agg vs cells hn _ _ ih=>exact .agg _ (Zcc hn ih)
 |tup vs ds hn _ ih=>exact .tup _ (Zcc hn ih)
 |sl0 a t s row ht=>exact .sl t 0 s row (Nat.zero_le _) (λi hi=>by omega) (λi hi=>by omega)
 |sl b o n cap s row t f hl hc hp _ one ht hcap hb ih =>refine .sl t n s row ω hl λi hi c u=>?_;obtain⟨j,hj,rfl⟩:=ZHR u;exact ih i j _ hi (by simp[hj])
 |ep b o off cells f hc hp _ one ih =>refine .ep _ _ λc u=>?_;obtain⟨j,hj,rfl⟩:=ZHR u;exact ih j _ (by simp[hj])
 |iface t v d _ ih=>exact .iface t d ih
 |msl b off n cap s h hb=>exact .msl _ _ _ _ _ h hb
 |mslx a b off s=>exact .msl _ _ _ _ _ (ZHK _) (Nat.zero_le _)
 |fn f fs cs df dc hnf hnc _ _ ihf ihc=>exact .fn f df dc (Zcc hnf ihf) (Zcc hnc ihc)
 |_=>exact .other _ trivial
def DWf.int_inv{k n}(h:DWf (.int k n)):inR k n:=by
 cases h with
 |int _ _ h=>exact h
 |other _ h=>exact h.elim
def DWf.str_inv{l}(h:DWf (.str l)):I l<=big:=by
 cases h with
 |str _ h=>exact h
 |other _ h=>exact h.elim
def DWf.agg_inv{cs}(h:DWf (.agg cs)):∀c∈cs,DWf c:=by
 cases h with
 |agg _ h=>exact h
 |other _ h=>exact h.elim
def DWf.sl_inv{t n s row}(h:DWf (.sl t n s row)):n<=big/\(∀i,i<n->(row i).length=s)/\∀i,i<n->∀c∈row i,DWf c:=by
 cases h with
 |sl _ _ _ _ h1 h2 h3=>exact⟨h1,h2,h3⟩
 |other _ h=>exact h.elim
def ZAO{g w vs ds}(h:ZH (Rep g w) vs ds):∀d∈ds,DWf d:=Zcc h.len λi v d u t=>(h.get i v d u t).wf
section
variable {P:Program}
def ZiZ{f args s Φ}(t:∃fn,P.funcs[f]?=sO fn/\fn.body.isSome=true/\(fn.name == "runtime.NumGoroutine")=false)(h:(∀a∈args,DWf a)->Za P f args s Φ):Za P f args s Φ :=
 ⟨t,λg w vs u i=>(h (ZAO i)).2 g w vs u i⟩
def ZrH{an f df}(u:cf P an f=sO df):∃fn,P.funcs[f]?=sO fn/\fn.body.isSome=true/\(fn.name == "runtime.NumGoroutine")=false:=by
 unfold cf at u;split at u<;>(try(simp at u;done));rename_i fn t;split at u<;>(try(simp at u;done));rename_i c hc;split at u<;>(try(simp at u;done));rename_i i;exact⟨fn,t,by simp[hc],by simpa using i⟩
def Zbe{an f N rs b}(i:cf P an f=sO ⟨N,rs,b⟩){args s Φ}(h:(∀a∈args,DWf a)->∀F:Fr P,YJ F rs Φ []->Zw F [.code b] (K6 0 args) [] s):Za P f args s Φ :=
 ZiZ (ZrH i) λt=>Zb i (h t)
def WG{an f N rs b}(i:cf P an f=sO ⟨N,rs,b⟩){args d}(h:(∀a∈args,DWf a)->∀(F:Fr P) (s:St),(∀{dk:List WW} {H:Env} {L:Loc} {s':St} {p:Prop} {ds:List D},YC H L s' rs=sO (p,ds)->p->(K7 ds).Le d->s.sub s'->Zw F (.code .ret::dk) H L s') ->
   Zw F [.code b] (K6 0 args) [] s):Zf P f args d :=
 λs=>ZiZ (ZrH i) λhw=>Zb i λF hF=>h hw F s λt u h3 h4=>hF.ret d s t u h3 h4 ⟨rfl,rfl⟩
def ZAM{F:Fr P}{dk H L s}(t){d}(ht:ZK H t=sO (.d d))(h:DWf d->Zw F dk H L s):Zw F dk H L s :=
 λk u g Z w tmps i m=>h (Rep.wf (m.env t _ ht)) k u g Z w tmps i m
end
section
variable {P:Program}
def ZL(P:Program)(f:FuncId)(args:List D)(s:St)(d:D)(s':St):Prop:=Za P f args s λr t=>r=.ret d/\t=s'
def Zaz{F:Fr P}{kp dk o os H L s s'}(hg:Zk H o.guard=sO true){fx xs}(hk:o.k=.call fx xs){p q f first caps es ds}(hf:Zy H true fx=sO (q,.d (.fn (.func f) first caps)))(ha:Z8 H true xs=sO (p,es))(u:Ka es=sO ds)(hp:p)(hq:q){d}(hc:ZL P f (first++ds++caps) s d s')(h:DO F kp dk os (Zv H o.dst (.d d)) L s'):DO F kp dk (o::os) H L s :=
 Zg0 hg hk hf ha u hp hq hc (λd' t ⟨i,h2⟩=>by simp only[Res.ret.injEq]at i;subst i;subst h2;exact h) (λd' t ⟨i,_⟩=>by simp at i)
def Zi1{F:Fr P}{kp dk o f os H L s s' B}(hg:Zk H o.guard=sO true){fx xs}(hk:o.k=.call fx xs){p q fi first caps es ds}(hf:Zy H true fx=sO (q,.d (.fn (.func fi) first caps)))(ha:Z8 H true xs=sO (p,es))(u:Ka es=sO ds)(hp:p)(hq:q){d}(hc:ZL P fi (first++ds++caps) s d s')(hB:Wg f s s' L L B)(h:DOA F kp dk os (Zv H o.dst (.d d)) L s' (YZ f B)):DOA F kp dk ((o,f)::os) H L s B :=
 ZhH hg hk hf ha u hp hq hc (λd' t ⟨i,h2⟩=>by simp only[Res.ret.injEq]at i;subst i;subst h2;exact⟨hB,h⟩) (λd' t ⟨i,_⟩=>by simp at i)
def Zxb{F:Fr P}{kp dk o os H L s s'}(hg:Zk H o.guard=sO true){fx xs}(hk:o.k=.call fx xs){p q f es ds}(hf:Zy H true fx=sO (q,.d f))(ha:Z8 H true xs=sO (p,es))(u:Ka es=sO ds)(hp:p)(hq:q){d}(hc:WN P f ds s λr t=>r=.ret d/\t=s')(h:DO F kp dk os (Zv H o.dst (.d d)) L s'):DO F kp dk (o::os) H L s :=
 Zbz hg hk hf ha u hp hq hc (λd' t ⟨i,h2⟩=>by simp only[Res.ret.injEq]at i;subst i;subst h2;exact h) (λd' t ⟨i,_⟩=>by simp at i)
def Zf.le{f args d i}(h:Zf P f args d)(e:d=i):Zf P f args i:=e▸h
end
inductive LeC:List D->List D->Prop where
 |nil:LeC [] []
 |cons {d d':D} {l l':List D} (h:d.Le d') (t:LeC l l'):LeC (d::l) (d'::l')
def LeC.refl(l):LeC l l:=by
 induction l with
 |nil=>exact .nil
 |cons d l ih=>exact .cons (ZHx d) ih
def LeC.len{l l'}(h:LeC l l'):I l=I l':=by
 induction h with
 |nil=>rfl
 |cons _ _ ih=>simp[ih]
def LeC.get{l l'}(h:LeC l l'){i:Nat}{u}(t:l'[i]?=sO u):∃d,l[i]?=sO d/\d.Le u:=by
 induction h generalizing i with
 |nil=>simp at t
 |cons h _ ih =>
  cases i with
  |zero=>simp at t;subst t;exact⟨_,rfl,h⟩
  |succ i=>exact ih (by simpa using t)
def Zr9{cs cs'}(h:LeC cs cs'):(D.agg cs).Le (.agg cs'):=by
 intro g w v t;cases t with
 |agg vs _ hn hr one=>exact .agg vs _ (hn.trans h.len) (λi v d' t hd=>by obtain⟨d,u,h2⟩:=h.get hd;exact h2 _ _ _ (hr i v d t u)) one
def ZuN{cs cs'}(h:LeC cs cs'):(D.tup cs).Le (.tup cs'):=by
 intro g w v t;cases t with
 |tup vs _ hn hr=>exact .tup vs _ (hn.trans h.len) (λi v d' t hd=>by obtain⟨d,u,h2⟩:=h.get hd;exact h2 _ _ _ (hr i v d t u))
def ZkY{t n s row}:(D.sl t n s row).Le (.sl .none n s row):=by
 intro g w v i;cases i with
 |sl0 _ _ _ _ ht=>exact .sl0 _ _ _ _ ψ
 |sl b o n cap s row t f hl hc hp hr one ht hcap hb=>exact .sl b o n cap s row _ f hl hc hp hr one trivial hcap hb
def Znn{t}{n s}{row row'}(h:∀i,i<n->LeC (row i) (row' i)):(D.sl t n s row).Le (.sl t n s row'):=by
 intro g w v hv;cases hv with
 |sl0 _ _ _ _ ht=>exact .sl0 _ _ _ _ ht
 |sl b o n cap s row t f hl hc hp hr one ht hcap hb =>exact .sl b o n cap s _ _ f (λi u=>(h i u).len.symm.trans (hl i u)) hc hp (λi j d u hd=>by obtain⟨d',h1,h2⟩:=(h i u).get hd;exact h2 _ _ _ (hr i j d' u h1)) one ht hcap hb
def YL{s row t}(i:∀b,t≠.tip b):D.nilsl.Le (.sl t 0 s row):=by
 intro g w v u;cases u;exact .sl0 _ _ _ _ i
def D.Le.trans{a b c:D}(h:a.Le b)(i:b.Le c):a.Le c:=λg w v t=>i g w v (h g w v t)
def Zee{t n u s row row'}(hn:n=u)(h:∀i,i<n->row i=row' i):(D.sl t n s row).Le (.sl .none u s row'):=by
 subst hn;exact ZkY.trans (Znn λi hi=>by rw[h i hi];exact LeC.refl _)
inductive Zr8:E->E->Prop where
 |d {x y:D} (h:x.Le y):Zr8 (.d x) (.d y)
 |refl (e:E):Zr8 e e
inductive LeE:Env->Env->Prop where
 |nil:LeE [] []
 |cons {t:Nat} {e e':E} {H H':Env} (h:Zr8 e e') (r:LeE H H'):LeE ((t,e)::H) ((t,e')::H')
 |skip {t:Nat} {e:E} {H H':Env} (r:LeE H H'):LeE ((t,e)::H) ((t,e)::H')
inductive LeL:Loc->Loc->Prop where
 |nil:LeL [] []
 |cons {t:Nat} {c c':List D} {H H':Loc} (h:LeC c c') (r:LeL H H'):LeL ((t,c)::H) ((t,c')::H')
 |skip {t:Nat} {c:List D} {H H':Loc} (r:LeL H H'):LeL ((t,c)::H) ((t,c)::H')
def LeE.get{H H'}(h:LeE H H'){t e'}(i:ZK H' t=sO e'):∃e,ZK H t=sO e/\Zr8 e e':=by
 induction h with
 |nil=>simp[ZK]at i
 |cons h _ ih =>simp only[ZK]at i⊢;split at i;simp at i;subst i;rename_i u;rw[if_pos u];exact⟨_,rfl,h⟩;rename_i u;rw[if_neg u];exact ih i
 |skip _ ih =>simp only[ZK]at i⊢;split at i;simp at i;subst i;rename_i u;rw[if_pos u];exact⟨_,rfl,.refl _⟩;rename_i u;rw[if_neg u];exact ih i
def LeL.get{H H'}(h:LeL H H'){t e'}(i:Zg H' t=sO e'):∃e,Zg H t=sO e/\LeC e e':=by
 induction h with
 |nil=>simp[Zg]at i
 |cons h _ ih =>simp only[Zg]at i⊢;split at i;simp at i;subst i;rename_i u;rw[if_pos u];exact⟨_,rfl,h⟩;rename_i u;rw[if_neg u];exact ih i
 |skip _ ih =>simp only[Zg]at i⊢;split at i;simp at i;subst i;rename_i u;rw[if_pos u];exact⟨_,rfl,LeC.refl _⟩;rename_i u;rw[if_neg u];exact ih i
def LeL.getI{H H'}(h:LeL H H'){t e}(i:Zg H t=sO e):∃e',Zg H' t=sO e':=by
 induction h with
 |nil=>simp[Zg]at i
 |cons h _ ih =>simp only[Zg]at i⊢;split at i;rename_i u;rw[if_pos u];exact⟨_,rfl⟩;rename_i u;rw[if_neg u];exact ih i
 |skip _ ih =>simp only[Zg]at i⊢;split at i;rename_i u;rw[if_pos u];exact⟨_,rfl⟩;rename_i u;rw[if_neg u];exact ih i
def YI.le{g w b ds ds'}(h:YI g w b ds)(t:LeC ds ds'):YI g w b ds':=by
 obtain⟨hp,vs,T,h1,h2,h3,h4⟩:=h;exact⟨hp,vs,T,h1,h2.trans t.len,λi v d' hv hd=>by obtain⟨d,u,e2⟩:=t.get hd;exact e2 _ _ _ (h3 i v d hv u),h4⟩
def ZJ.le{g Z w L v e i}(h:ZJ g Z w L v e)(t:Zr8 e i):ZJ g Z w L v i:=by
 cases t with
 |refl=>exact h
 |d hd=>exact hd _ _ _ h
def Zu.le{H H':Env}{L L':Loc}(m:Zu g Z w tmps H L s)(hρ:LeE H H')(hL:LeL L L'):Zu g Z w tmps H' L' s:={
 st:=m.st
 loc l cs h:=by obtain⟨c,u,h2⟩:=hL.get h;exact(m.loc l c u).le h2
 locKept l cs h:=by obtain⟨c,u,_⟩:=hL.get h;exact m.locKept l c u
 locSt l cs h:=by obtain⟨c,u,_⟩:=hL.get h;exact m.locSt l c u
 inj l l' cs cs' h h' hν:=by obtain⟨c,u,_⟩:=hL.get h;obtain⟨c',i,_⟩:=hL.get h';exact m.inj l l' c c' u i hν
 env t e h:=by
  obtain⟨e0,u,h2⟩:=hρ.get h;exact((m.env t e0 u).le h2).locs λl cs hc=>⟨hL.getI hc,rfl⟩ }
section
variable {P:Program}
def ZuM{F:Fr P}{dk H H' L L' s}(hρ:LeE H H')(i:LeL L L')(h:Zw F dk H' L' s):Zw F dk H L s :=
 λk u g Z w tmps t m=>h k u g Z w tmps t (m.le hρ i)
end
def Qe{H}:LeE H H:=by
 induction H with
 |nil=>exact .nil
 |cons a r ih=>obtain⟨t,e⟩:=a;exact .cons (.refl _) ih
def ZaB{H}:LeL H H:=by
 induction H with
 |nil=>exact .nil
 |cons a r ih=>obtain⟨t,e⟩:=a;exact .cons (LeC.refl _) ih
def Zpc{l cs}(i:K7 l=.tup l)(h:LeC l cs):(K7 l).Le (.tup cs):=by rw[i];exact ZuN h
def K5{d i}(h:d.Le i):(K7 [d]).Le i:=h
def Zhi:Bool->List Nat->St->St->Loc->Loc->List (Nat×Rd)->Prop
 |true,_,_,_,_,_,_=>True
 |false,fl,s,s',L,L',B=>Wg fl s s' L L' B
def Zla:Bool->List Nat->List (Nat×Rd)->List (Nat×Rd)
 |true,_,B=>B
 |false,fl,B=>YZ fl B
def ZhZ(K:Env->Loc->St->Prop)(X:List (DOp×List Nat)->Env->Loc->St->List (Nat×Rd)->Prop):List (DOp×List Nat)->Env->Loc->St->List (Nat×Rd)->Prop
 | [],H,L,s,_=>K H L s
 |o::os,H,L,s,B=>match ZC o.1 H L s with
  |.ok side H' L' s'=>side/\Zhi (Y3 o.1.k) o.2 s s' L L' B/\ZhZ K X os H' L' s' (Ki o.1 H++Zla (Y3 o.1.k) o.2 B)
  |.all side pre H' s'=>side/\∀b,pre b->Zhi false o.2 s (s' b) L L B/\ZhZ K X os (H' b) L (s' b) (Zla false o.2 B)
  |.stop=>X (o::os) H L s B
def Zk2{K X}:∀{os H L s B},ZhZ K X os H L s B->ZhY K X os H L s B
 | [],H,L,s,B,h=>h
 |o::os,H,L,s,B,h=>by simp only[ZhZ,ZhY]at h⊢;split at h<;>rename_i i<;>simp only[i];cases u:Y3 o.1.k;rw[u]at h;exact⟨h.1,h.2.1,Zk2 h.2.2⟩;rw[u]at h;simp only[Zhi,Zla]at h;exact⟨h.1,Zk2 h.2.2⟩;refine⟨h.1,λb t=>?_⟩;exact⟨(h.2 b t).1,Zk2 (h.2 b t).2⟩;exact h
section
variable {P:Program}
def Yt{F:Fr P}{ks dk os H L s B}(h:ZhZ (λH L s=>Zw F dk (Yn H ks) (ZaZ (Yn H ks) L) s) (λos H L s B=>DOA F (sO ks) dk os H L s B) os H L s B):DOA F (sO ks) dk os H L s B:=ZkT (Zk2 h)
def JA{F:Fr P}{kp dk o os H L s0}(s t)(hg:Zk H o.guard=sO true){e sz b z x y}(hk:o.k=.append e sz b z x y){p q n m row row2 dy dx}(hx:Zy H true x=sO (p,.d dx))(hsl:Zcf sz dx=sO (t,n,row))(hy:Zy H true y=sO (q,.d dy))(u:JF sz dy=sO (m,row2))(hp:p)(hq:q)(hs:s0=s.own t (n*sz))(hok:t.okIn s)(hb:(n+m)*b<=140737488355328)(i:n+m<=big)(h:∀t':Tok,t'.okIn s->DO F kp dk os (Zv H o.dst (.d (.sl t' (n+m) sz (Yg n row row2)))) L (s.own t' ((n+m)*sz))):
  DO F kp dk (o::os) H L s0:=by
 subst hs;exact Zw7 hg hk hx hsl hy hp hq u hok hb i h
end
section
variable {P:Program}
def ZE{an f N rs b}(i:cf P an f=sO ⟨N,rs,b⟩){args d s s'}(h:(∀a∈args,DWf a)->∀(F:Fr P),(∀{dk:List WW} {H:Env} {L:Loc} {t:St} {p:Prop} {ds:List D},YC H L t rs=sO (p,ds)->p->(K7 ds).Le d->s'.sub t->Zw F (.code .ret::dk) H L t) ->
   Zw F [.code b] (K6 0 args) [] s):ZL P f args s d s' :=
 ZiZ (ZrH i) λhw=>Zb i λF hF=>h hw F λu h2 h3 h4=>hF.ret d s' u h2 h3 h4 ⟨rfl,rfl⟩
def VT(P:Program)(f:D)(args:List D)(s:St)(d:D)(s':St):Prop:=WN P f args s λr t=>r=.ret d/\t=s'
def ZL.VT{f first args caps s s' d}(h:ZL P f (first++args++caps) s d s'):VT P (.fn (.func f) first caps) args s d s':=Za.V h
def Zf.VT{f first args caps d}(h:Zf P f (first++args++caps) d)(s):VT P (.fn (.func f) first caps) args s d s:=Za.V (h s)
def ZvG{F:Fr P}{kp dk o os H L s s'}(hg:Zk H o.guard=sO true){t xs}(hk:o.k=.call t xs){p q f es ds}(hf:Zy H true t=sO (q,.d f))(u:Z8 H true xs=sO (p,es))(i:Ka es=sO ds)(hp:p)(hq:q){d}(hc:VT P f ds s d s')(h:DO F kp dk os (Zv H o.dst (.d d)) L s'):DO F kp dk (o::os) H L s:=Zxb hg hk hf u i hp hq hc h
def ZCc{F:Fr P}{kp dk o f os H L s s' B}(hg:Zk H o.guard=sO true){fx xs}(hk:o.k=.call fx xs){p q fv es ds}(hf:Zy H true fx=sO (q,.d fv))(ha:Z8 H true xs=sO (p,es))(u:Ka es=sO ds)(hp:p)(hq:q){d}(hc:VT P fv ds s d s')(hB:Wg f s s' L L B)(h:DOA F kp dk os (Zv H o.dst (.d d)) L s' (YZ f B)):DOA F kp dk ((o,f)::os) H L s B :=
 ZfN hg hk hf ha u hp hq hc (λd' t ⟨i,h2⟩=>by simp only[Res.ret.injEq]at i;subst i;subst h2;exact⟨hB,h⟩) (λd' t ⟨i,_⟩=>by simp at i)
def ZH.leC{g w vs a i}(h:ZH (Rep g w) vs a)(t:LeC a i):ZH (Rep g w) vs i:=by
 induction t generalizing vs with
 |nil=>exact h
 |cons hd _ ih=>cases h with
  |cons h1 h2=>exact .cons (hd g w _ h1) (ih h2)
def Za.leA{f args i s Φ}(u:LeC args i)(h:Za P f i s Φ):Za P f args s Φ :=
 ⟨h.1,λg w vs hs t=>h.2 g w vs hs (ZH.leC t u)⟩
def Zf.leA{f args i d}(t:LeC args i)(h:Zf P f i d):Zf P f args d:=λs=>Za.leA t (h s)
def LeC.one{d i}(h:d.Le i):LeC [d] [i]:=.cons h .nil
def LeC.two{d i e t}(h:d.Le i)(u:e.Le t):LeC [d,e] [i,t]:=.cons h (.cons u .nil)
end
def St.or(s t:St):St:=λb=>match s b with
 |some o=>sO o
 |none=>t b
def W8(s t:St)(b o):(s.or t).upd b o=(s.upd b o).or t:=by
 funext c;simp only[St.or,ZH7];by_cases h:c=b<;>simp[h]
def Zt{s t:St}{b o}(h:s b=sO o):(s.or t) b=sO o:=by simp[St.or,h]
def ZF{s t:St}{b}(h:s b=nO):(s.or t) b=t b:=by simp[St.or,h]
def Kv{s t:St}:s.sub (s.or t):=λb o h=>Zt h
def Z4(s t:St):Prop:=∀b o,t b=sO o->s b=nO
def Zvu{s t}(h:Z4 s t):t.sub (s.or t):=λb o i=>by rw[ZF (h b o i)];exact i
def or_assoc(s t u:St):(s.or t).or u=s.or (t.or u):=by
 funext b;simp only[St.or];cases s b<;>rfl
def St.single(b:Nat)(o:QL):St:=λc=>if c=b then sO o else nO
def Yl{b o}:(St.single b o) b=sO o:=by simp[St.single]
def ZaS{b c}{o}(h:c≠b):(St.single b o) c=nO:=by simp[St.single,h]
def Qn{b o}(h:s b=nO):s.upd b o=s.or (St.single b o):=by
 funext c;simp only[St.or,ZH7,St.single];by_cases i:c=b;subst i;simp[h];simp only[i,if_false];cases s c<;>rfl
def W6{s b o}(h:s b=nO):Z4 s (St.single b o):=λc x i=>by
 simp only[St.single]at i;split at i;rename_i e;rw[e];exact h;simp at i
def G.keep(g:G)(k:Nat->Prop):G:={ g with kept:=k }
def WV{g k w v d}(h:Rep g w v d):Rep (g.keep k) w v d:=h.mono0 (λ_=>ZHK _) (λ_ _ _=>rfl) (λ_ _ h=>h)
def Zyp{g k Z w L v e}(h:ZJ g Z w L v e):ZJ (g.keep k) Z w L v e:=by
 induction e with
 |d d=>exact WV h
 |loc l off=>exact h
 |when c e ih=>exact⟨λi=>ih (h.1 i),h.2⟩
def Zsu{g k w b ds}(h:YI g w b ds):YI (g.keep k) w b ds:=by
 obtain⟨hp,vs,T,t,u,h4,h5⟩:=h;exact⟨hp,vs,T,t,u,λi v d hv hd=>WV (h4 i v d hv hd),h5⟩
def Zoi{g k w b o}(h:WI g w b o):WI (g.keep k) w b o:=by
 cases o with
 |cells ds=>exact Zsu h
 |map es =>obtain⟨ab,en,u,h1,h2,h3,h4,h5,h6⟩:=h;exact⟨ab,en,u,h1,h2,λi x d hv hd=>WV (h3 i x d hv hd),λi x d hv hd=>WV (h4 i x d hv hd),h5,h6⟩
 |tip n=>exact h
 |mapE kp es kk n =>obtain⟨ab,io,ac,en,u,h1,h2,h3,h4,h5,h6,h7⟩:=h;exact⟨ab,io,ac,en,u,h1,h2,λi x d hi hv hd=>WV (h3 i x d hi hv hd),λi x d hi hv hd=>WV (h4 i x d hi hv hd),λe he=>⟨WV (h5 e he).1,(h5 e he).2⟩,h6,h7⟩
 |loop r st =>obtain⟨hp,l,h1,h2,h3,h4,h5,h6,h7,h8,h9⟩:=h;exact⟨hp,l,h1,h2,h3,h4,h5,h6,h7,λt e he=>Zyp (h8 t e he),h9⟩
 |dfr=>exact h
def ZH.imp{α β R S}{i:List α}{bs:List β}(h:ZH R i bs)(t:∀a b,R a b->S a b):ZH S i bs:=by
 induction h with
 |nil=>exact .nil
 |cons h _ ih=>exact .cons (t _ _ h) ih
def Zs3{s t:St}(hd:Z4 s t)(h:Ya g (s.or t) w):Ya (g.keep λb=>g.kept b\/(t b).isSome) s w:={
 obj b o hb:=Zoi (h.obj b o (Zt hb))
 kept b o hb:=by rintro(hk|hk);exact h.kept b o (Zt hb) hk;obtain⟨x,i⟩:=Option.isSome_iff_exists.1 hk;rw[hd b x i]at hb;simp at hb
 fresh b hb:=by have u:=h.fresh b hb;refine⟨u.1,?_⟩;rintro(hk|hk);exact u.2 hk;obtain⟨x,i⟩:=Option.isSome_iff_exists.1 hk;have:=(h.obj b x (by rw[ZF (hd b x i)];exact i)).lt;omega
 tabs n cs hc:=WV (h.tabs n cs hc) }
def Zqz{g w w' s t Φ e}(hd:Z4 s t)(h:Ya g (s.or t) w)(hp:Zg3 (g.keep λb=>g.kept b\/(t b).isSome) w Φ e w'):
  Zg3 g w (λr S=>∃s',Φ r s'/\Z4 s' t/\S=s'.or t) e w':=by
 obtain⟨g',s',r,he,hs,hr,hΦ⟩:=hp;have u:=he.keptEq;have ab:Ext g w (g'.keep g.kept) w':=⟨he.size,he.prot,he.cell,he.hdr,λb hb=>he.kept b (.inl hb),λb hb=>he.keptProt b (.inl hb),rfl,he.os,he.output,he.tape⟩;have ac:Z4 s' t:=λb o hb=>by
  cases i:s' b with
  |none=>rfl
  |some x=>exact absurd (by rw[u];exact .inr (by rw[hb];rfl)) (hs.kept b x i)
 refine⟨g'.keep g.kept,s'.or t,r,ab,⟨λb o hb=>?_,λb o hb=>?_,λb hb=>?_,λn cs hc=>WV (hs.tabs n cs hc)⟩,?_,s',hΦ,ac,rfl⟩
 .cases i:s' b with
  |some x =>rw[Zt i]at hb;cases hb;exact Zoi (hs.obj b _ i)
  |none =>rw[ZF i]at hb;have h0:=h.obj b o (by rw[ZF (hd b o hb)];exact hb);have hk:(g.keep λb=>g.kept b\/(t b).isSome).kept b:=.inr (by rw[hb];rfl);exact h0.mono ab (he.kept b hk) (he.keptProt b hk)
 .cases i:s' b with
  |some x=>exact λhk=>hs.kept b x i (by rw[u];exact .inl hk)
  |none =>rw[ZF i]at hb;exact h.kept b o (by rw[ZF (hd b o hb)];exact hb)
 have:=hs.fresh b hb;exact⟨this.1,λhk=>this.2 (by rw[u];exact .inl hk)⟩;cases e<;>cases r<;>simp only[Znr]at hr⊢;exact WV hr;obtain⟨v,h1,h2⟩:=hr;exact⟨v,h1,WV h2⟩
section
variable {P:Program}
def Za.frame{f args s t Φ}(i:Z4 s t)(h:Za P f args s Φ):Za P f args (s.or t) λr S=>∃s',Φ r s'/\Z4 s' t/\S=s'.or t :=
 ⟨h.1,λg w vs u ha=>(h.2 _ w vs (Zs3 i u) (ha.imp λ_ _=>WV)).mono λ_ _ hp=>Zqz i u hp⟩
def WN.frame{f args s t Φ}(i:Z4 s t)(h:WN P f args s Φ):WN P f args (s.or t) λr S=>∃s',Φ r s'/\Z4 s' t/\S=s'.or t:=by
 intro g w fv vs u hf ha;obtain⟨d,nx,fr,h1,h2,h3,h4⟩:=h _ w fv vs (Zs3 i u) (WV hf) (ha.imp λ_ _=>WV);refine⟨d,nx,fr,h1,h2,h3,λc cs=>?_⟩;obtain⟨e,w',h5,h6⟩:=h4 c cs;exact⟨e,w',Zqz i u h5,h6⟩
end
section
variable {P:Program}
def Zra{an l N r s da db args Φ}(hs:s l=sO (.loop r .ready))(hlen:I args=I r.params)(ha:cc P an N r.assign=sO da)(hb:cc P an N r.body=sO db)(hN:r.N=N)(hp:∀t∈r.params,t<N)(h:∀F:Fr P,K4 F l Φ->F.b.fn=r.fn->Zw F [.code da,.beginR,.code db] (WL r.params args r.H) [] s):WN P (.fn (.yield l) [] []) args s Φ:=by
 intro g w fv vs ab hf i;cases hf with
 |fn _ fs ac _ _ hn1 hn2 h1 h2 =>
 obtain rfl:fs=[]:=by simpa using hn1
 obtain⟨hp0,l0,a1,a2,a3,a4,a5,a6,a7,a8,a9,a10⟩:=ab.obj l _ hs;have u:vs.toArray.size=l0.params.size:=by
  have e1:=i.len;have e2:I l0.params.toList=I r.params:=by rw[a3]
  simp at e2⊢;omega
 refine⟨_,_,_,by simp[Deferred.ofValue];rfl,by simp[invoke,Instr.yield,Instr.getLoop,Jj a1,u];rfl,rfl,λc cs=>?_⟩;have M:Zu g (λ_=>0) w l0.tmps r.H [] s:=⟨ab,λl cs h=>by simp[Zg]at h,λl cs h=>by simp[Zg]at h,λl cs h=>by simp[Zg]at h,λl l' cs ac h=>by simp[Zg]at h,a8⟩;obtain⟨ad,M'⟩:=Zio M i hlen (by rw[hN]at *;exact hp) (by rw[<-hN];exact a7);have:=h (Za3 P an r.fn N l c cs Φ) ⟨an,r.fn,N,c,cs,rfl⟩ rfl [.code r.assign,.beginRound,.code r.body] (.code ha (.beginR (.code hb .nil))) g (λ_=>0) w _ ad M';have ae:(Za3 P an r.fn N l c cs Φ).b.atR { tmps:=(r.params.zip vs).foldl (λtmps (x:Nat×Value)=>tmps.setIfInBounds x.1 x.2) l0.tmps,defers:=[] } [.code r.assign,.beginRound,.code r.body] =
   Frame.round l l0.fn ((l0.params.zip vs.toArray).foldl (λtmps (x:Nat×Value)=>tmps.setIfInBounds x.1 x.2) l0.tmps) l0.assign l0.body .normal:=by
  simp only[Frame.atR,Frame.round,a2,a4,a5,<-a3]
  congr 1
  rw[<-Array.foldl_toList];simp
 have e:(Za3 P an r.fn N l c cs Φ).ds=[]:=rfl;rw[e,ae]at this;have e2:(l0.params.zip vs.toArray).size=l0.params.size:=by simp at u⊢;omega
 rw[e2]at this;exact this
def Zr6{F:Fr P}(hr:F.b.roundOf=nO){o ps da db dk H L s p fv}(hf:Zy H true o=sO (p,.d fv))(hp:p)(ks)(hks:(Yn H ks).map (·.1) |>.Nodup)(h:∀q l r,s q=nO->s l=nO->q≠l->r.H=Kd ks H->r.params=ps->r.fn=F.b.fn->cc P F.an F.N r.assign=sO da->cc P F.an F.N r.body=sO db->r.N=F.N->(∀t∈ps,t<F.N) ->
   ∃Ψ,WN P fv [.fn (.yield l) [] []] ((s.upd q .dfr).upd l (.loop r .ready)) Ψ/\(∀d s',Ψ (.ret d) s'->Zi8 (F.mark q) l r dk H L s')/\(∀d s',Ψ (.panic d) s'->Y4 (F.mark q) H L d s')):
  Zw F (.code (.rangeF o ps da db)::dk) H L s:=by
 intro k hk;cases hk with
 | @code _ _ kt _ hc ht =>
 obtain⟨f',al,a',b',rfl,ar,ay,ha,hb,aw⟩:=Zqj hc;intro g Z w tmps hN m;have au:Rep g w _ fv:=ZX m ar rfl hf hp F.ds;have ah:=J4 (g:=g) (w:=w) (.deferred (sO [])) m.st.fresh;have af:=ah.ext m.st.fresh;obtain⟨hq,m1⟩:=m.newObj ah (o:=.dfr) ⟨(m.st.fresh _ (ZHK _)).1,Kf w⟩;let w1:=w.alloc (.deferred (sO []));let lp:Go.Loop:={ state:=.ready,pending:=nO,fn:=F.b.fn,tmps:=tmps,params:=al,assign:=a',body:=b',defers:=w.heap.size };let r:ZbT:={ fn:=F.b.fn,params:=ps,assign:=a',body:=b',defers:=w.heap.size,H:=Kd ks H,N:=F.N };have ai:=J4 (g:=g) (w:=w1) (.loop lp) m1.st.fresh;have ad:=ai.ext m1.st.fresh;obtain⟨hl,m2⟩:=m1.newObj ai (o:=.loop r .ready) ⟨(m1.st.fresh _ (ZHK _)).1,lp,Kf w1,rfl,ay,rfl,rfl,rfl,hN,λt e aq=>by
  obtain⟨h1,h2⟩:=Zem hks aq;exact Zou (((m1.env t e (ZdG H ks t e h1))).mono ad) h2,rfl,rfl⟩
 have hqsz:w1.heap.size=w.heap.size+1:=by simp[w1]
 have av:s w1.heap.size=nO:=by have ax:¬w1.heap.size=w.heap.size:=ω;have h0:(s.upd w.heap.size .dfr) w1.heap.size=nO:=hl;simp[ZH7,ax]at h0;exact h0
 obtain⟨Ψ,hV,ak,aj⟩:=h w.heap.size w1.heap.size r hq av ω rfl rfl rfl ha hb rfl aw;have ae:Rep g (w1.alloc (.loop lp)) _ fv:=(au.mono af).mono ad;obtain⟨d,nx,fr,am,ao,ap,hC⟩:=hV (ZfR g Z L) (w1.alloc (.loop lp)) _ [.func (.yield w1.heap.size) #[] #[]] m2.callSt (Wt ae rfl) (.cons (.fn (.yield w1.heap.size) [] [] [] [] rfl rfl ψ ψ) .nil);have ac:(Instr.enterLoop F.b.fn tmps al a' b' F.b.roundOf).run P w=.ok (w1.heap.size,[{ target:=.collected w.heap.size,args:=#[] }]) (w1.alloc (.loop lp)):=by rw[hr];simp[Instr.enterLoop,w1,lp]
 have ab:=Zhw (P:=P) (b:=F.b) (a:=⟨tmps,F.ds⟩) (k:=kt) (cs:=F.cs) ac am ao ap;obtain⟨e,w',⟨g',s',res,x1,x2,x3,x4⟩,i⟩:=hC (F.b.atR { tmps:=tmps,defers:=[{ target:=.collected w.heap.size,args:=#[] }]++F.ds } (.inRangeFunc w1.heap.size::kt)) F.cs;obtain⟨ag,hm⟩:=m2.afterCall x1 x2;have u:=(af.trans ad).trans ag;cases e with
 |returned v =>
  cases res with
  |panic d=>exact x3.elim
  |ret d =>refine F.T.back _ _ _ _ (.head ab i) ?_;exact F.T.ext _ _ _ _ _ u (Zot (F:=F.mark w.heap.size) ht hN hm (ak d s' x4))
 |panicked ch =>
  cases res with
  |ret d=>exact x3.elim
  |panic d =>obtain⟨v,rfl,hv⟩:=x3;refine F.T.back _ _ _ _ (.head ab i) ?_;exact F.T.ext _ _ _ _ _ u (aj d s' x4 _ _ _ v _ _ hN hm (Wt hv rfl))
 |outgrown=>exact i.elim
def ZvM{F:Fr P}{H L d s s'}(hs:s'.sub s)(h:Y4 F H L d s'):Y4 F H L d s :=
 λg Z w v i tmps t m u=>h g Z w v i tmps t (m.sub hs) u
inductive Oc where
 |next
 |stop (c:Code)
 |pan (d:D)
def Oc.res:Oc->Res
 |.next=>.ret (.bool true)
 |.stop _=>.ret (.bool false)
 |.pan d=>.panic d
def Zmn(P:Program)(y:D)(n:Nat)(args:Nat->List D)(go:Nat->Oc)(A:Nat->St->Prop):Prop :=
 ∀j,j<n->(∀i,i<j->go i=.next)->∀a,A j a->WN P y (args j) a λr a'=>r=(go j).res/\A (j+1) a'
inductive Zg1(n:Nat)(go:Nat->Oc)(A:Nat->St->Prop)(a:St):Res->Prop where
 |all (h:∀i,i<n->go i=.next) (ha:A n a):Zg1 n go A a (.ret (.tup []))
 |stop (m:Nat) (c:Code) (hm:m<n) (h:∀i,i<m->go i=.next) (hc:go m=.stop c) (ha:A (m+1) a):Zg1 n go A a (.ret (.tup []))
 |pan (m:Nat) (d:D) (hm:m<n) (h:∀i,i<m->go i=.next) (hc:go m=.pan d) (ha:A (m+1) a):Zg1 n go A a (.panic d)
def ZcS(P:Program)(fv:D)(n:Nat)(args:Nat->List D)(t:St):Prop :=
 ∀(y:D) (go:Nat->Oc) (A:Nat->St->Prop) (a0:St),Zmn P y n args go A->A 0 a0->Z4 a0 t->WN P fv [y] (a0.or t) λr S=>∃a,Zg1 n go A a r/\a.sub S
def lpS(q l:Nat)(r:ZbT)(st:LSt):St:=(St.single q .dfr).or (St.single l (.loop r st))
structure Zsb(F:Fr P)(busy:St)(E:Oc->St->Prop):Prop where
 fin:∀{H:Env} {L:Loc} {S a:St},E .next a->Z4 a busy->(a.or busy).sub S->Zw F [] H L S
 ret:∀{dk:List WW} {H:Env} {L:Loc} {S a:St},E (.stop .ret) a->Z4 a busy->(a.or busy).sub S->Zw F (.code .ret::dk) H L S
 exit:∀{id:Nat} {dk:List WW} {H:Env} {L:Loc} {S a:St},Q2 id dk=none->E (.stop (.exit id)) a->Z4 a busy->(a.or busy).sub S->Zw F (.code (.exit id)::dk) H L S
 pan:∀{H:Env} {L:Loc} {d:D} {S a:St},E (.pan d) a->Z4 a busy->(a.or busy).sub S->Y4 F H L d S
def YJ.ex{F:Fr P}{rs Φ dds}(t:YJ F rs Φ dds):∃f,P.funcs[F.b.fn]?=sO f:=by
 obtain⟨an,f,df,cs,u,hrs,rfl⟩:=t;obtain⟨i,h,_⟩:=ZrH u;exact⟨i,h⟩
def Zau{q l r st}:(lpS q l r st) q=sO .dfr:=Zt Yl
def QB{q l r st}(h:q≠l):(lpS q l r st) l=sO (.loop r st):=by
 unfold lpS;rw[ZF (ZaS (Ne.symm h))];exact Yl
def Zfe{q l c r st}(i:c≠q)(t:c≠l):(lpS q l r st) c=nO:=by
 unfold lpS;rw[ZF (ZaS i)];exact ZaS t
def Zte{q l r r' st st' a}(h:Z4 a (lpS q l r st))(hq:q≠l):Z4 a (lpS q l r' st'):=λb o u=>by
 by_cases i:b=q;rw[i];exact h q _ Zau;by_cases t:b=l;rw[t];exact h l _ (QB hq);rw[Zfe i t]at u;grind
def ZpB{q l r st st' a S}(hq:q≠l)(hd:Z4 a (lpS q l r st))(hs:(a.or (lpS q l r st)).sub S):(a.or (lpS q l r st')).sub (S.upd l (.loop r st')):=λb o i=>by
 by_cases t:b=l;subst t;rw[ZF (hd b _ (QB hq)),QB hq]at i;rw[St.upd_same];exact i;rw[St.upd_ne _ _ t];refine hs b o ?_;by_cases u:b=q;subst u;rw[ZF (hd b _ Zau),Zau]at i⊢;exact i;cases ha:a b with
 |some x=>rw[Zt ha]at i⊢;exact i
 |none=>rw[ZF ha,Zfe u t]at i;grind
def Zum{F:Fr P}{q l:Nat}{r:ZbT}(t:K4 F l Φ)(i:q≠l)(hex:∃f,P.funcs[F.b.fn]?=sO f){E:Oc->St->Prop}(u:∀oc a,E oc a->Z4 a (lpS q l r .busy)->Φ oc.res (a.or (lpS q l r (match oc with|.next=>.ready|.stop c=>.done c|.pan _=>.busy)))):Zsb F (lpS q l r .busy) E:={
 fin he hd hs:=t.fin (s':=_) (hs l _ (by rw[ZF (hd l _ (QB i))];exact QB i)) (ZpB i hd hs) (u .next _ he hd)
 ret he hd hs:=t.ret (hs l _ (by rw[ZF (hd l _ (QB i))];exact QB i)) (ZpB i hd hs) (u (.stop .ret) _ he hd)
 exit hx he hd hs:=t.exit hx (hs l _ (by rw[ZF (hd l _ (QB i))];exact QB i)) (ZpB i hd hs) (u (.stop (.exit _)) _ he hd)
 pan he hd hs:=t.pan hs (u (.pan _) _ he hd) λan fn N c cs e=>by
  obtain⟨f,hf⟩:=hex;refine⟨f,?_⟩;have:F.b.fn=fn:=by rw[e];rfl
  rw[<-this];exact hf }
end
end Go.DL
namespace Go.DL
open Go Go.Lib
variable [Zsc]
section
variable {P:Program}
def Zec{F:Fr P}{kp dk o os H L s}(hg:Zk H o.guard=sO true){e sz b z x y}(hk:o.k=.append e sz b z x y)
  {p q t n m row row2 dy dx} (hx:Zy H true x=sO (p,.d dx)) (hsl:Zcf sz dx=sO (t,n,row)) (hy:Zy H true y=sO (q,.d dy)) (hp:p) (hq:q) (hel:∀g w v,Rep g w v dy->∃news,Wx g w sz m news row2/\ZaC P w sz m v news) (hok:t.okIn s)
  (hb:(n+m)*b<=140737488355328) (hbig:n+m<=big) (h:∀t':Tok,t'.okIn s->DO F kp dk os (Zv H o.dst (.d (.sl t' (n+m) sz (Yg n row row2)))) L (s.own t' ((n+m)*sz))) :
  DO F kp dk (o::os) H L (s.own t (n*sz)):=by
 refine Y1 λoo g Z w tmps bi i r k az ab ar ai hd hN M hr au=>?_;have hw:=Z2 M ar hg;have ax:=Z9 ab (by rw[hk];rfl);rw[hk]at ab;obtain⟨x',y',ag,ak,t1,t2,tu,a0,u,al,am,bb,bc,ay,ba,hz,ap,be,bf,h0,hzl⟩:=JS ab;subst ap;have a8:Rep g w _ (.sl t n sz row):=ZeE (ZX M be rfl hx hp F.ds) hsl;have a9:Rep g w _ _:=ZX M bf rfl hy hq F.ds;obtain⟨zv,hz1,bg,hz3,ie,ac,bh⟩:=KK (g:=g) (w:=w) hz;have ae:ie.size=sz:=by simpa[ZP,ac]using ba
 have af:zv.cells.size=sz:=by have:=bg.len;simp at this;omega
 have aq:P.bytesOf e=ie.bytes:=by simp[Program.bytesOf,ac]
 rw[aq]at hb;obtain⟨news,av,aw⟩:=hel _ _ _ a9;obtain⟨v',w',g',t',a1,a2,a3,a4,a5,a6,a7⟩:=Zsm (ty:=oo.type) bb bc ay ac bh ae af h0 M.st hok a8 av aw hb hbig;have ad:∀l cs,Zg L l=sO cs->t≠.tip (Z l):=λl cs hl ht=>by have:=M.locSt l cs hl;rw[ht]at this;simp[St.own,ZH7]at this
 have aj:∀l cs,Zg L l=sO cs->s (Z l)=nO:=λl cs hl=>by
  cases hx:s (Z l) with
  |none=>rfl
  |some o=>have:=YR (k:=n*sz) hok _ _ hx;rw[M.locSt l cs hl]at this;simp at this
 have mm:Zu g' Z w' tmps H L (s.own t' ((n+m)*sz)):=by
  refine⟨a3,λl cs hl=>(M.loc l cs hl).mono a2 (a6 (Z l) (M.loc l cs hl).lt (ad l cs hl)).1 (a6 (Z l) (M.loc l cs hl).lt (ad l cs hl)).2,λl cs hl=>by rw[a2.keptEq];exact M.locKept l cs hl,λl cs hl=>?_,M.inj,λt e he=>(M.env t e he).mono a2⟩;cases t' with
  |tip b =>
   have:¬Z l=b:=λhb=>by rcases a7 b rfl with h1|h1;exact ad l cs hl (by rw[hb];exact h1);have:=(M.loc l cs hl).lt;omega
   simp only[St.own,ZH7,this,if_false];exact aj l cs hl
  |_=>exact aj l cs hl
 refine Yf hN az ai hd hw ax (v:=v') (w':=w') (e:=.d (.sl t' (n+m) sz (Yg n row row2))) ?_ a2 mm a5 (h t' a4 bi r k hr au);have ao:ag = #[x',y']:=by apply Array.ext';simpa using u
 have ah:∀vs,Builtin.append_ ak oo.type vs=Builtin.append_ #[t1,t2] oo.type vs:=λvs=>by unfold Builtin.append_;simp[al,am]
 unfold execOp;simp only[a0,ao,resolve,invoke,builtin,Sem.run_bind,Sem.run_pure,Result.andThen_ok,List.map_toArray,ZHM,ZH2,ah,a1]
def Zf6{g w v b off cap sz}(h:Rep g w v (.msl b off 0 cap sz)):∃news,Wx g w sz 0 news (λ_=>[])/\ZaC P w sz 0 v news:=by
 cases h with
 |mslx a _ _ _=>exact⟨[],⟨ψ,λi u=>by omega,λi j v d u=>by omega,ψ⟩,λt=>by simp[Builtin.lenOf],λt _=>by simp[Builtin.firstCells,loadCells,loadCellsFrom]⟩
 |msl _ _ _ _ _ hn hb=>exact⟨[],⟨ψ,λi u=>by omega,λi j v d u=>by omega,ψ⟩,λt=>by simp[Builtin.lenOf],λt _=>run_firstCells_some (P:=P) t sz 0 ⟨b,off,nO⟩ 0 cap [] ψ (λk v hv=>by simp at hv)⟩
def Zed{F:Fr P}{dk H L s}(t){tk sz row}(ht:ZK H t=sO (.d (.sl tk 0 sz row)))(h1:Zw F dk ((t,.d .nilsl)::H) L s)
  (h2:∀b off cap,Zw F dk ((t,.d (.msl b off 0 cap sz))::H) L s):Zw F dk H L s:=by
 intro k hk g Z w tmps hN m;have hr:Rep g w (tmps.getD t undef) (.sl tk 0 sz row):=m.env t _ ht;have i:∀d,Rep g w (tmps.getD t undef) d->Zu g Z w tmps ((t,.d d)::H) L s:=λd hd=>⟨m.st,m.loc,m.locKept,m.locSt,m.inj,λt' e' u=>by
  simp only[ZK]at u;split at u;rename_i hx;subst hx;simp only[ZHu]at u;subst u;exact hd;exact m.env t' e' u⟩
 generalize tmps.getD t undef=v at hr i;cases hr with
 |sl0 a _ _ _ _ =>
  cases a with
  |none=>exact h1 k hk g Z w tmps hN (i _ .nilsl)
  |some a=>exact h2 0 0 0 k hk g Z w tmps hN (i _ (.mslx a 0 0 _))
 |sl b o n cap s row t f hl hc hp hr one ht hcap hb=>exact h2 b o cap k hk g Z w tmps hN (i _ (.msl _ _ _ _ _ hcap hb))
end
end Go.DL
namespace Go.DL
open Go
variable [Zsc]
variable {kp:Option (List Nat)}{L:Loc}{H:Env}{s:St}{w:World}{os:List DOp}{ds:List D}{B:List (Nat × Rd)}{dst:Option Nat}{tmps:Array Value}{g:G}{Φ:Res->St->Prop}{Z:Nat->Nat}{xs:List Opd}{side:Prop}{row:Nat->List D}
section
variable {P:Program}
def Ztr{a:St}{q o}(h:a q=nO):(a.or (St.single q o)).del q=a:=by
 funext b;simp only[St.del];by_cases i:b=q;rw[if_pos i,i,h];rw[if_neg i];cases t:a b with
 |some x=>exact Zt t
 |none=>rw[ZF t];exact ZaS i
def YJ.retM{F:Fr P}{rs Φ dds}(t:YJ F rs Φ dds){q a dk H L}(i:a q=nO)(h:Unw P dds nO a (ZkW H L rs Φ)):
  Zw (F.mark q) (.code .ret::dk) H L (a.or (St.single q .dfr)) :=
 (t.mark q).retU ⟨by rw[ZF i];exact Yl,by rw[Ztr i];exact h⟩
def YJ.ret1{F:Fr P}{rs Φ}(hF:YJ F rs Φ []){q a dk H L}(hq:a q=nO){p ds}(d s')(i:YC H L a rs=sO (p,ds))(t:p)(u:(K7 ds).Le d)(h4:s'.sub a)(h5:Φ (.ret d) s'):
  Zw (F.mark q) (.code .ret::dk) H L (a.or (St.single q .dfr)):=hF.retM hq ⟨p,ds,d,s',i,t,u,h4,h5⟩
def YJ.fin1{F:Fr P}{rs Φ}(hF:YJ F rs Φ []){q a H L}(i:a q=nO){p ds}(d s')(t:YC H L a rs=sO (p,ds))(u:p)(h3:(K7 ds).Le d)(h4:s'.sub a)(h5:Φ (.ret d) s'):
  Zw (F.mark q) [] H L (a.or (St.single q .dfr)) :=
 (hF.mark q).finU ⟨by rw[ZF i];exact Yl,by rw[Ztr i];exact⟨p,ds,d,s',t,u,h3,h4,h5⟩⟩
def YJ.pan1{F:Fr P}{rs Φ}(hF:YJ F rs Φ []){q a H L d}(i:a q=nO)(s')(t:s'.sub a)(u:Φ (.panic d) s'):Y4 (F.mark q) H L d (a.or (St.single q .dfr)) :=
 (hF.mark q).panU ⟨by rw[ZF i];exact Yl,by rw[Ztr i];exact⟨d,s',ZHx d,t,u⟩⟩
def Zjr{a t}(h:Z4 a t){q o}(i:t q=sO o):a q=nO:=h q o i
end
section
variable {P:Program}
def KL{F:Fr P}{dk H L s b ds ds'}(h:s b=sO (.cells ds))(hl:LeC ds ds')(k:Zw F dk H L (s.upd b (.cells ds'))):Zw F dk H L s:=by
 intro kk hk g Z w tmps hN m;have hc:YI g w b ds:=m.st.obj b _ h;exact k kk hk g Z w tmps hN ⟨m.st.updL (o:=.cells ds') (hc.le hl) (m.st.kept b _ h),m.loc,m.locKept,λl t u=>by
  have i:Z l≠b:=λe=>by have:=m.locSt l t u;rw[e,h]at this;simp at this
  rw[St.upd_ne _ _ i];exact m.locSt l t u,m.inj,m.env⟩
end
def Zyu{s cs r}:∀{len},I cs=len*s->(∀i,i<len->part cs (i*s) s=r i)->cs=(ZHJ len).flatMap r:=by
 intro len hl hr;have t:∀k,k<=len->cs.take (k*s)=(ZHJ k).flatMap r:=by
  intro k;induction k with
  |zero=>intro _;simp
  |succ k ih =>
   intro u;rw[List.range_succ,List.flatMap_append,<-ih ω,ZHU,Nat.one_mul,List.take_add]
   congr 1
   simp only[List.flatMap_cons,List.flatMap_nil,ZH3];rw[<-hr k u];rfl
 have:=t len (ZHK _);rw[<-hl,ZH0]at this;exact this
def ZjG(c:Array Value)(T:TypeId)(i:∀b,w.heap.size<=b->g.prot b=0/\¬g.kept b):JZ g w g (w.drew.alloc (.cells c T)):={
 size:=by simp
 old b hb:=(by first|exact heap_alloc_old w.drew _ b hb|exact heap_alloc_old w.drew _ hb)
 prot b hb:=rfl
 fresh b hb:=by
  have:(w.drew.alloc (.cells c T)).heap.size=w.heap.size+1:=by simp
  rw[this]at hb;exact(i b ω).1
 kept:=rfl
 os:=rfl
 output:=rfl
 tape:=rfl }
section
variable {P:Program}
def ZAW{g w len s z t e}{parts:List (Nat×Value)}{ds}(hu:P.underlying t=sO (.slice e))(hsz:ZP P e=sO s)(hz:Zaa P e=sO z)(hdis:Qu len (parts.map (·.1))=true)(hzl:I z=s)(hs0:0<s)(hbig:len*s<=2 ^ 24)(hl0:0<len)(hd:ZH (Rep g w) (parts.map (·.2)) ds)(hp:K9 s ds=true):
  ∃cv:Array Value,(Instr.buildSlice t len parts.toArray).run P w=.ok (.slice (sO ⟨w.heap.size,0,nO⟩) len len) (w.alloc (.cells cv e)) /\
   ZH (Rep g w) cv.toList ((ZHJ len).flatMap (ZR z ((parts.map (·.1)).zip ds)))/\∀v∈cv,v.one1=true:=by
 obtain⟨zv,hz1,al,ar,ie,ai,av⟩:=KK (g:=g) (w:=w) hz;have u:ie.size=s:=by simpa[ZP,ai]using hsz
 have ac:zv.cells.size=s:=by have:=al.len;simp at this;omega
 have hn:(parts.map (·.1)).length=I ds:=by have:=hd.len;simpa using this
 let c0:Array Value:=(Array.range (len*s)).map (zv.cells[· % zv.cells.size]!);let d0:List D:=(ZHJ (len*s)).map λi=>z.getD (i % s) .undef;have ag:ZH (Rep g w) c0.toList d0:=by refine Ye (by simp[c0,d0]) (λi v d hv hd=>?_);simp only[c0,d0,Array.toList_map,Array.toList_range,List.getElem?_map,ZHI]at hv hd;obtain⟨a,ha,rfl⟩:=hv;obtain⟨b,hb,rfl⟩:=hd;rw[ha]at hb;simp only[ZHu]at hb;subst hb;have ab:a % s<s:=Nat.mod_lt _ hs0;refine al.get (a % s) _ _ ?_ ?_;rw[ac];simp[getElem!_pos,ac,ab];simp[ZHL,hzl,ab]
 have af:∀v∈c0,v.one1=true:=λv hv=>by simp only[c0,Array.mem_map]at hv;obtain⟨a,_,rfl⟩:=hv;have ab:a % zv.cells.size<zv.cells.size:=Nat.mod_lt _ ω;rw[getElem!_pos zv.cells (a % zv.cells.size) ab];exact ar _ (Array.getElem_mem ab)
 have ae:I d0=len*s:=by simp[d0]
 obtain⟨cs,ad,am,ah⟩:=ZjA (parts.map (·.1)) ds d0 hdis hn hp ae;obtain⟨cv,ao,ap,aq⟩:=Zhe (g:=g) (w:=w) (λi=>sO (i*s,s)) parts ((parts.map (·.1)).map λi=>(i*s,s)) ds cs d0 c0 (λi x q hx hq=>by
  simp only[List.map_map,List.getElem?_map,hx,ZH4,ZHu,Function.comp_def]at hq;rw[<-hq]) ψ hd ag af ad
 have aj:¬len*s=0:=by simp[Nat.mul_eq_zero];omega
 have ak:=run_buildSlice (P:=P) w t e len parts.toArray cv ie zv hu ai av (by rw[u];omega) (by rw[u];exact aj) (by rw[u];exact ao);refine⟨cv,ak,?_,aq⟩;have:cs=(ZHJ len).flatMap (ZR z ((parts.map (·.1)).zip ds)):=Zyu am λi hi=>by rw[ah i hi];have au:part d0 (i*s) s=z:=ZkQ hzl hs0 hi;rw[au]
 rw[<-this];exact ap
def Zo7{F:Fr P}{kp dk o os H L s}(hg:Zk H o.guard=sO true){len n z is xs}(hk:o.k=.bsl len n z is xs){p es ds}(ha:Z8 H true xs=sO (p,es))(hds:Ka es=sO ds)(hp:p)(hok:K9 n ds=true)(hl0:0<len)(h:∀b,s b=nO->DO F kp dk os (Zv H o.dst (.d (.msl b 0 len len n))) L (s.upd b (.cells ((ZHJ len).flatMap (ZR z (is.zip ds)))))):DO F kp dk (o::os) H L s:=by
 refine Y1 λoo g Z w tmps aw i r k ap ab ak ag hd hN m hr al=>?_;have hw:=Z2 m ak hg;have am:=Z9 ab (by rw[hk];rfl);rw[hk]at ab;obtain⟨t,e,parts,aq,hu,ar,hz,au,rfl,af,av,aj,ae⟩:=Zxj ab;have u:=Zb0 m rfl F.ds au ha hp;have ac:=K1 u hds;obtain⟨cv,h1,h2,h3⟩:=ZAW (P:=P) (g:=g) (w:=w) (parts:=parts.toList.map λx=>(x.1,(Act.mk tmps F.ds).eval x.2)) hu ar hz (by simpa[List.map_map,Function.comp_def]using af) av aj ae hl0
  (by simpa[List.map_map,Function.comp_def]using ac) hok
 have ad:ZH (Rep g w) cv.toList ((ZHJ len).flatMap (ZR z ((parts.toList.map (·.1)).zip ds))):=by simpa[List.map_map,Function.comp_def]using h2
 have ah:=J4 (g:=g) (w:=w) (.cells cv e) m.st.fresh;have he:=ah.ext m.st.fresh;have ao:WI g (w.alloc (.cells cv e)) w.heap.size (.cells ((ZHJ len).flatMap (ZR z ((parts.toList.map (·.1)).zip ds)))) :=
  ⟨(m.st.fresh _ (ZHK _)).1,_,e,Kf w,by rw[<-ad.len];simp,λi v d hv hd=>(ad.get i v d (by simpa using hv) hd).mono he,h3⟩
 obtain⟨hn,m'⟩:=m.newObj ah ao;have ai:(execOp (Act.mk tmps F.ds).eval oo).run P w=.ok (.value (.slice (sO ⟨w.heap.size,0,nO⟩) len len)) (w.alloc (.cells cv e)):=by
  simp only[execOp,aq,Sem.run_bind];have e1:(parts.map λx=>(x.1,(Act.mk tmps F.ds).eval x.2))=(parts.toList.map λx=>(x.1,(Act.mk tmps F.ds).eval x.2)).toArray:=by apply Array.ext';simp
  rw[e1,h1];rfl
 refine Yf (L':=L) hN ap ag hd hw am (e:=.d (.msl w.heap.size 0 len len n)) ai he m' (Rep.msl _ _ _ _ _ (ZHK _) ?_) ?_;unfold big;have:len<=len*n:=Nat.le_mul_of_pos_right _ aj;omega;exact h _ hn aw r k hr al
def ZiE(o:DOp)(H:Env)(L:Loc)(s:St):SR :=
 match o.k with
 |.bsl _ _ _ _ _=>.stop
 |_=>ZC o H L s
def ZfT(K:Env->Loc->St->Prop)(X:List DOp->Env->Loc->St->Prop):List DOp->Env->Loc->St->Prop
 | [],H,L,s=>K H L s
 |o::os,H,L,s=>match ZiE o H L s with
  |.ok side H' L' s'=>side/\ZfT K X os H' L' s'
  |.all side pre H' s'=>side/\∀b,pre b->ZfT K X os (H' b) L (s' b)
  |.stop=>X (o::os) H L s
def ZeC{F:Fr P}{kp}{dk}:∀{os} {H} {L} {s},
  ZfT (λH L s=>Zw F dk (kept kp H) (Zk6 kp H L) s) (λos H L s=>DO F kp dk os H L s) os H L s->DO F kp dk os H L s
 | [],H,L,s,h=>ZeO h
 |o::os,H,L,s,h=>by
  have i:∀r,ZiE o H L s=r->r=.stop\/ZC o H L s=r:=λr t=>by unfold ZiE at t;split at t;exact .inl t.symm;exact .inr t
  simp only[ZfT]at h;split at h;rename_i sd H' L' s' u;rcases i _ u with h2|h2;cases h2;exact QI h2 h.1 (ZeC h.2);rename_i sd pre H' s' u;rcases i _ u with h2|h2;cases h2;exact Znk h2 h.1 λb hb=>ZeC (h.2 b hb);exact h
def ZuP{g w s sz m v1 v2 row row2 tT u ty e tu i z}(ht:P.underlying tT=sO (.slice e))(hu:P.underlying u=sO tu)(hnu:∀k,tu≠.int k)(hi:P.info? e=sO i)(hz:i.zero=sO z)(hsz:i.size=sz)(hzc:z.cells.size=sz)(hone:∀x∈z.cells,x.one1=true)(h0:0<sz)(hs:Ya g s w)(h1:Rep g w v1 (.sl .full 0 sz row)){news}(hm:0<m)(h2:Wx g w sz m news row2)(h3:ZaC P w sz m v2 news)(hb:m*i.bytes<=140737488355328)(hbig:m<=big):
    ∃(cap:Nat) (cv:Array Value),(Builtin.append_ #[tT,u] ty #[v1,v2]).run P w=.ok (.slice (sO ⟨w.heap.size,0,nO⟩) m cap) (w.drew.alloc (.cells cv e))/\m<=cap/\cap<=big/\cv.size=cap*sz/\(∀v∈cv,v.one1=true) /\
      ∀(k:Nat) (v d),cv[k]?=sO v->((ZHJ m).flatMap row2++List.replicate ((cap-m)*sz) .any)[k]?=sO d->Rep g w v d:=by
  subst hsz;have ab:∀ac,v1=.slice ac 0 0->∃(cap:Nat) (cv:Array Value),(Builtin.append_ #[tT,u] ty #[v1,v2]).run P w=.ok (.slice (sO ⟨w.heap.size,0,nO⟩) m cap) (w.drew.alloc (.cells cv e))/\m<=cap/\cap<=big/\cv.size=cap*i.size/\(∀v∈cv,v.one1=true) /\
      ∀(k:Nat) (v:Value) (d:D),cv[k]?=sO v->((ZHJ m).flatMap row2++List.replicate ((cap-m)*i.size) .any)[k]?=sO d->Rep g w v d:=by
    intro ac hv;subst hv;obtain⟨ak,aq,ho1,ap⟩:=Zeu (P:=P) h1 h0;have ao:ak=[]:=List.eq_nil_of_length_eq_zero (by simpa using aq.len);subst ao;have ho:=ap;have ad:=ZhM (ty:=ty) (n:=0) (cap:=0) ht hu hnu hi hz h3 ho ω (by simp only[big]at hbig;omega) (by rw[Nat.zero_add];exact hb);rw[Nat.zero_add]at ad;have al:=grownCap_ge w m 0 e;have am:=grownCap_le_maxLen w m 0 e (by simp only[big]at hbig;simp only[maxLen];omega);refine⟨_,_,ad,al,by simp only[maxLen]at am;simp only[big];omega,?_,λv hv=>?_,λk v d hv hd=>?_⟩;simp only[List.nil_append,List.size_toArray,ZHF,h2.len,Array.length_toList,size_zeroCells,hzc,<-ZHU]
    congr 1;omega
    . simp only[List.nil_append,List.mem_toArray,List.mem_append]at hv;rcases hv with hv|hv;exact h2.one v hv;simp only[Builtin.zeroCells,Array.mem_toList_iff]at hv;first
      | (simp only[Array.mem_map,Array.mem_range]at hv
         obtain⟨a,_,rfl⟩:=hv;have ah:a % z.cells.size<z.cells.size:=Nat.mod_lt _ ω;rw[getElem!_pos z.cells (a % z.cells.size) ah];exact hone _ (Array.getElem_mem ah))
    simp only[List.nil_append,List.getElem?_toArray]at hv;have ag:((ZHJ m).flatMap row2).length=m*i.size:=by
      have:∀k,k<=m->((ZHJ k).flatMap row2).length=k*i.size:=by
        intro k;induction k with
        |zero=>intro _;simp
        |succ k ih =>intro hk;rw[List.range_succ,List.flatMap_append,ZHF,ih ω];simp[h2.rlen k hk,ZHU]
      exact this m (ZHK _)
    by_cases hk:k<m*i.size
    . rw[ZHW (by rw[h2.len];exact hk)]at hv;rw[ZHW (by rw[ag];exact hk)]at hd;have aj:k / i.size<m:=Nat.div_lt_of_lt_mul (by rw[Nat.mul_comm];exact hk);have ai:k % i.size<i.size:=Nat.mod_lt _ h0;have e1:k / i.size*i.size+k % i.size=k:=by rw[Nat.mul_comm];exact Nat.div_add_mod k i.size
      refine h2.rep (k / i.size) (k % i.size) v d aj ai (by rw[e1];exact hv) ?_;have ar:∀q,q<=m->∀a b,a<q->b<i.size->((ZHJ q).flatMap row2)[a*i.size+b]?=(row2 a)[b]?:=by
        intro q;induction q with
        |zero=>intro _ a b ha;omega
        |succ q ih =>
          intro hq a b ha hb;have ae:((ZHJ q).flatMap row2).length=q*i.size:=by
            have:∀k,k<=m->((ZHJ k).flatMap row2).length=k*i.size:=by
              intro k;induction k with
              |zero=>intro _;simp
              |succ k ih =>intro hk;rw[List.range_succ,List.flatMap_append,ZHF,ih ω];simp[h2.rlen k hk,ZHU]
            exact this q ω
          rw[List.range_succ,List.flatMap_append];by_cases af:a<q;have:a*i.size+b<q*i.size:=by have:=ZHP i.size (show a+1<=q from af);rw[ZHU,Nat.one_mul]at this;omega
          rw[ZHW (by rw[ae];exact this)];exact ih ω a b af hb;obtain rfl:a=q:=ω;rw[ZIf (by rw[ae];omega),ae];simp
      rw[<-ar m (ZHK _) _ _ aj ai,e1];exact hd
    rw[ZIf (by rw[ag];omega),List.getElem?_replicate]at hd;split at hd;simp only[ZHu]at hd;subst hd;exact .any v;simp at hd
  cases h1 with
  |sl0 a t s row htt=>exact ab a rfl
  |sl b o n cap sz row t f hl hc hp hr one htok hcap hb' =>simp only[ZhK]at htok;subst htok;exact ab _ rfl
def ZuI{F:Fr P}{kp dk o os H L s}(hg:Zk H o.guard=sO true){e sz b z x y}(hk:o.k=.append e sz b z x y){p q m row row2 dy dx}(hx:Zy H true x=sO (p,.d dx))(hsl:Zcf sz dx=sO (.full,0,row))(hy:Zy H true y=sO (q,.d dy))(hel:JF sz dy=sO (m,row2))(hp:p)(hq:q)(hm:0<m)(hb:m*b<=140737488355328)(hbig:m<=big)(h:∀c cap,s c=nO->m<=cap->DO F kp dk os (Zv H o.dst (.d (.msl c 0 m cap sz))) L (s.upd c (.cells ((ZHJ m).flatMap row2++List.replicate ((cap-m)*sz) .any)))):
  DO F kp dk (o::os) H L s:=by
 refine Y1 λoo g Z w tmps bi i r k az u aq ag hd hN M hr au=>?_;have hw:=Z2 M aq hg;have aw:=Z9 u (by rw[hk];rfl);rw[hk]at u;obtain⟨x',y',ae,aj,t1,t2,tu,a0,t,ak,al,ba,bb,ax,a9,hz,ao,bc,be,h0,hzl⟩:=JS u;subst ao;have a7:Rep g w _ (.sl .full 0 sz row):=ZeE (ZX M bc rfl hx hp F.ds) hsl;have a8:Rep g w _ _:=ZX M be rfl hy hq F.ds;obtain⟨zv,hz1,bf,bg,ie,ab,bh⟩:=KK (g:=g) (w:=w) hz;have ac:ie.size=sz:=by simpa[ZP,ab]using a9
 have ad:zv.cells.size=sz:=by have:=bf.len;simp at this;omega
 have ap:P.bytesOf e=ie.bytes:=by simp[Program.bytesOf,ab]
 rw[ap]at hb;obtain⟨news,ai,av⟩:=Zh0 (P:=P) a8 hel h0;obtain⟨cap,cv,a1,a2,a3,a4,a5,a6⟩:=ZuP (ty:=oo.type) ba bb ax ab bh ac ad bg h0 M.st a7 hm ai av hb hbig;have ah:JZ g w g (w.drew.alloc (.cells cv e)):=ZjG (g:=g) (w:=w) cv e M.st.fresh;have he:=ah.ext M.st.fresh;have ar:((ZHJ m).flatMap row2).length=m*sz:=by
  have:∀k,k<=m->((ZHJ k).flatMap row2).length=k*sz:=by
   intro k;induction k with
   |zero=>intro _;simp
   |succ k ih =>intro hk;rw[List.range_succ,List.flatMap_append,ZHF,ih ω];simp[ai.rlen k hk,ZHU]
  exact this m (ZHK _)
 have ay:WI g (w.drew.alloc (.cells cv e)) w.heap.size (.cells ((ZHJ m).flatMap row2++List.replicate ((cap-m)*sz) .any)) :=
  ⟨(M.st.fresh _ (ZHK _)).1,_,e,Kf w.drew,by rw[ZHF,ar,List.length_replicate,a4,<-ZHU];congr 1;omega,λi v d hv hd=>(a6 i v d hv hd).mono he,a5⟩
 obtain⟨hn,m'⟩:=M.newObj ah ay;refine Yf (L':=L) hN az ag hd hw aw (e:=.d (.msl w.heap.size 0 m cap sz)) ?_ he m' (Rep.msl _ _ _ _ _ a2 a3) (h _ cap hn a2 bi r k hr au);have am:ae = #[x',y']:=by apply Array.ext';simpa using t
 have af:∀vs,Builtin.append_ aj oo.type vs=Builtin.append_ #[t1,t2] oo.type vs:=λvs=>by unfold Builtin.append_;simp[ak,al]
 unfold execOp;simp only[a0,am,resolve,invoke,builtin,Sem.run_bind,Sem.run_pure,Result.andThen_ok,List.map_toArray,ZHM,ZH2,af,a1]
end
def ZvJ(g:G)(w:World)(b:Nat)(ds:List D):Prop :=
 ∃(vs:Array Value) (T:TypeId),w.heap[b]?=sO (.cells vs T (0,0))/\vs.size=I ds/\(∀(i:Nat) (v:Value) (d:D),vs[i]?=sO v->ds[i]?=sO d->Rep g w v d)/\(∀v∈vs,v.one1=true)/\I ds<=g.prot b
def ZV(t:St)(Ln:List Nat)(d d':D):Prop:=∀g w v,(∀b∈Ln,∀ds,t b=sO (.cells ds)->ZvJ g w b ds)->Rep g w v d->Rep g w v d'
inductive LdC(t:St)(Ln:List Nat):List D->List D->Prop where
 |nil:LdC t Ln [] []
 |cons {d d':D} {l l':List D} (h:ZV t Ln d d') (r:LdC t Ln l l'):LdC t Ln (d::l) (d'::l')
def ZV.refl{t Ln}(d):ZV t Ln d d:=λ_ _ _ _ h=>h
def ZV.of_le{t Ln d i}(h:d.Le i):ZV t Ln d i:=λg w v _ u=>h g w v u
def LdC.refl{t Ln}:∀l:List D,LdC t Ln l l
 | []=>.nil
 |d::l=>.cons (ZV.refl d) (LdC.refl l)
def LdC.len{t Ln l l'}(h:LdC t Ln l l'):I l=I l':=by
 induction h with
 |nil=>rfl
 |cons _ _ ih=>simp[ih]
def LdC.get{t Ln l l'}(h:LdC t Ln l l'){i:Nat}{d'}(u:l'[i]?=sO d'):∃d,l[i]?=sO d/\ZV t Ln d d':=by
 induction h generalizing i with
 |nil=>simp at u
 |cons h1 _ ih =>
  cases i with
  |zero=>simp at u;subst u;exact⟨_,rfl,h1⟩
  |succ i=>simpa using ih (by simpa using u)
def ZV.agg{t Ln l l'}(h:LdC t Ln l l'):ZV t Ln (.agg l) (.agg l'):=by
 intro g w v hf hr;cases hr with
 |agg vs _ hn hc one =>refine .agg vs _ (hn.trans h.len) (λi v d hv hd=>?_) one;obtain⟨x,hx,u⟩:=h.get hd;exact u g w v hf (hc i v x hv hx)
def ZV.msl{t Ln b n cap sz ds row}(hb:b∈Ln)(ht:t b=sO (.cells ds))(hlen:n*sz<=I ds)(hrow:∀i,i<n->LdC t Ln ((ds.drop (i*sz)).take sz) (row i)):ZV t Ln (.msl b 0 n cap sz) (.sl .none n sz row):=by
 intro g w v hf hr;obtain⟨vs,T,hh,hsz,hc,one,hp⟩:=hf b hb ds ht;cases hr with
 |mslx a _ _ _=>exact .sl0 _ _ _ _ ψ
 |msl _ _ _ _ _ hcap hbig =>
 have ab:∀i j,i<n->j<sz->i*sz+j<I ds:=λi j hi hj=>by have:(i+1)*sz<=n*sz:=ZHP _ hi;rw[ZHU,Nat.one_mul]at this;omega
 have u:∀i j,i<n->j<sz->vs[i*sz+j]?=sO (vs.getD (i*sz+j) undef):=λi j hi hj=>by have h1:=ab i j hi hj;simp only[ZIh,Array.getElem?_eq_getElem (show i*sz+j<vs.size by omega),ZIc]
 have ac:∀i j,i<n->j<sz->vs.getD (i*sz+j) undef∈vs:=λi j hi hj=>by have h1:=ab i j hi hj;simp only[ZIh,Array.getElem?_eq_getElem (show i*sz+j<vs.size by omega),ZIc];exact Array.getElem_mem _
 have ad:∀i,i<n->(row i).length=sz:=λi hi=>by rw[<-(hrow i hi).len,ZHQ,ZH9];have:(i+1)*sz<=n*sz:=ZHP _ hi;rw[ZHU,Nat.one_mul]at this;omega
 refine .sl b 0 n cap sz row .none (λi j=>vs.getD (i*sz+j) undef) ad (λi j hi hj=>?_) (λi j hi hj=>?_) (λi j d hi hd=>?_) (λi j hi hj=>one _ (ac i j hi hj)) trivial hcap hbig;rw[Nat.zero_add,KX hh];exact u i j hi hj;have:=ab i j hi hj;omega;have hj:j<sz:=by rw[<-ad i hi];exact(List.getElem?_eq_some_iff.1 hd).1
 obtain⟨x,hx,ae⟩:=(hrow i hi).get hd;rw[ZIb,if_pos hj,List.getElem?_drop]at hx;exact ae g w _ hf (hc _ _ x (u i j hi hj) hx)
inductive LdE(t:St)(Ln:List Nat):Env->Env->Prop where
 |nil:LdE t Ln [] []
 |cons {k:Nat} {d d':D} {H H':Env} (h:ZV t Ln d d') (r:LdE t Ln H H'):LdE t Ln ((k,.d d)::H) ((k,.d d')::H')
 |skip {k:Nat} {e:E} {H H':Env} (r:LdE t Ln H H'):LdE t Ln ((k,e)::H) ((k,e)::H')
inductive LdL(t:St)(Ln:List Nat):Loc->Loc->Prop where
 |nil:LdL t Ln [] []
 |cons {k:Nat} {c c':List D} {L L':Loc} (h:LdC t Ln c c') (r:LdL t Ln L L'):LdL t Ln ((k,c)::L) ((k,c')::L')
def LdE.get{t Ln H H'}(h:LdE t Ln H H'){k e'}(i:ZK H' k=sO e'):∃e,ZK H k=sO e/\(e=e'\/∃x y,e=.d x/\e'=.d y/\ZV t Ln x y):=by
 induction h with
 |nil=>simp[ZK]at i
 |cons h1 _ ih =>rename_i k' d d' H H' _;simp only[ZK]at i⊢;by_cases u:k'=k;simp only[u,if_true,ZHu]at i⊢;exact⟨_,rfl,.inr ⟨d,d',rfl,i.symm,h1⟩⟩;simp only[u,if_false]at i⊢;exact ih i
 |skip _ ih =>rename_i k' e H H' _;simp only[ZK]at i⊢;by_cases u:k'=k;simp only[u,if_true,ZHu]at i⊢;exact⟨_,rfl,.inl i⟩;simp only[u,if_false]at i⊢;exact ih i
def LdL.get{t Ln L L'}(h:LdL t Ln L L'){k u}(i:Zg L' k=sO u):∃c,Zg L k=sO c/\LdC t Ln c u:=by
 induction h with
 |nil=>simp[Zg]at i
 |cons h1 _ ih =>rename_i k' c u L L' _;simp only[Zg]at i⊢;by_cases hk:k'=k;simp only[hk,if_true,ZHu]at i⊢;exact⟨_,rfl,i▸h1⟩;simp only[hk,if_false]at i⊢;exact ih i
def LdL.getI{t Ln L L'}(h:LdL t Ln L L'){k c}(i:Zg L k=sO c):∃u,Zg L' k=sO u:=by
 induction h with
 |nil=>simp[Zg]at i
 |cons h1 _ ih =>rename_i k' c u L L' _;simp only[Zg]at i⊢;by_cases hk:k'=k;simp only[hk,if_true];exact⟨_,rfl⟩;simp only[hk,if_false]at i⊢;exact ih i
def St.delL(s:St)(Ln:List Nat):St:=λb=>if b∈Ln then nO else s b
def Ky(g:G)(t:St)(Ln:List Nat):G:={ g with prot:=λb=>if b∈Ln then (match t b with|some (.cells ds)=>I ds|_=>0) else g.prot b }
def Ju{t:St}{Ln:List Nat}(hs:Ya g t w)(u:∀b∈Ln,∃ds,t b=sO (.cells ds)):Ext g w (Ky g t Ln) w:={
 size:=ZHK _
 prot b:=by simp only[Ky];split;rename_i h;obtain⟨ds,i⟩:=u b h;have:=(hs.obj b _ i).1;omega;exact ZHK _
 cell _ _ _:=rfl
 hdr _ _ h:=h
 kept _ _:=rfl
 keptProt b hb:=by simp only[Ky];split;rename_i h;obtain⟨ds,i⟩:=u b h;exact absurd hb (hs.kept b _ i);rfl
 keptEq:=rfl
 os:=rfl
 output:=rfl
 tape:=rfl }
def ZeG{g w t Ln}(hs:Ya g t w)(hL:∀b∈Ln,∃ds,t b=sO (.cells ds)):∀b∈Ln,∀ds,t b=sO (.cells ds)->ZvJ (Ky g t Ln) w b ds:=by
 intro b hb ds hd;obtain⟨hp,vs,T,h1,h2,h3,h4⟩:=hs.obj b _ hd;exact⟨vs,T,h1,h2,λi v d hv u=>(h3 i v d hv u).mono (Ju hs hL),h4,by simp only[Ky,if_pos hb,hd];exact ZHK _⟩
section
variable {P:Program}
def Zi3{F:Fr P}{dk H H' L L' s}(Ln)(hL:∀b∈Ln,∃ds,s b=sO (.cells ds))(hE:LdE s Ln H H')(hLL:LdL s Ln L L')(k:Zw F dk H' L' (s.delL Ln)):Zw F dk H L s:=by
 intro kk hk g Z w tmps hN m;have hx:=Ju m.st hL;have ab:=ZeG m.st hL;have u:∀c,c∉Ln->(Ky g s Ln).prot c=g.prot c:=λc hc=>by simp only[Ky,if_neg hc]
 refine F.T.ext _ _ _ _ _ hx (k kk hk _ Z w tmps hN ?_);have af:∀l cs,Zg L l=sO cs->Z l∉Ln:=λl cs hl h=>by obtain⟨ds,hd⟩:=hL _ h;have:=m.locSt l cs hl;rw[hd]at this;simp at this
 refine⟨⟨λc x t=>?_,λc x t=>?_,λc hc=>?_,λn cs hc=>(m.st.tabs n cs hc).mono hx⟩,λl cs hl=>?_,λl cs hl=>?_,λl cs hl=>?_,λl l' cs cs' h1 h2=>?_,λt' e he=>?_⟩;simp only[St.delL]at t;by_cases hc:c∈Ln;simp[hc]at t;simp only[hc,if_false]at t;exact(m.st.obj c x t).mono hx rfl (u c hc);simp only[St.delL]at t;by_cases hc:c∈Ln;simp[hc]at t;simp only[hc,if_false]at t;exact m.st.kept c x t;have h1:=m.st.fresh c hc;refine⟨(u c λh=>?_).trans h1.1,h1.2⟩;obtain⟨ds,hd⟩:=hL c h;have:=(m.st.obj c _ hd).lt;omega;obtain⟨c,hc,ac⟩:=hLL.get hl;have ae:=(m.loc l c hc).mono hx rfl (u _ (af l c hc));obtain⟨h1,vs,T,h2,h3,h4,h5⟩:=ae;refine⟨h1,vs,T,h2,h3.trans ac.len,λi v d hv hd=>?_,h5⟩;obtain⟨x,ag,ah⟩:=ac.get hd;exact ah _ w v ab (h4 i v x hv ag);obtain⟨c,hc,_⟩:=hLL.get hl;exact m.locKept l c hc;obtain⟨c,hc,_⟩:=hLL.get hl;simp only[St.delL];split;rfl;exact m.locSt l c hc;obtain⟨c,hc,_⟩:=hLL.get h1;obtain⟨c',ad,_⟩:=hLL.get h2;exact m.inj l l' c c' hc ad;obtain⟨e0,h0,h1⟩:=hE.get he;have hr:=m.env t' e0 h0;rcases h1 with h1|⟨x,y,h1,h2,h3⟩;subst h1;exact(hr.mono hx).locs λl cs hl=>⟨(hLL.getI hl),rfl⟩;subst h1;subst h2;exact h3 _ w _ ab (Rep.mono hr hx)
inductive SC(N:Nat->Prop):D->Prop where
 |int (k:IntKind) (n:Int):SC N (.int k n)
 |bool (b:Bool):SC N (.bool b)
 |str (l:List UInt8):SC N (.str l)
 |nilsl:SC N .nilsl
 |agg (cs:List D) (h:∀c∈cs,SC N c):SC N (.agg cs)
 |tup (cs:List D) (h:∀c∈cs,SC N c):SC N (.tup cs)
 |sl0 (t:Tok) (s:Nat) (row:Nat->List D):SC N (.sl t 0 s row)
 |tip (b n s:Nat) (row:Nat->List D) (hb:N b) (h:∀i,i<n->∀c∈row i,SC N c):SC N (.sl (.tip b) n s row)
 |ptr (b o:Nat):SC N (.ptr b o)
 |msl (b o n cap s:Nat):SC N (.msl b o n cap s)
 |fn (f:Fn) (a b:List D) (ha:∀c∈a,SC N c) (hb:∀c∈b,SC N c):SC N (.fn f a b)
 |nilptr:SC N .nilptr
 |map (b:Nat):SC N (.map b)
 |nilmap:SC N .nilmap
 |nilfn:SC N .nilfn
 |niliface:SC N .niliface
 |undef:SC N .undef
def SC.rep{N d}(h:SC N d):∀{g g' w v},(∀b,N b->g.prot b<=g'.prot b)->Rep g w v d->Rep g' w v d:=by
 induction h with
 |int k n=>intro g g' w v _ hr;cases hr with|int _ _ h=>exact .int k n h
 |bool b=>intro g g' w v _ hr;cases hr;exact .bool b
 |str l=>intro g g' w v _ hr;cases hr with|str s _ h hb=>exact .str s l h hb
 |nilsl=>intro g g' w v _ hr;cases hr;exact .nilsl
 |agg cs _ ih =>
  intro g g' w v hp hr;cases hr with
  |agg vs _ hn hc one=>exact .agg vs cs hn (λi v d hv hd=>ih d (List.mem_of_getElem? hd) hp (hc i v d hv hd)) one
 |tup cs _ ih =>
  intro g g' w v hp hr;cases hr with
  |tup vs _ hn hc=>exact .tup vs cs hn (λi v d hv hd=>ih d (List.mem_of_getElem? hd) hp (hc i v d hv hd))
 |sl0 t s row =>
  intro g g' w v hp hr;cases hr with
  |sl0 _ _ _ _ ht=>exact .sl0 _ t s row ht
  |sl b o n cap sz _ t f hl hc hpp hrr one ht hcap hb =>exact .sl b o 0 cap s row t f hl hc (λi j hi=>by omega) (λi j d hi=>by omega) one ht hcap hb
 |tip b n s row hb _ ih =>
  intro g g' w v hp hr;cases hr with
  |sl0 _ _ _ _ ht=>exact .sl0 _ _ s row ht
  |sl b' o n cap sz _ t f hl hc hpp hrr one ht hcap hbig =>have u:b'=b:=ht.1;subst u;exact .sl b' o n cap s row (.tip b') f hl hc (λi j hi hj=>Nat.lt_of_lt_of_le (hpp i j hi hj) (hp _ hb)) (λi j d hi hd=>ih i hi d (List.mem_of_getElem? hd) hp (hrr i j d hi hd)) one ht hcap hbig
 |ptr b o=>intro g g' w v _ hr;cases hr;exact .ptr b o
 |msl b o n cap s=>intro g g' w v _ hr;cases hr with|msl _ _ _ _ _ h hb=>exact .msl b o n cap s h hb|mslx a _ _ _=>exact .mslx a _ _ _
 |fn f a b _ _ iha ihb =>
  intro g g' w v hp hr;cases hr with
  |fn _ fs cs _ _ hnf hnc hf hc=>exact .fn f fs cs a b hnf hnc (λi v d hv hd=>iha d (List.mem_of_getElem? hd) hp (hf i v d hv hd)) (λi v d hv hd=>ihb d (List.mem_of_getElem? hd) hp (hc i v d hv hd))
 |nilptr=>intro g g' w v _ hr;cases hr;exact .nilptr
 |map b=>intro g g' w v _ hr;cases hr;exact .map b
 |nilmap=>intro g g' w v _ hr;cases hr;exact .nilmap
 |nilfn=>intro g g' w v _ hr;cases hr;exact .nilfn
 |niliface=>intro g g' w v _ hr;cases hr;exact .niliface
 |undef=>intro g g' w v _ hr;cases hr;exact .undef
def SCO(N:Nat->Prop):QL->Prop
 |.cells ds=>∀d∈ds,SC N d
 |.map es=>∀e∈es,SC N e.1/\SC N e.2
 |.tip _=>True
 |.dfr=>True
 |_=>False
def SCO.ok{N o}(h:SCO N o){g g' w b}(hp:∀b,N b->g.prot b<=g'.prot b)(t:g'.prot b=g.prot b)(hr:WI g w b o):WI g' w b o:=by
 cases o with
 |cells ds =>obtain⟨h0,vs,T,h1,h2,h3,h4⟩:=hr;exact⟨t.trans h0,vs,T,h1,h2,λi v d hv u=>(h d (List.mem_of_getElem? u)).rep hp (h3 i v d hv u),h4⟩
 |map es =>obtain⟨h0,en,cl,h1,h2,h3,h4,h5,h6⟩:=hr;exact⟨t.trans h0,en,cl,h1,h2,λi x d hv u=>(h d (List.mem_of_getElem? u)).1.rep hp (h3 i x d hv u),λi x d hv u=>(h d (List.mem_of_getElem? u)).2.rep hp (h4 i x d hv u),h5,h6⟩
 |tip k =>obtain⟨h0,x⟩:=hr;exact⟨t.trans h0,x⟩
 |dfr=>exact⟨t.trans hr.1,hr.2⟩
 |mapE _ _ _ _=>exact h.elim
 |loop _ _=>exact h.elim
def SCR(N:Nat->Prop):Res->Prop
 |.ret d=>SC N d
 |.panic d=>SC N d
def ZH.ldC{g w t Ln}(u:∀b∈Ln,∀ds,t b=sO (.cells ds)->ZvJ g w b ds){vs a i}(h:ZH (Rep g w) vs a)(hl:LdC t Ln a i):ZH (Rep g w) vs i:=by
 induction hl generalizing vs with
 |nil=>cases h;exact .nil
 |cons h1 _ ih=>cases h with|cons h2 h3=>exact .cons (h1 _ _ _ u h2) (ih h3)
def Za.lend{f args args' t Ln Φ}(hL:∀b∈Ln,∃ds,t b=sO (.cells ds))(hl:LdC t Ln args args')(h:Za P f args' (λ_=>nO) Φ)(hΦ:∀r S,Φ r S->SCR (λb=>(S b).isSome=true) r/\∀b o,S b=sO o->SCO (λb=>(S b).isSome=true) o):
  Za P f args t λr S=>∃S',Φ r S'/\Z4 S' t/\S=S'.or t:=by
 refine⟨h.1,λg w vs hs ha=>?_⟩;have hx:=Ju hs hL;have al:=ZeG hs hL;have ak:ZH (Rep (Ky g t Ln) w) vs args':=ZH.ldC al (ha.imp λ_ _ h=>Rep.mono h hx) hl;have ao:Ya ((Ky g t Ln).keep λb=>g.kept b\/(t b).isSome=true) (λ_=>nO) w:=by
  refine⟨λb o hb=>by simp at hb,λb o hb=>by simp at hb,λb hb=>?_,λn cs hc=>WV ((hs.tabs n cs hc).mono hx)⟩;have h1:=hs.fresh b hb;have ac:t b=nO:=by
   cases ac:t b with
   |none=>rfl
   |some o=>have:=(hs.obj b o ac).lt;omega
  have u:b∉Ln:=λhm=>by obtain⟨ds,hd⟩:=hL b hm;rw[ac]at hd;simp at hd
  exact⟨by show(Ky g t Ln).prot b=0;simp only[Ky,if_neg u];exact h1.1,λhk=>by rcases hk with hk|hk;exact h1.2 hk;rw[ac]at hk;simp at hk⟩
 refine(h.2 _ w vs ao (ak.imp λ_ _ h=>WV h)).mono λe w' hp=>?_;obtain⟨g',S',r,he,hS,hr,hq⟩:=hp;have ab:=he.keptEq;obtain⟨ad,aj⟩:=hΦ r S' hq;have ah:Z4 S' t:=λb o hb=>by
  cases i:S' b with
  |none=>rfl
  |some x=>exact absurd (by rw[ab];exact .inr (by rw[hb];rfl)) (hS.kept b x i)
 have ai:∀b,(S' b).isSome=true->b∉Ln:=λb hb hm=>by obtain⟨ds,hd⟩:=hL b hm;rw[ah b _ hd]at hb;simp at hb
 let g2:G:={ prot:=λb=>if b∈Ln then 0 else g'.prot b,kept:=g.kept };have ag:∀b,(S' b).isSome=true->g'.prot b<=g2.prot b:=λb hb=>by simp only[g2,if_neg (ai b hb)];exact ZHK _
 have hf:∀b,b∉Ln->(Ky g t Ln).prot b=g.prot b:=λb hb=>by simp only[Ky,if_neg hb]
 have af:∀b,b∈Ln->g.prot b=0:=λb hb=>by obtain⟨ds,hd⟩:=hL b hb;exact(hs.obj b _ hd).1
 have ae:Ext g w g2 w':=by
  refine⟨he.size,λb=>?_,λb o ho=>?_,he.hdr,λb hb=>he.kept b (.inl hb),λb hb=>?_,rfl,he.os,he.output,he.tape⟩;simp only[g2];split;rename_i hb;rw[af b hb];exact ZHK _;rename_i hb;rw[<-hf b hb];exact he.prot b;have hb:b∉Ln:=λhb=>by rw[af b hb]at ho;omega
  exact he.cell b o (by show o<(Ky g t Ln).prot b;rw[hf b hb];exact ho);have u:b∉Ln:=λhm=>by obtain⟨ds,hd⟩:=hL b hm;exact hs.kept b _ hd hb
  simp only[g2,if_neg u];rw[<-hf b u];exact he.keptProt b (.inl hb)
 have hg'0:∀b,w'.heap.size<=b->g'.prot b=0/\¬g'.kept b:=λb hb=>hS.fresh b hb;refine⟨g2,S'.or t,r,ae,⟨λb o hb=>?_,λb o hb=>?_,λb hb=>?_,λn cs hc=>(hs.tabs n cs hc).mono ae⟩,?_,S',hq,ah,rfl⟩
 .cases i:S' b with
  |some x =>
   rw[Zt i]at hb;cases hb;have am:(S' b).isSome=true:=by rw[i];rfl
   exact(aj b _ i).ok ag (by simp only[g2,if_neg (ai b am)]) (hS.obj b _ i)
  |none =>rw[ZF i]at hb;have hk:g.kept b\/(t b).isSome=true:=.inr (by rw[hb];rfl);refine(hs.obj b o hb).mono ae (he.kept b hk) ?_;by_cases u:b∈Ln;simp only[g2,if_pos u];exact(af b u).symm;simp only[g2,if_neg u];rw[<-hf b u];exact he.keptProt b hk
 .cases i:S' b with
  |some x=>exact λhk=>hS.kept b x i (by rw[ab];exact .inl hk)
  |none=>rw[ZF i]at hb;exact hs.kept b o hb
 have:=hS.fresh b hb;refine⟨?_,λhk=>this.2 (by rw[ab];exact .inl hk)⟩;simp only[g2];split;rfl;exact this.1;cases e<;>cases r<;>simp only[Znr]at hr⊢;exact SC.rep ad ag hr;obtain⟨v,h1,h2⟩:=hr;exact⟨v,h1,SC.rep ad ag h2⟩
end
end Go.DL
namespace Go.DL
open Go Go.ChangeShapes Go.RowKit Go.WideShapes Go.ChangeAt
variable [Zsc]
def ZcN(W:World):G:={ prot:=λb=>match W.heap[b]? with|some (.cells vs _ _)=>vs.size|_=>0,kept:=λb=>b<W.heap.size }
def Zns(W:World):Prop:=∀n cs,Zsc.tab n=sO cs->Rep (ZcN W) W (.pointer (sO ⟨n,0,nO⟩)) (.ep cs 0)
def ZB3{W:World}(i:Zns W):Ya (ZcN W) (λ_=>nO) W:={
 tabs:=i
 obj b o h:=by simp at h
 kept b o h:=by simp at h
 fresh b hb:=⟨by simp[ZcN,hb],by simp only[ZcN];omega⟩ }
def ZB1{P W name g k}{zs:List Int}(h:W.var? P name=sO (zs.map λz=>Value.int k z).toArray)(hg:P.globalNamed name=sO g)(hz:∀z∈zs,inR k z) :
  Rep (ZcN W) W (.pointer (sO ⟨g,0,nO⟩)) (.ep (zs.map λz=>.int k z) 0):=by
 unfold World.var? at h;rw[hg]at h;simp only[Option.bind_some]at h;split at h<;>(try(simp at h;done));rename_i cs T fr hh;simp only[ZHu]at h;subst h;have u:∀i (hi:i<I zs),W.cell? ⟨g,0+i,nO⟩=sO (.int k zs[i]):=λi hi=>by simp only[World.cell?,hh];simp[hi]
 refine .ep g 0 0 _ (λi=>.int k (zs.getD i 0)) (λi hi=>?_) (λi hi=>?_) (λi d hd=>?_) (λi hi=>rfl);simp only[ZHS]at hi;rw[u i hi];simp[ZHL,hi];simp only[ZHS]at hi;simp only[ZcN,hh];simpa using hi;simp only[List.getElem?_map,ZHI]at hd;obtain⟨z,t,rfl⟩:=hd;simp only[ZHL,t,ZIc];exact .int k z (hz z (List.mem_of_getElem? t))
def ZAy{P f args}(h:Zf P f args (.bool true)){W}(ht:Zns W){vs}(u:ZH (Rep (ZcN W) W) vs args) :
  Calls P f vs.toArray W λe W'=>e=.returned (.bool true)/\Below W.heap.size W W':=by
 refine((h (λ_=>nO)).2 _ W vs (ZB3 ht) u).mono λe W' hp=>?_;obtain⟨g',s',r,i,hs,t,hq,_⟩:=hp;subst hq;cases e with
 |returned v=>cases t;exact⟨rfl,i.os,i.tape,i.output,i.size,λb hb=>i.kept b hb⟩
 |_=>exact t.elim
section
variable {H:Type} {enc:TypeId × Value->H} {P:Program} {w:World}
def Ke(p:Nat->Prop)(enc:TypeId×Value->H)(P:Program)(w:World)(t:TypeId)(R:List D->Prop):Prop :=
 ∀fuel cs x,p fuel->DataW.trod enc P w 0 (λ_=>true) true fuel t cs=sO x->(∀k∈x.1.weights P t,k<=reachBytes)->∃ds,R ds/\ZH (Rep (ZcN w) w) cs ds/\∀v∈cs,v.one1=true
abbrev ZaX(enc:TypeId×Value->H)(P:Program)(w:World)(t:TypeId)(R:List D->Prop):Prop:=Ke (λ_=>True) enc P w t R
variable {p q:Nat->Prop}
def Zx1{k n}(h:(Lit.int k n).wf=true):inR k n:=by
 simpa[Lit.wf,inR]using h
def Zir{t k}(ht:P.underlying t=sO (.int k)):Ke p enc P w t λds=>∃n,inR k n/\ds=[.int k n]:=by
 intro fuel cs x _ h _;obtain⟨n,rfl,_,i⟩:=DataW.trod_int ht h;exact⟨_,⟨n,Zx1 i,rfl⟩,.cons (.int k n (Zx1 i)) .nil,λv u=>by simp at u;subst u;rfl⟩
def Ke.imp{t R R'}(h:Ke p enc P w t R)(hi:∀ds,R ds->R' ds):Ke p enc P w t R':=λi u x hp hx hw=>by
 obtain⟨ds,h1,h2⟩:=h i u x hp hx hw;exact⟨ds,hi ds h1,h2⟩
def JW{t k}(i:P.underlying t=sO (.int k)):Ke p enc P w t λds=>∃n,ds=[.int k n]:=(Zir i).imp λ_ ⟨n,_,h⟩=>⟨n,h⟩
def ZwB{t}(u:P.underlying t=sO .bool):Ke p enc P w t λds=>∃b,ds=[.bool b]:=by
 intro fuel cs x _ h _;obtain⟨n,rfl,_⟩:=DataW.trod_bool u h;exact⟨_,⟨n,rfl⟩,.cons (.bool n) .nil,λv i=>by simp at i;subst i;rfl⟩
def ZwC{t}(ht:P.underlying t=sO .string):Ke p enc P w t λds=>∃s:List UInt8,I s<=reachBytes/\ds=[.str s]:=by
 intro fuel cs x _ h hw;obtain⟨s,rfl,rfl,u⟩:=DataW.trod_string ht h;refine⟨_,⟨s.data.toList,hw _ (by simp[DataW.weights]),rfl⟩,.cons (.str s _ rfl ?_) .nil,λv i=>by simp at i;subst i;rfl⟩;have:I s.data.toList=s.size:=by rw[Array.length_toList];rfl
 rw[this];simp only[maxLen]at u;simp only[big];omega
def QH{t}(i:P.underlying t=sO .string):Ke p enc P w t λds=>∃s,ds=[.str s]:=(ZwC i).imp λ_ ⟨s,_,h⟩=>⟨s,h⟩
def Zgn:∀{ts ds} {i:Nat} {t:TypeId} {d:DataW H},ts[i]?=sO t->ds[i]?=sO d->∀k∈d.weights P t,k∈DataW.weightsEach P ts ds
 |t::ts,d::ds,0,_,_,ht,hd,k,hk=>by simp only[List.getElem?_cons_zero,ZHu]at ht hd;subst ht;subst hd;unfold DataW.weightsEach;exact List.mem_append_left _ hk
 |t::ts,d::ds,i+1,_,_,ht,hd,k,hk=>by unfold DataW.weightsEach;exact List.mem_append_right _ (Zgn (by simpa using ht) (by simpa using hd) k hk)
 | [],_,_,_,_,ht,_,_,_=>by simp at ht
 |_::_,[],_,_,_,_,hd,_,_=>by simp at hd
def Zgm:∀{ts i} {ds gs:List (DataW H)},I ds=I ts->∀k∈DataW.weightsEach P ts ds,k∈DataW.weightsEach P (ts++i) (ds++gs)
 | [],_,[],_,_,k,hk=>by simp[DataW.weightsEach]at hk
 |t::ts,i,d::ds,gs,hl,k,hk=>by unfold DataW.weightsEach at hk;rw[List.cons_append,List.cons_append];unfold DataW.weightsEach;rcases List.mem_append.1 hk with h|h;exact List.mem_append_left _ h;exact List.mem_append_right _ (Zgm (by simpa using hl) k h)
def ZhB{e}:∀{ds:List (DataW H)} {d:DataW H},d∈ds->∀k∈d.weights P e,k∈DataW.weightsAll P e ds
 |d::ds,x,hx,k,hk=>by unfold DataW.weightsAll;rcases List.mem_cons.1 hx with rfl|hx;exact List.mem_append_left _ hk;exact List.mem_append_right _ (ZhB hx k hk)
def Zua{α β R}{a i:List α}{b t:List β}(h:ZH R a b)(u:ZH R i t):ZH R (a++i) (b++t):=by
 induction h with
 |nil=>exact u
 |cons h1 _ ih=>exact .cons h1 ih
def Cat:List (List D->Prop)->List D->Prop
 | [],ds=>ds=[]
 |R::Rs,ds=>∃a b,ds=a++b/\R a/\Cat Rs b
def Zto(P:Program):Nat->List Field->Nat->Bool
 |o,[],n=>o==n
 |o,f::r,n=>f.offset==o&&Zto P (o+P.cellsOf f.type) r n
inductive Zi9(p:Nat->Prop)(enc:TypeId×Value->H)(P:Program)(w:World):List Field->List (List D->Prop)->Prop where
 |nil:Zi9 p enc P w [] []
 |cons {f:Field} {fs:List Field} {R:List D->Prop} {Rs:List (List D->Prop)} (h:Ke p enc P w f.type R) (t:Zi9 p enc P w fs Rs):Zi9 p enc P w (f::fs) (R::Rs)
def Zym{fs Rs}(hR:Zi9 q enc P w fs Rs):∀{o n m} {cs:List Value},q m->Zto P o fs n=true->I cs=n ->
  (∀f∈fs,∃x,DataW.trod enc P w 0 (λ_=>true) true m f.type ((cs.drop f.offset).take (P.cellsOf f.type))=sO x/\∀k∈x.1.weights P f.type,k<=reachBytes) ->
  ∃ds,Cat Rs ds/\ZH (Rep (ZcN w) w) (cs.drop o) ds/\∀v∈cs.drop o,v.one1=true:=by
 induction hR with
 |nil =>intro o n m cs _ ho hl _;simp only[Zto,beq_iff_eq]at ho;subst ho;subst hl;exact⟨[],rfl,by rw[List.drop_length];exact .nil,ψ⟩
 |cons h _ ih =>
  rename_i f fs R Rs _;intro o n m cs hm ho hl hx;simp only[Zto,ZHG,beq_iff_eq]at ho;obtain⟨af,ag⟩:=ho;obtain⟨x,h1,hw⟩:=hx f (List.mem_cons_self ..);obtain⟨a,u,i,t⟩:=h _ _ _ hm h1 hw;obtain⟨b,ab,ac,ad⟩:=ih hm ag hl λf' ae=>hx f' (List.mem_cons_of_mem _ ae);rw[af]at i t;have e:cs.drop o=(cs.drop o).take (P.cellsOf f.type)++cs.drop (o+P.cellsOf f.type):=by rw[<-List.drop_drop];exact(List.take_append_drop _ _).symm
  refine⟨a++b,⟨a,b,rfl,u,ab⟩,by rw[e];exact Zua i ac,λv hv=>?_⟩;rw[e,List.mem_append]at hv;exact hv.elim (t v) (ad v)
def K0{t:TypeId}{fs:Array Field}(ht:P.underlying t=sO (.struct fs)){Rs:List (List D->Prop)}(hR:Zi9 q enc P w fs.toList Rs)(ho:Zto P 0 fs.toList (P.cellsOf t)=true)(hpq:∀n,p (n+1)->q n:=by intros;trivial):Ke p enc P w t (Cat Rs):=by
 intro fuel cs x hp h hw;obtain⟨xs,n,rfl,rfl,hl,hxl,hx⟩:=DataW.trod_struct ht h;obtain⟨ds,h1,h2,h3⟩:=Zym hR (m:=n) (hpq n hp) ho hl (λf hf=>by
  obtain⟨i,hi,rfl⟩:=ZHR hf;have u:i<fs.size:=by simpa using hi
  refine⟨xs[i]' ω,?_,λk hk=>hw k ?_⟩;have:=hx i fs[i] (by simp[u]);rw[ZH6 ω]at this;simpa using this;unfold DataW.weights;rw[ht];exact Zgn (i:=i) (by simp[u]) (by rw[List.getElem?_map,ZH6 ω];rfl) k hk)
 rw[List.drop_zero]at h2 h3;exact⟨ds,h1,h2,h3⟩
def ZbU{a n cs}(h:w.cells? 0 a n=sO cs):I cs=n/\∀j,j<n->w.cell? (a.add j)=cs[j]?:=by
 simp only[World.cells?,Nat.zero_le,if_true]at h;refine⟨by simpa using mapM_some_length h,λj i=>?_⟩;have:=mapM_some_get h j j (by simp[i]);exact this
def Zrr{t e:TypeId}{n:Nat}{α:Type}[Inhabited α]{f:α->List D}{Qx:α->Prop}{row:List α->Nat->List D}(hrow:∀l i,i<I l->row l i=f (l.getD i dE))(ht:P.underlying t=sO (.slice e))(hn:P.cellsOf e=n)(hn0:0<n)(hf:∀x,(f x).length=n)
  (he:Ke q enc P w e λds=>∃x,Qx x/\ds=f x) (hpq:∀n,p (n+1)->q n:=by intros;trivial):Ke p enc P w t λds=>∃l:List α,(∀x∈l,Qx x)/\I l*P.bytesOf e<=reachBytes/\ds=[.sl .none (I l) n (row l)]:=by
 intro fuel cs x hp h hw;rcases DataW.trod_slice ht h with ⟨rfl,_⟩|⟨a,len,cap,elems,rest,m,rfl,rfl,rfl,_,ao,ag,al,hx,af,_⟩;exact⟨_,⟨[],λx hx=>absurd hx List.not_mem_nil,ψ,rfl⟩,.cons (.sl0 _ _ _ _ ψ) .nil,λv hv=>by simp at hv;subst hv;rfl⟩;unfold DataW.weights at hw;rw[ht]at hw;have ab:∀i,i<len->∃(cs:List Value) (y:α),Qx y/\w.cells? 0 (a.add (i*n)) n=sO cs/\ZH (Rep (ZcN w) w) cs (f y)/\∀v∈cs,v.one1=true:=by intro i hi;have h1:=hx i hi;rw[ZH6 ω,hn]at h1;obtain⟨cs,h2,h3⟩:=Option.bind_eq_some_iff.1 h1;obtain⟨ds,⟨y,hy,rfl⟩,h4,h5⟩:=he _ _ _ (hpq _ hp) h3 λk hk=>hw k (List.mem_cons_of_mem _ (List.mem_append_left _ (ZhB (List.mem_map_of_mem (List.getElem_mem _)) k hk)));exact⟨cs,y,hy,h2,h4,h5⟩
 have ac:cap<=big:=by simp only[maxLen]at ag;simp only[big];omega
 let g:(i:Nat)->i<len->α:=λi hi=>(Classical.choose_spec (ab i hi)).choose;let c:(i:Nat)->i<len->List Value:=λi hi=>Classical.choose (ab i hi);have hg:∀i (hi:i<len),w.cells? 0 (a.add (i*n)) n=sO (c i hi)/\ZH (Rep (ZcN w) w) (c i hi) (f (g i hi))/\∀v∈c i hi,v.one1=true:=λi hi=>(Classical.choose_spec (ab i hi)).choose_spec.2;have hq:∀i (hi:i<len),Qx (g i hi):=λi hi=>(Classical.choose_spec (ab i hi)).choose_spec.1;let l:List α:=List.ofFn λi:Fin len=>g i.1 i.2;have ae:I l=len:=by simp[l]
 have aq:∀i (hi:i<len),l.getD i dE=g i hi:=λi hi=>by simp[l,ZHL,hi]
 have ah:∀i (hi:i<len),row l i=f (g i hi):=λi hi=>by rw[hrow l i ω,aq i hi]
 refine⟨_,⟨l,λx hx=>(by obtain⟨i,rfl⟩:=List.mem_ofFn.1 hx;exact hq i.1 i.2),ZIg (ZHP _ (by rw[ae,<-al,ZHS];exact Nat.le_add_right _ _)) (hw _ (List.mem_cons_self ..)),rfl⟩,.cons ?_ .nil,λv hv=>by simp at hv;subst hv;rfl⟩;by_cases am:len=0;subst am;have ap:l=[]:=List.eq_nil_of_length_eq_zero ae;rw[ap];by_cases hs:a.spot=nO;obtain⟨b,o,sp⟩:=a;simp only at hs;subst hs;exact .sl b o 0 cap n _ .none (λ_ _=>undef) (λi hi=>by simp at hi) (λi j hi=>by simp at hi) (λi j hi=>by simp at hi) (λi j d hi=>by simp at hi) (λi j hi=>by simp at hi) trivial (Nat.zero_le _) ac;have ak:cap=0:=by rcases Nat.eq_zero_or_pos cap with h0|h0;exact h0;obtain⟨h1,h2⟩:=af rfl;have h3:=h2 0 ω;rw[ZH6 ω,hn]at h3;obtain⟨cs,h4,_⟩:=Option.bind_eq_some_iff.1 h3;have h5:=(ZbU h4).2 0 ω;have h6:=(ZbU h4).1;rw[ZH6 ω]at h5;have:=World.cell?_spot h5;exact absurd (by simpa[Addr.add]using this) hs
 subst ak;exact .sl0 _ _ _ _ ψ;have ai:a.spot=nO:=by have h0:=(hg 0 ω).1;have h1:=(ZbU h0).2 0 ω;have h2:(c 0 ω).length=n:=(ZbU h0).1;rw[ZH6 ω]at h1;have:=World.cell?_spot h1;simpa[Addr.add]using this
 obtain⟨b,o,sp⟩:=a;simp only at ai;subst ai;have ad:∀i j (hi:i<len) (hj:j<n),w.cell? ⟨b,o+i*n+j,nO⟩=(c i hi)[j]?:=λi j hi hj=>by have h1:=(ZbU (hg i hi).1).2 j hj;rw[WT,WT]at h1;exact h1
 have u:∀i (hi:i<len),(c i hi).length=n:=λi hi=>(ZbU (hg i hi).1).1;rw[ae];refine .sl b o len cap n _ .none (λi j=>if hi:i<len then (c i hi).getD j undef else undef) (λi hi=>by rw[ah i hi];exact hf _) (λi j hi hj=>?_) (λi j hi hj=>?_) (λi j d hi hd=>?_) (λi j hi hj=>?_) trivial ao ac;simp only[dif_pos hi];rw[ad i j hi hj,ZHL,ZH6 (by rw[u i hi];exact hj)];rfl;have h1:=ad i j hi hj;rw[ZH6 (by rw[u i hi];exact hj)]at h1;simp only[World.cell?]at h1;split at h1;rename_i vs T fr hh;simp only[ZcN,hh];have aj:vs[o+i*n+j]?=sO ((c i hi)[j]'(by rw[u i hi];exact hj)):=by simpa using h1
 exact(Array.getElem?_eq_some_iff.1 aj).1;simp at h1;simp only[dif_pos hi];rw[ah i hi]at hd;have hj:j<n:=by rw[<-hf (g i hi)];exact(List.getElem?_eq_some_iff.1 hd).1
 refine(hg i hi).2.1.get j _ d ?_ hd;rw[ZHL,ZH6 (by rw[u i hi];exact hj)];rfl;simp only[dif_pos hi];refine(hg i hi).2.2 _ ?_;rw[ZHL,ZH6 (by rw[u i hi];exact hj)];exact List.getElem_mem _
def Zj9{t e:TypeId}{n:Nat}{α:Type}[Inhabited α]{f:α->List D}{row:List α->Nat->List D}(hrow:∀l i,i<I l->row l i=f (l.getD i dE))(ht:P.underlying t=sO (.slice e))(hn:P.cellsOf e=n)(hn0:0<n)(hf:∀x,(f x).length=n)
  (he:Ke q enc P w e λds=>∃x,ds=f x) (hpq:∀n,p (n+1)->q n:=by intros;trivial):Ke p enc P w t λds=>∃l:List α,ds=[.sl .none (I l) n (row l)]:=(Zrr (Qx:=λ_=>True) hrow ht hn hn0 hf (he.imp λ_ ⟨x,h⟩=>⟨x,trivial,h⟩) hpq).imp λ_ ⟨l,_,_,h⟩=>⟨l,h⟩
def Zai{t e:TypeId}{n:Nat}{α:Type}[Inhabited α]{f:α->List D}(ht:P.underlying t=sO (.slice e))(hn:P.cellsOf e=n)(hn0:0<n)(hf:∀x,(f x).length=n)
  (he:Ke q enc P w e λds=>∃x,ds=f x) (hpq:∀n,p (n+1)->q n:=by intros;trivial):Ke p enc P w t λds=>∃l:List α,ds=[.sl .none (I l) n λi=>f (l.getD i dE)] :=
 Zj9 (row:=λl i=>f (l.getD i dE)) (λ_ _ _=>rfl) ht hn hn0 hf he hpq
def ZcR(enc:TypeId×Value->H)(P:Program)(t:TypeId)(Q:D->Prop):Prop :=
 ∀(W:World) (base:Nat) (v:Value) (d:DataW H) (ps:List MemPlace),Value.okWide P W .any base t v->DataW.Trod enc P W 0 (λ_=>true) true t v d ps->(∀k∈d.weights P t,k<=reachBytes)->∃x,Q x/\Rep (ZcN W) W v x
def ZfQ{t fs}(ht:P.underlying t=sO (.struct fs)){R}(h:∀W,ZaX enc P W t R):ZcR enc P t λx=>∃ds,R ds/\x=.agg ds:=by
 intro W base v d ps u ⟨fuel,hf⟩ hw;obtain⟨cs,rfl,_⟩:=okWide_struct ht u;obtain⟨ds,h1,h2,h3⟩:=h W _ _ _ trivial hf hw;exact⟨_,⟨ds,h1,rfl⟩,.agg cs.toList ds h2.len (λi v d hv hd=>h2.get i v d hv hd) h3⟩
def ZeV{t R Q}(h1:∀W u v,Value.okWide P W .any u t v->v.cells = #[v])(h:∀W,ZaX enc P W t R)(hq:∀ds,R ds->∃x,ds=[x]/\Q x):ZcR enc P t Q:=by
 intro W u v d ps i ⟨fuel,hf⟩ hw;rw[h1 _ _ _ i]at hf;obtain⟨ds,h2,h3,_⟩:=h W _ _ _ trivial hf hw;obtain⟨x,rfl,hx⟩:=hq ds h2;cases h3 with|cons h4 _=>exact⟨x,hx,h4⟩
def ZCm{t k}(u:P.underlying t=sO (.int k)):ZcR enc P t λx=>∃n,x=.int k n :=
 ZeV (λW base v i=>by obtain⟨a,rfl⟩:=okWide_int u i;rfl) (λW=>JW u) λds ⟨n,hn⟩=>⟨_,hn,n,rfl⟩
def Zsn{t}(u:P.underlying t=sO .string):ZcR enc P t λx=>∃n,x=.str n :=
 ZeV (λW base v i=>by obtain⟨a,rfl⟩:=okWide_string u i;rfl) (λW=>QH u) λds ⟨n,hn⟩=>⟨_,hn,n,rfl⟩
inductive Zni(enc:TypeId×Value->H)(P:Program):List TypeId->List (D->Prop)->Prop where
 |nil:Zni enc P [] []
 |cons {t:TypeId} {Q:D->Prop} {ts:List TypeId} {Qs:List (D->Prop)} (h:ZcR enc P t Q) (r:Zni enc P ts Qs):Zni enc P (t::ts) (Q::Qs)
inductive ZrV:List (D->Prop)->List D->Prop where
 |nil:ZrV [] []
 |cons {Q:D->Prop} {x:D} {Qs:List (D->Prop)} {xs:List D} (h:Q x) (r:ZrV Qs xs):ZrV (Q::Qs) (x::xs)
def Zy7{ts Qs}(h:Zni enc P ts Qs):∀{W base vs ds ps},
  (∀(j:Nat) t v,ts[j]?=sO t->vs[j]?=sO v->Value.okWide P W .any base t v)->DataW.TrodAll enc P W 0 (λ_=>true) true ts vs ds ps->(∀k∈DataW.weightsEach P ts ds,k<=reachBytes)->∃xs,ZrV Qs xs/\ZH (Rep (ZcN W) W) vs xs:=by
 induction h with
 |nil =>intro W base vs ds ps _ ht _;obtain⟨rfl,_⟩:=trodAll_nil ht;exact⟨[],.nil,.nil⟩
 |cons h1 _ ih =>intro W base vs ds ps i ht hw;obtain⟨v,vs',d,ds',p,q,rfl,rfl,rfl,h2,h3⟩:=trodAll_cons ht;unfold DataW.weightsEach at hw;obtain⟨x,ac,ad⟩:=h1 W base v d p (i 0 _ _ rfl rfl) h2 λk hk=>hw k (List.mem_append_left _ hk);obtain⟨xs,u,ab⟩:=ih (base:=base) (λj t v hj hv=>i (j+1) t v (by simpa using hj) (by simpa using hv)) h3 λk hk=>hw k (List.mem_append_right _ hk);exact⟨x::xs,.cons ac u,.cons ad ab⟩
def ZiR(hl:laidOutB P=true){W W'}(hb:Below W.heap.size W W'):∀{ts vs ds ps},(∀t∈ts,P.readableRec t=true/\t<P.types.size) ->
  DataW.TrodAll enc P W 0 (λ_=>true) true ts vs ds ps->(∀x∈ps,x.block<W.heap.size)->DataW.TrodAll enc P W' 0 (λb=>dC (b<W.heap.size)) true ts vs ds ps
 | [],vs,ds,ps,_,h,_=>by obtain⟨rfl,rfl,rfl⟩:=trodAll_nil h;rfl
 |t::ts,vs,ds,ps,ht,h,hlt=>by obtain⟨v,vs',d,ds',p,q,rfl,rfl,rfl,h2,h3⟩:=trodAll_cons h;have h4:=ht t (List.mem_cons_self ..);exact trodAll_cons_mk (Below.trod hl h4.1 h4.2 h2 hb λx u=>hlt x (List.mem_append_left _ u)) (ZiR hl hb (λt i=>ht t (List.mem_cons_of_mem _ i)) h3 λx u=>hlt x (List.mem_append_right _ u))
def Zta{f fn}{s:ChangeSpec}{tb Qs}(hv:s.vars=[])(hl:laidOutB P=true)(hr:∀t∈fn.params.toList,P.readableRec t=true/\t<P.types.size)
  (hres:fn.resultTypes = #[tb]) (hb:P.underlying tb=sO .bool) (hfn:∀ds:List (DataW H),I ds=I fn.params.toList->s.fn H ds={ results:=[.lit (.bool true)],args:=ds })
  (hargs:Zni enc P fn.params.toList Qs) (hcall:∀xs,ZrV Qs xs->Zf P f xs (.bool true))
  (W) (ht:Zns W) (base args ds gs before)
  (hval:∀(j:Nat) t v,fn.params[j]?=sO t->args[j]?=sO v->Value.okWide P W .any base t v) (hW:DataW.Whole enc P fn.params.toList s.vars false W args.toList ds gs before)
  (hz:(DataW.weightsEach P (fn.params.toList++s.plain.varTypes P) (ds++gs)).all (·<=reachBytes)=true) :
  Calls P f args W λe W'=>∃v,e=.returned v/\s.post enc P fn false true false false W args v W':=by
 have ac:=hW;obtain⟨p,q,hA,hV,rfl,_,_⟩:=hW;rw[hv]at hV;obtain⟨rfl,rfl⟩:=trodVars_none hV;have ab:=(trodAll_length hA).2;obtain⟨xs,af,ag⟩:=Zy7 hargs (λj t v hj ae=>hval j t v (by simpa using hj) (by simpa using ae)) hA λk hk=>of_decide_eq_true (List.all_eq_true.1 hz k (Zgm ab k hk));have ad:∀x∈p,x.block<W.heap.size:=λx hx=>by simpa using ac.lt x (by simpa using hx)
 refine(ZAy (hcall xs af) ht ag).mono λe W' ⟨he,u⟩=>⟨.bool true,he,?_⟩;have i:=hfn ds ab;refine⟨ds,[],p++[],[],p,[],ac,?_,?_,?_,u.frame _,λh=>by cases h⟩;rw[ZH3,i,hres];exact trodAll_mk1 ⟨1,by simp[DataW.trod,hb,Value.cells]⟩;rw[ZH3,i];exact ZiR hl u hr hA ad;rw[hv,ZH3,i];rfl
end
end Go.DL
namespace Go.DL
open Go
variable {kp:Option (List Nat)}{L:Loc}{H:Env}{s:St}{w:World}{os:List DOp}{ds:List D}{B:List (Nat × Rd)}{dst:Option Nat}{tmps:Array Value}{g:G}{Φ:Res->St->Prop}{Z:Nat->Nat}{xs:List Opd}{side:Prop}{row:Nat->List D}
def Zx3(n a:Nat)(l:List Nat):Zan n (a::l)=if a=n then true else Zan n l:=by
 show(a==n ||Zan n l)=_;by_cases h:a=n<;>simp[h]
set_option linter.defProp false
def Eqs:=ZHy (ZHy (ZHy (ZHy (ZHy (ZHy (ZHy (ZHy @Option.mem_def.{0} @ZHu.{0}) (ZHy @forall_eq'.{1} @forall_eq'.{0})) (ZHy (ZHy @false_implies @decide_true) (ZHy (@Int.sub_zero) (ZHy @Int.sub_self @ZCB)))) (ZHy (ZHy (ZHy @ZDi @ZCC) (ZHy @ZCD @ZCA)) (ZHy (ZHy @and_assoc @Int.toNat_zero) (ZHy (@Bool.not_not) (ZHy @ZBp @ZCF))))) (ZHy (ZHy (ZHy (ZHy @implies_true.{1} @implies_true.{0}) (ZHy @true_and @and_true)) (ZHy (ZHy @and_self @List.drop_zero.{0}) (ZHy (@List.drop_succ_cons.{0}) (ZHy @List.take_succ_cons.{0} @List.take_zero.{0})))) (ZHy (ZHy (ZHy @List.take_nil.{0} @ZH4.{0,0}) (ZHy (@Option.map_none.{0,0}) (ZHy @Option.isSome_some.{0} @Option.isSome_none.{0}))) (ZHy (ZHy @ZIc.{0} @Option.getD_none.{0}) (ZHy (@List.flatMap_cons.{0,0}) (ZHy @List.flatMap_nil.{0,0} @ZH3.{0})))))) (ZHy (ZHy (ZHy (ZHy (ZHy @List.nil_append.{0} @List.cons_append.{0}) (ZHy @List.append_eq.{0} @List.getElem?_cons_zero.{0})) (ZHy (ZHy @List.getElem?_cons_succ.{0} @ZHN.{0}) (ZHy (@List.length_nil.{0}) (ZHy @Nat.zero_add @Nat.add_zero)))) (ZHy (ZHy (ZHy @Int.toNat_natCast @forall_const.{1}) (ZHy @forall_const.{0} @imp_self)) (ZHy (ZHy @Bool.and_true @ZHX) (ZHy (@Bool.cond_false_right) (ZHy @ZH5 @Bool.not_true))))) (ZHy (ZHy (ZHy (ZHy @Bool.not_false @if_true_right) (ZHy @Zjs.eq_1 @Zjs.eq_2)) (ZHy (ZHy @ZhZ.eq_1 @ZhZ.eq_2) (ZHy (@Zhi.eq_1) (ZHy @Zhi.eq_2 @Zla.eq_1)))) (ZHy (ZHy (ZHy @Zla.eq_2 @ZC.eq_1) (ZHy (@K3.eq_1) (ZHy @K3.eq_2 @K3.eq_3))) (ZHy (ZHy @Z1.eq_1 @KT.eq_1) (ZHy (@Y5.eq_1) (ZHy @KZ.eq_1 @KZ.eq_2))))))) (ZHy (ZHy (ZHy (ZHy (ZHy (ZHy @KZ.eq_3 @KZ.eq_4) (ZHy @YU.eq_1 @YU.eq_2)) (ZHy (ZHy @YU.eq_3 @YU.eq_4) (ZHy (@YU.eq_6) (ZHy @qv.eq_51 @qv.eq_52)))) (ZHy (ZHy (ZHy @qv.eq_53 @YU.eq_5) (ZHy @Y3.eq_1 @Y3.eq_2)) (ZHy (ZHy @Y3.eq_3 @Y3.eq_4) (ZHy (@Y3.eq_5) (ZHy @Y3.eq_6 @Y3.eq_7))))) (ZHy (ZHy (ZHy (ZHy @Wg.eq_1 @KY.eq_1) (ZHy @KY.eq_2 @KY.eq_3)) (ZHy (ZHy @YZ.eq_1 @YZ.eq_2) (ZHy (@Ki.eq_1) (ZHy @ZbO.eq_1 @Zan.eq_1)))) (ZHy (ZHy (ZHy @Zx3 @ZHM.{0,0}) (ZHy (@ZH2.{0,0}) (ZHy @Qz.eq_1 @Kl.eq_1))) (ZHy (ZHy @Kl.eq_2 @Kl.eq_3) (ZHy (@Wh.eq_1) (ZHy @Wh.eq_2 @Zap.eq_1)))))) (ZHy (ZHy (ZHy (ZHy (ZHy @Zap.eq_2 @Zap.eq_3) (ZHy @Zap.eq_4 @Zap.eq_5)) (ZHy (ZHy @Zap.eq_6 @Zap.eq_7) (ZHy (@Zap.eq_8) (ZHy @Zap.eq_9 @Zap.eq_10)))) (ZHy (ZHy (ZHy @Zap.eq_11 @Zk.eq_1) (ZHy (@Zk.eq_2) (ZHy @Zy.eq_1 @Zy.eq_2))) (ZHy (ZHy @Z8.eq_1 @Z8.eq_2) (ZHy (@ZK.eq_1) (ZHy @ZK.eq_2 @qv.eq_1))))) (ZHy (ZHy (ZHy (ZHy @qv.eq_2 @qv.eq_3) (ZHy @qv.eq_4 @qv.eq_5)) (ZHy (ZHy @qv.eq_6 @qv.eq_7) (ZHy (@qv.eq_8) (ZHy @qv.eq_9 @qv.eq_10)))) (ZHy (ZHy (ZHy @qv.eq_11 @qv.eq_12) (ZHy (@qv.eq_13) (ZHy @qv.eq_14 @qv.eq_15))) (ZHy (ZHy @qv.eq_16 @qv.eq_17) (ZHy (@qv.eq_18) (ZHy @qv.eq_19 @qv.eq_20)))))))) (ZHy (ZHy (ZHy (ZHy (ZHy (ZHy (ZHy @qv.eq_21 @qv.eq_22) (ZHy @qv.eq_23 @qv.eq_24)) (ZHy (ZHy @qv.eq_25 @qv.eq_26) (ZHy (@qv.eq_27) (ZHy @qv.eq_28 @qv.eq_29)))) (ZHy (ZHy (ZHy @qv.eq_30 @qv.eq_31) (ZHy @qv.eq_32 @qv.eq_33)) (ZHy (ZHy @qv.eq_34 @qv.eq_35) (ZHy (@qv.eq_36) (ZHy @qv.eq_37 @qv.eq_38))))) (ZHy (ZHy (ZHy (ZHy @qv.eq_39 @qv.eq_40) (ZHy @qv.eq_41 @qv.eq_42)) (ZHy (ZHy @qv.eq_43 @qv.eq_44) (ZHy (@qv.eq_45) (ZHy @qv.eq_46 @qv.eq_47)))) (ZHy (ZHy (ZHy @qv.eq_48 @qv.eq_49) (ZHy (@qv.eq_50) (ZHy @Zv.eq_1 @Zv.eq_2))) (ZHy (ZHy @kept.eq_1 @kept.eq_2) (ZHy (@Zk6.eq_1) (ZHy @Zk6.eq_2 @Yn.eq_1)))))) (ZHy (ZHy (ZHy (ZHy (ZHy @Yn.eq_2 @ZaZ.eq_1) (ZHy @Zav.eq_1 @Zav.eq_2)) (ZHy (ZHy @Km.eq_1 @Km.eq_2) (ZHy (@Km.eq_3) (ZHy @Zg.eq_1 @Zg.eq_2)))) (ZHy (ZHy (ZHy @Zam.eq_1 @Zdx.eq_1) (ZHy @Zgl.eq_1 @Zgl.eq_2)) (ZHy (ZHy @Zal.eq_1 @Zal.eq_2) (ZHy (@Zal.eq_3) (ZHy @Zal.eq_4 @Zal.eq_5))))) (ZHy (ZHy (ZHy (ZHy @Q5.eq_1 @Q5.eq_2) (ZHy @Q5.eq_3 @Q5.eq_4)) (ZHy (ZHy @Q5.eq_5 @Q5.eq_6) (ZHy (@Q5.eq_7) (ZHy @Q5.eq_8 @Q5.eq_9)))) (ZHy (ZHy (ZHy @Q5.eq_10 @Q5.eq_11) (ZHy (@Q5.eq_12) (ZHy @Q5.eq_13 @Q5.eq_14))) (ZHy (ZHy @Q5.eq_15 @Q5.eq_16) (ZHy (@Q5.eq_17) (ZHy @ZdW.eq_1 @ZdW.eq_2))))))) (ZHy (ZHy (ZHy (ZHy (ZHy (ZHy @ZdW.eq_3 @ZdW.eq_4) (ZHy @ZdW.eq_5 @ZdW.eq_6)) (ZHy (ZHy @ZdW.eq_7 @ZdW.eq_8) (ZHy (@eqO.eq_1) (ZHy @eqO.eq_2 @eqO.eq_3)))) (ZHy (ZHy (ZHy @YG.eq_1 @YG.eq_2) (ZHy @YG.eq_3 @YG.eq_4)) (ZHy (ZHy @YG.eq_5 @YG.eq_6) (ZHy (@YG.eq_7) (ZHy @YG.eq_8 @YG.eq_9))))) (ZHy (ZHy (ZHy (ZHy @YG.eq_10 @YG.eq_11) (ZHy @YG.eq_12 @YG.eq_13)) (ZHy (ZHy @YG.eq_14 @YG.eq_15) (ZHy (@Wn.eq_1) (ZHy @Wn.eq_2 @Yk.eq_1)))) (ZHy (ZHy (ZHy @Yk.eq_2 @Yk.eq_3) (ZHy (@Yk.eq_4) (ZHy @Wm.eq_1 @Wm.eq_2))) (ZHy (ZHy @Wm.eq_3 @Wm.eq_4) (ZHy (@Kh.eq_1) (ZHy @Kh.eq_2 @Kh.eq_3)))))) (ZHy (ZHy (ZHy (ZHy (ZHy @Kh.eq_4 @Zx.eq_1) (ZHy @Ka.eq_1 @Ka.eq_2)) (ZHy (ZHy @Ka.eq_3 @cellsOf.eq_1) (ZHy (@cellsOf.eq_2) (ZHy @QV.eq_1 @QV.eq_2)))) (ZHy (ZHy (ZHy @QV.eq_3 @QV.eq_4) (ZHy (@QV.eq_5) (ZHy @W7.eq_1 @W7.eq_2))) (ZHy (ZHy @W7.eq_3 @W7.eq_4) (ZHy (@Zbr.eq_1) (ZHy @Zbr.eq_2 @Zbr.eq_3))))) (ZHy (ZHy (ZHy (ZHy @K9.eq_1 @K9.eq_2) (ZHy @ZR.eq_1 @ZR.eq_2)) (ZHy (ZHy @K6.eq_1 @K6.eq_2) (ZHy (@Wz.eq_1) (ZHy @Wz.eq_2 @Wz.eq_3)))) (ZHy (ZHy (ZHy @Wz.eq_4 @ZaU.eq_1) (ZHy (@ZaU.eq_2) (ZHy @ZaU.eq_3 @ZaU.eq_4))) (ZHy (ZHy @Zby.eq_1 @Zby.eq_2) (ZHy (@Zby.eq_3) (ZHy @Zby.eq_4 @part.eq_1))))))))
end Go.DL
namespace Go.DL
open Go
variable [Zsc]
variable {kp:Option (List Nat)}{L:Loc}{H:Env}{s:St}{w:World}{os:List DOp}{ds:List D}{B:List (Nat × Rd)}{dst:Option Nat}{tmps:Array Value}{g:G}{Φ:Res->St->Prop}{Z:Nat->Nat}{xs:List Opd}{side:Prop}{row:Nat->List D}
section
variable {P:Program}
def ZAP{g w s t sz n m v1 v2 row row2 tT u ty e tu i z}(ht:P.underlying tT=sO (.slice e))(hu:P.underlying u=sO tu)(hnu:∀k,tu≠.int k)(hi:P.info? e=sO i)(hz:i.zero=sO z)(hsz:i.size=sz)(hzc:z.cells.size=sz)(h0:0<sz)(hs:Ya g (s.own t (n*sz)) w)(hok:t.okIn s)(h1:Rep g w v1 (.sl t n sz row)){news}(h2:Wx g w sz m news row2)(h3:ZaC P w sz m v2 news)(hm:0<m)(hb:(n+m)*i.bytes<=140737488355328)(hbig:n+m<=big):
  ∃v' w' g' t',(Builtin.append_ #[tT,u] ty #[v1,v2]).run P w=.ok v' w'/\Ext g w g' w'/\Ya g' (s.own t' ((n+m)*sz)) w'/\t'.okIn s/\Rep g' w' v' (.sl t' (n+m) sz (Yg n row row2)) /\
   (∀b,b<w.heap.size->t≠.tip b->w'.heap[b]?=w.heap[b]?/\g'.prot b=g.prot b)/\(∀b,t'=.tip b->t=.tip b\/w.heap.size<=b)/\∃b,t'=.tip b:=by
 subst hsz;have ah:Ya g s w:=hs.sub (YR hok);obtain⟨ap,bc,ho1,aw⟩:=Zeu (P:=P) h1 h0;have am:=bc.append h2;have ai:∀ao cap,v1=.slice ao n cap->cap<n+m->∃v' w' g' t',(Builtin.append_ #[tT,u] ty #[v1,v2]).run P w=.ok v' w'/\Ext g w g' w'/\Ya g' (s.own t' ((n+m)*i.size)) w'/\t'.okIn s /\
   Rep g' w' v' (.sl t' (n+m) i.size (Yg n row row2))/\(∀b,b<w.heap.size->t≠.tip b->w'.heap[b]?=w.heap[b]?/\g'.prot b=g.prot b)/\(∀b,t'=.tip b->t=.tip b\/w.heap.size<=b)/\∃b,t'=.tip b:=by
  intro ao cap hv bb;subst hv;have ag:=ZhM (ty:=ty) ht hu hnu hi hz h3 aw bb (by simp only[big]at hbig;omega) hb;have a6:=grownCap_ge w (n+m) cap e;have ba:=grownCap_le_maxLen w (n+m) cap e (by simp only[big]at hbig;simp only[maxLen];omega);have hn:=Zpk (T:=e) (rest:=(Builtin.zeroCells z.cells (grownCap w (n+m) cap e-(n+m))).toList) ah am a6 (by
   simp only[Array.length_toList,size_zeroCells,hzc,am.len,<-ZHU];congr 1;omega) (by simp only[maxLen]at ba;simp only[big];omega)
  obtain⟨a1,a2,a3,a4⟩:=hn;exact⟨_,_,_,_,ag,a1.ext ah.fresh,a2,a3,a4,λb hb _=>⟨a1.old b hb,a1.prot b hb⟩,λb hb=>.inr (by simp only[Tok.tip.injEq]at hb;omega),_,rfl⟩
 cases h1 with
 |sl0 a t s row htt =>exact ai a 0 rfl ω
 |sl b o n cap sz row t f hl hc hp hr one htok hcap hb' =>
  have a7:=ai (sO ⟨b,o,nO⟩) cap rfl;by_cases ac:n+m<=cap;case neg=>exact a7 ω
  cases t with
  |none=>exact hok.elim
  |full=>simp only[ZhK]at htok;omega
  |tip tb =>
   obtain⟨rfl,rfl,T0,m0,hh,hm0⟩:=htok;have ax:=hs.obj b (.tip (n*i.size)) (by simp[St.own,ZH7]);have ae:=hs.kept b (.tip (n*i.size)) (by simp[St.own,ZH7]);obtain⟨a0,ab,T,ad,hb2⟩:=ax;have aq:cap*i.size<=ab.size:=by simp only[hdr,ad,ZHu,ZHH]at hh;omega
   have av:n*i.size+I news<=ab.size:=by rw[h2.len,<-ZHU];exact ZIg (ZHP _ ac) aq
   have ag:=Zmy (ty:=ty) ht hu hnu hi h3 ad (λv hv=>by rw[ZbZ];exact h2.one v hv) ac av;have ak:∀k v,(ab.toList.take (n*i.size))[k]?=sO v->w.cell? ((⟨b,0,nO⟩:Addr).add k)=sO v:=λk v hv=>by rw[WT,KX ad,Nat.zero_add];rw[ZIb]at hv;split at hv;simpa using hv;simp at hv
   have ay:ap=ab.toList.take (n*i.size):=by have h:=run_firstCells_some (P:=P) w i.size n ⟨b,0,nO⟩ n cap (ab.toList.take (n*i.size)) (by simp;omega) ak;rw[aw w rfl]at h;simpa using h
   generalize au:ab.toList.take (n*i.size)++news++ab.toList.drop (n*i.size+I news)=nw at ag;have ar:I nw=ab.size:=by rw[<-au];simp only[ZHF,ZHQ,ZH9,Array.length_toList];omega
   have al:=setRow_heap w b ab nw.toArray T (0,0) ad;have aj:∀c,c≠b->(w.setRow b nw.toArray).heap[c]?=w.heap[c]?:=λc hc=>setRow_other w b c _ hc;have a5:(w.setRow b nw.toArray).heap.size=w.heap.size:=by simp[World.setRow]
   have a8:n*i.size<=(n+m)*i.size:=ZHP _ ω;have af:Ext g w (QU g b ((n+m)*i.size)) (w.setRow b nw.toArray):=by
    refine⟨ω,λc=>?_,λc o ho=>?_,λc x hx=>?_,λc hc=>aj c (λh=>ae (h▸hc)),λc hc=>?_,rfl,rfl,rfl,rfl⟩;simp only[QU];split;rename_i h;rw[h,a0];exact a8;exact ZHK _;by_cases hc:c=b;subst hc;rw[KX al,KX ad];rw[a0]at ho;have:o<(ab.toList.take (n*i.size)).length:=by simp;omega
    rw[List.getElem?_toArray,<-au,ZHY,ZHW this,ZIb,if_pos ho];simp;exact QO (aj c hc);by_cases hc:c=b;subst hc;simp only[hdr,ad]at hx;simp only[hdr,al,List.size_toArray,ar];exact hx;rw[Zah (aj c hc)];exact hx;simp only[QU];split;rename_i h;exact absurd hc (h▸ae);rfl
   have az:(QU g b ((n+m)*i.size)).prot b=(n+m)*i.size:=by simp[QU]
   refine⟨_,_,QU g b ((n+m)*i.size),.tip b,ag,af,?_,hok,?_,λc _ hc=>?_,λc hc=>.inl hc,_,rfl⟩;refine⟨λc x hx=>?_,λc x hx=>?_,λc hc=>?_,λn cs hc=>(ah.tabs n cs hc).mono af⟩;by_cases hc:c=b;subst hc;simp only[St.own,ZH7,if_true,ZHu]at hx;subst hx;refine⟨az,_,T,al,?_⟩;simp only[List.size_toArray,ar];exact ZIg (ZHP _ ac) aq;simp only[St.own,ZH7,hc,if_false]at hx;exact(ah.obj c x hx).mono af (aj c hc) (by simp[QU,hc]);by_cases hc:c=b;rw[hc];exact ae;simp only[St.own,ZH7,hc,if_false]at hx;exact ah.kept c x hx;rw[a5]at hc;have hbl:b<w.heap.size:=(Array.getElem?_eq_some_iff.1 ad).1;simp only[QU,show ¬c=b by omega,if_false];exact ah.fresh c hc;refine Zix (am.mono af) al ?_ ac (by simp only[List.size_toArray,ar];exact aq) az hb';have a9:(ap++news).length=(n+m)*i.size:=am.len;rw[<-au,ay,<-a9,ay];exact List.take_left;have:c≠b:=λh=>hc (by rw[h]);exact⟨aj c this,by simp[QU,this]⟩
def ZAK{F:Fr P}{kp dk o os H L s}(hg:Zk H o.guard=sO true){e sz b z x y}(hk:o.k=.append e sz b z x y){p q t n m row row2 dy dx}(hx:Zy H true x=sO (p,.d dx))(hsl:Zcf sz dx=sO (t,n,row))(hy:Zy H true y=sO (q,.d dy))(hp:p)(hq:q)(hel:JF sz dy=sO (m,row2))(hok:t.okIn s)(hm:0<m)(hb:(n+m)*b<=140737488355328)(hbig:n+m<=big)(h:∀c,s c=nO->DO F kp dk os (Zv H o.dst (.d (.sl (.tip c) (n+m) sz (Yg n row row2)))) L (s.own (.tip c) ((n+m)*sz))):
  DO F kp dk (o::os) H L (s.own t (n*sz)):=by
 refine Y1 λoo g Z w tmps bj i r k ay ab aq ai hd hN M hr ar=>?_;have hw:=Z2 M aq hg;have aw:=Z9 ab (by rw[hk];rfl);rw[hk]at ab;obtain⟨x',y',ag,aj,t1,t2,tu,az,u,ak,al,bc,be,ax,ba,hz,ao,bf,bg,h0,hzl⟩:=JS ab;subst ao;have a0:Rep g w _ (.sl t n sz row):=ZeE (ZX M bf rfl hx hp F.ds) hsl;have a8:Rep g w _ _:=ZX M bg rfl hy hq F.ds;obtain⟨zv,hz1,bh,hz3,ie,ac,bi⟩:=KK (g:=g) (w:=w) hz;have ae:ie.size=sz:=by simpa[ZP,ac]using ba
 have af:zv.cells.size=sz:=by have:=bh.len;simp at this;omega
 have ap:P.bytesOf e=ie.bytes:=by simp[Program.bytesOf,ac]
 rw[ap]at hb;obtain⟨news,au,av⟩:=Zh0 (P:=P) a8 hel h0;obtain⟨v',w',g',t',a1,a2,a3,a4,a5,a6,a7,c',bb⟩:=ZAP (ty:=oo.type) bc be ax ac bi ae af h0 M.st hok a0 au av hm hb hbig;subst bb;have ad:∀l cs,Zg L l=sO cs->t≠.tip (Z l):=λl cs hl ht=>by have:=M.locSt l cs hl;rw[ht]at this;simp[St.own,ZH7]at this
 have a9:∀l cs,Zg L l=sO cs->s (Z l)=nO:=λl cs hl=>by
  cases hx:s (Z l) with
  |none=>rfl
  |some o=>have:=YR (k:=n*sz) hok _ _ hx;rw[M.locSt l cs hl]at this;simp at this
 have mm:Zu g' Z w' tmps H L (s.own (.tip c') ((n+m)*sz)):=by
  refine⟨a3,λl cs hl=>(M.loc l cs hl).mono a2 (a6 (Z l) (M.loc l cs hl).lt (ad l cs hl)).1 (a6 (Z l) (M.loc l cs hl).lt (ad l cs hl)).2,λl cs hl=>by rw[a2.keptEq];exact M.locKept l cs hl,λl cs hl=>?_,M.inj,λt e he=>(M.env t e he).mono a2⟩;have:¬Z l=c':=λhb=>by rcases a7 c' rfl with h1|h1;exact ad l cs hl (by rw[hb];exact h1);have:=(M.loc l cs hl).lt;omega
  simp only[St.own,ZH7,this,if_false];exact a9 l cs hl
 refine Yf hN ay ai hd hw aw (v:=v') (w':=w') (e:=.d (.sl (.tip c') (n+m) sz (Yg n row row2))) ?_ a2 mm a5 (h c' a4 bj r k hr ar);have am:ag = #[x',y']:=by apply Array.ext';simpa using u
 have ah:∀vs,Builtin.append_ aj oo.type vs=Builtin.append_ #[t1,t2] oo.type vs:=λvs=>by unfold Builtin.append_;simp[ak,al]
 unfold execOp;simp only[az,am,resolve,invoke,builtin,Sem.run_bind,Sem.run_pure,Result.andThen_ok,List.map_toArray,ZHM,ZH2,ah,a1]
def ZCd{F:Fr P}{kp dk o os H L s0}(s t)(hg:Zk H o.guard=sO true){e sz b z x y}(hk:o.k=.append e sz b z x y){p q n m row row2 dy dx}(hx:Zy H true x=sO (p,.d dx))(hsl:Zcf sz dx=sO (t,n,row))(hy:Zy H true y=sO (q,.d dy))(u:JF sz dy=sO (m,row2))(hp:p)(hq:q)(hs:s0=s.own t (n*sz))(hok:t.okIn s)(hm:0<m)(hb:(n+m)*b<=140737488355328)(i:n+m<=big)(h:∀c,s c=nO->DO F kp dk os (Zv H o.dst (.d (.sl (.tip c) (n+m) sz (Yg n row row2)))) L (s.own (.tip c) ((n+m)*sz))):
  DO F kp dk (o::os) H L s0:=by
 subst hs;exact ZAK hg hk hx hsl hy hp hq u hok hm hb i h
end
section
variable {P:Program}
def ZAL{F:Fr P}{kp dk o os H L s}(hg:o.guard=nO){x}(hk:o.k=.box x){t}(hdt:o.dst=sO t){p v}(ha:Zy H true x=sO (p,.d v))(hp:p)(hok:W7 v=true)(h:∀b,s b=nO->DO F kp dk os ((t,.d (.ptr b 0))::H) L (s.upd b (.cells (cellsOf v)))):DO F kp dk (o::os) H L s:=by
 refine Y1 λoo g Z w tmps ap i r k ak ab ah ac hd hN m hr ai=>?_;have hw:=Z2 m ah (c:=true) (by rw[hg];rfl);have aj:=Z9 ab (by rw[hk];rfl);rw[hk]at ab;obtain⟨e,x',al,ao⟩:=Zxi ab;have u:Rep g w _ v:=ZX m ao rfl ha hp F.ds;generalize am:(Act.mk tmps F.ds).eval x'=vv at u;obtain⟨af,ag⟩:=ZdN u hok;have ae:=Zhp u hok;have ad:=J4 (g:=g) (w:=w) (.cells vv.cells e) m.st.fresh;have he:=ad.ext m.st.fresh;obtain⟨hn,m'⟩:=m.newObj ad (o:=.cells (cellsOf v)) ⟨(m.st.fresh _ (ZHK _)).1,_,e,Kf w,by rw[af],λi v d hv hd=>(ag i v d (by simpa using hv) hd).mono he,ae⟩;refine Yf (L':=L) hN ak ac hd hw aj (v:=.pointer (sO ⟨w.heap.size,0,nO⟩)) (e:=.d (.ptr w.heap.size 0)) ?_ he m' (Rep.ptr _ _) ?_;simp[execOp,al,am,Instr.box,newVar,newRow];rw[hdt];exact h _ hn ap r k hr ai
def Zw6{F:Fr P}{kp dk o os H L s}(hg:o.guard=nO){t}(hdt:o.dst=sO t){z}(hk:o.k=.alloc z)(h:∀b,s b=nO->DO F kp dk os ((t,.d (.ptr b 0))::H) L (s.upd b (.cells z))):DO F kp dk (o::os) H L s:=by
 refine Y1 λoo g Z w tmps al i r k ah u ae ab hd hN m hr af=>?_;have hw:=Z2 m ae (c:=true) (by rw[hg];rfl);have ag:=Z9 u (by rw[hk];rfl);rw[hk]at u;obtain⟨T,ai,hz⟩:=Zsy u;obtain⟨v,aj,ad,ak,_⟩:=KK (g:=g) (w:=w) hz;have ac:=J4 (g:=g) (w:=w) (.cells v.cells T) m.st.fresh;have he:=ac.ext m.st.fresh;obtain⟨hn,m'⟩:=m.newObj ac (o:=.cells z) ⟨(m.st.fresh _ (ZHK _)).1,_,T,Kf w,by simpa using ad.len,λi v d hv hd=>(ad.get i v d (by simpa using hv) hd).mono he,ak⟩;refine Yf (L':=L) hN ah ab hd hw ag (v:=.pointer (sO ⟨w.heap.size,0,nO⟩)) (e:=.d (.ptr w.heap.size 0)) ?_ he m' (Rep.ptr _ _) ?_;simp[execOp,ai,Instr.alloc,aj,newVar,newRow];rw[hdt];exact h _ hn al r k hr af
def ZbN{g w b off cs xs vs}(h:YI g w b cs)(hx:ZH (Rep g w) vs xs)(ho:∀v∈vs,v.one1=true)(hlen:off+I xs<=I cs)(hkp:¬g.kept b):
  ∃w',(storeCells ⟨b,off,nO⟩ vs 0).run P w=.ok () w'/\Ext g w g w'/\w'.heap.size=w.heap.size/\(∀c,c≠b->w'.heap[c]?=w.heap[c]?)/\YI g w' b (Zx cs off xs):=by
 obtain⟨af,t,T,hb,ad,ah,ae⟩:=h;have ai:I vs=I xs:=hx.len;have ag:=run_storeCells_at (P:=P) b off T vs 0 t w hb (by simp;omega) (λx hx=>by rw[ZbZ];exact ho x hx);simp only[Nat.add_zero]at ag;have u:ZH (Rep g w) (t.toList.take off++vs++t.toList.drop (off+I vs)) (Zx cs off xs):=by have ac:ZH (Rep g w) t.toList cs:=Ye (by simpa using ad) (λi v d hv hd=>ah i v d (by simpa using hv) hd);unfold Zx;rw[<-ai];exact((ac.take off).append hx).append (ac.drop _)
 have ab:((t.toList.take off++vs++t.toList.drop (off+I vs)).toArray).size=t.size:=by have:=u.len;simp[Zx]at this⊢;omega
 have he:=Zh2 (g:=g) b hb ab af hkp;refine⟨_,ag,he,by simp[World.setRow],λc hc=>setRow_other w b c _ hc,af,_,T,setRow_heap w b t _ T (0,0) hb,by rw[ab,ad];simp[Zx];omega,
  λi v d hv hd=>(u.get i v d (by simpa using hv) hd).mono he,λx hx=>?_⟩
 simp only[List.mem_toArray,List.mem_append]at hx;rcases hx with (hx|hx)|hx;exact ae x (Array.mem_toList_iff.1 (List.mem_of_mem_take hx));exact ho x hx;exact ae x (Array.mem_toList_iff.1 (List.mem_of_mem_drop hx))
def Zzi{op n z x}(h:ck P op=sO (.clear n z x)):
  ∃ats t e x',op=.call ⟨.builtin .clear,#[x'],ats⟩/\ats[0]?=sO t/\P.underlying t=sO (.slice e)/\ZP P e=sO n/\Zaa P e=sO z/\ZW x'=sO x/\0<n/\I z=n:=by
 unfold ck at h;split at h;simp at h;split at h<;>(try(simp at h;done));all_goals (try(repeat' (split at h<;>(try(simp at h;done)))))
 rename_i c _ _ ab _ _ e x' hu i _ _ _ s z' x2 h1 h2 h3 hc;simp only[ZHu,K.clear.injEq]at h;obtain⟨rfl,rfl,rfl⟩:=h;obtain⟨callee,u,ats⟩:=c;simp only at ab hu i;obtain⟨u⟩:=u;simp only at i;subst i;subst ab;simp only[Option.bind_eq_some_iff]at hu;obtain⟨t,ht,hu⟩:=hu;simp only[ZHG,decide_eq_true_eq]at hc;exact⟨ats,t,e,x',rfl,ht,hu,h1,h2,h3,hc.1,hc.2⟩
def Zmp{F:Fr P}{kp dk o os H L s}(hg:Zk H o.guard=sO true){z x sz b off n cap}(hk:o.k=.clear sz z x){p}(ha:Zy H true x=sO (p,.d (.msl b off n cap sz)))(hp:p){cs}(hcs:Z1 s b=sO cs)(hlen:off+n*sz<=I cs)(h:DO F kp dk os (Zv H o.dst (.d (.tup []))) L (s.upd b (.cells (Zx cs off (W0 z n))))):DO F kp dk (o::os) H L s:=by
 refine Y1 λoo g Z w tmps a6 i r k ar af ao ah hd hN m hr ap=>?_;have hw:=Z2 m ao hg;have aq:=Z9 af (by rw[hk];rfl);rw[hk]at af;obtain⟨am,t,e,x',au,ad,hu,hsz,hz,aw,h0,az⟩:=Zzi af;obtain⟨zv,ax,ak,ay,ie,hie,hzz⟩:=KK (g:=g) (w:=w) hz;have u:zv.cells.size=sz:=by have:=ak.len;simp at this;omega
 have ac:Rep g w _ _:=ZX m aw rfl ha hp F.ds;generalize av:(Act.mk tmps F.ds).eval x'=vv at ac;have aj:s b=sO (.cells cs):=by unfold Z1 at hcs;split at hcs<;>simp only[ZHu,reduceCtorEq]at hcs;subst hcs;assumption
 obtain⟨ag,a7⟩:=ZkS (z:=z) (n:=sz) (c:=n) az;have a0:ZH (Rep g w) (Builtin.zeroCells zv.cells n).toList (W0 z n):=by
  refine Ye (by rw[Array.length_toList,size_zeroCells,ag,u]) λi v d hv hd=>?_;have hi:i<n*sz:=by rw[<-ag];exact(List.getElem?_eq_some_iff.1 hd).1
  rw[a7 i hi]at hd;have hm:i % sz<sz:=Nat.mod_lt _ h0;simp only[Builtin.zeroCells,Array.toList_map,Array.toList_range,List.getElem?_map,ZHI,u]at hv;obtain⟨a,ha,rfl⟩:=hv;rw[List.getElem?_range hi]at ha;simp only[ZHu]at ha;subst ha;refine ak.get (i % sz) _ d ?_ hd;rw[getElem!_pos zv.cells (i % sz) ω];simp[u,hm]
 have ai:∀v∈(Builtin.zeroCells zv.cells n).toList,v.one1=true:=λv hv=>by simp only[Builtin.zeroCells,Array.mem_toList_iff,Array.mem_map]at hv;obtain⟨a,_,rfl⟩:=hv;by_cases hs0:zv.cells.size=0;omega;exact ay _ (by rw[getElem!_pos zv.cells _ (Nat.mod_lt _ ω)];exact Array.getElem_mem _)
 have ab:n=0->Zx cs off (W0 z n)=cs:=λhn=>by subst hn;simp[Zx,W0]
 have al:∃w',(Builtin.clear_ am oo.type #[vv]).run P w=.ok (.tuple #[]) w'/\Ext g w g w'/\w'.heap.size=w.heap.size/\(∀c,c≠b->w'.heap[c]?=w.heap[c]?)/\YI g w' b (Zx cs off (W0 z n)):=by
  have ae:=Qt m.st hcs;cases ac with
  |mslx a =>refine⟨w,?_,Ext.refl g w,rfl,λ_ _=>rfl,by rw[ab rfl];exact ae⟩;simp[Builtin.clear_,ad,run_underlying hu]
  |msl _ _ _ _ _ h1 h2 =>
   cases n with
   |zero =>refine⟨w,?_,Ext.refl g w,rfl,λ_ _=>rfl,by rw[ab rfl];exact ae⟩;simp[Builtin.clear_,ad,run_underlying hu]
   |succ n =>obtain⟨w',a1,a2,a3,a4,a5⟩:=ZbN (P:=P) ae a0 ai (by rw[ag];exact hlen) (m.st.kept b _ aj);refine⟨w',?_,a2,a3,a4,a5⟩;simp only[Builtin.clear_,ad,List.getElem?_toArray,List.getElem?_cons_zero,Sem.run_bind,run_underlying hu,Result.andThen_ok,ax,a1,Sem.run_pure]
 obtain⟨w',a1,a2,a3,a4,a5⟩:=al;have m':=m.named (o':=.cells (Zx cs off (W0 z n))) aj a2 a3 a4 a5;refine Yf (L':=L) hN ar ah hd hw aq (v:=.tuple #[]) (e:=.d (.tup [])) ?_ a2 m' (Rep.tup [] [] rfl ψ) (h a6 r k hr ap);simp only[execOp,au,resolve,invoke,builtin,Sem.run_bind,Sem.run_pure,Result.andThen_ok,List.map_toArray,ZHM,ZH2,av,a1]
def WX(P:Program)(s:St)(sz:Nat)(dy:D)(m:Nat)(row:Nat->List D):Prop :=
 ∀g w v,Ya g s w->Rep g w v dy->0<sz->∃news,Wx g w sz m news row/\ZaC P w sz m v news
def WX.elems{s sz i m row}(h:JF sz i=sO (m,row)):WX P s sz i m row:=λg w v _ u t=>Zh0 (P:=P) u h t
def WX.msl{s sz b off n cap cs}(hcs:Z1 s b=sO cs)(hlen:off+n*sz<=I cs):WX P s sz (.msl b off n cap sz) n (λi=>part cs (off+i*sz) sz):=λg w v hs hr h0=>by
 obtain⟨hp,ab,T,hb,hcl,ad,ac⟩:=Qt hs hcs;let vals:=(ab.toList.drop off).take (n*sz);have u:I vals=n*sz:=by simp[vals];omega
 have t:∀k,k<n*sz->vals[k]?=ab[off+k]?:=λk hk=>by simp only[vals,ZIb,hk,if_true,List.getElem?_drop,Array.getElem?_toList]
 have hk:∀i j,i<n->j<sz->i*sz+j<n*sz:=λi j hi hj=>by have:(i+1)*sz<=n*sz:=ZHP _ hi;rw[ZHU,Nat.one_mul]at this;omega
 refine⟨vals,⟨u,λi hi=>?_,λi j v d hi hj hv hd=>?_,λv hv=>?_⟩,?_⟩;have:=hk i (sz-1) hi ω;simp only[part,ZHQ,ZH9];omega;rw[t _ (hk i j hi hj)]at hv;refine ad _ v d hv ?_;simp only[part,ZIb,hj,if_true,List.getElem?_drop]at hd;rw[<-hd];congr 1;omega;obtain⟨k,ae,rfl⟩:=ZHR hv;have h1:=t k ω;rw[ZH6 ae]at h1;exact ac _ (Array.mem_of_getElem? h1.symm);cases hr with
 |mslx a =>have:vals=[]:=List.eq_nil_of_length_eq_zero (by simpa using u);rw[this];exact⟨λw2=>by simp[Builtin.lenOf],λw2 _=>by simp[Builtin.firstCells,loadCells,loadCellsFrom]⟩
 |msl _ _ _ _ _ h1 h2 =>
  refine⟨λw2=>by simp[Builtin.lenOf],λw2 ag=>?_⟩;refine run_firstCells_some (P:=P) w2 sz n ⟨b,off,nO⟩ n cap vals u λk v hv=>?_;have af:k<n*sz:=by rw[<-u];exact(List.getElem?_eq_some_iff.1 hv).1
  rw[t k af]at hv;rw[WT,QO (ag▸rfl:w2.heap[b]?=w.heap[b]?),KX hb];exact hv
def ZvF{F:Fr P}{kp dk o os H L s}(hg:Zk H o.guard=sO true){e sz b z x y}(hk:o.k=.append e sz b z x y){p q t n m row row2 dy dx}(hx:Zy H true x=sO (p,.d dx))(hsl:Zcf sz dx=sO (t,n,row))(hy:Zy H true y=sO (q,.d dy))(hp:p)(hq:q)(hel:WX P (s.own t (n*sz)) sz dy m row2)(hok:t.okIn s)(hb:(n+m)*b<=140737488355328)(hbig:n+m<=big)(h:∀t':Tok,t'.okIn s->DO F kp dk os (Zv H o.dst (.d (.sl t' (n+m) sz (Yg n row row2)))) L (s.own t' ((n+m)*sz))):
  DO F kp dk (o::os) H L (s.own t (n*sz)):=by
 refine Y1 λoo g Z w tmps bi i r k az ab ar ai hd hN M hr au=>?_;have hw:=Z2 M ar hg;have ax:=Z9 ab (by rw[hk];rfl);rw[hk]at ab;obtain⟨x',y',ag,ak,t1,t2,tu,a0,u,al,am,bb,bc,ay,ba,hz,ap,be,bf,h0,hzl⟩:=JS ab;subst ap;have a8:Rep g w _ (.sl t n sz row):=ZeE (ZX M be rfl hx hp F.ds) hsl;have a9:Rep g w _ _:=ZX M bf rfl hy hq F.ds;obtain⟨zv,hz1,bg,hz3,ie,ac,bh⟩:=KK (g:=g) (w:=w) hz;have ae:ie.size=sz:=by simpa[ZP,ac]using ba
 have af:zv.cells.size=sz:=by have:=bg.len;simp at this;omega
 have aq:P.bytesOf e=ie.bytes:=by simp[Program.bytesOf,ac]
 rw[aq]at hb;obtain⟨news,av,aw⟩:=hel _ _ _ M.st a9 h0;obtain⟨v',w',g',t',a1,a2,a3,a4,a5,a6,a7⟩:=Zsm (ty:=oo.type) bb bc ay ac bh ae af h0 M.st hok a8 av aw hb hbig;have ad:∀l cs,Zg L l=sO cs->t≠.tip (Z l):=λl cs hl ht=>by have:=M.locSt l cs hl;rw[ht]at this;simp[St.own,ZH7]at this
 have aj:∀l cs,Zg L l=sO cs->s (Z l)=nO:=λl cs hl=>by
  cases hx:s (Z l) with
  |none=>rfl
  |some o=>have:=YR (k:=n*sz) hok _ _ hx;rw[M.locSt l cs hl]at this;simp at this
 have mm:Zu g' Z w' tmps H L (s.own t' ((n+m)*sz)):=by
  refine⟨a3,λl cs hl=>(M.loc l cs hl).mono a2 (a6 (Z l) (M.loc l cs hl).lt (ad l cs hl)).1 (a6 (Z l) (M.loc l cs hl).lt (ad l cs hl)).2,λl cs hl=>by rw[a2.keptEq];exact M.locKept l cs hl,λl cs hl=>?_,M.inj,λt e he=>(M.env t e he).mono a2⟩;cases t' with
  |tip b =>
   have:¬Z l=b:=λhb=>by rcases a7 b rfl with h1|h1;exact ad l cs hl (by rw[hb];exact h1);have:=(M.loc l cs hl).lt;omega
   simp only[St.own,ZH7,this,if_false];exact aj l cs hl
  |_=>exact aj l cs hl
 refine Yf hN az ai hd hw ax (v:=v') (w':=w') (e:=.d (.sl t' (n+m) sz (Yg n row row2))) ?_ a2 mm a5 (h t' a4 bi r k hr au);have ao:ag = #[x',y']:=by apply Array.ext';simpa using u
 have ah:∀vs,Builtin.append_ ak oo.type vs=Builtin.append_ #[t1,t2] oo.type vs:=λvs=>by unfold Builtin.append_;simp[al,am]
 unfold execOp;simp only[a0,ao,resolve,invoke,builtin,Sem.run_bind,Sem.run_pure,Result.andThen_ok,List.map_toArray,ZHM,ZH2,ah,a1]
def ZbD{sz m}{row:Nat->List D}(h:∀i,i<m->(row i).length=sz):∀k,k<=m->((ZHJ k).flatMap row).length=k*sz
 |0,_=>by simp
 |k+1,hk=>by rw[List.range_succ,List.flatMap_append,ZHF,ZbD h k ω];simp[h k hk,ZHU]
def ZmL{sz m}{row:Nat->List D}(h:∀i,i<m->(row i).length=sz):∀(k i j),k<=m->i<k->j<sz->((ZHJ k).flatMap row)[i*sz+j]?=(row i)[j]?
 |0,i,j,_,hi,_=>by omega
 |k+1,i,j,hk,hi,hj=>by
  rw[List.range_succ,List.flatMap_append];have hl:=ZbD h k ω;by_cases t:i<k;have:i*sz+j<k*sz:=by have:(i+1)*sz<=k*sz:=ZHP _ t;rw[ZHU,Nat.one_mul]at this;omega
  rw[ZHW ω];exact ZmL h k i j ω t hj;obtain rfl:i=k:=ω;rw[ZIf ω,hl];simp[List.flatMap_cons]
def Wx.flat{g w sz m vs row}(h:Wx g w sz m vs row):ZH (Rep g w) vs ((ZHJ m).flatMap row):=by
 have hl:=ZbD h.rlen m (ZHK _);refine Ye (by rw[h.len,hl]) λk v d hv i=>?_;have hk:k<m*sz:=by rw[<-hl];exact(List.getElem?_eq_some_iff.1 i).1
 have hs:0<sz:=by rcases Nat.eq_zero_or_pos sz with h|h;subst h;simp at hk;exact h
 have t:k / sz<m:=(Nat.div_lt_iff_lt_mul hs).2 hk;have u:k % sz<sz:=Nat.mod_lt _ hs;have e:k / sz*sz+k % sz=k:=by rw[Nat.mul_comm];exact Nat.div_add_mod k sz
 rw[<-e]at hv i;rw[ZmL h.rlen m _ _ (ZHK _) t u]at i;exact h.rep _ _ v d t u hv i
def Zmo{F:Fr P}{kp dk o os H L s}(hg:Zk H o.guard=sO true){e sz b z x y}(hk:o.k=.append e sz b z x y){p q m row row2 dy dx}(hx:Zy H true x=sO (p,.d dx))(hsl:Zcf sz dx=sO (.full,0,row))(hy:Zy H true y=sO (q,.d dy))(hel:WX P s sz dy m row2)(hp:p)(hq:q)(hm:0<m)(hb:m*b<=140737488355328)(hbig:m<=big)(h:∀c cap,s c=nO->m<=cap->DO F kp dk os (Zv H o.dst (.d (.msl c 0 m cap sz))) L (s.upd c (.cells ((ZHJ m).flatMap row2++List.replicate ((cap-m)*sz) .any)))):
  DO F kp dk (o::os) H L s:=by
 refine Y1 λoo g Z w tmps bi i r k az u aq ag hd hN M hr au=>?_;have hw:=Z2 M aq hg;have aw:=Z9 u (by rw[hk];rfl);rw[hk]at u;obtain⟨x',y',ae,aj,t1,t2,tu,a0,t,ak,al,ba,bb,ax,a9,hz,ao,bc,be,h0,hzl⟩:=JS u;subst ao;have a7:Rep g w _ (.sl .full 0 sz row):=ZeE (ZX M bc rfl hx hp F.ds) hsl;have a8:Rep g w _ _:=ZX M be rfl hy hq F.ds;obtain⟨zv,hz1,bf,bg,ie,ab,bh⟩:=KK (g:=g) (w:=w) hz;have ac:ie.size=sz:=by simpa[ZP,ab]using a9
 have ad:zv.cells.size=sz:=by have:=bf.len;simp at this;omega
 have ap:P.bytesOf e=ie.bytes:=by simp[Program.bytesOf,ab]
 rw[ap]at hb;obtain⟨news,ai,av⟩:=hel _ _ _ M.st a8 h0;obtain⟨cap,cv,a1,a2,a3,a4,a5,a6⟩:=ZuP (ty:=oo.type) ba bb ax ab bh ac ad bg h0 M.st a7 hm ai av hb hbig;have ah:JZ g w g (w.drew.alloc (.cells cv e)):=ZjG (g:=g) (w:=w) cv e M.st.fresh;have he:=ah.ext M.st.fresh;have ar:=ZbD ai.rlen m (ZHK _);have ay:WI g (w.drew.alloc (.cells cv e)) w.heap.size (.cells ((ZHJ m).flatMap row2++List.replicate ((cap-m)*sz) .any)) :=
  ⟨(M.st.fresh _ (ZHK _)).1,_,e,Kf w.drew,by rw[ZHF,ar,List.length_replicate,a4,<-ZHU];congr 1;omega,λi v d hv hd=>(a6 i v d hv hd).mono he,a5⟩
 obtain⟨hn,m'⟩:=M.newObj ah ay;refine Yf (L':=L) hN az ag hd hw aw (e:=.d (.msl w.heap.size 0 m cap sz)) ?_ he m' (Rep.msl _ _ _ _ _ a2 a3) (h _ cap hn a2 bi r k hr au);have am:ae = #[x',y']:=by apply Array.ext';simpa using t
 have af:∀vs,Builtin.append_ aj oo.type vs=Builtin.append_ #[t1,t2] oo.type vs:=λvs=>by unfold Builtin.append_;simp[ak,al]
 unfold execOp;simp only[a0,am,resolve,invoke,builtin,Sem.run_bind,Sem.run_pure,Result.andThen_ok,List.map_toArray,ZHM,ZH2,af,a1]
def ZkV{F:Fr P}{kp dk o os H L s}(hg:Zk H o.guard=sO true){e sz bt z x y}(hk:o.k=.append e sz bt z x y){p q b off n cap m row2 dy cs}(hx:Zy H true x=sO (p,.d (.msl b off n cap sz)))(hy:Zy H true y=sO (q,.d dy))(hp:p)(hq:q)(hcs:Z1 s b=sO cs)(hlen:off+n*sz<=I cs)(hel:WX P s sz dy m row2)(hroom:n+m<=cap->off=0/\(n+m)*sz<=I cs)(hb:(n+m)*bt<=140737488355328)(hbig:n+m<=big)(h1:n+m<=cap->DO F kp dk os (Zv H o.dst (.d (.msl b off (n+m) cap sz))) L (s.upd b (.cells (Zx cs (n*sz) ((ZHJ m).flatMap row2)))))(h2:∀c cap',cap<n+m->s c=nO->n+m<=cap'->DO F kp dk os (Zv H o.dst (.d (.msl c 0 (n+m) cap' sz))) L (s.upd c (.cells (part cs off (n*sz)++(ZHJ m).flatMap row2++List.replicate ((cap'-(n+m))*sz) .any)))):
  DO F kp dk (o::os) H L s:=by
 refine Y1 λoo g Z w tmps ak i r k a6 aw ca ae hd hN M hr ay=>?_;have hw:=Z2 M ca hg;have az:=Z9 aw (by rw[hk];rfl);rw[hk]at aw;obtain⟨x',y',bb,bw,t1,t2,tu,cj,au,bx,bz,a8,a9,a0,cm,hz,b1,cr,cu,h0,hzl⟩:=JS aw;subst b1;have ai:Rep g w _ (.msl b off n cap sz):=ZX M cr rfl hx hp F.ds;have bq:Rep g w _ _:=ZX M cu rfl hy hq F.ds;obtain⟨zv,hz1,cw,cx,ie,ah,cz⟩:=KK (g:=g) (w:=w) hz;have a7:ie.size=sz:=by simpa[ZP,ah]using cm
 have ba:zv.cells.size=sz:=by have:=cw.len;simp at this;omega
 have b2:P.bytesOf e=ie.bytes:=by simp[Program.bytesOf,ah]
 rw[b2]at hb;have br:s b=sO (.cells cs):=by unfold Z1 at hcs;split at hcs<;>simp only[ZHu,reduceCtorEq]at hcs;subst hcs;assumption
 obtain⟨ad,ab,am⟩:=hel _ _ _ M.st bq h0;obtain⟨bv,ao,bo⟩:=WX.msl (P:=P) (s:=s) (cap:=cap) hcs hlen g w _ M.st ai h0;have b0:bb = #[x',y']:=by apply Array.ext';simpa using au
 have be:∀vs,Builtin.append_ bw oo.type vs=Builtin.append_ #[t1,t2] oo.type vs:=λvs=>by unfold Builtin.append_;simp[bx,bz]
 generalize co:(Act.mk tmps F.ds).eval x'=vx at ai bo;generalize cp:(Act.mk tmps F.ds).eval y'=vy at bq am;have ac:∀v' w',(Builtin.append_ #[t1,t2] oo.type #[vx,vy]).run P w=.ok v' w'->(execOp (Act.mk tmps F.ds).eval oo).run P w=.ok (.value v') w':=λv' w' t=>by unfold execOp;simp only[cj,b0,resolve,invoke,builtin,Sem.run_bind,Sem.run_pure,Result.andThen_ok,List.map_toArray,ZHM,ZH2,be,co,cp,t]
 subst a7;have ce:=ZbD ab.rlen m (ZHK _);have hpl:(part cs off (n*ie.size)).length=n*ie.size:=by simp only[part,ZHQ,ZH9];omega
 have bh:(ZHJ n).flatMap (λi=>part cs (off+i*ie.size) ie.size)=part cs off (n*ie.size):=by
  have hlo:=ZbD ao.rlen n (ZHK _);apply List.ext_getElem?;intro k';by_cases bk:k'<n*ie.size;have e1:k' / ie.size*ie.size+k' % ie.size=k':=by rw[Nat.mul_comm];exact Nat.div_add_mod k' ie.size
  have e2:k' / ie.size<n:=(Nat.div_lt_iff_lt_mul h0).2 bk;have e3:k' % ie.size<ie.size:=Nat.mod_lt _ h0;have:=ZmL ao.rlen n _ _ (ZHK _) e2 e3;rw[e1]at this;rw[this];simp only[part,ZIb,e3,if_true,List.getElem?_drop,bk]
  congr 1;omega
  rw[ZIi ω,ZIi ω]
 have ag:∀base,vx=.slice base n cap->cap<n+m->F.T.T g w (lone (F.b.atR ⟨tmps,F.ds⟩ (.inRegion ak (i::r)::k)) F.cs w):=by
  intro base hv bl;subst hv;have t:=ZhM (ty:=oo.type) a8 a9 a0 ah cz am bo.2 bl (by simp only[big]at hbig;omega) hb;have ax:=grownCap_ge w (n+m) cap e;have u:=grownCap_le_maxLen w (n+m) cap e (by simp only[big]at hbig;simp only[maxLen];omega);generalize grownCap w (n+m) cap e=cap' at t ax u;generalize bg:(bv++ad++(Builtin.zeroCells zv.cells (cap'-(n+m))).toList).toArray=cv at t;have cy:(Builtin.zeroCells zv.cells (cap'-(n+m))).toList.length=(cap'-(n+m))*ie.size:=by rw[Array.length_toList,size_zeroCells,ba]
  have bj:JZ g w g (w.drew.alloc (.cells cv e)):=ZjG (g:=g) (w:=w) cv e M.st.fresh;have he:=bj.ext M.st.fresh;have aq:ZH (Rep g w) cv.toList (part cs off (n*ie.size)++(ZHJ m).flatMap row2++List.replicate ((cap'-(n+m))*ie.size) .any):=by rw[<-bg,<-bh];refine(ao.flat.append ab.flat).append (Ye (by rw[cy,List.length_replicate]) λk' v d hv hd=>?_);rw[List.getElem?_replicate]at hd;split at hd<;>simp only[ZHu,reduceCtorEq]at hd;subst hd;exact .any v
  have bp:∀v∈cv,v.one1=true:=λv hv=>by rw[<-bg]at hv;simp only[List.mem_toArray,List.mem_append]at hv;rcases hv with (hv|hv)|hv;exact ao.one v hv;exact ab.one v hv;simp only[Builtin.zeroCells,Array.mem_toList_iff,Array.mem_map]at hv;obtain⟨a,_,rfl⟩:=hv;exact cx _ (by rw[getElem!_pos zv.cells _ (Nat.mod_lt _ ω)];exact Array.getElem_mem _)
  have ci:WI g (w.drew.alloc (.cells cv e)) w.heap.size (.cells (part cs off (n*ie.size)++(ZHJ m).flatMap row2++List.replicate ((cap'-(n+m))*ie.size) .any)) :=
   ⟨(M.st.fresh _ (ZHK _)).1,_,e,Kf w.drew,by simpa using aq.len,λi v d hv hd=>(aq.get i v d (by simpa using hv) hd).mono he,bp⟩
  obtain⟨hn,m'⟩:=M.newObj bj ci;exact Yf (L':=L) hN a6 ae hd hw az (e:=.d (.msl w.heap.size 0 (n+m) cap' ie.size)) (ac _ _ t) he m' (Rep.msl _ _ _ _ _ ax (by simp only[maxLen]at u;simp only[big];omega)) (h2 _ cap' bl hn ax ak r k hr ay)
 have aj:∀base,vx=.slice base n cap->base=sO ⟨b,off,nO⟩\/(n+m=0/\cap=0)->n+m<=cap->F.T.T g w (lone (F.b.atR ⟨tmps,F.ds⟩ (.inRegion ak (i::r)::k)) F.cs w):=by
  intro base hv av u;subst hv;obtain⟨ch,af⟩:=hroom u;subst ch;obtain⟨hpr,bc,T,bf,cb,hcr,hco⟩:=Qt M.st hcs;by_cases bn:m=0;subst bn;have cg:ad=[]:=List.eq_nil_of_length_eq_zero (by simpa using ab.len);subst cg;have t:=Zjb (ty:=oo.type) (n:=n) (cap:=cap) (base:=base) a8 a9 a0 ah am ω;have bu:Zx cs (n*ie.size) ((ZHJ 0).flatMap row2)=cs:=by simp[Zx]
  have cn:s.upd b (.cells cs)=s:=by funext c;simp only[ZH7];split<;>simp_all
  have bi:=h1 u;rw[bu,cn]at bi;exact Yf (L':=L) (s':=s) hN a6 ae hd hw az (e:=.d (.msl b 0 (n+0) cap ie.size)) (ac _ _ t) (Ext.refl g w) M (by rw[Nat.add_zero];exact ai) (bi ak r k hr ay);have al:base=sO ⟨b,0,nO⟩:=av.resolve_right (λh=>bn ω);subst al;have ar:n*ie.size+I ad<=bc.size:=by rw[ab.len,<-ZHU,cb];exact af
  have t:=Zmy (ty:=oo.type) a8 a9 a0 ah am bf (λv hv=>by rw[ZbZ];exact ab.one v hv) u ar;obtain⟨w',a1,a2,a3,a4,a5⟩:=ZbN (P:=P) (off:=n*ie.size) (Qt M.st hcs) ab.flat ab.one (by rw[ce,<-ZHU];exact af) (M.st.kept b _ br);have ap:=run_storeCells_at (P:=P) b (n*ie.size) T ad 0 bc w bf (by simpa using ar) (λv hv=>by rw[ZbZ];exact ab.one v hv);simp only[Nat.add_zero]at ap;rw[a1]at ap;simp only[Result.ok.injEq,true_and]at ap;rw[<-ap]at t;have m':=M.named (o':=.cells (Zx cs (n*ie.size) ((ZHJ m).flatMap row2))) br a2 a3 a4 a5;exact Yf (L':=L) hN a6 ae hd hw az (e:=.d (.msl b 0 (n+m) cap ie.size)) (ac _ _ t) a2 m' (by
   cases ai with
   |msl _ _ _ _ _ _ hcb=>exact Rep.msl _ _ _ _ _ u hcb
   |mslx a=>exact absurd u ω) (h1 u ak r k hr ay)
 cases ai with
 |msl _ _ _ _ _ hc1 hc2 =>by_cases u:n+m<=cap;exact aj _ rfl (.inl rfl) u;exact ag _ rfl ω
 |mslx a =>by_cases u:0+m<=0;exact aj _ rfl (.inr ⟨ω,rfl⟩) u;exact ag _ rfl ω
end
variable {P:Program}
def Ku(o:DOp)(H:Env)(L:Loc)(s:St):SR :=
 match o.k with
 |.q (.bin .add _) _=>.stop
 |.q (.bin .shl _) _=>.stop
 |_=>ZC o H L s
def WY(K:Env->Loc->St->Prop)(X:List DOp->Env->Loc->St->Prop):List DOp->Env->Loc->St->Prop
 | [],H,L,s=>K H L s
 |o::os,H,L,s=>match Ku o H L s with
  |.ok side H' L' s'=>side/\WY K X os H' L' s'
  |.all side pre H' s'=>side/\∀b,pre b->WY K X os (H' b) L (s' b)
  |.stop=>X (o::os) H L s
def ZiG{o H L s}:∀r,Ku o H L s=r->r=.stop\/ZC o H L s=r:=λr i=>by
 unfold Ku at i;split at i;exact .inl i.symm;exact .inl i.symm;exact .inr i
def WH{F:Fr P}{kp}{dk}:∀{os} {H} {L} {s},
  WY (λH L s=>Zw F dk (kept kp H) (Zk6 kp H L) s) (λos H L s=>DO F kp dk os H L s) os H L s->DO F kp dk os H L s
 | [],H,L,s,h=>ZeO h
 |o::os,H,L,s,h=>by simp only[WY]at h;split at h;rename_i u H' L' s' i;rcases ZiG _ i with h2|h2;cases h2;exact QI h2 h.1 (WH h.2);rename_i u pre H' s' i;rcases ZiG _ i with h2|h2;cases h2;exact Znk h2 h.1 λb t=>WH (h.2 b t);exact h
def ZbQ{F:Fr P}{ks dk}:∀{os H L s},
  WY (λH L s=>Zw F dk (Yn H ks) (ZaZ (Yn H ks) L) s) (λos H L s=>Q3 F (sO ks) dk os H L s) os H L s->Q3 F (sO ks) dk os H L s
 | [],H,L,s,h=>YK (os:=[]) h
 |o::os,H,L,s,h=>by simp only[WY]at h;split at h;rename_i u H' L' s' i;rcases ZiG _ i with h2|h2;cases h2;intro B;refine Jn h2 h.1 ?_;split;exact ZbQ h.2 _;exact⟨J6,ZbQ h.2 _⟩;rename_i u pre H' s' i;rcases ZiG _ i with h2|h2;cases h2;intro B;exact Zo5 h2 h.1 λb t=>⟨J6,ZbQ (h.2 b t) _⟩;exact h
def Zw4{F:Fr P}{kp dk o os H L s}(hg:o.guard=nO){x y i pl}(hk:o.k=.q (.bin i pl) [x,y]){p k t a b v}(u:Z8 H true [x,y]=sO (p,[.d (.int k a),.d (.int t b)]))(hp:p)(hv:Zgo i k t a b=sO v)(h:Q3 F kp dk os (Zv H o.dst (.d (.int k v))) L s):Q3 F kp dk (o::os) H L s:=λB=>ZyV hg hk u hp hv (h B)
def Zqa{F:Fr P}{kp dk o os H L s}(t:o.guard=nO){x y pl}(u:o.k=.q (.bin .add pl) [x,y]){p k a b}(i:Z8 H true [x,y]=sO (p,[.d (.int k a),.d (.int k b)]))(hp:p)(h:Q3 F kp dk os (Zv H o.dst (.d (.int k (k.wrap (a+b))))) L s):Q3 F kp dk (o::os) H L s:=Zw4 t u i hp (by simp[Zgo]) h
section
variable {P:Program} {F:Fr P} {ks:Option (List Nat)} {dk:List WW} {H:Env} {L:Loc} {s:St}
def rgR{r os i}(e:r=os)(t:i=ks)(h:DO F ks dk os H L s):Zw F (.code (.reg r i)::dk) H L s:=by subst e t;exact ZhI h
def Zit{o r os i}(e:r=os)(t:i=ks)(h:Q3 F ks dk os H L s):Zw F (.code (.regD o (ZwY r) i)::dk) H L s:=by subst e t;exact ZvH h
def rgD{o r os i}(e:r=os)(t:i=ks)(h:DOA F ks dk os H L s []):Zw F (.code (.regD o r i)::dk) H L s:=by subst e t;exact Zi4 h
end
structure Hid(p:Prop):Prop where
 out:p
def nd2{a b}(x:a)(y:b):a/\b:=⟨x,y⟩
def mv{A B:Prop}(k:B)(h:Hid B->A:=by
 intro hk;repeat(first|refine Zc ?_|refine Zs ?_|refine Z3 ?_|refine ZI ?_|refine Yx ?_|refine Zd ?_|refine Yr ?_|refine ZS rfl ?_)
 exact hk.out):A:=h ⟨k⟩
def rg{A B:Prop}(k:B)(h:Hid B->A:=by
 intro hk;repeat(first|refine Zc ?_|refine Zs ?_|refine Z3 ?_|refine ZI ?_|refine Yx ?_|refine Zd ?_|refine Yr ?_|refine ZS rfl ?_)
 first|refine rgR (by conv=>lhs;whnf) (by conv=>lhs;whnf) (Zm ?_)|refine Zit (by conv=>lhs;whnf) (by conv=>lhs;whnf) (YK ?_)|refine rgD (by conv=>lhs;whnf) (by conv=>lhs;whnf) (Yt ?_)
 simp only[Eqs,reduceCtorEq,Int.reduceToNat,reduceIte,Nat.reduceEqDiff,Nat.reduceAdd,Nat.reduceLeDiff];exact hk.out):A:=h ⟨k⟩
def rx{p:Prop}(e:p){A B:Prop}(k:B)(h:p->Hid B->A:=by
 intro e1 hk;repeat(first|refine Zc ?_|refine Zs ?_|refine Z3 ?_|refine ZI ?_|refine Yx ?_|refine Zd ?_|refine Yr ?_|refine ZS rfl ?_)
 first|refine rgR (by conv=>lhs;whnf) (by conv=>lhs;whnf) (Zm ?_)|refine Zit (by conv=>lhs;whnf) (by conv=>lhs;whnf) (YK ?_)|refine rgD (by conv=>lhs;whnf) (by conv=>lhs;whnf) (Yt ?_)
 simp only[Eqs,reduceCtorEq,Int.reduceToNat,reduceIte,Nat.reduceEqDiff,Nat.reduceAdd,Nat.reduceLeDiff,e1];exact hk.out):A:=h e ⟨k⟩
def rh{A B:Prop}(k:B)(h:Hid B->A:=by
 intro hk;repeat(first|refine Zc ?_|refine Zs ?_|refine Z3 ?_|refine ZI ?_|refine Yx ?_|refine Zd ?_|refine Yr ?_|refine ZS rfl ?_)
 first|refine rgR (by conv=>lhs;whnf) (by conv=>lhs;whnf) ?_|refine Zit (by conv=>lhs;whnf) (by conv=>lhs;whnf) ?_|refine rgD (by conv=>lhs;whnf) (by conv=>lhs;whnf) ?_
 exact hk.out):A:=h ⟨k⟩
def aa{A B:Prop}(k:B)(h:Hid B->A:=by
 intro hk;repeat(refine And.intro (by first|omega|trivial|(intro h0;simp at h0;omega)) ?_)
 exact hk.out):A:=h ⟨k⟩
def cl{q:Prop}(c:q){A B:Prop}(k:B)(h:q->Hid B->A:=by
 intro hc hk;refine Zay rfl rfl rfl rfl rfl φ φ hc (Zm ?_);simp only[Eqs,reduceCtorEq,Int.reduceToNat,reduceIte,Nat.reduceEqDiff,Nat.reduceAdd,Nat.reduceLeDiff];exact hk.out):A:=h c ⟨k⟩
def ct{q:Prop}(c:q){A B:Prop}(k:B)(h:q->Hid B->A:=by
 intro hc hk;refine Zaz rfl rfl rfl rfl rfl φ φ hc (Zm ?_);simp only[Eqs,reduceCtorEq,Int.reduceToNat,reduceIte,Nat.reduceEqDiff,Nat.reduceAdd,Nat.reduceLeDiff];exact hk.out):A:=h c ⟨k⟩
def cl0{q:Prop}(c:q){A B:Prop}(k:B)(h:q->Hid B->A:=by
 intro hc hk;refine ZvD rfl rfl rfl rfl rfl φ φ hc (YK ?_);simp only[Eqs,reduceCtorEq,Int.reduceToNat,reduceIte,Nat.reduceEqDiff,Nat.reduceAdd,Nat.reduceLeDiff];exact hk.out):A:=h c ⟨k⟩
def clD{q:Prop}(c:q){A B:Prop}(k:B)(h:q->Hid B->A:=by
 intro hc hk;refine ZfM rfl rfl rfl rfl rfl φ φ hc (Yt ?_);simp only[Eqs,reduceCtorEq,Int.reduceToNat,reduceIte,Nat.reduceEqDiff,Nat.reduceAdd,Nat.reduceLeDiff];exact hk.out):A:=h c ⟨k⟩
def ctD{q:Prop}(c:q){A B:Prop}(k:B)(h:q->Hid B->A:=by
 intro hc hk;refine Zi1 rfl rfl rfl rfl rfl φ φ hc (by first|trivial|exact⟨rfl,trivial⟩|simp[Wg,KY]) (Yt ?_);simp only[Eqs,reduceCtorEq,Int.reduceToNat,reduceIte,Nat.reduceEqDiff,Nat.reduceAdd,Nat.reduceLeDiff];exact hk.out):A:=h c ⟨k⟩
section
variable {P:Program} {F:Fr P} {dk:List WW} {H:Env} {L:Loc} {s:St}
def cd{o:Opd}{x y:DC}{b:Bool}{p:Prop}(ht:b=true->Zw F (.code x::dk) H L s)(hf:b=false->Zw F (.code y::dk) H L s)(ho:Zy H true o=sO (p,.d (.bool b)):=by rfl)(hp:p:=by trivial):Zw F (.code (.cond o x y)::dk) H L s:=Zn ho hp ht hf
end
def rb{p:Prop}(c:p){A B:Prop}(k:B)(h:p->Hid B->A:=by
 intro hret hk;repeat(first|refine Zc ?_|refine Zs ?_|refine Z3 ?_|refine ZI ?_|refine Yx ?_|refine Zd ?_|refine Yr ?_|refine ZS rfl ?_)
 exact hret rfl (by first|trivial|simp) (ZeD hk.out) (by first|exact St.sub_refl|exact YR (by first|trivial|assumption)|assumption|exact St.sub_upd _ (by assumption))):A:=h c ⟨k⟩
def ri{p:Prop}(c:p){A B:Prop}(k:B)(h:p->Hid B->A:=by
 intro hret hk;repeat(first|refine Zc ?_|refine Zs ?_|refine Z3 ?_|refine ZI ?_|refine Yx ?_|refine Zd ?_|refine Yr ?_|refine ZS rfl ?_)
 exact hret rfl (by first|trivial|simp) (Zg2 hk.out) (by first|exact St.sub_refl|exact YR (by first|trivial|assumption)|assumption|exact St.sub_upd _ (by assumption))):A:=h c ⟨k⟩
def rs{p:Prop}(c:p){A B:Prop}(k:B)(h:p->Hid B->A:=by
 intro hret hk;repeat(first|refine Zc ?_|refine Zs ?_|refine Z3 ?_|refine ZI ?_|refine Yx ?_|refine Zd ?_|refine Yr ?_|refine ZS rfl ?_)
 exact hret rfl (by first|trivial|simp) (ZCj hk.out) (by first|exact St.sub_refl|exact YR (by first|trivial|assumption)|assumption|exact St.sub_upd _ (by assumption))):A:=h c ⟨k⟩
def ro{p:Prop}(c:p){A B:Prop}(k:B)(h:p->Hid B->A:=by
 intro hret hk;repeat(first|refine Zc ?_|refine Zs ?_|refine Z3 ?_|refine ZI ?_|refine Yx ?_|refine Zd ?_|refine Yr ?_|refine ZS rfl ?_)
 exact hret rfl (by first|trivial|simp) (ZCi hk.out) (by first|exact St.sub_refl|exact YR (by first|trivial|assumption)|assumption|exact St.sub_upd _ (by assumption))):A:=h c ⟨k⟩
def rt{p:Prop}(c:p){A B:Prop}(k:B)(h:p->Hid B->A:=by
 intro hret hk;repeat(first|refine Zc ?_|refine Zs ?_|refine Z3 ?_|refine ZI ?_|refine Yx ?_|refine Zd ?_|refine Yr ?_|refine ZS rfl ?_)
 exact hret rfl (by first|trivial|simp) (JC hk.out rfl) (by first|exact St.sub_refl|exact YR (by first|trivial|assumption)|assumption|exact St.sub_upd _ (by assumption))):A:=h c ⟨k⟩
def fr{P}{F:Fr P}{x dk H L s}(N)(M:Nat->(Env->Loc->St->Prop)->Prop)(h:∀n,(∀m,m<n->∀i,N-i=m->M i λH L s=>Zw F (.code x::.inLoop x::dk) H L s)->∀i,N-i=n->M i λH L s=>Zw F (.code x::.inLoop x::dk) H L s)(g:(∀n i,N-i=n->M i λH L s=>Zw F (.code x::.inLoop x::dk) H L s)->Zw F (.code x::.inLoop x::dk) H L s):Zw F (.code (.loop x)::dk) H L s :=
 ZaA (g λn=>Nat.strongRecOn n h)
def i0{A B:Prop}(k:B)(h:Hid B->A:=by
 intro hq;repeat(first|refine Zc ?_|refine Zs ?_|refine Z3 ?_|refine ZI ?_|refine Yx ?_|refine Zd ?_|refine Yr ?_|refine ZS rfl ?_)
 exact Zn rfl trivial (λh=>by first|(simp at h;done)|(rw[hk]at h;simp at h;done)) (λ_=>hq.out)):A:=h ⟨k⟩
def i1{A B:Prop}(k:B)(h:Hid B->A:=by
 intro hq;repeat(first|refine Zc ?_|refine Zs ?_|refine Z3 ?_|refine ZI ?_|refine Yx ?_|refine Zd ?_|refine Yr ?_|refine ZS rfl ?_)
 exact Zn rfl trivial (λ_=>hq.out) (λh=>by first|(simp at h;done)|(rw[hk]at h;simp at h;done))):A:=h ⟨k⟩
def kl{P:Program}{F:Fr P}{dk:List WW}(s':St)(H':Env)(L':Loc)(h1:LeE H H')(h2:LeL L L')(h:Zw F dk H' L' s')(hs:s'.sub s:=by first|exact St.sub_refl|exact YR (by first|trivial|assumption)|exact St.sub_trans (YR (by first|trivial|assumption)) (YR (by first|trivial|assumption))|assumption):Zw F dk H L s :=
 KF hs (ZuM h1 h2 h)
end Go.DL
namespace Go.DL
open Go
variable {kp:Option (List Nat)}{L:Loc}{H:Env}{s:St}{w:World}{os:List DOp}{ds:List D}{B:List (Nat × Rd)}{dst:Option Nat}{tmps:Array Value}{g:G}{Φ:Res->St->Prop}{Z:Nat->Nat}{xs:List Opd}{side:Prop}{row:Nat->List D}
def Zty:List Int:=[1,10,100,1000,10000,100000,1000000,10000000,100000000,1000000000,10000000000,100000000000,1000000000000,10000000000000,100000000000000,1000000000000000,10000000000000000,100000000000000000,1000000000000000000,10000000000000000000]
instance theTabs:Zsc:=⟨λn=>match Nat.beq n 3 with
 |true=>sO (Zty.map λz=>.int .u64 z)
 |false=>nO⟩
end Go.DL
