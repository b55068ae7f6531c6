/- Lemmas: DlX, DlY, DlZ, DlZA, DlZB, DlZC, DlZD, DlZE, DlZF, DlZGa, DlZG, DlZH, DlZI, DlZJ, DlZK, DlZL, DlZM, DlZN, DlZO, DlZP, DlZQ, DlZS, DlZT, DlTop, DlZU, DlZX, DlZY, DlAc, DlAd, Tab0, DlAg, Api. -/
import Derived.Test.YtacebeofikhepaaGreatDoorT01
set_option maxHeartbeats 16000000
set_option maxRecDepth 100000
set_option linter.all false
open List renaming length->I
open Option renaming some -> sO, none -> nO
open Inhabited renaming default -> dE
open Decidable renaming decide -> dC
open And renaming intro -> ZIA
open Array renaming getD_eq_getD_getElem? -> ZJm
open Bool renaming and_eq_true -> ZIJ, false_eq_true -> ZI7, or_eq_true -> ZIW, true_and -> ZIY
open Go.DL.D.Le renaming refl -> ZIB
open Go.DL.St renaming upd -> ZJc
open List renaming append_assoc -> ZI1, append_nil -> ZI5, flatMap_cons -> ZJl, getD -> ZIN, getElem?_append_left -> ZI6, getElem?_append_right -> ZJi, getElem?_eq_getElem -> ZI4, getElem?_eq_none -> ZJj, getElem?_take -> ZJf, getElem_of_mem -> ZIV, length_append -> ZII, length_cons -> ZIP, length_drop -> ZI8, length_map -> ZIU, length_take -> ZIS, map_cons -> ZIQ, map_nil -> ZI9, mem_cons -> ZJd, range -> ZIM, take_length -> ZJa
open Nat renaming add_mul -> ZIX, le_refl -> ZIO, mul_le_mul_right -> ZIT
open Option renaming getD_some -> ZJe, map_eq_some_iff -> ZIL, map_some -> ZI3
open Option.some renaming injEq -> ZIx
open Prod.mk renaming injEq -> ZIK
namespace Go.DL
open Go
variable [Zs5]
variable {kp:Option (List Nat)}{L:Loc}{H:Env}{s:St}{w:World}{os:List DOp}{ds:List D}{B:List (Nat × Rd)}{dst:Option Nat}{tmps:Array Value}{g:G}{Φ:Res->St->Prop}{Z:Nat->Nat}{xs:List Opd}{side:Prop}{row:Nat->List D}
inductive Sch(T:Tab):(Nat->Bool)->List Nat->Prop where
 |nil {l} (h:∀i,i<T.length->l i=true):Sch T l []
 |cons {l i is} (hi:i<T.length) (hl:l i=false) (hd:∀d∈T.deps i,l d=true) (t:Sch T (λj=>j==i ||l j) is):Sch T l (i::is)
def ZA(H H':Env)(ns:List Nat):Prop:=∀t∈ns,ZM H' t=ZM H t
def ZQ{H H' c x}(h:ZA H H' (ZR x)):ZC H' c x=ZC H c x:=by
 cases x with
 |cst d=>rfl
 |tmp t=>simp only[ZC,h t (by simp[ZR])]
def W7{H H' c}:∀{xs},ZA H H' (Zba xs)->Z8 H' c xs=Z8 H c xs
 | [],_=>rfl
 |x::xs,h=>by have h1:ZA H H' (ZR x):=λt u=>h t (by simp[Zba];exact .inl u);have h2:ZA H H' (Zba xs):=λt u=>h t (by simp only[Zba,ZJl,List.mem_append];exact .inr u);simp only[Z8,ZQ h1,W7 h2]
def YW{H H' g}(h:ZA H H' (ZcC g)):Zj H' g=Zj H g:=by
 cases g with
 |none=>rfl
 |some x=>obtain⟨t,w⟩:=x;simp only[Zj,h t (by simp[ZcC])]
def ZmV{H H' c x a b}(h:ZA H H' (ZR x++ZR a++ZR b)):ZdO H' c x a b=ZdO H c x a b:=by
 have h1:ZA H H' (ZR x):=λt u=>h t (by simp[u]);have h2:ZA H H' (ZR a):=λt u=>h t (by simp[u]);have h3:ZA H H' (ZR b):=λt u=>h t (by simp[u]);simp only[ZdO,ZQ h1];split;rw[ZQ h2,ZQ h3];rfl
def Zr7{L L' s e}(h:∀x o,e=.loc x o->Zh L' x=Zh L x):Wn L' s e=Wn L s e:=by
 cases e with
 |d v=>cases v<;>rfl
 |loc l o=>simp only[Wn,h l o rfl]
 |when c e=>rfl
def Zsj{L L' s n e}(h:∀x o,e=.loc x o->Zh L' x=Zh L x):Km L' s n e=Km L s n e:=by
 cases e with
 |d v=>cases v<;>rfl
 |loc l o=>simp only[Km,h l o rfl]
 |when c e=>rfl
def Zuw{L L' s q es}(h:ZcI (.q q [])=true->∀x o,.loc x o∈es->Zh L' x=Zh L x):qv L' s q es=qv L s q es:=by
 by_cases u:ZcI (.q q [])=true
 .replace h:=h u;cases q<;>simp[ZcI]at u
  .match es with
   | [a]=>simp only[qv,Zr7 (e:=a) λx o t=>h x o (by rw[t];exact List.mem_singleton_self _)]
   | []=>rfl
   |_::_::_=>rfl
  match es with
  | [a]=>simp only[qv,Zsj (e:=a) λx o t=>h x o (by rw[t];exact List.mem_singleton_self _)]
  | []=>rfl
  |_::_::_=>rfl
 clear h;unfold qv;split<;>first|rfl|(exfalso;exact u rfl)|skip
def YC:K->Bool
 |.q _ _|.pick _ _ _|.bsl _ _ _ _ _|.s2b _=>true
 |_=>false
def Zvq{o H H' L L' s s1 side ρ1 L1}(hst:ZF o H L s=.ok side ρ1 L1 s1)(hs:side)(hgt:Zj H o.guard=sO true)(hk:YC o.k=true)(ha:ZA H H' (ZB o))(hl:ZcI o.k=true->∀q xs p es,o.k=.q q xs->Z8 H true xs=sO (p,es)->p->∀x o,.loc x o∈es->Zh L' x=Zh L x):∃e,ρ1=Zx H o.dst e/\L1=L/\s1=s/\ZF o H' L' s=.ok side (Zx H' o.dst e) L' s:=by
 obtain⟨dst,gd,k⟩:=o;have hg:=YW (g:=gd) (λt ht=>ha t (by simp[ZB,ht]));have hn:ZA H H' (Yh k):=λt ht=>ha t (by simp[ZB,ht]);simp only at hgt;unfold ZF at hst⊢;simp only[hg,hgt]at hst⊢;cases k with
 |q q xs =>
  simp only at hst⊢;rw[W7 hn];split at hst<;>(try(simp at hst;done));rename_i p es u;try simp only[u]
  split at hst<;>(try(simp at hst;done));rename_i sd e hq;have hp:p:=by split at hst<;>(simp only[SR.ok.injEq]at hst;obtain⟨rfl,-,-,-⟩:=hst);exact hs.1;exact(hs trivial).1
  have ac:qv L' s q es=qv L s q es:=Zuw λhld=>hl (by cases q<;>simp_all[ZcI]) q xs p es rfl u hp;simp only[ac,hq];split at hst<;>(simp only[SR.ok.injEq]at hst;obtain⟨rfl,rfl,rfl,rfl⟩:=hst);exact⟨e,rfl,rfl,rfl,rfl⟩;exact⟨_,rfl,rfl,rfl,rfl⟩
 |pick x a b =>
  simp only at hst⊢;rw[ZmV hn];split at hst<;>(try(simp at hst;done));rename_i p v hp;try simp only[hp]
  split at hst<;>(simp only[SR.ok.injEq]at hst;obtain⟨rfl,rfl,rfl,rfl⟩:=hst);exact⟨_,rfl,rfl,rfl,rfl⟩;exact⟨_,rfl,rfl,rfl,rfl⟩
 |bsl len n z is xs =>
  simp only at hst⊢;rw[W7 hn];split at hst<;>(try(simp at hst;done));rename_i p es u;try simp only[u]
  split at hst<;>(try(simp at hst;done));rename_i ds ab;try simp only[ab]
  split at hst<;>(simp only[SR.ok.injEq]at hst;obtain⟨rfl,rfl,rfl,rfl⟩:=hst);exact⟨_,rfl,rfl,rfl,rfl⟩;exact⟨_,rfl,rfl,rfl,rfl⟩
 |s2b x =>
  simp only at hst⊢;rw[ZQ hn];split at hst<;>(try(simp at hst;done));rename_i p l hl;try simp only[hl]
  split at hst<;>(simp only[SR.ok.injEq]at hst;obtain⟨rfl,rfl,rfl,rfl⟩:=hst);exact⟨_,rfl,rfl,rfl,rfl⟩;exact⟨_,rfl,rfl,rfl,rfl⟩
 |_=>simp[YC]at hk
def Zm2{o H L s s1 side ρ1 L1}(u:ZF o H L s=.ok side ρ1 L1 s1)(hgt:Zj H o.guard=sO false)(hk:YC o.k=true):∃e,ρ1=Zx H o.dst (.when false e)/\L1=L/\s1=s:=by
 obtain⟨dst,gd,k⟩:=o;have t:∃x,gd=sO x:=by
  cases gd with
  |none=>simp[Zj]at hgt
  |some x=>exact⟨x,rfl⟩
 obtain⟨x,rfl⟩:=t;simp only at hgt;unfold ZF at u;simp only[hgt]at u;cases k with
 |q q xs =>simp only at u;split at u<;>(try(simp at u;done));split at u<;>(try(simp at u;done));simp only[SR.ok.injEq]at u;obtain⟨rfl,rfl,rfl,rfl⟩:=u;exact⟨_,rfl,rfl,rfl⟩
 |pick x a b =>simp only at u;split at u<;>(try(simp at u;done));simp only[SR.ok.injEq]at u;obtain⟨rfl,rfl,rfl,rfl⟩:=u;exact⟨_,rfl,rfl,rfl⟩
 |bsl len n z is xs =>simp only at u;split at u<;>(try(simp at u;done));split at u<;>(try(simp at u;done));simp only[SR.ok.injEq]at u;obtain⟨rfl,rfl,rfl,rfl⟩:=u;exact⟨_,rfl,rfl,rfl⟩
 |s2b x =>simp only at u;split at u<;>(try(simp at u;done));simp only[SR.ok.injEq]at u;obtain⟨rfl,rfl,rfl,rfl⟩:=u;exact⟨_,rfl,rfl,rfl⟩
 |_=>simp[YC]at hk
def ZiI{s s' L L'}:∀{B},K2 s s' L L' B->(∀n b,(n,.blk b)∈B->s' b=s b)/\(∀n l,(n,.loc l)∈B->Zh L' l=Zh L l)
 | [],_=>⟨λn b h=>by simp at h,λn b h=>by simp at h⟩
 | (m,.blk c)::B,h=>by obtain⟨t,u⟩:=ZiI h.2;refine⟨λn b hb=>?_,λn l hl=>u n l (by simpa using hl)⟩;rcases List.mem_cons.1 hb with hb|hb;simp only[ZIK,Rd.blk.injEq]at hb;rw[hb.2];exact h.1;exact t n b hb
 | (m,.loc c)::B,h=>by obtain⟨t,u⟩:=ZiI h.2;refine⟨λn b hb=>t n b (by simpa using hb),λn l hl=>?_⟩;rcases List.mem_cons.1 hl with hl|hl;simp only[ZIK,Rd.loc.injEq]at hl;rw[hl.2];exact h.1;exact u n l hl
def Zg3(s L):∀B,K2 s s L L B
 | []=>trivial
 | (_,.blk _)::B=>⟨rfl,Zg3 s L B⟩
 | (_,.loc _)::B=>⟨rfl,Zg3 s L B⟩
def ZdG{fl s L B}:Wi fl s s L L B:=Zg3 s L _
def Zkt:∀(B),YY [] B=[]
 | []=>rfl
 |_::B=>Zkt B
def J4{s s' L L' B}:Wi [] s s' L L' B:=by
 unfold Wi;rw[Zkt];trivial
def QH{fl x}:∀{B},x∈YY fl B↔Zam x.1 fl=true/\x∈B
 | []=>by simp[YY]
 |y::B=>by simp only[YY];split;rename_i h;simp only[ZJd,QH (B:=B)];constructor;rintro(rfl|⟨t,h2⟩);exact⟨h,.inl rfl⟩;exact⟨t,.inr h2⟩;rintro⟨t,rfl|h2⟩;exact .inl rfl;exact .inr ⟨t,h2⟩;rename_i h;simp only[ZJd,QH (B:=B)];constructor;rintro⟨t,h2⟩;exact⟨t,.inr h2⟩;rintro⟨t,rfl|h2⟩;exact absurd t h;exact⟨t,h2⟩
def Zxq{o H x}:(Zb3 o,x)∈Kn o H↔x∈Y5 o H:=by simp[Kn]
def ZkI{o H H'}(h:ZA H H' (ZB o)):Y5 o H'=Y5 o H:=by
 obtain⟨dst,gd,k⟩:=o;have hg:=YW (g:=gd) (λt u=>h t (by simp[ZB,u]));cases k with
 |q q xs =>
  have hn:ZA H H' (Zba xs):=λt u=>h t (by simp[ZB,Yh,u]);simp only[Y5,hg];split
  .cases Zj H gd with
   |none=>rfl
   |some c=>simp only[W7 hn]
  rfl
 |_=>rfl
def ZBb{L s s' q es}(h:YP (.q q [])=true->∀e r,es=e::r->∀b,.blk b∈K3 e->s' b=s b):qv L s' q es=qv L s q es:=by
 by_cases hl:YP (.q q [])=true
 .replace h:=h hl
  match es with
  | [] =>
   cases q;case conv c=>cases c<;>first|rfl|simp[YP]at hl
   all_goals simp[YP]at hl<;>rfl
  |e::r =>
   replace h:=h e r rfl;have hc:∀b o,e=.d (.ptr b o)->Z2 s' b=Z2 s b:=λb o he=>by subst he;simp only[Z2,h b (by simp[K3])]
   have hm:∀b,e=.d (.map b)->KY s' b=KY s b:=λb he=>by subst he;simp only[KY,h b (by simp[K3])]
   have u:∀b o n cap z,e=.d (.msl b o n cap z)->Z2 s' b=Z2 s b:=λb o n cap z he=>by subst he;simp only[Z2,h b (by simp[K3])]
   have t:q=.conv .b2s->qv L s' q (e::r)=qv L s q (e::r):=λhq=>by
    subst hq;cases r with
    |nil =>
     cases e with
     |d v=>cases v<;>first|rfl|(simp only[qv];rw[u _ _ _ _ _ rfl])
     |_=>rfl
    |cons =>
     cases e with
     |d v=>cases v<;>rfl
     |_=>rfl
   cases q;case conv c=>cases c<;>first|(simp[YP]at hl;done)|exact t rfl
   all_goals simp[YP]at hl
   .cases r with
    |nil =>
     simp only[qv]
     congr 1
     cases e with
     |d v=>cases v<;>first|rfl|(simp only[Wn];rw[hc _ _ rfl])
     |_=>rfl
    |cons=>rfl
   .cases r with
    |nil =>
     simp only[qv]
     congr 1
     cases e with
     |d v=>cases v<;>first|rfl|(simp only[Km];rw[hc _ _ rfl])
     |_=>rfl
    |cons=>rfl
   .match r with
    | [] =>
     cases e with
     |d v=>cases v<;>rfl
     |_=>rfl
    | [e2] =>
     cases e with
     |d v =>
      cases e2 with
      |d v2=>cases v<;>first|rfl|(simp only[qv];rw[hm _ rfl])
      |_=>cases v<;>rfl
     |_=>cases e2<;>rfl
    |e2::_::_ =>
     cases e with
     |d v=>cases v<;>(cases e2<;>rfl)
     |_=>cases e2<;>rfl
   cases r with
   |nil =>
    cases e with
    |d v=>cases v<;>first|rfl|(simp only[qv];rw[hm _ rfl])
    |_=>rfl
   |cons =>
    cases e with
    |d v=>cases v<;>rfl
    |_=>rfl
 clear h;cases q;case conv c=>cases c<;>first|(simp[YP]at hl;done)|(unfold qv;rfl)|(unfold qv;split<;>first|rfl|(rename_i hx;cases hx))
 all_goals first|(simp[YP]at hl;done)|(unfold qv;rfl)|(unfold qv;split<;>first|rfl|(rename_i hx;cases hx))
def Zvr{o H L s s' side ρ1}(hst:ZF o H L s=.ok side ρ1 L s)(hk:YC o.k=true)(hgt:Zj H o.guard=sO true)(h:∀b,.blk b∈Y5 o H->s' b=s b):ZF o H L s'=.ok side ρ1 L s':=by
 obtain⟨dst,gd,k⟩:=o;unfold ZF at hst⊢;obtain⟨c,hg,hc⟩:∃c,Zj H gd=sO c/\c=true:=⟨true,hgt,rfl⟩;simp only[hg]at hst⊢;cases k with
 |q q xs =>
  simp only at hst⊢;split at hst<;>(try(simp at hst;done));rename_i p es t;have ab:qv L s' q es=qv L s q es:=ZBb λhl e r he b hb=>h b (by
   subst he;have u:YP (.q q xs)=true:=by
    cases q;case conv c=>cases c<;>simp_all[YP]
    all_goals simp_all[YP]
   subst hc;simp only[Y5,u,if_true,hg,t];exact hb)
  simp only[ab];split at hst<;>(try(simp at hst;done));split at hst<;>(simp only[SR.ok.injEq]at hst;obtain⟨rfl,rfl,-,-⟩:=hst;rfl)
 |pick x a b =>simp only at hst⊢;split at hst<;>(try(simp at hst;done));split at hst<;>(simp only[SR.ok.injEq]at hst;obtain⟨rfl,rfl,-,-⟩:=hst;rfl)
 |bsl len n z is xs =>simp only at hst⊢;split at hst<;>(try(simp at hst;done));split at hst<;>(try(simp at hst;done));split at hst<;>(simp only[SR.ok.injEq]at hst;obtain⟨rfl,rfl,-,-⟩:=hst;rfl)
 |s2b x =>simp only at hst⊢;split at hst<;>(try(simp at hst;done));split at hst<;>(simp only[SR.ok.injEq]at hst;obtain⟨rfl,rfl,-,-⟩:=hst;rfl)
 |_=>simp[YC]at hk
def ZaG(o:DOp)(x:Nat):Prop:=o.dst=sO x/\∃z,o.k=.alloc z
def Zcj(o:DOp)(H:Env)(e:E):Prop :=
 (Zj H o.guard=sO false/\∃e0,e=.when false e0) \/
 (∃x y bo pl p k k2 a b v,o.guard=nO/\o.k=.q (.bin bo pl) [x,y]/\Z8 H true [x,y]=sO (p,[.d (.int k a),.d (.int k2 b)])/\p/\ZgM bo k k2 a b=sO v/\e=.d (.int k v))
def W6(o:DOp)(H:Env)(L:Loc)(s:St)(B:List (Nat×Rd)):Prop :=
 (YC o.k=true/\Zj H o.guard=sO true/\(∀b∈Y5 o H,(Zb3 o,b)∈B)/\∃side e,side/\ZF o H L s=.ok side (Zx H o.dst e) L s/\∀t,o.dst=sO t->ZM H t=sO e) \/
 (YC o.k=true/\∃e,Zcj o H e/\∀t,o.dst=sO t->ZM H t=sO e) \/
 (∃t z,o=⟨sO t,nO,.alloc z⟩/\ZM H t=sO (.loc t 0)/\Zh L t=sO z)
structure Inv(T:Tab)(ms:List Nat)(A rest:List Nat)(H:Env)(L:Loc)(s:St)(B:List (Nat×Rd))(l:Nat->Bool)(H':Env)(L':Loc):Prop where
 closed:∀i,i<T.length->l i=true->∀d∈T.deps i,l d=true
 restN:∀r∈rest,l r=false
 doneN:∀i,i<T.length->i∉rest->i∉A->l i=true
 alt:∀a∈A,a<T.length
 pair:∀p∈A,∀a∈A,(ms.getD p 0).testBit a=true\/nd (T.op a).dst (ZB (T.op p))=true
 uniq:∀p∈A,∀a∈A,p≠a->ndd (T.op p).dst (T.op a).dst=true
 env:∀t,ZM H' t=ZM H t\/∃a∈A,l a=false/\(T.op a).dst=some t
 loc0:∀a∈A,l a=false->∀x,ZaG (T.op a) x->Zh L' x=none
 loc:∀x,Zh L' x=Zh L x\/∃a∈A,l a=false/\ZaG (T.op a) x
 pend:∀a∈A,l a=false->W6 (T.op a) H L s B
def ZjE(T:Tab)(ms:List Nat):Prop :=
 ∀(l:Nat->Bool),(∀i,i<T.length->l i=true->∀d∈T.deps i,l d=true)->∀i,i<T.length->(∀d∈T.deps i,l d=true)->∀a,(ms.getD i 0).testBit a=true->l a=true
def W6.state{o H L s s' B}(h:W6 o H L s B)(hB:∀b,.blk b∈Y5 o H->s' b=s b):W6 o H L s' B:=by
 rcases h with ⟨hk,u,hr,side,e,hs,t,he⟩|h|h;exact .inl ⟨hk,u,hr,side,e,hs,Zvr t hk u hB,he⟩;exact .inr (.inl h);exact .inr (.inr h)
def W6.more{o H L s B B'}(h:W6 o H L s B)(u:∀b∈Y5 o H,(Zb3 o,b)∈B->(Zb3 o,b)∈B'):W6 o H L s B':=by
 rcases h with ⟨hk,hg,hr,h⟩|h|h;exact .inl ⟨hk,hg,λb t=>u b t (hr b t),h⟩;exact .inr (.inl h);exact .inr (.inr h)
def Zva{o H}(h:Zj H o.guard=sO false):Y5 o H=[]:=by
 obtain⟨dst,gd,k⟩:=o;cases k<;>simp only[Y5];simp only at h;simp[h]
def ZmW{o H}(h:YP o.k=false):Y5 o H=[]:=by
 obtain⟨dst,gd,k⟩:=o;cases k<;>simp only[Y5];rename_i q xs;simp only at h;simp[h]
def Zcj.congr{o H H' e}(h:Zcj o H e)(ha:ZA H H' (ZB o)):Zcj o H' e:=by
 rcases h with ⟨h1,u⟩|⟨x,y,bo,pl,p,k,k2,a,b,v,h1,u,h3,h4,h5⟩;exact .inl ⟨by rw[YW λt ht=>ha t (by simp[ZB,ht])];exact h1,u⟩;have hn:ZA H H' (Zba [x,y]):=λt ht=>ha t (by simp[ZB,u,Yh,ht]);exact .inr ⟨x,y,bo,pl,p,k,k2,a,b,v,h1,u,by rw[W7 hn];exact h3,h4,h5⟩
def Zcj.reads{o H e}(h:Zcj o H e):Y5 o H=[]:=by
 rcases h with ⟨t,_⟩|⟨x,y,bo,pl,p,k,k2,a,b,v,_,u,_⟩;exact Zva t;exact ZmW (by rw[u];rfl)
section
variable {P:Program}
def Zq2{F:Fr P}{kp dk os H L s}(h:∀g Z w tmps,Zu g Z w tmps H L s->DO F kp dk os H L s):DO F kp dk os H L s :=
 λu is k t hk g Z w tmps hN m=>h g Z w tmps m u is k t hk g Z w tmps hN m
def Zni{g Z w tmps H L s}(m:Zu g Z w tmps H L s):∀{xs p es},Z8 H true xs=sO (p,es)->p->∀x o,.loc x o∈es->∃cs,Zh L x=sO cs
 | [],p,es,h,_,x,o,hx=>by simp only[Z8,ZIx,ZIK]at h;obtain⟨_,rfl⟩:=h;simp at hx
 |y::ys,p,es,h,hp,x,o,hx=>by
  simp only[Z8]at h;split at h<;>simp only[ZIx,ZIK,reduceCtorEq]at h;rename_i p1 e1 p2 es' u h2;obtain⟨rfl,rfl⟩:=h;rcases List.mem_cons.1 hx with hx|hx
  .subst hx;cases y with
   |cst d=>simp[ZC]at u
   |tmp t =>simp only[ZC]at u;split at u;rename_i c' e' he;simp only[ZIx,ZIK]at u;obtain⟨rfl,rfl⟩:=u;exact((m.env t _ he).1 (by simpa using hp.1)).1;rename_i e' _ he;simp only[ZIx,ZIK]at u;obtain⟨rfl,rfl⟩:=u;exact(m.env t _ he).1;simp at u
  exact Zni m h2 hp.2 x o hx
def Zcj.run{F:Fr P}{kp dk o os H L s e}(hl:Zcj o H e)(h:DO F kp dk os (Zx H o.dst e) L s):DO F kp dk (o::os) H L s:=by
 rcases hl with ⟨t,e0,rfl⟩|⟨x,y,bo,pl,p,k,k2,a,b,v,t,u,h3,h4,h5,rfl⟩;exact Jw t h;exact ZpU t u h3 h4 h5 h
def Zvz{F:Fr P}{kp dk o os H H' L L' s side e}(hst:ZF o H L s=.ok side (Zx H o.dst e) L s)(hs:side)(hk:YC o.k=true)(ha:ZA H H' (ZB o))(hl:∀x,Zh L' x=Zh L x\/Zh L' x=nO)(h:DO F kp dk os (Zx H' o.dst e) L' s):DO F kp dk (o::os) H' L' s:=by
 have u:∀e',Zx H o.dst e=Zx H o.dst e'->Zx H' o.dst e=Zx H' o.dst e':=λe' h=>by
  cases hd:o.dst with
  |none=>rfl
  |some t=>simp only[hd,Zx,List.cons.injEq,ZIK,true_and,and_true]at h;rw[h]
 have hg:=YW (g:=o.guard) (λt ht=>ha t (by simp[ZB,ht]));cases hc:Zj H o.guard with
 |none=>unfold ZF at hst;simp[hc]at hst
 |some c =>
  cases c;obtain⟨e',h1,-,-⟩:=Zm2 hst hc hk;rw[u _ h1]at h;exact Jw (by rw[hg,hc]) h;refine Zq2 λg Z w tmps m=>?_;obtain⟨e',h1,-,-,h2⟩:=Zvq (H':=H') (L':=L') hst hs hc hk ha (λhld q xs p es ad ac hp x of hx=>by
   have hn:ZA H H' (Zba xs):=λt ht=>ha t (by simp[ZB,ad,Yh,ht]);obtain⟨cs,ab⟩:=Zni m (by rw[W7 hn];exact ac) hp x of hx;rcases hl x with h|h;exact h;rw[h]at ab;simp at ab)
  rw[u _ h1]at h;exact QJ h2 hs h
end
def ZbV{a b}(h:ndd a b=true):ndd b a=true:=by
 cases a<;>cases b<;>simp only[ndd,bne_iff_ne,ne_eq]at h⊢;exact λt=>h t.symm
def Zbv{a b}(h:ndd a b=true){t}(ha:a=sO t):b≠sO t:=by
 subst ha;cases b with
 |none=>simp
 |some u=>simp only[ndd,bne_iff_ne]at h;intro hb;simp only[ZIx]at hb;exact h hb.symm
def Zkr{d l}(h:nd d l=true){t}(u:d=sO t):t∉l:=by
 subst u;simpa[nd]using h
def K1{H dst e ns}(h:nd dst ns=true):ZA H (Zx H dst e) ns:=by
 intro t ht;cases dst with
 |none=>rfl
 |some u =>have:¬u=t:=λhu=>Zkr h rfl (hu▸ht);simp[Zx,ZM,this]
def WH(H dst e t):ZM (Zx H dst e) t=if dst=sO t then sO e else ZM H t:=by
 cases dst with
 |none=>simp[Zx]
 |some u=>simp[Zx,ZM]
def ZCG{L s q es r}(t:qv L s q es=sO r)(hl:ZcI (.q q [])=true){x o}(u:.loc x o∈es):∃cs,Zh L x=sO cs:=by
 cases q<;>simp[ZcI]at hl
 .match es with
  | [a] =>
   simp only[List.mem_singleton]at u;subst u;simp only[qv,Wn]at t;cases h:Zh L x with
   |none=>simp[h]at t
   |some cs=>exact⟨cs,rfl⟩
  | []=>simp at u
  |_::_::_=>simp[qv]at t
 match es with
 | [a] =>
  simp only[List.mem_singleton]at u;subst u;simp only[qv,Km]at t;cases h:Zh L x with
  |none=>simp[h]at t
  |some cs=>exact⟨cs,rfl⟩
 | []=>simp at u
 |_::_::_=>simp[qv]at t
def Zi8{o H H' L L' s s1 side ρ1 L1}(hst:ZF o H L s=.ok side ρ1 L1 s1)(hk:YC o.k=true)(ha:ZA H H' (ZB o))(hl:L'=L\/Zj H o.guard=sO true/\∀x,.loc x∈Y5 o H->Zh L' x=Zh L x):∃e,ρ1=Zx H o.dst e/\L1=L/\s1=s/\ZF o H' L' s=.ok side (Zx H' o.dst e) L' s:=by
 obtain⟨dst,gd,k⟩:=o;have hg:=YW (g:=gd) (λt ht=>ha t (by simp[ZB,ht]));have hn:ZA H H' (Yh k):=λt ht=>ha t (by simp[ZB,ht]);unfold ZF at hst⊢;simp only[hg]at hst⊢;cases hc:Zj H gd with
 |none=>simp[hc]at hst
 |some c =>
 simp only[hc]at hst⊢;cases k with
 |q q xs =>
  simp only at hst⊢;rw[W7 hn];split at hst<;>(try(simp at hst;done));rename_i p es u;try simp only[u]
  split at hst<;>(try(simp at hst;done));rename_i sd e hq;have ag:qv L' s q es=qv L s q es:=Zuw λaf x of hx=>by
   rcases hl with rfl|⟨ae,hl⟩;rfl;obtain rfl:c=true:=by simpa[hc]using ae
   refine hl x ?_;have ah:YP (.q q xs)=true:=by cases q<;>simp_all[ZcI,YP]
   have ab:es=[.loc x of]:=by
    have ac:∃r,qv L s q es=sO r:=⟨_,hq⟩;cases q<;>simp[ZcI]at af
    .match es with
     | [a]=>simp only[List.mem_singleton]at hx;rw[hx]
     | []=>simp at hx
     |_::_::_=>simp[qv]at ac
    match es with
    | [a]=>simp only[List.mem_singleton]at hx;rw[hx]
    | []=>simp at hx
    |_::_::_=>simp[qv]at ac
   subst ab;simp only[Y5,ah,if_true,hc,u,K3,List.mem_singleton]
  simp only[ag,hq];split at hst<;>(simp only[SR.ok.injEq]at hst;obtain⟨rfl,rfl,rfl,rfl⟩:=hst);exact⟨e,rfl,rfl,rfl,rfl⟩;exact⟨_,rfl,rfl,rfl,rfl⟩
 |pick x a b =>
  simp only at hst⊢;rw[ZmV hn];split at hst<;>(try(simp at hst;done));rename_i p v hp;try simp only[hp]
  split at hst<;>(simp only[SR.ok.injEq]at hst;obtain⟨rfl,rfl,rfl,rfl⟩:=hst);exact⟨_,rfl,rfl,rfl,rfl⟩;exact⟨_,rfl,rfl,rfl,rfl⟩
 |bsl len n z is xs =>
  simp only at hst⊢;rw[W7 hn];split at hst<;>(try(simp at hst;done));rename_i p es u;try simp only[u]
  split at hst<;>(try(simp at hst;done));rename_i ds ad;try simp only[ad]
  split at hst<;>(simp only[SR.ok.injEq]at hst;obtain⟨rfl,rfl,rfl,rfl⟩:=hst);exact⟨_,rfl,rfl,rfl,rfl⟩;exact⟨_,rfl,rfl,rfl,rfl⟩
 |s2b x =>
  simp only at hst⊢;rw[ZQ hn];split at hst<;>(try(simp at hst;done));rename_i p l hl;try simp only[hl]
  split at hst<;>(simp only[SR.ok.injEq]at hst;obtain⟨rfl,rfl,rfl,rfl⟩:=hst);exact⟨_,rfl,rfl,rfl,rfl⟩;exact⟨_,rfl,rfl,rfl,rfl⟩
 |_=>simp[YC]at hk
def W6.mono{o H ρ1 L L1 s B}(h:W6 o H L s B)(ha:ZA H ρ1 (ZB o))(hd:∀t,o.dst=sO t->ZM ρ1 t=ZM H t)(hl:∀x,.loc x∈Y5 o H->Zh L1 x=Zh L x)(hal:∀t,ZaG o t->Zh L1 t=Zh L t):W6 o ρ1 L1 s B:=by
 rcases h with ⟨hk,u,ab,side,e,hs,ac,he⟩|⟨hk,e,hz,he⟩|⟨t,z,rfl,h1,h2⟩;left;obtain⟨e',h1,-,-,h2⟩:=Zi8 ac hk ha (.inr ⟨u,hl⟩);refine⟨hk,by rw[YW λt ht=>ha t (by simp[ZB,ht])];exact u,by rw[ZkI ha];exact ab,side,e',hs,h2,λt ht=>?_⟩;rw[hd t ht,he t ht];rw[ht]at h1;simp only[Zx,List.cons.injEq,ZIK,true_and,and_true]at h1;rw[h1];exact .inr (.inl ⟨hk,e,hz.congr ha,λt ht=>by rw[hd t ht,he t ht]⟩);right;right;exact⟨t,z,rfl,by rw[hd t rfl];exact h1,by rw[hal t ⟨rfl,z,rfl⟩];exact h2⟩
def Zcq{o x}(h:ZaG o x):YC o.k=false:=by
 obtain⟨_,z,t⟩:=h;rw[t];rfl
section
variable {P:Program}
def Zrg{F:Fr P}{kp dk T ms A rest H L l H' L' s B p os}(hm:ZjE T ms)(inv:Inv T ms A rest H L s B l H' L')(hA:p∈A)(hdis:p∉rest)(hl:l p=false)(hdeps:∀d∈T.deps p,l d=true)(h:∀ρ2 L2,Inv T ms A rest H L s B (λj=>j==p ||l j) ρ2 L2->DO F kp dk os ρ2 L2 s):DO F kp dk (T.op p::os) H' L' s:=by
 have aq:=inv.alt p hA;have aj:=hm l inv.closed p aq hdeps;have am:ZA H H' (ZB (T.op p)):=by intro t ht;rcases inv.env t with h|⟨a,ha,ab,ae⟩;exact h;exfalso;rcases inv.pair p hA a ha with hb|hb;rw[aj a hb]at ab;simp at ab;exact Zkr hb ae ht
 have ao:∀x,Zh L' x=Zh L x\/Zh L' x=nO:=λx=>by rcases inv.loc x with h|⟨a,ha,ab,hx⟩;exact .inl h;exact .inr (inv.loc0 a ha ab x hx)
 have ad:∀i,i<T.length->(i==p ||l i)=true->∀d∈T.deps i,(d==p ||l d)=true:=λi hi hli d hd=>by simp only[ZIW,beq_iff_eq]at hli⊢;rcases hli with rfl|hli;exact .inr (hdeps d hd);exact .inr (inv.closed i hi hli d hd)
 have ag:∀r∈rest,(r==p ||l r)=false:=λr hr=>by simp only[Bool.or_eq_false_iff,beq_eq_false_iff_ne];exact⟨λh=>hdis (h▸hr),inv.restN r hr⟩
 have ah:∀i,i<T.length->i∉rest->i∉A->(i==p ||l i)=true:=λi hi h1 h2=>by simp[inv.doneN i hi h1 h2]
 have ai:∀a,(a==p ||l a)=false->a≠p/\l a=false:=λa ha=>by simpa using ha
 have af:∀a,a≠p->l a=false->(a==p ||l a)=false:=λa ha h=>by simp[ha,h]
 rcases inv.pend p hA hl with ⟨hk,hgt,hrd,side,e,hs,ar,he⟩|⟨hk,e,hz,he⟩|⟨t,z,ho,h1,h2⟩
 rotate_left
 refine(hz.congr am).run ?_;refine h _ _ ?_;refine⟨ad,ag,ah,inv.alt,inv.pair,inv.uniq,λt=>?_,λa ha ab x hx=>inv.loc0 a ha (ai a ab).2 x hx,λx=>?_,λa ha ab=>inv.pend a ha (ai a ab).2⟩;rw[WH];by_cases hd:(T.op p).dst=sO t;rw[if_pos hd];exact .inl (he t hd).symm;rw[if_neg hd];rcases inv.env t with h|⟨a,ha,ab,ae⟩;exact .inl h;exact .inr ⟨a,ha,af a (λac=>hd (ac▸ae)) ab,ae⟩;rcases inv.loc x with h|⟨a,ha,ab,hx⟩;exact .inl h;refine .inr ⟨a,ha,af a (λac=>?_) ab,hx⟩;have:=Zcq hx;rw[ac,hk]at this;simp at this
 rotate_left
 refine Zvz ar hs hk am ao (h _ _ ?_);refine⟨ad,ag,ah,inv.alt,inv.pair,inv.uniq,λt=>?_,λa ha ab x hx=>inv.loc0 a ha (ai a ab).2 x hx,λx=>?_,λa ha ab=>inv.pend a ha (ai a ab).2⟩;rw[WH];by_cases hd:(T.op p).dst=sO t;rw[if_pos hd];exact .inl (he t hd).symm;rw[if_neg hd];rcases inv.env t with h|⟨a,ha,ab,ae⟩;exact .inl h;exact .inr ⟨a,ha,af a (λac=>hd (ac▸ae)) ab,ae⟩;rcases inv.loc x with h|⟨a,ha,ab,hx⟩;exact .inl h;refine .inr ⟨a,ha,af a (λac=>?_) ab,hx⟩;have:=Zcq hx;rw[ac,hk]at this;simp at this;have ap:ZaG (T.op p) t:=⟨by rw[ho],z,by rw[ho]⟩;have al:=inv.loc0 p hA hl t ap;refine ZsS (o:=T.op p) (t:=t) (by rw[ho]) (by rw[ho]) (z:=z) (by rw[ho]) (by simp[Zal,al]) (h _ _ ?_);have ak:(T.op p).dst=sO t:=by rw[ho]
 refine⟨ad,ag,ah,inv.alt,inv.pair,inv.uniq,λu=>?_,λa ha ab x hx=>?_,λx=>?_,λa ha ab=>inv.pend a ha (ai a ab).2⟩;simp only[ZM];by_cases hd:t=u;subst hd;simp[h1];simp only[hd,if_false];rcases inv.env u with h|⟨a,ha,ab,ae⟩;exact .inl h;exact .inr ⟨a,ha,af a (λac=>hd (by rw[ac,ak]at ae;simpa using ae)) ab,ae⟩;obtain⟨ac,ab⟩:=ai a ab;have:¬t=x:=λau=>Zbv (inv.uniq p hA a ha ac.symm) ak (au▸hx.1);simp only[Zh,this,if_false];exact inv.loc0 a ha ab x hx;simp only[Zh];by_cases hd:t=x;subst hd;simp[h2];simp only[hd,if_false];rcases inv.loc x with h|⟨a,ha,ab,hx⟩;exact .inl h;exact .inr ⟨a,ha,af a (λac=>hd (by have:=hx.1;rw[ac,ak]at this;simpa using this)) ab,hx⟩
def Zxp{F:Fr P}{kp dk T ms A rest H L s B i}(hm:ZjE T ms)(hi:i<T.length)(hdis:∀p∈A,p∉i::rest)(hready:∀r∈rest,∃d∈T.deps r,d∈i::rest)(cb:∀l H' L' is,Inv T ms A (i::rest) H L s B l H' L'->(∀d∈T.deps i,l d=true)->Sch T (λj=>j==i ||l j) is->DO F kp dk (T.op i::is.map T.op) H' L' s){l is}(sch:Sch T l is):∀{H' L'},Inv T ms A (i::rest) H L s B l H' L'->DO F kp dk (is.map T.op) H' L' s:=by
 induction sch with
 |nil h=>intro H' L' inv;have:=inv.restN i ψ;rw[h i hi]at this;simp at this
 | @cons l p is hp hlp hd t ih =>intro H' L' inv;by_cases ab:p=i;subst ab;exact cb l H' L' is inv hd t;by_cases ac:p∈rest;obtain⟨d,ad,ae⟩:=hready p ac;have:=inv.restN d ae;rw[hd d ad]at this;simp at this;by_cases u:p∈A;exact Zrg hm inv u (hdis p u) hlp hd λρ2 L2 inv2=>ih inv2;have:=inv.doneN p hp (by simp[ab,ac]) u;rw[hlp]at this;simp at this
def Zm4{L L'}(h:∀x,Zh L' x=Zh L x):∀ls,Zay L' ls=Zay L ls
 | []=>rfl
 |l::ls=>by simp only[Zay,h l,Zm4 h ls]
def ZmN{H H'}(h:∀x,ZM H' x=ZM H x):∀ks,Yn H' ks=Yn H ks
 | []=>rfl
 |k::ks=>by simp only[Yn,h k,ZmN h ks]
def Zzh{F:Fr P}{ks dk T ms A H L s B}(hm:ZjE T ms)(h:Zt F dk (Yn H ks) (Za7 (Yn H ks) L) s){l is}(sch:Sch T l is):∀{H' L'},Inv T ms A [] H L s B l H' L'->DO F (sO ks) dk (is.map T.op) H' L' s:=by
 induction sch with
 |nil hall =>
  intro H' L' inv;have h1:∀t,ZM H' t=ZM H t:=λt=>by rcases inv.env t with h|⟨a,ha,u,_⟩;exact h;rw[hall a (inv.alt a ha)]at u;simp at u
  have h2:∀t,Zh L' t=Zh L t:=λt=>by rcases inv.loc t with h|⟨a,ha,u,_⟩;exact h;rw[hall a (inv.alt a ha)]at u;simp at u
  refine Ze8 ?_;show Zt F dk (Yn H' ks) (Za7 (Yn H' ks) L') s;rw[ZmN h1];simp only[Za7,Zm4 h2];exact h
 | @cons l p is hp hlp hd t ih =>intro H' L' inv;by_cases ab:p∈A;exact Zrg hm inv ab ψ hlp hd λρ2 L2 inv2=>ih inv2;have:=inv.doneN p hp ψ ab;rw[hlp]at this;simp at this
def DOA(F:Fr P)(kp:Option (List Nat))(dk:List WY)(os:List (DOp×List Nat))(H:Env)(L:Loc)(s:St)(B:List (Nat×Rd)):Prop :=
 ∀(T:Tab) ms fl (fk:Option Nat) A rest is l H' L',ZjE T ms->ZdU T ms fl fk A rest=true->(∀p∈A,p∉rest)->os=rest.map (λi=>(T.mk fk i,fl i))->Inv T ms A rest H L s B l H' L'->Sch T l is->DO F kp dk (is.map T.op) H' L' s
def ZpT{F:Fr P}{ks dk H L s B}(h:Zt F dk (Yn H ks) (Za7 (Yn H ks) L) s):DOA F (sO ks) dk [] H L s B:=by
 intro T ms fl fk A rest is l H' L' hm hc hdis t inv u;have hr:rest=[]:=by cases rest<;>simp at t⊢
 subst hr;exact Zzh hm h u inv
def Zm3{o H L s s1 side ρ1 L1}(t:ZF o H L s=.ok side ρ1 L1 s1)(hk:YC o.k=true):∃e,ρ1=Zx H o.dst e/\L1=L/\s1=s:=by
 obtain⟨e,u,h2,h3,_⟩:=Zi8 (H':=H) (L':=L) t hk (λ_ _=>rfl) (.inl rfl);exact⟨e,u,h2,h3⟩
def Zvp{o H L s s1 side ρ1 L1 z}(u:ZF o H L s=.ok side ρ1 L1 s1)(hk:o.k=.alloc z):∃t,o=⟨sO t,nO,.alloc z⟩/\side=(Zal L t=false)/\ρ1=(t,.loc t 0)::H/\L1=(t,z)::L/\s1=s:=by
 obtain⟨dst,gd,k⟩:=o;simp only at hk;subst hk;unfold ZF at u;cases hg:Zj H gd with
 |none=>simp[hg]at u
 |some c =>simp only[hg]at u;split at u<;>simp only[SR.ok.injEq,reduceCtorEq]at u;rename_i t;obtain⟨rfl,rfl,rfl,rfl⟩:=u;exact⟨t,rfl,rfl,rfl,rfl,rfl⟩
def Zqp{T:Tab}{t i o}(h:T.mk t i=o)(u:∀k,o.k≠.fork k):t≠sO i/\T.op i=o:=by
 unfold Tab.mk at h;split at h;subst h;exact absurd rfl (u _);exact⟨‹_›,h⟩
def Zno{T t fl A rest fk i}(hfk:fk≠sO i)(h:ZdU T t fl fk A (i::rest)=true):
  i<T.length/\(∀d∈T.deps i,d∉i::rest)/\i∉rest/\(∀a∈A,(t.getD i 0).testBit a=true\/nd (T.op a).dst (ZB (T.op i))=true) /\
  ((Zdc T A i=true/\ZdU T t fl fk (i::A) rest=true) \/
   (ZjT T (fl i) (A.filter λa=>!(t.getD i 0).testBit a) rest i=true/\ZdU T t fl fk (A.filter λa=>!(t.getD i 0).testBit a) rest=true/\Zdc T A i=false)):=by
 simp only[ZdU,hfk,if_false,ZIJ,decide_eq_true_eq,List.all_eq_true,Bool.not_eq_true',List.contains_eq_mem,decide_eq_false_iff_not]at h;obtain⟨⟨⟨⟨h1,h2⟩,h3⟩,h4⟩,u⟩:=h;refine⟨h1,h2,h3,λa ha=>?_,?_⟩;cases hb:(t.getD i 0).testBit a;exact .inr (h4 a (List.mem_filter.2 ⟨ha,by simp only[hb];rfl⟩));exact .inl rfl;split at u;rename_i hp;exact .inl ⟨hp,u⟩;rename_i hp;simp only[ZIJ]at u;exact .inr ⟨by simpa using u.1,u.2,by simpa using hp⟩
def ZgS{T fl free rest i}(h:ZjT T fl free rest i=true):
  ZwK (T.op i).k=true/\(∀r∈rest,∃d∈T.deps r,d∈i::rest) /\
  ∀a∈free,nd (T.op i).dst (ZB (T.op a))=true/\ndd (T.op i).dst (T.op a).dst=true/\(Zam (Zb3 (T.op a)) fl=false->YP (T.op a).k=false):=by
 simp only[ZjT,ZIJ,List.all_eq_true,List.any_eq_true,List.contains_eq_mem,decide_eq_true_eq,Bool.not_eq_true',ZIW]at h;obtain⟨⟨u,h2⟩,h3⟩:=h;refine⟨u,h2,λa ha=>?_⟩;obtain⟨⟨h4,h5⟩,t⟩:=h3 a ha;refine⟨h4,h5,λhs=>?_⟩;rw[hs]at t;simpa using t
def Zfl{T A i}(h:Zdc T A i=true):
  Y1 (T.op i).k=true/\nd (T.op i).dst (ZB (T.op i))=true/\∀a∈A,nd (T.op i).dst (ZB (T.op a))=true/\ndd (T.op i).dst (T.op a).dst=true:=by
 simp only[Zdc,ZIJ,List.all_eq_true]at h;exact⟨by cases t:(T.op i).k<;>rw[t]at h<;>simp[pqK]at h<;>rfl,h.1.2,h.2⟩
def Inv.bar{T ms A rest H L s s2 B B2 l H' L' i}(hm:ZjE T ms)(inv:Inv T ms A (i::rest) H L s B l H' L')(hdis:∀p∈A,p∉i::rest)(hi:i<T.length)(hir:i∉rest)(hd:∀d∈T.deps i,l d=true)(hf:∀a∈A.filter (λa=>!(ms.getD i 0).testBit a),nd (T.op i).dst (ZB (T.op a))=true/\ndd (T.op i).dst (T.op a).dst=true)(e){L2 L2'}(hL:∀x,Zh L' x=Zh L x->Zh L2' x=Zh L2 x)(h0:∀x,(∀a,ndd (T.op i).dst (T.op a).dst=true->ZaG (T.op a) x->Zh L' x=nO->Zh L2' x=nO))(hp:∀a∈A.filter (λa=>!(ms.getD i 0).testBit a),l a=false->W6 (T.op a) H L s B->W6 (T.op a) (Zx H (T.op i).dst e) L2 s2 B2):
  Inv T ms (A.filter λa=>!(ms.getD i 0).testBit a) rest (Zx H (T.op i).dst e) L2 s2 B2 (λj=>j==i ||l j) (Zx H' (T.op i).dst e) L2':=by
 have ad:=hm l inv.closed i hi hd;have ac:∀a∈A,l a=false->a∈A.filter λa=>!(ms.getD i 0).testBit a:=λa ha u=>by refine List.mem_filter.2 ⟨ha,?_⟩;cases hb:(ms.getD i 0).testBit a;rfl;rw[ad a hb]at u;simp at u
 have ab:∀a∈A.filter (λa=>!(ms.getD i 0).testBit a),a∈A:=λa ha=>(List.mem_filter.1 ha).1;have af:∀a,(a==i ||l a)=false->a≠i/\l a=false:=λa ha=>by simpa using ha
 have ae:∀a∈A,l a=false->(a==i ||l a)=false:=λa ha h=>by have:a≠i:=λak=>hdis a ha (by simp[ak]);simp[this,h]
 refine⟨λj hj hlj d ah=>?_,λr hr=>?_,λj hj h1 h2=>?_,λa ha=>inv.alt a (ab a ha),λp ag a ha=>inv.pair p (ab p ag) a (ab a ha),λp ag a ha=>inv.uniq p (ab p ag) a (ab a ha),λt=>?_,λa ha u x hx=>?_,
  λx=>?_,λa ha u=>hp a ha (af a u).2 (inv.pend a (ab a ha) (af a u).2)⟩
 simp only[ZIW,beq_iff_eq]at hlj⊢;rcases hlj with rfl|hlj;exact .inr (hd d ah);exact .inr (inv.closed j hj hlj d ah);simp only[Bool.or_eq_false_iff,beq_eq_false_iff_ne];exact⟨λh=>hir (h▸hr),inv.restN r (by simp[hr])⟩;by_cases aj:j=i;simp[aj];by_cases ai:j∈A;cases hlj:l j;exact absurd (ac j ai hlj) h2;simp;simp[inv.doneN j hj (by simp[aj,h1]) ai];rw[WH,WH];by_cases ht:(T.op i).dst=sO t;simp[ht];simp only[ht,if_false];rcases inv.env t with h|⟨a,ha,u,al⟩;exact .inl h;exact .inr ⟨a,ac a ha u,ae a ha u,al⟩;exact h0 x a (hf a ha).2 hx (inv.loc0 a (ab a ha) (af a u).2 x hx);rcases inv.loc x with h|⟨a,ha,u,hx⟩;exact .inl (hL x h);exact .inr ⟨a,ac a ha u,ae a ha u,hx⟩
def W6.keep{o H L L2 s s2 B fl}(h:W6 o H L s B)(hk:Wi fl s s2 L L2 B)(hf:Zam (Zb3 o) fl=false->YP o.k=false)(hal:∀t,ZaG o t->Zh L2 t=Zh L t):W6 o H L2 s2 (YY fl B):=by
 cases ab:Zam (Zb3 o) fl;have hr:=ZmW (H:=H) (hf ab);exact((h.state (s':=s2) (λb hb=>by rw[hr]at hb;simp at hb)).more (λb hb=>by rw[hr]at hb;simp at hb)).mono (λ_ _=>rfl) (λ_ _=>rfl) (λx hx=>by rw[hr]at hx;simp at hx) hal;have hm:=ZiI (show K2 s s2 L L2 (YY fl B) from hk);have u:∀b,(Zb3 o,b)∈B->(Zb3 o,b)∈YY fl B:=λb hb=>QH.2 ⟨ab,hb⟩;rcases h with ⟨hq,hg,hr,h'⟩|⟨hq,hg,h'⟩|h';exact((W6.state (s':=s2) (.inl ⟨hq,hg,hr,h'⟩) (λb hb=>hm.1 _ b (u _ (hr _ hb)))).more (B':=YY fl B) (λb _ hb=>u b hb)).mono (λ_ _=>rfl) (λ_ _=>rfl) (λx hx=>hm.2 _ x (u _ (hr _ hx))) hal;exact .inr (.inl ⟨hq,hg,h'⟩);exact(W6.more (B':=YY fl B) (s:=s2) (.inr (.inr h'):W6 o H L s2 B) (λb _ hb=>u b hb)).mono (λ_ _=>rfl) (λ_ _=>rfl) (λx hx=>by
  obtain⟨t,z,rfl,_⟩:=h';simp[Y5]at hx) hal
def ZDL{L s q es r}(u:qv L s q es=sO r){e t}(he:es=e::t)(hr:YP (.q q [])=true){x}(hx:.loc x∈K3 e):∃cs,Zh L x=sO cs:=by
 subst he;cases e with
 |d v=>cases v<;>simp[K3]at hx
 |when c e=>simp[K3]at hx
 |loc l o =>
  simp only[K3,List.mem_singleton,Rd.loc.injEq]at hx;subst hx;by_cases hl:ZcI (.q q [])=true;exact ZCG u hl (x:=x) (o:=o) ψ;cases q;case conv c =>cases c<;>simp[YP]at hr;cases t<;>simp[qv]at u
  all_goals simp[YP,ZcI]at hr hl
  .cases t with
   |nil=>simp[qv]at u
   |cons e2 r2=>cases r2<;>simp[qv]at u
  cases t<;>simp[qv]at u
def W6.loc{o H L s B}(h:W6 o H L s B){x}(hx:.loc x∈Y5 o H):∃cs,Zh L x=sO cs:=by
 rcases h with ⟨hk,ac,hr,side,e,hs,u,he⟩|⟨hk,_,ab,_⟩|⟨t,z,rfl,_⟩
 rotate_left
 rw[ab.reads]at hx;simp at hx
 rotate_left
 .obtain⟨dst,gd,k⟩:=o;cases k with
  |q q xs =>
   simp only[Y5]at hx;split at hx<;>(try(simp at hx;done));rename_i hrd;unfold ZF at u;have hg:Zj H gd=sO true:=ac;simp only[hg]at hx u;cases ha:Z8 H true xs with
   |none=>simp[ha]at hx
   |some pe =>
    obtain⟨p,es⟩:=pe;simp only[ha]at hx u;cases es with
    |nil=>simp at hx
    |cons e1 es' =>
     simp only at hx;split at u<;>(try(simp at u;done));rename_i sd e2 hq;exact ZDL hq rfl (by
      cases q;case conv c=>cases c<;>simp_all[YP]
      all_goals simp_all[YP]) hx
  |_=>simp[Y5]at hx
 simp[Y5]at hx
def Zb6{F:Fr P}{kp dk o f os H L s B}(R:E->St->Prop)(hk:Y1 o.k=false)(h1:∀H' L' os',ZA H H' (ZB o)->(∀e s2,R e s2->DO F kp dk os' (Zx H' o.dst e) L' s2)->DO F kp dk (o::os') H' L' s)(h2:∀e s2,R e s2->Wi f s s2 L L B/\DOA F kp dk os (Zx H o.dst e) L s2 (YY f B)):
  DOA F kp dk ((o,f)::os) H L s B:=by
 intro T ms fl fk A rest is l H' L' hm hc ab af inv ag;cases rest with
 |nil=>simp at af
 |cons i rest =>
  simp only[ZIQ,List.cons.injEq,ZIK]at af;obtain⟨⟨ho,rfl⟩,rfl⟩:=af;obtain⟨am,rfl⟩:=Zqp ho.symm (λk h=>by rw[h]at hk;simp[Y1]at hk);obtain⟨hi,hdeps,ao,aq,ak⟩:=Zno am hc;rcases ak with ⟨hp,_⟩|⟨hb,aj,_⟩;have:=(Zfl hp).1;rw[hk]at this;simp at this;obtain⟨hbk,ad,u⟩:=ZgS hb;refine Zxp hm hi ab ad (λl H' L' is inv hd ag=>?_) ag inv;have ac:=hm l inv.closed i hi hd;have ai:ZA H H' (ZB (T.op i)):=by intro t ht;rcases inv.env t with h|⟨a,ha,ae,al⟩;exact h;exfalso;rcases aq a ha with hb|hb;rw[ac a hb]at ae;simp at ae;exact Zkr hb al ht
  refine h1 H' L' _ ai λe s2 hR=>?_;obtain⟨ap,ah⟩:=h2 e s2 hR;refine ah T ms fl fk _ rest is _ _ _ hm aj (λp hp au=>ab p (List.mem_filter.1 hp).1 (by simp[au])) rfl (inv.bar hm ab hi ao hd (λa ha=>⟨(u a ha).1,(u a ha).2.1⟩) e (λ_ h=>h) (λ_ _ _ _ h=>h) λa ha ae ar=>?_) ag;refine(ar.keep ap (u a ha).2.2 (λ_ _=>rfl)).mono (K1 (u a ha).1) (λt ht=>?_) (λ_ _=>rfl) (λ_ _=>rfl);rw[WH];have:=Zbv (ZbV (u a ha).2.1) ht;simp[this]
end
def Zlh{H L s s1 p q ok side a n xs ρ1 L1}(h:K8 H L s p q ok a n xs=.ok side ρ1 L1 s1):
  ρ1=H/\((∃l off t,a=.loc l off/\L1=(l,Zy t off xs)::L/\s1=s/\Zh L l=sO t/\∀H' L',Zh L' l=Zh L l->K8 H' L' s p q ok a n xs=.ok side H' ((l,Zy t off xs)::L') s) \/
   (L1=L/\∀H' L',K8 H' L' s p q ok a n xs=.ok side H' L' s1)):=by
 obtain⟨rfl,⟨l,off,t,rfl,u,rfl,rfl,rfl⟩|⟨b,off,t,rfl,u,rfl,rfl,rfl⟩⟩:=ZgD h;exact⟨rfl,.inl ⟨l,off,t,rfl,rfl,rfl,u,λH' L' hl=>by simp only[K8,hl,u]⟩⟩;exact⟨rfl,.inr ⟨rfl,λH' L'=>by simp only[K8,u]⟩⟩
def Zvs{o H L s s1 side ρ1 L1}(hst:ZF o H L s=.ok side ρ1 L1 s1)(hk:Zec o.k=true):
  ρ1=H/\o.dst=nO/\((∃lx cs new,L1=(lx,new)::L/\s1=s/\Zh L lx=sO cs /\
   ∀H' L',ZA H H' (ZB o)->Zh L' lx=Zh L lx->ZF o H' L' s=.ok side H' ((lx,new)::L') s) \/
   (L1=L/\∀H' L',ZA H H' (ZB o)->ZF o H' L' s=.ok side H' L' s1)):=by
 obtain⟨dst,gd,k⟩:=o;cases hg:Zj H gd with
 |none=>unfold ZF at hst;simp[hg]at hst
 |some c =>
 cases k with
 |store1 a v =>unfold ZF at hst;simp only[hg]at hst;split at hst<;>(try(simp at hst;done));rename_i p ea q x ha hv;obtain⟨rfl,⟨l,off,cs,rfl,rfl,rfl,hL,u⟩|⟨rfl,u⟩⟩:=Zlh hst;refine⟨rfl,rfl,.inl ⟨l,cs,_,rfl,rfl,hL,λH' L' ab hl=>?_⟩⟩;have h1:ZA ρ1 H' (ZR a):=λt ht=>ab t (by simp[ZB,Yh,ht]);have h2:ZA ρ1 H' (ZR v):=λt ht=>ab t (by simp[ZB,Yh,ht]);unfold ZF;simp only[Zj,ZQ h1,ZQ h2,ha,hv];exact u H' L' hl;refine⟨rfl,rfl,.inr ⟨rfl,λH' L' ab=>?_⟩⟩;have h1:ZA ρ1 H' (ZR a):=λt ht=>ab t (by simp[ZB,Yh,ht]);have h2:ZA ρ1 H' (ZR v):=λt ht=>ab t (by simp[ZB,Yh,ht]);unfold ZF;simp only[Zj,ZQ h1,ZQ h2,ha,hv];exact u H' L'
 |storeN n a v =>unfold ZF at hst;simp only[hg]at hst;split at hst<;>(try(simp at hst;done));rename_i p ea q xs ha hv;obtain⟨rfl,⟨l,off,cs,rfl,rfl,rfl,hL,u⟩|⟨rfl,u⟩⟩:=Zlh hst;refine⟨rfl,rfl,.inl ⟨l,cs,_,rfl,rfl,hL,λH' L' ab hl=>?_⟩⟩;have h1:ZA ρ1 H' (ZR a):=λt ht=>ab t (by simp[ZB,Yh,ht]);have h2:ZA ρ1 H' (ZR v):=λt ht=>ab t (by simp[ZB,Yh,ht]);unfold ZF;simp only[Zj,ZQ h1,ZQ h2,ha,hv];exact u H' L' hl;refine⟨rfl,rfl,.inr ⟨rfl,λH' L' ab=>?_⟩⟩;have h1:ZA ρ1 H' (ZR a):=λt ht=>ab t (by simp[ZB,Yh,ht]);have h2:ZA ρ1 H' (ZR v):=λt ht=>ab t (by simp[ZB,Yh,ht]);unfold ZF;simp only[Zj,ZQ h1,ZQ h2,ha,hv];exact u H' L'
 |_=>simp[Zec]at hk
def Zt9:K->Bool
 |.mapupd _ _ _ _|.delete _ _ _|.entst _ _ _=>true
 |_=>false
def Zzy{o H L s s1 side ρ1 L1}(hst:ZF o H L s=.ok side ρ1 L1 s1)(hk:Zt9 o.k=true):
  ρ1=H/\o.dst=nO/\L1=L/\∀H' L',ZA H H' (ZB o)->ZF o H' L' s=.ok side H' L' s1:=by
 obtain⟨dst,gd,k⟩:=o;cases hg:Zj H gd with
 |none=>unfold ZF at hst;simp[hg]at hst
 |some c =>
 cases k with
 |mapupd kp m k v =>unfold ZF at hst;simp only[hg]at hst;split at hst<;>(try(simp at hst;done));rename_i p b q dk r dv hm ad hv;split at hst<;>(try(simp at hst;done));rename_i es ac;split at hst<;>simp only[SR.ok.injEq,reduceCtorEq]at hst;rename_i ae ab;obtain⟨rfl,rfl,rfl,rfl⟩:=hst;refine⟨rfl,rfl,rfl,λH' L' u=>?_⟩;have h1:ZA H H' (ZR m):=λt ht=>u t (by simp[ZB,Yh,ht]);have h2:ZA H H' (ZR k):=λt ht=>u t (by simp[ZB,Yh,ht]);have h3:ZA H H' (ZR v):=λt ht=>u t (by simp[ZB,Yh,ht]);unfold ZF;simp only[Zj,ZQ h1,ZQ h2,ZQ h3,hm,ad,hv,ac,ab]
 |delete kp m k =>unfold ZF at hst;simp only[hg]at hst;split at hst<;>(try(simp at hst;done));rename_i p b q dk hm ad;split at hst<;>(try(simp at hst;done));rename_i es ac;split at hst<;>simp only[SR.ok.injEq,reduceCtorEq]at hst;rename_i ae ab;obtain⟨rfl,rfl,rfl,rfl⟩:=hst;refine⟨rfl,rfl,rfl,λH' L' u=>?_⟩;have h1:ZA H H' (ZR m):=λt ht=>u t (by simp[ZB,Yh,ht]);have h2:ZA H H' (ZR k):=λt ht=>u t (by simp[ZB,Yh,ht]);unfold ZF;simp only[Zj,ZQ h1,ZQ h2,hm,ad,ac,ab]
 |entst m k v =>unfold ZF at hst;simp only[hg]at hst;split at hst<;>(try(simp at hst;done));rename_i p b q n r dv hm ad hv;split at hst<;>(try(simp at hst;done));rename_i kp es dk n' ac;split at hst<;>simp only[SR.ok.injEq,reduceCtorEq]at hst;rename_i ae ab;obtain⟨rfl,rfl,rfl,rfl⟩:=hst;refine⟨rfl,rfl,rfl,λH' L' u=>?_⟩;have h1:ZA H H' (ZR m):=λt ht=>u t (by simp[ZB,Yh,ht]);have h2:ZA H H' (ZR k):=λt ht=>u t (by simp[ZB,Yh,ht]);have h3:ZA H H' (ZR v):=λt ht=>u t (by simp[ZB,Yh,ht]);unfold ZF;simp only[Zj,ZQ h1,ZQ h2,ZQ h3,hm,ad,hv,ac,ab]
 |_=>simp[Zt9]at hk
def Zzw{o H L s side pre ρf sf}(hst:ZF o H L s=.all side pre ρf sf):
  Y1 o.k=false/\∃(t:Nat) (ef:Nat->E),o.dst=sO t/\(ρf=λb=>(t,ef b)::H)/\∀H' L',ZA H H' (ZB o)->ZF o H' L' s=.all side pre (λb=>(t,ef b)::H') sf:=by
 obtain⟨dst,gd,k⟩:=o;cases hg:Zj H gd with
 |none=>unfold ZF at hst;simp[hg]at hst
 |some c =>
 cases k with
 |mkmap =>unfold ZF at hst;simp only[hg]at hst;split at hst<;>simp only[SR.all.injEq,reduceCtorEq]at hst;obtain⟨rfl,rfl,rfl,rfl⟩:=hst;refine⟨rfl,_,λb=>.d (.map b),rfl,rfl,λH' L' u=>?_⟩;unfold ZF;simp only[Zj]
 |mkslice e n by_ z l c =>unfold ZF at hst;simp only[hg]at hst;split at hst<;>simp only[SR.all.injEq,reduceCtorEq]at hst;rename_i t p k1 lv q k2 hv hl hc;obtain⟨rfl,rfl,rfl,rfl⟩:=hst;refine⟨rfl,t,λb=>.d (.msl b 0 lv.toNat hv.toNat n),rfl,rfl,λH' L' u=>?_⟩;have h1:ZA H H' (ZR l):=λt ht=>u t (by simp[ZB,Yh,ht]);have h2:ZA H H' (ZR c):=λt ht=>u t (by simp[ZB,Yh,ht]);unfold ZF;simp only[Zj,ZQ h1,ZQ h2,hl,hc]
 |mapent kp z m k =>unfold ZF at hst;simp only[hg]at hst;split at hst<;>(try(simp at hst;done));rename_i t p b q dk hm ac;split at hst<;>(try(simp at hst;done));rename_i es ab;split at hst<;>simp only[SR.all.injEq,reduceCtorEq]at hst;rename_i v hv;obtain⟨rfl,rfl,rfl,rfl⟩:=hst;refine⟨rfl,t,λn=>.d (.tup [v,.stamp n]),rfl,rfl,λH' L' u=>?_⟩;have h1:ZA H H' (ZR m):=λt ht=>u t (by simp[ZB,Yh,ht]);have h2:ZA H H' (ZR k):=λt ht=>u t (by simp[ZB,Yh,ht]);unfold ZF;simp only[Zj,ZQ h1,ZQ h2,hm,ac,ab,hv]
 |store1 a v =>unfold ZF at hst;simp only[hg]at hst;split at hst<;>(try(simp at hst;done));exact absurd hst ZeU
 |storeN n a v =>unfold ZF at hst;simp only[hg]at hst;split at hst<;>(try(simp at hst;done));exact absurd hst ZeU
 |_ =>
  unfold ZF at hst;simp only[hg]at hst;first
   | (simp at hst;done)
   |repeat' (split at hst<;>(try(simp at hst;done)))
def ZxJ{o H L s s1 side ρ1 L1}(t:ZF o H L s=.ok side ρ1 L1 s1):YC o.k=true\/(∃z,o.k=.alloc z)\/Zec o.k=true\/(∃x,o.k=.box x)\/Zt9 o.k=true:=by
 obtain⟨dst,gd,k⟩:=o;unfold ZF at t;cases u:Zj H gd with
 |none=>simp[u]at t
 |some c =>
  simp only[u]at t;cases k with
  |q q xs=>exact .inl rfl
  |pick x a b=>exact .inl rfl
  |bsl len n z is xs=>exact .inl rfl
  |s2b x=>exact .inl rfl
  |alloc z=>exact .inr (.inl ⟨z,rfl⟩)
  |store1 a v=>exact .inr (.inr (.inl rfl))
  |storeN n a v=>exact .inr (.inr (.inl rfl))
  |box x=>exact .inr (.inr (.inr (.inl ⟨x,rfl⟩)))
  |mapupd kp m k v=>exact .inr (.inr (.inr (.inr rfl)))
  |delete kp m k=>exact .inr (.inr (.inr (.inr rfl)))
  |entst m k v=>exact .inr (.inr (.inr (.inr rfl)))
  |mkmap=>simp only at t;split at t<;>simp at t
  |mkslice e n by_ z l c=>simp only at t;split at t<;>simp at t
  |mapent kp z m k =>simp only at t;split at t<;>(try(simp at t;done));split at t<;>(try(simp at t;done));split at t<;>simp at t
  |call f xs=>simp at t
  |append e n by_ z x y=>simp at t
  |panic x=>simp at t
  |defer f xs=>simp at t
  |recover=>simp at t
  |clear n z x=>simp at t
  |copy n x y=>simp at t
  |fork k=>simp at t
section
variable {P:Program}
def ZzA{o H L L' side ρ1 lx new g Z w tmps s}(u:ZF o H L s=.ok side ρ1 ((lx,new)::L) s)(hk:Zec o.k=true)(hs:side)(m:Zu g Z w tmps H L' s):∃cs,Zh L' lx=sO cs:=by
 have t:∀{p q ok:Prop} {a:Opd} {ea:E} {n:Nat} {xs:List D},ZC H true a=sO (p,ea)->K8 H L s p q ok ea n xs=.ok side ρ1 ((lx,new)::L) s->∃cs,Zh L' lx=sO cs:=by intro p q ok a ea n xs ha h;obtain⟨rfl,⟨l,off,cs,rfl,hL,rfl,h1,h2⟩|⟨b,off,cs,rfl,hL,rfl,h1,h2⟩⟩:=ZgD h;simp only[List.cons.injEq,ZIK,and_true]at h1;obtain⟨rfl,rfl⟩:=h1;exact Zni m (xs:=[a]) (p:=p/\True) (es:=[.loc lx off]) (by simp[Z8,ha]) ⟨hs.1,trivial⟩ lx off ψ;exact absurd (congrArg List.length h1) ψ
 obtain⟨dst,gd,k⟩:=o;cases hg:Zj H gd with
 |none=>unfold ZF at u;simp[hg]at u
 |some c =>
 cases k with
 |store1 a v =>unfold ZF at u;simp only[hg]at u;split at u<;>(try(simp at u;done));rename_i p ea q x ha hv;exact t ha u
 |storeN n a v =>unfold ZF at u;simp only[hg]at u;split at u<;>(try(simp at u;done));rename_i p ea q xs ha hv;exact t ha u
 |_=>simp[Zec]at hk
def Zzx{o H ρ1 L L1 s s1 side x}(hst:ZF o H L s=.ok side ρ1 L1 s1)(hk:o.k=.box x):
  ∃t p v,o.dst=sO t/\o.guard=nO/\side=(p/\Zal L t=false/\Kb v=true)/\ρ1=(t,.loc t 0)::H/\L1=(t,cellsOf v)::L/\s1=s /\
   ∀H' L',ZA H H' (ZB o)->ZF o H' L' s=.ok (p/\Zal L' t=false/\Kb v=true) ((t,.loc t 0)::H') ((t,cellsOf v)::L') s:=by
 obtain⟨dst,gd,k⟩:=o;simp only at hk;subst hk;unfold ZF at hst;cases hg:Zj H gd with
 |none=>simp[hg]at hst
 |some c =>simp only[hg]at hst;split at hst<;>simp only[SR.ok.injEq,reduceCtorEq]at hst;rename_i t p v hx;obtain⟨rfl,rfl,rfl,rfl⟩:=hst;refine⟨t,p,v,rfl,rfl,rfl,rfl,rfl,rfl,λH' L' ab=>?_⟩;have h1:ZA H H' (ZR x):=λu hu=>ab u (by simp[ZB,Yh,hu]);unfold ZF;simp only[Zj,ZQ h1,hx]
def Zlg{o H ρ1 L L1 s s1 side}(t:ZF o H L s=.ok side ρ1 L1 s1):∀k,o.k≠.fork k:=λk u=>by
 obtain⟨dst,gd,k'⟩:=o;simp only at u;subst u;unfold ZF at t;cases hg:Zj H gd<;>simp[hg]at t
def Jj{F:Fr P}{kp dk o f os H ρ1 L L1 s s1 B side}(hst:ZF o H L s=.ok side ρ1 L1 s1)(hs:side)(h:if Y1 o.k then DOA F kp dk os ρ1 L1 s1 (Kn o H++B) else Wi f s s1 L L1 B/\DOA F kp dk os ρ1 L1 s1 (Kn o H++YY f B)):DOA F kp dk ((o,f)::os) H L s B:=by
 intro T ms fl fk A rest is l H' L' hm hc af bh inv am;cases rest with
 |nil=>simp at bh
 |cons i rest =>
  simp only[ZIQ,List.cons.injEq,ZIK]at bh;obtain⟨⟨ho,rfl⟩,rfl⟩:=bh;obtain⟨b0,rfl⟩:=Zqp ho.symm (Zlg hst);obtain⟨hi,hdeps,ar,bq,a0⟩:=Zno b0 hc;have bp:=inv.restN i ψ;rcases a0 with ⟨hp,ao⟩|⟨hb,ao,hnp⟩
  .obtain⟨ca,a7,ap⟩:=Zfl hp;rw[ca]at h;simp only[if_true]at h;have hiA:i∉A:=λhA=>af i hA ψ;have bx:∀(av:∀t,(T.op i).dst=sO t\/ZM ρ1 t=ZM H t) (bc:∀a∈A,ZA H ρ1 (ZB (T.op a))) (hL:∀x,Zh L1 x=Zh L x\/(ZaG (T.op i) x/\Zh L x=nO)) (bk:∀x,ZaG (T.op i) x->Zh L x=nO)
     (az:W6 (T.op i) ρ1 L1 s (Kn (T.op i) H++B)) (bb:s1=s),DO F kp dk (is.map T.op) H' L' s:=by
    intro av bc hL bk az bb;subst bb;refine h T ms fl fk (i::A) rest is l H' L' hm ao (λp hp a9=>?_) rfl ⟨inv.closed,λr hr=>inv.restN r (by simp[hr]),λj hj h1 h2=>?_,λa ha=>?_,λp hp a ha=>?_,λp hp a ha br=>?_,λt=>?_,λa ha ad x hx=>?_,λx=>?_,λa ha ad=>?_⟩ am;rcases List.mem_cons.1 hp with rfl|hp;exact ar a9;exact af p hp (by simp[a9]);simp only[ZJd,not_or]at h2;exact inv.doneN j hj (by simp[h2.1,h1]) h2.2;rcases List.mem_cons.1 ha with rfl|ha;exact hi;exact inv.alt a ha;rcases List.mem_cons.1 hp with rfl|hpA<;>rcases List.mem_cons.1 ha with rfl|haA;exact .inr a7;exact bq a haA;exact .inr (ap p hpA).1;exact inv.pair p hpA a haA;rcases List.mem_cons.1 hp with rfl|hpA<;>rcases List.mem_cons.1 ha with rfl|haA;exact absurd rfl br;exact(ap a haA).2;exact ZbV (ap p hpA).2;exact inv.uniq p hpA a haA br;rcases av t with hd|hg;exact .inr ⟨i,ψ,bp,hd⟩;rw[hg];rcases inv.env t with h|⟨a,ha,ad,be⟩;exact .inl h;exact .inr ⟨a,by simp[ha],ad,be⟩;rcases List.mem_cons.1 ha with rfl|ha;have:=bk x hx;rcases inv.loc x with h|⟨b,hb,bf,bj⟩;rw[h];exact this;exact inv.loc0 b hb bf x bj;exact inv.loc0 a ha ad x hx;rcases hL x with hx|⟨hx,_⟩;rw[hx];rcases inv.loc x with h|⟨b,hb,bf,bj⟩;exact .inl h;exact .inr ⟨b,by simp[hb],bf,bj⟩;exact .inr ⟨i,ψ,bp,hx⟩;rcases List.mem_cons.1 ha with rfl|ha;exact az;refine((inv.pend a ha ad).more (B':=Kn (T.op i) H++B) (λb _ hb=>List.mem_append_right _ hb)).mono (bc a ha) (λt ht=>?_) (λx hx=>?_) (λt ai=>?_);rcases av t with hd|hg;exact absurd ht (Zbv (ap a ha).2 hd);exact hg;obtain⟨cs,a0⟩:=(inv.pend a ha ad).loc hx;rcases hL x with h|⟨_,h⟩;exact h;rw[h]at a0;simp at a0;rcases hL t with h|⟨h,_⟩;exact h;exact absurd ai.1 (Zbv (ap a ha).2 h.1)
   by_cases hq:YC (T.op i).k=true
   .obtain⟨e,rfl,rfl,rfl⟩:=Zm3 hst hq;have bo:=YW (g:=(T.op i).guard) (H:=H) (H':=Zx H (T.op i).dst e) (λt ht=>K1 a7 t (by simp[ZB,ht]));refine bx (λt=>?_) (λa ha=>K1 (ap a ha).1) (λx=>.inl rfl) (λx hx=>by have:=Zcq hx;rw[hq]at this;simp at this) ?_ rfl;rw[WH];by_cases ht:(T.op i).dst=sO t;exact .inl ht;exact .inr (by simp[ht]);cases a4:Zj H (T.op i).guard with
    |none=>unfold ZF at hst;simp[a4]at hst
    |some c =>
    cases c;obtain⟨e',h1,-,-⟩:=Zm2 hst a4 hq;refine .inr (.inl ⟨hq,_,.inl ⟨by rw[bo,a4],e',rfl⟩,λt ht=>?_⟩);rw[h1,WH,if_pos ht];obtain⟨e',h1,-,-,h2⟩:=Zi8 (H':=Zx H (T.op i).dst e) (L':=L1) hst hq (K1 a7) (.inl rfl);refine .inl ⟨hq,by rw[bo,a4],by rw[ZkI (K1 a7)];exact λb hb=>List.mem_append_left _ (Zxq.2 hb),side,e',hs,h2,λt ht=>?_⟩;rw[h1,WH,if_pos ht]
   obtain⟨z,hz⟩:∃z,(T.op i).k=.alloc z:=by cases hk:(T.op i).k<;>first|exact absurd hk (Zlg hst _)|simp_all[Y1,YC]
   obtain⟨t,ho,rfl,rfl,rfl,rfl⟩:=Zvp hst hz;have aj:Zh L t=nO:=by cases hg:Zh L t<;>simp[Zal,hg]at hs⊢
   have al:(T.op i).dst=sO t:=by rw[ho]
   refine bx (λu=>?_) (λa ha=>?_) (λx=>?_) (λx hx=>?_) (.inr (.inr ⟨t,z,ho,by simp[ZM],by simp[Zh]⟩)) rfl;by_cases bu:t=u;exact .inl (by rw[al,bu]);exact .inr (by simp[ZM,bu]);have:=K1 (H:=H) (e:=.loc t 0) (ap a ha).1;rw[al]at this;exact this;by_cases bv:t=x;subst bv;exact .inr ⟨⟨al,z,hz⟩,aj⟩;exact .inl (by simp[Zh,bv]);have:=hx.1;rw[al]at this;simp only[ZIx]at this;subst this;exact aj
  obtain⟨bl,ba,ab⟩:=ZgS hb;have a5:Wi (fl i) s s1 L L1 B\/Y1 (T.op i).k=true:=by cases a8:Y1 (T.op i).k;rw[a8]at h;exact .inl h.1;exact .inr rfl
  have hD:∃B2,(B2=Kn (T.op i) H++B/\Y1 (T.op i).k=true\/B2=Kn (T.op i) H++YY (fl i) B/\Y1 (T.op i).k=false)/\DOA F kp dk (rest.map λi=>(T.mk fk i,fl i)) ρ1 L1 s1 B2:=by cases a8:Y1 (T.op i).k;rw[a8]at h;exact⟨_,.inr ⟨rfl,rfl⟩,h.2⟩;rw[a8]at h;exact⟨_,.inl ⟨rfl,rfl⟩,h⟩
  clear h;obtain⟨B2,bz,h⟩:=hD;have ah:∀b∈YY (fl i) B,b∈B2:=λb hb=>by rcases bz with ⟨rfl,_⟩|⟨rfl,_⟩;exact List.mem_append_right _ (QH.1 hb).2;exact List.mem_append_right _ hb
  refine Zxp hm hi af ba (λl H' L' is inv hd am=>?_) am inv;have au:=hm l inv.closed i hi hd;have aq:ZA H H' (ZB (T.op i)):=by intro t ht;rcases inv.env t with h|⟨a,ha,ad,be⟩;exact h;exfalso;rcases bq a ha with hb|hb;rw[au a hb]at ad;simp at ad;exact Zkr hb be ht
  have ay:∀x,Zh L' x=Zh L x\/Zh L' x=nO:=λx=>by rcases inv.loc x with h|⟨a,ha,ad,hx⟩;exact .inl h;exact .inr (inv.loc0 a ha ad x hx)
  have ag:∀p∈A.filter (λa=>!(ms.getD i 0).testBit a),p∉rest:=λp hp a9=>af p (List.mem_filter.1 hp).1 (by simp[a9]);rcases ZxJ hst with hq|⟨z,hz⟩|hq|⟨x,hx⟩|hq;obtain⟨e,rfl,rfl,rfl⟩:=Zm3 hst hq;refine Zvz hst hs hq aq ay ?_;refine h T ms fl fk _ rest is _ _ _ hm ao ag rfl (inv.bar hm af hi ar hd (λa ha=>⟨(ab a ha).1,(ab a ha).2.1⟩) e (λ_ h=>h) (λ_ _ _ _ h=>h) λa ha ad ak=>?_) am;refine((ak.keep (fl:=fl i) ZdG (ab a ha).2.2 (λ_ _=>rfl)).more (λb _ hb=>ah _ hb)).mono (K1 (ab a ha).1) (λt ht=>?_) (λ_ _=>rfl) (λ_ _=>rfl);rw[WH];have:=Zbv (ZbV (ab a ha).2.1) ht;simp[this];rw[hz]at bl;simp[ZwK]at bl;obtain⟨rfl,a3,⟨lx,cs,new,rfl,rfl,bg,ac⟩|⟨rfl,ac⟩⟩:=Zvs hst hq;refine Zq2 λg Z w tmps m=>?_;have bt:ZF (T.op i) H' ((lx,cs)::L') s1=.ok side H' ((lx,new)::(lx,cs)::L') s1:=ac H' _ aq (by simp[Zh,bg]);have bi:Zh L' lx=Zh L lx:=by obtain⟨c2,bn⟩:∃cs,Zh L' lx=sO cs:=ZzA (L:=(lx,cs)::L') bt hq hs m;rcases ay lx with h|h;exact h;rw[h]at bn;simp at bn
  refine QJ (ac H' L' aq bi) hs ?_;have ae:∀r:Env,Zx r (T.op i).dst (.d .undef)=r:=λr=>by rw[a3];rfl
  have hb:=inv.bar (s2:=s1) (B2:=B2) hm af hi ar hd (λa ha=>⟨(ab a ha).1,(ab a ha).2.1⟩) (.d .undef) (L2:=(lx,new)::L) (L2':=(lx,new)::L') (λx hx=>by simp only[Zh,hx]) (λx _ _ _ hx=>by
   by_cases bw:lx=x;subst bw;rw[bi,bg]at hx;simp at hx;simp only[Zh,bw,if_false];exact hx) (λa ha ad ak=>?_)
  rw[ae,ae]at hb;exact h T ms fl fk _ rest is _ _ _ hm ao ag rfl hb am;rw[ae];have aw:Wi (fl i) s1 s1 L ((lx,new)::L) B:=by rcases a5 with h|h;exact h;cases ax:(T.op i).k<;>rw[ax]at hq h<;>simp[Zec,Y1]at hq h
  refine(ak.keep aw (ab a ha).2.2 (λt ai=>?_)).more (λb _ hb=>ah _ hb);have hn:=inv.loc0 a (List.mem_filter.1 ha).1 ad t ai;have:¬lx=t:=λh=>by subst h;rw[bi,bg]at hn;simp at hn
  simp[Zh,this];refine QJ (ac H' L' aq) hs ?_;have ae:∀r:Env,Zx r (T.op i).dst (.d .undef)=r:=λr=>by rw[a3];rfl
  have hb:=inv.bar (s2:=s1) (B2:=B2) hm af hi ar hd (λa ha=>⟨(ab a ha).1,(ab a ha).2.1⟩) (.d .undef) (L2:=L1) (L2':=L') (λx hx=>hx) (λ_ _ _ _ hx=>hx) (λa ha ad ak=>by
   rw[ae];exact(ak.keep (a5.resolve_right (by cases ax:(T.op i).k<;>rw[ax]at hq<;>simp[Zec,Zt9]at hq<;>simp[Y1])) (ab a ha).2.2 (λ_ _=>rfl)).more (λb _ hb=>ah _ hb))
  rw[ae,ae]at hb;exact h T ms fl fk _ rest is _ _ _ hm ao ag rfl hb am;obtain⟨t,p,v,al,hgn,rfl,rfl,rfl,rfl,ac⟩:=Zzx hst hx;obtain⟨bb,cb,ce⟩:=hs;have aj:Zh L t=nO:=by cases hg:Zh L t<;>simp[Zal,hg]at cb⊢
  have a6:Zh L' t=nO:=by rcases ay t with h|h;rw[h];exact aj;exact h
  refine QJ (ac H' L' aq) ⟨bb,by simp[Zal,a6],ce⟩ ?_;have hb:=inv.bar (s2:=s1) (B2:=B2) hm af hi ar hd (λa ha=>⟨(ab a ha).1,(ab a ha).2.1⟩) (.loc t 0) (L2:=(t,cellsOf v)::L) (L2':=(t,cellsOf v)::L') (λx hx=>by simp only[Zh,hx]) (λx a b1 ai hx=>by
    have:¬t=x:=λh=>by subst h;exact Zbv b1 al ai.1
    simp only[Zh,this,if_false];exact hx) (λa ha ad ak=>?_)
  rw[al]at hb;exact h T ms fl fk _ rest is _ _ _ hm ao ag rfl hb am;have aw:Wi (fl i) s1 s1 L ((t,cellsOf v)::L) B:=a5.resolve_right (by rw[hx];simp[Y1]);have b2:∀u,ZaG (T.op a) u->¬t=u:=λu ai h=>by subst h;exact Zbv (ab a ha).2.1 al ai.1
  refine((ak.keep aw (ab a ha).2.2 (λu ai=>by simp[Zh,b2 u ai])).more (λb _ hb=>ah _ hb)).mono (K1 (ab a ha).1) (λu hu=>?_) (λ_ _=>rfl) (λ_ _=>rfl);rw[WH];have:=Zbv (ZbV (ab a ha).2.1) hu;simp[this];obtain⟨rfl,a3,rfl,ac⟩:=Zzy hst hq;refine QJ (ac H' L' aq) hs ?_;have ae:∀r:Env,Zx r (T.op i).dst (.d .undef)=r:=λr=>by rw[a3];rfl
  have hb:=inv.bar (s2:=s1) (B2:=B2) hm af hi ar hd (λa ha=>⟨(ab a ha).1,(ab a ha).2.1⟩) (.d .undef) (L2:=L1) (L2':=L') (λx hx=>hx) (λ_ _ _ _ hx=>hx) (λa ha ad ak=>by
   rw[ae];exact(ak.keep (a5.resolve_right (by cases ax:(T.op i).k<;>rw[ax]at hq<;>simp[Zec,Zt9]at hq<;>simp[Y1])) (ab a ha).2.2 (λ_ _=>rfl)).more (λb _ hb=>ah _ hb))
  rw[ae,ae]at hb;exact h T ms fl fk _ rest is _ _ _ hm ao ag rfl hb am
def ZsR{F:Fr P}{kp dk o f os H L s B e}(hz:Zcj o H e)(hk:YC o.k=true)(h:DOA F kp dk os (Zx H o.dst e) L s B):DOA F kp dk ((o,f)::os) H L s B:=by
 intro T ms fl fk A rest is l H' L' hm hc ac al inv ah;cases rest with
 |nil=>simp at al
 |cons i rest =>
  simp only[ZIQ,List.cons.injEq,ZIK]at al;obtain⟨⟨ho,rfl⟩,rfl⟩:=al;obtain⟨aw,rfl⟩:=Zqp ho.symm (λk h=>by rw[h]at hk;simp[YC]at hk);obtain⟨hi,hdeps,am,ap,av⟩:=Zno aw hc;have az:=inv.restN i ψ;have ao:∀x,¬ZaG (T.op i) x:=λx hx=>by have:=Zcq hx;rw[hk]at this;simp at this
  rcases av with ⟨hp,ai⟩|⟨hb,ai,hnp⟩;obtain⟨hp1,aq,ae⟩:=Zfl hp;have ax:=hz.congr (H':=Zx H (T.op i).dst e) (K1 aq);refine h T ms fl fk (i::A) rest is l H' L' hm ai (λp hp af=>?_) rfl ⟨inv.closed,λr hr=>inv.restN r (by simp[hr]),λj hj h1 h2=>?_,λa ha=>?_,λp hp a ha=>?_,λp hp a ha ar=>?_,λt=>?_,λa ha ab x hx=>?_,λx=>?_,λa ha ab=>?_⟩ ah;rcases List.mem_cons.1 hp with rfl|hp;exact am af;exact ac p hp (by simp[af]);simp only[ZJd,not_or]at h2;exact inv.doneN j hj (by simp[h2.1,h1]) h2.2;rcases List.mem_cons.1 ha with rfl|ha;exact hi;exact inv.alt a ha;rcases List.mem_cons.1 hp with rfl|hpA<;>rcases List.mem_cons.1 ha with rfl|haA;exact .inr aq;exact ap a haA;exact .inr (ae p hpA).1;exact inv.pair p hpA a haA;rcases List.mem_cons.1 hp with rfl|hpA<;>rcases List.mem_cons.1 ha with rfl|haA;exact absurd rfl ar;exact(ae a haA).2;exact ZbV (ae p hpA).2;exact inv.uniq p hpA a haA ar;rw[WH];by_cases ht:(T.op i).dst=sO t;exact .inr ⟨i,ψ,az,ht⟩;rw[if_neg ht];rcases inv.env t with h|⟨a,ha,ab,aj⟩;exact .inl h;exact .inr ⟨a,by simp[ha],ab,aj⟩;rcases List.mem_cons.1 ha with rfl|ha;exact absurd hx (ao x);exact inv.loc0 a ha ab x hx;rcases inv.loc x with h|⟨b,hb,ay,a3⟩;exact .inl h;exact .inr ⟨b,by simp[hb],ay,a3⟩;rcases List.mem_cons.1 ha with rfl|ha;exact .inr (.inl ⟨hk,e,ax,λt ht=>by rw[WH,if_pos ht]⟩);refine(inv.pend a ha ab).mono (K1 (ae a ha).1) (λt ht=>?_) (λ_ _=>rfl) (λ_ _=>rfl);rw[WH,if_neg (Zbv (ZbV (ae a ha).2) ht)];obtain⟨hbk,ag,u⟩:=ZgS hb;refine Zxp hm hi ac ag (λl H' L' is inv hd ah=>?_) ah inv;have ad:=hm l inv.closed i hi hd;have au:ZA H H' (ZB (T.op i)):=by intro t ht;rcases inv.env t with h|⟨a,ha,ab,aj⟩;exact h;exfalso;rcases ap a ha with hb|hb;rw[ad a hb]at ab;simp at ab;exact Zkr hb aj ht
  have ak:∀p∈A.filter (λa=>!(ms.getD i 0).testBit a),p∉rest:=λp hp af=>ac p (List.mem_filter.1 hp).1 (by simp[af]);refine(hz.congr au).run ?_;refine h T ms fl fk _ rest is _ _ _ hm ai ak rfl (inv.bar hm ac hi am hd (λa ha=>⟨(u a ha).1,(u a ha).2.1⟩) e (λ_ h=>h) (λ_ _ _ _ h=>h) λa ha ab a0=>?_) ah;refine a0.mono (K1 (u a ha).1) (λt ht=>?_) (λ_ _=>rfl) (λ_ _=>rfl);rw[WH];have:=Zbv (ZbV (u a ha).2.1) ht;simp[this]
def ZxY{F:Fr P}{kp dk o f os H L s B}(t:Zj H o.guard=sO false)(u:YC o.k=true)(e)(h:DOA F kp dk os (Zx H o.dst (.when false e)) L s B):DOA F kp dk ((o,f)::os) H L s B:=ZsR (.inl ⟨t,e,rfl⟩) u h
def ZzQ{F:Fr P}{kp dk o f os H L s B}(hg:o.guard=nO){x y t pl}(hk:o.k=.q (.bin t pl) [x,y]){p k u a b v}(ha:Z8 H true [x,y]=sO (p,[.d (.int k a),.d (.int u b)]))(hp:p)(hv:ZgM t k u a b=sO v)(h:DOA F kp dk os (Zx H o.dst (.d (.int k v))) L s B):DOA F kp dk ((o,f)::os) H L s B :=
 ZsR (.inr ⟨x,y,t,pl,p,k,u,a,b,v,hg,hk,ha,hp,hv,rfl⟩) (by rw[hk];rfl) h
def ZpS{F:Fr P}{kp}{dk}{o}{f}{os}{H}{L}{s}{B}{side}{pre}{ρf}{sf}(hst:ZF o H L s=.all side pre ρf sf)(hs:side)(h:∀b,pre b->Wi f s (sf b) L L B/\DOA F kp dk os (ρf b) L (sf b) (YY f B)):DOA F kp dk ((o,f)::os) H L s B:=by
 obtain⟨hp,t,ef,ac,rfl,u⟩:=Zzw hst;refine Zb6 (λe s2=>∃b,pre b/\e=ef b/\s2=sf b) hp (λH' L' os' ad ab=>?_) (λe s2 ⟨b,hb,he,h2⟩=>?_);refine Zn7 (u H' L' ad) hs λb hb=>?_;have:=ab (ef b) (sf b) ⟨b,hb,rfl,rfl⟩;rw[ac]at this;exact this;subst he;subst h2;have:=h b hb;rw[ac];exact this
def Zlv{F:Fr P}{ks dk}:∀{os H L s B},
  Zit (λH L s=>Zt F dk (Yn H ks) (Za7 (Yn H ks) L) s) (λos H L s B=>DOA F (sO ks) dk os H L s B) os H L s B->DOA F (sO ks) dk os H L s B
 | [],H,L,s,B,h=>ZpT h
 | (o,f)::os,H,L,s,B,h=>by simp only[Zit]at h;split at h;rename_i sd H' L' s' t;by_cases u:Y1 o.k=true;rw[if_pos u]at h;exact Jj t h.1 (by rw[if_pos u];exact Zlv h.2);rw[if_neg u]at h;exact Jj t h.1 (by rw[if_neg u];exact⟨h.2.1,Zlv h.2.2⟩);rename_i sd pre H' s' t;exact ZpS t h.1 λb hb=>⟨(h.2 b hb).1,Zlv (h.2 b hb).2⟩;exact h
end
def Zh0{bs}:∀{ds a},(ZcJ bs ds).testBit a=true->∃d∈ds,a=d\/(bs.getD d 0).testBit a=true
 | [],a,h=>by simp[ZcJ]at h
 |d::ds,a,h=>by simp only[ZcJ,Nat.testBit_or,ZIW]at h;rcases h with (h|h)|h;exact⟨d,ψ,.inr h⟩;refine⟨d,ψ,.inl ?_⟩;rw[Nat.one_shiftLeft,Nat.testBit_two_pow]at h;exact(of_decide_eq_true h).symm;obtain⟨t,u,h2⟩:=Zh0 h;exact⟨t,by simp[u],h2⟩
def Zub(l:Nat->Bool)(all)(hcl:∀i,i<I all->l i=true->∀d∈all.getD i [],l d=true) :
  ∀(r acc pre),all=pre++r->I acc=I pre ->
   (∀i,i<I acc->(∀d∈all.getD i [],l d=true)->∀a,(acc.getD i 0).testBit a=true->l a=true) ->
   ∀i,i<I all->(∀d∈all.getD i [],l d=true)->∀a,((Zgq r acc).getD i 0).testBit a=true->l a=true
 | [],acc,pre,hall,hlen,hacc=>by intro i hi;simp only[Zgq];exact hacc i (by rw[hlen];simp only[hall,ZI5]at hi;exact hi)
 |d::r,acc,pre,hall,hlen,hacc=>by
  simp only[Zgq];refine Zub l all hcl r (acc++[ZcJ acc d]) (pre++[d]) (by simp[hall]) (by simp[hlen]) λi hi hd a ha=>?_;simp only[ZII,ZIP,List.length_nil]at hi;by_cases t:i<I acc;have e:(acc++[ZcJ acc d]).getD i 0=acc.getD i 0:=by simp[ZIN,List.getElem?_append,t]
  rw[e]at ha;exact hacc i t hd a ha;have ab:i=I acc:=ω;subst ab;have e:(acc++[ZcJ acc d]).getD (I acc) 0=ZcJ acc d:=by simp[ZIN]
  rw[e]at ha;have e2:all.getD (I acc) []=d:=by rw[hall,hlen];simp[ZIN]
  rw[e2]at hd;obtain⟨d',h1,h2⟩:=Zh0 ha;rcases h2 with rfl|h2;exact hd a h1;by_cases u:d'<I acc;exact hacc d' u (hcl d' (by rw[hall];simp;omega) (hd d' h1)) a h2;have:acc.getD d' 0=0:=by simp[ZIN,ZJj (Nat.le_of_not_lt u)]
  rw[this]at h2;simp at h2
def cnt(l:Nat->Bool):Nat->Nat
 |0=>0
 |n+1=>cnt l n+if l n then 0 else 1
def ZtC{l l'}:∀{n},(∀i,i<n->l' i=l i)->cnt l' n=cnt l n
 |0,_=>rfl
 |n+1,h=>by have:=ZtC (l:=l) (l':=l') (n:=n) λi hi=>h i ω;simp only[cnt,h n ω,this]
def ZvK{l i}:∀{n},i<n->l i=false->cnt (λj=>j==i ||l j) n+1=cnt l n
 |n+1,hi,hl=>by
  by_cases hn:i=n;subst hn;have:cnt (λj=>j==i ||l j) i=cnt l i:=ZtC λj hj=>by have:¬j=i:=ω;simp[this]
  simp[cnt,this,hl];have h:=ZvK (n:=n) ω hl;have t:¬n=i:=λh=>hn h.symm;have:(n==i ||l n)=l n:=by simp[t]
  simp only[cnt,this];omega
def ZtD{l}:∀{n},cnt l n=0->∀i,i<n->l i=true
 |n+1,h,i,hi=>by simp only[cnt]at h;by_cases hn:i=n;subst hn;cases hl:l i;simp[hl]at h;rfl;exact ZtD (n:=n) ω i ω
def Zyi(l):∀n,cnt l n<=n
 |0=>ZIO _
 |n+1=>by have:=Zyi l n;simp only[cnt];split<;>omega
def Zy1{ops listed i}(h:i∈Region.ready .any ops listed):
  ∃o,ops[i]?=sO o/\listed.getD i true=false/\∀d∈JF o,listed.getD d false=true:=by
 simp only[Region.ready,List.mem_filter,List.mem_range,ZIJ,Bool.not_eq_true']at h;obtain⟨hi,hl,ha⟩:=h;refine⟨ops[i],by simp[hi],hl,λd hd=>?_⟩;simp only[hi,Array.getElem?_eq_getElem,ZI3,ZJe,Array.all_eq_true]at ha;simp only[JF,List.mem_map,List.mem_filter]at hd;obtain⟨e,⟨he,hb⟩,rfl⟩:=hd;obtain⟨n,hn,t⟩:=ZIV he;have u:n<ops[i].after.size:=by simpa using hn
 have h2:=ha n u;have:ops[i].after[n]=e:=by rw[<-t];simp
 rw[this]at h2;simpa[hb]using h2
def Zzk{ops t i o}(ho:ops[i]?=sO o)(hl:t.getD i true=false)(hd:∀d∈JF o,t.getD d false=true):i∈Region.ready .any ops t:=by
 obtain⟨u,rfl⟩:=Array.getElem?_eq_some_iff.1 ho;simp only[Region.ready,List.mem_filter,List.mem_range,ZIJ,Bool.not_eq_true'];refine⟨u,hl,?_⟩;simp only[u,Array.getElem?_eq_getElem,ZI3,ZJe,Array.all_eq_true];intro n hn;cases hb:Region.binds .any ops[i].after[n];simp;simp only[Bool.not_true,Bool.false_or];exact hd _ (by
  simp only[JF,List.mem_map,List.mem_filter];exact⟨_,⟨ψ,hb⟩,rfl⟩)
def ZDT{ops T}(hT:T.length=ops.size)(hdep:∀i o,ops[i]?=sO o->T.deps i=JF o)(hlt:∀i,i<T.length->∀d∈T.deps i,d<i):
  ∀(fuel t listed),listed.size=ops.size->cnt (λj=>listed.getD j false) ops.size<=fuel ->
   Sch T (λj=>listed.getD j false) (Region.linearise.go .any ops fuel t listed []):=by
 have u:∀listed:Array Bool,listed.size=ops.size->Region.ready .any ops listed=[]->∀i,i<ops.size->listed.getD i false=true:=by
  intro listed ab hr i;induction i using Nat.strongRecOn with
  |ind i ih =>
   intro hi;cases hl:listed.getD i false;exfalso;have af:i<listed.size:=ω;have ah:listed.getD i true=false:=by simpa[Array.getD,af]using hl
   have hm:i∈Region.ready .any ops listed:=Zzk (o:=ops[i]) (by simp[hi]) ah λd hd=>by have ak:d<i:=hlt i ω d (by rw[hdep i ops[i] (by simp[hi])];exact hd);exact ih d ak ω
   rw[hr]at hm;simp at hm;rfl
 intro fuel;induction fuel with
 |zero =>intro t listed ab hc;simp only[Region.linearise.go,List.reverse_nil];exact .nil λi hi=>ZtD (Nat.le_zero.1 hc) i ω
 |succ fuel ih =>
  intro t listed ab hc;simp only[Region.linearise.go];change Sch T _ (match (Region.ready .any ops listed)[t % (Region.ready .any ops listed).length]? with
   |some i=>Region.linearise.go .any ops fuel (t / (Region.ready .any ops listed).length) (listed.setIfInBounds i true) [i]
   |none=>[].reverse)
  cases hi:(Region.ready .any ops listed)[t % (Region.ready .any ops listed).length]? with
  |none =>
   have ai:Region.ready .any ops listed=[]:=by
    cases hr:Region.ready .any ops listed with
    |nil=>rfl
    |cons x xs =>rw[hr]at hi;have hl:t % (x::xs).length<(x::xs).length:=Nat.mod_lt _ ψ;rw[ZI4 hl]at hi;simp at hi
   exact .nil λi af=>u listed ab ai i ω
  |some i =>
   simp only[];rw[linearise_go_acc,List.reverse_singleton,List.singleton_append];obtain⟨o,ho,hl,hd⟩:=Zy1 (List.mem_of_getElem? hi);obtain⟨al,-⟩:=Array.getElem?_eq_some_iff.1 ho;have ad:i<listed.size:=ω;have ag:listed.getD i false=false:=by simpa[Array.getD,ad]using hl
   have ac:(λj=>(listed.setIfInBounds i true).getD j false)=λj=>j==i ||listed.getD j false:=by funext j;simp only[ZJm,Array.getElem?_setIfInBounds];by_cases ae:i=j;subst ae;simp[ad];have:¬j=i:=λh=>ae h.symm;simp[ae,this]
   refine .cons ω ag (λd aj=>hd d (by rw[<-hdep i o ho];exact aj)) ?_;rw[<-ac];refine ih _ _ (by simp[ab]) ?_;rw[ac];have:=ZvK (l:=λj=>listed.getD j false) al ag;omega
section
variable {P:Program}
def ZBZ{an N c t os ks}(h:cc P an N c=sO (.regD t os ks)):
  ∃id ops,c=.region id ops true/\ccD P an N id ops=sO (t,os,ks):=by
 unfold cc at h;split at h<;>simp_all;obtain⟨a,b,c',u,h2,h3,h4⟩:=h;exact⟨_,_,⟨rfl,rfl⟩,by rw[u];simp[h2,h3,h4]⟩;all_goals (split at h<;>simp at h)
end
def ZDU{T l is}(h:Sch T l is):∀i∈is,i<T.length:=by
 induction h with
 |nil h=>simp
 |cons hi hl hd t ih=>intro i u;rcases List.mem_cons.1 u with rfl|h;exact hi;exact ih i h
section
variable {P:Program}
def ZtE{N ops}:∀{is l},Jo P N ops is=sO l->I l=I is/\∀(j i:Nat),is[j]?=sO i->∃o d,ops[i]?=sO o/\cop P N ops o=sO d/\l[j]?=sO d
 | [],l,h=>by simp only[Jo,ZIx]at h;subst h;simp
 |i::is,l,h=>by
  simp only[Jo]at h;split at h<;>(try(simp at h;done));rename_i o ho;split at h<;>simp only[ZIx,reduceCtorEq]at h;rename_i d ds hd t;subst h;obtain⟨h1,h2⟩:=ZtE t;refine⟨by simp[h1],λj i' u=>?_⟩;cases j with
  |zero=>simp only[List.getElem?_cons_zero,ZIx]at u;subst u;exact⟨o,d,ho,hd,ψ⟩
  |succ j=>simp only[List.getElem?_cons_succ]at u⊢;exact h2 j i' u
def ZvL{N ops f}:∀{is},(∀i∈is,∃o,ops[i]?=sO o/\cop P N ops o=sO (f i))->Jo P N ops is=sO (is.map f)
 | [],_=>rfl
 |i::is,h=>by obtain⟨o,t,u⟩:=h i ψ;have:=ZvL (is:=is) λj hj=>h j (by simp[hj]);simp only[Jo,t,u,this,ZIQ]
def ZyC(g w){n}:Ext g w g { w with drawn:=n }:=⟨ZIO _,λ_=>ZIO _,λ_ _ _=>rfl,λ_ _ h=>h,λ_ _=>rfl,λ_ _=>rfl,rfl,rfl,rfl,rfl⟩
def Zu.drawn{g Z w tmps H L s}(m:Zu g Z w tmps H L s)(n):Zu g Z { w with drawn:=n } tmps H L s:=by
 have hg:JW g w g { w with drawn:=n }:=⟨ZIO _,λ_ _=>rfl,λ_ _=>rfl,λb hb=>(m.st.fresh b hb).1,rfl,rfl,rfl,rfl⟩;exact m.grow hg
def ZmD:∀{n ds},Zou n ds=true->∀i l,ds[i]?=sO l->∀d∈l,d<n+i
 |n,[],_,i,l,hi=>by simp at hi
 |n,x::r,h,i,l,hi=>by
  simp only[Zou,ZIJ,List.all_eq_true,decide_eq_true_eq]at h;cases i with
  |zero=>simp only[List.getElem?_cons_zero,ZIx]at hi;subst hi;exact λd hd=>h.1 d hd
  |succ i=>simp only[List.getElem?_cons_succ]at hi;intro d hd;have:=ZmD h.2 i l hi d hd;omega
def ZjB{F:Fr P}{order os ks dk H L s}(h:DOA F ks dk os H L s []):Zt F (.code (.regD order os ks)::dk) H L s:=by
 intro k hk;cases hk with
 |code hc ht =>
 obtain⟨id,ops,rfl,hD⟩:=ZBZ hc;unfold ccD at hD;generalize ZAp F.an id=fk at hD;split at hD<;>(try(simp at hD;done));rename_i l ah kp al _ _;simp only at hD;split at hD<;>simp only[ZIx,ZIK,reduceCtorEq]at hD;rename_i ad;obtain⟨rfl,rfl,rfl⟩:=hD;simp only[ZIJ]at ad;obtain⟨⟨⟨au,ar⟩,ae⟩,ac⟩:=ad;obtain⟨aj,ap⟩:=ZtE al;simp only[List.length_range]at aj;generalize af:ops.toList.map JF=ds at ar ac h;have az:I ds=ops.size:=by rw[<-af];simp
 generalize hT:List.zip l ds=T at ac h;have aw:List.length T=ops.size:=by rw[<-hT];simp[aj,az]
 have am:∀(i:Nat) (o:Oper),ops[i]?=sO o->∃d,cop P F.N ops o=sO d/\T[i]?=sO (d,JF o):=by intro i o ho;obtain⟨hi,-⟩:=Array.getElem?_eq_some_iff.1 ho;obtain⟨o',d,h1,h2,h3⟩:=ap i i (by simp[hi]);rw[ho]at h1;obtain rfl:=Option.some.inj h1;refine⟨d,h2,?_⟩;rw[<-hT,List.getElem?_zip_eq_some];exact⟨h3,by rw[<-af];simp[ho]⟩
 have ab:∀(i:Nat) (o:Oper),ops[i]?=sO o->Tab.deps T i=JF o:=λi o ho=>by obtain⟨d,_,h2⟩:=am i o ho;simp[Tab.deps,ZIN,h2]
 have a0:∀i,i<List.length T->∃o,ops[i]?=sO o/\cop P F.N ops o=sO (Tab.op T i):=λi hi=>by have u:i<ops.size:=ω;obtain⟨d,h1,h2⟩:=am i ops[i] (by simp[u]);exact⟨ops[i],by simp[u],by simp[Tab.op,ZIN,h2,h1]⟩
 have ao:∀i,i<List.length T->∀d∈Tab.deps T i,d<i:=λi hi d hd=>by have u:i<ops.size:=ω;have he:=ab i ops[i] (by simp[u]);have:=ZmD ar i (JF ops[i]) (by rw[<-af];simp[u]) d (by rw[<-he];exact hd);omega
 have ai:∀i,i<List.length T->ds.getD i []=Tab.deps T i:=λi hi=>by have u:i<ops.size:=ω;rw[ab i ops[i] (by simp[u]),<-af];simp[ZIN,u]
 intro g Z w tmps hN m;refine F.T.back _ _ _ _ (.one stepR_region_draw) ?_;refine F.T.ext g w g { w with drawn:=w.drawn+1 } _ (ZyC g w) ?_;have a3:∀t,Region.schedule (P.follows .mixedOrders) ops t=Region.linearise .any ops t:=λt=>by simp[Region.schedule,au]
 rw[a3];have aq:∀j,(Array.replicate ops.size false).getD j false=false:=λj=>by simp only[ZJm,Array.getElem?_replicate];split<;>rfl
 have ak:=ZDT (ops:=ops) (T:=T) aw ab ao ops.size (w.tape w.drawn (.order F.b.fn id)) (Array.replicate ops.size false) ψ (Zyi _ _);have av:=h T (Zgq ds []) (λi=>(F.an.get (id+1000000*(i+4))).getD []) _ [] ah _ _ H L ?_ ac ψ rfl ?_ ak;refine av ops _ _ (ZvL λi hi=>a0 i (ZDU ak i hi)) ht g Z _ tmps hN (m.drawn _);intro lf ax i hi hd a ha;refine Zub lf ds (λi hi ag d hd=>?_) ds [] [] rfl rfl (λi hi=>by simp at hi) i ω (λd ay=>hd d (by rw[<-ai i hi];exact ay)) a ha;exact ax i ω ag d (by rw[<-ai i ω];exact hd);refine⟨λi hi ag=>?_,λr hr=>aq r,λi hi h1 h2=>?_,ψ,ψ,ψ,λt=>.inl rfl,ψ,λx=>.inl rfl,ψ⟩;rw[aq]at ag;simp at ag;exfalso;simp only[Zza,List.all_eq_true,List.mem_range,List.contains_eq_mem,decide_eq_true_eq]at ae;exact h1 (ae i ω)
def Zf9{F:Fr P}{kp dk o f os H L s B}(hg:Zj H o.guard=sO true){fx xs}(hk:o.k=.call fx xs){p q fd es ds}(hf:ZC H true fx=sO (q,.d fd))(ha:Z8 H true xs=sO (p,es))(hds:Ka es=sO ds)(hp:p)(hq:q){Ψ}(hc:WP P fd ds s Ψ)(hret:∀d s',Ψ (.ret d) s'->Wi f s s' L L B/\DOA F kp dk os (Zx H o.dst (.d d)) L s' (YY f B))(hpan:∀d s',Ψ (.panic d) s'->Y3 F [] [] d s'):DOA F kp dk ((o,f)::os) H L s B:=by
 refine Zb6 (λe s'=>∃d,e=.d d/\Ψ (.ret d) s') (by rw[hk];rfl) (λH' L' os' u ab=>?_) (λe s2 ⟨d,he,hd⟩=>by subst he;exact hret d s2 hd);have h1:ZA H H' (ZR fx):=λt ht=>u t (by simp[ZB,hk,Yh,ht]);have h2:ZA H H' (Zba xs):=λt ht=>u t (by simp[ZB,hk,Yh,ht]);have h3:ZA H H' (ZcC o.guard):=λt ht=>u t (by simp[ZB,ht]);exact ZbL (by rw[YW h3];exact hg) hk (by rw[ZQ h1];exact hf) (by rw[W7 h2];exact ha) hds hp hq hc (λd s' hd=>ab (.d d) s' ⟨d,rfl,hd⟩) (λd s' hd=>(hpan d s' hd).weak _ _)
def Zib{F:Fr P}{kp dk o f os H L s B}(hg:Zj H o.guard=sO true){fx xs}(hk:o.k=.call fx xs){p q fi first caps es ds}(hf:ZC H true fx=sO (q,.d (.fn (.func fi) first caps)))(ha:Z8 H true xs=sO (p,es))(hds:Ka es=sO ds)(hp:p)(hq:q){Ψ}(hc:Za P fi (first++ds++caps) s Ψ)(u:∀d s',Ψ (.ret d) s'->Wi f s s' L L B/\DOA F kp dk os (Zx H o.dst (.d d)) L s' (YY f B))(t:∀d s',Ψ (.panic d) s'->Y3 F [] [] d s'):DOA F kp dk ((o,f)::os) H L s B :=
 Zf9 hg hk hf ha hds hp hq hc.V u t
def ZqY{F:Fr P}{kp dk o f os H L s B}(hg:Zj H o.guard=sO true){x}(hk:o.k=.panic x){p t d}(ha:ZC H true x=sO (p,.d (.iface t d)))(hp:p)(h:Y3 F [] [] (.iface t d) s):DOA F kp dk ((o,f)::os) H L s B:=by
 refine Zb6 (λ_ _=>False) (by rw[hk];rfl) (λH' L' os' u hcont=>?_) (λe s2 h=>h.elim);have h1:ZA H H' (ZR x):=λt ht=>u t (by simp[ZB,hk,Yh,ht]);have h3:ZA H H' (ZcC o.guard):=λt ht=>u t (by simp[ZB,ht]);exact Zm9 (by rw[YW h3];exact hg) hk (by rw[ZQ h1];exact ha) hp (h.weak _ _)
def Ze7{F:Fr P}{kp dk o f os H L s B}(hg:Zj H o.guard=sO false)(hk:Y1 o.k=false){e}(h:DOA F kp dk os (Zx H o.dst (.when false e)) L s (YY f B)):DOA F kp dk ((o,f)::os) H L s B:=by
 refine Zb6 (λe' s'=>e'=.when false e/\s'=s) hk (λH' L' os' ab u=>?_) (λe s2 ⟨h1,h2⟩=>by subst h1;subst h2;exact⟨ZdG,h⟩);have h3:ZA H H' (ZcC o.guard):=λt ht=>ab t (by simp[ZB,ht]);exact Jw (by rw[YW h3];exact hg) (u _ _ ⟨rfl,rfl⟩)
def Zn6{F:Fr P}{kp dk o f os H L s B c}(hg:Zj H o.guard=sO c){fx xs}(hk:o.k=.call fx xs){p q fi first caps es ds}(hf:ZC H c fx=sO (q,.d (.fn (.func fi) first caps)))(ha:Z8 H c xs=sO (p,es))(hds:Ka es=sO ds){d}(hc:c=true->p/\q/\Zd P fi (first++ds++caps) d)(h:DOA F kp dk os (Zx H o.dst (.when c (.d d))) L s (YY f B)):DOA F kp dk ((o,f)::os) H L s B:=by
 refine Zb6 (λe' s'=>e'=.when c (.d d)/\s'=s) (by rw[hk];rfl) (λH' L' os' u ab=>?_) (λe s2 ⟨h1,h2⟩=>by subst h1;subst h2;exact⟨ZdG,h⟩);have h1:ZA H H' (ZR fx):=λt ht=>u t (by simp[ZB,hk,Yh,ht]);have h2:ZA H H' (Zba xs):=λt ht=>u t (by simp[ZB,hk,Yh,ht]);have h3:ZA H H' (ZcC o.guard):=λt ht=>u t (by simp[ZB,ht]);exact Zq3 (by rw[YW h3];exact hg) hk (by rw[ZQ h1];exact hf) (by rw[W7 h2];exact ha) hds hc (ab _ _ ⟨rfl,rfl⟩)
def Zf8{F:Fr P}{kp dk o f os H L s B}(hg:Zj H o.guard=sO true){fx xs}(hk:o.k=.call fx xs){p q fi first caps es ds}(hf:ZC H true fx=sO (q,.d (.fn (.func fi) first caps)))(ha:Z8 H true xs=sO (p,es))(u:Ka es=sO ds)(hp:p)(hq:q){d}(hc:Zd P fi (first++ds++caps) d)(h:DOA F kp dk os (Zx H o.dst (.d d)) L s (YY f B)):DOA F kp dk ((o,f)::os) H L s B :=
 Zib hg hk hf ha u hp hq (hc s) (λd' s' ⟨t,h2⟩=>by simp only[Res.ret.injEq]at t;subst t;subst h2;exact⟨ZdG,h⟩) (λd' s' ⟨t,_⟩=>by simp at t)
end
section
variable {P:Program}
def Zbp(P:Program)(w:World)(size m:Nat)(x:Value)(news:List Value):Prop :=
 (∀w2,(Builtin.lenOf x).run P w2=.ok m w2)/\∀w2:World,w2.heap=w.heap->(Builtin.firstCells size m x).run P w2=.ok news.toArray w2
def ZjI{w t u ty e tu i}(ht:P.underlying t=sO (.slice e))(hu:P.underlying u=sO tu)(hnu:∀k,tu≠.int k)(hi:P.info? e=sO i){base n cap x}(hx:Zbp P w i.size 0 x [])(hroom:n<=cap):(Builtin.append_ #[t,u] ty #[.slice base n cap,x]).run P w=.ok (.slice base n cap) w:=by
 obtain⟨h1,h2⟩:=hx;have h2:=h2 w rfl;have hz:(match tu with|.int _=>true|_=>false)=false:=by cases tu<;>first|rfl|exact absurd rfl (hnu _)
 cases base with
 |none=>simp[Builtin.append_,run_underlying ht,run_underlying hu,hz,sizeOf,typeInfo,hi,h1,h2,hroom]
 |some a=>simp[Builtin.append_,run_underlying ht,run_underlying hu,hz,sizeOf,typeInfo,hi,h1,h2,hroom,storeCells]
def Zth{w t u ty e tu i}(ht:P.underlying t=sO (.slice e))(hu:P.underlying u=sO tu)(hnu:∀k,tu≠.int k)(hi:P.info? e=sO i){g n cap m x news}(hx:Zbp P w i.size m x news){cur T}(hg:w.heap[g]?=sO (.cells cur T (0,0)))(h1:∀u∈news,u.oneCell'=true)(hroom:n+m<=cap)(hfit:n*i.size+I news<=cur.size):
  (Builtin.append_ #[t,u] ty #[.slice (sO ⟨g,0,nO⟩) n cap,x]).run P w =
   .ok (.slice (sO ⟨g,0,nO⟩) (n+m) cap) (w.setRow g (cur.toList.take (n*i.size)++news++cur.toList.drop (n*i.size+I news)).toArray):=by
 obtain⟨ad,ab⟩:=hx;have ab:=ab w rfl;have hz:(match tu with|.int _=>true|_=>false)=false:=by cases tu<;>first|rfl|exact absurd rfl (hnu _)
 have ac:=run_storeCells_at P g (n*i.size) T news 0 cur w hg (by simpa using hfit) h1;simp only[Nat.add_zero]at ac;simp[Builtin.append_,run_underlying ht,run_underlying hu,hz,sizeOf,typeInfo,hi,ad,ab,hroom,Addr.add_lit,ac]
def Znh{w t u ty e tu i z}(ht:P.underlying t=sO (.slice e))(hu:P.underlying u=sO tu)(hnu:∀k,tu≠.int k)(hi:P.info? e=sO i)(hz':i.zero=sO z){base n cap m x olds news}(hx:Zbp P w i.size m x news)(ho:∀w2:World,w2.heap=w.heap->(Builtin.firstCells i.size n (.slice base n cap)).run P w2=.ok olds.toArray w2)(hg:cap<n+m)(h63:((n+m:Nat):Int)<=9223372036854775807)(hfit:(n+m)*i.bytes<=140737488355328):
  (Builtin.append_ #[t,u] ty #[.slice base n cap,x]).run P w =
   .ok (.slice (sO ⟨w.heap.size,0,nO⟩) (n+m) (grownCap w (n+m) cap e))
    (w.drew.alloc (.cells (olds++news++(Builtin.zeroCells z.cells (grownCap w (n+m) cap e-(n+m))).toList).toArray e)):=by
 obtain⟨ae,ab⟩:=hx;have ab:=ab w.drew rfl;have ho:=ho w.drew rfl;have hz:(match tu with|.int _=>true|_=>false)=false:=by cases tu<;>first|rfl|exact absurd rfl (hnu _)
 have hn:¬(n+m<=cap):=ω;have ad:¬(9223372036854775807<((n:Int)+(m:Int))):=ω;have hf:=growslice_fits hg hfit;have ac:¬(281474976710656<Builtin.nextslicecap (n+m) cap*i.bytes):=ω;simp[Builtin.append_,run_underlying ht,run_underlying hu,hz,sizeOf,typeInfo,zeroValue,hi,hz',ae,hn,ad,ac,Question.forced,ab,ho,newRow,grownCap]
 congr 2
 apply Array.ext';simp[ZI1]
end
structure WK(g:G)(w:World)(sz n:Nat)(vals:List Value)(row:Nat->List D):Prop where
 len:I vals=n*sz
 rlen:∀i,i<n->(row i).length=sz
 rep:∀(i j:Nat) (v:Value) (d:D),i<n->j<sz->vals[i*sz+j]?=some v->(row i)[j]?=some d->Rep g w v d
 one:∀v∈vals,v.one1=true
def YV(n:Nat)(row row2:Nat->List D):Nat->List D:=λi=>if i<n then row i else row2 (i-n)
def WK.append{sz n m:Nat}{a b:List Value}{row row2:Nat->List D}(u:WK g w sz n a row)(hb:WK g w sz m b row2):WK g w sz (n+m) (a++b) (YV n row row2):={
 len:=by rw[ZII,u.len,hb.len,ZIX]
 rlen i hi:=by unfold YV;split;rename_i h;exact u.rlen i h;exact hb.rlen (i-n) ω
 rep i j v d hi hj hv hd:=by
  unfold YV at hd;split at hd;rename_i h;have:i*sz+j<I a:=by rw[u.len];have:=ZIT sz (show i+1<=n from h);rw[ZIX,Nat.one_mul]at this;omega
  rw[ZI6 this]at hv;exact u.rep i j v d h hj hv hd;rename_i h;have e:i*sz+j-I a=(i-n)*sz+j:=by rw[u.len,Nat.sub_mul];have:=ZIT sz (show n<=i by omega);omega
  have t:I a<=i*sz+j:=by rw[u.len];have:=ZIT sz (show n<=i by omega);omega
  rw[ZJi t,e]at hv;exact hb.rep (i-n) j v d ω hj hv hd
 one v hv:=by
  rcases List.mem_append.1 hv with h|h;exact u.one v h;exact hb.one v h }
def WK.mono{g t w w' sz n a row}(h:WK g w sz n a row)(e:Ext g w t w'):WK t w' sz n a row :=
 ⟨h.len,h.rlen,λi j v d hi hj hv u=>(h.rep i j v d hi hj hv u).mono e,h.one⟩
def JO{b o cs T fr}(h:w.heap[b]?=sO (.cells cs T fr)):w.cell? ⟨b,o,nO⟩=cs[o]?:=by
 unfold World.cell?;simp[h]
section
variable {P:Program}
def ZiZ{g w v t n sz row}(h:Rep g w v (.sl t n sz row))(hsz:0<sz):
  ∃vals,WK g w sz n vals row/\Zbp P w sz n v vals:=by
 cases h with
 |sl0 a t s row ht =>refine⟨[],⟨ψ,λi hi=>by omega,λi j v d hi=>by omega,ψ⟩,λw2=>by simp[Builtin.lenOf],λw2 _=>by cases a<;>simp[Builtin.firstCells,loadCells,loadCellsFrom]⟩
 |sl b o n cap s row t f hl hc hp hr one ht hcap hb =>
  let vals:=(ZIM (n*sz)).map λk=>f (k / sz) (k % sz);have hk:∀k,k<n*sz->k / sz<n/\k % sz<sz:=λk hk=>⟨(Nat.div_lt_iff_lt_mul hsz).2 hk,Nat.mod_lt _ hsz⟩;have u:∀k v,vals[k]?=sO v->k<n*sz/\v=f (k / sz) (k % sz):=λk v hv=>by simp only[vals,List.getElem?_map,ZIL]at hv;obtain⟨k',h1,h2⟩:=hv;obtain⟨h3,h4⟩:=List.getElem?_eq_some_iff.1 h1;simp only[List.getElem_range]at h4;subst h4;exact⟨by simpa using h3,h2.symm⟩
  refine⟨vals,⟨by simp[vals],hl,λi j v d hi hj hv hd=>?_,λv hv=>?_⟩,λw2=>by simp[Builtin.lenOf],λw2 ad=>?_⟩;obtain⟨_,rfl⟩:=u _ _ hv;have e1:(i*sz+j) / sz=i:=by rw[Nat.mul_comm,Nat.mul_add_div hsz,Nat.div_eq_of_lt hj,Nat.add_zero]
  have e2:(i*sz+j) % sz=j:=by rw[Nat.mul_comm,Nat.mul_add_mod,Nat.mod_eq_of_lt hj]
  rw[e1,e2];exact hr i j d hi hd;obtain⟨k,ac,rfl⟩:=ZIV hv;obtain⟨h1,h2⟩:=u k _ (ZI4 ac);rw[h2];exact one _ _ (hk k h1).1 (hk k h1).2;refine run_firstCells_some (P:=P) w2 sz n ⟨b,o,nO⟩ n cap vals (by simp[vals]) λk v hv=>?_;obtain⟨h1,h2⟩:=u k v hv;have ab:(⟨b,o,nO⟩:Addr).add k=⟨b,o+k,nO⟩:=Kf b o k;rw[ab];have h3:=hc (k / sz) (k % sz) (hk k h1).1 (hk k h1).2;have e:o+k / sz*sz+k % sz=o+k:=by rw[Nat.add_assoc,Nat.mul_comm,Nat.div_add_mod]
  rw[e]at h3;rw[h2,<-h3];unfold World.cell?;simp only[ad]
def ZpB{g w sz n cap b vals row}(h:WK g w sz n vals row){cur T}(hb:w.heap[b]?=sO (.cells cur T (0,0)))(ht:cur.toList.take (n*sz)=vals)(hn:n<=cap)(hcap:cap*sz<=cur.size)(hp:g.prot b=n*sz)(hbig:cap<=big):Rep g w (.slice (sO ⟨b,0,nO⟩) n cap) (.sl (.tip b) n sz row):=by
 have u:∀i j,i<n->j<sz->i*sz+j<n*sz:=λi j hi hj=>by have:=ZIT sz (show i+1<=n from hi);rw[ZIX,Nat.one_mul]at this;omega
 have hle:n*sz<=cur.size:=Nat.le_trans (ZIT sz hn) hcap;have t:∀i j,i<n->j<sz->cur[i*sz+j]?=sO (cur.getD (i*sz+j) undef)/\vals[i*sz+j]?=sO (cur.getD (i*sz+j) undef):=λi j hi hj=>by
  have h1:=u i j hi hj;have h2:i*sz+j<cur.size:=ω;have e:cur[i*sz+j]?=sO (cur.getD (i*sz+j) undef):=by simp[Array.getD,h2]
  refine⟨e,?_⟩;rw[<-ht,ZJf,if_pos h1,Array.getElem?_toList];exact e
 refine .sl b 0 n cap sz row (.tip b) (λi j=>cur.getD (i*sz+j) undef) h.rlen (λi j hi hj=>?_) (λi j hi hj=>?_) (λi j d hi hd=>?_) (λi j hi hj=>?_) ⟨rfl,rfl,T,cur.size,?_,hcap⟩ hn hbig;rw[JO hb,Nat.zero_add];exact(t i j hi hj).1;rw[hp,Nat.zero_add];exact u i j hi hj;have hj:j<sz:=by rw[<-h.rlen i hi];exact(List.getElem?_eq_some_iff.1 hd).1
 exact h.rep i j _ d hi hj (t i j hi hj).2 hd;exact h.one _ (List.mem_of_getElem? (t i j hi hj).2);simp[hdr,hb]
end
def St.own(s:St)(t:Tok)(k:Nat):St :=
 match t with
 |.tip b=>s.upd b (.tip k)
 |_=>s
def Tok.okIn(t:Tok)(s:St):Prop :=
 match t with
 |.tip b=>s b=Option.none
 |.full=>True
 |.none=>False
def Y2{s}{t:Tok}{k:Nat}(h:t.okIn s):s.sub (s.own t k):=by
 intro b o u;cases t with
 |tip c =>simp only[St.own,ZJc];by_cases hb:b=c;subst hb;simp only[Tok.okIn]at h;rw[h]at u;simp at u;simp only[hb,if_false];exact u
 |_=>exact u
def Yf.upd(h:Yf g s w){b:Nat}{o:QO}(ho:WJ g w b o)(u:¬g.kept b):Yf g (s.upd b o) w:={
 obj c x hx:=by simp only[ZJc]at hx;by_cases t:c=b;simp only[t,if_true,ZIx]at hx;subst hx;rw[t];exact ho;simp only[t,if_false]at hx;exact h.obj c x hx
 kept c x hx:=by simp only[ZJc]at hx;by_cases t:c=b;rw[t];exact u;simp only[t,if_false]at hx;exact h.kept c x hx
 fresh:=h.fresh
 tabs:=h.tabs }
def ZcN(g:G)(b k:Nat):G:={ g with prot:=λc=>if c=b then k else g.prot c }
def ZAx{c:Array Value}(T:TypeId){k:Nat}(t:∀b,w.heap.size<=b->g.prot b=0/\¬g.kept b):JW g w (ZcN g w.heap.size k) (w.drew.alloc (.cells c T)):={
 size:=by simp
 old b hb:=(by first|exact heap_alloc_old w.drew _ b hb|exact heap_alloc_old w.drew _ hb)
 prot b hb:=by simp[ZcN,show ¬b=w.heap.size by omega]
 fresh b hb:=by
  have:(w.drew.alloc (.cells c T)).heap.size=w.heap.size+1:=by simp
  rw[this]at hb;simp only[ZcN,show ¬b=w.heap.size by omega,if_false];exact(t b ω).1
 kept:=rfl
 os:=rfl
 output:=rfl
 tape:=rfl }
def Rep.slRow{g w v t n sz row row'}(h:Rep g w v (.sl t n sz row))(hr:∀i,i<n->row' i=row i):Rep g w v (.sl t n sz row'):=by
 cases h with
 |sl0 a t s row ht=>exact .sl0 a t sz row' ht
 |sl b o n cap s row t f hl hc hp hrep one ht hcap hb =>exact .sl b o n cap sz row' t f (λi u=>by rw[hr i u];exact hl i u) hc hp (λi j d u hd=>hrep i j d u (by rw[<-hr i u];exact hd)) one ht hcap hb
section
variable {P:Program}
def ZvG{sz k:Nat}{vals rest:List Value}{T:TypeId}{cap:Nat}(hs:Yf g s w)(hr:WK g w sz k vals row)(hn:k<=cap)(hrest:I vals+I rest=cap*sz)(hbig:cap<=big):
  let w':=w.drew.alloc (.cells (vals++rest).toArray T);let g':=ZcN g w.heap.size (k*sz)
  JW g w g' w'/\Yf g' (s.own (.tip w.heap.size) (k*sz)) w'/\(Tok.tip w.heap.size).okIn s/\Rep g' w' (.slice (sO ⟨w.heap.size,0,nO⟩) k cap) (.sl (.tip w.heap.size) k sz row):=by
 intro w' g';have hg:JW g w g' w':=ZAx T hs.fresh;have t:w'.heap[w.heap.size]?=sO (.cells (vals++rest).toArray T (0,0)):=heap_alloc_new w.drew _;have hp:g'.prot w.heap.size=k*sz:=by simp[g',ZcN]
 have u:k*sz<=(vals++rest).toArray.size:=by have:=ZIT sz hn;simp only[List.size_toArray,ZII];omega
 refine⟨hg,(hs.grow hg).upd ⟨hp,_,T,t,u⟩ (λh=>(hs.fresh _ (ZIO _)).2 h),?_,?_⟩
 .simp only[Tok.okIn];cases ab:s w.heap.size with
  |none=>rfl
  |some o=>have:=(hs.obj _ o ab).lt;omega
 refine ZpB (hr.mono (hg.ext hs.fresh)) t ?_ hn ?_ hp hbig;rw[<-hr.len];simp;simp only[List.size_toArray,ZII];omega
def Ztg{g w s t sz n m v1 v2 row row2 tT u ty e tu i z}(ht:P.underlying tT=sO (.slice e))(hu:P.underlying u=sO tu)(hnu:∀k,tu≠.int k)(hi:P.info? e=sO i)(hz:i.zero=sO z)(hsz:i.size=sz)(hzc:z.cells.size=sz)(h0:0<sz)(hs:Yf g (s.own t (n*sz)) w)(hok:t.okIn s)(h1:Rep g w v1 (.sl t n sz row)){news}(h2:WK g w sz m news row2)(h3:Zbp P w sz m v2 news)(hb:(n+m)*i.bytes<=140737488355328)(hbig:n+m<=big):
  ∃v' w' g' t',(Builtin.append_ #[tT,u] ty #[v1,v2]).run P w=.ok v' w'/\Ext g w g' w'/\Yf g' (s.own t' ((n+m)*sz)) w'/\t'.okIn s/\Rep g' w' v' (.sl t' (n+m) sz (YV n row row2)) /\
   (∀b,b<w.heap.size->t≠.tip b->w'.heap[b]?=w.heap[b]?/\g'.prot b=g.prot b)/\∀b,t'=.tip b->t=.tip b\/w.heap.size<=b:=by
 subst hsz;have ai:Yf g s w:=hs.sub (Y2 hok);obtain⟨ap,bf,ho1,ay⟩:=ZiZ (P:=P) h1 h0;have ao:=bf.append h2;have aj:∀ad cap,v1=.slice ad n cap->cap<n+m->∃v' w' g' t',(Builtin.append_ #[tT,u] ty #[v1,v2]).run P w=.ok v' w'/\Ext g w g' w'/\Yf g' (s.own t' ((n+m)*i.size)) w'/\t'.okIn s /\
   Rep g' w' v' (.sl t' (n+m) i.size (YV n row row2))/\(∀b,b<w.heap.size->t≠.tip b->w'.heap[b]?=w.heap[b]?/\g'.prot b=g.prot b)/\∀b,t'=.tip b->t=.tip b\/w.heap.size<=b:=by
  intro ad cap hv bc;subst hv;have ah:=Znh (ty:=ty) ht hu hnu hi hz h3 ay bc (by simp only[big]at hbig;omega) hb;have a8:=grownCap_ge w (n+m) cap e;have au:=grownCap_le_maxLen w (n+m) cap e (by simp only[big]at hbig;simp only[maxLen];omega);have hn:=ZvG (T:=e) (rest:=(Builtin.zeroCells z.cells (grownCap w (n+m) cap e-(n+m))).toList) ai ao a8 (by
   simp only[Array.length_toList,size_zeroCells,hzc,ao.len,<-ZIX];congr 1;omega) (by simp only[maxLen]at au;simp only[big];omega)
  obtain⟨a1,a2,a3,a4⟩:=hn;exact⟨_,_,_,_,ah,a1.ext ai.fresh,a2,a3,a4,λb hb _=>⟨a1.old b hb,a1.prot b hb⟩,λb hb=>.inr (by simp only[Tok.tip.injEq]at hb;omega)⟩
 have aq:∀ad cap,v1=.slice ad n cap->m=0->n<=cap->∃v' w' g' t',(Builtin.append_ #[tT,u] ty #[v1,v2]).run P w=.ok v' w'/\Ext g w g' w'/\Yf g' (s.own t' ((n+m)*i.size)) w'/\t'.okIn s /\
   Rep g' w' v' (.sl t' (n+m) i.size (YV n row row2))/\(∀b,b<w.heap.size->t≠.tip b->w'.heap[b]?=w.heap[b]?/\g'.prot b=g.prot b)/\∀b,t'=.tip b->t=.tip b\/w.heap.size<=b:=by
  intro ad cap hv hm au;subst hv;subst hm;have be:news=[]:=List.eq_nil_of_length_eq_zero (by simpa using h2.len);subst be;exact⟨_,_,g,t,ZjI (ty:=ty) ht hu hnu hi h3 au,Ext.refl g w,hs,hok,h1.slRow λi hi=>by simp only[YV,if_pos (show i<n from hi)],λ_ _ _=>⟨rfl,rfl⟩,λb hb=>.inl hb⟩
 cases h1 with
 |sl0 a t s row htt =>by_cases hm:m=0;exact aq a 0 rfl hm (ZIO _);exact aj a 0 rfl ω
 |sl b o n cap sz row t f hl hc hp hr one htok hcap hb' =>
  have a9:=aj (sO ⟨b,o,nO⟩) cap rfl;have bg:=aq (sO ⟨b,o,nO⟩) cap rfl;by_cases hm:m=0;exact bg hm hcap;by_cases ac:n+m<=cap;case neg=>exact a9 ω
  cases t with
  |none=>exact hok.elim
  |full=>simp only[ZlC]at htok;omega
  |tip tb =>
   obtain⟨rfl,rfl,T0,m0,hh,hm0⟩:=htok;have az:=hs.obj b (.tip (n*i.size)) (by simp[St.own,ZJc]);have af:=hs.kept b (.tip (n*i.size)) (by simp[St.own,ZJc]);obtain⟨a6,ab,T,ae,hb2⟩:=az;have ar:cap*i.size<=ab.size:=by simp only[hdr,ae,ZIx,ZIK]at hh;omega
   have ax:n*i.size+I news<=ab.size:=by rw[h2.len,<-ZIX];exact Nat.le_trans (ZIT _ ac) ar
   have ah:=Zth (ty:=ty) ht hu hnu hi h3 ae (λv hv=>by rw[Zdo];exact h2.one v hv) ac ax;have al:∀k v,(ab.toList.take (n*i.size))[k]?=sO v->w.cell? ((⟨b,0,nO⟩:Addr).add k)=sO v:=λk v hv=>by rw[Kf,JO ae,Nat.zero_add];rw[ZJf]at hv;split at hv;simpa using hv;simp at hv
   have a0:ap=ab.toList.take (n*i.size):=by have h:=run_firstCells_some (P:=P) w i.size n ⟨b,0,nO⟩ n cap (ab.toList.take (n*i.size)) (by simp;omega) al;rw[ay w rfl]at h;simpa using h
   generalize aw:ab.toList.take (n*i.size)++news++ab.toList.drop (n*i.size+I news)=nw at ah;have av:I nw=ab.size:=by rw[<-aw];simp only[ZII,ZIS,ZI8,Array.length_toList];omega
   have am:=setRow_heap w b ab nw.toArray T (0,0) ae;have ak:∀c,c≠b->(w.setRow b nw.toArray).heap[c]?=w.heap[c]?:=λc hc=>setRow_other w b c _ hc;have a7:(w.setRow b nw.toArray).heap.size=w.heap.size:=by simp[World.setRow]
   have ba:n*i.size<=(n+m)*i.size:=ZIT _ ω;have ag:Ext g w (ZcN g b ((n+m)*i.size)) (w.setRow b nw.toArray):=by
    refine⟨ω,λc=>?_,λc o ho=>?_,λc x hx=>?_,λc hc=>ak c (λh=>af (h▸hc)),λc hc=>?_,rfl,rfl,rfl,rfl⟩;simp only[ZcN];split;rename_i h;rw[h,a6];exact ba;exact ZIO _;by_cases hc:c=b;subst hc;rw[JO am,JO ae];rw[a6]at ho;have:o<(ab.toList.take (n*i.size)).length:=by simp;omega
    rw[List.getElem?_toArray,<-aw,ZI1,ZI6 this,ZJf,if_pos ho];simp;exact JA (ak c hc);by_cases hc:c=b;subst hc;simp only[hdr,ae]at hx;simp only[hdr,am,List.size_toArray,av];exact hx;rw[Zbs (ak c hc)];exact hx;simp only[ZcN];split;rename_i h;exact absurd hc (h▸af);rfl
   have a5:(ZcN g b ((n+m)*i.size)).prot b=(n+m)*i.size:=by simp[ZcN]
   refine⟨_,_,ZcN g b ((n+m)*i.size),.tip b,ah,ag,?_,hok,?_,λc _ hc=>?_,λc hc=>.inl hc⟩;refine⟨λc x hx=>?_,λc x hx=>?_,λc hc=>?_,λn cs hc=>(ai.tabs n cs hc).mono ag⟩;by_cases hc:c=b;subst hc;simp only[St.own,ZJc,if_true,ZIx]at hx;subst hx;refine⟨a5,_,T,am,?_⟩;simp only[List.size_toArray,av];exact Nat.le_trans (ZIT _ ac) ar;simp only[St.own,ZJc,hc,if_false]at hx;exact(ai.obj c x hx).mono ag (ak c hc) (by simp[ZcN,hc]);by_cases hc:c=b;rw[hc];exact af;simp only[St.own,ZJc,hc,if_false]at hx;exact ai.kept c x hx;rw[a7]at hc;have hbl:b<w.heap.size:=(Array.getElem?_eq_some_iff.1 ae).1;simp only[ZcN,show ¬c=b by omega,if_false];exact ai.fresh c hc;refine ZpB (ao.mono ag) am ?_ ac (by simp only[List.size_toArray,av];exact ar) a5 hb';have bb:(ap++news).length=(n+m)*i.size:=ao.len;rw[<-aw,a0,<-bb,a0];exact List.take_left;have:c≠b:=λh=>hc (by rw[h]);exact⟨ak c this,by simp[ZcN,this]⟩
end
end Go.DL
namespace Go.DL
open Go Go.Lib
variable [Zs5]
def ZaP(s:Nat):D->Option (Nat×(Nat->List D))
 |.nilsl=>sO (0,λ_=>[])
 |.sl _ m s' row=>if s'=s then sO (m,row) else nO
 |.str l=>if s=1 then sO (I l,λi=>[.int .u8 ((l.getD i 0).toNat:Int)]) else nO
 |_=>nO
def Zeh(s:Nat):D->Option (Tok×Nat×(Nat->List D))
 |.nilsl=>sO (.full,0,λ_=>[])
 |.sl t n s' row=>if s'=s then sO (t,n,row) else nO
 |_=>nO
def Zhu{g w v d sz n t row}(h:Rep g w v d)(u:Zeh sz d=sO (t,n,row)):Rep g w v (.sl t n sz row):=by
 cases d<;>simp only[Zeh,reduceCtorEq]at u;simp only[ZIx,ZIK]at u;obtain⟨rfl,rfl,rfl⟩:=u;cases h;exact .sl0 _ _ _ _ ψ;split at u<;>simp only[ZIx,ZIK,reduceCtorEq]at u;rename_i hs;obtain⟨rfl,rfl,rfl⟩:=u;subst hs;exact h
section
variable {P:Program}
def ZaK{op e s b z x y}(h:ck P op=sO (.append e s b z x y)) :
  ∃x' y' args ats t1 t2 tu,op=.call ⟨.builtin .append,args,ats⟩/\args.toList=[x',y']/\ats[0]?=sO t1/\ats[1]?=sO t2/\P.underlying t1=sO (.slice e)/\P.underlying t2=sO tu/\(∀k,tu≠.int k) /\
   ZS P e=sO s/\Zab P e=sO z/\b=P.bytesOf e/\ZW x'=sO x/\ZW y'=sO y/\0<s/\I z=s:=by
 unfold ck at h;split at h;simp at h;split at h<;>(try(simp at h;done));all_goals (try(repeat' (split at h<;>(try(simp at h;done)))))
 all_goals
  simp only[ZIx,K.append.injEq]at h;obtain⟨rfl,rfl,rfl,rfl,rfl,rfl⟩:=h
 rename_i c _ _ u _ _ _ e' x' y' h0 ab _ _ _ _ s' z' l' c' ad ag ae af t2 el h1 t;obtain⟨t1,g1,g2⟩:=Option.bind_eq_some_iff.1 h0;obtain⟨t3,g3,g4⟩:=Option.bind_eq_some_iff.1 h1;simp only[ZIJ,decide_eq_true_eq]at t;obtain⟨ac,args,ats⟩:=c;simp only at u;subst u;exact⟨x',y',args,ats,t1,t3,_,rfl,ab,g1,g3,g2,g4,λk h=>by simp at h,ad,ag,rfl,ae,af,t.1,t.2⟩;rename_i c _ _ u _ _ _ e' x' y' h0 ab _ _ _ _ s' z' l' c' ad ag ae af t2 h1 t;obtain⟨t1,g1,g2⟩:=Option.bind_eq_some_iff.1 h0;obtain⟨t3,g3,g4⟩:=Option.bind_eq_some_iff.1 h1;simp only[ZIJ,decide_eq_true_eq]at t;obtain⟨ac,args,ats⟩:=c;simp only at u;subst u;exact⟨x',y',args,ats,t1,t3,_,rfl,ab,g1,g3,g2,g4,λk h=>by simp at h,ad,ag,rfl,ae,af,t.1,t.2⟩
def Zns{g w v d sz m row}(h:Rep g w v d)(he:ZaP sz d=sO (m,row))(h0:0<sz):∃news,WK g w sz m news row/\Zbp P w sz m v news:=by
 cases d with
 |nilsl =>simp only[ZaP,ZIx,ZIK]at he;obtain⟨rfl,rfl⟩:=he;cases h;exact⟨[],⟨ψ,λi hi=>by omega,λi j v d hi=>by omega,ψ⟩,λw2=>by simp[Builtin.lenOf],λw2 _=>by simp[Builtin.firstCells]⟩
 |sl t n s' row' =>simp only[ZaP]at he;split at he<;>simp only[ZIx,ZIK,reduceCtorEq]at he;rename_i hs;obtain⟨rfl,rfl⟩:=he;subst hs;exact ZiZ h h0
 |str l =>
  simp only[ZaP]at he;split at he<;>simp only[ZIx,ZIK,reduceCtorEq]at he;rename_i hs;obtain⟨rfl,rfl⟩:=he;subst hs;cases h with
  |str s _ hl hb =>
   subst hl;have u:s.size=I s.data.toList:=by rw[Array.length_toList];rfl
   refine⟨strCells s,⟨by simp[strCells],λi hi=>rfl,λi j v d hi hj hv hd=>?_,λv hv=>by rw[<-Zdo];exact strCells_oneCell s v hv⟩,λw2=>by simp only[Builtin.lenOf,Sem.run_pure,u],λw2 _=>?_⟩;obtain rfl:j=0:=ω;simp only[Nat.mul_one,Nat.add_zero,strCells,List.getElem?_map,ZIL]at hv;obtain⟨b,ab,rfl⟩:=hv;simp only[List.getElem?_cons_zero,ZIx]at hd;subst hd;have:s.data.toList.getD i 0=b:=by simp only[ZIN,ab,ZJe]
   rw[this];exact .int .u8 _ (Zt1 b);rw[<-u];exact run_firstCells_string w2 1 s
 |_=>simp[ZaP]at he
def Zx0{F:Fr P}{kp dk o os H L s}(hg:Zj H o.guard=sO true){e sz b z x y}(hk:o.k=.append e sz b z x y)
  {p q t n m row row2 dy dx} (hx:ZC H true x=sO (p,.d dx)) (hsl:Zeh sz dx=sO (t,n,row)) (hy:ZC H true y=sO (q,.d dy)) (hp:p) (hq:q) (hel:ZaP sz dy=sO (m,row2)) (hok:t.okIn s)
  (hb:(n+m)*b<=140737488355328) (hbig:n+m<=big) (h:∀t':Tok,t'.okIn s->DO F kp dk os (Zx H o.dst (.d (.sl t' (n+m) sz (YV n row row2)))) L (s.own t' ((n+m)*sz))) :
  DO F kp dk (o::os) H L (s.own t (n*sz)):=by
 refine Y7 λoo g Z w tmps bi i r k az ab ar ai hd hN M hr au=>?_;have hw:=Z7 M ar hg;have ax:=Yb ab (by rw[hk];rfl);rw[hk]at ab;obtain⟨x',y',ag,ak,t1,t2,tu,a0,u,al,am,bb,bc,ay,ba,hz,ap,be,bf,h0,hzl⟩:=ZaK ab;subst ap;have a8:Rep g w _ (.sl t n sz row):=Zhu (ZY M be rfl hx hp F.ds) hsl;have a9:Rep g w _ _:=ZY M bf rfl hy hq F.ds;obtain⟨zv,hz1,bg,hz3,ie,ac,bh⟩:=Qh (g:=g) (w:=w) hz;have ae:ie.size=sz:=by simpa[ZS,ac]using ba
 have af:zv.cells.size=sz:=by have:=bg.len;simp at this;omega
 have aq:P.bytesOf e=ie.bytes:=by simp[Program.bytesOf,ac]
 rw[aq]at hb;obtain⟨news,av,aw⟩:=Zns (P:=P) a9 hel h0;obtain⟨v',w',g',t',a1,a2,a3,a4,a5,a6,a7⟩:=Ztg (ty:=oo.type) bb bc ay ac bh ae af h0 M.st hok a8 av aw hb hbig;have ad:∀l cs,Zh L l=sO cs->t≠.tip (Z l):=λl cs hl ht=>by have:=M.locSt l cs hl;rw[ht]at this;simp[St.own,ZJc]at this
 have aj:∀l cs,Zh L l=sO cs->s (Z l)=nO:=λl cs hl=>by
  cases hx:s (Z l) with
  |none=>rfl
  |some o=>have:=Y2 (k:=n*sz) hok _ _ hx;rw[M.locSt l cs hl]at this;simp at this
 have mm:Zu g' Z w' tmps H L (s.own t' ((n+m)*sz)):=by
  refine⟨a3,λl cs hl=>(M.loc l cs hl).mono a2 (a6 (Z l) (M.loc l cs hl).lt (ad l cs hl)).1 (a6 (Z l) (M.loc l cs hl).lt (ad l cs hl)).2,λl cs hl=>by rw[a2.keptEq];exact M.locKept l cs hl,λl cs hl=>?_,M.inj,λt e he=>(M.env t e he).mono a2⟩;cases t' with
  |tip b =>
   have:¬Z l=b:=λhb=>by rcases a7 b rfl with h1|h1;exact ad l cs hl (by rw[hb];exact h1);have:=(M.loc l cs hl).lt;omega
   simp only[St.own,ZJc,this,if_false];exact aj l cs hl
  |_=>exact aj l cs hl
 refine Yk hN az ai hd hw ax (v:=v') (w':=w') (e:=.d (.sl t' (n+m) sz (YV n row row2))) ?_ a2 mm a5 (h t' a4 bi r k hr au);have ao:ag = #[x',y']:=by apply Array.ext';simpa using u
 have ah:∀vs,Builtin.append_ ak oo.type vs=Builtin.append_ #[t1,t2] oo.type vs:=λvs=>by unfold Builtin.append_;simp[al,am]
 unfold execOp;simp only[a0,ao,resolve,invoke,builtin,Sem.run_bind,Sem.run_pure,Result.andThen_ok,List.map_toArray,ZIQ,ZI9,ah,a1]
end
end Go.DL
namespace Go.DL
open Go
variable [Zs5]
variable {kp:Option (List Nat)}{L:Loc}{H:Env}{s:St}{w:World}{os:List DOp}{ds:List D}{B:List (Nat × Rd)}{dst:Option Nat}{tmps:Array Value}{g:G}{Φ:Res->St->Prop}{Z:Nat->Nat}{xs:List Opd}{side:Prop}{row:Nat->List D}
def ZxP(os:List DOp):List (DOp×List Nat):=os.map λo=>(o,[])
section
variable {P:Program}
def Qt(F:Fr P)(kp:Option (List Nat))(dk:List WY)(os:List DOp)(H:Env)(L:Loc)(s:St):Prop:=∀B,DOA F kp dk (ZxP os) H L s B
def ZwA{F:Fr P}{t os ks dk H L s}(h:Qt F ks dk os H L s):Zt F (.code (.regD t (ZxP os) ks)::dk) H L s:=ZjB (h [])
def YE{F:Fr P}{ks dk}:∀{os H L s},
  Zj2 (λH L s=>Zt F dk (Yn H ks) (Za7 (Yn H ks) L) s) (λos H L s=>Qt F (sO ks) dk os H L s) os H L s->Qt F (sO ks) dk os H L s
 | [],H,L,s,h=>λB=>ZpT h
 |o::os,H,L,s,h=>by intro B;simp only[Zj2]at h;split at h;rename_i sd H' L' s' t;refine Jj t h.1 ?_;split;exact YE h.2 _;exact⟨J4,YE h.2 _⟩;rename_i sd pre H' s' t;exact ZpS t h.1 λb u=>⟨J4,YE (h.2 b u) _⟩;exact h B
def Zia{F:Fr P}{kp dk o os H L s}(hg:Zj H o.guard=sO true){fx xs}(hk:o.k=.call fx xs){p q fd es ds}(hf:ZC H true fx=sO (q,.d fd))(ha:Z8 H true xs=sO (p,es))(hds:Ka es=sO ds)(hp:p)(hq:q){Ψ}(hc:WP P fd ds s Ψ)(u:∀d s',Ψ (.ret d) s'->Qt F kp dk os (Zx H o.dst (.d d)) L s')(t:∀d s',Ψ (.panic d) s'->Y3 F [] [] d s'):Qt F kp dk (o::os) H L s :=
 λB=>Zf9 hg hk hf ha hds hp hq hc (λd s' h=>⟨J4,u d s' h _⟩) t
def ZxW{F:Fr P}{kp dk o os H L s}(hg:Zj H o.guard=sO true){fx xs}(hk:o.k=.call fx xs){p q fi first caps es ds}(hf:ZC H true fx=sO (q,.d (.fn (.func fi) first caps)))(ha:Z8 H true xs=sO (p,es))(hds:Ka es=sO ds)(hp:p)(hq:q){Ψ}(hc:Za P fi (first++ds++caps) s Ψ)(u:∀d s',Ψ (.ret d) s'->Qt F kp dk os (Zx H o.dst (.d d)) L s')(t:∀d s',Ψ (.panic d) s'->Y3 F [] [] d s'):Qt F kp dk (o::os) H L s :=
 Zia hg hk hf ha hds hp hq hc.V u t
def Zww{F:Fr P}{kp dk o os H L s}(hg:Zj H o.guard=sO true){x}(hk:o.k=.panic x){p t d}(u:ZC H true x=sO (p,.d (.iface t d)))(hp:p)(h:Y3 F [] [] (.iface t d) s):Qt F kp dk (o::os) H L s:=λ_=>ZqY hg hk u hp h
def Zwx{F:Fr P}{kp dk o os H L s}(hg:Zj H o.guard=sO true){fx xs}(hk:o.k=.call fx xs){p q u first caps es ds}(hf:ZC H true fx=sO (q,.d (.fn (.func u) first caps)))(ha:Z8 H true xs=sO (p,es))(t:Ka es=sO ds)(hp:p)(hq:q){d}(hc:Zd P u (first++ds++caps) d)(h:Qt F kp dk os (Zx H o.dst (.d d)) L s):Qt F kp dk (o::os) H L s:=λ_=>Zf8 hg hk hf ha t hp hq hc (h _)
end
def Q8(l b:Nat):E->E
 |.d v=>.d v
 |.loc l' off=>if l'=l then .d (.ptr b off) else .loc l' off
 |.when c e=>.when c (Q8 l b e)
def JQ(l b:Nat):Env->Env
 | []=>[]
 | (t,e)::r=>(t,Q8 l b e)::JQ l b r
def delL(l:Nat):Loc->Loc
 | []=>[]
 | (k,c)::r=>if k=l then delL l r else (k,c)::delL l r
def ZdE(l b):∀(H t),ZM (JQ l b H) t=(ZM H t).map (Q8 l b)
 | [],t=>rfl
 | (k,e)::r,t=>by simp only[JQ,ZM];by_cases h:k=t;simp[h];simp only[h,if_false];exact ZdE l b r t
def Zdh(l):∀(L x),Zh (delL l L) x=if x=l then nO else Zh L x
 | [],x=>by simp[delL,Zh]
 | (k,c)::r,x=>by simp only[delL];by_cases h:k=l;simp only[h,if_true,Zh,Zdh l r x];by_cases t:x=l;simp[t];simp[t,show ¬l=x from λh=>t h.symm];simp only[h,if_false,Zh,Zdh l r x];by_cases t:x=l;subst t;simp[h];simp[t]
section
variable {P:Program}
def ZL.expose{g Z w L l v e}(h:ZL g Z w L v e):ZL g Z w (delL l L) v (Q8 l (Z l) e):=by
 induction e with
 |d x=>exact h
 |loc l' off =>obtain⟨⟨cs,t⟩,rfl⟩:=h;simp only[Q8];split;rename_i u;subst u;exact Rep.ptr _ _;rename_i u;exact⟨⟨cs,by rw[Zdh,if_neg u];exact t⟩,rfl⟩
 |when c e ih=>exact⟨λhc=>ih (h.1 hc),h.2⟩
def Zu.expose{g Z w tmps H L s}(m:Zu g Z w tmps H L s){l cs}(hl:Zh L l=sO cs):
  s (Z l)=nO/\Zu g Z w tmps (JQ l (Z l) H) (delL l L) (s.upd (Z l) (.cells cs)):=by
 have ab:∀l' u,Zh (delL l L) l'=sO u->l'≠l/\Zh L l'=sO u:=λl' u h=>by rw[Zdh]at h;split at h;simp at h;exact⟨‹_›,h⟩
 refine⟨m.locSt l cs hl,⟨m.st.updL (o:=.cells cs) (m.loc l cs hl) (m.locKept l cs hl),λl' u h=>m.loc l' u (ab l' u h).2,λl' u h=>m.locKept l' u (ab l' u h).2,λl' u h=>?_,λa b ca cb ha hb ac=>m.inj a b ca cb (ab a ca ha).2 (ab b cb hb).2 ac,λt e he=>?_⟩⟩;obtain⟨h1,h2⟩:=ab l' u h;have:Z l'≠Z l:=λhh=>h1 (m.inj l' l u cs h2 hl hh);simp only[ZJc,this,if_false];exact m.locSt l' u h2;rw[ZdE]at he;simp only[ZIL]at he;obtain⟨e0,h1,rfl⟩:=he;exact(m.env t e0 h1).expose
def Zdz{F:Fr P}{dk}{H}{L}{s}(l){cs}(hl:Zh L l=sO cs)(h:∀b,s b=nO->Zt F dk (JQ l b H) (delL l L) (s.upd b (.cells cs))):Zt F dk H L s:=by
 intro k hk g Z w tmps hN m;obtain⟨t,u⟩:=m.expose hl;exact h (Z l) t k hk g Z w tmps hN u
def WN:List Nat->List D->Env->Env
 |t::ts,a::as9,H=>WN ts as9 ((t,.d a)::H)
 |_,_,H=>H
def ZkN(P:Program)(c:Frame)(cs:List Frame)(Φ:Res->St->Prop):ZwD P where
 T g w m:=∃e w',Zhq g w Φ e w'/\ZC4 P m c cs e w'
 back g w m m' hs h:=by
  obtain⟨e,w',a,b⟩:=h;refine⟨e,w',a,?_⟩;cases e with
  |returned v=>exact Steps.trans hs b
  |panicked ch=>exact Steps.trans hs b
  |outgrown=>exact b.elim
 ext g w g' w' m hx h:=by obtain⟨e,w2,⟨g2,s2,r,d1,d2,d3,d4⟩,b⟩:=h;exact⟨e,w2,⟨g2,s2,r,hx.trans d1,d2,d3,d4⟩,b⟩
def Zbb(P:Program)(an:Ann)(fn:FuncId)(N l:Nat)(c:Frame)(cs:List Frame)(Φ:Res->St->Prop):Fr P where
 T:=ZkN P c cs Φ
 b:={ (dE:Frame) with fn,kind:=.normal,roundOf:=sO l }
 cs:=c::cs
 N:=N
 ds:=[]
 an:=an
def K9(F:Fr P)(l:Nat)(Φ:Res->St->Prop):Prop:=∃an fn N c cs,F=Zbb P an fn N l c cs Φ
def Je{w r o}(t:w.heap[r]?=sO (.loop o)):(getObj r).run P w=.ok (.loop o) w:=by
 simp[getObj,Sem.run,t]
def ZcU{w r o o'}(hb:w.heap[r]?=sO (.loop o')):(setObj r o).run P w=.ok () { w with heap:=w.heap.setIfInBounds r o }:=by
 simp[setObj,Sem.run,hb]
def ZDV{b o'}{o}(hb:w.heap[b]?=sO o'):({ w with heap:=w.heap.setIfInBounds b o }:World).heap[b]?=sO o:=by
 have:=(Array.getElem?_eq_some_iff.1 hb).1;simp[Array.getElem?_setIfInBounds,this]
def Zu.loopTo{g Z w tmps H L s}(m:Zu g Z w tmps H L s){l r st st'}(hs:s l=sO (.loop r st)){lp}(hh:w.heap[l]?=sO (.loop lp))(lp')(h1:lp'.fn=lp.fn/\lp'.params=lp.params/\lp'.assign=lp.assign/\lp'.body=lp.body/\lp'.defers=lp.defers/\lp'.tmps=lp.tmps)(h2:match st' with|.ready=>lp'.state=.ready/\lp'.pending=nO|.busy=>lp'.state=.busy|.done j=>lp'.state=.done/\lp'.pending=sO j):
  Ext g w g { w with heap:=w.heap.setIfInBounds l (.loop lp') }/\Zu g Z { w with heap:=w.heap.setIfInBounds l (.loop lp') } tmps H L (s.upd l (.loop r st')):=by
 obtain⟨hp,l0,a1,a2,a3,a4,a5,a6,a7,a8,a9⟩:=m.st.obj l _ hs;rw[hh]at a1;simp only[ZIx,Obj.loop.injEq]at a1;subst a1;obtain⟨b1,b2,b3,b4,b5,b6⟩:=h1;have he:=Zcz (g:=g) (w:=w) l (.loop lp') (by simp[hdr,hh]) hp (m.st.kept l _ hs);refine⟨he,m.named hs he ψ (λc hc=>JK hc) ⟨hp,lp',ZDV hh,by rw[b1,a2],by rw[b2,a3],by rw[b3,a4],by rw[b4,a5],by rw[b5,a6],by rw[b6];exact a7,λt e ht=>by rw[b6];exact(a8 t e ht).mono he,h2⟩⟩
def K9.begin{F:Fr P}{l Φ}(hF:K9 F l Φ){dk H L s r}(hs:s l=sO (.loop r .ready))(h:Zt F dk H L (s.upd l (.loop r .busy))):Zt F (.beginR::dk) H L s:=by
 obtain⟨an,fn,N,c,u,rfl⟩:=hF;intro k hk;cases hk with
 |beginR ht =>
  intro g Z w tmps hN m;obtain⟨hp,l0,a1,a2,a3,a4,a5,a6,a7,a8,a9,a10⟩:=m.st.obj l _ hs;obtain⟨he,m'⟩:=m.loopTo (st':=.busy) hs a1 { l0 with state:=.busy } ⟨rfl,rfl,rfl,rfl,rfl,rfl⟩ rfl;have t:(Instr.beginRound l).run P w=.ok () { w with heap:=w.heap.setIfInBounds l (.loop { l0 with state:=.busy }) }:=by simp[Instr.beginRound,Instr.getLoop,Je a1,ZcU a1,a9]
  refine(ZkN P c u Φ).back _ _ _ _ (.one (stepR_beginRound rfl t)) ?_;exact(ZkN P c u Φ).ext _ _ _ _ _ he (h _ ht g Z _ tmps hN m')
def Zfu{w l l0}(h:w.heap[l]?=sO (.loop l0))(j):
  (Instr.endRound l j).run P w=.ok (.bool j.isNone) { w with heap:=w.heap.setIfInBounds l (.loop { l0 with state:=if j.isNone then .ready else .done,pending:=j }) }:=by
 simp[Instr.endRound,Instr.getLoop,Je h,ZcU h]
def K9.fin{F:Fr P}{l Φ}(hF:K9 F l Φ){H L s s' r}(u:s l=sO (.loop r .busy))(t:s'.sub (s.upd l (.loop r .ready)))(hΦ:Φ (.ret (.bool true)) s'):Zt F [] H L s:=by
 obtain⟨an,fn,N,c,cs,rfl⟩:=hF;intro k hk;cases hk;intro g Z w tmps hN m;obtain⟨hp,l0,a1,_⟩:=m.st.obj l _ u;obtain⟨he,m'⟩:=m.loopTo (st':=.ready) u a1 { l0 with state:=.ready,pending:=nO } ⟨rfl,rfl,rfl,rfl,rfl,rfl⟩ ⟨rfl,rfl⟩;exact⟨.returned (.bool true),_,⟨g,s',.ret (.bool true),he,m'.st.sub t,.bool true,hΦ⟩,.one (stepR_round_end rfl rfl (Zfu a1 nO))⟩
def K9.ret{F:Fr P}{l Φ}(hF:K9 F l Φ){dk H L s s' r}(u:s l=sO (.loop r .busy))(t:s'.sub (s.upd l (.loop r (.done .ret))))(hΦ:Φ (.ret (.bool false)) s'):
  Zt F (.code .ret::dk) H L s:=by
 obtain⟨an,fn,N,c,cs,rfl⟩:=hF;intro k hk;cases hk with
 |code hc ht =>obtain rfl:=Ztp hc;intro g Z w tmps hN m;obtain⟨hp,l0,a1,_⟩:=m.st.obj l _ u;obtain⟨he,m'⟩:=m.loopTo (st':=.done .ret) u a1 { l0 with state:=.done,pending:=sO .ret } ⟨rfl,rfl,rfl,rfl,rfl,rfl⟩ ⟨rfl,rfl⟩;exact⟨.returned (.bool false),_,⟨g,s',.ret (.bool false),he,m'.st.sub t,.bool false,hΦ⟩,.one (stepR_round_ret rfl rfl (Zfu a1 (sO .ret)))⟩
def K9.exit{F:Fr P}{l id Φ}(hF:K9 F l Φ){dk H L s s' r}(hx:QZ id dk=nO)(u:s l=sO (.loop r .busy))(t:s'.sub (s.upd l (.loop r (.done (.exit id)))))(hΦ:Φ (.ret (.bool false)) s'):Zt F (.code (.exit id)::dk) H L s:=by
 obtain⟨an,fn,N,c,cs,rfl⟩:=hF;intro k hk;cases hk with
 |code hc ht =>obtain rfl:=ZvH hc;intro g Z w tmps hN m;obtain⟨hp,l0,a1,_⟩:=m.st.obj l _ u;obtain⟨he,m'⟩:=m.loopTo (st':=.done (.exit id)) u a1 { l0 with state:=.done,pending:=sO (.exit id) } ⟨rfl,rfl,rfl,rfl,rfl,rfl⟩ ⟨rfl,rfl⟩;exact⟨.returned (.bool false),_,⟨g,s',.ret (.bool false),he,m'.st.sub t,.bool false,hΦ⟩,.one (stepR_round_exit rfl rfl (Za5 ht hx) (Zfu a1 (sO (.exit id))))⟩
def K9.pan{F l Φ}(hF:K9 F l Φ){H L d s s'}(hsub:s'.sub s)(hΦ:Φ (.panic d) s')(hfn:∀an u N c cs,F=Zbb P an u N l c cs Φ->∃f,P.funcs[u]?=sO f):Y3 F H L d s:=by
 obtain⟨an,u,N,c,cs,rfl⟩:=hF;intro g Z w v t tmps hN m hr;obtain⟨f,hf⟩:=hfn an u N c cs rfl;refine⟨.panicked [{ v,recovered:=false }],w,⟨g,s',.panic d,Ext.refl g w,m.st.sub hsub,⟨v,rfl,hr⟩,hΦ⟩,.one ?_⟩;exact step_leave_panicked (P:=P) (fr:={ (Zbb P an u N l c cs Φ).b.atR ⟨tmps,[]⟩ t with mode:=.panicking [{ v,recovered:=false }] }) ⟨rfl,rfl,f,hf⟩
def ZiU{g Z w L s N}:∀{ps ds vs tmps H},Zu g Z w tmps H L s->ZI (Rep g w) vs ds->I ds=I ps->(∀t∈ps,t<N)->N<=tmps.size ->
  N<=((ps.zip vs).foldl (λtmps (x:Nat×Value)=>tmps.setIfInBounds x.1 x.2) tmps).size/\Zu g Z w ((ps.zip vs).foldl (λtmps (x:Nat×Value)=>tmps.setIfInBounds x.1 x.2) tmps) (WN ps ds H) L s
 | [],_,_,tmps,H,m,_,_,_,hN=>by simpa[WN]using⟨hN,m⟩
 |t::ps,[],_,tmps,H,m,_,hl,_,_=>by simp at hl
 |t::ps,d::ds,v::vs,tmps,H,m,.cons h1 h2,hl,hp,hN=>by have m':=m.put (t:=t) (v:=v) (e:=.d d) (by have:=hp t ψ;omega) h1;simpa[WN]using ZiU m' h2 (by simpa using hl) (λu hu=>hp u (by simp[hu])) (by simpa using hN)
def Jd:Env->Env
 | []=>[]
 | (t,e)::r=>if (Ks e).isEmpty then (t,e)::Jd r else Jd r
def Ki(ks:List Nat)(H:Env):Env:=Jd (Yn H ks)
def ZeG:∀{H t e},(H.map (·.1)).Nodup->ZM (Jd H) t=sO e->ZM H t=sO e/\Ks e=[]
 | [],t,e,_,h=>by simp[Jd,ZM]at h
 | (k,x)::r,t,e,hn,h=>by
  simp only[ZIQ,List.nodup_cons]at hn;simp only[Jd]at h;split at h;rename_i hx;simp only[ZM]at h⊢;by_cases hk:k=t;simp only[hk,if_true,ZIx]at h⊢;subst h;exact⟨rfl,by simpa using hx⟩;simp only[hk,if_false]at h⊢;exact ZeG hn.2 h;obtain⟨h1,h2⟩:=ZeG hn.2 h;refine⟨?_,h2⟩;have u:k≠t:=λhk=>by subst hk;have:=Zg8 h1;exact hn.1 (List.mem_map.2 ⟨_,this,rfl⟩)
  simp only[ZM,u,if_false];exact h1
def Zph{g Z Z' w L L' v e}(h:ZL g Z w L v e)(t:Ks e=[]):ZL g Z' w L' v e:=by
 induction e with
 |d x=>exact h
 |loc l o=>simp[Ks]at t
 |when c e ih=>exact⟨λu=>ih (h.1 u) t,h.2⟩
def Fr.mark(F:Fr P)(q:Nat):Fr P:={ F with ds:=DD.def (.mark q)::F.ds }
def ZhX{b:Frame}{a k cs w g ps assign body l mark w₁ d nx fr}(he:(Instr.enterLoop b.fn a.tmps ps assign body b.roundOf).run P w=.ok (l,mark) w₁)(hres:(Deferred.ofValue (a.eval g) #[.func (.yield l) #[] #[]]).run P w₁=.ok d w₁)(hinv:(invoke d.target d.args).run P w₁=.ok nx w₁)(hnx:Zgu P nx=sO fr):
  step P (lone (b.atR a (.code (.rangeFunc g ps assign body)::k)) cs w) =
   .next (lone fr (b.atR { a with defers:=mark++a.defers } (.inRangeFunc l::k)::cs) w₁) :=
 step_lone_go (by
  have u:=Frame.eval_atR b { a with defers:=mark++a.defers } (.inRangeFunc l::k);simp only[Frame.atR]at u;have t:Sem.run P (resolve ({ tmps:=a.tmps,defers:=mark++a.defers }:Act).eval { callee:=.value g,args:=#[.const (.func (.yield l) #[] #[])],argTypes:=#[] } 0) w₁=.ok d w₁:=by
   simp only[resolve];have e1:({ tmps:=a.tmps,defers:=mark++a.defers }:Act).eval g=a.eval g:=by cases g<;>rfl
   have e2:Array.map ({ tmps:=a.tmps,defers:=mark++a.defers }:Act).eval #[Operand.const (Value.func (Fn.yield l) #[] #[])] = #[.func (.yield l) #[] #[]]:=by simp[Act.eval]
   rw[e1,e2];exact hres
  cases nx<;>simp only[Zgu,ZIx,reduceCtorEq]at hnx<;>subst hnx <;>
   simp[stepG,stepG.exec,Frame.atR,Sem.runT_eq,he,GStep.bare_after,stepG.apply,u,Sem.run_bind,t,hinv,Result.andThen])
def ZjF(F:Fr P)(l:Nat)(r:Zb8)(dk:List WY)(H:Env)(L:Loc)(s':St):Prop :=
 (s' l=sO (.loop r .ready)/\Zt F dk H L (s'.del l))\/∃j dj,s' l=sO (.loop r (.done j))/\cc P F.an F.N j=sO dj/\Zt F (.code dj::dk) H L (s'.del l)
def ZmF{w l l0}(h:w.heap[l]?=sO (.loop l0))(hb:l0.state≠.busy):
  (Instr.endLoop l).run P w=.ok l0.pending { w with heap:=w.heap.setIfInBounds l (.loop { l0 with state:=.exhausted }) }:=by
 have:(l0.state==.busy)=false:=by cases hs:l0.state<;>first|rfl|exact absurd hs hb
 simp[Instr.endLoop,Instr.getLoop,Je h,ZcU h,hb]
def Zpf{F:Fr P}{l r dk k H L g Z w tmps s'}(hk:Wy P F.an F.N k dk)(hN:F.N<=tmps.size)(m:Zu g Z w tmps H L s')(h:ZjF F l r dk H L s'):F.T.T g w (lone (F.b.atR ⟨tmps,F.ds⟩ (.endRangeFunc l::k)) F.cs w):=by
 rcases h with ⟨hs,h⟩|⟨j,dj,hs,hj,h⟩;obtain⟨hp,l0,a1,a2,a3,a4,a5,a6,a7,a8,a9,u⟩:=m.st.obj l _ hs;have he:=Zcz (g:=g) (w:=w) l (.loop { l0 with state:=.exhausted }) (by simp[hdr,a1]) hp (m.st.kept l _ hs);have m':=m.drop hs he ψ (λc hc=>JK hc);have t:(Instr.endLoop l).run P w=.ok nO { w with heap:=w.heap.setIfInBounds l (.loop { l0 with state:=.exhausted }) }:=by rw[ZmF a1 (by rw[a9];simp)];simp[u]
 refine F.T.back _ _ _ _ (.one (stepR_endRangeFunc t)) ?_;exact F.T.ext _ _ _ _ _ he (h k hk g Z _ tmps hN m');obtain⟨hp,l0,a1,a2,a3,a4,a5,a6,a7,a8,a9,u⟩:=m.st.obj l _ hs;have he:=Zcz (g:=g) (w:=w) l (.loop { l0 with state:=.exhausted }) (by simp[hdr,a1]) hp (m.st.kept l _ hs);have m':=m.drop hs he ψ (λc hc=>JK hc);have t:(Instr.endLoop l).run P w=.ok (sO j) { w with heap:=w.heap.setIfInBounds l (.loop { l0 with state:=.exhausted }) }:=by rw[ZmF a1 (by rw[a9];simp)];simp[u]
 refine F.T.back _ _ _ _ (.one (stepR_endRangeFunc t)) ?_;exact F.T.ext _ _ _ _ _ he (h _ (.code hj hk) g Z _ tmps hN m')
def YL.mark{F:Fr P}{rs Φ dds}(hF:YL F rs Φ dds)(q):YL (F.mark q) rs Φ (.mark q::dds):=by
 obtain⟨an,f,df,u,hf,t,rfl⟩:=hF;exact⟨an,f,df,u,hf,t,rfl⟩
def YL.roundOf{F:Fr P}{rs Φ dds}(t:YL F rs Φ dds):F.b.roundOf=nO:=by
 obtain⟨an,f,df,cs,hf,hrs,rfl⟩:=t;rfl
end
section
variable {P:Program}
def Zye{op f xs}(h:ck P op=sO (.defer f xs)):∃f' args ats,op=.defer ⟨.value f',args,ats⟩/\ZW f'=sO f/\Zct args.toList=sO xs:=by
 unfold ck at h;split at h;simp at h;split at h<;>(try(simp at h;done));all_goals (try(repeat' (split at h<;>(try(simp at h;done)))))
 simp at h;obtain⟨rfl,rfl⟩:=h;rename_i c _ _ f' t _ _ f xs hf u;obtain⟨callee,args,ats⟩:=c;simp only at t;exact⟨f',args,ats,by rw[t],hf,u⟩
def Fr.defer(F:Fr P)(i:FuncId)(args caps:List D):Fr P:={ F with ds:=DD.def (.fn i args caps)::F.ds }
def YL.defer{F:Fr P}{rs Φ dds}(hF:YL F rs Φ dds)(i args caps):YL (F.defer i args caps) rs Φ (.fn i args caps::dds):=by
 obtain⟨an,f,df,u,hf,t,rfl⟩:=hF;exact⟨an,f,df,u,hf,t,rfl⟩
def Zm8{F:Fr P}(hround:F.b.roundOf=nO){kp dk o os H L s}(hg:o.guard=nO)(hdn:o.dst=nO){fx xs}(hk:o.k=.defer fx xs){p q i first caps es ds}(hf:ZC H true fx=sO (q,.d (.fn (.func i) first caps)))(ha:Z8 H true xs=sO (p,es))(hds:Ka es=sO ds)(hp:p)(hq:q)(hr1:Zby (first++ds))(hr2:Zby caps)(h:DO (F.defer i (first++ds) caps) kp dk os H L s):DO F kp dk (o::os) H L s:=by
 refine Y7 λoo g Z w tmps t j r k ah ad al ae hd hN m hr aq=>?_;have hw:=Z7 m al (c:=true) (by rw[hg];rfl);rw[hk]at ad;obtain⟨f',args,ats,ar,ao,au⟩:=Zye ad;have ag:Rep g w _ _:=ZY m ao rfl hf hq F.ds;have u:=K5 (Zce m rfl F.ds au ha hp) hds;generalize ap:(Act.mk tmps F.ds).eval f'=fv at ag;cases ag with
 |fn _ fs cs' _ _ hn1 hn2 h1 h2 =>
 obtain⟨ak,ac,_,ha2⟩:=Zcf hr1;obtain⟨vs,aj,_,hv2⟩:=Zcf hr2;have e1:fs++args.toList.map (Act.mk tmps F.ds).eval=ak:=Zl5 ((Ye hn1 h1).append u) ac;have e2:cs'=vs:=Zl5 (Ye hn2 h2) aj;have hmap:(Array.map (Act.mk tmps F.ds).eval args)=(args.toList.map (Act.mk tmps F.ds).eval).toArray:=by apply Array.ext';simp
 have am:DD.def (.fn i (first++ds) caps)={ target:=.fn (.func i) cs'.toArray,args:=fs.toArray++(args.toList.map (Act.mk tmps F.ds).eval).toArray }:=by simp only[DD.def,aj,ac,e2,<-e1];simp
 have ai:(execOp (Act.mk tmps F.ds).eval oo).run P w=.ok (.defer (DD.def (.fn i (first++ds) caps))) w:=by rw[am];simp[execOp,ar,resolve,ap,Deferred.ofValue]
 have ab:step P (lone (F.b.atR ⟨tmps,F.ds⟩ (.inRegion t (j::r)::k)) F.cs w)=.next (lone (F.b.atR ⟨tmps,(F.defer i (first++ds) caps).ds⟩ (.inRegion t r::k)) F.cs w):=by
  refine step_lone_go ?_;rw[stepGR_op ah hw,hround,Oper.semAt_none];have af:(F.b.atR ⟨tmps,(F.defer i (first++ds) caps).ds⟩ (.inRegion t (j::r)::k)).finish undef=F.b.atR ⟨tmps,(F.defer i (first++ds) caps).ds⟩ (.inRegion t r::k):=by rw[Frame.finish_atR,ah];simp[Act.put,ae,hdn]
  rw[<-af];simp[stepG.apply,ai,Frame.atR,Fr.defer]
 refine F.T.back _ _ _ _ (.one ab) ?_;exact h t r k hr aq g Z w tmps hN m
def ZkK:D->Prop
 |.iface _ (.agg cs)=>Zby cs
 |.iface _ d=>ZfL d
 |_=>False
def ZrQ{d}(h:ZkK d):∃v,(∀g w,Rep g w v d)/\∀g w v',Rep g w v' d->v'=v:=by
 cases d<;>simp[ZkK]at h;rename_i t d;by_cases hd:∃cs,d=.agg cs
 .obtain⟨cs,rfl⟩:=hd;obtain⟨vs,h1,h2,u⟩:=Zcf h;refine⟨.iface t (.agg vs.toArray),λg w=>.iface t _ _ (.agg vs cs (u g w).len (u g w).get h2),λg w v' hr=>?_⟩;cases hr with
  |iface _ v _ hv =>
   cases hv with
   |agg vs' _ hn hg _=>rw[Zl5 (Ye hn hg) h1]
 have h':ZfL d:=by cases d<;>simp at h<;>first|exact h|exact absurd ⟨_,rfl⟩ hd
 obtain⟨v,h1,h2,u⟩:=ZrP h';refine⟨.iface t v,λg w=>.iface t _ _ (u g w),λg w v' hr=>?_⟩;cases hr with
 |iface _ v'' _ hv=>rw[Zwr hv h1]
def Q6(m:Option D)(v:Value)(rec:Bool):FrameMode :=
 match m with
 |none=>.returning
 |some _=>.panicking [{ v,recovered:=rec }]
def ZeY(P:Program)(cf:Frame)(cs:List Frame)(Ψ:Bool->St->Prop):ZwD P where
 T g w m:=∃g' w' s' b,Ext g w g' w'/\Yf g' s' w'/\Ψ b s'/\Steps P m (lone { cf with mode:=if b then .returning else cf.mode } cs w')
 back g w m m' hs h:=let ⟨g',w',s',b,a1,a2,a3,a4⟩:=h;⟨g',w',s',b,a1,a2,a3,Steps.trans hs a4⟩
 ext g w g' w' m hx h:=let ⟨g2,w2,s',b,a1,a2,a3,a4⟩:=h;⟨g2,w2,s',b,hx.trans a1,a2,a3,a4⟩
def Y8(P:Program)(an:Ann)(f:FuncId)(N:Nat)(cf:Frame)(cs:List Frame)(Ψ:Bool->St->Prop)(m:Option D)(v:Value)(rec:Bool):Fr P where
 T:=ZeY P cf cs Ψ
 b:={ (dE:Frame) with fn:=f,kind:=.deferred,roundOf:=nO }
 cs:={ cf with mode:=Q6 m v rec }::cs
 N:=N
 ds:=[]
 an:=an
def Zas(F:Fr P)(m:Option D)(Ψ:Bool->St->Prop)(rec:Bool):Prop :=
 ∃an f df cf cs v,Go.DL.cf P an f=sO df/\df.res=[]/\cf.mode=Q6 m v false/\(∀d,m=sO d->∀g w,Rep g w v d)/\F=Y8 P an f df.n cf cs Ψ m v rec
def Zci{an i N rs b}(hf:cf P an i=sO ⟨N,rs,b⟩)(hres:rs=[]){args m s Ψ}(hm:∀d,m=sO d->ZkK d)(h:∀F:Fr P,Zas F m Ψ false->Zt F [.code b] (Qa 0 args) [] s):JV P i args m s Ψ:=by
 have ai:=hf;unfold cf at hf;split at hf<;>(try(simp at hf;done));rename_i fn ae;split at hf<;>(try(simp at hf;done));rename_i c hc;split at hf<;>(try(simp at hf;done));rename_i ac;split at hf<;>simp at hf;rename_i rs d hrs hd;obtain⟨rfl,rfl,rfl⟩:=hf;refine⟨⟨fn,ae,by simp[hc],by simpa using ac⟩,λg w vs t cs hs ha u=>?_⟩;obtain⟨v,af,aj⟩:∃v,t.mode=Q6 m v false/\∀d,m=sO d->∀g w,Rep g w v d:=by
  cases m with
  |none=>exact⟨undef,u,λd hd=>by simp at hd⟩
  |some d =>obtain⟨v,h1,h2⟩:=u;obtain⟨v',r1,r2⟩:=ZrQ (hm d rfl);have:=r2 g w v h2;subst this;exact⟨v,h1,λd' ad=>by simp only[ZIx]at ad;subst ad;exact r1⟩
 have ag:({ t with mode:=Q6 m v false }:Frame)=t:=by rw[<-af]
 have ab:Frame.enter P i vs.toArray .deferred=(Y8 P an i fn.ntmps t cs Ψ m v false).b.atR { tmps:=vs.toArray++Array.replicate (fn.ntmps-I vs) undef,defers:=[] } [.code c]:=by simp[Frame.enter,Frame.atR,ae,hc,Y8]
 have:=h _ ⟨an,i,_,t,cs,v,ai,hres,af,aj,rfl⟩ [.code c] (.code hd .nil) g (λ_=>0) w (vs.toArray++Array.replicate (fn.ntmps-I vs) undef) (by simp[Y8];omega) (Zg9 hs ha);obtain⟨g',w',s',b,a1,a2,a3,a4⟩:=this;refine⟨g',w',s',b,a1,a2,a3,?_⟩;rw[ab];have ah:(Y8 P an i fn.ntmps t cs Ψ m v false).cs=t::cs:=by simp only[Y8,ag]
 rw[ah]at a4;exact a4
def Zas.end{F:Fr P}{m Ψ rec}(hF:Zas F m Ψ rec){H L s s'}(hs:s'.sub s)(hΨ:Ψ (m.isNone ||rec) s'){todo g Z w tmps}(M:Zu g Z w tmps H L s):F.T.T g w (lone { F.b.atR ⟨tmps,F.ds⟩ todo with mode:=.returning } F.cs w):=by
 obtain⟨an,f,df,t,cs,v,hf,ab,u,hrep,rfl⟩:=hF;unfold cf at hf;split at hf<;>(try(grind;done));rename_i fn af;split at hf<;>(try(grind;done));split at hf<;>(try(grind;done));split at hf<;>simp at hf;rename_i rs d ag hd;subst hf;cases ab;obtain⟨rv,ac,_⟩:=Zpj M ag (p:=True) (ds:=[]) rfl trivial;refine⟨g,w,s',m.isNone ||rec,Ext.refl g w,M.st.sub hs,hΨ,?_⟩;have ae:=step_going_returned (P:=P) (fr:={ (Y8 P an f fn.ntmps t cs Ψ m v rec).b.atR ⟨tmps,[]⟩ todo with mode:=.returning }) (c:={ t with mode:=Q6 m v rec }) (cs:=cs) (w:=w) rfl ⟨rfl,rfl,fn,af,ac⟩;have ad:({ ({ t with mode:=Q6 m v rec }:Frame) with mode:=settle (Q6 m v rec) }:Frame)={ t with mode:=if (m.isNone ||rec) then .returning else t.mode }:=by
  cases m with
  |none=>rfl
  |some d =>cases rec;simp[u];rfl;rfl
 rw[ad]at ae;exact .one ae
def Zas.fin{F:Fr P}{m Ψ rec}(hF:Zas F m Ψ rec){H L s s'}(hs:s'.sub s)(hΨ:Ψ (m.isNone ||rec) s'):Zt F [] H L s:=by
 have u:=hF;obtain⟨an,f,df,t,cs,v,hf,hres,hmode,hrep,rfl⟩:=hF;intro k hk;cases hk;intro g Z w tmps hN M;refine(ZeY P t cs Ψ).back _ _ _ _ (.one (stepR_end rfl)) ?_;exact u.end hs hΨ M
def Zas.ret{F:Fr P}{m Ψ rec}(hF:Zas F m Ψ rec){dk H L s s'}(hs:s'.sub s)(hΨ:Ψ (m.isNone ||rec) s'):Zt F (.code .ret::dk) H L s:=by
 have u:=hF;obtain⟨an,f,df,t,cs,v,hf,hres,hmode,hrep,rfl⟩:=hF;intro k hk;cases hk with
 |code hc ht =>obtain rfl:=Ztp hc;intro g Z w tmps hN M;refine(ZeY P t cs Ψ).back _ _ _ _ (.one (stepR_ret rfl)) ?_;exact u.end hs hΨ M
def Zio{op}(h:ck P op=sO .recover):∃u ats,op=.call ⟨.builtin .recover,u,ats⟩:=by
 unfold ck at h;split at h;simp at h;split at h<;>(try(simp at h;done));all_goals (try(repeat' (split at h<;>(try(simp at h;done)))))
 rename_i c _ _ t;obtain⟨callee,u,ats⟩:=c;simp only at t;exact⟨u,ats,by rw[t]⟩
def Zn9{F:Fr P}{d Ψ}(hF:Zas F (sO d) Ψ false){kp dk o os H L s}(hg:o.guard=nO)(hk:o.k=.recover)(h:∀F':Fr P,Zas F' (sO d) Ψ true->DO F' kp dk os (Zx H o.dst (.d d)) L s):DO F kp dk (o::os) H L s:=by
 obtain⟨an,f,df,t,cs,v,hf,aj,ad,ab,rfl⟩:=hF;refine Y7 λoo g Z w tmps u j r k ai ac al ag hd hN m hr am=>?_;have hw:=Z7 m al (c:=true) (by rw[hg];rfl);have ao:=Yb ac (by rw[hk];rfl);rw[hk]at ac;obtain⟨args,ats,ap⟩:=Zio ac;have ak:(execOp (Act.mk tmps []).eval oo).run P w=.ok .recover w:=by simp[execOp,ap,resolve,invoke,builtin]
 have ae:step P (lone ((Y8 P an f df.n t cs Ψ (sO d) v false).b.atR ⟨tmps,[]⟩ (.inRegion u (j::r)::k)) (Y8 P an f df.n t cs Ψ (sO d) v false).cs w) =
   .next (lone ((Y8 P an f df.n t cs Ψ (sO d) v true).b.atR ((Act.mk tmps []).put oo.dst v) (.inRegion u r::k)) (Y8 P an f df.n t cs Ψ (sO d) v true).cs w):=by
  refine step_lone_go ?_;rw[stepGR_op ai hw,Oper.semAt_eq _ _ _ ao];have ah:((Y8 P an f df.n t cs Ψ (sO d) v false).b.atR ⟨tmps,[]⟩ (.inRegion u (j::r)::k)).finish v=(Y8 P an f df.n t cs Ψ (sO d) v true).b.atR ((Act.mk tmps []).put oo.dst v) (.inRegion u r::k):=by rw[Frame.finish_atR,ai];rfl
  rw[<-ah];simp[stepG.apply,ak,Frame.atR,Y8,tryRecover,Q6]
 refine(ZeY P t cs Ψ).back _ _ _ _ (.one ae) ?_;obtain⟨af,e1,e2,m'⟩:=ZfJ m hN hd (v:=v) (e:=.d d) (ab d rfl g w) [];rw[ag,e1];exact h _ ⟨an,f,df,t,cs,v,hf,aj,ad,ab,rfl⟩ u r k hr am g Z w af e2 m'
def ZgN{F:Fr P}{Ψ rec}(hF:Zas F nO Ψ rec){kp dk o os H L s}(hg:o.guard=nO)(hk:o.k=.recover)(h:DO F kp dk os (Zx H o.dst (.d .niliface)) L s):DO F kp dk (o::os) H L s:=by
 obtain⟨an,f,df,t,cs,v,hf,hres,hmode,hrep,rfl⟩:=hF;refine Y7 λoo g Z w tmps u j r k af ab ah hdst hd hN m hr ai=>?_;have hw:=Z7 m ah (c:=true) (by rw[hg];rfl);have aj:=Yb ab (by rw[hk];rfl);rw[hk]at ab;obtain⟨args,ats,ak⟩:=Zio ab;have ag:(execOp (Act.mk tmps []).eval oo).run P w=.ok .recover w:=by simp[execOp,ak,resolve,invoke,builtin]
 have ac:step P (lone ((Y8 P an f df.n t cs Ψ nO v rec).b.atR ⟨tmps,[]⟩ (.inRegion u (j::r)::k)) (Y8 P an f df.n t cs Ψ nO v rec).cs w) =
   .next (lone ((Y8 P an f df.n t cs Ψ nO v rec).b.atR ((Act.mk tmps []).put oo.dst .nilIface) (.inRegion u r::k)) (Y8 P an f df.n t cs Ψ nO v rec).cs w):=by
  refine step_lone_go ?_;rw[stepGR_op af hw,Oper.semAt_eq _ _ _ aj];have ae:((Y8 P an f df.n t cs Ψ nO v rec).b.atR ⟨tmps,[]⟩ (.inRegion u (j::r)::k)).finish .nilIface=(Y8 P an f df.n t cs Ψ nO v rec).b.atR ((Act.mk tmps []).put oo.dst .nilIface) (.inRegion u r::k):=by rw[Frame.finish_atR,af];rfl
  rw[<-ae];simp[stepG.apply,ag,Frame.atR,Y8,tryRecover,Q6]
 refine(ZeY P t cs Ψ).back _ _ _ _ (.one ac) ?_;obtain⟨ad,e1,e2,m'⟩:=ZfJ m hN hd (v:=.nilIface) (e:=.d .niliface) .niliface [];simp_all;exact h u r k hr ai g Z w ad e2 m'
end
def ZDt(n):inR .i64 n↔-9223372036854775808<=n/\n<=9223372036854775807:=by
 simp[inR,IntKind.min,IntKind.max,IntKind.signed,IntKind.bits]
def ZEb(n):inR .u8 n↔0<=n/\n<=255:=by
 simp[inR,IntKind.min,IntKind.max,IntKind.signed,IntKind.bits]
def ZDu(n):inR .u32 n↔0<=n/\n<=4294967295:=by
 simp[inR,IntKind.min,IntKind.max,IntKind.signed,IntKind.bits]
def ZDv(n):inR .u64 n↔0<=n/\n<=18446744073709551615:=by
 simp[inR,IntKind.min,IntKind.max,IntKind.signed,IntKind.bits]
def ZDs(n):inR .i32 n↔-2147483648<=n/\n<=2147483647:=by
 simp[inR,IntKind.min,IntKind.max,IntKind.signed,IntKind.bits]
def ZCl(a b):(if a=true then b else false)=(a&&b):=by cases a<;>rfl
def ZDx(a b):(if a=true then true else b)=(a ||b):=by cases a<;>rfl
def ZDa{d t}(h:d=t):(Qb [d]).Le t:=h▸ZIB d
def ZeX{b t}(h:b=t):(Qb [.bool b]).Le (.bool t):=h▸ZIB _
def Zhp{k n m}(h:n=m):(Qb [.int k n]).Le (.int k m):=h▸ZIB _
def ZDb{l m}(h:l=m):(Qb [.str l]).Le (.str m):=h▸ZIB _
def Jy{l d}(h:.tup l=d)(t:Qb l=.tup l):(Qb l).Le d:=by rw[t,h];exact ZIB _
def St.upd_same(s:St)(b o):(s.upd b o) b=sO o:=by simp[ZJc]
def St.upd_ne(s:St){b c}(o)(h:c≠b):(s.upd b o) c=s c:=by simp[ZJc,h]
def St.upd_upd(s:St)(b o o'):(s.upd b o).upd b o'=s.upd b o':=by
 funext c;simp only[ZJc];by_cases h:c=b<;>simp[h]
def St.upd_comm{s:St}{b c}{o o'}(h:c≠b):(s.upd b o).upd c o'=(s.upd c o').upd b o:=by
 funext x;simp only[ZJc];by_cases t:x=b;subst t;simp[Ne.symm h];simp[t]
def St.sub_upd{b}(o)(h:s b=nO):s.sub (s.upd b o):=λc x t=>by
 have:c≠b:=λu=>by rw[u,h]at t;simp at t
 rw[St.upd_ne s o this];exact t
def St.sub_trans{s s' t:St}(h:s.sub s')(u:s'.sub t):s.sub t:=λb o ho=>u b o (h b o ho)
inductive DWf:D->Prop where
 |int (k:IntKind) (n:Int) (h:inR k n):DWf (.int k n)
 |str (l:List UInt8) (h:I l<=big):DWf (.str l)
 |agg (cs:List D) (h:∀c∈cs,DWf c):DWf (.agg cs)
 |tup (cs:List D) (h:∀c∈cs,DWf c):DWf (.tup cs)
 |sl (t:Tok) (n s:Nat) (row:Nat->List D) (h:n<=big) (hl:∀i,i<n->(row i).length=s) (hr:∀i,i<n->∀c∈row i,DWf c):DWf (.sl t n s row)
 |ep (cs:List D) (o:Nat) (h:∀c∈cs,DWf c):DWf (.ep cs o)
 |iface (t:TypeId) (d:D) (h:DWf d):DWf (.iface t d)
 |msl (b o n cap s:Nat) (h:n<=cap) (h':cap<=big):DWf (.msl b o n cap s)
 |fn (f:Fn) (a b:List D) (h:∀c∈a,DWf c) (h':∀c∈b,DWf c):DWf (.fn f a b)
 |other (d:D) (h:match d with|.int .. |.str _|.agg _|.tup _|.sl .. |.ep .. |.iface .. |.msl .. |.fn ..=>False|_=>True):DWf d
def Zcp{Q:D->Prop}{vs:List Value}(hn:I vs=I ds)(h:∀(i:Nat) (v:Value) (d:D),vs[i]?=sO v->ds[i]?=sO d->Q d):∀c∈ds,Q c:=by
 intro c t;obtain⟨i,u,rfl⟩:=ZIV t;exact h i (vs[i]' ω) _ (by simp[show i<I vs by omega]) (by simp[u])
def Rep.wf{g w v d}(h:Rep g w v d):DWf d:=by
 induction h with
 |int k n h=>exact .int k n h
 |str s l h hb=>exact .str l hb
 |agg vs cells hn _ _ ih=>exact .agg _ (Zcp hn ih)
 |tup vs ds hn _ ih=>exact .tup _ (Zcp hn ih)
 |sl0 a t s row ht=>exact .sl t 0 s row (Nat.zero_le _) (λi hi=>by omega) (λi hi=>by omega)
 |sl b o n cap s row t f hl hc hp _ one ht hcap hb ih =>refine .sl t n s row ω hl λi hi c u=>?_;obtain⟨j,hj,rfl⟩:=ZIV u;exact ih i j _ hi (by simp[hj])
 |ep b o off cells f hc hp _ one ih =>refine .ep _ _ λc u=>?_;obtain⟨j,hj,rfl⟩:=ZIV u;exact ih j _ (by simp[hj])
 |iface t v d _ ih=>exact .iface t d ih
 |msl b off n cap s h hb=>exact .msl _ _ _ _ _ h hb
 |mslx a b off s=>exact .msl _ _ _ _ _ (ZIO _) (Nat.zero_le _)
 |fn f fs cs df dc hnf hnc _ _ ihf ihc=>exact .fn f df dc (Zcp hnf ihf) (Zcp hnc ihc)
 |_=>exact .other _ trivial
def DWf.int_inv{k n}(h:DWf (.int k n)):inR k n:=by
 cases h with
 |int _ _ h=>exact h
 |other _ h=>exact h.elim
def DWf.str_inv{l}(h:DWf (.str l)):I l<=big:=by
 cases h with
 |str _ h=>exact h
 |other _ h=>exact h.elim
def DWf.agg_inv{cs}(h:DWf (.agg cs)):∀c∈cs,DWf c:=by
 cases h with
 |agg _ h=>exact h
 |other _ h=>exact h.elim
def DWf.sl_inv{t n s row}(h:DWf (.sl t n s row)):n<=big/\(∀i,i<n->(row i).length=s)/\∀i,i<n->∀c∈row i,DWf c:=by
 cases h with
 |sl _ _ _ _ h1 h2 h3=>exact⟨h1,h2,h3⟩
 |other _ h=>exact h.elim
def ZBL{g w vs ds}(h:ZI (Rep g w) vs ds):∀d∈ds,DWf d:=Zcp h.len λi v d u t=>(h.get i v d u t).wf
section
variable {P:Program}
def Zjw{f args s Φ}(u:∃fn,P.funcs[f]?=sO fn/\fn.body.isSome=true/\(fn.name == "runtime.NumGoroutine")=false)(h:(∀a∈args,DWf a)->Za P f args s Φ):Za P f args s Φ :=
 ⟨u,λg w vs hs t=>(h (ZBL t)).2 g w vs hs t⟩
def ZsA{an f df}(hf:cf P an f=sO df):∃fn,P.funcs[f]?=sO fn/\fn.body.isSome=true/\(fn.name == "runtime.NumGoroutine")=false:=by
 unfold cf at hf;split at hf<;>(try(simp at hf;done));rename_i fn u;split at hf<;>(try(simp at hf;done));rename_i c hc;split at hf<;>(try(simp at hf;done));rename_i t;exact⟨fn,u,by simp[hc],by simpa using t⟩
def Zbn{an f N rs b}(t:cf P an f=sO ⟨N,rs,b⟩){args s Φ}(h:(∀a∈args,DWf a)->∀F:Fr P,YL F rs Φ []->Zt F [.code b] (Qa 0 args) [] s):Za P f args s Φ :=
 Zjw (ZsA t) λu=>Zb t (h u)
def Wc{an f N rs b}(t:cf P an f=sO ⟨N,rs,b⟩){args d}(h:(∀a∈args,DWf a)->∀(F:Fr P) (s:St),(∀{dk:List WY} {H:Env} {L:Loc} {s':St} {p:Prop} {ds:List D},YD H L s' rs=sO (p,ds)->p->(Qb ds).Le d->s.sub s'->Zt F (.code .ret::dk) H L s') ->
   Zt F [.code b] (Qa 0 args) [] s):Zd P f args d :=
 λs=>Zjw (ZsA t) λhw=>Zb t λF hF=>h hw F s λu h2 h3 h4=>hF.ret d s u h2 h3 h4 ⟨rfl,rfl⟩
def ZBJ{F:Fr P}{dk H L s}(t){d}(ht:ZM H t=sO (.d d))(h:DWf d->Zt F dk H L s):Zt F dk H L s :=
 λk hk g Z w tmps u m=>h (Rep.wf (m.env t _ ht)) k hk g Z w tmps u m
end
section
variable {P:Program}
def ZO(P:Program)(f:FuncId)(args:List D)(s:St)(d:D)(s':St):Prop:=Za P f args s λr t=>r=.ret d/\t=s'
def ZaE{F:Fr P}{kp dk o os H L s s'}(hg:Zj H o.guard=sO true){fx xs}(hk:o.k=.call fx xs){p q f first caps es ds}(hf:ZC H true fx=sO (q,.d (.fn (.func f) first caps)))(ha:Z8 H true xs=sO (p,es))(hds:Ka es=sO ds)(hp:p)(hq:q){d}(hc:ZO P f (first++ds++caps) s d s')(h:DO F kp dk os (Zx H o.dst (.d d)) L s'):DO F kp dk (o::os) H L s :=
 Zly hg hk hf ha hds hp hq hc (λd' t ⟨u,h2⟩=>by simp only[Res.ret.injEq]at u;subst u;subst h2;exact h) (λd' t ⟨u,_⟩=>by simp at u)
def Zjy{F:Fr P}{kp dk o f os H L s s' B}(hg:Zj H o.guard=sO true){fx xs}(hk:o.k=.call fx xs){p q fi first caps es ds}(hf:ZC H true fx=sO (q,.d (.fn (.func fi) first caps)))(ha:Z8 H true xs=sO (p,es))(hds:Ka es=sO ds)(hp:p)(hq:q){d}(hc:ZO P fi (first++ds++caps) s d s')(hB:Wi f s s' L L B)(h:DOA F kp dk os (Zx H o.dst (.d d)) L s' (YY f B)):DOA F kp dk ((o,f)::os) H L s B :=
 Zib hg hk hf ha hds hp hq hc (λd' t ⟨u,h2⟩=>by simp only[Res.ret.injEq]at u;subst u;subst h2;exact⟨hB,h⟩) (λd' t ⟨u,_⟩=>by simp at u)
def Zx3{F:Fr P}{kp dk o os H L s s'}(hg:Zj H o.guard=sO true){fx xs}(hk:o.k=.call fx xs){p q f es ds}(hf:ZC H true fx=sO (q,.d f))(ha:Z8 H true xs=sO (p,es))(hds:Ka es=sO ds)(hp:p)(hq:q){d}(hc:WP P f ds s λr t=>r=.ret d/\t=s')(h:DO F kp dk os (Zx H o.dst (.d d)) L s'):DO F kp dk (o::os) H L s :=
 ZbL hg hk hf ha hds hp hq hc (λd' t ⟨u,h2⟩=>by simp only[Res.ret.injEq]at u;subst u;subst h2;exact h) (λd' t ⟨u,_⟩=>by simp at u)
def Zd.le{f args d t}(h:Zd P f args d)(e:d=t):Zd P f args t:=e▸h
end
inductive LeC:List D->List D->Prop where
 |nil:LeC [] []
 |cons {d d':D} {l l':List D} (h:d.Le d') (t:LeC l l'):LeC (d::l) (d'::l')
def LeC.refl(l):LeC l l:=by
 induction l with
 |nil=>exact .nil
 |cons d l ih=>exact .cons (ZIB d) ih
def LeC.len{l l'}(h:LeC l l'):I l=I l':=by
 induction h with
 |nil=>rfl
 |cons _ _ ih=>simp[ih]
def LeC.get{l l'}(h:LeC l l'){i:Nat}{u}(t:l'[i]?=sO u):∃d,l[i]?=sO d/\d.Le u:=by
 induction h generalizing i with
 |nil=>simp at t
 |cons h _ ih =>
  cases i with
  |zero=>simp at t;subst t;exact⟨_,rfl,h⟩
  |succ i=>exact ih (by simpa using t)
def Zs2{cs cs'}(h:LeC cs cs'):(D.agg cs).Le (.agg cs'):=by
 intro g w v t;cases t with
 |agg vs _ hn hr one=>exact .agg vs _ (hn.trans h.len) (λi v d' t hd=>by obtain⟨d,u,h2⟩:=h.get hd;exact h2 _ _ _ (hr i v d t u)) one
def ZvD{cs cs'}(h:LeC cs cs'):(D.tup cs).Le (.tup cs'):=by
 intro g w v t;cases t with
 |tup vs _ hn hr=>exact .tup vs _ (hn.trans h.len) (λi v d' t hd=>by obtain⟨d,u,h2⟩:=h.get hd;exact h2 _ _ _ (hr i v d t u))
def ZvC{t n s row}:(D.sl t n s row).Le (.sl .none n s row):=by
 intro g w v u;cases u with
 |sl0 _ _ _ _ ht=>exact .sl0 _ _ _ _ ψ
 |sl b o n cap s row t f hl hc hp hr one ht hcap hb=>exact .sl b o n cap s row _ f hl hc hp hr one trivial hcap hb
def Zx5{t}{n s}{row row'}(h:∀i,i<n->LeC (row i) (row' i)):(D.sl t n s row).Le (.sl t n s row'):=by
 intro g w v hv;cases hv with
 |sl0 _ _ _ _ ht=>exact .sl0 _ _ _ _ ht
 |sl b o n cap s row t f hl hc hp hr one ht hcap hb =>exact .sl b o n cap s _ _ f (λi u=>(h i u).len.symm.trans (hl i u)) hc hp (λi j d u hd=>by obtain⟨d',h1,h2⟩:=(h i u).get hd;exact h2 _ _ _ (hr i j d' u h1)) one ht hcap hb
def YU{s row t}(u:∀b,t≠.tip b):D.nilsl.Le (.sl t 0 s row):=by
 intro g w v hv;cases hv;exact .sl0 _ _ _ _ u
def D.Le.trans{a b c:D}(h:a.Le b)(t:b.Le c):a.Le c:=λg w v u=>t g w v (h g w v u)
def Zgb{t n u s row row'}(hn:n=u)(h:∀i,i<n->row i=row' i):(D.sl t n s row).Le (.sl .none u s row'):=by
 subst hn;exact ZvC.trans (Zx5 λi hi=>by rw[h i hi];exact LeC.refl _)
inductive Zs1:E->E->Prop where
 |d {x y:D} (h:x.Le y):Zs1 (.d x) (.d y)
 |refl (e:E):Zs1 e e
inductive LeE:Env->Env->Prop where
 |nil:LeE [] []
 |cons {t:Nat} {e e':E} {H H':Env} (h:Zs1 e e') (r:LeE H H'):LeE ((t,e)::H) ((t,e')::H')
 |skip {t:Nat} {e:E} {H H':Env} (r:LeE H H'):LeE ((t,e)::H) ((t,e)::H')
inductive LeL:Loc->Loc->Prop where
 |nil:LeL [] []
 |cons {t:Nat} {c c':List D} {H H':Loc} (h:LeC c c') (r:LeL H H'):LeL ((t,c)::H) ((t,c')::H')
 |skip {t:Nat} {c:List D} {H H':Loc} (r:LeL H H'):LeL ((t,c)::H) ((t,c)::H')
def LeE.get{H H'}(h:LeE H H'){t e'}(u:ZM H' t=sO e'):∃e,ZM H t=sO e/\Zs1 e e':=by
 induction h with
 |nil=>simp[ZM]at u
 |cons h _ ih =>simp only[ZM]at u⊢;split at u;simp at u;subst u;rename_i ht;rw[if_pos ht];exact⟨_,rfl,h⟩;rename_i ht;rw[if_neg ht];exact ih u
 |skip _ ih =>simp only[ZM]at u⊢;split at u;simp at u;subst u;rename_i ht;rw[if_pos ht];exact⟨_,rfl,.refl _⟩;rename_i ht;rw[if_neg ht];exact ih u
def LeL.get{H H'}(h:LeL H H'){t e'}(u:Zh H' t=sO e'):∃e,Zh H t=sO e/\LeC e e':=by
 induction h with
 |nil=>simp[Zh]at u
 |cons h _ ih =>simp only[Zh]at u⊢;split at u;simp at u;subst u;rename_i ht;rw[if_pos ht];exact⟨_,rfl,h⟩;rename_i ht;rw[if_neg ht];exact ih u
 |skip _ ih =>simp only[Zh]at u⊢;split at u;simp at u;subst u;rename_i ht;rw[if_pos ht];exact⟨_,rfl,LeC.refl _⟩;rename_i ht;rw[if_neg ht];exact ih u
def LeL.getI{H H'}(h:LeL H H'){t e}(u:Zh H t=sO e):∃e',Zh H' t=sO e':=by
 induction h with
 |nil=>simp[Zh]at u
 |cons h _ ih =>simp only[Zh]at u⊢;split at u;rename_i ht;rw[if_pos ht];exact⟨_,rfl⟩;rename_i ht;rw[if_neg ht];exact ih u
 |skip _ ih =>simp only[Zh]at u⊢;split at u;rename_i ht;rw[if_pos ht];exact⟨_,rfl⟩;rename_i ht;rw[if_neg ht];exact ih u
def YJ.le{g w b ds ds'}(h:YJ g w b ds)(t:LeC ds ds'):YJ g w b ds':=by
 obtain⟨hp,vs,T,h1,h2,h3,h4⟩:=h;exact⟨hp,vs,T,h1,h2.trans t.len,λi v d' hv hd=>by obtain⟨d,u,e2⟩:=t.get hd;exact e2 _ _ _ (h3 i v d hv u),h4⟩
def ZL.le{g Z w L v e t}(h:ZL g Z w L v e)(u:Zs1 e t):ZL g Z w L v t:=by
 cases u with
 |refl=>exact h
 |d hd=>exact hd _ _ _ h
def Zu.le{H H':Env}{L L':Loc}(m:Zu g Z w tmps H L s)(hρ:LeE H H')(hL:LeL L L'):Zu g Z w tmps H' L' s:={
 st:=m.st
 loc l cs h:=by obtain⟨c,h1,h2⟩:=hL.get h;exact(m.loc l c h1).le h2
 locKept l cs h:=by obtain⟨c,h1,_⟩:=hL.get h;exact m.locKept l c h1
 locSt l cs h:=by obtain⟨c,h1,_⟩:=hL.get h;exact m.locSt l c h1
 inj l l' cs cs' h h' hν:=by obtain⟨c,h1,_⟩:=hL.get h;obtain⟨c',u,_⟩:=hL.get h';exact m.inj l l' c c' h1 u hν
 env t e h:=by
  obtain⟨e0,h1,h2⟩:=hρ.get h;exact((m.env t e0 h1).le h2).locs λl cs hc=>⟨hL.getI hc,rfl⟩ }
section
variable {P:Program}
def ZvB{F:Fr P}{dk H H' L L' s}(hρ:LeE H H')(t:LeL L L')(h:Zt F dk H' L' s):Zt F dk H L s :=
 λk hk g Z w tmps u m=>h k hk g Z w tmps u (m.le hρ t)
end
def Jn{H}:LeE H H:=by
 induction H with
 |nil=>exact .nil
 |cons a r ih=>obtain⟨t,e⟩:=a;exact .cons (.refl _) ih
def ZbM{H}:LeL H H:=by
 induction H with
 |nil=>exact .nil
 |cons a r ih=>obtain⟨t,e⟩:=a;exact .cons (LeC.refl _) ih
def ZpX{l cs}(t:Qb l=.tup l)(h:LeC l cs):(Qb l).Le (.tup cs):=by rw[t];exact ZvD h
def QK{d t}(h:d.Le t):(Qb [d]).Le t:=h
def ZhH:Bool->List Nat->St->St->Loc->Loc->List (Nat×Rd)->Prop
 |true,_,_,_,_,_,_=>True
 |false,fl,s,s',L,L',B=>Wi fl s s' L L' B
def ZlP:Bool->List Nat->List (Nat×Rd)->List (Nat×Rd)
 |true,_,B=>B
 |false,fl,B=>YY fl B
def Ziu(K:Env->Loc->St->Prop)(X:List (DOp×List Nat)->Env->Loc->St->List (Nat×Rd)->Prop):List (DOp×List Nat)->Env->Loc->St->List (Nat×Rd)->Prop
 | [],H,L,s,_=>K H L s
 |o::os,H,L,s,B=>match ZF o.1 H L s with
  |.ok side H' L' s'=>side/\ZhH (Y1 o.1.k) o.2 s s' L L' B/\Ziu K X os H' L' s' (Kn o.1 H++ZlP (Y1 o.1.k) o.2 B)
  |.all side pre H' s'=>side/\∀b,pre b->ZhH false o.2 s (s' b) L L B/\Ziu K X os (H' b) L (s' b) (ZlP false o.2 B)
  |.stop=>X (o::os) H L s B
def ZlG{K X}:∀{os H L s B},Ziu K X os H L s B->Zit K X os H L s B
 | [],H,L,s,B,h=>h
 |o::os,H,L,s,B,h=>by simp only[Ziu,Zit]at h⊢;split at h<;>rename_i t<;>simp only[t];cases hp:Y1 o.1.k;rw[hp]at h;exact⟨h.1,h.2.1,ZlG h.2.2⟩;rw[hp]at h;simp only[ZhH,ZlP]at h;exact⟨h.1,ZlG h.2.2⟩;refine⟨h.1,λb u=>?_⟩;exact⟨(h.2 b u).1,ZlG (h.2 b u).2⟩;exact h
section
variable {P:Program}
def Yp{F:Fr P}{ks dk os H L s B}(h:Ziu (λH L s=>Zt F dk (Yn H ks) (Za7 (Yn H ks) L) s) (λos H L s B=>DOA F (sO ks) dk os H L s B) os H L s B):DOA F (sO ks) dk os H L s B:=Zlv (ZlG h)
def ZaC{F:Fr P}{kp dk o os H L s0}(s t)(hg:Zj H o.guard=sO true){e sz b z x y}(hk:o.k=.append e sz b z x y){p q n m row row2 dy dx}(hx:ZC H true x=sO (p,.d dx))(hsl:Zeh sz dx=sO (t,n,row))(hy:ZC H true y=sO (q,.d dy))(hel:ZaP sz dy=sO (m,row2))(hp:p)(hq:q)(hs:s0=s.own t (n*sz))(hok:t.okIn s)(hb:(n+m)*b<=140737488355328)(u:n+m<=big)(h:∀t':Tok,t'.okIn s->DO F kp dk os (Zx H o.dst (.d (.sl t' (n+m) sz (YV n row row2)))) L (s.own t' ((n+m)*sz))):
  DO F kp dk (o::os) H L s0:=by
 subst hs;exact Zx0 hg hk hx hsl hy hp hq hel hok hb u h
end
section
variable {P:Program}
def ZG{an f N rs b}(u:cf P an f=sO ⟨N,rs,b⟩){args d s s'}(h:(∀a∈args,DWf a)->∀(F:Fr P),(∀{dk:List WY} {H:Env} {L:Loc} {t:St} {p:Prop} {ds:List D},YD H L t rs=sO (p,ds)->p->(Qb ds).Le d->s'.sub t->Zt F (.code .ret::dk) H L t) ->
   Zt F [.code b] (Qa 0 args) [] s):ZO P f args s d s' :=
 Zjw (ZsA u) λhw=>Zb u λF hF=>h hw F λh1 h2 h3 h4=>hF.ret d s' h1 h2 h3 h4 ⟨rfl,rfl⟩
def VT(P:Program)(f:D)(args:List D)(s:St)(d:D)(s':St):Prop:=WP P f args s λr t=>r=.ret d/\t=s'
def ZO.VT{f first args caps s s' d}(h:ZO P f (first++args++caps) s d s'):VT P (.fn (.func f) first caps) args s d s':=Za.V h
def Zd.VT{f first args caps d}(h:Zd P f (first++args++caps) d)(s):VT P (.fn (.func f) first caps) args s d s:=Za.V (h s)
def Zwz{F:Fr P}{kp dk o os H L s s'}(hg:Zj H o.guard=sO true){u xs}(hk:o.k=.call u xs){p q f es ds}(hf:ZC H true u=sO (q,.d f))(ha:Z8 H true xs=sO (p,es))(t:Ka es=sO ds)(hp:p)(hq:q){d}(hc:VT P f ds s d s')(h:DO F kp dk os (Zx H o.dst (.d d)) L s'):DO F kp dk (o::os) H L s:=Zx3 hg hk hf ha t hp hq hc h
def ZC5{F:Fr P}{kp dk o f os H L s s' B}(hg:Zj H o.guard=sO true){fx xs}(hk:o.k=.call fx xs){p q fv es ds}(hf:ZC H true fx=sO (q,.d fv))(ha:Z8 H true xs=sO (p,es))(hds:Ka es=sO ds)(hp:p)(hq:q){d}(hc:VT P fv ds s d s')(hB:Wi f s s' L L B)(h:DOA F kp dk os (Zx H o.dst (.d d)) L s' (YY f B)):DOA F kp dk ((o,f)::os) H L s B :=
 Zf9 hg hk hf ha hds hp hq hc (λd' t ⟨u,h2⟩=>by simp only[Res.ret.injEq]at u;subst u;subst h2;exact⟨hB,h⟩) (λd' t ⟨u,_⟩=>by simp at u)
def ZBG{F:Fr P}{kp dk o os H L s s'}(hg:Zj H o.guard=sO true){fx xs}(hk:o.k=.call fx xs){p q fv es ds}(hf:ZC H true fx=sO (q,.d fv))(ha:Z8 H true xs=sO (p,es))(hds:Ka es=sO ds)(hp:p)(hq:q){d}(hc:VT P fv ds s d s')(h:Qt F kp dk os (Zx H o.dst (.d d)) L s'):Qt F kp dk (o::os) H L s :=
 Zia hg hk hf ha hds hp hq hc (λd' t ⟨u,h2⟩=>by simp only[Res.ret.injEq]at u;subst u;subst h2;exact h) (λd' t ⟨u,_⟩=>by simp at u)
def ZI.leC{g w vs a t}(h:ZI (Rep g w) vs a)(u:LeC a t):ZI (Rep g w) vs t:=by
 induction u generalizing vs with
 |nil=>exact h
 |cons hd _ ih=>cases h with
  |cons h1 h2=>exact .cons (hd g w _ h1) (ih h2)
def Za.leA{f args t s Φ}(hl:LeC args t)(h:Za P f t s Φ):Za P f args s Φ :=
 ⟨h.1,λg w vs hs u=>h.2 g w vs hs (ZI.leC u hl)⟩
def Zd.leA{f args t d}(u:LeC args t)(h:Zd P f t d):Zd P f args d:=λs=>Za.leA u (h s)
def LeC.one{d t}(h:d.Le t):LeC [d] [t]:=.cons h .nil
def LeC.two{d t e u}(h:d.Le t)(h2:e.Le u):LeC [d,e] [t,u]:=.cons h (.cons h2 .nil)
end
def St.or(s t:St):St:=λb=>match s b with
 |some o=>sO o
 |none=>t b
def Kc(s t:St)(b o):(s.or t).upd b o=(s.upd b o).or t:=by
 funext c;simp only[St.or,ZJc];by_cases h:c=b<;>simp[h]
def Zs{s t:St}{b o}(h:s b=sO o):(s.or t) b=sO o:=by simp[St.or,h]
def ZJ{s t:St}{b}(h:s b=nO):(s.or t) b=t b:=by simp[St.or,h]
def KD{s t:St}:s.sub (s.or t):=λb o h=>Zs h
def Z6(s t:St):Prop:=∀b o,t b=sO o->s b=nO
def or_assoc(s t u:St):(s.or t).or u=s.or (t.or u):=by
 funext b;simp only[St.or];cases s b<;>rfl
def St.single(b:Nat)(o:QO):St:=λc=>if c=b then sO o else nO
def Yl{b o}:(St.single b o) b=sO o:=by simp[St.single]
def ZaZ{b c}{o}(h:c≠b):(St.single b o) c=nO:=by simp[St.single,h]
def Qq{b o}(h:s b=nO):s.upd b o=s.or (St.single b o):=by
 funext c;simp only[St.or,ZJc,St.single];by_cases t:c=b;subst t;simp[h];simp only[t,if_false];cases s c<;>rfl
def W9{s b o}(h:s b=nO):Z6 s (St.single b o):=λc x t=>by
 simp only[St.single]at t;split at t;rename_i e;rw[e];exact h;simp at t
def G.keep(g:G)(k:Nat->Prop):G:={ g with kept:=k }
def WX{g k w v d}(h:Rep g w v d):Rep (g.keep k) w v d:=h.mono0 (λ_=>ZIO _) (λ_ _ _=>rfl) (λ_ _ h=>h)
def Zzl{g k Z w L v e}(h:ZL g Z w L v e):ZL (g.keep k) Z w L v e:=by
 induction e with
 |d d=>exact WX h
 |loc l off=>exact h
 |when c e ih=>exact⟨λt=>ih (h.1 t),h.2⟩
def Ztq{g k w b ds}(h:YJ g w b ds):YJ (g.keep k) w b ds:=by
 obtain⟨hp,vs,T,t,u,h4,h5⟩:=h;exact⟨hp,vs,T,t,u,λi v d hv hd=>WX (h4 i v d hv hd),h5⟩
def Zo4{g k w b o}(h:WJ g w b o):WJ (g.keep k) w b o:=by
 cases o with
 |cells ds=>exact Ztq h
 |map es =>obtain⟨ab,en,u,h1,h2,h3,h4,h5,h6⟩:=h;exact⟨ab,en,u,h1,h2,λi x d hv hd=>WX (h3 i x d hv hd),λi x d hv hd=>WX (h4 i x d hv hd),h5,h6⟩
 |tip n=>exact h
 |mapE kp es kk n =>obtain⟨ab,io,ac,en,u,h1,h2,h3,h4,h5,h6,h7⟩:=h;exact⟨ab,io,ac,en,u,h1,h2,λi x d hi hv hd=>WX (h3 i x d hi hv hd),λi x d hi hv hd=>WX (h4 i x d hi hv hd),λe he=>⟨WX (h5 e he).1,(h5 e he).2⟩,h6,h7⟩
 |loop r st =>obtain⟨hp,l,h1,h2,h3,h4,h5,h6,h7,h8,h9⟩:=h;exact⟨hp,l,h1,h2,h3,h4,h5,h6,h7,λt e he=>Zzl (h8 t e he),h9⟩
 |dfr=>exact h
def ZI.imp{α β R S}{t:List α}{bs:List β}(h:ZI R t bs)(u:∀a b,R a b->S a b):ZI S t bs:=by
 induction h with
 |nil=>exact .nil
 |cons h _ ih=>exact .cons (u _ _ h) ih
def ZtW{s t:St}(hd:Z6 s t)(h:Yf g (s.or t) w):Yf (g.keep λb=>g.kept b\/(t b).isSome) s w:={
 obj b o hb:=Zo4 (h.obj b o (Zs hb))
 kept b o hb:=by rintro(hk|hk);exact h.kept b o (Zs hb) hk;obtain⟨x,u⟩:=Option.isSome_iff_exists.1 hk;rw[hd b x u]at hb;simp at hb
 fresh b hb:=by have h1:=h.fresh b hb;refine⟨h1.1,?_⟩;rintro(hk|hk);exact h1.2 hk;obtain⟨x,u⟩:=Option.isSome_iff_exists.1 hk;have:=(h.obj b x (by rw[ZJ (hd b x u)];exact u)).lt;omega
 tabs n cs hc:=WX (h.tabs n cs hc) }
def Zro{g w w' s t Φ e}(hd:Z6 s t)(h:Yf g (s.or t) w)(hp:Zhq (g.keep λb=>g.kept b\/(t b).isSome) w Φ e w'):
  Zhq g w (λr S=>∃s',Φ r s'/\Z6 s' t/\S=s'.or t) e w':=by
 obtain⟨g',s',r,he,hs,hr,hΦ⟩:=hp;have ab:=he.keptEq;have ac:Ext g w (g'.keep g.kept) w':=⟨he.size,he.prot,he.cell,he.hdr,λb hb=>he.kept b (.inl hb),λb hb=>he.keptProt b (.inl hb),rfl,he.os,he.output,he.tape⟩;have ad:Z6 s' t:=λb o hb=>by
  cases u:s' b with
  |none=>rfl
  |some x=>exact absurd (by rw[ab];exact .inr (by rw[hb];rfl)) (hs.kept b x u)
 refine⟨g'.keep g.kept,s'.or t,r,ac,⟨λb o hb=>?_,λb o hb=>?_,λb hb=>?_,λn cs hc=>WX (hs.tabs n cs hc)⟩,?_,s',hΦ,ad,rfl⟩
 .cases u:s' b with
  |some x =>rw[Zs u]at hb;cases hb;exact Zo4 (hs.obj b _ u)
  |none =>rw[ZJ u]at hb;have h0:=h.obj b o (by rw[ZJ (hd b o hb)];exact hb);have hk:(g.keep λb=>g.kept b\/(t b).isSome).kept b:=.inr (by rw[hb];rfl);exact h0.mono ac (he.kept b hk) (he.keptProt b hk)
 .cases u:s' b with
  |some x=>exact λhk=>hs.kept b x u (by rw[ab];exact .inl hk)
  |none =>rw[ZJ u]at hb;exact h.kept b o (by rw[ZJ (hd b o hb)];exact hb)
 have:=hs.fresh b hb;exact⟨this.1,λhk=>this.2 (by rw[ab];exact .inl hk)⟩;cases e<;>cases r<;>simp only[Zod]at hr⊢;exact WX hr;obtain⟨v,h1,h2⟩:=hr;exact⟨v,h1,WX h2⟩
section
variable {P:Program}
def Za.frame{f args s t Φ}(u:Z6 s t)(h:Za P f args s Φ):Za P f args (s.or t) λr S=>∃s',Φ r s'/\Z6 s' t/\S=s'.or t :=
 ⟨h.1,λg w vs hs ha=>(h.2 _ w vs (ZtW u hs) (ha.imp λ_ _=>WX)).mono λ_ _ hp=>Zro u hs hp⟩
def WP.frame{f args s t Φ}(u:Z6 s t)(h:WP P f args s Φ):WP P f args (s.or t) λr S=>∃s',Φ r s'/\Z6 s' t/\S=s'.or t:=by
 intro g w fv vs hs hf ha;obtain⟨d,nx,fr,h1,h2,h3,h4⟩:=h _ w fv vs (ZtW u hs) (WX hf) (ha.imp λ_ _=>WX);refine⟨d,nx,fr,h1,h2,h3,λc cs=>?_⟩;obtain⟨e,w',h5,h6⟩:=h4 c cs;exact⟨e,w',Zro u hs h5,h6⟩
end
section
variable {P:Program}
def Zr3{an l N r s da db args Φ}(hs:s l=sO (.loop r .ready))(hlen:I args=I r.params)(ha:cc P an N r.assign=sO da)(hb:cc P an N r.body=sO db)(hN:r.N=N)(hp:∀t∈r.params,t<N)(h:∀F:Fr P,K9 F l Φ->F.b.fn=r.fn->Zt F [.code da,.beginR,.code db] (WN r.params args r.H) [] s):WP P (.fn (.yield l) [] []) args s Φ:=by
 intro g w fv vs ac hf u;cases hf with
 |fn _ fs ad _ _ hn1 hn2 h1 h2 =>
 obtain rfl:fs=[]:=by simpa using hn1
 obtain⟨hp0,l0,a1,a2,a3,a4,a5,a6,a7,a8,a9,a10⟩:=ac.obj l _ hs;have ab:vs.toArray.size=l0.params.size:=by
  have e1:=u.len;have e2:I l0.params.toList=I r.params:=by rw[a3]
  simp at e2⊢;omega
 refine⟨_,_,_,by simp[Deferred.ofValue];rfl,by simp[invoke,Instr.yield,Instr.getLoop,Je a1,ab];rfl,rfl,λc cs=>?_⟩;have M:Zu g (λ_=>0) w l0.tmps r.H [] s:=⟨ac,λl cs h=>by simp[Zh]at h,λl cs h=>by simp[Zh]at h,λl cs h=>by simp[Zh]at h,λl l' cs ad h=>by simp[Zh]at h,a8⟩;obtain⟨ae,M'⟩:=ZiU M u hlen (by rw[hN]at *;exact hp) (by rw[<-hN];exact a7);have:=h (Zbb P an r.fn N l c cs Φ) ⟨an,r.fn,N,c,cs,rfl⟩ rfl [.code r.assign,.beginRound,.code r.body] (.code ha (.beginR (.code hb .nil))) g (λ_=>0) w _ ae M';have af:(Zbb P an r.fn N l c cs Φ).b.atR { tmps:=(r.params.zip vs).foldl (λtmps (x:Nat×Value)=>tmps.setIfInBounds x.1 x.2) l0.tmps,defers:=[] } [.code r.assign,.beginRound,.code r.body] =
   Frame.round l l0.fn ((l0.params.zip vs.toArray).foldl (λtmps (x:Nat×Value)=>tmps.setIfInBounds x.1 x.2) l0.tmps) l0.assign l0.body .normal:=by
  simp only[Frame.atR,Frame.round,a2,a4,a5,<-a3]
  congr 1
  rw[<-Array.foldl_toList];simp
 have e:(Zbb P an r.fn N l c cs Φ).ds=[]:=rfl;rw[e,af]at this;have e2:(l0.params.zip vs.toArray).size=l0.params.size:=by simp at ab⊢;omega
 rw[e2]at this;exact this
def ZsZ{F:Fr P}(hr:F.b.roundOf=nO){o ps da db dk H L s p fv}(hf:ZC H true o=sO (p,.d fv))(hp:p)(ks)(hks:(Yn H ks).map (·.1) |>.Nodup)(h:∀q l r,s q=nO->s l=nO->q≠l->r.H=Ki ks H->r.params=ps->r.fn=F.b.fn->cc P F.an F.N r.assign=sO da->cc P F.an F.N r.body=sO db->r.N=F.N->(∀t∈ps,t<F.N) ->
   ∃Ψ,WP P fv [.fn (.yield l) [] []] ((s.upd q .dfr).upd l (.loop r .ready)) Ψ/\(∀d s',Ψ (.ret d) s'->ZjF (F.mark q) l r dk H L s')/\(∀d s',Ψ (.panic d) s'->Y3 (F.mark q) H L d s')):
  Zt F (.code (.rangeF o ps da db)::dk) H L s:=by
 intro k hk;cases hk with
 | @code _ _ kt _ hc ht =>
 obtain⟨f',am,a',b',rfl,au,az,ha,hb,ax⟩:=Zq8 hc;intro g Z w tmps hN m;have av:Rep g w _ fv:=ZY m au rfl hf hp F.ds;have ai:=J2 (g:=g) (w:=w) (.deferred (sO [])) m.st.fresh;have ag:=ai.ext m.st.fresh;obtain⟨hq,m1⟩:=m.newObj ai (o:=.dfr) ⟨(m.st.fresh _ (ZIO _)).1,Kk w⟩;let w1:=w.alloc (.deferred (sO []));let lp:Go.Loop:={ state:=.ready,pending:=nO,fn:=F.b.fn,tmps:=tmps,params:=am,assign:=a',body:=b',defers:=w.heap.size };let r:Zb8:={ fn:=F.b.fn,params:=ps,assign:=a',body:=b',defers:=w.heap.size,H:=Ki ks H,N:=F.N };have aj:=J2 (g:=g) (w:=w1) (.loop lp) m1.st.fresh;have ae:=aj.ext m1.st.fresh;obtain⟨hl,m2⟩:=m1.newObj aj (o:=.loop r .ready) ⟨(m1.st.fresh _ (ZIO _)).1,lp,Kk w1,rfl,az,rfl,rfl,rfl,hN,λt e ar=>by
  obtain⟨h1,h2⟩:=ZeG hks ar;exact Zph (((m1.env t e (ZdY H ks t e h1))).mono ae) h2,rfl,rfl⟩
 have hqsz:w1.heap.size=w.heap.size+1:=by simp[w1]
 have aw:s w1.heap.size=nO:=by have ay:¬w1.heap.size=w.heap.size:=ω;have h0:(s.upd w.heap.size .dfr) w1.heap.size=nO:=hl;simp[ZJc,ay]at h0;exact h0
 obtain⟨Ψ,hV,al,ak⟩:=h w.heap.size w1.heap.size r hq aw ω rfl rfl rfl ha hb rfl ax;have af:Rep g (w1.alloc (.loop lp)) _ fv:=(av.mono ag).mono ae;obtain⟨d,nx,fr,ao,ap,aq,hC⟩:=hV (Zgd g Z L) (w1.alloc (.loop lp)) _ [.func (.yield w1.heap.size) #[] #[]] m2.callSt (Wu af rfl) (.cons (.fn (.yield w1.heap.size) [] [] [] [] rfl rfl ψ ψ) .nil);have ad:(Instr.enterLoop F.b.fn tmps am a' b' F.b.roundOf).run P w=.ok (w1.heap.size,[{ target:=.collected w.heap.size,args:=#[] }]) (w1.alloc (.loop lp)):=by rw[hr];simp[Instr.enterLoop,w1,lp]
 have ac:=ZhX (P:=P) (b:=F.b) (a:=⟨tmps,F.ds⟩) (k:=kt) (cs:=F.cs) ad ao ap aq;obtain⟨e,w',⟨g',s',res,x1,x2,x3,x4⟩,u⟩:=hC (F.b.atR { tmps:=tmps,defers:=[{ target:=.collected w.heap.size,args:=#[] }]++F.ds } (.inRangeFunc w1.heap.size::kt)) F.cs;obtain⟨ah,hm⟩:=m2.afterCall x1 x2;have ab:=(ag.trans ae).trans ah;cases e with
 |returned v =>
  cases res with
  |panic d=>exact x3.elim
  |ret d =>refine F.T.back _ _ _ _ (.head ac u) ?_;exact F.T.ext _ _ _ _ _ ab (Zpf (F:=F.mark w.heap.size) ht hN hm (al d s' x4))
 |panicked ch =>
  cases res with
  |ret d=>exact x3.elim
  |panic d =>obtain⟨v,rfl,hv⟩:=x3;refine F.T.back _ _ _ _ (.head ac u) ?_;exact F.T.ext _ _ _ _ _ ab (ak d s' x4 _ _ _ v _ _ hN hm (Wu hv rfl))
 |outgrown=>exact u.elim
def ZwF{F:Fr P}{H L d s s'}(hs:s'.sub s)(h:Y3 F H L d s'):Y3 F H L d s :=
 λg Z w v t tmps u m hr=>h g Z w v t tmps u (m.sub hs) hr
inductive Oc where
 |next
 |stop (c:Code)
 |pan (d:D)
def Oc.res:Oc->Res
 |.next=>.ret (.bool true)
 |.stop _=>.ret (.bool false)
 |.pan d=>.panic d
def Zm5(P:Program)(y:D)(n:Nat)(args:Nat->List D)(go:Nat->Oc)(A:Nat->St->Prop):Prop :=
 ∀j,j<n->(∀i,i<j->go i=.next)->∀a,A j a->WP P y (args j) a λr a'=>r=(go j).res/\A (j+1) a'
inductive Zho(n:Nat)(go:Nat->Oc)(A:Nat->St->Prop)(a:St):Res->Prop where
 |all (h:∀i,i<n->go i=.next) (ha:A n a):Zho n go A a (.ret (.tup []))
 |stop (m:Nat) (c:Code) (hm:m<n) (h:∀i,i<m->go i=.next) (hc:go m=.stop c) (ha:A (m+1) a):Zho n go A a (.ret (.tup []))
 |pan (m:Nat) (d:D) (hm:m<n) (h:∀i,i<m->go i=.next) (hc:go m=.pan d) (ha:A (m+1) a):Zho n go A a (.panic d)
def Zc6(P:Program)(fv:D)(n:Nat)(args:Nat->List D)(t:St):Prop :=
 ∀(y:D) (go:Nat->Oc) (A:Nat->St->Prop) (a0:St),Zm5 P y n args go A->A 0 a0->Z6 a0 t->WP P fv [y] (a0.or t) λr S=>∃a,Zho n go A a r/\a.sub S
def lpS(q l:Nat)(r:Zb8)(st:LSt):St:=(St.single q .dfr).or (St.single l (.loop r st))
structure Zs4(F:Fr P)(busy:St)(E:Oc->St->Prop):Prop where
 fin:∀{H:Env} {L:Loc} {S a:St},E .next a->Z6 a busy->(a.or busy).sub S->Zt F [] H L S
 ret:∀{dk:List WY} {H:Env} {L:Loc} {S a:St},E (.stop .ret) a->Z6 a busy->(a.or busy).sub S->Zt F (.code .ret::dk) H L S
 exit:∀{id:Nat} {dk:List WY} {H:Env} {L:Loc} {S a:St},QZ id dk=none->E (.stop (.exit id)) a->Z6 a busy->(a.or busy).sub S->Zt F (.code (.exit id)::dk) H L S
 pan:∀{H:Env} {L:Loc} {d:D} {S a:St},E (.pan d) a->Z6 a busy->(a.or busy).sub S->Y3 F H L d S
def YL.ex{F:Fr P}{rs Φ dds}(u:YL F rs Φ dds):∃f,P.funcs[F.b.fn]?=sO f:=by
 obtain⟨an,f,df,cs,hf,hrs,rfl⟩:=u;obtain⟨t,h,_⟩:=ZsA hf;exact⟨t,h⟩
def Zax{q l r st}:(lpS q l r st) q=sO .dfr:=Zs Yl
def QB{q l r st}(h:q≠l):(lpS q l r st) l=sO (.loop r st):=by
 unfold lpS;rw[ZJ (ZaZ (Ne.symm h))];exact Yl
def ZfB{q l c r st}(t:c≠q)(u:c≠l):(lpS q l r st) c=nO:=by
 unfold lpS;rw[ZJ (ZaZ t)];exact ZaZ u
def Zt7{q l r r' st st' a}(h:Z6 a (lpS q l r st))(hq:q≠l):Z6 a (lpS q l r' st'):=λb o hb=>by
 by_cases t:b=q;rw[t];exact h q _ Zax;by_cases u:b=l;rw[u];exact h l _ (QB hq);rw[ZfB t u]at hb;grind
def Zqn{q l r st st' a S}(hq:q≠l)(hd:Z6 a (lpS q l r st))(hs:(a.or (lpS q l r st)).sub S):(a.or (lpS q l r st')).sub (S.upd l (.loop r st')):=λb o t=>by
 by_cases u:b=l;subst u;rw[ZJ (hd b _ (QB hq)),QB hq]at t;rw[St.upd_same];exact t;rw[St.upd_ne _ _ u];refine hs b o ?_;by_cases h1:b=q;subst h1;rw[ZJ (hd b _ Zax),Zax]at t⊢;exact t;cases ha:a b with
 |some x=>rw[Zs ha]at t⊢;exact t
 |none=>rw[ZJ ha,ZfB h1 u]at t;grind
def Zvb{F:Fr P}{q l:Nat}{r:Zb8}(u:K9 F l Φ)(t:q≠l)(hex:∃f,P.funcs[F.b.fn]?=sO f){E:Oc->St->Prop}(hΦ:∀oc a,E oc a->Z6 a (lpS q l r .busy)->Φ oc.res (a.or (lpS q l r (match oc with|.next=>.ready|.stop c=>.done c|.pan _=>.busy)))):Zs4 F (lpS q l r .busy) E:={
 fin he hd hs:=u.fin (s':=_) (hs l _ (by rw[ZJ (hd l _ (QB t))];exact QB t)) (Zqn t hd hs) (hΦ .next _ he hd)
 ret he hd hs:=u.ret (hs l _ (by rw[ZJ (hd l _ (QB t))];exact QB t)) (Zqn t hd hs) (hΦ (.stop .ret) _ he hd)
 exit hx he hd hs:=u.exit hx (hs l _ (by rw[ZJ (hd l _ (QB t))];exact QB t)) (Zqn t hd hs) (hΦ (.stop (.exit _)) _ he hd)
 pan he hd hs:=u.pan hs (hΦ (.pan _) _ he hd) λan fn N c cs e=>by
  obtain⟨f,hf⟩:=hex;refine⟨f,?_⟩;have:F.b.fn=fn:=by rw[e];rfl
  rw[<-this];exact hf }
end
end Go.DL
namespace Go.DL
open Go Go.Lib
variable [Zs5]
section
variable {P:Program}
def Zex{F:Fr P}{kp dk o os H L s}(hg:Zj H o.guard=sO true){e sz b z x y}(hk:o.k=.append e sz b z x y)
  {p q t n m row row2 dy dx} (hx:ZC H true x=sO (p,.d dx)) (hsl:Zeh sz dx=sO (t,n,row)) (hy:ZC H true y=sO (q,.d dy)) (hp:p) (hq:q) (hel:∀g w v,Rep g w v dy->∃news,WK g w sz m news row2/\Zbp P w sz m v news) (hok:t.okIn s)
  (hb:(n+m)*b<=140737488355328) (hbig:n+m<=big) (h:∀t':Tok,t'.okIn s->DO F kp dk os (Zx H o.dst (.d (.sl t' (n+m) sz (YV n row row2)))) L (s.own t' ((n+m)*sz))) :
  DO F kp dk (o::os) H L (s.own t (n*sz)):=by
 refine Y7 λoo g Z w tmps bi i r k az ab ar ai hd hN M hr au=>?_;have hw:=Z7 M ar hg;have ax:=Yb ab (by rw[hk];rfl);rw[hk]at ab;obtain⟨x',y',ag,ak,t1,t2,tu,a0,u,al,am,bb,bc,ay,ba,hz,ap,be,bf,h0,hzl⟩:=ZaK ab;subst ap;have a8:Rep g w _ (.sl t n sz row):=Zhu (ZY M be rfl hx hp F.ds) hsl;have a9:Rep g w _ _:=ZY M bf rfl hy hq F.ds;obtain⟨zv,hz1,bg,hz3,ie,ac,bh⟩:=Qh (g:=g) (w:=w) hz;have ae:ie.size=sz:=by simpa[ZS,ac]using ba
 have af:zv.cells.size=sz:=by have:=bg.len;simp at this;omega
 have aq:P.bytesOf e=ie.bytes:=by simp[Program.bytesOf,ac]
 rw[aq]at hb;obtain⟨news,av,aw⟩:=hel _ _ _ a9;obtain⟨v',w',g',t',a1,a2,a3,a4,a5,a6,a7⟩:=Ztg (ty:=oo.type) bb bc ay ac bh ae af h0 M.st hok a8 av aw hb hbig;have ad:∀l cs,Zh L l=sO cs->t≠.tip (Z l):=λl cs hl ht=>by have:=M.locSt l cs hl;rw[ht]at this;simp[St.own,ZJc]at this
 have aj:∀l cs,Zh L l=sO cs->s (Z l)=nO:=λl cs hl=>by
  cases hx:s (Z l) with
  |none=>rfl
  |some o=>have:=Y2 (k:=n*sz) hok _ _ hx;rw[M.locSt l cs hl]at this;simp at this
 have mm:Zu g' Z w' tmps H L (s.own t' ((n+m)*sz)):=by
  refine⟨a3,λl cs hl=>(M.loc l cs hl).mono a2 (a6 (Z l) (M.loc l cs hl).lt (ad l cs hl)).1 (a6 (Z l) (M.loc l cs hl).lt (ad l cs hl)).2,λl cs hl=>by rw[a2.keptEq];exact M.locKept l cs hl,λl cs hl=>?_,M.inj,λt e he=>(M.env t e he).mono a2⟩;cases t' with
  |tip b =>
   have:¬Z l=b:=λhb=>by rcases a7 b rfl with h1|h1;exact ad l cs hl (by rw[hb];exact h1);have:=(M.loc l cs hl).lt;omega
   simp only[St.own,ZJc,this,if_false];exact aj l cs hl
  |_=>exact aj l cs hl
 refine Yk hN az ai hd hw ax (v:=v') (w':=w') (e:=.d (.sl t' (n+m) sz (YV n row row2))) ?_ a2 mm a5 (h t' a4 bi r k hr au);have ao:ag = #[x',y']:=by apply Array.ext';simpa using u
 have ah:∀vs,Builtin.append_ ak oo.type vs=Builtin.append_ #[t1,t2] oo.type vs:=λvs=>by unfold Builtin.append_;simp[al,am]
 unfold execOp;simp only[a0,ao,resolve,invoke,builtin,Sem.run_bind,Sem.run_pure,Result.andThen_ok,List.map_toArray,ZIQ,ZI9,ah,a1]
def Zgt{g w v b off cap sz}(h:Rep g w v (.msl b off 0 cap sz)):∃news,WK g w sz 0 news (λ_=>[])/\Zbp P w sz 0 v news:=by
 cases h with
 |mslx a _ _ _=>exact⟨[],⟨ψ,λi u=>by omega,λi j v d u=>by omega,ψ⟩,λt=>by simp[Builtin.lenOf],λt _=>by simp[Builtin.firstCells,loadCells,loadCellsFrom]⟩
 |msl _ _ _ _ _ hn hb=>exact⟨[],⟨ψ,λi u=>by omega,λi j v d u=>by omega,ψ⟩,λt=>by simp[Builtin.lenOf],λt _=>run_firstCells_some (P:=P) t sz 0 ⟨b,off,nO⟩ 0 cap [] ψ (λk v hv=>by simp at hv)⟩
def Zey{F:Fr P}{dk H L s}(t){tk sz row}(ht:ZM H t=sO (.d (.sl tk 0 sz row)))(h1:Zt F dk ((t,.d .nilsl)::H) L s)
  (h2:∀b off cap,Zt F dk ((t,.d (.msl b off 0 cap sz))::H) L s):Zt F dk H L s:=by
 intro k hk g Z w tmps hN m;have hr:Rep g w (tmps.getD t undef) (.sl tk 0 sz row):=m.env t _ ht;have u:∀d,Rep g w (tmps.getD t undef) d->Zu g Z w tmps ((t,.d d)::H) L s:=λd hd=>⟨m.st,m.loc,m.locKept,m.locSt,m.inj,λt' e' he=>by
  simp only[ZM]at he;split at he;rename_i hx;subst hx;simp only[ZIx]at he;subst he;exact hd;exact m.env t' e' he⟩
 generalize tmps.getD t undef=v at hr u;cases hr with
 |sl0 a _ _ _ _ =>
  cases a with
  |none=>exact h1 k hk g Z w tmps hN (u _ .nilsl)
  |some a=>exact h2 0 0 0 k hk g Z w tmps hN (u _ (.mslx a 0 0 _))
 |sl b o n cap s row t f hl hc hp hr one ht hcap hb=>exact h2 b o cap k hk g Z w tmps hN (u _ (.msl _ _ _ _ _ hcap hb))
end
end Go.DL
namespace Go.DL
open Go
variable [Zs5]
variable {kp:Option (List Nat)}{L:Loc}{H:Env}{s:St}{w:World}{os:List DOp}{ds:List D}{B:List (Nat × Rd)}{dst:Option Nat}{tmps:Array Value}{g:G}{Φ:Res->St->Prop}{Z:Nat->Nat}{xs:List Opd}{side:Prop}{row:Nat->List D}
section
variable {P:Program}
def Zui{a:St}{q o}(h:a q=nO):(a.or (St.single q o)).del q=a:=by
 funext b;simp only[St.del];by_cases t:b=q;rw[if_pos t,t,h];rw[if_neg t];cases u:a b with
 |some x=>exact Zs u
 |none=>rw[ZJ u];exact ZaZ t
def YL.retM{F:Fr P}{rs Φ dds}(u:YL F rs Φ dds){q a dk H L}(t:a q=nO)(h:Unw P dds nO a (ZlA H L rs Φ)):
  Zt (F.mark q) (.code .ret::dk) H L (a.or (St.single q .dfr)) :=
 (u.mark q).retU ⟨by rw[ZJ t];exact Yl,by rw[Zui t];exact h⟩
def YL.ret1{F:Fr P}{rs Φ}(hF:YL F rs Φ []){q a dk H L}(hq:a q=nO){p ds}(d s')(t:YD H L a rs=sO (p,ds))(u:p)(h3:(Qb ds).Le d)(h4:s'.sub a)(h5:Φ (.ret d) s'):
  Zt (F.mark q) (.code .ret::dk) H L (a.or (St.single q .dfr)):=hF.retM hq ⟨p,ds,d,s',t,u,h3,h4,h5⟩
def YL.fin1{F:Fr P}{rs Φ}(hF:YL F rs Φ []){q a H L}(t:a q=nO){p ds}(d s')(u:YD H L a rs=sO (p,ds))(h2:p)(h3:(Qb ds).Le d)(h4:s'.sub a)(h5:Φ (.ret d) s'):
  Zt (F.mark q) [] H L (a.or (St.single q .dfr)) :=
 (hF.mark q).finU ⟨by rw[ZJ t];exact Yl,by rw[Zui t];exact⟨p,ds,d,s',u,h2,h3,h4,h5⟩⟩
def YL.pan1{F:Fr P}{rs Φ}(hF:YL F rs Φ []){q a H L d}(t:a q=nO)(s')(u:s'.sub a)(h5:Φ (.panic d) s'):Y3 (F.mark q) H L d (a.or (St.single q .dfr)) :=
 (hF.mark q).panU ⟨by rw[ZJ t];exact Yl,by rw[Zui t];exact⟨d,s',ZIB d,u,h5⟩⟩
def Zj1{a t}(h:Z6 a t){q o}(u:t q=sO o):a q=nO:=h q o u
end
section
variable {P:Program}
def Jk{F:Fr P}{dk H L s b ds ds'}(h:s b=sO (.cells ds))(hl:LeC ds ds')(k:Zt F dk H L (s.upd b (.cells ds'))):Zt F dk H L s:=by
 intro kk hk g Z w tmps hN m;have hc:YJ g w b ds:=m.st.obj b _ h;exact k kk hk g Z w tmps hN ⟨m.st.updL (o:=.cells ds') (hc.le hl) (m.st.kept b _ h),m.loc,m.locKept,λl u hL=>by
  have t:Z l≠b:=λe=>by have:=m.locSt l u hL;rw[e,h]at this;simp at this
  rw[St.upd_ne _ _ t];exact m.locSt l u hL,m.inj,m.env⟩
end
def Zzq{s cs r}:∀{len},I cs=len*s->(∀i,i<len->part cs (i*s) s=r i)->cs=(ZIM len).flatMap r:=by
 intro len hl hr;have t:∀k,k<=len->cs.take (k*s)=(ZIM k).flatMap r:=by
  intro k;induction k with
  |zero=>intro _;simp
  |succ k ih =>
   intro u;rw[List.range_succ,List.flatMap_append,<-ih ω,ZIX,Nat.one_mul,List.take_add]
   congr 1
   simp only[ZJl,List.flatMap_nil,ZI5];rw[<-hr k u];rfl
 have:=t len (ZIO _);rw[<-hl,ZJa]at this;exact this
def Zke(c:Array Value)(T:TypeId)(t:∀b,w.heap.size<=b->g.prot b=0/\¬g.kept b):JW g w g (w.drew.alloc (.cells c T)):={
 size:=by simp
 old b hb:=(by first|exact heap_alloc_old w.drew _ b hb|exact heap_alloc_old w.drew _ hb)
 prot b hb:=rfl
 fresh b hb:=by
  have:(w.drew.alloc (.cells c T)).heap.size=w.heap.size+1:=by simp
  rw[this]at hb;exact(t b ω).1
 kept:=rfl
 os:=rfl
 output:=rfl
 tape:=rfl }
section
variable {P:Program}
def ZBU{g w len s z t e}{parts:List (Nat×Value)}{ds}(hu:P.underlying t=sO (.slice e))(hsz:ZS P e=sO s)(hz:Zab P e=sO z)(hdis:Qw len (parts.map (·.1))=true)(hzl:I z=s)(hs0:0<s)(hbig:len*s<=2 ^ 24)(hl0:0<len)(hd:ZI (Rep g w) (parts.map (·.2)) ds)(hp:Qd s ds=true):
  ∃cv:Array Value,(Instr.buildSlice t len parts.toArray).run P w=.ok (.slice (sO ⟨w.heap.size,0,nO⟩) len len) (w.alloc (.cells cv e)) /\
   ZI (Rep g w) cv.toList ((ZIM len).flatMap (ZV z ((parts.map (·.1)).zip ds)))/\∀v∈cv,v.one1=true:=by
 obtain⟨zv,hz1,al,ar,ie,ai,av⟩:=Qh (g:=g) (w:=w) hz;have u:ie.size=s:=by simpa[ZS,ai]using hsz
 have ac:zv.cells.size=s:=by have:=al.len;simp at this;omega
 have hn:(parts.map (·.1)).length=I ds:=by have:=hd.len;simpa using this
 let c0:Array Value:=(Array.range (len*s)).map (zv.cells[· % zv.cells.size]!);let d0:List D:=(ZIM (len*s)).map λi=>z.getD (i % s) .undef;have ag:ZI (Rep g w) c0.toList d0:=by refine Ye (by simp[c0,d0]) (λi v d hv hd=>?_);simp only[c0,d0,Array.toList_map,Array.toList_range,List.getElem?_map,ZIL]at hv hd;obtain⟨a,ha,rfl⟩:=hv;obtain⟨b,hb,rfl⟩:=hd;rw[ha]at hb;simp only[ZIx]at hb;subst hb;have ab:a % s<s:=Nat.mod_lt _ hs0;refine al.get (a % s) _ _ ?_ ?_;rw[ac];simp[getElem!_pos,ac,ab];simp[ZIN,hzl,ab]
 have af:∀v∈c0,v.one1=true:=λv hv=>by simp only[c0,Array.mem_map]at hv;obtain⟨a,_,rfl⟩:=hv;have ab:a % zv.cells.size<zv.cells.size:=Nat.mod_lt _ ω;rw[getElem!_pos zv.cells (a % zv.cells.size) ab];exact ar _ (Array.getElem_mem ab)
 have ae:I d0=len*s:=by simp[d0]
 obtain⟨cs,ad,am,ah⟩:=Zj9 (parts.map (·.1)) ds d0 hdis hn hp ae;obtain⟨cv,ao,ap,aq⟩:=ZhD (g:=g) (w:=w) (λi=>sO (i*s,s)) parts ((parts.map (·.1)).map λi=>(i*s,s)) ds cs d0 c0 (λi x q hx hq=>by
  simp only[List.map_map,List.getElem?_map,hx,ZI3,ZIx,Function.comp_def]at hq;rw[<-hq]) ψ hd ag af ad
 have aj:¬len*s=0:=by simp[Nat.mul_eq_zero];omega
 have ak:=run_buildSlice (P:=P) w t e len parts.toArray cv ie zv hu ai av (by rw[u];omega) (by rw[u];exact aj) (by rw[u];exact ao);refine⟨cv,ak,?_,aq⟩;have:cs=(ZIM len).flatMap (ZV z ((parts.map (·.1)).zip ds)):=Zzq am λi hi=>by rw[ah i hi];have au:part d0 (i*s) s=z:=Zls hzl hs0 hi;rw[au]
 rw[<-this];exact ap
def Zvx{F:Fr P}{kp dk o os H L s}(hg:Zj H o.guard=sO true){len n z is xs}(hk:o.k=.bsl len n z is xs){p es ds}(ha:Z8 H true xs=sO (p,es))(hds:Ka es=sO ds)(hp:p)(hok:Qd n ds=true)(hl0:0<len)(h:∀b,s b=nO->DO F kp dk os (Zx H o.dst (.d (.msl b 0 len len n))) L (s.upd b (.cells ((ZIM len).flatMap (ZV z (is.zip ds)))))):DO F kp dk (o::os) H L s:=by
 refine Y7 λoo g Z w tmps aw i r k ap ab ak ag hd hN m hr al=>?_;have hw:=Z7 m ak hg;have am:=Yb ab (by rw[hk];rfl);rw[hk]at ab;obtain⟨t,e,parts,aq,hu,ar,hz,au,rfl,af,av,aj,ae⟩:=Zyd ab;have u:=Zce m rfl F.ds au ha hp;have ac:=K5 u hds;obtain⟨cv,h1,h2,h3⟩:=ZBU (P:=P) (g:=g) (w:=w) (parts:=parts.toList.map λx=>(x.1,(Act.mk tmps F.ds).eval x.2)) hu ar hz (by simpa[List.map_map,Function.comp_def]using af) av aj ae hl0
  (by simpa[List.map_map,Function.comp_def]using ac) hok
 have ad:ZI (Rep g w) cv.toList ((ZIM len).flatMap (ZV z ((parts.toList.map (·.1)).zip ds))):=by simpa[List.map_map,Function.comp_def]using h2
 have ah:=J2 (g:=g) (w:=w) (.cells cv e) m.st.fresh;have he:=ah.ext m.st.fresh;have ao:WJ g (w.alloc (.cells cv e)) w.heap.size (.cells ((ZIM len).flatMap (ZV z ((parts.toList.map (·.1)).zip ds)))) :=
  ⟨(m.st.fresh _ (ZIO _)).1,_,e,Kk w,by rw[<-ad.len];simp,λi v d hv hd=>(ad.get i v d (by simpa using hv) hd).mono he,h3⟩
 obtain⟨hn,m'⟩:=m.newObj ah ao;have ai:(execOp (Act.mk tmps F.ds).eval oo).run P w=.ok (.value (.slice (sO ⟨w.heap.size,0,nO⟩) len len)) (w.alloc (.cells cv e)):=by
  simp only[execOp,aq,Sem.run_bind];have e1:(parts.map λx=>(x.1,(Act.mk tmps F.ds).eval x.2))=(parts.toList.map λx=>(x.1,(Act.mk tmps F.ds).eval x.2)).toArray:=by apply Array.ext';simp
  rw[e1,h1];rfl
 refine Yk (L':=L) hN ap ag hd hw am (e:=.d (.msl w.heap.size 0 len len n)) ai he m' (Rep.msl _ _ _ _ _ (ZIO _) ?_) ?_;unfold big;have:len<=len*n:=Nat.le_mul_of_pos_right _ aj;omega;exact h _ hn aw r k hr al
def ZpC(o:DOp)(H:Env)(L:Loc)(s:St):SR :=
 match o.k with
 |.bsl _ _ _ _ _=>.stop
 |_=>ZF o H L s
def ZlH(K:Env->Loc->St->Prop)(X:List DOp->Env->Loc->St->Prop):List DOp->Env->Loc->St->Prop
 | [],H,L,s=>K H L s
 |o::os,H,L,s=>match ZpC o H L s with
  |.ok side H' L' s'=>side/\ZlH K X os H' L' s'
  |.all side pre H' s'=>side/\∀b,pre b->ZlH K X os (H' b) L (s' b)
  |.stop=>X (o::os) H L s
def Zlz{F:Fr P}{kp}{dk}:∀{os} {H} {L} {s},
  ZlH (λH L s=>Zt F dk (kept kp H) (ZlM kp H L) s) (λos H L s=>DO F kp dk os H L s) os H L s->DO F kp dk os H L s
 | [],H,L,s,h=>Ze8 h
 |o::os,H,L,s,h=>by
  have t:∀r,ZpC o H L s=r->r=.stop\/ZF o H L s=r:=λr u=>by unfold ZpC at u;split at u;exact .inl u.symm;exact .inr u
  simp only[ZlH]at h;split at h;rename_i sd H' L' s' h1;rcases t _ h1 with h2|h2;cases h2;exact QJ h2 h.1 (Zlz h.2);rename_i sd pre H' s' h1;rcases t _ h1 with h2|h2;cases h2;exact Zn7 h2 h.1 λb hb=>Zlz (h.2 b hb);exact h
def ZvF{g w s sz m v1 v2 row row2 tT u ty e tu i z}(ht:P.underlying tT=sO (.slice e))(hu:P.underlying u=sO tu)(hnu:∀k,tu≠.int k)(hi:P.info? e=sO i)(hz:i.zero=sO z)(hsz:i.size=sz)(hzc:z.cells.size=sz)(hone:∀x∈z.cells,x.one1=true)(h0:0<sz)(hs:Yf g s w)(h1:Rep g w v1 (.sl .full 0 sz row)){news}(hm:0<m)(h2:WK g w sz m news row2)(h3:Zbp P w sz m v2 news)(hb:m*i.bytes<=140737488355328)(hbig:m<=big):
    ∃(cap:Nat) (cv:Array Value),(Builtin.append_ #[tT,u] ty #[v1,v2]).run P w=.ok (.slice (sO ⟨w.heap.size,0,nO⟩) m cap) (w.drew.alloc (.cells cv e))/\m<=cap/\cap<=big/\cv.size=cap*sz/\(∀v∈cv,v.one1=true) /\
      ∀(k:Nat) (v d),cv[k]?=sO v->((ZIM m).flatMap row2++List.replicate ((cap-m)*sz) .any)[k]?=sO d->Rep g w v d:=by
  subst hsz;have ab:∀ac,v1=.slice ac 0 0->∃(cap:Nat) (cv:Array Value),(Builtin.append_ #[tT,u] ty #[v1,v2]).run P w=.ok (.slice (sO ⟨w.heap.size,0,nO⟩) m cap) (w.drew.alloc (.cells cv e))/\m<=cap/\cap<=big/\cv.size=cap*i.size/\(∀v∈cv,v.one1=true) /\
      ∀(k:Nat) (v:Value) (d:D),cv[k]?=sO v->((ZIM m).flatMap row2++List.replicate ((cap-m)*i.size) .any)[k]?=sO d->Rep g w v d:=by
    intro ac hv;subst hv;obtain⟨ak,aq,ho1,ap⟩:=ZiZ (P:=P) h1 h0;have ao:ak=[]:=List.eq_nil_of_length_eq_zero (by simpa using aq.len);subst ao;have ho:=ap;have ad:=Znh (ty:=ty) (n:=0) (cap:=0) ht hu hnu hi hz h3 ho ω (by simp only[big]at hbig;omega) (by rw[Nat.zero_add];exact hb);rw[Nat.zero_add]at ad;have al:=grownCap_ge w m 0 e;have am:=grownCap_le_maxLen w m 0 e (by simp only[big]at hbig;simp only[maxLen];omega);refine⟨_,_,ad,al,by simp only[maxLen]at am;simp only[big];omega,?_,λv hv=>?_,λk v d hv hd=>?_⟩;simp only[List.nil_append,List.size_toArray,ZII,h2.len,Array.length_toList,size_zeroCells,hzc,<-ZIX]
    congr 1;omega
    . simp only[List.nil_append,List.mem_toArray,List.mem_append]at hv;rcases hv with hv|hv;exact h2.one v hv;simp only[Builtin.zeroCells,Array.mem_toList_iff]at hv;first
      | (simp only[Array.mem_map,Array.mem_range]at hv
         obtain⟨a,_,rfl⟩:=hv;have ah:a % z.cells.size<z.cells.size:=Nat.mod_lt _ ω;rw[getElem!_pos z.cells (a % z.cells.size) ah];exact hone _ (Array.getElem_mem ah))
    simp only[List.nil_append,List.getElem?_toArray]at hv;have ag:((ZIM m).flatMap row2).length=m*i.size:=by
      have:∀k,k<=m->((ZIM k).flatMap row2).length=k*i.size:=by
        intro k;induction k with
        |zero=>intro _;simp
        |succ k ih =>intro hk;rw[List.range_succ,List.flatMap_append,ZII,ih ω];simp[h2.rlen k hk,ZIX]
      exact this m (ZIO _)
    by_cases hk:k<m*i.size
    . rw[ZI6 (by rw[h2.len];exact hk)]at hv;rw[ZI6 (by rw[ag];exact hk)]at hd;have aj:k / i.size<m:=Nat.div_lt_of_lt_mul (by rw[Nat.mul_comm];exact hk);have ai:k % i.size<i.size:=Nat.mod_lt _ h0;have e1:k / i.size*i.size+k % i.size=k:=by rw[Nat.mul_comm];exact Nat.div_add_mod k i.size
      refine h2.rep (k / i.size) (k % i.size) v d aj ai (by rw[e1];exact hv) ?_;have ar:∀q,q<=m->∀a b,a<q->b<i.size->((ZIM q).flatMap row2)[a*i.size+b]?=(row2 a)[b]?:=by
        intro q;induction q with
        |zero=>intro _ a b ha;omega
        |succ q ih =>
          intro hq a b ha hb;have ae:((ZIM q).flatMap row2).length=q*i.size:=by
            have:∀k,k<=m->((ZIM k).flatMap row2).length=k*i.size:=by
              intro k;induction k with
              |zero=>intro _;simp
              |succ k ih =>intro hk;rw[List.range_succ,List.flatMap_append,ZII,ih ω];simp[h2.rlen k hk,ZIX]
            exact this q ω
          rw[List.range_succ,List.flatMap_append];by_cases af:a<q;have:a*i.size+b<q*i.size:=by have:=ZIT i.size (show a+1<=q from af);rw[ZIX,Nat.one_mul]at this;omega
          rw[ZI6 (by rw[ae];exact this)];exact ih ω a b af hb;obtain rfl:a=q:=ω;rw[ZJi (by rw[ae];omega),ae];simp
      rw[<-ar m (ZIO _) _ _ aj ai,e1];exact hd
    rw[ZJi (by rw[ag];omega),List.getElem?_replicate]at hd;split at hd;simp only[ZIx]at hd;subst hd;exact .any v;simp at hd
  cases h1 with
  |sl0 a t s row htt=>exact ab a rfl
  |sl b o n cap sz row t f hl hc hp hr one htok hcap hb' =>simp only[ZlC]at htok;subst htok;exact ab _ rfl
def Zvw{F:Fr P}{kp dk o os H L s}(hg:Zj H o.guard=sO true){e sz b z x y}(hk:o.k=.append e sz b z x y){p q m row row2 dy dx}(hx:ZC H true x=sO (p,.d dx))(hsl:Zeh sz dx=sO (.full,0,row))(hy:ZC H true y=sO (q,.d dy))(hel:ZaP sz dy=sO (m,row2))(hp:p)(hq:q)(hm:0<m)(hb:m*b<=140737488355328)(hbig:m<=big)(h:∀c cap,s c=nO->m<=cap->DO F kp dk os (Zx H o.dst (.d (.msl c 0 m cap sz))) L (s.upd c (.cells ((ZIM m).flatMap row2++List.replicate ((cap-m)*sz) .any)))):
  DO F kp dk (o::os) H L s:=by
 refine Y7 λoo g Z w tmps bi i r k az u aq ag hd hN M hr au=>?_;have hw:=Z7 M aq hg;have aw:=Yb u (by rw[hk];rfl);rw[hk]at u;obtain⟨x',y',ae,aj,t1,t2,tu,a0,t,ak,al,ba,bb,ax,a9,hz,ao,bc,be,h0,hzl⟩:=ZaK u;subst ao;have a7:Rep g w _ (.sl .full 0 sz row):=Zhu (ZY M bc rfl hx hp F.ds) hsl;have a8:Rep g w _ _:=ZY M be rfl hy hq F.ds;obtain⟨zv,hz1,bf,bg,ie,ab,bh⟩:=Qh (g:=g) (w:=w) hz;have ac:ie.size=sz:=by simpa[ZS,ab]using a9
 have ad:zv.cells.size=sz:=by have:=bf.len;simp at this;omega
 have ap:P.bytesOf e=ie.bytes:=by simp[Program.bytesOf,ab]
 rw[ap]at hb;obtain⟨news,ai,av⟩:=Zns (P:=P) a8 hel h0;obtain⟨cap,cv,a1,a2,a3,a4,a5,a6⟩:=ZvF (ty:=oo.type) ba bb ax ab bh ac ad bg h0 M.st a7 hm ai av hb hbig;have ah:JW g w g (w.drew.alloc (.cells cv e)):=Zke (g:=g) (w:=w) cv e M.st.fresh;have he:=ah.ext M.st.fresh;have ar:((ZIM m).flatMap row2).length=m*sz:=by
  have:∀k,k<=m->((ZIM k).flatMap row2).length=k*sz:=by
   intro k;induction k with
   |zero=>intro _;simp
   |succ k ih =>intro hk;rw[List.range_succ,List.flatMap_append,ZII,ih ω];simp[ai.rlen k hk,ZIX]
  exact this m (ZIO _)
 have ay:WJ g (w.drew.alloc (.cells cv e)) w.heap.size (.cells ((ZIM m).flatMap row2++List.replicate ((cap-m)*sz) .any)) :=
  ⟨(M.st.fresh _ (ZIO _)).1,_,e,Kk w.drew,by rw[ZII,ar,List.length_replicate,a4,<-ZIX];congr 1;omega,λi v d hv hd=>(a6 i v d hv hd).mono he,a5⟩
 obtain⟨hn,m'⟩:=M.newObj ah ay;refine Yk (L':=L) hN az ag hd hw aw (e:=.d (.msl w.heap.size 0 m cap sz)) ?_ he m' (Rep.msl _ _ _ _ _ a2 a3) (h _ cap hn a2 bi r k hr au);have am:ae = #[x',y']:=by apply Array.ext';simpa using t
 have af:∀vs,Builtin.append_ aj oo.type vs=Builtin.append_ #[t1,t2] oo.type vs:=λvs=>by unfold Builtin.append_;simp[ak,al]
 unfold execOp;simp only[a0,am,resolve,invoke,builtin,Sem.run_bind,Sem.run_pure,Result.andThen_ok,List.map_toArray,ZIQ,ZI9,af,a1]
end
def ZwC(g:G)(w:World)(b:Nat)(ds:List D):Prop :=
 ∃(vs:Array Value) (T:TypeId),w.heap[b]?=sO (.cells vs T (0,0))/\vs.size=I ds/\(∀(i:Nat) (v:Value) (d:D),vs[i]?=sO v->ds[i]?=sO d->Rep g w v d)/\(∀v∈vs,v.one1=true)/\I ds<=g.prot b
def Ya(t:St)(Ln:List Nat)(d d':D):Prop:=∀g w v,(∀b∈Ln,∀ds,t b=sO (.cells ds)->ZwC g w b ds)->Rep g w v d->Rep g w v d'
inductive LdC(t:St)(Ln:List Nat):List D->List D->Prop where
 |nil:LdC t Ln [] []
 |cons {d d':D} {l l':List D} (h:Ya t Ln d d') (r:LdC t Ln l l'):LdC t Ln (d::l) (d'::l')
def Ya.refl{t Ln}(d):Ya t Ln d d:=λ_ _ _ _ h=>h
def Ya.of_le{t Ln d u}(h:d.Le u):Ya t Ln d u:=λg w v _ hr=>h g w v hr
def LdC.refl{t Ln}:∀l:List D,LdC t Ln l l
 | []=>.nil
 |d::l=>.cons (Ya.refl d) (LdC.refl l)
def LdC.len{t Ln l l'}(h:LdC t Ln l l'):I l=I l':=by
 induction h with
 |nil=>rfl
 |cons _ _ ih=>simp[ih]
def LdC.get{t Ln l l'}(h:LdC t Ln l l'){i:Nat}{d'}(u:l'[i]?=sO d'):∃d,l[i]?=sO d/\Ya t Ln d d':=by
 induction h generalizing i with
 |nil=>simp at u
 |cons h1 _ ih =>
  cases i with
  |zero=>simp at u;subst u;exact⟨_,rfl,h1⟩
  |succ i=>simpa using ih (by simpa using u)
def Ya.agg{t Ln l l'}(h:LdC t Ln l l'):Ya t Ln (.agg l) (.agg l'):=by
 intro g w v hf hr;cases hr with
 |agg vs _ hn hc one =>refine .agg vs _ (hn.trans h.len) (λi v d hv hd=>?_) one;obtain⟨x,hx,u⟩:=h.get hd;exact u g w v hf (hc i v x hv hx)
def Ya.msl{t Ln b n cap sz ds row}(hb:b∈Ln)(ht:t b=sO (.cells ds))(hlen:n*sz<=I ds)(hrow:∀i,i<n->LdC t Ln ((ds.drop (i*sz)).take sz) (row i)):Ya t Ln (.msl b 0 n cap sz) (.sl .none n sz row):=by
 intro g w v hf hr;obtain⟨vs,T,hh,hsz,hc,one,hp⟩:=hf b hb ds ht;cases hr with
 |mslx a _ _ _=>exact .sl0 _ _ _ _ ψ
 |msl _ _ _ _ _ hcap hbig =>
 have ab:∀i j,i<n->j<sz->i*sz+j<I ds:=λi j hi hj=>by have:(i+1)*sz<=n*sz:=ZIT _ hi;rw[ZIX,Nat.one_mul]at this;omega
 have u:∀i j,i<n->j<sz->vs[i*sz+j]?=sO (vs.getD (i*sz+j) undef):=λi j hi hj=>by have h1:=ab i j hi hj;simp only[ZJm,Array.getElem?_eq_getElem (show i*sz+j<vs.size by omega),ZJe]
 have ac:∀i j,i<n->j<sz->vs.getD (i*sz+j) undef∈vs:=λi j hi hj=>by have h1:=ab i j hi hj;simp only[ZJm,Array.getElem?_eq_getElem (show i*sz+j<vs.size by omega),ZJe];exact Array.getElem_mem _
 have ad:∀i,i<n->(row i).length=sz:=λi hi=>by rw[<-(hrow i hi).len,ZIS,ZI8];have:(i+1)*sz<=n*sz:=ZIT _ hi;rw[ZIX,Nat.one_mul]at this;omega
 refine .sl b 0 n cap sz row .none (λi j=>vs.getD (i*sz+j) undef) ad (λi j hi hj=>?_) (λi j hi hj=>?_) (λi j d hi hd=>?_) (λi j hi hj=>one _ (ac i j hi hj)) trivial hcap hbig;rw[Nat.zero_add,JO hh];exact u i j hi hj;have:=ab i j hi hj;omega;have hj:j<sz:=by rw[<-ad i hi];exact(List.getElem?_eq_some_iff.1 hd).1
 obtain⟨x,hx,ae⟩:=(hrow i hi).get hd;rw[ZJf,if_pos hj,List.getElem?_drop]at hx;exact ae g w _ hf (hc _ _ x (u i j hi hj) hx)
inductive LdE(t:St)(Ln:List Nat):Env->Env->Prop where
 |nil:LdE t Ln [] []
 |cons {k:Nat} {d d':D} {H H':Env} (h:Ya t Ln d d') (r:LdE t Ln H H'):LdE t Ln ((k,.d d)::H) ((k,.d d')::H')
 |skip {k:Nat} {e:E} {H H':Env} (r:LdE t Ln H H'):LdE t Ln ((k,e)::H) ((k,e)::H')
inductive LdL(t:St)(Ln:List Nat):Loc->Loc->Prop where
 |nil:LdL t Ln [] []
 |cons {k:Nat} {c c':List D} {L L':Loc} (h:LdC t Ln c c') (r:LdL t Ln L L'):LdL t Ln ((k,c)::L) ((k,c')::L')
def LdE.get{t Ln H H'}(h:LdE t Ln H H'){k e'}(u:ZM H' k=sO e'):∃e,ZM H k=sO e/\(e=e'\/∃x y,e=.d x/\e'=.d y/\Ya t Ln x y):=by
 induction h with
 |nil=>simp[ZM]at u
 |cons h1 _ ih =>rename_i k' d d' H H' _;simp only[ZM]at u⊢;by_cases hk:k'=k;simp only[hk,if_true,ZIx]at u⊢;exact⟨_,rfl,.inr ⟨d,d',rfl,u.symm,h1⟩⟩;simp only[hk,if_false]at u⊢;exact ih u
 |skip _ ih =>rename_i k' e H H' _;simp only[ZM]at u⊢;by_cases hk:k'=k;simp only[hk,if_true,ZIx]at u⊢;exact⟨_,rfl,.inl u⟩;simp only[hk,if_false]at u⊢;exact ih u
def LdL.get{t Ln L L'}(h:LdL t Ln L L'){k c'}(u:Zh L' k=sO c'):∃c,Zh L k=sO c/\LdC t Ln c c':=by
 induction h with
 |nil=>simp[Zh]at u
 |cons h1 _ ih =>rename_i k' c c' L L' _;simp only[Zh]at u⊢;by_cases hk:k'=k;simp only[hk,if_true,ZIx]at u⊢;exact⟨_,rfl,u▸h1⟩;simp only[hk,if_false]at u⊢;exact ih u
def LdL.getI{t Ln L L'}(h:LdL t Ln L L'){k c}(u:Zh L k=sO c):∃c',Zh L' k=sO c':=by
 induction h with
 |nil=>simp[Zh]at u
 |cons h1 _ ih =>rename_i k' c c' L L' _;simp only[Zh]at u⊢;by_cases hk:k'=k;simp only[hk,if_true];exact⟨_,rfl⟩;simp only[hk,if_false]at u⊢;exact ih u
def St.delL(s:St)(Ln:List Nat):St:=λb=>if b∈Ln then nO else s b
def KF(g:G)(t:St)(Ln:List Nat):G:={ g with prot:=λb=>if b∈Ln then (match t b with|some (.cells ds)=>I ds|_=>0) else g.prot b }
def Js{t:St}{Ln:List Nat}(hs:Yf g t w)(hL:∀b∈Ln,∃ds,t b=sO (.cells ds)):Ext g w (KF g t Ln) w:={
 size:=ZIO _
 prot b:=by simp only[KF];split;rename_i h;obtain⟨ds,u⟩:=hL b h;have:=(hs.obj b _ u).1;omega;exact ZIO _
 cell _ _ _:=rfl
 hdr _ _ h:=h
 kept _ _:=rfl
 keptProt b hb:=by simp only[KF];split;rename_i h;obtain⟨ds,u⟩:=hL b h;exact absurd hb (hs.kept b _ u);rfl
 keptEq:=rfl
 os:=rfl
 output:=rfl
 tape:=rfl }
def ZeZ{g w t Ln}(hs:Yf g t w)(hL:∀b∈Ln,∃ds,t b=sO (.cells ds)):∀b∈Ln,∀ds,t b=sO (.cells ds)->ZwC (KF g t Ln) w b ds:=by
 intro b hb ds hd;obtain⟨hp,vs,T,h1,h2,h3,h4⟩:=hs.obj b _ hd;exact⟨vs,T,h1,h2,λi v d hv u=>(h3 i v d hv u).mono (Js hs hL),h4,by simp only[KF,if_pos hb,hd];exact ZIO _⟩
section
variable {P:Program}
def ZjA{F:Fr P}{dk H H' L L' s}(Ln)(hL:∀b∈Ln,∃ds,s b=sO (.cells ds))(hE:LdE s Ln H H')(hLL:LdL s Ln L L')(k:Zt F dk H' L' (s.delL Ln)):Zt F dk H L s:=by
 intro kk hk g Z w tmps hN m;have hx:=Js m.st hL;have ab:=ZeZ m.st hL;have u:∀c,c∉Ln->(KF g s Ln).prot c=g.prot c:=λc hc=>by simp only[KF,if_neg hc]
 refine F.T.ext _ _ _ _ _ hx (k kk hk _ Z w tmps hN ?_);have af:∀l cs,Zh L l=sO cs->Z l∉Ln:=λl cs hl h=>by obtain⟨ds,hd⟩:=hL _ h;have:=m.locSt l cs hl;rw[hd]at this;simp at this
 refine⟨⟨λc x t=>?_,λc x t=>?_,λc hc=>?_,λn cs hc=>(m.st.tabs n cs hc).mono hx⟩,λl cs hl=>?_,λl cs hl=>?_,λl cs hl=>?_,λl l' cs cs' h1 h2=>?_,λt' e he=>?_⟩;simp only[St.delL]at t;by_cases hc:c∈Ln;simp[hc]at t;simp only[hc,if_false]at t;exact(m.st.obj c x t).mono hx rfl (u c hc);simp only[St.delL]at t;by_cases hc:c∈Ln;simp[hc]at t;simp only[hc,if_false]at t;exact m.st.kept c x t;have h1:=m.st.fresh c hc;refine⟨(u c λh=>?_).trans h1.1,h1.2⟩;obtain⟨ds,hd⟩:=hL c h;have:=(m.st.obj c _ hd).lt;omega;obtain⟨c,hc,ac⟩:=hLL.get hl;have ae:=(m.loc l c hc).mono hx rfl (u _ (af l c hc));obtain⟨h1,vs,T,h2,h3,h4,h5⟩:=ae;refine⟨h1,vs,T,h2,h3.trans ac.len,λi v d hv hd=>?_,h5⟩;obtain⟨x,ag,ah⟩:=ac.get hd;exact ah _ w v ab (h4 i v x hv ag);obtain⟨c,hc,_⟩:=hLL.get hl;exact m.locKept l c hc;obtain⟨c,hc,_⟩:=hLL.get hl;simp only[St.delL];split;rfl;exact m.locSt l c hc;obtain⟨c,hc,_⟩:=hLL.get h1;obtain⟨c',ad,_⟩:=hLL.get h2;exact m.inj l l' c c' hc ad;obtain⟨e0,h0,h1⟩:=hE.get he;have hr:=m.env t' e0 h0;rcases h1 with h1|⟨x,y,h1,h2,h3⟩;subst h1;exact(hr.mono hx).locs λl cs hl=>⟨(hLL.getI hl),rfl⟩;subst h1;subst h2;exact h3 _ w _ ab (Rep.mono hr hx)
inductive SC(N:Nat->Prop):D->Prop where
 |int (k:IntKind) (n:Int):SC N (.int k n)
 |bool (b:Bool):SC N (.bool b)
 |str (l:List UInt8):SC N (.str l)
 |nilsl:SC N .nilsl
 |agg (cs:List D) (h:∀c∈cs,SC N c):SC N (.agg cs)
 |tup (cs:List D) (h:∀c∈cs,SC N c):SC N (.tup cs)
 |sl0 (t:Tok) (s:Nat) (row:Nat->List D):SC N (.sl t 0 s row)
 |tip (b n s:Nat) (row:Nat->List D) (hb:N b) (h:∀i,i<n->∀c∈row i,SC N c):SC N (.sl (.tip b) n s row)
 |ptr (b o:Nat):SC N (.ptr b o)
 |msl (b o n cap s:Nat):SC N (.msl b o n cap s)
 |fn (f:Fn) (a b:List D) (ha:∀c∈a,SC N c) (hb:∀c∈b,SC N c):SC N (.fn f a b)
 |nilptr:SC N .nilptr
 |map (b:Nat):SC N (.map b)
 |nilmap:SC N .nilmap
 |nilfn:SC N .nilfn
 |niliface:SC N .niliface
 |undef:SC N .undef
def SC.rep{N d}(h:SC N d):∀{g g' w v},(∀b,N b->g.prot b<=g'.prot b)->Rep g w v d->Rep g' w v d:=by
 induction h with
 |int k n=>intro g g' w v _ hr;cases hr with|int _ _ h=>exact .int k n h
 |bool b=>intro g g' w v _ hr;cases hr;exact .bool b
 |str l=>intro g g' w v _ hr;cases hr with|str s _ h hb=>exact .str s l h hb
 |nilsl=>intro g g' w v _ hr;cases hr;exact .nilsl
 |agg cs _ ih =>
  intro g g' w v hp hr;cases hr with
  |agg vs _ hn hc one=>exact .agg vs cs hn (λi v d hv hd=>ih d (List.mem_of_getElem? hd) hp (hc i v d hv hd)) one
 |tup cs _ ih =>
  intro g g' w v hp hr;cases hr with
  |tup vs _ hn hc=>exact .tup vs cs hn (λi v d hv hd=>ih d (List.mem_of_getElem? hd) hp (hc i v d hv hd))
 |sl0 t s row =>
  intro g g' w v hp hr;cases hr with
  |sl0 _ _ _ _ ht=>exact .sl0 _ t s row ht
  |sl b o n cap sz _ t f hl hc hpp hrr one ht hcap hb =>exact .sl b o 0 cap s row t f hl hc (λi j hi=>by omega) (λi j d hi=>by omega) one ht hcap hb
 |tip b n s row hb _ ih =>
  intro g g' w v hp hr;cases hr with
  |sl0 _ _ _ _ ht=>exact .sl0 _ _ s row ht
  |sl b' o n cap sz _ t f hl hc hpp hrr one ht hcap hbig =>have u:b'=b:=ht.1;subst u;exact .sl b' o n cap s row (.tip b') f hl hc (λi j hi hj=>Nat.lt_of_lt_of_le (hpp i j hi hj) (hp _ hb)) (λi j d hi hd=>ih i hi d (List.mem_of_getElem? hd) hp (hrr i j d hi hd)) one ht hcap hbig
 |ptr b o=>intro g g' w v _ hr;cases hr;exact .ptr b o
 |msl b o n cap s=>intro g g' w v _ hr;cases hr with|msl _ _ _ _ _ h hb=>exact .msl b o n cap s h hb|mslx a _ _ _=>exact .mslx a _ _ _
 |fn f a b _ _ iha ihb =>
  intro g g' w v hp hr;cases hr with
  |fn _ fs cs _ _ hnf hnc hf hc=>exact .fn f fs cs a b hnf hnc (λi v d hv hd=>iha d (List.mem_of_getElem? hd) hp (hf i v d hv hd)) (λi v d hv hd=>ihb d (List.mem_of_getElem? hd) hp (hc i v d hv hd))
 |nilptr=>intro g g' w v _ hr;cases hr;exact .nilptr
 |map b=>intro g g' w v _ hr;cases hr;exact .map b
 |nilmap=>intro g g' w v _ hr;cases hr;exact .nilmap
 |nilfn=>intro g g' w v _ hr;cases hr;exact .nilfn
 |niliface=>intro g g' w v _ hr;cases hr;exact .niliface
 |undef=>intro g g' w v _ hr;cases hr;exact .undef
def SCO(N:Nat->Prop):QO->Prop
 |.cells ds=>∀d∈ds,SC N d
 |.map es=>∀e∈es,SC N e.1/\SC N e.2
 |.tip _=>True
 |.dfr=>True
 |_=>False
def SCO.ok{N o}(h:SCO N o){g g' w b}(hp:∀b,N b->g.prot b<=g'.prot b)(t:g'.prot b=g.prot b)(hr:WJ g w b o):WJ g' w b o:=by
 cases o with
 |cells ds =>obtain⟨h0,vs,T,h1,h2,h3,h4⟩:=hr;exact⟨t.trans h0,vs,T,h1,h2,λi v d hv u=>(h d (List.mem_of_getElem? u)).rep hp (h3 i v d hv u),h4⟩
 |map es =>obtain⟨h0,en,cl,h1,h2,h3,h4,h5,h6⟩:=hr;exact⟨t.trans h0,en,cl,h1,h2,λi x d hv u=>(h d (List.mem_of_getElem? u)).1.rep hp (h3 i x d hv u),λi x d hv u=>(h d (List.mem_of_getElem? u)).2.rep hp (h4 i x d hv u),h5,h6⟩
 |tip k =>obtain⟨h0,x⟩:=hr;exact⟨t.trans h0,x⟩
 |dfr=>exact⟨t.trans hr.1,hr.2⟩
 |mapE _ _ _ _=>exact h.elim
 |loop _ _=>exact h.elim
def SCR(N:Nat->Prop):Res->Prop
 |.ret d=>SC N d
 |.panic d=>SC N d
def ZI.ldC{g w t Ln}(hf:∀b∈Ln,∀ds,t b=sO (.cells ds)->ZwC g w b ds){vs a u}(h:ZI (Rep g w) vs a)(hl:LdC t Ln a u):ZI (Rep g w) vs u:=by
 induction hl generalizing vs with
 |nil=>cases h;exact .nil
 |cons h1 _ ih=>cases h with|cons h2 h3=>exact .cons (h1 _ _ _ hf h2) (ih h3)
def Za.lend{f args args' t Ln Φ}(hL:∀b∈Ln,∃ds,t b=sO (.cells ds))(hl:LdC t Ln args args')(h:Za P f args' (λ_=>nO) Φ)(hΦ:∀r S,Φ r S->SCR (λb=>(S b).isSome=true) r/\∀b o,S b=sO o->SCO (λb=>(S b).isSome=true) o):
  Za P f args t λr S=>∃S',Φ r S'/\Z6 S' t/\S=S'.or t:=by
 refine⟨h.1,λg w vs hs ha=>?_⟩;have hx:=Js hs hL;have am:=ZeZ hs hL;have al:ZI (Rep (KF g t Ln) w) vs args':=ZI.ldC am (ha.imp λ_ _ h=>Rep.mono h hx) hl;have ap:Yf ((KF g t Ln).keep λb=>g.kept b\/(t b).isSome=true) (λ_=>nO) w:=by
  refine⟨λb o hb=>by simp at hb,λb o hb=>by simp at hb,λb hb=>?_,λn cs hc=>WX ((hs.tabs n cs hc).mono hx)⟩;have h1:=hs.fresh b hb;have ad:t b=nO:=by
   cases ad:t b with
   |none=>rfl
   |some o=>have:=(hs.obj b o ad).lt;omega
  have ab:b∉Ln:=λhm=>by obtain⟨ds,hd⟩:=hL b hm;rw[ad]at hd;simp at hd
  exact⟨by show(KF g t Ln).prot b=0;simp only[KF,if_neg ab];exact h1.1,λhk=>by rcases hk with hk|hk;exact h1.2 hk;rw[ad]at hk;simp at hk⟩
 refine(h.2 _ w vs ap (al.imp λ_ _ h=>WX h)).mono λe w' hp=>?_;obtain⟨g',S',r,he,hS,hr,hq⟩:=hp;have ac:=he.keptEq;obtain⟨ae,ak⟩:=hΦ r S' hq;have ai:Z6 S' t:=λb o hb=>by
  cases u:S' b with
  |none=>rfl
  |some x=>exact absurd (by rw[ac];exact .inr (by rw[hb];rfl)) (hS.kept b x u)
 have aj:∀b,(S' b).isSome=true->b∉Ln:=λb hb hm=>by obtain⟨ds,hd⟩:=hL b hm;rw[ai b _ hd]at hb;simp at hb
 let g2:G:={ prot:=λb=>if b∈Ln then 0 else g'.prot b,kept:=g.kept };have ah:∀b,(S' b).isSome=true->g'.prot b<=g2.prot b:=λb hb=>by simp only[g2,if_neg (aj b hb)];exact ZIO _
 have hf:∀b,b∉Ln->(KF g t Ln).prot b=g.prot b:=λb hb=>by simp only[KF,if_neg hb]
 have ag:∀b,b∈Ln->g.prot b=0:=λb hb=>by obtain⟨ds,hd⟩:=hL b hb;exact(hs.obj b _ hd).1
 have af:Ext g w g2 w':=by
  refine⟨he.size,λb=>?_,λb o ho=>?_,he.hdr,λb hb=>he.kept b (.inl hb),λb hb=>?_,rfl,he.os,he.output,he.tape⟩;simp only[g2];split;rename_i hb;rw[ag b hb];exact ZIO _;rename_i hb;rw[<-hf b hb];exact he.prot b;have hb:b∉Ln:=λhb=>by rw[ag b hb]at ho;omega
  exact he.cell b o (by show o<(KF g t Ln).prot b;rw[hf b hb];exact ho);have ab:b∉Ln:=λhm=>by obtain⟨ds,hd⟩:=hL b hm;exact hs.kept b _ hd hb
  simp only[g2,if_neg ab];rw[<-hf b ab];exact he.keptProt b (.inl hb)
 have hg'0:∀b,w'.heap.size<=b->g'.prot b=0/\¬g'.kept b:=λb hb=>hS.fresh b hb;refine⟨g2,S'.or t,r,af,⟨λb o hb=>?_,λb o hb=>?_,λb hb=>?_,λn cs hc=>(hs.tabs n cs hc).mono af⟩,?_,S',hq,ai,rfl⟩
 .cases u:S' b with
  |some x =>
   rw[Zs u]at hb;cases hb;have ao:(S' b).isSome=true:=by rw[u];rfl
   exact(ak b _ u).ok ah (by simp only[g2,if_neg (aj b ao)]) (hS.obj b _ u)
  |none =>rw[ZJ u]at hb;have hk:g.kept b\/(t b).isSome=true:=.inr (by rw[hb];rfl);refine(hs.obj b o hb).mono af (he.kept b hk) ?_;by_cases ab:b∈Ln;simp only[g2,if_pos ab];exact(ag b ab).symm;simp only[g2,if_neg ab];rw[<-hf b ab];exact he.keptProt b hk
 .cases u:S' b with
  |some x=>exact λhk=>hS.kept b x u (by rw[ac];exact .inl hk)
  |none=>rw[ZJ u]at hb;exact hs.kept b o hb
 have:=hS.fresh b hb;refine⟨?_,λhk=>this.2 (by rw[ac];exact .inl hk)⟩;simp only[g2];split;rfl;exact this.1;cases e<;>cases r<;>simp only[Zod]at hr⊢;exact SC.rep ae ah hr;obtain⟨v,h1,h2⟩:=hr;exact⟨v,h1,SC.rep ae ah h2⟩
end
end Go.DL
namespace Go.DL
open Go Go.ChangeShapes Go.RowKit Go.WideShapes Go.ChangeAt
variable [Zs5]
def Zc2(W:World):G:={ prot:=λb=>match W.heap[b]? with|some (.cells vs _ _)=>vs.size|_=>0,kept:=λb=>b<W.heap.size }
def Zoe(W:World):Prop:=∀n cs,Zs5.tab n=sO cs->Rep (Zc2 W) W (.pointer (sO ⟨n,0,nO⟩)) (.ep cs 0)
def ZCZ{W:World}(t:Zoe W):Yf (Zc2 W) (λ_=>nO) W:={
 tabs:=t
 obj b o h:=by simp at h
 kept b o h:=by simp at h
 fresh b hb:=⟨by simp[Zc2,hb],by simp only[Zc2];omega⟩ }
def ZCX{P W name g k}{zs:List Int}(h:W.var? P name=sO (zs.map λz=>Value.int k z).toArray)(hg:P.globalNamed name=sO g)(hz:∀z∈zs,inR k z) :
  Rep (Zc2 W) W (.pointer (sO ⟨g,0,nO⟩)) (.ep (zs.map λz=>.int k z) 0):=by
 unfold World.var? at h;rw[hg]at h;simp only[Option.bind_some]at h;split at h<;>(try(simp at h;done));rename_i cs T fr hh;simp only[ZIx]at h;subst h;have u:∀i (hi:i<I zs),W.cell? ⟨g,0+i,nO⟩=sO (.int k zs[i]):=λi hi=>by simp only[World.cell?,hh];simp[hi]
 refine .ep g 0 0 _ (λi=>.int k (zs.getD i 0)) (λi hi=>?_) (λi hi=>?_) (λi d hd=>?_) (λi hi=>rfl);simp only[ZIU]at hi;rw[u i hi];simp[ZIN,hi];simp only[ZIU]at hi;simp only[Zc2,hh];simpa using hi;simp only[List.getElem?_map,ZIL]at hd;obtain⟨z,t,rfl⟩:=hd;simp only[ZIN,t,ZJe];exact .int k z (hz z (List.mem_of_getElem? t))
def ZBw{P f args}(h:Zd P f args (.bool true)){W}(ht:Zoe W){vs}(ha:ZI (Rep (Zc2 W) W) vs args) :
  Calls P f vs.toArray W λe W'=>e=.returned (.bool true)/\Below W.heap.size W W':=by
 refine((h (λ_=>nO)).2 _ W vs (ZCZ ht) ha).mono λe W' hp=>?_;obtain⟨g',s',r,t,hs,u,hq,_⟩:=hp;subst hq;cases e with
 |returned v=>cases u;exact⟨rfl,t.os,t.tape,t.output,t.size,λb hb=>t.kept b hb⟩
 |_=>exact u.elim
section
variable {H:Type} {enc:TypeId × Value->H} {P:Program} {w:World}
def Kj(p:Nat->Prop)(enc:TypeId×Value->H)(P:Program)(w:World)(t:TypeId)(R:List D->Prop):Prop :=
 ∀fuel cs x,p fuel->DataW.trod enc P w 0 (λ_=>true) true fuel t cs=sO x->(∀k∈x.1.weights P t,k<=reachBytes)->∃ds,R ds/\ZI (Rep (Zc2 w) w) cs ds/\∀v∈cs,v.one1=true
abbrev Za4(enc:TypeId×Value->H)(P:Program)(w:World)(t:TypeId)(R:List D->Prop):Prop:=Kj (λ_=>True) enc P w t R
variable {p q:Nat->Prop}
def ZyY{k n}(h:(Lit.int k n).wf=true):inR k n:=by
 simpa[Lit.wf,inR]using h
def Zpg{t k}(ht:P.underlying t=sO (.int k)):Kj p enc P w t λds=>∃n,inR k n/\ds=[.int k n]:=by
 intro fuel cs x _ h _;obtain⟨n,rfl,_,u⟩:=DataW.trod_int ht h;exact⟨_,⟨n,ZyY u,rfl⟩,.cons (.int k n (ZyY u)) .nil,λv hv=>by simp at hv;subst hv;rfl⟩
def Kj.imp{t R R'}(h:Kj p enc P w t R)(hi:∀ds,R ds->R' ds):Kj p enc P w t R':=λu cs x hp hx hw=>by
 obtain⟨ds,h1,h2⟩:=h u cs x hp hx hw;exact⟨ds,hi ds h1,h2⟩
def JT{t k}(u:P.underlying t=sO (.int k)):Kj p enc P w t λds=>∃n,ds=[.int k n]:=(Zpg u).imp λ_ ⟨n,_,h⟩=>⟨n,h⟩
def Zxr{t}(ht:P.underlying t=sO .bool):Kj p enc P w t λds=>∃b,ds=[.bool b]:=by
 intro fuel cs x _ h _;obtain⟨n,rfl,_⟩:=DataW.trod_bool ht h;exact⟨_,⟨n,rfl⟩,.cons (.bool n) .nil,λv u=>by simp at u;subst u;rfl⟩
def Zxs{t}(ht:P.underlying t=sO .string):Kj p enc P w t λds=>∃s:List UInt8,I s<=reachBytes/\ds=[.str s]:=by
 intro fuel cs x _ h hw;obtain⟨s,rfl,rfl,hs⟩:=DataW.trod_string ht h;refine⟨_,⟨s.data.toList,hw _ (by simp[DataW.weights]),rfl⟩,.cons (.str s _ rfl ?_) .nil,λv u=>by simp at u;subst u;rfl⟩;have:I s.data.toList=s.size:=by rw[Array.length_toList];rfl
 rw[this];simp only[maxLen]at hs;simp only[big];omega
def QI{t}(u:P.underlying t=sO .string):Kj p enc P w t λds=>∃s,ds=[.str s]:=(Zxs u).imp λ_ ⟨s,_,h⟩=>⟨s,h⟩
def ZgL:∀{ts ds} {i:Nat} {t:TypeId} {d:DataW H},ts[i]?=sO t->ds[i]?=sO d->∀k∈d.weights P t,k∈DataW.weightsEach P ts ds
 |t::ts,d::ds,0,_,_,ht,hd,k,hk=>by simp only[List.getElem?_cons_zero,ZIx]at ht hd;subst ht;subst hd;unfold DataW.weightsEach;exact List.mem_append_left _ hk
 |t::ts,d::ds,i+1,_,_,ht,hd,k,hk=>by unfold DataW.weightsEach;exact List.mem_append_right _ (ZgL (by simpa using ht) (by simpa using hd) k hk)
 | [],_,_,_,_,ht,_,_,_=>by simp at ht
 |_::_,[],_,_,_,_,hd,_,_=>by simp at hd
def ZgK:∀{ts u} {ds gs:List (DataW H)},I ds=I ts->∀k∈DataW.weightsEach P ts ds,k∈DataW.weightsEach P (ts++u) (ds++gs)
 | [],_,[],_,_,k,hk=>by simp[DataW.weightsEach]at hk
 |t::ts,u,d::ds,gs,hl,k,hk=>by unfold DataW.weightsEach at hk;rw[List.cons_append,List.cons_append];unfold DataW.weightsEach;rcases List.mem_append.1 hk with h|h;exact List.mem_append_left _ h;exact List.mem_append_right _ (ZgK (by simpa using hl) k h)
def Zh5{e}:∀{ds:List (DataW H)} {d:DataW H},d∈ds->∀k∈d.weights P e,k∈DataW.weightsAll P e ds
 |d::ds,x,hx,k,hk=>by unfold DataW.weightsAll;rcases List.mem_cons.1 hx with rfl|hx;exact List.mem_append_left _ hk;exact List.mem_append_right _ (Zh5 hx k hk)
def ZuZ{α β R}{a t:List α}{b u:List β}(h:ZI R a b)(h':ZI R t u):ZI R (a++t) (b++u):=by
 induction h with
 |nil=>exact h'
 |cons h1 _ ih=>exact .cons h1 ih
def Cat:List (List D->Prop)->List D->Prop
 | [],ds=>ds=[]
 |R::Rs,ds=>∃a b,ds=a++b/\R a/\Cat Rs b
def Zuf(P:Program):Nat->List Field->Nat->Bool
 |o,[],n=>o==n
 |o,f::r,n=>f.offset==o&&Zuf P (o+P.cellsOf f.type) r n
inductive ZjG(p:Nat->Prop)(enc:TypeId×Value->H)(P:Program)(w:World):List Field->List (List D->Prop)->Prop where
 |nil:ZjG p enc P w [] []
 |cons {f:Field} {fs:List Field} {R:List D->Prop} {Rs:List (List D->Prop)} (h:Kj p enc P w f.type R) (t:ZjG p enc P w fs Rs):ZjG p enc P w (f::fs) (R::Rs)
def Zzi{fs Rs}(hR:ZjG q enc P w fs Rs):∀{o n m} {cs:List Value},q m->Zuf P o fs n=true->I cs=n ->
  (∀f∈fs,∃x,DataW.trod enc P w 0 (λ_=>true) true m f.type ((cs.drop f.offset).take (P.cellsOf f.type))=sO x/\∀k∈x.1.weights P f.type,k<=reachBytes) ->
  ∃ds,Cat Rs ds/\ZI (Rep (Zc2 w) w) (cs.drop o) ds/\∀v∈cs.drop o,v.one1=true:=by
 induction hR with
 |nil =>intro o n m cs _ ho hl _;simp only[Zuf,beq_iff_eq]at ho;subst ho;subst hl;exact⟨[],rfl,by rw[List.drop_length];exact .nil,ψ⟩
 |cons h _ ih =>
  rename_i f fs R Rs _;intro o n m cs hm ho hl hx;simp only[Zuf,ZIJ,beq_iff_eq]at ho;obtain⟨ag,ah⟩:=ho;obtain⟨x,h1,hw⟩:=hx f (List.mem_cons_self ..);obtain⟨a,ab,t,u⟩:=h _ _ _ hm h1 hw;obtain⟨b,ac,ad,ae⟩:=ih hm ah hl λf' af=>hx f' (List.mem_cons_of_mem _ af);rw[ag]at t u;have e:cs.drop o=(cs.drop o).take (P.cellsOf f.type)++cs.drop (o+P.cellsOf f.type):=by rw[<-List.drop_drop];exact(List.take_append_drop _ _).symm
  refine⟨a++b,⟨a,b,rfl,ab,ac⟩,by rw[e];exact ZuZ t ad,λv hv=>?_⟩;rw[e,List.mem_append]at hv;exact hv.elim (u v) (ae v)
def K4{t:TypeId}{fs:Array Field}(ht:P.underlying t=sO (.struct fs)){Rs:List (List D->Prop)}(hR:ZjG q enc P w fs.toList Rs)(ho:Zuf P 0 fs.toList (P.cellsOf t)=true)(hpq:∀n,p (n+1)->q n:=by intros;trivial):Kj p enc P w t (Cat Rs):=by
 intro fuel cs x hp h hw;obtain⟨xs,n,rfl,rfl,hl,hxl,hx⟩:=DataW.trod_struct ht h;obtain⟨ds,h1,h2,h3⟩:=Zzi hR (m:=n) (hpq n hp) ho hl (λf hf=>by
  obtain⟨i,hi,rfl⟩:=ZIV hf;have u:i<fs.size:=by simpa using hi
  refine⟨xs[i]' ω,?_,λk hk=>hw k ?_⟩;have:=hx i fs[i] (by simp[u]);rw[ZI4 ω]at this;simpa using this;unfold DataW.weights;rw[ht];exact ZgL (i:=i) (by simp[u]) (by rw[List.getElem?_map,ZI4 ω];rfl) k hk)
 rw[List.drop_zero]at h2 h3;exact⟨ds,h1,h2,h3⟩
def Zb9{a n cs}(h:w.cells? 0 a n=sO cs):I cs=n/\∀j,j<n->w.cell? (a.add j)=cs[j]?:=by
 simp only[World.cells?,Nat.zero_le,if_true]at h;refine⟨by simpa using mapM_some_length h,λj t=>?_⟩;have:=mapM_some_get h j j (by simp[t]);exact this
def Zsk{t e:TypeId}{n:Nat}{α:Type}[Inhabited α]{f:α->List D}{Qx:α->Prop}{row:List α->Nat->List D}(hrow:∀l i,i<I l->row l i=f (l.getD i dE))(ht:P.underlying t=sO (.slice e))(hn:P.cellsOf e=n)(hn0:0<n)(hf:∀x,(f x).length=n)
  (he:Kj q enc P w e λds=>∃x,Qx x/\ds=f x) (hpq:∀n,p (n+1)->q n:=by intros;trivial):Kj p enc P w t λds=>∃l:List α,(∀x∈l,Qx x)/\I l*P.bytesOf e<=reachBytes/\ds=[.sl .none (I l) n (row l)]:=by
 intro fuel cs x hp h hw;rcases DataW.trod_slice ht h with ⟨rfl,_⟩|⟨a,len,cap,elems,rest,m,rfl,rfl,rfl,_,ao,ag,al,hx,af,_⟩;exact⟨_,⟨[],λx hx=>absurd hx List.not_mem_nil,ψ,rfl⟩,.cons (.sl0 _ _ _ _ ψ) .nil,λv hv=>by simp at hv;subst hv;rfl⟩;unfold DataW.weights at hw;rw[ht]at hw;have ab:∀i,i<len->∃(cs:List Value) (y:α),Qx y/\w.cells? 0 (a.add (i*n)) n=sO cs/\ZI (Rep (Zc2 w) w) cs (f y)/\∀v∈cs,v.one1=true:=by intro i hi;have h1:=hx i hi;rw[ZI4 ω,hn]at h1;obtain⟨cs,h2,h3⟩:=Option.bind_eq_some_iff.1 h1;obtain⟨ds,⟨y,hy,rfl⟩,h4,h5⟩:=he _ _ _ (hpq _ hp) h3 λk hk=>hw k (List.mem_cons_of_mem _ (List.mem_append_left _ (Zh5 (List.mem_map_of_mem (List.getElem_mem _)) k hk)));exact⟨cs,y,hy,h2,h4,h5⟩
 have ac:cap<=big:=by simp only[maxLen]at ag;simp only[big];omega
 let g:(i:Nat)->i<len->α:=λi hi=>(Classical.choose_spec (ab i hi)).choose;let c:(i:Nat)->i<len->List Value:=λi hi=>Classical.choose (ab i hi);have hg:∀i (hi:i<len),w.cells? 0 (a.add (i*n)) n=sO (c i hi)/\ZI (Rep (Zc2 w) w) (c i hi) (f (g i hi))/\∀v∈c i hi,v.one1=true:=λi hi=>(Classical.choose_spec (ab i hi)).choose_spec.2;have hq:∀i (hi:i<len),Qx (g i hi):=λi hi=>(Classical.choose_spec (ab i hi)).choose_spec.1;let l:List α:=List.ofFn λi:Fin len=>g i.1 i.2;have ae:I l=len:=by simp[l]
 have aq:∀i (hi:i<len),l.getD i dE=g i hi:=λi hi=>by simp[l,ZIN,hi]
 have ah:∀i (hi:i<len),row l i=f (g i hi):=λi hi=>by rw[hrow l i ω,aq i hi]
 refine⟨_,⟨l,λx hx=>(by obtain⟨i,rfl⟩:=List.mem_ofFn.1 hx;exact hq i.1 i.2),Nat.le_trans (ZIT _ (by rw[ae,<-al,ZIU];exact Nat.le_add_right _ _)) (hw _ (List.mem_cons_self ..)),rfl⟩,.cons ?_ .nil,λv hv=>by simp at hv;subst hv;rfl⟩;by_cases am:len=0;subst am;have ap:l=[]:=List.eq_nil_of_length_eq_zero ae;rw[ap];by_cases hs:a.spot=nO;obtain⟨b,o,sp⟩:=a;simp only at hs;subst hs;exact .sl b o 0 cap n _ .none (λ_ _=>undef) (λi hi=>by simp at hi) (λi j hi=>by simp at hi) (λi j hi=>by simp at hi) (λi j d hi=>by simp at hi) (λi j hi=>by simp at hi) trivial (Nat.zero_le _) ac;have ak:cap=0:=by rcases Nat.eq_zero_or_pos cap with h0|h0;exact h0;obtain⟨h1,h2⟩:=af rfl;have h3:=h2 0 ω;rw[ZI4 ω,hn]at h3;obtain⟨cs,h4,_⟩:=Option.bind_eq_some_iff.1 h3;have h5:=(Zb9 h4).2 0 ω;have h6:=(Zb9 h4).1;rw[ZI4 ω]at h5;have:=World.cell?_spot h5;exact absurd (by simpa[Addr.add]using this) hs
 subst ak;exact .sl0 _ _ _ _ ψ;have ai:a.spot=nO:=by have h0:=(hg 0 ω).1;have h1:=(Zb9 h0).2 0 ω;have h2:(c 0 ω).length=n:=(Zb9 h0).1;rw[ZI4 ω]at h1;have:=World.cell?_spot h1;simpa[Addr.add]using this
 obtain⟨b,o,sp⟩:=a;simp only at ai;subst ai;have ad:∀i j (hi:i<len) (hj:j<n),w.cell? ⟨b,o+i*n+j,nO⟩=(c i hi)[j]?:=λi j hi hj=>by have h1:=(Zb9 (hg i hi).1).2 j hj;rw[Kf,Kf]at h1;exact h1
 have u:∀i (hi:i<len),(c i hi).length=n:=λi hi=>(Zb9 (hg i hi).1).1;rw[ae];refine .sl b o len cap n _ .none (λi j=>if hi:i<len then (c i hi).getD j undef else undef) (λi hi=>by rw[ah i hi];exact hf _) (λi j hi hj=>?_) (λi j hi hj=>?_) (λi j d hi hd=>?_) (λi j hi hj=>?_) trivial ao ac;simp only[dif_pos hi];rw[ad i j hi hj,ZIN,ZI4 (by rw[u i hi];exact hj)];rfl;have h1:=ad i j hi hj;rw[ZI4 (by rw[u i hi];exact hj)]at h1;simp only[World.cell?]at h1;split at h1;rename_i vs T fr hh;simp only[Zc2,hh];have aj:vs[o+i*n+j]?=sO ((c i hi)[j]'(by rw[u i hi];exact hj)):=by simpa using h1
 exact(Array.getElem?_eq_some_iff.1 aj).1;simp at h1;simp only[dif_pos hi];rw[ah i hi]at hd;have hj:j<n:=by rw[<-hf (g i hi)];exact(List.getElem?_eq_some_iff.1 hd).1
 refine(hg i hi).2.1.get j _ d ?_ hd;rw[ZIN,ZI4 (by rw[u i hi];exact hj)];rfl;simp only[dif_pos hi];refine(hg i hi).2.2 _ ?_;rw[ZIN,ZI4 (by rw[u i hi];exact hj)];exact List.getElem_mem _
def ZkJ{t e:TypeId}{n:Nat}{α:Type}[Inhabited α]{f:α->List D}{row:List α->Nat->List D}(hrow:∀l i,i<I l->row l i=f (l.getD i dE))(ht:P.underlying t=sO (.slice e))(hn:P.cellsOf e=n)(hn0:0<n)(hf:∀x,(f x).length=n)
  (he:Kj q enc P w e λds=>∃x,ds=f x) (hpq:∀n,p (n+1)->q n:=by intros;trivial):Kj p enc P w t λds=>∃l:List α,ds=[.sl .none (I l) n (row l)]:=(Zsk (Qx:=λ_=>True) hrow ht hn hn0 hf (he.imp λ_ ⟨x,h⟩=>⟨x,trivial,h⟩) hpq).imp λ_ ⟨l,_,_,h⟩=>⟨l,h⟩
def Zah{t e:TypeId}{n:Nat}{α:Type}[Inhabited α]{f:α->List D}(ht:P.underlying t=sO (.slice e))(hn:P.cellsOf e=n)(hn0:0<n)(hf:∀x,(f x).length=n)
  (he:Kj q enc P w e λds=>∃x,ds=f x) (hpq:∀n,p (n+1)->q n:=by intros;trivial):Kj p enc P w t λds=>∃l:List α,ds=[.sl .none (I l) n λi=>f (l.getD i dE)] :=
 ZkJ (row:=λl i=>f (l.getD i dE)) (λ_ _ _=>rfl) ht hn hn0 hf he hpq
def Ze6(enc:TypeId×Value->H)(P:Program)(t:TypeId)(Q:D->Prop):Prop :=
 ∀(W:World) (base:Nat) (v:Value) (d:DataW H) (ps:List MemPlace),Value.okWide P W .any base t v->DataW.Trod enc P W 0 (λ_=>true) true t v d ps->(∀k∈d.weights P t,k<=reachBytes)->∃x,Q x/\Rep (Zc2 W) W v x
def Zcr{t fs}(ht:P.underlying t=sO (.struct fs)){R}(h:∀W,Za4 enc P W t R):Ze6 enc P t λx=>∃ds,R ds/\x=.agg ds:=by
 intro W base v d ps u ⟨fuel,hf⟩ hw;obtain⟨cs,rfl,_⟩:=okWide_struct ht u;obtain⟨ds,h1,h2,h3⟩:=h W _ _ _ trivial hf hw;exact⟨_,⟨ds,h1,rfl⟩,.agg cs.toList ds h2.len (λi v d hv hd=>h2.get i v d hv hd) h3⟩
def ZjJ{t R Q}(h1:∀W base v,Value.okWide P W .any base t v->v.cells = #[v])(h:∀W,Za4 enc P W t R)(hq:∀ds,R ds->∃x,ds=[x]/\Q x):Ze6 enc P t Q:=by
 intro W base v d ps u ⟨fuel,hf⟩ hw;rw[h1 _ _ _ u]at hf;obtain⟨ds,h2,h3,_⟩:=h W _ _ _ trivial hf hw;obtain⟨x,rfl,hx⟩:=hq ds h2;cases h3 with|cons h4 _=>exact⟨x,hx,h4⟩
def ZDe{t k}(ht:P.underlying t=sO (.int k)):Ze6 enc P t λx=>∃n,x=.int k n :=
 ZjJ (λW base v u=>by obtain⟨a,rfl⟩:=okWide_int ht u;rfl) (λW=>JT ht) λds ⟨n,hn⟩=>⟨_,hn,n,rfl⟩
def Zti{t}(ht:P.underlying t=sO .string):Ze6 enc P t λx=>∃n,x=.str n :=
 ZjJ (λW base v u=>by obtain⟨a,rfl⟩:=okWide_string ht u;rfl) (λW=>QI ht) λds ⟨n,hn⟩=>⟨_,hn,n,rfl⟩
inductive Zn5(enc:TypeId×Value->H)(P:Program):List TypeId->List (D->Prop)->Prop where
 |nil:Zn5 enc P [] []
 |cons {t:TypeId} {Q:D->Prop} {ts:List TypeId} {Qs:List (D->Prop)} (h:Ze6 enc P t Q) (r:Zn5 enc P ts Qs):Zn5 enc P (t::ts) (Q::Qs)
inductive ZsN:List (D->Prop)->List D->Prop where
 |nil:ZsN [] []
 |cons {Q:D->Prop} {x:D} {Qs:List (D->Prop)} {xs:List D} (h:Q x) (r:ZsN Qs xs):ZsN (Q::Qs) (x::xs)
def Zz1{ts Qs}(h:Zn5 enc P ts Qs):∀{W base vs ds ps},
  (∀(j:Nat) t v,ts[j]?=sO t->vs[j]?=sO v->Value.okWide P W .any base t v)->DataW.TrodAll enc P W 0 (λ_=>true) true ts vs ds ps->(∀k∈DataW.weightsEach P ts ds,k<=reachBytes)->∃xs,ZsN Qs xs/\ZI (Rep (Zc2 W) W) vs xs:=by
 induction h with
 |nil =>intro W base vs ds ps _ ht _;obtain⟨rfl,_⟩:=trodAll_nil ht;exact⟨[],.nil,.nil⟩
 |cons h1 _ ih =>intro W base vs ds ps u ht hw;obtain⟨v,vs',d,ds',p,q,rfl,rfl,rfl,h2,h3⟩:=trodAll_cons ht;unfold DataW.weightsEach at hw;obtain⟨x,ad,ae⟩:=h1 W base v d p (u 0 _ _ rfl rfl) h2 λk hk=>hw k (List.mem_append_left _ hk);obtain⟨xs,ab,ac⟩:=ih (base:=base) (λj t v hj hv=>u (j+1) t v (by simpa using hj) (by simpa using hv)) h3 λk hk=>hw k (List.mem_append_right _ hk);exact⟨x::xs,.cons ad ab,.cons ae ac⟩
def Zjo(hl:laidOutB P=true){W W'}(hb:Below W.heap.size W W'):∀{ts vs ds ps},(∀t∈ts,P.readableRec t=true/\t<P.types.size) ->
  DataW.TrodAll enc P W 0 (λ_=>true) true ts vs ds ps->(∀x∈ps,x.block<W.heap.size)->DataW.TrodAll enc P W' 0 (λb=>dC (b<W.heap.size)) true ts vs ds ps
 | [],vs,ds,ps,_,h,_=>by obtain⟨rfl,rfl,rfl⟩:=trodAll_nil h;rfl
 |t::ts,vs,ds,ps,ht,h,hlt=>by obtain⟨v,vs',d,ds',p,q,rfl,rfl,rfl,h2,h3⟩:=trodAll_cons h;have h4:=ht t (List.mem_cons_self ..);exact trodAll_cons_mk (Below.trod hl h4.1 h4.2 h2 hb λx hx=>hlt x (List.mem_append_left _ hx)) (Zjo hl hb (λt u=>ht t (List.mem_cons_of_mem _ u)) h3 λx hx=>hlt x (List.mem_append_right _ hx))
def Zt3{f fn}{s:ChangeSpec}{tb Qs}(hv:s.vars=[])(hl:laidOutB P=true)(hr:∀t∈fn.params.toList,P.readableRec t=true/\t<P.types.size)
  (hres:fn.resultTypes = #[tb]) (hb:P.underlying tb=sO .bool) (hfn:∀ds:List (DataW H),I ds=I fn.params.toList->s.fn H ds={ results:=[.lit (.bool true)],args:=ds })
  (hargs:Zn5 enc P fn.params.toList Qs) (hcall:∀xs,ZsN Qs xs->Zd P f xs (.bool true))
  (W) (ht:Zoe W) (base args ds gs before)
  (hval:∀(j:Nat) t v,fn.params[j]?=sO t->args[j]?=sO v->Value.okWide P W .any base t v) (hW:DataW.Whole enc P fn.params.toList s.vars false W args.toList ds gs before)
  (hz:(DataW.weightsEach P (fn.params.toList++s.plain.varTypes P) (ds++gs)).all (·<=reachBytes)=true) :
  Calls P f args W λe W'=>∃v,e=.returned v/\s.post enc P fn false true false false W args v W':=by
 have ad:=hW;obtain⟨p,q,hA,hV,rfl,_,_⟩:=hW;rw[hv]at hV;obtain⟨rfl,rfl⟩:=trodVars_none hV;have ac:=(trodAll_length hA).2;obtain⟨xs,ag,ah⟩:=Zz1 hargs (λj t v hj af=>hval j t v (by simpa using hj) (by simpa using af)) hA λk hk=>of_decide_eq_true (List.all_eq_true.1 hz k (ZgK ac k hk));have ae:∀x∈p,x.block<W.heap.size:=λx hx=>by simpa using ad.lt x (by simpa using hx)
 refine(ZBw (hcall xs ag) ht ah).mono λe W' ⟨he,ab⟩=>⟨.bool true,he,?_⟩;have u:=hfn ds ac;refine⟨ds,[],p++[],[],p,[],ad,?_,?_,?_,ab.frame _,λh=>by cases h⟩;rw[ZI5,u,hres];exact trodAll_mk1 ⟨1,by simp[DataW.trod,hb,Value.cells]⟩;rw[ZI5,u];exact Zjo hl ab hr hA ae;rw[hv,ZI5,u];rfl
end
end Go.DL
namespace Go.DL
open Go
variable {kp:Option (List Nat)}{L:Loc}{H:Env}{s:St}{w:World}{os:List DOp}{ds:List D}{B:List (Nat × Rd)}{dst:Option Nat}{tmps:Array Value}{g:G}{Φ:Res->St->Prop}{Z:Nat->Nat}{xs:List Opd}{side:Prop}{row:Nat->List D}
def Zy0(n a:Nat)(l:List Nat):Zam n (a::l)=if a=n then true else Zam n l:=by
 show(a==n ||Zam n l)=_;by_cases h:a=n<;>simp[h]
set_option linter.defProp false
def Eqs:=ZIA (ZIA (ZIA (ZIA (ZIA (ZIA (ZIA (ZIA @Option.mem_def.{0} @ZIx.{0}) (ZIA @forall_eq'.{1} @forall_eq'.{0})) (ZIA (ZIA @false_implies @decide_true) (ZIA (@Int.sub_zero) (ZIA @Int.sub_self @ZDt)))) (ZIA (ZIA (ZIA @ZEb @ZDu) (ZIA @ZDv @ZDs)) (ZIA (ZIA @and_assoc @Int.toNat_zero) (ZIA (@Bool.not_not) (ZIA @ZCl @ZDx))))) (ZIA (ZIA (ZIA (ZIA @implies_true.{1} @implies_true.{0}) (ZIA @true_and @and_true)) (ZIA (ZIA @and_self @List.drop_zero.{0}) (ZIA (@List.drop_succ_cons.{0}) (ZIA @List.take_succ_cons.{0} @List.take_zero.{0})))) (ZIA (ZIA (ZIA @List.take_nil.{0} @ZI3.{0,0}) (ZIA (@Option.map_none.{0,0}) (ZIA @Option.isSome_some.{0} @Option.isSome_none.{0}))) (ZIA (ZIA @ZJe.{0} @Option.getD_none.{0}) (ZIA (@ZJl.{0,0}) (ZIA @List.flatMap_nil.{0,0} @ZI5.{0})))))) (ZIA (ZIA (ZIA (ZIA (ZIA @List.nil_append.{0} @List.cons_append.{0}) (ZIA @List.append_eq.{0} @List.getElem?_cons_zero.{0})) (ZIA (ZIA @List.getElem?_cons_succ.{0} @ZIP.{0}) (ZIA (@List.length_nil.{0}) (ZIA @Nat.zero_add @Nat.add_zero)))) (ZIA (ZIA (ZIA @Int.toNat_natCast @forall_const.{1}) (ZIA @forall_const.{0} @imp_self)) (ZIA (ZIA @Bool.and_true @ZIY) (ZIA (@Bool.cond_false_right) (ZIA @ZI7 @Bool.not_true))))) (ZIA (ZIA (ZIA (ZIA @Bool.not_false @if_true_right) (ZIA @Zj2.eq_1 @Zj2.eq_2)) (ZIA (ZIA @Ziu.eq_1 @Ziu.eq_2) (ZIA (@ZhH.eq_1) (ZIA @ZhH.eq_2 @ZlP.eq_1)))) (ZIA (ZIA (ZIA @ZlP.eq_2 @ZF.eq_1) (ZIA (@K8.eq_1) (ZIA @K8.eq_2 @K8.eq_3))) (ZIA (ZIA @Z2.eq_1 @KY.eq_1) (ZIA (@Y5.eq_1) (ZIA @K3.eq_1 @K3.eq_2))))))) (ZIA (ZIA (ZIA (ZIA (ZIA (ZIA @K3.eq_3 @K3.eq_4) (ZIA @YP.eq_1 @YP.eq_2)) (ZIA (ZIA @YP.eq_3 @YP.eq_4) (ZIA (@YP.eq_6) (ZIA @qv.eq_51 @qv.eq_52)))) (ZIA (ZIA (ZIA @qv.eq_53 @YP.eq_5) (ZIA @Y1.eq_1 @Y1.eq_2)) (ZIA (ZIA @Y1.eq_3 @Y1.eq_4) (ZIA (@Y1.eq_5) (ZIA @Y1.eq_6 @Y1.eq_7))))) (ZIA (ZIA (ZIA (ZIA @Wi.eq_1 @K2.eq_1) (ZIA @K2.eq_2 @K2.eq_3)) (ZIA (ZIA @YY.eq_1 @YY.eq_2) (ZIA (@Kn.eq_1) (ZIA @Zb3.eq_1 @Zam.eq_1)))) (ZIA (ZIA (ZIA @Zy0 @ZIQ.{0,0}) (ZIA (@ZI9.{0,0}) (ZIA @QA.eq_1 @Kr.eq_1))) (ZIA (ZIA @Kr.eq_2 @Kr.eq_3) (ZIA (@Wj.eq_1) (ZIA @Wj.eq_2 @Zaq.eq_1)))))) (ZIA (ZIA (ZIA (ZIA (ZIA @Zaq.eq_2 @Zaq.eq_3) (ZIA @Zaq.eq_4 @Zaq.eq_5)) (ZIA (ZIA @Zaq.eq_6 @Zaq.eq_7) (ZIA (@Zaq.eq_8) (ZIA @Zaq.eq_9 @Zaq.eq_10)))) (ZIA (ZIA (ZIA @Zaq.eq_11 @Zj.eq_1) (ZIA (@Zj.eq_2) (ZIA @ZC.eq_1 @ZC.eq_2))) (ZIA (ZIA @Z8.eq_1 @Z8.eq_2) (ZIA (@ZM.eq_1) (ZIA @ZM.eq_2 @qv.eq_1))))) (ZIA (ZIA (ZIA (ZIA @qv.eq_2 @qv.eq_3) (ZIA @qv.eq_4 @qv.eq_5)) (ZIA (ZIA @qv.eq_6 @qv.eq_7) (ZIA (@qv.eq_8) (ZIA @qv.eq_9 @qv.eq_10)))) (ZIA (ZIA (ZIA @qv.eq_11 @qv.eq_12) (ZIA (@qv.eq_13) (ZIA @qv.eq_14 @qv.eq_15))) (ZIA (ZIA @qv.eq_16 @qv.eq_17) (ZIA (@qv.eq_18) (ZIA @qv.eq_19 @qv.eq_20)))))))) (ZIA (ZIA (ZIA (ZIA (ZIA (ZIA (ZIA @qv.eq_21 @qv.eq_22) (ZIA @qv.eq_23 @qv.eq_24)) (ZIA (ZIA @qv.eq_25 @qv.eq_26) (ZIA (@qv.eq_27) (ZIA @qv.eq_28 @qv.eq_29)))) (ZIA (ZIA (ZIA @qv.eq_30 @qv.eq_31) (ZIA @qv.eq_32 @qv.eq_33)) (ZIA (ZIA @qv.eq_34 @qv.eq_35) (ZIA (@qv.eq_36) (ZIA @qv.eq_37 @qv.eq_38))))) (ZIA (ZIA (ZIA (ZIA @qv.eq_39 @qv.eq_40) (ZIA @qv.eq_41 @qv.eq_42)) (ZIA (ZIA @qv.eq_43 @qv.eq_44) (ZIA (@qv.eq_45) (ZIA @qv.eq_46 @qv.eq_47)))) (ZIA (ZIA (ZIA @qv.eq_48 @qv.eq_49) (ZIA (@qv.eq_50) (ZIA @Zx.eq_1 @Zx.eq_2))) (ZIA (ZIA @kept.eq_1 @kept.eq_2) (ZIA (@ZlM.eq_1) (ZIA @ZlM.eq_2 @Yn.eq_1)))))) (ZIA (ZIA (ZIA (ZIA (ZIA @Yn.eq_2 @Za7.eq_1) (ZIA @Zay.eq_1 @Zay.eq_2)) (ZIA (ZIA @Ks.eq_1 @Ks.eq_2) (ZIA (@Ks.eq_3) (ZIA @Zh.eq_1 @Zh.eq_2)))) (ZIA (ZIA (ZIA @Zal.eq_1 @ZdO.eq_1) (ZIA @ZgJ.eq_1 @ZgJ.eq_2)) (ZIA (ZIA @Zak.eq_1 @Zak.eq_2) (ZIA (@Zak.eq_3) (ZIA @Zak.eq_4 @Zak.eq_5))))) (ZIA (ZIA (ZIA (ZIA @Q1.eq_1 @Q1.eq_2) (ZIA @Q1.eq_3 @Q1.eq_4)) (ZIA (ZIA @Q1.eq_5 @Q1.eq_6) (ZIA (@Q1.eq_7) (ZIA @Q1.eq_8 @Q1.eq_9)))) (ZIA (ZIA (ZIA @Q1.eq_10 @Q1.eq_11) (ZIA (@Q1.eq_12) (ZIA @Q1.eq_13 @Q1.eq_14))) (ZIA (ZIA @Q1.eq_15 @Q1.eq_16) (ZIA (@Q1.eq_17) (ZIA @Zei.eq_1 @Zei.eq_2))))))) (ZIA (ZIA (ZIA (ZIA (ZIA (ZIA @Zei.eq_3 @Zei.eq_4) (ZIA @Zei.eq_5 @Zei.eq_6)) (ZIA (ZIA @Zei.eq_7 @Zei.eq_8) (ZIA (@eqO.eq_1) (ZIA @eqO.eq_2 @eqO.eq_3)))) (ZIA (ZIA (ZIA @YH.eq_1 @YH.eq_2) (ZIA @YH.eq_3 @YH.eq_4)) (ZIA (ZIA @YH.eq_5 @YH.eq_6) (ZIA (@YH.eq_7) (ZIA @YH.eq_8 @YH.eq_9))))) (ZIA (ZIA (ZIA (ZIA @YH.eq_10 @YH.eq_11) (ZIA @YH.eq_12 @YH.eq_13)) (ZIA (ZIA @YH.eq_14 @YH.eq_15) (ZIA (@Wo.eq_1) (ZIA @Wo.eq_2 @Yj.eq_1)))) (ZIA (ZIA (ZIA @Yj.eq_2 @Yj.eq_3) (ZIA (@Yj.eq_4) (ZIA @Wn.eq_1 @Wn.eq_2))) (ZIA (ZIA @Wn.eq_3 @Wn.eq_4) (ZIA (@Km.eq_1) (ZIA @Km.eq_2 @Km.eq_3)))))) (ZIA (ZIA (ZIA (ZIA (ZIA @Km.eq_4 @Zy.eq_1) (ZIA @Ka.eq_1 @Ka.eq_2)) (ZIA (ZIA @Ka.eq_3 @cellsOf.eq_1) (ZIA (@cellsOf.eq_2) (ZIA @QU.eq_1 @QU.eq_2)))) (ZIA (ZIA (ZIA @QU.eq_3 @QU.eq_4) (ZIA (@QU.eq_5) (ZIA @Kb.eq_1 @Kb.eq_2))) (ZIA (ZIA @Kb.eq_3 @Kb.eq_4) (ZIA (@ZbC.eq_1) (ZIA @ZbC.eq_2 @ZbC.eq_3))))) (ZIA (ZIA (ZIA (ZIA @Qd.eq_1 @Qd.eq_2) (ZIA @ZV.eq_1 @ZV.eq_2)) (ZIA (ZIA @Qa.eq_1 @Qa.eq_2) (ZIA (@WA.eq_1) (ZIA @WA.eq_2 @WA.eq_3)))) (ZIA (ZIA (ZIA @WA.eq_4 @Za1.eq_1) (ZIA (@Za1.eq_2) (ZIA @Za1.eq_3 @Za1.eq_4))) (ZIA (ZIA @Zbg.eq_1 @Zbg.eq_2) (ZIA (@Zbg.eq_3) (ZIA @Zbg.eq_4 @part.eq_1))))))))
end Go.DL
namespace Go.DL
open Go
variable [Zs5]
variable {kp:Option (List Nat)}{L:Loc}{H:Env}{s:St}{w:World}{os:List DOp}{ds:List D}{B:List (Nat × Rd)}{dst:Option Nat}{tmps:Array Value}{g:G}{Φ:Res->St->Prop}{Z:Nat->Nat}{xs:List Opd}{side:Prop}{row:Nat->List D}
section
variable {P:Program}
def ZBI{F:Fr P}{kp dk o os H L s}(hg:o.guard=nO){x}(hk:o.k=.box x){t}(hdt:o.dst=sO t){p v}(ha:ZC H true x=sO (p,.d v))(hp:p)(hok:Kb v=true)(h:∀b,s b=nO->DO F kp dk os ((t,.d (.ptr b 0))::H) L (s.upd b (.cells (cellsOf v)))):DO F kp dk (o::os) H L s:=by
 refine Y7 λoo g Z w tmps ap i r k ak ab ah ac hd hN m hr ai=>?_;have hw:=Z7 m ah (c:=true) (by rw[hg];rfl);have aj:=Yb ab (by rw[hk];rfl);rw[hk]at ab;obtain⟨e,x',al,ao⟩:=Zyc ab;have u:Rep g w _ v:=ZY m ao rfl ha hp F.ds;generalize am:(Act.mk tmps F.ds).eval x'=vv at u;obtain⟨af,ag⟩:=Zd5 u hok;have ae:=ZhP u hok;have ad:=J2 (g:=g) (w:=w) (.cells vv.cells e) m.st.fresh;have he:=ad.ext m.st.fresh;obtain⟨hn,m'⟩:=m.newObj ad (o:=.cells (cellsOf v)) ⟨(m.st.fresh _ (ZIO _)).1,_,e,Kk w,by rw[af],λi v d hv hd=>(ag i v d (by simpa using hv) hd).mono he,ae⟩;refine Yk (L':=L) hN ak ac hd hw aj (v:=.pointer (sO ⟨w.heap.size,0,nO⟩)) (e:=.d (.ptr w.heap.size 0)) ?_ he m' (Rep.ptr _ _) ?_;simp[execOp,al,am,Instr.box,newVar,newRow];rw[hdt];exact h _ hn ap r k hr ai
def ZxZ{F:Fr P}{kp dk o os H L s}(hg:o.guard=nO){t}(hdt:o.dst=sO t){z}(hk:o.k=.alloc z)(h:∀b,s b=nO->DO F kp dk os ((t,.d (.ptr b 0))::H) L (s.upd b (.cells z))):DO F kp dk (o::os) H L s:=by
 refine Y7 λoo g Z w tmps al i r k ah u ae ab hd hN m hr af=>?_;have hw:=Z7 m ae (c:=true) (by rw[hg];rfl);have ag:=Yb u (by rw[hk];rfl);rw[hk]at u;obtain⟨T,ai,hz⟩:=Ztu u;obtain⟨v,aj,ad,ak,_⟩:=Qh (g:=g) (w:=w) hz;have ac:=J2 (g:=g) (w:=w) (.cells v.cells T) m.st.fresh;have he:=ac.ext m.st.fresh;obtain⟨hn,m'⟩:=m.newObj ac (o:=.cells z) ⟨(m.st.fresh _ (ZIO _)).1,_,T,Kk w,by simpa using ad.len,λi v d hv hd=>(ad.get i v d (by simpa using hv) hd).mono he,ak⟩;refine Yk (L':=L) hN ah ab hd hw ag (v:=.pointer (sO ⟨w.heap.size,0,nO⟩)) (e:=.d (.ptr w.heap.size 0)) ?_ he m' (Rep.ptr _ _) ?_;simp[execOp,ai,Instr.alloc,aj,newVar,newRow];rw[hdt];exact h _ hn al r k hr af
def Zb2{g w b off cs xs vs}(h:YJ g w b cs)(hx:ZI (Rep g w) vs xs)(ho:∀v∈vs,v.one1=true)(hlen:off+I xs<=I cs)(hkp:¬g.kept b):
  ∃w',(storeCells ⟨b,off,nO⟩ vs 0).run P w=.ok () w'/\Ext g w g w'/\w'.heap.size=w.heap.size/\(∀c,c≠b->w'.heap[c]?=w.heap[c]?)/\YJ g w' b (Zy cs off xs):=by
 obtain⟨af,t,T,hb,ad,ah,ae⟩:=h;have ai:I vs=I xs:=hx.len;have ag:=run_storeCells_at (P:=P) b off T vs 0 t w hb (by simp;omega) (λx hx=>by rw[Zdo];exact ho x hx);simp only[Nat.add_zero]at ag;have u:ZI (Rep g w) (t.toList.take off++vs++t.toList.drop (off+I vs)) (Zy cs off xs):=by have ac:ZI (Rep g w) t.toList cs:=Ye (by simpa using ad) (λi v d hv hd=>ah i v d (by simpa using hv) hd);unfold Zy;rw[<-ai];exact((ac.take off).append hx).append (ac.drop _)
 have ab:((t.toList.take off++vs++t.toList.drop (off+I vs)).toArray).size=t.size:=by have:=u.len;simp[Zy]at this⊢;omega
 have he:=Ziw (g:=g) b hb ab af hkp;refine⟨_,ag,he,by simp[World.setRow],λc hc=>setRow_other w b c _ hc,af,_,T,setRow_heap w b t _ T (0,0) hb,by rw[ab,ad];simp[Zy];omega,
  λi v d hv hd=>(u.get i v d (by simpa using hv) hd).mono he,λx hx=>?_⟩
 simp only[List.mem_toArray,List.mem_append]at hx;rcases hx with (hx|hx)|hx;exact ae x (Array.mem_toList_iff.1 (List.mem_of_mem_take hx));exact ho x hx;exact ae x (Array.mem_toList_iff.1 (List.mem_of_mem_drop hx))
def ZAc{op n z x}(h:ck P op=sO (.clear n z x)):
  ∃ats t e x',op=.call ⟨.builtin .clear,#[x'],ats⟩/\ats[0]?=sO t/\P.underlying t=sO (.slice e)/\ZS P e=sO n/\Zab P e=sO z/\ZW x'=sO x/\0<n/\I z=n:=by
 unfold ck at h;split at h;simp at h;split at h<;>(try(simp at h;done));all_goals (try(repeat' (split at h<;>(try(simp at h;done)))))
 rename_i c _ _ ac _ _ e x' hu u _ _ _ s z' x2 h1 h2 h3 hc;simp only[ZIx,K.clear.injEq]at h;obtain⟨rfl,rfl,rfl⟩:=h;obtain⟨callee,ab,ats⟩:=c;simp only at ac hu u;obtain⟨ab⟩:=ab;simp only at u;subst u;subst ac;simp only[Option.bind_eq_some_iff]at hu;obtain⟨t,ht,hu⟩:=hu;simp only[ZIJ,decide_eq_true_eq]at hc;exact⟨ats,t,e,x',rfl,ht,hu,h1,h2,h3,hc.1,hc.2⟩
def Zm7{F:Fr P}{kp dk o os H L s}(hg:Zj H o.guard=sO true){z x sz b off n cap}(hk:o.k=.clear sz z x){p}(ha:ZC H true x=sO (p,.d (.msl b off n cap sz)))(hp:p){cs}(hcs:Z2 s b=sO cs)(hlen:off+n*sz<=I cs)(h:DO F kp dk os (Zx H o.dst (.d (.tup []))) L (s.upd b (.cells (Zy cs off (W3 z n))))):DO F kp dk (o::os) H L s:=by
 refine Y7 λoo g Z w tmps a6 i r k ar af ao ah hd hN m hr ap=>?_;have hw:=Z7 m ao hg;have aq:=Yb af (by rw[hk];rfl);rw[hk]at af;obtain⟨am,t,e,x',au,ad,hu,hsz,hz,aw,h0,az⟩:=ZAc af;obtain⟨zv,ax,ak,ay,ie,hie,hzz⟩:=Qh (g:=g) (w:=w) hz;have u:zv.cells.size=sz:=by have:=ak.len;simp at this;omega
 have ac:Rep g w _ _:=ZY m aw rfl ha hp F.ds;generalize av:(Act.mk tmps F.ds).eval x'=vv at ac;have aj:s b=sO (.cells cs):=by unfold Z2 at hcs;split at hcs<;>simp only[ZIx,reduceCtorEq]at hcs;subst hcs;assumption
 obtain⟨ag,a7⟩:=Zlu (z:=z) (n:=sz) (c:=n) az;have a0:ZI (Rep g w) (Builtin.zeroCells zv.cells n).toList (W3 z n):=by
  refine Ye (by rw[Array.length_toList,size_zeroCells,ag,u]) λi v d hv hd=>?_;have hi:i<n*sz:=by rw[<-ag];exact(List.getElem?_eq_some_iff.1 hd).1
  rw[a7 i hi]at hd;have hm:i % sz<sz:=Nat.mod_lt _ h0;simp only[Builtin.zeroCells,Array.toList_map,Array.toList_range,List.getElem?_map,ZIL,u]at hv;obtain⟨a,ha,rfl⟩:=hv;rw[List.getElem?_range hi]at ha;simp only[ZIx]at ha;subst ha;refine ak.get (i % sz) _ d ?_ hd;rw[getElem!_pos zv.cells (i % sz) ω];simp[u,hm]
 have ai:∀v∈(Builtin.zeroCells zv.cells n).toList,v.one1=true:=λv hv=>by simp only[Builtin.zeroCells,Array.mem_toList_iff,Array.mem_map]at hv;obtain⟨a,_,rfl⟩:=hv;by_cases hs0:zv.cells.size=0;omega;exact ay _ (by rw[getElem!_pos zv.cells _ (Nat.mod_lt _ ω)];exact Array.getElem_mem _)
 have ab:n=0->Zy cs off (W3 z n)=cs:=λhn=>by subst hn;simp[Zy,W3]
 have al:∃w',(Builtin.clear_ am oo.type #[vv]).run P w=.ok (.tuple #[]) w'/\Ext g w g w'/\w'.heap.size=w.heap.size/\(∀c,c≠b->w'.heap[c]?=w.heap[c]?)/\YJ g w' b (Zy cs off (W3 z n)):=by
  have ae:=Qv m.st hcs;cases ac with
  |mslx a =>refine⟨w,?_,Ext.refl g w,rfl,λ_ _=>rfl,by rw[ab rfl];exact ae⟩;simp[Builtin.clear_,ad,run_underlying hu]
  |msl _ _ _ _ _ h1 h2 =>
   cases n with
   |zero =>refine⟨w,?_,Ext.refl g w,rfl,λ_ _=>rfl,by rw[ab rfl];exact ae⟩;simp[Builtin.clear_,ad,run_underlying hu]
   |succ n =>obtain⟨w',a1,a2,a3,a4,a5⟩:=Zb2 (P:=P) ae a0 ai (by rw[ag];exact hlen) (m.st.kept b _ aj);refine⟨w',?_,a2,a3,a4,a5⟩;simp only[Builtin.clear_,ad,List.getElem?_toArray,List.getElem?_cons_zero,Sem.run_bind,run_underlying hu,Result.andThen_ok,ax,a1,Sem.run_pure]
 obtain⟨w',a1,a2,a3,a4,a5⟩:=al;have m':=m.named (o':=.cells (Zy cs off (W3 z n))) aj a2 a3 a4 a5;refine Yk (L':=L) hN ar ah hd hw aq (v:=.tuple #[]) (e:=.d (.tup [])) ?_ a2 m' (Rep.tup [] [] rfl ψ) (h a6 r k hr ap);simp only[execOp,au,resolve,invoke,builtin,Sem.run_bind,Sem.run_pure,Result.andThen_ok,List.map_toArray,ZIQ,ZI9,av,a1]
def WZ(P:Program)(s:St)(sz:Nat)(dy:D)(m:Nat)(row:Nat->List D):Prop :=
 ∀g w v,Yf g s w->Rep g w v dy->0<sz->∃news,WK g w sz m news row/\Zbp P w sz m v news
def WZ.elems{s sz t m row}(h:ZaP sz t=sO (m,row)):WZ P s sz t m row:=λg w v _ hr u=>Zns (P:=P) hr h u
def WZ.msl{s sz b off n cap cs}(hcs:Z2 s b=sO cs)(hlen:off+n*sz<=I cs):WZ P s sz (.msl b off n cap sz) n (λi=>part cs (off+i*sz) sz):=λg w v hs hr h0=>by
 obtain⟨hp,ab,T,hb,hcl,ad,ac⟩:=Qv hs hcs;let vals:=(ab.toList.drop off).take (n*sz);have u:I vals=n*sz:=by simp[vals];omega
 have t:∀k,k<n*sz->vals[k]?=ab[off+k]?:=λk hk=>by simp only[vals,ZJf,hk,if_true,List.getElem?_drop,Array.getElem?_toList]
 have hk:∀i j,i<n->j<sz->i*sz+j<n*sz:=λi j hi hj=>by have:(i+1)*sz<=n*sz:=ZIT _ hi;rw[ZIX,Nat.one_mul]at this;omega
 refine⟨vals,⟨u,λi hi=>?_,λi j v d hi hj hv hd=>?_,λv hv=>?_⟩,?_⟩;have:=hk i (sz-1) hi ω;simp only[part,ZIS,ZI8];omega;rw[t _ (hk i j hi hj)]at hv;refine ad _ v d hv ?_;simp only[part,ZJf,hj,if_true,List.getElem?_drop]at hd;rw[<-hd];congr 1;omega;obtain⟨k,ae,rfl⟩:=ZIV hv;have h1:=t k ω;rw[ZI4 ae]at h1;exact ac _ (Array.mem_of_getElem? h1.symm);cases hr with
 |mslx a =>have:vals=[]:=List.eq_nil_of_length_eq_zero (by simpa using u);rw[this];exact⟨λw2=>by simp[Builtin.lenOf],λw2 _=>by simp[Builtin.firstCells,loadCells,loadCellsFrom]⟩
 |msl _ _ _ _ _ h1 h2 =>
  refine⟨λw2=>by simp[Builtin.lenOf],λw2 ag=>?_⟩;refine run_firstCells_some (P:=P) w2 sz n ⟨b,off,nO⟩ n cap vals u λk v hv=>?_;have af:k<n*sz:=by rw[<-u];exact(List.getElem?_eq_some_iff.1 hv).1
  rw[t k af]at hv;rw[Kf,JA (ag▸rfl:w2.heap[b]?=w.heap[b]?),JO hb];exact hv
def Zwy{F:Fr P}{kp dk o os H L s}(hg:Zj H o.guard=sO true){e sz b z x y}(hk:o.k=.append e sz b z x y){p q t n m row row2 dy dx}(hx:ZC H true x=sO (p,.d dx))(hsl:Zeh sz dx=sO (t,n,row))(hy:ZC H true y=sO (q,.d dy))(hp:p)(hq:q)(hel:WZ P (s.own t (n*sz)) sz dy m row2)(hok:t.okIn s)(hb:(n+m)*b<=140737488355328)(hbig:n+m<=big)(h:∀t':Tok,t'.okIn s->DO F kp dk os (Zx H o.dst (.d (.sl t' (n+m) sz (YV n row row2)))) L (s.own t' ((n+m)*sz))):
  DO F kp dk (o::os) H L (s.own t (n*sz)):=by
 refine Y7 λoo g Z w tmps bi i r k az ab ar ai hd hN M hr au=>?_;have hw:=Z7 M ar hg;have ax:=Yb ab (by rw[hk];rfl);rw[hk]at ab;obtain⟨x',y',ag,ak,t1,t2,tu,a0,u,al,am,bb,bc,ay,ba,hz,ap,be,bf,h0,hzl⟩:=ZaK ab;subst ap;have a8:Rep g w _ (.sl t n sz row):=Zhu (ZY M be rfl hx hp F.ds) hsl;have a9:Rep g w _ _:=ZY M bf rfl hy hq F.ds;obtain⟨zv,hz1,bg,hz3,ie,ac,bh⟩:=Qh (g:=g) (w:=w) hz;have ae:ie.size=sz:=by simpa[ZS,ac]using ba
 have af:zv.cells.size=sz:=by have:=bg.len;simp at this;omega
 have aq:P.bytesOf e=ie.bytes:=by simp[Program.bytesOf,ac]
 rw[aq]at hb;obtain⟨news,av,aw⟩:=hel _ _ _ M.st a9 h0;obtain⟨v',w',g',t',a1,a2,a3,a4,a5,a6,a7⟩:=Ztg (ty:=oo.type) bb bc ay ac bh ae af h0 M.st hok a8 av aw hb hbig;have ad:∀l cs,Zh L l=sO cs->t≠.tip (Z l):=λl cs hl ht=>by have:=M.locSt l cs hl;rw[ht]at this;simp[St.own,ZJc]at this
 have aj:∀l cs,Zh L l=sO cs->s (Z l)=nO:=λl cs hl=>by
  cases hx:s (Z l) with
  |none=>rfl
  |some o=>have:=Y2 (k:=n*sz) hok _ _ hx;rw[M.locSt l cs hl]at this;simp at this
 have mm:Zu g' Z w' tmps H L (s.own t' ((n+m)*sz)):=by
  refine⟨a3,λl cs hl=>(M.loc l cs hl).mono a2 (a6 (Z l) (M.loc l cs hl).lt (ad l cs hl)).1 (a6 (Z l) (M.loc l cs hl).lt (ad l cs hl)).2,λl cs hl=>by rw[a2.keptEq];exact M.locKept l cs hl,λl cs hl=>?_,M.inj,λt e he=>(M.env t e he).mono a2⟩;cases t' with
  |tip b =>
   have:¬Z l=b:=λhb=>by rcases a7 b rfl with h1|h1;exact ad l cs hl (by rw[hb];exact h1);have:=(M.loc l cs hl).lt;omega
   simp only[St.own,ZJc,this,if_false];exact aj l cs hl
  |_=>exact aj l cs hl
 refine Yk hN az ai hd hw ax (v:=v') (w':=w') (e:=.d (.sl t' (n+m) sz (YV n row row2))) ?_ a2 mm a5 (h t' a4 bi r k hr au);have ao:ag = #[x',y']:=by apply Array.ext';simpa using u
 have ah:∀vs,Builtin.append_ ak oo.type vs=Builtin.append_ #[t1,t2] oo.type vs:=λvs=>by unfold Builtin.append_;simp[al,am]
 unfold execOp;simp only[a0,ao,resolve,invoke,builtin,Sem.run_bind,Sem.run_pure,Result.andThen_ok,List.map_toArray,ZIQ,ZI9,ah,a1]
def ZbR{sz m}{row:Nat->List D}(h:∀i,i<m->(row i).length=sz):∀k,k<=m->((ZIM k).flatMap row).length=k*sz
 |0,_=>by simp
 |k+1,hk=>by rw[List.range_succ,List.flatMap_append,ZII,ZbR h k ω];simp[h k hk,ZIX]
def Zny{sz m}{row:Nat->List D}(h:∀i,i<m->(row i).length=sz):∀(k i j),k<=m->i<k->j<sz->((ZIM k).flatMap row)[i*sz+j]?=(row i)[j]?
 |0,i,j,_,hi,_=>by omega
 |k+1,i,j,hk,hi,hj=>by
  rw[List.range_succ,List.flatMap_append];have hl:=ZbR h k ω;by_cases t:i<k;have:i*sz+j<k*sz:=by have:(i+1)*sz<=k*sz:=ZIT _ t;rw[ZIX,Nat.one_mul]at this;omega
  rw[ZI6 ω];exact Zny h k i j ω t hj;obtain rfl:i=k:=ω;rw[ZJi ω,hl];simp[ZJl]
def WK.flat{g w sz m vs row}(h:WK g w sz m vs row):ZI (Rep g w) vs ((ZIM m).flatMap row):=by
 have hl:=ZbR h.rlen m (ZIO _);refine Ye (by rw[h.len,hl]) λk v d hv t=>?_;have hk:k<m*sz:=by rw[<-hl];exact(List.getElem?_eq_some_iff.1 t).1
 have hs:0<sz:=by rcases Nat.eq_zero_or_pos sz with h|h;subst h;simp at hk;exact h
 have u:k / sz<m:=(Nat.div_lt_iff_lt_mul hs).2 hk;have h2:k % sz<sz:=Nat.mod_lt _ hs;have e:k / sz*sz+k % sz=k:=by rw[Nat.mul_comm];exact Nat.div_add_mod k sz
 rw[<-e]at hv t;rw[Zny h.rlen m _ _ (ZIO _) u h2]at t;exact h.rep _ _ v d u h2 hv t
def Zm6{F:Fr P}{kp dk o os H L s}(hg:Zj H o.guard=sO true){e sz b z x y}(hk:o.k=.append e sz b z x y){p q m row row2 dy dx}(hx:ZC H true x=sO (p,.d dx))(hsl:Zeh sz dx=sO (.full,0,row))(hy:ZC H true y=sO (q,.d dy))(hel:WZ P s sz dy m row2)(hp:p)(hq:q)(hm:0<m)(hb:m*b<=140737488355328)(hbig:m<=big)(h:∀c cap,s c=nO->m<=cap->DO F kp dk os (Zx H o.dst (.d (.msl c 0 m cap sz))) L (s.upd c (.cells ((ZIM m).flatMap row2++List.replicate ((cap-m)*sz) .any)))):
  DO F kp dk (o::os) H L s:=by
 refine Y7 λoo g Z w tmps bi i r k az u aq ag hd hN M hr au=>?_;have hw:=Z7 M aq hg;have aw:=Yb u (by rw[hk];rfl);rw[hk]at u;obtain⟨x',y',ae,aj,t1,t2,tu,a0,t,ak,al,ba,bb,ax,a9,hz,ao,bc,be,h0,hzl⟩:=ZaK u;subst ao;have a7:Rep g w _ (.sl .full 0 sz row):=Zhu (ZY M bc rfl hx hp F.ds) hsl;have a8:Rep g w _ _:=ZY M be rfl hy hq F.ds;obtain⟨zv,hz1,bf,bg,ie,ab,bh⟩:=Qh (g:=g) (w:=w) hz;have ac:ie.size=sz:=by simpa[ZS,ab]using a9
 have ad:zv.cells.size=sz:=by have:=bf.len;simp at this;omega
 have ap:P.bytesOf e=ie.bytes:=by simp[Program.bytesOf,ab]
 rw[ap]at hb;obtain⟨news,ai,av⟩:=hel _ _ _ M.st a8 h0;obtain⟨cap,cv,a1,a2,a3,a4,a5,a6⟩:=ZvF (ty:=oo.type) ba bb ax ab bh ac ad bg h0 M.st a7 hm ai av hb hbig;have ah:JW g w g (w.drew.alloc (.cells cv e)):=Zke (g:=g) (w:=w) cv e M.st.fresh;have he:=ah.ext M.st.fresh;have ar:=ZbR ai.rlen m (ZIO _);have ay:WJ g (w.drew.alloc (.cells cv e)) w.heap.size (.cells ((ZIM m).flatMap row2++List.replicate ((cap-m)*sz) .any)) :=
  ⟨(M.st.fresh _ (ZIO _)).1,_,e,Kk w.drew,by rw[ZII,ar,List.length_replicate,a4,<-ZIX];congr 1;omega,λi v d hv hd=>(a6 i v d hv hd).mono he,a5⟩
 obtain⟨hn,m'⟩:=M.newObj ah ay;refine Yk (L':=L) hN az ag hd hw aw (e:=.d (.msl w.heap.size 0 m cap sz)) ?_ he m' (Rep.msl _ _ _ _ _ a2 a3) (h _ cap hn a2 bi r k hr au);have am:ae = #[x',y']:=by apply Array.ext';simpa using t
 have af:∀vs,Builtin.append_ aj oo.type vs=Builtin.append_ #[t1,t2] oo.type vs:=λvs=>by unfold Builtin.append_;simp[ak,al]
 unfold execOp;simp only[a0,am,resolve,invoke,builtin,Sem.run_bind,Sem.run_pure,Result.andThen_ok,List.map_toArray,ZIQ,ZI9,af,a1]
def Zlx{F:Fr P}{kp dk o os H L s}(hg:Zj H o.guard=sO true){e sz bt z x y}(hk:o.k=.append e sz bt z x y){p q b off n cap m row2 dy cs}(hx:ZC H true x=sO (p,.d (.msl b off n cap sz)))(hy:ZC H true y=sO (q,.d dy))(hp:p)(hq:q)(hcs:Z2 s b=sO cs)(hlen:off+n*sz<=I cs)(hel:WZ P s sz dy m row2)(hroom:n+m<=cap->off=0/\(n+m)*sz<=I cs)(hb:(n+m)*bt<=140737488355328)(hbig:n+m<=big)(h1:n+m<=cap->DO F kp dk os (Zx H o.dst (.d (.msl b off (n+m) cap sz))) L (s.upd b (.cells (Zy cs (n*sz) ((ZIM m).flatMap row2)))))(h2:∀c cap',cap<n+m->s c=nO->n+m<=cap'->DO F kp dk os (Zx H o.dst (.d (.msl c 0 (n+m) cap' sz))) L (s.upd c (.cells (part cs off (n*sz)++(ZIM m).flatMap row2++List.replicate ((cap'-(n+m))*sz) .any)))):
  DO F kp dk (o::os) H L s:=by
 refine Y7 λoo g Z w tmps ak i r k a6 aw ca ae hd hN M hr ay=>?_;have hw:=Z7 M ca hg;have az:=Yb aw (by rw[hk];rfl);rw[hk]at aw;obtain⟨x',y',bb,bw,t1,t2,tu,cj,au,bx,bz,a8,a9,a0,cm,hz,b1,cr,cu,h0,hzl⟩:=ZaK aw;subst b1;have ai:Rep g w _ (.msl b off n cap sz):=ZY M cr rfl hx hp F.ds;have bq:Rep g w _ _:=ZY M cu rfl hy hq F.ds;obtain⟨zv,hz1,cw,cx,ie,ah,cz⟩:=Qh (g:=g) (w:=w) hz;have a7:ie.size=sz:=by simpa[ZS,ah]using cm
 have ba:zv.cells.size=sz:=by have:=cw.len;simp at this;omega
 have b2:P.bytesOf e=ie.bytes:=by simp[Program.bytesOf,ah]
 rw[b2]at hb;have br:s b=sO (.cells cs):=by unfold Z2 at hcs;split at hcs<;>simp only[ZIx,reduceCtorEq]at hcs;subst hcs;assumption
 obtain⟨ad,ab,am⟩:=hel _ _ _ M.st bq h0;obtain⟨bv,ao,bo⟩:=WZ.msl (P:=P) (s:=s) (cap:=cap) hcs hlen g w _ M.st ai h0;have b0:bb = #[x',y']:=by apply Array.ext';simpa using au
 have be:∀vs,Builtin.append_ bw oo.type vs=Builtin.append_ #[t1,t2] oo.type vs:=λvs=>by unfold Builtin.append_;simp[bx,bz]
 generalize co:(Act.mk tmps F.ds).eval x'=vx at ai bo;generalize cp:(Act.mk tmps F.ds).eval y'=vy at bq am;have ac:∀v' w',(Builtin.append_ #[t1,t2] oo.type #[vx,vy]).run P w=.ok v' w'->(execOp (Act.mk tmps F.ds).eval oo).run P w=.ok (.value v') w':=λv' w' t=>by unfold execOp;simp only[cj,b0,resolve,invoke,builtin,Sem.run_bind,Sem.run_pure,Result.andThen_ok,List.map_toArray,ZIQ,ZI9,be,co,cp,t]
 subst a7;have ce:=ZbR ab.rlen m (ZIO _);have hpl:(part cs off (n*ie.size)).length=n*ie.size:=by simp only[part,ZIS,ZI8];omega
 have bh:(ZIM n).flatMap (λi=>part cs (off+i*ie.size) ie.size)=part cs off (n*ie.size):=by
  have hlo:=ZbR ao.rlen n (ZIO _);apply List.ext_getElem?;intro k';by_cases bk:k'<n*ie.size;have e1:k' / ie.size*ie.size+k' % ie.size=k':=by rw[Nat.mul_comm];exact Nat.div_add_mod k' ie.size
  have e2:k' / ie.size<n:=(Nat.div_lt_iff_lt_mul h0).2 bk;have e3:k' % ie.size<ie.size:=Nat.mod_lt _ h0;have:=Zny ao.rlen n _ _ (ZIO _) e2 e3;rw[e1]at this;rw[this];simp only[part,ZJf,e3,if_true,List.getElem?_drop,bk]
  congr 1;omega
  rw[ZJj ω,ZJj ω]
 have ag:∀base,vx=.slice base n cap->cap<n+m->F.T.T g w (lone (F.b.atR ⟨tmps,F.ds⟩ (.inRegion ak (i::r)::k)) F.cs w):=by
  intro base hv bl;subst hv;have t:=Znh (ty:=oo.type) a8 a9 a0 ah cz am bo.2 bl (by simp only[big]at hbig;omega) hb;have ax:=grownCap_ge w (n+m) cap e;have u:=grownCap_le_maxLen w (n+m) cap e (by simp only[big]at hbig;simp only[maxLen];omega);generalize grownCap w (n+m) cap e=cap' at t ax u;generalize bg:(bv++ad++(Builtin.zeroCells zv.cells (cap'-(n+m))).toList).toArray=cv at t;have cy:(Builtin.zeroCells zv.cells (cap'-(n+m))).toList.length=(cap'-(n+m))*ie.size:=by rw[Array.length_toList,size_zeroCells,ba]
  have bj:JW g w g (w.drew.alloc (.cells cv e)):=Zke (g:=g) (w:=w) cv e M.st.fresh;have he:=bj.ext M.st.fresh;have aq:ZI (Rep g w) cv.toList (part cs off (n*ie.size)++(ZIM m).flatMap row2++List.replicate ((cap'-(n+m))*ie.size) .any):=by rw[<-bg,<-bh];refine(ao.flat.append ab.flat).append (Ye (by rw[cy,List.length_replicate]) λk' v d hv hd=>?_);rw[List.getElem?_replicate]at hd;split at hd<;>simp only[ZIx,reduceCtorEq]at hd;subst hd;exact .any v
  have bp:∀v∈cv,v.one1=true:=λv hv=>by rw[<-bg]at hv;simp only[List.mem_toArray,List.mem_append]at hv;rcases hv with (hv|hv)|hv;exact ao.one v hv;exact ab.one v hv;simp only[Builtin.zeroCells,Array.mem_toList_iff,Array.mem_map]at hv;obtain⟨a,_,rfl⟩:=hv;exact cx _ (by rw[getElem!_pos zv.cells _ (Nat.mod_lt _ ω)];exact Array.getElem_mem _)
  have ci:WJ g (w.drew.alloc (.cells cv e)) w.heap.size (.cells (part cs off (n*ie.size)++(ZIM m).flatMap row2++List.replicate ((cap'-(n+m))*ie.size) .any)) :=
   ⟨(M.st.fresh _ (ZIO _)).1,_,e,Kk w.drew,by simpa using aq.len,λi v d hv hd=>(aq.get i v d (by simpa using hv) hd).mono he,bp⟩
  obtain⟨hn,m'⟩:=M.newObj bj ci;exact Yk (L':=L) hN a6 ae hd hw az (e:=.d (.msl w.heap.size 0 (n+m) cap' ie.size)) (ac _ _ t) he m' (Rep.msl _ _ _ _ _ ax (by simp only[maxLen]at u;simp only[big];omega)) (h2 _ cap' bl hn ax ak r k hr ay)
 have aj:∀base,vx=.slice base n cap->base=sO ⟨b,off,nO⟩\/(n+m=0/\cap=0)->n+m<=cap->F.T.T g w (lone (F.b.atR ⟨tmps,F.ds⟩ (.inRegion ak (i::r)::k)) F.cs w):=by
  intro base hv av u;subst hv;obtain⟨ch,af⟩:=hroom u;subst ch;obtain⟨hpr,bc,T,bf,cb,hcr,hco⟩:=Qv M.st hcs;by_cases bn:m=0;subst bn;have cg:ad=[]:=List.eq_nil_of_length_eq_zero (by simpa using ab.len);subst cg;have t:=ZjI (ty:=oo.type) (n:=n) (cap:=cap) (base:=base) a8 a9 a0 ah am ω;have bu:Zy cs (n*ie.size) ((ZIM 0).flatMap row2)=cs:=by simp[Zy]
  have cn:s.upd b (.cells cs)=s:=by funext c;simp only[ZJc];split<;>simp_all
  have bi:=h1 u;rw[bu,cn]at bi;exact Yk (L':=L) (s':=s) hN a6 ae hd hw az (e:=.d (.msl b 0 (n+0) cap ie.size)) (ac _ _ t) (Ext.refl g w) M (by rw[Nat.add_zero];exact ai) (bi ak r k hr ay);have al:base=sO ⟨b,0,nO⟩:=av.resolve_right (λh=>bn ω);subst al;have ar:n*ie.size+I ad<=bc.size:=by rw[ab.len,<-ZIX,cb];exact af
  have t:=Zth (ty:=oo.type) a8 a9 a0 ah am bf (λv hv=>by rw[Zdo];exact ab.one v hv) u ar;obtain⟨w',a1,a2,a3,a4,a5⟩:=Zb2 (P:=P) (off:=n*ie.size) (Qv M.st hcs) ab.flat ab.one (by rw[ce,<-ZIX];exact af) (M.st.kept b _ br);have ap:=run_storeCells_at (P:=P) b (n*ie.size) T ad 0 bc w bf (by simpa using ar) (λv hv=>by rw[Zdo];exact ab.one v hv);simp only[Nat.add_zero]at ap;rw[a1]at ap;simp only[Result.ok.injEq,true_and]at ap;rw[<-ap]at t;have m':=M.named (o':=.cells (Zy cs (n*ie.size) ((ZIM m).flatMap row2))) br a2 a3 a4 a5;exact Yk (L':=L) hN a6 ae hd hw az (e:=.d (.msl b 0 (n+m) cap ie.size)) (ac _ _ t) a2 m' (by
   cases ai with
   |msl _ _ _ _ _ _ hcb=>exact Rep.msl _ _ _ _ _ u hcb
   |mslx a=>exact absurd u ω) (h1 u ak r k hr ay)
 cases ai with
 |msl _ _ _ _ _ hc1 hc2 =>by_cases u:n+m<=cap;exact aj _ rfl (.inl rfl) u;exact ag _ rfl ω
 |mslx a =>by_cases u:0+m<=0;exact aj _ rfl (.inr ⟨ω,rfl⟩) u;exact ag _ rfl ω
end
variable {P:Program}
def KC(o:DOp)(H:Env)(L:Loc)(s:St):SR :=
 match o.k with
 |.q (.bin .add _) _=>.stop
 |.q (.bin .shl _) _=>.stop
 |_=>ZF o H L s
def W1(K:Env->Loc->St->Prop)(X:List DOp->Env->Loc->St->Prop):List DOp->Env->Loc->St->Prop
 | [],H,L,s=>K H L s
 |o::os,H,L,s=>match KC o H L s with
  |.ok side H' L' s'=>side/\W1 K X os H' L' s'
  |.all side pre H' s'=>side/\∀b,pre b->W1 K X os (H' b) L (s' b)
  |.stop=>X (o::os) H L s
def Zi9{o H L s}:∀r,KC o H L s=r->r=.stop\/ZF o H L s=r:=λr t=>by
 unfold KC at t;split at t;exact .inl t.symm;exact .inl t.symm;exact .inr t
def WI{F:Fr P}{kp}{dk}:∀{os} {H} {L} {s},
  W1 (λH L s=>Zt F dk (kept kp H) (ZlM kp H L) s) (λos H L s=>DO F kp dk os H L s) os H L s->DO F kp dk os H L s
 | [],H,L,s,h=>Ze8 h
 |o::os,H,L,s,h=>by simp only[W1]at h;split at h;rename_i sd H' L' s' t;rcases Zi9 _ t with h2|h2;cases h2;exact QJ h2 h.1 (WI h.2);rename_i sd pre H' s' t;rcases Zi9 _ t with h2|h2;cases h2;exact Zn7 h2 h.1 λb u=>WI (h.2 b u);exact h
def Zb5{F:Fr P}{ks dk}:∀{os H L s},
  W1 (λH L s=>Zt F dk (Yn H ks) (Za7 (Yn H ks) L) s) (λos H L s=>Qt F (sO ks) dk os H L s) os H L s->Qt F (sO ks) dk os H L s
 | [],H,L,s,h=>YE (os:=[]) h
 |o::os,H,L,s,h=>by simp only[W1]at h;split at h;rename_i sd H' L' s' t;rcases Zi9 _ t with h2|h2;cases h2;intro B;refine Jj h2 h.1 ?_;split;exact Zb5 h.2 _;exact⟨J4,Zb5 h.2 _⟩;rename_i sd pre H' s' t;rcases Zi9 _ t with h2|h2;cases h2;intro B;exact ZpS h2 h.1 λb u=>⟨J4,Zb5 (h.2 b u) _⟩;exact h
def ZxX{F:Fr P}{kp dk o os H L s}(hg:o.guard=nO){x y t pl}(hk:o.k=.q (.bin t pl) [x,y]){p k u a b v}(ha:Z8 H true [x,y]=sO (p,[.d (.int k a),.d (.int u b)]))(hp:p)(hv:ZgM t k u a b=sO v)(h:Qt F kp dk os (Zx H o.dst (.d (.int k v))) L s):Qt F kp dk (o::os) H L s:=λB=>ZzQ hg hk ha hp hv (h B)
def ZqX{F:Fr P}{kp dk o os H L s}(u:o.guard=nO){x y pl}(hk:o.k=.q (.bin .add pl) [x,y]){p k a b}(t:Z8 H true [x,y]=sO (p,[.d (.int k a),.d (.int k b)]))(hp:p)(h:Qt F kp dk os (Zx H o.dst (.d (.int k (k.wrap (a+b))))) L s):Qt F kp dk (o::os) H L s:=ZxX u hk t hp (by simp[ZgM]) h
section
variable {P:Program} {F:Fr P} {ks:Option (List Nat)} {dk:List WY} {H:Env} {L:Loc} {s:St}
def rgR{r os t}(e:r=os)(u:t=ks)(h:DO F ks dk os H L s):Zt F (.code (.reg r t)::dk) H L s:=by subst e u;exact Zic h
def ZiX{o r os t}(e:r=os)(u:t=ks)(h:Qt F ks dk os H L s):Zt F (.code (.regD o (ZxP r) t)::dk) H L s:=by subst e u;exact ZwA h
def rgD{o r os t}(e:r=os)(u:t=ks)(h:DOA F ks dk os H L s []):Zt F (.code (.regD o r t)::dk) H L s:=by subst e u;exact ZjB h
end
structure Hid(p:Prop):Prop where
 out:p
def nd2{a b}(x:a)(y:b):a/\b:=⟨x,y⟩
def mv{A B:Prop}(k:B)(h:Hid B->A:=by
 intro hk;repeat(first|refine Zc ?_|refine Zr ?_|refine Z4 ?_|refine ZK ?_|refine Yx ?_|refine Ze ?_|refine Ys ?_|refine ZT rfl ?_)
 exact hk.out):A:=h ⟨k⟩
def rg{A B:Prop}(k:B)(h:Hid B->A:=by
 intro hk;repeat(first|refine Zc ?_|refine Zr ?_|refine Z4 ?_|refine ZK ?_|refine Yx ?_|refine Ze ?_|refine Ys ?_|refine ZT rfl ?_)
 first|refine rgR (by conv=>lhs;whnf) (by conv=>lhs;whnf) (Zm ?_)|refine ZiX (by conv=>lhs;whnf) (by conv=>lhs;whnf) (YE ?_)|refine rgD (by conv=>lhs;whnf) (by conv=>lhs;whnf) (Yp ?_)
 simp only[Eqs,reduceCtorEq,Int.reduceToNat,reduceIte,Nat.reduceEqDiff,Nat.reduceAdd,Nat.reduceLeDiff];exact hk.out):A:=h ⟨k⟩
def rx{p:Prop}(e:p){A B:Prop}(k:B)(h:p->Hid B->A:=by
 intro e1 hk;repeat(first|refine Zc ?_|refine Zr ?_|refine Z4 ?_|refine ZK ?_|refine Yx ?_|refine Ze ?_|refine Ys ?_|refine ZT rfl ?_)
 first|refine rgR (by conv=>lhs;whnf) (by conv=>lhs;whnf) (Zm ?_)|refine ZiX (by conv=>lhs;whnf) (by conv=>lhs;whnf) (YE ?_)|refine rgD (by conv=>lhs;whnf) (by conv=>lhs;whnf) (Yp ?_)
 simp only[Eqs,reduceCtorEq,Int.reduceToNat,reduceIte,Nat.reduceEqDiff,Nat.reduceAdd,Nat.reduceLeDiff,e1];exact hk.out):A:=h e ⟨k⟩
def rh{A B:Prop}(k:B)(h:Hid B->A:=by
 intro hk;repeat(first|refine Zc ?_|refine Zr ?_|refine Z4 ?_|refine ZK ?_|refine Yx ?_|refine Ze ?_|refine Ys ?_|refine ZT rfl ?_)
 first|refine rgR (by conv=>lhs;whnf) (by conv=>lhs;whnf) ?_|refine ZiX (by conv=>lhs;whnf) (by conv=>lhs;whnf) ?_|refine rgD (by conv=>lhs;whnf) (by conv=>lhs;whnf) ?_
 exact hk.out):A:=h ⟨k⟩
def aa{A B:Prop}(k:B)(h:Hid B->A:=by
 intro hk;repeat(refine And.intro (by first|omega|trivial|(intro h0;simp at h0;omega)) ?_)
 exact hk.out):A:=h ⟨k⟩
def cl{q:Prop}(c:q){A B:Prop}(k:B)(h:q->Hid B->A:=by
 intro hc hk;refine ZaD rfl rfl rfl rfl rfl φ φ hc (Zm ?_);simp only[Eqs,reduceCtorEq,Int.reduceToNat,reduceIte,Nat.reduceEqDiff,Nat.reduceAdd,Nat.reduceLeDiff];exact hk.out):A:=h c ⟨k⟩
def ct{q:Prop}(c:q){A B:Prop}(k:B)(h:q->Hid B->A:=by
 intro hc hk;refine ZaE rfl rfl rfl rfl rfl φ φ hc (Zm ?_);simp only[Eqs,reduceCtorEq,Int.reduceToNat,reduceIte,Nat.reduceEqDiff,Nat.reduceAdd,Nat.reduceLeDiff];exact hk.out):A:=h c ⟨k⟩
def cl0{q:Prop}(c:q){A B:Prop}(k:B)(h:q->Hid B->A:=by
 intro hc hk;refine Zwx rfl rfl rfl rfl rfl φ φ hc (YE ?_);simp only[Eqs,reduceCtorEq,Int.reduceToNat,reduceIte,Nat.reduceEqDiff,Nat.reduceAdd,Nat.reduceLeDiff];exact hk.out):A:=h c ⟨k⟩
def clD{q:Prop}(c:q){A B:Prop}(k:B)(h:q->Hid B->A:=by
 intro hc hk;refine Zf8 rfl rfl rfl rfl rfl φ φ hc (Yp ?_);simp only[Eqs,reduceCtorEq,Int.reduceToNat,reduceIte,Nat.reduceEqDiff,Nat.reduceAdd,Nat.reduceLeDiff];exact hk.out):A:=h c ⟨k⟩
def ctD{q:Prop}(c:q){A B:Prop}(k:B)(h:q->Hid B->A:=by
 intro hc hk;refine Zjy rfl rfl rfl rfl rfl φ φ hc (by first|trivial|exact⟨rfl,trivial⟩|simp[Wi,K2]) (Yp ?_);simp only[Eqs,reduceCtorEq,Int.reduceToNat,reduceIte,Nat.reduceEqDiff,Nat.reduceAdd,Nat.reduceLeDiff];exact hk.out):A:=h c ⟨k⟩
section
variable {P:Program} {F:Fr P} {dk:List WY} {H:Env} {L:Loc} {s:St}
def cd{o:Opd}{x y:DC}{b:Bool}{p:Prop}(ht:b=true->Zt F (.code x::dk) H L s)(hf:b=false->Zt F (.code y::dk) H L s)(ho:ZC H true o=sO (p,.d (.bool b)):=by rfl)(hp:p:=by trivial):Zt F (.code (.cond o x y)::dk) H L s:=Zl ho hp ht hf
end
def rb{p:Prop}(c:p){A B:Prop}(k:B)(h:p->Hid B->A:=by
 intro hret hk;repeat(first|refine Zc ?_|refine Zr ?_|refine Z4 ?_|refine ZK ?_|refine Yx ?_|refine Ze ?_|refine Ys ?_|refine ZT rfl ?_)
 exact hret rfl (by first|trivial|simp) (ZeX hk.out) (by first|exact St.sub_refl|exact Y2 (by first|trivial|assumption)|assumption|exact St.sub_upd _ (by assumption))):A:=h c ⟨k⟩
def ri{p:Prop}(c:p){A B:Prop}(k:B)(h:p->Hid B->A:=by
 intro hret hk;repeat(first|refine Zc ?_|refine Zr ?_|refine Z4 ?_|refine ZK ?_|refine Yx ?_|refine Ze ?_|refine Ys ?_|refine ZT rfl ?_)
 exact hret rfl (by first|trivial|simp) (Zhp hk.out) (by first|exact St.sub_refl|exact Y2 (by first|trivial|assumption)|assumption|exact St.sub_upd _ (by assumption))):A:=h c ⟨k⟩
def rs{p:Prop}(c:p){A B:Prop}(k:B)(h:p->Hid B->A:=by
 intro hret hk;repeat(first|refine Zc ?_|refine Zr ?_|refine Z4 ?_|refine ZK ?_|refine Yx ?_|refine Ze ?_|refine Ys ?_|refine ZT rfl ?_)
 exact hret rfl (by first|trivial|simp) (ZDb hk.out) (by first|exact St.sub_refl|exact Y2 (by first|trivial|assumption)|assumption|exact St.sub_upd _ (by assumption))):A:=h c ⟨k⟩
def ro{p:Prop}(c:p){A B:Prop}(k:B)(h:p->Hid B->A:=by
 intro hret hk;repeat(first|refine Zc ?_|refine Zr ?_|refine Z4 ?_|refine ZK ?_|refine Yx ?_|refine Ze ?_|refine Ys ?_|refine ZT rfl ?_)
 exact hret rfl (by first|trivial|simp) (ZDa hk.out) (by first|exact St.sub_refl|exact Y2 (by first|trivial|assumption)|assumption|exact St.sub_upd _ (by assumption))):A:=h c ⟨k⟩
def rt{p:Prop}(c:p){A B:Prop}(k:B)(h:p->Hid B->A:=by
 intro hret hk;repeat(first|refine Zc ?_|refine Zr ?_|refine Z4 ?_|refine ZK ?_|refine Yx ?_|refine Ze ?_|refine Ys ?_|refine ZT rfl ?_)
 exact hret rfl (by first|trivial|simp) (Jy hk.out rfl) (by first|exact St.sub_refl|exact Y2 (by first|trivial|assumption)|assumption|exact St.sub_upd _ (by assumption))):A:=h c ⟨k⟩
def fr{P}{F:Fr P}{x dk H L s}(N)(M:Nat->(Env->Loc->St->Prop)->Prop)(h:∀n,(∀m,m<n->∀i,N-i=m->M i λH L s=>Zt F (.code x::.inLoop x::dk) H L s)->∀i,N-i=n->M i λH L s=>Zt F (.code x::.inLoop x::dk) H L s)(g:(∀n i,N-i=n->M i λH L s=>Zt F (.code x::.inLoop x::dk) H L s)->Zt F (.code x::.inLoop x::dk) H L s):Zt F (.code (.loop x)::dk) H L s :=
 ZaF (g λn=>Nat.strongRecOn n h)
def i0{A B:Prop}(k:B)(h:Hid B->A:=by
 intro hq;repeat(first|refine Zc ?_|refine Zr ?_|refine Z4 ?_|refine ZK ?_|refine Yx ?_|refine Ze ?_|refine Ys ?_|refine ZT rfl ?_)
 exact Zl rfl trivial (λh=>by first|(simp at h;done)|(rw[hk]at h;simp at h;done)) (λ_=>hq.out)):A:=h ⟨k⟩
def i1{A B:Prop}(k:B)(h:Hid B->A:=by
 intro hq;repeat(first|refine Zc ?_|refine Zr ?_|refine Z4 ?_|refine ZK ?_|refine Yx ?_|refine Ze ?_|refine Ys ?_|refine ZT rfl ?_)
 exact Zl rfl trivial (λ_=>hq.out) (λh=>by first|(simp at h;done)|(rw[hk]at h;simp at h;done))):A:=h ⟨k⟩
def kl{P:Program}{F:Fr P}{dk:List WY}(s':St)(H':Env)(L':Loc)(h1:LeE H H')(h2:LeL L L')(h:Zt F dk H' L' s')(hs:s'.sub s:=by first|exact St.sub_refl|exact Y2 (by first|trivial|assumption)|exact St.sub_trans (Y2 (by first|trivial|assumption)) (Y2 (by first|trivial|assumption))|assumption):Zt F dk H L s :=
 KN hs (ZvB h1 h2 h)
end Go.DL
namespace Go.DL
open Go
variable {kp:Option (List Nat)}{L:Loc}{H:Env}{s:St}{w:World}{os:List DOp}{ds:List D}{B:List (Nat × Rd)}{dst:Option Nat}{tmps:Array Value}{g:G}{Φ:Res->St->Prop}{Z:Nat->Nat}{xs:List Opd}{side:Prop}{row:Nat->List D}
def Zup:List Int:=[1,10,100,1000,10000,100000,1000000,10000000,100000000,1000000000,10000000000,100000000000,1000000000000,10000000000000,100000000000000,1000000000000000,10000000000000000,100000000000000000,1000000000000000000,10000000000000000000]
instance theTabs:Zs5:=⟨λn=>match Nat.beq n 3 with
 |true=>sO (Zup.map λz=>.int .u64 z)
 |false=>nO⟩
end Go.DL
namespace Go.DL
open Go
variable [Zs5]
variable {kp:Option (List Nat)}{L:Loc}{H:Env}{s:St}{w:World}{os:List DOp}{ds:List D}{B:List (Nat × Rd)}{dst:Option Nat}{tmps:Array Value}{g:G}{Φ:Res->St->Prop}{Z:Nat->Nat}{xs:List Opd}{side:Prop}{row:Nat->List D}
def Zuj(T:Tab)(ms:List Nat):Nat->List Nat->List Nat->List Nat×List (Nat×List Nat)×List Nat
 |0,rest,_=>(rest,[],[])
 |n+1,rest,A =>
  let rdy:=rest.filter λi=>(T.deps i).all λd=>!rest.contains d;let free:=λ(i:Nat) (A:List Nat)=>A.filter λa=>!(ms.getD i 0).testBit a;let fl:=λ(i:Nat) (A:List Nat) (l:List (Nat×List Nat))=>match (free i A).filter λa=>YP (T.op a).k with
   | []=>l
   |as9=>(i,as9.map λa=>Zb3 (T.op a))::l
  match rdy.find? λi=>Zdc T A i&&A.all λa=>(ms.getD i 0).testBit a ||nd (T.op a).dst (ZB (T.op i)) with
  |some i=>match Zuj T ms n (rest.erase i) (i::A) with
   | (od,f,k)=>(i::od,f,k)
  |none=>match rdy with
   | []=>(rest,[],[])
   | [i]=>match Zuj T ms n (rest.erase i) (free i A) with
    | (od,f,k)=>(i::od,fl i A f,k)
   |i::j::_=>match Zuj T ms n ((rest.erase i).erase j) (free j (free i A)) with
    | (od,f,k)=>(i::j::od,fl i A (fl j A f),i::k)
def bS:List Nat->Nat
 | []=>0
 |a::l=>1 <<< a |||bS l
def bR:List DOp->Nat->Nat
 | [],m=>m
 |o::r,m=>bS (ZB o) |||match o.dst with
  |some d=>bR r m ^^^ (bR r m &&& 1 <<< d)
  |none=>bR r m
abbrev LB:=List (Nat×Nat)
def LB.get(d:Nat):LB->Nat->Nat
 | [],_=>d
 | (j,m)::r,k=>if j=k then m else LB.get d r k
def LB.put:LB->Nat->Nat->LB
 | [],k,m=>[(k,m)]
 | (j,n)::r,k,m=>if j=k then (j,n |||m)::r else (j,n)::LB.put r k m
def lvI(f:Nat->LB->Nat×LB×LB):Nat->Nat->LB->Nat×LB×LB
 |0,m,b=>f m b
 |n+1,m,b=>match f m b with
  | (m',k,b')=>if m' |||m=m then (m,k,b') else lvI f n (m' |||m) b'
def lvS(f:LB->Nat×LB×LB):Nat->LB->Nat×LB×LB
 |0,b=>f b
 |n+1,b=>match f b with
  | (m,k,b')=>if b'=b then (m,k,b') else lvS f n b'
def lvC(P:Program)(N ret:Nat):Code->LB->LB->Nat->Nat×LB×LB
 |.region id ops _,_,b,m=>match Jo P N ops (List.range ops.size) with
  |some l=>(bR l m,[(id,m)],b)
  |none=>(0,[],b)
 |.seq x y,ex,b,m=>match lvC P N ret y ex b m with
  | (m,k,b)=>match lvC P N ret x ex b m with
   | (m,k',b)=>(m,k'++k,b)
 |.cond c x y,ex,b,m=>match lvC P N ret x ex b m,ZW c with
  | (n,k,b),sO c=>match lvC P N ret y ex b m with
   | (m,k',b)=>(bS (ZR c) |||n |||m,k++k',b)
  |_,nO=>(0,[],b)
 |.block id x,ex,b,m=>lvC P N ret x ((id,m)::ex) b m
 |.loop x,ex,b,_=>lvI (λm b=>lvC P N ret x ex b m) 9 0 b
 |.exit id,ex,b,_=>(LB.get ret ex id,[],b)
 |.ret,_,b,_=>(ret,[],b)
 |.scope x,ex,b,m=>lvS (λb=>lvC P N ret x ex b m) 9 b
 |.label l,_,b,m=>(m,[],b.put l m)
 |.goto l,_,b,_=>(LB.get 0 b l,[],b)
 |.rangeFunc f _ x y,ex,b,m0=>match ZW f,lvI (λm b=>match lvC P N ret y ex b (m |||m0) with
   | (m1,k,b)=>match lvC P N ret x ex b m1 with
    | (m2,k',b)=>(m2 |||m0 |||m,k++k',b)) 9 0 b with
  |some f,(m,k,b)=>(bS (ZR f) |||m,k,b)
  |none,_=>(0,[],b)
 |_,_,b,m=>(m,[],b)
def fN:Nat->Option Nat
 |0=>sO 0
 |n+1=>sO (n+1)
def fNs:List Nat->Option (List Nat)
 | []=>sO []
 |a::l=>match fN a,fNs l with
  |some a,sO l=>sO (a::l)
  |_,_=>nO
def kpO:Nat->Nat->Nat->Option (List Nat)
 |0,_,_=>sO []
 |n+1,i,m=>match kpO n (i+1) (m / 2) with
  |some l=>if m % 2=1 then match fN i with
   |some i=>sO (i::l)
   |none=>nO
   else sO l
  |none=>nO
def kpM(N m:Nat):Option (List Nat):=kpO N 0 m
def rvM:List RV->Nat
 | []=>0
 |.tmp t::r=>1 <<< t |||rvM r
 |.cell1 t::r=>1 <<< t |||rvM r
 |.cellN t _::r=>1 <<< t |||rvM r
def dOf(P:Program)(N:Nat)(ops:Array Oper):List DOp×List Nat×List (Nat×List Nat)×List Nat :=
 match Jo P N ops (List.range ops.size) with
 |some l=>(l,Zuj (l.zip (ops.toList.map JF)) (Zgq (ops.toList.map JF) []) ops.size (List.range ops.size) [])
 |none=>([],[],[],[])
def anD(P:Program)(N:Nat):Code->Ann
 |.region id ops true=>match dOf P N ops with
  | (_,od,fl,_)=>(id+1000000,od)::fl.map λx=>(id+1000000*(x.1+4),x.2)
 |.seq a b=>anD P N a++anD P N b
 |.cond _ a b=>anD P N a++anD P N b
 |.block _ a=>anD P N a
 |.loop a=>anD P N a
 |.scope a=>anD P N a
 |.rangeFunc _ _ a b=>anD P N a++anD P N b
 |_=>[]
def lvF(P:Program)(fn:Func)(c:Code):LB :=
 match ZjZ P fn.results.toList with
 |some rs=>(lvC P fn.ntmps (rvM rs) c [] [] (rvM rs)).2.1
 |none=>[]
def anF(P:Program)(f:FuncId):Ann :=
 match P.funcs[f]? with
 |some fn=>match fn.body with
  |some c=>(lvF P fn c).filterMap (λx=>(kpM fn.ntmps x.2).map λk=>(x.1,k))++anD P fn.ntmps c
  |none=>[]
 |none=>[]
def fLL:List (Nat×Nat)->Option (List (Nat×Nat))
 | []=>sO []
 | (a,b)::l=>match fN a,fN b,fLL l with
  |some a,sO b,sO l=>sO ((a,b)::l)
  |_,_,_=>nO
def fCC:List (Nat×SK)->Option (List (Nat×SK))
 | []=>sO []
 | (a,b)::l=>match fN a,fCC l with
  |some a,sO l=>sO ((a,b)::l)
  |_,_=>nO
def fP:Option Zfb->Option (Option Zfb)
 |none=>sO nO
 |some p=>match p with
  |.cells l=>match fCC l with
   |some l=>sO (sO (.cells l))
   |none=>nO
  |p=>sO (sO p)
def plP(P:Program):Op->Option Zfb
 |.binOp _ t x y _=>match P.underlying t with
  |some (.struct fs)=>(Kx P fs.toList).map .cells
  |some (.array n e)=>match Qg P e,ZS P e with
   |some k,sO 1=>sO (.cells ((List.range n).map (·,k)))
   |_,_=>nO
  |_=>Zd2 P t x y
 |_=>nO
def fQ(P:Program)(op:Op)(q:Q)(xs:List Opd):Option K :=
 match q with
 |.loadN n=>match fN n with
  |some n=>sO (.q (.loadN n) xs)
  |none=>nO
 |.bin o _=>match fP (plP P op) with
  |some p=>sO (.q (.bin o p) xs)
  |none=>nO
 |.faddr n=>match fN n with
  |some n=>sO (.q (.faddr n) xs)
  |none=>nO
 |.fld1 n=>match fN n with
  |some n=>sO (.q (.fld1 n) xs)
  |none=>nO
 |.fldN n m=>match fN n,fN m with
  |some n,sO m=>sO (.q (.fldN n m) xs)
  |_,_=>nO
 |.iaddr n=>match fN n with
  |some n=>sO (.q (.iaddr n) xs)
  |none=>nO
 |.iaddrA n m=>match fN n,fN m with
  |some n,sO m=>sO (.q (.iaddrA n m) xs)
  |_,_=>nO
 |.idxA n m o=>match fN n,fN m with
  |some n,sO m=>sO (.q (.idxA n m o) xs)
  |_,_=>nO
 |.sliceA n m a b c=>match fN n,fN m with
  |some n,sO m=>sO (.q (.sliceA n m a b c) xs)
  |_,_=>nO
 |.slice n a b c=>match fN n with
  |some n=>sO (.q (.slice n a b c) xs)
  |none=>nO
 |.build z l=>match fLL l with
  |some l=>sO (.q (.build z l) xs)
  |none=>nO
 |.mkfn f n=>match fN n with
  |some n=>sO (.q (.mkfn f n) xs)
  |none=>nO
 |q=>sO (.q q xs)
def fK(P:Program)(op:Op):K->Option K
 |.q q xs=>fQ P op q xs
 |.storeN n a v=>match fN n with
  |some n=>sO (.storeN n a v)
  |none=>nO
 |.bsl n s z is xs=>match fN s with
  |some s=>sO (.bsl n s z is xs)
  |none=>nO
 |.append e s b z x y=>match fN s,fN b with
  |some s,sO b=>sO (.append e s b z x y)
  |_,_=>nO
 |.mkslice e s b z x y=>match fN s,fN b with
  |some s,sO b=>sO (.mkslice e s b z x y)
  |_,_=>nO
 |.clear s z x=>match fN s with
  |some s=>sO (.clear s z x)
  |none=>nO
 |.copy s x y=>match fN s with
  |some s=>sO (.copy s x y)
  |none=>nO
 |.pick c a b=>sO (.pick c a b)
 |.alloc z=>sO (.alloc z)
 |.box x=>sO (.box x)
 |.s2b x=>sO (.s2b x)
 |.store1 a v=>sO (.store1 a v)
 |.call f xs=>sO (.call f xs)
 |.defer f xs=>sO (.defer f xs)
 |.mkmap=>sO .mkmap
 |.mapupd a b c d=>sO (.mapupd a b c d)
 |.mapent a b c d=>sO (.mapent a b c d)
 |.entst a b c=>sO (.entst a b c)
 |.panic x=>sO (.panic x)
 |.recover=>sO .recover
 |.delete a b c=>sO (.delete a b c)
 |.fork _=>nO
def fO(P:Program):List (DOp×Oper)->Option (List DOp)
 | []=>sO []
 | (o,r)::l=>match fK P r.op o.k,fO P l,o.dst,o.guard with
  |some k,sO l,sO d,nO=>sO (⟨sO d,nO,k⟩::l)
  |some k,sO l,nO,nO=>sO (⟨nO,nO,k⟩::l)
  |some k,sO l,sO d,sO (t,true)=>sO (⟨sO d,sO (t,true),k⟩::l)
  |some k,sO l,sO d,sO (t,false)=>sO (⟨sO d,sO (t,false),k⟩::l)
  |some k,sO l,nO,sO (t,true)=>sO (⟨nO,sO (t,true),k⟩::l)
  |some k,sO l,nO,sO (t,false)=>sO (⟨nO,sO (t,false),k⟩::l)
  |_,_,_,_=>nO
def ZgX(id:Nat):Code->Option (Array Oper)
 |.region i ops _=>if i=id then sO ops else nO
 |.seq a b=>match ZgX id a with
  |some x=>sO x
  |none=>ZgX id b
 |.cond _ a b=>match ZgX id a with
  |some x=>sO x
  |none=>ZgX id b
 |.block _ a=>ZgX id a
 |.loop a=>ZgX id a
 |.scope a=>ZgX id a
 |.rangeFunc _ _ a b=>match ZgX id a with
  |some x=>sO x
  |none=>ZgX id b
 |_=>nO
def Zxj(fn:Func)(id:Nat):Option (Array Oper):=match fn.body with
 |some c=>ZgX id c
 |none=>nO
def ZEw(P:Program)(fn:Func)(id:Nat):List DOp:=match Zxj fn id with
 |some ops=>match Jo P fn.ntmps ops (List.range ops.size) with
  |some l=>match fO P (l.zip ops.toList) with
   |some l=>l
   |none=>[]
  |none=>[]
 |none=>[]
def ZEv(P:Program)(fn:Func)(id:Nat):List DOp:=match Zxj fn id with
 |some ops=>match dOf P fn.ntmps ops with
  | (l,od,_)=>match fO P (od.map λi=>(l.zip ops.toList).getD i dE) with
   |some l=>l
   |none=>[]
 |none=>[]
def ZD4(fl:List (Nat×List Nat)):List Nat->List DOp->Option (List (DOp×List Nat))
 |i::od,o::l=>match ZD4 fl od l,fl.find? λx=>x.1==i with
  |some r,sO (_,t)=>match fNs t with
   |some t=>sO ((o,t)::r)
   |none=>nO
  |some r,nO=>sO ((o,[])::r)
  |none,_=>nO
 |_,_=>sO []
def ZEx(P:Program)(fn:Func)(id:Nat):List (DOp×List Nat):=match Zxj fn id with
 |some ops=>match dOf P fn.ntmps ops with
  | (l,od,fl,_)=>match fO P (od.map λi=>(l.zip ops.toList).getD i dE) with
   |some l=>match ZD4 fl od l with
    |some r=>r
    |none=>[]
   |none=>[]
 |none=>[]
def ZDJ(P:Program)(fn:Func)(id:Nat):List Nat:=match Zxj fn id with
 |some ops=>(dOf P fn.ntmps ops).2.1
 |none=>[]
def skC(P:Program)(fn:Func)(lv:LB):Code->Option DC
 |.skip=>sO .skip
 |.region id ops true=>match fN (LB.get 0 lv id),(dOf P fn.ntmps ops).2.2.1 with
  |some m,[]=>sO (.regD (ZDJ P fn id) (ZxP (ZEv P fn id)) (kpM fn.ntmps m))
  |some m,_::_=>sO (.regD (ZDJ P fn id) (ZEx P fn id) (kpM fn.ntmps m))
  |none,_=>nO
 |.region id _ false=>match fN (LB.get 0 lv id) with
  |some m=>sO (.reg (ZEw P fn id) (kpM fn.ntmps m))
  |none=>nO
 |.seq a b=>match skC P fn lv a,skC P fn lv b with
  |some x,sO y=>sO (.seq x y)
  |_,_=>nO
 |.cond c a b=>match ZW c,skC P fn lv a,skC P fn lv b with
  |some c,sO x,sO y=>sO (.cond c x y)
  |_,_,_=>nO
 |.block id a=>match skC P fn lv a with
  |some x=>sO (.block id x)
  |none=>nO
 |.loop a=>match skC P fn lv a with
  |some x=>sO (.loop x)
  |none=>nO
 |.exit id=>sO (.exit id)
 |.ret=>sO .ret
 |.scope a=>match skC P fn lv a with
  |some x=>sO (.scope x)
  |none=>nO
 |.label l=>sO (.label l)
 |.goto l=>sO (.goto l)
 |.rangeFunc f ps a b=>match ZW f,skC P fn lv a,skC P fn lv b with
  |some f,sO x,sO y=>sO (.rangeF f ps.toList x y)
  |_,_,_=>nO
 |_=>nO
def skF(P:Program)(fn:Func):DC:=match fn.body with
 |some c=>match skC P fn (lvF P fn c) c with
  |some d=>d
  |none=>.skip
 |none=>.skip
def fR:List RV->Option (List RV)
 | []=>sO []
 |.tmp t::r=>match fR r with
  |some r=>sO (.tmp t::r)
  |none=>nO
 |.cell1 t::r=>match fR r with
  |some r=>sO (.cell1 t::r)
  |none=>nO
 |.cellN t n::r=>match fN n,fR r with
  |some n,sO r=>sO (.cellN t n::r)
  |_,_=>nO
def rsF(P:Program)(fn:Func):List RV:=match ZjZ P fn.results.toList with
 |some rs=>match fR rs with
  |some rs=>rs
  |none=>[]
 |none=>[]
def cR{P:Program}(f:FuncId)(fn:Func){rs:List RV}{b:DC}(h1:rsF P fn=rs:=by conv=>lhs;whnf)(h2:skF P fn=b:=by conv=>lhs;whnf)(h:cf P (anF P f) f=sO ⟨fn.ntmps,rsF P fn,skF P fn⟩:=by kernel_rfl):cf P (anF P f) f=sO ⟨fn.ntmps,rs,b⟩:=h1▸h2▸h
def upT:List Nat->List WY->List WY
 |0::r,_::d=>upT r d
 |1::r,.code (.seq a b)::d=>upT r (.code a::.code b::d)
 |2::r,.code (.block i a)::d=>upT r (.code a::.inBlock i::d)
 |_,d=>d
structure Tie{P:Program}(l:List Nat)(X:Fr P->Env->Loc->St->Prop)(A:Prop):Prop
section
variable {P:Program} {F:Fr P} {l:List Nat} {dk:List WY} {H:Env} {L:Loc} {s:St} {ks:Option (List Nat)} {os:List DOp} {ps:List (DOp × List Nat)} {B:List (Nat × Rd)}
def tU:Tie l (λ(F:Fr P)=>Zt F (upT l dk)) (Zt F dk H L s):=⟨⟩
def tO:Tie l (λ(F:Fr P)=>Zt F (upT l dk)) (DO F ks dk os H L s):=⟨⟩
def tO0:Tie l (λ(F:Fr P)=>Zt F (upT l dk)) (Qt F ks dk os H L s):=⟨⟩
def tOD:Tie l (λ(F:Fr P)=>Zt F (upT l dk)) (DOA F ks dk ps H L s B):=⟨⟩
def jU(l:List Nat)(J:(Fr P->Env->Loc->St->Prop)->Prop){X:Fr P->Env->Loc->St->Prop}{A:Prop}(h1:J X)(h2:J X->A)(_h:Tie l X A:=by first|exact tU|exact tO|exact tO0|exact tOD):A:=h2 h1
def lpU{a}(J:(Fr P->Env->Loc->St->Prop)->Prop)(t:J λ(F:Fr P)=>Zt F (.code a::.inLoop a::dk))(u:(J λ(F:Fr P)=>Zt F (.code a::.inLoop a::dk))->Zt F (.code a::.inLoop a::dk) H L s):Zt F (.code (.loop a)::dk) H L s:=ZaF (u t)
end
end Go.DL
namespace Go.DL
open Go
variable {kp:Option (List Nat)}{L:Loc}{H:Env}{s:St}{w:World}{os:List DOp}{ds:List D}{B:List (Nat × Rd)}{dst:Option Nat}{tmps:Array Value}{g:G}{Φ:Res->St->Prop}{Z:Nat->Nat}{xs:List Opd}{side:Prop}{row:Nat->List D}
abbrev Str:=List UInt8
structure Yw where
 field:Str
 factor:Int
deriving Inhabited,DecidableEq
structure ZbN where
 base:Int
 terms:List Yw
deriving Inhabited,DecidableEq
structure Y6 where
 low:Int
 high:Int
 of:Str
deriving Inhabited,DecidableEq
structure Fld where
 name:Str
 kind:Int
 bits:Int
 little:Bool
 loose:Bool
 low:Int
 high:Int
 size:ZbN
 of:Str
 tag:Str
 from_:Str
 cases:List Y6
 check:Int
 key:Int
deriving Inhabited,DecidableEq
structure Msg where
 name:Str
 fields:List Fld
deriving Inhabited,DecidableEq
structure Dfn where
 name:Str
 msgs:List Msg
 start:Str
deriving Inhabited,DecidableEq
def slD{α:Type}[Inhabited α](n:Nat)(f:α->List D)(l:List α):D:=.sl .none (I l) n (λi=>f (l.getD i dE))
def eQ1:=@slD.eq_1
def Yw.cells(t:Yw):List D:=[.str t.field,.i t.factor]
def Y6.cells(c:Y6):List D:=[.i c.low,.i c.high,.str c.of]
def Yi(l:List Yw):D:=slD 2 Yw.cells l
def WS(l:List Y6):D:=slD 3 Y6.cells l
def ZbN.cells(s:ZbN):List D:=[.i s.base,Yi s.terms]
def eQ4:=@ZbN.cells.eq_1
def Fld.cells(f:Fld):List D:=[.str f.name,.i f.kind,.i f.bits,.bool f.little,.bool f.loose,.i f.low,.i f.high,.i f.size.base,Yi f.size.terms,.str f.of,.str f.tag,.str f.from_,WS f.cases,.i f.check,.i f.key]
def eQ0:=@Fld.cells.eq_1
def Zq(l:List Fld):D:=slD 15 Fld.cells l
def Msg.cells(m:Msg):List D:=[.str m.name,Zq m.fields]
def eQ3:=@Msg.cells.eq_1
def YX(l:List Msg):D:=slD 2 Msg.cells l
def Dfn.cells(d:Dfn):List D:=[.str d.name,YX d.msgs,.str d.start]
def eQ2:=@Dfn.cells.eq_1
def Wm{α}[Inhabited α]{n}{f:α->List D}{l:List α}(h:DWf (slD n f l)):I l<=big/\∀x∈l,∀c∈f x,DWf c:=by
 obtain⟨u,h2,h3⟩:=h.sl_inv;refine⟨u,λx hx c hc=>?_⟩;obtain⟨i,t,rfl⟩:=ZIV hx;exact h3 i t c (by simpa[ZIN,t]using hc)
structure Yw.Wf(t:Yw):Prop where
 field:I t.field<=big
 factor:inR .i64 t.factor
structure Y6.Wf(c:Y6):Prop where
 low:inR .i64 c.low
 high:inR .i64 c.high
 of:I c.of<=big
structure ZbN.Wf(s:ZbN):Prop where
 base:inR .i64 s.base
 nterms:I s.terms<=big
 terms:∀t∈s.terms,t.Wf
structure Fld.Wf(f:Fld):Prop where
 name:I f.name<=big
 kind:inR .i64 f.kind
 bits:inR .i64 f.bits
 low:inR .i64 f.low
 high:inR .i64 f.high
 size:f.size.Wf
 of:I f.of<=big
 tag:I f.tag<=big
 from_:I f.from_<=big
 ncases:I f.cases<=big
 cases:∀c∈f.cases,c.Wf
 check:inR .i64 f.check
 key:inR .i64 f.key
structure Msg.Wf(m:Msg):Prop where
 name:I m.name<=big
 nfields:I m.fields<=big
 fields:∀f∈m.fields,f.Wf
structure Dfn.Wf(d:Dfn):Prop where
 name:I d.name<=big
 nmsgs:I d.msgs<=big
 msgs:∀m∈d.msgs,m.Wf
 start:I d.start<=big
def Yw.wf_of{t:Yw}(h:∀c∈t.cells,DWf c):t.Wf:=by
 simp only[Yw.cells,ZJd,List.not_mem_nil,or_false,forall_eq_or_imp,forall_eq]at h;exact⟨h.1.str_inv,h.2.int_inv⟩
def Y6.wf_of{t:Y6}(h:∀c∈t.cells,DWf c):t.Wf:=by
 simp only[Y6.cells,ZJd,List.not_mem_nil,or_false,forall_eq_or_imp,forall_eq]at h;exact⟨h.1.int_inv,h.2.1.int_inv,h.2.2.str_inv⟩
def ZuN{l}(h:DWf (Yi l)):I l<=big/\∀t∈l,t.Wf:=⟨(Wm h).1,λt u=>Yw.wf_of ((Wm h).2 t u)⟩
def Ztn{l}(h:DWf (WS l)):I l<=big/\∀t∈l,t.Wf:=⟨(Wm h).1,λt u=>Y6.wf_of ((Wm h).2 t u)⟩
def Fld.wf_of{f:Fld}(h:∀c∈f.cells,DWf c):f.Wf:=by
 simp only[Fld.cells,ZJd,List.not_mem_nil,or_false,forall_eq_or_imp,forall_eq]at h;obtain⟨h1,h2,h3,h4,h5,h6,h7,h8,h9,u,ab,ac,t,ad,ae⟩:=h;exact⟨h1.str_inv,h2.int_inv,h3.int_inv,h6.int_inv,h7.int_inv,⟨h8.int_inv,(ZuN h9).1,(ZuN h9).2⟩,u.str_inv,ab.str_inv,ac.str_inv,(Ztn t).1,(Ztn t).2,ad.int_inv,ae.int_inv⟩
def Zj8{l}(h:DWf (Zq l)):I l<=big/\∀t∈l,t.Wf:=⟨(Wm h).1,λt u=>Fld.wf_of ((Wm h).2 t u)⟩
def Msg.wf_of{m:Msg}(h:∀c∈m.cells,DWf c):m.Wf:=by
 simp only[Msg.cells,ZJd,List.not_mem_nil,or_false,forall_eq_or_imp,forall_eq]at h;exact⟨h.1.str_inv,(Zj8 h.2).1,(Zj8 h.2).2⟩
def Zv7{l}(h:DWf (YX l)):I l<=big/\∀t∈l,t.Wf:=⟨(Wm h).1,λt u=>Msg.wf_of ((Wm h).2 t u)⟩
def Dfn.wf_of{m:Dfn}(h:∀c∈m.cells,DWf c):m.Wf:=by
 simp only[Dfn.cells,ZJd,List.not_mem_nil,or_false,forall_eq_or_imp,forall_eq]at h;exact⟨h.1.str_inv,(Zv7 h.2.1).1,(Zv7 h.2.1).2,h.2.2.str_inv⟩
def ZDp{s:Fld}(h:DWf (.agg s.cells)):s.Wf:=Fld.wf_of h.agg_inv
def Zy3{s:Msg}(h:DWf (.agg s.cells)):s.Wf:=Msg.wf_of h.agg_inv
def ZDn{s:Dfn}(h:DWf (.agg s.cells)):s.Wf:=Dfn.wf_of h.agg_inv
def ZE{α:Type}[Inhabited α]{l:List α}{i}(h:i<I l):l.getD i dE∈l:=by
 simp[ZIN,h]
end Go.DL
