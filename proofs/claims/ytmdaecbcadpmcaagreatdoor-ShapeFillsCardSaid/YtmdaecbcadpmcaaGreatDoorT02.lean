/- Lemmas: DlX, DlY, DlZ, DlZA, DlZB, DlZC, DlZD, DlZE, DlZF, DlZGa, DlZG, DlZH, DlZI, DlZJ, DlZK, DlZL, DlZM, DlZN, DlZO, DlZP, DlZQ, DlZS, DlZT, DlTop, DlZU, DlZX, DlZY, DlAc, DlAd, Tab0, DlAg. -/
import Derived.Test.YtmdaecbcadpmcaaGreatDoorT01
set_option maxHeartbeats 16000000
set_option maxRecDepth 100000
set_option linter.all false
open List renaming length->I
open Option renaming some -> sO, none -> nO
open Inhabited renaming default -> dE
open Decidable renaming decide -> dC
open And renaming intro -> ZHG
open Bool renaming and_eq_true -> ZHN, false_eq_true -> ZIe, or_eq_true -> ZH0, true_and -> ZH3
open Go.DL.D.Le renaming refl -> ZHL
open Go.DL.St renaming upd -> ZIi
open List renaming append_assoc -> ZIg, append_nil -> ZH8, getD -> ZHU, getElem?_append_left -> ZIc, getElem?_append_right -> ZIq, getElem?_eq_getElem -> ZIb, getElem?_eq_none -> ZIr, getElem?_take -> ZIm, getElem_of_mem -> ZH1, length_append -> ZHO, length_cons -> ZHW, length_drop -> ZIh, length_take -> ZHZ, map_cons -> ZHY, map_nil -> ZIf, mem_cons -> ZIj, range -> ZHT, take_length -> ZH2
open Nat renaming add_mul -> ZIa, le_refl -> ZHV, mul_le_mul_right -> ZH5
open Option renaming getD_some -> ZIk, map_eq_some_iff -> ZHS, map_some -> ZId
open Option.some renaming injEq -> ZHE
open Prod.mk renaming injEq -> ZHR
namespace Go.DL
open Go
variable [Zsq]
variable {kp:Option (List Nat)}{L:Loc}{H:Env}{s:St}{w:World}{os:List DOp}{ds:List D}{B:List (Nat × Rd)}{dst:Option Nat}{tmps:Array Value}{g:G}{Φ:Res->St->Prop}{Z:Nat->Nat}{xs:List Opd}{side:Prop}{row:Nat->List D}
inductive Sch(T:Tab):(Nat->Bool)->List Nat->Prop where
 |nil {l} (h:∀i,i<T.length->l i=true):Sch T l []
 |cons {l i is} (hi:i<T.length) (hl:l i=false) (hd:∀d∈T.deps i,l d=true) (t:Sch T (λj=>j==i ||l j) is):Sch T l (i::is)
def ZA(H H':Env)(ns:List Nat):Prop:=∀t∈ns,ZS H' t=ZS H t
def ZT{H H' c x}(h:ZA H H' (ZV x)):ZD H' c x=ZD H c x:=by
 cases x with
 |cst d=>rfl
 |tmp t=>simp only[ZD,h t (by simp[ZV])]
def Kj{H H' c}:∀{xs},ZA H H' (ZbH xs)->Yg H' c xs=Yg H c xs
 | [],_=>rfl
 |x::xs,h=>by have n:ZA H H' (ZV x):=λt i=>h t (by simp[ZbH];exact .inl i);have j:ZA H H' (ZbH xs):=λt i=>h t (by simp only[ZbH,List.flatMap_cons,List.mem_append];exact .inr i);simp only[Yg,ZT n,Kj j]
def Y4{H H' g}(h:ZA H H' (ZbX g)):Zo H' g=Zo H g:=by
 cases g with
 |none=>rfl
 |some x=>obtain⟨t,w⟩:=x;simp only[Zo,h t (by simp[ZbX])]
def Zmk{H H' c x a b}(h:ZA H H' (ZV x++ZV a++ZV b)):Zd7 H' c x a b=Zd7 H c x a b:=by
 have n:ZA H H' (ZV x):=λt i=>h t (by simp[i]);have u:ZA H H' (ZV a):=λt i=>h t (by simp[i]);have j:ZA H H' (ZV b):=λt i=>h t (by simp[i]);simp only[Zd7,ZT n];split;rw[ZT u,ZT j];rfl
def Zrs{L L' s e}(h:∀x o,e=.loc x o->Zj L' x=Zj L x):Wx L' s e=Wx L s e:=by
 cases e with
 |d v=>cases v<;>rfl
 |loc l o=>simp only[Wx,h l o rfl]
 |when c e=>rfl
def ZrC{L L' s n e}(h:∀x o,e=.loc x o->Zj L' x=Zj L x):KB L' s n e=KB L s n e:=by
 cases e with
 |d v=>cases v<;>rfl
 |loc l o=>simp only[KB,h l o rfl]
 |when c e=>rfl
def ZtO{L L' s q es}(h:Zc5 (.q q [])=true->∀x o,.loc x o∈es->Zj L' x=Zj L x):qv L' s q es=qv L s q es:=by
 by_cases j:Zc5 (.q q [])=true
 .replace h:=h j;cases q<;>simp[Zc5]at j
  .match es with
   | [a]=>simp only[qv,Zrs (e:=a) λx o i=>h x o (by rw[i];exact List.mem_singleton_self _)]
   | []=>rfl
   |_::_::_=>rfl
  match es with
  | [a]=>simp only[qv,ZrC (e:=a) λx o i=>h x o (by rw[i];exact List.mem_singleton_self _)]
  | []=>rfl
  |_::_::_=>rfl
 clear h;unfold qv;split<;>first|rfl|(exfalso;exact j rfl)|skip
def YQ:K->Bool
 |.q _ _|.pick _ _ _|.bsl _ _ _ _ _|.s2b _=>true
 |_=>false
def Zu6{o H H' L L' s s1 side ρ1 L1}(hst:ZG o H L s=.ok side ρ1 L1 s1)(hs:side)(hgt:Zo H o.guard=sO true)(hk:YQ o.k=true)(ha:ZA H H' (ZB o))(hl:Zc5 o.k=true->∀q xs p es,o.k=.q q xs->Yg H true xs=sO (p,es)->p->∀x o,.loc x o∈es->Zj L' x=Zj L x):∃e,ρ1=Zz H o.dst e/\L1=L/\s1=s/\ZG o H' L' s=.ok side (Zz H' o.dst e) L' s:=by
 obtain⟨dst,gd,k⟩:=o;have hg:=Y4 (g:=gd) (λt ht=>ha t (by simp[ZB,ht]));have hn:ZA H H' (Yl k):=λt ht=>ha t (by simp[ZB,ht]);simp only at hgt;unfold ZG at hst⊢;simp only[hg,hgt]at hst⊢;cases k with
 |q q xs =>
  simp only at hst⊢;rw[Kj hn];split at hst<;>(try(simp at hst;done));rename_i p es i;try simp only[i]
  split at hst<;>(try(simp at hst;done));rename_i sd e hq;have hp:p:=by split at hst<;>(simp only[SR.ok.injEq]at hst;obtain⟨rfl,-,-,-⟩:=hst);exact hs.1;exact(hs trivial).1
  have j:qv L' s q es=qv L s q es:=ZtO λhld=>hl (by cases q<;>simp_all[Zc5]) q xs p es rfl i hp;simp only[j,hq];split at hst<;>(simp only[SR.ok.injEq]at hst;obtain⟨rfl,rfl,rfl,rfl⟩:=hst);exact⟨e,rfl,rfl,rfl,rfl⟩;exact⟨_,rfl,rfl,rfl,rfl⟩
 |pick x a b =>
  simp only at hst⊢;rw[Zmk hn];split at hst<;>(try(simp at hst;done));rename_i p v hp;try simp only[hp]
  split at hst<;>(simp only[SR.ok.injEq]at hst;obtain⟨rfl,rfl,rfl,rfl⟩:=hst);exact⟨_,rfl,rfl,rfl,rfl⟩;exact⟨_,rfl,rfl,rfl,rfl⟩
 |bsl len n z is xs =>
  simp only at hst⊢;rw[Kj hn];split at hst<;>(try(simp at hst;done));rename_i p es i;try simp only[i]
  split at hst<;>(try(simp at hst;done));rename_i ds u;try simp only[u]
  split at hst<;>(simp only[SR.ok.injEq]at hst;obtain⟨rfl,rfl,rfl,rfl⟩:=hst);exact⟨_,rfl,rfl,rfl,rfl⟩;exact⟨_,rfl,rfl,rfl,rfl⟩
 |s2b x =>
  simp only at hst⊢;rw[ZT hn];split at hst<;>(try(simp at hst;done));rename_i p l hl;try simp only[hl]
  split at hst<;>(simp only[SR.ok.injEq]at hst;obtain⟨rfl,rfl,rfl,rfl⟩:=hst);exact⟨_,rfl,rfl,rfl,rfl⟩;exact⟨_,rfl,rfl,rfl,rfl⟩
 |_=>simp[YQ]at hk
def Zmt{o H L s s1 side ρ1 L1}(j:ZG o H L s=.ok side ρ1 L1 s1)(t:Zo H o.guard=sO false)(hk:YQ o.k=true):∃e,ρ1=Zz H o.dst (.when false e)/\L1=L/\s1=s:=by
 obtain⟨dst,u,k⟩:=o;have i:∃x,u=sO x:=by
  cases u with
  |none=>simp[Zo]at t
  |some x=>exact⟨x,rfl⟩
 obtain⟨x,rfl⟩:=i;simp only at t;unfold ZG at j;simp only[t]at j;cases k with
 |q q xs =>simp only at j;split at j<;>(try(simp at j;done));split at j<;>(try(simp at j;done));simp only[SR.ok.injEq]at j;obtain⟨rfl,rfl,rfl,rfl⟩:=j;exact⟨_,rfl,rfl,rfl⟩
 |pick x a b =>simp only at j;split at j<;>(try(simp at j;done));simp only[SR.ok.injEq]at j;obtain⟨rfl,rfl,rfl,rfl⟩:=j;exact⟨_,rfl,rfl,rfl⟩
 |bsl len n z is xs =>simp only at j;split at j<;>(try(simp at j;done));split at j<;>(try(simp at j;done));simp only[SR.ok.injEq]at j;obtain⟨rfl,rfl,rfl,rfl⟩:=j;exact⟨_,rfl,rfl,rfl⟩
 |s2b x =>simp only at j;split at j<;>(try(simp at j;done));simp only[SR.ok.injEq]at j;obtain⟨rfl,rfl,rfl,rfl⟩:=j;exact⟨_,rfl,rfl,rfl⟩
 |_=>simp[YQ]at hk
def Ziu{s s' L L'}:∀{B},Qk s s' L L' B->(∀n b,(n,.blk b)∈B->s' b=s b)/\(∀n l,(n,.loc l)∈B->Zj L' l=Zj L l)
 | [],_=>⟨λn b h=>by simp at h,λn b h=>by simp at h⟩
 | (m,.blk c)::B,h=>by obtain⟨i,j⟩:=Ziu h.2;refine⟨λn b hb=>?_,λn l hl=>j n l (by simpa using hl)⟩;rcases List.mem_cons.1 hb with hb|hb;simp only[ZHR,Rd.blk.injEq]at hb;rw[hb.2];exact h.1;exact i n b hb
 | (m,.loc c)::B,h=>by obtain⟨i,j⟩:=Ziu h.2;refine⟨λn b hb=>i n b (by simpa using hb),λn l hl=>?_⟩;rcases List.mem_cons.1 hl with hl|hl;simp only[ZHR,Rd.loc.injEq]at hl;rw[hl.2];exact h.1;exact j n l hl
def ZgY(s L):∀B,Qk s s L L B
 | []=>trivial
 | (_,.blk _)::B=>⟨rfl,ZgY s L B⟩
 | (_,.loc _)::B=>⟨rfl,ZgY s L B⟩
def Zd4{fl s L B}:Wq fl s s L L B:=ZgY s L _
def Zbq:∀(B),Wa [] B=[]
 | []=>rfl
 |_::B=>Zbq B
def ZbE{s s' L L' B}:Wq [] s s' L L' B:=by
 unfold Wq;rw[Zbq];trivial
def QZ{fl x}:∀{B},x∈Wa fl B↔ZaS x.1 fl=true/\x∈B
 | []=>by simp[Wa]
 |y::B=>by simp only[Wa];split;rename_i h;simp only[ZIj,QZ (B:=B)];constructor;rintro(rfl|⟨i,h2⟩);exact⟨h,.inl rfl⟩;exact⟨i,.inr h2⟩;rintro⟨i,rfl|h2⟩;exact .inl rfl;exact .inr ⟨i,h2⟩;rename_i h;simp only[ZIj,QZ (B:=B)];constructor;rintro⟨i,h2⟩;exact⟨i,.inr h2⟩;rintro⟨i,rfl|h2⟩;exact absurd i h;exact⟨i,h2⟩
def Zw9{o H x}:(Zcx o,x)∈KC o H↔x∈Wl o H:=by simp[KC]
def Zkf{o H H'}(h:ZA H H' (ZB o)):Wl o H'=Wl o H:=by
 obtain⟨dst,j,k⟩:=o;have u:=Y4 (g:=j) (λt i=>h t (by simp[ZB,i]));cases k with
 |q q xs =>
  have n:ZA H H' (ZbH xs):=λt i=>h t (by simp[ZB,Yl,i]);simp only[Wl,u];split
  .cases Zo H j with
   |none=>rfl
   |some c=>simp only[Kj n]
  rfl
 |_=>rfl
def ZAp{L s s' q es}(h:Wb (.q q [])=true->∀e r,es=e::r->∀b,.blk b∈Qn e->s' b=s b):qv L s' q es=qv L s q es:=by
 by_cases t:Wb (.q q [])=true
 .replace h:=h t
  match es with
  | [] =>
   cases q;case conv c=>cases c<;>first|rfl|simp[Wb]at t
   all_goals simp[Wb]at t<;>rfl
  |e::r =>
   replace h:=h e r rfl;have hc:∀b o,e=.d (.ptr b o)->Ye s' b=Ye s b:=λb o u=>by subst u;simp only[Ye,h b (by simp[Qn])]
   have hm:∀b,e=.d (.map b)->Qe s' b=Qe s b:=λb u=>by subst u;simp only[Qe,h b (by simp[Qn])]
   have j:∀b o n cap z,e=.d (.msl b o n cap z)->Ye s' b=Ye s b:=λb o n cap z u=>by subst u;simp only[Ye,h b (by simp[Qn])]
   have i:q=.conv .b2s->qv L s' q (e::r)=qv L s q (e::r):=λhq=>by
    subst hq;cases r with
    |nil =>
     cases e with
     |d v=>cases v<;>first|rfl|(simp only[qv];rw[j _ _ _ _ _ rfl])
     |_=>rfl
    |cons =>
     cases e with
     |d v=>cases v<;>rfl
     |_=>rfl
   cases q;case conv c=>cases c<;>first|(simp[Wb]at t;done)|exact i rfl
   all_goals simp[Wb]at t
   .cases r with
    |nil =>
     simp only[qv]
     congr 1
     cases e with
     |d v=>cases v<;>first|rfl|(simp only[Wx];rw[hc _ _ rfl])
     |_=>rfl
    |cons=>rfl
   .cases r with
    |nil =>
     simp only[qv]
     congr 1
     cases e with
     |d v=>cases v<;>first|rfl|(simp only[KB];rw[hc _ _ rfl])
     |_=>rfl
    |cons=>rfl
   .match r with
    | [] =>
     cases e with
     |d v=>cases v<;>rfl
     |_=>rfl
    | [e2] =>
     cases e with
     |d v =>
      cases e2 with
      |d v2=>cases v<;>first|rfl|(simp only[qv];rw[hm _ rfl])
      |_=>cases v<;>rfl
     |_=>cases e2<;>rfl
    |e2::_::_ =>
     cases e with
     |d v=>cases v<;>(cases e2<;>rfl)
     |_=>cases e2<;>rfl
   cases r with
   |nil =>
    cases e with
    |d v=>cases v<;>first|rfl|(simp only[qv];rw[hm _ rfl])
    |_=>rfl
   |cons =>
    cases e with
    |d v=>cases v<;>rfl
    |_=>rfl
 clear h;cases q;case conv c=>cases c<;>first|(simp[Wb]at t;done)|(unfold qv;rfl)|(unfold qv;split<;>first|rfl|(rename_i hx;cases hx))
 all_goals first|(simp[Wb]at t;done)|(unfold qv;rfl)|(unfold qv;split<;>first|rfl|(rename_i hx;cases hx))
def Zu7{o H L s s' side ρ1}(u:ZG o H L s=.ok side ρ1 L s)(hk:YQ o.k=true)(hgt:Zo H o.guard=sO true)(h:∀b,.blk b∈Wl o H->s' b=s b):ZG o H L s'=.ok side ρ1 L s':=by
 obtain⟨dst,gd,k⟩:=o;unfold ZG at u⊢;obtain⟨c,hg,hc⟩:∃c,Zo H gd=sO c/\c=true:=⟨true,hgt,rfl⟩;simp only[hg]at u⊢;cases k with
 |q q xs =>
  simp only at u⊢;split at u<;>(try(simp at u;done));rename_i p es t;have j:qv L s' q es=qv L s q es:=ZAp λhl e r he b hb=>h b (by
   subst he;have i:Wb (.q q xs)=true:=by
    cases q;case conv c=>cases c<;>simp_all[Wb]
    all_goals simp_all[Wb]
   subst hc;simp only[Wl,i,if_true,hg,t];exact hb)
  simp only[j];split at u<;>(try(simp at u;done));split at u<;>(simp only[SR.ok.injEq]at u;obtain⟨rfl,rfl,-,-⟩:=u;rfl)
 |pick x a b =>simp only at u⊢;split at u<;>(try(simp at u;done));split at u<;>(simp only[SR.ok.injEq]at u;obtain⟨rfl,rfl,-,-⟩:=u;rfl)
 |bsl len n z is xs =>simp only at u⊢;split at u<;>(try(simp at u;done));split at u<;>(try(simp at u;done));split at u<;>(simp only[SR.ok.injEq]at u;obtain⟨rfl,rfl,-,-⟩:=u;rfl)
 |s2b x =>simp only at u⊢;split at u<;>(try(simp at u;done));split at u<;>(simp only[SR.ok.injEq]at u;obtain⟨rfl,rfl,-,-⟩:=u;rfl)
 |_=>simp[YQ]at hk
def Zbc(o:DOp)(x:Nat):Prop:=o.dst=sO x/\∃z,o.k=.alloc z
def ZcP(o:DOp)(H:Env)(e:E):Prop :=
 (Zo H o.guard=sO false/\∃e0,e=.when false e0) \/
 (∃x y pl p k a b,o.guard=nO/\o.k=.q (.bin .add pl) [x,y]/\Yg H true [x,y]=sO (p,[.d (.int k a),.d (.int k b)])/\p/\e=.d (.int k (k.wrap (a+b))))
def Kh(o:DOp)(H:Env)(L:Loc)(s:St)(B:List (Nat×Rd)):Prop :=
 (YQ o.k=true/\Zo H o.guard=sO true/\(∀b∈Wl o H,(Zcx o,b)∈B)/\∃side e,side/\ZG o H L s=.ok side (Zz H o.dst e) L s/\∀t,o.dst=sO t->ZS H t=sO e) \/
 (YQ o.k=true/\∃e,ZcP o H e/\∀t,o.dst=sO t->ZS H t=sO e) \/
 (∃t z,o=⟨sO t,nO,.alloc z⟩/\ZS H t=sO (.loc t 0)/\Zj L t=sO z)
structure Inv(T:Tab)(ms:List Nat)(A rest:List Nat)(H:Env)(L:Loc)(s:St)(B:List (Nat×Rd))(l:Nat->Bool)(H':Env)(L':Loc):Prop where
 closed:∀i,i<T.length->l i=true->∀d∈T.deps i,l d=true
 restN:∀r∈rest,l r=false
 doneN:∀i,i<T.length->i∉rest->i∉A->l i=true
 alt:∀a∈A,a<T.length
 pair:∀p∈A,∀a∈A,(ms.getD p 0).testBit a=true\/nd (T.op a).dst (ZB (T.op p))=true
 uniq:∀p∈A,∀a∈A,p≠a->ndd (T.op p).dst (T.op a).dst=true
 env:∀t,ZS H' t=ZS H t\/∃a∈A,l a=false/\(T.op a).dst=some t
 loc0:∀a∈A,l a=false->∀x,Zbc (T.op a) x->Zj L' x=none
 loc:∀x,Zj L' x=Zj L x\/∃a∈A,l a=false/\Zbc (T.op a) x
 pend:∀a∈A,l a=false->Kh (T.op a) H L s B
def Zjq(T:Tab)(ms:List Nat):Prop :=
 ∀(l:Nat->Bool),(∀i,i<T.length->l i=true->∀d∈T.deps i,l d=true)->∀i,i<T.length->(∀d∈T.deps i,l d=true)->∀a,(ms.getD i 0).testBit a=true->l a=true
def Kh.state{o H L s s' B}(h:Kh o H L s B)(z:∀b,.blk b∈Wl o H->s' b=s b):Kh o H L s' B:=by
 rcases h with ⟨j,n,t,side,e,u,i,he⟩|h|h;exact .inl ⟨j,n,t,side,e,u,Zu7 i j n z,he⟩;exact .inr (.inl h);exact .inr (.inr h)
def Kh.more{o H L s B B'}(h:Kh o H L s B)(t:∀b∈Wl o H,(Zcx o,b)∈B->(Zcx o,b)∈B'):Kh o H L s B':=by
 rcases h with ⟨n,u,j,h⟩|h|h;exact .inl ⟨n,u,λb i=>t b i (j b i),h⟩;exact .inr (.inl h);exact .inr (.inr h)
def ZuS{o H}(h:Zo H o.guard=sO false):Wl o H=[]:=by
 obtain⟨dst,gd,k⟩:=o;cases k<;>simp only[Wl];simp only at h;simp[h]
def Zmm{o H}(h:Wb o.k=false):Wl o H=[]:=by
 obtain⟨dst,gd,k⟩:=o;cases k<;>simp only[Wl];rename_i q xs;simp only at h;simp[h]
def ZcP.congr{o H H' e}(h:ZcP o H e)(u:ZA H H' (ZB o)):ZcP o H' e:=by
 rcases h with ⟨n,i⟩|⟨x,y,pl,p,k,a,b,n,i,h3,z,h5⟩;exact .inl ⟨by rw[Y4 λt j=>u t (by simp[ZB,j])];exact n,i⟩;have hn:ZA H H' (ZbH [x,y]):=λt j=>u t (by simp[ZB,i,Yl,j]);exact .inr ⟨x,y,pl,p,k,a,b,n,i,by rw[Kj hn];exact h3,z,h5⟩
def ZcP.reads{o H e}(h:ZcP o H e):Wl o H=[]:=by
 rcases h with ⟨i,_⟩|⟨x,y,pl,p,k,a,b,_,j,_⟩;exact ZuS i;exact Zmm (by rw[j];rfl)
section
variable {P:Program}
def Zqw{F:Fr P}{kp dk os H L s}(h:∀g Z w tmps,Zy g Z w tmps H L s->DO F kp dk os H L s):DO F kp dk os H L s :=
 λj is k i t g Z w tmps n m=>h g Z w tmps m j is k i t g Z w tmps n m
def ZmK{g Z w tmps H L s}(m:Zy g Z w tmps H L s):∀{xs p es},Yg H true xs=sO (p,es)->p->∀x o,.loc x o∈es->∃cs,Zj L x=sO cs
 | [],p,es,h,_,x,o,hx=>by simp only[Yg,ZHE,ZHR]at h;obtain⟨_,rfl⟩:=h;simp at hx
 |y::ys,p,es,h,hp,x,o,hx=>by
  simp only[Yg]at h;split at h<;>simp only[ZHE,ZHR,reduceCtorEq]at h;rename_i p1 e1 p2 es' i u;obtain⟨rfl,rfl⟩:=h;rcases List.mem_cons.1 hx with hx|hx
  .subst hx;cases y with
   |cst d=>simp[ZD]at i
   |tmp t =>simp only[ZD]at i;split at i;rename_i c' n j;simp only[ZHE,ZHR]at i;obtain⟨rfl,rfl⟩:=i;exact((m.env t _ j).1 (by simpa using hp.1)).1;rename_i n _ j;simp only[ZHE,ZHR]at i;obtain⟨rfl,rfl⟩:=i;exact(m.env t _ j).1;simp at i
  exact ZmK m u hp.2 x o hx
def ZcP.run{F:Fr P}{kp dk o os H L s e}(n:ZcP o H e)(h:DO F kp dk os (Zz H o.dst e) L s):DO F kp dk (o::os) H L s:=by
 rcases n with ⟨i,e0,rfl⟩|⟨x,y,pl,p,k,a,b,i,u,t,j,rfl⟩;exact Jx i h;exact ZcA i u t j h
def Zvd{F:Fr P}{kp dk o os H H' L L' s side e}(z:ZG o H L s=.ok side (Zz H o.dst e) L s)(hs:side)(hk:YQ o.k=true)(ha:ZA H H' (ZB o))(hl:∀x,Zj L' x=Zj L x\/Zj L' x=nO)(h:DO F kp dk os (Zz H' o.dst e) L' s):DO F kp dk (o::os) H' L' s:=by
 have i:∀e',Zz H o.dst e=Zz H o.dst e'->Zz H' o.dst e=Zz H' o.dst e':=λe' h=>by
  cases hd:o.dst with
  |none=>rfl
  |some t=>simp only[hd,Zz,List.cons.injEq,ZHR,true_and,and_true]at h;rw[h]
 have hg:=Y4 (g:=o.guard) (λt ht=>ha t (by simp[ZB,ht]));cases hc:Zo H o.guard with
 |none=>unfold ZG at z;simp[hc]at z
 |some c =>
  cases c;obtain⟨e',h1,-,-⟩:=Zmt z hc hk;rw[i _ h1]at h;exact Jx (by rw[hg,hc]) h;refine Zqw λg Z w tmps m=>?_;obtain⟨e',h1,-,-,h2⟩:=Zu6 (H':=H') (L':=L') z hs hc hk ha (λhld q xs p es n u hp x of hx=>by
   have hn:ZA H H' (ZbH xs):=λt ht=>ha t (by simp[ZB,n,Yl,ht]);obtain⟨cs,j⟩:=ZmK m (by rw[Kj hn];exact u) hp x of hx;rcases hl x with h|h;exact h;rw[h]at j;simp at j)
  rw[i _ h1]at h;exact Q1 h2 hs h
end
def Zcq{a b}(h:ndd a b=true):ndd b a=true:=by
 cases a<;>cases b<;>simp only[ndd,bne_iff_ne,ne_eq]at h⊢;exact λi=>h i.symm
def Zb1{a b}(h:ndd a b=true){t}(j:a=sO t):b≠sO t:=by
 subst j;cases b with
 |none=>simp
 |some u=>simp only[ndd,bne_iff_ne]at h;intro i;simp only[ZHE]at i;exact h i.symm
def ZjW{d l}(h:nd d l=true){t}(i:d=sO t):t∉l:=by
 subst i;simpa[nd]using h
def Qg{H dst e i}(h:nd dst i=true):ZA H (Zz H dst e) i:=by
 intro t j;cases dst with
 |none=>rfl
 |some u =>have:¬u=t:=λn=>ZjW h rfl (n▸j);simp[Zz,ZS,this]
def WZ(H dst e t):ZS (Zz H dst e) t=if dst=sO t then sO e else ZS H t:=by
 cases dst with
 |none=>simp[Zz]
 |some u=>simp[Zz,ZS]
def ZBH{L s q es r}(i:qv L s q es=sO r)(n:Zc5 (.q q [])=true){x o}(j:.loc x o∈es):∃cs,Zj L x=sO cs:=by
 cases q<;>simp[Zc5]at n
 .match es with
  | [a] =>
   simp only[List.mem_singleton]at j;subst j;simp only[qv,Wx]at i;cases h:Zj L x with
   |none=>simp[h]at i
   |some cs=>exact⟨cs,rfl⟩
  | []=>simp at j
  |_::_::_=>simp[qv]at i
 match es with
 | [a] =>
  simp only[List.mem_singleton]at j;subst j;simp only[qv,KB]at i;cases h:Zj L x with
  |none=>simp[h]at i
  |some cs=>exact⟨cs,rfl⟩
 | []=>simp at j
 |_::_::_=>simp[qv]at i
def ZiR{o H H' L L' s s1 side ρ1 L1}(hst:ZG o H L s=.ok side ρ1 L1 s1)(hk:YQ o.k=true)(ha:ZA H H' (ZB o))(hl:L'=L\/Zo H o.guard=sO true/\∀x,.loc x∈Wl o H->Zj L' x=Zj L x):∃e,ρ1=Zz H o.dst e/\L1=L/\s1=s/\ZG o H' L' s=.ok side (Zz H' o.dst e) L' s:=by
 obtain⟨dst,gd,k⟩:=o;have hg:=Y4 (g:=gd) (λt ht=>ha t (by simp[ZB,ht]));have hn:ZA H H' (Yl k):=λt ht=>ha t (by simp[ZB,ht]);unfold ZG at hst⊢;simp only[hg]at hst⊢;cases hc:Zo H gd with
 |none=>simp[hc]at hst
 |some c =>
 simp only[hc]at hst⊢;cases k with
 |q q xs =>
  simp only at hst⊢;rw[Kj hn];split at hst<;>(try(simp at hst;done));rename_i p es i;try simp only[i]
  split at hst<;>(try(simp at hst;done));rename_i sd e hq;have ac:qv L' s q es=qv L s q es:=ZtO λaf x of hx=>by
   rcases hl with rfl|⟨ab,hl⟩;rfl;obtain rfl:c=true:=by simpa[hc]using ab
   refine hl x ?_;have ae:Wb (.q q xs)=true:=by cases q<;>simp_all[Zc5,Wb]
   have u:es=[.loc x of]:=by
    have j:∃r,qv L s q es=sO r:=⟨_,hq⟩;cases q<;>simp[Zc5]at af
    .match es with
     | [a]=>simp only[List.mem_singleton]at hx;rw[hx]
     | []=>simp at hx
     |_::_::_=>simp[qv]at j
    match es with
    | [a]=>simp only[List.mem_singleton]at hx;rw[hx]
    | []=>simp at hx
    |_::_::_=>simp[qv]at j
   subst u;simp only[Wl,ae,if_true,hc,i,Qn,List.mem_singleton]
  simp only[ac,hq];split at hst<;>(simp only[SR.ok.injEq]at hst;obtain⟨rfl,rfl,rfl,rfl⟩:=hst);exact⟨e,rfl,rfl,rfl,rfl⟩;exact⟨_,rfl,rfl,rfl,rfl⟩
 |pick x a b =>
  simp only at hst⊢;rw[Zmk hn];split at hst<;>(try(simp at hst;done));rename_i p v hp;try simp only[hp]
  split at hst<;>(simp only[SR.ok.injEq]at hst;obtain⟨rfl,rfl,rfl,rfl⟩:=hst);exact⟨_,rfl,rfl,rfl,rfl⟩;exact⟨_,rfl,rfl,rfl,rfl⟩
 |bsl len n z is xs =>
  simp only at hst⊢;rw[Kj hn];split at hst<;>(try(simp at hst;done));rename_i p es i;try simp only[i]
  split at hst<;>(try(simp at hst;done));rename_i ds ad;try simp only[ad]
  split at hst<;>(simp only[SR.ok.injEq]at hst;obtain⟨rfl,rfl,rfl,rfl⟩:=hst);exact⟨_,rfl,rfl,rfl,rfl⟩;exact⟨_,rfl,rfl,rfl,rfl⟩
 |s2b x =>
  simp only at hst⊢;rw[ZT hn];split at hst<;>(try(simp at hst;done));rename_i p l hl;try simp only[hl]
  split at hst<;>(simp only[SR.ok.injEq]at hst;obtain⟨rfl,rfl,rfl,rfl⟩:=hst);exact⟨_,rfl,rfl,rfl,rfl⟩;exact⟨_,rfl,rfl,rfl,rfl⟩
 |_=>simp[YQ]at hk
def Kh.mono{o H ρ1 L L1 s B}(h:Kh o H L s B)(ha:ZA H ρ1 (ZB o))(hd:∀t,o.dst=sO t->ZS ρ1 t=ZS H t)(hl:∀x,.loc x∈Wl o H->Zj L1 x=Zj L x)(hal:∀t,Zbc o t->Zj L1 t=Zj L t):Kh o ρ1 L1 s B:=by
 rcases h with ⟨hk,i,j,side,e,hs,n,he⟩|⟨hk,e,hz,he⟩|⟨t,z,rfl,h1,h2⟩;left;obtain⟨e',h1,-,-,h2⟩:=ZiR n hk ha (.inr ⟨i,hl⟩);refine⟨hk,by rw[Y4 λt u=>ha t (by simp[ZB,u])];exact i,by rw[Zkf ha];exact j,side,e',hs,h2,λt u=>?_⟩;rw[hd t u,he t u];rw[u]at h1;simp only[Zz,List.cons.injEq,ZHR,true_and,and_true]at h1;rw[h1];exact .inr (.inl ⟨hk,e,hz.congr ha,λt u=>by rw[hd t u,he t u]⟩);right;right;exact⟨t,z,rfl,by rw[hd t rfl];exact h1,by rw[hal t ⟨rfl,z,rfl⟩];exact h2⟩
def ZcV{o x}(h:Zbc o x):YQ o.k=false:=by
 obtain⟨_,z,i⟩:=h;rw[i];rfl
section
variable {P:Program}
def ZqI{F:Fr P}{kp dk T ms A rest H L l H' L' s B p os}(hm:Zjq T ms)(inv:Inv T ms A rest H L s B l H' L')(hA:p∈A)(hdis:p∉rest)(hl:l p=false)(hdeps:∀d∈T.deps p,l d=true)(h:∀ρ2 L2,Inv T ms A rest H L s B (λj=>j==p ||l j) ρ2 L2->DO F kp dk os ρ2 L2 s):DO F kp dk (T.op p::os) H' L' s:=by
 have ap:=inv.alt p hA;have ai:=hm l inv.closed p ap hdeps;have al:ZA H H' (ZB (T.op p)):=by intro t ht;rcases inv.env t with h|⟨a,ha,n,ad⟩;exact h;exfalso;rcases inv.pair p hA a ha with hb|hb;rw[ai a hb]at n;simp at n;exact ZjW hb ad ht
 have am:∀x,Zj L' x=Zj L x\/Zj L' x=nO:=λx=>by rcases inv.loc x with h|⟨a,ha,n,hx⟩;exact .inl h;exact .inr (inv.loc0 a ha n x hx)
 have ac:∀i,i<T.length->(i==p ||l i)=true->∀d∈T.deps i,(d==p ||l d)=true:=λi hi hli d hd=>by simp only[ZH0,beq_iff_eq]at hli⊢;rcases hli with rfl|hli;exact .inr (hdeps d hd);exact .inr (inv.closed i hi hli d hd)
 have af:∀r∈rest,(r==p ||l r)=false:=λr hr=>by simp only[Bool.or_eq_false_iff,beq_eq_false_iff_ne];exact⟨λh=>hdis (h▸hr),inv.restN r hr⟩
 have ag:∀i,i<T.length->i∉rest->i∉A->(i==p ||l i)=true:=λi hi h1 h2=>by simp[inv.doneN i hi h1 h2]
 have ah:∀a,(a==p ||l a)=false->a≠p/\l a=false:=λa ha=>by simpa using ha
 have ae:∀a,a≠p->l a=false->(a==p ||l a)=false:=λa ha h=>by simp[ha,h]
 rcases inv.pend p hA hl with ⟨hk,hgt,hrd,side,e,hs,ar,he⟩|⟨hk,e,hz,he⟩|⟨t,z,ho,h1,h2⟩
 rotate_left
 refine(hz.congr al).run ?_;refine h _ _ ?_;refine⟨ac,af,ag,inv.alt,inv.pair,inv.uniq,λt=>?_,λa ha n x hx=>inv.loc0 a ha (ah a n).2 x hx,λx=>?_,λa ha n=>inv.pend a ha (ah a n).2⟩;rw[WZ];by_cases hd:(T.op p).dst=sO t;rw[if_pos hd];exact .inl (he t hd).symm;rw[if_neg hd];rcases inv.env t with h|⟨a,ha,n,ad⟩;exact .inl h;exact .inr ⟨a,ha,ae a (λab=>hd (ab▸ad)) n,ad⟩;rcases inv.loc x with h|⟨a,ha,n,hx⟩;exact .inl h;refine .inr ⟨a,ha,ae a (λab=>?_) n,hx⟩;have:=ZcV hx;rw[ab,hk]at this;simp at this
 rotate_left
 refine Zvd ar hs hk al am (h _ _ ?_);refine⟨ac,af,ag,inv.alt,inv.pair,inv.uniq,λt=>?_,λa ha n x hx=>inv.loc0 a ha (ah a n).2 x hx,λx=>?_,λa ha n=>inv.pend a ha (ah a n).2⟩;rw[WZ];by_cases hd:(T.op p).dst=sO t;rw[if_pos hd];exact .inl (he t hd).symm;rw[if_neg hd];rcases inv.env t with h|⟨a,ha,n,ad⟩;exact .inl h;exact .inr ⟨a,ha,ae a (λab=>hd (ab▸ad)) n,ad⟩;rcases inv.loc x with h|⟨a,ha,n,hx⟩;exact .inl h;refine .inr ⟨a,ha,ae a (λab=>?_) n,hx⟩;have:=ZcV hx;rw[ab,hk]at this;simp at this;have aq:Zbc (T.op p) t:=⟨by rw[ho],z,by rw[ho]⟩;have aj:=inv.loc0 p hA hl t aq;refine Zsd (o:=T.op p) (t:=t) (by rw[ho]) (by rw[ho]) (z:=z) (by rw[ho]) (by simp[ZaR,aj]) (h _ _ ?_);have ak:(T.op p).dst=sO t:=by rw[ho]
 refine⟨ac,af,ag,inv.alt,inv.pair,inv.uniq,λu=>?_,λa ha n x hx=>?_,λx=>?_,λa ha n=>inv.pend a ha (ah a n).2⟩;simp only[ZS];by_cases hd:t=u;subst hd;simp[h1];simp only[hd,if_false];rcases inv.env u with h|⟨a,ha,n,ad⟩;exact .inl h;exact .inr ⟨a,ha,ae a (λab=>hd (by rw[ab,ak]at ad;simpa using ad)) n,ad⟩;obtain⟨ab,n⟩:=ah a n;have:¬t=x:=λao=>Zb1 (inv.uniq p hA a ha ab.symm) ak (ao▸hx.1);simp only[Zj,this,if_false];exact inv.loc0 a ha n x hx;simp only[Zj];by_cases hd:t=x;subst hd;simp[h2];simp only[hd,if_false];rcases inv.loc x with h|⟨a,ha,n,hx⟩;exact .inl h;exact .inr ⟨a,ha,ae a (λab=>hd (by have:=hx.1;rw[ab,ak]at this;simpa using this)) n,hx⟩
def Zw8{F:Fr P}{kp dk T ms A rest H L s B i}(hm:Zjq T ms)(hi:i<T.length)(hdis:∀p∈A,p∉i::rest)(hready:∀r∈rest,∃d∈T.deps r,d∈i::rest)(cb:∀l H' L' is,Inv T ms A (i::rest) H L s B l H' L'->(∀d∈T.deps i,l d=true)->Sch T (λj=>j==i ||l j) is->DO F kp dk (T.op i::is.map T.op) H' L' s){l is}(sch:Sch T l is):∀{H' L'},Inv T ms A (i::rest) H L s B l H' L'->DO F kp dk (is.map T.op) H' L' s:=by
 induction sch with
 |nil h=>intro H' L' inv;have:=inv.restN i ψ;rw[h i hi]at this;simp at this
 | @cons l p is hp hlp hd t ih =>intro H' L' inv;by_cases z:p=i;subst z;exact cb l H' L' is inv hd t;by_cases u:p∈rest;obtain⟨d,ab,ac⟩:=hready p u;have:=inv.restN d ac;rw[hd d ab]at this;simp at this;by_cases n:p∈A;exact ZqI hm inv n (hdis p n) hlp hd λρ2 L2 inv2=>ih inv2;have:=inv.doneN p hp (by simp[z,u]) n;rw[hlp]at this;simp at this
def Zmv{L L'}(h:∀x,Zj L' x=Zj L x):∀ls,Za5 L' ls=Za5 L ls
 | []=>rfl
 |l::ls=>by simp only[Za5,h l,Zmv h ls]
def Zmd{H H'}(h:∀x,ZS H' x=ZS H x):∀ks,Yx H' ks=Yx H ks
 | []=>rfl
 |k::ks=>by simp only[Yx,h k,Zmd h ks]
def ZyQ{F:Fr P}{ks dk T z A H L s B}(hm:Zjq T z)(h:ZC F dk (Yx H ks) (ZbD (Yx H ks) L) s){l is}(u:Sch T l is):∀{H' L'},Inv T z A [] H L s B l H' L'->DO F (sO ks) dk (is.map T.op) H' L' s:=by
 induction u with
 |nil hall =>
  intro H' L' inv;have h1:∀t,ZS H' t=ZS H t:=λt=>by rcases inv.env t with h|⟨a,n,i,_⟩;exact h;rw[hall a (inv.alt a n)]at i;simp at i
  have h2:∀t,Zj L' t=Zj L t:=λt=>by rcases inv.loc t with h|⟨a,n,i,_⟩;exact h;rw[hall a (inv.alt a n)]at i;simp at i
  refine Zfm ?_;show ZC F dk (Yx H' ks) (ZbD (Yx H' ks) L') s;rw[Zmd h1];simp only[ZbD,Zmv h2];exact h
 | @cons l p is hp hlp hd t ih =>intro H' L' inv;by_cases j:p∈A;exact ZqI hm inv j ψ hlp hd λρ2 L2 inv2=>ih inv2;have:=inv.doneN p hp ψ j;rw[hlp]at this;simp at this
def DOA(F:Fr P)(kp:Option (List Nat))(dk:List KH)(os:List (DOp×List Nat))(H:Env)(L:Loc)(s:St)(B:List (Nat×Rd)):Prop :=
 ∀(T:Tab) ms fl (fk:Option Nat) A rest is l H' L',Zjq T ms->Zei T ms fl fk A rest=true->(∀p∈A,p∉rest)->os=rest.map (λi=>(T.mk fk i,fl i))->Inv T ms A rest H L s B l H' L'->Sch T l is->DO F kp dk (is.map T.op) H' L' s
def Zpm{F:Fr P}{ks dk H L s B}(h:ZC F dk (Yx H ks) (ZbD (Yx H ks) L) s):DOA F (sO ks) dk [] H L s B:=by
 intro T ms fl fk A rest is l H' L' hm hc hdis j inv i;have n:rest=[]:=by cases rest<;>simp at j⊢
 subst n;exact ZyQ hm h i inv
def Zmu{o H L s s1 side ρ1 L1}(i:ZG o H L s=.ok side ρ1 L1 s1)(u:YQ o.k=true):∃e,ρ1=Zz H o.dst e/\L1=L/\s1=s:=by
 obtain⟨e,n,t,j,_⟩:=ZiR (H':=H) (L':=L) i u (λ_ _=>rfl) (.inl rfl);exact⟨e,n,t,j⟩
def Zu5{o H L s s1 side ρ1 L1 z}(i:ZG o H L s=.ok side ρ1 L1 s1)(j:o.k=.alloc z):∃t,o=⟨sO t,nO,.alloc z⟩/\side=(ZaR L t=false)/\ρ1=(t,.loc t 0)::H/\L1=(t,z)::L/\s1=s:=by
 obtain⟨dst,u,k⟩:=o;simp only at j;subst j;unfold ZG at i;cases n:Zo H u with
 |none=>simp[n]at i
 |some c =>simp only[n]at i;split at i<;>simp only[SR.ok.injEq,reduceCtorEq]at i;rename_i t;obtain⟨rfl,rfl,rfl,rfl⟩:=i;exact⟨t,rfl,rfl,rfl,rfl,rfl⟩
def ZpM{T:Tab}{j i o}(h:T.mk j i=o)(n:∀k,o.k≠.fork k):j≠sO i/\T.op i=o:=by
 unfold Tab.mk at h;split at h;subst h;exact absurd rfl (n _);exact⟨‹_›,h⟩
def ZmP{T j fl A rest t i}(u:t≠sO i)(h:Zei T j fl t A (i::rest)=true):
  i<T.length/\(∀d∈T.deps i,d∉i::rest)/\i∉rest/\(∀a∈A,(j.getD i 0).testBit a=true\/nd (T.op a).dst (ZB (T.op i))=true) /\
  ((Zdv T A i=true/\Zei T j fl t (i::A) rest=true) \/
   (ZjA T (fl i) (A.filter λa=>!(j.getD i 0).testBit a) rest i=true/\Zei T j fl t (A.filter λa=>!(j.getD i 0).testBit a) rest=true/\Zdv T A i=false)):=by
 simp only[Zei,u,if_false,ZHN,decide_eq_true_eq,List.all_eq_true,Bool.not_eq_true',List.contains_eq_mem,decide_eq_false_iff_not]at h;obtain⟨⟨⟨⟨h1,h2⟩,h3⟩,h4⟩,n⟩:=h;refine⟨h1,h2,h3,λa ha=>?_,?_⟩;cases hb:(j.getD i 0).testBit a;exact .inr (h4 a (List.mem_filter.2 ⟨ha,by simp only[hb];rfl⟩));exact .inl rfl;split at n;rename_i z;exact .inl ⟨z,n⟩;rename_i z;simp only[ZHN]at n;exact .inr ⟨by simpa using n.1,n.2,by simpa using z⟩
def ZgO{T fl free rest i}(h:ZjA T fl free rest i=true):
  Zwf (T.op i).k=true/\(∀r∈rest,∃d∈T.deps r,d∈i::rest) /\
  ∀a∈free,nd (T.op i).dst (ZB (T.op a))=true/\ndd (T.op i).dst (T.op a).dst=true/\(ZaS (Zcx (T.op a)) fl=false->Wb (T.op a).k=false):=by
 simp only[ZjA,ZHN,List.all_eq_true,List.any_eq_true,List.contains_eq_mem,decide_eq_true_eq,Bool.not_eq_true',ZH0]at h;obtain⟨⟨h1,h2⟩,z⟩:=h;refine⟨h1,h2,λa n=>?_⟩;obtain⟨⟨u,h5⟩,j⟩:=z a n;refine⟨u,h5,λt=>?_⟩;rw[t]at j;simpa using j
def Zfv{T A i}(h:Zdv T A i=true):
  Wj (T.op i).k=true/\nd (T.op i).dst (ZB (T.op i))=true/\∀a∈A,nd (T.op i).dst (ZB (T.op a))=true/\ndd (T.op i).dst (T.op a).dst=true:=by
 simp only[Zdv,ZHN,List.all_eq_true]at h;exact⟨by cases j:(T.op i).k<;>rw[j]at h<;>simp[pqK]at h<;>rfl,h.1.2,h.2⟩
def Inv.bar{T ms A rest H L s s2 B B2 l H' L' i}(hm:Zjq T ms)(inv:Inv T ms A (i::rest) H L s B l H' L')(hdis:∀p∈A,p∉i::rest)(hi:i<T.length)(hir:i∉rest)(hd:∀d∈T.deps i,l d=true)(hf:∀a∈A.filter (λa=>!(ms.getD i 0).testBit a),nd (T.op i).dst (ZB (T.op a))=true/\ndd (T.op i).dst (T.op a).dst=true)(e){L2 L2'}(hL:∀x,Zj L' x=Zj L x->Zj L2' x=Zj L2 x)(h0:∀x,(∀a,ndd (T.op i).dst (T.op a).dst=true->Zbc (T.op a) x->Zj L' x=nO->Zj L2' x=nO))(hp:∀a∈A.filter (λa=>!(ms.getD i 0).testBit a),l a=false->Kh (T.op a) H L s B->Kh (T.op a) (Zz H (T.op i).dst e) L2 s2 B2):
  Inv T ms (A.filter λa=>!(ms.getD i 0).testBit a) rest (Zz H (T.op i).dst e) L2 s2 B2 (λj=>j==i ||l j) (Zz H' (T.op i).dst e) L2':=by
 have ab:=hm l inv.closed i hi hd;have z:∀a∈A,l a=false->a∈A.filter λa=>!(ms.getD i 0).testBit a:=λa ha n=>by refine List.mem_filter.2 ⟨ha,?_⟩;cases hb:(ms.getD i 0).testBit a;rfl;rw[ab a hb]at n;simp at n
 have u:∀a∈A.filter (λa=>!(ms.getD i 0).testBit a),a∈A:=λa ha=>(List.mem_filter.1 ha).1;have ad:∀a,(a==i ||l a)=false->a≠i/\l a=false:=λa ha=>by simpa using ha
 have ac:∀a∈A,l a=false->(a==i ||l a)=false:=λa ha h=>by have:a≠i:=λai=>hdis a ha (by simp[ai]);simp[this,h]
 refine⟨λj hj hlj d ag=>?_,λr hr=>?_,λj hj h1 h2=>?_,λa ha=>inv.alt a (u a ha),λp ae a ha=>inv.pair p (u p ae) a (u a ha),λp ae a ha=>inv.uniq p (u p ae) a (u a ha),λt=>?_,λa ha n x hx=>?_,
  λx=>?_,λa ha n=>hp a ha (ad a n).2 (inv.pend a (u a ha) (ad a n).2)⟩
 simp only[ZH0,beq_iff_eq]at hlj⊢;rcases hlj with rfl|hlj;exact .inr (hd d ag);exact .inr (inv.closed j hj hlj d ag);simp only[Bool.or_eq_false_iff,beq_eq_false_iff_ne];exact⟨λh=>hir (h▸hr),inv.restN r (by simp[hr])⟩;by_cases af:j=i;simp[af];by_cases ah:j∈A;cases hlj:l j;exact absurd (z j ah hlj) h2;simp;simp[inv.doneN j hj (by simp[af,h1]) ah];rw[WZ,WZ];by_cases ht:(T.op i).dst=sO t;simp[ht];simp only[ht,if_false];rcases inv.env t with h|⟨a,ha,n,aj⟩;exact .inl h;exact .inr ⟨a,z a ha n,ac a ha n,aj⟩;exact h0 x a (hf a ha).2 hx (inv.loc0 a (u a ha) (ad a n).2 x hx);rcases inv.loc x with h|⟨a,ha,n,hx⟩;exact .inl (hL x h);exact .inr ⟨a,z a ha n,ac a ha n,hx⟩
def Kh.keep{o H L L2 s s2 B fl}(h:Kh o H L s B)(hk:Wq fl s s2 L L2 B)(hf:ZaS (Zcx o) fl=false->Wb o.k=false)(hal:∀t,Zbc o t->Zj L2 t=Zj L t):Kh o H L2 s2 (Wa fl B):=by
 cases j:ZaS (Zcx o) fl;have u:=Zmm (H:=H) (hf j);exact((h.state (s':=s2) (λb n=>by rw[u]at n;simp at n)).more (λb n=>by rw[u]at n;simp at n)).mono (λ_ _=>rfl) (λ_ _=>rfl) (λx hx=>by rw[u]at hx;simp at hx) hal;have hm:=Ziu (show Qk s s2 L L2 (Wa fl B) from hk);have i:∀b,(Zcx o,b)∈B->(Zcx o,b)∈Wa fl B:=λb n=>QZ.2 ⟨j,n⟩;rcases h with ⟨hq,hg,u,h'⟩|⟨hq,hg,h'⟩|h';exact((Kh.state (s':=s2) (.inl ⟨hq,hg,u,h'⟩) (λb n=>hm.1 _ b (i _ (u _ n)))).more (B':=Wa fl B) (λb _ n=>i b n)).mono (λ_ _=>rfl) (λ_ _=>rfl) (λx hx=>hm.2 _ x (i _ (u _ hx))) hal;exact .inr (.inl ⟨hq,hg,h'⟩);exact(Kh.more (B':=Wa fl B) (s:=s2) (.inr (.inr h'):Kh o H L s2 B) (λb _ n=>i b n)).mono (λ_ _=>rfl) (λ_ _=>rfl) (λx hx=>by
  obtain⟨t,z,rfl,_⟩:=h';simp[Wl]at hx) hal
def ZCJ{L s q es r}(j:qv L s q es=sO r){e i}(z:es=e::i)(t:Wb (.q q [])=true){x}(n:.loc x∈Qn e):∃cs,Zj L x=sO cs:=by
 subst z;cases e with
 |d v=>cases v<;>simp[Qn]at n
 |when c e=>simp[Qn]at n
 |loc l o =>
  simp only[Qn,List.mem_singleton,Rd.loc.injEq]at n;subst n;by_cases u:Zc5 (.q q [])=true;exact ZBH j u (x:=x) (o:=o) ψ;cases q;case conv c =>cases c<;>simp[Wb]at t;cases i<;>simp[qv]at j
  all_goals simp[Wb,Zc5]at t u
  .cases i with
   |nil=>simp[qv]at j
   |cons e2 r2=>cases r2<;>simp[qv]at j
  cases i<;>simp[qv]at j
def Kh.loc{o H L s B}(h:Kh o H L s B){x}(u:.loc x∈Wl o H):∃cs,Zj L x=sO cs:=by
 rcases h with ⟨hk,n,hr,side,e,hs,i,he⟩|⟨hk,_,j,_⟩|⟨t,z,rfl,_⟩
 rotate_left
 rw[j.reads]at u;simp at u
 rotate_left
 .obtain⟨dst,gd,k⟩:=o;cases k with
  |q q xs =>
   simp only[Wl]at u;split at u<;>(try(simp at u;done));rename_i hrd;unfold ZG at i;have hg:Zo H gd=sO true:=n;simp only[hg]at u i;cases ha:Yg H true xs with
   |none=>simp[ha]at u
   |some pe =>
    obtain⟨p,es⟩:=pe;simp only[ha]at u i;cases es with
    |nil=>simp at u
    |cons e1 es' =>
     simp only at u;split at i<;>(try(simp at i;done));rename_i sd e2 hq;exact ZCJ hq rfl (by
      cases q;case conv c=>cases c<;>simp_all[Wb]
      all_goals simp_all[Wb]) u
  |_=>simp[Wl]at u
 simp[Wl]at u
def Zbz{F:Fr P}{kp dk o f os H L s B}(R:E->St->Prop)(hk:Wj o.k=false)(h1:∀H' L' os',ZA H H' (ZB o)->(∀e s2,R e s2->DO F kp dk os' (Zz H' o.dst e) L' s2)->DO F kp dk (o::os') H' L' s)(h2:∀e s2,R e s2->Wq f s s2 L L B/\DOA F kp dk os (Zz H o.dst e) L s2 (Wa f B)):
  DOA F kp dk ((o,f)::os) H L s B:=by
 intro T ms fl fk A rest is l H' L' hm hc u ad inv ac;cases rest with
 |nil=>simp at ad
 |cons i rest =>
  simp only[ZHY,List.cons.injEq,ZHR]at ad;obtain⟨⟨ho,rfl⟩,rfl⟩:=ad;obtain⟨ak,rfl⟩:=ZpM ho.symm (λk h=>by rw[h]at hk;simp[Wj]at hk);obtain⟨hi,hdeps,al,ag,ap⟩:=ZmP ak hc;rcases ap with ⟨hp,_⟩|⟨hb,ai,_⟩;have:=(Zfv hp).1;rw[hk]at this;simp at this;obtain⟨hbk,z,j⟩:=ZgO hb;refine Zw8 hm hi u z (λl H' L' is inv hd ac=>?_) ac inv;have n:=hm l inv.closed i hi hd;have af:ZA H H' (ZB (T.op i)):=by intro t ht;rcases inv.env t with h|⟨a,ha,ab,am⟩;exact h;exfalso;rcases ag a ha with hb|hb;rw[n a hb]at ab;simp at ab;exact ZjW hb am ht
  refine h1 H' L' _ af λe s2 hR=>?_;obtain⟨ah,ao⟩:=h2 e s2 hR;refine ao T ms fl fk _ rest is _ _ _ hm ai (λp hp aj=>u p (List.mem_filter.1 hp).1 (by simp[aj])) rfl (inv.bar hm u hi al hd (λa ha=>⟨(j a ha).1,(j a ha).2.1⟩) e (λ_ h=>h) (λ_ _ _ _ h=>h) λa ha ab ae=>?_) ac;refine(ae.keep ah (j a ha).2.2 (λ_ _=>rfl)).mono (Qg (j a ha).1) (λt ht=>?_) (λ_ _=>rfl) (λ_ _=>rfl);rw[WZ];have:=Zb1 (Zcq (j a ha).2.1) ht;simp[this]
end
def ZkL{H L s s1 p q ok side a n xs ρ1 L1}(h:Qr H L s p q ok a n xs=.ok side ρ1 L1 s1):
  ρ1=H/\((∃l off i,a=.loc l off/\L1=(l,Zq i off xs)::L/\s1=s/\Zj L l=sO i/\∀H' L',Zj L' l=Zj L l->Qr H' L' s p q ok a n xs=.ok side H' ((l,Zq i off xs)::L') s) \/
   (L1=L/\∀H' L',Qr H' L' s p q ok a n xs=.ok side H' L' s1)):=by
 obtain⟨rfl,⟨l,off,i,rfl,j,rfl,rfl,rfl⟩|⟨b,off,i,rfl,j,rfl,rfl,rfl⟩⟩:=ZgE h;exact⟨rfl,.inl ⟨l,off,i,rfl,rfl,rfl,j,λH' L' t=>by simp only[Qr,t,j]⟩⟩;exact⟨rfl,.inr ⟨rfl,λH' L'=>by simp only[Qr,j]⟩⟩
def Zu8{o H L s s1 side ρ1 L1}(u:ZG o H L s=.ok side ρ1 L1 s1)(hk:ZeE o.k=true):
  ρ1=H/\o.dst=nO/\((∃lx cs new,L1=(lx,new)::L/\s1=s/\Zj L lx=sO cs /\
   ∀H' L',ZA H H' (ZB o)->Zj L' lx=Zj L lx->ZG o H' L' s=.ok side H' ((lx,new)::L') s) \/
   (L1=L/\∀H' L',ZA H H' (ZB o)->ZG o H' L' s=.ok side H' L' s1)):=by
 obtain⟨dst,gd,k⟩:=o;cases hg:Zo H gd with
 |none=>unfold ZG at u;simp[hg]at u
 |some c =>
 cases k with
 |store1 a v =>unfold ZG at u;simp only[hg]at u;split at u<;>(try(simp at u;done));rename_i p ea q x ha hv;obtain⟨rfl,⟨l,off,cs,rfl,rfl,rfl,hL,i⟩|⟨rfl,i⟩⟩:=ZkL u;refine⟨rfl,rfl,.inl ⟨l,cs,_,rfl,rfl,hL,λH' L' j hl=>?_⟩⟩;have h1:ZA ρ1 H' (ZV a):=λt z=>j t (by simp[ZB,Yl,z]);have h2:ZA ρ1 H' (ZV v):=λt z=>j t (by simp[ZB,Yl,z]);unfold ZG;simp only[Zo,ZT h1,ZT h2,ha,hv];exact i H' L' hl;refine⟨rfl,rfl,.inr ⟨rfl,λH' L' j=>?_⟩⟩;have h1:ZA ρ1 H' (ZV a):=λt z=>j t (by simp[ZB,Yl,z]);have h2:ZA ρ1 H' (ZV v):=λt z=>j t (by simp[ZB,Yl,z]);unfold ZG;simp only[Zo,ZT h1,ZT h2,ha,hv];exact i H' L'
 |storeN n a v =>unfold ZG at u;simp only[hg]at u;split at u<;>(try(simp at u;done));rename_i p ea q xs ha hv;obtain⟨rfl,⟨l,off,cs,rfl,rfl,rfl,hL,i⟩|⟨rfl,i⟩⟩:=ZkL u;refine⟨rfl,rfl,.inl ⟨l,cs,_,rfl,rfl,hL,λH' L' j hl=>?_⟩⟩;have h1:ZA ρ1 H' (ZV a):=λt z=>j t (by simp[ZB,Yl,z]);have h2:ZA ρ1 H' (ZV v):=λt z=>j t (by simp[ZB,Yl,z]);unfold ZG;simp only[Zo,ZT h1,ZT h2,ha,hv];exact i H' L' hl;refine⟨rfl,rfl,.inr ⟨rfl,λH' L' j=>?_⟩⟩;have h1:ZA ρ1 H' (ZV a):=λt z=>j t (by simp[ZB,Yl,z]);have h2:ZA ρ1 H' (ZV v):=λt z=>j t (by simp[ZB,Yl,z]);unfold ZG;simp only[Zo,ZT h1,ZT h2,ha,hv];exact i H' L'
 |_=>simp[ZeE]at hk
def Ztv:K->Bool
 |.mapupd _ _ _ _|.delete _ _ _|.entst _ _ _=>true
 |_=>false
def Zy3{o H L s s1 side ρ1 L1}(hst:ZG o H L s=.ok side ρ1 L1 s1)(hk:Ztv o.k=true):
  ρ1=H/\o.dst=nO/\L1=L/\∀H' L',ZA H H' (ZB o)->ZG o H' L' s=.ok side H' L' s1:=by
 obtain⟨dst,gd,k⟩:=o;cases hg:Zo H gd with
 |none=>unfold ZG at hst;simp[hg]at hst
 |some c =>
 cases k with
 |mapupd kp m k v =>unfold ZG at hst;simp only[hg]at hst;split at hst<;>(try(simp at hst;done));rename_i p b q dk r dv hm u hv;split at hst<;>(try(simp at hst;done));rename_i es z;split at hst<;>simp only[SR.ok.injEq,reduceCtorEq]at hst;rename_i ab j;obtain⟨rfl,rfl,rfl,rfl⟩:=hst;refine⟨rfl,rfl,rfl,λH' L' i=>?_⟩;have h1:ZA H H' (ZV m):=λt ht=>i t (by simp[ZB,Yl,ht]);have h2:ZA H H' (ZV k):=λt ht=>i t (by simp[ZB,Yl,ht]);have h3:ZA H H' (ZV v):=λt ht=>i t (by simp[ZB,Yl,ht]);unfold ZG;simp only[Zo,ZT h1,ZT h2,ZT h3,hm,u,hv,z,j]
 |delete kp m k =>unfold ZG at hst;simp only[hg]at hst;split at hst<;>(try(simp at hst;done));rename_i p b q dk hm u;split at hst<;>(try(simp at hst;done));rename_i es z;split at hst<;>simp only[SR.ok.injEq,reduceCtorEq]at hst;rename_i ab j;obtain⟨rfl,rfl,rfl,rfl⟩:=hst;refine⟨rfl,rfl,rfl,λH' L' i=>?_⟩;have h1:ZA H H' (ZV m):=λt ht=>i t (by simp[ZB,Yl,ht]);have h2:ZA H H' (ZV k):=λt ht=>i t (by simp[ZB,Yl,ht]);unfold ZG;simp only[Zo,ZT h1,ZT h2,hm,u,z,j]
 |entst m k v =>unfold ZG at hst;simp only[hg]at hst;split at hst<;>(try(simp at hst;done));rename_i p b q n r dv hm u hv;split at hst<;>(try(simp at hst;done));rename_i kp es dk n' z;split at hst<;>simp only[SR.ok.injEq,reduceCtorEq]at hst;rename_i ab j;obtain⟨rfl,rfl,rfl,rfl⟩:=hst;refine⟨rfl,rfl,rfl,λH' L' i=>?_⟩;have h1:ZA H H' (ZV m):=λt ht=>i t (by simp[ZB,Yl,ht]);have h2:ZA H H' (ZV k):=λt ht=>i t (by simp[ZB,Yl,ht]);have h3:ZA H H' (ZV v):=λt ht=>i t (by simp[ZB,Yl,ht]);unfold ZG;simp only[Zo,ZT h1,ZT h2,ZT h3,hm,u,hv,z,j]
 |_=>simp[Ztv]at hk
def Zy1{o H L s side pre ρf sf}(hst:ZG o H L s=.all side pre ρf sf):
  Wj o.k=false/\∃(t:Nat) (ef:Nat->E),o.dst=sO t/\(ρf=λb=>(t,ef b)::H)/\∀H' L',ZA H H' (ZB o)->ZG o H' L' s=.all side pre (λb=>(t,ef b)::H') sf:=by
 obtain⟨dst,gd,k⟩:=o;cases hg:Zo H gd with
 |none=>unfold ZG at hst;simp[hg]at hst
 |some c =>
 cases k with
 |mkmap =>unfold ZG at hst;simp only[hg]at hst;split at hst<;>simp only[SR.all.injEq,reduceCtorEq]at hst;obtain⟨rfl,rfl,rfl,rfl⟩:=hst;refine⟨rfl,_,λb=>.d (.map b),rfl,rfl,λH' L' i=>?_⟩;unfold ZG;simp only[Zo]
 |mkslice e n by_ z l c =>unfold ZG at hst;simp only[hg]at hst;split at hst<;>simp only[SR.all.injEq,reduceCtorEq]at hst;rename_i t p k1 lv q k2 hv hl hc;obtain⟨rfl,rfl,rfl,rfl⟩:=hst;refine⟨rfl,t,λb=>.d (.msl b 0 lv.toNat hv.toNat n),rfl,rfl,λH' L' i=>?_⟩;have h1:ZA H H' (ZV l):=λt ht=>i t (by simp[ZB,Yl,ht]);have h2:ZA H H' (ZV c):=λt ht=>i t (by simp[ZB,Yl,ht]);unfold ZG;simp only[Zo,ZT h1,ZT h2,hl,hc]
 |mapent kp z m k =>unfold ZG at hst;simp only[hg]at hst;split at hst<;>(try(simp at hst;done));rename_i t p b q dk hm j;split at hst<;>(try(simp at hst;done));rename_i es u;split at hst<;>simp only[SR.all.injEq,reduceCtorEq]at hst;rename_i v hv;obtain⟨rfl,rfl,rfl,rfl⟩:=hst;refine⟨rfl,t,λn=>.d (.tup [v,.stamp n]),rfl,rfl,λH' L' i=>?_⟩;have h1:ZA H H' (ZV m):=λt ht=>i t (by simp[ZB,Yl,ht]);have h2:ZA H H' (ZV k):=λt ht=>i t (by simp[ZB,Yl,ht]);unfold ZG;simp only[Zo,ZT h1,ZT h2,hm,j,u,hv]
 |store1 a v =>unfold ZG at hst;simp only[hg]at hst;split at hst<;>(try(simp at hst;done));exact absurd hst Zfe
 |storeN n a v =>unfold ZG at hst;simp only[hg]at hst;split at hst<;>(try(simp at hst;done));exact absurd hst Zfe
 |_ =>
  unfold ZG at hst;simp only[hg]at hst;first
   | (simp at hst;done)
   |repeat' (split at hst<;>(try(simp at hst;done)))
def Zxr{o H L s s1 side ρ1 L1}(i:ZG o H L s=.ok side ρ1 L1 s1):YQ o.k=true\/(∃z,o.k=.alloc z)\/ZeE o.k=true\/(∃x,o.k=.box x)\/Ztv o.k=true:=by
 obtain⟨dst,t,k⟩:=o;unfold ZG at i;cases j:Zo H t with
 |none=>simp[j]at i
 |some c =>
  simp only[j]at i;cases k with
  |q q xs=>exact .inl rfl
  |pick x a b=>exact .inl rfl
  |bsl len n z is xs=>exact .inl rfl
  |s2b x=>exact .inl rfl
  |alloc z=>exact .inr (.inl ⟨z,rfl⟩)
  |store1 a v=>exact .inr (.inr (.inl rfl))
  |storeN n a v=>exact .inr (.inr (.inl rfl))
  |box x=>exact .inr (.inr (.inr (.inl ⟨x,rfl⟩)))
  |mapupd kp m k v=>exact .inr (.inr (.inr (.inr rfl)))
  |delete kp m k=>exact .inr (.inr (.inr (.inr rfl)))
  |entst m k v=>exact .inr (.inr (.inr (.inr rfl)))
  |mkmap=>simp only at i;split at i<;>simp at i
  |mkslice e n by_ z l c=>simp only at i;split at i<;>simp at i
  |mapent kp z m k =>simp only at i;split at i<;>(try(simp at i;done));split at i<;>(try(simp at i;done));split at i<;>simp at i
  |call f xs=>simp at i
  |append e n by_ z x y=>simp at i
  |panic x=>simp at i
  |defer f xs=>simp at i
  |recover=>simp at i
  |clear n z x=>simp at i
  |copy n x y=>simp at i
  |fork k=>simp at i
section
variable {P:Program}
def Zy5{o H L L' side ρ1 t new g Z w tmps s}(j:ZG o H L s=.ok side ρ1 ((t,new)::L) s)(hk:ZeE o.k=true)(hs:side)(m:Zy g Z w tmps H L' s):∃cs,Zj L' t=sO cs:=by
 have i:∀{p q ok:Prop} {a:Opd} {z:E} {n:Nat} {xs:List D},ZD H true a=sO (p,z)->Qr H L s p q ok z n xs=.ok side ρ1 ((t,new)::L) s->∃cs,Zj L' t=sO cs:=by intro p q ok a z n xs u h;obtain⟨rfl,⟨l,off,cs,rfl,hL,rfl,h1,h2⟩|⟨b,off,cs,rfl,hL,rfl,h1,h2⟩⟩:=ZgE h;simp only[List.cons.injEq,ZHR,and_true]at h1;obtain⟨rfl,rfl⟩:=h1;exact ZmK m (xs:=[a]) (p:=p/\True) (es:=[.loc t off]) (by simp[Yg,u]) ⟨hs.1,trivial⟩ t off ψ;exact absurd (congrArg List.length h1) ψ
 obtain⟨dst,gd,k⟩:=o;cases hg:Zo H gd with
 |none=>unfold ZG at j;simp[hg]at j
 |some c =>
 cases k with
 |store1 a v =>unfold ZG at j;simp only[hg]at j;split at j<;>(try(simp at j;done));rename_i p z q x u hv;exact i u j
 |storeN n a v =>unfold ZG at j;simp only[hg]at j;split at j<;>(try(simp at j;done));rename_i p z q xs u hv;exact i u j
 |_=>simp[ZeE]at hk
def Zy2{o H ρ1 L L1 s s1 side x}(j:ZG o H L s=.ok side ρ1 L1 s1)(n:o.k=.box x):
  ∃t p v,o.dst=sO t/\o.guard=nO/\side=(p/\ZaR L t=false/\Km v=true)/\ρ1=(t,.loc t 0)::H/\L1=(t,cellsOf v)::L/\s1=s /\
   ∀H' L',ZA H H' (ZB o)->ZG o H' L' s=.ok (p/\ZaR L' t=false/\Km v=true) ((t,.loc t 0)::H') ((t,cellsOf v)::L') s:=by
 obtain⟨dst,gd,k⟩:=o;simp only at n;subst n;unfold ZG at j;cases z:Zo H gd with
 |none=>simp[z]at j
 |some c =>simp only[z]at j;split at j<;>simp only[SR.ok.injEq,reduceCtorEq]at j;rename_i t p v hx;obtain⟨rfl,rfl,rfl,rfl⟩:=j;refine⟨t,p,v,rfl,rfl,rfl,rfl,rfl,rfl,λH' L' i=>?_⟩;have h1:ZA H H' (ZV x):=λu hu=>i u (by simp[ZB,Yl,hu]);unfold ZG;simp only[Zo,ZT h1,hx]
def ZkK{o H ρ1 L L1 s s1 side}(i:ZG o H L s=.ok side ρ1 L1 s1):∀k,o.k≠.fork k:=λk j=>by
 obtain⟨dst,t,k'⟩:=o;simp only at j;subst j;unfold ZG at i;cases n:Zo H t<;>simp[n]at i
def JR{F:Fr P}{kp dk o f os H ρ1 L L1 s s1 B side}(hst:ZG o H L s=.ok side ρ1 L1 s1)(hs:side)(h:if Wj o.k then DOA F kp dk os ρ1 L1 s1 (KC o H++B) else Wq f s s1 L L1 B/\DOA F kp dk os ρ1 L1 s1 (KC o H++Wa f B)):DOA F kp dk ((o,f)::os) H L s B:=by
 intro T ms fl fk A rest is l H' L' hm hc ae bc inv al;cases rest with
 |nil=>simp at bc
 |cons i rest =>
  simp only[ZHY,List.cons.injEq,ZHR]at bc;obtain⟨⟨ho,rfl⟩,rfl⟩:=bc;obtain⟨bz,rfl⟩:=ZpM ho.symm (ZkK hst);obtain⟨hi,hdeps,aq,bq,a5⟩:=ZmP bz hc;have bj:=inv.restN i ψ;rcases a5 with ⟨hp,am⟩|⟨hb,am,hnp⟩
  .obtain⟨ca,a3,ao⟩:=Zfv hp;rw[ca]at h;simp only[if_true]at h;have hiA:i∉A:=λhA=>ae i hA ψ;have br:∀(av:∀t,(T.op i).dst=sO t\/ZS ρ1 t=ZS H t) (bb:∀a∈A,ZA H ρ1 (ZB (T.op a))) (hL:∀x,Zj L1 x=Zj L x\/(Zbc (T.op i) x/\Zj L x=nO)) (bl:∀x,Zbc (T.op i) x->Zj L x=nO)
     (ar:Kh (T.op i) ρ1 L1 s (KC (T.op i) H++B)) (a6:s1=s),DO F kp dk (is.map T.op) H' L' s:=by
    intro av bb hL bl ar a6;subst a6;refine h T ms fl fk (i::A) rest is l H' L' hm am (λp hp a9=>?_) rfl ⟨inv.closed,λr hr=>inv.restN r (by simp[hr]),λj hj h1 h2=>?_,λa ha=>?_,λp hp a ha=>?_,λp hp a ha bv=>?_,λt=>?_,λa ha ac x hx=>?_,λx=>?_,λa ha ac=>?_⟩ al;rcases List.mem_cons.1 hp with rfl|hp;exact aq a9;exact ae p hp (by simp[a9]);simp only[ZIj,not_or]at h2;exact inv.doneN j hj (by simp[h2.1,h1]) h2.2;rcases List.mem_cons.1 ha with rfl|ha;exact hi;exact inv.alt a ha;rcases List.mem_cons.1 hp with rfl|hpA<;>rcases List.mem_cons.1 ha with rfl|haA;exact .inr a3;exact bq a haA;exact .inr (ao p hpA).1;exact inv.pair p hpA a haA;rcases List.mem_cons.1 hp with rfl|hpA<;>rcases List.mem_cons.1 ha with rfl|haA;exact absurd rfl bv;exact(ao a haA).2;exact Zcq (ao p hpA).2;exact inv.uniq p hpA a haA bv;rcases av t with hd|hg;exact .inr ⟨i,ψ,bj,hd⟩;rw[hg];rcases inv.env t with h|⟨a,ha,ac,bh⟩;exact .inl h;exact .inr ⟨a,by simp[ha],ac,bh⟩;rcases List.mem_cons.1 ha with rfl|ha;have:=bl x hx;rcases inv.loc x with h|⟨b,hb,bg,bi⟩;rw[h];exact this;exact inv.loc0 b hb bg x bi;exact inv.loc0 a ha ac x hx;rcases hL x with hx|⟨hx,_⟩;rw[hx];rcases inv.loc x with h|⟨b,hb,bg,bi⟩;exact .inl h;exact .inr ⟨b,by simp[hb],bg,bi⟩;exact .inr ⟨i,ψ,bj,hx⟩;rcases List.mem_cons.1 ha with rfl|ha;exact ar;refine((inv.pend a ha ac).more (B':=KC (T.op i) H++B) (λb _ hb=>List.mem_append_right _ hb)).mono (bb a ha) (λt ht=>?_) (λx hx=>?_) (λt ai=>?_);rcases av t with hd|hg;exact absurd ht (Zb1 (ao a ha).2 hd);exact hg;obtain⟨cs,a5⟩:=(inv.pend a ha ac).loc hx;rcases hL x with h|⟨_,h⟩;exact h;rw[h]at a5;simp at a5;rcases hL t with h|⟨h,_⟩;exact h;exact absurd ai.1 (Zb1 (ao a ha).2 h.1)
   by_cases hq:YQ (T.op i).k=true
   .obtain⟨e,rfl,rfl,rfl⟩:=Zmu hst hq;have bp:=Y4 (g:=(T.op i).guard) (H:=H) (H':=Zz H (T.op i).dst e) (λt ht=>Qg a3 t (by simp[ZB,ht]));refine br (λt=>?_) (λa ha=>Qg (ao a ha).1) (λx=>.inl rfl) (λx hx=>by have:=ZcV hx;rw[hq]at this;simp at this) ?_ rfl;rw[WZ];by_cases ht:(T.op i).dst=sO t;exact .inl ht;exact .inr (by simp[ht]);cases a0:Zo H (T.op i).guard with
    |none=>unfold ZG at hst;simp[a0]at hst
    |some c =>
    cases c;obtain⟨e',h1,-,-⟩:=Zmt hst a0 hq;refine .inr (.inl ⟨hq,_,.inl ⟨by rw[bp,a0],e',rfl⟩,λt ht=>?_⟩);rw[h1,WZ,if_pos ht];obtain⟨e',h1,-,-,h2⟩:=ZiR (H':=Zz H (T.op i).dst e) (L':=L1) hst hq (Qg a3) (.inl rfl);refine .inl ⟨hq,by rw[bp,a0],by rw[Zkf (Qg a3)];exact λb hb=>List.mem_append_left _ (Zw9.2 hb),side,e',hs,h2,λt ht=>?_⟩;rw[h1,WZ,if_pos ht]
   obtain⟨z,hz⟩:∃z,(T.op i).k=.alloc z:=by cases hk:(T.op i).k<;>first|exact absurd hk (ZkK hst _)|simp_all[Wj,YQ]
   obtain⟨t,ho,rfl,rfl,rfl,rfl⟩:=Zu5 hst hz;have aj:Zj L t=nO:=by cases hg:Zj L t<;>simp[ZaR,hg]at hs⊢
   have ak:(T.op i).dst=sO t:=by rw[ho]
   refine br (λu=>?_) (λa ha=>?_) (λx=>?_) (λx hx=>?_) (.inr (.inr ⟨t,z,ho,by simp[ZS],by simp[Zj]⟩)) rfl;by_cases bt:t=u;exact .inl (by rw[ak,bt]);exact .inr (by simp[ZS,bt]);have:=Qg (H:=H) (e:=.loc t 0) (ao a ha).1;rw[ak]at this;exact this;by_cases bu:t=x;subst bu;exact .inr ⟨⟨ak,z,hz⟩,aj⟩;exact .inl (by simp[Zj,bu]);have:=hx.1;rw[ak]at this;simp only[ZHE]at this;subst this;exact aj
  obtain⟨bk,a4,n⟩:=ZgO hb;have a8:Wq (fl i) s s1 L L1 B\/Wj (T.op i).k=true:=by cases ba:Wj (T.op i).k;rw[ba]at h;exact .inl h.1;exact .inr rfl
  have hD:∃B2,(B2=KC (T.op i) H++B/\Wj (T.op i).k=true\/B2=KC (T.op i) H++Wa (fl i) B/\Wj (T.op i).k=false)/\DOA F kp dk (rest.map λi=>(T.mk fk i,fl i)) ρ1 L1 s1 B2:=by cases ba:Wj (T.op i).k;rw[ba]at h;exact⟨_,.inr ⟨rfl,rfl⟩,h.2⟩;rw[ba]at h;exact⟨_,.inl ⟨rfl,rfl⟩,h⟩
  clear h;obtain⟨B2,b0,h⟩:=hD;have af:∀b∈Wa (fl i) B,b∈B2:=λb hb=>by rcases b0 with ⟨rfl,_⟩|⟨rfl,_⟩;exact List.mem_append_right _ (QZ.1 hb).2;exact List.mem_append_right _ hb
  refine Zw8 hm hi ae a4 (λl H' L' is inv hd al=>?_) al inv;have aw:=hm l inv.closed i hi hd;have ap:ZA H H' (ZB (T.op i)):=by intro t ht;rcases inv.env t with h|⟨a,ha,ac,bh⟩;exact h;exfalso;rcases bq a ha with hb|hb;rw[aw a hb]at ac;simp at ac;exact ZjW hb bh ht
  have au:∀x,Zj L' x=Zj L x\/Zj L' x=nO:=λx=>by rcases inv.loc x with h|⟨a,ha,ac,hx⟩;exact .inl h;exact .inr (inv.loc0 a ha ac x hx)
  have ag:∀p∈A.filter (λa=>!(ms.getD i 0).testBit a),p∉rest:=λp hp a9=>ae p (List.mem_filter.1 hp).1 (by simp[a9]);rcases Zxr hst with hq|⟨z,hz⟩|hq|⟨x,hx⟩|hq;obtain⟨e,rfl,rfl,rfl⟩:=Zmu hst hq;refine Zvd hst hs hq ap au ?_;refine h T ms fl fk _ rest is _ _ _ hm am ag rfl (inv.bar hm ae hi aq hd (λa ha=>⟨(n a ha).1,(n a ha).2.1⟩) e (λ_ h=>h) (λ_ _ _ _ h=>h) λa ha ac ah=>?_) al;refine((ah.keep (fl:=fl i) Zd4 (n a ha).2.2 (λ_ _=>rfl)).more (λb _ hb=>af _ hb)).mono (Qg (n a ha).1) (λt ht=>?_) (λ_ _=>rfl) (λ_ _=>rfl);rw[WZ];have:=Zb1 (Zcq (n a ha).2.1) ht;simp[this];rw[hz]at bk;simp[Zwf]at bk;obtain⟨rfl,a7,⟨lx,cs,new,rfl,rfl,bf,ab⟩|⟨rfl,ab⟩⟩:=Zu8 hst hq;refine Zqw λg Z w tmps m=>?_;have bo:ZG (T.op i) H' ((lx,cs)::L') s1=.ok side H' ((lx,new)::(lx,cs)::L') s1:=ab H' _ ap (by simp[Zj,bf]);have be:Zj L' lx=Zj L lx:=by obtain⟨c2,bn⟩:∃cs,Zj L' lx=sO cs:=Zy5 (L:=(lx,cs)::L') bo hq hs m;rcases au lx with h|h;exact h;rw[h]at bn;simp at bn
  refine Q1 (ab H' L' ap be) hs ?_;have ad:∀r:Env,Zz r (T.op i).dst (.d .undef)=r:=λr=>by rw[a7];rfl
  have hb:=inv.bar (s2:=s1) (B2:=B2) hm ae hi aq hd (λa ha=>⟨(n a ha).1,(n a ha).2.1⟩) (.d .undef) (L2:=(lx,new)::L) (L2':=(lx,new)::L') (λx hx=>by simp only[Zj,hx]) (λx _ _ _ hx=>by
   by_cases bw:lx=x;subst bw;rw[be,bf]at hx;simp at hx;simp only[Zj,bw,if_false];exact hx) (λa ha ac ah=>?_)
  rw[ad,ad]at hb;exact h T ms fl fk _ rest is _ _ _ hm am ag rfl hb al;rw[ad];have ay:Wq (fl i) s1 s1 L ((lx,new)::L) B:=by rcases a8 with h|h;exact h;cases ax:(T.op i).k<;>rw[ax]at hq h<;>simp[ZeE,Wj]at hq h
  refine(ah.keep ay (n a ha).2.2 (λt ai=>?_)).more (λb _ hb=>af _ hb);have hn:=inv.loc0 a (List.mem_filter.1 ha).1 ac t ai;have:¬lx=t:=λh=>by subst h;rw[be,bf]at hn;simp at hn
  simp[Zj,this];refine Q1 (ab H' L' ap) hs ?_;have ad:∀r:Env,Zz r (T.op i).dst (.d .undef)=r:=λr=>by rw[a7];rfl
  have hb:=inv.bar (s2:=s1) (B2:=B2) hm ae hi aq hd (λa ha=>⟨(n a ha).1,(n a ha).2.1⟩) (.d .undef) (L2:=L1) (L2':=L') (λx hx=>hx) (λ_ _ _ _ hx=>hx) (λa ha ac ah=>by
   rw[ad];exact(ah.keep (a8.resolve_right (by cases ax:(T.op i).k<;>rw[ax]at hq<;>simp[ZeE,Ztv]at hq<;>simp[Wj])) (n a ha).2.2 (λ_ _=>rfl)).more (λb _ hb=>af _ hb))
  rw[ad,ad]at hb;exact h T ms fl fk _ rest is _ _ _ hm am ag rfl hb al;obtain⟨t,p,v,ak,hgn,rfl,rfl,rfl,rfl,ab⟩:=Zy2 hst hx;obtain⟨a6,b1,bx⟩:=hs;have aj:Zj L t=nO:=by cases hg:Zj L t<;>simp[ZaR,hg]at b1⊢
  have az:Zj L' t=nO:=by rcases au t with h|h;rw[h];exact aj;exact h
  refine Q1 (ab H' L' ap) ⟨a6,by simp[ZaR,az],bx⟩ ?_;have hb:=inv.bar (s2:=s1) (B2:=B2) hm ae hi aq hd (λa ha=>⟨(n a ha).1,(n a ha).2.1⟩) (.loc t 0) (L2:=(t,cellsOf v)::L) (L2':=(t,cellsOf v)::L') (λx hx=>by simp only[Zj,hx]) (λx a cb ai hx=>by
    have:¬t=x:=λh=>by subst h;exact Zb1 cb ak ai.1
    simp only[Zj,this,if_false];exact hx) (λa ha ac ah=>?_)
  rw[ak]at hb;exact h T ms fl fk _ rest is _ _ _ hm am ag rfl hb al;have ay:Wq (fl i) s1 s1 L ((t,cellsOf v)::L) B:=a8.resolve_right (by rw[hx];simp[Wj]);have b2:∀u,Zbc (T.op a) u->¬t=u:=λu ai h=>by subst h;exact Zb1 (n a ha).2.1 ak ai.1
  refine((ah.keep ay (n a ha).2.2 (λu ai=>by simp[Zj,b2 u ai])).more (λb _ hb=>af _ hb)).mono (Qg (n a ha).1) (λu hu=>?_) (λ_ _=>rfl) (λ_ _=>rfl);rw[WZ];have:=Zb1 (Zcq (n a ha).2.1) hu;simp[this];obtain⟨rfl,a7,rfl,ab⟩:=Zy3 hst hq;refine Q1 (ab H' L' ap) hs ?_;have ad:∀r:Env,Zz r (T.op i).dst (.d .undef)=r:=λr=>by rw[a7];rfl
  have hb:=inv.bar (s2:=s1) (B2:=B2) hm ae hi aq hd (λa ha=>⟨(n a ha).1,(n a ha).2.1⟩) (.d .undef) (L2:=L1) (L2':=L') (λx hx=>hx) (λ_ _ _ _ hx=>hx) (λa ha ac ah=>by
   rw[ad];exact(ah.keep (a8.resolve_right (by cases ax:(T.op i).k<;>rw[ax]at hq<;>simp[ZeE,Ztv]at hq<;>simp[Wj])) (n a ha).2.2 (λ_ _=>rfl)).more (λb _ hb=>af _ hb))
  rw[ad,ad]at hb;exact h T ms fl fk _ rest is _ _ _ hm am ag rfl hb al
def Zsc{F:Fr P}{kp dk o f os H L s B e}(hz:ZcP o H e)(hk:YQ o.k=true)(h:DOA F kp dk os (Zz H o.dst e) L s B):DOA F kp dk ((o,f)::os) H L s B:=by
 intro T ms fl fk A rest is l H' L' hm hc z aj inv af;cases rest with
 |nil=>simp at aj
 |cons i rest =>
  simp only[ZHY,List.cons.injEq,ZHR]at aj;obtain⟨⟨ho,rfl⟩,rfl⟩:=aj;obtain⟨aw,rfl⟩:=ZpM ho.symm (λk h=>by rw[h]at hk;simp[YQ]at hk);obtain⟨hi,hdeps,ap,ak,az⟩:=ZmP aw hc;have aq:=inv.restN i ψ;have ao:∀x,¬Zbc (T.op i) x:=λx hx=>by have:=ZcV hx;rw[hk]at this;simp at this
  rcases az with ⟨hp,ag⟩|⟨hb,ag,hnp⟩;obtain⟨hp1,al,ac⟩:=Zfv hp;have ax:=hz.congr (H':=Zz H (T.op i).dst e) (Qg al);refine h T ms fl fk (i::A) rest is l H' L' hm ag (λp hp ae=>?_) rfl ⟨inv.closed,λr hr=>inv.restN r (by simp[hr]),λj hj h1 h2=>?_,λa ha=>?_,λp hp a ha=>?_,λp hp a ha am=>?_,λt=>?_,λa ha n x hx=>?_,λx=>?_,λa ha n=>?_⟩ af;rcases List.mem_cons.1 hp with rfl|hp;exact ap ae;exact z p hp (by simp[ae]);simp only[ZIj,not_or]at h2;exact inv.doneN j hj (by simp[h2.1,h1]) h2.2;rcases List.mem_cons.1 ha with rfl|ha;exact hi;exact inv.alt a ha;rcases List.mem_cons.1 hp with rfl|hpA<;>rcases List.mem_cons.1 ha with rfl|haA;exact .inr al;exact ak a haA;exact .inr (ac p hpA).1;exact inv.pair p hpA a haA;rcases List.mem_cons.1 hp with rfl|hpA<;>rcases List.mem_cons.1 ha with rfl|haA;exact absurd rfl am;exact(ac a haA).2;exact Zcq (ac p hpA).2;exact inv.uniq p hpA a haA am;rw[WZ];by_cases ht:(T.op i).dst=sO t;exact .inr ⟨i,ψ,aq,ht⟩;rw[if_neg ht];rcases inv.env t with h|⟨a,ha,n,ai⟩;exact .inl h;exact .inr ⟨a,by simp[ha],n,ai⟩;rcases List.mem_cons.1 ha with rfl|ha;exact absurd hx (ao x);exact inv.loc0 a ha n x hx;rcases inv.loc x with h|⟨b,hb,av,ay⟩;exact .inl h;exact .inr ⟨b,by simp[hb],av,ay⟩;rcases List.mem_cons.1 ha with rfl|ha;exact .inr (.inl ⟨hk,e,ax,λt ht=>by rw[WZ,if_pos ht]⟩);refine(inv.pend a ha n).mono (Qg (ac a ha).1) (λt ht=>?_) (λ_ _=>rfl) (λ_ _=>rfl);rw[WZ,if_neg (Zb1 (Zcq (ac a ha).2) ht)];obtain⟨hbk,ad,u⟩:=ZgO hb;refine Zw8 hm hi z ad (λl H' L' is inv hd af=>?_) af inv;have ab:=hm l inv.closed i hi hd;have au:ZA H H' (ZB (T.op i)):=by intro t ht;rcases inv.env t with h|⟨a,ha,n,ai⟩;exact h;exfalso;rcases ak a ha with hb|hb;rw[ab a hb]at n;simp at n;exact ZjW hb ai ht
  have ah:∀p∈A.filter (λa=>!(ms.getD i 0).testBit a),p∉rest:=λp hp ae=>z p (List.mem_filter.1 hp).1 (by simp[ae]);refine(hz.congr au).run ?_;refine h T ms fl fk _ rest is _ _ _ hm ag ah rfl (inv.bar hm z hi ap hd (λa ha=>⟨(u a ha).1,(u a ha).2.1⟩) e (λ_ h=>h) (λ_ _ _ _ h=>h) λa ha n ar=>?_) af;refine ar.mono (Qg (u a ha).1) (λt ht=>?_) (λ_ _=>rfl) (λ_ _=>rfl);rw[WZ];have:=Zb1 (Zcq (u a ha).2.1) ht;simp[this]
def ZxE{F:Fr P}{kp dk o f os H L s B}(j:Zo H o.guard=sO false)(i:YQ o.k=true)(e)(h:DOA F kp dk os (Zz H o.dst (.when false e)) L s B):DOA F kp dk ((o,f)::os) H L s B:=Zsc (.inl ⟨j,e,rfl⟩) i h
def Zzm{F:Fr P}{kp dk o f os H L s B}(u:o.guard=nO){x y i}(j:o.k=.q (.bin .add i) [x,y]){p k a b}(n:Yg H true [x,y]=sO (p,[.d (.int k a),.d (.int k b)]))(t:p)(h:DOA F kp dk os (Zz H o.dst (.d (.int k (k.wrap (a+b))))) L s B):DOA F kp dk ((o,f)::os) H L s B :=
 Zsc (.inr ⟨x,y,i,p,k,a,b,u,j,n,t,rfl⟩) (by rw[j];rfl) h
def Zpl{F:Fr P}{kp}{dk}{o}{f}{os}{H}{L}{s}{B}{side}{z}{ρf}{sf}(hst:ZG o H L s=.all side z ρf sf)(hs:side)(h:∀b,z b->Wq f s (sf b) L L B/\DOA F kp dk os (ρf b) L (sf b) (Wa f B)):DOA F kp dk ((o,f)::os) H L s B:=by
 obtain⟨hp,t,ef,n,rfl,j⟩:=Zy1 hst;refine Zbz (λe s2=>∃b,z b/\e=ef b/\s2=sf b) hp (λH' L' os' u i=>?_) (λe s2 ⟨b,hb,he,h2⟩=>?_);refine Znr (j H' L' u) hs λb hb=>?_;have:=i (ef b) (sf b) ⟨b,hb,rfl,rfl⟩;rw[n]at this;exact this;subst he;subst h2;have:=h b hb;rw[n];exact this
def Zk2{F:Fr P}{ks dk}:∀{os H L s B},
  Zif (λH L s=>ZC F dk (Yx H ks) (ZbD (Yx H ks) L) s) (λos H L s B=>DOA F (sO ks) dk os H L s B) os H L s B->DOA F (sO ks) dk os H L s B
 | [],H,L,s,B,h=>Zpm h
 | (o,f)::os,H,L,s,B,h=>by simp only[Zif]at h;split at h;rename_i t H' L' s' i;by_cases j:Wj o.k=true;rw[if_pos j]at h;exact JR i h.1 (by rw[if_pos j];exact Zk2 h.2);rw[if_neg j]at h;exact JR i h.1 (by rw[if_neg j];exact⟨h.2.1,Zk2 h.2.2⟩);rename_i t pre H' s' i;exact Zpl i h.1 λb n=>⟨(h.2 b n).1,Zk2 (h.2 b n).2⟩;exact h
end
def ZhY{bs}:∀{ds a},(Zc6 bs ds).testBit a=true->∃d∈ds,a=d\/(bs.getD d 0).testBit a=true
 | [],a,h=>by simp[Zc6]at h
 |d::ds,a,h=>by simp only[Zc6,Nat.testBit_or,ZH0]at h;rcases h with (h|h)|h;exact⟨d,ψ,.inr h⟩;refine⟨d,ψ,.inl ?_⟩;rw[Nat.one_shiftLeft,Nat.testBit_two_pow]at h;exact(of_decide_eq_true h).symm;obtain⟨j,i,n⟩:=ZhY h;exact⟨j,by simp[i],n⟩
def Ztx(l:Nat->Bool)(all)(z:∀i,i<I all->l i=true->∀d∈all.getD i [],l d=true) :
  ∀(r acc pre),all=pre++r->I acc=I pre ->
   (∀i,i<I acc->(∀d∈all.getD i [],l d=true)->∀a,(acc.getD i 0).testBit a=true->l a=true) ->
   ∀i,i<I all->(∀d∈all.getD i [],l d=true)->∀a,((Zgu r acc).getD i 0).testBit a=true->l a=true
 | [],acc,pre,hall,hlen,hacc=>by intro i hi;simp only[Zgu];exact hacc i (by rw[hlen];simp only[hall,ZH8]at hi;exact hi)
 |d::r,acc,pre,hall,hlen,hacc=>by
  simp only[Zgu];refine Ztx l all z r (acc++[Zc6 acc d]) (pre++[d]) (by simp[hall]) (by simp[hlen]) λi hi hd a ha=>?_;simp only[ZHO,ZHW,List.length_nil]at hi;by_cases n:i<I acc;have e:(acc++[Zc6 acc d]).getD i 0=acc.getD i 0:=by simp[ZHU,List.getElem?_append,n]
  rw[e]at ha;exact hacc i n hd a ha;have t:i=I acc:=ω;subst t;have e:(acc++[Zc6 acc d]).getD (I acc) 0=Zc6 acc d:=by simp[ZHU]
  rw[e]at ha;have e2:all.getD (I acc) []=d:=by rw[hall,hlen];simp[ZHU]
  rw[e2]at hd;obtain⟨u,h1,h2⟩:=ZhY ha;rcases h2 with rfl|h2;exact hd a h1;by_cases j:u<I acc;exact hacc u j (z u (by rw[hall];simp;omega) (hd u h1)) a h2;have:acc.getD u 0=0:=by simp[ZHU,ZIr (Nat.le_of_not_lt j)]
  rw[this]at h2;simp at h2
def cnt(l:Nat->Bool):Nat->Nat
 |0=>0
 |n+1=>cnt l n+if l n then 0 else 1
def ZsS{l l'}:∀{n},(∀i,i<n->l' i=l i)->cnt l' n=cnt l n
 |0,_=>rfl
 |n+1,h=>by have:=ZsS (l:=l) (l':=l') (n:=n) λi hi=>h i ω;simp only[cnt,h n ω,this]
def Zvl{l i}:∀{n},i<n->l i=false->cnt (λj=>j==i ||l j) n+1=cnt l n
 |n+1,hi,hl=>by
  by_cases hn:i=n;subst hn;have:cnt (λj=>j==i ||l j) i=cnt l i:=ZsS λj hj=>by have:¬j=i:=ω;simp[this]
  simp[cnt,this,hl];have h:=Zvl (n:=n) ω hl;have t:¬n=i:=λh=>hn h.symm;have:(n==i ||l n)=l n:=by simp[t]
  simp only[cnt,this];omega
def ZsT{l}:∀{n},cnt l n=0->∀i,i<n->l i=true
 |n+1,h,i,hi=>by simp only[cnt]at h;by_cases hn:i=n;subst hn;cases hl:l i;simp[hl]at h;rfl;exact ZsT (n:=n) ω i ω
def ZxX(l):∀n,cnt l n<=n
 |0=>ZHV _
 |n+1=>by have:=ZxX l n;simp only[cnt];split<;>omega
def Zyu{ops u i}(h:i∈Region.ready .any ops u):
  ∃o,ops[i]?=sO o/\u.getD i true=false/\∀d∈Zaf o,u.getD d false=true:=by
 simp only[Region.ready,List.mem_filter,List.mem_range,ZHN,Bool.not_eq_true']at h;obtain⟨hi,hl,z⟩:=h;refine⟨ops[i],by simp[hi],hl,λd hd=>?_⟩;simp only[hi,Array.getElem?_eq_getElem,ZId,ZIk,Array.all_eq_true]at z;simp only[Zaf,List.mem_map,List.mem_filter]at hd;obtain⟨e,⟨he,hb⟩,rfl⟩:=hd;obtain⟨n,hn,j⟩:=ZH1 he;have t:n<ops[i].after.size:=by simpa using hn
 have h2:=z n t;have:ops[i].after[n]=e:=by rw[<-j];simp
 rw[this]at h2;simpa[hb]using h2
def ZyT{ops j i o}(z:ops[i]?=sO o)(hl:j.getD i true=false)(u:∀d∈Zaf o,j.getD d false=true):i∈Region.ready .any ops j:=by
 obtain⟨t,rfl⟩:=Array.getElem?_eq_some_iff.1 z;simp only[Region.ready,List.mem_filter,List.mem_range,ZHN,Bool.not_eq_true'];refine⟨t,hl,?_⟩;simp only[t,Array.getElem?_eq_getElem,ZId,ZIk,Array.all_eq_true];intro n hn;cases hb:Region.binds .any ops[i].after[n];simp;simp only[Bool.not_true,Bool.false_or];exact u _ (by
  simp only[Zaf,List.mem_map,List.mem_filter];exact⟨_,⟨ψ,hb⟩,rfl⟩)
def ZCQ{ops T}(hT:T.length=ops.size)(hdep:∀i o,ops[i]?=sO o->T.deps i=Zaf o)(hlt:∀i,i<T.length->∀d∈T.deps i,d<i):
  ∀(fuel t listed),listed.size=ops.size->cnt (λj=>listed.getD j false) ops.size<=fuel ->
   Sch T (λj=>listed.getD j false) (Region.linearise.go .any ops fuel t listed []):=by
 have n:∀listed:Array Bool,listed.size=ops.size->Region.ready .any ops listed=[]->∀i,i<ops.size->listed.getD i false=true:=by
  intro listed u hr i;induction i using Nat.strongRecOn with
  |ind i ih =>
   intro hi;cases hl:listed.getD i false;exfalso;have ae:i<listed.size:=ω;have ag:listed.getD i true=false:=by simpa[Array.getD,ae]using hl
   have hm:i∈Region.ready .any ops listed:=ZyT (o:=ops[i]) (by simp[hi]) ag λd hd=>by have ah:d<i:=hlt i ω d (by rw[hdep i ops[i] (by simp[hi])];exact hd);exact ih d ah ω
   rw[hr]at hm;simp at hm;rfl
 intro fuel;induction fuel with
 |zero =>intro t listed u hc;simp only[Region.linearise.go,List.reverse_nil];exact .nil λi hi=>ZsT (Nat.le_zero.1 hc) i ω
 |succ fuel ih =>
  intro t listed u hc;simp only[Region.linearise.go];change Sch T _ (match (Region.ready .any ops listed)[t % (Region.ready .any ops listed).length]? with
   |some i=>Region.linearise.go .any ops fuel (t / (Region.ready .any ops listed).length) (listed.setIfInBounds i true) [i]
   |none=>[].reverse)
  cases hi:(Region.ready .any ops listed)[t % (Region.ready .any ops listed).length]? with
  |none =>
   have ad:Region.ready .any ops listed=[]:=by
    cases hr:Region.ready .any ops listed with
    |nil=>rfl
    |cons x xs =>rw[hr]at hi;have hl:t % (x::xs).length<(x::xs).length:=Nat.mod_lt _ ψ;rw[ZIb hl]at hi;simp at hi
   exact .nil λi ae=>n listed u ad i ω
  |some i =>
   simp only[];rw[linearise_go_acc,List.reverse_singleton,List.singleton_append];obtain⟨o,ho,hl,hd⟩:=Zyu (List.mem_of_getElem? hi);obtain⟨aj,-⟩:=Array.getElem?_eq_some_iff.1 ho;have ab:i<listed.size:=ω;have af:listed.getD i false=false:=by simpa[Array.getD,ab]using hl
   have z:(λj=>(listed.setIfInBounds i true).getD j false)=λj=>j==i ||listed.getD j false:=by funext j;simp only[Array.getD_eq_getD_getElem?,Array.getElem?_setIfInBounds];by_cases ac:i=j;subst ac;simp[ab];have:¬j=i:=λh=>ac h.symm;simp[ac,this]
   refine .cons ω af (λd ai=>hd d (by rw[<-hdep i o ho];exact ai)) ?_;rw[<-z];refine ih _ _ (by simp[u]) ?_;rw[z];have:=Zvl (l:=λj=>listed.getD j false) aj af;omega
section
variable {P:Program}
def ZBb{an N c i os ks}(h:cc P an N c=sO (.regD i os ks)):
  ∃id ops,c=.region id ops true/\ccD P an N id ops=sO (i,os,ks):=by
 unfold cc at h;split at h<;>simp_all;obtain⟨a,b,c',t,u,n,j⟩:=h;exact⟨_,_,⟨rfl,rfl⟩,by rw[t];simp[u,n,j]⟩;all_goals (split at h<;>simp at h)
end
def ZCR{T l is}(h:Sch T l is):∀i∈is,i<T.length:=by
 induction h with
 |nil h=>simp
 |cons hi hl hd t ih=>intro i j;rcases List.mem_cons.1 j with rfl|h;exact hi;exact ih i h
section
variable {P:Program}
def ZsU{N ops}:∀{is l},JV P N ops is=sO l->I l=I is/\∀(j i:Nat),is[j]?=sO i->∃o d,ops[i]?=sO o/\cop P N ops o=sO d/\l[j]?=sO d
 | [],l,h=>by simp only[JV,ZHE]at h;subst h;simp
 |i::is,l,h=>by
  simp only[JV]at h;split at h<;>(try(simp at h;done));rename_i o z;split at h<;>simp only[ZHE,reduceCtorEq]at h;rename_i d ds u n;subst h;obtain⟨h1,h2⟩:=ZsU n;refine⟨by simp[h1],λj i' t=>?_⟩;cases j with
  |zero=>simp only[List.getElem?_cons_zero,ZHE]at t;subst t;exact⟨o,d,z,u,ψ⟩
  |succ j=>simp only[List.getElem?_cons_succ]at t⊢;exact h2 j i' t
def Zvm{N ops f}:∀{is},(∀i∈is,∃o,ops[i]?=sO o/\cop P N ops o=sO (f i))->JV P N ops is=sO (is.map f)
 | [],_=>rfl
 |i::is,h=>by obtain⟨o,n,u⟩:=h i ψ;have:=Zvm (is:=is) λj t=>h j (by simp[t]);simp only[JV,n,u,this,ZHY]
def Zx7(g w){n}:Ext g w g { w with drawn:=n }:=⟨ZHV _,λ_=>ZHV _,λ_ _ _=>rfl,λ_ _ h=>h,λ_ _=>rfl,λ_ _=>rfl,rfl,rfl,rfl,rfl⟩
def Zy.drawn{g Z w tmps H L s}(m:Zy g Z w tmps H L s)(n):Zy g Z { w with drawn:=n } tmps H L s:=by
 have hg:Zaq g w g { w with drawn:=n }:=⟨ZHV _,λ_ _=>rfl,λ_ _=>rfl,λb hb=>(m.st.fresh b hb).1,rfl,rfl,rfl,rfl⟩;exact m.grow hg
def Zl3:∀{n ds},ZnN n ds=true->∀i l,ds[i]?=sO l->∀d∈l,d<n+i
 |n,[],_,i,l,hi=>by simp at hi
 |n,x::r,h,i,l,hi=>by
  simp only[ZnN,ZHN,List.all_eq_true,decide_eq_true_eq]at h;cases i with
  |zero=>simp only[List.getElem?_cons_zero,ZHE]at hi;subst hi;exact λd hd=>h.1 d hd
  |succ i=>simp only[List.getElem?_cons_succ]at hi;intro d hd;have:=Zl3 h.2 i l hi d hd;omega
def Zjm{F:Fr P}{order os ks dk H L s}(h:DOA F ks dk os H L s []):ZC F (.code (.regD order os ks)::dk) H L s:=by
 intro k hk;cases hk with
 |code hc ht =>
 obtain⟨id,ops,rfl,hD⟩:=ZBb hc;unfold ccD at hD;generalize ZzN F.an id=fk at hD;split at hD<;>(try(simp at hD;done));rename_i l ae kp aj _ _;simp only at hD;split at hD<;>simp only[ZHE,ZHR,reduceCtorEq]at hD;rename_i z;obtain⟨rfl,rfl,rfl⟩:=hD;simp only[ZHN]at z;obtain⟨⟨⟨aq,ak⟩,ab⟩,ac⟩:=z;obtain⟨ag,ap⟩:=ZsU aj;simp only[List.length_range]at ag;generalize af:ops.toList.map Zaf=ds at ak ac h;have ay:I ds=ops.size:=by rw[<-af];simp
 generalize hT:List.zip l ds=T at ac h;have az:List.length T=ops.size:=by rw[<-hT];simp[ag,ay]
 have al:∀(i:Nat) (o:Oper),ops[i]?=sO o->∃d,cop P F.N ops o=sO d/\T[i]?=sO (d,Zaf o):=by intro i o ho;obtain⟨hi,-⟩:=Array.getElem?_eq_some_iff.1 ho;obtain⟨o',d,h1,h2,h3⟩:=ap i i (by simp[hi]);rw[ho]at h1;obtain rfl:=Option.some.inj h1;refine⟨d,h2,?_⟩;rw[<-hT,List.getElem?_zip_eq_some];exact⟨h3,by rw[<-af];simp[ho]⟩
 have u:∀(i:Nat) (o:Oper),ops[i]?=sO o->Tab.deps T i=Zaf o:=λi o ho=>by obtain⟨d,_,h2⟩:=al i o ho;simp[Tab.deps,ZHU,h2]
 have au:∀i,i<List.length T->∃o,ops[i]?=sO o/\cop P F.N ops o=sO (Tab.op T i):=λi hi=>by have n:i<ops.size:=ω;obtain⟨d,h1,h2⟩:=al i ops[i] (by simp[n]);exact⟨ops[i],by simp[n],by simp[Tab.op,ZHU,h2,h1]⟩
 have am:∀i,i<List.length T->∀d∈Tab.deps T i,d<i:=λi hi d hd=>by have n:i<ops.size:=ω;have he:=u i ops[i] (by simp[n]);have:=Zl3 ak i (Zaf ops[i]) (by rw[<-af];simp[n]) d (by rw[<-he];exact hd);omega
 have ai:∀i,i<List.length T->ds.getD i []=Tab.deps T i:=λi hi=>by have n:i<ops.size:=ω;rw[u i ops[i] (by simp[n]),<-af];simp[ZHU,n]
 intro g Z w tmps hN m;refine F.T.back _ _ _ _ (.one stepR_region_draw) ?_;refine F.T.ext g w g { w with drawn:=w.drawn+1 } _ (Zx7 g w) ?_;have ar:∀t,Region.schedule (P.follows .mixedOrders) ops t=Region.linearise .any ops t:=λt=>by simp[Region.schedule,aq]
 rw[ar];have ao:∀j,(Array.replicate ops.size false).getD j false=false:=λj=>by simp only[Array.getD_eq_getD_getElem?,Array.getElem?_replicate];split<;>rfl
 have ah:=ZCQ (ops:=ops) (T:=T) az u am ops.size (w.tape w.drawn (.order F.b.fn id)) (Array.replicate ops.size false) ψ (ZxX _ _);have aw:=h T (Zgu ds []) (λi=>(F.an.get (id+1000000*(i+4))).getD []) _ [] ae _ _ H L ?_ ac ψ rfl ?_ ah;refine aw ops _ _ (Zvm λi hi=>au i (ZCR ah i hi)) ht g Z _ tmps hN (m.drawn _);intro lf av i hi hd a ha;refine Ztx lf ds (λi hi ad d hd=>?_) ds [] [] rfl rfl (λi hi=>by simp at hi) i ω (λd ax=>hd d (by rw[<-ai i hi];exact ax)) a ha;exact av i ω ad d (by rw[<-ai i ω];exact hd);refine⟨λi hi ad=>?_,λr hr=>ao r,λi hi h1 h2=>?_,ψ,ψ,ψ,λt=>.inl rfl,ψ,λx=>.inl rfl,ψ⟩;rw[ao]at ad;simp at ad;exfalso;simp only[ZyJ,List.all_eq_true,List.mem_range,List.contains_eq_mem,decide_eq_true_eq]at ab;exact h1 (ab i ω)
def Zed{F:Fr P}{kp dk o f os H L s B}(hg:Zo H o.guard=sO true){fx xs}(hk:o.k=.call fx xs){p q fd es ds}(hf:ZD H true fx=sO (q,.d fd))(ha:Yg H true xs=sO (p,es))(hds:Kk es=sO ds)(hp:p)(hq:q){Ψ}(hc:Ki P fd ds s Ψ)(z:∀d s',Ψ (.ret d) s'->Wq f s s' L L B/\DOA F kp dk os (Zz H o.dst (.d d)) L s' (Wa f B))(hpan:∀d s',Ψ (.panic d) s'->Wk F [] [] d s'):DOA F kp dk ((o,f)::os) H L s B:=by
 refine Zbz (λe s'=>∃d,e=.d d/\Ψ (.ret d) s') (by rw[hk];rfl) (λH' L' os' i j=>?_) (λe s2 ⟨d,he,u⟩=>by subst he;exact z d s2 u);have h1:ZA H H' (ZV fx):=λt n=>i t (by simp[ZB,hk,Yl,n]);have h2:ZA H H' (ZbH xs):=λt n=>i t (by simp[ZB,hk,Yl,n]);have h3:ZA H H' (ZbX o.guard):=λt n=>i t (by simp[ZB,n]);exact Zfn (by rw[Y4 h3];exact hg) hk (by rw[ZT h1];exact hf) (by rw[Kj h2];exact ha) hds hp hq hc (λd s' u=>j (.d d) s' ⟨d,rfl,u⟩) (λd s' u=>(hpan d s' u).weak _ _)
def Zh3{F:Fr P}{kp dk o f os H L s B}(hg:Zo H o.guard=sO true){u xs}(hk:o.k=.call u xs){p q t first caps es ds}(hf:ZD H true u=sO (q,.d (.fn (.func t) first caps)))(z:Yg H true xs=sO (p,es))(n:Kk es=sO ds)(hp:p)(hq:q){Ψ}(hc:Ze P t (first++ds++caps) s Ψ)(i:∀d s',Ψ (.ret d) s'->Wq f s s' L L B/\DOA F kp dk os (Zz H o.dst (.d d)) L s' (Wa f B))(j:∀d s',Ψ (.panic d) s'->Wk F [] [] d s'):DOA F kp dk ((o,f)::os) H L s B :=
 Zed hg hk hf z n hp hq hc.V i j
def Zqr{F:Fr P}{kp dk o f os H L s B}(hg:Zo H o.guard=sO true){x}(n:o.k=.panic x){p t d}(u:ZD H true x=sO (p,.d (.iface t d)))(hp:p)(h:Wk F [] [] (.iface t d) s):DOA F kp dk ((o,f)::os) H L s B:=by
 refine Zbz (λ_ _=>False) (by rw[n];rfl) (λH' L' os' i hcont=>?_) (λe s2 h=>h.elim);have h1:ZA H H' (ZV x):=λt j=>i t (by simp[ZB,n,Yl,j]);have z:ZA H H' (ZbX o.guard):=λt j=>i t (by simp[ZB,j]);exact Zmz (by rw[Y4 z];exact hg) n (by rw[ZT h1];exact u) hp (h.weak _ _)
def Zfl{F:Fr P}{kp dk o f os H L s B}(hg:Zo H o.guard=sO false)(z:Wj o.k=false){e}(h:DOA F kp dk os (Zz H o.dst (.when false e)) L s (Wa f B)):DOA F kp dk ((o,f)::os) H L s B:=by
 refine Zbz (λe' s'=>e'=.when false e/\s'=s) z (λH' L' os' j i=>?_) (λe s2 ⟨h1,h2⟩=>by subst h1;subst h2;exact⟨Zd4,h⟩);have u:ZA H H' (ZbX o.guard):=λt n=>j t (by simp[ZB,n]);exact Jx (by rw[Y4 u];exact hg) (i _ _ ⟨rfl,rfl⟩)
def Znq{F:Fr P}{kp dk o f os H L s B c}(hg:Zo H o.guard=sO c){fx xs}(u:o.k=.call fx xs){p q fi first caps es ds}(hf:ZD H c fx=sO (q,.d (.fn (.func fi) first caps)))(ha:Yg H c xs=sO (p,es))(hds:Kk es=sO ds){d}(hc:c=true->p/\q/\Zc P fi (first++ds++caps) d)(h:DOA F kp dk os (Zz H o.dst (.when c (.d d))) L s (Wa f B)):DOA F kp dk ((o,f)::os) H L s B:=by
 refine Zbz (λe' s'=>e'=.when c (.d d)/\s'=s) (by rw[u];rfl) (λH' L' os' i j=>?_) (λe s2 ⟨z,h2⟩=>by subst z;subst h2;exact⟨Zd4,h⟩);have z:ZA H H' (ZV fx):=λt n=>i t (by simp[ZB,u,Yl,n]);have h2:ZA H H' (ZbH xs):=λt n=>i t (by simp[ZB,u,Yl,n]);have h3:ZA H H' (ZbX o.guard):=λt n=>i t (by simp[ZB,n]);exact Zcz (by rw[Y4 h3];exact hg) u (by rw[ZT z];exact hf) (by rw[Kj h2];exact ha) hds hc (j _ _ ⟨rfl,rfl⟩)
def Zjk{F:Fr P}{kp dk o f os H L s B}(hg:Zo H o.guard=sO true){t xs}(hk:o.k=.call t xs){p q n first caps es ds}(hf:ZD H true t=sO (q,.d (.fn (.func n) first caps)))(u:Yg H true xs=sO (p,es))(j:Kk es=sO ds)(hp:p)(z:q){d}(hc:Zc P n (first++ds++caps) d)(h:DOA F kp dk os (Zz H o.dst (.d d)) L s (Wa f B)):DOA F kp dk ((o,f)::os) H L s B :=
 Zh3 hg hk hf u j hp z (hc s) (λd' s' ⟨i,h2⟩=>by simp only[Res.ret.injEq]at i;subst i;subst h2;exact⟨Zd4,h⟩) (λd' s' ⟨i,_⟩=>by simp at i)
end
section
variable {P:Program}
def ZbS(P:Program)(w:World)(size m:Nat)(x:Value)(news:List Value):Prop :=
 (∀w2,(Builtin.lenOf x).run P w2=.ok m w2)/\∀w2:World,w2.heap=w.heap->(Builtin.firstCells size m x).run P w2=.ok news.toArray w2
def Zqz{w t u ty e z i}(ht:P.underlying t=sO (.slice e))(hu:P.underlying u=sO z)(hnu:∀k,z≠.int k)(hi:P.info? e=sO i){base n cap x}(hx:ZbS P w i.size 0 x [])(j:n<=cap):(Builtin.append_ #[t,u] ty #[.slice base n cap,x]).run P w=.ok (.slice base n cap) w:=by
 obtain⟨h1,h2⟩:=hx;have h2:=h2 w rfl;have hz:(match z with|.int _=>true|_=>false)=false:=by cases z<;>first|rfl|exact absurd rfl (hnu _)
 cases base with
 |none=>simp[Builtin.append_,run_underlying ht,run_underlying hu,hz,sizeOf,typeInfo,hi,h1,h2,j]
 |some a=>simp[Builtin.append_,run_underlying ht,run_underlying hu,hz,sizeOf,typeInfo,hi,h1,h2,j,storeCells]
def ZsB{w t u ty e tu i}(ht:P.underlying t=sO (.slice e))(hu:P.underlying u=sO tu)(hnu:∀k,tu≠.int k)(hi:P.info? e=sO i){g n cap m x news}(hx:ZbS P w i.size m x news){cur T}(hg:w.heap[g]?=sO (.cells cur T (0,0)))(h1:∀u∈news,u.oneCell'=true)(hroom:n+m<=cap)(hfit:n*i.size+I news<=cur.size):
  (Builtin.append_ #[t,u] ty #[.slice (sO ⟨g,0,nO⟩) n cap,x]).run P w =
   .ok (.slice (sO ⟨g,0,nO⟩) (n+m) cap) (w.setRow g (cur.toList.take (n*i.size)++news++cur.toList.drop (n*i.size+I news)).toArray):=by
 obtain⟨ab,j⟩:=hx;have j:=j w rfl;have hz:(match tu with|.int _=>true|_=>false)=false:=by cases tu<;>first|rfl|exact absurd rfl (hnu _)
 have z:=run_storeCells_at P g (n*i.size) T news 0 cur w hg (by simpa using hfit) h1;simp only[Nat.add_zero]at z;simp[Builtin.append_,run_underlying ht,run_underlying hu,hz,sizeOf,typeInfo,hi,ab,j,hroom,Addr.add_lit,z]
def ZmJ{w t u ty e tu i z}(ht:P.underlying t=sO (.slice e))(hu:P.underlying u=sO tu)(hnu:∀k,tu≠.int k)(hi:P.info? e=sO i)(hz':i.zero=sO z){base n cap m x olds news}(hx:ZbS P w i.size m x news)(ho:∀w2:World,w2.heap=w.heap->(Builtin.firstCells i.size n (.slice base n cap)).run P w2=.ok olds.toArray w2)(hg:cap<n+m)(h63:((n+m:Nat):Int)<=9223372036854775807)(hfit:(n+m)*i.bytes<=140737488355328):
  (Builtin.append_ #[t,u] ty #[.slice base n cap,x]).run P w =
   .ok (.slice (sO ⟨w.heap.size,0,nO⟩) (n+m) (grownCap w (n+m) cap e))
    (w.drew.alloc (.cells (olds++news++(Builtin.zeroCells z.cells (grownCap w (n+m) cap e-(n+m))).toList).toArray e)):=by
 obtain⟨ad,j⟩:=hx;have j:=j w.drew rfl;have ho:=ho w.drew rfl;have hz:(match tu with|.int _=>true|_=>false)=false:=by cases tu<;>first|rfl|exact absurd rfl (hnu _)
 have hn:¬(n+m<=cap):=ω;have ab:¬(9223372036854775807<((n:Int)+(m:Int))):=ω;have hf:=growslice_fits hg hfit;have ac:¬(281474976710656<Builtin.nextslicecap (n+m) cap*i.bytes):=ω;simp[Builtin.append_,run_underlying ht,run_underlying hu,hz,sizeOf,typeInfo,zeroValue,hi,hz',ad,hn,ab,ac,Question.forced,j,ho,newRow,grownCap]
 congr 2
 apply Array.ext';simp[ZIg]
end
structure Ke(g:G)(w:World)(sz n:Nat)(vals:List Value)(row:Nat->List D):Prop where
 len:I vals=n*sz
 rlen:∀i,i<n->(row i).length=sz
 rep:∀(i j:Nat) (v:Value) (d:D),i<n->j<sz->vals[i*sz+j]?=some v->(row i)[j]?=some d->Rep g w v d
 one:∀v∈vals,v.one1=true
def YA(n:Nat)(row row2:Nat->List D):Nat->List D:=λi=>if i<n then row i else row2 (i-n)
def Ke.append{sz n m:Nat}{a b:List Value}{row row2:Nat->List D}(u:Ke g w sz n a row)(z:Ke g w sz m b row2):Ke g w sz (n+m) (a++b) (YA n row row2):={
 len:=by rw[ZHO,u.len,z.len,ZIa]
 rlen i hi:=by unfold YA;split;rename_i h;exact u.rlen i h;exact z.rlen (i-n) ω
 rep i j v d hi hj hv hd:=by
  unfold YA at hd;split at hd;rename_i h;have:i*sz+j<I a:=by rw[u.len];have:=ZH5 sz (show i+1<=n from h);rw[ZIa,Nat.one_mul]at this;omega
  rw[ZIc this]at hv;exact u.rep i j v d h hj hv hd;rename_i h;have e:i*sz+j-I a=(i-n)*sz+j:=by rw[u.len,Nat.sub_mul];have:=ZH5 sz (show n<=i by omega);omega
  have t:I a<=i*sz+j:=by rw[u.len];have:=ZH5 sz (show n<=i by omega);omega
  rw[ZIq t,e]at hv;exact z.rep (i-n) j v d ω hj hv hd
 one v hv:=by
  rcases List.mem_append.1 hv with h|h;exact u.one v h;exact z.one v h }
def Ke.mono{g t w w' sz n a row}(h:Ke g w sz n a row)(e:Ext g w t w'):Ke t w' sz n a row :=
 ⟨h.len,h.rlen,λi j v d hi u hv z=>(h.rep i j v d hi u hv z).mono e,h.one⟩
def Zbg{b o cs T fr}(h:w.heap[b]?=sO (.cells cs T fr)):w.cell? ⟨b,o,nO⟩=cs[o]?:=by
 unfold World.cell?;simp[h]
section
variable {P:Program}
def ZiI{g w v t n sz row}(h:Rep g w v (.sl t n sz row))(hsz:0<sz):
  ∃vals,Ke g w sz n vals row/\ZbS P w sz n v vals:=by
 cases h with
 |sl0 a t s row ht =>refine⟨[],⟨ψ,λi hi=>by omega,λi j v d hi=>by omega,ψ⟩,λw2=>by simp[Builtin.lenOf],λw2 _=>by cases a<;>simp[Builtin.firstCells,loadCells,loadCellsFrom]⟩
 |sl b o n cap s row t f hl hc hp hr one ht hcap hb =>
  let vals:=(ZHT (n*sz)).map λk=>f (k / sz) (k % sz);have hk:∀k,k<n*sz->k / sz<n/\k % sz<sz:=λk hk=>⟨(Nat.div_lt_iff_lt_mul hsz).2 hk,Nat.mod_lt _ hsz⟩;have u:∀k v,vals[k]?=sO v->k<n*sz/\v=f (k / sz) (k % sz):=λk v hv=>by simp only[vals,List.getElem?_map,ZHS]at hv;obtain⟨k',h1,h2⟩:=hv;obtain⟨h3,h4⟩:=List.getElem?_eq_some_iff.1 h1;simp only[List.getElem_range]at h4;subst h4;exact⟨by simpa using h3,h2.symm⟩
  refine⟨vals,⟨by simp[vals],hl,λi j v d hi hj hv hd=>?_,λv hv=>?_⟩,λw2=>by simp[Builtin.lenOf],λw2 ac=>?_⟩;obtain⟨_,rfl⟩:=u _ _ hv;have e1:(i*sz+j) / sz=i:=by rw[Nat.mul_comm,Nat.mul_add_div hsz,Nat.div_eq_of_lt hj,Nat.add_zero]
  have e2:(i*sz+j) % sz=j:=by rw[Nat.mul_comm,Nat.mul_add_mod,Nat.mod_eq_of_lt hj]
  rw[e1,e2];exact hr i j d hi hd;obtain⟨k,ab,rfl⟩:=ZH1 hv;obtain⟨h1,h2⟩:=u k _ (ZIb ab);rw[h2];exact one _ _ (hk k h1).1 (hk k h1).2;refine run_firstCells_some (P:=P) w2 sz n ⟨b,o,nO⟩ n cap vals (by simp[vals]) λk v hv=>?_;obtain⟨h1,h2⟩:=u k v hv;have z:(⟨b,o,nO⟩:Addr).add k=⟨b,o+k,nO⟩:=Kv b o k;rw[z];have h3:=hc (k / sz) (k % sz) (hk k h1).1 (hk k h1).2;have e:o+k / sz*sz+k % sz=o+k:=by rw[Nat.add_assoc,Nat.mul_comm,Nat.div_add_mod]
  rw[e]at h3;rw[h2,<-h3];unfold World.cell?;simp only[ac]
def Zo7{g w sz n cap b vals row}(h:Ke g w sz n vals row){z T}(hb:w.heap[b]?=sO (.cells z T (0,0)))(ht:z.toList.take (n*sz)=vals)(hn:n<=cap)(hcap:cap*sz<=z.size)(hp:g.prot b=n*sz)(hbig:cap<=big):Rep g w (.slice (sO ⟨b,0,nO⟩) n cap) (.sl (.tip b) n sz row):=by
 have u:∀i j,i<n->j<sz->i*sz+j<n*sz:=λi j hi hj=>by have:=ZH5 sz (show i+1<=n from hi);rw[ZIa,Nat.one_mul]at this;omega
 have hle:n*sz<=z.size:=Nat.le_trans (ZH5 sz hn) hcap;have t:∀i j,i<n->j<sz->z[i*sz+j]?=sO (z.getD (i*sz+j) undef)/\vals[i*sz+j]?=sO (z.getD (i*sz+j) undef):=λi j hi hj=>by
  have h1:=u i j hi hj;have h2:i*sz+j<z.size:=ω;have e:z[i*sz+j]?=sO (z.getD (i*sz+j) undef):=by simp[Array.getD,h2]
  refine⟨e,?_⟩;rw[<-ht,ZIm,if_pos h1,Array.getElem?_toList];exact e
 refine .sl b 0 n cap sz row (.tip b) (λi j=>z.getD (i*sz+j) undef) h.rlen (λi j hi hj=>?_) (λi j hi hj=>?_) (λi j d hi hd=>?_) (λi j hi hj=>?_) ⟨rfl,rfl,T,z.size,?_,hcap⟩ hn hbig;rw[Zbg hb,Nat.zero_add];exact(t i j hi hj).1;rw[hp,Nat.zero_add];exact u i j hi hj;have hj:j<sz:=by rw[<-h.rlen i hi];exact(List.getElem?_eq_some_iff.1 hd).1
 exact h.rep i j _ d hi hj (t i j hi hj).2 hd;exact h.one _ (List.mem_of_getElem? (t i j hi hj).2);simp[hdr,hb]
end
def St.own(s:St)(t:Tok)(k:Nat):St :=
 match t with
 |.tip b=>s.upd b (.tip k)
 |_=>s
def Tok.okIn(t:Tok)(s:St):Prop :=
 match t with
 |.tip b=>s b=Option.none
 |.full=>True
 |.none=>False
def YH{s}{t:Tok}{k:Nat}(h:t.okIn s):s.sub (s.own t k):=by
 intro b o i;cases t with
 |tip c =>simp only[St.own,ZIi];by_cases j:b=c;subst j;simp only[Tok.okIn]at h;rw[h]at i;simp at i;simp only[j,if_false];exact i
 |_=>exact i
def Yp.upd(h:Yp g s w){b:Nat}{o:Jo}(n:W2 g w b o)(j:¬g.kept b):Yp g (s.upd b o) w:={
 obj c x hx:=by simp only[ZIi]at hx;by_cases i:c=b;simp only[i,if_true,ZHE]at hx;subst hx;rw[i];exact n;simp only[i,if_false]at hx;exact h.obj c x hx
 kept c x hx:=by simp only[ZIi]at hx;by_cases i:c=b;rw[i];exact j;simp only[i,if_false]at hx;exact h.kept c x hx
 fresh:=h.fresh
 tabs:=h.tabs }
def Zc8(g:G)(b k:Nat):G:={ g with prot:=λc=>if c=b then k else g.prot c }
def ZzT{c:Array Value}(T:TypeId){k:Nat}(i:∀b,w.heap.size<=b->g.prot b=0/\¬g.kept b):Zaq g w (Zc8 g w.heap.size k) (w.drew.alloc (.cells c T)):={
 size:=by simp
 old b hb:=(by first|exact heap_alloc_old w.drew _ b hb|exact heap_alloc_old w.drew _ hb)
 prot b hb:=by simp[Zc8,show ¬b=w.heap.size by omega]
 fresh b hb:=by
  have:(w.drew.alloc (.cells c T)).heap.size=w.heap.size+1:=by simp
  rw[this]at hb;simp only[Zc8,show ¬b=w.heap.size by omega,if_false];exact(i b ω).1
 kept:=rfl
 os:=rfl
 output:=rfl
 tape:=rfl }
def Rep.slRow{g w v t n sz row row'}(h:Rep g w v (.sl t n sz row))(z:∀i,i<n->row' i=row i):Rep g w v (.sl t n sz row'):=by
 cases h with
 |sl0 a t s row ht=>exact .sl0 a t sz row' ht
 |sl b o n cap s row t f hl hc hp hrep one ht hcap hb =>exact .sl b o n cap sz row' t f (λi u=>by rw[z i u];exact hl i u) hc hp (λi j d u hd=>hrep i j d u (by rw[<-z i u];exact hd)) one ht hcap hb
section
variable {P:Program}
def ZA0{sz k:Nat}{t rest:List Value}{T:TypeId}{cap:Nat}(hs:Yp g s w)(hr:Ke g w sz k t row)(hn:k<=cap)(hrest:I t+I rest=cap*sz)(hbig:cap<=big):
  let z:=w.drew.alloc (.cells (t++rest).toArray T);let u:=Zc8 g w.heap.size (k*sz)
  Zaq g w u z/\Yp u (s.own (.tip w.heap.size) (k*sz)) z/\(Tok.tip w.heap.size).okIn s/\Rep u z (.slice (sO ⟨w.heap.size,0,nO⟩) k cap) (.sl (.tip w.heap.size) k sz row):=by
 intro z u;have hg:Zaq g w u z:=ZzT T hs.fresh;have i:z.heap[w.heap.size]?=sO (.cells (t++rest).toArray T (0,0)):=heap_alloc_new w.drew _;have hp:u.prot w.heap.size=k*sz:=by simp[u,Zc8]
 have j:k*sz<=(t++rest).toArray.size:=by have:=ZH5 sz hn;simp only[List.size_toArray,ZHO];omega
 refine⟨hg,(hs.grow hg).upd ⟨hp,_,T,i,j⟩ (λh=>(hs.fresh _ (ZHV _)).2 h),?_,?_⟩
 .simp only[Tok.okIn];cases n:s w.heap.size with
  |none=>rfl
  |some o=>have:=(hs.obj _ o n).lt;omega
 refine Zo7 (hr.mono (hg.ext hs.fresh)) i ?_ hn ?_ hp hbig;rw[<-hr.len];simp;simp only[List.size_toArray,ZHO];omega
def ZsA{g w s t sz n m v1 v2 row row2 tT u ty e tu i z}(ht:P.underlying tT=sO (.slice e))(hu:P.underlying u=sO tu)(hnu:∀k,tu≠.int k)(hi:P.info? e=sO i)(hz:i.zero=sO z)(hsz:i.size=sz)(hzc:z.cells.size=sz)(h0:0<sz)(hs:Yp g (s.own t (n*sz)) w)(hok:t.okIn s)(h1:Rep g w v1 (.sl t n sz row)){news}(h2:Ke g w sz m news row2)(h3:ZbS P w sz m v2 news)(hb:(n+m)*i.bytes<=140737488355328)(hbig:n+m<=big):
  ∃v' w' g' t',(Builtin.append_ #[tT,u] ty #[v1,v2]).run P w=.ok v' w'/\Ext g w g' w'/\Yp g' (s.own t' ((n+m)*sz)) w'/\t'.okIn s/\Rep g' w' v' (.sl t' (n+m) sz (YA n row row2)) /\
   (∀b,b<w.heap.size->t≠.tip b->w'.heap[b]?=w.heap[b]?/\g'.prot b=g.prot b)/\∀b,t'=.tip b->t=.tip b\/w.heap.size<=b:=by
 subst hsz;have ah:Yp g s w:=hs.sub (YH hok);obtain⟨ao,bf,ho1,a5⟩:=ZiI (P:=P) h1 h0;have ak:=bf.append h2;have ai:∀ac cap,v1=.slice ac n cap->cap<n+m->∃v' w' g' t',(Builtin.append_ #[tT,u] ty #[v1,v2]).run P w=.ok v' w'/\Ext g w g' w'/\Yp g' (s.own t' ((n+m)*i.size)) w'/\t'.okIn s /\
   Rep g' w' v' (.sl t' (n+m) i.size (YA n row row2))/\(∀b,b<w.heap.size->t≠.tip b->w'.heap[b]?=w.heap[b]?/\g'.prot b=g.prot b)/\∀b,t'=.tip b->t=.tip b\/w.heap.size<=b:=by
  intro ac cap hv a7;subst hv;have ag:=ZmJ (ty:=ty) ht hu hnu hi hz h3 a5 a7 (by simp only[big]at hbig;omega) hb;have a8:=grownCap_ge w (n+m) cap e;have aq:=grownCap_le_maxLen w (n+m) cap e (by simp only[big]at hbig;simp only[maxLen];omega);have hn:=ZA0 (T:=e) (rest:=(Builtin.zeroCells z.cells (grownCap w (n+m) cap e-(n+m))).toList) ah ak a8 (by
   simp only[Array.length_toList,size_zeroCells,hzc,ak.len,<-ZIa];congr 1;omega) (by simp only[maxLen]at aq;simp only[big];omega)
  obtain⟨a1,a2,a3,a4⟩:=hn;exact⟨_,_,_,_,ag,a1.ext ah.fresh,a2,a3,a4,λb hb _=>⟨a1.old b hb,a1.prot b hb⟩,λb hb=>.inr (by simp only[Tok.tip.injEq]at hb;omega)⟩
 have ap:∀ac cap,v1=.slice ac n cap->m=0->n<=cap->∃v' w' g' t',(Builtin.append_ #[tT,u] ty #[v1,v2]).run P w=.ok v' w'/\Ext g w g' w'/\Yp g' (s.own t' ((n+m)*i.size)) w'/\t'.okIn s /\
   Rep g' w' v' (.sl t' (n+m) i.size (YA n row row2))/\(∀b,b<w.heap.size->t≠.tip b->w'.heap[b]?=w.heap[b]?/\g'.prot b=g.prot b)/\∀b,t'=.tip b->t=.tip b\/w.heap.size<=b:=by
  intro ac cap hv hm aq;subst hv;subst hm;have bb:news=[]:=List.eq_nil_of_length_eq_zero (by simpa using h2.len);subst bb;exact⟨_,_,g,t,Zqz (ty:=ty) ht hu hnu hi h3 aq,Ext.refl g w,hs,hok,h1.slRow λi hi=>by simp only[YA,if_pos (show i<n from hi)],λ_ _ _=>⟨rfl,rfl⟩,λb hb=>.inl hb⟩
 cases h1 with
 |sl0 a t s row htt =>by_cases hm:m=0;exact ap a 0 rfl hm (ZHV _);exact ai a 0 rfl ω
 |sl b o n cap sz row t f hl hc hp hr one htok hcap hb' =>
  have be:=ai (sO ⟨b,o,nO⟩) cap rfl;have bc:=ap (sO ⟨b,o,nO⟩) cap rfl;by_cases hm:m=0;exact bc hm hcap;by_cases ab:n+m<=cap;case neg=>exact be ω
  cases t with
  |none=>exact hok.elim
  |full=>simp only[Zlb]at htok;omega
  |tip tb =>
   obtain⟨rfl,rfl,T0,m0,hh,hm0⟩:=htok;have az:=hs.obj b (.tip (n*i.size)) (by simp[St.own,ZIi]);have ae:=hs.kept b (.tip (n*i.size)) (by simp[St.own,ZIi]);obtain⟨a0,j,T,ad,hb2⟩:=az;have av:cap*i.size<=j.size:=by simp only[hdr,ad,ZHE,ZHR]at hh;omega
   have aw:n*i.size+I news<=j.size:=by rw[h2.len,<-ZIa];exact Nat.le_trans (ZH5 _ ab) av
   have ag:=ZsB (ty:=ty) ht hu hnu hi h3 ad (λv hv=>by rw[ZdI];exact h2.one v hv) ab aw;have am:∀k v,(j.toList.take (n*i.size))[k]?=sO v->w.cell? ((⟨b,0,nO⟩:Addr).add k)=sO v:=λk v hv=>by rw[Kv,Zbg ad,Nat.zero_add];rw[ZIm]at hv;split at hv;simpa using hv;simp at hv
   have a6:ao=j.toList.take (n*i.size):=by have h:=run_firstCells_some (P:=P) w i.size n ⟨b,0,nO⟩ n cap (j.toList.take (n*i.size)) (by simp;omega) am;rw[a5 w rfl]at h;simpa using h
   generalize ar:j.toList.take (n*i.size)++news++j.toList.drop (n*i.size+I news)=nw at ag;have au:I nw=j.size:=by rw[<-ar];simp only[ZHO,ZHZ,ZIh,Array.length_toList];omega
   have al:=setRow_heap w b j nw.toArray T (0,0) ad;have aj:∀c,c≠b->(w.setRow b nw.toArray).heap[c]?=w.heap[c]?:=λc hc=>setRow_other w b c _ hc;have ax:(w.setRow b nw.toArray).heap.size=w.heap.size:=by simp[World.setRow]
   have ba:n*i.size<=(n+m)*i.size:=ZH5 _ ω;have af:Ext g w (Zc8 g b ((n+m)*i.size)) (w.setRow b nw.toArray):=by
    refine⟨ω,λc=>?_,λc o ho=>?_,λc x hx=>?_,λc hc=>aj c (λh=>ae (h▸hc)),λc hc=>?_,rfl,rfl,rfl,rfl⟩;simp only[Zc8];split;rename_i h;rw[h,a0];exact ba;exact ZHV _;by_cases hc:c=b;subst hc;rw[Zbg al,Zbg ad];rw[a0]at ho;have:o<(j.toList.take (n*i.size)).length:=by simp;omega
    rw[List.getElem?_toArray,<-ar,ZIg,ZIc this,ZIm,if_pos ho];simp;exact J8 (aj c hc);by_cases hc:c=b;subst hc;simp only[hdr,ad]at hx;simp only[hdr,al,List.size_toArray,au];exact hx;rw[ZbY (aj c hc)];exact hx;simp only[Zc8];split;rename_i h;exact absurd hc (h▸ae);rfl
   have ay:(Zc8 g b ((n+m)*i.size)).prot b=(n+m)*i.size:=by simp[Zc8]
   refine⟨_,_,Zc8 g b ((n+m)*i.size),.tip b,ag,af,?_,hok,?_,λc _ hc=>?_,λc hc=>.inl hc⟩;refine⟨λc x hx=>?_,λc x hx=>?_,λc hc=>?_,λn cs hc=>(ah.tabs n cs hc).mono af⟩;by_cases hc:c=b;subst hc;simp only[St.own,ZIi,if_true,ZHE]at hx;subst hx;refine⟨ay,_,T,al,?_⟩;simp only[List.size_toArray,au];exact Nat.le_trans (ZH5 _ ab) av;simp only[St.own,ZIi,hc,if_false]at hx;exact(ah.obj c x hx).mono af (aj c hc) (by simp[Zc8,hc]);by_cases hc:c=b;rw[hc];exact ae;simp only[St.own,ZIi,hc,if_false]at hx;exact ah.kept c x hx;rw[ax]at hc;have hbl:b<w.heap.size:=(Array.getElem?_eq_some_iff.1 ad).1;simp only[Zc8,show ¬c=b by omega,if_false];exact ah.fresh c hc;refine Zo7 (ak.mono af) al ?_ ab (by simp only[List.size_toArray,au];exact av) ay hb';have a9:(ao++news).length=(n+m)*i.size:=ak.len;rw[<-ar,a6,<-a9,a6];exact List.take_left;have:c≠b:=λh=>hc (by rw[h]);exact⟨aj c this,by simp[Zc8,this]⟩
end
end Go.DL
namespace Go.DL
open Go Go.Lib
variable [Zsq]
def QK(s:Nat):D->Option (Nat×(Nat->List D))
 |.nilsl=>sO (0,λ_=>[])
 |.sl _ m s' row=>if s'=s then sO (m,row) else nO
 |.str l=>if s=1 then sO (I l,λi=>[.int .u8 ((l.getD i 0).toNat:Int)]) else nO
 |_=>nO
def Zbe(s:Nat):D->Option (Tok×Nat×(Nat->List D))
 |.nilsl=>sO (.full,0,λ_=>[])
 |.sl t n s' row=>if s'=s then sO (t,n,row) else nO
 |_=>nO
def Zhs{g w v d sz n t row}(h:Rep g w v d)(i:Zbe sz d=sO (t,n,row)):Rep g w v (.sl t n sz row):=by
 cases d<;>simp only[Zbe,reduceCtorEq]at i;simp only[ZHE,ZHR]at i;obtain⟨rfl,rfl,rfl⟩:=i;cases h;exact .sl0 _ _ _ _ ψ;split at i<;>simp only[ZHE,ZHR,reduceCtorEq]at i;rename_i j;obtain⟨rfl,rfl,rfl⟩:=i;subst j;exact h
section
variable {P:Program}
def ZcD{op e s b z x y}(h:ck P op=sO (.append e s b z x y)) :
  ∃x' y' args ats t1 t2 tu,op=.call ⟨.builtin .append,args,ats⟩/\args.toList=[x',y']/\ats[0]?=sO t1/\ats[1]?=sO t2/\P.underlying t1=sO (.slice e)/\P.underlying t2=sO tu/\(∀k,tu≠.int k) /\
   Z2 P e=sO s/\Za8 P e=sO z/\b=P.bytesOf e/\Z6 x'=sO x/\Z6 y'=sO y/\0<s/\I z=s:=by
 unfold ck at h;split at h;simp at h;split at h<;>(try(simp at h;done));all_goals (try(repeat' (split at h<;>(try(simp at h;done)))))
 all_goals
  simp only[ZHE,K.append.injEq]at h;obtain⟨rfl,rfl,rfl,rfl,rfl,rfl⟩:=h
 rename_i c _ _ j _ _ _ e' x' y' h0 n _ _ _ _ s' z' l' c' ab u ad ac t2 el h1 i;obtain⟨t1,g1,g2⟩:=Option.bind_eq_some_iff.1 h0;obtain⟨t3,g3,g4⟩:=Option.bind_eq_some_iff.1 h1;simp only[ZHN,decide_eq_true_eq]at i;obtain⟨t,args,ats⟩:=c;simp only at j;subst j;exact⟨x',y',args,ats,t1,t3,_,rfl,n,g1,g3,g2,g4,λk h=>by simp at h,ab,u,rfl,ad,ac,i.1,i.2⟩;rename_i c _ _ j _ _ _ e' x' y' h0 n _ _ _ _ s' z' l' c' ab u ad ac t2 h1 i;obtain⟨t1,g1,g2⟩:=Option.bind_eq_some_iff.1 h0;obtain⟨t3,g3,g4⟩:=Option.bind_eq_some_iff.1 h1;simp only[ZHN,decide_eq_true_eq]at i;obtain⟨t,args,ats⟩:=c;simp only at j;subst j;exact⟨x',y',args,ats,t1,t3,_,rfl,n,g1,g3,g2,g4,λk h=>by simp at h,ab,u,rfl,ad,ac,i.1,i.2⟩
def ZmS{g w v d sz m row}(h:Rep g w v d)(he:QK sz d=sO (m,row))(h0:0<sz):∃news,Ke g w sz m news row/\ZbS P w sz m v news:=by
 cases d with
 |nilsl =>simp only[QK,ZHE,ZHR]at he;obtain⟨rfl,rfl⟩:=he;cases h;exact⟨[],⟨ψ,λi hi=>by omega,λi j v d hi=>by omega,ψ⟩,λw2=>by simp[Builtin.lenOf],λw2 _=>by simp[Builtin.firstCells]⟩
 |sl t n s' row' =>simp only[QK]at he;split at he<;>simp only[ZHE,ZHR,reduceCtorEq]at he;rename_i hs;obtain⟨rfl,rfl⟩:=he;subst hs;exact ZiI h h0
 |str l =>
  simp only[QK]at he;split at he<;>simp only[ZHE,ZHR,reduceCtorEq]at he;rename_i hs;obtain⟨rfl,rfl⟩:=he;subst hs;cases h with
  |str s _ hl hb =>
   subst hl;have u:s.size=I s.data.toList:=by rw[Array.length_toList];rfl
   refine⟨strCells s,⟨by simp[strCells],λi hi=>rfl,λi j v d hi hj hv hd=>?_,λv hv=>by rw[<-ZdI];exact strCells_oneCell s v hv⟩,λw2=>by simp only[Builtin.lenOf,Sem.run_pure,u],λw2 _=>?_⟩;obtain rfl:j=0:=ω;simp only[Nat.mul_one,Nat.add_zero,strCells,List.getElem?_map,ZHS]at hv;obtain⟨b,z,rfl⟩:=hv;simp only[List.getElem?_cons_zero,ZHE]at hd;subst hd;have:s.data.toList.getD i 0=b:=by simp only[ZHU,z,ZIk]
   rw[this];exact .int .u8 _ (Ztk b);rw[<-u];exact run_firstCells_string w2 1 s
 |_=>simp[QK]at he
def Zqs{F:Fr P}{kp dk o os H L s}(hg:Zo H o.guard=sO true){e sz b z x y}(hk:o.k=.append e sz b z x y)
  {p q t n m row row2 dy dx} (hx:ZD H true x=sO (p,.d dx)) (hsl:Zbe sz dx=sO (t,n,row)) (hy:ZD H true y=sO (q,.d dy)) (hp:p) (hq:q) (hel:QK sz dy=sO (m,row2)) (hok:t.okIn s)
  (hb:(n+m)*b<=140737488355328) (hbig:n+m<=big) (h:∀t':Tok,t'.okIn s->DO F kp dk os (Zz H o.dst (.d (.sl t' (n+m) sz (YA n row row2)))) L (s.own t' ((n+m)*sz))) :
  DO F kp dk (o::os) H L (s.own t (n*sz)):=by
 refine Wz λoo g Z w tmps av i r k ak u ao ah hd hN M hr bb=>?_;have hw:=Yi M ao hg;have ay:=Yq u (by rw[hk];rfl);rw[hk]at u;obtain⟨x',y',ag,a9,t1,t2,tu,aj,ad,bh,bg,ar,ba,ax,au,hz,be,al,aw,h0,hzl⟩:=ZcD u;subst be;have ap:Rep g w _ (.sl t n sz row):=Zhs (Yf M al rfl hx hp F.ds) hsl;have az:Rep g w _ _:=Yf M aw rfl hy hq F.ds;obtain⟨zv,hz1,bc,hz3,ie,ac,am⟩:=JE (g:=g) (w:=w) hz;have ae:ie.size=sz:=by simpa[Z2,ac]using au
 have j:zv.cells.size=sz:=by have:=bc.len;simp at this;omega
 have a0:P.bytesOf e=ie.bytes:=by simp[Program.bytesOf,ac]
 rw[a0]at hb;obtain⟨news,bf,aq⟩:=ZmS (P:=P) az hel h0;obtain⟨v',w',g',t',a1,a2,a3,a4,a5,a6,a7⟩:=ZsA (ty:=oo.type) ar ba ax ac am ae j h0 M.st hok ap bf aq hb hbig;have ab:∀l cs,Zj L l=sO cs->t≠.tip (Z l):=λl cs hl ht=>by have:=M.locSt l cs hl;rw[ht]at this;simp[St.own,ZIi]at this
 have ai:∀l cs,Zj L l=sO cs->s (Z l)=nO:=λl cs hl=>by
  cases hx:s (Z l) with
  |none=>rfl
  |some o=>have:=YH (k:=n*sz) hok _ _ hx;rw[M.locSt l cs hl]at this;simp at this
 have mm:Zy g' Z w' tmps H L (s.own t' ((n+m)*sz)):=by
  refine⟨a3,λl cs hl=>(M.loc l cs hl).mono a2 (a6 (Z l) (M.loc l cs hl).lt (ab l cs hl)).1 (a6 (Z l) (M.loc l cs hl).lt (ab l cs hl)).2,λl cs hl=>by rw[a2.keptEq];exact M.locKept l cs hl,λl cs hl=>?_,M.inj,λt e he=>(M.env t e he).mono a2⟩;cases t' with
  |tip b =>
   have:¬Z l=b:=λhb=>by rcases a7 b rfl with h1|h1;exact ab l cs hl (by rw[hb];exact h1);have:=(M.loc l cs hl).lt;omega
   simp only[St.own,ZIi,this,if_false];exact ai l cs hl
  |_=>exact ai l cs hl
 refine YU hN ak ah hd hw ay (v:=v') (w':=w') (e:=.d (.sl t' (n+m) sz (YA n row row2))) ?_ a2 mm a5 (h t' a4 av r k hr bb);have a8:ag = #[x',y']:=by apply Array.ext';simpa using ad
 have af:∀vs,Builtin.append_ a9 oo.type vs=Builtin.append_ #[t1,t2] oo.type vs:=λvs=>by unfold Builtin.append_;simp[bh,bg]
 unfold execOp;simp only[aj,a8,resolve,invoke,builtin,Sem.run_bind,Sem.run_pure,Result.andThen_ok,List.map_toArray,ZHY,ZIf,af,a1]
def Znp{F:Fr P}{kp dk o fl os H L s B}(hg:Zo H o.guard=sO true){e sz b z x y}(hk:o.k=.append e sz b z x y)
  {p q t n m row row2 dy dx} (hx:ZD H true x=sO (p,.d dx)) (hsl:Zbe sz dx=sO (t,n,row)) (hy:ZD H true y=sO (q,.d dy)) (hp:p) (hq:q) (hel:QK sz dy=sO (m,row2)) (hok:t.okIn s)
  (hb:(n+m)*b<=140737488355328) (hbig:n+m<=big) (h:∀t':Tok,t'.okIn s->Wq fl (s.own t (n*sz)) (s.own t' ((n+m)*sz)) L L B/\DOA F kp dk os (Zz H o.dst (.d (.sl t' (n+m) sz (YA n row row2)))) L (s.own t' ((n+m)*sz)) (Wa fl B)) :
  DOA F kp dk ((o,fl)::os) H L (s.own t (n*sz)) B:=by
 refine Zbz (λe' s'=>∃t':Tok,t'.okIn s/\e'=.d (.sl t' (n+m) sz (YA n row row2))/\s'=s.own t' ((n+m)*sz)) (by rw[hk];rfl) (λH' L' os' i j=>?_) (λe2 s2 ⟨t',h1,h2,h3⟩=>by subst h2;subst h3;exact h t' h1);have h1:ZA H H' (ZV x):=λt ht=>i t (by simp[ZB,hk,Yl,ht]);have h2:ZA H H' (ZV y):=λt ht=>i t (by simp[ZB,hk,Yl,ht]);have h3:ZA H H' (ZbX o.guard):=λt ht=>i t (by simp[ZB,ht]);exact Zqs (by rw[Y4 h3];exact hg) hk (by rw[ZT h1];exact hx) hsl (by rw[ZT h2];exact hy) hp hq hel hok hb hbig λt' u=>j _ _ ⟨t',u,rfl,rfl⟩
end
end Go.DL
namespace Go.DL
open Go
variable [Zsq]
variable {kp:Option (List Nat)}{L:Loc}{H:Env}{s:St}{w:World}{os:List DOp}{ds:List D}{B:List (Nat × Rd)}{dst:Option Nat}{tmps:Array Value}{g:G}{Φ:Res->St->Prop}{Z:Nat->Nat}{xs:List Opd}{side:Prop}{row:Nat->List D}
def Zxw(os:List DOp):List (DOp×List Nat):=os.map λo=>(o,[])
section
variable {P:Program}
def Jn(F:Fr P)(kp:Option (List Nat))(dk:List KH)(os:List DOp)(H:Env)(L:Loc)(s:St):Prop:=∀B,DOA F kp dk (Zxw os) H L s B
def Zv5{F:Fr P}{i os ks dk H L s}(h:Jn F ks dk os H L s):ZC F (.code (.regD i (Zxw os) ks)::dk) H L s:=Zjm (h [])
def YT{F:Fr P}{ks dk}:∀{os H L s},
  ZjE (λH L s=>ZC F dk (Yx H ks) (ZbD (Yx H ks) L) s) (λos H L s=>Jn F (sO ks) dk os H L s) os H L s->Jn F (sO ks) dk os H L s
 | [],H,L,s,h=>λB=>Zpm h
 |o::os,H,L,s,h=>by intro B;simp only[ZjE]at h;split at h;rename_i j H' L' s' i;refine JR i h.1 ?_;split;exact YT h.2 _;exact⟨ZbE,YT h.2 _⟩;rename_i j pre H' s' i;exact Zpl i h.1 λb n=>⟨ZbE,YT (h.2 b n) _⟩;exact h B
def Zno{F:Fr P}{kp dk o os H L s}(hg:Zo H o.guard=sO true){u xs}(hk:o.k=.call u xs){p q t es ds}(hf:ZD H true u=sO (q,.d t))(z:Yg H true xs=sO (p,es))(n:Kk es=sO ds)(hp:p)(hq:q){Ψ}(hc:Ki P t ds s Ψ)(i:∀d s',Ψ (.ret d) s'->Jn F kp dk os (Zz H o.dst (.d d)) L s')(j:∀d s',Ψ (.panic d) s'->Wk F [] [] d s'):Jn F kp dk (o::os) H L s :=
 λB=>Zed hg hk hf z n hp hq hc (λd s' h=>⟨ZbE,i d s' h _⟩) j
def ZxD{F:Fr P}{kp dk o os H L s}(hg:Zo H o.guard=sO true){u xs}(hk:o.k=.call u xs){p q t first caps es ds}(hf:ZD H true u=sO (q,.d (.fn (.func t) first caps)))(z:Yg H true xs=sO (p,es))(n:Kk es=sO ds)(hp:p)(hq:q){Ψ}(hc:Ze P t (first++ds++caps) s Ψ)(i:∀d s',Ψ (.ret d) s'->Jn F kp dk os (Zz H o.dst (.d d)) L s')(j:∀d s',Ψ (.panic d) s'->Wk F [] [] d s'):Jn F kp dk (o::os) H L s :=
 Zno hg hk hf z n hp hq hc.V i j
def Zv0{F:Fr P}{kp dk o os H L s}(u:Zo H o.guard=sO true){x}(n:o.k=.panic x){p t d}(i:ZD H true x=sO (p,.d (.iface t d)))(j:p)(h:Wk F [] [] (.iface t d) s):Jn F kp dk (o::os) H L s:=λ_=>Zqr u n i j h
def Zv1{F:Fr P}{kp dk o os H L s}(hg:Zo H o.guard=sO true){n xs}(hk:o.k=.call n xs){p q j first caps es ds}(hf:ZD H true n=sO (q,.d (.fn (.func j) first caps)))(t:Yg H true xs=sO (p,es))(i:Kk es=sO ds)(z:p)(u:q){d}(hc:Zc P j (first++ds++caps) d)(h:Jn F kp dk os (Zz H o.dst (.d d)) L s):Jn F kp dk (o::os) H L s:=λ_=>Zjk hg hk hf t i z u hc (h _)
def Zl2{F:Fr P}{kp dk o os H L s c}(hg:Zo H o.guard=sO c){n xs}(hk:o.k=.call n xs){p q j first caps es ds}(u:ZD H c n=sO (q,.d (.fn (.func j) first caps)))(t:Yg H c xs=sO (p,es))(i:Kk es=sO ds){d}(z:c=true->p/\q/\Zc P j (first++ds++caps) d)(h:Jn F kp dk os (Zz H o.dst (.when c (.d d))) L s):Jn F kp dk (o::os) H L s:=λ_=>Znq hg hk u t i z (h _)
def Zuq{F:Fr P}{kp dk o os H L s}(hg:Zo H o.guard=sO true){e sz b z x y}(hk:o.k=.append e sz b z x y){p q t n m row row2 dy dx}(hx:ZD H true x=sO (p,.d dx))(hsl:Zbe sz dx=sO (t,n,row))(hy:ZD H true y=sO (q,.d dy))(hp:p)(hq:q)(hel:QK sz dy=sO (m,row2))(hok:t.okIn s)(hb:(n+m)*b<=140737488355328)(j:n+m<=big)(h:∀u:Tok,u.okIn s->Jn F kp dk os (Zz H o.dst (.d (.sl u (n+m) sz (YA n row row2)))) L (s.own u ((n+m)*sz))):
  Jn F kp dk (o::os) H L (s.own t (n*sz)):=λ_=>Znp hg hk hx hsl hy hp hq hel hok hb j λu i=>⟨ZbE,h u i _⟩
end
def JB(l b:Nat):E->E
 |.d v=>.d v
 |.loc l' off=>if l'=l then .d (.ptr b off) else .loc l' off
 |.when c e=>.when c (JB l b e)
def Zal(l b:Nat):Env->Env
 | []=>[]
 | (t,e)::r=>(t,JB l b e)::Zal l b r
def delL(l:Nat):Loc->Loc
 | []=>[]
 | (k,c)::r=>if k=l then delL l r else (k,c)::delL l r
def Zd2(l b):∀(H t),ZS (Zal l b H) t=(ZS H t).map (JB l b)
 | [],t=>rfl
 | (k,e)::r,t=>by simp only[Zal,ZS];by_cases h:k=t;simp[h];simp only[h,if_false];exact Zd2 l b r t
def ZdA(l):∀(L x),Zj (delL l L) x=if x=l then nO else Zj L x
 | [],x=>by simp[delL,Zj]
 | (k,c)::r,x=>by simp only[delL];by_cases h:k=l;simp only[h,if_true,Zj,ZdA l r x];by_cases i:x=l;simp[i];simp[i,show ¬l=x from λh=>i h.symm];simp only[h,if_false,Zj,ZdA l r x];by_cases i:x=l;subst i;simp[h];simp[i]
section
variable {P:Program}
def ZP.expose{g Z w L l v e}(h:ZP g Z w L v e):ZP g Z w (delL l L) v (JB l (Z l) e):=by
 induction e with
 |d x=>exact h
 |loc l' off =>obtain⟨⟨t,i⟩,rfl⟩:=h;simp only[JB];split;rename_i j;subst j;exact Rep.ptr _ _;rename_i j;exact⟨⟨t,by rw[ZdA,if_neg j];exact i⟩,rfl⟩
 |when c e ih=>exact⟨λn=>ih (h.1 n),h.2⟩
def Zy.expose{g Z w tmps H L s}(m:Zy g Z w tmps H L s){l cs}(z:Zj L l=sO cs):
  s (Z l)=nO/\Zy g Z w tmps (Zal l (Z l) H) (delL l L) (s.upd (Z l) (.cells cs)):=by
 have j:∀u i,Zj (delL l L) u=sO i->u≠l/\Zj L u=sO i:=λu i h=>by rw[ZdA]at h;split at h;simp at h;exact⟨‹_›,h⟩
 refine⟨m.locSt l cs z,⟨m.st.updL (o:=.cells cs) (m.loc l cs z) (m.locKept l cs z),λu i h=>m.loc u i (j u i h).2,λu i h=>m.locKept u i (j u i h).2,λu i h=>?_,λa b ca cb ha hb n=>m.inj a b ca cb (j a ca ha).2 (j b cb hb).2 n,λt e he=>?_⟩⟩;obtain⟨h1,h2⟩:=j u i h;have:Z u≠Z l:=λhh=>h1 (m.inj u l i cs h2 z hh);simp only[ZIi,this,if_false];exact m.locSt u i h2;rw[Zd2]at he;simp only[ZHS]at he;obtain⟨e0,h1,rfl⟩:=he;exact(m.env t e0 h1).expose
def ZdX{F:Fr P}{dk}{H}{L}{s}(l){cs}(j:Zj L l=sO cs)(h:∀b,s b=nO->ZC F dk (Zal l b H) (delL l L) (s.upd b (.cells cs))):ZC F dk H L s:=by
 intro k u g Z w tmps i m;obtain⟨n,t⟩:=m.expose j;exact h (Z l) n k u g Z w tmps i t
def WT:List Nat->List D->Env->Env
 |t::ts,a::as9,H=>WT ts as9 ((t,.d a)::H)
 |_,_,H=>H
def Zkj(P:Program)(c:Frame)(cs:List Frame)(Φ:Res->St->Prop):Zv8 P where
 T g w m:=∃e w',Zhn g w Φ e w'/\ZB3 P m c cs e w'
 back g w m m' hs h:=by
  obtain⟨e,w',a,b⟩:=h;refine⟨e,w',a,?_⟩;cases e with
  |returned v=>exact Steps.trans hs b
  |panicked ch=>exact Steps.trans hs b
  |outgrown=>exact b.elim
 ext g w g' w' m hx h:=by obtain⟨e,w2,⟨g2,s2,r,d1,d2,d3,d4⟩,b⟩:=h;exact⟨e,w2,⟨g2,s2,r,hx.trans d1,d2,d3,d4⟩,b⟩
def ZbK(P:Program)(an:Ann)(fn:FuncId)(N l:Nat)(c:Frame)(cs:List Frame)(Φ:Res->St->Prop):Fr P where
 T:=Zkj P c cs Φ
 b:={ (dE:Frame) with fn,kind:=.normal,roundOf:=sO l }
 cs:=c::cs
 N:=N
 ds:=[]
 an:=an
def Qu(F:Fr P)(l:Nat)(Φ:Res->St->Prop):Prop:=∃an fn N c cs,F=ZbK P an fn N l c cs Φ
def JO{w r o}(i:w.heap[r]?=sO (.loop o)):(getObj r).run P w=.ok (.loop o) w:=by
 simp[getObj,Sem.run,i]
def Zdf{w r o o'}(hb:w.heap[r]?=sO (.loop o')):(setObj r o).run P w=.ok () { w with heap:=w.heap.setIfInBounds r o }:=by
 simp[setObj,Sem.run,hb]
def ZCS{b o'}{o}(hb:w.heap[b]?=sO o'):({ w with heap:=w.heap.setIfInBounds b o }:World).heap[b]?=sO o:=by
 have:=(Array.getElem?_eq_some_iff.1 hb).1;simp[Array.getElem?_setIfInBounds,this]
def Zy.loopTo{g Z w tmps H L s}(m:Zy g Z w tmps H L s){l r st st'}(hs:s l=sO (.loop r st)){lp}(hh:w.heap[l]?=sO (.loop lp))(lp')(h1:lp'.fn=lp.fn/\lp'.params=lp.params/\lp'.assign=lp.assign/\lp'.body=lp.body/\lp'.defers=lp.defers/\lp'.tmps=lp.tmps)(h2:match st' with|.ready=>lp'.state=.ready/\lp'.pending=nO|.busy=>lp'.state=.busy|.done j=>lp'.state=.done/\lp'.pending=sO j):
  Ext g w g { w with heap:=w.heap.setIfInBounds l (.loop lp') }/\Zy g Z { w with heap:=w.heap.setIfInBounds l (.loop lp') } tmps H L (s.upd l (.loop r st')):=by
 obtain⟨hp,l0,a1,a2,a3,a4,a5,a6,a7,a8,a9⟩:=m.st.obj l _ hs;rw[hh]at a1;simp only[ZHE,Obj.loop.injEq]at a1;subst a1;obtain⟨b1,b2,b3,b4,b5,b6⟩:=h1;have he:=Zc0 (g:=g) (w:=w) l (.loop lp') (by simp[hdr,hh]) hp (m.st.kept l _ hs);refine⟨he,m.named hs he ψ (λc hc=>Zaj hc) ⟨hp,lp',ZCS hh,by rw[b1,a2],by rw[b2,a3],by rw[b3,a4],by rw[b4,a5],by rw[b5,a6],by rw[b6];exact a7,λt e ht=>by rw[b6];exact(a8 t e ht).mono he,h2⟩⟩
def Qu.begin{F:Fr P}{l Φ}(z:Qu F l Φ){dk H L s r}(j:s l=sO (.loop r .ready))(h:ZC F dk H L (s.upd l (.loop r .busy))):ZC F (.beginR::dk) H L s:=by
 obtain⟨an,fn,N,c,n,rfl⟩:=z;intro k u;cases u with
 |beginR ht =>
  intro g Z w tmps hN m;obtain⟨hp,t,a1,a2,a3,a4,a5,a6,a7,a8,a9,a10⟩:=m.st.obj l _ j;obtain⟨he,m'⟩:=m.loopTo (st':=.busy) j a1 { t with state:=.busy } ⟨rfl,rfl,rfl,rfl,rfl,rfl⟩ rfl;have i:(Instr.beginRound l).run P w=.ok () { w with heap:=w.heap.setIfInBounds l (.loop { t with state:=.busy }) }:=by simp[Instr.beginRound,Instr.getLoop,JO a1,Zdf a1,a9]
  refine(Zkj P c n Φ).back _ _ _ _ (.one (stepR_beginRound rfl i)) ?_;exact(Zkj P c n Φ).ext _ _ _ _ _ he (h _ ht g Z _ tmps hN m')
def Zfz{w l l0}(h:w.heap[l]?=sO (.loop l0))(j):
  (Instr.endRound l j).run P w=.ok (.bool j.isNone) { w with heap:=w.heap.setIfInBounds l (.loop { l0 with state:=if j.isNone then .ready else .done,pending:=j }) }:=by
 simp[Instr.endRound,Instr.getLoop,JO h,Zdf h]
def Qu.fin{F:Fr P}{l Φ}(u:Qu F l Φ){H L s s' r}(j:s l=sO (.loop r .busy))(i:s'.sub (s.upd l (.loop r .ready)))(hΦ:Φ (.ret (.bool true)) s'):ZC F [] H L s:=by
 obtain⟨an,fn,N,c,cs,rfl⟩:=u;intro k t;cases t;intro g Z w tmps hN m;obtain⟨hp,n,a1,_⟩:=m.st.obj l _ j;obtain⟨z,m'⟩:=m.loopTo (st':=.ready) j a1 { n with state:=.ready,pending:=nO } ⟨rfl,rfl,rfl,rfl,rfl,rfl⟩ ⟨rfl,rfl⟩;exact⟨.returned (.bool true),_,⟨g,s',.ret (.bool true),z,m'.st.sub i,.bool true,hΦ⟩,.one (stepR_round_end rfl rfl (Zfz a1 nO))⟩
def Qu.ret{F:Fr P}{l Φ}(u:Qu F l Φ){dk H L s s' r}(j:s l=sO (.loop r .busy))(i:s'.sub (s.upd l (.loop r (.done .ret))))(hΦ:Φ (.ret (.bool false)) s'):
  ZC F (.code .ret::dk) H L s:=by
 obtain⟨an,fn,N,c,cs,rfl⟩:=u;intro k t;cases t with
 |code hc ht =>obtain rfl:=ZsH hc;intro g Z w tmps hN m;obtain⟨hp,n,a1,_⟩:=m.st.obj l _ j;obtain⟨z,m'⟩:=m.loopTo (st':=.done .ret) j a1 { n with state:=.done,pending:=sO .ret } ⟨rfl,rfl,rfl,rfl,rfl,rfl⟩ ⟨rfl,rfl⟩;exact⟨.returned (.bool false),_,⟨g,s',.ret (.bool false),z,m'.st.sub i,.bool false,hΦ⟩,.one (stepR_round_ret rfl rfl (Zfz a1 (sO .ret)))⟩
def Qu.exit{F:Fr P}{l id Φ}(z:Qu F l Φ){dk H L s s' r}(n:Ji id dk=nO)(j:s l=sO (.loop r .busy))(i:s'.sub (s.upd l (.loop r (.done (.exit id)))))(hΦ:Φ (.ret (.bool false)) s'):ZC F (.code (.exit id)::dk) H L s:=by
 obtain⟨an,fn,N,c,cs,rfl⟩:=z;intro k u;cases u with
 |code hc ht =>obtain rfl:=Zvi hc;intro g Z w tmps hN m;obtain⟨hp,t,a1,_⟩:=m.st.obj l _ j;obtain⟨he,m'⟩:=m.loopTo (st':=.done (.exit id)) j a1 { t with state:=.done,pending:=sO (.exit id) } ⟨rfl,rfl,rfl,rfl,rfl,rfl⟩ ⟨rfl,rfl⟩;exact⟨.returned (.bool false),_,⟨g,s',.ret (.bool false),he,m'.st.sub i,.bool false,hΦ⟩,.one (stepR_round_exit rfl rfl (ZbB ht n) (Zfz a1 (sO (.exit id))))⟩
def Qu.pan{F l Φ}(hF:Qu F l Φ){H L d s s'}(j:s'.sub s)(hΦ:Φ (.panic d) s')(u:∀an n N c t,F=ZbK P an n N l c t Φ->∃f,P.funcs[n]?=sO f):Wk F H L d s:=by
 obtain⟨an,n,N,c,t,rfl⟩:=hF;intro g Z w v i tmps hN m hr;obtain⟨f,z⟩:=u an n N c t rfl;refine⟨.panicked [{ v,recovered:=false }],w,⟨g,s',.panic d,Ext.refl g w,m.st.sub j,⟨v,rfl,hr⟩,hΦ⟩,.one ?_⟩;exact step_leave_panicked (P:=P) (fr:={ (ZbK P an n N l c t Φ).b.atR ⟨tmps,[]⟩ i with mode:=.panicking [{ v,recovered:=false }] }) ⟨rfl,rfl,f,z⟩
def ZiC{g Z w L s N}:∀{ps ds vs tmps H},Zy g Z w tmps H L s->ZO (Rep g w) vs ds->I ds=I ps->(∀t∈ps,t<N)->N<=tmps.size ->
  N<=((ps.zip vs).foldl (λtmps (x:Nat×Value)=>tmps.setIfInBounds x.1 x.2) tmps).size/\Zy g Z w ((ps.zip vs).foldl (λtmps (x:Nat×Value)=>tmps.setIfInBounds x.1 x.2) tmps) (WT ps ds H) L s
 | [],_,_,tmps,H,m,_,_,_,hN=>by simpa[WT]using⟨hN,m⟩
 |t::ps,[],_,tmps,H,m,_,hl,_,_=>by simp at hl
 |t::ps,d::ds,v::vs,tmps,H,m,.cons h1 h2,hl,hp,hN=>by have i:=m.put (t:=t) (v:=v) (e:=.d d) (by have:=hp t ψ;omega) h1;simpa[WT]using ZiC i h2 (by simpa using hl) (λu j=>hp u (by simp[j])) (by simpa using hN)
def Jk:Env->Env
 | []=>[]
 | (t,e)::r=>if (Kq e).isEmpty then (t,e)::Jk r else Jk r
def Kc(ks:List Nat)(H:Env):Env:=Jk (Yx H ks)
def Ze0:∀{H t e},(H.map (·.1)).Nodup->ZS (Jk H) t=sO e->ZS H t=sO e/\Kq e=[]
 | [],t,e,_,h=>by simp[Jk,ZS]at h
 | (k,x)::r,t,e,hn,h=>by
  simp only[ZHY,List.nodup_cons]at hn;simp only[Jk]at h;split at h;rename_i u;simp only[ZS]at h⊢;by_cases j:k=t;simp only[j,if_true,ZHE]at h⊢;subst h;exact⟨rfl,by simpa using u⟩;simp only[j,if_false]at h⊢;exact Ze0 hn.2 h;obtain⟨n,z⟩:=Ze0 hn.2 h;refine⟨?_,z⟩;have i:k≠t:=λj=>by subst j;have:=Zg1 n;exact hn.1 (List.mem_map.2 ⟨_,this,rfl⟩)
  simp only[ZS,i,if_false];exact n
def ZoI{g Z Z' w L L' v e}(h:ZP g Z w L v e)(i:Kq e=[]):ZP g Z' w L' v e:=by
 induction e with
 |d x=>exact h
 |loc l o=>simp[Kq]at i
 |when c e ih=>exact⟨λj=>ih (h.1 j) i,h.2⟩
def Fr.mark(F:Fr P)(q:Nat):Fr P:={ F with ds:=DD.def (.mark q)::F.ds }
def ZhV{b:Frame}{a k cs w g ps assign body l mark w₁ d nx fr}(he:(Instr.enterLoop b.fn a.tmps ps assign body b.roundOf).run P w=.ok (l,mark) w₁)(hres:(Deferred.ofValue (a.eval g) #[.func (.yield l) #[] #[]]).run P w₁=.ok d w₁)(hinv:(invoke d.target d.args).run P w₁=.ok nx w₁)(hnx:Zgx P nx=sO fr):
  step P (lone (b.atR a (.code (.rangeFunc g ps assign body)::k)) cs w) =
   .next (lone fr (b.atR { a with defers:=mark++a.defers } (.inRangeFunc l::k)::cs) w₁) :=
 step_lone_go (by
  have j:=Frame.eval_atR b { a with defers:=mark++a.defers } (.inRangeFunc l::k);simp only[Frame.atR]at j;have i:Sem.run P (resolve ({ tmps:=a.tmps,defers:=mark++a.defers }:Act).eval { callee:=.value g,args:=#[.const (.func (.yield l) #[] #[])],argTypes:=#[] } 0) w₁=.ok d w₁:=by
   simp only[resolve];have e1:({ tmps:=a.tmps,defers:=mark++a.defers }:Act).eval g=a.eval g:=by cases g<;>rfl
   have e2:Array.map ({ tmps:=a.tmps,defers:=mark++a.defers }:Act).eval #[Operand.const (Value.func (Fn.yield l) #[] #[])] = #[.func (.yield l) #[] #[]]:=by simp[Act.eval]
   rw[e1,e2];exact hres
  cases nx<;>simp only[Zgx,ZHE,reduceCtorEq]at hnx<;>subst hnx <;>
   simp[stepG,stepG.exec,Frame.atR,Sem.runT_eq,he,GStep.bare_after,stepG.apply,j,Sem.run_bind,i,hinv,Result.andThen])
def Zjr(F:Fr P)(l:Nat)(r:ZcB)(dk:List KH)(H:Env)(L:Loc)(s':St):Prop :=
 (s' l=sO (.loop r .ready)/\ZC F dk H L (s'.del l))\/∃j dj,s' l=sO (.loop r (.done j))/\cc P F.an F.N j=sO dj/\ZC F (.code dj::dk) H L (s'.del l)
def Zl4{w l l0}(h:w.heap[l]?=sO (.loop l0))(hb:l0.state≠.busy):
  (Instr.endLoop l).run P w=.ok l0.pending { w with heap:=w.heap.setIfInBounds l (.loop { l0 with state:=.exhausted }) }:=by
 have:(l0.state==.busy)=false:=by cases hs:l0.state<;>first|rfl|exact absurd hs hb
 simp[Instr.endLoop,Instr.getLoop,JO h,Zdf h,hb]
def ZoH{F:Fr P}{l r dk k H L g Z w tmps s'}(hk:WN P F.an F.N k dk)(hN:F.N<=tmps.size)(m:Zy g Z w tmps H L s')(h:Zjr F l r dk H L s'):F.T.T g w (lone (F.b.atR ⟨tmps,F.ds⟩ (.endRangeFunc l::k)) F.cs w):=by
 rcases h with ⟨t,h⟩|⟨j,dj,t,hj,h⟩;obtain⟨hp,u,a1,a2,a3,a4,a5,a6,a7,a8,a9,n⟩:=m.st.obj l _ t;have z:=Zc0 (g:=g) (w:=w) l (.loop { u with state:=.exhausted }) (by simp[hdr,a1]) hp (m.st.kept l _ t);have m':=m.drop t z ψ (λc hc=>Zaj hc);have i:(Instr.endLoop l).run P w=.ok nO { w with heap:=w.heap.setIfInBounds l (.loop { u with state:=.exhausted }) }:=by rw[Zl4 a1 (by rw[a9];simp)];simp[n]
 refine F.T.back _ _ _ _ (.one (stepR_endRangeFunc i)) ?_;exact F.T.ext _ _ _ _ _ z (h k hk g Z _ tmps hN m');obtain⟨hp,u,a1,a2,a3,a4,a5,a6,a7,a8,a9,n⟩:=m.st.obj l _ t;have z:=Zc0 (g:=g) (w:=w) l (.loop { u with state:=.exhausted }) (by simp[hdr,a1]) hp (m.st.kept l _ t);have m':=m.drop t z ψ (λc hc=>Zaj hc);have i:(Instr.endLoop l).run P w=.ok (sO j) { w with heap:=w.heap.setIfInBounds l (.loop { u with state:=.exhausted }) }:=by rw[Zl4 a1 (by rw[a9];simp)];simp[n]
 refine F.T.back _ _ _ _ (.one (stepR_endRangeFunc i)) ?_;exact F.T.ext _ _ _ _ _ z (h _ (.code hj hk) g Z _ tmps hN m')
def Y0.mark{F:Fr P}{rs Φ dds}(n:Y0 F rs Φ dds)(q):Y0 (F.mark q) rs Φ (.mark q::dds):=by
 obtain⟨an,f,df,t,j,i,rfl⟩:=n;exact⟨an,f,df,t,j,i,rfl⟩
def Y0.roundOf{F:Fr P}{rs Φ dds}(i:Y0 F rs Φ dds):F.b.roundOf=nO:=by
 obtain⟨an,f,df,cs,hf,hrs,rfl⟩:=i;rfl
end
section
variable {P:Program}
def ZxT{op f xs}(h:ck P op=sO (.defer f xs)):∃u n t,op=.defer ⟨.value u,n,t⟩/\Z6 u=sO f/\ZcX n.toList=sO xs:=by
 unfold ck at h;split at h;simp at h;split at h<;>(try(simp at h;done));all_goals (try(repeat' (split at h<;>(try(simp at h;done)))))
 simp at h;obtain⟨rfl,rfl⟩:=h;rename_i c _ _ u i _ _ f xs z j;obtain⟨callee,n,t⟩:=c;simp only at i;exact⟨u,n,t,by rw[i],z,j⟩
def Fr.defer(F:Fr P)(i:FuncId)(args caps:List D):Fr P:={ F with ds:=DD.def (.fn i args caps)::F.ds }
def Y0.defer{F:Fr P}{rs Φ dds}(t:Y0 F rs Φ dds)(i args caps):Y0 (F.defer i args caps) rs Φ (.fn i args caps::dds):=by
 obtain⟨an,f,df,u,n,j,rfl⟩:=t;exact⟨an,f,df,u,n,j,rfl⟩
def Zmy{F:Fr P}(hround:F.b.roundOf=nO){kp dk o os H L s}(hg:o.guard=nO)(hdn:o.dst=nO){fx xs}(hk:o.k=.defer fx xs){p q i first caps es ds}(hf:ZD H true fx=sO (q,.d (.fn (.func i) first caps)))(ha:Yg H true xs=sO (p,es))(hds:Kk es=sO ds)(hp:p)(hq:q)(hr1:Zb5 (first++ds))(hr2:Zb5 caps)(h:DO (F.defer i (first++ds) caps) kp dk os H L s):DO F kp dk (o::os) H L s:=by
 refine Wz λoo g Z w tmps n j r k ae z aq ac hd hN m hr am=>?_;have hw:=Yi m aq (c:=true) (by rw[hg];rfl);rw[hk]at z;obtain⟨f',args,ats,al,aj,ak⟩:=ZxT z;have ag:Rep g w _ _:=Yf m aj rfl hf hq F.ds;have t:=Qp (ZcH m rfl F.ds ak ha hp) hds;generalize ao:(Act.mk tmps F.ds).eval f'=fv at ag;cases ag with
 |fn _ fs cs' _ _ hn1 hn2 h1 h2 =>
 obtain⟨ap,af,_,ha2⟩:=ZcJ hr1;obtain⟨vs,ad,_,hv2⟩:=ZcJ hr2;have e1:fs++args.toList.map (Act.mk tmps F.ds).eval=ap:=ZlG ((Yo hn1 h1).append t) af;have e2:cs'=vs:=ZlG (Yo hn2 h2) ad;have hmap:(Array.map (Act.mk tmps F.ds).eval args)=(args.toList.map (Act.mk tmps F.ds).eval).toArray:=by apply Array.ext';simp
 have ai:DD.def (.fn i (first++ds) caps)={ target:=.fn (.func i) cs'.toArray,args:=fs.toArray++(args.toList.map (Act.mk tmps F.ds).eval).toArray }:=by simp only[DD.def,ad,af,e2,<-e1];simp
 have ab:(execOp (Act.mk tmps F.ds).eval oo).run P w=.ok (.defer (DD.def (.fn i (first++ds) caps))) w:=by rw[ai];simp[execOp,al,resolve,ao,Deferred.ofValue]
 have u:step P (lone (F.b.atR ⟨tmps,F.ds⟩ (.inRegion n (j::r)::k)) F.cs w)=.next (lone (F.b.atR ⟨tmps,(F.defer i (first++ds) caps).ds⟩ (.inRegion n r::k)) F.cs w):=by
  refine step_lone_go ?_;rw[stepGR_op ae hw,hround,Oper.semAt_none];have ah:(F.b.atR ⟨tmps,(F.defer i (first++ds) caps).ds⟩ (.inRegion n (j::r)::k)).finish undef=F.b.atR ⟨tmps,(F.defer i (first++ds) caps).ds⟩ (.inRegion n r::k):=by rw[Frame.finish_atR,ae];simp[Act.put,ac,hdn]
  rw[<-ah];simp[stepG.apply,ab,Frame.atR,Fr.defer]
 refine F.T.back _ _ _ _ (.one u) ?_;exact h n r k hr am g Z w tmps hN m
def Zkh:D->Prop
 |.iface _ (.agg cs)=>Zb5 cs
 |.iface _ d=>ZfU d
 |_=>False
def Zra{d}(h:Zkh d):∃v,(∀g w,Rep g w v d)/\∀g w j,Rep g w j d->j=v:=by
 cases d<;>simp[Zkh]at h;rename_i t d;by_cases hd:∃z,d=.agg z
 .obtain⟨z,rfl⟩:=hd;obtain⟨vs,u,h2,i⟩:=ZcJ h;refine⟨.iface t (.agg vs.toArray),λg w=>.iface t _ _ (.agg vs z (i g w).len (i g w).get h2),λg w j n=>?_⟩;cases n with
  |iface _ v _ hv =>
   cases hv with
   |agg vs' _ hn hg _=>rw[ZlG (Yo hn hg) u]
 have h':ZfU d:=by cases d<;>simp at h<;>first|exact h|exact absurd ⟨_,rfl⟩ hd
 obtain⟨v,u,h2,i⟩:=Zq9 h';refine⟨.iface t v,λg w=>.iface t _ _ (i g w),λg w j n=>?_⟩;cases n with
 |iface _ v'' _ hv=>rw[ZvV hv u]
def Jz(m:Option D)(v:Value)(rec:Bool):FrameMode :=
 match m with
 |none=>.returning
 |some _=>.panicking [{ v,recovered:=rec }]
def Zfh(P:Program)(cf:Frame)(cs:List Frame)(Ψ:Bool->St->Prop):Zv8 P where
 T g w m:=∃g' w' s' b,Ext g w g' w'/\Yp g' s' w'/\Ψ b s'/\Steps P m (lone { cf with mode:=if b then .returning else cf.mode } cs w')
 back g w m m' hs h:=let ⟨g',w',s',b,a1,a2,a3,a4⟩:=h;⟨g',w',s',b,a1,a2,a3,Steps.trans hs a4⟩
 ext g w g' w' m hx h:=let ⟨g2,w2,s',b,a1,a2,a3,a4⟩:=h;⟨g2,w2,s',b,hx.trans a1,a2,a3,a4⟩
def Wn(P:Program)(an:Ann)(f:FuncId)(N:Nat)(cf:Frame)(cs:List Frame)(Ψ:Bool->St->Prop)(m:Option D)(v:Value)(rec:Bool):Fr P where
 T:=Zfh P cf cs Ψ
 b:={ (dE:Frame) with fn:=f,kind:=.deferred,roundOf:=nO }
 cs:={ cf with mode:=Jz m v rec }::cs
 N:=N
 ds:=[]
 an:=an
def ZaW(F:Fr P)(m:Option D)(Ψ:Bool->St->Prop)(rec:Bool):Prop :=
 ∃an f df cf cs v,Go.DL.cf P an f=sO df/\df.res=[]/\cf.mode=Jz m v false/\(∀d,m=sO d->∀g w,Rep g w v d)/\F=Wn P an f df.n cf cs Ψ m v rec
def ZcO{an i N rs b}(hf:cf P an i=sO ⟨N,rs,b⟩)(hres:rs=[]){args m s Ψ}(hm:∀d,m=sO d->Zkh d)(h:∀F:Fr P,ZaW F m Ψ false->ZC F [.code b] (Qw 0 args) [] s):Zap P i args m s Ψ:=by
 have ae:=hf;unfold cf at hf;split at hf<;>(try(simp at hf;done));rename_i fn ac;split at hf<;>(try(simp at hf;done));rename_i c hc;split at hf<;>(try(simp at hf;done));rename_i u;split at hf<;>simp at hf;rename_i rs d hrs hd;obtain⟨rfl,rfl,rfl⟩:=hf;refine⟨⟨fn,ac,by simp[hc],by simpa using u⟩,λg w vs j cs hs ha n=>?_⟩;obtain⟨v,z,af⟩:∃v,j.mode=Jz m v false/\∀d,m=sO d->∀g w,Rep g w v d:=by
  cases m with
  |none=>exact⟨undef,n,λd hd=>by simp at hd⟩
  |some d =>obtain⟨v,h1,h2⟩:=n;obtain⟨v',r1,r2⟩:=Zra (hm d rfl);have:=r2 g w v h2;subst this;exact⟨v,h1,λd' ab=>by simp only[ZHE]at ab;subst ab;exact r1⟩
 have ad:({ j with mode:=Jz m v false }:Frame)=j:=by rw[<-z]
 have t:Frame.enter P i vs.toArray .deferred=(Wn P an i fn.ntmps j cs Ψ m v false).b.atR { tmps:=vs.toArray++Array.replicate (fn.ntmps-I vs) undef,defers:=[] } [.code c]:=by simp[Frame.enter,Frame.atR,ac,hc,Wn]
 have:=h _ ⟨an,i,_,j,cs,v,ae,hres,z,af,rfl⟩ [.code c] (.code hd .nil) g (λ_=>0) w (vs.toArray++Array.replicate (fn.ntmps-I vs) undef) (by simp[Wn];omega) (Zg2 hs ha);obtain⟨g',w',s',b,a1,a2,a3,a4⟩:=this;refine⟨g',w',s',b,a1,a2,a3,?_⟩;rw[t];have ag:(Wn P an i fn.ntmps j cs Ψ m v false).cs=j::cs:=by simp only[Wn,ad]
 rw[ag]at a4;exact a4
def ZaW.end{F:Fr P}{m Ψ rec}(hF:ZaW F m Ψ rec){H L s s'}(hs:s'.sub s)(hΨ:Ψ (m.isNone ||rec) s'){todo g Z w tmps}(M:Zy g Z w tmps H L s):F.T.T g w (lone { F.b.atR ⟨tmps,F.ds⟩ todo with mode:=.returning } F.cs w):=by
 obtain⟨an,f,df,i,cs,v,hf,u,j,hrep,rfl⟩:=hF;unfold cf at hf;split at hf<;>(try(grind;done));rename_i fn ac;split at hf<;>(try(grind;done));split at hf<;>(try(grind;done));split at hf<;>simp at hf;rename_i rs d ab hd;subst hf;cases u;obtain⟨rv,n,_⟩:=ZoK M ab (p:=True) (ds:=[]) rfl trivial;refine⟨g,w,s',m.isNone ||rec,Ext.refl g w,M.st.sub hs,hΨ,?_⟩;have t:=step_going_returned (P:=P) (fr:={ (Wn P an f fn.ntmps i cs Ψ m v rec).b.atR ⟨tmps,[]⟩ todo with mode:=.returning }) (c:={ i with mode:=Jz m v rec }) (cs:=cs) (w:=w) rfl ⟨rfl,rfl,fn,ac,n⟩;have z:({ ({ i with mode:=Jz m v rec }:Frame) with mode:=settle (Jz m v rec) }:Frame)={ i with mode:=if (m.isNone ||rec) then .returning else i.mode }:=by
  cases m with
  |none=>rfl
  |some d =>cases rec;simp[j];rfl;rfl
 rw[z]at t;exact .one t
def ZaW.fin{F:Fr P}{m Ψ rec}(n:ZaW F m Ψ rec){H L s s'}(u:s'.sub s)(t:Ψ (m.isNone ||rec) s'):ZC F [] H L s:=by
 have j:=n;obtain⟨an,f,df,i,cs,v,hf,hres,hmode,hrep,rfl⟩:=n;intro k z;cases z;intro g Z w tmps hN M;refine(Zfh P i cs Ψ).back _ _ _ _ (.one (stepR_end rfl)) ?_;exact j.end u t M
def ZaW.ret{F:Fr P}{m Ψ rec}(n:ZaW F m Ψ rec){dk H L s s'}(u:s'.sub s)(t:Ψ (m.isNone ||rec) s'):ZC F (.code .ret::dk) H L s:=by
 have j:=n;obtain⟨an,f,df,i,cs,v,hf,hres,hmode,hrep,rfl⟩:=n;intro k z;cases z with
 |code hc ht =>obtain rfl:=ZsH hc;intro g Z w tmps hN M;refine(Zfh P i cs Ψ).back _ _ _ _ (.one (stepR_ret rfl)) ?_;exact j.end u t M
def Zic{op}(h:ck P op=sO .recover):∃j n,op=.call ⟨.builtin .recover,j,n⟩:=by
 unfold ck at h;split at h;simp at h;split at h<;>(try(simp at h;done));all_goals (try(repeat' (split at h<;>(try(simp at h;done)))))
 rename_i c _ _ i;obtain⟨callee,j,n⟩:=c;simp only at i;exact⟨j,n,by rw[i]⟩
def Znt{F:Fr P}{d Ψ}(hF:ZaW F (sO d) Ψ false){kp dk o os H L s}(hg:o.guard=nO)(hk:o.k=.recover)(h:∀F':Fr P,ZaW F' (sO d) Ψ true->DO F' kp dk os (Zz H o.dst (.d d)) L s):DO F kp dk (o::os) H L s:=by
 obtain⟨an,f,df,i,n,v,hf,ag,ab,u,rfl⟩:=hF;refine Wz λoo g Z w tmps t j r k ah z am af hd hN m hr ak=>?_;have hw:=Yi m am (c:=true) (by rw[hg];rfl);have al:=Yq z (by rw[hk];rfl);rw[hk]at z;obtain⟨args,ats,aj⟩:=Zic z;have ae:(execOp (Act.mk tmps []).eval oo).run P w=.ok .recover w:=by simp[execOp,aj,resolve,invoke,builtin]
 have ad:step P (lone ((Wn P an f df.n i n Ψ (sO d) v false).b.atR ⟨tmps,[]⟩ (.inRegion t (j::r)::k)) (Wn P an f df.n i n Ψ (sO d) v false).cs w) =
   .next (lone ((Wn P an f df.n i n Ψ (sO d) v true).b.atR ((Act.mk tmps []).put oo.dst v) (.inRegion t r::k)) (Wn P an f df.n i n Ψ (sO d) v true).cs w):=by
  refine step_lone_go ?_;rw[stepGR_op ah hw,Oper.semAt_eq _ _ _ al];have ai:((Wn P an f df.n i n Ψ (sO d) v false).b.atR ⟨tmps,[]⟩ (.inRegion t (j::r)::k)).finish v=(Wn P an f df.n i n Ψ (sO d) v true).b.atR ((Act.mk tmps []).put oo.dst v) (.inRegion t r::k):=by rw[Frame.finish_atR,ah];rfl
  rw[<-ai];simp[stepG.apply,ae,Frame.atR,Wn,tryRecover,Jz]
 refine(Zfh P i n Ψ).back _ _ _ _ (.one ad) ?_;obtain⟨ac,e1,e2,m'⟩:=ZfP m hN hd (v:=v) (e:=.d d) (u d rfl g w) [];rw[af,e1];exact h _ ⟨an,f,df,i,n,v,hf,ag,ab,u,rfl⟩ t r k hr ak g Z w ac e2 m'
def ZgK{F:Fr P}{Ψ rec}(hF:ZaW F nO Ψ rec){kp dk o os H L s}(hg:o.guard=nO)(hk:o.k=.recover)(h:DO F kp dk os (Zz H o.dst (.d .niliface)) L s):DO F kp dk (o::os) H L s:=by
 obtain⟨an,f,df,i,n,v,hf,hres,hmode,hrep,rfl⟩:=hF;refine Wz λoo g Z w tmps t j r k ad u ai hdst hd hN m hr ag=>?_;have hw:=Yi m ai (c:=true) (by rw[hg];rfl);have ah:=Yq u (by rw[hk];rfl);rw[hk]at u;obtain⟨args,ats,af⟩:=Zic u;have ac:(execOp (Act.mk tmps []).eval oo).run P w=.ok .recover w:=by simp[execOp,af,resolve,invoke,builtin]
 have ab:step P (lone ((Wn P an f df.n i n Ψ nO v rec).b.atR ⟨tmps,[]⟩ (.inRegion t (j::r)::k)) (Wn P an f df.n i n Ψ nO v rec).cs w) =
   .next (lone ((Wn P an f df.n i n Ψ nO v rec).b.atR ((Act.mk tmps []).put oo.dst .nilIface) (.inRegion t r::k)) (Wn P an f df.n i n Ψ nO v rec).cs w):=by
  refine step_lone_go ?_;rw[stepGR_op ad hw,Oper.semAt_eq _ _ _ ah];have ae:((Wn P an f df.n i n Ψ nO v rec).b.atR ⟨tmps,[]⟩ (.inRegion t (j::r)::k)).finish .nilIface=(Wn P an f df.n i n Ψ nO v rec).b.atR ((Act.mk tmps []).put oo.dst .nilIface) (.inRegion t r::k):=by rw[Frame.finish_atR,ad];rfl
  rw[<-ae];simp[stepG.apply,ac,Frame.atR,Wn,tryRecover,Jz]
 refine(Zfh P i n Ψ).back _ _ _ _ (.one ab) ?_;obtain⟨z,e1,e2,m'⟩:=ZfP m hN hd (v:=.nilIface) (e:=.d .niliface) .niliface [];simp_all;exact h t r k hr ag g Z w z e2 m'
end
def ZCp(n):inR .i64 n↔-9223372036854775808<=n/\n<=9223372036854775807:=by
 simp[inR,IntKind.min,IntKind.max,IntKind.signed,IntKind.bits]
def ZC0(n):inR .u8 n↔0<=n/\n<=255:=by
 simp[inR,IntKind.min,IntKind.max,IntKind.signed,IntKind.bits]
def ZCq(n):inR .u32 n↔0<=n/\n<=4294967295:=by
 simp[inR,IntKind.min,IntKind.max,IntKind.signed,IntKind.bits]
def ZCr(n):inR .u64 n↔0<=n/\n<=18446744073709551615:=by
 simp[inR,IntKind.min,IntKind.max,IntKind.signed,IntKind.bits]
def ZCo(n):inR .i32 n↔-2147483648<=n/\n<=2147483647:=by
 simp[inR,IntKind.min,IntKind.max,IntKind.signed,IntKind.bits]
def ZBr(a b):(if a=true then b else false)=(a&&b):=by cases a<;>rfl
def ZCt(a b):(if a=true then true else b)=(a ||b):=by cases a<;>rfl
def ZB9{d i}(h:d=i):(Qy [d]).Le i:=h▸ZHL d
def Zfg{b i}(h:b=i):(Qy [.bool b]).Le (.bool i):=h▸ZHL _
def Zhl{k n m}(h:n=m):(Qy [.int k n]).Le (.int k m):=h▸ZHL _
def ZCb{l m}(h:l=m):(Qy [.str l]).Le (.str m):=h▸ZHL _
def K4{l d}(h:.tup l=d)(i:Qy l=.tup l):(Qy l).Le d:=by rw[i,h];exact ZHL _
def St.upd_same(s:St)(b o):(s.upd b o) b=sO o:=by simp[ZIi]
def St.upd_ne(s:St){b c}(o)(h:c≠b):(s.upd b o) c=s c:=by simp[ZIi,h]
def St.upd_upd(s:St)(b o o'):(s.upd b o).upd b o'=s.upd b o':=by
 funext c;simp only[ZIi];by_cases h:c=b<;>simp[h]
def St.upd_comm{s:St}{b c}{o o'}(h:c≠b):(s.upd b o).upd c o'=(s.upd c o').upd b o:=by
 funext x;simp only[ZIi];by_cases i:x=b;subst i;simp[Ne.symm h];simp[i]
def St.sub_upd{b}(o)(h:s b=nO):s.sub (s.upd b o):=λc x i=>by
 have:c≠b:=λj=>by rw[j,h]at i;simp at i
 rw[St.upd_ne s o this];exact i
def St.sub_trans{s s' i:St}(h:s.sub s')(j:s'.sub i):s.sub i:=λb o n=>j b o (h b o n)
inductive DWf:D->Prop where
 |int (k:IntKind) (n:Int) (h:inR k n):DWf (.int k n)
 |str (l:List UInt8) (h:I l<=big):DWf (.str l)
 |agg (cs:List D) (h:∀c∈cs,DWf c):DWf (.agg cs)
 |tup (cs:List D) (h:∀c∈cs,DWf c):DWf (.tup cs)
 |sl (t:Tok) (n s:Nat) (row:Nat->List D) (h:n<=big) (hl:∀i,i<n->(row i).length=s) (hr:∀i,i<n->∀c∈row i,DWf c):DWf (.sl t n s row)
 |ep (cs:List D) (o:Nat) (h:∀c∈cs,DWf c):DWf (.ep cs o)
 |iface (t:TypeId) (d:D) (h:DWf d):DWf (.iface t d)
 |msl (b o n cap s:Nat) (h:n<=cap) (h':cap<=big):DWf (.msl b o n cap s)
 |fn (f:Fn) (a b:List D) (h:∀c∈a,DWf c) (h':∀c∈b,DWf c):DWf (.fn f a b)
 |other (d:D) (h:match d with|.int .. |.str _|.agg _|.tup _|.sl .. |.ep .. |.iface .. |.msl .. |.fn ..=>False|_=>True):DWf d
def ZcU{Q:D->Prop}{vs:List Value}(hn:I vs=I ds)(h:∀(i:Nat) (v:Value) (d:D),vs[i]?=sO v->ds[i]?=sO d->Q d):∀c∈ds,Q c:=by
 intro c j;obtain⟨i,n,rfl⟩:=ZH1 j;exact h i (vs[i]' ω) _ (by simp[show i<I vs by omega]) (by simp[n])
def Rep.wf{g w v d}(h:Rep g w v d):DWf d:=by
 induction h with
 |int k n h=>exact .int k n h
 |str s l h hb=>exact .str l hb
 |agg vs cells hn _ _ ih=>exact .agg _ (ZcU hn ih)
 |tup vs ds hn _ ih=>exact .tup _ (ZcU hn ih)
 |sl0 a t s row ht=>exact .sl t 0 s row (Nat.zero_le _) (λi hi=>by omega) (λi hi=>by omega)
 |sl b o n cap s row t f hl hc hp _ one ht hcap hb ih =>refine .sl t n s row ω hl λi hi c u=>?_;obtain⟨j,z,rfl⟩:=ZH1 u;exact ih i j _ hi (by simp[z])
 |ep b o off cells f hc hp _ one ih =>refine .ep _ _ λc u=>?_;obtain⟨j,z,rfl⟩:=ZH1 u;exact ih j _ (by simp[z])
 |iface t v d _ ih=>exact .iface t d ih
 |msl b off n cap s h hb=>exact .msl _ _ _ _ _ h hb
 |mslx a b off s=>exact .msl _ _ _ _ _ (ZHV _) (Nat.zero_le _)
 |fn f fs cs df dc hnf hnc _ _ ihf ihc=>exact .fn f df dc (ZcU hnf ihf) (ZcU hnc ihc)
 |_=>exact .other _ trivial
def DWf.int_inv{k n}(h:DWf (.int k n)):inR k n:=by
 cases h with
 |int _ _ h=>exact h
 |other _ h=>exact h.elim
def DWf.str_inv{l}(h:DWf (.str l)):I l<=big:=by
 cases h with
 |str _ h=>exact h
 |other _ h=>exact h.elim
def DWf.agg_inv{cs}(h:DWf (.agg cs)):∀c∈cs,DWf c:=by
 cases h with
 |agg _ h=>exact h
 |other _ h=>exact h.elim
def DWf.sl_inv{t n s row}(h:DWf (.sl t n s row)):n<=big/\(∀i,i<n->(row i).length=s)/\∀i,i<n->∀c∈row i,DWf c:=by
 cases h with
 |sl _ _ _ _ h1 h2 h3=>exact⟨h1,h2,h3⟩
 |other _ h=>exact h.elim
def ZAZ{g w vs ds}(h:ZO (Rep g w) vs ds):∀d∈ds,DWf d:=ZcU h.len λi v d n j=>(h.get i v d n j).wf
section
variable {P:Program}
def Zjj{f args s Φ}(j:∃fn,P.funcs[f]?=sO fn/\fn.body.isSome=true/\(fn.name == "runtime.NumGoroutine")=false)(h:(∀a∈args,DWf a)->Ze P f args s Φ):Ze P f args s Φ :=
 ⟨j,λg w vs n i=>(h (ZAZ i)).2 g w vs n i⟩
def ZrY{an f df}(n:cf P an f=sO df):∃t,P.funcs[f]?=sO t/\t.body.isSome=true/\(t.name == "runtime.NumGoroutine")=false:=by
 unfold cf at n;split at n<;>(try(simp at n;done));rename_i t j;split at n<;>(try(simp at n;done));rename_i c u;split at n<;>(try(simp at n;done));rename_i i;exact⟨t,j,by simp[u],by simpa using i⟩
def ZaH{an f N rs b}(i:cf P an f=sO ⟨N,rs,b⟩){args s Φ}(h:(∀a∈args,DWf a)->∀F:Fr P,Y0 F rs Φ []->ZC F [.code b] (Qw 0 args) [] s):Ze P f args s Φ :=
 Zjj (ZrY i) λj=>Zh i (h j)
def ZJ{an f N rs b}(i:cf P an f=sO ⟨N,rs,b⟩){args d}(h:(∀a∈args,DWf a)->∀(F:Fr P) (s:St),(∀{dk:List KH} {H:Env} {L:Loc} {s':St} {p:Prop} {ds:List D},YK H L s' rs=sO (p,ds)->p->(Qy ds).Le d->s.sub s'->ZC F (.code .ret::dk) H L s') ->
   ZC F [.code b] (Qw 0 args) [] s):Zc P f args d :=
 λs=>Zjj (ZrY i) λu=>Zh i λF hF=>h u F s λt z n j=>hF.ret d s t z n j ⟨rfl,rfl⟩
def ZAV{F:Fr P}{dk H L s}(t){d}(i:ZS H t=sO (.d d))(h:DWf d->ZC F dk H L s):ZC F dk H L s :=
 λk n g Z w tmps j m=>h (Rep.wf (m.env t _ i)) k n g Z w tmps j m
end
section
variable {P:Program}
def ZU(P:Program)(f:FuncId)(args:List D)(s:St)(d:D)(s':St):Prop:=Ze P f args s λr t=>r=.ret d/\t=s'
def JS{F:Fr P}{kp dk o os H L s s'}(hg:Zo H o.guard=sO true){n xs}(hk:o.k=.call n xs){p q f first caps es ds}(hf:ZD H true n=sO (q,.d (.fn (.func f) first caps)))(u:Yg H true xs=sO (p,es))(j:Kk es=sO ds)(hp:p)(z:q){d}(hc:ZU P f (first++ds++caps) s d s')(h:DO F kp dk os (Zz H o.dst (.d d)) L s'):DO F kp dk (o::os) H L s :=
 Zhj hg hk hf u j hp z hc (λd' t ⟨i,h2⟩=>by simp only[Res.ret.injEq]at i;subst i;subst h2;exact h) (λd' t ⟨i,_⟩=>by simp at i)
def Zjl{F:Fr P}{kp dk o f os H L s s' B}(hg:Zo H o.guard=sO true){u xs}(hk:o.k=.call u xs){p q n first caps es ds}(hf:ZD H true u=sO (q,.d (.fn (.func n) first caps)))(z:Yg H true xs=sO (p,es))(j:Kk es=sO ds)(hp:p)(hq:q){d}(hc:ZU P n (first++ds++caps) s d s')(hB:Wq f s s' L L B)(h:DOA F kp dk os (Zz H o.dst (.d d)) L s' (Wa f B)):DOA F kp dk ((o,f)::os) H L s B :=
 Zh3 hg hk hf z j hp hq hc (λd' t ⟨i,h2⟩=>by simp only[Res.ret.injEq]at i;subst i;subst h2;exact⟨hB,h⟩) (λd' t ⟨i,_⟩=>by simp at i)
def ZxJ{F:Fr P}{kp dk o os H L s s'}(hg:Zo H o.guard=sO true){n xs}(hk:o.k=.call n xs){p q f es ds}(hf:ZD H true n=sO (q,.d f))(u:Yg H true xs=sO (p,es))(j:Kk es=sO ds)(hp:p)(z:q){d}(hc:Ki P f ds s λr t=>r=.ret d/\t=s')(h:DO F kp dk os (Zz H o.dst (.d d)) L s'):DO F kp dk (o::os) H L s :=
 Zfn hg hk hf u j hp z hc (λd' t ⟨i,h2⟩=>by simp only[Res.ret.injEq]at i;subst i;subst h2;exact h) (λd' t ⟨i,_⟩=>by simp at i)
def Zc.le{f args d i}(h:Zc P f args d)(e:d=i):Zc P f args i:=e▸h
end
inductive LeC:List D->List D->Prop where
 |nil:LeC [] []
 |cons {d d':D} {l l':List D} (h:d.Le d') (t:LeC l l'):LeC (d::l) (d'::l')
def LeC.refl(l):LeC l l:=by
 induction l with
 |nil=>exact .nil
 |cons d l ih=>exact .cons (ZHL d) ih
def LeC.len{l l'}(h:LeC l l'):I l=I l':=by
 induction h with
 |nil=>rfl
 |cons _ _ ih=>simp[ih]
def LeC.get{l l'}(h:LeC l l'){i:Nat}{n}(j:l'[i]?=sO n):∃d,l[i]?=sO d/\d.Le n:=by
 induction h generalizing i with
 |nil=>simp at j
 |cons h _ ih =>
  cases i with
  |zero=>simp at j;subst j;exact⟨_,rfl,h⟩
  |succ i=>exact ih (by simpa using j)
def Zsm{cs cs'}(h:LeC cs cs'):(D.agg cs).Le (.agg cs'):=by
 intro g w v j;cases j with
 |agg vs _ hn hr one=>exact .agg vs _ (hn.trans h.len) (λi v d' j n=>by obtain⟨d,t,u⟩:=h.get n;exact u _ _ _ (hr i v d j t)) one
def ZAX{cs cs'}(h:LeC cs cs'):(D.tup cs).Le (.tup cs'):=by
 intro g w v j;cases j with
 |tup vs _ hn hr=>exact .tup vs _ (hn.trans h.len) (λi v d' j n=>by obtain⟨d,t,u⟩:=h.get n;exact u _ _ _ (hr i v d j t))
def ZAW{t n s row}:(D.sl t n s row).Le (.sl .none n s row):=by
 intro g w v i;cases i with
 |sl0 _ _ _ _ ht=>exact .sl0 _ _ _ _ ψ
 |sl b o n cap s row t f hl hc hp hr one ht hcap hb=>exact .sl b o n cap s row _ f hl hc hp hr one trivial hcap hb
def ZCa{t}{n s}{row row'}(h:∀i,i<n->LeC (row i) (row' i)):(D.sl t n s row).Le (.sl t n s row'):=by
 intro g w v hv;cases hv with
 |sl0 _ _ _ _ ht=>exact .sl0 _ _ _ _ ht
 |sl b o n cap s row t f hl hc hp hr one ht hcap hb =>exact .sl b o n cap s _ _ f (λi u=>(h i u).len.symm.trans (hl i u)) hc hp (λi j d u z=>by obtain⟨d',h1,h2⟩:=(h i u).get z;exact h2 _ _ _ (hr i j d' u h1)) one ht hcap hb
def Y3{s row t}(j:∀b,t≠.tip b):D.nilsl.Le (.sl t 0 s row):=by
 intro g w v i;cases i;exact .sl0 _ _ _ _ j
def D.Le.trans{a b c:D}(h:a.Le b)(j:b.Le c):a.Le c:=λg w v i=>j g w v (h g w v i)
def ZAL{t n j s row row'}(z:n=j)(h:∀i,i<n->row i=row' i):(D.sl t n s row).Le (.sl .none j s row'):=by
 subst z;exact ZAW.trans (ZCa λi u=>by rw[h i u];exact LeC.refl _)
inductive Zsl:E->E->Prop where
 |d {x y:D} (h:x.Le y):Zsl (.d x) (.d y)
 |refl (e:E):Zsl e e
inductive LeE:Env->Env->Prop where
 |nil:LeE [] []
 |cons {t:Nat} {e e':E} {H H':Env} (h:Zsl e e') (r:LeE H H'):LeE ((t,e)::H) ((t,e')::H')
 |skip {t:Nat} {e:E} {H H':Env} (r:LeE H H'):LeE ((t,e)::H) ((t,e)::H')
inductive LeL:Loc->Loc->Prop where
 |nil:LeL [] []
 |cons {t:Nat} {c c':List D} {H H':Loc} (h:LeC c c') (r:LeL H H'):LeL ((t,c)::H) ((t,c')::H')
 |skip {t:Nat} {c:List D} {H H':Loc} (r:LeL H H'):LeL ((t,c)::H) ((t,c)::H')
def LeE.get{H H'}(h:LeE H H'){t n}(i:ZS H' t=sO n):∃e,ZS H t=sO e/\Zsl e n:=by
 induction h with
 |nil=>simp[ZS]at i
 |cons h _ ih =>simp only[ZS]at i⊢;split at i;simp at i;subst i;rename_i j;rw[if_pos j];exact⟨_,rfl,h⟩;rename_i j;rw[if_neg j];exact ih i
 |skip _ ih =>simp only[ZS]at i⊢;split at i;simp at i;subst i;rename_i j;rw[if_pos j];exact⟨_,rfl,.refl _⟩;rename_i j;rw[if_neg j];exact ih i
def LeL.get{H H'}(h:LeL H H'){t n}(i:Zj H' t=sO n):∃e,Zj H t=sO e/\LeC e n:=by
 induction h with
 |nil=>simp[Zj]at i
 |cons h _ ih =>simp only[Zj]at i⊢;split at i;simp at i;subst i;rename_i j;rw[if_pos j];exact⟨_,rfl,h⟩;rename_i j;rw[if_neg j];exact ih i
 |skip _ ih =>simp only[Zj]at i⊢;split at i;simp at i;subst i;rename_i j;rw[if_pos j];exact⟨_,rfl,LeC.refl _⟩;rename_i j;rw[if_neg j];exact ih i
def LeL.getI{H H'}(h:LeL H H'){t e}(j:Zj H t=sO e):∃e',Zj H' t=sO e':=by
 induction h with
 |nil=>simp[Zj]at j
 |cons h _ ih =>simp only[Zj]at j⊢;split at j;rename_i i;rw[if_pos i];exact⟨_,rfl⟩;rename_i i;rw[if_neg i];exact ih j
 |skip _ ih =>simp only[Zj]at j⊢;split at j;rename_i i;rw[if_pos i];exact⟨_,rfl⟩;rename_i i;rw[if_neg i];exact ih j
def Wc.le{g w b ds ds'}(h:Wc g w b ds)(j:LeC ds ds'):Wc g w b ds':=by
 obtain⟨hp,vs,T,h1,h2,t,n⟩:=h;exact⟨hp,vs,T,h1,h2.trans j.len,λi v d' hv hd=>by obtain⟨d,z,u⟩:=j.get hd;exact u _ _ _ (t i v d hv z),n⟩
def ZP.le{g Z w L v e i}(h:ZP g Z w L v e)(j:Zsl e i):ZP g Z w L v i:=by
 cases j with
 |refl=>exact h
 |d hd=>exact hd _ _ _ h
def Zy.le{H H':Env}{L L':Loc}(m:Zy g Z w tmps H L s)(hρ:LeE H H')(n:LeL L L'):Zy g Z w tmps H' L' s:={
 st:=m.st
 loc l u h:=by obtain⟨c,j,z⟩:=n.get h;exact(m.loc l c j).le z
 locKept l u h:=by obtain⟨c,j,_⟩:=n.get h;exact m.locKept l c j
 locSt l u h:=by obtain⟨c,j,_⟩:=n.get h;exact m.locSt l c j
 inj l l' u cs' h h' hν:=by obtain⟨c,j,_⟩:=n.get h;obtain⟨c',i,_⟩:=n.get h';exact m.inj l l' c c' j i hν
 env t e h:=by
  obtain⟨e0,j,z⟩:=hρ.get h;exact((m.env t e0 j).le z).locs λl u hc=>⟨n.getI hc,rfl⟩ }
section
variable {P:Program}
def ZAU{F:Fr P}{dk H H' L L' s}(i:LeE H H')(n:LeL L L')(h:ZC F dk H' L' s):ZC F dk H L s :=
 λk t g Z w tmps j m=>h k t g Z w tmps j (m.le i n)
end
def Ku{H}:LeE H H:=by
 induction H with
 |nil=>exact .nil
 |cons a r ih=>obtain⟨t,e⟩:=a;exact .cons (.refl _) ih
def WE{H}:LeL H H:=by
 induction H with
 |nil=>exact .nil
 |cons a r ih=>obtain⟨t,e⟩:=a;exact .cons (LeC.refl _) ih
def Zk7{l cs}(i:Qy l=.tup l)(h:LeC l cs):(Qy l).Le (.tup cs):=by rw[i];exact ZAX h
def K7{d i}(h:d.Le i):(Qy [d]).Le i:=h
def Zc2:Bool->List Nat->St->St->Loc->Loc->List (Nat×Rd)->Prop
 |true,_,_,_,_,_,_=>True
 |false,fl,s,s',L,L',B=>Wq fl s s' L L' B
def Ze6:Bool->List Nat->List (Nat×Rd)->List (Nat×Rd)
 |true,_,B=>B
 |false,fl,B=>Wa fl B
def Zig(K:Env->Loc->St->Prop)(X:List (DOp×List Nat)->Env->Loc->St->List (Nat×Rd)->Prop):List (DOp×List Nat)->Env->Loc->St->List (Nat×Rd)->Prop
 | [],H,L,s,_=>K H L s
 |o::os,H,L,s,B=>match ZG o.1 H L s with
  |.ok side H' L' s'=>side/\Zc2 (Wj o.1.k) o.2 s s' L L' B/\Zig K X os H' L' s' (KC o.1 H++Ze6 (Wj o.1.k) o.2 B)
  |.all side pre H' s'=>side/\∀b,pre b->Zc2 false o.2 s (s' b) L L B/\Zig K X os (H' b) L (s' b) (Ze6 false o.2 B)
  |.stop=>X (o::os) H L s B
def Zlg{K X}:∀{os H L s B},Zig K X os H L s B->Zif K X os H L s B
 | [],H,L,s,B,h=>h
 |o::os,H,L,s,B,h=>by simp only[Zig,Zif]at h⊢;split at h<;>rename_i i<;>simp only[i];cases n:Wj o.1.k;rw[n]at h;exact⟨h.1,h.2.1,Zlg h.2.2⟩;rw[n]at h;simp only[Zc2,Ze6]at h;exact⟨h.1,Zlg h.2.2⟩;refine⟨h.1,λb j=>?_⟩;exact⟨(h.2 b j).1,Zlg (h.2 b j).2⟩;exact h
section
variable {P:Program}
def Yz{F:Fr P}{ks dk os H L s B}(h:Zig (λH L s=>ZC F dk (Yx H ks) (ZbD (Yx H ks) L) s) (λos H L s B=>DOA F (sO ks) dk os H L s B) os H L s B):DOA F (sO ks) dk os H L s B:=Zk2 (Zlg h)
def K3{F:Fr P}{kp dk o os H L s0}(s t)(hg:Zo H o.guard=sO true){e sz b z x y}(hk:o.k=.append e sz b z x y){p q n m row row2 dy dx}(hx:ZD H true x=sO (p,.d dx))(j:Zbe sz dx=sO (t,n,row))(hy:ZD H true y=sO (q,.d dy))(hel:QK sz dy=sO (m,row2))(hp:p)(hq:q)(hs:s0=s.own t (n*sz))(u:t.okIn s)(hb:(n+m)*b<=140737488355328)(i:n+m<=big)(h:∀t':Tok,t'.okIn s->DO F kp dk os (Zz H o.dst (.d (.sl t' (n+m) sz (YA n row row2)))) L (s.own t' ((n+m)*sz))):
  DO F kp dk (o::os) H L s0:=by
 subst hs;exact Zqs hg hk hx j hy hp hq hel u hb i h
def Zsb{F:Fr P}{kp dk o os H L s0}(s t)(hg:Zo H o.guard=sO true){e sz b z x y}(hk:o.k=.append e sz b z x y){p q n m row row2 dy dx}(hx:ZD H true x=sO (p,.d dx))(j:Zbe sz dx=sO (t,n,row))(hy:ZD H true y=sO (q,.d dy))(hel:QK sz dy=sO (m,row2))(hp:p)(hq:q)(hs:s0=s.own t (n*sz))(u:t.okIn s)(hb:(n+m)*b<=140737488355328)(i:n+m<=big)(h:∀t':Tok,t'.okIn s->Jn F kp dk os (Zz H o.dst (.d (.sl t' (n+m) sz (YA n row row2)))) L (s.own t' ((n+m)*sz))):
  Jn F kp dk (o::os) H L s0:=by
 subst hs;exact Zuq hg hk hx j hy hp hq hel u hb i h
def Zvb{F:Fr P}{kp dk o fl os H L s0 B}(s t)(hg:Zo H o.guard=sO true){e sz b z x y}(hk:o.k=.append e sz b z x y){p q n m row row2 dy dx}(hx:ZD H true x=sO (p,.d dx))(hsl:Zbe sz dx=sO (t,n,row))(hy:ZD H true y=sO (q,.d dy))(hel:QK sz dy=sO (m,row2))(hp:p)(hq:q)(hs:s0=s.own t (n*sz))(hok:t.okIn s)(hb:(n+m)*b<=140737488355328)(u:n+m<=big)(h:∀j:Tok,j.okIn s->Zc2 false fl s0 (s.own j ((n+m)*sz)) L L B/\DOA F kp dk os (Zz H o.dst (.d (.sl j (n+m) sz (YA n row row2)))) L (s.own j ((n+m)*sz)) (Ze6 false fl B)):
  DOA F kp dk ((o,fl)::os) H L s0 B:=by
 subst hs;refine Znp hg hk hx hsl hy hp hq hel hok hb u λj i=>?_;exact h j i
end
section
variable {P:Program}
def ZK{an f N rs b}(i:cf P an f=sO ⟨N,rs,b⟩){args d s s'}(h:(∀a∈args,DWf a)->∀(F:Fr P),(∀{dk:List KH} {H:Env} {L:Loc} {t:St} {p:Prop} {ds:List D},YK H L t rs=sO (p,ds)->p->(Qy ds).Le d->s'.sub t->ZC F (.code .ret::dk) H L t) ->
   ZC F [.code b] (Qw 0 args) [] s):ZU P f args s d s' :=
 Zjj (ZrY i) λz=>Zh i λF hF=>h z F λu h2 n j=>hF.ret d s' u h2 n j ⟨rfl,rfl⟩
def VT(P:Program)(f:D)(args:List D)(s:St)(d:D)(s':St):Prop:=Ki P f args s λr t=>r=.ret d/\t=s'
def ZU.VT{f first args caps s s' d}(h:ZU P f (first++args++caps) s d s'):VT P (.fn (.func f) first caps) args s d s':=Ze.V h
def Zc.VT{f first args caps d}(h:Zc P f (first++args++caps) d)(s):VT P (.fn (.func f) first caps) args s d s:=Ze.V (h s)
def Zv3{F:Fr P}{kp dk o os H L s s'}(hg:Zo H o.guard=sO true){j xs}(hk:o.k=.call j xs){p q f es ds}(z:ZD H true j=sO (q,.d f))(n:Yg H true xs=sO (p,es))(i:Kk es=sO ds)(u:p)(t:q){d}(hc:VT P f ds s d s')(h:DO F kp dk os (Zz H o.dst (.d d)) L s'):DO F kp dk (o::os) H L s:=ZxJ hg hk z n i u t hc h
def ZB4{F:Fr P}{kp dk o f os H L s s' B}(hg:Zo H o.guard=sO true){n xs}(hk:o.k=.call n xs){p q fv es ds}(hf:ZD H true n=sO (q,.d fv))(u:Yg H true xs=sO (p,es))(j:Kk es=sO ds)(hp:p)(z:q){d}(hc:VT P fv ds s d s')(hB:Wq f s s' L L B)(h:DOA F kp dk os (Zz H o.dst (.d d)) L s' (Wa f B)):DOA F kp dk ((o,f)::os) H L s B :=
 Zed hg hk hf u j hp z hc (λd' t ⟨i,h2⟩=>by simp only[Res.ret.injEq]at i;subst i;subst h2;exact⟨hB,h⟩) (λd' t ⟨i,_⟩=>by simp at i)
def ZO.leC{g w vs a i}(h:ZO (Rep g w) vs a)(j:LeC a i):ZO (Rep g w) vs i:=by
 induction j generalizing vs with
 |nil=>exact h
 |cons hd _ ih=>cases h with
  |cons h1 h2=>exact .cons (hd g w _ h1) (ih h2)
def Ze.leA{f args i s Φ}(t:LeC args i)(h:Ze P f i s Φ):Ze P f args s Φ :=
 ⟨h.1,λg w vs n j=>h.2 g w vs n (ZO.leC j t)⟩
def Zc.leA{f args i d}(j:LeC args i)(h:Zc P f i d):Zc P f args d:=λs=>Ze.leA j (h s)
def LeC.one{d i}(h:d.Le i):LeC [d] [i]:=.cons h .nil
def LeC.two{d j e i}(h:d.Le j)(n:e.Le i):LeC [d,e] [j,i]:=.cons h (.cons n .nil)
end
def St.or(s t:St):St:=λb=>match s b with
 |some o=>sO o
 |none=>t b
def W7(s t:St)(b o):(s.or t).upd b o=(s.upd b o).or t:=by
 funext c;simp only[St.or,ZIi];by_cases h:c=b<;>simp[h]
def Zu{s t:St}{b o}(h:s b=sO o):(s.or t) b=sO o:=by simp[St.or,h]
def ZM{s t:St}{b}(h:s b=nO):(s.or t) b=t b:=by simp[St.or,h]
def KW{s t:St}:s.sub (s.or t):=λb o h=>Zu h
def Yc(s t:St):Prop:=∀b o,t b=sO o->s b=nO
def or_assoc(s t u:St):(s.or t).or u=s.or (t.or u):=by
 funext b;simp only[St.or];cases s b<;>rfl
def St.single(b:Nat)(o:Jo):St:=λc=>if c=b then sO o else nO
def YE{b o}:(St.single b o) b=sO o:=by simp[St.single]
def Zez{b c}{o}(h:c≠b):(St.single b o) c=nO:=by simp[St.single,h]
def Qt{b o}(h:s b=nO):s.upd b o=s.or (St.single b o):=by
 funext c;simp only[St.or,ZIi,St.single];by_cases i:c=b;subst i;simp[h];simp only[i,if_false];cases s c<;>rfl
def WD{s b o}(h:s b=nO):Yc s (St.single b o):=λc x i=>by
 simp only[St.single]at i;split at i;rename_i e;rw[e];exact h;simp at i
def G.keep(g:G)(k:Nat->Prop):G:={ g with kept:=k }
def Kb{g k w v d}(h:Rep g w v d):Rep (g.keep k) w v d:=h.mono0 (λ_=>ZHV _) (λ_ _ _=>rfl) (λ_ _ h=>h)
def ZyU{g k Z w L v e}(h:ZP g Z w L v e):ZP (g.keep k) Z w L v e:=by
 induction e with
 |d d=>exact Kb h
 |loc l off=>exact h
 |when c e ih=>exact⟨λi=>ih (h.1 i),h.2⟩
def ZsI{g k w b ds}(h:Wc g w b ds):Wc (g.keep k) w b ds:=by
 obtain⟨hp,vs,T,u,h2,n,z⟩:=h;exact⟨hp,vs,T,u,h2,λi v d t j=>Kb (n i v d t j),z⟩
def Zoq{g k w b o}(h:W2 g w b o):W2 (g.keep k) w b o:=by
 cases o with
 |cells ds=>exact ZsI h
 |map es =>obtain⟨u,en,j,h1,h2,h3,h4,h5,h6⟩:=h;exact⟨u,en,j,h1,h2,λi x d hv hd=>Kb (h3 i x d hv hd),λi x d hv hd=>Kb (h4 i x d hv hd),h5,h6⟩
 |tip n=>exact h
 |mapE kp es kk n =>obtain⟨u,io,z,en,j,h1,h2,h3,h4,h5,h6,h7⟩:=h;exact⟨u,io,z,en,j,h1,h2,λi x d hi hv hd=>Kb (h3 i x d hi hv hd),λi x d hi hv hd=>Kb (h4 i x d hi hv hd),λe he=>⟨Kb (h5 e he).1,(h5 e he).2⟩,h6,h7⟩
 |loop r st =>obtain⟨hp,l,h1,h2,h3,h4,h5,h6,h7,h8,h9⟩:=h;exact⟨hp,l,h1,h2,h3,h4,h5,h6,h7,λt e he=>ZyU (h8 t e he),h9⟩
 |dfr=>exact h
def ZO.imp{α β R S}{i:List α}{bs:List β}(h:ZO R i bs)(j:∀a b,R a b->S a b):ZO S i bs:=by
 induction h with
 |nil=>exact .nil
 |cons h _ ih=>exact .cons (j _ _ h) ih
def Zte{s t:St}(u:Yc s t)(h:Yp g (s.or t) w):Yp (g.keep λb=>g.kept b\/(t b).isSome) s w:={
 obj b o hb:=Zoq (h.obj b o (Zu hb))
 kept b o hb:=by rintro(hk|hk);exact h.kept b o (Zu hb) hk;obtain⟨x,i⟩:=Option.isSome_iff_exists.1 hk;rw[u b x i]at hb;simp at hb
 fresh b hb:=by have j:=h.fresh b hb;refine⟨j.1,?_⟩;rintro(hk|hk);exact j.2 hk;obtain⟨x,i⟩:=Option.isSome_iff_exists.1 hk;have:=(h.obj b x (by rw[ZM (u b x i)];exact i)).lt;omega
 tabs n cs hc:=Kb (h.tabs n cs hc) }
def ZqO{g w w' s t Φ e}(hd:Yc s t)(h:Yp g (s.or t) w)(hp:Zhn (g.keep λb=>g.kept b\/(t b).isSome) w Φ e w'):
  Zhn g w (λr S=>∃s',Φ r s'/\Yc s' t/\S=s'.or t) e w':=by
 obtain⟨g',s',r,he,hs,hr,hΦ⟩:=hp;have j:=he.keptEq;have u:Ext g w (g'.keep g.kept) w':=⟨he.size,he.prot,he.cell,he.hdr,λb hb=>he.kept b (.inl hb),λb hb=>he.keptProt b (.inl hb),rfl,he.os,he.output,he.tape⟩;have z:Yc s' t:=λb o hb=>by
  cases i:s' b with
  |none=>rfl
  |some x=>exact absurd (by rw[j];exact .inr (by rw[hb];rfl)) (hs.kept b x i)
 refine⟨g'.keep g.kept,s'.or t,r,u,⟨λb o hb=>?_,λb o hb=>?_,λb hb=>?_,λn cs hc=>Kb (hs.tabs n cs hc)⟩,?_,s',hΦ,z,rfl⟩
 .cases i:s' b with
  |some x =>rw[Zu i]at hb;cases hb;exact Zoq (hs.obj b _ i)
  |none =>rw[ZM i]at hb;have h0:=h.obj b o (by rw[ZM (hd b o hb)];exact hb);have hk:(g.keep λb=>g.kept b\/(t b).isSome).kept b:=.inr (by rw[hb];rfl);exact h0.mono u (he.kept b hk) (he.keptProt b hk)
 .cases i:s' b with
  |some x=>exact λhk=>hs.kept b x i (by rw[j];exact .inl hk)
  |none =>rw[ZM i]at hb;exact h.kept b o (by rw[ZM (hd b o hb)];exact hb)
 have:=hs.fresh b hb;exact⟨this.1,λhk=>this.2 (by rw[j];exact .inl hk)⟩;cases e<;>cases r<;>simp only[ZrW]at hr⊢;exact Kb hr;obtain⟨v,h1,h2⟩:=hr;exact⟨v,h1,Kb h2⟩
section
variable {P:Program}
def Ze.frame{f args s t Φ}(i:Yc s t)(h:Ze P f args s Φ):Ze P f args (s.or t) λr S=>∃s',Φ r s'/\Yc s' t/\S=s'.or t :=
 ⟨h.1,λg w vs j n=>(h.2 _ w vs (Zte i j) (n.imp λ_ _=>Kb)).mono λ_ _ u=>ZqO i j u⟩
def Ki.frame{f args s t Φ}(j:Yc s t)(h:Ki P f args s Φ):Ki P f args (s.or t) λr S=>∃s',Φ r s'/\Yc s' t/\S=s'.or t:=by
 intro g w fv vs i hf n;obtain⟨d,nx,fr,h1,h2,h3,z⟩:=h _ w fv vs (Zte j i) (Kb hf) (n.imp λ_ _=>Kb);refine⟨d,nx,fr,h1,h2,h3,λc cs=>?_⟩;obtain⟨e,w',h5,u⟩:=z c cs;exact⟨e,w',ZqO j i h5,u⟩
end
section
variable {P:Program}
def Zro{an l N r s da db args Φ}(hs:s l=sO (.loop r .ready))(hlen:I args=I r.params)(ha:cc P an N r.assign=sO da)(hb:cc P an N r.body=sO db)(hN:r.N=N)(hp:∀t∈r.params,t<N)(h:∀F:Fr P,Qu F l Φ->F.b.fn=r.fn->ZC F [.code da,.beginR,.code db] (WT r.params args r.H) [] s):Ki P (.fn (.yield l) [] []) args s Φ:=by
 intro g w fv vs n hf i;cases hf with
 |fn _ fs z _ _ hn1 hn2 h1 h2 =>
 obtain rfl:fs=[]:=by simpa using hn1
 obtain⟨hp0,l0,a1,a2,a3,a4,a5,a6,a7,a8,a9,a10⟩:=n.obj l _ hs;have j:vs.toArray.size=l0.params.size:=by
  have e1:=i.len;have e2:I l0.params.toList=I r.params:=by rw[a3]
  simp at e2⊢;omega
 refine⟨_,_,_,by simp[Deferred.ofValue];rfl,by simp[invoke,Instr.yield,Instr.getLoop,JO a1,j];rfl,rfl,λc cs=>?_⟩;have M:Zy g (λ_=>0) w l0.tmps r.H [] s:=⟨n,λl cs h=>by simp[Zj]at h,λl cs h=>by simp[Zj]at h,λl cs h=>by simp[Zj]at h,λl l' cs z h=>by simp[Zj]at h,a8⟩;obtain⟨u,M'⟩:=ZiC M i hlen (by rw[hN]at *;exact hp) (by rw[<-hN];exact a7);have:=h (ZbK P an r.fn N l c cs Φ) ⟨an,r.fn,N,c,cs,rfl⟩ rfl [.code r.assign,.beginRound,.code r.body] (.code ha (.beginR (.code hb .nil))) g (λ_=>0) w _ u M';have ab:(ZbK P an r.fn N l c cs Φ).b.atR { tmps:=(r.params.zip vs).foldl (λtmps (x:Nat×Value)=>tmps.setIfInBounds x.1 x.2) l0.tmps,defers:=[] } [.code r.assign,.beginRound,.code r.body] =
   Frame.round l l0.fn ((l0.params.zip vs.toArray).foldl (λtmps (x:Nat×Value)=>tmps.setIfInBounds x.1 x.2) l0.tmps) l0.assign l0.body .normal:=by
  simp only[Frame.atR,Frame.round,a2,a4,a5,<-a3]
  congr 1
  rw[<-Array.foldl_toList];simp
 have e:(ZbK P an r.fn N l c cs Φ).ds=[]:=rfl;rw[e,ab]at this;have e2:(l0.params.zip vs.toArray).size=l0.params.size:=by simp at j⊢;omega
 rw[e2]at this;exact this
def Zsj{F:Fr P}(hr:F.b.roundOf=nO){o ps da db dk H L s p fv}(hf:ZD H true o=sO (p,.d fv))(hp:p)(ks)(hks:(Yx H ks).map (·.1) |>.Nodup)(h:∀q l r,s q=nO->s l=nO->q≠l->r.H=Kc ks H->r.params=ps->r.fn=F.b.fn->cc P F.an F.N r.assign=sO da->cc P F.an F.N r.body=sO db->r.N=F.N->(∀t∈ps,t<F.N) ->
   ∃Ψ,Ki P fv [.fn (.yield l) [] []] ((s.upd q .dfr).upd l (.loop r .ready)) Ψ/\(∀d s',Ψ (.ret d) s'->Zjr (F.mark q) l r dk H L s')/\(∀d s',Ψ (.panic d) s'->Wk (F.mark q) H L d s')):
  ZC F (.code (.rangeF o ps da db)::dk) H L s:=by
 intro k hk;cases hk with
 | @code _ _ kt _ hc ht =>
 obtain⟨f',ae,a',b',rfl,ak,au,ha,hb,al⟩:=ZqB hc;intro g Z w tmps hN m;have av:Rep g w _ fv:=Yf m ak rfl hf hp F.ds;have af:=Zav (g:=g) (w:=w) (.deferred (sO [])) m.st.fresh;have ah:=af.ext m.st.fresh;obtain⟨hq,m1⟩:=m.newObj af (o:=.dfr) ⟨(m.st.fresh _ (ZHV _)).1,Kw w⟩;let w1:=w.alloc (.deferred (sO []));let lp:Go.Loop:={ state:=.ready,pending:=nO,fn:=F.b.fn,tmps:=tmps,params:=ae,assign:=a',body:=b',defers:=w.heap.size };let r:ZcB:={ fn:=F.b.fn,params:=ps,assign:=a',body:=b',defers:=w.heap.size,H:=Kc ks H,N:=F.N };have ad:=Zav (g:=g) (w:=w1) (.loop lp) m1.st.fresh;have ab:=ad.ext m1.st.fresh;obtain⟨hl,m2⟩:=m1.newObj ad (o:=.loop r .ready) ⟨(m1.st.fresh _ (ZHV _)).1,lp,Kw w1,rfl,au,rfl,rfl,rfl,hN,λt e am=>by
  obtain⟨h1,h2⟩:=Ze0 hks am;exact ZoI (((m1.env t e (Zeo H ks t e h1))).mono ab) h2,rfl,rfl⟩
 have hqsz:w1.heap.size=w.heap.size+1:=by simp[w1]
 have ar:s w1.heap.size=nO:=by have ao:¬w1.heap.size=w.heap.size:=ω;have h0:(s.upd w.heap.size .dfr) w1.heap.size=nO:=hl;simp[ZIi,ao]at h0;exact h0
 obtain⟨Ψ,hV,ai,ag⟩:=h w.heap.size w1.heap.size r hq ar ω rfl rfl rfl ha hb rfl al;have z:Rep g (w1.alloc (.loop lp)) _ fv:=(av.mono ah).mono ab;obtain⟨d,nx,fr,aj,ap,aq,hC⟩:=hV (Zgj g Z L) (w1.alloc (.loop lp)) _ [.func (.yield w1.heap.size) #[] #[]] m2.callSt (WG z rfl) (.cons (.fn (.yield w1.heap.size) [] [] [] [] rfl rfl ψ ψ) .nil);have u:(Instr.enterLoop F.b.fn tmps ae a' b' F.b.roundOf).run P w=.ok (w1.heap.size,[{ target:=.collected w.heap.size,args:=#[] }]) (w1.alloc (.loop lp)):=by rw[hr];simp[Instr.enterLoop,w1,lp]
 have n:=ZhV (P:=P) (b:=F.b) (a:=⟨tmps,F.ds⟩) (k:=kt) (cs:=F.cs) u aj ap aq;obtain⟨e,w',⟨g',s',res,x1,x2,x3,x4⟩,i⟩:=hC (F.b.atR { tmps:=tmps,defers:=[{ target:=.collected w.heap.size,args:=#[] }]++F.ds } (.inRangeFunc w1.heap.size::kt)) F.cs;obtain⟨ac,hm⟩:=m2.afterCall x1 x2;have j:=(ah.trans ab).trans ac;cases e with
 |returned v =>
  cases res with
  |panic d=>exact x3.elim
  |ret d =>refine F.T.back _ _ _ _ (.head n i) ?_;exact F.T.ext _ _ _ _ _ j (ZoH (F:=F.mark w.heap.size) ht hN hm (ai d s' x4))
 |panicked ch =>
  cases res with
  |ret d=>exact x3.elim
  |panic d =>obtain⟨v,rfl,hv⟩:=x3;refine F.T.back _ _ _ _ (.head n i) ?_;exact F.T.ext _ _ _ _ _ j (ag d s' x4 _ _ _ v _ _ hN hm (WG hv rfl))
 |outgrown=>exact i.elim
def Zwa{F:Fr P}{H L d s s'}(n:s'.sub s)(h:Wk F H L d s'):Wk F H L d s :=
 λg Z w v i tmps t m j=>h g Z w v i tmps t (m.sub n) j
inductive Oc where
 |next
 |stop (c:Code)
 |pan (d:D)
def Oc.res:Oc->Res
 |.next=>.ret (.bool true)
 |.stop _=>.ret (.bool false)
 |.pan d=>.panic d
def Zmw(P:Program)(y:D)(n:Nat)(args:Nat->List D)(go:Nat->Oc)(A:Nat->St->Prop):Prop :=
 ∀j,j<n->(∀i,i<j->go i=.next)->∀a,A j a->Ki P y (args j) a λr a'=>r=(go j).res/\A (j+1) a'
inductive Zhk(n:Nat)(go:Nat->Oc)(A:Nat->St->Prop)(a:St):Res->Prop where
 |all (h:∀i,i<n->go i=.next) (ha:A n a):Zhk n go A a (.ret (.tup []))
 |stop (m:Nat) (c:Code) (hm:m<n) (h:∀i,i<m->go i=.next) (hc:go m=.stop c) (ha:A (m+1) a):Zhk n go A a (.ret (.tup []))
 |pan (m:Nat) (d:D) (hm:m<n) (h:∀i,i<m->go i=.next) (hc:go m=.pan d) (ha:A (m+1) a):Zhk n go A a (.panic d)
def Zds(P:Program)(fv:D)(n:Nat)(args:Nat->List D)(t:St):Prop :=
 ∀(y:D) (go:Nat->Oc) (A:Nat->St->Prop) (a0:St),Zmw P y n args go A->A 0 a0->Yc a0 t->Ki P fv [y] (a0.or t) λr S=>∃a,Zhk n go A a r/\a.sub S
def lpS(q l:Nat)(r:ZcB)(st:LSt):St:=(St.single q .dfr).or (St.single l (.loop r st))
structure Zsp(F:Fr P)(busy:St)(E:Oc->St->Prop):Prop where
 fin:∀{H:Env} {L:Loc} {S a:St},E .next a->Yc a busy->(a.or busy).sub S->ZC F [] H L S
 ret:∀{dk:List KH} {H:Env} {L:Loc} {S a:St},E (.stop .ret) a->Yc a busy->(a.or busy).sub S->ZC F (.code .ret::dk) H L S
 exit:∀{id:Nat} {dk:List KH} {H:Env} {L:Loc} {S a:St},Ji id dk=none->E (.stop (.exit id)) a->Yc a busy->(a.or busy).sub S->ZC F (.code (.exit id)::dk) H L S
 pan:∀{H:Env} {L:Loc} {d:D} {S a:St},E (.pan d) a->Yc a busy->(a.or busy).sub S->Wk F H L d S
def Y0.ex{F:Fr P}{rs Φ dds}(n:Y0 F rs Φ dds):∃f,P.funcs[F.b.fn]?=sO f:=by
 obtain⟨an,f,df,cs,i,hrs,rfl⟩:=n;obtain⟨j,h,_⟩:=ZrY i;exact⟨j,h⟩
def Za1{q l r st}:(lpS q l r st) q=sO .dfr:=Zu YE
def QT{q l r st}(h:q≠l):(lpS q l r st) l=sO (.loop r st):=by
 unfold lpS;rw[ZM (Zez (Ne.symm h))];exact YE
def ZfD{q l c r st}(j:c≠q)(i:c≠l):(lpS q l r st) c=nO:=by
 unfold lpS;rw[ZM (Zez j)];exact Zez i
def Ztt{q l r r' st st' a}(h:Yc a (lpS q l r st))(t:q≠l):Yc a (lpS q l r' st'):=λb o n=>by
 by_cases i:b=q;rw[i];exact h q _ Za1;by_cases j:b=l;rw[j];exact h l _ (QT t);rw[ZfD i j]at n;grind
def ZpK{q l r st st' a S}(t:q≠l)(u:Yc a (lpS q l r st))(hs:(a.or (lpS q l r st)).sub S):(a.or (lpS q l r st')).sub (S.upd l (.loop r st')):=λb o i=>by
 by_cases j:b=l;subst j;rw[ZM (u b _ (QT t)),QT t]at i;rw[St.upd_same];exact i;rw[St.upd_ne _ _ j];refine hs b o ?_;by_cases z:b=q;subst z;rw[ZM (u b _ Za1),Za1]at i⊢;exact i;cases n:a b with
 |some x=>rw[Zu n]at i⊢;exact i
 |none=>rw[ZM n,ZfD z j]at i;grind
def ZuT{F:Fr P}{q l:Nat}{r:ZcB}(n:Qu F l Φ)(i:q≠l)(t:∃f,P.funcs[F.b.fn]?=sO f){E:Oc->St->Prop}(j:∀oc a,E oc a->Yc a (lpS q l r .busy)->Φ oc.res (a.or (lpS q l r (match oc with|.next=>.ready|.stop c=>.done c|.pan _=>.busy)))):Zsp F (lpS q l r .busy) E:={
 fin he hd hs:=n.fin (s':=_) (hs l _ (by rw[ZM (hd l _ (QT i))];exact QT i)) (ZpK i hd hs) (j .next _ he hd)
 ret he hd hs:=n.ret (hs l _ (by rw[ZM (hd l _ (QT i))];exact QT i)) (ZpK i hd hs) (j (.stop .ret) _ he hd)
 exit hx he hd hs:=n.exit hx (hs l _ (by rw[ZM (hd l _ (QT i))];exact QT i)) (ZpK i hd hs) (j (.stop (.exit _)) _ he hd)
 pan he hd hs:=n.pan hs (j (.pan _) _ he hd) λan z N c cs e=>by
  obtain⟨f,u⟩:=t;refine⟨f,?_⟩;have:F.b.fn=z:=by rw[e];rfl
  rw[<-this];exact u }
end
end Go.DL
namespace Go.DL
open Go Go.Lib
variable [Zsq]
section
variable {P:Program}
def ZeS{F:Fr P}{kp dk o os H L s}(hg:Zo H o.guard=sO true){e sz b z x y}(hk:o.k=.append e sz b z x y)
  {p q t n m row row2 dy dx} (hx:ZD H true x=sO (p,.d dx)) (hsl:Zbe sz dx=sO (t,n,row)) (hy:ZD H true y=sO (q,.d dy)) (hp:p) (hq:q) (hel:∀g w v,Rep g w v dy->∃news,Ke g w sz m news row2/\ZbS P w sz m v news) (hok:t.okIn s)
  (hb:(n+m)*b<=140737488355328) (hbig:n+m<=big) (h:∀t':Tok,t'.okIn s->DO F kp dk os (Zz H o.dst (.d (.sl t' (n+m) sz (YA n row row2)))) L (s.own t' ((n+m)*sz))) :
  DO F kp dk (o::os) H L (s.own t (n*sz)):=by
 refine Wz λoo g Z w tmps av i r k ak u ao ah hd hN M hr bb=>?_;have hw:=Yi M ao hg;have ay:=Yq u (by rw[hk];rfl);rw[hk]at u;obtain⟨x',y',ag,a9,t1,t2,tu,aj,ad,bh,bg,ar,ba,ax,au,hz,be,al,aw,h0,hzl⟩:=ZcD u;subst be;have ap:Rep g w _ (.sl t n sz row):=Zhs (Yf M al rfl hx hp F.ds) hsl;have az:Rep g w _ _:=Yf M aw rfl hy hq F.ds;obtain⟨zv,hz1,bc,hz3,ie,ac,am⟩:=JE (g:=g) (w:=w) hz;have ae:ie.size=sz:=by simpa[Z2,ac]using au
 have j:zv.cells.size=sz:=by have:=bc.len;simp at this;omega
 have a0:P.bytesOf e=ie.bytes:=by simp[Program.bytesOf,ac]
 rw[a0]at hb;obtain⟨news,bf,aq⟩:=hel _ _ _ az;obtain⟨v',w',g',t',a1,a2,a3,a4,a5,a6,a7⟩:=ZsA (ty:=oo.type) ar ba ax ac am ae j h0 M.st hok ap bf aq hb hbig;have ab:∀l cs,Zj L l=sO cs->t≠.tip (Z l):=λl cs hl ht=>by have:=M.locSt l cs hl;rw[ht]at this;simp[St.own,ZIi]at this
 have ai:∀l cs,Zj L l=sO cs->s (Z l)=nO:=λl cs hl=>by
  cases hx:s (Z l) with
  |none=>rfl
  |some o=>have:=YH (k:=n*sz) hok _ _ hx;rw[M.locSt l cs hl]at this;simp at this
 have mm:Zy g' Z w' tmps H L (s.own t' ((n+m)*sz)):=by
  refine⟨a3,λl cs hl=>(M.loc l cs hl).mono a2 (a6 (Z l) (M.loc l cs hl).lt (ab l cs hl)).1 (a6 (Z l) (M.loc l cs hl).lt (ab l cs hl)).2,λl cs hl=>by rw[a2.keptEq];exact M.locKept l cs hl,λl cs hl=>?_,M.inj,λt e he=>(M.env t e he).mono a2⟩;cases t' with
  |tip b =>
   have:¬Z l=b:=λhb=>by rcases a7 b rfl with h1|h1;exact ab l cs hl (by rw[hb];exact h1);have:=(M.loc l cs hl).lt;omega
   simp only[St.own,ZIi,this,if_false];exact ai l cs hl
  |_=>exact ai l cs hl
 refine YU hN ak ah hd hw ay (v:=v') (w':=w') (e:=.d (.sl t' (n+m) sz (YA n row row2))) ?_ a2 mm a5 (h t' a4 av r k hr bb);have a8:ag = #[x',y']:=by apply Array.ext';simpa using ad
 have af:∀vs,Builtin.append_ a9 oo.type vs=Builtin.append_ #[t1,t2] oo.type vs:=λvs=>by unfold Builtin.append_;simp[bh,bg]
 unfold execOp;simp only[aj,a8,resolve,invoke,builtin,Sem.run_bind,Sem.run_pure,Result.andThen_ok,List.map_toArray,ZHY,ZIf,af,a1]
def Zgw{g w v b off cap sz}(h:Rep g w v (.msl b off 0 cap sz)):∃news,Ke g w sz 0 news (λ_=>[])/\ZbS P w sz 0 v news:=by
 cases h with
 |mslx a _ _ _=>exact⟨[],⟨ψ,λi t=>by omega,λi j v d t=>by omega,ψ⟩,λn=>by simp[Builtin.lenOf],λn _=>by simp[Builtin.firstCells,loadCells,loadCellsFrom]⟩
 |msl _ _ _ _ _ hn hb=>exact⟨[],⟨ψ,λi t=>by omega,λi j v d t=>by omega,ψ⟩,λn=>by simp[Builtin.lenOf],λn _=>run_firstCells_some (P:=P) n sz 0 ⟨b,off,nO⟩ 0 cap [] ψ (λk v u=>by simp at u)⟩
def ZeT{F:Fr P}{dk H L s}(t){tk sz row}(ht:ZS H t=sO (.d (.sl tk 0 sz row)))(h1:ZC F dk ((t,.d .nilsl)::H) L s)
  (h2:∀b off cap,ZC F dk ((t,.d (.msl b off 0 cap sz))::H) L s):ZC F dk H L s:=by
 intro k u g Z w tmps hN m;have z:Rep g w (tmps.getD t undef) (.sl tk 0 sz row):=m.env t _ ht;have i:∀d,Rep g w (tmps.getD t undef) d->Zy g Z w tmps ((t,.d d)::H) L s:=λd hd=>⟨m.st,m.loc,m.locKept,m.locSt,m.inj,λt' e' j=>by
  simp only[ZS]at j;split at j;rename_i hx;subst hx;simp only[ZHE]at j;subst j;exact hd;exact m.env t' e' j⟩
 generalize tmps.getD t undef=v at z i;cases z with
 |sl0 a _ _ _ _ =>
  cases a with
  |none=>exact h1 k u g Z w tmps hN (i _ .nilsl)
  |some a=>exact h2 0 0 0 k u g Z w tmps hN (i _ (.mslx a 0 0 _))
 |sl b o n cap s row t f hl hc hp z one ht hcap hb=>exact h2 b o cap k u g Z w tmps hN (i _ (.msl _ _ _ _ _ hcap hb))
end
end Go.DL
namespace Go.DL
open Go
variable [Zsq]
variable {kp:Option (List Nat)}{L:Loc}{H:Env}{s:St}{w:World}{os:List DOp}{ds:List D}{B:List (Nat × Rd)}{dst:Option Nat}{tmps:Array Value}{g:G}{Φ:Res->St->Prop}{Z:Nat->Nat}{xs:List Opd}{side:Prop}{row:Nat->List D}
section
variable {P:Program}
def ZtD{a:St}{q o}(h:a q=nO):(a.or (St.single q o)).del q=a:=by
 funext b;simp only[St.del];by_cases i:b=q;rw[if_pos i,i,h];rw[if_neg i];cases j:a b with
 |some x=>exact Zu j
 |none=>rw[ZM j];exact Zez i
def Y0.retM{F:Fr P}{rs Φ dds}(j:Y0 F rs Φ dds){q a dk H L}(i:a q=nO)(h:Unw P dds nO a (Zk5 H L rs Φ)):
  ZC (F.mark q) (.code .ret::dk) H L (a.or (St.single q .dfr)) :=
 (j.mark q).retU ⟨by rw[ZM i];exact YE,by rw[ZtD i];exact h⟩
def Y0.ret1{F:Fr P}{rs Φ}(hF:Y0 F rs Φ []){q a dk H L}(i:a q=nO){p ds}(d s')(t:YK H L a rs=sO (p,ds))(z:p)(n:(Qy ds).Le d)(j:s'.sub a)(u:Φ (.ret d) s'):
  ZC (F.mark q) (.code .ret::dk) H L (a.or (St.single q .dfr)):=hF.retM i ⟨p,ds,d,s',t,z,n,j,u⟩
def Y0.fin1{F:Fr P}{rs Φ}(hF:Y0 F rs Φ []){q a H L}(i:a q=nO){p ds}(d s')(t:YK H L a rs=sO (p,ds))(z:p)(n:(Qy ds).Le d)(j:s'.sub a)(u:Φ (.ret d) s'):
  ZC (F.mark q) [] H L (a.or (St.single q .dfr)) :=
 (hF.mark q).finU ⟨by rw[ZM i];exact YE,by rw[ZtD i];exact⟨p,ds,d,s',t,z,n,j,u⟩⟩
def Y0.pan1{F:Fr P}{rs Φ}(t:Y0 F rs Φ []){q a H L d}(i:a q=nO)(s')(n:s'.sub a)(j:Φ (.panic d) s'):Wk (F.mark q) H L d (a.or (St.single q .dfr)) :=
 (t.mark q).panU ⟨by rw[ZM i];exact YE,by rw[ZtD i];exact⟨d,s',ZHL d,n,j⟩⟩
def Zgk{a t}(h:Yc a t){q o}(i:t q=sO o):a q=nO:=h q o i
end
section
variable {P:Program}
def ZaI{F:Fr P}{dk H L s b ds ds'}(h:s b=sO (.cells ds))(z:LeC ds ds')(k:ZC F dk H L (s.upd b (.cells ds'))):ZC F dk H L s:=by
 intro u hk g Z w tmps t m;have hc:Wc g w b ds:=m.st.obj b _ h;exact k u hk g Z w tmps t ⟨m.st.updL (o:=.cells ds') (hc.le z) (m.st.kept b _ h),m.loc,m.locKept,λl n j=>by
  have i:Z l≠b:=λe=>by have:=m.locSt l n j;rw[e,h]at this;simp at this
  rw[St.upd_ne _ _ i];exact m.locSt l n j,m.inj,m.env⟩
end
def ZyW{s cs r}:∀{len},I cs=len*s->(∀i,i<len->part cs (i*s) s=r i)->cs=(ZHT len).flatMap r:=by
 intro len u n;have j:∀k,k<=len->cs.take (k*s)=(ZHT k).flatMap r:=by
  intro k;induction k with
  |zero=>intro _;simp
  |succ k ih =>
   intro t;rw[List.range_succ,List.flatMap_append,<-ih ω,ZIa,Nat.one_mul,List.take_add]
   congr 1
   simp only[List.flatMap_cons,List.flatMap_nil,ZH8];rw[<-n k t];rfl
 have:=j len (ZHV _);rw[<-u,ZH2]at this;exact this
def ZjM(c:Array Value)(T:TypeId)(i:∀b,w.heap.size<=b->g.prot b=0/\¬g.kept b):Zaq g w g (w.drew.alloc (.cells c T)):={
 size:=by simp
 old b hb:=(by first|exact heap_alloc_old w.drew _ b hb|exact heap_alloc_old w.drew _ hb)
 prot b hb:=rfl
 fresh b hb:=by
  have:(w.drew.alloc (.cells c T)).heap.size=w.heap.size+1:=by simp
  rw[this]at hb;exact(i b ω).1
 kept:=rfl
 os:=rfl
 output:=rfl
 tape:=rfl }
section
variable {P:Program}
def ZA7{g w len s z t e}{parts:List (Nat×Value)}{ds}(hu:P.underlying t=sO (.slice e))(hsz:Z2 P e=sO s)(hz:Za8 P e=sO z)(hdis:QR len (parts.map (·.1))=true)(hzl:I z=s)(hs0:0<s)(hbig:len*s<=2 ^ 24)(hl0:0<len)(hd:ZO (Rep g w) (parts.map (·.2)) ds)(hp:Qz s ds=true):
  ∃cv:Array Value,(Instr.buildSlice t len parts.toArray).run P w=.ok (.slice (sO ⟨w.heap.size,0,nO⟩) len len) (w.alloc (.cells cv e)) /\
   ZO (Rep g w) cv.toList ((ZHT len).flatMap (ZY z ((parts.map (·.1)).zip ds)))/\∀v∈cv,v.one1=true:=by
 obtain⟨zv,hz1,ai,al,ie,aj,ar⟩:=JE (g:=g) (w:=w) hz;have j:ie.size=s:=by simpa[Z2,aj]using hsz
 have u:zv.cells.size=s:=by have:=ai.len;simp at this;omega
 have hn:(parts.map (·.1)).length=I ds:=by have:=hd.len;simpa using this
 let c0:Array Value:=(Array.range (len*s)).map (zv.cells[· % zv.cells.size]!);let d0:List D:=(ZHT (len*s)).map λi=>z.getD (i % s) .undef;have ae:ZO (Rep g w) c0.toList d0:=by refine Yo (by simp[c0,d0]) (λi v d hv hd=>?_);simp only[c0,d0,Array.toList_map,Array.toList_range,List.getElem?_map,ZHS]at hv hd;obtain⟨a,ha,rfl⟩:=hv;obtain⟨b,hb,rfl⟩:=hd;rw[ha]at hb;simp only[ZHE]at hb;subst hb;have n:a % s<s:=Nat.mod_lt _ hs0;refine ai.get (a % s) _ _ ?_ ?_;rw[u];simp[getElem!_pos,u,n];simp[ZHU,hzl,n]
 have af:∀v∈c0,v.one1=true:=λv hv=>by simp only[c0,Array.mem_map]at hv;obtain⟨a,_,rfl⟩:=hv;have n:a % zv.cells.size<zv.cells.size:=Nat.mod_lt _ ω;rw[getElem!_pos zv.cells (a % zv.cells.size) n];exact al _ (Array.getElem_mem n)
 have ab:I d0=len*s:=by simp[d0]
 obtain⟨cs,ac,ak,ad⟩:=ZjI (parts.map (·.1)) ds d0 hdis hn hp ab;obtain⟨cv,am,ao,aq⟩:=Zhy (g:=g) (w:=w) (λi=>sO (i*s,s)) parts ((parts.map (·.1)).map λi=>(i*s,s)) ds cs d0 c0 (λi x q hx hq=>by
  simp only[List.map_map,List.getElem?_map,hx,ZId,ZHE,Function.comp_def]at hq;rw[<-hq]) ψ hd ae af ac
 have ag:¬len*s=0:=by simp[Nat.mul_eq_zero];omega
 have ah:=run_buildSlice (P:=P) w t e len parts.toArray cv ie zv hu aj ar (by rw[j];omega) (by rw[j];exact ag) (by rw[j];exact am);refine⟨cv,ah,?_,aq⟩;have:cs=(ZHT len).flatMap (ZY z ((parts.map (·.1)).zip ds)):=ZyW ak λi hi=>by rw[ad i hi];have ap:part d0 (i*s) s=z:=ZkZ hzl hs0 hi;rw[ap]
 rw[<-this];exact ao
def Zvc{F:Fr P}{kp dk o os H L s}(hg:Zo H o.guard=sO true){len n z is xs}(hk:o.k=.bsl len n z is xs){p es ds}(ha:Yg H true xs=sO (p,es))(hds:Kk es=sO ds)(hp:p)(hok:Qz n ds=true)(hl0:0<len)(h:∀b,s b=nO->DO F kp dk os (Zz H o.dst (.d (.msl b 0 len len n))) L (s.upd b (.cells ((ZHT len).flatMap (ZY z (is.zip ds)))))):DO F kp dk (o::os) H L s:=by
 refine Wz λoo g Z w tmps ao i r k ar j av ad hd hN m hr al=>?_;have hw:=Yi m av hg;have ap:=Yq j (by rw[hk];rfl);rw[hk]at j;obtain⟨t,e,parts,ak,hu,am,hz,aj,rfl,af,au,ag,ah⟩:=ZxS j;have ab:=ZcH m rfl F.ds aj ha hp;have u:=Qp ab hds;obtain⟨cv,h1,h2,h3⟩:=ZA7 (P:=P) (g:=g) (w:=w) (parts:=parts.toList.map λx=>(x.1,(Act.mk tmps F.ds).eval x.2)) hu am hz (by simpa[List.map_map,Function.comp_def]using af) au ag ah hl0
  (by simpa[List.map_map,Function.comp_def]using u) hok
 have ai:ZO (Rep g w) cv.toList ((ZHT len).flatMap (ZY z ((parts.toList.map (·.1)).zip ds))):=by simpa[List.map_map,Function.comp_def]using h2
 have ae:=Zav (g:=g) (w:=w) (.cells cv e) m.st.fresh;have he:=ae.ext m.st.fresh;have aq:W2 g (w.alloc (.cells cv e)) w.heap.size (.cells ((ZHT len).flatMap (ZY z ((parts.toList.map (·.1)).zip ds)))) :=
  ⟨(m.st.fresh _ (ZHV _)).1,_,e,Kw w,by rw[<-ai.len];simp,λi v d hv hd=>(ai.get i v d (by simpa using hv) hd).mono he,h3⟩
 obtain⟨hn,m'⟩:=m.newObj ae aq;have ac:(execOp (Act.mk tmps F.ds).eval oo).run P w=.ok (.value (.slice (sO ⟨w.heap.size,0,nO⟩) len len)) (w.alloc (.cells cv e)):=by
  simp only[execOp,ak,Sem.run_bind];have e1:(parts.map λx=>(x.1,(Act.mk tmps F.ds).eval x.2))=(parts.toList.map λx=>(x.1,(Act.mk tmps F.ds).eval x.2)).toArray:=by apply Array.ext';simp
  rw[e1,h1];rfl
 refine YU (L':=L) hN ar ad hd hw ap (e:=.d (.msl w.heap.size 0 len len n)) ac he m' (Rep.msl _ _ _ _ _ (ZHV _) ?_) ?_;unfold big;have:len<=len*n:=Nat.le_mul_of_pos_right _ ag;omega;exact h _ hn ao r k hr al
def Zo8(o:DOp)(H:Env)(L:Loc)(s:St):SR :=
 match o.k with
 |.bsl _ _ _ _ _=>.stop
 |_=>ZG o H L s
def Zlh(K:Env->Loc->St->Prop)(X:List DOp->Env->Loc->St->Prop):List DOp->Env->Loc->St->Prop
 | [],H,L,s=>K H L s
 |o::os,H,L,s=>match Zo8 o H L s with
  |.ok side H' L' s'=>side/\Zlh K X os H' L' s'
  |.all side pre H' s'=>side/\∀b,pre b->Zlh K X os (H' b) L (s' b)
  |.stop=>X (o::os) H L s
def Zk4{F:Fr P}{kp}{dk}:∀{os} {H} {L} {s},
  Zlh (λH L s=>ZC F dk (kept kp H) (Zll kp H L) s) (λos H L s=>DO F kp dk os H L s) os H L s->DO F kp dk os H L s
 | [],H,L,s,h=>Zfm h
 |o::os,H,L,s,h=>by
  have i:∀r,Zo8 o H L s=r->r=.stop\/ZG o H L s=r:=λr j=>by unfold Zo8 at j;split at j;exact .inl j.symm;exact .inr j
  simp only[Zlh]at h;split at h;rename_i t H' L' s' n;rcases i _ n with h2|h2;cases h2;exact Q1 h2 h.1 (Zk4 h.2);rename_i t pre H' s' n;rcases i _ n with h2|h2;cases h2;exact Znr h2 h.1 λb u=>Zk4 (h.2 b u);exact h
def Zvh{g w s sz m v1 v2 row row2 tT u ty e tu i z}(ht:P.underlying tT=sO (.slice e))(hu:P.underlying u=sO tu)(hnu:∀k,tu≠.int k)(hi:P.info? e=sO i)(hz:i.zero=sO z)(hsz:i.size=sz)(hzc:z.cells.size=sz)(hone:∀x∈z.cells,x.one1=true)(h0:0<sz)(hs:Yp g s w)(h1:Rep g w v1 (.sl .full 0 sz row)){news}(hm:0<m)(h2:Ke g w sz m news row2)(h3:ZbS P w sz m v2 news)(hb:m*i.bytes<=140737488355328)(hbig:m<=big):
    ∃(cap:Nat) (cv:Array Value),(Builtin.append_ #[tT,u] ty #[v1,v2]).run P w=.ok (.slice (sO ⟨w.heap.size,0,nO⟩) m cap) (w.drew.alloc (.cells cv e))/\m<=cap/\cap<=big/\cv.size=cap*sz/\(∀v∈cv,v.one1=true) /\
      ∀(k:Nat) (v d),cv[k]?=sO v->((ZHT m).flatMap row2++List.replicate ((cap-m)*sz) .any)[k]?=sO d->Rep g w v d:=by
  subst hsz;have j:∀ac,v1=.slice ac 0 0->∃(cap:Nat) (cv:Array Value),(Builtin.append_ #[tT,u] ty #[v1,v2]).run P w=.ok (.slice (sO ⟨w.heap.size,0,nO⟩) m cap) (w.drew.alloc (.cells cv e))/\m<=cap/\cap<=big/\cv.size=cap*i.size/\(∀v∈cv,v.one1=true) /\
      ∀(k:Nat) (v:Value) (d:D),cv[k]?=sO v->((ZHT m).flatMap row2++List.replicate ((cap-m)*i.size) .any)[k]?=sO d->Rep g w v d:=by
    intro ac hv;subst hv;obtain⟨ag,aq,ho1,ap⟩:=ZiI (P:=P) h1 h0;have am:ag=[]:=List.eq_nil_of_length_eq_zero (by simpa using aq.len);subst am;have ho:=ap;have ab:=ZmJ (ty:=ty) (n:=0) (cap:=0) ht hu hnu hi hz h3 ho ω (by simp only[big]at hbig;omega) (by rw[Nat.zero_add];exact hb);rw[Nat.zero_add]at ab;have al:=grownCap_ge w m 0 e;have ak:=grownCap_le_maxLen w m 0 e (by simp only[big]at hbig;simp only[maxLen];omega);refine⟨_,_,ab,al,by simp only[maxLen]at ak;simp only[big];omega,?_,λv hv=>?_,λk v d hv hd=>?_⟩;simp only[List.nil_append,List.size_toArray,ZHO,h2.len,Array.length_toList,size_zeroCells,hzc,<-ZIa]
    congr 1;omega
    . simp only[List.nil_append,List.mem_toArray,List.mem_append]at hv;rcases hv with hv|hv;exact h2.one v hv;simp only[Builtin.zeroCells,Array.mem_toList_iff]at hv;first
      | (simp only[Array.mem_map,Array.mem_range]at hv
         obtain⟨a,_,rfl⟩:=hv;have af:a % z.cells.size<z.cells.size:=Nat.mod_lt _ ω;rw[getElem!_pos z.cells (a % z.cells.size) af];exact hone _ (Array.getElem_mem af))
    simp only[List.nil_append,List.getElem?_toArray]at hv;have ai:((ZHT m).flatMap row2).length=m*i.size:=by
      have:∀k,k<=m->((ZHT k).flatMap row2).length=k*i.size:=by
        intro k;induction k with
        |zero=>intro _;simp
        |succ k ih =>intro hk;rw[List.range_succ,List.flatMap_append,ZHO,ih ω];simp[h2.rlen k hk,ZIa]
      exact this m (ZHV _)
    by_cases hk:k<m*i.size
    . rw[ZIc (by rw[h2.len];exact hk)]at hv;rw[ZIc (by rw[ai];exact hk)]at hd;have ae:k / i.size<m:=Nat.div_lt_of_lt_mul (by rw[Nat.mul_comm];exact hk);have ah:k % i.size<i.size:=Nat.mod_lt _ h0;have e1:k / i.size*i.size+k % i.size=k:=by rw[Nat.mul_comm];exact Nat.div_add_mod k i.size
      refine h2.rep (k / i.size) (k % i.size) v d ae ah (by rw[e1];exact hv) ?_;have ao:∀q,q<=m->∀a b,a<q->b<i.size->((ZHT q).flatMap row2)[a*i.size+b]?=(row2 a)[b]?:=by
        intro q;induction q with
        |zero=>intro _ a b ha;omega
        |succ q ih =>
          intro hq a b ha hb;have ad:((ZHT q).flatMap row2).length=q*i.size:=by
            have:∀k,k<=m->((ZHT k).flatMap row2).length=k*i.size:=by
              intro k;induction k with
              |zero=>intro _;simp
              |succ k ih =>intro hk;rw[List.range_succ,List.flatMap_append,ZHO,ih ω];simp[h2.rlen k hk,ZIa]
            exact this q ω
          rw[List.range_succ,List.flatMap_append];by_cases aj:a<q;have:a*i.size+b<q*i.size:=by have:=ZH5 i.size (show a+1<=q from aj);rw[ZIa,Nat.one_mul]at this;omega
          rw[ZIc (by rw[ad];exact this)];exact ih ω a b aj hb;obtain rfl:a=q:=ω;rw[ZIq (by rw[ad];omega),ad];simp
      rw[<-ao m (ZHV _) _ _ ae ah,e1];exact hd
    rw[ZIq (by rw[ai];omega),List.getElem?_replicate]at hd;split at hd;simp only[ZHE]at hd;subst hd;exact .any v;simp at hd
  cases h1 with
  |sl0 a t s row htt=>exact j a rfl
  |sl b o n cap sz row t f hl hc hp hr one htok hcap hb' =>simp only[Zlb]at htok;subst htok;exact j _ rfl
def Zpn{F:Fr P}{kp dk o os H L s}(hg:Zo H o.guard=sO true){e sz b z x y}(hk:o.k=.append e sz b z x y){p q m row row2 dy dx}(hx:ZD H true x=sO (p,.d dx))(hsl:Zbe sz dx=sO (.full,0,row))(hy:ZD H true y=sO (q,.d dy))(hel:QK sz dy=sO (m,row2))(hp:p)(hq:q)(hm:0<m)(hb:m*b<=140737488355328)(hbig:m<=big)(h:∀c cap,s c=nO->m<=cap->DO F kp dk os (Zz H o.dst (.d (.msl c 0 m cap sz))) L (s.upd c (.cells ((ZHT m).flatMap row2++List.replicate ((cap-m)*sz) .any)))):
  DO F kp dk (o::os) H L s:=by
 refine Wz λoo g Z w tmps au i r k aj n am af hd hN M hr bb=>?_;have hw:=Yi M am hg;have az:=Yq n (by rw[hk];rfl);rw[hk]at n;obtain⟨x',y',ad,a9,t1,t2,tu,ah,u,bg,bf,aq,ba,ay,ar,hz,be,ak,ax,h0,hzl⟩:=ZcD n;subst be;have ao:Rep g w _ (.sl .full 0 sz row):=Zhs (Yf M ak rfl hx hp F.ds) hsl;have a0:Rep g w _ _:=Yf M ax rfl hy hq F.ds;obtain⟨zv,hz1,bc,ai,ie,t,al⟩:=JE (g:=g) (w:=w) hz;have ab:ie.size=sz:=by simpa[Z2,t]using ar
 have j:zv.cells.size=sz:=by have:=bc.len;simp at this;omega
 have a7:P.bytesOf e=ie.bytes:=by simp[Program.bytesOf,t]
 rw[a7]at hb;obtain⟨news,ag,ap⟩:=ZmS (P:=P) a0 hel h0;obtain⟨cap,cv,a1,a2,a3,a4,a5,a6⟩:=Zvh (ty:=oo.type) aq ba ay t al ab j ai h0 M.st ao hm ag ap hb hbig;have ae:Zaq g w g (w.drew.alloc (.cells cv e)):=ZjM (g:=g) (w:=w) cv e M.st.fresh;have he:=ae.ext M.st.fresh;have aw:((ZHT m).flatMap row2).length=m*sz:=by
  have:∀k,k<=m->((ZHT k).flatMap row2).length=k*sz:=by
   intro k;induction k with
   |zero=>intro _;simp
   |succ k ih =>intro hk;rw[List.range_succ,List.flatMap_append,ZHO,ih ω];simp[ag.rlen k hk,ZIa]
  exact this m (ZHV _)
 have av:W2 g (w.drew.alloc (.cells cv e)) w.heap.size (.cells ((ZHT m).flatMap row2++List.replicate ((cap-m)*sz) .any)) :=
  ⟨(M.st.fresh _ (ZHV _)).1,_,e,Kw w.drew,by rw[ZHO,aw,List.length_replicate,a4,<-ZIa];congr 1;omega,λi v d hv hd=>(a6 i v d hv hd).mono he,a5⟩
 obtain⟨hn,m'⟩:=M.newObj ae av;refine YU (L':=L) hN aj af hd hw az (e:=.d (.msl w.heap.size 0 m cap sz)) ?_ he m' (Rep.msl _ _ _ _ _ a2 a3) (h _ cap hn a2 au r k hr bb);have a8:ad = #[x',y']:=by apply Array.ext';simpa using u
 have ac:∀vs,Builtin.append_ a9 oo.type vs=Builtin.append_ #[t1,t2] oo.type vs:=λvs=>by unfold Builtin.append_;simp[bg,bf]
 unfold execOp;simp only[ah,a8,resolve,invoke,builtin,Sem.run_bind,Sem.run_pure,Result.andThen_ok,List.map_toArray,ZHY,ZIf,ac,a1]
def Zzk{F:Fr P}{kp dk o fl os H L s B}(hg:Zo H o.guard=sO true){e sz b z x y}(hk:o.k=.append e sz b z x y){p q m row row2 dy dx}(hx:ZD H true x=sO (p,.d dx))(hsl:Zbe sz dx=sO (.full,0,row))(hy:ZD H true y=sO (q,.d dy))(hel:QK sz dy=sO (m,row2))(hp:p)(hq:q)(hm:0<m)(hb:m*b<=140737488355328)(hbig:m<=big)(h:∀c cap,s c=nO->m<=cap->Zc2 false fl s (s.upd c (.cells ((ZHT m).flatMap row2++List.replicate ((cap-m)*sz) .any))) L L B /\
   DOA F kp dk os (Zz H o.dst (.d (.msl c 0 m cap sz))) L (s.upd c (.cells ((ZHT m).flatMap row2++List.replicate ((cap-m)*sz) .any))) (Ze6 false fl B)):
  DOA F kp dk ((o,fl)::os) H L s B:=by
 refine Zbz (λe' s'=>∃c cap,s c=nO/\m<=cap/\e'=.d (.msl c 0 m cap sz)/\s'=s.upd c (.cells ((ZHT m).flatMap row2++List.replicate ((cap-m)*sz) .any))) (by rw[hk];rfl) (λH' L' os' i j=>?_) (λe2 s2 ⟨c,cap,h1,h2,h3,h4⟩=>by
  subst h3;subst h4;exact h c cap h1 h2)
 have h1:ZA H H' (ZV x):=λt u=>i t (by simp[ZB,hk,Yl,u]);have h2:ZA H H' (ZV y):=λt u=>i t (by simp[ZB,hk,Yl,u]);have h3:ZA H H' (ZbX o.guard):=λt u=>i t (by simp[ZB,u]);exact Zpn (by rw[Y4 h3];exact hg) hk (by rw[ZT h1];exact hx) hsl (by rw[ZT h2];exact hy) hel hp hq hm hb hbig λc cap hc n=>j _ _ ⟨c,cap,hc,n,rfl,rfl⟩
end
def Zv7(g:G)(w:World)(b:Nat)(ds:List D):Prop :=
 ∃(vs:Array Value) (T:TypeId),w.heap[b]?=sO (.cells vs T (0,0))/\vs.size=I ds/\(∀(i:Nat) (v:Value) (d:D),vs[i]?=sO v->ds[i]?=sO d->Rep g w v d)/\(∀v∈vs,v.one1=true)/\I ds<=g.prot b
def YC(t:St)(Ln:List Nat)(d d':D):Prop:=∀g w v,(∀b∈Ln,∀ds,t b=sO (.cells ds)->Zv7 g w b ds)->Rep g w v d->Rep g w v d'
inductive LdC(t:St)(Ln:List Nat):List D->List D->Prop where
 |nil:LdC t Ln [] []
 |cons {d d':D} {l l':List D} (h:YC t Ln d d') (r:LdC t Ln l l'):LdC t Ln (d::l) (d'::l')
def YC.refl{t Ln}(d):YC t Ln d d:=λ_ _ _ _ h=>h
def LdC.refl{t Ln}:∀l:List D,LdC t Ln l l
 | []=>.nil
 |d::l=>.cons (YC.refl d) (LdC.refl l)
def LdC.len{t Ln l l'}(h:LdC t Ln l l'):I l=I l':=by
 induction h with
 |nil=>rfl
 |cons _ _ ih=>simp[ih]
def LdC.get{t Ln l l'}(h:LdC t Ln l l'){i:Nat}{n}(j:l'[i]?=sO n):∃d,l[i]?=sO d/\YC t Ln d n:=by
 induction h generalizing i with
 |nil=>simp at j
 |cons h1 _ ih =>
  cases i with
  |zero=>simp at j;subst j;exact⟨_,rfl,h1⟩
  |succ i=>simpa using ih (by simpa using j)
def YC.agg{t Ln l l'}(h:LdC t Ln l l'):YC t Ln (.agg l) (.agg l'):=by
 intro g w v hf n;cases n with
 |agg vs _ hn hc one =>refine .agg vs _ (hn.trans h.len) (λi v d hv u=>?_) one;obtain⟨x,z,j⟩:=h.get u;exact j g w v hf (hc i v x hv z)
def YC.msl{t Ln b n cap sz ds row}(hb:b∈Ln)(ht:t b=sO (.cells ds))(hlen:n*sz<=I ds)(hrow:∀i,i<n->LdC t Ln ((ds.drop (i*sz)).take sz) (row i)):YC t Ln (.msl b 0 n cap sz) (.sl .none n sz row):=by
 intro g w v hf hr;obtain⟨vs,T,hh,hsz,hc,one,hp⟩:=hf b hb ds ht;cases hr with
 |mslx a _ _ _=>exact .sl0 _ _ _ _ ψ
 |msl _ _ _ _ _ hcap hbig =>
 have z:∀i j,i<n->j<sz->i*sz+j<I ds:=λi j hi hj=>by have:(i+1)*sz<=n*sz:=ZH5 _ hi;rw[ZIa,Nat.one_mul]at this;omega
 have u:∀i j,i<n->j<sz->vs[i*sz+j]?=sO (vs.getD (i*sz+j) undef):=λi j hi hj=>by have h1:=z i j hi hj;simp only[Array.getD_eq_getD_getElem?,Array.getElem?_eq_getElem (show i*sz+j<vs.size by omega),ZIk]
 have ac:∀i j,i<n->j<sz->vs.getD (i*sz+j) undef∈vs:=λi j hi hj=>by have h1:=z i j hi hj;simp only[Array.getD_eq_getD_getElem?,Array.getElem?_eq_getElem (show i*sz+j<vs.size by omega),ZIk];exact Array.getElem_mem _
 have ab:∀i,i<n->(row i).length=sz:=λi hi=>by rw[<-(hrow i hi).len,ZHZ,ZIh];have:(i+1)*sz<=n*sz:=ZH5 _ hi;rw[ZIa,Nat.one_mul]at this;omega
 refine .sl b 0 n cap sz row .none (λi j=>vs.getD (i*sz+j) undef) ab (λi j hi hj=>?_) (λi j hi hj=>?_) (λi j d hi hd=>?_) (λi j hi hj=>one _ (ac i j hi hj)) trivial hcap hbig;rw[Nat.zero_add,Zbg hh];exact u i j hi hj;have:=z i j hi hj;omega;have hj:j<sz:=by rw[<-ab i hi];exact(List.getElem?_eq_some_iff.1 hd).1
 obtain⟨x,hx,ad⟩:=(hrow i hi).get hd;rw[ZIm,if_pos hj,List.getElem?_drop]at hx;exact ad g w _ hf (hc _ _ x (u i j hi hj) hx)
inductive LdE(t:St)(Ln:List Nat):Env->Env->Prop where
 |nil:LdE t Ln [] []
 |cons {k:Nat} {d d':D} {H H':Env} (h:YC t Ln d d') (r:LdE t Ln H H'):LdE t Ln ((k,.d d)::H) ((k,.d d')::H')
 |skip {k:Nat} {e:E} {H H':Env} (r:LdE t Ln H H'):LdE t Ln ((k,e)::H) ((k,e)::H')
inductive LdL(t:St)(Ln:List Nat):Loc->Loc->Prop where
 |nil:LdL t Ln [] []
 |cons {k:Nat} {c c':List D} {L L':Loc} (h:LdC t Ln c c') (r:LdL t Ln L L'):LdL t Ln ((k,c)::L) ((k,c')::L')
def LdE.refl{t Ln}:∀H:Env,LdE t Ln H H
 | []=>.nil
 |_::H=>.skip (LdE.refl H)
def LdE.get{t Ln H H'}(h:LdE t Ln H H'){k n}(i:ZS H' k=sO n):∃e,ZS H k=sO e/\(e=n\/∃x y,e=.d x/\n=.d y/\YC t Ln x y):=by
 induction h with
 |nil=>simp[ZS]at i
 |cons h1 _ ih =>rename_i u d z H H' _;simp only[ZS]at i⊢;by_cases j:u=k;simp only[j,if_true,ZHE]at i⊢;exact⟨_,rfl,.inr ⟨d,z,rfl,i.symm,h1⟩⟩;simp only[j,if_false]at i⊢;exact ih i
 |skip _ ih =>rename_i u e H H' _;simp only[ZS]at i⊢;by_cases j:u=k;simp only[j,if_true,ZHE]at i⊢;exact⟨_,rfl,.inl i⟩;simp only[j,if_false]at i⊢;exact ih i
def LdL.get{t Ln L L'}(h:LdL t Ln L L'){k j}(i:Zj L' k=sO j):∃c,Zj L k=sO c/\LdC t Ln c j:=by
 induction h with
 |nil=>simp[Zj]at i
 |cons h1 _ ih =>rename_i u c j L L' _;simp only[Zj]at i⊢;by_cases n:u=k;simp only[n,if_true,ZHE]at i⊢;exact⟨_,rfl,i▸h1⟩;simp only[n,if_false]at i⊢;exact ih i
def LdL.getI{t Ln L L'}(h:LdL t Ln L L'){k c}(i:Zj L k=sO c):∃j,Zj L' k=sO j:=by
 induction h with
 |nil=>simp[Zj]at i
 |cons h1 _ ih =>rename_i u c j L L' _;simp only[Zj]at i⊢;by_cases n:u=k;simp only[n,if_true];exact⟨_,rfl⟩;simp only[n,if_false]at i⊢;exact ih i
def St.delL(s:St)(Ln:List Nat):St:=λb=>if b∈Ln then nO else s b
def Ju(g:G)(t:St)(Ln:List Nat):G:={ g with prot:=λb=>if b∈Ln then (match t b with|some (.cells ds)=>I ds|_=>0) else g.prot b }
def Zbm{t:St}{Ln:List Nat}(j:Yp g t w)(n:∀b∈Ln,∃ds,t b=sO (.cells ds)):Ext g w (Ju g t Ln) w:={
 size:=ZHV _
 prot b:=by simp only[Ju];split;rename_i h;obtain⟨ds,i⟩:=n b h;have:=(j.obj b _ i).1;omega;exact ZHV _
 cell _ _ _:=rfl
 hdr _ _ h:=h
 kept _ _:=rfl
 keptProt b hb:=by simp only[Ju];split;rename_i h;obtain⟨ds,i⟩:=n b h;exact absurd hb (j.kept b _ i);rfl
 keptEq:=rfl
 os:=rfl
 output:=rfl
 tape:=rfl }
def Zli{g w t Ln}(n:Yp g t w)(hL:∀b∈Ln,∃ds,t b=sO (.cells ds)):∀b∈Ln,∀ds,t b=sO (.cells ds)->Zv7 (Ju g t Ln) w b ds:=by
 intro b hb ds u;obtain⟨hp,vs,T,h1,h2,h3,z⟩:=n.obj b _ u;exact⟨vs,T,h1,h2,λi v d hv j=>(h3 i v d hv j).mono (Zbm n hL),z,by simp only[Ju,if_pos hb,u];exact ZHV _⟩
section
variable {P:Program}
def ZcN{F:Fr P}{dk H H' L L' s}(Ln)(hL:∀b∈Ln,∃ds,s b=sO (.cells ds))(hE:LdE s Ln H H')(hLL:LdL s Ln L L')(k:ZC F dk H' L' (s.delL Ln)):ZC F dk H L s:=by
 intro kk hk g Z w tmps hN m;have hx:=Zbm m.st hL;have z:=Zli m.st hL;have t:∀c,c∉Ln->(Ju g s Ln).prot c=g.prot c:=λc hc=>by simp only[Ju,if_neg hc]
 refine F.T.ext _ _ _ _ _ hx (k kk hk _ Z w tmps hN ?_);have ae:∀l cs,Zj L l=sO cs->Z l∉Ln:=λl cs hl h=>by obtain⟨ds,hd⟩:=hL _ h;have:=m.locSt l cs hl;rw[hd]at this;simp at this
 refine⟨⟨λc x j=>?_,λc x j=>?_,λc hc=>?_,λn cs hc=>(m.st.tabs n cs hc).mono hx⟩,λl cs hl=>?_,λl cs hl=>?_,λl cs hl=>?_,λl l' cs cs' h1 h2=>?_,λt' e he=>?_⟩;simp only[St.delL]at j;by_cases hc:c∈Ln;simp[hc]at j;simp only[hc,if_false]at j;exact(m.st.obj c x j).mono hx rfl (t c hc);simp only[St.delL]at j;by_cases hc:c∈Ln;simp[hc]at j;simp only[hc,if_false]at j;exact m.st.kept c x j;have h1:=m.st.fresh c hc;refine⟨(t c λh=>?_).trans h1.1,h1.2⟩;obtain⟨ds,hd⟩:=hL c h;have:=(m.st.obj c _ hd).lt;omega;obtain⟨c,hc,u⟩:=hLL.get hl;have ac:=(m.loc l c hc).mono hx rfl (t _ (ae l c hc));obtain⟨h1,vs,T,h2,h3,h4,h5⟩:=ac;refine⟨h1,vs,T,h2,h3.trans u.len,λi v d hv hd=>?_,h5⟩;obtain⟨x,ab,af⟩:=u.get hd;exact af _ w v z (h4 i v x hv ab);obtain⟨c,hc,_⟩:=hLL.get hl;exact m.locKept l c hc;obtain⟨c,hc,_⟩:=hLL.get hl;simp only[St.delL];split;rfl;exact m.locSt l c hc;obtain⟨c,hc,_⟩:=hLL.get h1;obtain⟨c',ad,_⟩:=hLL.get h2;exact m.inj l l' c c' hc ad;obtain⟨e0,h0,h1⟩:=hE.get he;have hr:=m.env t' e0 h0;rcases h1 with h1|⟨x,y,h1,h2,h3⟩;subst h1;exact(hr.mono hx).locs λl cs hl=>⟨(hLL.getI hl),rfl⟩;subst h1;subst h2;exact h3 _ w _ z (Rep.mono hr hx)
inductive SC(N:Nat->Prop):D->Prop where
 |int (k:IntKind) (n:Int):SC N (.int k n)
 |bool (b:Bool):SC N (.bool b)
 |str (l:List UInt8):SC N (.str l)
 |nilsl:SC N .nilsl
 |agg (cs:List D) (h:∀c∈cs,SC N c):SC N (.agg cs)
 |tup (cs:List D) (h:∀c∈cs,SC N c):SC N (.tup cs)
 |sl0 (t:Tok) (s:Nat) (row:Nat->List D):SC N (.sl t 0 s row)
 |tip (b n s:Nat) (row:Nat->List D) (hb:N b) (h:∀i,i<n->∀c∈row i,SC N c):SC N (.sl (.tip b) n s row)
 |ptr (b o:Nat):SC N (.ptr b o)
 |msl (b o n cap s:Nat):SC N (.msl b o n cap s)
 |fn (f:Fn) (a b:List D) (ha:∀c∈a,SC N c) (hb:∀c∈b,SC N c):SC N (.fn f a b)
 |nilptr:SC N .nilptr
 |map (b:Nat):SC N (.map b)
 |nilmap:SC N .nilmap
 |nilfn:SC N .nilfn
 |niliface:SC N .niliface
 |undef:SC N .undef
def SC.rep{N d}(h:SC N d):∀{g g' w v},(∀b,N b->g.prot b<=g'.prot b)->Rep g w v d->Rep g' w v d:=by
 induction h with
 |int k n=>intro g g' w v _ z;cases z with|int _ _ h=>exact .int k n h
 |bool b=>intro g g' w v _ z;cases z;exact .bool b
 |str l=>intro g g' w v _ z;cases z with|str s _ h hb=>exact .str s l h hb
 |nilsl=>intro g g' w v _ z;cases z;exact .nilsl
 |agg cs _ ih =>
  intro g g' w v hp z;cases z with
  |agg vs _ hn hc one=>exact .agg vs cs hn (λi v d hv hd=>ih d (List.mem_of_getElem? hd) hp (hc i v d hv hd)) one
 |tup cs _ ih =>
  intro g g' w v hp z;cases z with
  |tup vs _ hn hc=>exact .tup vs cs hn (λi v d hv hd=>ih d (List.mem_of_getElem? hd) hp (hc i v d hv hd))
 |sl0 t s row =>
  intro g g' w v hp z;cases z with
  |sl0 _ _ _ _ ht=>exact .sl0 _ t s row ht
  |sl b o n cap sz _ t f hl hc hpp hrr one ht hcap hb =>exact .sl b o 0 cap s row t f hl hc (λi j hi=>by omega) (λi j d hi=>by omega) one ht hcap hb
 |tip b n s row hb _ ih =>
  intro g g' w v hp z;cases z with
  |sl0 _ _ _ _ ht=>exact .sl0 _ _ s row ht
  |sl b' o n cap sz _ t f hl hc hpp hrr one ht hcap hbig =>have u:b'=b:=ht.1;subst u;exact .sl b' o n cap s row (.tip b') f hl hc (λi j hi hj=>Nat.lt_of_lt_of_le (hpp i j hi hj) (hp _ hb)) (λi j d hi hd=>ih i hi d (List.mem_of_getElem? hd) hp (hrr i j d hi hd)) one ht hcap hbig
 |ptr b o=>intro g g' w v _ z;cases z;exact .ptr b o
 |msl b o n cap s=>intro g g' w v _ z;cases z with|msl _ _ _ _ _ h hb=>exact .msl b o n cap s h hb|mslx a _ _ _=>exact .mslx a _ _ _
 |fn f a b _ _ iha ihb =>
  intro g g' w v hp z;cases z with
  |fn _ fs cs _ _ hnf hnc hf hc=>exact .fn f fs cs a b hnf hnc (λi v d hv hd=>iha d (List.mem_of_getElem? hd) hp (hf i v d hv hd)) (λi v d hv hd=>ihb d (List.mem_of_getElem? hd) hp (hc i v d hv hd))
 |nilptr=>intro g g' w v _ z;cases z;exact .nilptr
 |map b=>intro g g' w v _ z;cases z;exact .map b
 |nilmap=>intro g g' w v _ z;cases z;exact .nilmap
 |nilfn=>intro g g' w v _ z;cases z;exact .nilfn
 |niliface=>intro g g' w v _ z;cases z;exact .niliface
 |undef=>intro g g' w v _ z;cases z;exact .undef
def SCO(N:Nat->Prop):Jo->Prop
 |.cells ds=>∀d∈ds,SC N d
 |.map es=>∀e∈es,SC N e.1/\SC N e.2
 |.tip _=>True
 |.dfr=>True
 |_=>False
def SCO.ok{N o}(h:SCO N o){g g' w b}(hp:∀b,N b->g.prot b<=g'.prot b)(j:g'.prot b=g.prot b)(u:W2 g w b o):W2 g' w b o:=by
 cases o with
 |cells ds =>obtain⟨t,vs,T,h1,h2,h3,h4⟩:=u;exact⟨j.trans t,vs,T,h1,h2,λi v d z n=>(h d (List.mem_of_getElem? n)).rep hp (h3 i v d z n),h4⟩
 |map es =>obtain⟨t,en,cl,h1,h2,h3,h4,h5,h6⟩:=u;exact⟨j.trans t,en,cl,h1,h2,λi x d z n=>(h d (List.mem_of_getElem? n)).1.rep hp (h3 i x d z n),λi x d z n=>(h d (List.mem_of_getElem? n)).2.rep hp (h4 i x d z n),h5,h6⟩
 |tip k =>obtain⟨t,x⟩:=u;exact⟨j.trans t,x⟩
 |dfr=>exact⟨j.trans u.1,u.2⟩
 |mapE _ _ _ _=>exact h.elim
 |loop _ _=>exact h.elim
def SCR(N:Nat->Prop):Res->Prop
 |.ret d=>SC N d
 |.panic d=>SC N d
def ZO.ldC{g w t Ln}(j:∀b∈Ln,∀ds,t b=sO (.cells ds)->Zv7 g w b ds){vs a i}(h:ZO (Rep g w) vs a)(n:LdC t Ln a i):ZO (Rep g w) vs i:=by
 induction n generalizing vs with
 |nil=>cases h;exact .nil
 |cons h1 _ ih=>cases h with|cons h2 h3=>exact .cons (h1 _ _ _ j h2) (ih h3)
def Ze.lend{f args args' t Ln Φ}(hL:∀b∈Ln,∃ds,t b=sO (.cells ds))(hl:LdC t Ln args args')(h:Ze P f args' (λ_=>nO) Φ)(hΦ:∀r S,Φ r S->SCR (λb=>(S b).isSome=true) r/\∀b o,S b=sO o->SCO (λb=>(S b).isSome=true) o):
  Ze P f args t λr S=>∃S',Φ r S'/\Yc S' t/\S=S'.or t:=by
 refine⟨h.1,λg w vs hs ha=>?_⟩;have hx:=Zbm hs hL;have aj:=Zli hs hL;have ak:ZO (Rep (Ju g t Ln) w) vs args':=ZO.ldC aj (ha.imp λ_ _ h=>Rep.mono h hx) hl;have ai:Yp ((Ju g t Ln).keep λb=>g.kept b\/(t b).isSome=true) (λ_=>nO) w:=by
  refine⟨λb o hb=>by simp at hb,λb o hb=>by simp at hb,λb hb=>?_,λn cs hc=>Kb ((hs.tabs n cs hc).mono hx)⟩;have h1:=hs.fresh b hb;have z:t b=nO:=by
   cases z:t b with
   |none=>rfl
   |some o=>have:=(hs.obj b o z).lt;omega
  have j:b∉Ln:=λhm=>by obtain⟨ds,hd⟩:=hL b hm;rw[z]at hd;simp at hd
  exact⟨by show(Ju g t Ln).prot b=0;simp only[Ju,if_neg j];exact h1.1,λhk=>by rcases hk with hk|hk;exact h1.2 hk;rw[z]at hk;simp at hk⟩
 refine(h.2 _ w vs ai (ak.imp λ_ _ h=>Kb h)).mono λe w' hp=>?_;obtain⟨g',S',r,he,hS,hr,hq⟩:=hp;have u:=he.keptEq;obtain⟨ab,af⟩:=hΦ r S' hq;have ah:Yc S' t:=λb o hb=>by
  cases i:S' b with
  |none=>rfl
  |some x=>exact absurd (by rw[u];exact .inr (by rw[hb];rfl)) (hS.kept b x i)
 have ag:∀b,(S' b).isSome=true->b∉Ln:=λb hb hm=>by obtain⟨ds,hd⟩:=hL b hm;rw[ah b _ hd]at hb;simp at hb
 let g2:G:={ prot:=λb=>if b∈Ln then 0 else g'.prot b,kept:=g.kept };have ac:∀b,(S' b).isSome=true->g'.prot b<=g2.prot b:=λb hb=>by simp only[g2,if_neg (ag b hb)];exact ZHV _
 have hf:∀b,b∉Ln->(Ju g t Ln).prot b=g.prot b:=λb hb=>by simp only[Ju,if_neg hb]
 have ae:∀b,b∈Ln->g.prot b=0:=λb hb=>by obtain⟨ds,hd⟩:=hL b hb;exact(hs.obj b _ hd).1
 have ad:Ext g w g2 w':=by
  refine⟨he.size,λb=>?_,λb o ho=>?_,he.hdr,λb hb=>he.kept b (.inl hb),λb hb=>?_,rfl,he.os,he.output,he.tape⟩;simp only[g2];split;rename_i hb;rw[ae b hb];exact ZHV _;rename_i hb;rw[<-hf b hb];exact he.prot b;have hb:b∉Ln:=λhb=>by rw[ae b hb]at ho;omega
  exact he.cell b o (by show o<(Ju g t Ln).prot b;rw[hf b hb];exact ho);have j:b∉Ln:=λhm=>by obtain⟨ds,hd⟩:=hL b hm;exact hs.kept b _ hd hb
  simp only[g2,if_neg j];rw[<-hf b j];exact he.keptProt b (.inl hb)
 have hg'0:∀b,w'.heap.size<=b->g'.prot b=0/\¬g'.kept b:=λb hb=>hS.fresh b hb;refine⟨g2,S'.or t,r,ad,⟨λb o hb=>?_,λb o hb=>?_,λb hb=>?_,λn cs hc=>(hs.tabs n cs hc).mono ad⟩,?_,S',hq,ah,rfl⟩
 .cases i:S' b with
  |some x =>
   rw[Zu i]at hb;cases hb;have al:(S' b).isSome=true:=by rw[i];rfl
   exact(af b _ i).ok ac (by simp only[g2,if_neg (ag b al)]) (hS.obj b _ i)
  |none =>rw[ZM i]at hb;have hk:g.kept b\/(t b).isSome=true:=.inr (by rw[hb];rfl);refine(hs.obj b o hb).mono ad (he.kept b hk) ?_;by_cases j:b∈Ln;simp only[g2,if_pos j];exact(ae b j).symm;simp only[g2,if_neg j];rw[<-hf b j];exact he.keptProt b hk
 .cases i:S' b with
  |some x=>exact λhk=>hS.kept b x i (by rw[u];exact .inl hk)
  |none=>rw[ZM i]at hb;exact hs.kept b o hb
 have:=hS.fresh b hb;refine⟨?_,λhk=>this.2 (by rw[u];exact .inl hk)⟩;simp only[g2];split;rfl;exact this.1;cases e<;>cases r<;>simp only[ZrW]at hr⊢;exact SC.rep ab ac hr;obtain⟨v,h1,h2⟩:=hr;exact⟨v,h1,SC.rep ab ac h2⟩
end
end Go.DL
namespace Go.DL
open Go Go.ChangeShapes Go.RowKit Go.WideShapes Go.ChangeAt
variable [Zsq]
def Zdp(W:World):G:={ prot:=λb=>match W.heap[b]? with|some (.cells vs _ _)=>vs.size|_=>0,kept:=λb=>b<W.heap.size }
def Zny(W:World):Prop:=∀n cs,Zsq.tab n=sO cs->Rep (Zdp W) W (.pointer (sO ⟨n,0,nO⟩)) (.ep cs 0)
def ZB0{W:World}(i:Zny W):Yp (Zdp W) (λ_=>nO) W:={
 tabs:=i
 obj b o h:=by simp at h
 kept b o h:=by simp at h
 fresh b hb:=⟨by simp[Zdp,hb],by simp only[Zdp];omega⟩ }
def ZBX{P W name g k}{u:List Int}(h:W.var? P name=sO (u.map λz=>Value.int k z).toArray)(hg:P.globalNamed name=sO g)(hz:∀z∈u,inR k z) :
  Rep (Zdp W) W (.pointer (sO ⟨g,0,nO⟩)) (.ep (u.map λz=>.int k z) 0):=by
 unfold World.var? at h;rw[hg]at h;simp only[Option.bind_some]at h;split at h<;>(try(simp at h;done));rename_i cs T fr hh;simp only[ZHE]at h;subst h;have n:∀i (t:i<I u),W.cell? ⟨g,0+i,nO⟩=sO (.int k u[i]):=λi t=>by simp only[World.cell?,hh];simp[t]
 refine .ep g 0 0 _ (λi=>.int k (u.getD i 0)) (λi t=>?_) (λi t=>?_) (λi d hd=>?_) (λi t=>rfl);simp only[List.length_map]at t;rw[n i t];simp[ZHU,t];simp only[List.length_map]at t;simp only[Zdp,hh];simpa using t;simp only[List.getElem?_map,ZHS]at hd;obtain⟨z,j,rfl⟩:=hd;simp only[ZHU,j,ZIk];exact .int k z (hz z (List.mem_of_getElem? j))
def ZAJ{P f args}(h:Zc P f args (.bool true)){W}(u:Zny W){vs}(n:ZO (Rep (Zdp W) W) vs args) :
  Calls P f vs.toArray W λe W'=>e=.returned (.bool true)/\Below W.heap.size W W':=by
 refine((h (λ_=>nO)).2 _ W vs (ZB0 u) n).mono λe W' z=>?_;obtain⟨g',s',r,i,hs,j,t,_⟩:=z;subst t;cases e with
 |returned v=>cases j;exact⟨rfl,i.os,i.tape,i.output,i.size,λb hb=>i.kept b hb⟩
 |_=>exact j.elim
section
variable {H:Type} {enc:TypeId × Value->H} {P:Program} {w:World}
def WV(p:Nat->Prop)(enc:TypeId×Value->H)(P:Program)(w:World)(t:TypeId)(R:List D->Prop):Prop :=
 ∀fuel cs x,p fuel->DataW.trod enc P w 0 (λ_=>true) true fuel t cs=sO x->(∀k∈x.1.weights P t,k<=reachBytes)->∃ds,R ds/\ZO (Rep (Zdp w) w) cs ds/\∀v∈cs,v.one1=true
abbrev ZaX(enc:TypeId×Value->H)(P:Program)(w:World)(t:TypeId)(R:List D->Prop):Prop:=WV (λ_=>True) enc P w t R
variable {p q:Nat->Prop}
def Zyp{k n}(h:(Lit.int k n).wf=true):inR k n:=by
 simpa[Lit.wf,inR]using h
def ZiE{t k}(u:P.underlying t=sO (.int k)):WV p enc P w t λds=>∃n,inR k n/\ds=[.int k n]:=by
 intro fuel cs x _ h _;obtain⟨n,rfl,_,j⟩:=DataW.trod_int u h;exact⟨_,⟨n,Zyp j,rfl⟩,.cons (.int k n (Zyp j)) .nil,λv i=>by simp at i;subst i;rfl⟩
def WV.imp{t R R'}(h:WV p enc P w t R)(n:∀ds,R ds->R' ds):WV p enc P w t R':=λi cs x hp j hw=>by
 obtain⟨ds,u,z⟩:=h i cs x hp j hw;exact⟨ds,n ds u,z⟩
def JM{t k}(i:P.underlying t=sO (.int k)):WV p enc P w t λds=>∃n,ds=[.int k n]:=(ZiE i).imp λ_ ⟨n,_,h⟩=>⟨n,h⟩
def Zxa{t}(j:P.underlying t=sO .bool):WV p enc P w t λds=>∃b,ds=[.bool b]:=by
 intro fuel cs x _ h _;obtain⟨n,rfl,_⟩:=DataW.trod_bool j h;exact⟨_,⟨n,rfl⟩,.cons (.bool n) .nil,λv i=>by simp at i;subst i;rfl⟩
def Zxb{t}(n:P.underlying t=sO .string):WV p enc P w t λds=>∃s:List UInt8,I s<=reachBytes/\ds=[.str s]:=by
 intro fuel cs x _ h u;obtain⟨s,rfl,rfl,j⟩:=DataW.trod_string n h;refine⟨_,⟨s.data.toList,u _ (by simp[DataW.weights]),rfl⟩,.cons (.str s _ rfl ?_) .nil,λv i=>by simp at i;subst i;rfl⟩;have:I s.data.toList=s.size:=by rw[Array.length_toList];rfl
 rw[this];simp only[maxLen]at j;simp only[big];omega
def KD{t}(i:P.underlying t=sO .string):WV p enc P w t λds=>∃s,ds=[.str s]:=(Zxb i).imp λ_ ⟨s,_,h⟩=>⟨s,h⟩
def ZgI:∀{ts ds} {i:Nat} {t:TypeId} {d:DataW H},ts[i]?=sO t->ds[i]?=sO d->∀k∈d.weights P t,k∈DataW.weightsEach P ts ds
 |t::ts,d::ds,0,_,_,ht,hd,k,hk=>by simp only[List.getElem?_cons_zero,ZHE]at ht hd;subst ht;subst hd;unfold DataW.weightsEach;exact List.mem_append_left _ hk
 |t::ts,d::ds,i+1,_,_,ht,hd,k,hk=>by unfold DataW.weightsEach;exact List.mem_append_right _ (ZgI (by simpa using ht) (by simpa using hd) k hk)
 | [],_,_,_,_,ht,_,_,_=>by simp at ht
 |_::_,[],_,_,_,_,hd,_,_=>by simp at hd
def ZgH:∀{ts i} {ds gs:List (DataW H)},I ds=I ts->∀k∈DataW.weightsEach P ts ds,k∈DataW.weightsEach P (ts++i) (ds++gs)
 | [],_,[],_,_,k,hk=>by simp[DataW.weightsEach]at hk
 |t::ts,i,d::ds,gs,hl,k,hk=>by unfold DataW.weightsEach at hk;rw[List.cons_append,List.cons_append];unfold DataW.weightsEach;rcases List.mem_append.1 hk with h|h;exact List.mem_append_left _ h;exact List.mem_append_right _ (ZgH (by simpa using hl) k h)
def Zh1{e}:∀{ds:List (DataW H)} {d:DataW H},d∈ds->∀k∈d.weights P e,k∈DataW.weightsAll P e ds
 |d::ds,x,hx,k,hk=>by unfold DataW.weightsAll;rcases List.mem_cons.1 hx with rfl|hx;exact List.mem_append_left _ hk;exact List.mem_append_right _ (Zh1 hx k hk)
def Zuw{α β R}{a i:List α}{b j:List β}(h:ZO R a b)(n:ZO R i j):ZO R (a++i) (b++j):=by
 induction h with
 |nil=>exact n
 |cons h1 _ ih=>exact .cons h1 ih
def Cat:List (List D->Prop)->List D->Prop
 | [],ds=>ds=[]
 |R::Rs,ds=>∃a b,ds=a++b/\R a/\Cat Rs b
def ZtB(P:Program):Nat->List Field->Nat->Bool
 |o,[],n=>o==n
 |o,f::r,n=>f.offset==o&&ZtB P (o+P.cellsOf f.type) r n
inductive Zjs(p:Nat->Prop)(enc:TypeId×Value->H)(P:Program)(w:World):List Field->List (List D->Prop)->Prop where
 |nil:Zjs p enc P w [] []
 |cons {f:Field} {fs:List Field} {R:List D->Prop} {Rs:List (List D->Prop)} (h:WV p enc P w f.type R) (t:Zjs p enc P w fs Rs):Zjs p enc P w (f::fs) (R::Rs)
def ZyR{fs Rs}(hR:Zjs q enc P w fs Rs):∀{o n m} {cs:List Value},q m->ZtB P o fs n=true->I cs=n ->
  (∀f∈fs,∃x,DataW.trod enc P w 0 (λ_=>true) true m f.type ((cs.drop f.offset).take (P.cellsOf f.type))=sO x/\∀k∈x.1.weights P f.type,k<=reachBytes) ->
  ∃ds,Cat Rs ds/\ZO (Rep (Zdp w) w) (cs.drop o) ds/\∀v∈cs.drop o,v.one1=true:=by
 induction hR with
 |nil =>intro o n m cs _ ho hl _;simp only[ZtB,beq_iff_eq]at ho;subst ho;subst hl;exact⟨[],rfl,by rw[List.drop_length];exact .nil,ψ⟩
 |cons h _ ih =>
  rename_i f fs R Rs _;intro o n m cs hm ho hl hx;simp only[ZtB,ZHN,beq_iff_eq]at ho;obtain⟨ab,ae⟩:=ho;obtain⟨x,h1,hw⟩:=hx f (List.mem_cons_self ..);obtain⟨a,ac,j,i⟩:=h _ _ _ hm h1 hw;obtain⟨b,t,z,ad⟩:=ih hm ae hl λf' u=>hx f' (List.mem_cons_of_mem _ u);rw[ab]at j i;have e:cs.drop o=(cs.drop o).take (P.cellsOf f.type)++cs.drop (o+P.cellsOf f.type):=by rw[<-List.drop_drop];exact(List.take_append_drop _ _).symm
  refine⟨a++b,⟨a,b,rfl,ac,t⟩,by rw[e];exact Zuw j z,λv hv=>?_⟩;rw[e,List.mem_append]at hv;exact hv.elim (i v) (ad v)
def Ko{t fs}(ht:P.underlying t=sO (.struct fs)){Rs}(hR:Zjs q enc P w fs.toList Rs)(ho:ZtB P 0 fs.toList (P.cellsOf t)=true)(hpq:∀n,p (n+1)->q n:=by intros;trivial):WV p enc P w t (Cat Rs):=by
 intro fuel cs x hp h hw;obtain⟨xs,n,rfl,rfl,hl,hxl,hx⟩:=DataW.trod_struct ht h;obtain⟨ds,h1,h2,h3⟩:=ZyR hR (m:=n) (hpq n hp) ho hl (λf hf=>by
  obtain⟨i,hi,rfl⟩:=ZH1 hf;have j:i<fs.size:=by simpa using hi
  refine⟨xs[i]' ω,?_,λk hk=>hw k ?_⟩;have:=hx i fs[i] (by simp[j]);rw[ZIb ω]at this;simpa using this;unfold DataW.weights;rw[ht];exact ZgI (i:=i) (by simp[j]) (by rw[List.getElem?_map,ZIb ω];rfl) k hk)
 rw[List.drop_zero]at h2 h3;exact⟨ds,h1,h2,h3⟩
def ZcC{a n cs}(h:w.cells? 0 a n=sO cs):I cs=n/\∀j,j<n->w.cell? (a.add j)=cs[j]?:=by
 simp only[World.cells?,Nat.zero_le,if_true]at h;refine⟨by simpa using mapM_some_length h,λj i=>?_⟩;have:=mapM_some_get h j j (by simp[i]);exact this
def Zcg{t e n}{α:Type}[Inhabited α]{f:α->List D}{Qx:α->Prop}{row:List α->Nat->List D}(hrow:∀l i,i<I l->row l i=f (l.getD i dE))(ht:P.underlying t=sO (.slice e))(hn:P.cellsOf e=n)(hn0:0<n)(hf:∀x,(f x).length=n)
  (he:WV q enc P w e λds=>∃x,Qx x/\ds=f x) (hpq:∀n,p (n+1)->q n:=by intros;trivial):WV p enc P w t λds=>∃l:List α,(∀x∈l,Qx x)/\I l*P.bytesOf e<=reachBytes/\ds=[.sl .none (I l) n (row l)]:=by
 intro fuel cs x hp h hw;rcases DataW.trod_slice ht h with ⟨rfl,_⟩|⟨a,len,cap,elems,rest,m,rfl,rfl,rfl,_,ap,ah,ao,hx,ae,_⟩;exact⟨_,⟨[],λx hx=>absurd hx List.not_mem_nil,ψ,rfl⟩,.cons (.sl0 _ _ _ _ ψ) .nil,λv hv=>by simp at hv;subst hv;rfl⟩;unfold DataW.weights at hw;rw[ht]at hw;have z:∀i,i<len->∃(cs:List Value) (y:α),Qx y/\w.cells? 0 (a.add (i*n)) n=sO cs/\ZO (Rep (Zdp w) w) cs (f y)/\∀v∈cs,v.one1=true:=by intro i hi;have h1:=hx i hi;rw[ZIb ω,hn]at h1;obtain⟨cs,h2,h3⟩:=Option.bind_eq_some_iff.1 h1;obtain⟨ds,⟨y,hy,rfl⟩,h4,h5⟩:=he _ _ _ (hpq _ hp) h3 λk hk=>hw k (List.mem_cons_of_mem _ (List.mem_append_left _ (Zh1 (List.mem_map_of_mem (List.getElem_mem _)) k hk)));exact⟨cs,y,hy,h2,h4,h5⟩
 have ab:cap<=big:=by simp only[maxLen]at ah;simp only[big];omega
 let g:(i:Nat)->i<len->α:=λi hi=>(Classical.choose_spec (z i hi)).choose;let c:(i:Nat)->i<len->List Value:=λi hi=>Classical.choose (z i hi);have hg:∀i (hi:i<len),w.cells? 0 (a.add (i*n)) n=sO (c i hi)/\ZO (Rep (Zdp w) w) (c i hi) (f (g i hi))/\∀v∈c i hi,v.one1=true:=λi hi=>(Classical.choose_spec (z i hi)).choose_spec.2;have hq:∀i (hi:i<len),Qx (g i hi):=λi hi=>(Classical.choose_spec (z i hi)).choose_spec.1;let l:List α:=List.ofFn λi:Fin len=>g i.1 i.2;have ad:I l=len:=by simp[l]
 have ak:∀i (hi:i<len),l.getD i dE=g i hi:=λi hi=>by simp[l,ZHU,hi]
 have af:∀i (hi:i<len),row l i=f (g i hi):=λi hi=>by rw[hrow l i ω,ak i hi]
 refine⟨_,⟨l,λx hx=>(by obtain⟨i,rfl⟩:=List.mem_ofFn.1 hx;exact hq i.1 i.2),Nat.le_trans (ZH5 _ (by rw[ad,<-ao,List.length_map];exact Nat.le_add_right _ _)) (hw _ (List.mem_cons_self ..)),rfl⟩,.cons ?_ .nil,λv hv=>by simp at hv;subst hv;rfl⟩;by_cases am:len=0;subst am;have ai:l=[]:=List.eq_nil_of_length_eq_zero ad;rw[ai];by_cases hs:a.spot=nO;obtain⟨b,o,sp⟩:=a;simp only at hs;subst hs;exact .sl b o 0 cap n _ .none (λ_ _=>undef) (λi hi=>by simp at hi) (λi j hi=>by simp at hi) (λi j hi=>by simp at hi) (λi j d hi=>by simp at hi) (λi j hi=>by simp at hi) trivial (Nat.zero_le _) ab;have aj:cap=0:=by rcases Nat.eq_zero_or_pos cap with h0|h0;exact h0;obtain⟨h1,h2⟩:=ae rfl;have h3:=h2 0 ω;rw[ZIb ω,hn]at h3;obtain⟨cs,h4,_⟩:=Option.bind_eq_some_iff.1 h3;have h5:=(ZcC h4).2 0 ω;have h6:=(ZcC h4).1;rw[ZIb ω]at h5;have:=World.cell?_spot h5;exact absurd (by simpa[Addr.add]using this) hs
 subst aj;exact .sl0 _ _ _ _ ψ;have ag:a.spot=nO:=by have h0:=(hg 0 ω).1;have h1:=(ZcC h0).2 0 ω;have h2:(c 0 ω).length=n:=(ZcC h0).1;rw[ZIb ω]at h1;have:=World.cell?_spot h1;simpa[Addr.add]using this
 obtain⟨b,o,sp⟩:=a;simp only at ag;subst ag;have ac:∀i j (hi:i<len) (hj:j<n),w.cell? ⟨b,o+i*n+j,nO⟩=(c i hi)[j]?:=λi j hi hj=>by have h1:=(ZcC (hg i hi).1).2 j hj;rw[Kv,Kv]at h1;exact h1
 have u:∀i (hi:i<len),(c i hi).length=n:=λi hi=>(ZcC (hg i hi).1).1;rw[ad];refine .sl b o len cap n _ .none (λi j=>if hi:i<len then (c i hi).getD j undef else undef) (λi hi=>by rw[af i hi];exact hf _) (λi j hi hj=>?_) (λi j hi hj=>?_) (λi j d hi hd=>?_) (λi j hi hj=>?_) trivial ap ab;simp only[dif_pos hi];rw[ac i j hi hj,ZHU,ZIb (by rw[u i hi];exact hj)];rfl;have h1:=ac i j hi hj;rw[ZIb (by rw[u i hi];exact hj)]at h1;simp only[World.cell?]at h1;split at h1;rename_i vs T fr hh;simp only[Zdp,hh];have al:vs[o+i*n+j]?=sO ((c i hi)[j]'(by rw[u i hi];exact hj)):=by simpa using h1
 exact(Array.getElem?_eq_some_iff.1 al).1;simp at h1;simp only[dif_pos hi];rw[af i hi]at hd;have hj:j<n:=by rw[<-hf (g i hi)];exact(List.getElem?_eq_some_iff.1 hd).1
 refine(hg i hi).2.1.get j _ d ?_ hd;rw[ZHU,ZIb (by rw[u i hi];exact hj)];rfl;simp only[dif_pos hi];refine(hg i hi).2.2 _ ?_;rw[ZHU,ZIb (by rw[u i hi];exact hj)];exact List.getElem_mem _
def Zkg{t e n}{α:Type}[Inhabited α]{f:α->List D}{row:List α->Nat->List D}(hrow:∀l i,i<I l->row l i=f (l.getD i dE))(ht:P.underlying t=sO (.slice e))(hn:P.cellsOf e=n)(hn0:0<n)(hf:∀x,(f x).length=n)
  (he:WV q enc P w e λds=>∃x,ds=f x) (hpq:∀n,p (n+1)->q n:=by intros;trivial):WV p enc P w t λds=>∃l:List α,ds=[.sl .none (I l) n (row l)]:=(Zcg (Qx:=λ_=>True) hrow ht hn hn0 hf (he.imp λ_ ⟨x,h⟩=>⟨x,trivial,h⟩) hpq).imp λ_ ⟨l,_,_,h⟩=>⟨l,h⟩
def ZaM{t e n}{α:Type}[Inhabited α]{f:α->List D}(ht:P.underlying t=sO (.slice e))(hn:P.cellsOf e=n)(hn0:0<n)(hf:∀x,(f x).length=n)
  (he:WV q enc P w e λds=>∃x,ds=f x) (hpq:∀n,p (n+1)->q n:=by intros;trivial):WV p enc P w t λds=>∃l:List α,ds=[.sl .none (I l) n λi=>f (l.getD i dE)] :=
 Zkg (row:=λl i=>f (l.getD i dE)) (λ_ _ _=>rfl) ht hn hn0 hf he hpq
def Zfk(enc:TypeId×Value->H)(P:Program)(t:TypeId)(Q:D->Prop):Prop :=
 ∀(W:World) (base:Nat) (v:Value) (d:DataW H) (ps:List MemPlace),Value.okWide P W .any base t v->DataW.Trod enc P W 0 (λ_=>true) true t v d ps->(∀k∈d.weights P t,k<=reachBytes)->∃x,Q x/\Rep (Zdp W) W v x
def Zgi{t fs}(u:P.underlying t=sO (.struct fs)){R}(h:∀W,ZaX enc P W t R):Zfk enc P t λx=>∃ds,R ds/\x=.agg ds:=by
 intro W base v d ps j ⟨fuel,z⟩ hw;obtain⟨cs,rfl,_⟩:=okWide_struct u j;obtain⟨ds,h1,n,h3⟩:=h W _ _ _ trivial z hw;exact⟨_,⟨ds,h1,rfl⟩,.agg cs.toList ds n.len (λi v d hv hd=>n.get i v d hv hd) h3⟩
def Zju{t R Q}(h1:∀W j v,Value.okWide P W .any j t v->v.cells = #[v])(h:∀W,ZaX enc P W t R)(hq:∀ds,R ds->∃x,ds=[x]/\Q x):Zfk enc P t Q:=by
 intro W j v d ps i ⟨fuel,n⟩ hw;rw[h1 _ _ _ i]at n;obtain⟨ds,h2,z,_⟩:=h W _ _ _ trivial n hw;obtain⟨x,rfl,u⟩:=hq ds h2;cases z with|cons h4 _=>exact⟨x,u,h4⟩
def ZCc{t k}(j:P.underlying t=sO (.int k)):Zfk enc P t λx=>∃n,x=.int k n :=
 Zju (λW base v i=>by obtain⟨a,rfl⟩:=okWide_int j i;rfl) (λW=>JM j) λds ⟨n,u⟩=>⟨_,u,n,rfl⟩
def ZsC{t}(j:P.underlying t=sO .string):Zfk enc P t λx=>∃n,x=.str n :=
 Zju (λW base v i=>by obtain⟨a,rfl⟩:=okWide_string j i;rfl) (λW=>KD j) λds ⟨n,u⟩=>⟨_,u,n,rfl⟩
inductive Znn(enc:TypeId×Value->H)(P:Program):List TypeId->List (D->Prop)->Prop where
 |nil:Znn enc P [] []
 |cons {t:TypeId} {Q:D->Prop} {ts:List TypeId} {Qs:List (D->Prop)} (h:Zfk enc P t Q) (r:Znn enc P ts Qs):Znn enc P (t::ts) (Q::Qs)
inductive Zr8:List (D->Prop)->List D->Prop where
 |nil:Zr8 [] []
 |cons {Q:D->Prop} {x:D} {Qs:List (D->Prop)} {xs:List D} (h:Q x) (r:Zr8 Qs xs):Zr8 (Q::Qs) (x::xs)
def Zzu{ts Qs}(h:Znn enc P ts Qs):∀{W base vs ds ps},
  (∀(j:Nat) t v,ts[j]?=sO t->vs[j]?=sO v->Value.okWide P W .any base t v)->DataW.TrodAll enc P W 0 (λ_=>true) true ts vs ds ps->(∀k∈DataW.weightsEach P ts ds,k<=reachBytes)->∃xs,Zr8 Qs xs/\ZO (Rep (Zdp W) W) vs xs:=by
 induction h with
 |nil =>intro W base vs ds ps _ ht _;obtain⟨rfl,_⟩:=trodAll_nil ht;exact⟨[],.nil,.nil⟩
 |cons h1 _ ih =>intro W base vs ds ps u ht hw;obtain⟨v,vs',d,ds',p,q,rfl,rfl,rfl,h2,h3⟩:=trodAll_cons ht;unfold DataW.weightsEach at hw;obtain⟨x,z,ab⟩:=h1 W base v d p (u 0 _ _ rfl rfl) h2 λk hk=>hw k (List.mem_append_left _ hk);obtain⟨xs,i,n⟩:=ih (base:=base) (λj t v hj hv=>u (j+1) t v (by simpa using hj) (by simpa using hv)) h3 λk hk=>hw k (List.mem_append_right _ hk);exact⟨x::xs,.cons z i,.cons ab n⟩
def Zja(z:laidOutB P=true){W W'}(u:Below W.heap.size W W'):∀{ts vs ds ps},(∀t∈ts,P.readableRec t=true/\t<P.types.size) ->
  DataW.TrodAll enc P W 0 (λ_=>true) true ts vs ds ps->(∀x∈ps,x.block<W.heap.size)->DataW.TrodAll enc P W' 0 (λb=>dC (b<W.heap.size)) true ts vs ds ps
 | [],vs,ds,ps,_,h,_=>by obtain⟨rfl,rfl,rfl⟩:=trodAll_nil h;rfl
 |t::ts,vs,ds,ps,ht,h,hlt=>by obtain⟨v,vs',d,ds',p,q,rfl,rfl,rfl,h2,h3⟩:=trodAll_cons h;have n:=ht t (List.mem_cons_self ..);exact trodAll_cons_mk (Below.trod z n.1 n.2 h2 u λx j=>hlt x (List.mem_append_left _ j)) (Zja z u (λt i=>ht t (List.mem_cons_of_mem _ i)) h3 λx j=>hlt x (List.mem_append_right _ j))
def Ztp{f fn}{s:ChangeSpec}{tb Qs}(hv:s.vars=[])(hl:laidOutB P=true)(hr:∀t∈fn.params.toList,P.readableRec t=true/\t<P.types.size)
  (hres:fn.resultTypes = #[tb]) (hb:P.underlying tb=sO .bool) (hfn:∀ds:List (DataW H),I ds=I fn.params.toList->s.fn H ds={ results:=[.lit (.bool true)],args:=ds })
  (hargs:Znn enc P fn.params.toList Qs) (hcall:∀xs,Zr8 Qs xs->Zc P f xs (.bool true))
  (W) (ht:Zny W) (base args ds gs before)
  (hval:∀(j:Nat) t v,fn.params[j]?=sO t->args[j]?=sO v->Value.okWide P W .any base t v) (hW:DataW.Whole enc P fn.params.toList s.vars false W args.toList ds gs before)
  (hz:(DataW.weightsEach P (fn.params.toList++s.plain.varTypes P) (ds++gs)).all (·<=reachBytes)=true) :
  Calls P f args W λe W'=>∃v,e=.returned v/\s.post enc P fn false true false false W args v W':=by
 have z:=hW;obtain⟨p,q,hA,hV,rfl,_,_⟩:=hW;rw[hv]at hV;obtain⟨rfl,rfl⟩:=trodVars_none hV;have n:=(trodAll_length hA).2;obtain⟨xs,ab,ad⟩:=Zzu hargs (λj t v hj ae=>hval j t v (by simpa using hj) (by simpa using ae)) hA λk hk=>of_decide_eq_true (List.all_eq_true.1 hz k (ZgH n k hk));have ac:∀x∈p,x.block<W.heap.size:=λx hx=>by simpa using z.lt x (by simpa using hx)
 refine(ZAJ (hcall xs ab) ht ad).mono λe W' ⟨he,u⟩=>⟨.bool true,he,?_⟩;have i:=hfn ds n;refine⟨ds,[],p++[],[],p,[],z,?_,?_,?_,u.frame _,λh=>by cases h⟩;rw[ZH8,i,hres];exact trodAll_mk1 ⟨1,by simp[DataW.trod,hb,Value.cells]⟩;rw[ZH8,i];exact Zja hl u hr hA ac;rw[hv,ZH8,i];rfl
end
end Go.DL
namespace Go.DL
open Go
variable {kp:Option (List Nat)}{L:Loc}{H:Env}{s:St}{w:World}{os:List DOp}{ds:List D}{B:List (Nat × Rd)}{dst:Option Nat}{tmps:Array Value}{g:G}{Φ:Res->St->Prop}{Z:Nat->Nat}{xs:List Opd}{side:Prop}{row:Nat->List D}
def Zyt(n a:Nat)(l:List Nat):ZaS n (a::l)=if a=n then true else ZaS n l:=by
 show(a==n ||ZaS n l)=_;by_cases h:a=n<;>simp[h]
set_option linter.defProp false
def Eqs:=ZHG (ZHG (ZHG (ZHG (ZHG (ZHG (ZHG (ZHG @Option.mem_def.{0} @ZHE.{0}) (ZHG @forall_eq'.{1} @forall_eq'.{0})) (ZHG (ZHG @false_implies @decide_true) (ZHG (@Int.sub_zero) (ZHG @Int.sub_self @ZCp)))) (ZHG (ZHG (ZHG @ZC0 @ZCq) (ZHG @ZCr @ZCo)) (ZHG (ZHG @and_assoc @Int.toNat_zero) (ZHG (@Bool.not_not) (ZHG @ZBr @ZCt))))) (ZHG (ZHG (ZHG (ZHG @implies_true.{1} @implies_true.{0}) (ZHG @true_and @and_true)) (ZHG (ZHG @and_self @List.drop_zero.{0}) (ZHG (@List.drop_succ_cons.{0}) (ZHG @List.take_succ_cons.{0} @List.take_zero.{0})))) (ZHG (ZHG (ZHG @List.take_nil.{0} @ZId.{0,0}) (ZHG (@Option.map_none.{0,0}) (ZHG @Option.isSome_some.{0} @Option.isSome_none.{0}))) (ZHG (ZHG @ZIk.{0} @Option.getD_none.{0}) (ZHG (@List.flatMap_cons.{0,0}) (ZHG @List.flatMap_nil.{0,0} @ZH8.{0})))))) (ZHG (ZHG (ZHG (ZHG (ZHG @List.nil_append.{0} @List.cons_append.{0}) (ZHG @List.append_eq.{0} @List.getElem?_cons_zero.{0})) (ZHG (ZHG @List.getElem?_cons_succ.{0} @ZHW.{0}) (ZHG (@List.length_nil.{0}) (ZHG @Nat.zero_add @Nat.add_zero)))) (ZHG (ZHG (ZHG @Int.toNat_natCast @forall_const.{1}) (ZHG @forall_const.{0} @imp_self)) (ZHG (ZHG @Bool.and_true @ZH3) (ZHG (@Bool.cond_false_right) (ZHG @ZIe @Bool.not_true))))) (ZHG (ZHG (ZHG (ZHG @Bool.not_false @if_true_right) (ZHG @ZjE.eq_1 @ZjE.eq_2)) (ZHG (ZHG @Zig.eq_1 @Zig.eq_2) (ZHG (@Zc2.eq_1) (ZHG @Zc2.eq_2 @Ze6.eq_1)))) (ZHG (ZHG (ZHG @Ze6.eq_2 @ZG.eq_1) (ZHG (@Qr.eq_1) (ZHG @Qr.eq_2 @Qr.eq_3))) (ZHG (ZHG @Ye.eq_1 @Qe.eq_1) (ZHG (@Wl.eq_1) (ZHG @Qn.eq_1 @Qn.eq_2))))))) (ZHG (ZHG (ZHG (ZHG (ZHG (ZHG @Qn.eq_3 @Qn.eq_4) (ZHG @Wb.eq_1 @Wb.eq_2)) (ZHG (ZHG @Wb.eq_3 @Wb.eq_4) (ZHG (@Wb.eq_6) (ZHG @qv.eq_51 @qv.eq_52)))) (ZHG (ZHG (ZHG @qv.eq_53 @Wb.eq_5) (ZHG @Wj.eq_1 @Wj.eq_2)) (ZHG (ZHG @Wj.eq_3 @Wj.eq_4) (ZHG (@Wj.eq_5) (ZHG @Wj.eq_6 @Wj.eq_7))))) (ZHG (ZHG (ZHG (ZHG @Wq.eq_1 @Qk.eq_1) (ZHG @Qk.eq_2 @Qk.eq_3)) (ZHG (ZHG @Wa.eq_1 @Wa.eq_2) (ZHG (@KC.eq_1) (ZHG @Zcx.eq_1 @ZaS.eq_1)))) (ZHG (ZHG (ZHG @Zyt @ZHY.{0,0}) (ZHG (@ZIf.{0,0}) (ZHG @QS.eq_1 @KK.eq_1))) (ZHG (ZHG @KK.eq_2 @KK.eq_3) (ZHG (@Wy.eq_1) (ZHG @Wy.eq_2 @ZaV.eq_1)))))) (ZHG (ZHG (ZHG (ZHG (ZHG @ZaV.eq_2 @ZaV.eq_3) (ZHG @ZaV.eq_4 @ZaV.eq_5)) (ZHG (ZHG @ZaV.eq_6 @ZaV.eq_7) (ZHG (@ZaV.eq_8) (ZHG @ZaV.eq_9 @ZaV.eq_10)))) (ZHG (ZHG (ZHG @ZaV.eq_11 @Zo.eq_1) (ZHG (@Zo.eq_2) (ZHG @ZD.eq_1 @ZD.eq_2))) (ZHG (ZHG @Yg.eq_1 @Yg.eq_2) (ZHG (@ZS.eq_1) (ZHG @ZS.eq_2 @qv.eq_1))))) (ZHG (ZHG (ZHG (ZHG @qv.eq_2 @qv.eq_3) (ZHG @qv.eq_4 @qv.eq_5)) (ZHG (ZHG @qv.eq_6 @qv.eq_7) (ZHG (@qv.eq_8) (ZHG @qv.eq_9 @qv.eq_10)))) (ZHG (ZHG (ZHG @qv.eq_11 @qv.eq_12) (ZHG (@qv.eq_13) (ZHG @qv.eq_14 @qv.eq_15))) (ZHG (ZHG @qv.eq_16 @qv.eq_17) (ZHG (@qv.eq_18) (ZHG @qv.eq_19 @qv.eq_20)))))))) (ZHG (ZHG (ZHG (ZHG (ZHG (ZHG (ZHG @qv.eq_21 @qv.eq_22) (ZHG @qv.eq_23 @qv.eq_24)) (ZHG (ZHG @qv.eq_25 @qv.eq_26) (ZHG (@qv.eq_27) (ZHG @qv.eq_28 @qv.eq_29)))) (ZHG (ZHG (ZHG @qv.eq_30 @qv.eq_31) (ZHG @qv.eq_32 @qv.eq_33)) (ZHG (ZHG @qv.eq_34 @qv.eq_35) (ZHG (@qv.eq_36) (ZHG @qv.eq_37 @qv.eq_38))))) (ZHG (ZHG (ZHG (ZHG @qv.eq_39 @qv.eq_40) (ZHG @qv.eq_41 @qv.eq_42)) (ZHG (ZHG @qv.eq_43 @qv.eq_44) (ZHG (@qv.eq_45) (ZHG @qv.eq_46 @qv.eq_47)))) (ZHG (ZHG (ZHG @qv.eq_48 @qv.eq_49) (ZHG (@qv.eq_50) (ZHG @Zz.eq_1 @Zz.eq_2))) (ZHG (ZHG @kept.eq_1 @kept.eq_2) (ZHG (@Zll.eq_1) (ZHG @Zll.eq_2 @Yx.eq_1)))))) (ZHG (ZHG (ZHG (ZHG (ZHG @Yx.eq_2 @ZbD.eq_1) (ZHG @Za5.eq_1 @Za5.eq_2)) (ZHG (ZHG @Kq.eq_1 @Kq.eq_2) (ZHG (@Kq.eq_3) (ZHG @Zj.eq_1 @Zj.eq_2)))) (ZHG (ZHG (ZHG @ZaR.eq_1 @Zd7.eq_1) (ZHG @ZbO.eq_1 @ZbO.eq_2)) (ZHG (ZHG @ZaP.eq_1 @ZaP.eq_2) (ZHG (@ZaP.eq_3) (ZHG @ZaP.eq_4 @ZaP.eq_5))))) (ZHG (ZHG (ZHG (ZHG @Jr.eq_1 @Jr.eq_2) (ZHG @Jr.eq_3 @Jr.eq_4)) (ZHG (ZHG @Jr.eq_5 @Jr.eq_6) (ZHG (@Jr.eq_7) (ZHG @Jr.eq_8 @Jr.eq_9)))) (ZHG (ZHG (ZHG @Jr.eq_10 @Jr.eq_11) (ZHG (@Jr.eq_12) (ZHG @Jr.eq_13 @Jr.eq_14))) (ZHG (ZHG @Jr.eq_15 @Jr.eq_16) (ZHG (@Jr.eq_17) (ZHG @ZeH.eq_1 @ZeH.eq_2))))))) (ZHG (ZHG (ZHG (ZHG (ZHG (ZHG @ZeH.eq_3 @ZeH.eq_4) (ZHG @ZeH.eq_5 @ZeH.eq_6)) (ZHG (ZHG @ZeH.eq_7 @ZeH.eq_8) (ZHG (@eqO.eq_1) (ZHG @eqO.eq_2 @eqO.eq_3)))) (ZHG (ZHG (ZHG @YX.eq_1 @YX.eq_2) (ZHG @YX.eq_3 @YX.eq_4)) (ZHG (ZHG @YX.eq_5 @YX.eq_6) (ZHG (@YX.eq_7) (ZHG @YX.eq_8 @YX.eq_9))))) (ZHG (ZHG (ZHG (ZHG @YX.eq_10 @YX.eq_11) (ZHG @YX.eq_12 @YX.eq_13)) (ZHG (ZHG @YX.eq_14 @YX.eq_15) (ZHG (@WC.eq_1) (ZHG @WC.eq_2 @Yv.eq_1)))) (ZHG (ZHG (ZHG @Yv.eq_2 @Yv.eq_3) (ZHG (@Yv.eq_4) (ZHG @Wx.eq_1 @Wx.eq_2))) (ZHG (ZHG @Wx.eq_3 @Wx.eq_4) (ZHG (@KB.eq_1) (ZHG @KB.eq_2 @KB.eq_3)))))) (ZHG (ZHG (ZHG (ZHG (ZHG @KB.eq_4 @Zq.eq_1) (ZHG @Kk.eq_1 @Kk.eq_2)) (ZHG (ZHG @Kk.eq_3 @cellsOf.eq_1) (ZHG (@cellsOf.eq_2) (ZHG @Qm.eq_1 @Qm.eq_2)))) (ZHG (ZHG (ZHG @Qm.eq_3 @Qm.eq_4) (ZHG (@Qm.eq_5) (ZHG @Km.eq_1 @Km.eq_2))) (ZHG (ZHG @Km.eq_3 @Km.eq_4) (ZHG (@Zca.eq_1) (ZHG @Zca.eq_2 @Zca.eq_3))))) (ZHG (ZHG (ZHG (ZHG @Qz.eq_1 @Qz.eq_2) (ZHG @ZY.eq_1 @ZY.eq_2)) (ZHG (ZHG @Qw.eq_1 @Qw.eq_2) (ZHG (@WP.eq_1) (ZHG @WP.eq_2 @WP.eq_3)))) (ZHG (ZHG (ZHG @WP.eq_4 @Zbv.eq_1) (ZHG (@Zbv.eq_2) (ZHG @Zbv.eq_3 @Zbv.eq_4))) (ZHG (ZHG @Zcj.eq_1 @Zcj.eq_2) (ZHG (@Zcj.eq_3) (ZHG @Zcj.eq_4 @part.eq_1))))))))
end Go.DL
namespace Go.DL
open Go
variable [Zsq]
variable {kp:Option (List Nat)}{L:Loc}{H:Env}{s:St}{w:World}{os:List DOp}{ds:List D}{B:List (Nat × Rd)}{dst:Option Nat}{tmps:Array Value}{g:G}{Φ:Res->St->Prop}{Z:Nat->Nat}{xs:List Opd}{side:Prop}{row:Nat->List D}
section
variable {P:Program}
def ZAT{F:Fr P}{kp dk o os H L s}(hg:o.guard=nO){x}(hk:o.k=.box x){t}(hdt:o.dst=sO t){p v}(ha:ZD H true x=sO (p,.d v))(hp:p)(hok:Km v=true)(h:∀b,s b=nO->DO F kp dk os ((t,.d (.ptr b 0))::H) L (s.upd b (.cells (cellsOf v)))):DO F kp dk (o::os) H L s:=by
 refine Wz λoo g Z w tmps ae i r k ag n ak u hd hN m hr ad=>?_;have hw:=Yi m ak (c:=true) (by rw[hg];rfl);have af:=Yq n (by rw[hk];rfl);rw[hk]at n;obtain⟨e,x',ac,ai⟩:=ZxR n;have j:Rep g w _ v:=Yf m ai rfl ha hp F.ds;generalize aj:(Act.mk tmps F.ds).eval x'=vv at j;obtain⟨al,ah⟩:=Zew j hok;have ab:=ZhK j hok;have z:=Zav (g:=g) (w:=w) (.cells vv.cells e) m.st.fresh;have he:=z.ext m.st.fresh;obtain⟨hn,m'⟩:=m.newObj z (o:=.cells (cellsOf v)) ⟨(m.st.fresh _ (ZHV _)).1,_,e,Kw w,by rw[al],λi v d hv hd=>(ah i v d (by simpa using hv) hd).mono he,ab⟩;refine YU (L':=L) hN ag u hd hw af (v:=.pointer (sO ⟨w.heap.size,0,nO⟩)) (e:=.d (.ptr w.heap.size 0)) ?_ he m' (Rep.ptr _ _) ?_;simp[execOp,ac,aj,Instr.box,newVar,newRow];rw[hdt];exact h _ hn ae r k hr ad
def ZxF{F:Fr P}{kp dk o os H L s}(hg:o.guard=nO){t}(hdt:o.dst=sO t){z}(hk:o.k=.alloc z)(h:∀b,s b=nO->DO F kp dk os ((t,.d (.ptr b 0))::H) L (s.upd b (.cells z))):DO F kp dk (o::os) H L s:=by
 refine Wz λoo g Z w tmps af i r k ai j aj n hd hN m hr ae=>?_;have hw:=Yi m aj (c:=true) (by rw[hg];rfl);have ag:=Yq j (by rw[hk];rfl);rw[hk]at j;obtain⟨T,ad,hz⟩:=ZsK j;obtain⟨v,ah,ab,ac,_⟩:=JE (g:=g) (w:=w) hz;have u:=Zav (g:=g) (w:=w) (.cells v.cells T) m.st.fresh;have he:=u.ext m.st.fresh;obtain⟨hn,m'⟩:=m.newObj u (o:=.cells z) ⟨(m.st.fresh _ (ZHV _)).1,_,T,Kw w,by simpa using ab.len,λi v d hv hd=>(ab.get i v d (by simpa using hv) hd).mono he,ac⟩;refine YU (L':=L) hN ai n hd hw ag (v:=.pointer (sO ⟨w.heap.size,0,nO⟩)) (e:=.d (.ptr w.heap.size 0)) ?_ he m' (Rep.ptr _ _) ?_;simp[execOp,ad,Instr.alloc,ah,newVar,newRow];rw[hdt];exact h _ hn af r k hr ae
def Zf6{g w b off cs xs vs}(h:Wc g w b cs)(hx:ZO (Rep g w) vs xs)(ho:∀v∈vs,v.one1=true)(hlen:off+I xs<=I cs)(hkp:¬g.kept b):
  ∃w',(storeCells ⟨b,off,nO⟩ vs 0).run P w=.ok () w'/\Ext g w g w'/\w'.heap.size=w.heap.size/\(∀c,c≠b->w'.heap[c]?=w.heap[c]?)/\Wc g w' b (Zq cs off xs):=by
 obtain⟨z,j,T,hb,ab,af,ad⟩:=h;have ae:I vs=I xs:=hx.len;have ac:=run_storeCells_at (P:=P) b off T vs 0 j w hb (by simp;omega) (λx hx=>by rw[ZdI];exact ho x hx);simp only[Nat.add_zero]at ac;have n:ZO (Rep g w) (j.toList.take off++vs++j.toList.drop (off+I vs)) (Zq cs off xs):=by have u:ZO (Rep g w) j.toList cs:=Yo (by simpa using ab) (λi v d hv hd=>af i v d (by simpa using hv) hd);unfold Zq;rw[<-ae];exact((u.take off).append hx).append (u.drop _)
 have t:((j.toList.take off++vs++j.toList.drop (off+I vs)).toArray).size=j.size:=by have:=n.len;simp[Zq]at this⊢;omega
 have he:=Zih (g:=g) b hb t z hkp;refine⟨_,ac,he,by simp[World.setRow],λc hc=>setRow_other w b c _ hc,z,_,T,setRow_heap w b j _ T (0,0) hb,by rw[t,ab];simp[Zq];omega,
  λi v d hv hd=>(n.get i v d (by simpa using hv) hd).mono he,λx hx=>?_⟩
 simp only[List.mem_toArray,List.mem_append]at hx;rcases hx with (hx|hx)|hx;exact ad x (Array.mem_toList_iff.1 (List.mem_of_mem_take hx));exact ho x hx;exact ad x (Array.mem_toList_iff.1 (List.mem_of_mem_drop hx))
def ZzB{op n z x}(h:ck P op=sO (.clear n z x)):
  ∃ats t e x',op=.call ⟨.builtin .clear,#[x'],ats⟩/\ats[0]?=sO t/\P.underlying t=sO (.slice e)/\Z2 P e=sO n/\Za8 P e=sO z/\Z6 x'=sO x/\0<n/\I z=n:=by
 unfold ck at h;split at h;simp at h;split at h<;>(try(simp at h;done));all_goals (try(repeat' (split at h<;>(try(simp at h;done)))))
 rename_i c _ _ u _ _ e x' hu i _ _ _ s z' x2 h1 h2 h3 hc;simp only[ZHE,K.clear.injEq]at h;obtain⟨rfl,rfl,rfl⟩:=h;obtain⟨callee,j,ats⟩:=c;simp only at u hu i;obtain⟨j⟩:=j;simp only at i;subst i;subst u;simp only[Option.bind_eq_some_iff]at hu;obtain⟨t,ht,hu⟩:=hu;simp only[ZHN,decide_eq_true_eq]at hc;exact⟨ats,t,e,x',rfl,ht,hu,h1,h2,h3,hc.1,hc.2⟩
def Zmx{F:Fr P}{kp dk o os H L s}(hg:Zo H o.guard=sO true){z x sz b off n cap}(hk:o.k=.clear sz z x){p}(ha:ZD H true x=sO (p,.d (.msl b off n cap sz)))(hp:p){cs}(hcs:Ye s b=sO cs)(hlen:off+n*sz<=I cs)(h:DO F kp dk os (Zz H o.dst (.d (.tup []))) L (s.upd b (.cells (Zq cs off (K2 z n))))):DO F kp dk (o::os) H L s:=by
 refine Wz λoo g Z w tmps ar i r k aw ac a6 ag hd hN m hr ap=>?_;have hw:=Yi m a6 hg;have av:=Yq ac (by rw[hk];rfl);rw[hk]at ac;obtain⟨al,t,e,x',ao,ae,hu,hsz,hz,ax,h0,ay⟩:=ZzB ac;obtain⟨zv,au,ah,aq,ie,hie,hzz⟩:=JE (g:=g) (w:=w) hz;have j:zv.cells.size=sz:=by have:=ah.len;simp at this;omega
 have ab:Rep g w _ _:=Yf m ax rfl ha hp F.ds;generalize az:(Act.mk tmps F.ds).eval x'=vv at ab;have ai:s b=sO (.cells cs):=by unfold Ye at hcs;split at hcs<;>simp only[ZHE,reduceCtorEq]at hcs;subst hcs;assumption
 obtain⟨af,a0⟩:=Zk1 (z:=z) (n:=sz) (c:=n) ay;have am:ZO (Rep g w) (Builtin.zeroCells zv.cells n).toList (K2 z n):=by
  refine Yo (by rw[Array.length_toList,size_zeroCells,af,j]) λi v d hv hd=>?_;have hi:i<n*sz:=by rw[<-af];exact(List.getElem?_eq_some_iff.1 hd).1
  rw[a0 i hi]at hd;have hm:i % sz<sz:=Nat.mod_lt _ h0;simp only[Builtin.zeroCells,Array.toList_map,Array.toList_range,List.getElem?_map,ZHS,j]at hv;obtain⟨a,ha,rfl⟩:=hv;rw[List.getElem?_range hi]at ha;simp only[ZHE]at ha;subst ha;refine ah.get (i % sz) _ d ?_ hd;rw[getElem!_pos zv.cells (i % sz) ω];simp[j,hm]
 have ak:∀v∈(Builtin.zeroCells zv.cells n).toList,v.one1=true:=λv hv=>by simp only[Builtin.zeroCells,Array.mem_toList_iff,Array.mem_map]at hv;obtain⟨a,_,rfl⟩:=hv;by_cases hs0:zv.cells.size=0;omega;exact aq _ (by rw[getElem!_pos zv.cells _ (Nat.mod_lt _ ω)];exact Array.getElem_mem _)
 have u:n=0->Zq cs off (K2 z n)=cs:=λhn=>by subst hn;simp[Zq,K2]
 have aj:∃w',(Builtin.clear_ al oo.type #[vv]).run P w=.ok (.tuple #[]) w'/\Ext g w g w'/\w'.heap.size=w.heap.size/\(∀c,c≠b->w'.heap[c]?=w.heap[c]?)/\Wc g w' b (Zq cs off (K2 z n)):=by
  have ad:=JF m.st hcs;cases ab with
  |mslx a =>refine⟨w,?_,Ext.refl g w,rfl,λ_ _=>rfl,by rw[u rfl];exact ad⟩;simp[Builtin.clear_,ae,run_underlying hu]
  |msl _ _ _ _ _ h1 h2 =>
   cases n with
   |zero =>refine⟨w,?_,Ext.refl g w,rfl,λ_ _=>rfl,by rw[u rfl];exact ad⟩;simp[Builtin.clear_,ae,run_underlying hu]
   |succ n =>obtain⟨w',a1,a2,a3,a4,a5⟩:=Zf6 (P:=P) ad am ak (by rw[af];exact hlen) (m.st.kept b _ ai);refine⟨w',?_,a2,a3,a4,a5⟩;simp only[Builtin.clear_,ae,List.getElem?_toArray,List.getElem?_cons_zero,Sem.run_bind,run_underlying hu,Result.andThen_ok,au,a1,Sem.run_pure]
 obtain⟨w',a1,a2,a3,a4,a5⟩:=aj;have m':=m.named (o':=.cells (Zq cs off (K2 z n))) ai a2 a3 a4 a5;refine YU (L':=L) hN aw ag hd hw av (v:=.tuple #[]) (e:=.d (.tup [])) ?_ a2 m' (Rep.tup [] [] rfl ψ) (h ar r k hr ap);simp only[execOp,ao,resolve,invoke,builtin,Sem.run_bind,Sem.run_pure,Result.andThen_ok,List.map_toArray,ZHY,ZIf,az,a1]
def Jh(P:Program)(s:St)(sz:Nat)(dy:D)(m:Nat)(row:Nat->List D):Prop :=
 ∀g w v,Yp g s w->Rep g w v dy->0<sz->∃news,Ke g w sz m news row/\ZbS P w sz m v news
def Jh.elems{s sz i m row}(h:QK sz i=sO (m,row)):Jh P s sz i m row:=λg w v _ j n=>ZmS (P:=P) j h n
def Jh.msl{s sz b off n cap cs}(hcs:Ye s b=sO cs)(hlen:off+n*sz<=I cs):Jh P s sz (.msl b off n cap sz) n (λi=>part cs (off+i*sz) sz):=λg w v hs hr h0=>by
 obtain⟨hp,z,T,hb,hcl,ae,ac⟩:=JF hs hcs;let vals:=(z.toList.drop off).take (n*sz);have u:I vals=n*sz:=by simp[vals];omega
 have t:∀k,k<n*sz->vals[k]?=z[off+k]?:=λk hk=>by simp only[vals,ZIm,hk,if_true,List.getElem?_drop,Array.getElem?_toList]
 have hk:∀i j,i<n->j<sz->i*sz+j<n*sz:=λi j hi hj=>by have:(i+1)*sz<=n*sz:=ZH5 _ hi;rw[ZIa,Nat.one_mul]at this;omega
 refine⟨vals,⟨u,λi hi=>?_,λi j v d hi hj hv hd=>?_,λv hv=>?_⟩,?_⟩;have:=hk i (sz-1) hi ω;simp only[part,ZHZ,ZIh];omega;rw[t _ (hk i j hi hj)]at hv;refine ae _ v d hv ?_;simp only[part,ZIm,hj,if_true,List.getElem?_drop]at hd;rw[<-hd];congr 1;omega;obtain⟨k,ab,rfl⟩:=ZH1 hv;have h1:=t k ω;rw[ZIb ab]at h1;exact ac _ (Array.mem_of_getElem? h1.symm);cases hr with
 |mslx a =>have:vals=[]:=List.eq_nil_of_length_eq_zero (by simpa using u);rw[this];exact⟨λw2=>by simp[Builtin.lenOf],λw2 _=>by simp[Builtin.firstCells,loadCells,loadCellsFrom]⟩
 |msl _ _ _ _ _ h1 h2 =>
  refine⟨λw2=>by simp[Builtin.lenOf],λw2 af=>?_⟩;refine run_firstCells_some (P:=P) w2 sz n ⟨b,off,nO⟩ n cap vals u λk v hv=>?_;have ad:k<n*sz:=by rw[<-u];exact(List.getElem?_eq_some_iff.1 hv).1
  rw[t k ad]at hv;rw[Kv,J8 (af▸rfl:w2.heap[b]?=w.heap[b]?),Zbg hb];exact hv
def Zv2{F:Fr P}{kp dk o os H L s}(hg:Zo H o.guard=sO true){e sz b z x y}(hk:o.k=.append e sz b z x y){p q t n m row row2 dy dx}(hx:ZD H true x=sO (p,.d dx))(hsl:Zbe sz dx=sO (t,n,row))(hy:ZD H true y=sO (q,.d dy))(hp:p)(hq:q)(hel:Jh P (s.own t (n*sz)) sz dy m row2)(hok:t.okIn s)(hb:(n+m)*b<=140737488355328)(hbig:n+m<=big)(h:∀t':Tok,t'.okIn s->DO F kp dk os (Zz H o.dst (.d (.sl t' (n+m) sz (YA n row row2)))) L (s.own t' ((n+m)*sz))):
  DO F kp dk (o::os) H L (s.own t (n*sz)):=by
 refine Wz λoo g Z w tmps av i r k ak u ao ah hd hN M hr bb=>?_;have hw:=Yi M ao hg;have ay:=Yq u (by rw[hk];rfl);rw[hk]at u;obtain⟨x',y',ag,a9,t1,t2,tu,aj,ad,bh,bg,ar,ba,ax,au,hz,be,al,aw,h0,hzl⟩:=ZcD u;subst be;have ap:Rep g w _ (.sl t n sz row):=Zhs (Yf M al rfl hx hp F.ds) hsl;have az:Rep g w _ _:=Yf M aw rfl hy hq F.ds;obtain⟨zv,hz1,bc,hz3,ie,ac,am⟩:=JE (g:=g) (w:=w) hz;have ae:ie.size=sz:=by simpa[Z2,ac]using au
 have j:zv.cells.size=sz:=by have:=bc.len;simp at this;omega
 have a0:P.bytesOf e=ie.bytes:=by simp[Program.bytesOf,ac]
 rw[a0]at hb;obtain⟨news,bf,aq⟩:=hel _ _ _ M.st az h0;obtain⟨v',w',g',t',a1,a2,a3,a4,a5,a6,a7⟩:=ZsA (ty:=oo.type) ar ba ax ac am ae j h0 M.st hok ap bf aq hb hbig;have ab:∀l cs,Zj L l=sO cs->t≠.tip (Z l):=λl cs hl ht=>by have:=M.locSt l cs hl;rw[ht]at this;simp[St.own,ZIi]at this
 have ai:∀l cs,Zj L l=sO cs->s (Z l)=nO:=λl cs hl=>by
  cases hx:s (Z l) with
  |none=>rfl
  |some o=>have:=YH (k:=n*sz) hok _ _ hx;rw[M.locSt l cs hl]at this;simp at this
 have mm:Zy g' Z w' tmps H L (s.own t' ((n+m)*sz)):=by
  refine⟨a3,λl cs hl=>(M.loc l cs hl).mono a2 (a6 (Z l) (M.loc l cs hl).lt (ab l cs hl)).1 (a6 (Z l) (M.loc l cs hl).lt (ab l cs hl)).2,λl cs hl=>by rw[a2.keptEq];exact M.locKept l cs hl,λl cs hl=>?_,M.inj,λt e he=>(M.env t e he).mono a2⟩;cases t' with
  |tip b =>
   have:¬Z l=b:=λhb=>by rcases a7 b rfl with h1|h1;exact ab l cs hl (by rw[hb];exact h1);have:=(M.loc l cs hl).lt;omega
   simp only[St.own,ZIi,this,if_false];exact ai l cs hl
  |_=>exact ai l cs hl
 refine YU hN ak ah hd hw ay (v:=v') (w':=w') (e:=.d (.sl t' (n+m) sz (YA n row row2))) ?_ a2 mm a5 (h t' a4 av r k hr bb);have a8:ag = #[x',y']:=by apply Array.ext';simpa using ad
 have af:∀vs,Builtin.append_ a9 oo.type vs=Builtin.append_ #[t1,t2] oo.type vs:=λvs=>by unfold Builtin.append_;simp[bh,bg]
 unfold execOp;simp only[aj,a8,resolve,invoke,builtin,Sem.run_bind,Sem.run_pure,Result.andThen_ok,List.map_toArray,ZHY,ZIf,af,a1]
def Zdz{sz m}{row:Nat->List D}(h:∀i,i<m->(row i).length=sz):∀k,k<=m->((ZHT k).flatMap row).length=k*sz
 |0,_=>by simp
 |k+1,hk=>by rw[List.range_succ,List.flatMap_append,ZHO,Zdz h k ω];simp[h k hk,ZIa]
def ZmU{sz m}{row:Nat->List D}(h:∀i,i<m->(row i).length=sz):∀(k i j),k<=m->i<k->j<sz->((ZHT k).flatMap row)[i*sz+j]?=(row i)[j]?
 |0,i,j,_,hi,_=>by omega
 |k+1,i,j,hk,hi,hj=>by
  rw[List.range_succ,List.flatMap_append];have hl:=Zdz h k ω;by_cases n:i<k;have:i*sz+j<k*sz:=by have:(i+1)*sz<=k*sz:=ZH5 _ n;rw[ZIa,Nat.one_mul]at this;omega
  rw[ZIc ω];exact ZmU h k i j ω n hj;obtain rfl:i=k:=ω;rw[ZIq ω,hl];simp[List.flatMap_cons]
def Ke.flat{g w sz m vs row}(h:Ke g w sz m vs row):ZO (Rep g w) vs ((ZHT m).flatMap row):=by
 have t:=Zdz h.rlen m (ZHV _);refine Yo (by rw[h.len,t]) λk v d n i=>?_;have hk:k<m*sz:=by rw[<-t];exact(List.getElem?_eq_some_iff.1 i).1
 have j:0<sz:=by rcases Nat.eq_zero_or_pos sz with h|h;subst h;simp at hk;exact h
 have u:k / sz<m:=(Nat.div_lt_iff_lt_mul j).2 hk;have z:k % sz<sz:=Nat.mod_lt _ j;have e:k / sz*sz+k % sz=k:=by rw[Nat.mul_comm];exact Nat.div_add_mod k sz
 rw[<-e]at n i;rw[ZmU h.rlen m _ _ (ZHV _) u z]at i;exact h.rep _ _ v d u z n i
def Zzn{F:Fr P}{kp dk o os H L s}(hg:Zo H o.guard=sO true){e sz b z x y}(hk:o.k=.append e sz b z x y){p q m row row2 dy dx}(hx:ZD H true x=sO (p,.d dx))(hsl:Zbe sz dx=sO (.full,0,row))(hy:ZD H true y=sO (q,.d dy))(hel:Jh P s sz dy m row2)(hp:p)(hq:q)(hm:0<m)(hb:m*b<=140737488355328)(hbig:m<=big)(h:∀c cap,s c=nO->m<=cap->DO F kp dk os (Zz H o.dst (.d (.msl c 0 m cap sz))) L (s.upd c (.cells ((ZHT m).flatMap row2++List.replicate ((cap-m)*sz) .any)))):
  DO F kp dk (o::os) H L s:=by
 refine Wz λoo g Z w tmps au i r k az n be ad hd hN M hr am=>?_;have hw:=Yi M be hg;have ax:=Yq n (by rw[hk];rfl);rw[hk]at n;obtain⟨x',y',ac,ah,t1,t2,tu,ak,t,a7,av,al,ai,aw,aq,hz,ap,ba,a9,h0,hzl⟩:=ZcD n;subst ap;have bg:Rep g w _ (.sl .full 0 sz row):=Zhs (Yf M ba rfl hx hp F.ds) hsl;have a8:Rep g w _ _:=Yf M a9 rfl hy hq F.ds;obtain⟨zv,hz1,ao,ar,ie,u,bc⟩:=JE (g:=g) (w:=w) hz;have ab:ie.size=sz:=by simpa[Z2,u]using aq
 have j:zv.cells.size=sz:=by have:=ao.len;simp at this;omega
 have bb:P.bytesOf e=ie.bytes:=by simp[Program.bytesOf,u]
 rw[bb]at hb;obtain⟨news,ae,aj⟩:=hel _ _ _ M.st a8 h0;obtain⟨cap,cv,a1,a2,a3,a4,a5,a6⟩:=Zvh (ty:=oo.type) al ai aw u bc ab j ar h0 M.st bg hm ae aj hb hbig;have af:Zaq g w g (w.drew.alloc (.cells cv e)):=ZjM (g:=g) (w:=w) cv e M.st.fresh;have he:=af.ext M.st.fresh;have a0:=Zdz ae.rlen m (ZHV _);have ay:W2 g (w.drew.alloc (.cells cv e)) w.heap.size (.cells ((ZHT m).flatMap row2++List.replicate ((cap-m)*sz) .any)) :=
  ⟨(M.st.fresh _ (ZHV _)).1,_,e,Kw w.drew,by rw[ZHO,a0,List.length_replicate,a4,<-ZIa];congr 1;omega,λi v d hv hd=>(a6 i v d hv hd).mono he,a5⟩
 obtain⟨hn,m'⟩:=M.newObj af ay;refine YU (L':=L) hN az ad hd hw ax (e:=.d (.msl w.heap.size 0 m cap sz)) ?_ he m' (Rep.msl _ _ _ _ _ a2 a3) (h _ cap hn a2 au r k hr am);have bf:ac = #[x',y']:=by apply Array.ext';simpa using t
 have ag:∀vs,Builtin.append_ ah oo.type vs=Builtin.append_ #[t1,t2] oo.type vs:=λvs=>by unfold Builtin.append_;simp[a7,av]
 unfold execOp;simp only[ak,bf,resolve,invoke,builtin,Sem.run_bind,Sem.run_pure,Result.andThen_ok,List.map_toArray,ZHY,ZIf,ag,a1]
def Zk3{F:Fr P}{kp dk o os H L s}(hg:Zo H o.guard=sO true){e sz bt z x y}(hk:o.k=.append e sz bt z x y){p q b off n cap m row2 dy cs}(hx:ZD H true x=sO (p,.d (.msl b off n cap sz)))(hy:ZD H true y=sO (q,.d dy))(hp:p)(hq:q)(hcs:Ye s b=sO cs)(hlen:off+n*sz<=I cs)(hel:Jh P s sz dy m row2)(hroom:n+m<=cap->off=0/\(n+m)*sz<=I cs)(hb:(n+m)*bt<=140737488355328)(hbig:n+m<=big)(h1:n+m<=cap->DO F kp dk os (Zz H o.dst (.d (.msl b off (n+m) cap sz))) L (s.upd b (.cells (Zq cs (n*sz) ((ZHT m).flatMap row2)))))(h2:∀c cap',cap<n+m->s c=nO->n+m<=cap'->DO F kp dk os (Zz H o.dst (.d (.msl c 0 (n+m) cap' sz))) L (s.upd c (.cells (part cs off (n*sz)++(ZHT m).flatMap row2++List.replicate ((cap'-(n+m))*sz) .any)))):
  DO F kp dk (o::os) H L s:=by
 refine Wz λoo g Z w tmps ag i r k ax av b2 aj hd hN M hr a7=>?_;have hw:=Yi M b2 hg;have a0:=Yq av (by rw[hk];rfl);rw[hk]at av;obtain⟨x',y',bg,cp,t1,t2,tu,bx,a8,cy,cx,ay,a6,az,ce,hz,cw,b0,ci,h0,hzl⟩:=ZcD av;subst cw;have af:Rep g w _ (.msl b off n cap sz):=Yf M b0 rfl hx hp F.ds;have bo:Rep g w _ _:=Yf M ci rfl hy hq F.ds;obtain⟨zv,hz1,cu,bz,ie,ah,b1⟩:=JE (g:=g) (w:=w) hz;have a9:ie.size=sz:=by simpa[Z2,ah]using ce
 have au:zv.cells.size=sz:=by have:=cu.len;simp at this;omega
 have cn:P.bytesOf e=ie.bytes:=by simp[Program.bytesOf,ah]
 rw[cn]at hb;have bh:s b=sO (.cells cs):=by unfold Ye at hcs;split at hcs<;>simp only[ZHE,reduceCtorEq]at hcs;subst hcs;assumption
 obtain⟨ac,u,al⟩:=hel _ _ _ M.st bo h0;obtain⟨ba,am,bu⟩:=Jh.msl (P:=P) (s:=s) (cap:=cap) hcs hlen g w _ M.st af h0;have co:bg = #[x',y']:=by apply Array.ext';simpa using a8
 have be:∀vs,Builtin.append_ cp oo.type vs=Builtin.append_ #[t1,t2] oo.type vs:=λvs=>by unfold Builtin.append_;simp[cy,cx]
 generalize bw:(Act.mk tmps F.ds).eval x'=vx at af bu;generalize cj:(Act.mk tmps F.ds).eval y'=vy at bo al;have ab:∀v' w',(Builtin.append_ #[t1,t2] oo.type #[vx,vy]).run P w=.ok v' w'->(execOp (Act.mk tmps F.ds).eval oo).run P w=.ok (.value v') w':=λv' w' j=>by unfold execOp;simp only[bx,co,resolve,invoke,builtin,Sem.run_bind,Sem.run_pure,Result.andThen_ok,List.map_toArray,ZHY,ZIf,be,bw,cj,j]
 subst a9;have ch:=Zdz u.rlen m (ZHV _);have hpl:(part cs off (n*ie.size)).length=n*ie.size:=by simp only[part,ZHZ,ZIh];omega
 have bn:(ZHT n).flatMap (λi=>part cs (off+i*ie.size) ie.size)=part cs off (n*ie.size):=by
  have hlo:=Zdz am.rlen n (ZHV _);apply List.ext_getElem?;intro k';by_cases br:k'<n*ie.size;have e1:k' / ie.size*ie.size+k' % ie.size=k':=by rw[Nat.mul_comm];exact Nat.div_add_mod k' ie.size
  have e2:k' / ie.size<n:=(Nat.div_lt_iff_lt_mul h0).2 br;have e3:k' % ie.size<ie.size:=Nat.mod_lt _ h0;have:=ZmU am.rlen n _ _ (ZHV _) e2 e3;rw[e1]at this;rw[this];simp only[part,ZIm,e3,if_true,List.getElem?_drop,br]
  congr 1;omega
  rw[ZIr ω,ZIr ω]
 have ai:∀base,vx=.slice base n cap->cap<n+m->F.T.T g w (lone (F.b.atR ⟨tmps,F.ds⟩ (.inRegion ag (i::r)::k)) F.cs w):=by
  intro base hv bl;subst hv;have j:=ZmJ (ty:=oo.type) ay a6 az ah b1 al bu.2 bl (by simp only[big]at hbig;omega) hb;have aw:=grownCap_ge w (n+m) cap e;have t:=grownCap_le_maxLen w (n+m) cap e (by simp only[big]at hbig;simp only[maxLen];omega);generalize grownCap w (n+m) cap e=cap' at j aw t;generalize bp:(ba++ac++(Builtin.zeroCells zv.cells (cap'-(n+m))).toList).toArray=cv at j;have cr:(Builtin.zeroCells zv.cells (cap'-(n+m))).toList.length=(cap'-(n+m))*ie.size:=by rw[Array.length_toList,size_zeroCells,au]
  have bi:Zaq g w g (w.drew.alloc (.cells cv e)):=ZjM (g:=g) (w:=w) cv e M.st.fresh;have he:=bi.ext M.st.fresh;have ap:ZO (Rep g w) cv.toList (part cs off (n*ie.size)++(ZHT m).flatMap row2++List.replicate ((cap'-(n+m))*ie.size) .any):=by rw[<-bp,<-bn];refine(am.flat.append u.flat).append (Yo (by rw[cr,List.length_replicate]) λk' v d hv hd=>?_);rw[List.getElem?_replicate]at hd;split at hd<;>simp only[ZHE,reduceCtorEq]at hd;subst hd;exact .any v
  have bj:∀v∈cv,v.one1=true:=λv hv=>by rw[<-bp]at hv;simp only[List.mem_toArray,List.mem_append]at hv;rcases hv with (hv|hv)|hv;exact am.one v hv;exact u.one v hv;simp only[Builtin.zeroCells,Array.mem_toList_iff,Array.mem_map]at hv;obtain⟨a,_,rfl⟩:=hv;exact bz _ (by rw[getElem!_pos zv.cells _ (Nat.mod_lt _ ω)];exact Array.getElem_mem _)
  have cg:W2 g (w.drew.alloc (.cells cv e)) w.heap.size (.cells (part cs off (n*ie.size)++(ZHT m).flatMap row2++List.replicate ((cap'-(n+m))*ie.size) .any)) :=
   ⟨(M.st.fresh _ (ZHV _)).1,_,e,Kw w.drew,by simpa using ap.len,λi v d hv hd=>(ap.get i v d (by simpa using hv) hd).mono he,bj⟩
  obtain⟨hn,m'⟩:=M.newObj bi cg;exact YU (L':=L) hN ax aj hd hw a0 (e:=.d (.msl w.heap.size 0 (n+m) cap' ie.size)) (ab _ _ j) he m' (Rep.msl _ _ _ _ _ aw (by simp only[maxLen]at t;simp only[big];omega)) (h2 _ cap' bl hn aw ag r k hr a7)
 have ad:∀base,vx=.slice base n cap->base=sO ⟨b,off,nO⟩\/(n+m=0/\cap=0)->n+m<=cap->F.T.T g w (lone (F.b.atR ⟨tmps,F.ds⟩ (.inRegion ag (i::r)::k)) F.cs w):=by
  intro base hv ar t;subst hv;obtain⟨cm,ae⟩:=hroom t;subst cm;obtain⟨hpr,bc,T,bq,cb,hcr,hco⟩:=JF M.st hcs;by_cases bf:m=0;subst bf;have ca:ac=[]:=List.eq_nil_of_length_eq_zero (by simpa using u.len);subst ca;have j:=Zqz (ty:=oo.type) (n:=n) (cap:=cap) (base:=base) ay a6 az ah al ω;have bk:Zq cs (n*ie.size) ((ZHT 0).flatMap row2)=cs:=by simp[Zq]
  have bv:s.upd b (.cells cs)=s:=by funext c;simp only[ZIi];split<;>simp_all
  have bb:=h1 t;rw[bk,bv]at bb;exact YU (L':=L) (s':=s) hN ax aj hd hw a0 (e:=.d (.msl b 0 (n+0) cap ie.size)) (ab _ _ j) (Ext.refl g w) M (by rw[Nat.add_zero];exact af) (bb ag r k hr a7);have ak:base=sO ⟨b,0,nO⟩:=ar.resolve_right (λh=>bf ω);subst ak;have aq:n*ie.size+I ac<=bc.size:=by rw[u.len,<-ZIa,cb];exact ae
  have j:=ZsB (ty:=oo.type) ay a6 az ah al bq (λv hv=>by rw[ZdI];exact u.one v hv) t aq;obtain⟨w',a1,a2,a3,a4,a5⟩:=Zf6 (P:=P) (off:=n*ie.size) (JF M.st hcs) u.flat u.one (by rw[ch,<-ZIa];exact ae) (M.st.kept b _ bh);have ao:=run_storeCells_at (P:=P) b (n*ie.size) T ac 0 bc w bq (by simpa using aq) (λv hv=>by rw[ZdI];exact u.one v hv);simp only[Nat.add_zero]at ao;rw[a1]at ao;simp only[Result.ok.injEq,true_and]at ao;rw[<-ao]at j;have m':=M.named (o':=.cells (Zq cs (n*ie.size) ((ZHT m).flatMap row2))) bh a2 a3 a4 a5;exact YU (L':=L) hN ax aj hd hw a0 (e:=.d (.msl b 0 (n+m) cap ie.size)) (ab _ _ j) a2 m' (by
   cases af with
   |msl _ _ _ _ _ _ hcb=>exact Rep.msl _ _ _ _ _ t hcb
   |mslx a=>exact absurd t ω) (h1 t ag r k hr a7)
 cases af with
 |msl _ _ _ _ _ hc1 hc2 =>by_cases t:n+m<=cap;exact ad _ rfl (.inl rfl) t;exact ai _ rfl ω
 |mslx a =>by_cases t:0+m<=0;exact ad _ rfl (.inr ⟨ω,rfl⟩) t;exact ai _ rfl ω
end
variable {P:Program}
def QE(o:DOp)(H:Env)(L:Loc)(s:St):SR :=
 match o.k with
 |.q (.bin .add _) _=>.stop
 |_=>ZG o H L s
def KQ(K:Env->Loc->St->Prop)(X:List DOp->Env->Loc->St->Prop):List DOp->Env->Loc->St->Prop
 | [],H,L,s=>K H L s
 |o::os,H,L,s=>match QE o H L s with
  |.ok side H' L' s'=>side/\KQ K X os H' L' s'
  |.all side pre H' s'=>side/\∀b,pre b->KQ K X os (H' b) L (s' b)
  |.stop=>X (o::os) H L s
def ZiS{o H L s}:∀r,QE o H L s=r->r=.stop\/ZG o H L s=r:=λr i=>by
 unfold QE at i;split at i;exact .inl i.symm;exact .inr i
def KZ{F:Fr P}{kp}{dk}:∀{os} {H} {L} {s},
  KQ (λH L s=>ZC F dk (kept kp H) (Zll kp H L) s) (λos H L s=>DO F kp dk os H L s) os H L s->DO F kp dk os H L s
 | [],H,L,s,h=>Zfm h
 |o::os,H,L,s,h=>by simp only[KQ]at h;split at h;rename_i j H' L' s' i;rcases ZiS _ i with h2|h2;cases h2;exact Q1 h2 h.1 (KZ h.2);rename_i j pre H' s' i;rcases ZiS _ i with h2|h2;cases h2;exact Znr h2 h.1 λb n=>KZ (h.2 b n);exact h
def Zcy{F:Fr P}{ks dk}:∀{os H L s},
  KQ (λH L s=>ZC F dk (Yx H ks) (ZbD (Yx H ks) L) s) (λos H L s=>Jn F (sO ks) dk os H L s) os H L s->Jn F (sO ks) dk os H L s
 | [],H,L,s,h=>YT (os:=[]) h
 |o::os,H,L,s,h=>by simp only[KQ]at h;split at h;rename_i j H' L' s' i;rcases ZiS _ i with h2|h2;cases h2;intro B;refine JR h2 h.1 ?_;split;exact Zcy h.2 _;exact⟨ZbE,Zcy h.2 _⟩;rename_i j pre H' s' i;rcases ZiS _ i with h2|h2;cases h2;intro B;exact Zpl h2 h.1 λb n=>⟨ZbE,Zcy (h.2 b n) _⟩;exact h
def Zqq{F:Fr P}{kp dk o os H L s}(u:o.guard=nO){x y j}(t:o.k=.q (.bin .add j) [x,y]){p k a b}(i:Yg H true [x,y]=sO (p,[.d (.int k a),.d (.int k b)]))(n:p)(h:Jn F kp dk os (Zz H o.dst (.d (.int k (k.wrap (a+b))))) L s):Jn F kp dk (o::os) H L s:=λB=>Zzm u t i n (h B)
section
variable {P:Program} {F:Fr P} {ks:Option (List Nat)} {dk:List KH} {H:Env} {L:Loc} {s:St}
def rgR{r os i}(e:r=os)(j:i=ks)(h:DO F ks dk os H L s):ZC F (.code (.reg r i)::dk) H L s:=by subst e j;exact Zh4 h
def ZiG{o r os i}(e:r=os)(j:i=ks)(h:Jn F ks dk os H L s):ZC F (.code (.regD o (Zxw r) i)::dk) H L s:=by subst e j;exact Zv5 h
def rgD{o r os i}(e:r=os)(j:i=ks)(h:DOA F ks dk os H L s []):ZC F (.code (.regD o r i)::dk) H L s:=by subst e j;exact Zjm h
end
structure Hid(p:Prop):Prop where
 out:p
def nd2{a b}(x:a)(y:b):a/\b:=⟨x,y⟩
def mv{A B:Prop}(k:B)(h:Hid B->A:=by
 intro hk;repeat(first|refine Zd ?_|refine Zf ?_|refine Z9 ?_|refine Zp ?_|refine YL ?_|refine Zb ?_|refine YB ?_|refine ZR rfl ?_)
 exact hk.out):A:=h ⟨k⟩
def rg{A B:Prop}(k:B)(h:Hid B->A:=by
 intro hk;repeat(first|refine Zd ?_|refine Zf ?_|refine Z9 ?_|refine Zp ?_|refine YL ?_|refine Zb ?_|refine YB ?_|refine ZR rfl ?_)
 first|refine rgR (by conv=>lhs;whnf) (by conv=>lhs;whnf) (Zn ?_)|refine ZiG (by conv=>lhs;whnf) (by conv=>lhs;whnf) (YT ?_)|refine rgD (by conv=>lhs;whnf) (by conv=>lhs;whnf) (Yz ?_)
 simp only[Eqs,reduceCtorEq,Int.reduceToNat,reduceIte,Nat.reduceEqDiff,Nat.reduceAdd,Nat.reduceLeDiff];exact hk.out):A:=h ⟨k⟩
def rx{p:Prop}(e:p){A B:Prop}(k:B)(h:p->Hid B->A:=by
 intro e1 hk;repeat(first|refine Zd ?_|refine Zf ?_|refine Z9 ?_|refine Zp ?_|refine YL ?_|refine Zb ?_|refine YB ?_|refine ZR rfl ?_)
 first|refine rgR (by conv=>lhs;whnf) (by conv=>lhs;whnf) (Zn ?_)|refine ZiG (by conv=>lhs;whnf) (by conv=>lhs;whnf) (YT ?_)|refine rgD (by conv=>lhs;whnf) (by conv=>lhs;whnf) (Yz ?_)
 simp only[Eqs,reduceCtorEq,Int.reduceToNat,reduceIte,Nat.reduceEqDiff,Nat.reduceAdd,Nat.reduceLeDiff,e1];exact hk.out):A:=h e ⟨k⟩
def rh{A B:Prop}(k:B)(h:Hid B->A:=by
 intro hk;repeat(first|refine Zd ?_|refine Zf ?_|refine Z9 ?_|refine Zp ?_|refine YL ?_|refine Zb ?_|refine YB ?_|refine ZR rfl ?_)
 first|refine rgR (by conv=>lhs;whnf) (by conv=>lhs;whnf) ?_|refine ZiG (by conv=>lhs;whnf) (by conv=>lhs;whnf) ?_|refine rgD (by conv=>lhs;whnf) (by conv=>lhs;whnf) ?_
 exact hk.out):A:=h ⟨k⟩
def aa{A B:Prop}(k:B)(h:Hid B->A:=by
 intro hk;repeat(refine And.intro (by first|omega|trivial|(intro h0;simp at h0;omega)) ?_)
 exact hk.out):A:=h ⟨k⟩
def cl{q:Prop}(c:q){A B:Prop}(k:B)(h:q->Hid B->A:=by
 intro hc hk;refine Zao rfl rfl rfl rfl rfl φ φ hc (Zn ?_);simp only[Eqs,reduceCtorEq,Int.reduceToNat,reduceIte,Nat.reduceEqDiff,Nat.reduceAdd,Nat.reduceLeDiff];exact hk.out):A:=h c ⟨k⟩
def ct{q:Prop}(c:q){A B:Prop}(k:B)(h:q->Hid B->A:=by
 intro hc hk;refine JS rfl rfl rfl rfl rfl φ φ hc (Zn ?_);simp only[Eqs,reduceCtorEq,Int.reduceToNat,reduceIte,Nat.reduceEqDiff,Nat.reduceAdd,Nat.reduceLeDiff];exact hk.out):A:=h c ⟨k⟩
def cl0{q:Prop}(c:q){A B:Prop}(k:B)(h:q->Hid B->A:=by
 intro hc hk;refine Zv1 rfl rfl rfl rfl rfl φ φ hc (YT ?_);simp only[Eqs,reduceCtorEq,Int.reduceToNat,reduceIte,Nat.reduceEqDiff,Nat.reduceAdd,Nat.reduceLeDiff];exact hk.out):A:=h c ⟨k⟩
def clD{q:Prop}(c:q){A B:Prop}(k:B)(h:q->Hid B->A:=by
 intro hc hk;refine Zjk rfl rfl rfl rfl rfl φ φ hc (Yz ?_);simp only[Eqs,reduceCtorEq,Int.reduceToNat,reduceIte,Nat.reduceEqDiff,Nat.reduceAdd,Nat.reduceLeDiff];exact hk.out):A:=h c ⟨k⟩
def ctD{q:Prop}(c:q){A B:Prop}(k:B)(h:q->Hid B->A:=by
 intro hc hk;refine Zjl rfl rfl rfl rfl rfl φ φ hc (by first|trivial|exact⟨rfl,trivial⟩|simp[Wq,Qk]) (Yz ?_);simp only[Eqs,reduceCtorEq,Int.reduceToNat,reduceIte,Nat.reduceEqDiff,Nat.reduceAdd,Nat.reduceLeDiff];exact hk.out):A:=h c ⟨k⟩
section
variable {P:Program} {F:Fr P} {dk:List KH} {H:Env} {L:Loc} {s:St}
def cd{o x y b p}(ht:b=true->ZC F (.code x::dk) H L s)(hf:b=false->ZC F (.code y::dk) H L s)(ho:ZD H true o=sO (p,.d (.bool b)):=by rfl)(hp:p:=by trivial):ZC F (.code (.cond o x y)::dk) H L s:=Zt ho hp ht hf
end
def rb{p:Prop}(c:p){A B:Prop}(k:B)(h:p->Hid B->A:=by
 intro hret hk;repeat(first|refine Zd ?_|refine Zf ?_|refine Z9 ?_|refine Zp ?_|refine YL ?_|refine Zb ?_|refine YB ?_|refine ZR rfl ?_)
 exact hret rfl (by first|trivial|simp) (Zfg hk.out) (by first|exact St.sub_refl|exact YH (by first|trivial|assumption)|assumption|exact St.sub_upd _ (by assumption))):A:=h c ⟨k⟩
def ri{p:Prop}(c:p){A B:Prop}(k:B)(h:p->Hid B->A:=by
 intro hret hk;repeat(first|refine Zd ?_|refine Zf ?_|refine Z9 ?_|refine Zp ?_|refine YL ?_|refine Zb ?_|refine YB ?_|refine ZR rfl ?_)
 exact hret rfl (by first|trivial|simp) (Zhl hk.out) (by first|exact St.sub_refl|exact YH (by first|trivial|assumption)|assumption|exact St.sub_upd _ (by assumption))):A:=h c ⟨k⟩
def rs{p:Prop}(c:p){A B:Prop}(k:B)(h:p->Hid B->A:=by
 intro hret hk;repeat(first|refine Zd ?_|refine Zf ?_|refine Z9 ?_|refine Zp ?_|refine YL ?_|refine Zb ?_|refine YB ?_|refine ZR rfl ?_)
 exact hret rfl (by first|trivial|simp) (ZCb hk.out) (by first|exact St.sub_refl|exact YH (by first|trivial|assumption)|assumption|exact St.sub_upd _ (by assumption))):A:=h c ⟨k⟩
def ro{p:Prop}(c:p){A B:Prop}(k:B)(h:p->Hid B->A:=by
 intro hret hk;repeat(first|refine Zd ?_|refine Zf ?_|refine Z9 ?_|refine Zp ?_|refine YL ?_|refine Zb ?_|refine YB ?_|refine ZR rfl ?_)
 exact hret rfl (by first|trivial|simp) (ZB9 hk.out) (by first|exact St.sub_refl|exact YH (by first|trivial|assumption)|assumption|exact St.sub_upd _ (by assumption))):A:=h c ⟨k⟩
def rt{p:Prop}(c:p){A B:Prop}(k:B)(h:p->Hid B->A:=by
 intro hret hk;repeat(first|refine Zd ?_|refine Zf ?_|refine Z9 ?_|refine Zp ?_|refine YL ?_|refine Zb ?_|refine YB ?_|refine ZR rfl ?_)
 exact hret rfl (by first|trivial|simp) (K4 hk.out rfl) (by first|exact St.sub_refl|exact YH (by first|trivial|assumption)|assumption|exact St.sub_upd _ (by assumption))):A:=h c ⟨k⟩
def fr{P}{F:Fr P}{x dk H L s}(N)(M:Nat->(Env->Loc->St->Prop)->Prop)(h:∀n,(∀m,m<n->∀i,N-i=m->M i λH L s=>ZC F (.code x::.inLoop x::dk) H L s)->∀i,N-i=n->M i λH L s=>ZC F (.code x::.inLoop x::dk) H L s)(g:(∀n i,N-i=n->M i λH L s=>ZC F (.code x::.inLoop x::dk) H L s)->ZC F (.code x::.inLoop x::dk) H L s):ZC F (.code (.loop x)::dk) H L s :=
 Za9 (g λn=>Nat.strongRecOn n h)
def i0{A B:Prop}(k:B)(h:Hid B->A:=by
 intro hq;repeat(first|refine Zd ?_|refine Zf ?_|refine Z9 ?_|refine Zp ?_|refine YL ?_|refine Zb ?_|refine YB ?_|refine ZR rfl ?_)
 exact Zt rfl trivial (λh=>by first|(simp at h;done)|(rw[hk]at h;simp at h;done)) (λ_=>hq.out)):A:=h ⟨k⟩
def i1{A B:Prop}(k:B)(h:Hid B->A:=by
 intro hq;repeat(first|refine Zd ?_|refine Zf ?_|refine Z9 ?_|refine Zp ?_|refine YL ?_|refine Zb ?_|refine YB ?_|refine ZR rfl ?_)
 exact Zt rfl trivial (λ_=>hq.out) (λh=>by first|(simp at h;done)|(rw[hk]at h;simp at h;done))):A:=h ⟨k⟩
def kl{P}{F:Fr P}{dk H L s}(s' H' L')(h1:LeE H H')(h2:LeL L L')(h:ZC F dk H' L' s')(hs:s'.sub s:=by first|exact St.sub_refl|exact YH (by first|trivial|assumption)|exact St.sub_trans (YH (by first|trivial|assumption)) (YH (by first|trivial|assumption))|assumption):ZC F dk H L s :=
 Ka hs (ZAU h1 h2 h)
end Go.DL
namespace Go.DL
open Go
variable {kp:Option (List Nat)}{L:Loc}{H:Env}{s:St}{w:World}{os:List DOp}{ds:List D}{B:List (Nat × Rd)}{dst:Option Nat}{tmps:Array Value}{g:G}{Φ:Res->St->Prop}{Z:Nat->Nat}{xs:List Opd}{side:Prop}{row:Nat->List D}
def ZtJ:List Int:=[1,10,100,1000,10000,100000,1000000,10000000,100000000,1000000000,10000000000,100000000000,1000000000000,10000000000000,100000000000000,1000000000000000,10000000000000000,100000000000000000,1000000000000000000,10000000000000000000]
instance theTabs:Zsq:=⟨λn=>match Nat.beq n 3 with
 |true=>sO (ZtJ.map λz=>.int .u64 z)
 |false=>nO⟩
end Go.DL
namespace Go.DL
open Go
variable [Zsq]
variable {kp:Option (List Nat)}{L:Loc}{H:Env}{s:St}{w:World}{os:List DOp}{ds:List D}{B:List (Nat × Rd)}{dst:Option Nat}{tmps:Array Value}{g:G}{Φ:Res->St->Prop}{Z:Nat->Nat}{xs:List Opd}{side:Prop}{row:Nat->List D}
def ZtE(T:Tab)(ms:List Nat):Nat->List Nat->List Nat->List Nat×List (Nat×List Nat)×List Nat
 |0,rest,_=>(rest,[],[])
 |n+1,rest,A =>
  let rdy:=rest.filter λi=>(T.deps i).all λd=>!rest.contains d;let free:=λ(i:Nat) (A:List Nat)=>A.filter λa=>!(ms.getD i 0).testBit a;let fl:=λ(i:Nat) (A:List Nat) (l:List (Nat×List Nat))=>match (free i A).filter λa=>Wb (T.op a).k with
   | []=>l
   |as9=>(i,as9.map λa=>Zcx (T.op a))::l
  match rdy.find? λi=>Zdv T A i&&A.all λa=>(ms.getD i 0).testBit a ||nd (T.op a).dst (ZB (T.op i)) with
  |some i=>match ZtE T ms n (rest.erase i) (i::A) with
   | (od,f,k)=>(i::od,f,k)
  |none=>match rdy with
   | []=>(rest,[],[])
   | [i]=>match ZtE T ms n (rest.erase i) (free i A) with
    | (od,f,k)=>(i::od,fl i A f,k)
   |i::j::_=>match ZtE T ms n ((rest.erase i).erase j) (free j (free i A)) with
    | (od,f,k)=>(i::j::od,fl i A (fl j A f),i::k)
def bS:List Nat->Nat
 | []=>0
 |a::l=>1 <<< a |||bS l
def bR:List DOp->Nat->Nat
 | [],m=>m
 |o::r,m=>bS (ZB o) |||match o.dst with
  |some d=>bR r m ^^^ (bR r m &&& 1 <<< d)
  |none=>bR r m
abbrev LB:=List (Nat×Nat)
def LB.get(d:Nat):LB->Nat->Nat
 | [],_=>d
 | (j,m)::r,k=>if j=k then m else LB.get d r k
def LB.put:LB->Nat->Nat->LB
 | [],k,m=>[(k,m)]
 | (j,n)::r,k,m=>if j=k then (j,n |||m)::r else (j,n)::LB.put r k m
def lvI(f:Nat->LB->Nat×LB×LB):Nat->Nat->LB->Nat×LB×LB
 |0,m,b=>f m b
 |n+1,m,b=>match f m b with
  | (m',k,b')=>if m' |||m=m then (m,k,b') else lvI f n (m' |||m) b'
def lvS(f:LB->Nat×LB×LB):Nat->LB->Nat×LB×LB
 |0,b=>f b
 |n+1,b=>match f b with
  | (m,k,b')=>if b'=b then (m,k,b') else lvS f n b'
def lvC(P:Program)(N ret:Nat):Code->LB->LB->Nat->Nat×LB×LB
 |.region id ops _,_,b,m=>match JV P N ops (List.range ops.size) with
  |some l=>(bR l m,[(id,m)],b)
  |none=>(0,[],b)
 |.seq x y,ex,b,m=>match lvC P N ret y ex b m with
  | (m,k,b)=>match lvC P N ret x ex b m with
   | (m,k',b)=>(m,k'++k,b)
 |.cond c x y,ex,b,m=>match lvC P N ret x ex b m,Z6 c with
  | (n,k,b),sO c=>match lvC P N ret y ex b m with
   | (m,k',b)=>(bS (ZV c) |||n |||m,k++k',b)
  |_,nO=>(0,[],b)
 |.block id x,ex,b,m=>lvC P N ret x ((id,m)::ex) b m
 |.loop x,ex,b,_=>lvI (λm b=>lvC P N ret x ex b m) 9 0 b
 |.exit id,ex,b,_=>(LB.get ret ex id,[],b)
 |.ret,_,b,_=>(ret,[],b)
 |.scope x,ex,b,m=>lvS (λb=>lvC P N ret x ex b m) 9 b
 |.label l,_,b,m=>(m,[],b.put l m)
 |.goto l,_,b,_=>(LB.get 0 b l,[],b)
 |.rangeFunc f _ x y,ex,b,m0=>match Z6 f,lvI (λm b=>match lvC P N ret y ex b (m |||m0) with
   | (m1,k,b)=>match lvC P N ret x ex b m1 with
    | (m2,k',b)=>(m2 |||m0 |||m,k++k',b)) 9 0 b with
  |some f,(m,k,b)=>(bS (ZV f) |||m,k,b)
  |none,_=>(0,[],b)
 |_,_,b,m=>(m,[],b)
def fN:Nat->Option Nat
 |0=>sO 0
 |n+1=>sO (n+1)
def fNs:List Nat->Option (List Nat)
 | []=>sO []
 |a::l=>match fN a,fNs l with
  |some a,sO l=>sO (a::l)
  |_,_=>nO
def kpO:Nat->Nat->Nat->Option (List Nat)
 |0,_,_=>sO []
 |n+1,i,m=>match kpO n (i+1) (m / 2) with
  |some l=>if m % 2=1 then match fN i with
   |some i=>sO (i::l)
   |none=>nO
   else sO l
  |none=>nO
def kpM(N m:Nat):Option (List Nat):=kpO N 0 m
def rvM:List RV->Nat
 | []=>0
 |.tmp t::r=>1 <<< t |||rvM r
 |.cell1 t::r=>1 <<< t |||rvM r
 |.cellN t _::r=>1 <<< t |||rvM r
def dOf(P:Program)(N:Nat)(ops:Array Oper):List DOp×List Nat×List (Nat×List Nat)×List Nat :=
 match JV P N ops (List.range ops.size) with
 |some l=>(l,ZtE (l.zip (ops.toList.map Zaf)) (Zgu (ops.toList.map Zaf) []) ops.size (List.range ops.size) [])
 |none=>([],[],[],[])
def anD(P:Program)(N:Nat):Code->Ann
 |.region id ops true=>match dOf P N ops with
  | (_,od,fl,_)=>(id+1000000,od)::fl.map λx=>(id+1000000*(x.1+4),x.2)
 |.seq a b=>anD P N a++anD P N b
 |.cond _ a b=>anD P N a++anD P N b
 |.block _ a=>anD P N a
 |.loop a=>anD P N a
 |.scope a=>anD P N a
 |.rangeFunc _ _ a b=>anD P N a++anD P N b
 |_=>[]
def lvF(P:Program)(fn:Func)(c:Code):LB :=
 match ZjD P fn.results.toList with
 |some rs=>(lvC P fn.ntmps (rvM rs) c [] [] (rvM rs)).2.1
 |none=>[]
def anF(P:Program)(f:FuncId):Ann :=
 match P.funcs[f]? with
 |some fn=>match fn.body with
  |some c=>(lvF P fn c).filterMap (λx=>(kpM fn.ntmps x.2).map λk=>(x.1,k))++anD P fn.ntmps c
  |none=>[]
 |none=>[]
def fLL:List (Nat×Nat)->Option (List (Nat×Nat))
 | []=>sO []
 | (a,b)::l=>match fN a,fN b,fLL l with
  |some a,sO b,sO l=>sO ((a,b)::l)
  |_,_,_=>nO
def fCC:List (Nat×SK)->Option (List (Nat×SK))
 | []=>sO []
 | (a,b)::l=>match fN a,fCC l with
  |some a,sO l=>sO ((a,b)::l)
  |_,_=>nO
def fP:Option Zfp->Option (Option Zfp)
 |none=>sO nO
 |some p=>match p with
  |.cells l=>match fCC l with
   |some l=>sO (sO (.cells l))
   |none=>nO
  |p=>sO (sO p)
def plP(P:Program):Op->Option Zfp
 |.binOp _ t x y _=>match P.underlying t with
  |some (.struct fs)=>(KR P fs.toList).map .cells
  |some (.array n e)=>match QC P e,Z2 P e with
   |some k,sO 1=>sO (.cells ((List.range n).map (·,k)))
   |_,_=>nO
  |_=>Zet P t x y
 |_=>nO
def fQ(P:Program)(op:Op)(q:Q)(xs:List Opd):Option K :=
 match q with
 |.loadN n=>match fN n with
  |some n=>sO (.q (.loadN n) xs)
  |none=>nO
 |.bin o _=>match fP (plP P op) with
  |some p=>sO (.q (.bin o p) xs)
  |none=>nO
 |.faddr n=>match fN n with
  |some n=>sO (.q (.faddr n) xs)
  |none=>nO
 |.fld1 n=>match fN n with
  |some n=>sO (.q (.fld1 n) xs)
  |none=>nO
 |.fldN n m=>match fN n,fN m with
  |some n,sO m=>sO (.q (.fldN n m) xs)
  |_,_=>nO
 |.iaddr n=>match fN n with
  |some n=>sO (.q (.iaddr n) xs)
  |none=>nO
 |.iaddrA n m=>match fN n,fN m with
  |some n,sO m=>sO (.q (.iaddrA n m) xs)
  |_,_=>nO
 |.idxA n m o=>match fN n,fN m with
  |some n,sO m=>sO (.q (.idxA n m o) xs)
  |_,_=>nO
 |.sliceA n m a b c=>match fN n,fN m with
  |some n,sO m=>sO (.q (.sliceA n m a b c) xs)
  |_,_=>nO
 |.slice n a b c=>match fN n with
  |some n=>sO (.q (.slice n a b c) xs)
  |none=>nO
 |.build z l=>match fLL l with
  |some l=>sO (.q (.build z l) xs)
  |none=>nO
 |.mkfn f n=>match fN n with
  |some n=>sO (.q (.mkfn f n) xs)
  |none=>nO
 |q=>sO (.q q xs)
def fK(P:Program)(op:Op):K->Option K
 |.q q xs=>fQ P op q xs
 |.storeN n a v=>match fN n with
  |some n=>sO (.storeN n a v)
  |none=>nO
 |.bsl n s z is xs=>match fN s with
  |some s=>sO (.bsl n s z is xs)
  |none=>nO
 |.append e s b z x y=>match fN s,fN b with
  |some s,sO b=>sO (.append e s b z x y)
  |_,_=>nO
 |.mkslice e s b z x y=>match fN s,fN b with
  |some s,sO b=>sO (.mkslice e s b z x y)
  |_,_=>nO
 |.clear s z x=>match fN s with
  |some s=>sO (.clear s z x)
  |none=>nO
 |.copy s x y=>match fN s with
  |some s=>sO (.copy s x y)
  |none=>nO
 |.pick c a b=>sO (.pick c a b)
 |.alloc z=>sO (.alloc z)
 |.box x=>sO (.box x)
 |.s2b x=>sO (.s2b x)
 |.store1 a v=>sO (.store1 a v)
 |.call f xs=>sO (.call f xs)
 |.defer f xs=>sO (.defer f xs)
 |.mkmap=>sO .mkmap
 |.mapupd a b c d=>sO (.mapupd a b c d)
 |.mapent a b c d=>sO (.mapent a b c d)
 |.entst a b c=>sO (.entst a b c)
 |.panic x=>sO (.panic x)
 |.recover=>sO .recover
 |.delete a b c=>sO (.delete a b c)
 |.fork _=>nO
def fO(P:Program):List (DOp×Oper)->Option (List DOp)
 | []=>sO []
 | (o,r)::l=>match fK P r.op o.k,fO P l,o.dst,o.guard with
  |some k,sO l,sO d,nO=>sO (⟨sO d,nO,k⟩::l)
  |some k,sO l,nO,nO=>sO (⟨nO,nO,k⟩::l)
  |some k,sO l,sO d,sO (t,true)=>sO (⟨sO d,sO (t,true),k⟩::l)
  |some k,sO l,sO d,sO (t,false)=>sO (⟨sO d,sO (t,false),k⟩::l)
  |some k,sO l,nO,sO (t,true)=>sO (⟨nO,sO (t,true),k⟩::l)
  |some k,sO l,nO,sO (t,false)=>sO (⟨nO,sO (t,false),k⟩::l)
  |_,_,_,_=>nO
def ZgT(id:Nat):Code->Option (Array Oper)
 |.region i ops _=>if i=id then sO ops else nO
 |.seq a b=>match ZgT id a with
  |some x=>sO x
  |none=>ZgT id b
 |.cond _ a b=>match ZgT id a with
  |some x=>sO x
  |none=>ZgT id b
 |.block _ a=>ZgT id a
 |.loop a=>ZgT id a
 |.scope a=>ZgT id a
 |.rangeFunc _ _ a b=>match ZgT id a with
  |some x=>sO x
  |none=>ZgT id b
 |_=>nO
def ZwX(fn:Func)(id:Nat):Option (Array Oper):=match fn.body with
 |some c=>ZgT id c
 |none=>nO
def ZDn(P:Program)(fn:Func)(id:Nat):List DOp:=match ZwX fn id with
 |some ops=>match JV P fn.ntmps ops (List.range ops.size) with
  |some l=>match fO P (l.zip ops.toList) with
   |some l=>l
   |none=>[]
  |none=>[]
 |none=>[]
def ZDm(P:Program)(fn:Func)(id:Nat):List DOp:=match ZwX fn id with
 |some ops=>match dOf P fn.ntmps ops with
  | (l,od,_)=>match fO P (od.map λi=>(l.zip ops.toList).getD i dE) with
   |some l=>l
   |none=>[]
 |none=>[]
def ZCX(fl:List (Nat×List Nat)):List Nat->List DOp->Option (List (DOp×List Nat))
 |i::od,o::l=>match ZCX fl od l,fl.find? λx=>x.1==i with
  |some r,sO (_,t)=>match fNs t with
   |some t=>sO ((o,t)::r)
   |none=>nO
  |some r,nO=>sO ((o,[])::r)
  |none,_=>nO
 |_,_=>sO []
def ZDo(P:Program)(fn:Func)(id:Nat):List (DOp×List Nat):=match ZwX fn id with
 |some ops=>match dOf P fn.ntmps ops with
  | (l,od,fl,_)=>match fO P (od.map λi=>(l.zip ops.toList).getD i dE) with
   |some l=>match ZCX fl od l with
    |some r=>r
    |none=>[]
   |none=>[]
 |none=>[]
def ZCI(P:Program)(fn:Func)(id:Nat):List Nat:=match ZwX fn id with
 |some ops=>(dOf P fn.ntmps ops).2.1
 |none=>[]
def skC(P:Program)(fn:Func)(lv:LB):Code->Option DC
 |.skip=>sO .skip
 |.region id ops true=>match fN (LB.get 0 lv id),(dOf P fn.ntmps ops).2.2.1 with
  |some m,[]=>sO (.regD (ZCI P fn id) (Zxw (ZDm P fn id)) (kpM fn.ntmps m))
  |some m,_::_=>sO (.regD (ZCI P fn id) (ZDo P fn id) (kpM fn.ntmps m))
  |none,_=>nO
 |.region id _ false=>match fN (LB.get 0 lv id) with
  |some m=>sO (.reg (ZDn P fn id) (kpM fn.ntmps m))
  |none=>nO
 |.seq a b=>match skC P fn lv a,skC P fn lv b with
  |some x,sO y=>sO (.seq x y)
  |_,_=>nO
 |.cond c a b=>match Z6 c,skC P fn lv a,skC P fn lv b with
  |some c,sO x,sO y=>sO (.cond c x y)
  |_,_,_=>nO
 |.block id a=>match skC P fn lv a with
  |some x=>sO (.block id x)
  |none=>nO
 |.loop a=>match skC P fn lv a with
  |some x=>sO (.loop x)
  |none=>nO
 |.exit id=>sO (.exit id)
 |.ret=>sO .ret
 |.scope a=>match skC P fn lv a with
  |some x=>sO (.scope x)
  |none=>nO
 |.label l=>sO (.label l)
 |.goto l=>sO (.goto l)
 |.rangeFunc f ps a b=>match Z6 f,skC P fn lv a,skC P fn lv b with
  |some f,sO x,sO y=>sO (.rangeF f ps.toList x y)
  |_,_,_=>nO
 |_=>nO
def skF(P:Program)(fn:Func):DC:=match fn.body with
 |some c=>match skC P fn (lvF P fn c) c with
  |some d=>d
  |none=>.skip
 |none=>.skip
def fR:List RV->Option (List RV)
 | []=>sO []
 |.tmp t::r=>match fR r with
  |some r=>sO (.tmp t::r)
  |none=>nO
 |.cell1 t::r=>match fR r with
  |some r=>sO (.cell1 t::r)
  |none=>nO
 |.cellN t n::r=>match fN n,fR r with
  |some n,sO r=>sO (.cellN t n::r)
  |_,_=>nO
def rsF(P:Program)(fn:Func):List RV:=match ZjD P fn.results.toList with
 |some rs=>match fR rs with
  |some rs=>rs
  |none=>[]
 |none=>[]
def cR{P}(f fn){rs b}(h1:rsF P fn=rs:=by conv=>lhs;whnf)(h2:skF P fn=b:=by conv=>lhs;whnf)(h:cf P (anF P f) f=sO ⟨fn.ntmps,rsF P fn,skF P fn⟩:=by kernel_rfl):cf P (anF P f) f=sO ⟨fn.ntmps,rs,b⟩:=h1▸h2▸h
def upT:List Nat->List KH->List KH
 |0::r,_::d=>upT r d
 |1::r,.code (.seq a b)::d=>upT r (.code a::.code b::d)
 |2::r,.code (.block i a)::d=>upT r (.code a::.inBlock i::d)
 |_,d=>d
structure Tie{P:Program}(l:List Nat)(X:Fr P->Env->Loc->St->Prop)(A:Prop):Prop
section
variable {P:Program} {F:Fr P} {l:List Nat} {dk:List KH} {H:Env} {L:Loc} {s:St} {ks:Option (List Nat)} {os:List DOp} {ps:List (DOp × List Nat)} {B:List (Nat × Rd)}
def tU:Tie l (λ(F:Fr P)=>ZC F (upT l dk)) (ZC F dk H L s):=⟨⟩
def tO:Tie l (λ(F:Fr P)=>ZC F (upT l dk)) (DO F ks dk os H L s):=⟨⟩
def tO0:Tie l (λ(F:Fr P)=>ZC F (upT l dk)) (Jn F ks dk os H L s):=⟨⟩
def tOD:Tie l (λ(F:Fr P)=>ZC F (upT l dk)) (DOA F ks dk ps H L s B):=⟨⟩
def jU(l)(J:(Fr P->Env->Loc->St->Prop)->Prop){X A}(h1:J X)(h2:J X->A)(_h:Tie l X A:=by first|exact tU|exact tO|exact tO0|exact tOD):A:=h2 h1
def lpU{a}(J:(Fr P->Env->Loc->St->Prop)->Prop)(i:J λ(F:Fr P)=>ZC F (.code a::.inLoop a::dk))(j:(J λ(F:Fr P)=>ZC F (.code a::.inLoop a::dk))->ZC F (.code a::.inLoop a::dk) H L s):ZC F (.code (.loop a)::dk) H L s:=Za9 (j i)
end
end Go.DL
