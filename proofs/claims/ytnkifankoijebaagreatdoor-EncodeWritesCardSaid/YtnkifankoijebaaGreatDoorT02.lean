/- Lemmas: DlX, DlY, DlZ, DlZA, DlZB, DlZC, DlZD, DlZE, DlZF, DlZGa, DlZG, DlZH, DlZI, DlZJ, DlZK, DlZL, DlZM, DlZN, DlZO, DlZP, DlZQ, DlZS, DlZT, DlTop, DlZU, DlZW, DlZX, DlZY, DlAc, DlAd, Tab0, DlAg. -/
import Derived.Test.YtnkifankoijebaaGreatDoorT01
set_option maxHeartbeats 16000000
set_option maxRecDepth 100000
set_option linter.all false
open List renaming length->I
open Option renaming some -> sO, none -> nO
open Inhabited renaming default -> dE
open Decidable renaming decide -> dC
open And renaming intro -> ZHZ
open Bool renaming and_eq_true -> ZH1, false_eq_true -> ZIx, or_eq_true -> ZId, true_and -> ZIf
open Go.DL.D.Le renaming refl -> ZHT
open List renaming append_assoc -> ZIh, append_nil -> ZIj, getD -> ZH6, getElem?_append_left -> ZIm, getElem?_append_right -> ZIw, getElem?_eq_getElem -> ZIn, getElem?_eq_none -> ZIz, getElem?_take -> ZIv, getElem_of_mem -> ZIc, length_append -> ZHX, length_cons -> ZH3, length_drop -> ZIq, length_map -> ZH4, length_take -> ZIa, map_cons -> ZIo, mem_cons -> ZIs, range -> ZH5, take_length -> ZIb
open Nat renaming add_mul -> ZIp, le_refl -> ZH9, le_trans -> ZIy, mul_le_mul_right -> ZIi
open Option renaming getD_some -> ZIr, map_eq_some_iff -> ZH8
open Option.some renaming injEq -> ZHQ
open Prod.mk renaming injEq -> ZH2
namespace Go.DL
open Go
variable [Zo5]
variable {kp:Option (List Nat)}{L:Loc}{H:Env}{s:St}{w:World}{os:List DOp}{ds:List D}{B:List (Nat × Rd)}{dst:Option Nat}{tmps:Array Value}{g:G}{Φ:Res->St->Prop}{Z:Nat->Nat}{xs:List Opd}{side:Prop}{row:Nat->List D}
inductive Sch(T:Tab):(Nat->Bool)->List Nat->Prop where
 |nil {l} (h:∀i,i<T.length->l i=true):Sch T l []
 |cons {l i is} (hi:i<T.length) (hl:l i=false) (hd:∀d∈T.deps i,l d=true) (t:Sch T (λj=>j==i ||l j) is):Sch T l (i::is)
def ZJ(H H':Env)(ns:List Nat):Prop:=∀t∈ns,Z9 H' t=Z9 H t
def ZR{H H' c x}(h:ZJ H H' (Yg x)):ZH H' c x=ZH H c x:=by
 cases x with
 |cst d=>rfl
 |tmp t=>simp only[ZH,h t (by simp[Yg])]
def KQ{H H' c}:∀{xs},ZJ H H' (Zch xs)->Yr H' c xs=Yr H c xs
 | [],_=>rfl
 |x::xs,h=>by have o:ZJ H H' (Yg x):=λt i=>h t (by simp[Zch];exact .inl i);have r:ZJ H H' (Zch xs):=λt i=>h t (by simp only[Zch,List.flatMap_cons,List.mem_append];exact .inr i);simp only[Yr,ZR o,KQ r]
def Wa{H H' g}(h:ZJ H H' (ZbZ g)):Zw H' g=Zw H g:=by
 cases g with
 |none=>rfl
 |some x=>obtain⟨t,w⟩:=x;simp only[Zw,h t (by simp[ZbZ])]
def Zmh{H H' c x a b}(h:ZJ H H' (Yg x++Yg a++Yg b)):Zgq H' c x a b=Zgq H c x a b:=by
 have o:ZJ H H' (Yg x):=λt i=>h t (by simp[i]);have r:ZJ H H' (Yg a):=λt i=>h t (by simp[i]);have u:ZJ H H' (Yg b):=λt i=>h t (by simp[i]);simp only[Zgq,ZR o];split;rw[ZR r,ZR u];rfl
def ZqX{L L' s e}(h:∀x o,e=.loc x o->Zq L' x=Zq L x):Kj L' s e=Kj L s e:=by
 cases e with
 |d v=>cases v<;>rfl
 |loc l o=>simp only[Kj,h l o rfl]
 |when c e=>rfl
def Zra{L L' s n e}(h:∀x o,e=.loc x o->Zq L' x=Zq L x):QE L' s n e=QE L s n e:=by
 cases e with
 |d v=>cases v<;>rfl
 |loc l o=>simp only[QE,h l o rfl]
 |when c e=>rfl
def Zs0{L L' s q es}(h:Zdb (.q q [])=true->∀x o,.loc x o∈es->Zq L' x=Zq L x):qv L' s q es=qv L s q es:=by
 by_cases r:Zdb (.q q [])=true
 .replace h:=h r;cases q<;>simp[Zdb]at r
  .match es with
   | [a]=>simp only[qv,ZqX (e:=a) λx o i=>h x o (by rw[i];exact List.mem_singleton_self _)]
   | []=>rfl
   |_::_::_=>rfl
  match es with
  | [a]=>simp only[qv,Zra (e:=a) λx o i=>h x o (by rw[i];exact List.mem_singleton_self _)]
  | []=>rfl
  |_::_::_=>rfl
 clear h;unfold qv;split<;>first|rfl|(exfalso;exact r rfl)|skip
def Qc:K->Bool
 |.q _ _|.pick _ _ _|.bsl _ _ _ _ _|.s2b _=>true
 |_=>false
def Zuo{o H H' L L' s s1 side ρ1 L1}(hst:ZP o H L s=.ok side ρ1 L1 s1)(hs:side)(hgt:Zw H o.guard=sO true)(hk:Qc o.k=true)(ha:ZJ H H' (ZC o))(hl:Zdb o.k=true->∀q xs p es,o.k=.q q xs->Yr H true xs=sO (p,es)->p->∀x o,.loc x o∈es->Zq L' x=Zq L x):∃e,ρ1=putE H o.dst e/\L1=L/\s1=s/\ZP o H' L' s=.ok side (putE H' o.dst e) L' s:=by
 obtain⟨dst,gd,k⟩:=o;have hg:=Wa (g:=gd) (λt ht=>ha t (by simp[ZC,ht]));have hn:ZJ H H' (Yp k):=λt ht=>ha t (by simp[ZC,ht]);simp only at hgt;unfold ZP at hst⊢;simp only[hg,hgt]at hst⊢;cases k with
 |q q xs =>
  simp only at hst⊢;rw[KQ hn];split at hst<;>(try(simp at hst;done));rename_i p es i;try simp only[i]
  split at hst<;>(try(simp at hst;done));rename_i sd e hq;have hp:p:=by split at hst<;>(simp only[SR.ok.injEq]at hst;obtain⟨rfl,-,-,-⟩:=hst);exact hs.1;exact(hs trivial).1
  have u:qv L' s q es=qv L s q es:=Zs0 λhld=>hl (by cases q<;>simp_all[Zdb]) q xs p es rfl i hp;simp only[u,hq];split at hst<;>(simp only[SR.ok.injEq]at hst;obtain⟨rfl,rfl,rfl,rfl⟩:=hst);exact⟨e,rfl,rfl,rfl,rfl⟩;exact⟨_,rfl,rfl,rfl,rfl⟩
 |pick x a b =>
  simp only at hst⊢;rw[Zmh hn];split at hst<;>(try(simp at hst;done));rename_i p v hp;try simp only[hp]
  split at hst<;>(simp only[SR.ok.injEq]at hst;obtain⟨rfl,rfl,rfl,rfl⟩:=hst);exact⟨_,rfl,rfl,rfl,rfl⟩;exact⟨_,rfl,rfl,rfl,rfl⟩
 |bsl len n z is xs =>
  simp only at hst⊢;rw[KQ hn];split at hst<;>(try(simp at hst;done));rename_i p es i;try simp only[i]
  split at hst<;>(try(simp at hst;done));rename_i ds r;try simp only[r]
  split at hst<;>(simp only[SR.ok.injEq]at hst;obtain⟨rfl,rfl,rfl,rfl⟩:=hst);exact⟨_,rfl,rfl,rfl,rfl⟩;exact⟨_,rfl,rfl,rfl,rfl⟩
 |s2b x =>
  simp only at hst⊢;rw[ZR hn];split at hst<;>(try(simp at hst;done));rename_i p l hl;try simp only[hl]
  split at hst<;>(simp only[SR.ok.injEq]at hst;obtain⟨rfl,rfl,rfl,rfl⟩:=hst);exact⟨_,rfl,rfl,rfl,rfl⟩;exact⟨_,rfl,rfl,rfl,rfl⟩
 |_=>simp[Qc]at hk
def Zmp{o H L s s1 side ρ1 L1}(r:ZP o H L s=.ok side ρ1 L1 s1)(t:Zw H o.guard=sO false)(hk:Qc o.k=true):∃e,ρ1=putE H o.dst (.when false e)/\L1=L/\s1=s:=by
 obtain⟨dst,u,k⟩:=o;have i:∃x,u=sO x:=by
  cases u with
  |none=>simp[Zw]at t
  |some x=>exact⟨x,rfl⟩
 obtain⟨x,rfl⟩:=i;simp only at t;unfold ZP at r;simp only[t]at r;cases k with
 |q q xs =>simp only at r;split at r<;>(try(simp at r;done));split at r<;>(try(simp at r;done));simp only[SR.ok.injEq]at r;obtain⟨rfl,rfl,rfl,rfl⟩:=r;exact⟨_,rfl,rfl,rfl⟩
 |pick x a b =>simp only at r;split at r<;>(try(simp at r;done));simp only[SR.ok.injEq]at r;obtain⟨rfl,rfl,rfl,rfl⟩:=r;exact⟨_,rfl,rfl,rfl⟩
 |bsl len n z is xs =>simp only at r;split at r<;>(try(simp at r;done));split at r<;>(try(simp at r;done));simp only[SR.ok.injEq]at r;obtain⟨rfl,rfl,rfl,rfl⟩:=r;exact⟨_,rfl,rfl,rfl⟩
 |s2b x =>simp only at r;split at r<;>(try(simp at r;done));simp only[SR.ok.injEq]at r;obtain⟨rfl,rfl,rfl,rfl⟩:=r;exact⟨_,rfl,rfl,rfl⟩
 |_=>simp[Qc]at hk
def Zij{s s' L L'}:∀{B},Qv s s' L L' B->(∀n b,(n,.blk b)∈B->s' b=s b)/\(∀n l,(n,.loc l)∈B->Zq L' l=Zq L l)
 | [],_=>⟨λn b h=>by simp at h,λn b h=>by simp at h⟩
 | (m,.blk c)::B,h=>by obtain⟨i,o⟩:=Zij h.2;refine⟨λn b hb=>?_,λn l hl=>o n l (by simpa using hl)⟩;rcases List.mem_cons.1 hb with hb|hb;simp only[ZH2,Rd.blk.injEq]at hb;rw[hb.2];exact h.1;exact i n b hb
 | (m,.loc c)::B,h=>by obtain⟨i,o⟩:=Zij h.2;refine⟨λn b hb=>i n b (by simpa using hb),λn l hl=>?_⟩;rcases List.mem_cons.1 hl with hl|hl;simp only[ZH2,Rd.loc.injEq]at hl;rw[hl.2];exact h.1;exact o n l hl
def ZgV(s L):∀B,Qv s s L L B
 | []=>trivial
 | (_,.blk _)::B=>⟨rfl,ZgV s L B⟩
 | (_,.loc _)::B=>⟨rfl,ZgV s L B⟩
def Zd1{fl s L B}:Wo fl s s L L B:=ZgV s L _
def Zqx:∀(B),Wk [] B=[]
 | []=>rfl
 |_::B=>Zqx B
def JI{s s' L L' B}:Wo [] s s' L L' B:=by
 unfold Wo;rw[Zqx];trivial
def Zgo{fl x}:∀{B},x∈Wk fl B↔Zcu x.1 fl=true/\x∈B
 | []=>by simp[Wk]
 |y::B=>by simp only[Wk];split;rename_i h;simp only[ZIs,Zgo (B:=B)];constructor;rintro(rfl|⟨i,h2⟩);exact⟨h,.inl rfl⟩;exact⟨i,.inr h2⟩;rintro⟨i,rfl|h2⟩;exact .inl rfl;exact .inr ⟨i,h2⟩;rename_i h;simp only[ZIs,Zgo (B:=B)];constructor;rintro⟨i,h2⟩;exact⟨i,.inr h2⟩;rintro⟨i,rfl|h2⟩;exact absurd i h;exact⟨i,h2⟩
def Zv4{o H x}:(Zdp o,x)∈ZaP o H↔x∈WR o H:=by simp[ZaP]
def Zka{o H H'}(h:ZJ H H' (ZC o)):WR o H'=WR o H:=by
 obtain⟨dst,r,k⟩:=o;have u:=Wa (g:=r) (λt i=>h t (by simp[ZC,i]));cases k with
 |q q xs =>
  have hn:ZJ H H' (Zch xs):=λt i=>h t (by simp[ZC,Yp,i]);simp only[WR,u];split
  .cases Zw H r with
   |none=>rfl
   |some c=>simp only[KQ hn]
  rfl
 |_=>rfl
def Zzk{L s s' q es}(h:Wz (.q q [])=true->∀e r,es=e::r->∀b,.blk b∈Ji e->s' b=s b):qv L s' q es=qv L s q es:=by
 by_cases u:Wz (.q q [])=true
 .replace h:=h u
  match es with
  | [] =>
   cases q;case conv c=>cases c<;>first|rfl|simp[Wz]at u
   all_goals simp[Wz]at u<;>rfl
  |e::r =>
   replace h:=h e r rfl;have hc:∀b o,e=.d (.ptr b o)->Yq s' b=Yq s b:=λb o he=>by subst he;simp only[Yq,h b (by simp[Ji])]
   have hm:∀b,e=.d (.map b)->J7 s' b=J7 s b:=λb he=>by subst he;simp only[J7,h b (by simp[Ji])]
   have t:∀b o n cap z,e=.d (.msl b o n cap z)->Yq s' b=Yq s b:=λb o n cap z he=>by subst he;simp only[Yq,h b (by simp[Ji])]
   have i:q=.conv .b2s->qv L s' q (e::r)=qv L s q (e::r):=λhq=>by
    subst hq;cases r with
    |nil =>
     cases e with
     |d v=>cases v<;>first|rfl|(simp only[qv];rw[t _ _ _ _ _ rfl])
     |_=>rfl
    |cons =>
     cases e with
     |d v=>cases v<;>rfl
     |_=>rfl
   cases q;case conv c=>cases c<;>first|(simp[Wz]at u;done)|exact i rfl
   all_goals simp[Wz]at u
   .cases r with
    |nil =>
     simp only[qv]
     congr 1
     cases e with
     |d v=>cases v<;>first|rfl|(simp only[Kj];rw[hc _ _ rfl])
     |_=>rfl
    |cons=>rfl
   .cases r with
    |nil =>
     simp only[qv]
     congr 1
     cases e with
     |d v=>cases v<;>first|rfl|(simp only[QE];rw[hc _ _ rfl])
     |_=>rfl
    |cons=>rfl
   .match r with
    | [] =>
     cases e with
     |d v=>cases v<;>rfl
     |_=>rfl
    | [e2] =>
     cases e with
     |d v =>
      cases e2 with
      |d v2=>cases v<;>first|rfl|(simp only[qv];rw[hm _ rfl])
      |_=>cases v<;>rfl
     |_=>cases e2<;>rfl
    |e2::_::_ =>
     cases e with
     |d v=>cases v<;>(cases e2<;>rfl)
     |_=>cases e2<;>rfl
   cases r with
   |nil =>
    cases e with
    |d v=>cases v<;>first|rfl|(simp only[qv];rw[hm _ rfl])
    |_=>rfl
   |cons =>
    cases e with
    |d v=>cases v<;>rfl
    |_=>rfl
 clear h;cases q;case conv c=>cases c<;>first|(simp[Wz]at u;done)|(unfold qv;rfl)|(unfold qv;split<;>first|rfl|(rename_i hx;cases hx))
 all_goals first|(simp[Wz]at u;done)|(unfold qv;rfl)|(unfold qv;split<;>first|rfl|(rename_i hx;cases hx))
def Zup{o H L s s' side ρ1}(hst:ZP o H L s=.ok side ρ1 L s)(hk:Qc o.k=true)(hgt:Zw H o.guard=sO true)(h:∀b,.blk b∈WR o H->s' b=s b):ZP o H L s'=.ok side ρ1 L s':=by
 obtain⟨dst,gd,k⟩:=o;unfold ZP at hst⊢;obtain⟨c,hg,hc⟩:∃c,Zw H gd=sO c/\c=true:=⟨true,hgt,rfl⟩;simp only[hg]at hst⊢;cases k with
 |q q xs =>
  simp only at hst⊢;split at hst<;>(try(simp at hst;done));rename_i p es i;have u:qv L s' q es=qv L s q es:=Zzk λhl e r he b hb=>h b (by
   subst he;have t:Wz (.q q xs)=true:=by
    cases q;case conv c=>cases c<;>simp_all[Wz]
    all_goals simp_all[Wz]
   subst hc;simp only[WR,t,if_true,hg,i];exact hb)
  simp only[u];split at hst<;>(try(simp at hst;done));split at hst<;>(simp only[SR.ok.injEq]at hst;obtain⟨rfl,rfl,-,-⟩:=hst;rfl)
 |pick x a b =>simp only at hst⊢;split at hst<;>(try(simp at hst;done));split at hst<;>(simp only[SR.ok.injEq]at hst;obtain⟨rfl,rfl,-,-⟩:=hst;rfl)
 |bsl len n z is xs =>simp only at hst⊢;split at hst<;>(try(simp at hst;done));split at hst<;>(try(simp at hst;done));split at hst<;>(simp only[SR.ok.injEq]at hst;obtain⟨rfl,rfl,-,-⟩:=hst;rfl)
 |s2b x =>simp only at hst⊢;split at hst<;>(try(simp at hst;done));split at hst<;>(simp only[SR.ok.injEq]at hst;obtain⟨rfl,rfl,-,-⟩:=hst;rfl)
 |_=>simp[Qc]at hk
def Zbg(o:DOp)(x:Nat):Prop:=o.dst=sO x/\∃z,o.k=.alloc z
def ZcU(o:DOp)(H:Env)(e:E):Prop :=
 (Zw H o.guard=sO false/\∃e0,e=.when false e0) \/
 (∃x y bo pl p k k2 a b v,o.guard=nO/\o.k=.q (.bin bo pl) [x,y]/\Yr H true [x,y]=sO (p,[.d (.int k a),.d (.int k2 b)])/\p/\ZgH bo k k2 a b=sO v/\e=.d (.int k v))
def Km(o:DOp)(H:Env)(L:Loc)(s:St)(B:List (Nat×Rd)):Prop :=
 (Qc o.k=true/\Zw H o.guard=sO true/\(∀b∈WR o H,(Zdp o,b)∈B)/\∃side e,side/\ZP o H L s=.ok side (putE H o.dst e) L s/\∀t,o.dst=sO t->Z9 H t=sO e) \/
 (Qc o.k=true/\∃e,ZcU o H e/\∀t,o.dst=sO t->Z9 H t=sO e) \/
 (∃t z,o=⟨sO t,nO,.alloc z⟩/\Z9 H t=sO (.loc t 0)/\Zq L t=sO z)
structure Inv(T:Tab)(ms:List Nat)(A rest:List Nat)(H:Env)(L:Loc)(s:St)(B:List (Nat×Rd))(l:Nat->Bool)(H':Env)(L':Loc):Prop where
 closed:∀i,i<T.length->l i=true->∀d∈T.deps i,l d=true
 restN:∀r∈rest,l r=false
 doneN:∀i,i<T.length->i∉rest->i∉A->l i=true
 alt:∀a∈A,a<T.length
 pair:∀p∈A,∀a∈A,(ms.getD p 0).testBit a=true\/nd (T.op a).dst (ZC (T.op p))=true
 uniq:∀p∈A,∀a∈A,p≠a->ndd (T.op p).dst (T.op a).dst=true
 env:∀t,Z9 H' t=Z9 H t\/∃a∈A,l a=false/\(T.op a).dst=some t
 loc0:∀a∈A,l a=false->∀x,Zbg (T.op a) x->Zq L' x=none
 loc:∀x,Zq L' x=Zq L x\/∃a∈A,l a=false/\Zbg (T.op a) x
 pend:∀a∈A,l a=false->Km (T.op a) H L s B
def Zjl(T:Tab)(ms:List Nat):Prop :=
 ∀(l:Nat->Bool),(∀i,i<T.length->l i=true->∀d∈T.deps i,l d=true)->∀i,i<T.length->(∀d∈T.deps i,l d=true)->∀a,(ms.getD i 0).testBit a=true->l a=true
def Km.state{o H L s s' B}(h:Km o H L s B)(u:∀b,.blk b∈WR o H->s' b=s b):Km o H L s' B:=by
 rcases h with ⟨t,r,hr,side,e,hs,i,he⟩|h|h;exact .inl ⟨t,r,hr,side,e,hs,Zup i t r u,he⟩;exact .inr (.inl h);exact .inr (.inr h)
def Km.more{o H L s B B'}(h:Km o H L s B)(r:∀b∈WR o H,(Zdp o,b)∈B->(Zdp o,b)∈B'):Km o H L s B':=by
 rcases h with ⟨u,t,hr,h⟩|h|h;exact .inl ⟨u,t,λb i=>r b i (hr b i),h⟩;exact .inr (.inl h);exact .inr (.inr h)
def Zua{o H}(h:Zw H o.guard=sO false):WR o H=[]:=by
 obtain⟨dst,gd,k⟩:=o;cases k<;>simp only[WR];simp only at h;simp[h]
def Zmj{o H}(h:Wz o.k=false):WR o H=[]:=by
 obtain⟨dst,gd,k⟩:=o;cases k<;>simp only[WR];rename_i q xs;simp only at h;simp[h]
def ZcU.congr{o H H' e}(h:ZcU o H e)(ha:ZJ H H' (ZC o)):ZcU o H' e:=by
 rcases h with ⟨r,i⟩|⟨x,y,bo,pl,p,k,k2,a,b,v,r,i,h3,h4,h5⟩;exact .inl ⟨by rw[Wa λt u=>ha t (by simp[ZC,u])];exact r,i⟩;have hn:ZJ H H' (Zch [x,y]):=λt u=>ha t (by simp[ZC,i,Yp,u]);exact .inr ⟨x,y,bo,pl,p,k,k2,a,b,v,r,i,by rw[KQ hn];exact h3,h4,h5⟩
def ZcU.reads{o H e}(h:ZcU o H e):WR o H=[]:=by
 rcases h with ⟨i,_⟩|⟨x,y,bo,pl,p,k,k2,a,b,v,_,r,_⟩;exact Zua i;exact Zmj (by rw[r];rfl)
section
variable {P:Program}
def Zp1{F:Fr P}{kp dk os H L s}(h:∀g Z w tmps,ZB g Z w tmps H L s->DO F kp dk os H L s):DO F kp dk os H L s :=
 λo is k i t g Z w tmps r m=>h g Z w tmps m o is k i t g Z w tmps r m
def ZmF{g Z w tmps H L s}(m:ZB g Z w tmps H L s):∀{xs p es},Yr H true xs=sO (p,es)->p->∀x o,.loc x o∈es->∃cs,Zq L x=sO cs
 | [],p,es,h,_,x,o,hx=>by simp only[Yr,ZHQ,ZH2]at h;obtain⟨_,rfl⟩:=h;simp at hx
 |y::ys,p,es,h,hp,x,o,hx=>by
  simp only[Yr]at h;split at h<;>simp only[ZHQ,ZH2,reduceCtorEq]at h;rename_i p1 e1 p2 es' i h2;obtain⟨rfl,rfl⟩:=h;rcases List.mem_cons.1 hx with hx|hx
  .subst hx;cases y with
   |cst d=>simp[ZH]at i
   |tmp t =>simp only[ZH]at i;split at i;rename_i c' u r;simp only[ZHQ,ZH2]at i;obtain⟨rfl,rfl⟩:=i;exact((m.env t _ r).1 (by simpa using hp.1)).1;rename_i u _ r;simp only[ZHQ,ZH2]at i;obtain⟨rfl,rfl⟩:=i;exact(m.env t _ r).1;simp at i
  exact ZmF m h2 hp.2 x o hx
def ZcU.run{F:Fr P}{kp dk o os H L s e}(hl:ZcU o H e)(h:DO F kp dk os (putE H o.dst e) L s):DO F kp dk (o::os) H L s:=by
 rcases hl with ⟨i,e0,rfl⟩|⟨x,y,bo,pl,p,k,k2,a,b,v,i,r,t,u,h5,rfl⟩;exact Jv i h;exact Zo1 i r t u h5 h
def Zuy{F:Fr P}{kp dk o os H H' L L' s side e}(hst:ZP o H L s=.ok side (putE H o.dst e) L s)(hs:side)(hk:Qc o.k=true)(ha:ZJ H H' (ZC o))(hl:∀x,Zq L' x=Zq L x\/Zq L' x=nO)(h:DO F kp dk os (putE H' o.dst e) L' s):DO F kp dk (o::os) H' L' s:=by
 have i:∀e',putE H o.dst e=putE H o.dst e'->putE H' o.dst e=putE H' o.dst e':=λe' h=>by
  cases hd:o.dst with
  |none=>rfl
  |some t=>simp only[hd,putE,List.cons.injEq,ZH2,true_and,and_true]at h;rw[h]
 have hg:=Wa (g:=o.guard) (λt ht=>ha t (by simp[ZC,ht]));cases hc:Zw H o.guard with
 |none=>unfold ZP at hst;simp[hc]at hst
 |some c =>
  cases c;obtain⟨e',h1,-,-⟩:=Zmp hst hc hk;rw[i _ h1]at h;exact Jv (by rw[hg,hc]) h;refine Zp1 λg Z w tmps m=>?_;obtain⟨e',h1,-,-,h2⟩:=Zuo (H':=H') (L':=L') hst hs hc hk ha (λhld q xs p es ab u hp x of hx=>by
   have hn:ZJ H H' (Zch xs):=λt ht=>ha t (by simp[ZC,ab,Yp,ht]);obtain⟨cs,r⟩:=ZmF m (by rw[KQ hn];exact u) hp x of hx;rcases hl x with h|h;exact h;rw[h]at r;simp at r)
  rw[i _ h1]at h;exact Jw h2 hs h
end
def Zcv{a b}(h:ndd a b=true):ndd b a=true:=by
 cases a<;>cases b<;>simp only[ndd,bne_iff_ne,ne_eq]at h⊢;exact λi=>h i.symm
def Zb2{a b}(h:ndd a b=true){t}(o:a=sO t):b≠sO t:=by
 subst o;cases b with
 |none=>simp
 |some u=>simp only[ndd,bne_iff_ne]at h;intro i;simp only[ZHQ]at i;exact h i.symm
def Zj0{d l}(h:nd d l=true){t}(i:d=sO t):t∉l:=by
 subst i;simpa[nd]using h
def Qo{H dst e i}(h:nd dst i=true):ZJ H (putE H dst e) i:=by
 intro t o;cases dst with
 |none=>rfl
 |some u =>have:¬u=t:=λr=>Zj0 h rfl (r▸o);simp[putE,Z9,this]
def KV(H dst e t):Z9 (putE H dst e) t=if dst=sO t then sO e else Z9 H t:=by
 cases dst with
 |none=>simp[putE]
 |some u=>simp[putE,Z9]
def ZAx{L s q es r}(i:qv L s q es=sO r)(u:Zdb (.q q [])=true){x o}(t:.loc x o∈es):∃cs,Zq L x=sO cs:=by
 cases q<;>simp[Zdb]at u
 .match es with
  | [a] =>
   simp only[List.mem_singleton]at t;subst t;simp only[qv,Kj]at i;cases h:Zq L x with
   |none=>simp[h]at i
   |some cs=>exact⟨cs,rfl⟩
  | []=>simp at t
  |_::_::_=>simp[qv]at i
 match es with
 | [a] =>
  simp only[List.mem_singleton]at t;subst t;simp only[qv,QE]at i;cases h:Zq L x with
  |none=>simp[h]at i
  |some cs=>exact⟨cs,rfl⟩
 | []=>simp at t
 |_::_::_=>simp[qv]at i
def ZiJ{o H H' L L' s s1 side ρ1 L1}(hst:ZP o H L s=.ok side ρ1 L1 s1)(hk:Qc o.k=true)(ha:ZJ H H' (ZC o))(hl:L'=L\/Zw H o.guard=sO true/\∀x,.loc x∈WR o H->Zq L' x=Zq L x):∃e,ρ1=putE H o.dst e/\L1=L/\s1=s/\ZP o H' L' s=.ok side (putE H' o.dst e) L' s:=by
 obtain⟨dst,gd,k⟩:=o;have hg:=Wa (g:=gd) (λt ht=>ha t (by simp[ZC,ht]));have hn:ZJ H H' (Yp k):=λt ht=>ha t (by simp[ZC,ht]);unfold ZP at hst⊢;simp only[hg]at hst⊢;cases hc:Zw H gd with
 |none=>simp[hc]at hst
 |some c =>
 simp only[hc]at hst⊢;cases k with
 |q q xs =>
  simp only at hst⊢;rw[KQ hn];split at hst<;>(try(simp at hst;done));rename_i p es i;try simp only[i]
  split at hst<;>(try(simp at hst;done));rename_i sd e hq;have af:qv L' s q es=qv L s q es:=Zs0 λae x of hx=>by
   rcases hl with rfl|⟨ad,hl⟩;rfl;obtain rfl:c=true:=by simpa[hc]using ad
   refine hl x ?_;have ag:Wz (.q q xs)=true:=by cases q<;>simp_all[Zdb,Wz]
   have u:es=[.loc x of]:=by
    have ab:∃r,qv L s q es=sO r:=⟨_,hq⟩;cases q<;>simp[Zdb]at ae
    .match es with
     | [a]=>simp only[List.mem_singleton]at hx;rw[hx]
     | []=>simp at hx
     |_::_::_=>simp[qv]at ab
    match es with
    | [a]=>simp only[List.mem_singleton]at hx;rw[hx]
    | []=>simp at hx
    |_::_::_=>simp[qv]at ab
   subst u;simp only[WR,ag,if_true,hc,i,Ji,List.mem_singleton]
  simp only[af,hq];split at hst<;>(simp only[SR.ok.injEq]at hst;obtain⟨rfl,rfl,rfl,rfl⟩:=hst);exact⟨e,rfl,rfl,rfl,rfl⟩;exact⟨_,rfl,rfl,rfl,rfl⟩
 |pick x a b =>
  simp only at hst⊢;rw[Zmh hn];split at hst<;>(try(simp at hst;done));rename_i p v hp;try simp only[hp]
  split at hst<;>(simp only[SR.ok.injEq]at hst;obtain⟨rfl,rfl,rfl,rfl⟩:=hst);exact⟨_,rfl,rfl,rfl,rfl⟩;exact⟨_,rfl,rfl,rfl,rfl⟩
 |bsl len n z is xs =>
  simp only at hst⊢;rw[KQ hn];split at hst<;>(try(simp at hst;done));rename_i p es i;try simp only[i]
  split at hst<;>(try(simp at hst;done));rename_i ds ac;try simp only[ac]
  split at hst<;>(simp only[SR.ok.injEq]at hst;obtain⟨rfl,rfl,rfl,rfl⟩:=hst);exact⟨_,rfl,rfl,rfl,rfl⟩;exact⟨_,rfl,rfl,rfl,rfl⟩
 |s2b x =>
  simp only at hst⊢;rw[ZR hn];split at hst<;>(try(simp at hst;done));rename_i p l hl;try simp only[hl]
  split at hst<;>(simp only[SR.ok.injEq]at hst;obtain⟨rfl,rfl,rfl,rfl⟩:=hst);exact⟨_,rfl,rfl,rfl,rfl⟩;exact⟨_,rfl,rfl,rfl,rfl⟩
 |_=>simp[Qc]at hk
def Km.mono{o H ρ1 L L1 s B}(h:Km o H L s B)(ha:ZJ H ρ1 (ZC o))(hd:∀t,o.dst=sO t->Z9 ρ1 t=Z9 H t)(hl:∀x,.loc x∈WR o H->Zq L1 x=Zq L x)(hal:∀t,Zbg o t->Zq L1 t=Zq L t):Km o ρ1 L1 s B:=by
 rcases h with ⟨hk,i,r,side,e,hs,u,he⟩|⟨hk,e,hz,he⟩|⟨t,z,rfl,h1,h2⟩;left;obtain⟨e',h1,-,-,h2⟩:=ZiJ u hk ha (.inr ⟨i,hl⟩);refine⟨hk,by rw[Wa λt ht=>ha t (by simp[ZC,ht])];exact i,by rw[Zka ha];exact r,side,e',hs,h2,λt ht=>?_⟩;rw[hd t ht,he t ht];rw[ht]at h1;simp only[putE,List.cons.injEq,ZH2,true_and,and_true]at h1;rw[h1];exact .inr (.inl ⟨hk,e,hz.congr ha,λt ht=>by rw[hd t ht,he t ht]⟩);right;right;exact⟨t,z,rfl,by rw[hd t rfl];exact h1,by rw[hal t ⟨rfl,z,rfl⟩];exact h2⟩
def ZcY{o x}(h:Zbg o x):Qc o.k=false:=by
 obtain⟨_,z,i⟩:=h;rw[i];rfl
section
variable {P:Program}
def Zqi{F:Fr P}{kp dk T ms A rest H L l H' L' s B p os}(hm:Zjl T ms)(inv:Inv T ms A rest H L s B l H' L')(hA:p∈A)(hdis:p∉rest)(hl:l p=false)(hdeps:∀d∈T.deps p,l d=true)(h:∀ρ2 L2,Inv T ms A rest H L s B (λj=>j==p ||l j) ρ2 L2->DO F kp dk os ρ2 L2 s):DO F kp dk (T.op p::os) H' L' s:=by
 have ap:=inv.alt p hA;have aj:=hm l inv.closed p ap hdeps;have am:ZJ H H' (ZC (T.op p)):=by intro t ht;rcases inv.env t with h|⟨a,ha,ab,ae⟩;exact h;exfalso;rcases inv.pair p hA a ha with hb|hb;rw[aj a hb]at ab;simp at ab;exact Zj0 hb ae ht
 have an:∀x,Zq L' x=Zq L x\/Zq L' x=nO:=λx=>by rcases inv.loc x with h|⟨a,ha,ab,hx⟩;exact .inl h;exact .inr (inv.loc0 a ha ab x hx)
 have ad:∀i,i<T.length->(i==p ||l i)=true->∀d∈T.deps i,(d==p ||l d)=true:=λi hi hli d hd=>by simp only[ZId,beq_iff_eq]at hli⊢;rcases hli with rfl|hli;exact .inr (hdeps d hd);exact .inr (inv.closed i hi hli d hd)
 have ag:∀r∈rest,(r==p ||l r)=false:=λr hr=>by simp only[Bool.or_eq_false_iff,beq_eq_false_iff_ne];exact⟨λh=>hdis (h▸hr),inv.restN r hr⟩
 have ah:∀i,i<T.length->i∉rest->i∉A->(i==p ||l i)=true:=λi hi h1 h2=>by simp[inv.doneN i hi h1 h2]
 have ai:∀a,(a==p ||l a)=false->a≠p/\l a=false:=λa ha=>by simpa using ha
 have af:∀a,a≠p->l a=false->(a==p ||l a)=false:=λa ha h=>by simp[ha,h]
 rcases inv.pend p hA hl with ⟨hk,hgt,hrd,side,e,hs,aq,he⟩|⟨hk,e,hz,he⟩|⟨t,z,ho,h1,h2⟩
 rotate_left
 refine(hz.congr am).run ?_;refine h _ _ ?_;refine⟨ad,ag,ah,inv.alt,inv.pair,inv.uniq,λt=>?_,λa ha ab x hx=>inv.loc0 a ha (ai a ab).2 x hx,λx=>?_,λa ha ab=>inv.pend a ha (ai a ab).2⟩;rw[KV];by_cases hd:(T.op p).dst=sO t;rw[if_pos hd];exact .inl (he t hd).symm;rw[if_neg hd];rcases inv.env t with h|⟨a,ha,ab,ae⟩;exact .inl h;exact .inr ⟨a,ha,af a (λac=>hd (ac▸ae)) ab,ae⟩;rcases inv.loc x with h|⟨a,ha,ab,hx⟩;exact .inl h;refine .inr ⟨a,ha,af a (λac=>?_) ab,hx⟩;have:=ZcY hx;rw[ac,hk]at this;simp at this
 rotate_left
 refine Zuy aq hs hk am an (h _ _ ?_);refine⟨ad,ag,ah,inv.alt,inv.pair,inv.uniq,λt=>?_,λa ha ab x hx=>inv.loc0 a ha (ai a ab).2 x hx,λx=>?_,λa ha ab=>inv.pend a ha (ai a ab).2⟩;rw[KV];by_cases hd:(T.op p).dst=sO t;rw[if_pos hd];exact .inl (he t hd).symm;rw[if_neg hd];rcases inv.env t with h|⟨a,ha,ab,ae⟩;exact .inl h;exact .inr ⟨a,ha,af a (λac=>hd (ac▸ae)) ab,ae⟩;rcases inv.loc x with h|⟨a,ha,ab,hx⟩;exact .inl h;refine .inr ⟨a,ha,af a (λac=>?_) ab,hx⟩;have:=ZcY hx;rw[ac,hk]at this;simp at this;have ao:Zbg (T.op p) t:=⟨by rw[ho],z,by rw[ho]⟩;have al:=inv.loc0 p hA hl t ao;refine ZrI (o:=T.op p) (t:=t) (by rw[ho]) (by rw[ho]) (z:=z) (by rw[ho]) (by simp[Zc8,al]) (h _ _ ?_);have ak:(T.op p).dst=sO t:=by rw[ho]
 refine⟨ad,ag,ah,inv.alt,inv.pair,inv.uniq,λu=>?_,λa ha ab x hx=>?_,λx=>?_,λa ha ab=>inv.pend a ha (ai a ab).2⟩;simp only[Z9];by_cases hd:t=u;subst hd;simp[h1];simp only[hd,if_false];rcases inv.env u with h|⟨a,ha,ab,ae⟩;exact .inl h;exact .inr ⟨a,ha,af a (λac=>hd (by rw[ac,ak]at ae;simpa using ae)) ab,ae⟩;obtain⟨ac,ab⟩:=ai a ab;have:¬t=x:=λar=>Zb2 (inv.uniq p hA a ha ac.symm) ak (ar▸hx.1);simp only[Zq,this,if_false];exact inv.loc0 a ha ab x hx;simp only[Zq];by_cases hd:t=x;subst hd;simp[h2];simp only[hd,if_false];rcases inv.loc x with h|⟨a,ha,ab,hx⟩;exact .inl h;exact .inr ⟨a,ha,af a (λac=>hd (by have:=hx.1;rw[ac,ak]at this;simpa using this)) ab,hx⟩
def Zv3{F:Fr P}{kp dk T ms A rest H L s B i}(hm:Zjl T ms)(hi:i<T.length)(hdis:∀p∈A,p∉i::rest)(hready:∀r∈rest,∃d∈T.deps r,d∈i::rest)(cb:∀l H' L' is,Inv T ms A (i::rest) H L s B l H' L'->(∀d∈T.deps i,l d=true)->Sch T (λj=>j==i ||l j) is->DO F kp dk (T.op i::is.map T.op) H' L' s){l is}(sch:Sch T l is):∀{H' L'},Inv T ms A (i::rest) H L s B l H' L'->DO F kp dk (is.map T.op) H' L' s:=by
 induction sch with
 |nil h=>intro H' L' inv;have:=inv.restN i ψ;rw[h i hi]at this;simp at this
 | @cons l p is hp hlp hd t ih =>intro H' L' inv;by_cases u:p=i;subst u;exact cb l H' L' is inv hd t;by_cases ab:p∈rest;obtain⟨d,ad,ae⟩:=hready p ab;have:=inv.restN d ae;rw[hd d ad]at this;simp at this;by_cases o:p∈A;exact Zqi hm inv o (hdis p o) hlp hd λρ2 L2 ac=>ih ac;have:=inv.doneN p hp (by simp[u,ab]) o;rw[hlp]at this;simp at this
def Zmr{L L'}(h:∀x,Zq L' x=Zq L x):∀ls,Zba L' ls=Zba L ls
 | []=>rfl
 |l::ls=>by simp only[Zba,h l,Zmr h ls]
def Zl9{H H'}(h:∀x,Z9 H' x=Z9 H x):∀ks,Wh H' ks=Wh H ks
 | []=>rfl
 |k::ks=>by simp only[Wh,h k,Zl9 h ks]
def ZxD{F:Fr P}{ks dk T ms A H L s B}(hm:Zjl T ms)(h:ZA F dk (Wh H ks) (Zce (Wh H ks) L) s){l is}(sch:Sch T l is):∀{H' L'},Inv T ms A [] H L s B l H' L'->DO F (sO ks) dk (is.map T.op) H' L' s:=by
 induction sch with
 |nil hall =>
  intro H' L' inv;have h1:∀t,Z9 H' t=Z9 H t:=λt=>by rcases inv.env t with h|⟨a,u,i,_⟩;exact h;rw[hall a (inv.alt a u)]at i;simp at i
  have h2:∀t,Zq L' t=Zq L t:=λt=>by rcases inv.loc t with h|⟨a,u,i,_⟩;exact h;rw[hall a (inv.alt a u)]at i;simp at i
  refine Zhd ?_;show ZA F dk (Wh H' ks) (Zce (Wh H' ks) L') s;rw[Zl9 h1];simp only[Zce,Zmr h2];exact h
 | @cons l p is hp hlp hd t ih =>intro H' L' inv;by_cases o:p∈A;exact Zqi hm inv o ψ hlp hd λρ2 L2 r=>ih r;have:=inv.doneN p hp ψ o;rw[hlp]at this;simp at this
def DOA(F:Fr P)(kp:Option (List Nat))(dk:List QU)(os:List (DOp×List Nat))(H:Env)(L:Loc)(s:St)(B:List (Nat×Rd)):Prop :=
 ∀(T:Tab) ms fl (fk:Option Nat) A rest is l H' L',Zjl T ms->Zef T ms fl fk A rest=true->(∀p∈A,p∉rest)->os=rest.map (λi=>(T.mk fk i,fl i))->Inv T ms A rest H L s B l H' L'->Sch T l is->DO F kp dk (is.map T.op) H' L' s
def Zuw{F:Fr P}{ks dk H L s B}(h:ZA F dk (Wh H ks) (Zce (Wh H ks) L) s):DOA F (sO ks) dk [] H L s B:=by
 intro T ms fl fk A rest is l H' L' hm hc hdis i inv o;have r:rest=[]:=by cases rest<;>simp at i⊢
 subst r;exact ZxD hm h o inv
def Zmq{o H L s s1 side ρ1 L1}(i:ZP o H L s=.ok side ρ1 L1 s1)(hk:Qc o.k=true):∃e,ρ1=putE H o.dst e/\L1=L/\s1=s:=by
 obtain⟨e,r,t,u,_⟩:=ZiJ (H':=H) (L':=L) i hk (λ_ _=>rfl) (.inl rfl);exact⟨e,r,t,u⟩
def Zun{o H L s s1 side ρ1 L1 z}(i:ZP o H L s=.ok side ρ1 L1 s1)(u:o.k=.alloc z):∃t,o=⟨sO t,nO,.alloc z⟩/\side=(Zc8 L t=false)/\ρ1=(t,.loc t 0)::H/\L1=(t,z)::L/\s1=s:=by
 obtain⟨dst,gd,k⟩:=o;simp only at u;subst u;unfold ZP at i;cases r:Zw H gd with
 |none=>simp[r]at i
 |some c =>simp only[r]at i;split at i<;>simp only[SR.ok.injEq,reduceCtorEq]at i;rename_i t;obtain⟨rfl,rfl,rfl,rfl⟩:=i;exact⟨t,rfl,rfl,rfl,rfl,rfl⟩
def Zpr{T:Tab}{r i o}(h:T.mk r i=o)(t:∀k,o.k≠.fork k):r≠sO i/\T.op i=o:=by
 unfold Tab.mk at h;split at h;subst h;exact absurd rfl (t _);exact⟨‹_›,h⟩
def ZmH{T o fl A rest t i}(u:t≠sO i)(h:Zef T o fl t A (i::rest)=true):
  i<T.length/\(∀d∈T.deps i,d∉i::rest)/\i∉rest/\(∀a∈A,(o.getD i 0).testBit a=true\/nd (T.op a).dst (ZC (T.op i))=true) /\
  ((ZdC T A i=true/\Zef T o fl t (i::A) rest=true) \/
   (Zjy T (fl i) (A.filter λa=>!(o.getD i 0).testBit a) rest i=true/\Zef T o fl t (A.filter λa=>!(o.getD i 0).testBit a) rest=true/\ZdC T A i=false)):=by
 simp only[Zef,u,if_false,ZH1,decide_eq_true_eq,List.all_eq_true,Bool.not_eq_true',List.contains_eq_mem,decide_eq_false_iff_not]at h;obtain⟨⟨⟨⟨h1,h2⟩,h3⟩,h4⟩,r⟩:=h;refine⟨h1,h2,h3,λa ha=>?_,?_⟩;cases hb:(o.getD i 0).testBit a;exact .inr (h4 a (List.mem_filter.2 ⟨ha,by simp only[hb];rfl⟩));exact .inl rfl;split at r;rename_i hp;exact .inl ⟨hp,r⟩;rename_i hp;simp only[ZH1]at r;exact .inr ⟨by simpa using r.1,r.2,by simpa using hp⟩
def ZgN{T fl QK rest i}(h:Zjy T fl QK rest i=true):
  Zvr (T.op i).k=true/\(∀r∈rest,∃d∈T.deps r,d∈i::rest) /\
  ∀a∈QK,nd (T.op i).dst (ZC (T.op a))=true/\ndd (T.op i).dst (T.op a).dst=true/\(Zcu (Zdp (T.op a)) fl=false->Wz (T.op a).k=false):=by
 simp only[Zjy,ZH1,List.all_eq_true,List.any_eq_true,List.contains_eq_mem,decide_eq_true_eq,Bool.not_eq_true',ZId]at h;obtain⟨⟨t,u⟩,h3⟩:=h;refine⟨t,u,λa ha=>?_⟩;obtain⟨⟨h4,h5⟩,o⟩:=h3 a ha;refine⟨h4,h5,λhs=>?_⟩;rw[hs]at o;simpa using o
def Zfq{T A i}(h:ZdC T A i=true):
  WE (T.op i).k=true/\nd (T.op i).dst (ZC (T.op i))=true/\∀a∈A,nd (T.op i).dst (ZC (T.op a))=true/\ndd (T.op i).dst (T.op a).dst=true:=by
 simp only[ZdC,ZH1,List.all_eq_true]at h;exact⟨by cases o:(T.op i).k<;>rw[o]at h<;>simp[pqK]at h<;>rfl,h.1.2,h.2⟩
def Inv.bar{T ms A rest H L s s2 B B2 l H' L' i}(hm:Zjl T ms)(inv:Inv T ms A (i::rest) H L s B l H' L')(hdis:∀p∈A,p∉i::rest)(hi:i<T.length)(hir:i∉rest)(hd:∀d∈T.deps i,l d=true)(hf:∀a∈A.filter (λa=>!(ms.getD i 0).testBit a),nd (T.op i).dst (ZC (T.op a))=true/\ndd (T.op i).dst (T.op a).dst=true)(e){L2 L2'}(hL:∀x,Zq L' x=Zq L x->Zq L2' x=Zq L2 x)(h0:∀x,(∀a,ndd (T.op i).dst (T.op a).dst=true->Zbg (T.op a) x->Zq L' x=nO->Zq L2' x=nO))(hp:∀a∈A.filter (λa=>!(ms.getD i 0).testBit a),l a=false->Km (T.op a) H L s B->Km (T.op a) (putE H (T.op i).dst e) L2 s2 B2):
  Inv T ms (A.filter λa=>!(ms.getD i 0).testBit a) rest (putE H (T.op i).dst e) L2 s2 B2 (λj=>j==i ||l j) (putE H' (T.op i).dst e) L2':=by
 have ac:=hm l inv.closed i hi hd;have ab:∀a∈A,l a=false->a∈A.filter λa=>!(ms.getD i 0).testBit a:=λa ha o=>by refine List.mem_filter.2 ⟨ha,?_⟩;cases hb:(ms.getD i 0).testBit a;rfl;rw[ac a hb]at o;simp at o
 have u:∀a∈A.filter (λa=>!(ms.getD i 0).testBit a),a∈A:=λa ha=>(List.mem_filter.1 ha).1;have ae:∀a,(a==i ||l a)=false->a≠i/\l a=false:=λa ha=>by simpa using ha
 have ad:∀a∈A,l a=false->(a==i ||l a)=false:=λa ha h=>by have:a≠i:=λaj=>hdis a ha (by simp[aj]);simp[this,h]
 refine⟨λj hj hlj d ag=>?_,λr hr=>?_,λj hj h1 h2=>?_,λa ha=>inv.alt a (u a ha),λp af a ha=>inv.pair p (u p af) a (u a ha),λp af a ha=>inv.uniq p (u p af) a (u a ha),λt=>?_,λa ha o x hx=>?_,
  λx=>?_,λa ha o=>hp a ha (ae a o).2 (inv.pend a (u a ha) (ae a o).2)⟩
 simp only[ZId,beq_iff_eq]at hlj⊢;rcases hlj with rfl|hlj;exact .inr (hd d ag);exact .inr (inv.closed j hj hlj d ag);simp only[Bool.or_eq_false_iff,beq_eq_false_iff_ne];exact⟨λh=>hir (h▸hr),inv.restN r (by simp[hr])⟩;by_cases ai:j=i;simp[ai];by_cases ah:j∈A;cases hlj:l j;exact absurd (ab j ah hlj) h2;simp;simp[inv.doneN j hj (by simp[ai,h1]) ah];rw[KV,KV];by_cases ht:(T.op i).dst=sO t;simp[ht];simp only[ht,if_false];rcases inv.env t with h|⟨a,ha,o,ak⟩;exact .inl h;exact .inr ⟨a,ab a ha o,ad a ha o,ak⟩;exact h0 x a (hf a ha).2 hx (inv.loc0 a (u a ha) (ae a o).2 x hx);rcases inv.loc x with h|⟨a,ha,o,hx⟩;exact .inl (hL x h);exact .inr ⟨a,ab a ha o,ad a ha o,hx⟩
def Km.keep{o H L L2 s s2 B fl}(h:Km o H L s B)(hk:Wo fl s s2 L L2 B)(hf:Zcu (Zdp o) fl=false->Wz o.k=false)(hal:∀t,Zbg o t->Zq L2 t=Zq L t):Km o H L2 s2 (Wk fl B):=by
 cases r:Zcu (Zdp o) fl;have hr:=Zmj (H:=H) (hf r);exact((h.state (s':=s2) (λb u=>by rw[hr]at u;simp at u)).more (λb u=>by rw[hr]at u;simp at u)).mono (λ_ _=>rfl) (λ_ _=>rfl) (λx hx=>by rw[hr]at hx;simp at hx) hal;have hm:=Zij (show Qv s s2 L L2 (Wk fl B) from hk);have i:∀b,(Zdp o,b)∈B->(Zdp o,b)∈Wk fl B:=λb u=>Zgo.2 ⟨r,u⟩;rcases h with ⟨hq,hg,hr,h'⟩|⟨hq,hg,h'⟩|h';exact((Km.state (s':=s2) (.inl ⟨hq,hg,hr,h'⟩) (λb u=>hm.1 _ b (i _ (hr _ u)))).more (B':=Wk fl B) (λb _ u=>i b u)).mono (λ_ _=>rfl) (λ_ _=>rfl) (λx hx=>hm.2 _ x (i _ (hr _ hx))) hal;exact .inr (.inl ⟨hq,hg,h'⟩);exact(Km.more (B':=Wk fl B) (s:=s2) (.inr (.inr h'):Km o H L s2 B) (λb _ u=>i b u)).mono (λ_ _=>rfl) (λ_ _=>rfl) (λx hx=>by
  obtain⟨t,z,rfl,_⟩:=h';simp[WR]at hx) hal
def ZBE{L s q es r}(t:qv L s q es=sO r){e i}(he:es=e::i)(hr:Wz (.q q [])=true){x}(u:.loc x∈Ji e):∃cs,Zq L x=sO cs:=by
 subst he;cases e with
 |d v=>cases v<;>simp[Ji]at u
 |when c e=>simp[Ji]at u
 |loc l o =>
  simp only[Ji,List.mem_singleton,Rd.loc.injEq]at u;subst u;by_cases hl:Zdb (.q q [])=true;exact ZAx t hl (x:=x) (o:=o) ψ;cases q;case conv c =>cases c<;>simp[Wz]at hr;cases i<;>simp[qv]at t
  all_goals simp[Wz,Zdb]at hr hl
  .cases i with
   |nil=>simp[qv]at t
   |cons e2 r2=>cases r2<;>simp[qv]at t
  cases i<;>simp[qv]at t
def Km.loc{o H L s B}(h:Km o H L s B){x}(hx:.loc x∈WR o H):∃cs,Zq L x=sO cs:=by
 rcases h with ⟨hk,u,hr,side,e,hs,i,he⟩|⟨hk,_,r,_⟩|⟨t,z,rfl,_⟩
 rotate_left
 rw[r.reads]at hx;simp at hx
 rotate_left
 .obtain⟨dst,gd,k⟩:=o;cases k with
  |q q xs =>
   simp only[WR]at hx;split at hx<;>(try(simp at hx;done));rename_i hrd;unfold ZP at i;have hg:Zw H gd=sO true:=u;simp only[hg]at hx i;cases ha:Yr H true xs with
   |none=>simp[ha]at hx
   |some pe =>
    obtain⟨p,es⟩:=pe;simp only[ha]at hx i;cases es with
    |nil=>simp at hx
    |cons e1 es' =>
     simp only at hx;split at i<;>(try(simp at i;done));rename_i sd e2 hq;exact ZBE hq rfl (by
      cases q;case conv c=>cases c<;>simp_all[Wz]
      all_goals simp_all[Wz]) hx
  |_=>simp[WR]at hx
 simp[WR]at hx
def ZcF{F:Fr P}{kp dk o f os H L s B}(R:E->St->Prop)(hk:WE o.k=false)(h1:∀H' L' os',ZJ H H' (ZC o)->(∀e s2,R e s2->DO F kp dk os' (putE H' o.dst e) L' s2)->DO F kp dk (o::os') H' L' s)(h2:∀e s2,R e s2->Wo f s s2 L L B/\DOA F kp dk os (putE H o.dst e) L s2 (Wk f B)):
  DOA F kp dk ((o,f)::os) H L s B:=by
 intro T ms fl fk A rest is l H' L' hm hc u ae inv af;cases rest with
 |nil=>simp at ae
 |cons i rest =>
  simp only[ZIo,List.cons.injEq,ZH2]at ae;obtain⟨⟨ho,rfl⟩,rfl⟩:=ae;obtain⟨al,rfl⟩:=Zpr ho.symm (λk h=>by rw[h]at hk;simp[WE]at hk);obtain⟨hi,hdeps,am,ao,aj⟩:=ZmH al hc;rcases aj with ⟨hp,_⟩|⟨hb,ai,_⟩;have:=(Zfq hp).1;rw[hk]at this;simp at this;obtain⟨hbk,ac,r⟩:=ZgN hb;refine Zv3 hm hi u ac (λl H' L' is inv hd af=>?_) af inv;have ab:=hm l inv.closed i hi hd;have ah:ZJ H H' (ZC (T.op i)):=by intro t ht;rcases inv.env t with h|⟨a,ha,ad,ak⟩;exact h;exfalso;rcases ao a ha with hb|hb;rw[ab a hb]at ad;simp at ad;exact Zj0 hb ak ht
  refine h1 H' L' _ ah λe s2 hR=>?_;obtain⟨an,ag⟩:=h2 e s2 hR;refine ag T ms fl fk _ rest is _ _ _ hm ai (λp hp aq=>u p (List.mem_filter.1 hp).1 (by simp[aq])) rfl (inv.bar hm u hi am hd (λa ha=>⟨(r a ha).1,(r a ha).2.1⟩) e (λ_ h=>h) (λ_ _ _ _ h=>h) λa ha ad ap=>?_) af;refine(ap.keep an (r a ha).2.2 (λ_ _=>rfl)).mono (Qo (r a ha).1) (λt ht=>?_) (λ_ _=>rfl) (λ_ _=>rfl);rw[KV];have:=Zb2 (Zcv (r a ha).2.1) ht;simp[this]
end
def ZkF{H L s s1 p q ok side a n xs ρ1 L1}(h:Jl H L s p q ok a n xs=.ok side ρ1 L1 s1):
  ρ1=H/\((∃l i o,a=.loc l i/\L1=(l,ZF o i xs)::L/\s1=s/\Zq L l=sO o/\∀H' L',Zq L' l=Zq L l->Jl H' L' s p q ok a n xs=.ok side H' ((l,ZF o i xs)::L') s) \/
   (L1=L/\∀H' L',Jl H' L' s p q ok a n xs=.ok side H' L' s1)):=by
 obtain⟨rfl,⟨l,i,o,rfl,r,rfl,rfl,rfl⟩|⟨b,i,o,rfl,r,rfl,rfl,rfl⟩⟩:=ZgA h;exact⟨rfl,.inl ⟨l,i,o,rfl,rfl,rfl,r,λH' L' t=>by simp only[Jl,t,r]⟩⟩;exact⟨rfl,.inr ⟨rfl,λH' L'=>by simp only[Jl,r]⟩⟩
def Zuq{o H L s s1 side ρ1 L1}(hst:ZP o H L s=.ok side ρ1 L1 s1)(hk:Zer o.k=true):
  ρ1=H/\o.dst=nO/\((∃lx cs new,L1=(lx,new)::L/\s1=s/\Zq L lx=sO cs /\
   ∀H' L',ZJ H H' (ZC o)->Zq L' lx=Zq L lx->ZP o H' L' s=.ok side H' ((lx,new)::L') s) \/
   (L1=L/\∀H' L',ZJ H H' (ZC o)->ZP o H' L' s=.ok side H' L' s1)):=by
 obtain⟨dst,gd,k⟩:=o;cases hg:Zw H gd with
 |none=>unfold ZP at hst;simp[hg]at hst
 |some c =>
 cases k with
 |store1 a v =>unfold ZP at hst;simp only[hg]at hst;split at hst<;>(try(simp at hst;done));rename_i p ea q x ha hv;obtain⟨rfl,⟨l,u,cs,rfl,rfl,rfl,hL,i⟩|⟨rfl,i⟩⟩:=ZkF hst;refine⟨rfl,rfl,.inl ⟨l,cs,_,rfl,rfl,hL,λH' L' r hl=>?_⟩⟩;have h1:ZJ ρ1 H' (Yg a):=λt ht=>r t (by simp[ZC,Yp,ht]);have h2:ZJ ρ1 H' (Yg v):=λt ht=>r t (by simp[ZC,Yp,ht]);unfold ZP;simp only[Zw,ZR h1,ZR h2,ha,hv];exact i H' L' hl;refine⟨rfl,rfl,.inr ⟨rfl,λH' L' r=>?_⟩⟩;have h1:ZJ ρ1 H' (Yg a):=λt ht=>r t (by simp[ZC,Yp,ht]);have h2:ZJ ρ1 H' (Yg v):=λt ht=>r t (by simp[ZC,Yp,ht]);unfold ZP;simp only[Zw,ZR h1,ZR h2,ha,hv];exact i H' L'
 |storeN n a v =>unfold ZP at hst;simp only[hg]at hst;split at hst<;>(try(simp at hst;done));rename_i p ea q xs ha hv;obtain⟨rfl,⟨l,u,cs,rfl,rfl,rfl,hL,i⟩|⟨rfl,i⟩⟩:=ZkF hst;refine⟨rfl,rfl,.inl ⟨l,cs,_,rfl,rfl,hL,λH' L' r hl=>?_⟩⟩;have h1:ZJ ρ1 H' (Yg a):=λt ht=>r t (by simp[ZC,Yp,ht]);have h2:ZJ ρ1 H' (Yg v):=λt ht=>r t (by simp[ZC,Yp,ht]);unfold ZP;simp only[Zw,ZR h1,ZR h2,ha,hv];exact i H' L' hl;refine⟨rfl,rfl,.inr ⟨rfl,λH' L' r=>?_⟩⟩;have h1:ZJ ρ1 H' (Yg a):=λt ht=>r t (by simp[ZC,Yp,ht]);have h2:ZJ ρ1 H' (Yg v):=λt ht=>r t (by simp[ZC,Yp,ht]);unfold ZP;simp only[Zw,ZR h1,ZR h2,ha,hv];exact i H' L'
 |_=>simp[Zer]at hk
def ZsG:K->Bool
 |.mapupd _ _ _ _|.delete _ _ _|.entst _ _ _=>true
 |_=>false
def ZxQ{o H L s s1 side ρ1 L1}(hst:ZP o H L s=.ok side ρ1 L1 s1)(hk:ZsG o.k=true):
  ρ1=H/\o.dst=nO/\L1=L/\∀H' L',ZJ H H' (ZC o)->ZP o H' L' s=.ok side H' L' s1:=by
 obtain⟨dst,gd,k⟩:=o;cases hg:Zw H gd with
 |none=>unfold ZP at hst;simp[hg]at hst
 |some c =>
 cases k with
 |mapupd kp m k v =>unfold ZP at hst;simp only[hg]at hst;split at hst<;>(try(simp at hst;done));rename_i p b q dk r dv hm ac hv;split at hst<;>(try(simp at hst;done));rename_i es ab;split at hst<;>simp only[SR.ok.injEq,reduceCtorEq]at hst;rename_i ad u;obtain⟨rfl,rfl,rfl,rfl⟩:=hst;refine⟨rfl,rfl,rfl,λH' L' i=>?_⟩;have h1:ZJ H H' (Yg m):=λt ht=>i t (by simp[ZC,Yp,ht]);have h2:ZJ H H' (Yg k):=λt ht=>i t (by simp[ZC,Yp,ht]);have h3:ZJ H H' (Yg v):=λt ht=>i t (by simp[ZC,Yp,ht]);unfold ZP;simp only[Zw,ZR h1,ZR h2,ZR h3,hm,ac,hv,ab,u]
 |delete kp m k =>unfold ZP at hst;simp only[hg]at hst;split at hst<;>(try(simp at hst;done));rename_i p b q dk hm ac;split at hst<;>(try(simp at hst;done));rename_i es ab;split at hst<;>simp only[SR.ok.injEq,reduceCtorEq]at hst;rename_i ad u;obtain⟨rfl,rfl,rfl,rfl⟩:=hst;refine⟨rfl,rfl,rfl,λH' L' i=>?_⟩;have h1:ZJ H H' (Yg m):=λt ht=>i t (by simp[ZC,Yp,ht]);have h2:ZJ H H' (Yg k):=λt ht=>i t (by simp[ZC,Yp,ht]);unfold ZP;simp only[Zw,ZR h1,ZR h2,hm,ac,ab,u]
 |entst m k v =>unfold ZP at hst;simp only[hg]at hst;split at hst<;>(try(simp at hst;done));rename_i p b q n r dv hm ac hv;split at hst<;>(try(simp at hst;done));rename_i kp es dk n' ab;split at hst<;>simp only[SR.ok.injEq,reduceCtorEq]at hst;rename_i ad u;obtain⟨rfl,rfl,rfl,rfl⟩:=hst;refine⟨rfl,rfl,rfl,λH' L' i=>?_⟩;have h1:ZJ H H' (Yg m):=λt ht=>i t (by simp[ZC,Yp,ht]);have h2:ZJ H H' (Yg k):=λt ht=>i t (by simp[ZC,Yp,ht]);have h3:ZJ H H' (Yg v):=λt ht=>i t (by simp[ZC,Yp,ht]);unfold ZP;simp only[Zw,ZR h1,ZR h2,ZR h3,hm,ac,hv,ab,u]
 |_=>simp[ZsG]at hk
def ZxO{o H L s side pre ρf sf}(hst:ZP o H L s=.all side pre ρf sf):
  WE o.k=false/\∃(t:Nat) (ef:Nat->E),o.dst=sO t/\(ρf=λb=>(t,ef b)::H)/\∀H' L',ZJ H H' (ZC o)->ZP o H' L' s=.all side pre (λb=>(t,ef b)::H') sf:=by
 obtain⟨dst,gd,k⟩:=o;cases hg:Zw H gd with
 |none=>unfold ZP at hst;simp[hg]at hst
 |some c =>
 cases k with
 |mkmap =>unfold ZP at hst;simp only[hg]at hst;split at hst<;>simp only[SR.all.injEq,reduceCtorEq]at hst;obtain⟨rfl,rfl,rfl,rfl⟩:=hst;refine⟨rfl,_,λb=>.d (.map b),rfl,rfl,λH' L' i=>?_⟩;unfold ZP;simp only[Zw]
 |mkslice e n by_ z l c =>unfold ZP at hst;simp only[hg]at hst;split at hst<;>simp only[SR.all.injEq,reduceCtorEq]at hst;rename_i t p k1 lv q k2 hv hl hc;obtain⟨rfl,rfl,rfl,rfl⟩:=hst;refine⟨rfl,t,λb=>.d (.msl b 0 lv.toNat hv.toNat n),rfl,rfl,λH' L' i=>?_⟩;have h1:ZJ H H' (Yg l):=λt ht=>i t (by simp[ZC,Yp,ht]);have h2:ZJ H H' (Yg c):=λt ht=>i t (by simp[ZC,Yp,ht]);unfold ZP;simp only[Zw,ZR h1,ZR h2,hl,hc]
 |mapent kp z m k =>unfold ZP at hst;simp only[hg]at hst;split at hst<;>(try(simp at hst;done));rename_i t p b q dk hm u;split at hst<;>(try(simp at hst;done));rename_i es r;split at hst<;>simp only[SR.all.injEq,reduceCtorEq]at hst;rename_i v hv;obtain⟨rfl,rfl,rfl,rfl⟩:=hst;refine⟨rfl,t,λn=>.d (.tup [v,.stamp n]),rfl,rfl,λH' L' i=>?_⟩;have h1:ZJ H H' (Yg m):=λt ht=>i t (by simp[ZC,Yp,ht]);have h2:ZJ H H' (Yg k):=λt ht=>i t (by simp[ZC,Yp,ht]);unfold ZP;simp only[Zw,ZR h1,ZR h2,hm,u,r,hv]
 |store1 a v =>unfold ZP at hst;simp only[hg]at hst;split at hst<;>(try(simp at hst;done));exact absurd hst Ze5
 |storeN n a v =>unfold ZP at hst;simp only[hg]at hst;split at hst<;>(try(simp at hst;done));exact absurd hst Ze5
 |_ =>
  unfold ZP at hst;simp only[hg]at hst;first
   | (simp at hst;done)
   |repeat' (split at hst<;>(try(simp at hst;done)))
def Zwi{o H L s s1 side ρ1 L1}(i:ZP o H L s=.ok side ρ1 L1 s1):Qc o.k=true\/(∃z,o.k=.alloc z)\/Zer o.k=true\/(∃x,o.k=.box x)\/ZsG o.k=true:=by
 obtain⟨dst,t,k⟩:=o;unfold ZP at i;cases r:Zw H t with
 |none=>simp[r]at i
 |some c =>
  simp only[r]at i;cases k with
  |q q xs=>exact .inl rfl
  |pick x a b=>exact .inl rfl
  |bsl len n z is xs=>exact .inl rfl
  |s2b x=>exact .inl rfl
  |alloc z=>exact .inr (.inl ⟨z,rfl⟩)
  |store1 a v=>exact .inr (.inr (.inl rfl))
  |storeN n a v=>exact .inr (.inr (.inl rfl))
  |box x=>exact .inr (.inr (.inr (.inl ⟨x,rfl⟩)))
  |mapupd kp m k v=>exact .inr (.inr (.inr (.inr rfl)))
  |delete kp m k=>exact .inr (.inr (.inr (.inr rfl)))
  |entst m k v=>exact .inr (.inr (.inr (.inr rfl)))
  |mkmap=>simp only at i;split at i<;>simp at i
  |mkslice e n by_ z l c=>simp only at i;split at i<;>simp at i
  |mapent kp z m k =>simp only at i;split at i<;>(try(simp at i;done));split at i<;>(try(simp at i;done));split at i<;>simp at i
  |call f xs=>simp at i
  |append e n by_ z x y=>simp at i
  |panic x=>simp at i
  |defer f xs=>simp at i
  |recover=>simp at i
  |clear n z x=>simp at i
  |copy n x y=>simp at i
  |fork k=>simp at i
section
variable {P:Program}
def ZxS{o H L L' side ρ1 u new g Z w tmps s}(t:ZP o H L s=.ok side ρ1 ((u,new)::L) s)(hk:Zer o.k=true)(hs:side)(m:ZB g Z w tmps H L' s):∃cs,Zq L' u=sO cs:=by
 have r:∀{p q ok:Prop} {a:Opd} {ea:E} {n:Nat} {xs:List D},ZH H true a=sO (p,ea)->Jl H L s p q ok ea n xs=.ok side ρ1 ((u,new)::L) s->∃cs,Zq L' u=sO cs:=by intro p q ok a ea n xs ha h;obtain⟨rfl,⟨l,i,cs,rfl,hL,rfl,h1,h2⟩|⟨b,i,cs,rfl,hL,rfl,h1,h2⟩⟩:=ZgA h;simp only[List.cons.injEq,ZH2,and_true]at h1;obtain⟨rfl,rfl⟩:=h1;exact ZmF m (xs:=[a]) (p:=p/\True) (es:=[.loc u i]) (by simp[Yr,ha]) ⟨hs.1,trivial⟩ u i ψ;exact absurd (congrArg List.length h1) ψ
 obtain⟨dst,gd,k⟩:=o;cases hg:Zw H gd with
 |none=>unfold ZP at t;simp[hg]at t
 |some c =>
 cases k with
 |store1 a v =>unfold ZP at t;simp only[hg]at t;split at t<;>(try(simp at t;done));rename_i p ea q x ha hv;exact r ha t
 |storeN n a v =>unfold ZP at t;simp only[hg]at t;split at t<;>(try(simp at t;done));rename_i p ea q xs ha hv;exact r ha t
 |_=>simp[Zer]at hk
def ZxP{o H ρ1 L L1 s s1 side x}(r:ZP o H L s=.ok side ρ1 L1 s1)(hk:o.k=.box x):
  ∃t p v,o.dst=sO t/\o.guard=nO/\side=(p/\Zc8 L t=false/\Qb v=true)/\ρ1=(t,.loc t 0)::H/\L1=(t,cellsOf v)::L/\s1=s /\
   ∀H' L',ZJ H H' (ZC o)->ZP o H' L' s=.ok (p/\Zc8 L' t=false/\Qb v=true) ((t,.loc t 0)::H') ((t,cellsOf v)::L') s:=by
 obtain⟨dst,gd,k⟩:=o;simp only at hk;subst hk;unfold ZP at r;cases hg:Zw H gd with
 |none=>simp[hg]at r
 |some c =>simp only[hg]at r;split at r<;>simp only[SR.ok.injEq,reduceCtorEq]at r;rename_i t p v hx;obtain⟨rfl,rfl,rfl,rfl⟩:=r;refine⟨t,p,v,rfl,rfl,rfl,rfl,rfl,rfl,λH' L' i=>?_⟩;have h1:ZJ H H' (Yg x):=λu hu=>i u (by simp[ZC,Yp,hu]);unfold ZP;simp only[Zw,ZR h1,hx]
def ZkE{o H ρ1 L L1 s s1 side}(i:ZP o H L s=.ok side ρ1 L1 s1):∀k,o.k≠.fork k:=λk r=>by
 obtain⟨dst,t,k'⟩:=o;simp only at r;subst r;unfold ZP at i;cases u:Zw H t<;>simp[u]at i
def ZhX{F:Fr P}{kp dk o f os H ρ1 L L1 s s1 B side}(hst:ZP o H L s=.ok side ρ1 L1 s1)(hs:side)(h:if WE o.k then DOA F kp dk os ρ1 L1 s1 (ZaP o H++B) else Wo f s s1 L L1 B/\DOA F kp dk os ρ1 L1 s1 (ZaP o H++Wk f B)):DOA F kp dk ((o,f)::os) H L s B:=by
 intro T ms fl fk A rest is l H' L' hm hc af bf inv am;cases rest with
 |nil=>simp at bf
 |cons i rest =>
  simp only[ZIo,List.cons.injEq,ZH2]at bf;obtain⟨⟨ho,rfl⟩,rfl⟩:=bf;obtain⟨bx,rfl⟩:=Zpr ho.symm (ZkE hst);obtain⟨hi,hdeps,aq,bo,az⟩:=ZmH bx hc;have bn:=inv.restN i ψ;rcases az with ⟨hp,an⟩|⟨hb,an,hnp⟩
  .obtain⟨b1,a4,ao⟩:=Zfq hp;rw[b1]at h;simp only[if_true]at h;have hiA:i∉A:=λhA=>af i hA ψ;have bv:∀(au:∀t,(T.op i).dst=sO t\/Z9 ρ1 t=Z9 H t) (ba:∀a∈A,ZJ H ρ1 (ZC (T.op a))) (hL:∀x,Zq L1 x=Zq L x\/(Zbg (T.op i) x/\Zq L x=nO)) (bi:∀x,Zbg (T.op i) x->Zq L x=nO)
     (ay:Km (T.op i) ρ1 L1 s (ZaP (T.op i) H++B)) (a8:s1=s),DO F kp dk (is.map T.op) H' L' s:=by
    intro au ba hL bi ay a8;subst a8;refine h T ms fl fk (i::A) rest is l H' L' hm an (λp hp a6=>?_) rfl ⟨inv.closed,λr hr=>inv.restN r (by simp[hr]),λj hj h1 h2=>?_,λa ha=>?_,λp hp a ha=>?_,λp hp a ha bp=>?_,λt=>?_,λa ha ad x hx=>?_,λx=>?_,λa ha ad=>?_⟩ am;rcases List.mem_cons.1 hp with rfl|hp;exact aq a6;exact af p hp (by simp[a6]);simp only[ZIs,not_or]at h2;exact inv.doneN j hj (by simp[h2.1,h1]) h2.2;rcases List.mem_cons.1 ha with rfl|ha;exact hi;exact inv.alt a ha;rcases List.mem_cons.1 hp with rfl|hpA<;>rcases List.mem_cons.1 ha with rfl|haA;exact .inr a4;exact bo a haA;exact .inr (ao p hpA).1;exact inv.pair p hpA a haA;rcases List.mem_cons.1 hp with rfl|hpA<;>rcases List.mem_cons.1 ha with rfl|haA;exact absurd rfl bp;exact(ao a haA).2;exact Zcv (ao p hpA).2;exact inv.uniq p hpA a haA bp;rcases au t with hd|hg;exact .inr ⟨i,ψ,bn,hd⟩;rw[hg];rcases inv.env t with h|⟨a,ha,ad,bb⟩;exact .inl h;exact .inr ⟨a,by simp[ha],ad,bb⟩;rcases List.mem_cons.1 ha with rfl|ha;have:=bi x hx;rcases inv.loc x with h|⟨b,hb,bc,bh⟩;rw[h];exact this;exact inv.loc0 b hb bc x bh;exact inv.loc0 a ha ad x hx;rcases hL x with hx|⟨hx,_⟩;rw[hx];rcases inv.loc x with h|⟨b,hb,bc,bh⟩;exact .inl h;exact .inr ⟨b,by simp[hb],bc,bh⟩;exact .inr ⟨i,ψ,bn,hx⟩;rcases List.mem_cons.1 ha with rfl|ha;exact ay;refine((inv.pend a ha ad).more (B':=ZaP (T.op i) H++B) (λb _ hb=>List.mem_append_right _ hb)).mono (ba a ha) (λt ht=>?_) (λx hx=>?_) (λt ai=>?_);rcases au t with hd|hg;exact absurd ht (Zb2 (ao a ha).2 hd);exact hg;obtain⟨cs,az⟩:=(inv.pend a ha ad).loc hx;rcases hL x with h|⟨_,h⟩;exact h;rw[h]at az;simp at az;rcases hL t with h|⟨h,_⟩;exact h;exact absurd ai.1 (Zb2 (ao a ha).2 h.1)
   by_cases hq:Qc (T.op i).k=true
   .obtain⟨e,rfl,rfl,rfl⟩:=Zmq hst hq;have bl:=Wa (g:=(T.op i).guard) (H:=H) (H':=putE H (T.op i).dst e) (λt ht=>Qo a4 t (by simp[ZC,ht]));refine bv (λt=>?_) (λa ha=>Qo (ao a ha).1) (λx=>.inl rfl) (λx hx=>by have:=ZcY hx;rw[hq]at this;simp at this) ?_ rfl;rw[KV];by_cases ht:(T.op i).dst=sO t;exact .inl ht;exact .inr (by simp[ht]);cases a1:Zw H (T.op i).guard with
    |none=>unfold ZP at hst;simp[a1]at hst
    |some c =>
    cases c;obtain⟨e',h1,-,-⟩:=Zmp hst a1 hq;refine .inr (.inl ⟨hq,_,.inl ⟨by rw[bl,a1],e',rfl⟩,λt ht=>?_⟩);rw[h1,KV,if_pos ht];obtain⟨e',h1,-,-,h2⟩:=ZiJ (H':=putE H (T.op i).dst e) (L':=L1) hst hq (Qo a4) (.inl rfl);refine .inl ⟨hq,by rw[bl,a1],by rw[Zka (Qo a4)];exact λb hb=>List.mem_append_left _ (Zv4.2 hb),side,e',hs,h2,λt ht=>?_⟩;rw[h1,KV,if_pos ht]
   obtain⟨z,hz⟩:∃z,(T.op i).k=.alloc z:=by cases hk:(T.op i).k<;>first|exact absurd hk (ZkE hst _)|simp_all[WE,Qc]
   obtain⟨t,ho,rfl,rfl,rfl,rfl⟩:=Zun hst hz;have aj:Zq L t=nO:=by cases hg:Zq L t<;>simp[Zc8,hg]at hs⊢
   have al:(T.op i).dst=sO t:=by rw[ho]
   refine bv (λu=>?_) (λa ha=>?_) (λx=>?_) (λx hx=>?_) (.inr (.inr ⟨t,z,ho,by simp[Z9],by simp[Zq]⟩)) rfl;by_cases br:t=u;exact .inl (by rw[al,br]);exact .inr (by simp[Z9,br]);have:=Qo (H:=H) (e:=.loc t 0) (ao a ha).1;rw[al]at this;exact this;by_cases bt:t=x;subst bt;exact .inr ⟨⟨al,z,hz⟩,aj⟩;exact .inl (by simp[Zq,bt]);have:=hx.1;rw[al]at this;simp only[ZHQ]at this;subst this;exact aj
  obtain⟨bj,a7,ab⟩:=ZgN hb;have a2:Wo (fl i) s s1 L L1 B\/WE (T.op i).k=true:=by cases a5:WE (T.op i).k;rw[a5]at h;exact .inl h.1;exact .inr rfl
  have hD:∃B2,(B2=ZaP (T.op i) H++B/\WE (T.op i).k=true\/B2=ZaP (T.op i) H++Wk (fl i) B/\WE (T.op i).k=false)/\DOA F kp dk (rest.map λi=>(T.mk fk i,fl i)) ρ1 L1 s1 B2:=by cases a5:WE (T.op i).k;rw[a5]at h;exact⟨_,.inr ⟨rfl,rfl⟩,h.2⟩;rw[a5]at h;exact⟨_,.inl ⟨rfl,rfl⟩,h⟩
  clear h;obtain⟨B2,bw,h⟩:=hD;have ah:∀b∈Wk (fl i) B,b∈B2:=λb hb=>by rcases bw with ⟨rfl,_⟩|⟨rfl,_⟩;exact List.mem_append_right _ (Zgo.1 hb).2;exact List.mem_append_right _ hb
  refine Zv3 hm hi af a7 (λl H' L' is inv hd am=>?_) am inv;have ar:=hm l inv.closed i hi hd;have ap:ZJ H H' (ZC (T.op i)):=by intro t ht;rcases inv.env t with h|⟨a,ha,ad,bb⟩;exact h;exfalso;rcases bo a ha with hb|hb;rw[ar a hb]at ad;simp at ad;exact Zj0 hb bb ht
  have ax:∀x,Zq L' x=Zq L x\/Zq L' x=nO:=λx=>by rcases inv.loc x with h|⟨a,ha,ad,hx⟩;exact .inl h;exact .inr (inv.loc0 a ha ad x hx)
  have ag:∀p∈A.filter (λa=>!(ms.getD i 0).testBit a),p∉rest:=λp hp a6=>af p (List.mem_filter.1 hp).1 (by simp[a6]);rcases Zwi hst with hq|⟨z,hz⟩|hq|⟨x,hx⟩|hq;obtain⟨e,rfl,rfl,rfl⟩:=Zmq hst hq;refine Zuy hst hs hq ap ax ?_;refine h T ms fl fk _ rest is _ _ _ hm an ag rfl (inv.bar hm af hi aq hd (λa ha=>⟨(ab a ha).1,(ab a ha).2.1⟩) e (λ_ h=>h) (λ_ _ _ _ h=>h) λa ha ad ak=>?_) am;refine((ak.keep (fl:=fl i) Zd1 (ab a ha).2.2 (λ_ _=>rfl)).more (λb _ hb=>ah _ hb)).mono (Qo (ab a ha).1) (λt ht=>?_) (λ_ _=>rfl) (λ_ _=>rfl);rw[KV];have:=Zb2 (Zcv (ab a ha).2.1) ht;simp[this];rw[hz]at bj;simp[Zvr]at bj;obtain⟨rfl,a0,⟨lx,cs,a9,rfl,rfl,be,ac⟩|⟨rfl,ac⟩⟩:=Zuq hst hq;refine Zp1 λg Z w tmps m=>?_;have bq:ZP (T.op i) H' ((lx,cs)::L') s1=.ok side H' ((lx,a9)::(lx,cs)::L') s1:=ac H' _ ap (by simp[Zq,be]);have bg:Zq L' lx=Zq L lx:=by obtain⟨c2,bk⟩:∃cs,Zq L' lx=sO cs:=ZxS (L:=(lx,cs)::L') bq hq hs m;rcases ax lx with h|h;exact h;rw[h]at bk;simp at bk
  refine Jw (ac H' L' ap bg) hs ?_;have ae:∀r:Env,putE r (T.op i).dst (.d .undef)=r:=λr=>by rw[a0];rfl
  have hb:=inv.bar (s2:=s1) (B2:=B2) hm af hi aq hd (λa ha=>⟨(ab a ha).1,(ab a ha).2.1⟩) (.d .undef) (L2:=(lx,a9)::L) (L2':=(lx,a9)::L') (λx hx=>by simp only[Zq,hx]) (λx _ _ _ hx=>by
   by_cases bu:lx=x;subst bu;rw[bg,be]at hx;simp at hx;simp only[Zq,bu,if_false];exact hx) (λa ha ad ak=>?_)
  rw[ae,ae]at hb;exact h T ms fl fk _ rest is _ _ _ hm an ag rfl hb am;rw[ae];have av:Wo (fl i) s1 s1 L ((lx,a9)::L) B:=by rcases a2 with h|h;exact h;cases aw:(T.op i).k<;>rw[aw]at hq h<;>simp[Zer,WE]at hq h
  refine(ak.keep av (ab a ha).2.2 (λt ai=>?_)).more (λb _ hb=>ah _ hb);have hn:=inv.loc0 a (List.mem_filter.1 ha).1 ad t ai;have:¬lx=t:=λh=>by subst h;rw[bg,be]at hn;simp at hn
  simp[Zq,this];refine Jw (ac H' L' ap) hs ?_;have ae:∀r:Env,putE r (T.op i).dst (.d .undef)=r:=λr=>by rw[a0];rfl
  have hb:=inv.bar (s2:=s1) (B2:=B2) hm af hi aq hd (λa ha=>⟨(ab a ha).1,(ab a ha).2.1⟩) (.d .undef) (L2:=L1) (L2':=L') (λx hx=>hx) (λ_ _ _ _ hx=>hx) (λa ha ad ak=>by
   rw[ae];exact(ak.keep (a2.resolve_right (by cases aw:(T.op i).k<;>rw[aw]at hq<;>simp[Zer,ZsG]at hq<;>simp[WE])) (ab a ha).2.2 (λ_ _=>rfl)).more (λb _ hb=>ah _ hb))
  rw[ae,ae]at hb;exact h T ms fl fk _ rest is _ _ _ hm an ag rfl hb am;obtain⟨t,p,v,al,hgn,rfl,rfl,rfl,rfl,ac⟩:=ZxP hst hx;obtain⟨a8,b2,ca⟩:=hs;have aj:Zq L t=nO:=by cases hg:Zq L t<;>simp[Zc8,hg]at b2⊢
  have a3:Zq L' t=nO:=by rcases ax t with h|h;rw[h];exact aj;exact h
  refine Jw (ac H' L' ap) ⟨a8,by simp[Zc8,a3],ca⟩ ?_;have hb:=inv.bar (s2:=s1) (B2:=B2) hm af hi aq hd (λa ha=>⟨(ab a ha).1,(ab a ha).2.1⟩) (.loc t 0) (L2:=(t,cellsOf v)::L) (L2':=(t,cellsOf v)::L') (λx hx=>by simp only[Zq,hx]) (λx a bz ai hx=>by
    have:¬t=x:=λh=>by subst h;exact Zb2 bz al ai.1
    simp only[Zq,this,if_false];exact hx) (λa ha ad ak=>?_)
  rw[al]at hb;exact h T ms fl fk _ rest is _ _ _ hm an ag rfl hb am;have av:Wo (fl i) s1 s1 L ((t,cellsOf v)::L) B:=a2.resolve_right (by rw[hx];simp[WE]);have b0:∀u,Zbg (T.op a) u->¬t=u:=λu ai h=>by subst h;exact Zb2 (ab a ha).2.1 al ai.1
  refine((ak.keep av (ab a ha).2.2 (λu ai=>by simp[Zq,b0 u ai])).more (λb _ hb=>ah _ hb)).mono (Qo (ab a ha).1) (λu hu=>?_) (λ_ _=>rfl) (λ_ _=>rfl);rw[KV];have:=Zb2 (Zcv (ab a ha).2.1) hu;simp[this];obtain⟨rfl,a0,rfl,ac⟩:=ZxQ hst hq;refine Jw (ac H' L' ap) hs ?_;have ae:∀r:Env,putE r (T.op i).dst (.d .undef)=r:=λr=>by rw[a0];rfl
  have hb:=inv.bar (s2:=s1) (B2:=B2) hm af hi aq hd (λa ha=>⟨(ab a ha).1,(ab a ha).2.1⟩) (.d .undef) (L2:=L1) (L2':=L') (λx hx=>hx) (λ_ _ _ _ hx=>hx) (λa ha ad ak=>by
   rw[ae];exact(ak.keep (a2.resolve_right (by cases aw:(T.op i).k<;>rw[aw]at hq<;>simp[Zer,ZsG]at hq<;>simp[WE])) (ab a ha).2.2 (λ_ _=>rfl)).more (λb _ hb=>ah _ hb))
  rw[ae,ae]at hb;exact h T ms fl fk _ rest is _ _ _ hm an ag rfl hb am
def Zx8{F:Fr P}{kp dk o f os H L s B e}(hz:ZcU o H e)(hk:Qc o.k=true)(h:DOA F kp dk os (putE H o.dst e) L s B):DOA F kp dk ((o,f)::os) H L s B:=by
 intro T ms fl fk A rest is l H' L' hm hc ac al inv ah;cases rest with
 |nil=>simp at al
 |cons i rest =>
  simp only[ZIo,List.cons.injEq,ZH2]at al;obtain⟨⟨ho,rfl⟩,rfl⟩:=al;obtain⟨av,rfl⟩:=Zpr ho.symm (λk h=>by rw[h]at hk;simp[Qc]at hk);obtain⟨hi,hdeps,am,ao,au⟩:=ZmH av hc;have ay:=inv.restN i ψ;have an:∀x,¬Zbg (T.op i) x:=λx hx=>by have:=ZcY hx;rw[hk]at this;simp at this
  rcases au with ⟨hp,ai⟩|⟨hb,ai,hnp⟩;obtain⟨hp1,ap,ae⟩:=Zfq hp;have aw:=hz.congr (H':=putE H (T.op i).dst e) (Qo ap);refine h T ms fl fk (i::A) rest is l H' L' hm ai (λp hp af=>?_) rfl ⟨inv.closed,λr hr=>inv.restN r (by simp[hr]),λj hj h1 h2=>?_,λa ha=>?_,λp hp a ha=>?_,λp hp a ha aq=>?_,λt=>?_,λa ha ab x hx=>?_,λx=>?_,λa ha ab=>?_⟩ ah;rcases List.mem_cons.1 hp with rfl|hp;exact am af;exact ac p hp (by simp[af]);simp only[ZIs,not_or]at h2;exact inv.doneN j hj (by simp[h2.1,h1]) h2.2;rcases List.mem_cons.1 ha with rfl|ha;exact hi;exact inv.alt a ha;rcases List.mem_cons.1 hp with rfl|hpA<;>rcases List.mem_cons.1 ha with rfl|haA;exact .inr ap;exact ao a haA;exact .inr (ae p hpA).1;exact inv.pair p hpA a haA;rcases List.mem_cons.1 hp with rfl|hpA<;>rcases List.mem_cons.1 ha with rfl|haA;exact absurd rfl aq;exact(ae a haA).2;exact Zcv (ae p hpA).2;exact inv.uniq p hpA a haA aq;rw[KV];by_cases ht:(T.op i).dst=sO t;exact .inr ⟨i,ψ,ay,ht⟩;rw[if_neg ht];rcases inv.env t with h|⟨a,ha,ab,aj⟩;exact .inl h;exact .inr ⟨a,by simp[ha],ab,aj⟩;rcases List.mem_cons.1 ha with rfl|ha;exact absurd hx (an x);exact inv.loc0 a ha ab x hx;rcases inv.loc x with h|⟨b,hb,ax,a0⟩;exact .inl h;exact .inr ⟨b,by simp[hb],ax,a0⟩;rcases List.mem_cons.1 ha with rfl|ha;exact .inr (.inl ⟨hk,e,aw,λt ht=>by rw[KV,if_pos ht]⟩);refine(inv.pend a ha ab).mono (Qo (ae a ha).1) (λt ht=>?_) (λ_ _=>rfl) (λ_ _=>rfl);rw[KV,if_neg (Zb2 (Zcv (ae a ha).2) ht)];obtain⟨hbk,ag,u⟩:=ZgN hb;refine Zv3 hm hi ac ag (λl H' L' is inv hd ah=>?_) ah inv;have ad:=hm l inv.closed i hi hd;have ar:ZJ H H' (ZC (T.op i)):=by intro t ht;rcases inv.env t with h|⟨a,ha,ab,aj⟩;exact h;exfalso;rcases ao a ha with hb|hb;rw[ad a hb]at ab;simp at ab;exact Zj0 hb aj ht
  have ak:∀p∈A.filter (λa=>!(ms.getD i 0).testBit a),p∉rest:=λp hp af=>ac p (List.mem_filter.1 hp).1 (by simp[af]);refine(hz.congr ar).run ?_;refine h T ms fl fk _ rest is _ _ _ hm ai ak rfl (inv.bar hm ac hi am hd (λa ha=>⟨(u a ha).1,(u a ha).2.1⟩) e (λ_ h=>h) (λ_ _ _ _ h=>h) λa ha ab az=>?_) ah;refine az.mono (Qo (u a ha).1) (λt ht=>?_) (λ_ _=>rfl) (λ_ _=>rfl);rw[KV];have:=Zb2 (Zcv (u a ha).2.1) ht;simp[this]
def Zx9{F:Fr P}{kp dk o f os H L s B}(hg:o.guard=nO){x y i u}(t:o.k=.q (.bin i u) [x,y]){p k r a b v}(ha:Yr H true [x,y]=sO (p,[.d (.int k a),.d (.int r b)]))(hp:p)(hv:ZgH i k r a b=sO v)(h:DOA F kp dk os (putE H o.dst (.d (.int k v))) L s B):DOA F kp dk ((o,f)::os) H L s B :=
 Zx8 (.inr ⟨x,y,i,u,p,k,r,a,b,v,hg,t,ha,hp,hv,rfl⟩) (by rw[t];rfl) h
def Zo0{F:Fr P}{kp}{dk}{o}{f}{os}{H}{L}{s}{B}{side}{pre}{ρf}{sf}(hst:ZP o H L s=.all side pre ρf sf)(hs:side)(h:∀b,pre b->Wo f s (sf b) L L B/\DOA F kp dk os (ρf b) L (sf b) (Wk f B)):DOA F kp dk ((o,f)::os) H L s B:=by
 obtain⟨hp,t,ef,u,rfl,i⟩:=ZxO hst;refine ZcF (λe s2=>∃b,pre b/\e=ef b/\s2=sf b) hp (λH' L' os' ab r=>?_) (λe s2 ⟨b,hb,he,h2⟩=>?_);refine Zng (i H' L' ab) hs λb hb=>?_;have:=r (ef b) (sf b) ⟨b,hb,rfl,rfl⟩;rw[u]at this;exact this;subst he;subst h2;have:=h b hb;rw[u];exact this
def ZkS{F:Fr P}{ks dk}:∀{os H L s B},
  Zh6 (λH L s=>ZA F dk (Wh H ks) (Zce (Wh H ks) L) s) (λos H L s B=>DOA F (sO ks) dk os H L s B) os H L s B->DOA F (sO ks) dk os H L s B
 | [],H,L,s,B,h=>Zuw h
 | (o,f)::os,H,L,s,B,h=>by simp only[Zh6]at h;split at h;rename_i sd H' L' u i;by_cases r:WE o.k=true;rw[if_pos r]at h;exact ZhX i h.1 (by rw[if_pos r];exact ZkS h.2);rw[if_neg r]at h;exact ZhX i h.1 (by rw[if_neg r];exact⟨h.2.1,ZkS h.2.2⟩);rename_i sd pre H' u i;exact Zo0 i h.1 λb t=>⟨(h.2 b t).1,ZkS (h.2 b t).2⟩;exact h
end
def ZhL{bs}:∀{ds a},(Zdc bs ds).testBit a=true->∃d∈ds,a=d\/(bs.getD d 0).testBit a=true
 | [],a,h=>by simp[Zdc]at h
 |d::ds,a,h=>by simp only[Zdc,Nat.testBit_or,ZId]at h;rcases h with (h|h)|h;exact⟨d,ψ,.inr h⟩;refine⟨d,ψ,.inl ?_⟩;rw[Nat.one_shiftLeft,Nat.testBit_two_pow]at h;exact(of_decide_eq_true h).symm;obtain⟨i,o,r⟩:=ZhL h;exact⟨i,by simp[o],r⟩
def ZsI(l:Nat->Bool)(all)(hcl:∀i,i<I all->l i=true->∀d∈all.getD i [],l d=true) :
  ∀(r acc pre),all=pre++r->I acc=I pre ->
   (∀i,i<I acc->(∀d∈all.getD i [],l d=true)->∀a,(acc.getD i 0).testBit a=true->l a=true) ->
   ∀i,i<I all->(∀d∈all.getD i [],l d=true)->∀a,((Zip r acc).getD i 0).testBit a=true->l a=true
 | [],acc,pre,hall,hlen,hacc=>by intro i hi;simp only[Zip];exact hacc i (by rw[hlen];simp only[hall,ZIj]at hi;exact hi)
 |d::r,acc,pre,hall,hlen,hacc=>by
  simp only[Zip];refine ZsI l all hcl r (acc++[Zdc acc d]) (pre++[d]) (by simp[hall]) (by simp[hlen]) λi hi hd a ha=>?_;simp only[ZHX,ZH3,List.length_nil]at hi;by_cases o:i<I acc;have e:(acc++[Zdc acc d]).getD i 0=acc.getD i 0:=by simp[ZH6,List.getElem?_append,o]
  rw[e]at ha;exact hacc i o hd a ha;have u:i=I acc:=ω;subst u;have e:(acc++[Zdc acc d]).getD (I acc) 0=Zdc acc d:=by simp[ZH6]
  rw[e]at ha;have e2:all.getD (I acc) []=d:=by rw[hall,hlen];simp[ZH6]
  rw[e2]at hd;obtain⟨d',h1,h2⟩:=ZhL ha;rcases h2 with rfl|h2;exact hd a h1;by_cases t:d'<I acc;exact hacc d' t (hcl d' (by rw[hall];simp;omega) (hd d' h1)) a h2;have:acc.getD d' 0=0:=by simp[ZH6,ZIz (Nat.le_of_not_lt t)]
  rw[this]at h2;simp at h2
def cnt(l:Nat->Bool):Nat->Nat
 |0=>0
 |n+1=>cnt l n+if l n then 0 else 1
def Zsc{l l'}:∀{n},(∀i,i<n->l' i=l i)->cnt l' n=cnt l n
 |0,_=>rfl
 |n+1,h=>by have:=Zsc (l:=l) (l':=l') (n:=n) λi hi=>h i ω;simp only[cnt,h n ω,this]
def ZuK{l i}:∀{n},i<n->l i=false->cnt (λj=>j==i ||l j) n+1=cnt l n
 |n+1,hi,hl=>by
  by_cases hn:i=n;subst hn;have:cnt (λj=>j==i ||l j) i=cnt l i:=Zsc λj hj=>by have:¬j=i:=ω;simp[this]
  simp[cnt,this,hl];have h:=ZuK (n:=n) ω hl;have o:¬n=i:=λh=>hn h.symm;have:(n==i ||l n)=l n:=by simp[o]
  simp only[cnt,this];omega
def Zsd{l}:∀{n},cnt l n=0->∀i,i<n->l i=true
 |n+1,h,i,hi=>by simp only[cnt]at h;by_cases hn:i=n;subst hn;cases hl:l i;simp[hl]at h;rfl;exact Zsd (n:=n) ω i ω
def ZwN(l):∀n,cnt l n<=n
 |0=>ZH9 _
 |n+1=>by have:=ZwN l n;simp only[cnt];split<;>omega
def Zxp{ops u i}(h:i∈Region.ready .any ops u):
  ∃o,ops[i]?=sO o/\u.getD i true=false/\∀d∈ZaO o,u.getD d false=true:=by
 simp only[Region.ready,List.mem_filter,List.mem_range,ZH1,Bool.not_eq_true']at h;obtain⟨hi,hl,ha⟩:=h;refine⟨ops[i],by simp[hi],hl,λd hd=>?_⟩;simp only[hi,Array.getElem?_eq_getElem,Option.map_some,ZIr,Array.all_eq_true]at ha;simp only[ZaO,List.mem_map,List.mem_filter]at hd;obtain⟨e,⟨he,hb⟩,rfl⟩:=hd;obtain⟨n,hn,r⟩:=ZIc he;have t:n<ops[i].after.size:=by simpa using hn
 have h2:=ha n t;have:ops[i].after[n]=e:=by rw[<-r];simp
 rw[this]at h2;simpa[hb]using h2
def ZxF{ops r i o}(ho:ops[i]?=sO o)(hl:r.getD i true=false)(hd:∀d∈ZaO o,r.getD d false=true):i∈Region.ready .any ops r:=by
 obtain⟨t,rfl⟩:=Array.getElem?_eq_some_iff.1 ho;simp only[Region.ready,List.mem_filter,List.mem_range,ZH1,Bool.not_eq_true'];refine⟨t,hl,?_⟩;simp only[t,Array.getElem?_eq_getElem,Option.map_some,ZIr,Array.all_eq_true];intro n hn;cases u:Region.binds .any ops[i].after[n];simp;simp only[Bool.not_true,Bool.false_or];exact hd _ (by
  simp only[ZaO,List.mem_map,List.mem_filter];exact⟨_,⟨ψ,u⟩,rfl⟩)
def ZBK{ops T}(hT:T.length=ops.size)(hdep:∀i o,ops[i]?=sO o->T.deps i=ZaO o)(hlt:∀i,i<T.length->∀d∈T.deps i,d<i):
  ∀(fuel t listed),listed.size=ops.size->cnt (λj=>listed.getD j false) ops.size<=fuel ->
   Sch T (λj=>listed.getD j false) (Region.linearise.go .any ops fuel t listed []):=by
 have r:∀listed:Array Bool,listed.size=ops.size->Region.ready .any ops listed=[]->∀i,i<ops.size->listed.getD i false=true:=by
  intro listed u hr i;induction i using Nat.strongRecOn with
  |ind i ih =>
   intro hi;cases hl:listed.getD i false;exfalso;have ae:i<listed.size:=ω;have ag:listed.getD i true=false:=by simpa[Array.getD,ae]using hl
   have hm:i∈Region.ready .any ops listed:=ZxF (o:=ops[i]) (by simp[hi]) ag λd hd=>by have aj:d<i:=hlt i ω d (by rw[hdep i ops[i] (by simp[hi])];exact hd);exact ih d aj ω
   rw[hr]at hm;simp at hm;rfl
 intro fuel;induction fuel with
 |zero =>intro t listed u hc;simp only[Region.linearise.go,List.reverse_nil];exact .nil λi hi=>Zsd (Nat.le_zero.1 hc) i ω
 |succ fuel ih =>
  intro t listed u hc;simp only[Region.linearise.go];change Sch T _ (match (Region.ready .any ops listed)[t % (Region.ready .any ops listed).length]? with
   |some i=>Region.linearise.go .any ops fuel (t / (Region.ready .any ops listed).length) (listed.setIfInBounds i true) [i]
   |none=>[].reverse)
  cases hi:(Region.ready .any ops listed)[t % (Region.ready .any ops listed).length]? with
  |none =>
   have ah:Region.ready .any ops listed=[]:=by
    cases hr:Region.ready .any ops listed with
    |nil=>rfl
    |cons x xs =>rw[hr]at hi;have hl:t % (x::xs).length<(x::xs).length:=Nat.mod_lt _ ψ;rw[ZIn hl]at hi;simp at hi
   exact .nil λi ae=>r listed u ah i ω
  |some i =>
   simp only[];rw[linearise_go_acc,List.reverse_singleton,List.singleton_append];obtain⟨o,ho,hl,hd⟩:=Zxp (List.mem_of_getElem? hi);obtain⟨ak,-⟩:=Array.getElem?_eq_some_iff.1 ho;have ac:i<listed.size:=ω;have af:listed.getD i false=false:=by simpa[Array.getD,ac]using hl
   have ab:(λj=>(listed.setIfInBounds i true).getD j false)=λj=>j==i ||listed.getD j false:=by funext j;simp only[Array.getD_eq_getD_getElem?,Array.getElem?_setIfInBounds];by_cases ad:i=j;subst ad;simp[ac];have:¬j=i:=λh=>ad h.symm;simp[ad,this]
   refine .cons ω af (λd ai=>hd d (by rw[<-hdep i o ho];exact ai)) ?_;rw[<-ab];refine ih _ _ (by simp[u]) ?_;rw[ab];have:=ZuK (l:=λj=>listed.getD j false) ak af;omega
section
variable {P:Program}
def Zz8{an N c i os ks}(h:cc P an N c=sO (.regD i os ks)):
  ∃id ops,c=.region id ops true/\ccD P an N id ops=sO (i,os,ks):=by
 unfold cc at h;split at h<;>simp_all;obtain⟨a,b,c',o,r,t,u⟩:=h;exact⟨_,_,⟨rfl,rfl⟩,by rw[o];simp[r,t,u]⟩;all_goals (split at h<;>simp at h)
end
def ZBL{T l is}(h:Sch T l is):∀i∈is,i<T.length:=by
 induction h with
 |nil h=>simp
 |cons hi hl hd t ih=>intro i o;rcases List.mem_cons.1 o with rfl|h;exact hi;exact ih i h
section
variable {P:Program}
def Zse{N ops}:∀{is l},Zag P N ops is=sO l->I l=I is/\∀(j i:Nat),is[j]?=sO i->∃o d,ops[i]?=sO o/\cop P N ops o=sO d/\l[j]?=sO d
 | [],l,h=>by simp only[Zag,ZHQ]at h;subst h;simp
 |i::is,l,h=>by
  simp only[Zag]at h;split at h<;>(try(simp at h;done));rename_i o ho;split at h<;>simp only[ZHQ,reduceCtorEq]at h;rename_i d ds hd r;subst h;obtain⟨u,h2⟩:=Zse r;refine⟨by simp[u],λj i' t=>?_⟩;cases j with
  |zero=>simp only[List.getElem?_cons_zero,ZHQ]at t;subst t;exact⟨o,d,ho,hd,ψ⟩
  |succ j=>simp only[List.getElem?_cons_succ]at t⊢;exact h2 j i' t
def ZuL{N ops f}:∀{is},(∀i∈is,∃o,ops[i]?=sO o/\cop P N ops o=sO (f i))->Zag P N ops is=sO (is.map f)
 | [],_=>rfl
 |i::is,h=>by obtain⟨o,r,t⟩:=h i ψ;have:=ZuL (is:=is) λj u=>h j (by simp[u]);simp only[Zag,r,t,this,ZIo]
def ZwT(g w){n}:Ext g w g { w with drawn:=n }:=⟨ZH9 _,λ_=>ZH9 _,λ_ _ _=>rfl,λ_ _ h=>h,λ_ _=>rfl,λ_ _=>rfl,rfl,rfl,rfl,rfl⟩
def ZB.drawn{g Z w tmps H L s}(m:ZB g Z w tmps H L s)(n):ZB g Z { w with drawn:=n } tmps H L s:=by
 have hg:ZaC g w g { w with drawn:=n }:=⟨ZH9 _,λ_ _=>rfl,λ_ _=>rfl,λb hb=>(m.st.fresh b hb).1,rfl,rfl,rfl,rfl⟩;exact m.grow hg
def ZlZ:∀{n ds},ZnA n ds=true->∀i l,ds[i]?=sO l->∀d∈l,d<n+i
 |n,[],_,i,l,hi=>by simp at hi
 |n,x::r,h,i,l,hi=>by
  simp only[ZnA,ZH1,List.all_eq_true,decide_eq_true_eq]at h;cases i with
  |zero=>simp only[List.getElem?_cons_zero,ZHQ]at hi;subst hi;exact λd hd=>h.1 d hd
  |succ i=>simp only[List.getElem?_cons_succ]at hi;intro d hd;have:=ZlZ h.2 i l hi d hd;omega
def Zp3{F:Fr P}{order os ks dk H L s}(h:DOA F ks dk os H L s []):ZA F (.code (.regD order os ks)::dk) H L s:=by
 intro k hk;cases hk with
 |code hc ht =>
 obtain⟨id,ops,rfl,hD⟩:=Zz8 hc;unfold ccD at hD;generalize ZyH F.an id=fk at hD;split at hD<;>(try(simp at hD;done));rename_i l ah kp al _ _;simp only at hD;split at hD<;>simp only[ZHQ,ZH2,reduceCtorEq]at hD;rename_i ad;obtain⟨rfl,rfl,rfl⟩:=hD;simp only[ZH1]at ad;obtain⟨⟨⟨au,ar⟩,ae⟩,ac⟩:=ad;obtain⟨aj,ap⟩:=Zse al;simp only[List.length_range]at aj;generalize af:ops.toList.map ZaO=ds at ar ac h;have az:I ds=ops.size:=by rw[<-af];simp
 generalize hT:List.zip l ds=T at ac h;have aw:List.length T=ops.size:=by rw[<-hT];simp[aj,az]
 have am:∀(i:Nat) (o:Oper),ops[i]?=sO o->∃d,cop P F.N ops o=sO d/\T[i]?=sO (d,ZaO o):=by intro i o ho;obtain⟨hi,-⟩:=Array.getElem?_eq_some_iff.1 ho;obtain⟨o',d,h1,h2,h3⟩:=ap i i (by simp[hi]);rw[ho]at h1;obtain rfl:=Option.some.inj h1;refine⟨d,h2,?_⟩;rw[<-hT,List.getElem?_zip_eq_some];exact⟨h3,by rw[<-af];simp[ho]⟩
 have ab:∀(i:Nat) (o:Oper),ops[i]?=sO o->Tab.deps T i=ZaO o:=λi o ho=>by obtain⟨d,_,h2⟩:=am i o ho;simp[Tab.deps,ZH6,h2]
 have a0:∀i,i<List.length T->∃o,ops[i]?=sO o/\cop P F.N ops o=sO (Tab.op T i):=λi hi=>by have u:i<ops.size:=ω;obtain⟨d,h1,h2⟩:=am i ops[i] (by simp[u]);exact⟨ops[i],by simp[u],by simp[Tab.op,ZH6,h2,h1]⟩
 have ao:∀i,i<List.length T->∀d∈Tab.deps T i,d<i:=λi hi d hd=>by have u:i<ops.size:=ω;have he:=ab i ops[i] (by simp[u]);have:=ZlZ ar i (ZaO ops[i]) (by rw[<-af];simp[u]) d (by rw[<-he];exact hd);omega
 have ai:∀i,i<List.length T->ds.getD i []=Tab.deps T i:=λi hi=>by have u:i<ops.size:=ω;rw[ab i ops[i] (by simp[u]),<-af];simp[ZH6,u]
 intro g Z w tmps hN m;refine F.T.back _ _ _ _ (.one stepR_region_draw) ?_;refine F.T.ext g w g { w with drawn:=w.drawn+1 } _ (ZwT g w) ?_;have a1:∀t,Region.schedule (P.follows .mixedOrders) ops t=Region.linearise .any ops t:=λt=>by simp[Region.schedule,au]
 rw[a1];have aq:∀j,(Array.replicate ops.size false).getD j false=false:=λj=>by simp only[Array.getD_eq_getD_getElem?,Array.getElem?_replicate];split<;>rfl
 have ak:=ZBK (ops:=ops) (T:=T) aw ab ao ops.size (w.tape w.drawn (.order F.b.fn id)) (Array.replicate ops.size false) ψ (ZwN _ _);have av:=h T (Zip ds []) (λi=>(F.an.get (id+1000000*(i+4))).getD []) _ [] ah _ _ H L ?_ ac ψ rfl ?_ ak;refine av ops _ _ (ZuL λi hi=>a0 i (ZBL ak i hi)) ht g Z _ tmps hN (m.drawn _);intro lf ax i hi hd a ha;refine ZsI lf ds (λi hi ag d hd=>?_) ds [] [] rfl rfl (λi hi=>by simp at hi) i ω (λd ay=>hd d (by rw[<-ai i hi];exact ay)) a ha;exact ax i ω ag d (by rw[<-ai i ω];exact hd);refine⟨λi hi ag=>?_,λr hr=>aq r,λi hi h1 h2=>?_,ψ,ψ,ψ,λt=>.inl rfl,ψ,λx=>.inl rfl,ψ⟩;rw[aq]at ag;simp at ag;exfalso;simp only[Zxy,List.all_eq_true,List.mem_range,List.contains_eq_mem,decide_eq_true_eq]at ae;exact h1 (ae i ω)
def Zje{F:Fr P}{kp dk o f os H L s B}(hg:Zw H o.guard=sO true){fx xs}(hk:o.k=.call fx xs){p q fd es ds}(hf:ZH H true fx=sO (q,.d fd))(ha:Yr H true xs=sO (p,es))(hds:KA es=sO ds)(hp:p)(hq:q){Ψ}(hc:KC P fd ds s Ψ)(hret:∀d u,Ψ (.ret d) u->Wo f s u L L B/\DOA F kp dk os (putE H o.dst (.d d)) L u (Wk f B))(hpan:∀d u,Ψ (.panic d) u->WB F [] [] d u):DOA F kp dk ((o,f)::os) H L s B:=by
 refine ZcF (λe u=>∃d,e=.d d/\Ψ (.ret d) u) (by rw[hk];rfl) (λH' L' os' i r=>?_) (λe s2 ⟨d,he,hd⟩=>by subst he;exact hret d s2 hd);have h1:ZJ H H' (Yg fx):=λt ht=>i t (by simp[ZC,hk,Yp,ht]);have h2:ZJ H H' (Zch xs):=λt ht=>i t (by simp[ZC,hk,Yp,ht]);have h3:ZJ H H' (ZbZ o.guard):=λt ht=>i t (by simp[ZC,ht]);exact Zdx (by rw[Wa h3];exact hg) hk (by rw[ZR h1];exact hf) (by rw[KQ h2];exact ha) hds hp hq hc (λd u hd=>r (.d d) u ⟨d,rfl,hd⟩) (λd u hd=>(hpan d u hd).weak _ _)
def ZhW{F:Fr P}{kp dk o f os H L s B}(hg:Zw H o.guard=sO true){fx xs}(hk:o.k=.call fx xs){p q u first caps es ds}(hf:ZH H true fx=sO (q,.d (.fn (.func u) first caps)))(ha:Yr H true xs=sO (p,es))(t:KA es=sO ds)(hp:p)(hq:q){Ψ}(hc:Zf P u (first++ds++caps) s Ψ)(r:∀d s',Ψ (.ret d) s'->Wo f s s' L L B/\DOA F kp dk os (putE H o.dst (.d d)) L s' (Wk f B))(i:∀d s',Ψ (.panic d) s'->WB F [] [] d s'):DOA F kp dk ((o,f)::os) H L s B :=
 Zje hg hk hf ha t hp hq hc.V r i
def Zwt{F:Fr P}{kp dk o f os H L s B}(hg:Zw H o.guard=sO true){x}(r:o.k=.panic x){p t d}(ha:ZH H true x=sO (p,.d (.iface t d)))(hp:p)(h:WB F [] [] (.iface t d) s):DOA F kp dk ((o,f)::os) H L s B:=by
 refine ZcF (λ_ _=>False) (by rw[r];rfl) (λH' L' os' i hcont=>?_) (λe s2 h=>h.elim);have h1:ZJ H H' (Yg x):=λt u=>i t (by simp[ZC,r,Yp,u]);have h3:ZJ H H' (ZbZ o.guard):=λt u=>i t (by simp[ZC,u]);exact ZrL (by rw[Wa h3];exact hg) r (by rw[ZR h1];exact ha) hp (h.weak _ _)
def Zfg{F:Fr P}{kp dk o f os H L s B}(hg:Zw H o.guard=sO false)(hk:WE o.k=false){e}(h:DOA F kp dk os (putE H o.dst (.when false e)) L s (Wk f B)):DOA F kp dk ((o,f)::os) H L s B:=by
 refine ZcF (λu s'=>u=.when false e/\s'=s) hk (λH' L' os' r i=>?_) (λe s2 ⟨h1,h2⟩=>by subst h1;subst h2;exact⟨Zd1,h⟩);have h3:ZJ H H' (ZbZ o.guard):=λt ht=>r t (by simp[ZC,ht]);exact Jv (by rw[Wa h3];exact hg) (i _ _ ⟨rfl,rfl⟩)
def Znf{F:Fr P}{kp dk o f os H L s B c}(hg:Zw H o.guard=sO c){fx xs}(hk:o.k=.call fx xs){p q fi first caps es ds}(hf:ZH H c fx=sO (q,.d (.fn (.func fi) first caps)))(ha:Yr H c xs=sO (p,es))(hds:KA es=sO ds){d}(hc:c=true->p/\q/\Zc P fi (first++ds++caps) d)(h:DOA F kp dk os (putE H o.dst (.when c (.d d))) L s (Wk f B)):DOA F kp dk ((o,f)::os) H L s B:=by
 refine ZcF (λe' s'=>e'=.when c (.d d)/\s'=s) (by rw[hk];rfl) (λH' L' os' i r=>?_) (λe s2 ⟨h1,h2⟩=>by subst h1;subst h2;exact⟨Zd1,h⟩);have h1:ZJ H H' (Yg fx):=λt u=>i t (by simp[ZC,hk,Yp,u]);have h2:ZJ H H' (Zch xs):=λt u=>i t (by simp[ZC,hk,Yp,u]);have h3:ZJ H H' (ZbZ o.guard):=λt u=>i t (by simp[ZC,u]);exact Zbd (by rw[Wa h3];exact hg) hk (by rw[ZR h1];exact hf) (by rw[KQ h2];exact ha) hds hc (r _ _ ⟨rfl,rfl⟩)
def Zf8{F:Fr P}{kp dk o f os H L s B}(hg:Zw H o.guard=sO true){u xs}(hk:o.k=.call u xs){p q t first caps es ds}(hf:ZH H true u=sO (q,.d (.fn (.func t) first caps)))(ha:Yr H true xs=sO (p,es))(r:KA es=sO ds)(hp:p)(hq:q){d}(hc:Zc P t (first++ds++caps) d)(h:DOA F kp dk os (putE H o.dst (.d d)) L s (Wk f B)):DOA F kp dk ((o,f)::os) H L s B :=
 ZhW hg hk hf ha r hp hq (hc s) (λd' s' ⟨i,h2⟩=>by simp only[Res.ret.injEq]at i;subst i;subst h2;exact⟨Zd1,h⟩) (λd' s' ⟨i,_⟩=>by simp at i)
end
section
variable {P:Program}
def ZbV(P:Program)(w:World)(size m:Nat)(x:Value)(news:List Value):Prop :=
 (∀w2,(Builtin.lenOf x).run P w2=.ok m w2)/\∀w2:World,w2.heap=w.heap->(Builtin.firstCells size m x).run P w2=.ok news.toArray w2
def Zjp{w t u ty e tu i}(ht:P.underlying t=sO (.slice e))(hu:P.underlying u=sO tu)(hnu:∀k,tu≠.int k)(hi:P.info? e=sO i){base n cap x}(hx:ZbV P w i.size 0 x [])(o:n<=cap):(Builtin.append_ #[t,u] ty #[.slice base n cap,x]).run P w=.ok (.slice base n cap) w:=by
 obtain⟨h1,r⟩:=hx;have r:=r w rfl;have hz:(match tu with|.int _=>true|_=>false)=false:=by cases tu<;>first|rfl|exact absurd rfl (hnu _)
 cases base with
 |none=>simp[Builtin.append_,run_underlying ht,run_underlying hu,hz,sizeOf,typeInfo,hi,h1,r,o]
 |some a=>simp[Builtin.append_,run_underlying ht,run_underlying hu,hz,sizeOf,typeInfo,hi,h1,r,o,storeCells]
def ZrX{w t u ty e tu i}(ht:P.underlying t=sO (.slice e))(hu:P.underlying u=sO tu)(hnu:∀k,tu≠.int k)(hi:P.info? e=sO i){g n cap m x news}(hx:ZbV P w i.size m x news){cur T}(hg:w.heap[g]?=sO (.cells cur T (0,0)))(h1:∀u∈news,u.oneCell'=true)(hroom:n+m<=cap)(hfit:n*i.size+I news<=cur.size):
  (Builtin.append_ #[t,u] ty #[.slice (sO ⟨g,0,nO⟩) n cap,x]).run P w =
   .ok (.slice (sO ⟨g,0,nO⟩) (n+m) cap) (w.setRow g (cur.toList.take (n*i.size)++news++cur.toList.drop (n*i.size+I news)).toArray):=by
 obtain⟨ab,o⟩:=hx;have o:=o w rfl;have hz:(match tu with|.int _=>true|_=>false)=false:=by cases tu<;>first|rfl|exact absurd rfl (hnu _)
 have r:=run_storeCells_at P g (n*i.size) T news 0 cur w hg (by simpa using hfit) h1;simp only[Nat.add_zero]at r;simp[Builtin.append_,run_underlying ht,run_underlying hu,hz,sizeOf,typeInfo,hi,ab,o,hroom,Addr.add_lit,r]
def ZmE{w t u ty e tu i z}(ht:P.underlying t=sO (.slice e))(hu:P.underlying u=sO tu)(hnu:∀k,tu≠.int k)(hi:P.info? e=sO i)(hz':i.zero=sO z){base n cap m x olds news}(hx:ZbV P w i.size m x news)(ho:∀w2:World,w2.heap=w.heap->(Builtin.firstCells i.size n (.slice base n cap)).run P w2=.ok olds.toArray w2)(hg:cap<n+m)(h63:((n+m:Nat):Int)<=9223372036854775807)(hfit:(n+m)*i.bytes<=140737488355328):
  (Builtin.append_ #[t,u] ty #[.slice base n cap,x]).run P w =
   .ok (.slice (sO ⟨w.heap.size,0,nO⟩) (n+m) (grownCap w (n+m) cap e))
    (w.drew.alloc (.cells (olds++news++(Builtin.zeroCells z.cells (grownCap w (n+m) cap e-(n+m))).toList).toArray e)):=by
 obtain⟨ac,o⟩:=hx;have o:=o w.drew rfl;have ho:=ho w.drew rfl;have hz:(match tu with|.int _=>true|_=>false)=false:=by cases tu<;>first|rfl|exact absurd rfl (hnu _)
 have hn:¬(n+m<=cap):=ω;have ab:¬(9223372036854775807<((n:Int)+(m:Int))):=ω;have hf:=growslice_fits hg hfit;have r:¬(281474976710656<Builtin.nextslicecap (n+m) cap*i.bytes):=ω;simp[Builtin.append_,run_underlying ht,run_underlying hu,hz,sizeOf,typeInfo,zeroValue,hi,hz',ac,hn,ab,r,Question.forced,o,ho,newRow,grownCap]
 congr 2
 apply Array.ext';simp[ZIh]
end
structure Ka(g:G)(w:World)(sz n:Nat)(vals:List Value)(row:Nat->List D):Prop where
 len:I vals=n*sz
 rlen:∀i,i<n->(row i).length=sz
 rep:∀(i j:Nat) (v:Value) (d:D),i<n->j<sz->vals[i*sz+j]?=some v->(row i)[j]?=some d->Rep g w v d
 one:∀v∈vals,v.one1=true
def Yd(n:Nat)(row row2:Nat->List D):Nat->List D:=λi=>if i<n then row i else row2 (i-n)
def Ka.append{sz n m:Nat}{a b:List Value}{row row2:Nat->List D}(r:Ka g w sz n a row)(t:Ka g w sz m b row2):Ka g w sz (n+m) (a++b) (Yd n row row2):={
 len:=by rw[ZHX,r.len,t.len,ZIp]
 rlen i hi:=by unfold Yd;split;rename_i h;exact r.rlen i h;exact t.rlen (i-n) ω
 rep i j v d hi hj hv hd:=by
  unfold Yd at hd;split at hd;rename_i h;have:i*sz+j<I a:=by rw[r.len];have:=ZIi sz (show i+1<=n from h);rw[ZIp,Nat.one_mul]at this;omega
  rw[ZIm this]at hv;exact r.rep i j v d h hj hv hd;rename_i h;have e:i*sz+j-I a=(i-n)*sz+j:=by rw[r.len,Nat.sub_mul];have:=ZIi sz (show n<=i by omega);omega
  have o:I a<=i*sz+j:=by rw[r.len];have:=ZIi sz (show n<=i by omega);omega
  rw[ZIw o,e]at hv;exact t.rep (i-n) j v d ω hj hv hd
 one v hv:=by
  rcases List.mem_append.1 hv with h|h;exact r.one v h;exact t.one v h }
def Ka.mono{g o w w' sz n a row}(h:Ka g w sz n a row)(e:Ext g w o w'):Ka o w' sz n a row :=
 ⟨h.len,h.rlen,λi j v d t u hv r=>(h.rep i j v d t u hv r).mono e,h.one⟩
def Zbk{b o cs T fr}(h:w.heap[b]?=sO (.cells cs T fr)):w.cell? ⟨b,o,nO⟩=cs[o]?:=by
 unfold World.cell?;simp[h]
section
variable {P:Program}
def ZiA{g w v t n sz row}(h:Rep g w v (.sl t n sz row))(hsz:0<sz):
  ∃vals,Ka g w sz n vals row/\ZbV P w sz n v vals:=by
 cases h with
 |sl0 a t s row ht =>refine⟨[],⟨ψ,λi hi=>by omega,λi j v d hi=>by omega,ψ⟩,λw2=>by simp[Builtin.lenOf],λw2 _=>by cases a<;>simp[Builtin.firstCells,loadCells,loadCellsFrom]⟩
 |sl b o n cap s row t f hl hc hp hr one ht hcap hb =>
  let vals:=(ZH5 (n*sz)).map λk=>f (k / sz) (k % sz);have hk:∀k,k<n*sz->k / sz<n/\k % sz<sz:=λk hk=>⟨(Nat.div_lt_iff_lt_mul hsz).2 hk,Nat.mod_lt _ hsz⟩;have r:∀k v,vals[k]?=sO v->k<n*sz/\v=f (k / sz) (k % sz):=λk v hv=>by simp only[vals,List.getElem?_map,ZH8]at hv;obtain⟨k',h1,h2⟩:=hv;obtain⟨h3,h4⟩:=List.getElem?_eq_some_iff.1 h1;simp only[List.getElem_range]at h4;subst h4;exact⟨by simpa using h3,h2.symm⟩
  refine⟨vals,⟨by simp[vals],hl,λi j v d hi hj hv hd=>?_,λv hv=>?_⟩,λw2=>by simp[Builtin.lenOf],λw2 ac=>?_⟩;obtain⟨_,rfl⟩:=r _ _ hv;have e1:(i*sz+j) / sz=i:=by rw[Nat.mul_comm,Nat.mul_add_div hsz,Nat.div_eq_of_lt hj,Nat.add_zero]
  have e2:(i*sz+j) % sz=j:=by rw[Nat.mul_comm,Nat.mul_add_mod,Nat.mod_eq_of_lt hj]
  rw[e1,e2];exact hr i j d hi hd;obtain⟨k,ab,rfl⟩:=ZIc hv;obtain⟨h1,h2⟩:=r k _ (ZIn ab);rw[h2];exact one _ _ (hk k h1).1 (hk k h1).2;refine run_firstCells_some (P:=P) w2 sz n ⟨b,o,nO⟩ n cap vals (by simp[vals]) λk v hv=>?_;obtain⟨h1,h2⟩:=r k v hv;have u:(⟨b,o,nO⟩:Addr).add k=⟨b,o+k,nO⟩:=Kz b o k;rw[u];have h3:=hc (k / sz) (k % sz) (hk k h1).1 (hk k h1).2;have e:o+k / sz*sz+k % sz=o+k:=by rw[Nat.add_assoc,Nat.mul_comm,Nat.div_add_mod]
  rw[e]at h3;rw[h2,<-h3];unfold World.cell?;simp only[ac]
def ZoI{g w sz n cap b vals row}(h:Ka g w sz n vals row){t T}(hb:w.heap[b]?=sO (.cells t T (0,0)))(ht:t.toList.take (n*sz)=vals)(hn:n<=cap)(hcap:cap*sz<=t.size)(hp:g.prot b=n*sz)(hbig:cap<=big):Rep g w (.slice (sO ⟨b,0,nO⟩) n cap) (.sl (.tip b) n sz row):=by
 have r:∀i j,i<n->j<sz->i*sz+j<n*sz:=λi j u hj=>by have:=ZIi sz (show i+1<=n from u);rw[ZIp,Nat.one_mul]at this;omega
 have hle:n*sz<=t.size:=ZIy (ZIi sz hn) hcap;have o:∀i j,i<n->j<sz->t[i*sz+j]?=sO (t.getD (i*sz+j) undef)/\vals[i*sz+j]?=sO (t.getD (i*sz+j) undef):=λi j u hj=>by
  have h1:=r i j u hj;have h2:i*sz+j<t.size:=ω;have e:t[i*sz+j]?=sO (t.getD (i*sz+j) undef):=by simp[Array.getD,h2]
  refine⟨e,?_⟩;rw[<-ht,ZIv,if_pos h1,Array.getElem?_toList];exact e
 refine .sl b 0 n cap sz row (.tip b) (λi j=>t.getD (i*sz+j) undef) h.rlen (λi j u hj=>?_) (λi j u hj=>?_) (λi j d u hd=>?_) (λi j u hj=>?_) ⟨rfl,rfl,T,t.size,?_,hcap⟩ hn hbig;rw[Zbk hb,Nat.zero_add];exact(o i j u hj).1;rw[hp,Nat.zero_add];exact r i j u hj;have hj:j<sz:=by rw[<-h.rlen i u];exact(List.getElem?_eq_some_iff.1 hd).1
 exact h.rep i j _ d u hj (o i j u hj).2 hd;exact h.one _ (List.mem_of_getElem? (o i j u hj).2);simp[hdr,hb]
end
def St.own(s:St)(t:Tok)(k:Nat):St :=
 match t with
 |.tip b=>s.upd b (.tip k)
 |_=>s
def Tok.okIn(t:Tok)(s:St):Prop :=
 match t with
 |.tip b=>s b=Option.none
 |.full=>True
 |.none=>False
def Yj{s}{t:Tok}{k:Nat}(h:t.okIn s):s.sub (s.own t k):=by
 intro b o i;cases t with
 |tip c =>simp only[St.own,St.upd];by_cases r:b=c;subst r;simp only[Tok.okIn]at h;rw[h]at i;simp at i;simp only[r,if_false];exact i
 |_=>exact i
def Ym.upd(h:Ym g s w){b:Nat}{o:JW}(t:WO g w b o)(r:¬g.kept b):Ym g (s.upd b o) w:={
 obj c x hx:=by simp only[St.upd]at hx;by_cases i:c=b;simp only[i,if_true,ZHQ]at hx;subst hx;rw[i];exact t;simp only[i,if_false]at hx;exact h.obj c x hx
 kept c x hx:=by simp only[St.upd]at hx;by_cases i:c=b;rw[i];exact r;simp only[i,if_false]at hx;exact h.kept c x hx
 fresh:=h.fresh
 tabs:=h.tabs }
def Zde(g:G)(b k:Nat):G:={ g with prot:=λc=>if c=b then k else g.prot c }
def ZyP{c:Array Value}(T:TypeId){k:Nat}(i:∀b,w.heap.size<=b->g.prot b=0/\¬g.kept b):ZaC g w (Zde g w.heap.size k) (w.drew.alloc (.cells c T)):={
 size:=by simp
 old b hb:=(by first|exact heap_alloc_old w.drew _ b hb|exact heap_alloc_old w.drew _ hb)
 prot b hb:=by simp[Zde,show ¬b=w.heap.size by omega]
 fresh b hb:=by
  have:(w.drew.alloc (.cells c T)).heap.size=w.heap.size+1:=by simp
  rw[this]at hb;simp only[Zde,show ¬b=w.heap.size by omega,if_false];exact(i b ω).1
 kept:=rfl
 os:=rfl
 output:=rfl
 tape:=rfl }
def Rep.slRow{g w v t n sz row row'}(h:Rep g w v (.sl t n sz row))(u:∀i,i<n->row' i=row i):Rep g w v (.sl t n sz row'):=by
 cases h with
 |sl0 a t s row ht=>exact .sl0 a t sz row' ht
 |sl b o n cap s row t f hl hc hp hrep one ht hcap hb =>exact .sl b o n cap sz row' t f (λi r=>by rw[u i r];exact hl i r) hc hp (λi j d r hd=>hrep i j d r (by rw[<-u i r];exact hd)) one ht hcap hb
section
variable {P:Program}
def ZuG{sz k:Nat}{u rest:List Value}{T:TypeId}{cap:Nat}(hs:Ym g s w)(hr:Ka g w sz k u row)(hn:k<=cap)(hrest:I u+I rest=cap*sz)(hbig:cap<=big):
  let w':=w.drew.alloc (.cells (u++rest).toArray T);let g':=Zde g w.heap.size (k*sz)
  ZaC g w g' w'/\Ym g' (s.own (.tip w.heap.size) (k*sz)) w'/\(Tok.tip w.heap.size).okIn s/\Rep g' w' (.slice (sO ⟨w.heap.size,0,nO⟩) k cap) (.sl (.tip w.heap.size) k sz row):=by
 intro w' g';have hg:ZaC g w g' w':=ZyP T hs.fresh;have i:w'.heap[w.heap.size]?=sO (.cells (u++rest).toArray T (0,0)):=heap_alloc_new w.drew _;have hp:g'.prot w.heap.size=k*sz:=by simp[g',Zde]
 have r:k*sz<=(u++rest).toArray.size:=by have:=ZIi sz hn;simp only[List.size_toArray,ZHX];omega
 refine⟨hg,(hs.grow hg).upd ⟨hp,_,T,i,r⟩ (λh=>(hs.fresh _ (ZH9 _)).2 h),?_,?_⟩
 .simp only[Tok.okIn];cases t:s w.heap.size with
  |none=>rfl
  |some o=>have:=(hs.obj _ o t).lt;omega
 refine ZoI (hr.mono (hg.ext hs.fresh)) i ?_ hn ?_ hp hbig;rw[<-hr.len];simp;simp only[List.size_toArray,ZHX];omega
def ZwC{g w s t sz n m v1 v2 row row2 tT u ty e tu i z}(ht:P.underlying tT=sO (.slice e))(hu:P.underlying u=sO tu)(hnu:∀k,tu≠.int k)(hi:P.info? e=sO i)(hz:i.zero=sO z)(hsz:i.size=sz)(hzc:z.cells.size=sz)(h0:0<sz)(hs:Ym g (s.own t (n*sz)) w)(hok:t.okIn s)(h1:Rep g w v1 (.sl t n sz row)){news}(h2:Ka g w sz m news row2)(h3:ZbV P w sz m v2 news)(hb:(n+m)*i.bytes<=140737488355328)(hbig:n+m<=big):
  ∃v' w' g' t',(Builtin.append_ #[tT,u] ty #[v1,v2]).run P w=.ok v' w'/\Ext g w g' w'/\Ym g' (s.own t' ((n+m)*sz)) w'/\t'.okIn s/\Rep g' w' v' (.sl t' (n+m) sz (Yd n row row2)) /\
   (∀b,b<w.heap.size->t≠.tip b->w'.heap[b]?=w.heap[b]?/\g'.prot b=g.prot b)/\∀b,t'=.tip b->t=.tip b\/w.heap.size<=b:=by
 subst hsz;have ah:Ym g s w:=hs.sub (Yj hok);obtain⟨an,bc,ho1,aw⟩:=ZiA (P:=P) h1 h0;have am:=bc.append h2;have ai:∀ac cap,v1=.slice ac n cap->cap<n+m->∃v' w' g' t',(Builtin.append_ #[tT,u] ty #[v1,v2]).run P w=.ok v' w'/\Ext g w g' w'/\Ym g' (s.own t' ((n+m)*i.size)) w'/\t'.okIn s /\
   Rep g' w' v' (.sl t' (n+m) i.size (Yd n row row2))/\(∀b,b<w.heap.size->t≠.tip b->w'.heap[b]?=w.heap[b]?/\g'.prot b=g.prot b)/\∀b,t'=.tip b->t=.tip b\/w.heap.size<=b:=by
  intro ac cap hv ba;subst hv;have ag:=ZmE (ty:=ty) ht hu hnu hi hz h3 aw ba (by simp only[big]at hbig;omega) hb;have a6:=grownCap_ge w (n+m) cap e;have aq:=grownCap_le_maxLen w (n+m) cap e (by simp only[big]at hbig;simp only[maxLen];omega);have hn:=ZuG (T:=e) (rest:=(Builtin.zeroCells z.cells (grownCap w (n+m) cap e-(n+m))).toList) ah am a6 (by
   simp only[Array.length_toList,size_zeroCells,hzc,am.len,<-ZIp];congr 1;omega) (by simp only[maxLen]at aq;simp only[big];omega)
  obtain⟨a1,a2,a3,a4⟩:=hn;exact⟨_,_,_,_,ag,a1.ext ah.fresh,a2,a3,a4,λb hb _=>⟨a1.old b hb,a1.prot b hb⟩,λb hb=>.inr (by simp only[Tok.tip.injEq]at hb;omega)⟩
 have ao:∀ac cap,v1=.slice ac n cap->m=0->n<=cap->∃v' w' g' t',(Builtin.append_ #[tT,u] ty #[v1,v2]).run P w=.ok v' w'/\Ext g w g' w'/\Ym g' (s.own t' ((n+m)*i.size)) w'/\t'.okIn s /\
   Rep g' w' v' (.sl t' (n+m) i.size (Yd n row row2))/\(∀b,b<w.heap.size->t≠.tip b->w'.heap[b]?=w.heap[b]?/\g'.prot b=g.prot b)/\∀b,t'=.tip b->t=.tip b\/w.heap.size<=b:=by
  intro ac cap hv hm aq;subst hv;subst hm;have bb:news=[]:=List.eq_nil_of_length_eq_zero (by simpa using h2.len);subst bb;exact⟨_,_,g,t,Zjp (ty:=ty) ht hu hnu hi h3 aq,Ext.refl g w,hs,hok,h1.slRow λi hi=>by simp only[Yd,if_pos (show i<n from hi)],λ_ _ _=>⟨rfl,rfl⟩,λb hb=>.inl hb⟩
 cases h1 with
 |sl0 a t s row htt =>by_cases hm:m=0;exact ao a 0 rfl hm (ZH9 _);exact ai a 0 rfl ω
 |sl b o n cap sz row t f hl hc hp hr one htok hcap hb' =>
  have a7:=ai (sO ⟨b,o,nO⟩) cap rfl;have be:=ao (sO ⟨b,o,nO⟩) cap rfl;by_cases hm:m=0;exact be hm hcap;by_cases ab:n+m<=cap;case neg=>exact a7 ω
  cases t with
  |none=>exact hok.elim
  |full=>simp only[ZkY]at htok;omega
  |tip tb =>
   obtain⟨rfl,rfl,T0,m0,hh,hm0⟩:=htok;have ax:=hs.obj b (.tip (n*i.size)) (by simp[St.own,St.upd]);have ae:=hs.kept b (.tip (n*i.size)) (by simp[St.own,St.upd]);obtain⟨a0,r,T,ad,hb2⟩:=ax;have ap:cap*i.size<=r.size:=by simp only[hdr,ad,ZHQ,ZH2]at hh;omega
   have av:n*i.size+I news<=r.size:=by rw[h2.len,<-ZIp];exact ZIy (ZIi _ ab) ap
   have ag:=ZrX (ty:=ty) ht hu hnu hi h3 ad (λv hv=>by rw[ZdJ];exact h2.one v hv) ab av;have ak:∀k v,(r.toList.take (n*i.size))[k]?=sO v->w.cell? ((⟨b,0,nO⟩:Addr).add k)=sO v:=λk v hv=>by rw[Kz,Zbk ad,Nat.zero_add];rw[ZIv]at hv;split at hv;simpa using hv;simp at hv
   have ay:an=r.toList.take (n*i.size):=by have h:=run_firstCells_some (P:=P) w i.size n ⟨b,0,nO⟩ n cap (r.toList.take (n*i.size)) (by simp;omega) ak;rw[aw w rfl]at h;simpa using h
   generalize au:r.toList.take (n*i.size)++news++r.toList.drop (n*i.size+I news)=nw at ag;have ar:I nw=r.size:=by rw[<-au];simp only[ZHX,ZIa,ZIq,Array.length_toList];omega
   have al:=setRow_heap w b r nw.toArray T (0,0) ad;have aj:∀c,c≠b->(w.setRow b nw.toArray).heap[c]?=w.heap[c]?:=λc hc=>setRow_other w b c _ hc;have a5:(w.setRow b nw.toArray).heap.size=w.heap.size:=by simp[World.setRow]
   have a8:n*i.size<=(n+m)*i.size:=ZIi _ ω;have af:Ext g w (Zde g b ((n+m)*i.size)) (w.setRow b nw.toArray):=by
    refine⟨ω,λc=>?_,λc o ho=>?_,λc x hx=>?_,λc hc=>aj c (λh=>ae (h▸hc)),λc hc=>?_,rfl,rfl,rfl,rfl⟩;simp only[Zde];split;rename_i h;rw[h,a0];exact a8;exact ZH9 _;by_cases hc:c=b;subst hc;rw[Zbk al,Zbk ad];rw[a0]at ho;have:o<(r.toList.take (n*i.size)).length:=by simp;omega
    rw[List.getElem?_toArray,<-au,ZIh,ZIm this,ZIv,if_pos ho];simp;exact Zae (aj c hc);by_cases hc:c=b;subst hc;simp only[hdr,ad]at hx;simp only[hdr,al,List.size_toArray,ar];exact hx;rw[Zb0 (aj c hc)];exact hx;simp only[Zde];split;rename_i h;exact absurd hc (h▸ae);rfl
   have az:(Zde g b ((n+m)*i.size)).prot b=(n+m)*i.size:=by simp[Zde]
   refine⟨_,_,Zde g b ((n+m)*i.size),.tip b,ag,af,?_,hok,?_,λc _ hc=>?_,λc hc=>.inl hc⟩;refine⟨λc x hx=>?_,λc x hx=>?_,λc hc=>?_,λn cs hc=>(ah.tabs n cs hc).mono af⟩;by_cases hc:c=b;subst hc;simp only[St.own,St.upd,if_true,ZHQ]at hx;subst hx;refine⟨az,_,T,al,?_⟩;simp only[List.size_toArray,ar];exact ZIy (ZIi _ ab) ap;simp only[St.own,St.upd,hc,if_false]at hx;exact(ah.obj c x hx).mono af (aj c hc) (by simp[Zde,hc]);by_cases hc:c=b;rw[hc];exact ae;simp only[St.own,St.upd,hc,if_false]at hx;exact ah.kept c x hx;rw[a5]at hc;have hbl:b<w.heap.size:=(Array.getElem?_eq_some_iff.1 ad).1;simp only[Zde,show ¬c=b by omega,if_false];exact ah.fresh c hc;refine ZoI (am.mono af) al ?_ ab (by simp only[List.size_toArray,ar];exact ap) az hb';have a9:(an++news).length=(n+m)*i.size:=am.len;rw[<-au,ay,<-a9,ay];exact List.take_left;have:c≠b:=λh=>hc (by rw[h]);exact⟨aj c this,by simp[Zde,this]⟩
end
end Go.DL
namespace Go.DL
open Go Go.Lib
variable [Zo5]
def Zah(s:Nat):D->Option (Nat×(Nat->List D))
 |.nilsl=>sO (0,λ_=>[])
 |.sl _ m s' row=>if s'=s then sO (m,row) else nO
 |.str l=>if s=1 then sO (I l,λi=>[.int .u8 ((l.getD i 0).toNat:Int)]) else nO
 |_=>nO
def Zfl(s:Nat):D->Option (Tok×Nat×(Nat->List D))
 |.nilsl=>sO (.full,0,λ_=>[])
 |.sl t n s' row=>if s'=s then sO (t,n,row) else nO
 |_=>nO
def ZkZ{g w v d sz n t row}(h:Rep g w v d)(i:Zfl sz d=sO (t,n,row)):Rep g w v (.sl t n sz row):=by
 cases d<;>simp only[Zfl,reduceCtorEq]at i;simp only[ZHQ,ZH2]at i;obtain⟨rfl,rfl,rfl⟩:=i;cases h;exact .sl0 _ _ _ _ ψ;split at i<;>simp only[ZHQ,ZH2,reduceCtorEq]at i;rename_i o;obtain⟨rfl,rfl,rfl⟩:=i;subst o;exact h
section
variable {P:Program}
def ZcH{op e s b z x y}(h:ck P op=sO (.append e s b z x y)) :
  ∃x' y' args ats t1 t2 tu,op=.call ⟨.builtin .append,args,ats⟩/\args.toList=[x',y']/\ats[0]?=sO t1/\ats[1]?=sO t2/\P.underlying t1=sO (.slice e)/\P.underlying t2=sO tu/\(∀k,tu≠.int k) /\
   ZX P e=sO s/\ZaL P e=sO z/\b=P.bytesOf e/\Z6 x'=sO x/\Z6 y'=sO y/\0<s/\I z=s:=by
 unfold ck at h;split at h;simp at h;split at h<;>(try(simp at h;done));all_goals (try(repeat' (split at h<;>(try(simp at h;done)))))
 all_goals
  simp only[ZHQ,K.append.injEq]at h;obtain⟨rfl,rfl,rfl,rfl,rfl,rfl⟩:=h
 rename_i c _ _ o _ _ _ e' x' y' h0 r _ _ _ _ s' z' l' c' u ad ab ac t2 el h1 i;obtain⟨t1,g1,g2⟩:=Option.bind_eq_some_iff.1 h0;obtain⟨t3,g3,g4⟩:=Option.bind_eq_some_iff.1 h1;simp only[ZH1,decide_eq_true_eq]at i;obtain⟨t,args,ats⟩:=c;simp only at o;subst o;exact⟨x',y',args,ats,t1,t3,_,rfl,r,g1,g3,g2,g4,λk h=>by simp at h,u,ad,rfl,ab,ac,i.1,i.2⟩;rename_i c _ _ o _ _ _ e' x' y' h0 r _ _ _ _ s' z' l' c' u ad ab ac t2 h1 i;obtain⟨t1,g1,g2⟩:=Option.bind_eq_some_iff.1 h0;obtain⟨t3,g3,g4⟩:=Option.bind_eq_some_iff.1 h1;simp only[ZH1,decide_eq_true_eq]at i;obtain⟨t,args,ats⟩:=c;simp only at o;subst o;exact⟨x',y',args,ats,t1,t3,_,rfl,r,g1,g3,g2,g4,λk h=>by simp at h,u,ad,rfl,ab,ac,i.1,i.2⟩
def ZmL{g w v d sz m row}(h:Rep g w v d)(u:Zah sz d=sO (m,row))(h0:0<sz):∃news,Ka g w sz m news row/\ZbV P w sz m v news:=by
 cases d with
 |nilsl =>simp only[Zah,ZHQ,ZH2]at u;obtain⟨rfl,rfl⟩:=u;cases h;exact⟨[],⟨ψ,λi hi=>by omega,λi j v d hi=>by omega,ψ⟩,λw2=>by simp[Builtin.lenOf],λw2 _=>by simp[Builtin.firstCells]⟩
 |sl t n s' row' =>simp only[Zah]at u;split at u<;>simp only[ZHQ,ZH2,reduceCtorEq]at u;rename_i hs;obtain⟨rfl,rfl⟩:=u;subst hs;exact ZiA h h0
 |str l =>
  simp only[Zah]at u;split at u<;>simp only[ZHQ,ZH2,reduceCtorEq]at u;rename_i hs;obtain⟨rfl,rfl⟩:=u;subst hs;cases h with
  |str s _ hl hb =>
   subst hl;have o:s.size=I s.data.toList:=by rw[Array.length_toList];rfl
   refine⟨strCells s,⟨by simp[strCells],λi hi=>rfl,λi j v d hi hj hv hd=>?_,λv hv=>by rw[<-ZdJ];exact strCells_oneCell s v hv⟩,λw2=>by simp only[Builtin.lenOf,Sem.run_pure,o],λw2 _=>?_⟩;obtain rfl:j=0:=ω;simp only[Nat.mul_one,Nat.add_zero,strCells,List.getElem?_map,ZH8]at hv;obtain⟨b,r,rfl⟩:=hv;simp only[List.getElem?_cons_zero,ZHQ]at hd;subst hd;have:s.data.toList.getD i 0=b:=by simp only[ZH6,r,ZIr]
   rw[this];exact .int .u8 _ (Zsz b);rw[<-o];exact run_firstCells_string w2 1 s
 |_=>simp[Zah]at u
def Zp0{F:Fr P}{kp dk o os H L s}(hg:Zw H o.guard=sO true){e sz b z x y}(hk:o.k=.append e sz b z x y)
  {p q t n m row row2 dy dx} (hx:ZH H true x=sO (p,.d dx)) (hsl:Zfl sz dx=sO (t,n,row)) (hy:ZH H true y=sO (q,.d dy)) (hp:p) (hq:q) (hel:Zah sz dy=sO (m,row2)) (hok:t.okIn s)
  (hb:(n+m)*b<=140737488355328) (hbig:n+m<=big) (h:∀t':Tok,t'.okIn s->DO F kp dk os (putE H o.dst (.d (.sl t' (n+m) sz (Yd n row row2)))) L (s.own t' ((n+m)*sz))) :
  DO F kp dk (o::os) H L (s.own t (n*sz)):=by
 refine WN λoo g Z w tmps bh i r k ay ab aq ai hd hN M hr ar=>?_;have hw:=Yo M aq hg;have aw:=Yu ab (by rw[hk];rfl);rw[hk]at ab;obtain⟨x',y',ag,ak,t1,t2,tu,az,u,al,am,ba,bb,ax,a9,hz,ao,bc,be,h0,hzl⟩:=ZcH ab;subst ao;have a0:Rep g w _ (.sl t n sz row):=ZkZ (Yh M bc rfl hx hp F.ds) hsl;have a8:Rep g w _ _:=Yh M be rfl hy hq F.ds;obtain⟨zv,hz1,bf,hz3,ie,ac,bg⟩:=JC (g:=g) (w:=w) hz;have ae:ie.size=sz:=by simpa[ZX,ac]using a9
 have af:zv.cells.size=sz:=by have:=bf.len;simp at this;omega
 have ap:P.bytesOf e=ie.bytes:=by simp[Program.bytesOf,ac]
 rw[ap]at hb;obtain⟨news,au,av⟩:=ZmL (P:=P) a8 hel h0;obtain⟨v',w',g',t',a1,a2,a3,a4,a5,a6,a7⟩:=ZwC (ty:=oo.type) ba bb ax ac bg ae af h0 M.st hok a0 au av hb hbig;have ad:∀l cs,Zq L l=sO cs->t≠.tip (Z l):=λl cs hl ht=>by have:=M.locSt l cs hl;rw[ht]at this;simp[St.own,St.upd]at this
 have aj:∀l cs,Zq L l=sO cs->s (Z l)=nO:=λl cs hl=>by
  cases hx:s (Z l) with
  |none=>rfl
  |some o=>have:=Yj (k:=n*sz) hok _ _ hx;rw[M.locSt l cs hl]at this;simp at this
 have mm:ZB g' Z w' tmps H L (s.own t' ((n+m)*sz)):=by
  refine⟨a3,λl cs hl=>(M.loc l cs hl).mono a2 (a6 (Z l) (M.loc l cs hl).lt (ad l cs hl)).1 (a6 (Z l) (M.loc l cs hl).lt (ad l cs hl)).2,λl cs hl=>by rw[a2.keptEq];exact M.locKept l cs hl,λl cs hl=>?_,M.inj,λt e he=>(M.env t e he).mono a2⟩;cases t' with
  |tip b =>
   have:¬Z l=b:=λhb=>by rcases a7 b rfl with h1|h1;exact ad l cs hl (by rw[hb];exact h1);have:=(M.loc l cs hl).lt;omega
   simp only[St.own,St.upd,this,if_false];exact aj l cs hl
  |_=>exact aj l cs hl
 refine YS hN ay ai hd hw aw (v:=v') (w':=w') (e:=.d (.sl t' (n+m) sz (Yd n row row2))) ?_ a2 mm a5 (h t' a4 bh r k hr ar);have an:ag = #[x',y']:=by apply Array.ext';simpa using u
 have ah:∀vs,Builtin.append_ ak oo.type vs=Builtin.append_ #[t1,t2] oo.type vs:=λvs=>by unfold Builtin.append_;simp[al,am]
 unfold execOp;simp only[az,an,resolve,invoke,builtin,Sem.run_bind,Sem.run_pure,Result.andThen_ok,List.map_toArray,ZIo,List.map_nil,ah,a1]
def Zne{F:Fr P}{kp dk o fl os H L s B}(hg:Zw H o.guard=sO true){e sz b z x y}(hk:o.k=.append e sz b z x y)
  {p q t n m row row2 dy dx} (hx:ZH H true x=sO (p,.d dx)) (hsl:Zfl sz dx=sO (t,n,row)) (hy:ZH H true y=sO (q,.d dy)) (hp:p) (hq:q) (hel:Zah sz dy=sO (m,row2)) (hok:t.okIn s)
  (hb:(n+m)*b<=140737488355328) (hbig:n+m<=big) (h:∀t':Tok,t'.okIn s->Wo fl (s.own t (n*sz)) (s.own t' ((n+m)*sz)) L L B/\DOA F kp dk os (putE H o.dst (.d (.sl t' (n+m) sz (Yd n row row2)))) L (s.own t' ((n+m)*sz)) (Wk fl B)) :
  DOA F kp dk ((o,fl)::os) H L (s.own t (n*sz)) B:=by
 refine ZcF (λe' s'=>∃t':Tok,t'.okIn s/\e'=.d (.sl t' (n+m) sz (Yd n row row2))/\s'=s.own t' ((n+m)*sz)) (by rw[hk];rfl) (λH' L' os' i r=>?_) (λe2 s2 ⟨t',h1,h2,h3⟩=>by subst h2;subst h3;exact h t' h1);have h1:ZJ H H' (Yg x):=λt ht=>i t (by simp[ZC,hk,Yp,ht]);have h2:ZJ H H' (Yg y):=λt ht=>i t (by simp[ZC,hk,Yp,ht]);have h3:ZJ H H' (ZbZ o.guard):=λt ht=>i t (by simp[ZC,ht]);exact Zp0 (by rw[Wa h3];exact hg) hk (by rw[ZR h1];exact hx) hsl (by rw[ZR h2];exact hy) hp hq hel hok hb hbig λt' u=>r _ _ ⟨t',u,rfl,rfl⟩
end
end Go.DL
namespace Go.DL
open Go
variable [Zo5]
variable {kp:Option (List Nat)}{L:Loc}{H:Env}{s:St}{w:World}{os:List DOp}{ds:List D}{B:List (Nat × Rd)}{dst:Option Nat}{tmps:Array Value}{g:G}{Φ:Res->St->Prop}{Z:Nat->Nat}{xs:List Opd}{side:Prop}{row:Nat->List D}
def Zwm(os:List DOp):List (DOp×List Nat):=os.map λo=>(o,[])
section
variable {P:Program}
def Kl(F:Fr P)(kp:Option (List Nat))(dk:List QU)(os:List DOp)(H:Env)(L:Loc)(s:St):Prop:=∀B,DOA F kp dk (Zwm os) H L s B
def Zvj{F:Fr P}{i os ks dk H L s}(h:Kl F ks dk os H L s):ZA F (.code (.regD i (Zwm os) ks)::dk) H L s:=Zp3 (h [])
def Ye{F:Fr P}{ks dk}:∀{os H L s},
  ZjF (λH L s=>ZA F dk (Wh H ks) (Zce (Wh H ks) L) s) (λos H L s=>Kl F (sO ks) dk os H L s) os H L s->Kl F (sO ks) dk os H L s
 | [],H,L,s,h=>λB=>Zuw h
 |o::os,H,L,s,h=>by intro B;simp only[ZjF]at h;split at h;rename_i u H' L' t i;refine ZhX i h.1 ?_;split;exact Ye h.2 _;exact⟨JI,Ye h.2 _⟩;rename_i u pre H' t i;exact Zo0 i h.1 λb r=>⟨JI,Ye (h.2 b r) _⟩;exact h B
def ZhV{F:Fr P}{kp dk o os H L s}(hg:Zw H o.guard=sO true){fx xs}(hk:o.k=.call fx xs){p q fd es ds}(hf:ZH H true fx=sO (q,.d fd))(ha:Yr H true xs=sO (p,es))(u:KA es=sO ds)(hp:p)(hq:q){Ψ}(hc:KC P fd ds s Ψ)(t:∀d i,Ψ (.ret d) i->Kl F kp dk os (putE H o.dst (.d d)) L i)(r:∀d i,Ψ (.panic d) i->WB F [] [] d i):Kl F kp dk (o::os) H L s :=
 λB=>Zje hg hk hf ha u hp hq hc (λd i h=>⟨JI,t d i h _⟩) r
def Zwq{F:Fr P}{kp dk o os H L s}(hg:Zw H o.guard=sO true){fx xs}(hk:o.k=.call fx xs){p q u first caps es ds}(hf:ZH H true fx=sO (q,.d (.fn (.func u) first caps)))(ha:Yr H true xs=sO (p,es))(t:KA es=sO ds)(hp:p)(hq:q){Ψ}(hc:Zf P u (first++ds++caps) s Ψ)(r:∀d s',Ψ (.ret d) s'->Kl F kp dk os (putE H o.dst (.d d)) L s')(i:∀d s',Ψ (.panic d) s'->WB F [] [] d s'):Kl F kp dk (o::os) H L s :=
 ZhV hg hk hf ha t hp hq hc.V r i
def Zvg{F:Fr P}{kp dk o os H L s}(r:Zw H o.guard=sO true){x}(u:o.k=.panic x){p t d}(i:ZH H true x=sO (p,.d (.iface t d)))(hp:p)(h:WB F [] [] (.iface t d) s):Kl F kp dk (o::os) H L s:=λ_=>Zwt r u i hp h
def ZhU{F:Fr P}{kp dk o os H L s}(hg:Zw H o.guard=sO true){t xs}(hk:o.k=.call t xs){p q r first caps es ds}(hf:ZH H true t=sO (q,.d (.fn (.func r) first caps)))(u:Yr H true xs=sO (p,es))(i:KA es=sO ds)(hp:p)(hq:q){d}(hc:Zc P r (first++ds++caps) d)(h:Kl F kp dk os (putE H o.dst (.d d)) L s):Kl F kp dk (o::os) H L s:=λ_=>Zf8 hg hk hf u i hp hq hc (h _)
def ZlX{F:Fr P}{kp dk o os H L s c}(hg:Zw H o.guard=sO c){t xs}(hk:o.k=.call t xs){p q r first caps es ds}(hf:ZH H c t=sO (q,.d (.fn (.func r) first caps)))(u:Yr H c xs=sO (p,es))(i:KA es=sO ds){d}(hc:c=true->p/\q/\Zc P r (first++ds++caps) d)(h:Kl F kp dk os (putE H o.dst (.when c (.d d))) L s):Kl F kp dk (o::os) H L s:=λ_=>Znf hg hk hf u i hc (h _)
def ZtE{F:Fr P}{kp dk o os H L s}(hg:Zw H o.guard=sO true){e sz b z x y}(hk:o.k=.append e sz b z x y){p q t n m row row2 dy dx}(hx:ZH H true x=sO (p,.d dx))(hsl:Zfl sz dx=sO (t,n,row))(hy:ZH H true y=sO (q,.d dy))(hp:p)(hq:q)(hel:Zah sz dy=sO (m,row2))(hok:t.okIn s)(hb:(n+m)*b<=140737488355328)(r:n+m<=big)(h:∀u:Tok,u.okIn s->Kl F kp dk os (putE H o.dst (.d (.sl u (n+m) sz (Yd n row row2)))) L (s.own u ((n+m)*sz))):
  Kl F kp dk (o::os) H L (s.own t (n*sz)):=λ_=>Zne hg hk hx hsl hy hp hq hel hok hb r λu i=>⟨JI,h u i _⟩
end
def ZcI(l b:Nat):E->E
 |.d v=>.d v
 |.loc l' off=>if l'=l then .d (.ptr b off) else .loc l' off
 |.when c e=>.when c (ZcI l b e)
def Zax(l b:Nat):Env->Env
 | []=>[]
 | (t,e)::r=>(t,ZcI l b e)::Zax l b r
def delL(l:Nat):Loc->Loc
 | []=>[]
 | (k,c)::r=>if k=l then delL l r else (k,c)::delL l r
def Zl6(l b):∀(H t),Z9 (Zax l b H) t=(Z9 H t).map (ZcI l b)
 | [],t=>rfl
 | (k,e)::r,t=>by simp only[Zax,Z9];by_cases h:k=t;simp[h];simp only[h,if_false];exact Zl6 l b r t
def Zih(l):∀(L x),Zq (delL l L) x=if x=l then nO else Zq L x
 | [],x=>by simp[delL,Zq]
 | (k,c)::r,x=>by simp only[delL];by_cases h:k=l;simp only[h,if_true,Zq,Zih l r x];by_cases i:x=l;simp[i];simp[i,show ¬l=x from λh=>i h.symm];simp only[h,if_false,Zq,Zih l r x];by_cases i:x=l;subst i;simp[h];simp[i]
section
variable {P:Program}
def ZM.expose{g Z w L l v e}(h:ZM g Z w L v e):ZM g Z w (delL l L) v (ZcI l (Z l) e):=by
 induction e with
 |d x=>exact h
 |loc l' off =>obtain⟨⟨r,i⟩,rfl⟩:=h;simp only[ZcI];split;rename_i o;subst o;exact Rep.ptr _ _;rename_i o;exact⟨⟨r,by rw[Zih,if_neg o];exact i⟩,rfl⟩
 |when c e ih=>exact⟨λt=>ih (h.1 t),h.2⟩
def ZB.expose{g Z w tmps H L s}(m:ZB g Z w tmps H L s){l cs}(hl:Zq L l=sO cs):
  s (Z l)=nO/\ZB g Z w tmps (Zax l (Z l) H) (delL l L) (s.upd (Z l) (.cells cs)):=by
 have r:∀l' i,Zq (delL l L) l'=sO i->l'≠l/\Zq L l'=sO i:=λl' i h=>by rw[Zih]at h;split at h;simp at h;exact⟨‹_›,h⟩
 refine⟨m.locSt l cs hl,⟨m.st.updL (o:=.cells cs) (m.loc l cs hl) (m.locKept l cs hl),λl' i h=>m.loc l' i (r l' i h).2,λl' i h=>m.locKept l' i (r l' i h).2,λl' i h=>?_,λa b ca cb ha hb u=>m.inj a b ca cb (r a ca ha).2 (r b cb hb).2 u,λt e he=>?_⟩⟩;obtain⟨h1,h2⟩:=r l' i h;have:Z l'≠Z l:=λhh=>h1 (m.inj l' l i cs h2 hl hh);simp only[St.upd,this,if_false];exact m.locSt l' i h2;rw[Zl6]at he;simp only[ZH8]at he;obtain⟨e0,h1,rfl⟩:=he;exact(m.env t e0 h1).expose
def ZgJ{F:Fr P}{dk}{H}{L}{s}(l){cs}(u:Zq L l=sO cs)(h:∀b,s b=nO->ZA F dk (Zax l b H) (delL l L) (s.upd b (.cells cs))):ZA F dk H L s:=by
 intro k t g Z w tmps r m;obtain⟨i,o⟩:=m.expose u;exact h (Z l) i k t g Z w tmps r o
def KG:List Nat->List D->Env->Env
 |t::ts,a::as9,H=>KG ts as9 ((t,.d a)::H)
 |_,_,H=>H
def Zkd(P:Program)(c:Frame)(cs:List Frame)(Φ:Res->St->Prop):Zvn P where
 T g w m:=∃e w',Zhh g w Φ e w'/\ZA1 P m c cs e w'
 back g w m m' hs h:=by
  obtain⟨e,w',a,b⟩:=h;refine⟨e,w',a,?_⟩;cases e with
  |returned v=>exact Steps.trans hs b
  |panicked ch=>exact Steps.trans hs b
  |outgrown=>exact b.elim
 ext g w g' w' m hx h:=by obtain⟨e,w2,⟨g2,s2,r,d1,d2,d3,d4⟩,b⟩:=h;exact⟨e,w2,⟨g2,s2,r,hx.trans d1,d2,d3,d4⟩,b⟩
def Zfd(P:Program)(an:Ann)(fn:FuncId)(N l:Nat)(c:Frame)(cs:List Frame)(Φ:Res->St->Prop):Fr P where
 T:=Zkd P c cs Φ
 b:={ (dE:Frame) with fn,kind:=.normal,roundOf:=sO l }
 cs:=c::cs
 N:=N
 ds:=[]
 an:=an
def Jx(F:Fr P)(l:Nat)(Φ:Res->St->Prop):Prop:=∃an fn N c cs,F=Zfd P an fn N l c cs Φ
def Za9{w r o}(i:w.heap[r]?=sO (.loop o)):(getObj r).run P w=.ok (.loop o) w:=by
 simp[getObj,Sem.run,i]
def Zdj{w r o o'}(hb:w.heap[r]?=sO (.loop o')):(setObj r o).run P w=.ok () { w with heap:=w.heap.setIfInBounds r o }:=by
 simp[setObj,Sem.run,hb]
def ZBM{b o'}{o}(hb:w.heap[b]?=sO o'):({ w with heap:=w.heap.setIfInBounds b o }:World).heap[b]?=sO o:=by
 have:=(Array.getElem?_eq_some_iff.1 hb).1;simp[Array.getElem?_setIfInBounds,this]
def ZB.loopTo{g Z w tmps H L s}(m:ZB g Z w tmps H L s){l r st st'}(hs:s l=sO (.loop r st)){lp}(hh:w.heap[l]?=sO (.loop lp))(lp')(h1:lp'.fn=lp.fn/\lp'.params=lp.params/\lp'.assign=lp.assign/\lp'.body=lp.body/\lp'.defers=lp.defers/\lp'.tmps=lp.tmps)(h2:match st' with|.ready=>lp'.state=.ready/\lp'.pending=nO|.busy=>lp'.state=.busy|.done j=>lp'.state=.done/\lp'.pending=sO j):
  Ext g w g { w with heap:=w.heap.setIfInBounds l (.loop lp') }/\ZB g Z { w with heap:=w.heap.setIfInBounds l (.loop lp') } tmps H L (s.upd l (.loop r st')):=by
 obtain⟨hp,l0,a1,a2,a3,a4,a5,a6,a7,a8,a9⟩:=m.st.obj l _ hs;rw[hh]at a1;simp only[ZHQ,Obj.loop.injEq]at a1;subst a1;obtain⟨b1,b2,b3,b4,b5,b6⟩:=h1;have he:=Zc5 (g:=g) (w:=w) l (.loop lp') (by simp[hdr,hh]) hp (m.st.kept l _ hs);refine⟨he,m.named hs he ψ (λc hc=>Zar hc) ⟨hp,lp',ZBM hh,by rw[b1,a2],by rw[b2,a3],by rw[b3,a4],by rw[b4,a5],by rw[b5,a6],by rw[b6];exact a7,λt e ht=>by rw[b6];exact(a8 t e ht).mono he,h2⟩⟩
def Jx.begin{F:Fr P}{l Φ}(hF:Jx F l Φ){dk H L s r}(u:s l=sO (.loop r .ready))(h:ZA F dk H L (s.upd l (.loop r .busy))):ZA F (.beginR::dk) H L s:=by
 obtain⟨an,fn,N,c,t,rfl⟩:=hF;intro k hk;cases hk with
 |beginR ht =>
  intro g Z w tmps hN m;obtain⟨hp,l0,o,a2,a3,a4,a5,a6,a7,a8,a9,a10⟩:=m.st.obj l _ u;obtain⟨he,m'⟩:=m.loopTo (st':=.busy) u o { l0 with state:=.busy } ⟨rfl,rfl,rfl,rfl,rfl,rfl⟩ rfl;have i:(Instr.beginRound l).run P w=.ok () { w with heap:=w.heap.setIfInBounds l (.loop { l0 with state:=.busy }) }:=by simp[Instr.beginRound,Instr.getLoop,Za9 o,Zdj o,a9]
  refine(Zkd P c t Φ).back _ _ _ _ (.one (stepR_beginRound rfl i)) ?_;exact(Zkd P c t Φ).ext _ _ _ _ _ he (h _ ht g Z _ tmps hN m')
def Zfx{w l l0}(h:w.heap[l]?=sO (.loop l0))(j):
  (Instr.endRound l j).run P w=.ok (.bool j.isNone) { w with heap:=w.heap.setIfInBounds l (.loop { l0 with state:=if j.isNone then .ready else .done,pending:=j }) }:=by
 simp[Instr.endRound,Instr.getLoop,Za9 h,Zdj h]
def Jx.fin{F:Fr P}{l Φ}(u:Jx F l Φ){H L s s' r}(t:s l=sO (.loop r .busy))(i:s'.sub (s.upd l (.loop r .ready)))(hΦ:Φ (.ret (.bool true)) s'):ZA F [] H L s:=by
 obtain⟨an,fn,N,c,cs,rfl⟩:=u;intro k hk;cases hk;intro g Z w tmps hN m;obtain⟨hp,l0,o,_⟩:=m.st.obj l _ t;obtain⟨he,m'⟩:=m.loopTo (st':=.ready) t o { l0 with state:=.ready,pending:=nO } ⟨rfl,rfl,rfl,rfl,rfl,rfl⟩ ⟨rfl,rfl⟩;exact⟨.returned (.bool true),_,⟨g,s',.ret (.bool true),he,m'.st.sub i,.bool true,hΦ⟩,.one (stepR_round_end rfl rfl (Zfx o nO))⟩
def Jx.ret{F:Fr P}{l Φ}(u:Jx F l Φ){dk H L s s' r}(t:s l=sO (.loop r .busy))(i:s'.sub (s.upd l (.loop r (.done .ret))))(hΦ:Φ (.ret (.bool false)) s'):
  ZA F (.code .ret::dk) H L s:=by
 obtain⟨an,fn,N,c,cs,rfl⟩:=u;intro k hk;cases hk with
 |code hc ht =>obtain rfl:=ZwH hc;intro g Z w tmps hN m;obtain⟨hp,l0,o,_⟩:=m.st.obj l _ t;obtain⟨he,m'⟩:=m.loopTo (st':=.done .ret) t o { l0 with state:=.done,pending:=sO .ret } ⟨rfl,rfl,rfl,rfl,rfl,rfl⟩ ⟨rfl,rfl⟩;exact⟨.returned (.bool false),_,⟨g,s',.ret (.bool false),he,m'.st.sub i,.bool false,hΦ⟩,.one (stepR_round_ret rfl rfl (Zfx o (sO .ret)))⟩
def Jx.exit{F:Fr P}{l id Φ}(u:Jx F l Φ){dk H L s s' r}(hx:JG id dk=nO)(t:s l=sO (.loop r .busy))(i:s'.sub (s.upd l (.loop r (.done (.exit id)))))(hΦ:Φ (.ret (.bool false)) s'):ZA F (.code (.exit id)::dk) H L s:=by
 obtain⟨an,fn,N,c,cs,rfl⟩:=u;intro k hk;cases hk with
 |code hc ht =>obtain rfl:=ZuH hc;intro g Z w tmps hN m;obtain⟨hp,l0,o,_⟩:=m.st.obj l _ t;obtain⟨he,m'⟩:=m.loopTo (st':=.done (.exit id)) t o { l0 with state:=.done,pending:=sO (.exit id) } ⟨rfl,rfl,rfl,rfl,rfl,rfl⟩ ⟨rfl,rfl⟩;exact⟨.returned (.bool false),_,⟨g,s',.ret (.bool false),he,m'.st.sub i,.bool false,hΦ⟩,.one (stepR_round_exit rfl rfl (ZbH ht hx) (Zfx o (sO (.exit id))))⟩
def Jx.pan{F l Φ}(hF:Jx F l Φ){H L d s s'}(r:s'.sub s)(hΦ:Φ (.panic d) s')(hfn:∀t o N c u,F=Zfd P t o N l c u Φ->∃f,P.funcs[o]?=sO f):WB F H L d s:=by
 obtain⟨t,o,N,c,u,rfl⟩:=hF;intro g Z w v i tmps hN m hr;obtain⟨f,hf⟩:=hfn t o N c u rfl;refine⟨.panicked [{ v,recovered:=false }],w,⟨g,s',.panic d,Ext.refl g w,m.st.sub r,⟨v,rfl,hr⟩,hΦ⟩,.one ?_⟩;exact step_leave_panicked (P:=P) (fr:={ (Zfd P t o N l c u Φ).b.atR ⟨tmps,[]⟩ i with mode:=.panicking [{ v,recovered:=false }] }) ⟨rfl,rfl,f,hf⟩
def Zoi{g Z w L s N}:∀{ps ds vs tmps H},ZB g Z w tmps H L s->ZN (Rep g w) vs ds->I ds=I ps->(∀t∈ps,t<N)->N<=tmps.size ->
  N<=((ps.zip vs).foldl (λtmps (x:Nat×Value)=>tmps.setIfInBounds x.1 x.2) tmps).size/\ZB g Z w ((ps.zip vs).foldl (λtmps (x:Nat×Value)=>tmps.setIfInBounds x.1 x.2) tmps) (KG ps ds H) L s
 | [],_,_,tmps,H,m,_,_,_,hN=>by simpa[KG]using⟨hN,m⟩
 |t::ps,[],_,tmps,H,m,_,hl,_,_=>by simp at hl
 |t::ps,d::ds,v::vs,tmps,H,m,.cons h1 h2,hl,hp,hN=>by have o:=m.put (t:=t) (v:=v) (e:=.d d) (by have:=hp t ψ;omega) h1;simpa[KG]using Zoi o h2 (by simpa using hl) (λu i=>hp u (by simp[i])) (by simpa using hN)
def J8:Env->Env
 | []=>[]
 | (t,e)::r=>if (Qj e).isEmpty then (t,e)::J8 r else J8 r
def K0(ks:List Nat)(H:Env):Env:=J8 (Wh H ks)
def Zig:∀{H t e},(H.map (·.1)).Nodup->Z9 (J8 H) t=sO e->Z9 H t=sO e/\Qj e=[]
 | [],t,e,_,h=>by simp[J8,Z9]at h
 | (k,x)::r,t,e,hn,h=>by
  simp only[ZIo,List.nodup_cons]at hn;simp only[J8]at h;split at h;rename_i hx;simp only[Z9]at h⊢;by_cases o:k=t;simp only[o,if_true,ZHQ]at h⊢;subst h;exact⟨rfl,by simpa using hx⟩;simp only[o,if_false]at h⊢;exact Zig hn.2 h;obtain⟨u,h2⟩:=Zig hn.2 h;refine⟨?_,h2⟩;have i:k≠t:=λo=>by subst o;have:=ZgW u;exact hn.1 (List.mem_map.2 ⟨_,this,rfl⟩)
  simp only[Z9,i,if_false];exact u
def Zv8{g Z Z' w L L' v e}(h:ZM g Z w L v e)(i:Qj e=[]):ZM g Z' w L' v e:=by
 induction e with
 |d x=>exact h
 |loc l o=>simp[Qj]at i
 |when c e ih=>exact⟨λr=>ih (h.1 r) i,h.2⟩
def Fr.mark(F:Fr P)(q:Nat):Fr P:={ F with ds:=DD.def (.mark q)::F.ds }
def ZpP{b:Frame}{a k cs w g ps assign body l mark w₁ d nx fr}(he:(Instr.enterLoop b.fn a.tmps ps assign body b.roundOf).run P w=.ok (l,mark) w₁)(hres:(Deferred.ofValue (a.eval g) #[.func (.yield l) #[] #[]]).run P w₁=.ok d w₁)(hinv:(invoke d.target d.args).run P w₁=.ok nx w₁)(hnx:Zgp P nx=sO fr):
  step P (lone (b.atR a (.code (.rangeFunc g ps assign body)::k)) cs w) =
   .next (lone fr (b.atR { a with defers:=mark++a.defers } (.inRangeFunc l::k)::cs) w₁) :=
 step_lone_go (by
  have o:=Frame.eval_atR b { a with defers:=mark++a.defers } (.inRangeFunc l::k);simp only[Frame.atR]at o;have i:Sem.run P (resolve ({ tmps:=a.tmps,defers:=mark++a.defers }:Act).eval { callee:=.value g,args:=#[.const (.func (.yield l) #[] #[])],argTypes:=#[] } 0) w₁=.ok d w₁:=by
   simp only[resolve];have e1:({ tmps:=a.tmps,defers:=mark++a.defers }:Act).eval g=a.eval g:=by cases g<;>rfl
   have e2:Array.map ({ tmps:=a.tmps,defers:=mark++a.defers }:Act).eval #[Operand.const (Value.func (Fn.yield l) #[] #[])] = #[.func (.yield l) #[] #[]]:=by simp[Act.eval]
   rw[e1,e2];exact hres
  cases nx<;>simp only[Zgp,ZHQ,reduceCtorEq]at hnx<;>subst hnx <;>
   simp[stepG,stepG.exec,Frame.atR,Sem.runT_eq,he,GStep.bare_after,stepG.apply,o,Sem.run_bind,i,hinv,Result.andThen])
def Zp5(F:Fr P)(l:Nat)(r:Zhf)(dk:List QU)(H:Env)(L:Loc)(s':St):Prop :=
 (s' l=sO (.loop r .ready)/\ZA F dk H L (s'.del l))\/∃j dj,s' l=sO (.loop r (.done j))/\cc P F.an F.N j=sO dj/\ZA F (.code dj::dk) H L (s'.del l)
def Zl0{w l l0}(h:w.heap[l]?=sO (.loop l0))(hb:l0.state≠.busy):
  (Instr.endLoop l).run P w=.ok l0.pending { w with heap:=w.heap.setIfInBounds l (.loop { l0 with state:=.exhausted }) }:=by
 have:(l0.state==.busy)=false:=by cases hs:l0.state<;>first|rfl|exact absurd hs hb
 simp[Instr.endLoop,Instr.getLoop,Za9 h,Zdj h,hb]
def Zv2{F:Fr P}{l r dk k H L g Z w tmps s'}(hk:Ki P F.an F.N k dk)(hN:F.N<=tmps.size)(m:ZB g Z w tmps H L s')(h:Zp5 F l r dk H L s'):F.T.T g w (lone (F.b.atR ⟨tmps,F.ds⟩ (.endRangeFunc l::k)) F.cs w):=by
 rcases h with ⟨t,h⟩|⟨j,dj,t,hj,h⟩;obtain⟨hp,l0,u,a2,a3,a4,a5,a6,a7,a8,a9,o⟩:=m.st.obj l _ t;have he:=Zc5 (g:=g) (w:=w) l (.loop { l0 with state:=.exhausted }) (by simp[hdr,u]) hp (m.st.kept l _ t);have m':=m.drop t he ψ (λc hc=>Zar hc);have i:(Instr.endLoop l).run P w=.ok nO { w with heap:=w.heap.setIfInBounds l (.loop { l0 with state:=.exhausted }) }:=by rw[Zl0 u (by rw[a9];simp)];simp[o]
 refine F.T.back _ _ _ _ (.one (stepR_endRangeFunc i)) ?_;exact F.T.ext _ _ _ _ _ he (h k hk g Z _ tmps hN m');obtain⟨hp,l0,u,a2,a3,a4,a5,a6,a7,a8,a9,o⟩:=m.st.obj l _ t;have he:=Zc5 (g:=g) (w:=w) l (.loop { l0 with state:=.exhausted }) (by simp[hdr,u]) hp (m.st.kept l _ t);have m':=m.drop t he ψ (λc hc=>Zar hc);have i:(Instr.endLoop l).run P w=.ok (sO j) { w with heap:=w.heap.setIfInBounds l (.loop { l0 with state:=.exhausted }) }:=by rw[Zl0 u (by rw[a9];simp)];simp[o]
 refine F.T.back _ _ _ _ (.one (stepR_endRangeFunc i)) ?_;exact F.T.ext _ _ _ _ _ he (h _ (.code hj hk) g Z _ tmps hN m')
def Y0.mark{F:Fr P}{rs Φ dds}(u:Y0 F rs Φ dds)(q):Y0 (F.mark q) rs Φ (.mark q::dds):=by
 obtain⟨o,f,t,r,hf,i,rfl⟩:=u;exact⟨o,f,t,r,hf,i,rfl⟩
def Y0.roundOf{F:Fr P}{rs Φ dds}(i:Y0 F rs Φ dds):F.b.roundOf=nO:=by
 obtain⟨an,f,df,cs,hf,hrs,rfl⟩:=i;rfl
end
section
variable {P:Program}
def ZwJ{op f xs}(h:ck P op=sO (.defer f xs)):∃u r t,op=.defer ⟨.value u,r,t⟩/\Z6 u=sO f/\Zc0 r.toList=sO xs:=by
 unfold ck at h;split at h;simp at h;split at h<;>(try(simp at h;done));all_goals (try(repeat' (split at h<;>(try(simp at h;done)))))
 simp at h;obtain⟨rfl,rfl⟩:=h;rename_i c _ _ u i _ _ f xs hf o;obtain⟨callee,r,t⟩:=c;simp only at i;exact⟨u,r,t,by rw[i],hf,o⟩
def Fr.defer(F:Fr P)(i:FuncId)(args caps:List D):Fr P:={ F with ds:=DD.def (.fn i args caps)::F.ds }
def Y0.defer{F:Fr P}{rs Φ dds}(hF:Y0 F rs Φ dds)(i args caps):Y0 (F.defer i args caps) rs Φ (.fn i args caps::dds):=by
 obtain⟨r,f,u,t,hf,o,rfl⟩:=hF;exact⟨r,f,u,t,hf,o,rfl⟩
def Zmu{F:Fr P}(hround:F.b.roundOf=nO){kp dk o os H L s}(hg:o.guard=nO)(hdn:o.dst=nO){fx xs}(hk:o.k=.defer fx xs){p q i first caps es ds}(hf:ZH H true fx=sO (q,.d (.fn (.func i) first caps)))(ha:Yr H true xs=sO (p,es))(hds:KA es=sO ds)(hp:p)(hq:q)(hr1:ZfM (first++ds))(hr2:ZfM caps)(h:DO (F.defer i (first++ds) caps) kp dk os H L s):DO F kp dk (o::os) H L s:=by
 refine WN λoo g Z w tmps t j r k ah ad al ae hd hN m hr ap=>?_;have hw:=Yo m al (c:=true) (by rw[hg];rfl);rw[hk]at ad;obtain⟨f',args,ats,aq,an,ar⟩:=ZwJ ad;have ag:Rep g w _ _:=Yh m an rfl hf hq F.ds;have u:=QB (ZcM m rfl F.ds ar ha hp) hds;generalize ao:(Act.mk tmps F.ds).eval f'=fv at ag;cases ag with
 |fn _ fs cs' _ _ hn1 hn2 h1 h2 =>
 obtain⟨ak,ac,_,ha2⟩:=ZcO hr1;obtain⟨vs,aj,_,hv2⟩:=ZcO hr2;have e1:fs++args.toList.map (Act.mk tmps F.ds).eval=ak:=Zln ((Yn hn1 h1).append u) ac;have e2:cs'=vs:=Zln (Yn hn2 h2) aj;have hmap:(Array.map (Act.mk tmps F.ds).eval args)=(args.toList.map (Act.mk tmps F.ds).eval).toArray:=by apply Array.ext';simp
 have am:DD.def (.fn i (first++ds) caps)={ target:=.fn (.func i) cs'.toArray,args:=fs.toArray++(args.toList.map (Act.mk tmps F.ds).eval).toArray }:=by simp only[DD.def,aj,ac,e2,<-e1];simp
 have ai:(execOp (Act.mk tmps F.ds).eval oo).run P w=.ok (.defer (DD.def (.fn i (first++ds) caps))) w:=by rw[am];simp[execOp,aq,resolve,ao,Deferred.ofValue]
 have ab:step P (lone (F.b.atR ⟨tmps,F.ds⟩ (.inRegion t (j::r)::k)) F.cs w)=.next (lone (F.b.atR ⟨tmps,(F.defer i (first++ds) caps).ds⟩ (.inRegion t r::k)) F.cs w):=by
  refine step_lone_go ?_;rw[stepGR_op ah hw,hround,Oper.semAt_none];have af:(F.b.atR ⟨tmps,(F.defer i (first++ds) caps).ds⟩ (.inRegion t (j::r)::k)).finish undef=F.b.atR ⟨tmps,(F.defer i (first++ds) caps).ds⟩ (.inRegion t r::k):=by rw[Frame.finish_atR,ah];simp[Act.put,ae,hdn]
  rw[<-af];simp[stepG.apply,ai,Frame.atR,Fr.defer]
 refine F.T.back _ _ _ _ (.one ab) ?_;exact h t r k hr ap g Z w tmps hN m
def Zto:D->Prop
 |.iface _ (.agg cs)=>ZfM cs
 |.iface _ d=>Zkc d
 |_=>False
def ZxI{d}(h:Zto d):∃v,(∀g w,Rep g w v d)/\∀g w o,Rep g w o d->o=v:=by
 cases d<;>simp[Zto]at h;rename_i t d;by_cases hd:∃r,d=.agg r
 .obtain⟨r,rfl⟩:=hd;obtain⟨vs,u,h2,i⟩:=ZcO h;refine⟨.iface t (.agg vs.toArray),λg w=>.iface t _ _ (.agg vs r (i g w).len (i g w).get h2),λg w o hr=>?_⟩;cases hr with
  |iface _ v _ hv =>
   cases hv with
   |agg vs' _ hn hg _=>rw[Zln (Yn hn hg) u]
 have h':Zkc d:=by cases d<;>simp at h<;>first|exact h|exact absurd ⟨_,rfl⟩ hd
 obtain⟨v,u,h2,i⟩:=ZqD h';refine⟨.iface t v,λg w=>.iface t _ _ (i g w),λg w o hr=>?_⟩;cases hr with
 |iface _ v'' _ hv=>rw[Zvb hv u]
def ZbG(m:Option D)(v:Value)(rec:Bool):FrameMode :=
 match m with
 |none=>.returning
 |some _=>.panicking [{ v,recovered:=rec }]
def Zk2(P:Program)(cf:Frame)(cs:List Frame)(Ψ:Bool->St->Prop):Zvn P where
 T g w m:=∃g' w' s' b,Ext g w g' w'/\Ym g' s' w'/\Ψ b s'/\Steps P m (lone { cf with mode:=if b then .returning else cf.mode } cs w')
 back g w m m' hs h:=let ⟨g',w',s',b,a1,a2,a3,a4⟩:=h;⟨g',w',s',b,a1,a2,a3,Steps.trans hs a4⟩
 ext g w g' w' m hx h:=let ⟨g2,w2,s',b,a1,a2,a3,a4⟩:=h;⟨g2,w2,s',b,hx.trans a1,a2,a3,a4⟩
def Qi(P:Program)(an:Ann)(f:FuncId)(N:Nat)(cf:Frame)(cs:List Frame)(Ψ:Bool->St->Prop)(m:Option D)(v:Value)(rec:Bool):Fr P where
 T:=Zk2 P cf cs Ψ
 b:={ (dE:Frame) with fn:=f,kind:=.deferred,roundOf:=nO }
 cs:={ cf with mode:=ZbG m v rec }::cs
 N:=N
 ds:=[]
 an:=an
def Zgb(F:Fr P)(m:Option D)(Ψ:Bool->St->Prop)(rec:Bool):Prop :=
 ∃an f df cf cs v,Go.DL.cf P an f=sO df/\df.res=[]/\cf.mode=ZbG m v false/\(∀d,m=sO d->∀g w,Rep g w v d)/\F=Qi P an f df.n cf cs Ψ m v rec
def Zbe{an i N rs b}(hf:cf P an i=sO ⟨N,rs,b⟩)(hres:rs=[]){args m s Ψ}(hm:∀d,m=sO d->Zto d)(h:∀F:Fr P,Zgb F m Ψ false->ZA F [.code b] (Za6 0 args) [] s):ZaB P i args m s Ψ:=by
 have ag:=hf;unfold cf at hf;split at hf<;>(try(simp at hf;done));rename_i fn ac;split at hf<;>(try(simp at hf;done));rename_i c hc;split at hf<;>(try(simp at hf;done));rename_i u;split at hf<;>simp at hf;rename_i rs d hrs hd;obtain⟨rfl,rfl,rfl⟩:=hf;refine⟨⟨fn,ac,by simp[hc],by simpa using u⟩,λg w vs o cs hs ha r=>?_⟩;obtain⟨v,ad,ah⟩:∃v,o.mode=ZbG m v false/\∀d,m=sO d->∀g w,Rep g w v d:=by
  cases m with
  |none=>exact⟨undef,r,λd hd=>by simp at hd⟩
  |some d =>obtain⟨v,h1,h2⟩:=r;obtain⟨v',r1,r2⟩:=ZxI (hm d rfl);have:=r2 g w v h2;subst this;exact⟨v,h1,λd' ab=>by simp only[ZHQ]at ab;subst ab;exact r1⟩
 have ae:({ o with mode:=ZbG m v false }:Frame)=o:=by rw[<-ad]
 have t:Frame.enter P i vs.toArray .deferred=(Qi P an i fn.ntmps o cs Ψ m v false).b.atR { tmps:=vs.toArray++Array.replicate (fn.ntmps-I vs) undef,defers:=[] } [.code c]:=by simp[Frame.enter,Frame.atR,ac,hc,Qi]
 have:=h _ ⟨an,i,_,o,cs,v,ag,hres,ad,ah,rfl⟩ [.code c] (.code hd .nil) g (λ_=>0) w (vs.toArray++Array.replicate (fn.ntmps-I vs) undef) (by simp[Qi];omega) (Zmf hs ha);obtain⟨g',w',s',b,a1,a2,a3,a4⟩:=this;refine⟨g',w',s',b,a1,a2,a3,?_⟩;rw[t];have af:(Qi P an i fn.ntmps o cs Ψ m v false).cs=o::cs:=by simp only[Qi,ae]
 rw[af]at a4;exact a4
def Zgb.end{F:Fr P}{m Ψ rec}(hF:Zgb F m Ψ rec){H L s s'}(hs:s'.sub s)(hΨ:Ψ (m.isNone ||rec) s'){todo g Z w tmps}(M:ZB g Z w tmps H L s):F.T.T g w (lone { F.b.atR ⟨tmps,F.ds⟩ todo with mode:=.returning } F.cs w):=by
 obtain⟨an,f,df,i,cs,v,hf,r,o,hrep,rfl⟩:=hF;unfold cf at hf;split at hf<;>(try(grind;done));rename_i fn ac;split at hf<;>(try(grind;done));split at hf<;>(try(grind;done));split at hf<;>simp at hf;rename_i rs d ad hd;subst hf;cases r;obtain⟨rv,t,_⟩:=Zor M ad (p:=True) (ds:=[]) rfl trivial;refine⟨g,w,s',m.isNone ||rec,Ext.refl g w,M.st.sub hs,hΨ,?_⟩;have ab:=step_going_returned (P:=P) (fr:={ (Qi P an f fn.ntmps i cs Ψ m v rec).b.atR ⟨tmps,[]⟩ todo with mode:=.returning }) (c:={ i with mode:=ZbG m v rec }) (cs:=cs) (w:=w) rfl ⟨rfl,rfl,fn,ac,t⟩;have u:({ ({ i with mode:=ZbG m v rec }:Frame) with mode:=settle (ZbG m v rec) }:Frame)={ i with mode:=if (m.isNone ||rec) then .returning else i.mode }:=by
  cases m with
  |none=>rfl
  |some d =>cases rec;simp[o];rfl;rfl
 rw[u]at ab;exact .one ab
def Zgb.fin{F:Fr P}{m Ψ rec}(r:Zgb F m Ψ rec){H L s s'}(hs:s'.sub s)(hΨ:Ψ (m.isNone ||rec) s'):ZA F [] H L s:=by
 have o:=r;obtain⟨an,f,df,i,t,v,hf,hres,hmode,hrep,rfl⟩:=r;intro k u;cases u;intro g Z w tmps hN M;refine(Zk2 P i t Ψ).back _ _ _ _ (.one (stepR_end rfl)) ?_;exact o.end hs hΨ M
def Znu{op}(h:ck P op=sO .recover):∃o r,op=.call ⟨.builtin .recover,o,r⟩:=by
 unfold ck at h;split at h;simp at h;split at h<;>(try(simp at h;done));all_goals (try(repeat' (split at h<;>(try(simp at h;done)))))
 rename_i c _ _ i;obtain⟨callee,o,r⟩:=c;simp only at i;exact⟨o,r,by rw[i]⟩
def Znh{F:Fr P}{d Ψ}(hF:Zgb F (sO d) Ψ false){kp dk o os H L s}(hg:o.guard=nO)(hk:o.k=.recover)(h:∀F':Fr P,Zgb F' (sO d) Ψ true->DO F' kp dk os (putE H o.dst (.d d)) L s):DO F kp dk (o::os) H L s:=by
 obtain⟨an,f,df,i,cs,v,hf,ai,ac,u,rfl⟩:=hF;refine WN λoo g Z w tmps t j r k ah ab ak af hd hN m hr al=>?_;have hw:=Yo m ak (c:=true) (by rw[hg];rfl);have am:=Yu ab (by rw[hk];rfl);rw[hk]at ab;obtain⟨args,ats,ao⟩:=Znu ab;have aj:(execOp (Act.mk tmps []).eval oo).run P w=.ok .recover w:=by simp[execOp,ao,resolve,invoke,builtin]
 have ad:step P (lone ((Qi P an f df.n i cs Ψ (sO d) v false).b.atR ⟨tmps,[]⟩ (.inRegion t (j::r)::k)) (Qi P an f df.n i cs Ψ (sO d) v false).cs w) =
   .next (lone ((Qi P an f df.n i cs Ψ (sO d) v true).b.atR ((Act.mk tmps []).put oo.dst v) (.inRegion t r::k)) (Qi P an f df.n i cs Ψ (sO d) v true).cs w):=by
  refine step_lone_go ?_;rw[stepGR_op ah hw,Oper.semAt_eq _ _ _ am];have ag:((Qi P an f df.n i cs Ψ (sO d) v false).b.atR ⟨tmps,[]⟩ (.inRegion t (j::r)::k)).finish v=(Qi P an f df.n i cs Ψ (sO d) v true).b.atR ((Act.mk tmps []).put oo.dst v) (.inRegion t r::k):=by rw[Frame.finish_atR,ah];rfl
  rw[<-ag];simp[stepG.apply,aj,Frame.atR,Qi,tryRecover,ZbG]
 refine(Zk2 P i cs Ψ).back _ _ _ _ (.one ad) ?_;obtain⟨ae,e1,e2,m'⟩:=ZhD m hN hd (v:=v) (e:=.d d) (u d rfl g w) [];rw[af,e1];exact h _ ⟨an,f,df,i,cs,v,hf,ai,ac,u,rfl⟩ t r k hr al g Z w ae e2 m'
def ZgI{F:Fr P}{Ψ rec}(hF:Zgb F nO Ψ rec){kp dk o os H L s}(hg:o.guard=nO)(hk:o.k=.recover)(h:DO F kp dk os (putE H o.dst (.d .niliface)) L s):DO F kp dk (o::os) H L s:=by
 obtain⟨an,f,df,i,cs,v,hf,hres,hmode,hrep,rfl⟩:=hF;refine WN λoo g Z w tmps t j r k ae u ag hdst hd hN m hr ah=>?_;have hw:=Yo m ag (c:=true) (by rw[hg];rfl);have ai:=Yu u (by rw[hk];rfl);rw[hk]at u;obtain⟨args,ats,aj⟩:=Znu u;have af:(execOp (Act.mk tmps []).eval oo).run P w=.ok .recover w:=by simp[execOp,aj,resolve,invoke,builtin]
 have ab:step P (lone ((Qi P an f df.n i cs Ψ nO v rec).b.atR ⟨tmps,[]⟩ (.inRegion t (j::r)::k)) (Qi P an f df.n i cs Ψ nO v rec).cs w) =
   .next (lone ((Qi P an f df.n i cs Ψ nO v rec).b.atR ((Act.mk tmps []).put oo.dst .nilIface) (.inRegion t r::k)) (Qi P an f df.n i cs Ψ nO v rec).cs w):=by
  refine step_lone_go ?_;rw[stepGR_op ae hw,Oper.semAt_eq _ _ _ ai];have ad:((Qi P an f df.n i cs Ψ nO v rec).b.atR ⟨tmps,[]⟩ (.inRegion t (j::r)::k)).finish .nilIface=(Qi P an f df.n i cs Ψ nO v rec).b.atR ((Act.mk tmps []).put oo.dst .nilIface) (.inRegion t r::k):=by rw[Frame.finish_atR,ae];rfl
  rw[<-ad];simp[stepG.apply,af,Frame.atR,Qi,tryRecover,ZbG]
 refine(Zk2 P i cs Ψ).back _ _ _ _ (.one ab) ?_;obtain⟨ac,e1,e2,m'⟩:=ZhD m hN hd (v:=.nilIface) (e:=.d .niliface) .niliface [];simp_all;exact h t r k hr ah g Z w ac e2 m'
end
def ZBp(n):inR .i64 n↔-9223372036854775808<=n/\n<=9223372036854775807:=by
 simp[inR,IntKind.min,IntKind.max,IntKind.signed,IntKind.bits]
def ZBY(n):inR .u8 n↔0<=n/\n<=255:=by
 simp[inR,IntKind.min,IntKind.max,IntKind.signed,IntKind.bits]
def ZBq(n):inR .u32 n↔0<=n/\n<=4294967295:=by
 simp[inR,IntKind.min,IntKind.max,IntKind.signed,IntKind.bits]
def ZBr(n):inR .u64 n↔0<=n/\n<=18446744073709551615:=by
 simp[inR,IntKind.min,IntKind.max,IntKind.signed,IntKind.bits]
def ZBo(n):inR .i32 n↔-2147483648<=n/\n<=2147483647:=by
 simp[inR,IntKind.min,IntKind.max,IntKind.signed,IntKind.bits]
def ZAr(a b):(if a=true then b else false)=(a&&b):=by cases a<;>rfl
def ZBt(a b):(if a=true then true else b)=(a ||b):=by cases a<;>rfl
def ZA8{d i}(h:d=i):(QZ [d]).Le i:=h▸ZHT d
def Ze9{b i}(h:b=i):(QZ [.bool b]).Le (.bool i):=h▸ZHT _
def Zhe{k n m}(h:n=m):(QZ [.int k n]).Le (.int k m):=h▸ZHT _
def ZwB{l m}(h:l=m):(QZ [.str l]).Le (.str m):=h▸ZHT _
def Zab{l d}(h:.tup l=d)(i:QZ l=.tup l):(QZ l).Le d:=by rw[i,h];exact ZHT _
def St.upd_same(s:St)(b o):(s.upd b o) b=sO o:=by simp[St.upd]
def St.upd_ne(s:St){b c}(o)(h:c≠b):(s.upd b o) c=s c:=by simp[St.upd,h]
def St.upd_upd(s:St)(b o o'):(s.upd b o).upd b o'=s.upd b o':=by
 funext c;simp only[St.upd];by_cases h:c=b<;>simp[h]
def St.upd_comm(s:St){b c}(o){o'}(h:c≠b):(s.upd b o).upd c o'=(s.upd c o').upd b o:=by
 funext x;simp only[St.upd];by_cases i:x=b;subst i;simp[Ne.symm h];simp[i]
def St.sub_upd{b}(o)(h:s b=nO):s.sub (s.upd b o):=λc x i=>by
 have:c≠b:=λr=>by rw[r,h]at i;simp at i
 rw[St.upd_ne s o this];exact i
def St.sub_trans{s s' i:St}(h:s.sub s')(r:s'.sub i):s.sub i:=λb o t=>r b o (h b o t)
inductive DWf:D->Prop where
 |int (k:IntKind) (n:Int) (h:inR k n):DWf (.int k n)
 |str (l:List UInt8) (h:I l<=big):DWf (.str l)
 |agg (cs:List D) (h:∀c∈cs,DWf c):DWf (.agg cs)
 |tup (cs:List D) (h:∀c∈cs,DWf c):DWf (.tup cs)
 |sl (t:Tok) (n s:Nat) (row:Nat->List D) (h:n<=big) (hl:∀i,i<n->(row i).length=s) (hr:∀i,i<n->∀c∈row i,DWf c):DWf (.sl t n s row)
 |ep (cs:List D) (o:Nat) (h:∀c∈cs,DWf c):DWf (.ep cs o)
 |iface (t:TypeId) (d:D) (h:DWf d):DWf (.iface t d)
 |msl (b o n cap s:Nat) (h:n<=cap) (h':cap<=big):DWf (.msl b o n cap s)
 |fn (f:Fn) (a b:List D) (h:∀c∈a,DWf c) (h':∀c∈b,DWf c):DWf (.fn f a b)
 |other (d:D) (h:match d with|.int .. |.str _|.agg _|.tup _|.sl .. |.ep .. |.iface .. |.msl .. |.fn ..=>False|_=>True):DWf d
def ZcX{Q:D->Prop}{vs:List Value}(hn:I vs=I ds)(h:∀(i:Nat) (v:Value) (d:D),vs[i]?=sO v->ds[i]?=sO d->Q d):∀c∈ds,Q c:=by
 intro c o;obtain⟨i,r,rfl⟩:=ZIc o;exact h i (vs[i]' ω) _ (by simp[show i<I vs by omega]) (by simp[r])
def Rep.wf{g w v d}(h:Rep g w v d):DWf d:=by
 induction h with
 |int k n h=>exact .int k n h
 |str s l h hb=>exact .str l hb
 |agg vs cells hn _ _ ih=>exact .agg _ (ZcX hn ih)
 |tup vs ds hn _ ih=>exact .tup _ (ZcX hn ih)
 |sl0 a t s row ht=>exact .sl t 0 s row (Nat.zero_le _) (λi u=>by omega) (λi u=>by omega)
 |sl b o n cap s row t f hl hc hp _ one ht hcap hb ih =>refine .sl t n s row ω hl λi u c r=>?_;obtain⟨j,hj,rfl⟩:=ZIc r;exact ih i j _ u (by simp[hj])
 |ep b o off cells f hc hp _ one ih =>refine .ep _ _ λc r=>?_;obtain⟨j,hj,rfl⟩:=ZIc r;exact ih j _ (by simp[hj])
 |iface t v d _ ih=>exact .iface t d ih
 |msl b off n cap s h hb=>exact .msl _ _ _ _ _ h hb
 |mslx a b off s=>exact .msl _ _ _ _ _ (ZH9 _) (Nat.zero_le _)
 |fn f fs cs df dc hnf hnc _ _ ihf ihc=>exact .fn f df dc (ZcX hnf ihf) (ZcX hnc ihc)
 |_=>exact .other _ trivial
def DWf.int_inv{k n}(h:DWf (.int k n)):inR k n:=by
 cases h with
 |int _ _ h=>exact h
 |other _ h=>exact h.elim
def DWf.str_inv{l}(h:DWf (.str l)):I l<=big:=by
 cases h with
 |str _ h=>exact h
 |other _ h=>exact h.elim
def DWf.agg_inv{cs}(h:DWf (.agg cs)):∀c∈cs,DWf c:=by
 cases h with
 |agg _ h=>exact h
 |other _ h=>exact h.elim
def DWf.sl_inv{t n s row}(h:DWf (.sl t n s row)):n<=big/\(∀i,i<n->(row i).length=s)/\∀i,i<n->∀c∈row i,DWf c:=by
 cases h with
 |sl _ _ _ _ h1 h2 h3=>exact⟨h1,h2,h3⟩
 |other _ h=>exact h.elim
def ZzZ{g w vs ds}(h:ZN (Rep g w) vs ds):∀d∈ds,DWf d:=ZcX h.len λi v d r o=>(h.get i v d r o).wf
section
variable {P:Program}
def Zjc{f args s Φ}(o:∃fn,P.funcs[f]?=sO fn/\fn.body.isSome=true/\(fn.name == "runtime.NumGoroutine")=false)(h:(∀a∈args,DWf a)->Zf P f args s Φ):Zf P f args s Φ :=
 ⟨o,λg w t r i=>(h (ZzZ i)).2 g w t r i⟩
def Zrx{an f u}(r:cf P an f=sO u):∃t,P.funcs[f]?=sO t/\t.body.isSome=true/\(t.name == "runtime.NumGoroutine")=false:=by
 unfold cf at r;split at r<;>(try(simp at r;done));rename_i t o;split at r<;>(try(simp at r;done));rename_i c hc;split at r<;>(try(simp at r;done));rename_i i;exact⟨t,o,by simp[hc],by simpa using i⟩
def ZaS{an f N rs b}(i:cf P an f=sO ⟨N,rs,b⟩){args s Φ}(h:(∀a∈args,DWf a)->∀F:Fr P,Y0 F rs Φ []->ZA F [.code b] (Za6 0 args) [] s):Zf P f args s Φ :=
 Zjc (Zrx i) λo=>Zh i (h o)
def ZO{an f N rs b}(i:cf P an f=sO ⟨N,rs,b⟩){args d}(h:(∀a∈args,DWf a)->∀(F:Fr P) (s:St),(∀{dk:List QU} {H:Env} {L:Loc} {s':St} {p:Prop} {ds:List D},YP H L s' rs=sO (p,ds)->p->(QZ ds).Le d->s.sub s'->ZA F (.code .ret::dk) H L s') ->
   ZA F [.code b] (Za6 0 args) [] s):Zc P f args d :=
 λs=>Zjc (Zrx i) λhw=>Zh i λF hF=>h hw F s λo r t u=>hF.ret d s o r t u ⟨rfl,rfl⟩
def ZzX{F:Fr P}{dk H L s}(t){d}(r:Z9 H t=sO (.d d))(h:DWf d->ZA F dk H L s):ZA F dk H L s :=
 λk o g Z w tmps i m=>h (Rep.wf (m.env t _ r)) k o g Z w tmps i m
end
section
variable {P:Program}
def ZL(P:Program)(f:FuncId)(args:List D)(s:St)(d:D)(s':St):Prop:=Zf P f args s λr t=>r=.ret d/\t=s'
def ZaA{F:Fr P}{kp dk o os H L s s'}(hg:Zw H o.guard=sO true){u xs}(hk:o.k=.call u xs){p q f first caps es ds}(hf:ZH H true u=sO (q,.d (.fn (.func f) first caps)))(ha:Yr H true xs=sO (p,es))(r:KA es=sO ds)(hp:p)(hq:q){d}(hc:ZL P f (first++ds++caps) s d s')(h:DO F kp dk os (putE H o.dst (.d d)) L s'):DO F kp dk (o::os) H L s :=
 Ze8 hg hk hf ha r hp hq hc (λd' t ⟨i,h2⟩=>by simp only[Res.ret.injEq]at i;subst i;subst h2;exact h) (λd' t ⟨i,_⟩=>by simp at i)
def Zf9{F:Fr P}{kp dk o f os H L s s' B}(hg:Zw H o.guard=sO true){fx xs}(hk:o.k=.call fx xs){p q u first caps es ds}(hf:ZH H true fx=sO (q,.d (.fn (.func u) first caps)))(ha:Yr H true xs=sO (p,es))(r:KA es=sO ds)(hp:p)(hq:q){d}(hc:ZL P u (first++ds++caps) s d s')(hB:Wo f s s' L L B)(h:DOA F kp dk os (putE H o.dst (.d d)) L s' (Wk f B)):DOA F kp dk ((o,f)::os) H L s B :=
 ZhW hg hk hf ha r hp hq hc (λd' t ⟨i,h2⟩=>by simp only[Res.ret.injEq]at i;subst i;subst h2;exact⟨hB,h⟩) (λd' t ⟨i,_⟩=>by simp at i)
def ZwA{F:Fr P}{kp dk o os H L s s'}(hg:Zw H o.guard=sO true){fx xs}(hk:o.k=.call fx xs){p q f es ds}(hf:ZH H true fx=sO (q,.d f))(ha:Yr H true xs=sO (p,es))(u:KA es=sO ds)(hp:p)(hq:q){d}(hc:KC P f ds s λr t=>r=.ret d/\t=s')(h:DO F kp dk os (putE H o.dst (.d d)) L s'):DO F kp dk (o::os) H L s :=
 Zdx hg hk hf ha u hp hq hc (λd' t ⟨i,h2⟩=>by simp only[Res.ret.injEq]at i;subst i;subst h2;exact h) (λd' t ⟨i,_⟩=>by simp at i)
def Zc.le{f args d i}(h:Zc P f args d)(e:d=i):Zc P f args i:=e▸h
end
inductive LeC:List D->List D->Prop where
 |nil:LeC [] []
 |cons {d d':D} {l l':List D} (h:d.Le d') (t:LeC l l'):LeC (d::l) (d'::l')
def LeC.refl(l):LeC l l:=by
 induction l with
 |nil=>exact .nil
 |cons d l ih=>exact .cons (ZHT d) ih
def LeC.len{l l'}(h:LeC l l'):I l=I l':=by
 induction h with
 |nil=>rfl
 |cons _ _ ih=>simp[ih]
def LeC.get{l l'}(h:LeC l l'){i:Nat}{r}(o:l'[i]?=sO r):∃d,l[i]?=sO d/\d.Le r:=by
 induction h generalizing i with
 |nil=>simp at o
 |cons h _ ih =>
  cases i with
  |zero=>simp at o;subst o;exact⟨_,rfl,h⟩
  |succ i=>exact ih (by simpa using o)
def Zjk{cs cs'}(h:LeC cs cs'):(D.agg cs).Le (.agg cs'):=by
 intro g w v o;cases o with
 |agg vs _ hn hr one=>exact .agg vs _ (hn.trans h.len) (λi v d' o u=>by obtain⟨d,r,t⟩:=h.get u;exact t _ _ _ (hr i v d o r)) one
def Zo3{cs cs'}(h:LeC cs cs'):(D.tup cs).Le (.tup cs'):=by
 intro g w v o;cases o with
 |tup vs _ hn hr=>exact .tup vs _ (hn.trans h.len) (λi v d' o u=>by obtain⟨d,r,t⟩:=h.get u;exact t _ _ _ (hr i v d o r))
def ZkW{t n s row}:(D.sl t n s row).Le (.sl .none n s row):=by
 intro g w v i;cases i with
 |sl0 _ _ _ _ ht=>exact .sl0 _ _ _ _ ψ
 |sl b o n cap s row t f hl hc hp hr one ht hcap hb=>exact .sl b o n cap s row _ f hl hc hp hr one trivial hcap hb
def Znj{t}{n s}{row row'}(h:∀i,i<n->LeC (row i) (row' i)):(D.sl t n s row).Le (.sl t n s row'):=by
 intro g w v hv;cases hv with
 |sl0 _ _ _ _ ht=>exact .sl0 _ _ _ _ ht
 |sl b o n cap s row t f hl hc hp hr one ht hcap hb =>exact .sl b o n cap s _ _ f (λi r=>(h i r).len.symm.trans (hl i r)) hc hp (λi j d r hd=>by obtain⟨u,h1,h2⟩:=(h i r).get hd;exact h2 _ _ _ (hr i j u r h1)) one ht hcap hb
def Z1{s row t}(i:∀b,t≠.tip b):D.nilsl.Le (.sl t 0 s row):=by
 intro g w v o;cases o;exact .sl0 _ _ _ _ i
def D.Le.trans{a b c:D}(h:a.Le b)(i:b.Le c):a.Le c:=λg w v o=>i g w v (h g w v o)
def Zca{t n o s row row'}(u:n=o)(h:∀i,i<n->row i=row' i):(D.sl t n s row).Le (.sl .none o s row'):=by
 subst u;exact ZkW.trans (Znj λi r=>by rw[h i r];exact LeC.refl _)
inductive ZrQ:E->E->Prop where
 |d {x y:D} (h:x.Le y):ZrQ (.d x) (.d y)
 |refl (e:E):ZrQ e e
inductive LeE:Env->Env->Prop where
 |nil:LeE [] []
 |cons {t:Nat} {e e':E} {H H':Env} (h:ZrQ e e') (r:LeE H H'):LeE ((t,e)::H) ((t,e')::H')
 |skip {t:Nat} {e:E} {H H':Env} (r:LeE H H'):LeE ((t,e)::H) ((t,e)::H')
inductive LeL:Loc->Loc->Prop where
 |nil:LeL [] []
 |cons {t:Nat} {c c':List D} {H H':Loc} (h:LeC c c') (r:LeL H H'):LeL ((t,c)::H) ((t,c')::H')
 |skip {t:Nat} {c:List D} {H H':Loc} (r:LeL H H'):LeL ((t,c)::H) ((t,c)::H')
def LeE.get{H H'}(h:LeE H H'){t r}(i:Z9 H' t=sO r):∃e,Z9 H t=sO e/\ZrQ e r:=by
 induction h with
 |nil=>simp[Z9]at i
 |cons h _ ih =>simp only[Z9]at i⊢;split at i;simp at i;subst i;rename_i o;rw[if_pos o];exact⟨_,rfl,h⟩;rename_i o;rw[if_neg o];exact ih i
 |skip _ ih =>simp only[Z9]at i⊢;split at i;simp at i;subst i;rename_i o;rw[if_pos o];exact⟨_,rfl,.refl _⟩;rename_i o;rw[if_neg o];exact ih i
def LeL.get{H H'}(h:LeL H H'){t r}(i:Zq H' t=sO r):∃e,Zq H t=sO e/\LeC e r:=by
 induction h with
 |nil=>simp[Zq]at i
 |cons h _ ih =>simp only[Zq]at i⊢;split at i;simp at i;subst i;rename_i o;rw[if_pos o];exact⟨_,rfl,h⟩;rename_i o;rw[if_neg o];exact ih i
 |skip _ ih =>simp only[Zq]at i⊢;split at i;simp at i;subst i;rename_i o;rw[if_pos o];exact⟨_,rfl,LeC.refl _⟩;rename_i o;rw[if_neg o];exact ih i
def LeL.getI{H H'}(h:LeL H H'){t e}(i:Zq H t=sO e):∃e',Zq H' t=sO e':=by
 induction h with
 |nil=>simp[Zq]at i
 |cons h _ ih =>simp only[Zq]at i⊢;split at i;rename_i o;rw[if_pos o];exact⟨_,rfl⟩;rename_i o;rw[if_neg o];exact ih i
 |skip _ ih =>simp only[Zq]at i⊢;split at i;rename_i o;rw[if_pos o];exact⟨_,rfl⟩;rename_i o;rw[if_neg o];exact ih i
def YI.le{g w b ds ds'}(h:YI g w b ds)(o:LeC ds ds'):YI g w b ds':=by
 obtain⟨hp,vs,T,u,h2,h3,h4⟩:=h;exact⟨hp,vs,T,u,h2.trans o.len,λi v d' hv hd=>by obtain⟨d,r,t⟩:=o.get hd;exact t _ _ _ (h3 i v d hv r),h4⟩
def ZM.le{g Z w L v e i}(h:ZM g Z w L v e)(o:ZrQ e i):ZM g Z w L v i:=by
 cases o with
 |refl=>exact h
 |d hd=>exact hd _ _ _ h
def ZB.le{H H':Env}{L L':Loc}(m:ZB g Z w tmps H L s)(hρ:LeE H H')(r:LeL L L'):ZB g Z w tmps H' L' s:={
 st:=m.st
 loc l u h:=by obtain⟨c,o,h2⟩:=r.get h;exact(m.loc l c o).le h2
 locKept l u h:=by obtain⟨c,o,_⟩:=r.get h;exact m.locKept l c o
 locSt l u h:=by obtain⟨c,o,_⟩:=r.get h;exact m.locSt l c o
 inj l l' u cs' h h' hν:=by obtain⟨c,o,_⟩:=r.get h;obtain⟨c',i,_⟩:=r.get h';exact m.inj l l' c c' o i hν
 env t e h:=by
  obtain⟨e0,o,h2⟩:=hρ.get h;exact((m.env t e0 o).le h2).locs λl u hc=>⟨r.getI hc,rfl⟩ }
section
variable {P:Program}
def ZuA{F:Fr P}{dk H H' L L' s}(t:LeE H H')(i:LeL L L')(h:ZA F dk H' L' s):ZA F dk H L s :=
 λk r g Z w tmps o m=>h k r g Z w tmps o (m.le t i)
end
def Wx{H}:LeE H H:=by
 induction H with
 |nil=>exact .nil
 |cons a r ih=>obtain⟨t,e⟩:=a;exact .cons (.refl _) ih
def Y6{H}:LeL H H:=by
 induction H with
 |nil=>exact .nil
 |cons a r ih=>obtain⟨t,e⟩:=a;exact .cons (LeC.refl _) ih
def Zdz{l cs}(i:QZ l=.tup l)(h:LeC l cs):(QZ l).Le (.tup cs):=by rw[i];exact Zo3 h
def K1{d i}(h:d.Le i):(QZ [d]).Le i:=h
def ZfB:Bool->List Nat->St->St->Loc->Loc->List (Nat×Rd)->Prop
 |true,_,_,_,_,_,_=>True
 |false,fl,s,s',L,L',B=>Wo fl s s' L L' B
def Ziq:Bool->List Nat->List (Nat×Rd)->List (Nat×Rd)
 |true,_,B=>B
 |false,fl,B=>Wk fl B
def Zh7(K:Env->Loc->St->Prop)(X:List (DOp×List Nat)->Env->Loc->St->List (Nat×Rd)->Prop):List (DOp×List Nat)->Env->Loc->St->List (Nat×Rd)->Prop
 | [],H,L,s,_=>K H L s
 |o::os,H,L,s,B=>match ZP o.1 H L s with
  |.ok side H' L' s'=>side/\ZfB (WE o.1.k) o.2 s s' L L' B/\Zh7 K X os H' L' s' (ZaP o.1 H++Ziq (WE o.1.k) o.2 B)
  |.all side pre H' s'=>side/\∀b,pre b->ZfB false o.2 s (s' b) L L B/\Zh7 K X os (H' b) L (s' b) (Ziq false o.2 B)
  |.stop=>X (o::os) H L s B
def Zk3{K X}:∀{os H L s B},Zh7 K X os H L s B->Zh6 K X os H L s B
 | [],H,L,s,B,h=>h
 |o::os,H,L,s,B,h=>by simp only[Zh7,Zh6]at h⊢;split at h<;>rename_i i<;>simp only[i];cases t:WE o.1.k;rw[t]at h;exact⟨h.1,h.2.1,Zk3 h.2.2⟩;rw[t]at h;simp only[ZfB,Ziq]at h;exact⟨h.1,Zk3 h.2.2⟩;refine⟨h.1,λb r=>?_⟩;exact⟨(h.2 b r).1,Zk3 (h.2 b r).2⟩;exact h
section
variable {P:Program}
def Yb{F:Fr P}{ks dk os H L s B}(h:Zh7 (λH L s=>ZA F dk (Wh H ks) (Zce (Wh H ks) L) s) (λos H L s B=>DOA F (sO ks) dk os H L s B) os H L s B):DOA F (sO ks) dk os H L s B:=ZkS (Zk3 h)
def Y2{F:Fr P}{kp dk o os H L s0}(s t)(hg:Zw H o.guard=sO true){e sz b z x y}(hk:o.k=.append e sz b z x y){p q n m row row2 dy dx}(hx:ZH H true x=sO (p,.d dx))(hsl:Zfl sz dx=sO (t,n,row))(hy:ZH H true y=sO (q,.d dy))(r:Zah sz dy=sO (m,row2))(hp:p)(hq:q)(hs:s0=s.own t (n*sz))(u:t.okIn s)(hb:(n+m)*b<=140737488355328)(i:n+m<=big)(h:∀t':Tok,t'.okIn s->DO F kp dk os (putE H o.dst (.d (.sl t' (n+m) sz (Yd n row row2)))) L (s.own t' ((n+m)*sz))):
  DO F kp dk (o::os) H L s0:=by
 subst hs;exact Zp0 hg hk hx hsl hy hp hq r u hb i h
def ZrG{F:Fr P}{kp dk o os H L s0}(s t)(hg:Zw H o.guard=sO true){e sz b z x y}(hk:o.k=.append e sz b z x y){p q n m row row2 dy dx}(hx:ZH H true x=sO (p,.d dx))(hsl:Zfl sz dx=sO (t,n,row))(hy:ZH H true y=sO (q,.d dy))(r:Zah sz dy=sO (m,row2))(hp:p)(hq:q)(hs:s0=s.own t (n*sz))(u:t.okIn s)(hb:(n+m)*b<=140737488355328)(i:n+m<=big)(h:∀t':Tok,t'.okIn s->Kl F kp dk os (putE H o.dst (.d (.sl t' (n+m) sz (Yd n row row2)))) L (s.own t' ((n+m)*sz))):
  Kl F kp dk (o::os) H L s0:=by
 subst hs;exact ZtE hg hk hx hsl hy hp hq r u hb i h
def Zdw{F:Fr P}{kp dk o fl os H L s0 B}(s t)(hg:Zw H o.guard=sO true){e sz b z x y}(hk:o.k=.append e sz b z x y){p q n m row row2 dy dx}(hx:ZH H true x=sO (p,.d dx))(hsl:Zfl sz dx=sO (t,n,row))(hy:ZH H true y=sO (q,.d dy))(hel:Zah sz dy=sO (m,row2))(hp:p)(hq:q)(hs:s0=s.own t (n*sz))(hok:t.okIn s)(hb:(n+m)*b<=140737488355328)(u:n+m<=big)(h:∀r:Tok,r.okIn s->ZfB false fl s0 (s.own r ((n+m)*sz)) L L B/\DOA F kp dk os (putE H o.dst (.d (.sl r (n+m) sz (Yd n row row2)))) L (s.own r ((n+m)*sz)) (Ziq false fl B)):
  DOA F kp dk ((o,fl)::os) H L s0 B:=by
 subst hs;refine Zne hg hk hx hsl hy hp hq hel hok hb u λr i=>?_;exact h r i
end
section
variable {P:Program}
def ZE{an f N rs b}(i:cf P an f=sO ⟨N,rs,b⟩){args d s s'}(h:(∀a∈args,DWf a)->∀(F:Fr P),(∀{dk:List QU} {H:Env} {L:Loc} {t:St} {p:Prop} {ds:List D},YP H L t rs=sO (p,ds)->p->(QZ ds).Le d->s'.sub t->ZA F (.code .ret::dk) H L t) ->
   ZA F [.code b] (Za6 0 args) [] s):ZL P f args s d s' :=
 Zjc (Zrx i) λhw=>Zh i λF hF=>h hw F λo r u h4=>hF.ret d s' o r u h4 ⟨rfl,rfl⟩
def VT(P:Program)(f:D)(args:List D)(s:St)(d:D)(s':St):Prop:=KC P f args s λr t=>r=.ret d/\t=s'
def ZL.VT{f first args caps s s' d}(h:ZL P f (first++args++caps) s d s'):VT P (.fn (.func f) first caps) args s d s':=Zf.V h
def Zc.VT{f first args caps d}(h:Zc P f (first++args++caps) d)(s):VT P (.fn (.func f) first caps) args s d s:=Zf.V (h s)
def Zvi{F:Fr P}{kp dk o os H L s s'}(hg:Zw H o.guard=sO true){r xs}(hk:o.k=.call r xs){p q f es ds}(hf:ZH H true r=sO (q,.d f))(t:Yr H true xs=sO (p,es))(i:KA es=sO ds)(hp:p)(hq:q){d}(u:VT P f ds s d s')(h:DO F kp dk os (putE H o.dst (.d d)) L s'):DO F kp dk (o::os) H L s:=ZwA hg hk hf t i hp hq u h
def ZA2{F:Fr P}{kp dk o f os H L s s' B}(hg:Zw H o.guard=sO true){u xs}(hk:o.k=.call u xs){p q fv es ds}(hf:ZH H true u=sO (q,.d fv))(ha:Yr H true xs=sO (p,es))(r:KA es=sO ds)(hp:p)(hq:q){d}(hc:VT P fv ds s d s')(hB:Wo f s s' L L B)(h:DOA F kp dk os (putE H o.dst (.d d)) L s' (Wk f B)):DOA F kp dk ((o,f)::os) H L s B :=
 Zje hg hk hf ha r hp hq hc (λd' t ⟨i,h2⟩=>by simp only[Res.ret.injEq]at i;subst i;subst h2;exact⟨hB,h⟩) (λd' t ⟨i,_⟩=>by simp at i)
def ZzT{F:Fr P}{kp dk o os H L s s'}(hg:Zw H o.guard=sO true){u xs}(hk:o.k=.call u xs){p q fv es ds}(hf:ZH H true u=sO (q,.d fv))(ha:Yr H true xs=sO (p,es))(r:KA es=sO ds)(hp:p)(hq:q){d}(hc:VT P fv ds s d s')(h:Kl F kp dk os (putE H o.dst (.d d)) L s'):Kl F kp dk (o::os) H L s :=
 ZhV hg hk hf ha r hp hq hc (λd' t ⟨i,h2⟩=>by simp only[Res.ret.injEq]at i;subst i;subst h2;exact h) (λd' t ⟨i,_⟩=>by simp at i)
def ZN.leC{g w vs a i}(h:ZN (Rep g w) vs a)(o:LeC a i):ZN (Rep g w) vs i:=by
 induction o generalizing vs with
 |nil=>exact h
 |cons hd _ ih=>cases h with
  |cons h1 h2=>exact .cons (hd g w _ h1) (ih h2)
def Zf.leA{f args i s Φ}(r:LeC args i)(h:Zf P f i s Φ):Zf P f args s Φ :=
 ⟨h.1,λg w u t o=>h.2 g w u t (ZN.leC o r)⟩
def Zc.leA{f args i d}(o:LeC args i)(h:Zc P f i d):Zc P f args d:=λs=>Zf.leA o (h s)
def ZL.leA{f args i d s s'}(o:LeC args i)(h:ZL P f i s d s'):ZL P f args s d s':=Zf.leA o h
def LeC.one{d i}(h:d.Le i):LeC [d] [i]:=.cons h .nil
def LeC.two{d i e o}(h:d.Le i)(r:e.Le o):LeC [d,e] [i,o]:=.cons h (.cons r .nil)
end
def St.or(s t:St):St:=λb=>match s b with
 |some o=>sO o
 |none=>t b
def W5(s t:St)(b o):(s.or t).upd b o=(s.upd b o).or t:=by
 funext c;simp only[St.or,St.upd];by_cases h:c=b<;>simp[h]
def Zt{s t:St}{b o}(h:s b=sO o):(s.or t) b=sO o:=by simp[St.or,h]
def Zz{s t:St}{b}(h:s b=nO):(s.or t) b=t b:=by simp[St.or,h]
def KK{s t:St}:s.sub (s.or t):=λb o h=>Zt h
def Z7(s t:St):Prop:=∀b o,t b=sO o->s b=nO
def or_assoc(s t u:St):(s.or t).or u=s.or (t.or u):=by
 funext b;simp only[St.or];cases s b<;>rfl
def St.single(b:Nat)(o:JW):St:=λc=>if c=b then sO o else nO
def Yt{b o}:(St.single b o) b=sO o:=by simp[St.single]
def ZbA{b c}{o}(h:c≠b):(St.single b o) c=nO:=by simp[St.single,h]
def QD{b o}(h:s b=nO):s.upd b o=s.or (St.single b o):=by
 funext c;simp only[St.or,St.upd,St.single];by_cases i:c=b;subst i;simp[h];simp only[i,if_false];cases s c<;>rfl
def Ko{s b o}(h:s b=nO):Z7 s (St.single b o):=λc x i=>by
 simp only[St.single]at i;split at i;rename_i e;rw[e];exact h;simp at i
def G.keep(g:G)(k:Nat->Prop):G:={ g with kept:=k }
def W6{g k w v d}(h:Rep g w v d):Rep (g.keep k) w v d:=h.mono0 (λ_=>ZH9 _) (λ_ _ _=>rfl) (λ_ _ h=>h)
def ZxG{g k Z w L v e}(h:ZM g Z w L v e):ZM (g.keep k) Z w L v e:=by
 induction e with
 |d d=>exact W6 h
 |loc l off=>exact h
 |when c e ih=>exact⟨λi=>ih (h.1 i),h.2⟩
def Zr1{g k w b ds}(h:YI g w b ds):YI (g.keep k) w b ds:=by
 obtain⟨hp,vs,T,o,r,t,u⟩:=h;exact⟨hp,vs,T,o,r,λi v d hv hd=>W6 (t i v d hv hd),u⟩
def Zn9{g k w b o}(h:WO g w b o):WO (g.keep k) w b o:=by
 cases o with
 |cells ds=>exact Zr1 h
 |map es =>obtain⟨ab,en,u,h1,h2,h3,h4,h5,h6⟩:=h;exact⟨ab,en,u,h1,h2,λi x d hv hd=>W6 (h3 i x d hv hd),λi x d hv hd=>W6 (h4 i x d hv hd),h5,h6⟩
 |tip n=>exact h
 |mapE kp es kk n =>obtain⟨ab,io,ac,en,u,h1,h2,h3,h4,h5,h6,h7⟩:=h;exact⟨ab,io,ac,en,u,h1,h2,λi x d hi hv hd=>W6 (h3 i x d hi hv hd),λi x d hi hv hd=>W6 (h4 i x d hi hv hd),λe he=>⟨W6 (h5 e he).1,(h5 e he).2⟩,h6,h7⟩
 |loop r st =>obtain⟨hp,l,h1,h2,h3,h4,h5,h6,h7,h8,h9⟩:=h;exact⟨hp,l,h1,h2,h3,h4,h5,h6,h7,λt e he=>ZxG (h8 t e he),h9⟩
 |dfr=>exact h
def ZN.imp{α β R S}{i:List α}{bs:List β}(h:ZN R i bs)(o:∀a b,R a b->S a b):ZN S i bs:=by
 induction h with
 |nil=>exact .nil
 |cons h _ ih=>exact .cons (o _ _ h) ih
def ZyK{s t:St}(u:Z7 s t)(h:Ym g (s.or t) w):Ym (g.keep λb=>g.kept b\/(t b).isSome) s w:={
 obj b o hb:=Zn9 (h.obj b o (Zt hb))
 kept b o hb:=by rintro(hk|hk);exact h.kept b o (Zt hb) hk;obtain⟨x,i⟩:=Option.isSome_iff_exists.1 hk;rw[u b x i]at hb;simp at hb
 fresh b hb:=by have r:=h.fresh b hb;refine⟨r.1,?_⟩;rintro(hk|hk);exact r.2 hk;obtain⟨x,i⟩:=Option.isSome_iff_exists.1 hk;have:=(h.obj b x (by rw[Zz (u b x i)];exact i)).lt;omega
 tabs n cs hc:=W6 (h.tabs n cs hc) }
def Zw1{g w w' s t Φ e}(hd:Z7 s t)(h:Ym g (s.or t) w)(hp:Zhh (g.keep λb=>g.kept b\/(t b).isSome) w Φ e w'):
  Zhh g w (λr S=>∃s',Φ r s'/\Z7 s' t/\S=s'.or t) e w':=by
 obtain⟨g',s',r,he,hs,hr,hΦ⟩:=hp;have u:=he.keptEq;have ab:Ext g w (g'.keep g.kept) w':=⟨he.size,he.prot,he.cell,he.hdr,λb hb=>he.kept b (.inl hb),λb hb=>he.keptProt b (.inl hb),rfl,he.os,he.output,he.tape⟩;have ac:Z7 s' t:=λb o hb=>by
  cases i:s' b with
  |none=>rfl
  |some x=>exact absurd (by rw[u];exact .inr (by rw[hb];rfl)) (hs.kept b x i)
 refine⟨g'.keep g.kept,s'.or t,r,ab,⟨λb o hb=>?_,λb o hb=>?_,λb hb=>?_,λn cs hc=>W6 (hs.tabs n cs hc)⟩,?_,s',hΦ,ac,rfl⟩
 .cases i:s' b with
  |some x =>rw[Zt i]at hb;cases hb;exact Zn9 (hs.obj b _ i)
  |none =>rw[Zz i]at hb;have h0:=h.obj b o (by rw[Zz (hd b o hb)];exact hb);have hk:(g.keep λb=>g.kept b\/(t b).isSome).kept b:=.inr (by rw[hb];rfl);exact h0.mono ab (he.kept b hk) (he.keptProt b hk)
 .cases i:s' b with
  |some x=>exact λhk=>hs.kept b x i (by rw[u];exact .inl hk)
  |none =>rw[Zz i]at hb;exact h.kept b o (by rw[Zz (hd b o hb)];exact hb)
 have:=hs.fresh b hb;exact⟨this.1,λhk=>this.2 (by rw[u];exact .inl hk)⟩;cases e<;>cases r<;>simp only[Zgc]at hr⊢;exact W6 hr;obtain⟨v,h1,h2⟩:=hr;exact⟨v,h1,W6 h2⟩
section
variable {P:Program}
def KC.frame{f args s t Φ}(i:Z7 s t)(h:KC P f args s Φ):KC P f args (s.or t) λr S=>∃s',Φ r s'/\Z7 s' t/\S=s'.or t:=by
 intro g w fv vs o hf ha;obtain⟨d,nx,fr,h1,h2,h3,h4⟩:=h _ w fv vs (ZyK i o) (W6 hf) (ha.imp λ_ _=>W6);refine⟨d,nx,fr,h1,h2,h3,λc u=>?_⟩;obtain⟨e,w',h5,h6⟩:=h4 c u;exact⟨e,w',Zw1 i o h5,h6⟩
end
section
variable {P:Program}
def ZiS{an l N r s da db args Φ}(hs:s l=sO (.loop r .ready))(hlen:I args=I r.params)(ha:cc P an N r.assign=sO da)(hb:cc P an N r.body=sO db)(hN:r.N=N)(hp:∀t∈r.params,t<N)(h:∀F:Fr P,Jx F l Φ->F.b.fn=r.fn->ZA F [.code da,.beginR,.code db] (KG r.params args r.H) [] s):KC P (.fn (.yield l) [] []) args s Φ:=by
 intro g w fv vs u hf i;cases hf with
 |fn _ fs ab _ _ hn1 hn2 h1 h2 =>
 obtain rfl:fs=[]:=by simpa using hn1
 obtain⟨hp0,l0,a1,a2,a3,a4,a5,a6,a7,a8,a9,a10⟩:=u.obj l _ hs;have o:vs.toArray.size=l0.params.size:=by
  have e1:=i.len;have e2:I l0.params.toList=I r.params:=by rw[a3]
  simp at e2⊢;omega
 refine⟨_,_,_,by simp[Deferred.ofValue];rfl,by simp[invoke,Instr.yield,Instr.getLoop,Za9 a1,o];rfl,rfl,λc cs=>?_⟩;have M:ZB g (λ_=>0) w l0.tmps r.H [] s:=⟨u,λl cs h=>by simp[Zq]at h,λl cs h=>by simp[Zq]at h,λl cs h=>by simp[Zq]at h,λl l' cs ab h=>by simp[Zq]at h,a8⟩;obtain⟨ac,M'⟩:=Zoi M i hlen (by rw[hN]at *;exact hp) (by rw[<-hN];exact a7);have:=h (Zfd P an r.fn N l c cs Φ) ⟨an,r.fn,N,c,cs,rfl⟩ rfl [.code r.assign,.beginRound,.code r.body] (.code ha (.beginR (.code hb .nil))) g (λ_=>0) w _ ac M';have ad:(Zfd P an r.fn N l c cs Φ).b.atR { tmps:=(r.params.zip vs).foldl (λtmps (x:Nat×Value)=>tmps.setIfInBounds x.1 x.2) l0.tmps,defers:=[] } [.code r.assign,.beginRound,.code r.body] =
   Frame.round l l0.fn ((l0.params.zip vs.toArray).foldl (λtmps (x:Nat×Value)=>tmps.setIfInBounds x.1 x.2) l0.tmps) l0.assign l0.body .normal:=by
  simp only[Frame.atR,Frame.round,a2,a4,a5,<-a3]
  congr 1
  rw[<-Array.foldl_toList];simp
 have e:(Zfd P an r.fn N l c cs Φ).ds=[]:=rfl;rw[e,ad]at this;have e2:(l0.params.zip vs.toArray).size=l0.params.size:=by simp at o⊢;omega
 rw[e2]at this;exact this
def Zjg{F:Fr P}(hr:F.b.roundOf=nO){o ps da db dk H L s p fv}(hf:ZH H true o=sO (p,.d fv))(hp:p)(ks)(hks:(Wh H ks).map (·.1) |>.Nodup)(h:∀q l r,s q=nO->s l=nO->q≠l->r.H=K0 ks H->r.params=ps->r.fn=F.b.fn->cc P F.an F.N r.assign=sO da->cc P F.an F.N r.body=sO db->r.N=F.N->(∀t∈ps,t<F.N) ->
   ∃Ψ,KC P fv [.fn (.yield l) [] []] ((s.upd q .dfr).upd l (.loop r .ready)) Ψ/\(∀d s',Ψ (.ret d) s'->Zp5 (F.mark q) l r dk H L s')/\(∀d s',Ψ (.panic d) s'->WB (F.mark q) H L d s')):
  ZA F (.code (.rangeF o ps da db)::dk) H L s:=by
 intro k hk;cases hk with
 | @code _ _ kt _ hc ht =>
 obtain⟨f',al,a',b',rfl,ar,ay,ha,hb,aw⟩:=ZwG hc;intro g Z w tmps hN m;have au:Rep g w _ fv:=Yh m ar rfl hf hp F.ds;have ah:=ZfA (g:=g) (w:=w) (.deferred (sO [])) m.st.fresh;have af:=ah.ext m.st.fresh;obtain⟨hq,m1⟩:=m.newObj ah (o:=.dfr) ⟨(m.st.fresh _ (ZH9 _)).1,JD w⟩;let w1:=w.alloc (.deferred (sO []));let lp:Go.Loop:={ state:=.ready,pending:=nO,fn:=F.b.fn,tmps:=tmps,params:=al,assign:=a',body:=b',defers:=w.heap.size };let r:Zhf:={ fn:=F.b.fn,params:=ps,assign:=a',body:=b',defers:=w.heap.size,H:=K0 ks H,N:=F.N };have ai:=ZfA (g:=g) (w:=w1) (.loop lp) m1.st.fresh;have ad:=ai.ext m1.st.fresh;obtain⟨hl,m2⟩:=m1.newObj ai (o:=.loop r .ready) ⟨(m1.st.fresh _ (ZH9 _)).1,lp,JD w1,rfl,ay,rfl,rfl,rfl,hN,λt e aq=>by
  obtain⟨h1,h2⟩:=Zig hks aq;exact Zv8 (((m1.env t e (Zgj H ks t e h1))).mono ad) h2,rfl,rfl⟩
 have hqsz:w1.heap.size=w.heap.size+1:=by simp[w1]
 have av:s w1.heap.size=nO:=by have ax:¬w1.heap.size=w.heap.size:=ω;have h0:(s.upd w.heap.size .dfr) w1.heap.size=nO:=hl;simp[St.upd,ax]at h0;exact h0
 obtain⟨Ψ,hV,ak,aj⟩:=h w.heap.size w1.heap.size r hq av ω rfl rfl rfl ha hb rfl aw;have ae:Rep g (w1.alloc (.loop lp)) _ fv:=(au.mono af).mono ad;obtain⟨d,nx,fr,am,ao,ap,hC⟩:=hV (Zh2 g Z L) (w1.alloc (.loop lp)) _ [.func (.yield w1.heap.size) #[] #[]] m2.callSt (Kg ae rfl) (.cons (.fn (.yield w1.heap.size) [] [] [] [] rfl rfl ψ ψ) .nil);have ac:(Instr.enterLoop F.b.fn tmps al a' b' F.b.roundOf).run P w=.ok (w1.heap.size,[{ target:=.collected w.heap.size,args:=#[] }]) (w1.alloc (.loop lp)):=by rw[hr];simp[Instr.enterLoop,w1,lp]
 have ab:=ZpP (P:=P) (b:=F.b) (a:=⟨tmps,F.ds⟩) (k:=kt) (cs:=F.cs) ac am ao ap;obtain⟨e,w',⟨g',s',res,x1,x2,x3,x4⟩,i⟩:=hC (F.b.atR { tmps:=tmps,defers:=[{ target:=.collected w.heap.size,args:=#[] }]++F.ds } (.inRangeFunc w1.heap.size::kt)) F.cs;obtain⟨ag,hm⟩:=m2.afterCall x1 x2;have u:=(af.trans ad).trans ag;cases e with
 |returned v =>
  cases res with
  |panic d=>exact x3.elim
  |ret d =>refine F.T.back _ _ _ _ (.head ab i) ?_;exact F.T.ext _ _ _ _ _ u (Zv2 (F:=F.mark w.heap.size) ht hN hm (ak d s' x4))
 |panicked ch =>
  cases res with
  |ret d=>exact x3.elim
  |panic d =>obtain⟨v,rfl,hv⟩:=x3;refine F.T.back _ _ _ _ (.head ab i) ?_;exact F.T.ext _ _ _ _ _ u (aj d s' x4 _ _ _ v _ _ hN hm (Kg hv rfl))
 |outgrown=>exact i.elim
def Znl{F:Fr P}{H L d s s'}(t:s'.sub s)(h:WB F H L d s'):WB F H L d s :=
 λg Z w v i tmps o m r=>h g Z w v i tmps o (m.sub t) r
inductive Oc where
 |next
 |stop (c:Code)
 |pan (d:D)
def Oc.res:Oc->Res
 |.next=>.ret (.bool true)
 |.stop _=>.ret (.bool false)
 |.pan d=>.panic d
def Zdv(P:Program)(y:D)(n:Nat)(args:Nat->List D)(go:Nat->Oc)(A:Nat->St->Prop):Prop :=
 ∀j,j<n->(∀i,i<j->go i=.next)->∀a,A j a->KC P y (args j) a λr a'=>r=(go j).res/\A (j+1) a'
inductive Zea(n:Nat)(go:Nat->Oc)(A:Nat->St->Prop)(a:St):Res->Prop where
 |all (h:∀i,i<n->go i=.next) (ha:A n a):Zea n go A a (.ret (.tup []))
 |stop (m:Nat) (c:Code) (hm:m<n) (h:∀i,i<m->go i=.next) (hc:go m=.stop c) (ha:A (m+1) a):Zea n go A a (.ret (.tup []))
 |pan (m:Nat) (d:D) (hm:m<n) (h:∀i,i<m->go i=.next) (hc:go m=.pan d) (ha:A (m+1) a):Zea n go A a (.panic d)
def Zdy(P:Program)(fv:D)(n:Nat)(args:Nat->List D)(t:St):Prop :=
 ∀(y:D) (go:Nat->Oc) (A:Nat->St->Prop) (a0:St),Zdv P y n args go A->A 0 a0->Z7 a0 t->KC P fv [y] (a0.or t) λr S=>∃a,Zea n go A a r/\a.sub S
def lpS(q l:Nat)(r:Zhf)(st:LSt):St:=(St.single q .dfr).or (St.single l (.loop r st))
structure Zmx(F:Fr P)(busy:St)(E:Oc->St->Prop):Prop where
 fin:∀{H:Env} {L:Loc} {S a:St},E .next a->Z7 a busy->(a.or busy).sub S->ZA F [] H L S
 ret:∀{dk:List QU} {H:Env} {L:Loc} {S a:St},E (.stop .ret) a->Z7 a busy->(a.or busy).sub S->ZA F (.code .ret::dk) H L S
 exit:∀{id:Nat} {dk:List QU} {H:Env} {L:Loc} {S a:St},JG id dk=none->E (.stop (.exit id)) a->Z7 a busy->(a.or busy).sub S->ZA F (.code (.exit id)::dk) H L S
 pan:∀{H:Env} {L:Loc} {d:D} {S a:St},E (.pan d) a->Z7 a busy->(a.or busy).sub S->WB F H L d S
def Y0.ex{F:Fr P}{rs Φ dds}(o:Y0 F rs Φ dds):∃f,P.funcs[F.b.fn]?=sO f:=by
 obtain⟨an,f,df,cs,r,hrs,rfl⟩:=o;obtain⟨i,h,_⟩:=Zrx r;exact⟨i,h⟩
def Kv{q l r st}:(lpS q l r st) q=sO .dfr:=Zt Yt
def WQ{q l r st}(h:q≠l):(lpS q l r st) l=sO (.loop r st):=by
 unfold lpS;rw[Zz (ZbA (Ne.symm h))];exact Yt
def Zbu{q l c r st}(i:c≠q)(o:c≠l):(lpS q l r st) c=nO:=by
 unfold lpS;rw[Zz (ZbA i)];exact ZbA o
def Zin{q l r r' st st' a}(h:Z7 a (lpS q l r st))(hq:q≠l):Z7 a (lpS q l r' st'):=λb o u=>by
 by_cases i:b=q;rw[i];exact h q _ Kv;by_cases t:b=l;rw[t];exact h l _ (WQ hq);rw[Zbu i t]at u;grind
def Zpq{q l r st st' a S}(hq:q≠l)(hd:Z7 a (lpS q l r st))(hs:(a.or (lpS q l r st)).sub S):(a.or (lpS q l r st')).sub (S.upd l (.loop r st')):=λb o i=>by
 by_cases t:b=l;subst t;rw[Zz (hd b _ (WQ hq)),WQ hq]at i;rw[St.upd_same];exact i;rw[St.upd_ne _ _ t];refine hs b o ?_;by_cases u:b=q;subst u;rw[Zz (hd b _ Kv),Kv]at i⊢;exact i;cases ha:a b with
 |some x=>rw[Zt ha]at i⊢;exact i
 |none=>rw[Zz ha,Zbu u t]at i;grind
def Zmk{F:Fr P}{q l:Nat}{r:Zhf}(o:Jx F l Φ)(i:q≠l)(u:∃f,P.funcs[F.b.fn]?=sO f){E:Oc->St->Prop}(t:∀oc a,E oc a->Z7 a (lpS q l r .busy)->Φ oc.res (a.or (lpS q l r (match oc with|.next=>.ready|.stop c=>.done c|.pan _=>.busy)))):Zmx F (lpS q l r .busy) E:={
 fin he hd hs:=o.fin (s':=_) (hs l _ (by rw[Zz (hd l _ (WQ i))];exact WQ i)) (Zpq i hd hs) (t .next _ he hd)
 ret he hd hs:=o.ret (hs l _ (by rw[Zz (hd l _ (WQ i))];exact WQ i)) (Zpq i hd hs) (t (.stop .ret) _ he hd)
 exit hx he hd hs:=o.exit hx (hs l _ (by rw[Zz (hd l _ (WQ i))];exact WQ i)) (Zpq i hd hs) (t (.stop (.exit _)) _ he hd)
 pan he hd hs:=o.pan hs (t (.pan _) _ he hd) λan fn N c cs e=>by
  obtain⟨f,hf⟩:=u;refine⟨f,?_⟩;have:F.b.fn=fn:=by rw[e];rfl
  rw[<-this];exact hf }
end
end Go.DL
namespace Go.DL
open Go Go.Lib
variable [Zo5]
section
variable {P:Program}
def ZeJ{F:Fr P}{kp dk o os H L s}(hg:Zw H o.guard=sO true){e sz b z x y}(hk:o.k=.append e sz b z x y)
  {p q t n m row row2 dy dx} (hx:ZH H true x=sO (p,.d dx)) (hsl:Zfl sz dx=sO (t,n,row)) (hy:ZH H true y=sO (q,.d dy)) (hp:p) (hq:q) (hel:∀g w v,Rep g w v dy->∃news,Ka g w sz m news row2/\ZbV P w sz m v news) (hok:t.okIn s)
  (hb:(n+m)*b<=140737488355328) (hbig:n+m<=big) (h:∀t':Tok,t'.okIn s->DO F kp dk os (putE H o.dst (.d (.sl t' (n+m) sz (Yd n row row2)))) L (s.own t' ((n+m)*sz))) :
  DO F kp dk (o::os) H L (s.own t (n*sz)):=by
 refine WN λoo g Z w tmps bh i r k ay ab aq ai hd hN M hr ar=>?_;have hw:=Yo M aq hg;have aw:=Yu ab (by rw[hk];rfl);rw[hk]at ab;obtain⟨x',y',ag,ak,t1,t2,tu,az,u,al,am,ba,bb,ax,a9,hz,ao,bc,be,h0,hzl⟩:=ZcH ab;subst ao;have a0:Rep g w _ (.sl t n sz row):=ZkZ (Yh M bc rfl hx hp F.ds) hsl;have a8:Rep g w _ _:=Yh M be rfl hy hq F.ds;obtain⟨zv,hz1,bf,hz3,ie,ac,bg⟩:=JC (g:=g) (w:=w) hz;have ae:ie.size=sz:=by simpa[ZX,ac]using a9
 have af:zv.cells.size=sz:=by have:=bf.len;simp at this;omega
 have ap:P.bytesOf e=ie.bytes:=by simp[Program.bytesOf,ac]
 rw[ap]at hb;obtain⟨news,au,av⟩:=hel _ _ _ a8;obtain⟨v',w',g',t',a1,a2,a3,a4,a5,a6,a7⟩:=ZwC (ty:=oo.type) ba bb ax ac bg ae af h0 M.st hok a0 au av hb hbig;have ad:∀l cs,Zq L l=sO cs->t≠.tip (Z l):=λl cs hl ht=>by have:=M.locSt l cs hl;rw[ht]at this;simp[St.own,St.upd]at this
 have aj:∀l cs,Zq L l=sO cs->s (Z l)=nO:=λl cs hl=>by
  cases hx:s (Z l) with
  |none=>rfl
  |some o=>have:=Yj (k:=n*sz) hok _ _ hx;rw[M.locSt l cs hl]at this;simp at this
 have mm:ZB g' Z w' tmps H L (s.own t' ((n+m)*sz)):=by
  refine⟨a3,λl cs hl=>(M.loc l cs hl).mono a2 (a6 (Z l) (M.loc l cs hl).lt (ad l cs hl)).1 (a6 (Z l) (M.loc l cs hl).lt (ad l cs hl)).2,λl cs hl=>by rw[a2.keptEq];exact M.locKept l cs hl,λl cs hl=>?_,M.inj,λt e he=>(M.env t e he).mono a2⟩;cases t' with
  |tip b =>
   have:¬Z l=b:=λhb=>by rcases a7 b rfl with h1|h1;exact ad l cs hl (by rw[hb];exact h1);have:=(M.loc l cs hl).lt;omega
   simp only[St.own,St.upd,this,if_false];exact aj l cs hl
  |_=>exact aj l cs hl
 refine YS hN ay ai hd hw aw (v:=v') (w':=w') (e:=.d (.sl t' (n+m) sz (Yd n row row2))) ?_ a2 mm a5 (h t' a4 bh r k hr ar);have an:ag = #[x',y']:=by apply Array.ext';simpa using u
 have ah:∀vs,Builtin.append_ ak oo.type vs=Builtin.append_ #[t1,t2] oo.type vs:=λvs=>by unfold Builtin.append_;simp[al,am]
 unfold execOp;simp only[az,an,resolve,invoke,builtin,Sem.run_bind,Sem.run_pure,Result.andThen_ok,List.map_toArray,ZIo,List.map_nil,ah,a1]
def Zgn{g w v b off cap sz}(h:Rep g w v (.msl b off 0 cap sz)):∃news,Ka g w sz 0 news (λ_=>[])/\ZbV P w sz 0 v news:=by
 cases h with
 |mslx a _ _ _=>exact⟨[],⟨ψ,λi r=>by omega,λi j v d r=>by omega,ψ⟩,λo=>by simp[Builtin.lenOf],λo _=>by simp[Builtin.firstCells,loadCells,loadCellsFrom]⟩
 |msl _ _ _ _ _ hn hb=>exact⟨[],⟨ψ,λi r=>by omega,λi j v d r=>by omega,ψ⟩,λo=>by simp[Builtin.lenOf],λo _=>run_firstCells_some (P:=P) o sz 0 ⟨b,off,nO⟩ 0 cap [] ψ (λk v t=>by simp at t)⟩
def ZeK{F:Fr P}{dk H L s}(t){tk sz row}(ht:Z9 H t=sO (.d (.sl tk 0 sz row)))(h1:ZA F dk ((t,.d .nilsl)::H) L s)
  (h2:∀b off cap,ZA F dk ((t,.d (.msl b off 0 cap sz))::H) L s):ZA F dk H L s:=by
 intro k hk g Z w tmps u m;have hr:Rep g w (tmps.getD t undef) (.sl tk 0 sz row):=m.env t _ ht;have i:∀d,Rep g w (tmps.getD t undef) d->ZB g Z w tmps ((t,.d d)::H) L s:=λd hd=>⟨m.st,m.loc,m.locKept,m.locSt,m.inj,λt' e' r=>by
  simp only[Z9]at r;split at r;rename_i hx;subst hx;simp only[ZHQ]at r;subst r;exact hd;exact m.env t' e' r⟩
 generalize tmps.getD t undef=v at hr i;cases hr with
 |sl0 a _ _ _ _ =>
  cases a with
  |none=>exact h1 k hk g Z w tmps u (i _ .nilsl)
  |some a=>exact h2 0 0 0 k hk g Z w tmps u (i _ (.mslx a 0 0 _))
 |sl b o n cap s row t f hl hc hp hr one ht hcap hb=>exact h2 b o cap k hk g Z w tmps u (i _ (.msl _ _ _ _ _ hcap hb))
end
end Go.DL
namespace Go.DL
open Go
variable [Zo5]
variable {kp:Option (List Nat)}{L:Loc}{H:Env}{s:St}{w:World}{os:List DOp}{ds:List D}{B:List (Nat × Rd)}{dst:Option Nat}{tmps:Array Value}{g:G}{Φ:Res->St->Prop}{Z:Nat->Nat}{xs:List Opd}{side:Prop}{row:Nat->List D}
section
variable {P:Program}
def ZsT{a:St}{q o}(h:a q=nO):(a.or (St.single q o)).del q=a:=by
 funext b;simp only[St.del];by_cases i:b=q;rw[if_pos i,i,h];rw[if_neg i];cases r:a b with
 |some x=>exact Zt r
 |none=>rw[Zz r];exact ZbA i
def Y0.retM{F:Fr P}{rs Φ dds}(o:Y0 F rs Φ dds){q a dk H L}(i:a q=nO)(h:Unw P dds nO a (Zni H L rs Φ)):
  ZA (F.mark q) (.code .ret::dk) H L (a.or (St.single q .dfr)) :=
 (o.mark q).retU ⟨by rw[Zz i];exact Yt,by rw[ZsT i];exact h⟩
def Y0.ret1{F:Fr P}{rs Φ}(hF:Y0 F rs Φ []){q a dk H L}(hq:a q=nO){p ds}(d s')(i:YP H L a rs=sO (p,ds))(o:p)(r:(QZ ds).Le d)(t:s'.sub a)(u:Φ (.ret d) s'):
  ZA (F.mark q) (.code .ret::dk) H L (a.or (St.single q .dfr)):=hF.retM hq ⟨p,ds,d,s',i,o,r,t,u⟩
def Y0.fin1{F:Fr P}{rs Φ}(hF:Y0 F rs Φ []){q a H L}(i:a q=nO){p ds}(d s')(o:YP H L a rs=sO (p,ds))(r:p)(t:(QZ ds).Le d)(u:s'.sub a)(h5:Φ (.ret d) s'):
  ZA (F.mark q) [] H L (a.or (St.single q .dfr)) :=
 (hF.mark q).finU ⟨by rw[Zz i];exact Yt,by rw[ZsT i];exact⟨p,ds,d,s',o,r,t,u,h5⟩⟩
def Y0.pan1{F:Fr P}{rs Φ}(t:Y0 F rs Φ []){q a H L d}(i:a q=nO)(s')(o:s'.sub a)(r:Φ (.panic d) s'):WB (F.mark q) H L d (a.or (St.single q .dfr)) :=
 (t.mark q).panU ⟨by rw[Zz i];exact Yt,by rw[ZsT i];exact⟨d,s',ZHT d,o,r⟩⟩
def ZjD{a t}(h:Z7 a t){q o}(i:t q=sO o):a q=nO:=h q o i
end
section
variable {P:Program}
def Q3{F:Fr P}{dk H L s b ds ds'}(h:s b=sO (.cells ds))(hl:LeC ds ds')(k:ZA F dk H L (s.upd b (.cells ds'))):ZA F dk H L s:=by
 intro kk hk g Z w tmps u m;have hc:YI g w b ds:=m.st.obj b _ h;exact k kk hk g Z w tmps u ⟨m.st.updL (o:=.cells ds') (hc.le hl) (m.st.kept b _ h),m.loc,m.locKept,λl r t=>by
  have i:Z l≠b:=λe=>by have:=m.locSt l r t;rw[e,h]at this;simp at this
  rw[St.upd_ne _ _ i];exact m.locSt l r t,m.inj,m.env⟩
end
def ZxK{s cs r}:∀{len},I cs=len*s->(∀i,i<len->part cs (i*s) s=r i)->cs=(ZH5 len).flatMap r:=by
 intro len u hr;have o:∀k,k<=len->cs.take (k*s)=(ZH5 k).flatMap r:=by
  intro k;induction k with
  |zero=>intro _;simp
  |succ k ih =>
   intro t;rw[List.range_succ,List.flatMap_append,<-ih ω,ZIp,Nat.one_mul,List.take_add]
   congr 1
   simp only[List.flatMap_cons,List.flatMap_nil,ZIj];rw[<-hr k t];rfl
 have:=o len (ZH9 _);rw[<-u,ZIb]at this;exact this
def ZjQ(c:Array Value)(T:TypeId)(i:∀b,w.heap.size<=b->g.prot b=0/\¬g.kept b):ZaC g w g (w.drew.alloc (.cells c T)):={
 size:=by simp
 old b hb:=(by first|exact heap_alloc_old w.drew _ b hb|exact heap_alloc_old w.drew _ hb)
 prot b hb:=rfl
 fresh b hb:=by
  have:(w.drew.alloc (.cells c T)).heap.size=w.heap.size+1:=by simp
  rw[this]at hb;exact(i b ω).1
 kept:=rfl
 os:=rfl
 output:=rfl
 tape:=rfl }
section
variable {P:Program}
def Zz5{g w len s z t e}{parts:List (Nat×Value)}{ds}(hu:P.underlying t=sO (.slice e))(hsz:ZX P e=sO s)(hz:ZaL P e=sO z)(hdis:QX len (parts.map (·.1))=true)(hzl:I z=s)(hs0:0<s)(hbig:len*s<=2 ^ 24)(hl0:0<len)(hd:ZN (Rep g w) (parts.map (·.2)) ds)(hp:Zam s ds=true):
  ∃cv:Array Value,(Instr.buildSlice t len parts.toArray).run P w=.ok (.slice (sO ⟨w.heap.size,0,nO⟩) len len) (w.alloc (.cells cv e)) /\
   ZN (Rep g w) cv.toList ((ZH5 len).flatMap (ZI z ((parts.map (·.1)).zip ds)))/\∀v∈cv,v.one1=true:=by
 obtain⟨zv,hz1,aj,ao,ie,ag,aq⟩:=JC (g:=g) (w:=w) hz;have o:ie.size=s:=by simpa[ZX,ag]using hsz
 have u:zv.cells.size=s:=by have:=aj.len;simp at this;omega
 have hn:(parts.map (·.1)).length=I ds:=by have:=hd.len;simpa using this
 let c0:Array Value:=(Array.range (len*s)).map (zv.cells[· % zv.cells.size]!);let d0:List D:=(ZH5 (len*s)).map λi=>z.getD (i % s) .undef;have ae:ZN (Rep g w) c0.toList d0:=by refine Yn (by simp[c0,d0]) (λi v d hv hd=>?_);simp only[c0,d0,Array.toList_map,Array.toList_range,List.getElem?_map,ZH8]at hv hd;obtain⟨a,ha,rfl⟩:=hv;obtain⟨b,hb,rfl⟩:=hd;rw[ha]at hb;simp only[ZHQ]at hb;subst hb;have r:a % s<s:=Nat.mod_lt _ hs0;refine aj.get (a % s) _ _ ?_ ?_;rw[u];simp[getElem!_pos,u,r];simp[ZH6,hzl,r]
 have ad:∀v∈c0,v.one1=true:=λv hv=>by simp only[c0,Array.mem_map]at hv;obtain⟨a,_,rfl⟩:=hv;have r:a % zv.cells.size<zv.cells.size:=Nat.mod_lt _ ω;rw[getElem!_pos zv.cells (a % zv.cells.size) r];exact ao _ (Array.getElem_mem r)
 have ac:I d0=len*s:=by simp[d0]
 obtain⟨cs,ab,ak,af⟩:=ZjK (parts.map (·.1)) ds d0 hdis hn hp ac;obtain⟨cv,al,am,an⟩:=Zhu (g:=g) (w:=w) (λi=>sO (i*s,s)) parts ((parts.map (·.1)).map λi=>(i*s,s)) ds cs d0 c0 (λi x q hx hq=>by
  simp only[List.map_map,List.getElem?_map,hx,Option.map_some,ZHQ,Function.comp_def]at hq;rw[<-hq]) ψ hd ae ad ab
 have ah:¬len*s=0:=by simp[Nat.mul_eq_zero];omega
 have ai:=run_buildSlice (P:=P) w t e len parts.toArray cv ie zv hu ag aq (by rw[o];omega) (by rw[o];exact ah) (by rw[o];exact al);refine⟨cv,ai,?_,an⟩;have:cs=(ZH5 len).flatMap (ZI z ((parts.map (·.1)).zip ds)):=ZxK ak λi hi=>by rw[af i hi];have ap:part d0 (i*s) s=z:=ZkQ hzl hs0 hi;rw[ap]
 rw[<-this];exact am
def ZzW{F:Fr P}{kp dk o os H L s}(hg:Zw H o.guard=sO true){len n z is xs}(hk:o.k=.bsl len n z is xs){p es ds}(ha:Yr H true xs=sO (p,es))(hds:KA es=sO ds)(hp:p)(hok:Zam n ds=true)(hl0:0<len)(h:∀b,s b=nO->DO F kp dk os (putE H o.dst (.d (.msl b 0 len len n))) L (s.upd b (.cells ((ZH5 len).flatMap (ZI z (is.zip ds)))))):DO F kp dk (o::os) H L s:=by
 refine WN λoo g Z w tmps av i r k ao ab ak ag hd hN m hr al=>?_;have hw:=Yo m ak hg;have am:=Yu ab (by rw[hk];rfl);rw[hk]at ab;obtain⟨t,e,parts,ap,hu,aq,hz,ar,rfl,af,au,aj,ae⟩:=ZwI ab;have u:=ZcM m rfl F.ds ar ha hp;have ac:=QB u hds;obtain⟨cv,h1,h2,h3⟩:=Zz5 (P:=P) (g:=g) (w:=w) (parts:=parts.toList.map λx=>(x.1,(Act.mk tmps F.ds).eval x.2)) hu aq hz (by simpa[List.map_map,Function.comp_def]using af) au aj ae hl0
  (by simpa[List.map_map,Function.comp_def]using ac) hok
 have ad:ZN (Rep g w) cv.toList ((ZH5 len).flatMap (ZI z ((parts.toList.map (·.1)).zip ds))):=by simpa[List.map_map,Function.comp_def]using h2
 have ah:=ZfA (g:=g) (w:=w) (.cells cv e) m.st.fresh;have he:=ah.ext m.st.fresh;have an:WO g (w.alloc (.cells cv e)) w.heap.size (.cells ((ZH5 len).flatMap (ZI z ((parts.toList.map (·.1)).zip ds)))) :=
  ⟨(m.st.fresh _ (ZH9 _)).1,_,e,JD w,by rw[<-ad.len];simp,λi v d hv hd=>(ad.get i v d (by simpa using hv) hd).mono he,h3⟩
 obtain⟨hn,m'⟩:=m.newObj ah an;have ai:(execOp (Act.mk tmps F.ds).eval oo).run P w=.ok (.value (.slice (sO ⟨w.heap.size,0,nO⟩) len len)) (w.alloc (.cells cv e)):=by
  simp only[execOp,ap,Sem.run_bind];have e1:(parts.map λx=>(x.1,(Act.mk tmps F.ds).eval x.2))=(parts.toList.map λx=>(x.1,(Act.mk tmps F.ds).eval x.2)).toArray:=by apply Array.ext';simp
  rw[e1,h1];rfl
 refine YS (L':=L) hN ao ag hd hw am (e:=.d (.msl w.heap.size 0 len len n)) ai he m' (Rep.msl _ _ _ _ _ (ZH9 _) ?_) ?_;unfold big;have:len<=len*n:=Nat.le_mul_of_pos_right _ aj;omega;exact h _ hn av r k hr al
def ZoJ(o:DOp)(H:Env)(L:Loc)(s:St):SR :=
 match o.k with
 |.bsl _ _ _ _ _=>.stop
 |_=>ZP o H L s
def Zk4(K:Env->Loc->St->Prop)(X:List DOp->Env->Loc->St->Prop):List DOp->Env->Loc->St->Prop
 | [],H,L,s=>K H L s
 |o::os,H,L,s=>match ZoJ o H L s with
  |.ok side H' L' s'=>side/\Zk4 K X os H' L' s'
  |.all side pre H' s'=>side/\∀b,pre b->Zk4 K X os (H' b) L (s' b)
  |.stop=>X (o::os) H L s
def ZkU{F:Fr P}{kp}{dk}:∀{os} {H} {L} {s},
  Zk4 (λH L s=>ZA F dk (kept kp H) (Zk9 kp H L) s) (λos H L s=>DO F kp dk os H L s) os H L s->DO F kp dk os H L s
 | [],H,L,s,h=>Zhd h
 |o::os,H,L,s,h=>by
  have i:∀r,ZoJ o H L s=r->r=.stop\/ZP o H L s=r:=λr t=>by unfold ZoJ at t;split at t;exact .inl t.symm;exact .inr t
  simp only[Zk4]at h;split at h;rename_i sd H' L' s' u;rcases i _ u with h2|h2;cases h2;exact Jw h2 h.1 (ZkU h.2);rename_i sd pre H' s' u;rcases i _ u with h2|h2;cases h2;exact Zng h2 h.1 λb hb=>ZkU (h.2 b hb);exact h
def ZuF{g w s sz m v1 v2 row row2 tT u ty e tu i z}(ht:P.underlying tT=sO (.slice e))(hu:P.underlying u=sO tu)(hnu:∀k,tu≠.int k)(hi:P.info? e=sO i)(hz:i.zero=sO z)(hsz:i.size=sz)(hzc:z.cells.size=sz)(hone:∀x∈z.cells,x.one1=true)(h0:0<sz)(hs:Ym g s w)(h1:Rep g w v1 (.sl .full 0 sz row)){news}(hm:0<m)(h2:Ka g w sz m news row2)(h3:ZbV P w sz m v2 news)(hb:m*i.bytes<=140737488355328)(hbig:m<=big):
    ∃(cap:Nat) (cv:Array Value),(Builtin.append_ #[tT,u] ty #[v1,v2]).run P w=.ok (.slice (sO ⟨w.heap.size,0,nO⟩) m cap) (w.drew.alloc (.cells cv e))/\m<=cap/\cap<=big/\cv.size=cap*sz/\(∀v∈cv,v.one1=true) /\
      ∀(k:Nat) (v d),cv[k]?=sO v->((ZH5 m).flatMap row2++List.replicate ((cap-m)*sz) .any)[k]?=sO d->Rep g w v d:=by
  subst hsz;have r:∀ab,v1=.slice ab 0 0->∃(cap:Nat) (cv:Array Value),(Builtin.append_ #[tT,u] ty #[v1,v2]).run P w=.ok (.slice (sO ⟨w.heap.size,0,nO⟩) m cap) (w.drew.alloc (.cells cv e))/\m<=cap/\cap<=big/\cv.size=cap*i.size/\(∀v∈cv,v.one1=true) /\
      ∀(k:Nat) (v:Value) (d:D),cv[k]?=sO v->((ZH5 m).flatMap row2++List.replicate ((cap-m)*i.size) .any)[k]?=sO d->Rep g w v d:=by
    intro ab hv;subst hv;obtain⟨aj,ao,ho1,an⟩:=ZiA (P:=P) h1 h0;have am:aj=[]:=List.eq_nil_of_length_eq_zero (by simpa using ao.len);subst am;have ho:=an;have ac:=ZmE (ty:=ty) (n:=0) (cap:=0) ht hu hnu hi hz h3 ho ω (by simp only[big]at hbig;omega) (by rw[Nat.zero_add];exact hb);rw[Nat.zero_add]at ac;have ak:=grownCap_ge w m 0 e;have al:=grownCap_le_maxLen w m 0 e (by simp only[big]at hbig;simp only[maxLen];omega);refine⟨_,_,ac,ak,by simp only[maxLen]at al;simp only[big];omega,?_,λv hv=>?_,λk v d hv hd=>?_⟩;simp only[List.nil_append,List.size_toArray,ZHX,h2.len,Array.length_toList,size_zeroCells,hzc,<-ZIp]
    congr 1;omega
    . simp only[List.nil_append,List.mem_toArray,List.mem_append]at hv;rcases hv with hv|hv;exact h2.one v hv;simp only[Builtin.zeroCells,Array.mem_toList_iff]at hv;first
      | (simp only[Array.mem_map,Array.mem_range]at hv
         obtain⟨a,_,rfl⟩:=hv;have ag:a % z.cells.size<z.cells.size:=Nat.mod_lt _ ω;rw[getElem!_pos z.cells (a % z.cells.size) ag];exact hone _ (Array.getElem_mem ag))
    simp only[List.nil_append,List.getElem?_toArray]at hv;have af:((ZH5 m).flatMap row2).length=m*i.size:=by
      have:∀k,k<=m->((ZH5 k).flatMap row2).length=k*i.size:=by
        intro k;induction k with
        |zero=>intro _;simp
        |succ k ih =>intro hk;rw[List.range_succ,List.flatMap_append,ZHX,ih ω];simp[h2.rlen k hk,ZIp]
      exact this m (ZH9 _)
    by_cases hk:k<m*i.size
    . rw[ZIm (by rw[h2.len];exact hk)]at hv;rw[ZIm (by rw[af];exact hk)]at hd;have ai:k / i.size<m:=Nat.div_lt_of_lt_mul (by rw[Nat.mul_comm];exact hk);have ah:k % i.size<i.size:=Nat.mod_lt _ h0;have e1:k / i.size*i.size+k % i.size=k:=by rw[Nat.mul_comm];exact Nat.div_add_mod k i.size
      refine h2.rep (k / i.size) (k % i.size) v d ai ah (by rw[e1];exact hv) ?_;have ap:∀q,q<=m->∀a b,a<q->b<i.size->((ZH5 q).flatMap row2)[a*i.size+b]?=(row2 a)[b]?:=by
        intro q;induction q with
        |zero=>intro _ a b ha;omega
        |succ q ih =>
          intro hq a b ha hb;have ad:((ZH5 q).flatMap row2).length=q*i.size:=by
            have:∀k,k<=m->((ZH5 k).flatMap row2).length=k*i.size:=by
              intro k;induction k with
              |zero=>intro _;simp
              |succ k ih =>intro hk;rw[List.range_succ,List.flatMap_append,ZHX,ih ω];simp[h2.rlen k hk,ZIp]
            exact this q ω
          rw[List.range_succ,List.flatMap_append];by_cases ae:a<q;have:a*i.size+b<q*i.size:=by have:=ZIi i.size (show a+1<=q from ae);rw[ZIp,Nat.one_mul]at this;omega
          rw[ZIm (by rw[ad];exact this)];exact ih ω a b ae hb;obtain rfl:a=q:=ω;rw[ZIw (by rw[ad];omega),ad];simp
      rw[<-ap m (ZH9 _) _ _ ai ah,e1];exact hd
    rw[ZIw (by rw[af];omega),List.getElem?_replicate]at hd;split at hd;simp only[ZHQ]at hd;subst hd;exact .any v;simp at hd
  cases h1 with
  |sl0 a t s row htt=>exact r a rfl
  |sl b o n cap sz row t f hl hc hp hr one htok hcap hb' =>simp only[ZkY]at htok;subst htok;exact r _ rfl
def ZkT{F:Fr P}{kp dk o os H L s}(hg:Zw H o.guard=sO true){e sz b z x y}(hk:o.k=.append e sz b z x y){p q m row row2 dy dx}(hx:ZH H true x=sO (p,.d dx))(hsl:Zfl sz dx=sO (.full,0,row))(hy:ZH H true y=sO (q,.d dy))(hel:Zah sz dy=sO (m,row2))(hp:p)(hq:q)(hm:0<m)(hb:m*b<=140737488355328)(hbig:m<=big)(h:∀c cap,s c=nO->m<=cap->DO F kp dk os (putE H o.dst (.d (.msl c 0 m cap sz))) L (s.upd c (.cells ((ZH5 m).flatMap row2++List.replicate ((cap-m)*sz) .any)))):
  DO F kp dk (o::os) H L s:=by
 refine WN λoo g Z w tmps bh i r k ay u ap ag hd hN M hr ar=>?_;have hw:=Yo M ap hg;have av:=Yu u (by rw[hk];rfl);rw[hk]at u;obtain⟨x',y',ae,aj,t1,t2,tu,az,t,ak,al,a9,ba,aw,a8,hz,an,bb,bc,h0,hzl⟩:=ZcH u;subst an;have a0:Rep g w _ (.sl .full 0 sz row):=ZkZ (Yh M bb rfl hx hp F.ds) hsl;have a7:Rep g w _ _:=Yh M bc rfl hy hq F.ds;obtain⟨zv,hz1,be,bf,ie,ab,bg⟩:=JC (g:=g) (w:=w) hz;have ac:ie.size=sz:=by simpa[ZX,ab]using a8
 have ad:zv.cells.size=sz:=by have:=be.len;simp at this;omega
 have ao:P.bytesOf e=ie.bytes:=by simp[Program.bytesOf,ab]
 rw[ao]at hb;obtain⟨news,ai,au⟩:=ZmL (P:=P) a7 hel h0;obtain⟨cap,cv,a1,a2,a3,a4,a5,a6⟩:=ZuF (ty:=oo.type) a9 ba aw ab bg ac ad bf h0 M.st a0 hm ai au hb hbig;have ah:ZaC g w g (w.drew.alloc (.cells cv e)):=ZjQ (g:=g) (w:=w) cv e M.st.fresh;have he:=ah.ext M.st.fresh;have aq:((ZH5 m).flatMap row2).length=m*sz:=by
  have:∀k,k<=m->((ZH5 k).flatMap row2).length=k*sz:=by
   intro k;induction k with
   |zero=>intro _;simp
   |succ k ih =>intro hk;rw[List.range_succ,List.flatMap_append,ZHX,ih ω];simp[ai.rlen k hk,ZIp]
  exact this m (ZH9 _)
 have ax:WO g (w.drew.alloc (.cells cv e)) w.heap.size (.cells ((ZH5 m).flatMap row2++List.replicate ((cap-m)*sz) .any)) :=
  ⟨(M.st.fresh _ (ZH9 _)).1,_,e,JD w.drew,by rw[ZHX,aq,List.length_replicate,a4,<-ZIp];congr 1;omega,λi v d hv hd=>(a6 i v d hv hd).mono he,a5⟩
 obtain⟨hn,m'⟩:=M.newObj ah ax;refine YS (L':=L) hN ay ag hd hw av (e:=.d (.msl w.heap.size 0 m cap sz)) ?_ he m' (Rep.msl _ _ _ _ _ a2 a3) (h _ cap hn a2 bh r k hr ar);have am:ae = #[x',y']:=by apply Array.ext';simpa using t
 have af:∀vs,Builtin.append_ aj oo.type vs=Builtin.append_ #[t1,t2] oo.type vs:=λvs=>by unfold Builtin.append_;simp[ak,al]
 unfold execOp;simp only[az,am,resolve,invoke,builtin,Sem.run_bind,Sem.run_pure,Result.andThen_ok,List.map_toArray,ZIo,List.map_nil,af,a1]
end
def Zvm(g:G)(w:World)(b:Nat)(ds:List D):Prop :=
 ∃(vs:Array Value) (T:TypeId),w.heap[b]?=sO (.cells vs T (0,0))/\vs.size=I ds/\(∀(i:Nat) (v:Value) (d:D),vs[i]?=sO v->ds[i]?=sO d->Rep g w v d)/\(∀v∈vs,v.one1=true)/\I ds<=g.prot b
def Y1(t:St)(Ln:List Nat)(d d':D):Prop:=∀g w v,(∀b∈Ln,∀ds,t b=sO (.cells ds)->Zvm g w b ds)->Rep g w v d->Rep g w v d'
inductive LdC(t:St)(Ln:List Nat):List D->List D->Prop where
 |nil:LdC t Ln [] []
 |cons {d d':D} {l l':List D} (h:Y1 t Ln d d') (r:LdC t Ln l l'):LdC t Ln (d::l) (d'::l')
def Y1.refl{t Ln}(d):Y1 t Ln d d:=λ_ _ _ _ h=>h
def Y1.of_le{t Ln d i}(h:d.Le i):Y1 t Ln d i:=λg w v _ o=>h g w v o
def LdC.refl{t Ln}:∀l:List D,LdC t Ln l l
 | []=>.nil
 |d::l=>.cons (Y1.refl d) (LdC.refl l)
def LdC.len{t Ln l l'}(h:LdC t Ln l l'):I l=I l':=by
 induction h with
 |nil=>rfl
 |cons _ _ ih=>simp[ih]
def LdC.get{t Ln l l'}(h:LdC t Ln l l'){i:Nat}{r}(o:l'[i]?=sO r):∃d,l[i]?=sO d/\Y1 t Ln d r:=by
 induction h generalizing i with
 |nil=>simp at o
 |cons h1 _ ih =>
  cases i with
  |zero=>simp at o;subst o;exact⟨_,rfl,h1⟩
  |succ i=>simpa using ih (by simpa using o)
def Y1.agg{t Ln l l'}(h:LdC t Ln l l'):Y1 t Ln (.agg l) (.agg l'):=by
 intro g w v u hr;cases hr with
 |agg vs _ hn hc one =>refine .agg vs _ (hn.trans h.len) (λi v d hv r=>?_) one;obtain⟨x,hx,o⟩:=h.get r;exact o g w v u (hc i v x hv hx)
def Y1.msl{t Ln b n cap sz ds row}(hb:b∈Ln)(ht:t b=sO (.cells ds))(hlen:n*sz<=I ds)(hrow:∀i,i<n->LdC t Ln ((ds.drop (i*sz)).take sz) (row i)):Y1 t Ln (.msl b 0 n cap sz) (.sl .none n sz row):=by
 intro g w v hf hr;obtain⟨vs,T,hh,hsz,hc,one,hp⟩:=hf b hb ds ht;cases hr with
 |mslx a _ _ _=>exact .sl0 _ _ _ _ ψ
 |msl _ _ _ _ _ hcap hbig =>
 have r:∀i j,i<n->j<sz->i*sz+j<I ds:=λi j hi hj=>by have:(i+1)*sz<=n*sz:=ZIi _ hi;rw[ZIp,Nat.one_mul]at this;omega
 have o:∀i j,i<n->j<sz->vs[i*sz+j]?=sO (vs.getD (i*sz+j) undef):=λi j hi hj=>by have h1:=r i j hi hj;simp only[Array.getD_eq_getD_getElem?,Array.getElem?_eq_getElem (show i*sz+j<vs.size by omega),ZIr]
 have u:∀i j,i<n->j<sz->vs.getD (i*sz+j) undef∈vs:=λi j hi hj=>by have h1:=r i j hi hj;simp only[Array.getD_eq_getD_getElem?,Array.getElem?_eq_getElem (show i*sz+j<vs.size by omega),ZIr];exact Array.getElem_mem _
 have ab:∀i,i<n->(row i).length=sz:=λi hi=>by rw[<-(hrow i hi).len,ZIa,ZIq];have:(i+1)*sz<=n*sz:=ZIi _ hi;rw[ZIp,Nat.one_mul]at this;omega
 refine .sl b 0 n cap sz row .none (λi j=>vs.getD (i*sz+j) undef) ab (λi j hi hj=>?_) (λi j hi hj=>?_) (λi j d hi hd=>?_) (λi j hi hj=>one _ (u i j hi hj)) trivial hcap hbig;rw[Nat.zero_add,Zbk hh];exact o i j hi hj;have:=r i j hi hj;omega;have hj:j<sz:=by rw[<-ab i hi];exact(List.getElem?_eq_some_iff.1 hd).1
 obtain⟨x,hx,ac⟩:=(hrow i hi).get hd;rw[ZIv,if_pos hj,List.getElem?_drop]at hx;exact ac g w _ hf (hc _ _ x (o i j hi hj) hx)
inductive LdE(t:St)(Ln:List Nat):Env->Env->Prop where
 |nil:LdE t Ln [] []
 |cons {k:Nat} {d d':D} {H H':Env} (h:Y1 t Ln d d') (r:LdE t Ln H H'):LdE t Ln ((k,.d d)::H) ((k,.d d')::H')
 |skip {k:Nat} {e:E} {H H':Env} (r:LdE t Ln H H'):LdE t Ln ((k,e)::H) ((k,e)::H')
inductive LdL(t:St)(Ln:List Nat):Loc->Loc->Prop where
 |nil:LdL t Ln [] []
 |cons {k:Nat} {c c':List D} {L L':Loc} (h:LdC t Ln c c') (r:LdL t Ln L L'):LdL t Ln ((k,c)::L) ((k,c')::L')
def LdE.get{t Ln H H'}(h:LdE t Ln H H'){k r}(i:Z9 H' k=sO r):∃e,Z9 H k=sO e/\(e=r\/∃x y,e=.d x/\r=.d y/\Y1 t Ln x y):=by
 induction h with
 |nil=>simp[Z9]at i
 |cons h1 _ ih =>rename_i u d d' H H' _;simp only[Z9]at i⊢;by_cases o:u=k;simp only[o,if_true,ZHQ]at i⊢;exact⟨_,rfl,.inr ⟨d,d',rfl,i.symm,h1⟩⟩;simp only[o,if_false]at i⊢;exact ih i
 |skip _ ih =>rename_i u e H H' _;simp only[Z9]at i⊢;by_cases o:u=k;simp only[o,if_true,ZHQ]at i⊢;exact⟨_,rfl,.inl i⟩;simp only[o,if_false]at i⊢;exact ih i
def LdL.get{t Ln L L'}(h:LdL t Ln L L'){k o}(i:Zq L' k=sO o):∃c,Zq L k=sO c/\LdC t Ln c o:=by
 induction h with
 |nil=>simp[Zq]at i
 |cons h1 _ ih =>rename_i u c o L L' _;simp only[Zq]at i⊢;by_cases r:u=k;simp only[r,if_true,ZHQ]at i⊢;exact⟨_,rfl,i▸h1⟩;simp only[r,if_false]at i⊢;exact ih i
def LdL.getI{t Ln L L'}(h:LdL t Ln L L'){k c}(i:Zq L k=sO c):∃o,Zq L' k=sO o:=by
 induction h with
 |nil=>simp[Zq]at i
 |cons h1 _ ih =>rename_i u c o L L' _;simp only[Zq]at i⊢;by_cases r:u=k;simp only[r,if_true];exact⟨_,rfl⟩;simp only[r,if_false]at i⊢;exact ih i
def St.delL(s:St)(Ln:List Nat):St:=λb=>if b∈Ln then nO else s b
def WK(g:G)(t:St)(Ln:List Nat):G:={ g with prot:=λb=>if b∈Ln then (match t b with|some (.cells ds)=>I ds|_=>0) else g.prot b }
def JZ{t:St}{Ln:List Nat}(r:Ym g t w)(o:∀b∈Ln,∃ds,t b=sO (.cells ds)):Ext g w (WK g t Ln) w:={
 size:=ZH9 _
 prot b:=by simp only[WK];split;rename_i h;obtain⟨ds,i⟩:=o b h;have:=(r.obj b _ i).1;omega;exact ZH9 _
 cell _ _ _:=rfl
 hdr _ _ h:=h
 kept _ _:=rfl
 keptProt b hb:=by simp only[WK];split;rename_i h;obtain⟨ds,i⟩:=o b h;exact absurd hb (r.kept b _ i);rfl
 keptEq:=rfl
 os:=rfl
 output:=rfl
 tape:=rfl }
def ZcL{g w t Ln}(u:Ym g t w)(hL:∀b∈Ln,∃ds,t b=sO (.cells ds)):∀b∈Ln,∀ds,t b=sO (.cells ds)->Zvm (WK g t Ln) w b ds:=by
 intro b hb ds r;obtain⟨hp,vs,T,h1,h2,h3,h4⟩:=u.obj b _ r;exact⟨vs,T,h1,h2,λi v d hv o=>(h3 i v d hv o).mono (JZ u hL),h4,by simp only[WK,if_pos hb,r];exact ZH9 _⟩
section
variable {P:Program}
def Zjf{F:Fr P}{dk H H' L L' s}(Ln)(hL:∀b∈Ln,∃ds,s b=sO (.cells ds))(hE:LdE s Ln H H')(hLL:LdL s Ln L L')(k:ZA F dk H' L' (s.delL Ln)):ZA F dk H L s:=by
 intro kk hk g Z w tmps hN m;have hx:=JZ m.st hL;have t:=ZcL m.st hL;have r:∀c,c∉Ln->(WK g s Ln).prot c=g.prot c:=λc hc=>by simp only[WK,if_neg hc]
 refine F.T.ext _ _ _ _ _ hx (k kk hk _ Z w tmps hN ?_);have ad:∀l cs,Zq L l=sO cs->Z l∉Ln:=λl cs hl h=>by obtain⟨ds,hd⟩:=hL _ h;have:=m.locSt l cs hl;rw[hd]at this;simp at this
 refine⟨⟨λc x o=>?_,λc x o=>?_,λc hc=>?_,λn cs hc=>(m.st.tabs n cs hc).mono hx⟩,λl cs hl=>?_,λl cs hl=>?_,λl cs hl=>?_,λl l' cs cs' h1 h2=>?_,λt' e he=>?_⟩;simp only[St.delL]at o;by_cases hc:c∈Ln;simp[hc]at o;simp only[hc,if_false]at o;exact(m.st.obj c x o).mono hx rfl (r c hc);simp only[St.delL]at o;by_cases hc:c∈Ln;simp[hc]at o;simp only[hc,if_false]at o;exact m.st.kept c x o;have h1:=m.st.fresh c hc;refine⟨(r c λh=>?_).trans h1.1,h1.2⟩;obtain⟨ds,hd⟩:=hL c h;have:=(m.st.obj c _ hd).lt;omega;obtain⟨c,hc,u⟩:=hLL.get hl;have ac:=(m.loc l c hc).mono hx rfl (r _ (ad l c hc));obtain⟨h1,vs,T,h2,h3,h4,h5⟩:=ac;refine⟨h1,vs,T,h2,h3.trans u.len,λi v d hv hd=>?_,h5⟩;obtain⟨x,ae,af⟩:=u.get hd;exact af _ w v t (h4 i v x hv ae);obtain⟨c,hc,_⟩:=hLL.get hl;exact m.locKept l c hc;obtain⟨c,hc,_⟩:=hLL.get hl;simp only[St.delL];split;rfl;exact m.locSt l c hc;obtain⟨c,hc,_⟩:=hLL.get h1;obtain⟨c',ab,_⟩:=hLL.get h2;exact m.inj l l' c c' hc ab;obtain⟨e0,h0,h1⟩:=hE.get he;have hr:=m.env t' e0 h0;rcases h1 with h1|⟨x,y,h1,h2,h3⟩;subst h1;exact(hr.mono hx).locs λl cs hl=>⟨(hLL.getI hl),rfl⟩;subst h1;subst h2;exact h3 _ w _ t (Rep.mono hr hx)
inductive SC(N:Nat->Prop):D->Prop where
 |int (k:IntKind) (n:Int):SC N (.int k n)
 |bool (b:Bool):SC N (.bool b)
 |str (l:List UInt8):SC N (.str l)
 |nilsl:SC N .nilsl
 |agg (cs:List D) (h:∀c∈cs,SC N c):SC N (.agg cs)
 |tup (cs:List D) (h:∀c∈cs,SC N c):SC N (.tup cs)
 |sl0 (t:Tok) (s:Nat) (row:Nat->List D):SC N (.sl t 0 s row)
 |tip (b n s:Nat) (row:Nat->List D) (hb:N b) (h:∀i,i<n->∀c∈row i,SC N c):SC N (.sl (.tip b) n s row)
 |ptr (b o:Nat):SC N (.ptr b o)
 |msl (b o n cap s:Nat):SC N (.msl b o n cap s)
 |fn (f:Fn) (a b:List D) (ha:∀c∈a,SC N c) (hb:∀c∈b,SC N c):SC N (.fn f a b)
 |nilptr:SC N .nilptr
 |map (b:Nat):SC N (.map b)
 |nilmap:SC N .nilmap
 |nilfn:SC N .nilfn
 |niliface:SC N .niliface
 |undef:SC N .undef
def SC.rep{N d}(h:SC N d):∀{g g' w v},(∀b,N b->g.prot b<=g'.prot b)->Rep g w v d->Rep g' w v d:=by
 induction h with
 |int k n=>intro g g' w v _ u;cases u with|int _ _ h=>exact .int k n h
 |bool b=>intro g g' w v _ u;cases u;exact .bool b
 |str l=>intro g g' w v _ u;cases u with|str s _ h hb=>exact .str s l h hb
 |nilsl=>intro g g' w v _ u;cases u;exact .nilsl
 |agg cs _ ih =>
  intro g g' w v hp u;cases u with
  |agg vs _ hn hc one=>exact .agg vs cs hn (λi v d hv hd=>ih d (List.mem_of_getElem? hd) hp (hc i v d hv hd)) one
 |tup cs _ ih =>
  intro g g' w v hp u;cases u with
  |tup vs _ hn hc=>exact .tup vs cs hn (λi v d hv hd=>ih d (List.mem_of_getElem? hd) hp (hc i v d hv hd))
 |sl0 t s row =>
  intro g g' w v hp u;cases u with
  |sl0 _ _ _ _ ht=>exact .sl0 _ t s row ht
  |sl b o n cap sz _ t f hl hc hpp hrr one ht hcap hb =>exact .sl b o 0 cap s row t f hl hc (λi j hi=>by omega) (λi j d hi=>by omega) one ht hcap hb
 |tip b n s row hb _ ih =>
  intro g g' w v hp u;cases u with
  |sl0 _ _ _ _ ht=>exact .sl0 _ _ s row ht
  |sl b' o n cap sz _ t f hl hc hpp hrr one ht hcap hbig =>have r:b'=b:=ht.1;subst r;exact .sl b' o n cap s row (.tip b') f hl hc (λi j hi hj=>Nat.lt_of_lt_of_le (hpp i j hi hj) (hp _ hb)) (λi j d hi hd=>ih i hi d (List.mem_of_getElem? hd) hp (hrr i j d hi hd)) one ht hcap hbig
 |ptr b o=>intro g g' w v _ u;cases u;exact .ptr b o
 |msl b o n cap s=>intro g g' w v _ u;cases u with|msl _ _ _ _ _ h hb=>exact .msl b o n cap s h hb|mslx a _ _ _=>exact .mslx a _ _ _
 |fn f a b _ _ iha ihb =>
  intro g g' w v hp u;cases u with
  |fn _ fs cs _ _ hnf hnc hf hc=>exact .fn f fs cs a b hnf hnc (λi v d hv hd=>iha d (List.mem_of_getElem? hd) hp (hf i v d hv hd)) (λi v d hv hd=>ihb d (List.mem_of_getElem? hd) hp (hc i v d hv hd))
 |nilptr=>intro g g' w v _ u;cases u;exact .nilptr
 |map b=>intro g g' w v _ u;cases u;exact .map b
 |nilmap=>intro g g' w v _ u;cases u;exact .nilmap
 |nilfn=>intro g g' w v _ u;cases u;exact .nilfn
 |niliface=>intro g g' w v _ u;cases u;exact .niliface
 |undef=>intro g g' w v _ u;cases u;exact .undef
def SCO(N:Nat->Prop):JW->Prop
 |.cells ds=>∀d∈ds,SC N d
 |.map es=>∀e∈es,SC N e.1/\SC N e.2
 |.tip _=>True
 |.dfr=>True
 |_=>False
def SCO.ok{N o}(h:SCO N o){g g' w b}(hp:∀b,N b->g.prot b<=g'.prot b)(r:g'.prot b=g.prot b)(hr:WO g w b o):WO g' w b o:=by
 cases o with
 |cells ds =>obtain⟨u,vs,T,h1,h2,h3,h4⟩:=hr;exact⟨r.trans u,vs,T,h1,h2,λi v d hv t=>(h d (List.mem_of_getElem? t)).rep hp (h3 i v d hv t),h4⟩
 |map es =>obtain⟨u,en,cl,h1,h2,h3,h4,h5,h6⟩:=hr;exact⟨r.trans u,en,cl,h1,h2,λi x d hv t=>(h d (List.mem_of_getElem? t)).1.rep hp (h3 i x d hv t),λi x d hv t=>(h d (List.mem_of_getElem? t)).2.rep hp (h4 i x d hv t),h5,h6⟩
 |tip k =>obtain⟨u,x⟩:=hr;exact⟨r.trans u,x⟩
 |dfr=>exact⟨r.trans hr.1,hr.2⟩
 |mapE _ _ _ _=>exact h.elim
 |loop _ _=>exact h.elim
def SCR(N:Nat->Prop):Res->Prop
 |.ret d=>SC N d
 |.panic d=>SC N d
def ZN.ldC{g w t Ln}(o:∀b∈Ln,∀ds,t b=sO (.cells ds)->Zvm g w b ds){vs a i}(h:ZN (Rep g w) vs a)(r:LdC t Ln a i):ZN (Rep g w) vs i:=by
 induction r generalizing vs with
 |nil=>cases h;exact .nil
 |cons h1 _ ih=>cases h with|cons h2 h3=>exact .cons (h1 _ _ _ o h2) (ih h3)
def Zf.lend{f args args' t Ln Φ}(hL:∀b∈Ln,∃ds,t b=sO (.cells ds))(hl:LdC t Ln args args')(h:Zf P f args' (λ_=>nO) Φ)(hΦ:∀r S,Φ r S->SCR (λb=>(S b).isSome=true) r/\∀b o,S b=sO o->SCO (λb=>(S b).isSome=true) o):
  Zf P f args t λr S=>∃S',Φ r S'/\Z7 S' t/\S=S'.or t:=by
 refine⟨h.1,λg w vs hs ha=>?_⟩;have hx:=JZ hs hL;have al:=ZcL hs hL;have ak:ZN (Rep (WK g t Ln) w) vs args':=ZN.ldC al (ha.imp λ_ _ h=>Rep.mono h hx) hl;have an:Ym ((WK g t Ln).keep λb=>g.kept b\/(t b).isSome=true) (λ_=>nO) w:=by
  refine⟨λb o hb=>by simp at hb,λb o hb=>by simp at hb,λb hb=>?_,λn cs hc=>W6 ((hs.tabs n cs hc).mono hx)⟩;have h1:=hs.fresh b hb;have ac:t b=nO:=by
   cases ac:t b with
   |none=>rfl
   |some o=>have:=(hs.obj b o ac).lt;omega
  have u:b∉Ln:=λhm=>by obtain⟨ds,hd⟩:=hL b hm;rw[ac]at hd;simp at hd
  exact⟨by show(WK g t Ln).prot b=0;simp only[WK,if_neg u];exact h1.1,λhk=>by rcases hk with hk|hk;exact h1.2 hk;rw[ac]at hk;simp at hk⟩
 refine(h.2 _ w vs an (ak.imp λ_ _ h=>W6 h)).mono λe w' hp=>?_;obtain⟨g',S',r,he,hS,hr,hq⟩:=hp;have ab:=he.keptEq;obtain⟨ad,aj⟩:=hΦ r S' hq;have ah:Z7 S' t:=λb o hb=>by
  cases i:S' b with
  |none=>rfl
  |some x=>exact absurd (by rw[ab];exact .inr (by rw[hb];rfl)) (hS.kept b x i)
 have ai:∀b,(S' b).isSome=true->b∉Ln:=λb hb hm=>by obtain⟨ds,hd⟩:=hL b hm;rw[ah b _ hd]at hb;simp at hb
 let g2:G:={ prot:=λb=>if b∈Ln then 0 else g'.prot b,kept:=g.kept };have ag:∀b,(S' b).isSome=true->g'.prot b<=g2.prot b:=λb hb=>by simp only[g2,if_neg (ai b hb)];exact ZH9 _
 have hf:∀b,b∉Ln->(WK g t Ln).prot b=g.prot b:=λb hb=>by simp only[WK,if_neg hb]
 have af:∀b,b∈Ln->g.prot b=0:=λb hb=>by obtain⟨ds,hd⟩:=hL b hb;exact(hs.obj b _ hd).1
 have ae:Ext g w g2 w':=by
  refine⟨he.size,λb=>?_,λb o ho=>?_,he.hdr,λb hb=>he.kept b (.inl hb),λb hb=>?_,rfl,he.os,he.output,he.tape⟩;simp only[g2];split;rename_i hb;rw[af b hb];exact ZH9 _;rename_i hb;rw[<-hf b hb];exact he.prot b;have hb:b∉Ln:=λhb=>by rw[af b hb]at ho;omega
  exact he.cell b o (by show o<(WK g t Ln).prot b;rw[hf b hb];exact ho);have u:b∉Ln:=λhm=>by obtain⟨ds,hd⟩:=hL b hm;exact hs.kept b _ hd hb
  simp only[g2,if_neg u];rw[<-hf b u];exact he.keptProt b (.inl hb)
 have hg'0:∀b,w'.heap.size<=b->g'.prot b=0/\¬g'.kept b:=λb hb=>hS.fresh b hb;refine⟨g2,S'.or t,r,ae,⟨λb o hb=>?_,λb o hb=>?_,λb hb=>?_,λn cs hc=>(hs.tabs n cs hc).mono ae⟩,?_,S',hq,ah,rfl⟩
 .cases i:S' b with
  |some x =>
   rw[Zt i]at hb;cases hb;have am:(S' b).isSome=true:=by rw[i];rfl
   exact(aj b _ i).ok ag (by simp only[g2,if_neg (ai b am)]) (hS.obj b _ i)
  |none =>rw[Zz i]at hb;have hk:g.kept b\/(t b).isSome=true:=.inr (by rw[hb];rfl);refine(hs.obj b o hb).mono ae (he.kept b hk) ?_;by_cases u:b∈Ln;simp only[g2,if_pos u];exact(af b u).symm;simp only[g2,if_neg u];rw[<-hf b u];exact he.keptProt b hk
 .cases i:S' b with
  |some x=>exact λhk=>hS.kept b x i (by rw[ab];exact .inl hk)
  |none=>rw[Zz i]at hb;exact hs.kept b o hb
 have:=hS.fresh b hb;refine⟨?_,λhk=>this.2 (by rw[ab];exact .inl hk)⟩;simp only[g2];split;rfl;exact this.1;cases e<;>cases r<;>simp only[Zgc]at hr⊢;exact SC.rep ad ag hr;obtain⟨v,h1,h2⟩:=hr;exact⟨v,h1,SC.rep ad ag h2⟩
end
end Go.DL
namespace Go.DL
open Go Go.ChangeShapes Go.RowKit Go.WideShapes Go.ChangeAt
variable [Zo5]
def Zdr(W:World):G:={ prot:=λb=>match W.heap[b]? with|some (.cells vs _ _)=>vs.size|_=>0,kept:=λb=>b<W.heap.size }
def Znm(W:World):Prop:=∀n cs,Zo5.tab n=sO cs->Rep (Zdr W) W (.pointer (sO ⟨n,0,nO⟩)) (.ep cs 0)
def ZAT{W:World}(i:Znm W):Ym (Zdr W) (λ_=>nO) W:={
 tabs:=i
 obj b o h:=by simp at h
 kept b o h:=by simp at h
 fresh b hb:=⟨by simp[Zdr,hb],by simp only[Zdr];omega⟩ }
def ZAS{P W name g k}{zs:List Int}(h:W.var? P name=sO (zs.map λz=>Value.int k z).toArray)(hg:P.globalNamed name=sO g)(hz:∀z∈zs,inR k z) :
  Rep (Zdr W) W (.pointer (sO ⟨g,0,nO⟩)) (.ep (zs.map λz=>.int k z) 0):=by
 unfold World.var? at h;rw[hg]at h;simp only[Option.bind_some]at h;split at h<;>(try(simp at h;done));rename_i cs T fr hh;simp only[ZHQ]at h;subst h;have r:∀i (t:i<I zs),W.cell? ⟨g,0+i,nO⟩=sO (.int k zs[i]):=λi t=>by simp only[World.cell?,hh];simp[t]
 refine .ep g 0 0 _ (λi=>.int k (zs.getD i 0)) (λi t=>?_) (λi t=>?_) (λi d u=>?_) (λi t=>rfl);simp only[ZH4]at t;rw[r i t];simp[ZH6,t];simp only[ZH4]at t;simp only[Zdr,hh];simpa using t;simp only[List.getElem?_map,ZH8]at u;obtain⟨z,o,rfl⟩:=u;simp only[ZH6,o,ZIr];exact .int k z (hz z (List.mem_of_getElem? o))
def ZzE{P f args}(h:Zc P f args (.bool true)){W}(ht:Znm W){vs}(t:ZN (Rep (Zdr W) W) vs args) :
  Calls P f vs.toArray W λe W'=>e=.returned (.bool true)/\Below W.heap.size W W':=by
 refine((h (λ_=>nO)).2 _ W vs (ZAT ht) t).mono λe W' hp=>?_;obtain⟨g',s',r,i,hs,o,hq,_⟩:=hp;subst hq;cases e with
 |returned v=>cases o;exact⟨rfl,i.os,i.tape,i.output,i.size,λb u=>i.kept b u⟩
 |_=>exact o.elim
section
variable {H:Type} {enc:TypeId × Value->H} {P:Program} {w:World}
def WX(p:Nat->Prop)(enc:TypeId×Value->H)(P:Program)(w:World)(t:TypeId)(R:List D->Prop):Prop :=
 ∀fuel cs x,p fuel->DataW.trod enc P w 0 (λ_=>true) true fuel t cs=sO x->(∀k∈x.1.weights P t,k<=reachBytes)->∃ds,R ds/\ZN (Rep (Zdr w) w) cs ds/\∀v∈cs,v.one1=true
abbrev Za2(enc:TypeId×Value->H)(P:Program)(w:World)(t:TypeId)(R:List D->Prop):Prop:=WX (λ_=>True) enc P w t R
variable {p q:Nat->Prop}
def Zxk{k n}(h:(Lit.int k n).wf=true):inR k n:=by
 simpa[Lit.wf,inR]using h
def Ziw{t k}(r:P.underlying t=sO (.int k)):WX p enc P w t λds=>∃n,inR k n/\ds=[.int k n]:=by
 intro fuel cs x _ h _;obtain⟨n,rfl,_,i⟩:=DataW.trod_int r h;exact⟨_,⟨n,Zxk i,rfl⟩,.cons (.int k n (Zxk i)) .nil,λv o=>by simp at o;subst o;rfl⟩
def WX.imp{t R R'}(h:WX p enc P w t R)(hi:∀ds,R ds->R' ds):WX p enc P w t R':=λi o x hp hx hw=>by
 obtain⟨ds,r,u⟩:=h i o x hp hx hw;exact⟨ds,hi ds r,u⟩
def JP{t k}(i:P.underlying t=sO (.int k)):WX p enc P w t λds=>∃n,ds=[.int k n]:=(Ziw i).imp λ_ ⟨n,_,h⟩=>⟨n,h⟩
def Zv5{t}(o:P.underlying t=sO .bool):WX p enc P w t λds=>∃b,ds=[.bool b]:=by
 intro fuel cs x _ h _;obtain⟨n,rfl,_⟩:=DataW.trod_bool o h;exact⟨_,⟨n,rfl⟩,.cons (.bool n) .nil,λv i=>by simp at i;subst i;rfl⟩
def Zv6{t}(r:P.underlying t=sO .string):WX p enc P w t λds=>∃s:List UInt8,I s<=reachBytes/\ds=[.str s]:=by
 intro fuel cs x _ h u;obtain⟨s,rfl,rfl,o⟩:=DataW.trod_string r h;refine⟨_,⟨s.data.toList,u _ (by simp[DataW.weights]),rfl⟩,.cons (.str s _ rfl ?_) .nil,λv i=>by simp at i;subst i;rfl⟩;have:I s.data.toList=s.size:=by rw[Array.length_toList];rfl
 rw[this];simp only[maxLen]at o;simp only[big];omega
def KH{t}(i:P.underlying t=sO .string):WX p enc P w t λds=>∃s,ds=[.str s]:=(Zv6 i).imp λ_ ⟨s,_,h⟩=>⟨s,h⟩
def ZgF:∀{o ds} {i:Nat} {t:TypeId} {d:DataW H},o[i]?=sO t->ds[i]?=sO d->∀k∈d.weights P t,k∈DataW.weightsEach P o ds
 |t::o,d::ds,0,_,_,ht,hd,k,hk=>by simp only[List.getElem?_cons_zero,ZHQ]at ht hd;subst ht;subst hd;unfold DataW.weightsEach;exact List.mem_append_left _ hk
 |t::o,d::ds,i+1,_,_,ht,hd,k,hk=>by unfold DataW.weightsEach;exact List.mem_append_right _ (ZgF (by simpa using ht) (by simpa using hd) k hk)
 | [],_,_,_,_,ht,_,_,_=>by simp at ht
 |_::_,[],_,_,_,_,hd,_,_=>by simp at hd
def ZgE:∀{i o} {ds gs:List (DataW H)},I ds=I i->∀k∈DataW.weightsEach P i ds,k∈DataW.weightsEach P (i++o) (ds++gs)
 | [],_,[],_,_,k,hk=>by simp[DataW.weightsEach]at hk
 |t::i,o,d::ds,gs,hl,k,hk=>by unfold DataW.weightsEach at hk;rw[List.cons_append,List.cons_append];unfold DataW.weightsEach;rcases List.mem_append.1 hk with h|h;exact List.mem_append_left _ h;exact List.mem_append_right _ (ZgE (by simpa using hl) k h)
def ZhR{e}:∀{ds:List (DataW H)} {d:DataW H},d∈ds->∀k∈d.weights P e,k∈DataW.weightsAll P e ds
 |d::ds,x,hx,k,hk=>by unfold DataW.weightsAll;rcases List.mem_cons.1 hx with rfl|hx;exact List.mem_append_left _ hk;exact List.mem_append_right _ (ZhR hx k hk)
def ZtK{α β R}{a i:List α}{b o:List β}(h:ZN R a b)(r:ZN R i o):ZN R (a++i) (b++o):=by
 induction h with
 |nil=>exact r
 |cons h1 _ ih=>exact .cons h1 ih
def Cat:List (List D->Prop)->List D->Prop
 | [],ds=>ds=[]
 |R::Rs,ds=>∃a b,ds=a++b/\R a/\Cat Rs b
def ZsR(P:Program):Nat->List Field->Nat->Bool
 |o,[],n=>o==n
 |o,f::r,n=>f.offset==o&&ZsR P (o+P.cellsOf f.type) r n
inductive Zjn(p:Nat->Prop)(enc:TypeId×Value->H)(P:Program)(w:World):List Field->List (List D->Prop)->Prop where
 |nil:Zjn p enc P w [] []
 |cons {f:Field} {fs:List Field} {R:List D->Prop} {Rs:List (List D->Prop)} (h:WX p enc P w f.type R) (t:Zjn p enc P w fs Rs):Zjn p enc P w (f::fs) (R::Rs)
def ZxE{fs Rs}(hR:Zjn q enc P w fs Rs):∀{o n m} {cs:List Value},q m->ZsR P o fs n=true->I cs=n ->
  (∀f∈fs,∃x,DataW.trod enc P w 0 (λ_=>true) true m f.type ((cs.drop f.offset).take (P.cellsOf f.type))=sO x/\∀k∈x.1.weights P f.type,k<=reachBytes) ->
  ∃ds,Cat Rs ds/\ZN (Rep (Zdr w) w) (cs.drop o) ds/\∀v∈cs.drop o,v.one1=true:=by
 induction hR with
 |nil =>intro o n m cs _ ho hl _;simp only[ZsR,beq_iff_eq]at ho;subst ho;subst hl;exact⟨[],rfl,by rw[List.drop_length];exact .nil,ψ⟩
 |cons h _ ih =>
  rename_i f fs R Rs _;intro o n m cs hm ho hl hx;simp only[ZsR,ZH1,beq_iff_eq]at ho;obtain⟨ae,af⟩:=ho;obtain⟨x,h1,hw⟩:=hx f (List.mem_cons_self ..);obtain⟨a,t,i,r⟩:=h _ _ _ hm h1 hw;obtain⟨b,u,ab,ac⟩:=ih hm af hl λf' ad=>hx f' (List.mem_cons_of_mem _ ad);rw[ae]at i r;have e:cs.drop o=(cs.drop o).take (P.cellsOf f.type)++cs.drop (o+P.cellsOf f.type):=by rw[<-List.drop_drop];exact(List.take_append_drop _ _).symm
  refine⟨a++b,⟨a,b,rfl,t,u⟩,by rw[e];exact ZtK i ab,λv hv=>?_⟩;rw[e,List.mem_append]at hv;exact hv.elim (r v) (ac v)
def Kq{t:TypeId}{fs:Array Field}(ht:P.underlying t=sO (.struct fs)){Rs:List (List D->Prop)}(hR:Zjn q enc P w fs.toList Rs)(ho:ZsR P 0 fs.toList (P.cellsOf t)=true)(hpq:∀n,p (n+1)->q n:=by intros;trivial):WX p enc P w t (Cat Rs):=by
 intro fuel cs x hp h hw;obtain⟨xs,n,rfl,rfl,hl,hxl,hx⟩:=DataW.trod_struct ht h;obtain⟨ds,h1,h2,h3⟩:=ZxE hR (m:=n) (hpq n hp) ho hl (λf hf=>by
  obtain⟨i,hi,rfl⟩:=ZIc hf;have o:i<fs.size:=by simpa using hi
  refine⟨xs[i]' ω,?_,λk hk=>hw k ?_⟩;have:=hx i fs[i] (by simp[o]);rw[ZIn ω]at this;simpa using this;unfold DataW.weights;rw[ht];exact ZgF (i:=i) (by simp[o]) (by rw[List.getElem?_map,ZIn ω];rfl) k hk)
 rw[List.drop_zero]at h2 h3;exact⟨ds,h1,h2,h3⟩
def ZcG{a n cs}(h:w.cells? 0 a n=sO cs):I cs=n/\∀j,j<n->w.cell? (a.add j)=cs[j]?:=by
 simp only[World.cells?,Nat.zero_le,if_true]at h;refine⟨by simpa using mapM_some_length h,λj i=>?_⟩;have:=mapM_some_get h j j (by simp[i]);exact this
def Zck{t e:TypeId}{n:Nat}{α:Type}[Inhabited α]{f:α->List D}{Qx:α->Prop}{row:List α->Nat->List D}(hrow:∀l i,i<I l->row l i=f (l.getD i dE))(ht:P.underlying t=sO (.slice e))(hn:P.cellsOf e=n)(hn0:0<n)(hf:∀x,(f x).length=n)
  (he:WX q enc P w e λds=>∃x,Qx x/\ds=f x) (hpq:∀n,p (n+1)->q n:=by intros;trivial):WX p enc P w t λds=>∃l:List α,(∀x∈l,Qx x)/\I l*P.bytesOf e<=reachBytes/\ds=[.sl .none (I l) n (row l)]:=by
 intro fuel cs x hp h hw;rcases DataW.trod_slice ht h with ⟨rfl,_⟩|⟨a,len,cap,elems,rest,m,rfl,rfl,rfl,_,am,af,ak,hx,ae,_⟩;exact⟨_,⟨[],λx hx=>absurd hx List.not_mem_nil,ψ,rfl⟩,.cons (.sl0 _ _ _ _ ψ) .nil,λv hv=>by simp at hv;subst hv;rfl⟩;unfold DataW.weights at hw;rw[ht]at hw;have u:∀i,i<len->∃(cs:List Value) (y:α),Qx y/\w.cells? 0 (a.add (i*n)) n=sO cs/\ZN (Rep (Zdr w) w) cs (f y)/\∀v∈cs,v.one1=true:=by intro i hi;have h1:=hx i hi;rw[ZIn ω,hn]at h1;obtain⟨cs,h2,h3⟩:=Option.bind_eq_some_iff.1 h1;obtain⟨ds,⟨y,hy,rfl⟩,h4,h5⟩:=he _ _ _ (hpq _ hp) h3 λk hk=>hw k (List.mem_cons_of_mem _ (List.mem_append_left _ (ZhR (List.mem_map_of_mem (List.getElem_mem _)) k hk)));exact⟨cs,y,hy,h2,h4,h5⟩
 have ab:cap<=big:=by simp only[maxLen]at af;simp only[big];omega
 let g:(i:Nat)->i<len->α:=λi hi=>(Classical.choose_spec (u i hi)).choose;let c:(i:Nat)->i<len->List Value:=λi hi=>Classical.choose (u i hi);have hg:∀i (hi:i<len),w.cells? 0 (a.add (i*n)) n=sO (c i hi)/\ZN (Rep (Zdr w) w) (c i hi) (f (g i hi))/\∀v∈c i hi,v.one1=true:=λi hi=>(Classical.choose_spec (u i hi)).choose_spec.2;have hq:∀i (hi:i<len),Qx (g i hi):=λi hi=>(Classical.choose_spec (u i hi)).choose_spec.1;let l:List α:=List.ofFn λi:Fin len=>g i.1 i.2;have ad:I l=len:=by simp[l]
 have ao:∀i (hi:i<len),l.getD i dE=g i hi:=λi hi=>by simp[l,ZH6,hi]
 have ag:∀i (hi:i<len),row l i=f (g i hi):=λi hi=>by rw[hrow l i ω,ao i hi]
 refine⟨_,⟨l,λx hx=>(by obtain⟨i,rfl⟩:=List.mem_ofFn.1 hx;exact hq i.1 i.2),ZIy (ZIi _ (by rw[ad,<-ak,ZH4];exact Nat.le_add_right _ _)) (hw _ (List.mem_cons_self ..)),rfl⟩,.cons ?_ .nil,λv hv=>by simp at hv;subst hv;rfl⟩;by_cases al:len=0;subst al;have an:l=[]:=List.eq_nil_of_length_eq_zero ad;rw[an];by_cases hs:a.spot=nO;obtain⟨b,o,sp⟩:=a;simp only at hs;subst hs;exact .sl b o 0 cap n _ .none (λ_ _=>undef) (λi hi=>by simp at hi) (λi j hi=>by simp at hi) (λi j hi=>by simp at hi) (λi j d hi=>by simp at hi) (λi j hi=>by simp at hi) trivial (Nat.zero_le _) ab;have aj:cap=0:=by rcases Nat.eq_zero_or_pos cap with h0|h0;exact h0;obtain⟨h1,h2⟩:=ae rfl;have h3:=h2 0 ω;rw[ZIn ω,hn]at h3;obtain⟨cs,h4,_⟩:=Option.bind_eq_some_iff.1 h3;have h5:=(ZcG h4).2 0 ω;have h6:=(ZcG h4).1;rw[ZIn ω]at h5;have:=World.cell?_spot h5;exact absurd (by simpa[Addr.add]using this) hs
 subst aj;exact .sl0 _ _ _ _ ψ;have ah:a.spot=nO:=by have h0:=(hg 0 ω).1;have h1:=(ZcG h0).2 0 ω;have h2:(c 0 ω).length=n:=(ZcG h0).1;rw[ZIn ω]at h1;have:=World.cell?_spot h1;simpa[Addr.add]using this
 obtain⟨b,o,sp⟩:=a;simp only at ah;subst ah;have ac:∀i j (hi:i<len) (hj:j<n),w.cell? ⟨b,o+i*n+j,nO⟩=(c i hi)[j]?:=λi j hi hj=>by have h1:=(ZcG (hg i hi).1).2 j hj;rw[Kz,Kz]at h1;exact h1
 have r:∀i (hi:i<len),(c i hi).length=n:=λi hi=>(ZcG (hg i hi).1).1;rw[ad];refine .sl b o len cap n _ .none (λi j=>if hi:i<len then (c i hi).getD j undef else undef) (λi hi=>by rw[ag i hi];exact hf _) (λi j hi hj=>?_) (λi j hi hj=>?_) (λi j d hi hd=>?_) (λi j hi hj=>?_) trivial am ab;simp only[dif_pos hi];rw[ac i j hi hj,ZH6,ZIn (by rw[r i hi];exact hj)];rfl;have h1:=ac i j hi hj;rw[ZIn (by rw[r i hi];exact hj)]at h1;simp only[World.cell?]at h1;split at h1;rename_i vs T fr hh;simp only[Zdr,hh];have ai:vs[o+i*n+j]?=sO ((c i hi)[j]'(by rw[r i hi];exact hj)):=by simpa using h1
 exact(Array.getElem?_eq_some_iff.1 ai).1;simp at h1;simp only[dif_pos hi];rw[ag i hi]at hd;have hj:j<n:=by rw[<-hf (g i hi)];exact(List.getElem?_eq_some_iff.1 hd).1
 refine(hg i hi).2.1.get j _ d ?_ hd;rw[ZH6,ZIn (by rw[r i hi];exact hj)];rfl;simp only[dif_pos hi];refine(hg i hi).2.2 _ ?_;rw[ZH6,ZIn (by rw[r i hi];exact hj)];exact List.getElem_mem _
def Zkb{t e:TypeId}{n:Nat}{α:Type}[Inhabited α]{f:α->List D}{row:List α->Nat->List D}(hrow:∀l i,i<I l->row l i=f (l.getD i dE))(ht:P.underlying t=sO (.slice e))(hn:P.cellsOf e=n)(hn0:0<n)(hf:∀x,(f x).length=n)
  (he:WX q enc P w e λds=>∃x,ds=f x) (hpq:∀n,p (n+1)->q n:=by intros;trivial):WX p enc P w t λds=>∃l:List α,ds=[.sl .none (I l) n (row l)]:=(Zck (Qx:=λ_=>True) hrow ht hn hn0 hf (he.imp λ_ ⟨x,h⟩=>⟨x,trivial,h⟩) hpq).imp λ_ ⟨l,_,_,h⟩=>⟨l,h⟩
def ZaW{t e:TypeId}{n:Nat}{α:Type}[Inhabited α]{f:α->List D}(ht:P.underlying t=sO (.slice e))(hn:P.cellsOf e=n)(hn0:0<n)(hf:∀x,(f x).length=n)
  (he:WX q enc P w e λds=>∃x,ds=f x) (hpq:∀n,p (n+1)->q n:=by intros;trivial):WX p enc P w t λds=>∃l:List α,ds=[.sl .none (I l) n λi=>f (l.getD i dE)] :=
 Zkb (row:=λl i=>f (l.getD i dE)) (λ_ _ _=>rfl) ht hn hn0 hf he hpq
def Zff(enc:TypeId×Value->H)(P:Program)(t:TypeId)(Q:D->Prop):Prop :=
 ∀(W:World) (base:Nat) (v:Value) (d:DataW H) (ps:List MemPlace),Value.okWide P W .any base t v->DataW.Trod enc P W 0 (λ_=>true) true t v d ps->(∀k∈d.weights P t,k<=reachBytes)->∃x,Q x/\Rep (Zdr W) W v x
def Za3{t fs}(ht:P.underlying t=sO (.struct fs)){R}(h:∀W,Za2 enc P W t R):Zff enc P t λx=>∃ds,R ds/\x=.agg ds:=by
 intro W base v d ps o ⟨fuel,hf⟩ hw;obtain⟨u,rfl,_⟩:=okWide_struct ht o;obtain⟨ds,h1,r,h3⟩:=h W _ _ _ trivial hf hw;exact⟨_,⟨ds,h1,rfl⟩,.agg u.toList ds r.len (λi v d hv hd=>r.get i v d hv hd) h3⟩
def Zjq{t R Q}(u:∀W o v,Value.okWide P W .any o t v->v.cells = #[v])(h:∀W,Za2 enc P W t R)(hq:∀ds,R ds->∃x,ds=[x]/\Q x):Zff enc P t Q:=by
 intro W o v d ps i ⟨fuel,r⟩ hw;rw[u _ _ _ i]at r;obtain⟨ds,h2,h3,_⟩:=h W _ _ _ trivial r hw;obtain⟨x,rfl,hx⟩:=hq ds h2;cases h3 with|cons h4 _=>exact⟨x,hx,h4⟩
def ZrY{t k}(o:P.underlying t=sO (.int k)):Zff enc P t λx=>∃n,x=.int k n :=
 Zjq (λW base v i=>by obtain⟨a,rfl⟩:=okWide_int o i;rfl) (λW=>JP o) λds ⟨n,r⟩=>⟨_,r,n,rfl⟩
def Zjr{t}(o:P.underlying t=sO .string):Zff enc P t λx=>∃n,x=.str n :=
 Zjq (λW base v i=>by obtain⟨a,rfl⟩:=okWide_string o i;rfl) (λW=>KH o) λds ⟨n,r⟩=>⟨_,r,n,rfl⟩
inductive Znd(enc:TypeId×Value->H)(P:Program):List TypeId->List (D->Prop)->Prop where
 |nil:Znd enc P [] []
 |cons {t:TypeId} {Q:D->Prop} {ts:List TypeId} {Qs:List (D->Prop)} (h:Zff enc P t Q) (r:Znd enc P ts Qs):Znd enc P (t::ts) (Q::Qs)
inductive ZrD:List (D->Prop)->List D->Prop where
 |nil:ZrD [] []
 |cons {Q:D->Prop} {x:D} {Qs:List (D->Prop)} {xs:List D} (h:Q x) (r:ZrD Qs xs):ZrD (Q::Qs) (x::xs)
def Zyi{ts Qs}(h:Znd enc P ts Qs):∀{W base vs ds ps},
  (∀(j:Nat) t v,ts[j]?=sO t->vs[j]?=sO v->Value.okWide P W .any base t v)->DataW.TrodAll enc P W 0 (λ_=>true) true ts vs ds ps->(∀k∈DataW.weightsEach P ts ds,k<=reachBytes)->∃xs,ZrD Qs xs/\ZN (Rep (Zdr W) W) vs xs:=by
 induction h with
 |nil =>intro W base vs ds ps _ ht _;obtain⟨rfl,_⟩:=trodAll_nil ht;exact⟨[],.nil,.nil⟩
 |cons h1 _ ih =>intro W base vs ds ps i ht hw;obtain⟨v,vs',d,ds',p,q,rfl,rfl,rfl,h2,h3⟩:=trodAll_cons ht;unfold DataW.weightsEach at hw;obtain⟨x,u,ab⟩:=h1 W base v d p (i 0 _ _ rfl rfl) h2 λk hk=>hw k (List.mem_append_left _ hk);obtain⟨xs,o,r⟩:=ih (base:=base) (λj t v hj hv=>i (j+1) t v (by simpa using hj) (by simpa using hv)) h3 λk hk=>hw k (List.mem_append_right _ hk);exact⟨x::xs,.cons u o,.cons ab r⟩
def Zi4(hl:laidOutB P=true){W W'}(hb:Below W.heap.size W W'):∀{o vs ds ps},(∀t∈o,P.readableRec t=true/\t<P.types.size) ->
  DataW.TrodAll enc P W 0 (λ_=>true) true o vs ds ps->(∀x∈ps,x.block<W.heap.size)->DataW.TrodAll enc P W' 0 (λb=>dC (b<W.heap.size)) true o vs ds ps
 | [],vs,ds,ps,_,h,_=>by obtain⟨rfl,rfl,rfl⟩:=trodAll_nil h;rfl
 |t::o,vs,ds,ps,ht,h,hlt=>by obtain⟨v,vs',d,ds',p,q,rfl,rfl,rfl,h2,h3⟩:=trodAll_cons h;have u:=ht t (List.mem_cons_self ..);exact trodAll_cons_mk (Below.trod hl u.1 u.2 h2 hb λx r=>hlt x (List.mem_append_left _ r)) (Zi4 hl hb (λt i=>ht t (List.mem_cons_of_mem _ i)) h3 λx r=>hlt x (List.mem_append_right _ r))
def ZjU{f fn}{s:ChangeSpec}{tb Qs}(hv:s.vars=[])(hl:laidOutB P=true)(hr:∀t∈fn.params.toList,P.readableRec t=true/\t<P.types.size)
  (hres:fn.resultTypes = #[tb]) (hb:P.underlying tb=sO .bool) (hfn:∀ds:List (DataW H),I ds=I fn.params.toList->s.fn H ds={ results:=[.lit (.bool true)],args:=ds })
  (hargs:Znd enc P fn.params.toList Qs) (hcall:∀xs,ZrD Qs xs->Zc P f xs (.bool true))
  (W) (ht:Znm W) (base args ds gs before)
  (hval:∀(j:Nat) t v,fn.params[j]?=sO t->args[j]?=sO v->Value.okWide P W .any base t v) (hW:DataW.Whole enc P fn.params.toList s.vars false W args.toList ds gs before)
  (hz:(DataW.weightsEach P (fn.params.toList++s.plain.varTypes P) (ds++gs)).all (·<=reachBytes)=true) :
  Calls P f args W λe W'=>∃v,e=.returned v/\s.post enc P fn false true false false W args v W':=by
 have u:=hW;obtain⟨p,q,hA,hV,rfl,_,_⟩:=hW;rw[hv]at hV;obtain⟨rfl,rfl⟩:=trodVars_none hV;have r:=(trodAll_length hA).2;obtain⟨xs,ad,ae⟩:=Zyi hargs (λj t v hj ac=>hval j t v (by simpa using hj) (by simpa using ac)) hA λk hk=>of_decide_eq_true (List.all_eq_true.1 hz k (ZgE r k hk));have ab:∀x∈p,x.block<W.heap.size:=λx hx=>by simpa using u.lt x (by simpa using hx)
 refine(ZzE (hcall xs ad) ht ae).mono λe W' ⟨he,o⟩=>⟨.bool true,he,?_⟩;have i:=hfn ds r;refine⟨ds,[],p++[],[],p,[],u,?_,?_,?_,o.frame _,λh=>by cases h⟩;rw[ZIj,i,hres];exact trodAll_mk1 ⟨1,by simp[DataW.trod,hb,Value.cells]⟩;rw[ZIj,i];exact Zi4 hl o hr hA ab;rw[hv,ZIj,i];rfl
end
end Go.DL
namespace Go.DL
open Go
variable {kp:Option (List Nat)}{L:Loc}{H:Env}{s:St}{w:World}{os:List DOp}{ds:List D}{B:List (Nat × Rd)}{dst:Option Nat}{tmps:Array Value}{g:G}{Φ:Res->St->Prop}{Z:Nat->Nat}{xs:List Opd}{side:Prop}{row:Nat->List D}
def Zxo(n a:Nat)(l:List Nat):Zcu n (a::l)=if a=n then true else Zcu n l:=by
 show(a==n ||Zcu n l)=_;by_cases h:a=n<;>simp[h]
set_option linter.defProp false
def Eqs:=ZHZ (ZHZ (ZHZ (ZHZ (ZHZ (ZHZ (ZHZ (ZHZ @Option.mem_def.{0} @ZHQ.{0}) (ZHZ @forall_eq'.{1} @forall_eq'.{0})) (ZHZ (ZHZ @false_implies @decide_true) (ZHZ (@Int.sub_zero) (ZHZ @Int.sub_self @ZBp)))) (ZHZ (ZHZ (ZHZ @ZBY @ZBq) (ZHZ @ZBr @ZBo)) (ZHZ (ZHZ @and_assoc @Int.toNat_zero) (ZHZ (@Bool.not_not) (ZHZ @ZAr @ZBt))))) (ZHZ (ZHZ (ZHZ (ZHZ @implies_true.{1} @implies_true.{0}) (ZHZ @true_and @and_true)) (ZHZ (ZHZ @and_self @List.drop_zero.{0}) (ZHZ (@List.drop_succ_cons.{0}) (ZHZ @List.take_succ_cons.{0} @List.take_zero.{0})))) (ZHZ (ZHZ (ZHZ @List.take_nil.{0} @Option.map_some.{0,0}) (ZHZ (@Option.map_none.{0,0}) (ZHZ @Option.isSome_some.{0} @Option.isSome_none.{0}))) (ZHZ (ZHZ @ZIr.{0} @Option.getD_none.{0}) (ZHZ (@List.flatMap_cons.{0,0}) (ZHZ @List.flatMap_nil.{0,0} @ZIj.{0})))))) (ZHZ (ZHZ (ZHZ (ZHZ (ZHZ @List.nil_append.{0} @List.cons_append.{0}) (ZHZ @List.append_eq.{0} @List.getElem?_cons_zero.{0})) (ZHZ (ZHZ @List.getElem?_cons_succ.{0} @ZH3.{0}) (ZHZ (@List.length_nil.{0}) (ZHZ @Nat.zero_add @Nat.add_zero)))) (ZHZ (ZHZ (ZHZ @Int.toNat_natCast @forall_const.{1}) (ZHZ @forall_const.{0} @imp_self)) (ZHZ (ZHZ @Bool.and_true @ZIf) (ZHZ (@Bool.cond_false_right) (ZHZ @ZIx @Bool.not_true))))) (ZHZ (ZHZ (ZHZ (ZHZ @Bool.not_false @if_true_right) (ZHZ @ZjF.eq_1 @ZjF.eq_2)) (ZHZ (ZHZ @Zh7.eq_1 @Zh7.eq_2) (ZHZ (@ZfB.eq_1) (ZHZ @ZfB.eq_2 @Ziq.eq_1)))) (ZHZ (ZHZ (ZHZ @Ziq.eq_2 @ZP.eq_1) (ZHZ (@Jl.eq_1) (ZHZ @Jl.eq_2 @Jl.eq_3))) (ZHZ (ZHZ @Yq.eq_1 @J7.eq_1) (ZHZ (@WR.eq_1) (ZHZ @Ji.eq_1 @Ji.eq_2))))))) (ZHZ (ZHZ (ZHZ (ZHZ (ZHZ (ZHZ @Ji.eq_3 @Ji.eq_4) (ZHZ @Wz.eq_1 @Wz.eq_2)) (ZHZ (ZHZ @Wz.eq_3 @Wz.eq_4) (ZHZ (@Wz.eq_6) (ZHZ @qv.eq_51 @qv.eq_52)))) (ZHZ (ZHZ (ZHZ @qv.eq_53 @Wz.eq_5) (ZHZ @WE.eq_1 @WE.eq_2)) (ZHZ (ZHZ @WE.eq_3 @WE.eq_4) (ZHZ (@WE.eq_5) (ZHZ @WE.eq_6 @WE.eq_7))))) (ZHZ (ZHZ (ZHZ (ZHZ @Wo.eq_1 @Qv.eq_1) (ZHZ @Qv.eq_2 @Qv.eq_3)) (ZHZ (ZHZ @Wk.eq_1 @Wk.eq_2) (ZHZ (@ZaP.eq_1) (ZHZ @Zdp.eq_1 @Zcu.eq_1)))) (ZHZ (ZHZ (ZHZ @Zxo @ZIo.{0,0}) (ZHZ (@List.map_nil.{0,0}) (ZHZ @JK.eq_1 @K6.eq_1))) (ZHZ (ZHZ @K6.eq_2 @K6.eq_3) (ZHZ (@WU.eq_1) (ZHZ @WU.eq_2 @ZbC.eq_1)))))) (ZHZ (ZHZ (ZHZ (ZHZ (ZHZ @ZbC.eq_2 @ZbC.eq_3) (ZHZ @ZbC.eq_4 @ZbC.eq_5)) (ZHZ (ZHZ @ZbC.eq_6 @ZbC.eq_7) (ZHZ (@ZbC.eq_8) (ZHZ @ZbC.eq_9 @ZbC.eq_10)))) (ZHZ (ZHZ (ZHZ @ZbC.eq_11 @Zw.eq_1) (ZHZ (@Zw.eq_2) (ZHZ @ZH.eq_1 @ZH.eq_2))) (ZHZ (ZHZ @Yr.eq_1 @Yr.eq_2) (ZHZ (@Z9.eq_1) (ZHZ @Z9.eq_2 @qv.eq_1))))) (ZHZ (ZHZ (ZHZ (ZHZ @qv.eq_2 @qv.eq_3) (ZHZ @qv.eq_4 @qv.eq_5)) (ZHZ (ZHZ @qv.eq_6 @qv.eq_7) (ZHZ (@qv.eq_8) (ZHZ @qv.eq_9 @qv.eq_10)))) (ZHZ (ZHZ (ZHZ @qv.eq_11 @qv.eq_12) (ZHZ (@qv.eq_13) (ZHZ @qv.eq_14 @qv.eq_15))) (ZHZ (ZHZ @qv.eq_16 @qv.eq_17) (ZHZ (@qv.eq_18) (ZHZ @qv.eq_19 @qv.eq_20)))))))) (ZHZ (ZHZ (ZHZ (ZHZ (ZHZ (ZHZ (ZHZ @qv.eq_21 @qv.eq_22) (ZHZ @qv.eq_23 @qv.eq_24)) (ZHZ (ZHZ @qv.eq_25 @qv.eq_26) (ZHZ (@qv.eq_27) (ZHZ @qv.eq_28 @qv.eq_29)))) (ZHZ (ZHZ (ZHZ @qv.eq_30 @qv.eq_31) (ZHZ @qv.eq_32 @qv.eq_33)) (ZHZ (ZHZ @qv.eq_34 @qv.eq_35) (ZHZ (@qv.eq_36) (ZHZ @qv.eq_37 @qv.eq_38))))) (ZHZ (ZHZ (ZHZ (ZHZ @qv.eq_39 @qv.eq_40) (ZHZ @qv.eq_41 @qv.eq_42)) (ZHZ (ZHZ @qv.eq_43 @qv.eq_44) (ZHZ (@qv.eq_45) (ZHZ @qv.eq_46 @qv.eq_47)))) (ZHZ (ZHZ (ZHZ @qv.eq_48 @qv.eq_49) (ZHZ (@qv.eq_50) (ZHZ @putE.eq_1 @putE.eq_2))) (ZHZ (ZHZ @kept.eq_1 @kept.eq_2) (ZHZ (@Zk9.eq_1) (ZHZ @Zk9.eq_2 @Wh.eq_1)))))) (ZHZ (ZHZ (ZHZ (ZHZ (ZHZ @Wh.eq_2 @Zce.eq_1) (ZHZ @Zba.eq_1 @Zba.eq_2)) (ZHZ (ZHZ @Qj.eq_1 @Qj.eq_2) (ZHZ (@Qj.eq_3) (ZHZ @Zq.eq_1 @Zq.eq_2)))) (ZHZ (ZHZ (ZHZ @Zc8.eq_1 @Zgq.eq_1) (ZHZ @ZbO.eq_1 @ZbO.eq_2)) (ZHZ (ZHZ @ZcZ.eq_1 @ZcZ.eq_2) (ZHZ (@ZcZ.eq_3) (ZHZ @ZcZ.eq_4 @ZcZ.eq_5))))) (ZHZ (ZHZ (ZHZ (ZHZ @JY.eq_1 @JY.eq_2) (ZHZ @JY.eq_3 @JY.eq_4)) (ZHZ (ZHZ @JY.eq_5 @JY.eq_6) (ZHZ (@JY.eq_7) (ZHZ @JY.eq_8 @JY.eq_9)))) (ZHZ (ZHZ (ZHZ @JY.eq_10 @JY.eq_11) (ZHZ (@JY.eq_12) (ZHZ @JY.eq_13 @JY.eq_14))) (ZHZ (ZHZ @JY.eq_15 @JY.eq_16) (ZHZ (@JY.eq_17) (ZHZ @Zfm.eq_1 @Zfm.eq_2))))))) (ZHZ (ZHZ (ZHZ (ZHZ (ZHZ (ZHZ @Zfm.eq_3 @Zfm.eq_4) (ZHZ @Zfm.eq_5 @Zfm.eq_6)) (ZHZ (ZHZ @Zfm.eq_7 @Zfm.eq_8) (ZHZ (@eqO.eq_1) (ZHZ @eqO.eq_2 @eqO.eq_3)))) (ZHZ (ZHZ (ZHZ @Y3.eq_1 @Y3.eq_2) (ZHZ @Y3.eq_3 @Y3.eq_4)) (ZHZ (ZHZ @Y3.eq_5 @Y3.eq_6) (ZHZ (@Y3.eq_7) (ZHZ @Y3.eq_8 @Y3.eq_9))))) (ZHZ (ZHZ (ZHZ (ZHZ @Y3.eq_10 @Y3.eq_11) (ZHZ @Y3.eq_12 @Y3.eq_13)) (ZHZ (ZHZ @Y3.eq_14 @Y3.eq_15) (ZHZ (@Kk.eq_1) (ZHZ @Kk.eq_2 @YT.eq_1)))) (ZHZ (ZHZ (ZHZ @YT.eq_2 @YT.eq_3) (ZHZ (@YT.eq_4) (ZHZ @Kj.eq_1 @Kj.eq_2))) (ZHZ (ZHZ @Kj.eq_3 @Kj.eq_4) (ZHZ (@QE.eq_1) (ZHZ @QE.eq_2 @QE.eq_3)))))) (ZHZ (ZHZ (ZHZ (ZHZ (ZHZ @QE.eq_4 @ZF.eq_1) (ZHZ @KA.eq_1 @KA.eq_2)) (ZHZ (ZHZ @KA.eq_3 @cellsOf.eq_1) (ZHZ (@cellsOf.eq_2) (ZHZ @Qy.eq_1 @Qy.eq_2)))) (ZHZ (ZHZ (ZHZ @Qy.eq_3 @Qy.eq_4) (ZHZ (@Qy.eq_5) (ZHZ @Qb.eq_1 @Qb.eq_2))) (ZHZ (ZHZ @Qb.eq_3 @Qb.eq_4) (ZHZ (@ZdZ.eq_1) (ZHZ @ZdZ.eq_2 @ZdZ.eq_3))))) (ZHZ (ZHZ (ZHZ (ZHZ @Zam.eq_1 @Zam.eq_2) (ZHZ @ZI.eq_1 @ZI.eq_2)) (ZHZ (ZHZ @Za6.eq_1 @Za6.eq_2) (ZHZ (@K2.eq_1) (ZHZ @K2.eq_2 @K2.eq_3)))) (ZHZ (ZHZ (ZHZ @K2.eq_4 @ZfR.eq_1) (ZHZ (@ZfR.eq_2) (ZHZ @ZfR.eq_3 @ZfR.eq_4))) (ZHZ (ZHZ @Zd6.eq_1 @Zd6.eq_2) (ZHZ (@Zd6.eq_3) (ZHZ @Zd6.eq_4 @part.eq_1))))))))
end Go.DL
namespace Go.DL
open Go
variable [Zo5]
variable {kp:Option (List Nat)}{L:Loc}{H:Env}{s:St}{w:World}{os:List DOp}{ds:List D}{B:List (Nat × Rd)}{dst:Option Nat}{tmps:Array Value}{g:G}{Φ:Res->St->Prop}{Z:Nat->Nat}{xs:List Opd}{side:Prop}{row:Nat->List D}
section
variable {P:Program}
def ZtF{F:Fr P}{rs}{Φ}{dds}(hF:Y0 F rs Φ dds){o}{ps}{da db}{dk}{H}{L}{p}{fv}(hf:ZH H true o=sO (p,.d fv))(hp:p)(ks)(hks:(Wh H ks).map (·.1) |>.Nodup){a0}{n}{args}(hit:∀(y:D) (go:Nat->Oc) (A:Nat->St->Prop) (a':St),a0.sub a'->Zdv P y n args go A->A 0 a'->KC P fv [y] a' λr S=>∃a,Zea n go A a r/\a.sub S)(hlen:∀j,j<n->(args j).length=I ps)(go:Nat->Oc)(B:Nat->St->Prop)(h0:B 0 a0)(hbody:∀j a,j<n->(∀i,i<j->go i=.next)->B j a->∀(F':Fr P) (ready busy:St),Z7 a ready ->
   (∀{dk:List QU} {H:Env} {L:Loc},(Z7 a busy->ZA F' dk H L (a.or busy))->ZA F' (.beginR::dk) H L (a.or ready)) ->
   Zmx F' busy (λoc a'=>oc=go j/\B (j+1) a')->ZA F' [.code da,.beginR,.code db] (KG ps (args j) (K0 ks H)) [] (a.or ready))(hall:∀q a,(∀i,i<n->go i=.next)->B n a->a q=nO->ZA (F.mark q) dk H L (a.upd q .dfr))(hret:∀q a m,m<n->(∀i,i<m->go i=.next)->go m=.stop .ret->B (m+1) a->a q=nO->ZA (F.mark q) (.code .ret::dk) H L (a.upd q .dfr))(hexit:∀q a m id,m<n->(∀i,i<m->go i=.next)->go m=.stop (.exit id)->B (m+1) a->a q=nO->ZA (F.mark q) (.code (.exit id)::dk) H L (a.upd q .dfr))(hpan:∀q a m d,m<n->(∀i,i<m->go i=.next)->go m=.pan d->B (m+1) a->a q=nO->WB (F.mark q) H L d (a.upd q .dfr))(hgo:∀m c,go m=.stop c->c=.ret\/∃id,c=.exit id):
  ZA F (.code (.rangeF o ps da db)::dk) H L a0:=by
 refine Zjg hF.roundOf hf hp ks hks λq l r hq hl u ax ae ay ap aq az aw=>?_;have ak:a0 q=nO:=hq;have ai:a0 l=nO:=hl;let stOf:Nat->LSt:=λj=>match j with
  |0=>.ready
  |j+1=>match go j with
   |.next=>.ready
   |.stop c=>.done c
   |.pan _=>.busy
 let A:Nat->St->Prop:=λj S=>∃a,B j a/\Z7 a (lpS q l r .ready)/\S=a.or (lpS q l r (stOf j));have ar:Z7 a0 (lpS q l r .ready):=λb o hb=>by by_cases h1:b=q;rw[h1];exact ak;by_cases h2:b=l;rw[h2];exact ai;rw[Zbu h1 h2]at hb;simp at hb
 have a2:((a0.upd q .dfr).upd l (.loop r .ready))=a0.or (lpS q l r .ready):=by
  funext b;simp only[St.upd];by_cases h2:b=l;subst h2;rw[if_pos rfl,Zz ai];exact(WQ u).symm;rw[if_neg h2];by_cases h1:b=q;subst h1;rw[if_pos rfl,Zz ak];exact Kv.symm;rw[if_neg h1];cases ha:a0 b with
  |some x=>rw[Zt ha]
  |none=>rw[Zz ha];exact(Zbu h1 h2).symm
 have au:=hF.ex;have ad:Zdv P (.fn (.yield l) [] []) n args go A:=by
  rintro j hj aj S ⟨a,am,t,rfl⟩;have a1:stOf j=.ready:=by
   cases j with
   |zero=>rfl
   |succ j=>simp only[stOf,aj j ω]
  rw[a1];refine ZiS (an:=F.an) (N:=F.N) (r:=r) (by rw[Zz (t l _ (WQ u))];exact WQ u) (by rw[ae];exact hlen j hj) ap aq az (by rw[ae];exact aw) λF' ag av=>?_;rw[ax,ae];refine hbody j a hj aj am F' (lpS q l r .ready) (lpS q l r .busy) t (λhk=>ag.begin (r:=r) (by rw[Zz (t l _ (WQ u))];exact WQ u) ?_) ?_
  .have e:(a.or (lpS q l r .ready)).upd l (.loop r .busy)=a.or (lpS q l r .busy):=by
    funext b;simp only[St.upd];by_cases h2:b=l;subst h2;rw[if_pos rfl,Zz (t b _ (WQ u)),WQ u];rw[if_neg h2];by_cases h1:b=q;subst h1;rw[Zz (t b _ Kv),Zz (t b _ Kv),Kv,Kv];cases ha:a b with
    |some x=>rw[Zt ha,Zt ha]
    |none=>rw[Zz ha,Zz ha,Zbu h1 h2,Zbu h1 h2]
   rw[e];exact hk (Zin t u)
  refine Zmk ag u (by rw[av,ay];exact au) ?_;rintro oc a' ⟨rfl,al⟩ ah;exact⟨rfl,a',al,Zin ah u,rfl⟩
 refine⟨_,by rw[a2];exact hit _ go A _ KK ad ⟨a0,h0,ar,rfl⟩,?_,?_⟩
 .rintro d S ⟨S',ac,ab⟩;have fin:∀a,Z7 a (lpS q l r .ready)->∀st,(a.or (lpS q l r st)).sub S->S l=sO (.loop r st)/\(a.upd q .dfr).sub (S.del l)/\a q=nO:=λa t st hs=>by
   refine⟨hs l _ (by rw[Zz (t l _ (WQ u))];exact WQ u),λb o hb=>?_,t q _ Kv⟩;have ao:b≠l:=λe=>by subst e;rw[St.upd_ne _ _ (Ne.symm u),t b _ (WQ u)]at hb;simp at hb
   simp only[St.del,ao,if_false];by_cases h1:b=q;subst h1;rw[St.upd_same]at hb;exact hs b o (by rw[Zz (t b _ Kv),Kv];exact hb);rw[St.upd_ne _ _ h1]at hb;exact hs b o (Zt hb)
  cases ac with
  |all h ha =>
   obtain⟨a,hB,t,rfl⟩:=ha;have af:stOf n=.ready:=by
    cases n with
    |zero=>rfl
    |succ n=>simp only[stOf,h n ω]
   rw[af]at ab;obtain⟨f1,f2,f3⟩:=fin a t _ ab;exact .inl ⟨f1,Ww f2 (hall q a h hB f3)⟩
  |stop m c hm h hc ha =>
   obtain⟨a,hB,t,rfl⟩:=ha;have af:stOf (m+1)=.done c:=by simp only[stOf,hc]
   rw[af]at ab;obtain⟨f1,f2,f3⟩:=fin a t _ ab;rcases hgo m c hc with rfl|⟨id,rfl⟩;exact .inr ⟨.ret,.ret,f1,rfl,Ww f2 (hret q a m hm h hc hB f3)⟩;exact .inr ⟨.exit id,.exit id,f1,rfl,Ww f2 (hexit q a m id hm h hc hB f3)⟩
 rintro d S ⟨S',ac,ab⟩;cases ac with
 |pan m d hm h hc ha =>
  obtain⟨a,hB,t,rfl⟩:=ha;have hs:(a.upd q .dfr).sub S:=λb o hb=>by by_cases h1:b=q;subst h1;rw[St.upd_same]at hb;exact ab b o (by rw[Zz (t b _ Kv),Kv];exact hb);rw[St.upd_ne _ _ h1]at hb;exact ab b o (Zt hb)
  exact Znl hs (hpan q a m d hm h hc hB (t q _ Kv))
end
section
variable {P:Program}
def Zcz{g w b off cs xs vs}(h:YI g w b cs)(hx:ZN (Rep g w) vs xs)(ho:∀v∈vs,v.one1=true)(hlen:off+I xs<=I cs)(hkp:¬g.kept b):
  ∃w',(storeCells ⟨b,off,nO⟩ vs 0).run P w=.ok () w'/\Ext g w g w'/\w'.heap.size=w.heap.size/\(∀c,c≠b->w'.heap[c]?=w.heap[c]?)/\YI g w' b (ZF cs off xs):=by
 obtain⟨ad,o,T,hb,ab,af,ac⟩:=h;have ag:I vs=I xs:=hx.len;have ae:=run_storeCells_at (P:=P) b off T vs 0 o w hb (by simp;omega) (λx hx=>by rw[ZdJ];exact ho x hx);simp only[Nat.add_zero]at ae;have r:ZN (Rep g w) (o.toList.take off++vs++o.toList.drop (off+I vs)) (ZF cs off xs):=by have u:ZN (Rep g w) o.toList cs:=Yn (by simpa using ab) (λi v d hv hd=>af i v d (by simpa using hv) hd);unfold ZF;rw[<-ag];exact((u.take off).append hx).append (u.drop _)
 have t:((o.toList.take off++vs++o.toList.drop (off+I vs)).toArray).size=o.size:=by have:=r.len;simp[ZF]at this⊢;omega
 have he:=Zia (g:=g) b hb t ad hkp;refine⟨_,ae,he,by simp[World.setRow],λc hc=>setRow_other w b c _ hc,ad,_,T,setRow_heap w b o _ T (0,0) hb,by rw[t,ab];simp[ZF];omega,
  λi v d hv hd=>(r.get i v d (by simpa using hv) hd).mono he,λx hx=>?_⟩
 simp only[List.mem_toArray,List.mem_append]at hx;rcases hx with (hx|hx)|hx;exact ac x (Array.mem_toList_iff.1 (List.mem_of_mem_take hx));exact ho x hx;exact ac x (Array.mem_toList_iff.1 (List.mem_of_mem_drop hx))
def Zys{op n z x}(h:ck P op=sO (.clear n z x)):
  ∃u t e x',op=.call ⟨.builtin .clear,#[x'],u⟩/\u[0]?=sO t/\P.underlying t=sO (.slice e)/\ZX P e=sO n/\ZaL P e=sO z/\Z6 x'=sO x/\0<n/\I z=n:=by
 unfold ck at h;split at h;simp at h;split at h<;>(try(simp at h;done));all_goals (try(repeat' (split at h<;>(try(simp at h;done)))))
 rename_i c _ _ r _ _ e x' hu i _ _ _ s z' x2 h1 h2 h3 hc;simp only[ZHQ,K.clear.injEq]at h;obtain⟨rfl,rfl,rfl⟩:=h;obtain⟨callee,o,u⟩:=c;simp only at r hu i;obtain⟨o⟩:=o;simp only at i;subst i;subst r;simp only[Option.bind_eq_some_iff]at hu;obtain⟨t,ht,hu⟩:=hu;simp only[ZH1,decide_eq_true_eq]at hc;exact⟨u,t,e,x',rfl,ht,hu,h1,h2,h3,hc.1,hc.2⟩
def ZrK{F:Fr P}{kp dk o os H L s}(hg:Zw H o.guard=sO true){z x sz b off n cap}(hk:o.k=.clear sz z x){p}(ha:ZH H true x=sO (p,.d (.msl b off n cap sz)))(hp:p){cs}(hcs:Yq s b=sO cs)(hlen:off+n*sz<=I cs)(h:DO F kp dk os (putE H o.dst (.d (.tup []))) L (s.upd b (.cells (ZF cs off (WT z n))))):DO F kp dk (o::os) H L s:=by
 refine WN λoo g Z w tmps a0 i r k aq af an ah hd hN m hr ao=>?_;have hw:=Yo m an hg;have ap:=Yu af (by rw[hk];rfl);rw[hk]at af;obtain⟨am,t,e,x',ar,ad,hu,hsz,hz,av,h0,ay⟩:=Zys af;obtain⟨zv,aw,ak,ax,ie,hie,hzz⟩:=JC (g:=g) (w:=w) hz;have u:zv.cells.size=sz:=by have:=ak.len;simp at this;omega
 have ac:Rep g w _ _:=Yh m av rfl ha hp F.ds;generalize au:(Act.mk tmps F.ds).eval x'=vv at ac;have aj:s b=sO (.cells cs):=by unfold Yq at hcs;split at hcs<;>simp only[ZHQ,reduceCtorEq]at hcs;subst hcs;assumption
 obtain⟨ag,a6⟩:=ZkR (z:=z) (n:=sz) (c:=n) ay;have az:ZN (Rep g w) (Builtin.zeroCells zv.cells n).toList (WT z n):=by
  refine Yn (by rw[Array.length_toList,size_zeroCells,ag,u]) λi v d hv hd=>?_;have hi:i<n*sz:=by rw[<-ag];exact(List.getElem?_eq_some_iff.1 hd).1
  rw[a6 i hi]at hd;have hm:i % sz<sz:=Nat.mod_lt _ h0;simp only[Builtin.zeroCells,Array.toList_map,Array.toList_range,List.getElem?_map,ZH8,u]at hv;obtain⟨a,ha,rfl⟩:=hv;rw[List.getElem?_range hi]at ha;simp only[ZHQ]at ha;subst ha;refine ak.get (i % sz) _ d ?_ hd;rw[getElem!_pos zv.cells (i % sz) ω];simp[u,hm]
 have ai:∀v∈(Builtin.zeroCells zv.cells n).toList,v.one1=true:=λv hv=>by simp only[Builtin.zeroCells,Array.mem_toList_iff,Array.mem_map]at hv;obtain⟨a,_,rfl⟩:=hv;by_cases hs0:zv.cells.size=0;omega;exact ax _ (by rw[getElem!_pos zv.cells _ (Nat.mod_lt _ ω)];exact Array.getElem_mem _)
 have ab:n=0->ZF cs off (WT z n)=cs:=λhn=>by subst hn;simp[ZF,WT]
 have al:∃w',(Builtin.clear_ am oo.type #[vv]).run P w=.ok (.tuple #[]) w'/\Ext g w g w'/\w'.heap.size=w.heap.size/\(∀c,c≠b->w'.heap[c]?=w.heap[c]?)/\YI g w' b (ZF cs off (WT z n)):=by
  have ae:=QW m.st hcs;cases ac with
  |mslx a =>refine⟨w,?_,Ext.refl g w,rfl,λ_ _=>rfl,by rw[ab rfl];exact ae⟩;simp[Builtin.clear_,ad,run_underlying hu]
  |msl _ _ _ _ _ h1 h2 =>
   cases n with
   |zero =>refine⟨w,?_,Ext.refl g w,rfl,λ_ _=>rfl,by rw[ab rfl];exact ae⟩;simp[Builtin.clear_,ad,run_underlying hu]
   |succ n =>obtain⟨w',a1,a2,a3,a4,a5⟩:=Zcz (P:=P) ae az ai (by rw[ag];exact hlen) (m.st.kept b _ aj);refine⟨w',?_,a2,a3,a4,a5⟩;simp only[Builtin.clear_,ad,List.getElem?_toArray,List.getElem?_cons_zero,Sem.run_bind,run_underlying hu,Result.andThen_ok,aw,a1,Sem.run_pure]
 obtain⟨w',a1,a2,a3,a4,a5⟩:=al;have m':=m.named (o':=.cells (ZF cs off (WT z n))) aj a2 a3 a4 a5;refine YS (L':=L) hN aq ah hd hw ap (v:=.tuple #[]) (e:=.d (.tup [])) ?_ a2 m' (Rep.tup [] [] rfl ψ) (h a0 r k hr ao);simp only[execOp,ar,resolve,invoke,builtin,Sem.run_bind,Sem.run_pure,Result.andThen_ok,List.map_toArray,ZIo,List.map_nil,au,a1]
def J6(P:Program)(s:St)(sz:Nat)(dy:D)(m:Nat)(row:Nat->List D):Prop :=
 ∀g w v,Ym g s w->Rep g w v dy->0<sz->∃news,Ka g w sz m news row/\ZbV P w sz m v news
def J6.elems{s sz i m row}(h:Zah sz i=sO (m,row)):J6 P s sz i m row:=λg w v _ r o=>ZmL (P:=P) r h o
def J6.msl{s sz b off n cap cs}(hcs:Yq s b=sO cs)(hlen:off+n*sz<=I cs):J6 P s sz (.msl b off n cap sz) n (λi=>part cs (off+i*sz) sz):=λg w v hs hr h0=>by
 obtain⟨hp,t,T,hb,hcl,ab,u⟩:=QW hs hcs;let vals:=(t.toList.drop off).take (n*sz);have r:I vals=n*sz:=by simp[vals];omega
 have o:∀k,k<n*sz->vals[k]?=t[off+k]?:=λk hk=>by simp only[vals,ZIv,hk,if_true,List.getElem?_drop,Array.getElem?_toList]
 have hk:∀i j,i<n->j<sz->i*sz+j<n*sz:=λi j hi hj=>by have:(i+1)*sz<=n*sz:=ZIi _ hi;rw[ZIp,Nat.one_mul]at this;omega
 refine⟨vals,⟨r,λi hi=>?_,λi j v d hi hj hv hd=>?_,λv hv=>?_⟩,?_⟩;have:=hk i (sz-1) hi ω;simp only[part,ZIa,ZIq];omega;rw[o _ (hk i j hi hj)]at hv;refine ab _ v d hv ?_;simp only[part,ZIv,hj,if_true,List.getElem?_drop]at hd;rw[<-hd];congr 1;omega;obtain⟨k,ac,rfl⟩:=ZIc hv;have h1:=o k ω;rw[ZIn ac]at h1;exact u _ (Array.mem_of_getElem? h1.symm);cases hr with
 |mslx a =>have:vals=[]:=List.eq_nil_of_length_eq_zero (by simpa using r);rw[this];exact⟨λw2=>by simp[Builtin.lenOf],λw2 _=>by simp[Builtin.firstCells,loadCells,loadCellsFrom]⟩
 |msl _ _ _ _ _ h1 h2 =>
  refine⟨λw2=>by simp[Builtin.lenOf],λw2 ae=>?_⟩;refine run_firstCells_some (P:=P) w2 sz n ⟨b,off,nO⟩ n cap vals r λk v hv=>?_;have ad:k<n*sz:=by rw[<-r];exact(List.getElem?_eq_some_iff.1 hv).1
  rw[o k ad]at hv;rw[Kz,Zae (ae▸rfl:w2.heap[b]?=w.heap[b]?),Zbk hb];exact hv
def Zcq{sz m}{row:Nat->List D}(h:∀i,i<m->(row i).length=sz):∀k,k<=m->((ZH5 k).flatMap row).length=k*sz
 |0,_=>by simp
 |k+1,hk=>by rw[List.range_succ,List.flatMap_append,ZHX,Zcq h k ω];simp[h k hk,ZIp]
def ZmQ{sz m}{row:Nat->List D}(h:∀i,i<m->(row i).length=sz):∀(k i j),k<=m->i<k->j<sz->((ZH5 k).flatMap row)[i*sz+j]?=(row i)[j]?
 |0,i,j,_,hi,_=>by omega
 |k+1,i,j,hk,hi,hj=>by
  rw[List.range_succ,List.flatMap_append];have hl:=Zcq h k ω;by_cases o:i<k;have:i*sz+j<k*sz:=by have:(i+1)*sz<=k*sz:=ZIi _ o;rw[ZIp,Nat.one_mul]at this;omega
  rw[ZIm ω];exact ZmQ h k i j ω o hj;obtain rfl:i=k:=ω;rw[ZIw ω,hl];simp[List.flatMap_cons]
def Ka.flat{g w sz m vs row}(h:Ka g w sz m vs row):ZN (Rep g w) vs ((ZH5 m).flatMap row):=by
 have u:=Zcq h.rlen m (ZH9 _);refine Yn (by rw[h.len,u]) λk v d hv i=>?_;have t:k<m*sz:=by rw[<-u];exact(List.getElem?_eq_some_iff.1 i).1
 have hs:0<sz:=by rcases Nat.eq_zero_or_pos sz with h|h;subst h;simp at t;exact h
 have o:k / sz<m:=(Nat.div_lt_iff_lt_mul hs).2 t;have r:k % sz<sz:=Nat.mod_lt _ hs;have e:k / sz*sz+k % sz=k:=by rw[Nat.mul_comm];exact Nat.div_add_mod k sz
 rw[<-e]at hv i;rw[ZmQ h.rlen m _ _ (ZH9 _) o r]at i;exact h.rep _ _ v d o r hv i
def ZrJ{F:Fr P}{kp dk o os H L s}(hg:Zw H o.guard=sO true){e sz b z x y}(hk:o.k=.append e sz b z x y){p q m row row2 dy dx}(hx:ZH H true x=sO (p,.d dx))(hsl:Zfl sz dx=sO (.full,0,row))(hy:ZH H true y=sO (q,.d dy))(hel:J6 P s sz dy m row2)(hp:p)(hq:q)(hm:0<m)(hb:m*b<=140737488355328)(hbig:m<=big)(h:∀c cap,s c=nO->m<=cap->DO F kp dk os (putE H o.dst (.d (.msl c 0 m cap sz))) L (s.upd c (.cells ((ZH5 m).flatMap row2++List.replicate ((cap-m)*sz) .any)))):
  DO F kp dk (o::os) H L s:=by
 refine WN λoo g Z w tmps bh i r k ay u ap ag hd hN M hr ar=>?_;have hw:=Yo M ap hg;have av:=Yu u (by rw[hk];rfl);rw[hk]at u;obtain⟨x',y',ae,aj,t1,t2,tu,az,t,ak,al,a9,ba,aw,a8,hz,an,bb,bc,h0,hzl⟩:=ZcH u;subst an;have a0:Rep g w _ (.sl .full 0 sz row):=ZkZ (Yh M bb rfl hx hp F.ds) hsl;have a7:Rep g w _ _:=Yh M bc rfl hy hq F.ds;obtain⟨zv,hz1,be,bf,ie,ab,bg⟩:=JC (g:=g) (w:=w) hz;have ac:ie.size=sz:=by simpa[ZX,ab]using a8
 have ad:zv.cells.size=sz:=by have:=be.len;simp at this;omega
 have ao:P.bytesOf e=ie.bytes:=by simp[Program.bytesOf,ab]
 rw[ao]at hb;obtain⟨news,ai,au⟩:=hel _ _ _ M.st a7 h0;obtain⟨cap,cv,a1,a2,a3,a4,a5,a6⟩:=ZuF (ty:=oo.type) a9 ba aw ab bg ac ad bf h0 M.st a0 hm ai au hb hbig;have ah:ZaC g w g (w.drew.alloc (.cells cv e)):=ZjQ (g:=g) (w:=w) cv e M.st.fresh;have he:=ah.ext M.st.fresh;have aq:=Zcq ai.rlen m (ZH9 _);have ax:WO g (w.drew.alloc (.cells cv e)) w.heap.size (.cells ((ZH5 m).flatMap row2++List.replicate ((cap-m)*sz) .any)) :=
  ⟨(M.st.fresh _ (ZH9 _)).1,_,e,JD w.drew,by rw[ZHX,aq,List.length_replicate,a4,<-ZIp];congr 1;omega,λi v d hv hd=>(a6 i v d hv hd).mono he,a5⟩
 obtain⟨hn,m'⟩:=M.newObj ah ax;refine YS (L':=L) hN ay ag hd hw av (e:=.d (.msl w.heap.size 0 m cap sz)) ?_ he m' (Rep.msl _ _ _ _ _ a2 a3) (h _ cap hn a2 bh r k hr ar);have am:ae = #[x',y']:=by apply Array.ext';simpa using t
 have af:∀vs,Builtin.append_ aj oo.type vs=Builtin.append_ #[t1,t2] oo.type vs:=λvs=>by unfold Builtin.append_;simp[ak,al]
 unfold execOp;simp only[az,am,resolve,invoke,builtin,Sem.run_bind,Sem.run_pure,Result.andThen_ok,List.map_toArray,ZIo,List.map_nil,af,a1]
def ZzV{F:Fr P}{kp dk o os H L s}(hg:Zw H o.guard=sO true){e sz bt z x y}(hk:o.k=.append e sz bt z x y){p q b off n cap m row2 dy cs}(hx:ZH H true x=sO (p,.d (.msl b off n cap sz)))(hy:ZH H true y=sO (q,.d dy))(hp:p)(hq:q)(hcs:Yq s b=sO cs)(hlen:off+n*sz<=I cs)(hel:J6 P s sz dy m row2)(hroom:n+m<=cap->off=0/\(n+m)*sz<=I cs)(hb:(n+m)*bt<=140737488355328)(hbig:n+m<=big)(h1:n+m<=cap->DO F kp dk os (putE H o.dst (.d (.msl b off (n+m) cap sz))) L (s.upd b (.cells (ZF cs (n*sz) ((ZH5 m).flatMap row2)))))(h2:∀c cap',cap<n+m->s c=nO->n+m<=cap'->DO F kp dk os (putE H o.dst (.d (.msl c 0 (n+m) cap' sz))) L (s.upd c (.cells (part cs off (n*sz)++(ZH5 m).flatMap row2++List.replicate ((cap'-(n+m))*sz) .any)))):
  DO F kp dk (o::os) H L s:=by
 refine WN λoo g Z w tmps ak i r k a0 av b2 ae hd hN M hr ax=>?_;have hw:=Yo M b2 hg;have ay:=Yu av (by rw[hk];rfl);rw[hk]at av;obtain⟨x',y',ba,bv,t1,t2,tu,ci,ar,bw,bx,a7,a8,az,cj,hz,b0,cp,cr,h0,hzl⟩:=ZcH av;subst b0;have ai:Rep g w _ (.msl b off n cap sz):=Yh M cp rfl hx hp F.ds;have bp:Rep g w _ _:=Yh M cr rfl hy hq F.ds;obtain⟨zv,hz1,cu,cw,ie,ah,cy⟩:=JC (g:=g) (w:=w) hz;have a6:ie.size=sz:=by simpa[ZX,ah]using cj
 have a9:zv.cells.size=sz:=by have:=cu.len;simp at this;omega
 have b1:P.bytesOf e=ie.bytes:=by simp[Program.bytesOf,ah]
 rw[b1]at hb;have bq:s b=sO (.cells cs):=by unfold Yq at hcs;split at hcs<;>simp only[ZHQ,reduceCtorEq]at hcs;subst hcs;assumption
 obtain⟨ad,ab,am⟩:=hel _ _ _ M.st bp h0;obtain⟨bu,an,bn⟩:=J6.msl (P:=P) (s:=s) (cap:=cap) hcs hlen g w _ M.st ai h0;have bz:ba = #[x',y']:=by apply Array.ext';simpa using ar
 have bc:∀vs,Builtin.append_ bv oo.type vs=Builtin.append_ #[t1,t2] oo.type vs:=λvs=>by unfold Builtin.append_;simp[bw,bx]
 generalize cn:(Act.mk tmps F.ds).eval x'=vx at ai bn;generalize co:(Act.mk tmps F.ds).eval y'=vy at bp am;have ac:∀v' w',(Builtin.append_ #[t1,t2] oo.type #[vx,vy]).run P w=.ok v' w'->(execOp (Act.mk tmps F.ds).eval oo).run P w=.ok (.value v') w':=λv' w' t=>by unfold execOp;simp only[ci,bz,resolve,invoke,builtin,Sem.run_bind,Sem.run_pure,Result.andThen_ok,List.map_toArray,ZIo,List.map_nil,bc,cn,co,t]
 subst a6;have cb:=Zcq ab.rlen m (ZH9 _);have hpl:(part cs off (n*ie.size)).length=n*ie.size:=by simp only[part,ZIa,ZIq];omega
 have bg:(ZH5 n).flatMap (λi=>part cs (off+i*ie.size) ie.size)=part cs off (n*ie.size):=by
  have hlo:=Zcq an.rlen n (ZH9 _);apply List.ext_getElem?;intro k';by_cases bj:k'<n*ie.size;have e1:k' / ie.size*ie.size+k' % ie.size=k':=by rw[Nat.mul_comm];exact Nat.div_add_mod k' ie.size
  have e2:k' / ie.size<n:=(Nat.div_lt_iff_lt_mul h0).2 bj;have e3:k' % ie.size<ie.size:=Nat.mod_lt _ h0;have:=ZmQ an.rlen n _ _ (ZH9 _) e2 e3;rw[e1]at this;rw[this];simp only[part,ZIv,e3,if_true,List.getElem?_drop,bj]
  congr 1;omega
  rw[ZIz ω,ZIz ω]
 have ag:∀base,vx=.slice base n cap->cap<n+m->F.T.T g w (lone (F.b.atR ⟨tmps,F.ds⟩ (.inRegion ak (i::r)::k)) F.cs w):=by
  intro base hv bk;subst hv;have t:=ZmE (ty:=oo.type) a7 a8 az ah cy am bn.2 bk (by simp only[big]at hbig;omega) hb;have aw:=grownCap_ge w (n+m) cap e;have u:=grownCap_le_maxLen w (n+m) cap e (by simp only[big]at hbig;simp only[maxLen];omega);generalize grownCap w (n+m) cap e=cap' at t aw u;generalize bf:(bu++ad++(Builtin.zeroCells zv.cells (cap'-(n+m))).toList).toArray=cv at t;have cx:(Builtin.zeroCells zv.cells (cap'-(n+m))).toList.length=(cap'-(n+m))*ie.size:=by rw[Array.length_toList,size_zeroCells,a9]
  have bi:ZaC g w g (w.drew.alloc (.cells cv e)):=ZjQ (g:=g) (w:=w) cv e M.st.fresh;have he:=bi.ext M.st.fresh;have ap:ZN (Rep g w) cv.toList (part cs off (n*ie.size)++(ZH5 m).flatMap row2++List.replicate ((cap'-(n+m))*ie.size) .any):=by rw[<-bf,<-bg];refine(an.flat.append ab.flat).append (Yn (by rw[cx,List.length_replicate]) λk' v d hv hd=>?_);rw[List.getElem?_replicate]at hd;split at hd<;>simp only[ZHQ,reduceCtorEq]at hd;subst hd;exact .any v
  have bo:∀v∈cv,v.one1=true:=λv hv=>by rw[<-bf]at hv;simp only[List.mem_toArray,List.mem_append]at hv;rcases hv with (hv|hv)|hv;exact an.one v hv;exact ab.one v hv;simp only[Builtin.zeroCells,Array.mem_toList_iff,Array.mem_map]at hv;obtain⟨a,_,rfl⟩:=hv;exact cw _ (by rw[getElem!_pos zv.cells _ (Nat.mod_lt _ ω)];exact Array.getElem_mem _)
  have ch:WO g (w.drew.alloc (.cells cv e)) w.heap.size (.cells (part cs off (n*ie.size)++(ZH5 m).flatMap row2++List.replicate ((cap'-(n+m))*ie.size) .any)) :=
   ⟨(M.st.fresh _ (ZH9 _)).1,_,e,JD w.drew,by simpa using ap.len,λi v d hv hd=>(ap.get i v d (by simpa using hv) hd).mono he,bo⟩
  obtain⟨hn,m'⟩:=M.newObj bi ch;exact YS (L':=L) hN a0 ae hd hw ay (e:=.d (.msl w.heap.size 0 (n+m) cap' ie.size)) (ac _ _ t) he m' (Rep.msl _ _ _ _ _ aw (by simp only[maxLen]at u;simp only[big];omega)) (h2 _ cap' bk hn aw ak r k hr ax)
 have aj:∀base,vx=.slice base n cap->base=sO ⟨b,off,nO⟩\/(n+m=0/\cap=0)->n+m<=cap->F.T.T g w (lone (F.b.atR ⟨tmps,F.ds⟩ (.inRegion ak (i::r)::k)) F.cs w):=by
  intro base hv au u;subst hv;obtain⟨cg,af⟩:=hroom u;subst cg;obtain⟨hpr,bb,T,be,ca,hcr,hco⟩:=QW M.st hcs;by_cases bl:m=0;subst bl;have ce:ad=[]:=List.eq_nil_of_length_eq_zero (by simpa using ab.len);subst ce;have t:=Zjp (ty:=oo.type) (n:=n) (cap:=cap) (base:=base) a7 a8 az ah am ω;have br:ZF cs (n*ie.size) ((ZH5 0).flatMap row2)=cs:=by simp[ZF]
  have cm:s.upd b (.cells cs)=s:=by funext c;simp only[St.upd];split<;>simp_all
  have bh:=h1 u;rw[br,cm]at bh;exact YS (L':=L) (s':=s) hN a0 ae hd hw ay (e:=.d (.msl b 0 (n+0) cap ie.size)) (ac _ _ t) (Ext.refl g w) M (by rw[Nat.add_zero];exact ai) (bh ak r k hr ax);have al:base=sO ⟨b,0,nO⟩:=au.resolve_right (λh=>bl ω);subst al;have aq:n*ie.size+I ad<=bb.size:=by rw[ab.len,<-ZIp,ca];exact af
  have t:=ZrX (ty:=oo.type) a7 a8 az ah am be (λv hv=>by rw[ZdJ];exact ab.one v hv) u aq;obtain⟨w',a1,a2,a3,a4,a5⟩:=Zcz (P:=P) (off:=n*ie.size) (QW M.st hcs) ab.flat ab.one (by rw[cb,<-ZIp];exact af) (M.st.kept b _ bq);have ao:=run_storeCells_at (P:=P) b (n*ie.size) T ad 0 bb w be (by simpa using aq) (λv hv=>by rw[ZdJ];exact ab.one v hv);simp only[Nat.add_zero]at ao;rw[a1]at ao;simp only[Result.ok.injEq,true_and]at ao;rw[<-ao]at t;have m':=M.named (o':=.cells (ZF cs (n*ie.size) ((ZH5 m).flatMap row2))) bq a2 a3 a4 a5;exact YS (L':=L) hN a0 ae hd hw ay (e:=.d (.msl b 0 (n+m) cap ie.size)) (ac _ _ t) a2 m' (by
   cases ai with
   |msl _ _ _ _ _ _ hcb=>exact Rep.msl _ _ _ _ _ u hcb
   |mslx a=>exact absurd u ω) (h1 u ak r k hr ax)
 cases ai with
 |msl _ _ _ _ _ hc1 hc2 =>by_cases u:n+m<=cap;exact aj _ rfl (.inl rfl) u;exact ag _ rfl ω
 |mslx a =>by_cases u:0+m<=0;exact aj _ rfl (.inr ⟨ω,rfl⟩) u;exact ag _ rfl ω
end
variable {P:Program}
def WW(o:DOp)(H:Env)(L:Loc)(s:St):SR :=
 match o.k with
 |.q (.bin .add _) _=>.stop
 |.q (.bin .shl _) _=>.stop
 |_=>ZP o H L s
def Wy(K:Env->Loc->St->Prop)(X:List DOp->Env->Loc->St->Prop):List DOp->Env->Loc->St->Prop
 | [],H,L,s=>K H L s
 |o::os,H,L,s=>match WW o H L s with
  |.ok side H' L' s'=>side/\Wy K X os H' L' s'
  |.all side pre H' s'=>side/\∀b,pre b->Wy K X os (H' b) L (s' b)
  |.stop=>X (o::os) H L s
def ZiK{o H L s}:∀r,WW o H L s=r->r=.stop\/ZP o H L s=r:=λr i=>by
 unfold WW at i;split at i;exact .inl i.symm;exact .inl i.symm;exact .inr i
def We{F:Fr P}{kp}{dk}:∀{os} {H} {L} {s},
  Wy (λH L s=>ZA F dk (kept kp H) (Zk9 kp H L) s) (λos H L s=>DO F kp dk os H L s) os H L s->DO F kp dk os H L s
 | [],H,L,s,h=>Zhd h
 |o::os,H,L,s,h=>by simp only[Wy]at h;split at h;rename_i u H' L' t i;rcases ZiK _ i with h2|h2;cases h2;exact Jw h2 h.1 (We h.2);rename_i u pre H' t i;rcases ZiK _ i with h2|h2;cases h2;exact Zng h2 h.1 λb r=>We (h.2 b r);exact h
def ZcE{F:Fr P}{ks dk}:∀{os H L s},
  Wy (λH L s=>ZA F dk (Wh H ks) (Zce (Wh H ks) L) s) (λos H L s=>Kl F (sO ks) dk os H L s) os H L s->Kl F (sO ks) dk os H L s
 | [],H,L,s,h=>Ye (os:=[]) h
 |o::os,H,L,s,h=>by simp only[Wy]at h;split at h;rename_i u H' L' t i;rcases ZiK _ i with h2|h2;cases h2;intro B;refine ZhX h2 h.1 ?_;split;exact ZcE h.2 _;exact⟨JI,ZcE h.2 _⟩;rename_i u pre H' t i;rcases ZiK _ i with h2|h2;cases h2;intro B;exact Zo0 h2 h.1 λb r=>⟨JI,ZcE (h.2 b r) _⟩;exact h
def Zws{F:Fr P}{kp dk o os H L s}(u:o.guard=nO){x y i pl}(hk:o.k=.q (.bin i pl) [x,y]){p k r a b v}(t:Yr H true [x,y]=sO (p,[.d (.int k a),.d (.int r b)]))(hp:p)(hv:ZgH i k r a b=sO v)(h:Kl F kp dk os (putE H o.dst (.d (.int k v))) L s):Kl F kp dk (o::os) H L s:=λB=>Zx9 u hk t hp hv (h B)
def ZpZ{F:Fr P}{kp dk o os H L s}(r:o.guard=nO){x y pl}(t:o.k=.q (.bin .add pl) [x,y]){p k a b}(i:Yr H true [x,y]=sO (p,[.d (.int k a),.d (.int k b)]))(u:p)(h:Kl F kp dk os (putE H o.dst (.d (.int k (k.wrap (a+b))))) L s):Kl F kp dk (o::os) H L s:=Zws r t i u (by simp[ZgH]) h
section
variable {P:Program} {F:Fr P} {ks:Option (List Nat)} {dk:List QU} {H:Env} {L:Loc} {s:St}
def rgR{r os i}(e:r=os)(o:i=ks)(h:DO F ks dk os H L s):ZA F (.code (.reg r i)::dk) H L s:=by subst e o;exact Zmv h
def Ziy{o r os i}(e:r=os)(t:i=ks)(h:Kl F ks dk os H L s):ZA F (.code (.regD o (Zwm r) i)::dk) H L s:=by subst e t;exact Zvj h
def rgD{o r os i}(e:r=os)(t:i=ks)(h:DOA F ks dk os H L s []):ZA F (.code (.regD o r i)::dk) H L s:=by subst e t;exact Zp3 h
end
structure Hid(p:Prop):Prop where
 out:p
def nd2{a b}(x:a)(y:b):a/\b:=⟨x,y⟩
def mv{A B:Prop}(k:B)(h:Hid B->A:=by
 intro hk;repeat(first|refine Zd ?_|refine Zi ?_|refine Z8 ?_|refine Zo ?_|refine YQ ?_|refine Zb ?_|refine YJ ?_|refine ZG rfl ?_)
 exact hk.out):A:=h ⟨k⟩
def rg{A B:Prop}(k:B)(h:Hid B->A:=by
 intro hk;repeat(first|refine Zd ?_|refine Zi ?_|refine Z8 ?_|refine Zo ?_|refine YQ ?_|refine Zb ?_|refine YJ ?_|refine ZG rfl ?_)
 first|refine rgR (by conv=>lhs;whnf) (by conv=>lhs;whnf) (Zk ?_)|refine Ziy (by conv=>lhs;whnf) (by conv=>lhs;whnf) (Ye ?_)|refine rgD (by conv=>lhs;whnf) (by conv=>lhs;whnf) (Yb ?_)
 simp only[Eqs,reduceCtorEq,Int.reduceToNat,reduceIte,Nat.reduceEqDiff,Nat.reduceAdd,Nat.reduceLeDiff];exact hk.out):A:=h ⟨k⟩
def rx{p:Prop}(e:p){A B:Prop}(k:B)(h:p->Hid B->A:=by
 intro e1 hk;repeat(first|refine Zd ?_|refine Zi ?_|refine Z8 ?_|refine Zo ?_|refine YQ ?_|refine Zb ?_|refine YJ ?_|refine ZG rfl ?_)
 first|refine rgR (by conv=>lhs;whnf) (by conv=>lhs;whnf) (Zk ?_)|refine Ziy (by conv=>lhs;whnf) (by conv=>lhs;whnf) (Ye ?_)|refine rgD (by conv=>lhs;whnf) (by conv=>lhs;whnf) (Yb ?_)
 simp only[Eqs,reduceCtorEq,Int.reduceToNat,reduceIte,Nat.reduceEqDiff,Nat.reduceAdd,Nat.reduceLeDiff,e1];exact hk.out):A:=h e ⟨k⟩
def rh{A B:Prop}(k:B)(h:Hid B->A:=by
 intro hk;repeat(first|refine Zd ?_|refine Zi ?_|refine Z8 ?_|refine Zo ?_|refine YQ ?_|refine Zb ?_|refine YJ ?_|refine ZG rfl ?_)
 first|refine rgR (by conv=>lhs;whnf) (by conv=>lhs;whnf) ?_|refine Ziy (by conv=>lhs;whnf) (by conv=>lhs;whnf) ?_|refine rgD (by conv=>lhs;whnf) (by conv=>lhs;whnf) ?_
 exact hk.out):A:=h ⟨k⟩
def aa{A B:Prop}(k:B)(h:Hid B->A:=by
 intro hk;repeat(refine And.intro (by first|omega|trivial|(intro h0;simp at h0;omega)) ?_)
 exact hk.out):A:=h ⟨k⟩
def cl{q:Prop}(c:q){A B:Prop}(k:B)(h:q->Hid B->A:=by
 intro hc hk;refine JV rfl rfl rfl rfl rfl φ φ hc (Zk ?_);simp only[Eqs,reduceCtorEq,Int.reduceToNat,reduceIte,Nat.reduceEqDiff,Nat.reduceAdd,Nat.reduceLeDiff];exact hk.out):A:=h c ⟨k⟩
def ct{q:Prop}(c:q){A B:Prop}(k:B)(h:q->Hid B->A:=by
 intro hc hk;refine ZaA rfl rfl rfl rfl rfl φ φ hc (Zk ?_);simp only[Eqs,reduceCtorEq,Int.reduceToNat,reduceIte,Nat.reduceEqDiff,Nat.reduceAdd,Nat.reduceLeDiff];exact hk.out):A:=h c ⟨k⟩
def cl0{q:Prop}(c:q){A B:Prop}(k:B)(h:q->Hid B->A:=by
 intro hc hk;refine ZhU rfl rfl rfl rfl rfl φ φ hc (Ye ?_);simp only[Eqs,reduceCtorEq,Int.reduceToNat,reduceIte,Nat.reduceEqDiff,Nat.reduceAdd,Nat.reduceLeDiff];exact hk.out):A:=h c ⟨k⟩
def clD{q:Prop}(c:q){A B:Prop}(k:B)(h:q->Hid B->A:=by
 intro hc hk;refine Zf8 rfl rfl rfl rfl rfl φ φ hc (Yb ?_);simp only[Eqs,reduceCtorEq,Int.reduceToNat,reduceIte,Nat.reduceEqDiff,Nat.reduceAdd,Nat.reduceLeDiff];exact hk.out):A:=h c ⟨k⟩
def ctD{q:Prop}(c:q){A B:Prop}(k:B)(h:q->Hid B->A:=by
 intro hc hk;refine Zf9 rfl rfl rfl rfl rfl φ φ hc (by first|trivial|exact⟨rfl,trivial⟩|simp[Wo,Qv]) (Yb ?_);simp only[Eqs,reduceCtorEq,Int.reduceToNat,reduceIte,Nat.reduceEqDiff,Nat.reduceAdd,Nat.reduceLeDiff];exact hk.out):A:=h c ⟨k⟩
section
variable {P:Program} {F:Fr P} {dk:List QU} {H:Env} {L:Loc} {s:St}
def cd{o:Opd}{x y:DC}{b:Bool}{p:Prop}(ht:b=true->ZA F (.code x::dk) H L s)(hf:b=false->ZA F (.code y::dk) H L s)(ho:ZH H true o=sO (p,.d (.bool b)):=by rfl)(hp:p:=by trivial):ZA F (.code (.cond o x y)::dk) H L s:=Zj ho hp ht hf
end
def rb{p:Prop}(c:p){A B:Prop}(k:B)(h:p->Hid B->A:=by
 intro hret hk;repeat(first|refine Zd ?_|refine Zi ?_|refine Z8 ?_|refine Zo ?_|refine YQ ?_|refine Zb ?_|refine YJ ?_|refine ZG rfl ?_)
 exact hret rfl (by first|trivial|simp) (Ze9 hk.out) (by first|exact St.sub_refl|exact Yj (by first|trivial|assumption)|assumption|exact St.sub_upd _ (by assumption))):A:=h c ⟨k⟩
def ri{p:Prop}(c:p){A B:Prop}(k:B)(h:p->Hid B->A:=by
 intro hret hk;repeat(first|refine Zd ?_|refine Zi ?_|refine Z8 ?_|refine Zo ?_|refine YQ ?_|refine Zb ?_|refine YJ ?_|refine ZG rfl ?_)
 exact hret rfl (by first|trivial|simp) (Zhe hk.out) (by first|exact St.sub_refl|exact Yj (by first|trivial|assumption)|assumption|exact St.sub_upd _ (by assumption))):A:=h c ⟨k⟩
def rs{p:Prop}(c:p){A B:Prop}(k:B)(h:p->Hid B->A:=by
 intro hret hk;repeat(first|refine Zd ?_|refine Zi ?_|refine Z8 ?_|refine Zo ?_|refine YQ ?_|refine Zb ?_|refine YJ ?_|refine ZG rfl ?_)
 exact hret rfl (by first|trivial|simp) (ZwB hk.out) (by first|exact St.sub_refl|exact Yj (by first|trivial|assumption)|assumption|exact St.sub_upd _ (by assumption))):A:=h c ⟨k⟩
def ro{p:Prop}(c:p){A B:Prop}(k:B)(h:p->Hid B->A:=by
 intro hret hk;repeat(first|refine Zd ?_|refine Zi ?_|refine Z8 ?_|refine Zo ?_|refine YQ ?_|refine Zb ?_|refine YJ ?_|refine ZG rfl ?_)
 exact hret rfl (by first|trivial|simp) (ZA8 hk.out) (by first|exact St.sub_refl|exact Yj (by first|trivial|assumption)|assumption|exact St.sub_upd _ (by assumption))):A:=h c ⟨k⟩
def rt{p:Prop}(c:p){A B:Prop}(k:B)(h:p->Hid B->A:=by
 intro hret hk;repeat(first|refine Zd ?_|refine Zi ?_|refine Z8 ?_|refine Zo ?_|refine YQ ?_|refine Zb ?_|refine YJ ?_|refine ZG rfl ?_)
 exact hret rfl (by first|trivial|simp) (Zab hk.out rfl) (by first|exact St.sub_refl|exact Yj (by first|trivial|assumption)|assumption|exact St.sub_upd _ (by assumption))):A:=h c ⟨k⟩
def fr{P}{F:Fr P}{x dk H L s}(N)(M:Nat->(Env->Loc->St->Prop)->Prop)(h:∀n,(∀m,m<n->∀i,N-i=m->M i λH L s=>ZA F (.code x::.inLoop x::dk) H L s)->∀i,N-i=n->M i λH L s=>ZA F (.code x::.inLoop x::dk) H L s)(g:(∀n i,N-i=n->M i λH L s=>ZA F (.code x::.inLoop x::dk) H L s)->ZA F (.code x::.inLoop x::dk) H L s):ZA F (.code (.loop x)::dk) H L s :=
 Qm (g λn=>Nat.strongRecOn n h)
def i0{A B:Prop}(k:B)(h:Hid B->A:=by
 intro hq;repeat(first|refine Zd ?_|refine Zi ?_|refine Z8 ?_|refine Zo ?_|refine YQ ?_|refine Zb ?_|refine YJ ?_|refine ZG rfl ?_)
 exact Zj rfl trivial (λh=>by first|(simp at h;done)|(rw[hk]at h;simp at h;done)) (λ_=>hq.out)):A:=h ⟨k⟩
def i1{A B:Prop}(k:B)(h:Hid B->A:=by
 intro hq;repeat(first|refine Zd ?_|refine Zi ?_|refine Z8 ?_|refine Zo ?_|refine YQ ?_|refine Zb ?_|refine YJ ?_|refine ZG rfl ?_)
 exact Zj rfl trivial (λ_=>hq.out) (λh=>by first|(simp at h;done)|(rw[hk]at h;simp at h;done))):A:=h ⟨k⟩
def kl{P:Program}{F:Fr P}{dk:List QU}(s':St)(H':Env)(L':Loc)(h1:LeE H H')(h2:LeL L L')(h:ZA F dk H' L' s')(hs:s'.sub s:=by first|exact St.sub_refl|exact Yj (by first|trivial|assumption)|exact St.sub_trans (Yj (by first|trivial|assumption)) (Yj (by first|trivial|assumption))|assumption):ZA F dk H L s :=
 Ww hs (ZuA h1 h2 h)
end Go.DL
namespace Go.DL
open Go
variable {kp:Option (List Nat)}{L:Loc}{H:Env}{s:St}{w:World}{os:List DOp}{ds:List D}{B:List (Nat × Rd)}{dst:Option Nat}{tmps:Array Value}{g:G}{Φ:Res->St->Prop}{Z:Nat->Nat}{xs:List Opd}{side:Prop}{row:Nat->List D}
def ZhB:List Int:=[1,10,100,1000,10000,100000,1000000,10000000,100000000,1000000000,10000000000,100000000000,1000000000000,10000000000000,100000000000000,1000000000000000,10000000000000000,100000000000000000,1000000000000000000,10000000000000000000]
instance theTabs:Zo5:=⟨λn=>match Nat.beq n 3 with
 |true=>sO (ZhB.map λz=>.int .u64 z)
 |false=>nO⟩
def ZBP:Zo5.tab 3=sO (ZhB.map λz=>D.int .u64 z):=rfl
end Go.DL
namespace Go.DL
open Go
variable [Zo5]
variable {kp:Option (List Nat)}{L:Loc}{H:Env}{s:St}{w:World}{os:List DOp}{ds:List D}{B:List (Nat × Rd)}{dst:Option Nat}{tmps:Array Value}{g:G}{Φ:Res->St->Prop}{Z:Nat->Nat}{xs:List Opd}{side:Prop}{row:Nat->List D}
def ZvU(T:Tab)(ms:List Nat):Nat->List Nat->List Nat->List Nat×List (Nat×List Nat)×List Nat
 |0,rest,_=>(rest,[],[])
 |n+1,rest,A =>
  let rdy:=rest.filter λi=>(T.deps i).all λd=>!rest.contains d;let QK:=λ(i:Nat) (A:List Nat)=>A.filter λa=>!(ms.getD i 0).testBit a;let fl:=λ(i:Nat) (A:List Nat) (l:List (Nat×List Nat))=>match (QK i A).filter λa=>Wz (T.op a).k with
   | []=>l
   |as9=>(i,as9.map λa=>Zdp (T.op a))::l
  match rdy.find? λi=>ZdC T A i&&A.all λa=>(ms.getD i 0).testBit a ||nd (T.op a).dst (ZC (T.op i)) with
  |some i=>match ZvU T ms n (rest.erase i) (i::A) with
   | (od,f,k)=>(i::od,f,k)
  |none=>match rdy with
   | []=>(rest,[],[])
   | [i]=>match ZvU T ms n (rest.erase i) (QK i A) with
    | (od,f,k)=>(i::od,fl i A f,k)
   |i::j::_=>match ZvU T ms n ((rest.erase i).erase j) (QK j (QK i A)) with
    | (od,f,k)=>(i::j::od,fl i A (fl j A f),i::k)
def bS:List Nat->Nat
 | []=>0
 |a::l=>1 <<< a |||bS l
def bR:List DOp->Nat->Nat
 | [],m=>m
 |o::r,m=>bS (ZC o) |||match o.dst with
  |some d=>bR r m ^^^ (bR r m &&& 1 <<< d)
  |none=>bR r m
abbrev LB:=List (Nat×Nat)
def LB.get(d:Nat):LB->Nat->Nat
 | [],_=>d
 | (j,m)::r,k=>if j=k then m else LB.get d r k
def LB.put:LB->Nat->Nat->LB
 | [],k,m=>[(k,m)]
 | (j,n)::r,k,m=>if j=k then (j,n |||m)::r else (j,n)::LB.put r k m
def lvI(f:Nat->LB->Nat×LB×LB):Nat->Nat->LB->Nat×LB×LB
 |0,m,b=>f m b
 |n+1,m,b=>match f m b with
  | (m',k,b')=>if m' |||m=m then (m,k,b') else lvI f n (m' |||m) b'
def lvS(f:LB->Nat×LB×LB):Nat->LB->Nat×LB×LB
 |0,b=>f b
 |n+1,b=>match f b with
  | (m,k,b')=>if b'=b then (m,k,b') else lvS f n b'
def lvC(P:Program)(N ret:Nat):Code->LB->LB->Nat->Nat×LB×LB
 |.region id ops _,_,b,m=>match Zag P N ops (List.range ops.size) with
  |some l=>(bR l m,[(id,m)],b)
  |none=>(0,[],b)
 |.seq x y,ex,b,m=>match lvC P N ret y ex b m with
  | (m,k,b)=>match lvC P N ret x ex b m with
   | (m,k',b)=>(m,k'++k,b)
 |.cond c x y,ex,b,m=>match lvC P N ret x ex b m,Z6 c with
  | (n,k,b),sO c=>match lvC P N ret y ex b m with
   | (m,k',b)=>(bS (Yg c) |||n |||m,k++k',b)
  |_,nO=>(0,[],b)
 |.block id x,ex,b,m=>lvC P N ret x ((id,m)::ex) b m
 |.loop x,ex,b,_=>lvI (λm b=>lvC P N ret x ex b m) 9 0 b
 |.exit id,ex,b,_=>(LB.get ret ex id,[],b)
 |.ret,_,b,_=>(ret,[],b)
 |.scope x,ex,b,m=>lvS (λb=>lvC P N ret x ex b m) 9 b
 |.label l,_,b,m=>(m,[],b.put l m)
 |.goto l,_,b,_=>(LB.get 0 b l,[],b)
 |.rangeFunc f _ x y,ex,b,m0=>match Z6 f,lvI (λm b=>match lvC P N ret y ex b (m |||m0) with
   | (m1,k,b)=>match lvC P N ret x ex b m1 with
    | (m2,k',b)=>(m2 |||m0 |||m,k++k',b)) 9 0 b with
  |some f,(m,k,b)=>(bS (Yg f) |||m,k,b)
  |none,_=>(0,[],b)
 |_,_,b,m=>(m,[],b)
def fN:Nat->Option Nat
 |0=>sO 0
 |n+1=>sO (n+1)
def fNs:List Nat->Option (List Nat)
 | []=>sO []
 |a::l=>match fN a,fNs l with
  |some a,sO l=>sO (a::l)
  |_,_=>nO
def kpO:Nat->Nat->Nat->Option (List Nat)
 |0,_,_=>sO []
 |n+1,i,m=>match kpO n (i+1) (m / 2) with
  |some l=>if m % 2=1 then match fN i with
   |some i=>sO (i::l)
   |none=>nO
   else sO l
  |none=>nO
def kpM(N m:Nat):Option (List Nat):=kpO N 0 m
def rvM:List RV->Nat
 | []=>0
 |.tmp t::r=>1 <<< t |||rvM r
 |.cell1 t::r=>1 <<< t |||rvM r
 |.cellN t _::r=>1 <<< t |||rvM r
def dOf(P:Program)(N:Nat)(ops:Array Oper):List DOp×List Nat×List (Nat×List Nat)×List Nat :=
 match Zag P N ops (List.range ops.size) with
 |some l=>(l,ZvU (l.zip (ops.toList.map ZaO)) (Zip (ops.toList.map ZaO) []) ops.size (List.range ops.size) [])
 |none=>([],[],[],[])
def anD(P:Program)(N:Nat):Code->Ann
 |.region id ops true=>match dOf P N ops with
  | (_,od,fl,_)=>(id+1000000,od)::fl.map λx=>(id+1000000*(x.1+4),x.2)
 |.seq a b=>anD P N a++anD P N b
 |.cond _ a b=>anD P N a++anD P N b
 |.block _ a=>anD P N a
 |.loop a=>anD P N a
 |.scope a=>anD P N a
 |.rangeFunc _ _ a b=>anD P N a++anD P N b
 |_=>[]
def lvF(P:Program)(fn:Func)(c:Code):LB :=
 match ZjC P fn.results.toList with
 |some rs=>(lvC P fn.ntmps (rvM rs) c [] [] (rvM rs)).2.1
 |none=>[]
def anF(P:Program)(f:FuncId):Ann :=
 match P.funcs[f]? with
 |some fn=>match fn.body with
  |some c=>(lvF P fn c).filterMap (λx=>(kpM fn.ntmps x.2).map λk=>(x.1,k))++anD P fn.ntmps c
  |none=>[]
 |none=>[]
def fLL:List (Nat×Nat)->Option (List (Nat×Nat))
 | []=>sO []
 | (a,b)::l=>match fN a,fN b,fLL l with
  |some a,sO b,sO l=>sO ((a,b)::l)
  |_,_,_=>nO
def fCC:List (Nat×SK)->Option (List (Nat×SK))
 | []=>sO []
 | (a,b)::l=>match fN a,fCC l with
  |some a,sO l=>sO ((a,b)::l)
  |_,_=>nO
def fP:Option Zjm->Option (Option Zjm)
 |none=>sO nO
 |some p=>match p with
  |.cells l=>match fCC l with
   |some l=>sO (sO (.cells l))
   |none=>nO
  |p=>sO (sO p)
def plP(P:Program):Op->Option Zjm
 |.binOp _ t x y _=>match P.underlying t with
  |some (.struct fs)=>(KU P fs.toList).map .cells
  |some (.array n e)=>match QH P e,ZX P e with
   |some k,sO 1=>sO (.cells ((List.range n).map (·,k)))
   |_,_=>nO
  |_=>Zel P t x y
 |_=>nO
def fQ(P:Program)(op:Op)(q:Q)(xs:List Opd):Option K :=
 match q with
 |.loadN n=>match fN n with
  |some n=>sO (.q (.loadN n) xs)
  |none=>nO
 |.bin o _=>match fP (plP P op) with
  |some p=>sO (.q (.bin o p) xs)
  |none=>nO
 |.faddr n=>match fN n with
  |some n=>sO (.q (.faddr n) xs)
  |none=>nO
 |.fld1 n=>match fN n with
  |some n=>sO (.q (.fld1 n) xs)
  |none=>nO
 |.fldN n m=>match fN n,fN m with
  |some n,sO m=>sO (.q (.fldN n m) xs)
  |_,_=>nO
 |.iaddr n=>match fN n with
  |some n=>sO (.q (.iaddr n) xs)
  |none=>nO
 |.iaddrA n m=>match fN n,fN m with
  |some n,sO m=>sO (.q (.iaddrA n m) xs)
  |_,_=>nO
 |.idxA n m o=>match fN n,fN m with
  |some n,sO m=>sO (.q (.idxA n m o) xs)
  |_,_=>nO
 |.sliceA n m a b c=>match fN n,fN m with
  |some n,sO m=>sO (.q (.sliceA n m a b c) xs)
  |_,_=>nO
 |.slice n a b c=>match fN n with
  |some n=>sO (.q (.slice n a b c) xs)
  |none=>nO
 |.build z l=>match fLL l with
  |some l=>sO (.q (.build z l) xs)
  |none=>nO
 |.mkfn f n=>match fN n with
  |some n=>sO (.q (.mkfn f n) xs)
  |none=>nO
 |q=>sO (.q q xs)
def fK(P:Program)(op:Op):K->Option K
 |.q q xs=>fQ P op q xs
 |.storeN n a v=>match fN n with
  |some n=>sO (.storeN n a v)
  |none=>nO
 |.bsl n s z is xs=>match fN s with
  |some s=>sO (.bsl n s z is xs)
  |none=>nO
 |.append e s b z x y=>match fN s,fN b with
  |some s,sO b=>sO (.append e s b z x y)
  |_,_=>nO
 |.mkslice e s b z x y=>match fN s,fN b with
  |some s,sO b=>sO (.mkslice e s b z x y)
  |_,_=>nO
 |.clear s z x=>match fN s with
  |some s=>sO (.clear s z x)
  |none=>nO
 |.copy s x y=>match fN s with
  |some s=>sO (.copy s x y)
  |none=>nO
 |.pick c a b=>sO (.pick c a b)
 |.alloc z=>sO (.alloc z)
 |.box x=>sO (.box x)
 |.s2b x=>sO (.s2b x)
 |.store1 a v=>sO (.store1 a v)
 |.call f xs=>sO (.call f xs)
 |.defer f xs=>sO (.defer f xs)
 |.mkmap=>sO .mkmap
 |.mapupd a b c d=>sO (.mapupd a b c d)
 |.mapent a b c d=>sO (.mapent a b c d)
 |.entst a b c=>sO (.entst a b c)
 |.panic x=>sO (.panic x)
 |.recover=>sO .recover
 |.delete a b c=>sO (.delete a b c)
 |.fork _=>nO
def fO(P:Program):List (DOp×Oper)->Option (List DOp)
 | []=>sO []
 | (o,r)::l=>match fK P r.op o.k,fO P l,o.dst,o.guard with
  |some k,sO l,sO d,nO=>sO (⟨sO d,nO,k⟩::l)
  |some k,sO l,nO,nO=>sO (⟨nO,nO,k⟩::l)
  |some k,sO l,sO d,sO (t,true)=>sO (⟨sO d,sO (t,true),k⟩::l)
  |some k,sO l,sO d,sO (t,false)=>sO (⟨sO d,sO (t,false),k⟩::l)
  |some k,sO l,nO,sO (t,true)=>sO (⟨nO,sO (t,true),k⟩::l)
  |some k,sO l,nO,sO (t,false)=>sO (⟨nO,sO (t,false),k⟩::l)
  |_,_,_,_=>nO
def ZgR(id:Nat):Code->Option (Array Oper)
 |.region i ops _=>if i=id then sO ops else nO
 |.seq a b=>match ZgR id a with
  |some x=>sO x
  |none=>ZgR id b
 |.cond _ a b=>match ZgR id a with
  |some x=>sO x
  |none=>ZgR id b
 |.block _ a=>ZgR id a
 |.loop a=>ZgR id a
 |.scope a=>ZgR id a
 |.rangeFunc _ _ a b=>match ZgR id a with
  |some x=>sO x
  |none=>ZgR id b
 |_=>nO
def ZvT(fn:Func)(id:Nat):Option (Array Oper):=match fn.body with
 |some c=>ZgR id c
 |none=>nO
def ZCb(P:Program)(fn:Func)(id:Nat):List DOp:=match ZvT fn id with
 |some ops=>match Zag P fn.ntmps ops (List.range ops.size) with
  |some l=>match fO P (l.zip ops.toList) with
   |some l=>l
   |none=>[]
  |none=>[]
 |none=>[]
def ZCa(P:Program)(fn:Func)(id:Nat):List DOp:=match ZvT fn id with
 |some ops=>match dOf P fn.ntmps ops with
  | (l,od,_)=>match fO P (od.map λi=>(l.zip ops.toList).getD i dE) with
   |some l=>l
   |none=>[]
 |none=>[]
def ZBU(fl:List (Nat×List Nat)):List Nat->List DOp->Option (List (DOp×List Nat))
 |i::od,o::l=>match ZBU fl od l,fl.find? λx=>x.1==i with
  |some r,sO (_,t)=>match fNs t with
   |some t=>sO ((o,t)::r)
   |none=>nO
  |some r,nO=>sO ((o,[])::r)
  |none,_=>nO
 |_,_=>sO []
def ZCc(P:Program)(fn:Func)(id:Nat):List (DOp×List Nat):=match ZvT fn id with
 |some ops=>match dOf P fn.ntmps ops with
  | (l,od,fl,_)=>match fO P (od.map λi=>(l.zip ops.toList).getD i dE) with
   |some l=>match ZBU fl od l with
    |some r=>r
    |none=>[]
   |none=>[]
 |none=>[]
def ZBA(P:Program)(fn:Func)(id:Nat):List Nat:=match ZvT fn id with
 |some ops=>(dOf P fn.ntmps ops).2.1
 |none=>[]
def skC(P:Program)(fn:Func)(lv:LB):Code->Option DC
 |.skip=>sO .skip
 |.region id ops true=>match fN (LB.get 0 lv id),(dOf P fn.ntmps ops).2.2.1 with
  |some m,[]=>sO (.regD (ZBA P fn id) (Zwm (ZCa P fn id)) (kpM fn.ntmps m))
  |some m,_::_=>sO (.regD (ZBA P fn id) (ZCc P fn id) (kpM fn.ntmps m))
  |none,_=>nO
 |.region id _ false=>match fN (LB.get 0 lv id) with
  |some m=>sO (.reg (ZCb P fn id) (kpM fn.ntmps m))
  |none=>nO
 |.seq a b=>match skC P fn lv a,skC P fn lv b with
  |some x,sO y=>sO (.seq x y)
  |_,_=>nO
 |.cond c a b=>match Z6 c,skC P fn lv a,skC P fn lv b with
  |some c,sO x,sO y=>sO (.cond c x y)
  |_,_,_=>nO
 |.block id a=>match skC P fn lv a with
  |some x=>sO (.block id x)
  |none=>nO
 |.loop a=>match skC P fn lv a with
  |some x=>sO (.loop x)
  |none=>nO
 |.exit id=>sO (.exit id)
 |.ret=>sO .ret
 |.scope a=>match skC P fn lv a with
  |some x=>sO (.scope x)
  |none=>nO
 |.label l=>sO (.label l)
 |.goto l=>sO (.goto l)
 |.rangeFunc f ps a b=>match Z6 f,skC P fn lv a,skC P fn lv b with
  |some f,sO x,sO y=>sO (.rangeF f ps.toList x y)
  |_,_,_=>nO
 |_=>nO
def skF(P:Program)(fn:Func):DC:=match fn.body with
 |some c=>match skC P fn (lvF P fn c) c with
  |some d=>d
  |none=>.skip
 |none=>.skip
def fR:List RV->Option (List RV)
 | []=>sO []
 |.tmp t::r=>match fR r with
  |some r=>sO (.tmp t::r)
  |none=>nO
 |.cell1 t::r=>match fR r with
  |some r=>sO (.cell1 t::r)
  |none=>nO
 |.cellN t n::r=>match fN n,fR r with
  |some n,sO r=>sO (.cellN t n::r)
  |_,_=>nO
def rsF(P:Program)(fn:Func):List RV:=match ZjC P fn.results.toList with
 |some rs=>match fR rs with
  |some rs=>rs
  |none=>[]
 |none=>[]
def cR{P:Program}(f:FuncId)(fn:Func){rs:List RV}{b:DC}(h1:rsF P fn=rs:=by conv=>lhs;whnf)(h2:skF P fn=b:=by conv=>lhs;whnf)(h:cf P (anF P f) f=sO ⟨fn.ntmps,rsF P fn,skF P fn⟩:=by kernel_rfl):cf P (anF P f) f=sO ⟨fn.ntmps,rs,b⟩:=h1▸h2▸h
def upT:List Nat->List QU->List QU
 |0::r,_::d=>upT r d
 |1::r,.code (.seq a b)::d=>upT r (.code a::.code b::d)
 |2::r,.code (.block i a)::d=>upT r (.code a::.inBlock i::d)
 |_,d=>d
structure Tie{P:Program}(l:List Nat)(X:Fr P->Env->Loc->St->Prop)(A:Prop):Prop
section
variable {P:Program} {F:Fr P} {l:List Nat} {dk:List QU} {H:Env} {L:Loc} {s:St} {ks:Option (List Nat)} {os:List DOp} {ps:List (DOp × List Nat)} {B:List (Nat × Rd)}
def tU:Tie l (λ(F:Fr P)=>ZA F (upT l dk)) (ZA F dk H L s):=⟨⟩
def tO:Tie l (λ(F:Fr P)=>ZA F (upT l dk)) (DO F ks dk os H L s):=⟨⟩
def tO0:Tie l (λ(F:Fr P)=>ZA F (upT l dk)) (Kl F ks dk os H L s):=⟨⟩
def tOD:Tie l (λ(F:Fr P)=>ZA F (upT l dk)) (DOA F ks dk ps H L s B):=⟨⟩
def jU(l:List Nat)(J:(Fr P->Env->Loc->St->Prop)->Prop){X:Fr P->Env->Loc->St->Prop}{A:Prop}(h1:J X)(h2:J X->A)(_h:Tie l X A:=by first|exact tU|exact tO|exact tO0|exact tOD):A:=h2 h1
def lpU{a}(J:(Fr P->Env->Loc->St->Prop)->Prop)(i:J λ(F:Fr P)=>ZA F (.code a::.inLoop a::dk))(o:(J λ(F:Fr P)=>ZA F (.code a::.inLoop a::dk))->ZA F (.code a::.inLoop a::dk) H L s):ZA F (.code (.loop a)::dk) H L s:=Qm (o i)
end
end Go.DL
