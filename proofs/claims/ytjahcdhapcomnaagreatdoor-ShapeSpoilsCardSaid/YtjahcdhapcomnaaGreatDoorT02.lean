/- Lemmas: DlX, DlY, DlZ, DlZA, DlZB, DlZC, DlZD, DlZE, DlZF, DlZGa, DlZG, DlZH, DlZI, DlZJ, DlZK, DlZL, DlZM, DlZN, DlZO, DlZP, DlZQ, DlZS, DlZT, DlTop, DlZU, DlZX, DlZY, DlAc, DlAd, Tab0, DlAg. -/
import Derived.Test.YtjahcdhapcomnaaGreatDoorT01
set_option maxHeartbeats 16000000
set_option maxRecDepth 100000
set_option linter.all false
open Option renaming some → sO, none → nO
open Inhabited renaming default → dE
open Decidable renaming decide → dC
open And renaming intro → ZEC
open Bool renaming and_eq_true → ZEK, false_eq_true → ZE3, or_eq_true → ZEY, true_and → ZE1
open Go.DL.D.Le renaming refl → ZEF
open Go.DL.St renaming upd → ZFc
open List renaming append_assoc → ZE9, append_nil → ZFb, getD → ZES, getElem?_append_left → ZE7, getElem?_append_right → ZFj, getElem?_eq_getElem → ZE5, getElem?_eq_none → ZFi, getElem?_take → ZFg, getElem_of_mem → ZEV, length_append → ZEM, length_cons → ZER, length_drop → ZFh, length_take → ZEU, map_cons → ZEQ, map_nil → ZE6, mem_cons → ZFd, range → ZEO, take_length → ZFa
open Nat renaming add_mul → ZE2, le_refl → ZEP, mul_le_mul_right → ZEW
open Option renaming getD_some → ZFe, map_eq_some_iff → ZEN, map_some → ZE4
open Option.some renaming injEq → ZEz
open Prod.mk renaming injEq → ZEL
namespace Go.DL
open Go
variable [Zqy]
variable {kp:Option (List Nat)}{L:Loc}{ρ:Env}{s:St}{w:World}{os:List DOp}{ds:List D}{B:List (Nat × Rd)}{dst:Option Nat}{tmps:Array Value}{g:G}{Φ:Res→St→Prop}{ν:Nat→Nat}{xs:List Opd}{side:Prop}{row:Nat→List D}
inductive Sch(T:Tab):(Nat→Bool)→List Nat→Prop where
 |nil {l} (h:∀i,i<T.length→l i=true):Sch T l []
 |cons {l i is} (hi:i<T.length) (hl:l i=false) (hd:∀d∈T.deps i,l d=true) (t:Sch T (fun j=>j==i ||l j) is):Sch T l (i::is)
def Zy(ρ ρ':Env)(ns:List Nat):Prop:=∀t∈ns,ZH ρ' t=ZH ρ t
theorem ZP{ρ ρ' c x}(h:Zy ρ ρ' (ZN x)):ZC ρ' c x=ZC ρ c x:=by
 cases x with
 |cst d=>rfl
 |tmp t=>simp only[ZC,h t (by simp[ZN])]
theorem WW{ρ ρ' c}:∀{xs},Zy ρ ρ' (ZaK xs)→Z2 ρ' c xs=Z2 ρ c xs
 | [],_=>rfl
 |x::xs,h=>by
  have h1:Zy ρ ρ' (ZN x):=fun t ht=>h t (by simp[ZaK];exact .inl ht)
  have h2:Zy ρ ρ' (ZaK xs):=fun t ht=>h t (by simp only[ZaK,List.flatMap_cons,List.mem_append];exact .inr ht)
  simp only[Z2,ZP h1,WW h2]
theorem We{ρ ρ' g}(h:Zy ρ ρ' (Zer g)):Zk ρ' g=Zk ρ g:=by
 cases g with
 |none=>rfl
 |some x=>obtain⟨t,w⟩:=x;simp only[Zk,h t (by simp[Zer])]
theorem ZkR{ρ ρ' c x a b}(h:Zy ρ ρ' (ZN x++ZN a++ZN b)):ZcP ρ' c x a b=ZcP ρ c x a b:=by
 have h1:Zy ρ ρ' (ZN x):=fun t ht=>h t (by simp[ht])
 have h2:Zy ρ ρ' (ZN a):=fun t ht=>h t (by simp[ht])
 have h3:Zy ρ ρ' (ZN b):=fun t ht=>h t (by simp[ht])
 simp only[ZcP,ZP h1]
 split
 ·rw[ZP h2,ZP h3]
 ·rfl
theorem ZpH{L L' s e}(h:∀x o,e=.loc x o→Zf L' x=Zf L x):YS L' s e=YS L s e:=by
 cases e with
 |d v=>cases v<;>rfl
 |loc l o=>simp only[YS,h l o rfl]
 |when c e=>rfl
theorem ZpQ{L L' s n e}(h:∀x o,e=.loc x o→Zf L' x=Zf L x):Kc L' s n e=Kc L s n e:=by
 cases e with
 |d v=>cases v<;>rfl
 |loc l o=>simp only[Kc,h l o rfl]
 |when c e=>rfl
theorem ZrY{L L' s q es}(h:ZbZ (.q q [])=true→∀x o,.loc x o∈es→Zf L' x=Zf L x):qv L' s q es=qv L s q es:=by
 by_cases hl:ZbZ (.q q [])=true
 ·replace h:=h hl
  cases q<;>simp[ZbZ]at hl
  ·match es with
   | [a]=>simp only[qv,ZpH (e:=a) fun x o ha=>h x o (by rw[ha];exact List.mem_singleton_self _)]
   | []=>rfl
   |_::_::_=>rfl
  ·match es with
   | [a]=>simp only[qv,ZpQ (e:=a) fun x o ha=>h x o (by rw[ha];exact List.mem_singleton_self _)]
   | []=>rfl
   |_::_::_=>rfl
 ·clear h
  unfold qv
  split<;>first|rfl|(exfalso;exact hl rfl)|skip
def YB:K→Bool
 |.q _ _|.pick _ _ _|.bsl _ _ _ _ _|.s2b _=>true
 |_=>false
theorem ZsX{o ρ ρ' L L' s s1 side ρ1 L1}(hst:Zx o ρ L s=.ok side ρ1 L1 s1)(hs:side)(hgt:Zk ρ o.guard=sO true)(hk:YB o.k=true)(ha:Zy ρ ρ' (Zz o))(hl:ZbZ o.k=true→∀q xs p es,o.k=.q q xs→Z2 ρ true xs=sO (p,es)→p→∀x o,.loc x o∈es→Zf L' x=Zf L x):∃e,ρ1=Zv ρ o.dst e∧L1=L∧s1=s∧Zx o ρ' L' s=.ok side (Zv ρ' o.dst e) L' s:=by
 obtain⟨dst,gd,k⟩:=o
 have hg:=We (g:=gd) (fun t ht=>ha t (by simp[Zz,ht]))
 have hn:Zy ρ ρ' (Yw k):=fun t ht=>ha t (by simp[Zz,ht])
 simp only at hgt
 unfold Zx at hst⊢
 simp only[hg,hgt]at hst⊢
 cases k with
 |q q xs =>
  simp only at hst⊢
  rw[WW hn]
  split at hst<;>(try(simp at hst;done))
  rename_i p es hes
  try simp only[hes]
  split at hst<;>(try(simp at hst;done))
  rename_i sd e hq
  have hp:p:=by
   split at hst<;>(simp only[SR.ok.injEq]at hst;obtain⟨rfl,-,-,-⟩:=hst)
   ·exact hs.1
   ·exact(hs trivial).1
  have hqc:qv L' s q es=qv L s q es:=ZrY fun hld=>hl (by cases q<;>simp_all[ZbZ]) q xs p es rfl hes hp
  simp only[hqc,hq]
  split at hst<;>(simp only[SR.ok.injEq]at hst;obtain⟨rfl,rfl,rfl,rfl⟩:=hst)
  ·exact⟨e,rfl,rfl,rfl,rfl⟩
  ·exact⟨_,rfl,rfl,rfl,rfl⟩
 |pick x a b =>
  simp only at hst⊢
  rw[ZkR hn]
  split at hst<;>(try(simp at hst;done))
  rename_i p v hp
  try simp only[hp]
  split at hst<;>(simp only[SR.ok.injEq]at hst;obtain⟨rfl,rfl,rfl,rfl⟩:=hst)
  ·exact⟨_,rfl,rfl,rfl,rfl⟩
  ·exact⟨_,rfl,rfl,rfl,rfl⟩
 |bsl len n z is xs =>
  simp only at hst⊢
  rw[WW hn]
  split at hst<;>(try(simp at hst;done))
  rename_i p es hes
  try simp only[hes]
  split at hst<;>(try(simp at hst;done))
  rename_i ds hds
  try simp only[hds]
  split at hst<;>(simp only[SR.ok.injEq]at hst;obtain⟨rfl,rfl,rfl,rfl⟩:=hst)
  ·exact⟨_,rfl,rfl,rfl,rfl⟩
  ·exact⟨_,rfl,rfl,rfl,rfl⟩
 |s2b x =>
  simp only at hst⊢
  rw[ZP hn]
  split at hst<;>(try(simp at hst;done))
  rename_i p l hl
  try simp only[hl]
  split at hst<;>(simp only[SR.ok.injEq]at hst;obtain⟨rfl,rfl,rfl,rfl⟩:=hst)
  ·exact⟨_,rfl,rfl,rfl,rfl⟩
  ·exact⟨_,rfl,rfl,rfl,rfl⟩
 |_=>simp[YB]at hk
theorem Zk0{o ρ L s s1 side ρ1 L1}(hst:Zx o ρ L s=.ok side ρ1 L1 s1)(hgt:Zk ρ o.guard=sO false)(hk:YB o.k=true):∃e,ρ1=Zv ρ o.dst (.when false e)∧L1=L∧s1=s:=by
 obtain⟨dst,gd,k⟩:=o
 have hgn:∃x,gd=sO x:=by
  cases gd with
  |none=>simp[Zk]at hgt
  |some x=>exact⟨x,rfl⟩
 obtain⟨x,rfl⟩:=hgn
 simp only at hgt
 unfold Zx at hst
 simp only[hgt]at hst
 cases k with
 |q q xs =>
  simp only at hst
  split at hst<;>(try(simp at hst;done))
  split at hst<;>(try(simp at hst;done))
  simp only[SR.ok.injEq]at hst;obtain⟨rfl,rfl,rfl,rfl⟩:=hst
  exact⟨_,rfl,rfl,rfl⟩
 |pick x a b =>
  simp only at hst
  split at hst<;>(try(simp at hst;done))
  simp only[SR.ok.injEq]at hst;obtain⟨rfl,rfl,rfl,rfl⟩:=hst
  exact⟨_,rfl,rfl,rfl⟩
 |bsl len n z is xs =>
  simp only at hst
  split at hst<;>(try(simp at hst;done))
  split at hst<;>(try(simp at hst;done))
  simp only[SR.ok.injEq]at hst;obtain⟨rfl,rfl,rfl,rfl⟩:=hst
  exact⟨_,rfl,rfl,rfl⟩
 |s2b x =>
  simp only at hst
  split at hst<;>(try(simp at hst;done))
  simp only[SR.ok.injEq]at hst;obtain⟨rfl,rfl,rfl,rfl⟩:=hst
  exact⟨_,rfl,rfl,rfl⟩
 |_=>simp[YB]at hk
theorem Zhd{s s' L L'}:∀{B},KE s s' L L' B→(∀n b,(n,.blk b)∈B→s' b=s b)∧(∀n l,(n,.loc l)∈B→Zf L' l=Zf L l)
 | [],_=>⟨fun n b h=>by simp at h,fun n b h=>by simp at h⟩
 | (m,.blk c)::B,h=>by
  obtain⟨h1,h2⟩:=Zhd h.2
  refine⟨fun n b hb=>?_,fun n l hl=>h2 n l (by simpa using hl)⟩
  rcases List.mem_cons.1 hb with hb|hb
  ·simp only[ZEL,Rd.blk.injEq]at hb;rw[hb.2];exact h.1
  ·exact h1 n b hb
 | (m,.loc c)::B,h=>by
  obtain⟨h1,h2⟩:=Zhd h.2
  refine⟨fun n b hb=>h1 n b (by simpa using hb),fun n l hl=>?_⟩
  rcases List.mem_cons.1 hl with hl|hl
  ·simp only[ZEL,Rd.loc.injEq]at hl;rw[hl.2];exact h.1
  ·exact h2 n l hl
theorem ZfU(s L):∀B,KE s s L L B
 | []=>trivial
 | (_,.blk _)::B=>⟨rfl,ZfU s L B⟩
 | (_,.loc _)::B=>⟨rfl,ZfU s L B⟩
theorem ZcJ(fl s L B):Y5 fl s s L L B:=ZfU s L _
theorem ZiM:∀(B),YP [] B=[]
 | []=>rfl
 |_::B=>ZiM B
theorem ZbX{s s' L L' B}:Y5 [] s s' L L' B:=by
 unfold Y5;rw[ZiM];trivial
theorem Qe{fl x}:∀{B},x∈YP fl B↔J3 x.1 fl=true∧x∈B
 | []=>by simp[YP]
 |y::B=>by
  simp only[YP]
  split
  ·rename_i h
   simp only[ZFd,Qe (B:=B)]
   constructor
   ·rintro(rfl|⟨h1,h2⟩)
    ·exact⟨h,.inl rfl⟩
    ·exact⟨h1,.inr h2⟩
   ·rintro⟨h1,rfl|h2⟩
    ·exact .inl rfl
    ·exact .inr ⟨h1,h2⟩
  ·rename_i h
   simp only[ZFd,Qe (B:=B)]
   constructor
   ·rintro⟨h1,h2⟩;exact⟨h1,.inr h2⟩
   ·rintro⟨h1,rfl|h2⟩
    ·exact absurd h1 h
    ·exact⟨h1,h2⟩
theorem ZuU{o ρ x}:(Zbq o,x)∈Kd o ρ↔x∈YV o ρ:=by simp[Kd]
theorem ZiZ{o ρ ρ'}(h:Zy ρ ρ' (Zz o)):YV o ρ'=YV o ρ:=by
 obtain⟨dst,gd,k⟩:=o
 have hg:=We (g:=gd) (fun t ht=>h t (by simp[Zz,ht]))
 cases k with
 |q q xs =>
  have hn:Zy ρ ρ' (ZaK xs):=fun t ht=>h t (by simp[Zz,Yw,ht])
  simp only[YV,hg]
  split
  ·cases Zk ρ gd with
   |none=>rfl
   |some c=>simp only[WW hn]
  ·rfl
 |_=>rfl
theorem Zx8{L s s' q es}(h:YL (.q q [])=true→∀e r,es=e::r→∀b,.blk b∈KF e→s' b=s b):qv L s' q es=qv L s q es:=by
 by_cases hl:YL (.q q [])=true
 ·replace h:=h hl
  match es with
  | [] =>
   cases q
   case conv c=>cases c<;>first|rfl|simp[YL]at hl
   all_goals simp[YL]at hl<;>rfl
  |e::r =>
   replace h:=h e r rfl
   have hc:∀b o,e=.d (.ptr b o)→Z5 s' b=Z5 s b:=fun b o he=>by subst he;simp only[Z5,h b (by simp[KF])]
   have hm:∀b,e=.d (.map b)→KA s' b=KA s b:=fun b he=>by subst he;simp only[KA,h b (by simp[KF])]
   have hms:∀b o n cap z,e=.d (.msl b o n cap z)→Z5 s' b=Z5 s b:=fun b o n cap z he=>by subst he;simp only[Z5,h b (by simp[KF])]
   have hconv:q=.conv .b2s→qv L s' q (e::r)=qv L s q (e::r):=fun hq=>by
    subst hq
    cases r with
    |nil =>
     cases e with
     |d v=>cases v<;>first|rfl|(simp only[qv];rw[hms _ _ _ _ _ rfl])
     |_=>rfl
    |cons =>
     cases e with
     |d v=>cases v<;>rfl
     |_=>rfl
   cases q
   case conv c=>cases c<;>first|(simp[YL]at hl;done)|exact hconv rfl
   all_goals simp[YL]at hl
   ·cases r with
    |nil =>
     simp only[qv]
     congr 1
     cases e with
     |d v=>cases v<;>first|rfl|(simp only[YS];rw[hc _ _ rfl])
     |_=>rfl
    |cons=>rfl
   ·cases r with
    |nil =>
     simp only[qv]
     congr 1
     cases e with
     |d v=>cases v<;>first|rfl|(simp only[Kc];rw[hc _ _ rfl])
     |_=>rfl
    |cons=>rfl
   ·match r with
    | [] =>
     cases e with
     |d v=>cases v<;>rfl
     |_=>rfl
    | [e2] =>
     cases e with
     |d v =>
      cases e2 with
      |d v2=>cases v<;>first|rfl|(simp only[qv];rw[hm _ rfl])
      |_=>cases v<;>rfl
     |_=>cases e2<;>rfl
    |e2::_::_ =>
     cases e with
     |d v=>cases v<;>(cases e2<;>rfl)
     |_=>cases e2<;>rfl
   ·cases r with
    |nil =>
     cases e with
     |d v=>cases v<;>first|rfl|(simp only[qv];rw[hm _ rfl])
     |_=>rfl
    |cons =>
     cases e with
     |d v=>cases v<;>rfl
     |_=>rfl
 ·clear h
  cases q
  case conv c=>cases c<;>first|(simp[YL]at hl;done)|(unfold qv;rfl)|(unfold qv;split<;>first|rfl|(rename_i hx;cases hx))
  all_goals first|(simp[YL]at hl;done)|(unfold qv;rfl)|(unfold qv;split<;>first|rfl|(rename_i hx;cases hx))
theorem ZsY{o ρ L s s' side ρ1}(hst:Zx o ρ L s=.ok side ρ1 L s)(hk:YB o.k=true)(hgt:Zk ρ o.guard=sO true)(h:∀b,.blk b∈YV o ρ→s' b=s b):Zx o ρ L s'=.ok side ρ1 L s':=by
 obtain⟨dst,gd,k⟩:=o
 unfold Zx at hst⊢
 obtain⟨c,hg,hc⟩:∃c,Zk ρ gd=sO c∧c=true:=⟨true,hgt,rfl⟩
 simp only[hg]at hst⊢
 cases k with
 |q q xs =>
  simp only at hst⊢
  split at hst<;>(try(simp at hst;done))
  rename_i p es hes
  have hqc:qv L s' q es=qv L s q es:=Zx8 fun hl e r he b hb=>h b (by
   subst he
   have hl':YL (.q q xs)=true:=by
    cases q
    case conv c=>cases c<;>simp_all[YL]
    all_goals simp_all[YL]
   subst hc
   simp only[YV,hl',if_true,hg,hes];exact hb)
  simp only[hqc]
  split at hst<;>(try(simp at hst;done))
  split at hst<;>(simp only[SR.ok.injEq]at hst;obtain⟨rfl,rfl,-,-⟩:=hst;rfl)
 |pick x a b =>
  simp only at hst⊢
  split at hst<;>(try(simp at hst;done))
  split at hst<;>(simp only[SR.ok.injEq]at hst;obtain⟨rfl,rfl,-,-⟩:=hst;rfl)
 |bsl len n z is xs =>
  simp only at hst⊢
  split at hst<;>(try(simp at hst;done))
  split at hst<;>(try(simp at hst;done))
  split at hst<;>(simp only[SR.ok.injEq]at hst;obtain⟨rfl,rfl,-,-⟩:=hst;rfl)
 |s2b x =>
  simp only at hst⊢
  split at hst<;>(try(simp at hst;done))
  split at hst<;>(simp only[SR.ok.injEq]at hst;obtain⟨rfl,rfl,-,-⟩:=hst;rfl)
 |_=>simp[YB]at hk
def Zak(o:DOp)(x:Nat):Prop:=o.dst=sO x∧∃z,o.k=.alloc z
def ZbG(o:DOp)(ρ:Env)(e:E):Prop :=
 (Zk ρ o.guard=sO false∧∃e0,e=.when false e0) ∨
 (∃x y bo pl p k k2 a b v,o.guard=nO∧o.k=.q (.bin bo pl) [x,y]∧Z2 ρ true [x,y]=sO (p,[.d (.int k a),.d (.int k2 b)])∧p∧ZhJ bo k k2 a b=sO v∧e=.d (.int k v))
def WU(o:DOp)(ρ:Env)(L:Loc)(s:St)(B:List (Nat×Rd)):Prop :=
 (YB o.k=true∧Zk ρ o.guard=sO true∧(∀b∈YV o ρ,(Zbq o,b)∈B)∧∃side e,side∧Zx o ρ L s=.ok side (Zv ρ o.dst e) L s∧∀t,o.dst=sO t→ZH ρ t=sO e) ∨
 (YB o.k=true∧∃e,ZbG o ρ e∧∀t,o.dst=sO t→ZH ρ t=sO e) ∨
 (∃t z,o=⟨sO t,nO,.alloc z⟩∧ZH ρ t=sO (.loc t 0)∧Zf L t=sO z)
structure Inv(T:Tab)(ms:List Nat)(A rest:List Nat)(ρ:Env)(L:Loc)(s:St)(B:List (Nat×Rd))(l:Nat→Bool)(ρ':Env)(L':Loc):Prop where
 closed:∀i,i<T.length→l i=true→∀d∈T.deps i,l d=true
 restN:∀r∈rest,l r=false
 doneN:∀i,i<T.length→i∉rest→i∉A→l i=true
 alt:∀a∈A,a<T.length
 pair:∀p∈A,∀a∈A,(ms.getD p 0).testBit a=true∨nd (T.op a).dst (Zz (T.op p))=true
 uniq:∀p∈A,∀a∈A,p≠a→ndd (T.op p).dst (T.op a).dst=true
 env:∀t,ZH ρ' t=ZH ρ t∨∃a∈A,l a=false∧(T.op a).dst=some t
 loc0:∀a∈A,l a=false→∀x,Zak (T.op a) x→Zf L' x=none
 loc:∀x,Zf L' x=Zf L x∨∃a∈A,l a=false∧Zak (T.op a) x
 pend:∀a∈A,l a=false→WU (T.op a) ρ L s B
def Zia(T:Tab)(ms:List Nat):Prop :=
 ∀(l:Nat→Bool),(∀i,i<T.length→l i=true→∀d∈T.deps i,l d=true)→∀i,i<T.length→(∀d∈T.deps i,l d=true)→∀a,(ms.getD i 0).testBit a=true→l a=true
theorem WU.state{o ρ L s s' B}(h:WU o ρ L s B)(hB:∀b,.blk b∈YV o ρ→s' b=s b):WU o ρ L s' B:=by
 rcases h with ⟨hk,hg,hr,side,e,hs,hst,he⟩|h|h
 ·exact .inl ⟨hk,hg,hr,side,e,hs,ZsY hst hk hg hB,he⟩
 ·exact .inr (.inl h)
 ·exact .inr (.inr h)
theorem WU.more{o ρ L s B B'}(h:WU o ρ L s B)(hB:∀b∈YV o ρ,(Zbq o,b)∈B→(Zbq o,b)∈B'):WU o ρ L s B':=by
 rcases h with ⟨hk,hg,hr,h⟩|h|h
 ·exact .inl ⟨hk,hg,fun b hb=>hB b hb (hr b hb),h⟩
 ·exact .inr (.inl h)
 ·exact .inr (.inr h)
theorem ZsK{o ρ}(h:Zk ρ o.guard=sO false):YV o ρ=[]:=by
 obtain⟨dst,gd,k⟩:=o
 cases k<;>simp only[YV]
 simp only at h
 simp[h]
theorem ZkT{o ρ}(h:YL o.k=false):YV o ρ=[]:=by
 obtain⟨dst,gd,k⟩:=o
 cases k<;>simp only[YV]
 rename_i q xs
 simp only at h
 simp[h]
theorem ZbG.congr{o ρ ρ' e}(h:ZbG o ρ e)(ha:Zy ρ ρ' (Zz o)):ZbG o ρ' e:=by
 rcases h with ⟨h1,h2⟩|⟨x,y,bo,pl,p,k,k2,a,b,v,h1,h2,h3,h4,h5⟩
 ·exact .inl ⟨by rw[We fun t ht=>ha t (by simp[Zz,ht])];exact h1,h2⟩
 ·have hn:Zy ρ ρ' (ZaK [x,y]):=fun t ht=>ha t (by simp[Zz,h2,Yw,ht])
  exact .inr ⟨x,y,bo,pl,p,k,k2,a,b,v,h1,h2,by rw[WW hn];exact h3,h4,h5⟩
theorem ZbG.reads{o ρ e}(h:ZbG o ρ e):YV o ρ=[]:=by
 rcases h with ⟨h1,_⟩|⟨x,y,bo,pl,p,k,k2,a,b,v,_,h2,_⟩
 ·exact ZsK h1
 ·exact ZkT (by rw[h2];rfl)
section
variable {P:Program}
theorem ZoL{F:Fr P}{kp dk os ρ L s}(h:∀g ν w tmps,Zt g ν w tmps ρ L s→DO F kp dk os ρ L s):DO F kp dk os ρ L s :=
 fun ops is k hops hk g ν w tmps hN m=>h g ν w tmps m ops is k hops hk g ν w tmps hN m
theorem Zlh{g ν w tmps ρ L s}(m:Zt g ν w tmps ρ L s):∀{xs p es},Z2 ρ true xs=sO (p,es)→p→∀x o,.loc x o∈es→∃cs,Zf L x=sO cs
 | [],p,es,h,_,x,o,hx=>by simp only[Z2,ZEz,ZEL]at h;obtain⟨_,rfl⟩:=h;simp at hx
 |y::ys,p,es,h,hp,x,o,hx=>by
  simp only[Z2]at h
  split at h<;>simp only[ZEz,ZEL,reduceCtorEq]at h
  rename_i p1 e1 p2 es' h1 h2
  obtain⟨rfl,rfl⟩:=h
  rcases List.mem_cons.1 hx with hx|hx
  ·subst hx
   cases y with
   |cst d=>simp[ZC]at h1
   |tmp t =>
    simp only[ZC]at h1
    split at h1
    ·rename_i c' e' he
     simp only[ZEz,ZEL]at h1
     obtain⟨rfl,rfl⟩:=h1
     exact((m.env t _ he).1 (by simpa using hp.1)).1
    ·rename_i e' _ he
     simp only[ZEz,ZEL]at h1
     obtain⟨rfl,rfl⟩:=h1
     exact(m.env t _ he).1
    ·simp at h1
  ·exact Zlh m h2 hp.2 x o hx
theorem ZbG.run{F:Fr P}{kp dk o os ρ L s e}(hl:ZbG o ρ e)(h:DO F kp dk os (Zv ρ o.dst e) L s):DO F kp dk (o::os) ρ L s:=by
 rcases hl with ⟨h1,e0,rfl⟩|⟨x,y,bo,pl,p,k,k2,a,b,v,h1,h2,h3,h4,h5,rfl⟩
 ·exact Jc h1 h
 ·exact Zs9 h1 h2 h3 h4 h5 h
theorem Zs7{F:Fr P}{kp dk o os ρ ρ' L L' s side e}(hst:Zx o ρ L s=.ok side (Zv ρ o.dst e) L s)(hs:side)(hk:YB o.k=true)(ha:Zy ρ ρ' (Zz o))(hl:∀x,Zf L' x=Zf L x∨Zf L' x=nO)(h:DO F kp dk os (Zv ρ' o.dst e) L' s):DO F kp dk (o::os) ρ' L' s:=by
 have hput:∀e',Zv ρ o.dst e=Zv ρ o.dst e'→Zv ρ' o.dst e=Zv ρ' o.dst e':=fun e' h=>by
  cases hd:o.dst with
  |none=>rfl
  |some t=>simp only[hd,Zv,List.cons.injEq,ZEL,true_and,and_true]at h;rw[h]
 have hg:=We (g:=o.guard) (fun t ht=>ha t (by simp[Zz,ht]))
 cases hc:Zk ρ o.guard with
 |none=>unfold Zx at hst;simp[hc]at hst
 |some c =>
  cases c
  ·obtain⟨e',h1,-,-⟩:=Zk0 hst hc hk
   rw[hput _ h1]at h
   exact Jc (by rw[hg,hc]) h
  ·refine ZoL fun g ν w tmps m=>?_
   obtain⟨e',h1,-,-,h2⟩:=ZsX (ρ':=ρ') (L':=L') hst hs hc hk ha (fun hld q xs p es hkq hes hp x of hx=>by
    have hn:Zy ρ ρ' (ZaK xs):=fun t ht=>ha t (by simp[Zz,hkq,Yw,ht])
    obtain⟨cs,hcs⟩:=Zlh m (by rw[WW hn];exact hes) hp x of hx
    rcases hl x with h|h
    ·exact h
    ·rw[h]at hcs;simp at hcs)
   rw[hput _ h1]at h
   exact Qg h2 hs h
end
theorem Zbl{a b}(h:ndd a b=true):ndd b a=true:=by
 cases a<;>cases b<;>simp only[ndd,bne_iff_ne,ne_eq]at h⊢
 exact fun h'=>h h'.symm
theorem Za3{a b}(h:ndd a b=true){t}(ha:a=sO t):b≠sO t:=by
 subst ha
 cases b with
 |none=>simp
 |some u=>simp only[ndd,bne_iff_ne]at h;intro hb;simp only[ZEz]at hb;exact h hb.symm
theorem ZiK{d l}(h:nd d l=true){t}(ht:d=sO t):t∉l:=by
 subst ht;simpa[nd]using h
theorem KB{ρ dst e ns}(h:nd dst ns=true):Zy ρ (Zv ρ dst e) ns:=by
 intro t ht
 cases dst with
 |none=>rfl
 |some u =>
  have:¬u=t:=fun hu=>ZiK h rfl (hu▸ht)
  simp[Zv,ZH,this]
theorem WB(ρ dst e t):ZH (Zv ρ dst e) t=if dst=sO t then sO e else ZH ρ t:=by
 cases dst with
 |none=>simp[Zv]
 |some u=>simp[Zv,ZH]
theorem Zzq{L s q es r}(hq:qv L s q es=sO r)(hl:ZbZ (.q q [])=true){x o}(hx:.loc x o∈es):∃cs,Zf L x=sO cs:=by
 cases q<;>simp[ZbZ]at hl
 ·match es with
  | [a] =>
   simp only[List.mem_singleton]at hx
   subst hx
   simp only[qv,YS]at hq
   cases h:Zf L x with
   |none=>simp[h]at hq
   |some cs=>exact⟨cs,rfl⟩
  | []=>simp at hx
  |_::_::_=>simp[qv]at hq
 ·match es with
  | [a] =>
   simp only[List.mem_singleton]at hx
   subst hx
   simp only[qv,Kc]at hq
   cases h:Zf L x with
   |none=>simp[h]at hq
   |some cs=>exact⟨cs,rfl⟩
  | []=>simp at hx
  |_::_::_=>simp[qv]at hq
theorem ZhB{o ρ ρ' L L' s s1 side ρ1 L1}(hst:Zx o ρ L s=.ok side ρ1 L1 s1)(hk:YB o.k=true)(ha:Zy ρ ρ' (Zz o))(hl:L'=L∨Zk ρ o.guard=sO true∧∀x,.loc x∈YV o ρ→Zf L' x=Zf L x):∃e,ρ1=Zv ρ o.dst e∧L1=L∧s1=s∧Zx o ρ' L' s=.ok side (Zv ρ' o.dst e) L' s:=by
 obtain⟨dst,gd,k⟩:=o
 have hg:=We (g:=gd) (fun t ht=>ha t (by simp[Zz,ht]))
 have hn:Zy ρ ρ' (Yw k):=fun t ht=>ha t (by simp[Zz,ht])
 unfold Zx at hst⊢
 simp only[hg]at hst⊢
 cases hc:Zk ρ gd with
 |none=>simp[hc]at hst
 |some c =>
 simp only[hc]at hst⊢
 cases k with
 |q q xs =>
  simp only at hst⊢
  rw[WW hn]
  split at hst<;>(try(simp at hst;done))
  rename_i p es hes
  try simp only[hes]
  split at hst<;>(try(simp at hst;done))
  rename_i sd e hq
  have hqc:qv L' s q es=qv L s q es:=ZrY fun hld x of hx=>by
   rcases hl with rfl|⟨hgt,hl⟩
   ·rfl
   obtain rfl:c=true:=by simpa[hc]using hgt
   refine hl x ?_
   have hrd:YL (.q q xs)=true:=by cases q<;>simp_all[ZbZ,YL]
   have hes1:es=[.loc x of]:=by
    have hq':∃r,qv L s q es=sO r:=⟨_,hq⟩
    cases q<;>simp[ZbZ]at hld
    ·match es with
     | [a]=>simp only[List.mem_singleton]at hx;rw[hx]
     | []=>simp at hx
     |_::_::_=>simp[qv]at hq'
    ·match es with
     | [a]=>simp only[List.mem_singleton]at hx;rw[hx]
     | []=>simp at hx
     |_::_::_=>simp[qv]at hq'
   subst hes1
   simp only[YV,hrd,if_true,hc,hes,KF,List.mem_singleton]
  simp only[hqc,hq]
  split at hst<;>(simp only[SR.ok.injEq]at hst;obtain⟨rfl,rfl,rfl,rfl⟩:=hst)
  ·exact⟨e,rfl,rfl,rfl,rfl⟩
  ·exact⟨_,rfl,rfl,rfl,rfl⟩
 |pick x a b =>
  simp only at hst⊢
  rw[ZkR hn]
  split at hst<;>(try(simp at hst;done))
  rename_i p v hp
  try simp only[hp]
  split at hst<;>(simp only[SR.ok.injEq]at hst;obtain⟨rfl,rfl,rfl,rfl⟩:=hst)
  ·exact⟨_,rfl,rfl,rfl,rfl⟩
  ·exact⟨_,rfl,rfl,rfl,rfl⟩
 |bsl len n z is xs =>
  simp only at hst⊢
  rw[WW hn]
  split at hst<;>(try(simp at hst;done))
  rename_i p es hes
  try simp only[hes]
  split at hst<;>(try(simp at hst;done))
  rename_i ds hds
  try simp only[hds]
  split at hst<;>(simp only[SR.ok.injEq]at hst;obtain⟨rfl,rfl,rfl,rfl⟩:=hst)
  ·exact⟨_,rfl,rfl,rfl,rfl⟩
  ·exact⟨_,rfl,rfl,rfl,rfl⟩
 |s2b x =>
  simp only at hst⊢
  rw[ZP hn]
  split at hst<;>(try(simp at hst;done))
  rename_i p l hl
  try simp only[hl]
  split at hst<;>(simp only[SR.ok.injEq]at hst;obtain⟨rfl,rfl,rfl,rfl⟩:=hst)
  ·exact⟨_,rfl,rfl,rfl,rfl⟩
  ·exact⟨_,rfl,rfl,rfl,rfl⟩
 |_=>simp[YB]at hk
theorem WU.mono{o ρ ρ1 L L1 s B}(h:WU o ρ L s B)(ha:Zy ρ ρ1 (Zz o))(hd:∀t,o.dst=sO t→ZH ρ1 t=ZH ρ t)(hl:∀x,.loc x∈YV o ρ→Zf L1 x=Zf L x)(hal:∀t,Zak o t→Zf L1 t=Zf L t):WU o ρ1 L1 s B:=by
 rcases h with ⟨hk,hgt,hrd,side,e,hs,hst,he⟩|⟨hk,e,hz,he⟩|⟨t,z,rfl,h1,h2⟩
 ·left
  obtain⟨e',h1,-,-,h2⟩:=ZhB hst hk ha (.inr ⟨hgt,hl⟩)
  refine⟨hk,by rw[We fun t ht=>ha t (by simp[Zz,ht])];exact hgt,by rw[ZiZ ha];exact hrd,side,e',hs,h2,fun t ht=>?_⟩
  rw[hd t ht,he t ht]
  rw[ht]at h1
  simp only[Zv,List.cons.injEq,ZEL,true_and,and_true]at h1
  rw[h1]
 ·exact .inr (.inl ⟨hk,e,hz.congr ha,fun t ht=>by rw[hd t ht,he t ht]⟩)
 ·right;right
  exact⟨t,z,rfl,by rw[hd t rfl];exact h1,by rw[hal t ⟨rfl,z,rfl⟩];exact h2⟩
theorem ZbO{o x}(h:Zak o x):YB o.k=false:=by
 obtain⟨_,z,hz⟩:=h;rw[hz];rfl
section
variable {P:Program}
theorem ZoW{F:Fr P}{kp dk T ms A rest ρ L l ρ' L' s B p os}(hm:Zia T ms)(inv:Inv T ms A rest ρ L s B l ρ' L')(hA:p∈A)(hdis:p∉rest)(hl:l p=false)(hdeps:∀d∈T.deps p,l d=true)(h:∀ρ2 L2,Inv T ms A rest ρ L s B (fun j=>j==p ||l j) ρ2 L2→DO F kp dk os ρ2 L2 s):DO F kp dk (T.op p::os) ρ' L' s:=by
 have hpn:=inv.alt p hA
 have hforced:=hm l inv.closed p hpn hdeps
 have hag:Zy ρ ρ' (Zz (T.op p)):=by
  intro t ht
  rcases inv.env t with h|⟨a,ha,hla,hda⟩
  ·exact h
  ·exfalso
   rcases inv.pair p hA a ha with hb|hb
   ·rw[hforced a hb]at hla;simp at hla
   ·exact ZiK hb hda ht
 have hloc:∀x,Zf L' x=Zf L x∨Zf L' x=nO:=fun x=>by
  rcases inv.loc x with h|⟨a,ha,hla,hx⟩
  ·exact .inl h
  ·exact .inr (inv.loc0 a ha hla x hx)
 have hclosed:∀i,i<T.length→(i==p ||l i)=true→∀d∈T.deps i,(d==p ||l d)=true:=fun i hi hli d hd=>by
  simp only[ZEY,beq_iff_eq]at hli⊢
  rcases hli with rfl|hli
  ·exact .inr (hdeps d hd)
  ·exact .inr (inv.closed i hi hli d hd)
 have hrestN:∀r∈rest,(r==p ||l r)=false:=fun r hr=>by
  simp only[Bool.or_eq_false_iff,beq_eq_false_iff_ne]
  exact⟨fun h=>hdis (h▸hr),inv.restN r hr⟩
 have hdone:∀i,i<T.length→i∉rest→i∉A→(i==p ||l i)=true:=fun i hi h1 h2=>by simp[inv.doneN i hi h1 h2]
 have hl2:∀a,(a==p ||l a)=false→a≠p∧l a=false:=fun a ha=>by simpa using ha
 have hl2':∀a,a≠p→l a=false→(a==p ||l a)=false:=fun a ha h=>by simp[ha,h]
 rcases inv.pend p hA hl with ⟨hk,hgt,hrd,side,e,hs,hst,he⟩|⟨hk,e,hz,he⟩|⟨t,z,ho,h1,h2⟩
 rotate_left
 ·refine(hz.congr hag).run ?_
  refine h _ _ ?_
  refine⟨hclosed,hrestN,hdone,inv.alt,inv.pair,inv.uniq,fun t=>?_,fun a ha hla x hx=>inv.loc0 a ha (hl2 a hla).2 x hx,fun x=>?_,fun a ha hla=>inv.pend a ha (hl2 a hla).2⟩
  ·rw[WB]
   by_cases hd:(T.op p).dst=sO t
   ·rw[if_pos hd];exact .inl (he t hd).symm
   ·rw[if_neg hd]
    rcases inv.env t with h|⟨a,ha,hla,hda⟩
    ·exact .inl h
    ·exact .inr ⟨a,ha,hl2' a (fun hap=>hd (hap▸hda)) hla,hda⟩
  ·rcases inv.loc x with h|⟨a,ha,hla,hx⟩
   ·exact .inl h
   ·refine .inr ⟨a,ha,hl2' a (fun hap=>?_) hla,hx⟩
    have:=ZbO hx
    rw[hap,hk]at this;simp at this
 rotate_left
 ·refine Zs7 hst hs hk hag hloc (h _ _ ?_)
  refine⟨hclosed,hrestN,hdone,inv.alt,inv.pair,inv.uniq,fun t=>?_,fun a ha hla x hx=>inv.loc0 a ha (hl2 a hla).2 x hx,fun x=>?_,fun a ha hla=>inv.pend a ha (hl2 a hla).2⟩
  ·rw[WB]
   by_cases hd:(T.op p).dst=sO t
   ·rw[if_pos hd];exact .inl (he t hd).symm
   ·rw[if_neg hd]
    rcases inv.env t with h|⟨a,ha,hla,hda⟩
    ·exact .inl h
    ·exact .inr ⟨a,ha,hl2' a (fun hap=>hd (hap▸hda)) hla,hda⟩
  ·rcases inv.loc x with h|⟨a,ha,hla,hx⟩
   ·exact .inl h
   ·refine .inr ⟨a,ha,hl2' a (fun hap=>?_) hla,hx⟩
    have:=ZbO hx
    rw[hap,hk]at this;simp at this
 ·have hal:Zak (T.op p) t:=⟨by rw[ho],z,by rw[ho]⟩
  have hnone:=inv.loc0 p hA hl t hal
  refine Zqo (o:=T.op p) (t:=t) (by rw[ho]) (by rw[ho]) (z:=z) (by rw[ho]) (by simp[J2,hnone]) (h _ _ ?_)
  have hdp:(T.op p).dst=sO t:=by rw[ho]
  refine⟨hclosed,hrestN,hdone,inv.alt,inv.pair,inv.uniq,fun u=>?_,fun a ha hla x hx=>?_,fun x=>?_,fun a ha hla=>inv.pend a ha (hl2 a hla).2⟩
  ·simp only[ZH]
   by_cases hd:t=u
   ·subst hd;simp[h1]
   ·simp only[hd,if_false]
    rcases inv.env u with h|⟨a,ha,hla,hda⟩
    ·exact .inl h
    ·exact .inr ⟨a,ha,hl2' a (fun hap=>hd (by rw[hap,hdp]at hda;simpa using hda)) hla,hda⟩
  ·obtain⟨hap,hla⟩:=hl2 a hla
   have:¬t=x:=fun htx=>Za3 (inv.uniq p hA a ha hap.symm) hdp (htx▸hx.1)
   simp only[Zf,this,if_false]
   exact inv.loc0 a ha hla x hx
  ·simp only[Zf]
   by_cases hd:t=x
   ·subst hd;simp[h2]
   ·simp only[hd,if_false]
    rcases inv.loc x with h|⟨a,ha,hla,hx⟩
    ·exact .inl h
    ·exact .inr ⟨a,ha,hl2' a (fun hap=>hd (by have:=hx.1;rw[hap,hdp]at this;simpa using this)) hla,hx⟩
theorem ZuT{F:Fr P}{kp dk T ms A rest ρ L s B i}(hm:Zia T ms)(hi:i<T.length)(hdis:∀p∈A,p∉i::rest)(hready:∀r∈rest,∃d∈T.deps r,d∈i::rest)(cb:∀l ρ' L' is,Inv T ms A (i::rest) ρ L s B l ρ' L'→(∀d∈T.deps i,l d=true)→Sch T (fun j=>j==i ||l j) is→DO F kp dk (T.op i::is.map T.op) ρ' L' s){l is}(sch:Sch T l is):∀{ρ' L'},Inv T ms A (i::rest) ρ L s B l ρ' L'→DO F kp dk (is.map T.op) ρ' L' s:=by
 induction sch with
 |nil h=>intro ρ' L' inv;have:=inv.restN i (by simp);rw[h i hi]at this;simp at this
 | @cons l p is hp hlp hd t ih =>
  intro ρ' L' inv
  by_cases hpi:p=i
  ·subst hpi;exact cb l ρ' L' is inv hd t
  ·by_cases hpr:p∈rest
   ·obtain⟨d,hd1,hd2⟩:=hready p hpr
    have:=inv.restN d hd2
    rw[hd d hd1]at this;simp at this
   ·by_cases hpA:p∈A
    ·exact ZoW hm inv hpA (hdis p hpA) hlp hd fun ρ2 L2 inv2=>ih inv2
    ·have:=inv.doneN p hp (by simp[hpi,hpr]) hpA
     rw[hlp]at this;simp at this
theorem Zk2{L L'}(h:∀x,Zf L' x=Zf L x):∀ls,Zab L' ls=Zab L ls
 | []=>rfl
 |l::ls=>by simp only[Zab,h l,Zk2 h ls]
theorem ZkK{ρ ρ'}(h:∀x,ZH ρ' x=ZH ρ x):∀ks,Yh ρ' ks=Yh ρ ks
 | []=>rfl
 |k::ks=>by simp only[Yh,h k,ZkK h ks]
theorem Zww{F:Fr P}{ks dk T ms A ρ L s B}(hm:Zia T ms)(h:Zs F dk (Yh ρ ks) (ZaF (Yh ρ ks) L) s){l is}(sch:Sch T l is):∀{ρ' L'},Inv T ms A [] ρ L s B l ρ' L'→DO F (sO ks) dk (is.map T.op) ρ' L' s:=by
 induction sch with
 |nil hall =>
  intro ρ' L' inv
  have h1:∀t,ZH ρ' t=ZH ρ t:=fun t=>by
   rcases inv.env t with h|⟨a,ha,hla,_⟩
   ·exact h
   ·rw[hall a (inv.alt a ha)]at hla;simp at hla
  have h2:∀t,Zf L' t=Zf L t:=fun t=>by
   rcases inv.loc t with h|⟨a,ha,hla,_⟩
   ·exact h
   ·rw[hall a (inv.alt a ha)]at hla;simp at hla
  refine Zd7 ?_
  show Zs F dk (Yh ρ' ks) (ZaF (Yh ρ' ks) L') s
  rw[ZkK h1]
  simp only[ZaF,Zk2 h2]
  exact h
 | @cons l p is hp hlp hd t ih =>
  intro ρ' L' inv
  by_cases hpA:p∈A
  ·exact ZoW hm inv hpA (by simp) hlp hd fun ρ2 L2 inv2=>ih inv2
  ·have:=inv.doneN p hp (by simp) hpA
   rw[hlp]at this;simp at this
def DOA(F:Fr P)(kp:Option (List Nat))(dk:List WL)(os:List (DOp×List Nat))(ρ:Env)(L:Loc)(s:St)(B:List (Nat×Rd)):Prop :=
 ∀(T:Tab) ms fl (fk:Option Nat) A rest is l ρ' L',Zia T ms→ZcW T ms fl fk A rest=true→(∀p∈A,p∉rest)→os=rest.map (fun i=>(T.mk fk i,fl i))→Inv T ms A rest ρ L s B l ρ' L'→Sch T l is→DO F kp dk (is.map T.op) ρ' L' s
theorem ZnL{F:Fr P}{ks dk ρ L s B}(h:Zs F dk (Yh ρ ks) (ZaF (Yh ρ ks) L) s):DOA F (sO ks) dk [] ρ L s B:=by
 intro T ms fl fk A rest is l ρ' L' hm hc hdis hos inv sch
 have hr:rest=[]:=by cases rest<;>simp at hos⊢
 subst hr
 exact Zww hm h sch inv
theorem Zk1{o ρ L s s1 side ρ1 L1}(hst:Zx o ρ L s=.ok side ρ1 L1 s1)(hk:YB o.k=true):∃e,ρ1=Zv ρ o.dst e∧L1=L∧s1=s:=by
 obtain⟨e,h1,h2,h3,_⟩:=ZhB (ρ':=ρ) (L':=L) hst hk (fun _ _=>rfl) (.inl rfl)
 exact⟨e,h1,h2,h3⟩
theorem ZsW{o ρ L s s1 side ρ1 L1 z}(hst:Zx o ρ L s=.ok side ρ1 L1 s1)(hk:o.k=.alloc z):∃t,o=⟨sO t,nO,.alloc z⟩∧side=(J2 L t=false)∧ρ1=(t,.loc t 0)::ρ∧L1=(t,z)::L∧s1=s:=by
 obtain⟨dst,gd,k⟩:=o
 simp only at hk
 subst hk
 unfold Zx at hst
 cases hg:Zk ρ gd with
 |none=>simp[hg]at hst
 |some c =>
  simp only[hg]at hst
  split at hst<;>simp only[SR.ok.injEq,reduceCtorEq]at hst
  rename_i t
  obtain⟨rfl,rfl,rfl,rfl⟩:=hst
  exact⟨t,rfl,rfl,rfl,rfl,rfl⟩
theorem Zoa{T:Tab}{fk i o}(h:T.mk fk i=o)(hk:∀k,o.k≠.fork k):fk≠sO i∧T.op i=o:=by
 unfold Tab.mk at h
 split at h
 ·subst h;exact absurd rfl (hk _)
 ·exact⟨‹_›,h⟩
theorem Zll{T ms fl A rest fk i}(hfk:fk≠sO i)(h:ZcW T ms fl fk A (i::rest)=true):
  i<T.length∧(∀d∈T.deps i,d∉i::rest)∧i∉rest∧(∀a∈A,(ms.getD i 0).testBit a=true∨nd (T.op a).dst (Zz (T.op i))=true) ∧
  ((Zcm T A i=true∧ZcW T ms fl fk (i::A) rest=true) ∨
   (Zik T (fl i) (A.filter fun a=>!(ms.getD i 0).testBit a) rest i=true∧ZcW T ms fl fk (A.filter fun a=>!(ms.getD i 0).testBit a) rest=true∧Zcm T A i=false)):=by
 simp only[ZcW,hfk,if_false,ZEK,decide_eq_true_eq,List.all_eq_true,Bool.not_eq_true',List.contains_eq_mem,decide_eq_false_iff_not]at h
 obtain⟨⟨⟨⟨h1,h2⟩,h3⟩,h4⟩,h5⟩:=h
 refine⟨h1,h2,h3,fun a ha=>?_,?_⟩
 ·cases hb:(ms.getD i 0).testBit a
  ·exact .inr (h4 a (List.mem_filter.2 ⟨ha,by simp only[hb];rfl⟩))
  ·exact .inl rfl
 ·split at h5
  ·rename_i hp;exact .inl ⟨hp,h5⟩
  ·rename_i hp;simp only[ZEK]at h5;exact .inr ⟨by simpa using h5.1,h5.2,by simpa using hp⟩
theorem ZfL{T fl free rest i}(h:Zik T fl free rest i=true):
  Zt4 (T.op i).k=true∧(∀r∈rest,∃d∈T.deps r,d∈i::rest) ∧
  ∀a∈free,nd (T.op i).dst (Zz (T.op a))=true∧ndd (T.op i).dst (T.op a).dst=true∧(J3 (Zbq (T.op a)) fl=false→YL (T.op a).k=false):=by
 simp only[Zik,ZEK,List.all_eq_true,List.any_eq_true,List.contains_eq_mem,decide_eq_true_eq,Bool.not_eq_true',ZEY]at h
 obtain⟨⟨h1,h2⟩,h3⟩:=h
 refine⟨h1,h2,fun a ha=>?_⟩
 obtain⟨⟨h4,h5⟩,h6⟩:=h3 a ha
 refine⟨h4,h5,fun hs=>?_⟩
 rw[hs]at h6;simpa using h6
theorem Zek{T A i}(h:Zcm T A i=true):
  YU (T.op i).k=true∧nd (T.op i).dst (Zz (T.op i))=true∧∀a∈A,nd (T.op i).dst (Zz (T.op a))=true∧ndd (T.op i).dst (T.op a).dst=true:=by
 simp only[Zcm,ZEK,List.all_eq_true]at h
 exact⟨by cases hk:(T.op i).k<;>rw[hk]at h<;>simp[pqK]at h<;>rfl,h.1.2,h.2⟩
theorem Inv.bar{T ms A rest ρ L s s2 B B2 l ρ' L' i}(hm:Zia T ms)(inv:Inv T ms A (i::rest) ρ L s B l ρ' L')(hdis:∀p∈A,p∉i::rest)(hi:i<T.length)(hir:i∉rest)(hd:∀d∈T.deps i,l d=true)(hf:∀a∈A.filter (fun a=>!(ms.getD i 0).testBit a),nd (T.op i).dst (Zz (T.op a))=true∧ndd (T.op i).dst (T.op a).dst=true)(e){L2 L2'}(hL:∀x,Zf L' x=Zf L x→Zf L2' x=Zf L2 x)(h0:∀x,(∀a,ndd (T.op i).dst (T.op a).dst=true→Zak (T.op a) x→Zf L' x=nO→Zf L2' x=nO))(hp:∀a∈A.filter (fun a=>!(ms.getD i 0).testBit a),l a=false→WU (T.op a) ρ L s B→WU (T.op a) (Zv ρ (T.op i).dst e) L2 s2 B2):
  Inv T ms (A.filter fun a=>!(ms.getD i 0).testBit a) rest (Zv ρ (T.op i).dst e) L2 s2 B2 (fun j=>j==i ||l j) (Zv ρ' (T.op i).dst e) L2':=by
 have hforced:=hm l inv.closed i hi hd
 have hfree:∀a∈A,l a=false→a∈A.filter fun a=>!(ms.getD i 0).testBit a:=fun a ha hla=>by
  refine List.mem_filter.2 ⟨ha,?_⟩
  cases hb:(ms.getD i 0).testBit a
  ·rfl
  ·rw[hforced a hb]at hla;simp at hla
 have hsub:∀a∈A.filter (fun a=>!(ms.getD i 0).testBit a),a∈A:=fun a ha=>(List.mem_filter.1 ha).1
 have hl2:∀a,(a==i ||l a)=false→a≠i∧l a=false:=fun a ha=>by simpa using ha
 have hl2':∀a∈A,l a=false→(a==i ||l a)=false:=fun a ha h=>by
  have:a≠i:=fun hai=>hdis a ha (by simp[hai])
  simp[this,h]
 refine⟨fun j hj hlj d hdj=>?_,fun r hr=>?_,fun j hj h1 h2=>?_,fun a ha=>inv.alt a (hsub a ha),fun p hp' a ha=>inv.pair p (hsub p hp') a (hsub a ha),fun p hp' a ha=>inv.uniq p (hsub p hp') a (hsub a ha),fun t=>?_,fun a ha hla x hx=>?_,
  fun x=>?_,fun a ha hla=>hp a ha (hl2 a hla).2 (inv.pend a (hsub a ha) (hl2 a hla).2)⟩
 ·simp only[ZEY,beq_iff_eq]at hlj⊢
  rcases hlj with rfl|hlj
  ·exact .inr (hd d hdj)
  ·exact .inr (inv.closed j hj hlj d hdj)
 ·simp only[Bool.or_eq_false_iff,beq_eq_false_iff_ne]
  exact⟨fun h=>hir (h▸hr),inv.restN r (by simp[hr])⟩
 ·by_cases hji:j=i
  ·simp[hji]
  ·by_cases hjA:j∈A
   ·cases hlj:l j
    ·exact absurd (hfree j hjA hlj) h2
    ·simp
   ·simp[inv.doneN j hj (by simp[hji,h1]) hjA]
 ·rw[WB,WB]
  by_cases ht:(T.op i).dst=sO t
  ·simp[ht]
  ·simp only[ht,if_false]
   rcases inv.env t with h|⟨a,ha,hla,hda⟩
   ·exact .inl h
   ·exact .inr ⟨a,hfree a ha hla,hl2' a ha hla,hda⟩
 ·exact h0 x a (hf a ha).2 hx (inv.loc0 a (hsub a ha) (hl2 a hla).2 x hx)
 ·rcases inv.loc x with h|⟨a,ha,hla,hx⟩
  ·exact .inl (hL x h)
  ·exact .inr ⟨a,hfree a ha hla,hl2' a ha hla,hx⟩
theorem WU.keep{o ρ L L2 s s2 B fl}(h:WU o ρ L s B)(hk:Y5 fl s s2 L L2 B)(hf:J3 (Zbq o) fl=false→YL o.k=false)(hal:∀t,Zak o t→Zf L2 t=Zf L t):WU o ρ L2 s2 (YP fl B):=by
 cases hfl:J3 (Zbq o) fl
 ·have hr:=ZkT (ρ:=ρ) (hf hfl)
  exact((h.state (s':=s2) (fun b hb=>by rw[hr]at hb;simp at hb)).more (fun b hb=>by rw[hr]at hb;simp at hb)).mono (fun _ _=>rfl) (fun _ _=>rfl) (fun x hx=>by rw[hr]at hx;simp at hx) hal
 ·have hm:=Zhd (show KE s s2 L L2 (YP fl B) from hk)
  have hin:∀b,(Zbq o,b)∈B→(Zbq o,b)∈YP fl B:=fun b hb=>Qe.2 ⟨hfl,hb⟩
  rcases h with ⟨hq,hg,hr,h'⟩|⟨hq,hg,h'⟩|h'
  ·exact((WU.state (s':=s2) (.inl ⟨hq,hg,hr,h'⟩) (fun b hb=>hm.1 _ b (hin _ (hr _ hb)))).more (B':=YP fl B) (fun b _ hb=>hin b hb)).mono (fun _ _=>rfl) (fun _ _=>rfl) (fun x hx=>hm.2 _ x (hin _ (hr _ hx))) hal
  ·exact .inr (.inl ⟨hq,hg,h'⟩)
  ·exact(WU.more (B':=YP fl B) (s:=s2) (.inr (.inr h'):WU o ρ L s2 B) (fun b _ hb=>hin b hb)).mono (fun _ _=>rfl) (fun _ _=>rfl) (fun x hx=>by
    obtain⟨t,z,rfl,_⟩:=h'
    simp[YV]at hx) hal
theorem ZAs{L s q es r}(hq:qv L s q es=sO r){e es'}(he:es=e::es')(hr:YL (.q q [])=true){x}(hx:.loc x∈KF e):∃cs,Zf L x=sO cs:=by
 subst he
 cases e with
 |d v=>cases v<;>simp[KF]at hx
 |when c e=>simp[KF]at hx
 |loc l o =>
  simp only[KF,List.mem_singleton,Rd.loc.injEq]at hx
  subst hx
  by_cases hl:ZbZ (.q q [])=true
  ·exact Zzq hq hl (x:=x) (o:=o) (by simp)
  ·cases q
   case conv c =>
    cases c<;>simp[YL]at hr
    cases es'<;>simp[qv]at hq
   all_goals simp[YL,ZbZ]at hr hl
   ·cases es' with
    |nil=>simp[qv]at hq
    |cons e2 r2=>cases r2<;>simp[qv]at hq
   ·cases es'<;>simp[qv]at hq
theorem WU.loc{o ρ L s B}(h:WU o ρ L s B){x}(hx:.loc x∈YV o ρ):∃cs,Zf L x=sO cs:=by
 rcases h with ⟨hk,hgt,hr,side,e,hs,hst,he⟩|⟨hk,_,hgf,_⟩|⟨t,z,rfl,_⟩
 rotate_left
 ·rw[hgf.reads]at hx;simp at hx
 rotate_left
 ·obtain⟨dst,gd,k⟩:=o
  cases k with
  |q q xs =>
   simp only[YV]at hx
   split at hx<;>(try(simp at hx;done))
   rename_i hrd
   unfold Zx at hst
   have hg:Zk ρ gd=sO true:=hgt
   ·simp only[hg]at hx hst
    cases ha:Z2 ρ true xs with
    |none=>simp[ha]at hx
    |some pe =>
     obtain⟨p,es⟩:=pe
     simp only[ha]at hx hst
     cases es with
     |nil=>simp at hx
     |cons e1 es' =>
      simp only at hx
      split at hst<;>(try(simp at hst;done))
      rename_i sd e2 hq
      exact ZAs hq rfl (by
       cases q
       case conv c=>cases c<;>simp_all[YL]
       all_goals simp_all[YL]) hx
  |_=>simp[YV]at hx
 ·simp[YV]at hx
theorem ZdX{F:Fr P}{kp dk o f os ρ L s B}(R:E→St→Prop)(hk:YU o.k=false)(h1:∀ρ' L' os',Zy ρ ρ' (Zz o)→(∀e s2,R e s2→DO F kp dk os' (Zv ρ' o.dst e) L' s2)→DO F kp dk (o::os') ρ' L' s)(h2:∀e s2,R e s2→Y5 f s s2 L L B∧DOA F kp dk os (Zv ρ o.dst e) L s2 (YP f B)):
  DOA F kp dk ((o,f)::os) ρ L s B:=by
 intro T ms fl fk A rest is l ρ' L' hm hc hdis hos inv sch
 cases rest with
 |nil=>simp at hos
 |cons i rest =>
  simp only[ZEQ,List.cons.injEq,ZEL]at hos
  obtain⟨⟨ho,rfl⟩,rfl⟩:=hos
  obtain⟨hfk,rfl⟩:=Zoa ho.symm (fun k h=>by rw[h]at hk;simp[YU]at hk)
  obtain⟨hi,hdeps,hir,hnm,hcs⟩:=Zll hfk hc
  rcases hcs with ⟨hp,_⟩|⟨hb,hc',_⟩
  ·have:=(Zek hp).1;rw[hk]at this;simp at this
  ·obtain⟨hbk,hready,hfree⟩:=ZfL hb
   refine ZuT hm hi hdis hready (fun l ρ' L' is inv hd sch=>?_) sch inv
   have hforced:=hm l inv.closed i hi hd
   have hag:Zy ρ ρ' (Zz (T.op i)):=by
    intro t ht
    rcases inv.env t with h|⟨a,ha,hla,hda⟩
    ·exact h
    ·exfalso
     rcases hnm a ha with hb|hb
     ·rw[hforced a hb]at hla;simp at hla
     ·exact ZiK hb hda ht
   refine h1 ρ' L' _ hag fun e s2 hR=>?_
   obtain⟨hkB,h2'⟩:=h2 e s2 hR
   refine h2' T ms fl fk _ rest is _ _ _ hm hc' (fun p hp hpr=>hdis p (List.mem_filter.1 hp).1 (by simp[hpr])) rfl (inv.bar hm hdis hi hir hd (fun a ha=>⟨(hfree a ha).1,(hfree a ha).2.1⟩) e (fun _ h=>h) (fun _ _ _ _ h=>h) fun a ha hla hpe=>?_) sch
   refine(hpe.keep hkB (hfree a ha).2.2 (fun _ _=>rfl)).mono (KB (hfree a ha).1) (fun t ht=>?_) (fun _ _=>rfl) (fun _ _=>rfl)
   rw[WB]
   have:=Za3 (Zbl (hfree a ha).2.1) ht
   simp[this]
end
theorem Zjv{ρ L s s1 p q ok side a n xs ρ1 L1}(h:KJ ρ L s p q ok a n xs=.ok side ρ1 L1 s1):
  ρ1=ρ∧((∃l off cs,a=.loc l off∧L1=(l,Zu cs off xs)::L∧s1=s∧Zf L l=sO cs∧∀ρ' L',Zf L' l=Zf L l→KJ ρ' L' s p q ok a n xs=.ok side ρ' ((l,Zu cs off xs)::L') s) ∨
   (L1=L∧∀ρ' L',KJ ρ' L' s p q ok a n xs=.ok side ρ' L' s1)):=by
 obtain⟨rfl,⟨l,off,cs,rfl,hL,rfl,rfl,rfl⟩|⟨b,off,cs,rfl,hL,rfl,rfl,rfl⟩⟩:=ZfB h
 ·exact⟨rfl,.inl ⟨l,off,cs,rfl,rfl,rfl,hL,fun ρ' L' hl=>by simp only[KJ,hl,hL]⟩⟩
 ·exact⟨rfl,.inr ⟨rfl,fun ρ' L'=>by simp only[KJ,hL]⟩⟩
theorem ZsZ{o ρ L s s1 side ρ1 L1}(hst:Zx o ρ L s=.ok side ρ1 L1 s1)(hk:Zde o.k=true):
  ρ1=ρ∧o.dst=nO∧((∃lx cs new,L1=(lx,new)::L∧s1=s∧Zf L lx=sO cs ∧
   ∀ρ' L',Zy ρ ρ' (Zz o)→Zf L' lx=Zf L lx→Zx o ρ' L' s=.ok side ρ' ((lx,new)::L') s) ∨
   (L1=L∧∀ρ' L',Zy ρ ρ' (Zz o)→Zx o ρ' L' s=.ok side ρ' L' s1)):=by
 obtain⟨dst,gd,k⟩:=o
 cases hg:Zk ρ gd with
 |none=>unfold Zx at hst;simp[hg]at hst
 |some c =>
 cases k with
 |store1 a v =>
  unfold Zx at hst
  simp only[hg]at hst
  split at hst<;>(try(simp at hst;done))
  rename_i p ea q x ha hv
  obtain⟨rfl,⟨l,off,cs,rfl,rfl,rfl,hL,hcong⟩|⟨rfl,hcong⟩⟩:=Zjv hst
  ·refine⟨rfl,rfl,.inl ⟨l,cs,_,rfl,rfl,hL,fun ρ' L' hag hl=>?_⟩⟩
   have h1:Zy ρ1 ρ' (ZN a):=fun t ht=>hag t (by simp[Zz,Yw,ht])
   have h2:Zy ρ1 ρ' (ZN v):=fun t ht=>hag t (by simp[Zz,Yw,ht])
   unfold Zx
   simp only[Zk,ZP h1,ZP h2,ha,hv]
   exact hcong ρ' L' hl
  ·refine⟨rfl,rfl,.inr ⟨rfl,fun ρ' L' hag=>?_⟩⟩
   have h1:Zy ρ1 ρ' (ZN a):=fun t ht=>hag t (by simp[Zz,Yw,ht])
   have h2:Zy ρ1 ρ' (ZN v):=fun t ht=>hag t (by simp[Zz,Yw,ht])
   unfold Zx
   simp only[Zk,ZP h1,ZP h2,ha,hv]
   exact hcong ρ' L'
 |storeN n a v =>
  unfold Zx at hst
  simp only[hg]at hst
  split at hst<;>(try(simp at hst;done))
  rename_i p ea q xs ha hv
  obtain⟨rfl,⟨l,off,cs,rfl,rfl,rfl,hL,hcong⟩|⟨rfl,hcong⟩⟩:=Zjv hst
  ·refine⟨rfl,rfl,.inl ⟨l,cs,_,rfl,rfl,hL,fun ρ' L' hag hl=>?_⟩⟩
   have h1:Zy ρ1 ρ' (ZN a):=fun t ht=>hag t (by simp[Zz,Yw,ht])
   have h2:Zy ρ1 ρ' (ZN v):=fun t ht=>hag t (by simp[Zz,Yw,ht])
   unfold Zx
   simp only[Zk,ZP h1,ZP h2,ha,hv]
   exact hcong ρ' L' hl
  ·refine⟨rfl,rfl,.inr ⟨rfl,fun ρ' L' hag=>?_⟩⟩
   have h1:Zy ρ1 ρ' (ZN a):=fun t ht=>hag t (by simp[Zz,Yw,ht])
   have h2:Zy ρ1 ρ' (ZN v):=fun t ht=>hag t (by simp[Zz,Yw,ht])
   unfold Zx
   simp only[Zk,ZP h1,ZP h2,ha,hv]
   exact hcong ρ' L'
 |_=>simp[Zde]at hk
def Zrx:K→Bool
 |.mapupd _ _ _ _|.delete _ _ _|.entst _ _ _=>true
 |_=>false
theorem ZwK{o ρ L s s1 side ρ1 L1}(hst:Zx o ρ L s=.ok side ρ1 L1 s1)(hk:Zrx o.k=true):
  ρ1=ρ∧o.dst=nO∧L1=L∧∀ρ' L',Zy ρ ρ' (Zz o)→Zx o ρ' L' s=.ok side ρ' L' s1:=by
 obtain⟨dst,gd,k⟩:=o
 cases hg:Zk ρ gd with
 |none=>unfold Zx at hst;simp[hg]at hst
 |some c =>
 cases k with
 |mapupd kp m k v =>
  unfold Zx at hst
  simp only[hg]at hst
  split at hst<;>(try(simp at hst;done))
  rename_i p b q dk r dv hm hkk hv
  split at hst<;>(try(simp at hst;done))
  rename_i es hes
  split at hst<;>simp only[SR.ok.injEq,reduceCtorEq]at hst
  rename_i es' hes'
  obtain⟨rfl,rfl,rfl,rfl⟩:=hst
  refine⟨rfl,rfl,rfl,fun ρ' L' hag=>?_⟩
  have h1:Zy ρ ρ' (ZN m):=fun t ht=>hag t (by simp[Zz,Yw,ht])
  have h2:Zy ρ ρ' (ZN k):=fun t ht=>hag t (by simp[Zz,Yw,ht])
  have h3:Zy ρ ρ' (ZN v):=fun t ht=>hag t (by simp[Zz,Yw,ht])
  unfold Zx
  simp only[Zk,ZP h1,ZP h2,ZP h3,hm,hkk,hv,hes,hes']
 |delete kp m k =>
  unfold Zx at hst
  simp only[hg]at hst
  split at hst<;>(try(simp at hst;done))
  rename_i p b q dk hm hkk
  split at hst<;>(try(simp at hst;done))
  rename_i es hes
  split at hst<;>simp only[SR.ok.injEq,reduceCtorEq]at hst
  rename_i es' hes'
  obtain⟨rfl,rfl,rfl,rfl⟩:=hst
  refine⟨rfl,rfl,rfl,fun ρ' L' hag=>?_⟩
  have h1:Zy ρ ρ' (ZN m):=fun t ht=>hag t (by simp[Zz,Yw,ht])
  have h2:Zy ρ ρ' (ZN k):=fun t ht=>hag t (by simp[Zz,Yw,ht])
  unfold Zx
  simp only[Zk,ZP h1,ZP h2,hm,hkk,hes,hes']
 |entst m k v =>
  unfold Zx at hst
  simp only[hg]at hst
  split at hst<;>(try(simp at hst;done))
  rename_i p b q n r dv hm hkk hv
  split at hst<;>(try(simp at hst;done))
  rename_i kp es dk n' hes
  split at hst<;>simp only[SR.ok.injEq,reduceCtorEq]at hst
  rename_i es' hes'
  obtain⟨rfl,rfl,rfl,rfl⟩:=hst
  refine⟨rfl,rfl,rfl,fun ρ' L' hag=>?_⟩
  have h1:Zy ρ ρ' (ZN m):=fun t ht=>hag t (by simp[Zz,Yw,ht])
  have h2:Zy ρ ρ' (ZN k):=fun t ht=>hag t (by simp[Zz,Yw,ht])
  have h3:Zy ρ ρ' (ZN v):=fun t ht=>hag t (by simp[Zz,Yw,ht])
  unfold Zx
  simp only[Zk,ZP h1,ZP h2,ZP h3,hm,hkk,hv,hes,hes']
 |_=>simp[Zrx]at hk
theorem ZwI{o ρ L s side pre ρf sf}(hst:Zx o ρ L s=.all side pre ρf sf):
  YU o.k=false∧∃(t:Nat) (ef:Nat→E),o.dst=sO t∧(ρf=fun b=>(t,ef b)::ρ)∧∀ρ' L',Zy ρ ρ' (Zz o)→Zx o ρ' L' s=.all side pre (fun b=>(t,ef b)::ρ') sf:=by
 obtain⟨dst,gd,k⟩:=o
 cases hg:Zk ρ gd with
 |none=>unfold Zx at hst;simp[hg]at hst
 |some c =>
 cases k with
 |mkmap =>
  unfold Zx at hst
  simp only[hg]at hst
  split at hst<;>simp only[SR.all.injEq,reduceCtorEq]at hst
  obtain⟨rfl,rfl,rfl,rfl⟩:=hst
  refine⟨rfl,_,fun b=>.d (.map b),rfl,rfl,fun ρ' L' hag=>?_⟩
  unfold Zx
  simp only[Zk]
 |mkslice e n by_ z l c =>
  unfold Zx at hst
  simp only[hg]at hst
  split at hst<;>simp only[SR.all.injEq,reduceCtorEq]at hst
  rename_i t p k1 lv q k2 hv hl hc
  obtain⟨rfl,rfl,rfl,rfl⟩:=hst
  refine⟨rfl,t,fun b=>.d (.msl b 0 lv.toNat hv.toNat n),rfl,rfl,fun ρ' L' hag=>?_⟩
  have h1:Zy ρ ρ' (ZN l):=fun t ht=>hag t (by simp[Zz,Yw,ht])
  have h2:Zy ρ ρ' (ZN c):=fun t ht=>hag t (by simp[Zz,Yw,ht])
  unfold Zx
  simp only[Zk,ZP h1,ZP h2,hl,hc]
 |mapent kp z m k =>
  unfold Zx at hst
  simp only[hg]at hst
  split at hst<;>(try(simp at hst;done))
  rename_i t p b q dk hm hkk
  split at hst<;>(try(simp at hst;done))
  rename_i es hes
  split at hst<;>simp only[SR.all.injEq,reduceCtorEq]at hst
  rename_i v hv
  obtain⟨rfl,rfl,rfl,rfl⟩:=hst
  refine⟨rfl,t,fun n=>.d (.tup [v,.stamp n]),rfl,rfl,fun ρ' L' hag=>?_⟩
  have h1:Zy ρ ρ' (ZN m):=fun t ht=>hag t (by simp[Zz,Yw,ht])
  have h2:Zy ρ ρ' (ZN k):=fun t ht=>hag t (by simp[Zz,Yw,ht])
  unfold Zx
  simp only[Zk,ZP h1,ZP h2,hm,hkk,hes,hv]
 |store1 a v =>
  unfold Zx at hst
  simp only[hg]at hst
  split at hst<;>(try(simp at hst;done))
  exact absurd hst ZdR
 |storeN n a v =>
  unfold Zx at hst
  simp only[hg]at hst
  split at hst<;>(try(simp at hst;done))
  exact absurd hst ZdR
 |_ =>
  unfold Zx at hst
  simp only[hg]at hst
  first
   | (simp at hst;done)
   |repeat' (split at hst<;>(try(simp at hst;done)))
theorem Zvd{o ρ L s s1 side ρ1 L1}(hst:Zx o ρ L s=.ok side ρ1 L1 s1):YB o.k=true∨(∃z,o.k=.alloc z)∨Zde o.k=true∨(∃x,o.k=.box x)∨Zrx o.k=true:=by
 obtain⟨dst,gd,k⟩:=o
 unfold Zx at hst
 cases hg:Zk ρ gd with
 |none=>simp[hg]at hst
 |some c =>
  simp only[hg]at hst
  cases k with
  |q q xs=>exact .inl rfl
  |pick x a b=>exact .inl rfl
  |bsl len n z is xs=>exact .inl rfl
  |s2b x=>exact .inl rfl
  |alloc z=>exact .inr (.inl ⟨z,rfl⟩)
  |store1 a v=>exact .inr (.inr (.inl rfl))
  |storeN n a v=>exact .inr (.inr (.inl rfl))
  |box x=>exact .inr (.inr (.inr (.inl ⟨x,rfl⟩)))
  |mapupd kp m k v=>exact .inr (.inr (.inr (.inr rfl)))
  |delete kp m k=>exact .inr (.inr (.inr (.inr rfl)))
  |entst m k v=>exact .inr (.inr (.inr (.inr rfl)))
  |mkmap=>simp only at hst;split at hst<;>simp at hst
  |mkslice e n by_ z l c=>simp only at hst;split at hst<;>simp at hst
  |mapent kp z m k =>
   simp only at hst
   split at hst<;>(try(simp at hst;done))
   split at hst<;>(try(simp at hst;done))
   split at hst<;>simp at hst
  |call f xs=>simp at hst
  |append e n by_ z x y=>simp at hst
  |panic x=>simp at hst
  |defer f xs=>simp at hst
  |recover=>simp at hst
  |clear n z x=>simp at hst
  |copy n x y=>simp at hst
  |fork k=>simp at hst
section
variable {P:Program}
theorem ZwO{o ρ L L' side ρ1 lx new g ν w tmps s}(hst:Zx o ρ L s=.ok side ρ1 ((lx,new)::L) s)(hk:Zde o.k=true)(hs:side)(m:Zt g ν w tmps ρ L' s):∃cs,Zf L' lx=sO cs:=by
 have key:∀{p q ok:Prop} {a:Opd} {ea:E} {n:Nat} {xs:List D},ZC ρ true a=sO (p,ea)→KJ ρ L s p q ok ea n xs=.ok side ρ1 ((lx,new)::L) s→∃cs,Zf L' lx=sO cs:=by
  intro p q ok a ea n xs ha h
  obtain⟨rfl,⟨l,off,cs,rfl,hL,rfl,h1,h2⟩|⟨b,off,cs,rfl,hL,rfl,h1,h2⟩⟩:=ZfB h
  ·simp only[List.cons.injEq,ZEL,and_true]at h1
   obtain⟨rfl,rfl⟩:=h1
   exact Zlh m (xs:=[a]) (p:=p∧True) (es:=[.loc lx off]) (by simp[Z2,ha]) ⟨hs.1,trivial⟩ lx off (by simp)
  ·exact absurd (congrArg List.length h1) (by simp)
 obtain⟨dst,gd,k⟩:=o
 cases hg:Zk ρ gd with
 |none=>unfold Zx at hst;simp[hg]at hst
 |some c =>
 cases k with
 |store1 a v =>
  unfold Zx at hst
  simp only[hg]at hst
  split at hst<;>(try(simp at hst;done))
  rename_i p ea q x ha hv
  exact key ha hst
 |storeN n a v =>
  unfold Zx at hst
  simp only[hg]at hst
  split at hst<;>(try(simp at hst;done))
  rename_i p ea q xs ha hv
  exact key ha hst
 |_=>simp[Zde]at hk
theorem ZwJ{o ρ ρ1 L L1 s s1 side x}(hst:Zx o ρ L s=.ok side ρ1 L1 s1)(hk:o.k=.box x):
  ∃t p v,o.dst=sO t∧o.guard=nO∧side=(p∧J2 L t=false∧W1 v=true)∧ρ1=(t,.loc t 0)::ρ∧L1=(t,cellsOf v)::L∧s1=s ∧
   ∀ρ' L',Zy ρ ρ' (Zz o)→Zx o ρ' L' s=.ok (p∧J2 L' t=false∧W1 v=true) ((t,.loc t 0)::ρ') ((t,cellsOf v)::L') s:=by
 obtain⟨dst,gd,k⟩:=o
 simp only at hk
 subst hk
 unfold Zx at hst
 cases hg:Zk ρ gd with
 |none=>simp[hg]at hst
 |some c =>
  simp only[hg]at hst
  split at hst<;>simp only[SR.ok.injEq,reduceCtorEq]at hst
  rename_i t p v hx
  obtain⟨rfl,rfl,rfl,rfl⟩:=hst
  refine⟨t,p,v,rfl,rfl,rfl,rfl,rfl,rfl,fun ρ' L' hag=>?_⟩
  have h1:Zy ρ ρ' (ZN x):=fun u hu=>hag u (by simp[Zz,Yw,hu])
  unfold Zx
  simp only[Zk,ZP h1,hx]
theorem Zju{o ρ ρ1 L L1 s s1 side}(hst:Zx o ρ L s=.ok side ρ1 L1 s1):∀k,o.k≠.fork k:=fun k hk=>by
 obtain⟨dst,gd,k'⟩:=o
 simp only at hk
 subst hk
 unfold Zx at hst
 cases hg:Zk ρ gd<;>simp[hg]at hst
theorem QY{F:Fr P}{kp dk o f os ρ ρ1 L L1 s s1 B side}(hst:Zx o ρ L s=.ok side ρ1 L1 s1)(hs:side)(h:if YU o.k then DOA F kp dk os ρ1 L1 s1 (Kd o ρ++B) else Y5 f s s1 L L1 B∧DOA F kp dk os ρ1 L1 s1 (Kd o ρ++YP f B)):DOA F kp dk ((o,f)::os) ρ L s B:=by
 intro T ms fl fk A rest is l ρ' L' hm hc hdis hos inv sch
 cases rest with
 |nil=>simp at hos
 |cons i rest =>
  simp only[ZEQ,List.cons.injEq,ZEL]at hos
  obtain⟨⟨ho,rfl⟩,rfl⟩:=hos
  obtain⟨hfk,rfl⟩:=Zoa ho.symm (Zju hst)
  obtain⟨hi,hdeps,hir,hnm,hcs⟩:=Zll hfk hc
  have hli:=inv.restN i (by simp)
  rcases hcs with ⟨hp,hc'⟩|⟨hb,hc',hnp⟩
  ·obtain⟨hp1,hp2,hp3⟩:=Zek hp
   rw[hp1]at h
   simp only[if_true]at h
   have hiA:i∉A:=fun hA=>hdis i hA (by simp)
   have key:∀(hget:∀t,(T.op i).dst=sO t∨ZH ρ1 t=ZH ρ t) (hagr:∀a∈A,Zy ρ ρ1 (Zz (T.op a))) (hL:∀x,Zf L1 x=Zf L x∨(Zak (T.op i) x∧Zf L x=nO)) (hL0:∀x,Zak (T.op i) x→Zf L x=nO)
     (hpend:WU (T.op i) ρ1 L1 s (Kd (T.op i) ρ++B)) (hs1:s1=s),DO F kp dk (is.map T.op) ρ' L' s:=by
    intro hget hagr hL hL0 hpend hs1
    subst hs1
    refine h T ms fl fk (i::A) rest is l ρ' L' hm hc' (fun p hp hpr=>?_) rfl ⟨inv.closed,fun r hr=>inv.restN r (by simp[hr]),fun j hj h1 h2=>?_,fun a ha=>?_,fun p hp a ha=>?_,fun p hp a ha hpa=>?_,fun t=>?_,fun a ha hla x hx=>?_,fun x=>?_,fun a ha hla=>?_⟩ sch
    ·rcases List.mem_cons.1 hp with rfl|hp
     ·exact hir hpr
     ·exact hdis p hp (by simp[hpr])
    ·simp only[ZFd,not_or]at h2
     exact inv.doneN j hj (by simp[h2.1,h1]) h2.2
    ·rcases List.mem_cons.1 ha with rfl|ha
     ·exact hi
     ·exact inv.alt a ha
    ·rcases List.mem_cons.1 hp with rfl|hpA<;>rcases List.mem_cons.1 ha with rfl|haA
     ·exact .inr hp2
     ·exact hnm a haA
     ·exact .inr (hp3 p hpA).1
     ·exact inv.pair p hpA a haA
    ·rcases List.mem_cons.1 hp with rfl|hpA<;>rcases List.mem_cons.1 ha with rfl|haA
     ·exact absurd rfl hpa
     ·exact(hp3 a haA).2
     ·exact Zbl (hp3 p hpA).2
     ·exact inv.uniq p hpA a haA hpa
    ·rcases hget t with hd|hg
     ·exact .inr ⟨i,by simp,hli,hd⟩
     ·rw[hg]
      rcases inv.env t with h|⟨a,ha,hla,hda⟩
      ·exact .inl h
      ·exact .inr ⟨a,by simp[ha],hla,hda⟩
    ·rcases List.mem_cons.1 ha with rfl|ha
     ·have:=hL0 x hx
      rcases inv.loc x with h|⟨b,hb,hlb,hxb⟩
      ·rw[h];exact this
      ·exact inv.loc0 b hb hlb x hxb
     ·exact inv.loc0 a ha hla x hx
    ·rcases hL x with hx|⟨hx,_⟩
     ·rw[hx]
      rcases inv.loc x with h|⟨b,hb,hlb,hxb⟩
      ·exact .inl h
      ·exact .inr ⟨b,by simp[hb],hlb,hxb⟩
     ·exact .inr ⟨i,by simp,hli,hx⟩
    ·rcases List.mem_cons.1 ha with rfl|ha
     ·exact hpend
     ·refine((inv.pend a ha hla).more (B':=Kd (T.op i) ρ++B) (fun b _ hb=>List.mem_append_right _ hb)).mono (hagr a ha) (fun t ht=>?_) (fun x hx=>?_) (fun t hal=>?_)
      ·rcases hget t with hd|hg
       ·exact absurd ht (Za3 (hp3 a ha).2 hd)
       ·exact hg
      ·obtain⟨cs,hcs⟩:=(inv.pend a ha hla).loc hx
       rcases hL x with h|⟨_,h⟩
       ·exact h
       ·rw[h]at hcs;simp at hcs
      ·rcases hL t with h|⟨h,_⟩
       ·exact h
       ·exact absurd hal.1 (Za3 (hp3 a ha).2 h.1)
   by_cases hq:YB (T.op i).k=true
   ·obtain⟨e,rfl,rfl,rfl⟩:=Zk1 hst hq
    have hgc:=We (g:=(T.op i).guard) (ρ:=ρ) (ρ':=Zv ρ (T.op i).dst e) (fun t ht=>KB hp2 t (by simp[Zz,ht]))
    refine key (fun t=>?_) (fun a ha=>KB (hp3 a ha).1) (fun x=>.inl rfl) (fun x hx=>by have:=ZbO hx;rw[hq]at this;simp at this) ?_ rfl
    ·rw[WB]
     by_cases ht:(T.op i).dst=sO t
     ·exact .inl ht
     ·exact .inr (by simp[ht])
    ·cases hgv:Zk ρ (T.op i).guard with
     |none=>unfold Zx at hst;simp[hgv]at hst
     |some c =>
     cases c
     ·obtain⟨e',h1,-,-⟩:=Zk0 hst hgv hq
      refine .inr (.inl ⟨hq,_,.inl ⟨by rw[hgc,hgv],e',rfl⟩,fun t ht=>?_⟩)
      rw[h1,WB,if_pos ht]
     ·obtain⟨e',h1,-,-,h2⟩:=ZhB (ρ':=Zv ρ (T.op i).dst e) (L':=L1) hst hq (KB hp2) (.inl rfl)
      refine .inl ⟨hq,by rw[hgc,hgv],by rw[ZiZ (KB hp2)];exact fun b hb=>List.mem_append_left _ (ZuU.2 hb),side,e',hs,h2,fun t ht=>?_⟩
      rw[h1,WB,if_pos ht]
   ·obtain⟨z,hz⟩:∃z,(T.op i).k=.alloc z:=by
     cases hk:(T.op i).k<;>first|exact absurd hk (Zju hst _)|simp_all[YU,YB]
    obtain⟨t,ho,rfl,rfl,rfl,rfl⟩:=ZsW hst hz
    have hnone:Zf L t=nO:=by
     cases hg:Zf L t<;>simp[J2,hg]at hs⊢
    have hdt:(T.op i).dst=sO t:=by rw[ho]
    refine key (fun u=>?_) (fun a ha=>?_) (fun x=>?_) (fun x hx=>?_) (.inr (.inr ⟨t,z,ho,by simp[ZH],by simp[Zf]⟩)) rfl
    ·by_cases htu:t=u
     ·exact .inl (by rw[hdt,htu])
     ·exact .inr (by simp[ZH,htu])
    ·have:=KB (ρ:=ρ) (e:=.loc t 0) (hp3 a ha).1
     rw[hdt]at this;exact this
    ·by_cases htx:t=x
     ·subst htx;exact .inr ⟨⟨hdt,z,hz⟩,hnone⟩
     ·exact .inl (by simp[Zf,htx])
    ·have:=hx.1
     rw[hdt]at this
     simp only[ZEz]at this
     subst this;exact hnone
  ·obtain⟨hbk,hready,hfree⟩:=ZfL hb
   have hkB:Y5 (fl i) s s1 L L1 B∨YU (T.op i).k=true:=by
    cases hpk:YU (T.op i).k
    ·rw[hpk]at h;exact .inl h.1
    ·exact .inr rfl
   have hD:∃B2,(B2=Kd (T.op i) ρ++B∧YU (T.op i).k=true∨B2=Kd (T.op i) ρ++YP (fl i) B∧YU (T.op i).k=false)∧DOA F kp dk (rest.map fun i=>(T.mk fk i,fl i)) ρ1 L1 s1 B2:=by
    cases hpk:YU (T.op i).k
    ·rw[hpk]at h;exact⟨_,.inr ⟨rfl,rfl⟩,h.2⟩
    ·rw[hpk]at h;exact⟨_,.inl ⟨rfl,rfl⟩,h⟩
   clear h
   obtain⟨B2,hB2,h⟩:=hD
   have hsubB:∀b∈YP (fl i) B,b∈B2:=fun b hb=>by
    rcases hB2 with ⟨rfl,_⟩|⟨rfl,_⟩
    ·exact List.mem_append_right _ (Qe.1 hb).2
    ·exact List.mem_append_right _ hb
   refine ZuT hm hi hdis hready (fun l ρ' L' is inv hd sch=>?_) sch inv
   have hforced:=hm l inv.closed i hi hd
   have hag:Zy ρ ρ' (Zz (T.op i)):=by
    intro t ht
    rcases inv.env t with h|⟨a,ha,hla,hda⟩
    ·exact h
    ·exfalso
     rcases hnm a ha with hb|hb
     ·rw[hforced a hb]at hla;simp at hla
     ·exact ZiK hb hda ht
   have hloc:∀x,Zf L' x=Zf L x∨Zf L' x=nO:=fun x=>by
    rcases inv.loc x with h|⟨a,ha,hla,hx⟩
    ·exact .inl h
    ·exact .inr (inv.loc0 a ha hla x hx)
   have hdis':∀p∈A.filter (fun a=>!(ms.getD i 0).testBit a),p∉rest:=fun p hp hpr=>hdis p (List.mem_filter.1 hp).1 (by simp[hpr])
   rcases Zvd hst with hq|⟨z,hz⟩|hq|⟨x,hx⟩|hq
   ·obtain⟨e,rfl,rfl,rfl⟩:=Zk1 hst hq
    refine Zs7 hst hs hq hag hloc ?_
    refine h T ms fl fk _ rest is _ _ _ hm hc' hdis' rfl (inv.bar hm hdis hi hir hd (fun a ha=>⟨(hfree a ha).1,(hfree a ha).2.1⟩) e (fun _ h=>h) (fun _ _ _ _ h=>h) fun a ha hla hpe=>?_) sch
    refine((hpe.keep (fl:=fl i) (ZcJ _ _ _ _) (hfree a ha).2.2 (fun _ _=>rfl)).more (fun b _ hb=>hsubB _ hb)).mono (KB (hfree a ha).1) (fun t ht=>?_) (fun _ _=>rfl) (fun _ _=>rfl)
    rw[WB]
    have:=Za3 (Zbl (hfree a ha).2.1) ht
    simp[this]
   ·rw[hz]at hbk;simp[Zt4]at hbk
   ·obtain⟨rfl,hdn,⟨lx,cs,new,rfl,rfl,hlx,hcong⟩|⟨rfl,hcong⟩⟩:=ZsZ hst hq
    ·refine ZoL fun g ν w tmps m=>?_
     have hst0:Zx (T.op i) ρ' ((lx,cs)::L') s1=.ok side ρ' ((lx,new)::(lx,cs)::L') s1:=hcong ρ' _ hag (by simp[Zf,hlx])
     have hpl:Zf L' lx=Zf L lx:=by
      obtain⟨c2,hc2⟩:∃cs,Zf L' lx=sO cs:=ZwO (L:=(lx,cs)::L') hst0 hq hs m
      rcases hloc lx with h|h
      ·exact h
      ·rw[h]at hc2;simp at hc2
     refine Qg (hcong ρ' L' hag hpl) hs ?_
     have hput:∀r:Env,Zv r (T.op i).dst (.d .undef)=r:=fun r=>by rw[hdn];rfl
     have hb:=inv.bar (s2:=s1) (B2:=B2) hm hdis hi hir hd (fun a ha=>⟨(hfree a ha).1,(hfree a ha).2.1⟩) (.d .undef) (L2:=(lx,new)::L) (L2':=(lx,new)::L') (fun x hx=>by simp only[Zf,hx]) (fun x _ _ _ hx=>by
      by_cases hxl:lx=x
      ·subst hxl;rw[hpl,hlx]at hx;simp at hx
      ·simp only[Zf,hxl,if_false];exact hx) (fun a ha hla hpe=>?_)
     ·rw[hput,hput]at hb
      exact h T ms fl fk _ rest is _ _ _ hm hc' hdis' rfl hb sch
     ·rw[hput]
      have hkB':Y5 (fl i) s1 s1 L ((lx,new)::L) B:=by
       rcases hkB with h|h
       ·exact h
       ·cases hkk:(T.op i).k<;>rw[hkk]at hq h<;>simp[Zde,YU]at hq h
      refine(hpe.keep hkB' (hfree a ha).2.2 (fun t hal=>?_)).more (fun b _ hb=>hsubB _ hb)
      have hn:=inv.loc0 a (List.mem_filter.1 ha).1 hla t hal
      have:¬lx=t:=fun h=>by subst h;rw[hpl,hlx]at hn;simp at hn
      simp[Zf,this]
    ·refine Qg (hcong ρ' L' hag) hs ?_
     have hput:∀r:Env,Zv r (T.op i).dst (.d .undef)=r:=fun r=>by rw[hdn];rfl
     have hb:=inv.bar (s2:=s1) (B2:=B2) hm hdis hi hir hd (fun a ha=>⟨(hfree a ha).1,(hfree a ha).2.1⟩) (.d .undef) (L2:=L1) (L2':=L') (fun x hx=>hx) (fun _ _ _ _ hx=>hx) (fun a ha hla hpe=>by
      rw[hput];exact(hpe.keep (hkB.resolve_right (by cases hkk:(T.op i).k<;>rw[hkk]at hq<;>simp[Zde,Zrx]at hq<;>simp[YU])) (hfree a ha).2.2 (fun _ _=>rfl)).more (fun b _ hb=>hsubB _ hb))
     rw[hput,hput]at hb
     exact h T ms fl fk _ rest is _ _ _ hm hc' hdis' rfl hb sch
   ·obtain⟨t,p,v,hdt,hgn,rfl,rfl,rfl,rfl,hcong⟩:=ZwJ hst hx
    obtain⟨hs1,hs2,hs3⟩:=hs
    have hnone:Zf L t=nO:=by
     cases hg:Zf L t<;>simp[J2,hg]at hs2⊢
    have hnone':Zf L' t=nO:=by
     rcases hloc t with h|h
     ·rw[h];exact hnone
     ·exact h
    refine Qg (hcong ρ' L' hag) ⟨hs1,by simp[J2,hnone'],hs3⟩ ?_
    have hb:=inv.bar (s2:=s1) (B2:=B2) hm hdis hi hir hd (fun a ha=>⟨(hfree a ha).1,(hfree a ha).2.1⟩) (.loc t 0) (L2:=(t,cellsOf v)::L) (L2':=(t,cellsOf v)::L') (fun x hx=>by simp only[Zf,hx]) (fun x a hna hal hx=>by
      have:¬t=x:=fun h=>by subst h;exact Za3 hna hdt hal.1
      simp only[Zf,this,if_false];exact hx) (fun a ha hla hpe=>?_)
    ·rw[hdt]at hb
     exact h T ms fl fk _ rest is _ _ _ hm hc' hdis' rfl hb sch
    ·have hkB':Y5 (fl i) s1 s1 L ((t,cellsOf v)::L) B:=hkB.resolve_right (by rw[hx];simp[YU])
     have hnd:∀u,Zak (T.op a) u→¬t=u:=fun u hal h=>by subst h;exact Za3 (hfree a ha).2.1 hdt hal.1
     refine((hpe.keep hkB' (hfree a ha).2.2 (fun u hal=>by simp[Zf,hnd u hal])).more (fun b _ hb=>hsubB _ hb)).mono (KB (hfree a ha).1) (fun u hu=>?_) (fun _ _=>rfl) (fun _ _=>rfl)
     rw[WB]
     have:=Za3 (Zbl (hfree a ha).2.1) hu
     simp[this]
   ·obtain⟨rfl,hdn,rfl,hcong⟩:=ZwK hst hq
    refine Qg (hcong ρ' L' hag) hs ?_
    have hput:∀r:Env,Zv r (T.op i).dst (.d .undef)=r:=fun r=>by rw[hdn];rfl
    have hb:=inv.bar (s2:=s1) (B2:=B2) hm hdis hi hir hd (fun a ha=>⟨(hfree a ha).1,(hfree a ha).2.1⟩) (.d .undef) (L2:=L1) (L2':=L') (fun x hx=>hx) (fun _ _ _ _ hx=>hx) (fun a ha hla hpe=>by
     rw[hput];exact(hpe.keep (hkB.resolve_right (by cases hkk:(T.op i).k<;>rw[hkk]at hq<;>simp[Zde,Zrx]at hq<;>simp[YU])) (hfree a ha).2.2 (fun _ _=>rfl)).more (fun b _ hb=>hsubB _ hb))
    rw[hput,hput]at hb
    exact h T ms fl fk _ rest is _ _ _ hm hc' hdis' rfl hb sch
theorem Zqn{F:Fr P}{kp dk o f os ρ L s B e}(hz:ZbG o ρ e)(hk:YB o.k=true)(h:DOA F kp dk os (Zv ρ o.dst e) L s B):DOA F kp dk ((o,f)::os) ρ L s B:=by
 intro T ms fl fk A rest is l ρ' L' hm hc hdis hos inv sch
 cases rest with
 |nil=>simp at hos
 |cons i rest =>
  simp only[ZEQ,List.cons.injEq,ZEL]at hos
  obtain⟨⟨ho,rfl⟩,rfl⟩:=hos
  obtain⟨hfk,rfl⟩:=Zoa ho.symm (fun k h=>by rw[h]at hk;simp[YB]at hk)
  obtain⟨hi,hdeps,hir,hnm,hcs⟩:=Zll hfk hc
  have hli:=inv.restN i (by simp)
  have hnal:∀x,¬Zak (T.op i) x:=fun x hx=>by have:=ZbO hx;rw[hk]at this;simp at this
  rcases hcs with ⟨hp,hc'⟩|⟨hb,hc',hnp⟩
  ·obtain⟨hp1,hp2,hp3⟩:=Zek hp
   have hgc:=hz.congr (ρ':=Zv ρ (T.op i).dst e) (KB hp2)
   refine h T ms fl fk (i::A) rest is l ρ' L' hm hc' (fun p hp hpr=>?_) rfl ⟨inv.closed,fun r hr=>inv.restN r (by simp[hr]),fun j hj h1 h2=>?_,fun a ha=>?_,fun p hp a ha=>?_,fun p hp a ha hpa=>?_,fun t=>?_,fun a ha hla x hx=>?_,fun x=>?_,fun a ha hla=>?_⟩ sch
   ·rcases List.mem_cons.1 hp with rfl|hp
    ·exact hir hpr
    ·exact hdis p hp (by simp[hpr])
   ·simp only[ZFd,not_or]at h2
    exact inv.doneN j hj (by simp[h2.1,h1]) h2.2
   ·rcases List.mem_cons.1 ha with rfl|ha
    ·exact hi
    ·exact inv.alt a ha
   ·rcases List.mem_cons.1 hp with rfl|hpA<;>rcases List.mem_cons.1 ha with rfl|haA
    ·exact .inr hp2
    ·exact hnm a haA
    ·exact .inr (hp3 p hpA).1
    ·exact inv.pair p hpA a haA
   ·rcases List.mem_cons.1 hp with rfl|hpA<;>rcases List.mem_cons.1 ha with rfl|haA
    ·exact absurd rfl hpa
    ·exact(hp3 a haA).2
    ·exact Zbl (hp3 p hpA).2
    ·exact inv.uniq p hpA a haA hpa
   ·rw[WB]
    by_cases ht:(T.op i).dst=sO t
    ·exact .inr ⟨i,by simp,hli,ht⟩
    ·rw[if_neg ht]
     rcases inv.env t with h|⟨a,ha,hla,hda⟩
     ·exact .inl h
     ·exact .inr ⟨a,by simp[ha],hla,hda⟩
   ·rcases List.mem_cons.1 ha with rfl|ha
    ·exact absurd hx (hnal x)
    ·exact inv.loc0 a ha hla x hx
   ·rcases inv.loc x with h|⟨b,hb,hlb,hxb⟩
    ·exact .inl h
    ·exact .inr ⟨b,by simp[hb],hlb,hxb⟩
   ·rcases List.mem_cons.1 ha with rfl|ha
    ·exact .inr (.inl ⟨hk,e,hgc,fun t ht=>by rw[WB,if_pos ht]⟩)
    ·refine(inv.pend a ha hla).mono (KB (hp3 a ha).1) (fun t ht=>?_) (fun _ _=>rfl) (fun _ _=>rfl)
     rw[WB,if_neg (Za3 (Zbl (hp3 a ha).2) ht)]
  ·obtain⟨hbk,hready,hfree⟩:=ZfL hb
   refine ZuT hm hi hdis hready (fun l ρ' L' is inv hd sch=>?_) sch inv
   have hforced:=hm l inv.closed i hi hd
   have hag:Zy ρ ρ' (Zz (T.op i)):=by
    intro t ht
    rcases inv.env t with h|⟨a,ha,hla,hda⟩
    ·exact h
    ·exfalso
     rcases hnm a ha with hb|hb
     ·rw[hforced a hb]at hla;simp at hla
     ·exact ZiK hb hda ht
   have hdis':∀p∈A.filter (fun a=>!(ms.getD i 0).testBit a),p∉rest:=fun p hp hpr=>hdis p (List.mem_filter.1 hp).1 (by simp[hpr])
   refine(hz.congr hag).run ?_
   refine h T ms fl fk _ rest is _ _ _ hm hc' hdis' rfl (inv.bar hm hdis hi hir hd (fun a ha=>⟨(hfree a ha).1,(hfree a ha).2.1⟩) e (fun _ h=>h) (fun _ _ _ _ h=>h) fun a ha hla hpe=>?_) sch
   refine hpe.mono (KB (hfree a ha).1) (fun t ht=>?_) (fun _ _=>rfl) (fun _ _=>rfl)
   rw[WB]
   have:=Za3 (Zbl (hfree a ha).2.1) ht
   simp[this]
theorem Zvq{F:Fr P}{kp dk o f os ρ L s B}(hg:Zk ρ o.guard=sO false)(hk:YB o.k=true)(e)(h:DOA F kp dk os (Zv ρ o.dst (.when false e)) L s B):DOA F kp dk ((o,f)::os) ρ L s B:=Zqn (.inl ⟨hg,e,rfl⟩) hk h
theorem Zw1{F:Fr P}{kp dk o f os ρ L s B}(hg:o.guard=nO){x y bo pl}(hk:o.k=.q (.bin bo pl) [x,y]){p k k2 a b v}(ha:Z2 ρ true [x,y]=sO (p,[.d (.int k a),.d (.int k2 b)]))(hp:p)(hv:ZhJ bo k k2 a b=sO v)(h:DOA F kp dk os (Zv ρ o.dst (.d (.int k v))) L s B):DOA F kp dk ((o,f)::os) ρ L s B :=
 Zqn (.inr ⟨x,y,bo,pl,p,k,k2,a,b,v,hg,hk,ha,hp,hv,rfl⟩) (by rw[hk];rfl) h
theorem ZnK{F:Fr P}{kp}{dk}{o}{f}{os}{ρ}{L}{s}{B}{side}{pre}{ρf}{sf}(hst:Zx o ρ L s=.all side pre ρf sf)(hs:side)(h:∀b,pre b→Y5 f s (sf b) L L B∧DOA F kp dk os (ρf b) L (sf b) (YP f B)):DOA F kp dk ((o,f)::os) ρ L s B:=by
 obtain⟨hp,t,ef,hdt,rfl,hcong⟩:=ZwI hst
 refine ZdX (fun e s2=>∃b,pre b∧e=ef b∧s2=sf b) hp (fun ρ' L' os' hag hcont=>?_) (fun e s2 ⟨b,hb,he,h2⟩=>?_)
 ·refine ZlY (hcong ρ' L' hag) hs fun b hb=>?_
  have:=hcont (ef b) (sf b) ⟨b,hb,rfl,rfl⟩
  rw[hdt]at this;exact this
 ·subst he;subst h2
  have:=h b hb
  rw[hdt];exact this
theorem ZjJ{F:Fr P}{ks dk}:∀{os ρ L s B},
  Zg0 (fun ρ L s=>Zs F dk (Yh ρ ks) (ZaF (Yh ρ ks) L) s) (fun os ρ L s B=>DOA F (sO ks) dk os ρ L s B) os ρ L s B→DOA F (sO ks) dk os ρ L s B
 | [],ρ,L,s,B,h=>ZnL h
 | (o,f)::os,ρ,L,s,B,h=>by
  simp only[Zg0]at h
  split at h
  ·rename_i sd ρ' L' s' hst
   by_cases hp:YU o.k=true
   ·rw[if_pos hp]at h
    exact QY hst h.1 (by rw[if_pos hp];exact ZjJ h.2)
   ·rw[if_neg hp]at h
    exact QY hst h.1 (by rw[if_neg hp];exact⟨h.2.1,ZjJ h.2.2⟩)
  ·rename_i sd pre ρ' s' hst
   exact ZnK hst h.1 fun b hb=>⟨(h.2 b hb).1,ZjJ (h.2 b hb).2⟩
  ·exact h
end
theorem ZgJ{bs}:∀{ds a},(Zb0 bs ds).testBit a=true→∃d∈ds,a=d∨(bs.getD d 0).testBit a=true
 | [],a,h=>by simp[Zb0]at h
 |d::ds,a,h=>by
  simp only[Zb0,Nat.testBit_or,ZEY]at h
  rcases h with (h|h)|h
  ·exact⟨d,by simp,.inr h⟩
  ·refine⟨d,by simp,.inl ?_⟩
   rw[Nat.one_shiftLeft,Nat.testBit_two_pow]at h
   exact(of_decide_eq_true h).symm
  ·obtain⟨d',h1,h2⟩:=ZgJ h
   exact⟨d',by simp[h1],h2⟩
theorem Zrz(l:Nat→Bool)(all)(hcl:∀i,i<all.length→l i=true→∀d∈all.getD i [],l d=true) :
  ∀(r acc pre),all=pre++r→acc.length=pre.length →
   (∀i,i<acc.length→(∀d∈all.getD i [],l d=true)→∀a,(acc.getD i 0).testBit a=true→l a=true) →
   ∀i,i<all.length→(∀d∈all.getD i [],l d=true)→∀a,((Zfm r acc).getD i 0).testBit a=true→l a=true
 | [],acc,pre,hall,hlen,hacc=>by
  intro i hi
  simp only[Zfm]
  exact hacc i (by rw[hlen];simp only[hall,ZFb]at hi;exact hi)
 |d::r,acc,pre,hall,hlen,hacc=>by
  simp only[Zfm]
  refine Zrz l all hcl r (acc++[Zb0 acc d]) (pre++[d]) (by simp[hall]) (by simp[hlen]) fun i hi hd a ha=>?_
  simp only[ZEM,ZER,List.length_nil]at hi
  by_cases hia:i<acc.length
  ·have e:(acc++[Zb0 acc d]).getD i 0=acc.getD i 0:=by simp[ZES,List.getElem?_append,hia]
   rw[e]at ha
   exact hacc i hia hd a ha
  ·have hie:i=acc.length:=by omega
   subst hie
   have e:(acc++[Zb0 acc d]).getD acc.length 0=Zb0 acc d:=by simp[ZES]
   rw[e]at ha
   have e2:all.getD acc.length []=d:=by rw[hall,hlen];simp[ZES]
   rw[e2]at hd
   obtain⟨d',h1,h2⟩:=ZgJ ha
   rcases h2 with rfl|h2
   ·exact hd a h1
   ·by_cases hlt:d'<acc.length
    ·exact hacc d' hlt (hcl d' (by rw[hall];simp;omega) (hd d' h1)) a h2
    ·have:acc.getD d' 0=0:=by simp[ZES,ZFi (Nat.le_of_not_lt hlt)]
     rw[this]at h2;simp at h2
def cnt(l:Nat→Bool):Nat→Nat
 |0=>0
 |n+1=>cnt l n+if l n then 0 else 1
theorem Zq2{l l'}:∀{n},(∀i,i<n→l' i=l i)→cnt l' n=cnt l n
 |0,_=>rfl
 |n+1,h=>by
  have:=Zq2 (l:=l) (l':=l') (n:=n) fun i hi=>h i (by omega)
  simp only[cnt,h n (by omega),this]
theorem Ztg{l i}:∀{n},i<n→l i=false→cnt (fun j=>j==i ||l j) n+1=cnt l n
 |n+1,hi,hl=>by
  by_cases hn:i=n
  ·subst hn
   have:cnt (fun j=>j==i ||l j) i=cnt l i:=Zq2 fun j hj=>by
    have:¬j=i:=by omega
    simp[this]
   simp[cnt,this,hl]
  ·have h:=Ztg (n:=n) (by omega) hl
   have hni:¬n=i:=fun h=>hn h.symm
   have:(n==i ||l n)=l n:=by simp[hni]
   simp only[cnt,this];omega
theorem Zq3{l}:∀{n},cnt l n=0→∀i,i<n→l i=true
 |n+1,h,i,hi=>by
  simp only[cnt]at h
  by_cases hn:i=n
  ·subst hn
   cases hl:l i
   ·simp[hl]at h
   ·rfl
  ·exact Zq3 (n:=n) (by omega) i (by omega)
theorem ZvJ(l):∀n,cnt l n≤n
 |0=>ZEP _
 |n+1=>by have:=ZvJ l n;simp only[cnt];split<;>omega
theorem Zwe{ops listed i}(h:i∈Region.ready .any ops listed):
  ∃o,ops[i]?=sO o∧listed.getD i true=false∧∀d∈Jm o,listed.getD d false=true:=by
 simp only[Region.ready,List.mem_filter,List.mem_range,ZEK,Bool.not_eq_true']at h
 obtain⟨hi,hl,ha⟩:=h
 refine⟨ops[i],by simp[hi],hl,fun d hd=>?_⟩
 simp only[hi,Array.getElem?_eq_getElem,ZE4,ZFe,Array.all_eq_true]at ha
 simp only[Jm,List.mem_map,List.mem_filter]at hd
 obtain⟨e,⟨he,hb⟩,rfl⟩:=hd
 obtain⟨n,hn,hen⟩:=ZEV he
 have hn':n<ops[i].after.size:=by simpa using hn
 have h2:=ha n hn'
 have:ops[i].after[n]=e:=by rw[←hen];simp
 rw[this]at h2
 simpa[hb]using h2
theorem Zwz{ops listed i o}(ho:ops[i]?=sO o)(hl:listed.getD i true=false)(hd:∀d∈Jm o,listed.getD d false=true):i∈Region.ready .any ops listed:=by
 obtain⟨hi,rfl⟩:=Array.getElem?_eq_some_iff.1 ho
 simp only[Region.ready,List.mem_filter,List.mem_range,ZEK,Bool.not_eq_true']
 refine⟨hi,hl,?_⟩
 simp only[hi,Array.getElem?_eq_getElem,ZE4,ZFe,Array.all_eq_true]
 intro n hn
 cases hb:Region.binds .any ops[i].after[n]
 ·simp
 ·simp only[Bool.not_true,Bool.false_or]
  exact hd _ (by
   simp only[Jm,List.mem_map,List.mem_filter]
   exact⟨_,⟨by simp,hb⟩,rfl⟩)
theorem ZAB{ops T}(hT:T.length=ops.size)(hdep:∀i o,ops[i]?=sO o→T.deps i=Jm o)(hlt:∀i,i<T.length→∀d∈T.deps i,d<i):
  ∀(fuel t listed),listed.size=ops.size→cnt (fun j=>listed.getD j false) ops.size≤fuel →
   Sch T (fun j=>listed.getD j false) (Region.linearise.go .any ops fuel t listed []):=by
 have hready:∀listed:Array Bool,listed.size=ops.size→Region.ready .any ops listed=[]→∀i,i<ops.size→listed.getD i false=true:=by
  intro listed hsz hr i
  induction i using Nat.strongRecOn with
  |ind i ih =>
   intro hi
   cases hl:listed.getD i false
   ·exfalso
    have hi':i<listed.size:=by omega
    have hlt':listed.getD i true=false:=by simpa[Array.getD,hi']using hl
    have hm:i∈Region.ready .any ops listed:=Zwz (o:=ops[i]) (by simp[hi]) hlt' fun d hd=>by
     have hdi:d<i:=hlt i (by omega) d (by rw[hdep i ops[i] (by simp[hi])];exact hd)
     exact ih d hdi (by omega)
    rw[hr]at hm;simp at hm
   ·rfl
 intro fuel
 induction fuel with
 |zero =>
  intro t listed hsz hc
  simp only[Region.linearise.go,List.reverse_nil]
  exact .nil fun i hi=>Zq3 (Nat.le_zero.1 hc) i (by omega)
 |succ fuel ih =>
  intro t listed hsz hc
  simp only[Region.linearise.go]
  change Sch T _ (match (Region.ready .any ops listed)[t % (Region.ready .any ops listed).length]? with
   |some i=>Region.linearise.go .any ops fuel (t / (Region.ready .any ops listed).length) (listed.setIfInBounds i true) [i]
   |none=>[].reverse)
  cases hi:(Region.ready .any ops listed)[t % (Region.ready .any ops listed).length]? with
  |none =>
   have hnil:Region.ready .any ops listed=[]:=by
    cases hr:Region.ready .any ops listed with
    |nil=>rfl
    |cons x xs =>
     rw[hr]at hi
     have hl:t % (x::xs).length<(x::xs).length:=Nat.mod_lt _ (by simp)
     rw[ZE5 hl]at hi;simp at hi
   exact .nil fun i hi'=>hready listed hsz hnil i (by omega)
  |some i =>
   simp only[]
   rw[linearise_go_acc,List.reverse_singleton,List.singleton_append]
   obtain⟨o,ho,hl,hd⟩:=Zwe (List.mem_of_getElem? hi)
   obtain⟨his,-⟩:=Array.getElem?_eq_some_iff.1 ho
   have hisl:i<listed.size:=by omega
   have hlf:listed.getD i false=false:=by simpa[Array.getD,hisl]using hl
   have hfun:(fun j=>(listed.setIfInBounds i true).getD j false)=fun j=>j==i ||listed.getD j false:=by
    funext j
    simp only[Array.getD_eq_getD_getElem?,Array.getElem?_setIfInBounds]
    by_cases hij:i=j
    ·subst hij;simp[hisl]
    ·have:¬j=i:=fun h=>hij h.symm
     simp[hij,this]
   refine .cons (by omega) hlf (fun d hd'=>hd d (by rw[←hdep i o ho];exact hd')) ?_
   rw[←hfun]
   refine ih _ _ (by simp[hsz]) ?_
   rw[hfun]
   have:=Ztg (l:=fun j=>listed.getD j false) his hlf
   omega
section
variable {P:Program}
theorem ZyS{an N c order os ks}(h:cc P an N c=sO (.regD order os ks)):
  ∃id ops,c=.region id ops true∧ccD P an N id ops=sO (order,os,ks):=by
 unfold cc at h;split at h<;>simp_all
 ·obtain⟨a,b,c',h1,h2,h3,h4⟩:=h;exact⟨_,_,⟨rfl,rfl⟩,by rw[h1];simp[h2,h3,h4]⟩
 all_goals (split at h<;>simp at h)
end
theorem ZAC{T l is}(h:Sch T l is):∀i∈is,i<T.length:=by
 induction h with
 |nil h=>simp
 |cons hi hl hd t ih=>intro i hi';rcases List.mem_cons.1 hi' with rfl|h;exact hi;exact ih i h
section
variable {P:Program}
theorem Zq4{N ops}:∀{is l},Q3 P N ops is=sO l→l.length=is.length∧∀(j i:Nat),is[j]?=sO i→∃o d,ops[i]?=sO o∧cop P N ops o=sO d∧l[j]?=sO d
 | [],l,h=>by simp only[Q3,ZEz]at h;subst h;simp
 |i::is,l,h=>by
  simp only[Q3]at h
  split at h<;>(try(simp at h;done))
  rename_i o ho
  split at h<;>simp only[ZEz,reduceCtorEq]at h
  rename_i d ds hd hds
  subst h
  obtain⟨h1,h2⟩:=Zq4 hds
  refine⟨by simp[h1],fun j i' hj=>?_⟩
  cases j with
  |zero=>simp only[List.getElem?_cons_zero,ZEz]at hj;subst hj;exact⟨o,d,ho,hd,by simp⟩
  |succ j=>simp only[List.getElem?_cons_succ]at hj⊢;exact h2 j i' hj
theorem Zth{N ops f}:∀{is},(∀i∈is,∃o,ops[i]?=sO o∧cop P N ops o=sO (f i))→Q3 P N ops is=sO (is.map f)
 | [],_=>rfl
 |i::is,h=>by
  obtain⟨o,h1,h2⟩:=h i (by simp)
  have:=Zth (is:=is) fun j hj=>h j (by simp[hj])
  simp only[Q3,h1,h2,this,ZEQ]
theorem ZvV(g w n):Ext g w g { w with drawn:=n }:=⟨ZEP _,fun _=>ZEP _,fun _ _ _=>rfl,fun _ _ h=>h,fun _ _=>rfl,fun _ _=>rfl,rfl,rfl,rfl,rfl⟩
theorem Zt.drawn{g ν w tmps ρ L s}(m:Zt g ν w tmps ρ L s)(n):Zt g ν { w with drawn:=n } tmps ρ L s:=by
 have hg:JB g w g { w with drawn:=n }:=⟨ZEP _,fun _ _=>rfl,fun _ _=>rfl,fun b hb=>(m.st.fresh b hb).1,rfl,rfl,rfl,rfl⟩
 exact m.grow hg
theorem ZkB:∀{n ds},Zmh n ds=true→∀i l,ds[i]?=sO l→∀d∈l,d<n+i
 |n,[],_,i,l,hi=>by simp at hi
 |n,x::r,h,i,l,hi=>by
  simp only[Zmh,ZEK,List.all_eq_true,decide_eq_true_eq]at h
  cases i with
  |zero=>simp only[List.getElem?_cons_zero,ZEz]at hi;subst hi;exact fun d hd=>h.1 d hd
  |succ i=>simp only[List.getElem?_cons_succ]at hi;intro d hd;have:=ZkB h.2 i l hi d hd;omega
theorem Zh7{F:Fr P}{order os ks dk ρ L s}(h:DOA F ks dk os ρ L s []):Zs F (.code (.regD order os ks)::dk) ρ L s:=by
 intro k hk
 cases hk with
 |code hc ht =>
 obtain⟨id,ops,rfl,hD⟩:=ZyS hc
 unfold ccD at hD
 generalize Zxu F.an id=fk at hD
 split at hD<;>(try(simp at hD;done))
 rename_i l order' kp hcops _ _
 simp only at hD
 split at hD<;>simp only[ZEz,ZEL,reduceCtorEq]at hD
 rename_i hcond
 obtain⟨rfl,rfl,rfl⟩:=hD
 simp only[ZEK]at hcond
 obtain⟨⟨⟨hmix,hlt⟩,hperm⟩,hchk⟩:=hcond
 obtain⟨hlen,hget⟩:=Zq4 hcops
 simp only[List.length_range]at hlen
 generalize hds:ops.toList.map Jm=ds at hlt hchk h
 have hdl:ds.length=ops.size:=by rw[←hds];simp
 generalize hT:List.zip l ds=T at hchk h
 have hTl:List.length T=ops.size:=by rw[←hT];simp[hlen,hdl]
 have hTi:∀(i:Nat) (o:Oper),ops[i]?=sO o→∃d,cop P F.N ops o=sO d∧T[i]?=sO (d,Jm o):=by
  intro i o ho
  obtain⟨hi,-⟩:=Array.getElem?_eq_some_iff.1 ho
  obtain⟨o',d,h1,h2,h3⟩:=hget i i (by simp[hi])
  rw[ho]at h1
  obtain rfl:=Option.some.inj h1
  refine⟨d,h2,?_⟩
  rw[←hT,List.getElem?_zip_eq_some]
  exact⟨h3,by rw[←hds];simp[ho]⟩
 have hdeps:∀(i:Nat) (o:Oper),ops[i]?=sO o→Tab.deps T i=Jm o:=fun i o ho=>by
  obtain⟨d,_,h2⟩:=hTi i o ho
  simp[Tab.deps,ZES,h2]
 have hop:∀i,i<List.length T→∃o,ops[i]?=sO o∧cop P F.N ops o=sO (Tab.op T i):=fun i hi=>by
  have hi':i<ops.size:=by omega
  obtain⟨d,h1,h2⟩:=hTi i ops[i] (by simp[hi'])
  exact⟨ops[i],by simp[hi'],by simp[Tab.op,ZES,h2,h1]⟩
 have hdl2:∀i,i<List.length T→∀d∈Tab.deps T i,d<i:=fun i hi d hd=>by
  have hi':i<ops.size:=by omega
  have he:=hdeps i ops[i] (by simp[hi'])
  have:=ZkB hlt i (Jm ops[i]) (by rw[←hds];simp[hi']) d (by rw[←he];exact hd)
  omega
 have hdsT:∀i,i<List.length T→ds.getD i []=Tab.deps T i:=fun i hi=>by
  have hi':i<ops.size:=by omega
  rw[hdeps i ops[i] (by simp[hi']),←hds]
  simp[ZES,hi']
 intro g ν w tmps hN m
 refine F.T.back _ _ _ _ (.one stepR_region_draw) ?_
 refine F.T.ext g w g { w with drawn:=w.drawn+1 } _ (ZvV g w _) ?_
 have hsc:∀t,Region.schedule (P.follows .mixedOrders) ops t=Region.linearise .any ops t:=fun t=>by simp[Region.schedule,hmix]
 rw[hsc]
 have hl0:∀j,(Array.replicate ops.size false).getD j false=false:=fun j=>by
  simp only[Array.getD_eq_getD_getElem?,Array.getElem?_replicate]
  split<;>rfl
 have hsch:=ZAB (ops:=ops) (T:=T) hTl hdeps hdl2 ops.size (w.tape w.drawn (.order F.b.fn id)) (Array.replicate ops.size false) (by simp) (ZvJ _ _)
 have hDO:=h T (Zfm ds []) (fun i=>(F.an.get (id+1000000*(i+4))).getD []) _ [] order' _ _ ρ L ?_ hchk (by simp) rfl ?_ hsch
 ·refine hDO ops _ _ (Zth fun i hi=>hop i (ZAC hsch i hi)) ht g ν _ tmps hN (m.drawn _)
 ·intro lf hcl i hi hd a ha
  refine Zrz lf ds (fun i hi hli d hd=>?_) ds [] [] rfl rfl (fun i hi=>by simp at hi) i (by omega) (fun d hd'=>hd d (by rw[←hdsT i hi];exact hd')) a ha
  exact hcl i (by omega) hli d (by rw[←hdsT i (by omega)];exact hd)
 ·refine⟨fun i hi hli=>?_,fun r hr=>hl0 r,fun i hi h1 h2=>?_,by simp,by simp,by simp,fun t=>.inl rfl,by simp,fun x=>.inl rfl,by simp⟩
  ·rw[hl0]at hli;simp at hli
  ·exfalso
   simp only[Zwq,List.all_eq_true,List.mem_range,List.contains_eq_mem,decide_eq_true_eq]at hperm
   exact h1 (hperm i (by omega))
theorem ZcS{F:Fr P}{kp dk o f os ρ L s B}(hg:Zk ρ o.guard=sO true){fx xs}(hk:o.k=.call fx xs){p q fd es ds}(hf:ZC ρ true fx=sO (q,.d fd))(ha:Z2 ρ true xs=sO (p,es))(hds:W6 es=sO ds)(hp:p)(hq:q){Ψ}(hc:WV P fd ds s Ψ)(hret:∀d s',Ψ (.ret d) s'→Y5 f s s' L L B∧DOA F kp dk os (Zv ρ o.dst (.d d)) L s' (YP f B))(hpan:∀d s',Ψ (.panic d) s'→YN F [] [] d s'):DOA F kp dk ((o,f)::os) ρ L s B:=by
 refine ZdX (fun e s'=>∃d,e=.d d∧Ψ (.ret d) s') (by rw[hk];rfl) (fun ρ' L' os' hag hcont=>?_) (fun e s2 ⟨d,he,hd⟩=>by subst he;exact hret d s2 hd)
 have h1:Zy ρ ρ' (ZN fx):=fun t ht=>hag t (by simp[Zz,hk,Yw,ht])
 have h2:Zy ρ ρ' (ZaK xs):=fun t ht=>hag t (by simp[Zz,hk,Yw,ht])
 have h3:Zy ρ ρ' (Zer o.guard):=fun t ht=>hag t (by simp[Zz,ht])
 exact Zd8 (by rw[We h3];exact hg) hk (by rw[ZP h1];exact hf) (by rw[WW h2];exact ha) hds hp hq hc (fun d s' hd=>hcont (.d d) s' ⟨d,rfl,hd⟩) (fun d s' hd=>(hpan d s' hd).weak _ _)
theorem ZgP{F:Fr P}{kp dk o f os ρ L s B}(hg:Zk ρ o.guard=sO true){fx xs}(hk:o.k=.call fx xs){p q fi first caps es ds}(hf:ZC ρ true fx=sO (q,.d (.fn (.func fi) first caps)))(ha:Z2 ρ true xs=sO (p,es))(hds:W6 es=sO ds)(hp:p)(hq:q){Ψ}(hc:Zb P fi (first++ds++caps) s Ψ)(hret:∀d s',Ψ (.ret d) s'→Y5 f s s' L L B∧DOA F kp dk os (Zv ρ o.dst (.d d)) L s' (YP f B))(hpan:∀d s',Ψ (.panic d) s'→YN F [] [] d s'):DOA F kp dk ((o,f)::os) ρ L s B :=
 ZcS hg hk hf ha hds hp hq hc.V hret hpan
theorem ZoH{F:Fr P}{kp dk o f os ρ L s B}(hg:Zk ρ o.guard=sO true){x}(hk:o.k=.panic x){p t d}(ha:ZC ρ true x=sO (p,.d (.iface t d)))(hp:p)(h:YN F [] [] (.iface t d) s):DOA F kp dk ((o,f)::os) ρ L s B:=by
 refine ZdX (fun _ _=>False) (by rw[hk];rfl) (fun ρ' L' os' hag hcont=>?_) (fun e s2 h=>h.elim)
 have h1:Zy ρ ρ' (ZN x):=fun t ht=>hag t (by simp[Zz,hk,Yw,ht])
 have h3:Zy ρ ρ' (Zer o.guard):=fun t ht=>hag t (by simp[Zz,ht])
 exact Zk6 (by rw[We h3];exact hg) hk (by rw[ZP h1];exact ha) hp (h.weak _ _)
theorem Zd6{F:Fr P}{kp dk o f os ρ L s B}(hg:Zk ρ o.guard=sO false)(hk:YU o.k=false){e}(h:DOA F kp dk os (Zv ρ o.dst (.when false e)) L s (YP f B)):DOA F kp dk ((o,f)::os) ρ L s B:=by
 refine ZdX (fun e' s'=>e'=.when false e∧s'=s) hk (fun ρ' L' os' hag hcont=>?_) (fun e s2 ⟨h1,h2⟩=>by subst h1;subst h2;exact⟨ZcJ _ _ _ _,h⟩)
 have h3:Zy ρ ρ' (Zer o.guard):=fun t ht=>hag t (by simp[Zz,ht])
 exact Jc (by rw[We h3];exact hg) (hcont _ _ ⟨rfl,rfl⟩)
theorem ZtQ{F:Fr P}{kp dk o f os ρ L s B c}(hg:Zk ρ o.guard=sO c){fx xs}(hk:o.k=.call fx xs){p q fi first caps es ds}(hf:ZC ρ c fx=sO (q,.d (.fn (.func fi) first caps)))(ha:Z2 ρ c xs=sO (p,es))(hds:W6 es=sO ds){d}(hc:c=true→p∧q∧Ze P fi (first++ds++caps) d)(h:DOA F kp dk os (Zv ρ o.dst (.when c (.d d))) L s (YP f B)):DOA F kp dk ((o,f)::os) ρ L s B:=by
 refine ZdX (fun e' s'=>e'=.when c (.d d)∧s'=s) (by rw[hk];rfl) (fun ρ' L' os' hag hcont=>?_) (fun e s2 ⟨h1,h2⟩=>by subst h1;subst h2;exact⟨ZcJ _ _ _ _,h⟩)
 have h1:Zy ρ ρ' (ZN fx):=fun t ht=>hag t (by simp[Zz,hk,Yw,ht])
 have h2:Zy ρ ρ' (ZaK xs):=fun t ht=>hag t (by simp[Zz,hk,Yw,ht])
 have h3:Zy ρ ρ' (Zer o.guard):=fun t ht=>hag t (by simp[Zz,ht])
 exact Ze5 (by rw[We h3];exact hg) hk (by rw[ZP h1];exact hf) (by rw[WW h2];exact ha) hds hc (hcont _ _ ⟨rfl,rfl⟩)
theorem Zh4{F:Fr P}{kp dk o f os ρ L s B}(hg:Zk ρ o.guard=sO true){fx xs}(hk:o.k=.call fx xs){p q fi first caps es ds}(hf:ZC ρ true fx=sO (q,.d (.fn (.func fi) first caps)))(ha:Z2 ρ true xs=sO (p,es))(hds:W6 es=sO ds)(hp:p)(hq:q){d}(hc:Ze P fi (first++ds++caps) d)(h:DOA F kp dk os (Zv ρ o.dst (.d d)) L s (YP f B)):DOA F kp dk ((o,f)::os) ρ L s B :=
 ZgP hg hk hf ha hds hp hq (hc s) (fun d' s' ⟨h1,h2⟩=>by simp only[Res.ret.injEq]at h1;subst h1;subst h2;exact⟨ZcJ _ _ _ _,h⟩) (fun d' s' ⟨h1,_⟩=>by simp at h1)
end
section
variable {P:Program}
def ZaX(P:Program)(w:World)(size m:Nat)(x:Value)(news:List Value):Prop :=
 (∀w2,(Builtin.lenOf x).run P w2=.ok m w2)∧∀w2:World,w2.heap=w.heap→(Builtin.firstCells size m x).run P w2=.ok news.toArray w2
theorem ZoO{w t u ty e tu i}(ht:P.underlying t=sO (.slice e))(hu:P.underlying u=sO tu)(hnu:∀k,tu≠.int k)(hi:P.info? e=sO i){base n cap x}(hx:ZaX P w i.size 0 x [])(hroom:n≤cap):(Builtin.append_ #[t,u] ty #[.slice base n cap,x]).run P w=.ok (.slice base n cap) w:=by
 obtain⟨h1,h2⟩:=hx
 have h2:=h2 w rfl
 have hz:(match tu with|.int _=>true|_=>false)=false:=by cases tu<;>first|rfl|exact absurd rfl (hnu _)
 cases base with
 |none=>simp[Builtin.append_,run_underlying ht,run_underlying hu,hz,sizeOf,typeInfo,hi,h1,h2,hroom]
 |some a=>simp[Builtin.append_,run_underlying ht,run_underlying hu,hz,sizeOf,typeInfo,hi,h1,h2,hroom,storeCells]
theorem ZqI{w t u ty e tu i}(ht:P.underlying t=sO (.slice e))(hu:P.underlying u=sO tu)(hnu:∀k,tu≠.int k)(hi:P.info? e=sO i){g n cap m x news}(hx:ZaX P w i.size m x news){cur T}(hg:w.heap[g]?=sO (.cells cur T (0,0)))(h1:∀u∈news,u.oneCell'=true)(hroom:n+m≤cap)(hfit:n*i.size+news.length≤cur.size):
  (Builtin.append_ #[t,u] ty #[.slice (sO ⟨g,0,nO⟩) n cap,x]).run P w =
   .ok (.slice (sO ⟨g,0,nO⟩) (n+m) cap) (w.setRow g (cur.toList.take (n*i.size)++news++cur.toList.drop (n*i.size+news.length)).toArray):=by
 obtain⟨hx1,hx2⟩:=hx
 have hx2:=hx2 w rfl
 have hz:(match tu with|.int _=>true|_=>false)=false:=by cases tu<;>first|rfl|exact absurd rfl (hnu _)
 have hst:=run_storeCells_at P g (n*i.size) T news 0 cur w hg (by simpa using hfit) h1
 simp only[Nat.add_zero]at hst
 simp[Builtin.append_,run_underlying ht,run_underlying hu,hz,sizeOf,typeInfo,hi,hx1,hx2,hroom,Addr.add_lit,hst]
theorem Zlg{w t u ty e tu i z}(ht:P.underlying t=sO (.slice e))(hu:P.underlying u=sO tu)(hnu:∀k,tu≠.int k)(hi:P.info? e=sO i)(hz':i.zero=sO z){base n cap m x olds news}(hx:ZaX P w i.size m x news)(ho:∀w2:World,w2.heap=w.heap→(Builtin.firstCells i.size n (.slice base n cap)).run P w2=.ok olds.toArray w2)(hg:cap<n+m)(h63:((n+m:Nat):Int)≤9223372036854775807)(hfit:(n+m)*i.bytes≤140737488355328):
  (Builtin.append_ #[t,u] ty #[.slice base n cap,x]).run P w =
   .ok (.slice (sO ⟨w.heap.size,0,nO⟩) (n+m) (grownCap w (n+m) cap e))
    (w.drew.alloc (.cells (olds++news++(Builtin.zeroCells z.cells (grownCap w (n+m) cap e-(n+m))).toList).toArray e)):=by
 obtain⟨hx1,hx2⟩:=hx
 have hx2:=hx2 w.drew rfl
 have ho:=ho w.drew rfl
 have hz:(match tu with|.int _=>true|_=>false)=false:=by cases tu<;>first|rfl|exact absurd rfl (hnu _)
 have hn:¬(n+m≤cap):=by omega
 have h63':¬(9223372036854775807<((n:Int)+(m:Int))):=by omega
 have hf:=growslice_fits hg hfit
 have h48':¬(281474976710656<Builtin.nextslicecap (n+m) cap*i.bytes):=by omega
 simp[Builtin.append_,run_underlying ht,run_underlying hu,hz,sizeOf,typeInfo,zeroValue,hi,hz',hx1,hn,h63',h48',Question.forced,hx2,ho,newRow,grownCap]
 congr 2
 apply Array.ext'
 simp[ZE9]
end
structure WP(g:G)(w:World)(sz n:Nat)(vals:List Value)(row:Nat→List D):Prop where
 len:vals.length=n*sz
 rlen:∀i,i<n→(row i).length=sz
 rep:∀(i j:Nat) (v:Value) (d:D),i<n→j<sz→vals[i*sz+j]?=some v→(row i)[j]?=some d→Rep g w v d
 one:∀v∈vals,v.one1=true
def YJ(n:Nat)(row row2:Nat→List D):Nat→List D:=fun i=>if i<n then row i else row2 (i-n)
theorem WP.append{sz n m:Nat}{a b:List Value}{row row2:Nat→List D}(ha:WP g w sz n a row)(hb:WP g w sz m b row2):WP g w sz (n+m) (a++b) (YJ n row row2):={
 len:=by rw[ZEM,ha.len,hb.len,ZE2]
 rlen i hi:=by
  unfold YJ
  split
  ·rename_i h;exact ha.rlen i h
  ·exact hb.rlen (i-n) (by omega)
 rep i j v d hi hj hv hd:=by
  unfold YJ at hd
  split at hd
  ·rename_i h
   have:i*sz+j<a.length:=by
    rw[ha.len]
    have:=ZEW sz (show i+1≤n from h)
    rw[ZE2,Nat.one_mul]at this;omega
   rw[ZE7 this]at hv
   exact ha.rep i j v d h hj hv hd
  ·rename_i h
   have e:i*sz+j-a.length=(i-n)*sz+j:=by
    rw[ha.len,Nat.sub_mul]
    have:=ZEW sz (show n≤i by omega)
    omega
   have hge:a.length≤i*sz+j:=by
    rw[ha.len]
    have:=ZEW sz (show n≤i by omega)
    omega
   rw[ZFj hge,e]at hv
   exact hb.rep (i-n) j v d (by omega) hj hv hd
 one v hv:=by
  rcases List.mem_append.1 hv with h|h
  ·exact ha.one v h
  ·exact hb.one v h }
theorem WP.mono{g g' w w' sz n a row}(h:WP g w sz n a row)(e:Ext g w g' w'):WP g' w' sz n a row :=
 ⟨h.len,h.rlen,fun i j v d hi hj hv hd=>(h.rep i j v d hi hj hv hd).mono e,h.one⟩
theorem Zan{b o cs T fr}(h:w.heap[b]?=sO (.cells cs T fr)):w.cell? ⟨b,o,nO⟩=cs[o]?:=by
 unfold World.cell?;simp[h]
section
variable {P:Program}
theorem Zhs{g w v t n sz row}(h:Rep g w v (.sl t n sz row))(hsz:0<sz):
  ∃vals,WP g w sz n vals row∧ZaX P w sz n v vals:=by
 cases h with
 |sl0 a t s row ht =>
  refine⟨[],⟨by simp,fun i hi=>by omega,fun i j v d hi=>by omega,by simp⟩,fun w2=>by simp[Builtin.lenOf],fun w2 _=>by cases a<;>simp[Builtin.firstCells,loadCells,loadCellsFrom]⟩
 |sl b o n cap s row t f hl hc hp hr one ht hcap hb =>
  let vals:=(ZEO (n*sz)).map fun k=>f (k / sz) (k % sz)
  have hk:∀k,k<n*sz→k / sz<n∧k % sz<sz:=fun k hk=>⟨(Nat.div_lt_iff_lt_mul hsz).2 hk,Nat.mod_lt _ hsz⟩
  have hvals:∀k v,vals[k]?=sO v→k<n*sz∧v=f (k / sz) (k % sz):=fun k v hv=>by
   simp only[vals,List.getElem?_map,ZEN]at hv
   obtain⟨k',h1,h2⟩:=hv
   obtain⟨h3,h4⟩:=List.getElem?_eq_some_iff.1 h1
   simp only[List.getElem_range]at h4
   subst h4
   exact⟨by simpa using h3,h2.symm⟩
  refine⟨vals,⟨by simp[vals],hl,fun i j v d hi hj hv hd=>?_,fun v hv=>?_⟩,fun w2=>by simp[Builtin.lenOf],fun w2 hw2=>?_⟩
  ·obtain⟨_,rfl⟩:=hvals _ _ hv
   have e1:(i*sz+j) / sz=i:=by rw[Nat.mul_comm,Nat.mul_add_div hsz,Nat.div_eq_of_lt hj,Nat.add_zero]
   have e2:(i*sz+j) % sz=j:=by rw[Nat.mul_comm,Nat.mul_add_mod,Nat.mod_eq_of_lt hj]
   rw[e1,e2]
   exact hr i j d hi hd
  ·obtain⟨k,hk',rfl⟩:=ZEV hv
   obtain⟨h1,h2⟩:=hvals k _ (ZE5 hk')
   rw[h2]
   exact one _ _ (hk k h1).1 (hk k h1).2
  ·refine run_firstCells_some (P:=P) w2 sz n ⟨b,o,nO⟩ n cap vals (by simp[vals]) fun k v hv=>?_
   obtain⟨h1,h2⟩:=hvals k v hv
   have hadd:(⟨b,o,nO⟩:Addr).add k=⟨b,o+k,nO⟩:=W5 b o k
   rw[hadd]
   have h3:=hc (k / sz) (k % sz) (hk k h1).1 (hk k h1).2
   have e:o+k / sz*sz+k % sz=o+k:=by rw[Nat.add_assoc,Nat.mul_comm,Nat.div_add_mod]
   rw[e]at h3
   rw[h2,←h3]
   unfold World.cell?;simp only[hw2]
theorem Znn{g w sz n cap b vals row}(h:WP g w sz n vals row){cur T}(hb:w.heap[b]?=sO (.cells cur T (0,0)))(ht:cur.toList.take (n*sz)=vals)(hn:n≤cap)(hcap:cap*sz≤cur.size)(hp:g.prot b=n*sz)(hbig:cap≤big):Rep g w (.slice (sO ⟨b,0,nO⟩) n cap) (.sl (.tip b) n sz row):=by
 have hidx:∀i j,i<n→j<sz→i*sz+j<n*sz:=fun i j hi hj=>by
  have:=ZEW sz (show i+1≤n from hi)
  rw[ZE2,Nat.one_mul]at this;omega
 have hle:n*sz≤cur.size:=Nat.le_trans (ZEW sz hn) hcap
 have hcell:∀i j,i<n→j<sz→cur[i*sz+j]?=sO (cur.getD (i*sz+j) undef)∧vals[i*sz+j]?=sO (cur.getD (i*sz+j) undef):=fun i j hi hj=>by
  have h1:=hidx i j hi hj
  have h2:i*sz+j<cur.size:=by omega
  have e:cur[i*sz+j]?=sO (cur.getD (i*sz+j) undef):=by simp[Array.getD,h2]
  refine⟨e,?_⟩
  rw[←ht,ZFg,if_pos h1,Array.getElem?_toList];exact e
 refine .sl b 0 n cap sz row (.tip b) (fun i j=>cur.getD (i*sz+j) undef) h.rlen (fun i j hi hj=>?_) (fun i j hi hj=>?_) (fun i j d hi hd=>?_) (fun i j hi hj=>?_) ⟨rfl,rfl,T,cur.size,?_,hcap⟩ hn hbig
 ·rw[Zan hb,Nat.zero_add];exact(hcell i j hi hj).1
 ·rw[hp,Nat.zero_add];exact hidx i j hi hj
 ·have hj:j<sz:=by rw[←h.rlen i hi];exact(List.getElem?_eq_some_iff.1 hd).1
  exact h.rep i j _ d hi hj (hcell i j hi hj).2 hd
 ·exact h.one _ (List.mem_of_getElem? (hcell i j hi hj).2)
 ·simp[hdr,hb]
end
def St.own(s:St)(t:Tok)(k:Nat):St :=
 match t with
 |.tip b=>s.upd b (.tip k)
 |_=>s
def Tok.okIn(t:Tok)(s:St):Prop :=
 match t with
 |.tip b=>s b=Option.none
 |.full=>True
 |.none=>False
theorem Y0{s}{t:Tok}{k:Nat}(h:t.okIn s):s.sub (s.own t k):=by
 intro b o ho
 cases t with
 |tip c =>
  simp only[St.own,ZFc]
  by_cases hb:b=c
  ·subst hb;simp only[Tok.okIn]at h;rw[h]at ho;simp at ho
  ·simp only[hb,if_false];exact ho
 |_=>exact ho
theorem Yb.upd(h:Yb g s w){b:Nat}{o:W4}(ho:WD g w b o)(hk:¬g.kept b):Yb g (s.upd b o) w:={
 obj c x hx:=by
  simp only[ZFc]at hx
  by_cases hb:c=b
  ·simp only[hb,if_true,ZEz]at hx;subst hx;rw[hb];exact ho
  ·simp only[hb,if_false]at hx;exact h.obj c x hx
 kept c x hx:=by
  simp only[ZFc]at hx
  by_cases hb:c=b
  ·rw[hb];exact hk
  ·simp only[hb,if_false]at hx;exact h.kept c x hx
 fresh:=h.fresh
 tabs:=h.tabs }
def Zb1(g:G)(b k:Nat):G:={ g with prot:=fun c=>if c=b then k else g.prot c }
theorem ZxA(c:Array Value)(T:TypeId)(k:Nat)(hf:∀b,w.heap.size≤b→g.prot b=0∧¬g.kept b):JB g w (Zb1 g w.heap.size k) (w.drew.alloc (.cells c T)):={
 size:=by simp
 old b hb:=(by first|exact heap_alloc_old w.drew _ b hb|exact heap_alloc_old w.drew _ hb)
 prot b hb:=by simp[Zb1,show ¬b=w.heap.size by omega]
 fresh b hb:=by
  have:(w.drew.alloc (.cells c T)).heap.size=w.heap.size+1:=by simp
  rw[this]at hb
  simp only[Zb1,show ¬b=w.heap.size by omega,if_false]
  exact(hf b (by omega)).1
 kept:=rfl
 os:=rfl
 output:=rfl
 tape:=rfl }
theorem Rep.slRow{g w v t n sz row row'}(h:Rep g w v (.sl t n sz row))(hr:∀i,i<n→row' i=row i):Rep g w v (.sl t n sz row'):=by
 cases h with
 |sl0 a t s row ht=>exact .sl0 a t sz row' ht
 |sl b o n cap s row t f hl hc hp hrep one ht hcap hb =>
  exact .sl b o n cap sz row' t f (fun i hi=>by rw[hr i hi];exact hl i hi) hc hp (fun i j d hi hd=>hrep i j d hi (by rw[←hr i hi];exact hd)) one ht hcap hb
section
variable {P:Program}
theorem ZyG{sz k:Nat}{vals rest:List Value}{T:TypeId}{cap:Nat}(hs:Yb g s w)(hr:WP g w sz k vals row)(hn:k≤cap)(hrest:vals.length+rest.length=cap*sz)(hbig:cap≤big):
  let w':=w.drew.alloc (.cells (vals++rest).toArray T)
  let g':=Zb1 g w.heap.size (k*sz)
  JB g w g' w'∧Yb g' (s.own (.tip w.heap.size) (k*sz)) w'∧(Tok.tip w.heap.size).okIn s∧Rep g' w' (.slice (sO ⟨w.heap.size,0,nO⟩) k cap) (.sl (.tip w.heap.size) k sz row):=by
 intro w' g'
 have hg:JB g w g' w':=ZxA _ T _ hs.fresh
 have hnew:w'.heap[w.heap.size]?=sO (.cells (vals++rest).toArray T (0,0)):=heap_alloc_new w.drew _
 have hp:g'.prot w.heap.size=k*sz:=by simp[g',Zb1]
 have hle:k*sz≤(vals++rest).toArray.size:=by
  have:=ZEW sz hn
  simp only[List.size_toArray,ZEM];omega
 refine⟨hg,(hs.grow hg).upd ⟨hp,_,T,hnew,hle⟩ (fun h=>(hs.fresh _ (ZEP _)).2 h),?_,?_⟩
 ·simp only[Tok.okIn]
  cases hsb:s w.heap.size with
  |none=>rfl
  |some o=>have:=(hs.obj _ o hsb).lt;omega
 ·refine Znn (hr.mono (hg.ext hs.fresh)) hnew ?_ hn ?_ hp hbig
  ·rw[←hr.len];simp
  ·simp only[List.size_toArray,ZEM];omega
theorem ZqH{g w s t sz n m v1 v2 row row2 tT u ty e tu i z}(ht:P.underlying tT=sO (.slice e))(hu:P.underlying u=sO tu)(hnu:∀k,tu≠.int k)(hi:P.info? e=sO i)(hz:i.zero=sO z)(hsz:i.size=sz)(hzc:z.cells.size=sz)(h0:0<sz)(hs:Yb g (s.own t (n*sz)) w)(hok:t.okIn s)(h1:Rep g w v1 (.sl t n sz row)){news}(h2:WP g w sz m news row2)(h3:ZaX P w sz m v2 news)(hb:(n+m)*i.bytes≤140737488355328)(hbig:n+m≤big):
  ∃v' w' g' t',(Builtin.append_ #[tT,u] ty #[v1,v2]).run P w=.ok v' w'∧Ext g w g' w'∧Yb g' (s.own t' ((n+m)*sz)) w'∧t'.okIn s∧Rep g' w' v' (.sl t' (n+m) sz (YJ n row row2)) ∧
   (∀b,b<w.heap.size→t≠.tip b→w'.heap[b]?=w.heap[b]?∧g'.prot b=g.prot b)∧∀b,t'=.tip b→t=.tip b∨w.heap.size≤b:=by
 subst hsz
 have hs0:Yb g s w:=hs.sub (Y0 hok)
 obtain⟨olds,hr1,ho1,ho2⟩:=Zhs (P:=P) h1 h0
 have hrr:=hr1.append h2
 have grown:∀base cap,v1=.slice base n cap→cap<n+m→∃v' w' g' t',(Builtin.append_ #[tT,u] ty #[v1,v2]).run P w=.ok v' w'∧Ext g w g' w'∧Yb g' (s.own t' ((n+m)*i.size)) w'∧t'.okIn s ∧
   Rep g' w' v' (.sl t' (n+m) i.size (YJ n row row2))∧(∀b,b<w.heap.size→t≠.tip b→w'.heap[b]?=w.heap[b]?∧g'.prot b=g.prot b)∧∀b,t'=.tip b→t=.tip b∨w.heap.size≤b:=by
  intro base cap hv hlt
  subst hv
  have hrun:=Zlg (ty:=ty) ht hu hnu hi hz h3 ho2 hlt (by simp only[big]at hbig;omega) hb
  have hge:=grownCap_ge w (n+m) cap e
  have hle:=grownCap_le_maxLen w (n+m) cap e (by simp only[big]at hbig;simp only[maxLen];omega)
  have hn:=ZyG (T:=e) (rest:=(Builtin.zeroCells z.cells (grownCap w (n+m) cap e-(n+m))).toList) hs0 hrr hge (by
   simp only[Array.length_toList,size_zeroCells,hzc,hrr.len,←ZE2];congr 1;omega) (by simp only[maxLen]at hle;simp only[big];omega)
  obtain⟨a1,a2,a3,a4⟩:=hn
  exact⟨_,_,_,_,hrun,a1.ext hs0.fresh,a2,a3,a4,fun b hb _=>⟨a1.old b hb,a1.prot b hb⟩,fun b hb=>.inr (by simp only[Tok.tip.injEq]at hb;omega)⟩
 have stay:∀base cap,v1=.slice base n cap→m=0→n≤cap→∃v' w' g' t',(Builtin.append_ #[tT,u] ty #[v1,v2]).run P w=.ok v' w'∧Ext g w g' w'∧Yb g' (s.own t' ((n+m)*i.size)) w'∧t'.okIn s ∧
   Rep g' w' v' (.sl t' (n+m) i.size (YJ n row row2))∧(∀b,b<w.heap.size→t≠.tip b→w'.heap[b]?=w.heap[b]?∧g'.prot b=g.prot b)∧∀b,t'=.tip b→t=.tip b∨w.heap.size≤b:=by
  intro base cap hv hm hle
  subst hv;subst hm
  have hne:news=[]:=List.eq_nil_of_length_eq_zero (by simpa using h2.len)
  subst hne
  exact⟨_,_,g,t,ZoO (ty:=ty) ht hu hnu hi h3 hle,Ext.refl g w,hs,hok,h1.slRow fun i hi=>by simp only[YJ,if_pos (show i<n from hi)],fun _ _ _=>⟨rfl,rfl⟩,fun b hb=>.inl hb⟩
 cases h1 with
 |sl0 a t s row htt =>
  by_cases hm:m=0
  ·exact stay a 0 rfl hm (ZEP _)
  ·exact grown a 0 rfl (by omega)
 |sl b o n cap sz row t f hl hc hp hr one htok hcap hb' =>
  have hgr:=grown (sO ⟨b,o,nO⟩) cap rfl
  have hst:=stay (sO ⟨b,o,nO⟩) cap rfl
  by_cases hm:m=0
  ·exact hst hm hcap
  by_cases hroom:n+m≤cap
  case neg=>exact hgr (by omega)
  cases t with
  |none=>exact hok.elim
  |full=>simp only[ZjO]at htok;omega
  |tip tb =>
   obtain⟨rfl,rfl,T0,m0,hh,hm0⟩:=htok
   have hobj:=hs.obj b (.tip (n*i.size)) (by simp[St.own,ZFc])
   have hkept:=hs.kept b (.tip (n*i.size)) (by simp[St.own,ZFc])
   obtain⟨hp0,cur,T,hb1,hb2⟩:=hobj
   have hcs:cap*i.size≤cur.size:=by
    simp only[hdr,hb1,ZEz,ZEL]at hh
    omega
   have hfit:n*i.size+news.length≤cur.size:=by
    rw[h2.len,←ZE2];exact Nat.le_trans (ZEW _ hroom) hcs
   have hrun:=ZqI (ty:=ty) ht hu hnu hi h3 hb1 (fun v hv=>by rw[Zcv];exact h2.one v hv) hroom hfit
   have hcells:∀k v,(cur.toList.take (n*i.size))[k]?=sO v→w.cell? ((⟨b,0,nO⟩:Addr).add k)=sO v:=fun k v hv=>by
    rw[W5,Zan hb1,Nat.zero_add]
    rw[ZFg]at hv
    split at hv
    ·simpa using hv
    ·simp at hv
   have hol:olds=cur.toList.take (n*i.size):=by
    have h:=run_firstCells_some (P:=P) w i.size n ⟨b,0,nO⟩ n cap (cur.toList.take (n*i.size)) (by simp;omega) hcells
    rw[ho2 w rfl]at h
    simpa using h
   generalize hnw:cur.toList.take (n*i.size)++news++cur.toList.drop (n*i.size+news.length)=nw at hrun
   have hnl:nw.length=cur.size:=by
    rw[←hnw];simp only[ZEM,ZEU,ZFh,Array.length_toList];omega
   have hh':=setRow_heap w b cur nw.toArray T (0,0) hb1
   have ho':∀c,c≠b→(w.setRow b nw.toArray).heap[c]?=w.heap[c]?:=fun c hc=>setRow_other w b c _ hc
   have hsz':(w.setRow b nw.toArray).heap.size=w.heap.size:=by simp[World.setRow]
   have hk2:n*i.size≤(n+m)*i.size:=ZEW _ (by omega)
   have hext:Ext g w (Zb1 g b ((n+m)*i.size)) (w.setRow b nw.toArray):=by
    refine⟨by omega,fun c=>?_,fun c o ho=>?_,fun c x hx=>?_,fun c hc=>ho' c (fun h=>hkept (h▸hc)),fun c hc=>?_,rfl,rfl,rfl,rfl⟩
    ·simp only[Zb1]
     split
     ·rename_i h;rw[h,hp0];exact hk2
     ·exact ZEP _
    ·by_cases hc:c=b
     ·subst hc
      rw[Zan hh',Zan hb1]
      rw[hp0]at ho
      have:o<(cur.toList.take (n*i.size)).length:=by simp;omega
      rw[List.getElem?_toArray,←hnw,ZE9,ZE7 this,ZFg,if_pos ho]
      simp
     ·exact Jg (ho' c hc)
    ·by_cases hc:c=b
     ·subst hc
      simp only[hdr,hb1]at hx
      simp only[hdr,hh',List.size_toArray,hnl];exact hx
     ·rw[Za0 (ho' c hc)];exact hx
    ·simp only[Zb1]
     split
     ·rename_i h;exact absurd hc (h▸hkept)
     ·rfl
   have hp':(Zb1 g b ((n+m)*i.size)).prot b=(n+m)*i.size:=by simp[Zb1]
   refine⟨_,_,Zb1 g b ((n+m)*i.size),.tip b,hrun,hext,?_,hok,?_,fun c _ hc=>?_,fun c hc=>.inl hc⟩
   ·refine⟨fun c x hx=>?_,fun c x hx=>?_,fun c hc=>?_,fun n cs hc=>(hs0.tabs n cs hc).mono hext⟩
    ·by_cases hc:c=b
     ·subst hc
      simp only[St.own,ZFc,if_true,ZEz]at hx
      subst hx
      refine⟨hp',_,T,hh',?_⟩
      simp only[List.size_toArray,hnl]
      exact Nat.le_trans (ZEW _ hroom) hcs
     ·simp only[St.own,ZFc,hc,if_false]at hx
      exact(hs0.obj c x hx).mono hext (ho' c hc) (by simp[Zb1,hc])
    ·by_cases hc:c=b
     ·rw[hc];exact hkept
     ·simp only[St.own,ZFc,hc,if_false]at hx
      exact hs0.kept c x hx
    ·rw[hsz']at hc
     have hbl:b<w.heap.size:=(Array.getElem?_eq_some_iff.1 hb1).1
     simp only[Zb1,show ¬c=b by omega,if_false]
     exact hs0.fresh c hc
   ·refine Znn (hrr.mono hext) hh' ?_ hroom (by simp only[List.size_toArray,hnl];exact hcs) hp' hb'
    have hl2:(olds++news).length=(n+m)*i.size:=hrr.len
    rw[←hnw,hol,←hl2,hol]
    exact List.take_left
   ·have:c≠b:=fun h=>hc (by rw[h])
    exact⟨ho' c this,by simp[Zb1,this]⟩
end
end Go.DL
namespace Go.DL
open Go Go.Lib
variable [Zqy]
def Zaq(s:Nat):D→Option (Nat×(Nat→List D))
 |.nilsl=>sO (0,fun _=>[])
 |.sl _ m s' row=>if s'=s then sO (m,row) else nO
 |.str l=>if s=1 then sO (l.length,fun i=>[.int .u8 ((l.getD i 0).toNat:Int)]) else nO
 |_=>nO
def Zdf(s:Nat):D→Option (Tok×Nat×(Nat→List D))
 |.nilsl=>sO (.full,0,fun _=>[])
 |.sl t n s' row=>if s'=s then sO (t,n,row) else nO
 |_=>nO
theorem Zgh{g w v d sz n t row}(h:Rep g w v d)(he:Zdf sz d=sO (t,n,row)):Rep g w v (.sl t n sz row):=by
 cases d<;>simp only[Zdf,reduceCtorEq]at he
 ·simp only[ZEz,ZEL]at he
  obtain⟨rfl,rfl,rfl⟩:=he
  cases h
  exact .sl0 _ _ _ _ (by simp)
 ·split at he<;>simp only[ZEz,ZEL,reduceCtorEq]at he
  rename_i hs
  obtain⟨rfl,rfl,rfl⟩:=he
  subst hs;exact h
section
variable {P:Program}
theorem Zbv{op e s b z x y}(h:ck P op=sO (.append e s b z x y)) :
  ∃x' y' args ats t1 t2 tu,op=.call ⟨.builtin .append,args,ats⟩∧args.toList=[x',y']∧ats[0]?=sO t1∧ats[1]?=sO t2∧P.underlying t1=sO (.slice e)∧P.underlying t2=sO tu∧(∀k,tu≠.int k) ∧
   ZS P e=sO s∧Zae P e=sO z∧b=P.bytesOf e∧ZU x'=sO x∧ZU y'=sO y∧0<s∧z.length=s:=by
 unfold ck at h
 split at h
 ·simp at h
 ·split at h<;>(try(simp at h;done))
  all_goals (try(repeat' (split at h<;>(try(simp at h;done)))))
  all_goals
   simp only[ZEz,K.append.injEq]at h
   obtain⟨rfl,rfl,rfl,rfl,rfl,rfl⟩:=h
  ·rename_i c _ _ hcal _ _ _ e' x' y' h0 hargs _ _ _ _ s' z' l' c' hs' hz' hx' hy' t2 el h1 hdec
   obtain⟨t1,g1,g2⟩:=Option.bind_eq_some_iff.1 h0
   obtain⟨t3,g3,g4⟩:=Option.bind_eq_some_iff.1 h1
   simp only[ZEK,decide_eq_true_eq]at hdec
   obtain⟨callee,args,ats⟩:=c
   simp only at hcal
   subst hcal
   exact⟨x',y',args,ats,t1,t3,_,rfl,hargs,g1,g3,g2,g4,fun k h=>by simp at h,hs',hz',rfl,hx',hy',hdec.1,hdec.2⟩
  ·rename_i c _ _ hcal _ _ _ e' x' y' h0 hargs _ _ _ _ s' z' l' c' hs' hz' hx' hy' t2 h1 hdec
   obtain⟨t1,g1,g2⟩:=Option.bind_eq_some_iff.1 h0
   obtain⟨t3,g3,g4⟩:=Option.bind_eq_some_iff.1 h1
   simp only[ZEK,decide_eq_true_eq]at hdec
   obtain⟨callee,args,ats⟩:=c
   simp only at hcal
   subst hcal
   exact⟨x',y',args,ats,t1,t3,_,rfl,hargs,g1,g3,g2,g4,fun k h=>by simp at h,hs',hz',rfl,hx',hy',hdec.1,hdec.2⟩
theorem Zln{g w v d sz m row}(h:Rep g w v d)(he:Zaq sz d=sO (m,row))(h0:0<sz):∃news,WP g w sz m news row∧ZaX P w sz m v news:=by
 cases d with
 |nilsl =>
  simp only[Zaq,ZEz,ZEL]at he
  obtain⟨rfl,rfl⟩:=he
  cases h
  exact⟨[],⟨by simp,fun i hi=>by omega,fun i j v d hi=>by omega,by simp⟩,fun w2=>by simp[Builtin.lenOf],fun w2 _=>by simp[Builtin.firstCells]⟩
 |sl t n s' row' =>
  simp only[Zaq]at he
  split at he<;>simp only[ZEz,ZEL,reduceCtorEq]at he
  rename_i hs
  obtain⟨rfl,rfl⟩:=he
  subst hs
  exact Zhs h h0
 |str l =>
  simp only[Zaq]at he
  split at he<;>simp only[ZEz,ZEL,reduceCtorEq]at he
  rename_i hs
  obtain⟨rfl,rfl⟩:=he
  subst hs
  cases h with
  |str s _ hl hb =>
   subst hl
   have hsz:s.size=s.data.toList.length:=by rw[Array.length_toList];rfl
   refine⟨strCells s,⟨by simp[strCells],fun i hi=>rfl,fun i j v d hi hj hv hd=>?_,fun v hv=>by rw[←Zcv];exact strCells_oneCell s v hv⟩,fun w2=>by simp only[Builtin.lenOf,Sem.run_pure,hsz],fun w2 _=>?_⟩
   ·obtain rfl:j=0:=by omega
    simp only[Nat.mul_one,Nat.add_zero,strCells,List.getElem?_map,ZEN]at hv
    obtain⟨b,hb1,rfl⟩:=hv
    simp only[List.getElem?_cons_zero,ZEz]at hd
    subst hd
    have:s.data.toList.getD i 0=b:=by simp only[ZES,hb1,ZFe]
    rw[this]
    exact .int .u8 _ (Zrp b)
   ·rw[←hsz];exact run_firstCells_string w2 1 s
 |_=>simp[Zaq]at he
theorem Zvs{F:Fr P}{kp dk o os ρ L s}(hg:Zk ρ o.guard=sO true){e sz b z x y}(hk:o.k=.append e sz b z x y)
  {p q t n m row row2 dy dx} (hx:ZC ρ true x=sO (p,.d dx)) (hsl:Zdf sz dx=sO (t,n,row)) (hy:ZC ρ true y=sO (q,.d dy)) (hp:p) (hq:q) (hel:Zaq sz dy=sO (m,row2)) (hok:t.okIn s)
  (hb:(n+m)*b≤140737488355328) (hbig:n+m≤big) (h:∀t':Tok,t'.okIn s→DO F kp dk os (Zv ρ o.dst (.d (.sl t' (n+m) sz (YJ n row row2)))) L (s.own t' ((n+m)*sz))) :
  DO F kp dk (o::os) ρ L (s.own t (n*sz)):=by
 refine Wa fun oo g ν w tmps ops i r k hoo hck hcg hdst hd hN M hr hkk=>?_
 have hw:=Z8 M hcg hg
 have hnd:=Yc hck (by rw[hk];rfl)
 rw[hk]at hck
 obtain⟨x',y',args,ats,t1,t2,tu,hop,hargs,ha1,ha2,hu1,hu2,hnu,hsz,hz,hbb,hx',hy',h0,hzl⟩:=Zbv hck
 subst hbb
 have hr1:Rep g w _ (.sl t n sz row):=Zgh (Z3 M hx' rfl hx hp F.ds) hsl
 have hr2:Rep g w _ _:=Z3 M hy' rfl hy hq F.ds
 obtain⟨zv,hz1,hz2,hz3,ie,hie,hzz⟩:=QJ (g:=g) (w:=w) hz
 have hsize:ie.size=sz:=by simpa[ZS,hie]using hsz
 have hzlen:zv.cells.size=sz:=by have:=hz2.len;simp at this;omega
 have hby:P.bytesOf e=ie.bytes:=by simp[Program.bytesOf,hie]
 rw[hby]at hb
 obtain⟨news,hn1,hn2⟩:=Zln (P:=P) hr2 hel h0
 obtain⟨v',w',g',t',a1,a2,a3,a4,a5,a6,a7⟩:=ZqH (ty:=oo.type) hu1 hu2 hnu hie hzz hsize hzlen h0 M.st hok hr1 hn1 hn2 hb hbig
 have hne:∀l cs,Zf L l=sO cs→t≠.tip (ν l):=fun l cs hl ht=>by
  have:=M.locSt l cs hl
  rw[ht]at this
  simp[St.own,ZFc]at this
 have hsn:∀l cs,Zf L l=sO cs→s (ν l)=nO:=fun l cs hl=>by
  cases hx:s (ν l) with
  |none=>rfl
  |some o=>have:=Y0 (k:=n*sz) hok _ _ hx;rw[M.locSt l cs hl]at this;simp at this
 have mm:Zt g' ν w' tmps ρ L (s.own t' ((n+m)*sz)):=by
  refine⟨a3,fun l cs hl=>(M.loc l cs hl).mono a2 (a6 (ν l) (M.loc l cs hl).lt (hne l cs hl)).1 (a6 (ν l) (M.loc l cs hl).lt (hne l cs hl)).2,fun l cs hl=>by rw[a2.keptEq];exact M.locKept l cs hl,fun l cs hl=>?_,M.inj,fun t e he=>(M.env t e he).mono a2⟩
  cases t' with
  |tip b =>
   have:¬ν l=b:=fun hb=>by
    rcases a7 b rfl with h1|h1
    ·exact hne l cs hl (by rw[hb];exact h1)
    ·have:=(M.loc l cs hl).lt;omega
   simp only[St.own,ZFc,this,if_false];exact hsn l cs hl
  |_=>exact hsn l cs hl
 refine YD hN hoo hdst hd hw hnd (v:=v') (w':=w') (e:=.d (.sl t' (n+m) sz (YJ n row row2))) ?_ a2 mm a5 (h t' a4 ops r k hr hkk)
 have hae:args = #[x',y']:=by apply Array.ext';simpa using hargs
 have hats:∀vs,Builtin.append_ ats oo.type vs=Builtin.append_ #[t1,t2] oo.type vs:=fun vs=>by
  unfold Builtin.append_;simp[ha1,ha2]
 unfold execOp
 simp only[hop,hae,resolve,invoke,builtin,Sem.run_bind,Sem.run_pure,Result.andThen_ok,List.map_toArray,ZEQ,ZE6,hats,a1]
end
end Go.DL
namespace Go.DL
open Go
variable [Zqy]
variable {kp:Option (List Nat)}{L:Loc}{ρ:Env}{s:St}{w:World}{os:List DOp}{ds:List D}{B:List (Nat × Rd)}{dst:Option Nat}{tmps:Array Value}{g:G}{Φ:Res→St→Prop}{ν:Nat→Nat}{xs:List Opd}{side:Prop}{row:Nat→List D}
def Zvi(os:List DOp):List (DOp×List Nat):=os.map fun o=>(o,[])
section
variable {P:Program}
def JZ(F:Fr P)(kp:Option (List Nat))(dk:List WL)(os:List DOp)(ρ:Env)(L:Loc)(s:St):Prop:=∀B,DOA F kp dk (Zvi os) ρ L s B
theorem ZtV{F:Fr P}{order os ks dk ρ L s}(h:JZ F ks dk os ρ L s):Zs F (.code (.regD order (Zvi os) ks)::dk) ρ L s:=Zh7 (h [])
theorem Y9{F:Fr P}{ks dk}:∀{os ρ L s},
  Zir (fun ρ L s=>Zs F dk (Yh ρ ks) (ZaF (Yh ρ ks) L) s) (fun os ρ L s=>JZ F (sO ks) dk os ρ L s) os ρ L s→JZ F (sO ks) dk os ρ L s
 | [],ρ,L,s,h=>fun B=>ZnL h
 |o::os,ρ,L,s,h=>by
  intro B
  simp only[Zir]at h
  split at h
  ·rename_i sd ρ' L' s' hst
   refine QY hst h.1 ?_
   split
   ·exact Y9 h.2 _
   ·exact⟨ZbX,Y9 h.2 _⟩
  ·rename_i sd pre ρ' s' hst
   exact ZnK hst h.1 fun b hb=>⟨ZbX,Y9 (h.2 b hb) _⟩
  ·exact h B
theorem ZtP{F:Fr P}{kp dk o os ρ L s}(hg:Zk ρ o.guard=sO true){fx xs}(hk:o.k=.call fx xs){p q fd es ds}(hf:ZC ρ true fx=sO (q,.d fd))(ha:Z2 ρ true xs=sO (p,es))(hds:W6 es=sO ds)(hp:p)(hq:q){Ψ}(hc:WV P fd ds s Ψ)(hret:∀d s',Ψ (.ret d) s'→JZ F kp dk os (Zv ρ o.dst (.d d)) L s')(hpan:∀d s',Ψ (.panic d) s'→YN F [] [] d s'):JZ F kp dk (o::os) ρ L s :=
 fun B=>ZcS hg hk hf ha hds hp hq hc (fun d s' h=>⟨ZbX,hret d s' h _⟩) hpan
theorem Zvo{F:Fr P}{kp dk o os ρ L s}(hg:Zk ρ o.guard=sO true){fx xs}(hk:o.k=.call fx xs){p q fi first caps es ds}(hf:ZC ρ true fx=sO (q,.d (.fn (.func fi) first caps)))(ha:Z2 ρ true xs=sO (p,es))(hds:W6 es=sO ds)(hp:p)(hq:q){Ψ}(hc:Zb P fi (first++ds++caps) s Ψ)(hret:∀d s',Ψ (.ret d) s'→JZ F kp dk os (Zv ρ o.dst (.d d)) L s')(hpan:∀d s',Ψ (.panic d) s'→YN F [] [] d s'):JZ F kp dk (o::os) ρ L s :=
 ZtP hg hk hf ha hds hp hq hc.V hret hpan
theorem ZtN{F:Fr P}{kp dk o os ρ L s}(hg:Zk ρ o.guard=sO true){x}(hk:o.k=.panic x){p t d}(ha:ZC ρ true x=sO (p,.d (.iface t d)))(hp:p)(h:YN F [] [] (.iface t d) s):JZ F kp dk (o::os) ρ L s:=fun _=>ZoH hg hk ha hp h
theorem ZtO{F:Fr P}{kp dk o os ρ L s}(hg:Zk ρ o.guard=sO true){fx xs}(hk:o.k=.call fx xs){p q fi first caps es ds}(hf:ZC ρ true fx=sO (q,.d (.fn (.func fi) first caps)))(ha:Z2 ρ true xs=sO (p,es))(hds:W6 es=sO ds)(hp:p)(hq:q){d}(hc:Ze P fi (first++ds++caps) d)(h:JZ F kp dk os (Zv ρ o.dst (.d d)) L s):JZ F kp dk (o::os) ρ L s:=fun _=>Zh4 hg hk hf ha hds hp hq hc (h _)
end
def QI(l b:Nat):E→E
 |.d v=>.d v
 |.loc l' off=>if l'=l then .d (.ptr b off) else .loc l' off
 |.when c e=>.when c (QI l b e)
def Jv(l b:Nat):Env→Env
 | []=>[]
 | (t,e)::r=>(t,QI l b e)::Jv l b r
def delL(l:Nat):Loc→Loc
 | []=>[]
 | (k,c)::r=>if k=l then delL l r else (k,c)::delL l r
theorem ZcH(l b):∀(ρ t),ZH (Jv l b ρ) t=(ZH ρ t).map (QI l b)
 | [],t=>rfl
 | (k,e)::r,t=>by
  simp only[Jv,ZH]
  by_cases h:k=t
  ·simp[h]
  ·simp only[h,if_false];exact ZcH l b r t
theorem Zcp(l):∀(L x),Zf (delL l L) x=if x=l then nO else Zf L x
 | [],x=>by simp[delL,Zf]
 | (k,c)::r,x=>by
  simp only[delL]
  by_cases h:k=l
  ·simp only[h,if_true,Zf,Zcp l r x]
   by_cases hx:x=l
   ·simp[hx]
   ·simp[hx,show ¬l=x from fun h=>hx h.symm]
  ·simp only[h,if_false,Zf,Zcp l r x]
   by_cases hx:x=l
   ·subst hx;simp[h]
   ·simp[hx]
section
variable {P:Program}
theorem ZI.expose{g ν w L l v e}(h:ZI g ν w L v e):ZI g ν w (delL l L) v (QI l (ν l) e):=by
 induction e with
 |d x=>exact h
 |loc l' off =>
  obtain⟨⟨cs,hcs⟩,rfl⟩:=h
  simp only[QI]
  split
  ·rename_i hl;subst hl;exact Rep.ptr _ _
  ·rename_i hl;exact⟨⟨cs,by rw[Zcp,if_neg hl];exact hcs⟩,rfl⟩
 |when c e ih=>exact⟨fun hc=>ih (h.1 hc),h.2⟩
theorem Zt.expose{g ν w tmps ρ L s}(m:Zt g ν w tmps ρ L s){l cs}(hl:Zf L l=sO cs):
  s (ν l)=nO∧Zt g ν w tmps (Jv l (ν l) ρ) (delL l L) (s.upd (ν l) (.cells cs)):=by
 have hsub:∀l' cs',Zf (delL l L) l'=sO cs'→l'≠l∧Zf L l'=sO cs':=fun l' cs' h=>by
  rw[Zcp]at h
  split at h
  ·simp at h
  ·exact⟨‹_›,h⟩
 refine⟨m.locSt l cs hl,⟨m.st.updL (o:=.cells cs) (m.loc l cs hl) (m.locKept l cs hl),fun l' cs' h=>m.loc l' cs' (hsub l' cs' h).2,fun l' cs' h=>m.locKept l' cs' (hsub l' cs' h).2,fun l' cs' h=>?_,fun a b ca cb ha hb hab=>m.inj a b ca cb (hsub a ca ha).2 (hsub b cb hb).2 hab,fun t e he=>?_⟩⟩
 ·obtain⟨h1,h2⟩:=hsub l' cs' h
  have:ν l'≠ν l:=fun hh=>h1 (m.inj l' l cs' cs h2 hl hh)
  simp only[ZFc,this,if_false];exact m.locSt l' cs' h2
 ·rw[ZcH]at he
  simp only[ZEN]at he
  obtain⟨e0,h1,rfl⟩:=he
  exact(m.env t e0 h1).expose
theorem ZcD{F:Fr P}{dk}{ρ}{L}{s}(l){cs}(hl:Zf L l=sO cs)(h:∀b,s b=nO→Zs F dk (Jv l b ρ) (delL l L) (s.upd b (.cells cs))):Zs F dk ρ L s:=by
 intro k hk g ν w tmps hN m
 obtain⟨h1,h2⟩:=m.expose hl
 exact h (ν l) h1 k hk g ν w tmps hN h2
def YZ:List Nat→List D→Env→Env
 |t::ts,a::as9,ρ=>YZ ts as9 ((t,.d a)::ρ)
 |_,_,ρ=>ρ
def Zi3(P:Program)(c:Frame)(cs:List Frame)(Φ:Res→St→Prop):ZtY P where
 T g w m:=∃e w',Zgd g w Φ e w'∧ZzK P m c cs e w'
 back g w m m' hs h:=by
  obtain⟨e,w',a,b⟩:=h
  refine⟨e,w',a,?_⟩
  cases e with
  |returned v=>exact Steps.trans hs b
  |panicked ch=>exact Steps.trans hs b
  |outgrown=>exact b.elim
 ext g w g' w' m hx h:=by
  obtain⟨e,w2,⟨g2,s2,r,d1,d2,d3,d4⟩,b⟩:=h
  exact⟨e,w2,⟨g2,s2,r,hx.trans d1,d2,d3,d4⟩,b⟩
def ZaL(P:Program)(an:Ann)(fn:FuncId)(N l:Nat)(c:Frame)(cs:List Frame)(Φ:Res→St→Prop):Fr P where
 T:=Zi3 P c cs Φ
 b:={ (dE:Frame) with fn,kind:=.normal,roundOf:=sO l }
 cs:=c::cs
 N:=N
 ds:=[]
 an:=an
def KL(F:Fr P)(l:Nat)(Φ:Res→St→Prop):Prop:=∃an fn N c cs,F=ZaL P an fn N l c cs Φ
theorem QT{w r o}(hb:w.heap[r]?=sO (.loop o)):(getObj r).run P w=.ok (.loop o) w:=by
 simp[getObj,Sem.run,hb]
theorem Zb7{w r o o'}(hb:w.heap[r]?=sO (.loop o')):(setObj r o).run P w=.ok () { w with heap:=w.heap.setIfInBounds r o }:=by
 simp[setObj,Sem.run,hb]
theorem ZAD{b o'}(o)(hb:w.heap[b]?=sO o'):({ w with heap:=w.heap.setIfInBounds b o }:World).heap[b]?=sO o:=by
 have:=(Array.getElem?_eq_some_iff.1 hb).1
 simp[Array.getElem?_setIfInBounds,this]
theorem Zt.loopTo{g ν w tmps ρ L s}(m:Zt g ν w tmps ρ L s){l r st st'}(hs:s l=sO (.loop r st)){lp}(hh:w.heap[l]?=sO (.loop lp))(lp')(h1:lp'.fn=lp.fn∧lp'.params=lp.params∧lp'.assign=lp.assign∧lp'.body=lp.body∧lp'.defers=lp.defers∧lp'.tmps=lp.tmps)(h2:match st' with|.ready=>lp'.state=.ready∧lp'.pending=nO|.busy=>lp'.state=.busy|.done j=>lp'.state=.done∧lp'.pending=sO j):
  Ext g w g { w with heap:=w.heap.setIfInBounds l (.loop lp') }∧Zt g ν { w with heap:=w.heap.setIfInBounds l (.loop lp') } tmps ρ L (s.upd l (.loop r st')):=by
 obtain⟨hp,l0,a1,a2,a3,a4,a5,a6,a7,a8,a9⟩:=m.st.obj l _ hs
 rw[hh]at a1
 simp only[ZEz,Obj.loop.injEq]at a1
 subst a1
 obtain⟨b1,b2,b3,b4,b5,b6⟩:=h1
 have he:=ZbS (g:=g) (w:=w) l (.loop lp') (by simp[hdr,hh]) hp (m.st.kept l _ hs)
 refine⟨he,m.named hs he (by simp) (fun c hc=>Jq _ hc) ⟨hp,lp',ZAD _ hh,by rw[b1,a2],by rw[b2,a3],by rw[b3,a4],by rw[b4,a5],by rw[b5,a6],by rw[b6];exact a7,fun t e ht=>by rw[b6];exact(a8 t e ht).mono he,h2⟩⟩
theorem KL.begin{F:Fr P}{l Φ}(hF:KL F l Φ){dk ρ L s r}(hs:s l=sO (.loop r .ready))(h:Zs F dk ρ L (s.upd l (.loop r .busy))):Zs F (.beginR::dk) ρ L s:=by
 obtain⟨an,fn,N,c,cs,rfl⟩:=hF
 intro k hk
 cases hk with
 |beginR ht =>
  intro g ν w tmps hN m
  obtain⟨hp,l0,a1,a2,a3,a4,a5,a6,a7,a8,a9,a10⟩:=m.st.obj l _ hs
  obtain⟨he,m'⟩:=m.loopTo (st':=.busy) hs a1 { l0 with state:=.busy } ⟨rfl,rfl,rfl,rfl,rfl,rfl⟩ rfl
  have hrun:(Instr.beginRound l).run P w=.ok () { w with heap:=w.heap.setIfInBounds l (.loop { l0 with state:=.busy }) }:=by
   simp[Instr.beginRound,Instr.getLoop,QT a1,Zb7 a1,a9]
  refine(Zi3 P c cs Φ).back _ _ _ _ (.one (stepR_beginRound rfl hrun)) ?_
  exact(Zi3 P c cs Φ).ext _ _ _ _ _ he (h _ ht g ν _ tmps hN m')
theorem Zep{w l l0}(h:w.heap[l]?=sO (.loop l0))(j):
  (Instr.endRound l j).run P w=.ok (.bool j.isNone) { w with heap:=w.heap.setIfInBounds l (.loop { l0 with state:=if j.isNone then .ready else .done,pending:=j }) }:=by
 simp[Instr.endRound,Instr.getLoop,QT h,Zb7 h]
theorem KL.fin{F:Fr P}{l Φ}(hF:KL F l Φ){ρ L s s' r}(hs:s l=sO (.loop r .busy))(hsub:s'.sub (s.upd l (.loop r .ready)))(hΦ:Φ (.ret (.bool true)) s'):Zs F [] ρ L s:=by
 obtain⟨an,fn,N,c,cs,rfl⟩:=hF
 intro k hk
 cases hk
 intro g ν w tmps hN m
 obtain⟨hp,l0,a1,_⟩:=m.st.obj l _ hs
 obtain⟨he,m'⟩:=m.loopTo (st':=.ready) hs a1 { l0 with state:=.ready,pending:=nO } ⟨rfl,rfl,rfl,rfl,rfl,rfl⟩ ⟨rfl,rfl⟩
 exact⟨.returned (.bool true),_,⟨g,s',.ret (.bool true),he,m'.st.sub hsub,.bool true,hΦ⟩,.one (stepR_round_end rfl rfl (Zep a1 nO))⟩
theorem KL.ret{F:Fr P}{l Φ}(hF:KL F l Φ){dk ρ L s s' r}(hs:s l=sO (.loop r .busy))(hsub:s'.sub (s.upd l (.loop r (.done .ret))))(hΦ:Φ (.ret (.bool false)) s'):
  Zs F (.code .ret::dk) ρ L s:=by
 obtain⟨an,fn,N,c,cs,rfl⟩:=hF
 intro k hk
 cases hk with
 |code hc ht =>
  obtain rfl:=ZqQ hc
  intro g ν w tmps hN m
  obtain⟨hp,l0,a1,_⟩:=m.st.obj l _ hs
  obtain⟨he,m'⟩:=m.loopTo (st':=.done .ret) hs a1 { l0 with state:=.done,pending:=sO .ret } ⟨rfl,rfl,rfl,rfl,rfl,rfl⟩ ⟨rfl,rfl⟩
  exact⟨.returned (.bool false),_,⟨g,s',.ret (.bool false),he,m'.st.sub hsub,.bool false,hΦ⟩,.one (stepR_round_ret rfl rfl (Zep a1 (sO .ret)))⟩
theorem KL.exit{F:Fr P}{l id Φ}(hF:KL F l Φ){dk ρ L s s' r}(hx:Qw id dk=nO)(hs:s l=sO (.loop r .busy))(hsub:s'.sub (s.upd l (.loop r (.done (.exit id)))))(hΦ:Φ (.ret (.bool false)) s'):Zs F (.code (.exit id)::dk) ρ L s:=by
 obtain⟨an,fn,N,c,cs,rfl⟩:=hF
 intro k hk
 cases hk with
 |code hc ht =>
  obtain rfl:=Ztd hc
  intro g ν w tmps hN m
  obtain⟨hp,l0,a1,_⟩:=m.st.obj l _ hs
  obtain⟨he,m'⟩:=m.loopTo (st':=.done (.exit id)) hs a1 { l0 with state:=.done,pending:=sO (.exit id) } ⟨rfl,rfl,rfl,rfl,rfl,rfl⟩ ⟨rfl,rfl⟩
  exact⟨.returned (.bool false),_,⟨g,s',.ret (.bool false),he,m'.st.sub hsub,.bool false,hΦ⟩,.one (stepR_round_exit rfl rfl (ZaE ht hx) (Zep a1 (sO (.exit id))))⟩
theorem KL.pan{F l Φ}(hF:KL F l Φ){ρ L d s s'}(hsub:s'.sub s)(hΦ:Φ (.panic d) s')(hfn:∀an fn N c cs,F=ZaL P an fn N l c cs Φ→∃f,P.funcs[fn]?=sO f):YN F ρ L d s:=by
 obtain⟨an,fn,N,c,cs,rfl⟩:=hF
 intro g ν w v todo tmps hN m hr
 obtain⟨f,hf⟩:=hfn an fn N c cs rfl
 refine⟨.panicked [{ v,recovered:=false }],w,⟨g,s',.panic d,Ext.refl g w,m.st.sub hsub,⟨v,rfl,hr⟩,hΦ⟩,.one ?_⟩
 exact step_leave_panicked (P:=P) (fr:={ (ZaL P an fn N l c cs Φ).b.atR ⟨tmps,[]⟩ todo with mode:=.panicking [{ v,recovered:=false }] }) ⟨rfl,rfl,f,hf⟩
theorem Zho{g ν w L s N}:∀{ps ds vs tmps ρ},Zt g ν w tmps ρ L s→ZG (Rep g w) vs ds→ds.length=ps.length→(∀t∈ps,t<N)→N≤tmps.size →
  N≤((ps.zip vs).foldl (fun tmps (x:Nat×Value)=>tmps.setIfInBounds x.1 x.2) tmps).size∧Zt g ν w ((ps.zip vs).foldl (fun tmps (x:Nat×Value)=>tmps.setIfInBounds x.1 x.2) tmps) (YZ ps ds ρ) L s
 | [],_,_,tmps,ρ,m,_,_,_,hN=>by simpa[YZ]using⟨hN,m⟩
 |t::ps,[],_,tmps,ρ,m,_,hl,_,_=>by simp at hl
 |t::ps,d::ds,v::vs,tmps,ρ,m,.cons h1 h2,hl,hp,hN=>by
  have m':=m.put (t:=t) (v:=v) (e:=.d d) (by have:=hp t (by simp);omega) h1
  simpa[YZ]using Zho m' h2 (by simpa using hl) (fun u hu=>hp u (by simp[hu])) (by simpa using hN)
def KO:Env→Env
 | []=>[]
 | (t,e)::r=>if (WE e).isEmpty then (t,e)::KO r else KO r
def Wc(ks:List Nat)(ρ:Env):Env:=KO (Yh ρ ks)
theorem ZdD:∀{ρ t e},(ρ.map (·.1)).Nodup→ZH (KO ρ) t=sO e→ZH ρ t=sO e∧WE e=[]
 | [],t,e,_,h=>by simp[KO,ZH]at h
 | (k,x)::r,t,e,hn,h=>by
  simp only[ZEQ,List.nodup_cons]at hn
  simp only[KO]at h
  split at h
  ·rename_i hx
   simp only[ZH]at h⊢
   by_cases hk:k=t
   ·simp only[hk,if_true,ZEz]at h⊢;subst h;exact⟨rfl,by simpa using hx⟩
   ·simp only[hk,if_false]at h⊢;exact ZdD hn.2 h
  ·obtain⟨h1,h2⟩:=ZdD hn.2 h
   refine⟨?_,h2⟩
   have hkt:k≠t:=fun hk=>by
    subst hk
    have:=ZfX h1
    exact hn.1 (List.mem_map.2 ⟨_,this,rfl⟩)
   simp only[ZH,hkt,if_false];exact h1
theorem Zm3{g ν ν' w L L' v e}(h:ZI g ν w L v e)(hl:WE e=[]):ZI g ν' w L' v e:=by
 induction e with
 |d x=>exact h
 |loc l o=>simp[WE]at hl
 |when c e ih=>exact⟨fun hc=>ih (h.1 hc) hl,h.2⟩
def Fr.mark(F:Fr P)(q:Nat):Fr P:={ F with ds:=DD.def (.mark q)::F.ds }
theorem ZgF{b:Frame}{a k cs w g ps assign body l mark w₁ d nx fr}(he:(Instr.enterLoop b.fn a.tmps ps assign body b.roundOf).run P w=.ok (l,mark) w₁)(hres:(Deferred.ofValue (a.eval g) #[.func (.yield l) #[] #[]]).run P w₁=.ok d w₁)(hinv:(invoke d.target d.args).run P w₁=.ok nx w₁)(hnx:Zfp P nx=sO fr):
  step P (lone (b.atR a (.code (.rangeFunc g ps assign body)::k)) cs w) =
   .next (lone fr (b.atR { a with defers:=mark++a.defers } (.inRangeFunc l::k)::cs) w₁) :=
 step_lone_go (by
  have hev:=Frame.eval_atR b { a with defers:=mark++a.defers } (.inRangeFunc l::k)
  simp only[Frame.atR]at hev
  have hres':Sem.run P (resolve ({ tmps:=a.tmps,defers:=mark++a.defers }:Act).eval { callee:=.value g,args:=#[.const (.func (.yield l) #[] #[])],argTypes:=#[] } 0) w₁=.ok d w₁:=by
   simp only[resolve]
   have e1:({ tmps:=a.tmps,defers:=mark++a.defers }:Act).eval g=a.eval g:=by cases g<;>rfl
   have e2:Array.map ({ tmps:=a.tmps,defers:=mark++a.defers }:Act).eval #[Operand.const (Value.func (Fn.yield l) #[] #[])] = #[.func (.yield l) #[] #[]]:=by simp[Act.eval]
   rw[e1,e2];exact hres
  cases nx<;>simp only[Zfp,ZEz,reduceCtorEq]at hnx<;>subst hnx <;>
   simp[stepG,stepG.exec,Frame.atR,Sem.runT_eq,he,GStep.bare_after,stepG.apply,hev,Sem.run_bind,hres',hinv,Result.andThen])
def Zib(F:Fr P)(l:Nat)(r:Zbt)(dk:List WL)(ρ:Env)(L:Loc)(s':St):Prop :=
 (s' l=sO (.loop r .ready)∧Zs F dk ρ L (s'.del l))∨∃j dj,s' l=sO (.loop r (.done j))∧cc P F.an F.N j=sO dj∧Zs F (.code dj::dk) ρ L (s'.del l)
theorem ZkC{w l l0}(h:w.heap[l]?=sO (.loop l0))(hb:l0.state≠.busy):
  (Instr.endLoop l).run P w=.ok l0.pending { w with heap:=w.heap.setIfInBounds l (.loop { l0 with state:=.exhausted }) }:=by
 have:(l0.state==.busy)=false:=by
  cases hs:l0.state<;>first|rfl|exact absurd hs hb
 simp[Instr.endLoop,Instr.getLoop,QT h,Zb7 h,hb]
theorem Zm1{F:Fr P}{l r dk k ρ L g ν w tmps s'}(hk:Wv P F.an F.N k dk)(hN:F.N≤tmps.size)(m:Zt g ν w tmps ρ L s')(h:Zib F l r dk ρ L s'):F.T.T g w (lone (F.b.atR ⟨tmps,F.ds⟩ (.endRangeFunc l::k)) F.cs w):=by
 rcases h with ⟨hs,h⟩|⟨j,dj,hs,hj,h⟩
 ·obtain⟨hp,l0,a1,a2,a3,a4,a5,a6,a7,a8,a9,a10⟩:=m.st.obj l _ hs
  have he:=ZbS (g:=g) (w:=w) l (.loop { l0 with state:=.exhausted }) (by simp[hdr,a1]) hp (m.st.kept l _ hs)
  have m':=m.drop hs he (by simp) (fun c hc=>Jq _ hc)
  have hrun:(Instr.endLoop l).run P w=.ok nO { w with heap:=w.heap.setIfInBounds l (.loop { l0 with state:=.exhausted }) }:=by rw[ZkC a1 (by rw[a9];simp)];simp[a10]
  refine F.T.back _ _ _ _ (.one (stepR_endRangeFunc hrun)) ?_
  exact F.T.ext _ _ _ _ _ he (h k hk g ν _ tmps hN m')
 ·obtain⟨hp,l0,a1,a2,a3,a4,a5,a6,a7,a8,a9,a10⟩:=m.st.obj l _ hs
  have he:=ZbS (g:=g) (w:=w) l (.loop { l0 with state:=.exhausted }) (by simp[hdr,a1]) hp (m.st.kept l _ hs)
  have m':=m.drop hs he (by simp) (fun c hc=>Jq _ hc)
  have hrun:(Instr.endLoop l).run P w=.ok (sO j) { w with heap:=w.heap.setIfInBounds l (.loop { l0 with state:=.exhausted }) }:=by rw[ZkC a1 (by rw[a9];simp)];simp[a10]
  refine F.T.back _ _ _ _ (.one (stepR_endRangeFunc hrun)) ?_
  exact F.T.ext _ _ _ _ _ he (h _ (.code hj hk) g ν _ tmps hN m')
theorem Yy.mark{F:Fr P}{rs Φ dds}(hF:Yy F rs Φ dds)(q):Yy (F.mark q) rs Φ (.mark q::dds):=by
 obtain⟨an,f,df,cs,hf,hrs,rfl⟩:=hF
 exact⟨an,f,df,cs,hf,hrs,rfl⟩
theorem Yy.roundOf{F:Fr P}{rs Φ dds}(hF:Yy F rs Φ dds):F.b.roundOf=nO:=by
 obtain⟨an,f,df,cs,hf,hrs,rfl⟩:=hF
 rfl
end
section
variable {P:Program}
theorem ZvF{op f xs}(h:ck P op=sO (.defer f xs)):∃f' args ats,op=.defer ⟨.value f',args,ats⟩∧ZU f'=sO f∧ZbQ args.toList=sO xs:=by
 unfold ck at h
 split at h
 ·simp at h
 ·split at h<;>(try(simp at h;done))
  all_goals (try(repeat' (split at h<;>(try(simp at h;done)))))
  simp at h
  obtain⟨rfl,rfl⟩:=h
  rename_i c _ _ f' hcal _ _ f xs hf hxs
  obtain⟨callee,args,ats⟩:=c
  simp only at hcal
  exact⟨f',args,ats,by rw[hcal],hf,hxs⟩
def Fr.defer(F:Fr P)(i:FuncId)(args caps:List D):Fr P:={ F with ds:=DD.def (.fn i args caps)::F.ds }
theorem Yy.defer{F:Fr P}{rs Φ dds}(hF:Yy F rs Φ dds)(i args caps):Yy (F.defer i args caps) rs Φ (.fn i args caps::dds):=by
 obtain⟨an,f,df,cs,hf,hrs,rfl⟩:=hF
 exact⟨an,f,df,cs,hf,hrs,rfl⟩
theorem Zk5{F:Fr P}(hround:F.b.roundOf=nO){kp dk o os ρ L s}(hg:o.guard=nO)(hdn:o.dst=nO){fx xs}(hk:o.k=.defer fx xs){p q i first caps es ds}(hf:ZC ρ true fx=sO (q,.d (.fn (.func i) first caps)))(ha:Z2 ρ true xs=sO (p,es))(hds:W6 es=sO ds)(hp:p)(hq:q)(hr1:Za5 (first++ds))(hr2:Za5 caps)(h:DO (F.defer i (first++ds) caps) kp dk os ρ L s):DO F kp dk (o::os) ρ L s:=by
 refine Wa fun oo g ν w tmps ops j r k hoo hck hcg hdst hd hN m hr hkk=>?_
 have hw:=Z8 m hcg (c:=true) (by rw[hg];rfl)
 rw[hk]at hck
 obtain⟨f',args,ats,hop,hf',hxs⟩:=ZvF hck
 have hfr:Rep g w _ _:=Z3 m hf' rfl hf hq F.ds
 have hargs:=KH (ZbB m rfl F.ds hxs ha hp) hds
 generalize hfv:(Act.mk tmps F.ds).eval f'=fv at hfr
 cases hfr with
 |fn _ fs cs' _ _ hn1 hn2 h1 h2 =>
 obtain⟨as9,ha1,_,ha2⟩:=ZbC hr1
 obtain⟨vs,hv1,_,hv2⟩:=ZbC hr2
 have e1:fs++args.toList.map (Act.mk tmps F.ds).eval=as9:=Zkd ((Ya hn1 h1).append hargs) ha1
 have e2:cs'=vs:=Zkd (Ya hn2 h2) hv1
 have hmap:(Array.map (Act.mk tmps F.ds).eval args)=(args.toList.map (Act.mk tmps F.ds).eval).toArray:=by apply Array.ext';simp
 have hdd:DD.def (.fn i (first++ds) caps)={ target:=.fn (.func i) cs'.toArray,args:=fs.toArray++(args.toList.map (Act.mk tmps F.ds).eval).toArray }:=by
  simp only[DD.def,hv1,ha1,e2,←e1];simp
 have hrun:(execOp (Act.mk tmps F.ds).eval oo).run P w=.ok (.defer (DD.def (.fn i (first++ds) caps))) w:=by
  rw[hdd]
  simp[execOp,hop,resolve,hfv,Deferred.ofValue]
 have hstep:step P (lone (F.b.atR ⟨tmps,F.ds⟩ (.inRegion ops (j::r)::k)) F.cs w)=.next (lone (F.b.atR ⟨tmps,(F.defer i (first++ds) caps).ds⟩ (.inRegion ops r::k)) F.cs w):=by
  refine step_lone_go ?_
  rw[stepGR_op hoo hw,hround,Oper.semAt_none]
  have hfin:(F.b.atR ⟨tmps,(F.defer i (first++ds) caps).ds⟩ (.inRegion ops (j::r)::k)).finish undef=F.b.atR ⟨tmps,(F.defer i (first++ds) caps).ds⟩ (.inRegion ops r::k):=by
   rw[Frame.finish_atR,hoo]
   simp[Act.put,hdst,hdn]
  rw[←hfin]
  simp[stepG.apply,hrun,Frame.atR,Fr.defer]
 refine F.T.back _ _ _ _ (.one hstep) ?_
 exact h ops r k hr hkk g ν w tmps hN m
def Zi1:D→Prop
 |.iface _ (.agg cs)=>Za5 cs
 |.iface _ d=>ZeI d
 |_=>False
theorem Zpo{d}(h:Zi1 d):∃v,(∀g w,Rep g w v d)∧∀g w v',Rep g w v' d→v'=v:=by
 cases d<;>simp[Zi1]at h
 rename_i t d
 by_cases hd:∃cs,d=.agg cs
 ·obtain⟨cs,rfl⟩:=hd
  obtain⟨vs,h1,h2,h3⟩:=ZbC h
  refine⟨.iface t (.agg vs.toArray),fun g w=>.iface t _ _ (.agg vs cs (h3 g w).len (h3 g w).get h2),fun g w v' hr=>?_⟩
  cases hr with
  |iface _ v _ hv =>
   cases hv with
   |agg vs' _ hn hg _=>rw[Zkd (Ya hn hg) h1]
 ·have h':ZeI d:=by cases d<;>simp at h<;>first|exact h|exact absurd ⟨_,rfl⟩ hd
  obtain⟨v,h1,h2,h3⟩:=Zpn h'
  refine⟨.iface t v,fun g w=>.iface t _ _ (h3 g w),fun g w v' hr=>?_⟩
  cases hr with
  |iface _ v'' _ hv=>rw[ZtJ hv h1]
def QG(m:Option D)(v:Value)(rec:Bool):FrameMode :=
 match m with
 |none=>.returning
 |some _=>.panicking [{ v,recovered:=rec }]
def Zd0(P:Program)(cf:Frame)(cs:List Frame)(Ψ:Bool→St→Prop):ZtY P where
 T g w m:=∃g' w' s' b,Ext g w g' w'∧Yb g' s' w'∧Ψ b s'∧Steps P m (lone { cf with mode:=if b then .returning else cf.mode } cs w')
 back g w m m' hs h:=let ⟨g',w',s',b,a1,a2,a3,a4⟩:=h;⟨g',w',s',b,a1,a2,a3,Steps.trans hs a4⟩
 ext g w g' w' m hx h:=let ⟨g2,w2,s',b,a1,a2,a3,a4⟩:=h;⟨g2,w2,s',b,hx.trans a1,a2,a3,a4⟩
def YW(P:Program)(an:Ann)(f:FuncId)(N:Nat)(cf:Frame)(cs:List Frame)(Ψ:Bool→St→Prop)(m:Option D)(v:Value)(rec:Bool):Fr P where
 T:=Zd0 P cf cs Ψ
 b:={ (dE:Frame) with fn:=f,kind:=.deferred,roundOf:=nO }
 cs:={ cf with mode:=QG m v rec }::cs
 N:=N
 ds:=[]
 an:=an
def J6(F:Fr P)(m:Option D)(Ψ:Bool→St→Prop)(rec:Bool):Prop :=
 ∃an f df cf cs v,Go.DL.cf P an f=sO df∧df.res=[]∧cf.mode=QG m v false∧(∀d,m=sO d→∀g w,Rep g w v d)∧F=YW P an f df.n cf cs Ψ m v rec
theorem ZbF{an i N rs b}(hf:cf P an i=sO ⟨N,rs,b⟩)(hres:rs=[]){args m s Ψ}(hm:∀d,m=sO d→Zi1 d)(h:∀F:Fr P,J6 F m Ψ false→Zs F [.code b] (KM 0 args) [] s):JA P i args m s Ψ:=by
 have hf0:=hf
 unfold cf at hf
 split at hf<;>(try(simp at hf;done))
 rename_i fn hfn
 split at hf<;>(try(simp at hf;done))
 rename_i c hc
 split at hf<;>(try(simp at hf;done))
 rename_i hname
 split at hf<;>simp at hf
 rename_i rs d hrs hd
 obtain⟨rfl,rfl,rfl⟩:=hf
 refine⟨⟨fn,hfn,by simp[hc],by simpa using hname⟩,fun g w vs cfr cs hs ha hmode=>?_⟩
 obtain⟨v,hv1,hv2⟩:∃v,cfr.mode=QG m v false∧∀d,m=sO d→∀g w,Rep g w v d:=by
  cases m with
  |none=>exact⟨undef,hmode,fun d hd=>by simp at hd⟩
  |some d =>
   obtain⟨v,h1,h2⟩:=hmode
   obtain⟨v',r1,r2⟩:=Zpo (hm d rfl)
   have:=r2 g w v h2
   subst this
   exact⟨v,h1,fun d' hd'=>by simp only[ZEz]at hd';subst hd';exact r1⟩
 have hcf:({ cfr with mode:=QG m v false }:Frame)=cfr:=by rw[←hv1]
 have henter:Frame.enter P i vs.toArray .deferred=(YW P an i fn.ntmps cfr cs Ψ m v false).b.atR { tmps:=vs.toArray++Array.replicate (fn.ntmps-vs.length) undef,defers:=[] } [.code c]:=by
  simp[Frame.enter,Frame.atR,hfn,hc,YW]
 have:=h _ ⟨an,i,_,cfr,cs,v,hf0,hres,hv1,hv2,rfl⟩ [.code c] (.code hd .nil) g (fun _=>0) w (vs.toArray++Array.replicate (fn.ntmps-vs.length) undef) (by simp[YW];omega) (ZfY hs ha _)
 obtain⟨g',w',s',b,a1,a2,a3,a4⟩:=this
 refine⟨g',w',s',b,a1,a2,a3,?_⟩
 rw[henter]
 have hcs:(YW P an i fn.ntmps cfr cs Ψ m v false).cs=cfr::cs:=by simp only[YW,hcf]
 rw[hcs]at a4
 exact a4
theorem J6.end{F:Fr P}{m Ψ rec}(hF:J6 F m Ψ rec){ρ L s s'}(hs:s'.sub s)(hΨ:Ψ (m.isNone ||rec) s'){todo g ν w tmps}(M:Zt g ν w tmps ρ L s):F.T.T g w (lone { F.b.atR ⟨tmps,F.ds⟩ todo with mode:=.returning } F.cs w):=by
 obtain⟨an,f,df,cfr,cs,v,hf,hres,hmode,hrep,rfl⟩:=hF
 unfold cf at hf
 split at hf<;>(try(grind;done))
 rename_i fn hfn
 split at hf<;>(try(grind;done))
 split at hf<;>(try(grind;done))
 split at hf<;>simp at hf
 rename_i rs d hrs hd
 subst hf
 cases hres
 obtain⟨rv,hrv1,_⟩:=Zm5 M hrs (p:=True) (ds:=[]) rfl trivial
 refine⟨g,w,s',m.isNone ||rec,Ext.refl g w,M.st.sub hs,hΨ,?_⟩
 have hst:=step_going_returned (P:=P) (fr:={ (YW P an f fn.ntmps cfr cs Ψ m v rec).b.atR ⟨tmps,[]⟩ todo with mode:=.returning }) (c:={ cfr with mode:=QG m v rec }) (cs:=cs) (w:=w) rfl ⟨rfl,rfl,fn,hfn,hrv1⟩
 have hset:({ ({ cfr with mode:=QG m v rec }:Frame) with mode:=settle (QG m v rec) }:Frame)={ cfr with mode:=if (m.isNone ||rec) then .returning else cfr.mode }:=by
  cases m with
  |none=>rfl
  |some d =>
   cases rec
   ·simp[hmode];rfl
   ·rfl
 rw[hset]at hst
 exact .one hst
theorem J6.fin{F:Fr P}{m Ψ rec}(hF:J6 F m Ψ rec){ρ L s s'}(hs:s'.sub s)(hΨ:Ψ (m.isNone ||rec) s'):Zs F [] ρ L s:=by
 have hF':=hF
 obtain⟨an,f,df,cfr,cs,v,hf,hres,hmode,hrep,rfl⟩:=hF
 intro k hk
 cases hk
 intro g ν w tmps hN M
 refine(Zd0 P cfr cs Ψ).back _ _ _ _ (.one (stepR_end rfl)) ?_
 exact hF'.end hs hΨ M
theorem J6.ret{F:Fr P}{m Ψ rec}(hF:J6 F m Ψ rec){dk ρ L s s'}(hs:s'.sub s)(hΨ:Ψ (m.isNone ||rec) s'):Zs F (.code .ret::dk) ρ L s:=by
 have hF':=hF
 obtain⟨an,f,df,cfr,cs,v,hf,hres,hmode,hrep,rfl⟩:=hF
 intro k hk
 cases hk with
 |code hc ht =>
  obtain rfl:=ZqQ hc
  intro g ν w tmps hN M
  refine(Zd0 P cfr cs Ψ).back _ _ _ _ (.one (stepR_ret rfl)) ?_
  exact hF'.end hs hΨ M
theorem ZgW{op}(h:ck P op=sO .recover):∃args ats,op=.call ⟨.builtin .recover,args,ats⟩:=by
 unfold ck at h
 split at h
 ·simp at h
 ·split at h<;>(try(simp at h;done))
  all_goals (try(repeat' (split at h<;>(try(simp at h;done)))))
  rename_i c _ _ hcal
  obtain⟨callee,args,ats⟩:=c
  simp only at hcal
  exact⟨args,ats,by rw[hcal]⟩
theorem Zl0{F:Fr P}{d Ψ}(hF:J6 F (sO d) Ψ false){kp dk o os ρ L s}(hg:o.guard=nO)(hk:o.k=.recover)(h:∀F':Fr P,J6 F' (sO d) Ψ true→DO F' kp dk os (Zv ρ o.dst (.d d)) L s):DO F kp dk (o::os) ρ L s:=by
 obtain⟨an,f,df,cfr,cs,v,hf,hres,hmode,hrep,rfl⟩:=hF
 refine Wa fun oo g ν w tmps ops j r k hoo hck hcg hdst hd hN m hr hkk=>?_
 have hw:=Z8 m hcg (c:=true) (by rw[hg];rfl)
 have hnd:=Yc hck (by rw[hk];rfl)
 rw[hk]at hck
 obtain⟨args,ats,hop⟩:=ZgW hck
 have hrun:(execOp (Act.mk tmps []).eval oo).run P w=.ok .recover w:=by
  simp[execOp,hop,resolve,invoke,builtin]
 have hstep:step P (lone ((YW P an f df.n cfr cs Ψ (sO d) v false).b.atR ⟨tmps,[]⟩ (.inRegion ops (j::r)::k)) (YW P an f df.n cfr cs Ψ (sO d) v false).cs w) =
   .next (lone ((YW P an f df.n cfr cs Ψ (sO d) v true).b.atR ((Act.mk tmps []).put oo.dst v) (.inRegion ops r::k)) (YW P an f df.n cfr cs Ψ (sO d) v true).cs w):=by
  refine step_lone_go ?_
  rw[stepGR_op hoo hw,Oper.semAt_eq _ _ _ hnd]
  have hfin:((YW P an f df.n cfr cs Ψ (sO d) v false).b.atR ⟨tmps,[]⟩ (.inRegion ops (j::r)::k)).finish v=(YW P an f df.n cfr cs Ψ (sO d) v true).b.atR ((Act.mk tmps []).put oo.dst v) (.inRegion ops r::k):=by
   rw[Frame.finish_atR,hoo];rfl
  rw[←hfin]
  simp[stepG.apply,hrun,Frame.atR,YW,tryRecover,QG]
 refine(Zd0 P cfr cs Ψ).back _ _ _ _ (.one hstep) ?_
 obtain⟨tmps',e1,e2,m'⟩:=ZeG m hN hd (v:=v) (e:=.d d) (hrep d rfl g w) []
 rw[hdst,e1]
 exact h _ ⟨an,f,df,cfr,cs,v,hf,hres,hmode,hrep,rfl⟩ ops r k hr hkk g ν w tmps' e2 m'
theorem ZfH{F:Fr P}{Ψ rec}(hF:J6 F nO Ψ rec){kp dk o os ρ L s}(hg:o.guard=nO)(hk:o.k=.recover)(h:DO F kp dk os (Zv ρ o.dst (.d .niliface)) L s):DO F kp dk (o::os) ρ L s:=by
 obtain⟨an,f,df,cfr,cs,v,hf,hres,hmode,hrep,rfl⟩:=hF
 refine Wa fun oo g ν w tmps ops j r k hoo hck hcg hdst hd hN m hr hkk=>?_
 have hw:=Z8 m hcg (c:=true) (by rw[hg];rfl)
 have hnd:=Yc hck (by rw[hk];rfl)
 rw[hk]at hck
 obtain⟨args,ats,hop⟩:=ZgW hck
 have hrun:(execOp (Act.mk tmps []).eval oo).run P w=.ok .recover w:=by
  simp[execOp,hop,resolve,invoke,builtin]
 have hstep:step P (lone ((YW P an f df.n cfr cs Ψ nO v rec).b.atR ⟨tmps,[]⟩ (.inRegion ops (j::r)::k)) (YW P an f df.n cfr cs Ψ nO v rec).cs w) =
   .next (lone ((YW P an f df.n cfr cs Ψ nO v rec).b.atR ((Act.mk tmps []).put oo.dst .nilIface) (.inRegion ops r::k)) (YW P an f df.n cfr cs Ψ nO v rec).cs w):=by
  refine step_lone_go ?_
  rw[stepGR_op hoo hw,Oper.semAt_eq _ _ _ hnd]
  have hfin:((YW P an f df.n cfr cs Ψ nO v rec).b.atR ⟨tmps,[]⟩ (.inRegion ops (j::r)::k)).finish .nilIface=(YW P an f df.n cfr cs Ψ nO v rec).b.atR ((Act.mk tmps []).put oo.dst .nilIface) (.inRegion ops r::k):=by
   rw[Frame.finish_atR,hoo];rfl
  rw[←hfin]
  simp[stepG.apply,hrun,Frame.atR,YW,tryRecover,QG]
 refine(Zd0 P cfr cs Ψ).back _ _ _ _ (.one hstep) ?_
 obtain⟨tmps',e1,e2,m'⟩:=ZeG m hN hd (v:=.nilIface) (e:=.d .niliface) .niliface []
 simp_all
 exact h ops r k hr hkk g ν w tmps' e2 m'
end
theorem Zz6(n):inR .i64 n↔-9223372036854775808≤n∧n≤9223372036854775807:=by
 simp[inR,IntKind.min,IntKind.max,IntKind.signed,IntKind.bits]
theorem ZAN(n):inR .u8 n↔0≤n∧n≤255:=by
 simp[inR,IntKind.min,IntKind.max,IntKind.signed,IntKind.bits]
theorem Zz7(n):inR .u32 n↔0≤n∧n≤4294967295:=by
 simp[inR,IntKind.min,IntKind.max,IntKind.signed,IntKind.bits]
theorem Zz8(n):inR .u64 n↔0≤n∧n≤18446744073709551615:=by
 simp[inR,IntKind.min,IntKind.max,IntKind.signed,IntKind.bits]
theorem Zz5(n):inR .i32 n↔-2147483648≤n∧n≤2147483647:=by
 simp[inR,IntKind.min,IntKind.max,IntKind.signed,IntKind.bits]
theorem Zy9(a b):(if a=true then b else false)=(a&&b):=by cases a<;>rfl
theorem ZAa(a b):(if a=true then true else b)=(a ||b):=by cases a<;>rfl
theorem ZzR{d d'}(h:d=d'):(KN [d]).Le d':=h▸ZEF d
theorem ZdY{b b'}(h:b=b'):(KN [.bool b]).Le (.bool b'):=h▸ZEF _
theorem Zgb{k n m}(h:n=m):(KN [.int k n]).Le (.int k m):=h▸ZEF _
theorem ZzT{l m}(h:l=m):(KN [.str l]).Le (.str m):=h▸ZEF _
theorem Jd{l d}(h:.tup l=d)(hl:KN l=.tup l):(KN l).Le d:=by rw[hl,h];exact ZEF _
theorem St.upd_same(s:St)(b o):(s.upd b o) b=sO o:=by simp[ZFc]
theorem St.upd_ne(s:St){b c}(o)(h:c≠b):(s.upd b o) c=s c:=by simp[ZFc,h]
theorem St.upd_upd(s:St)(b o o'):(s.upd b o).upd b o'=s.upd b o':=by
 funext c;simp only[ZFc];by_cases h:c=b<;>simp[h]
theorem St.upd_comm(s:St){b c}(o o')(h:c≠b):(s.upd b o).upd c o'=(s.upd c o').upd b o:=by
 funext x;simp only[ZFc]
 by_cases h1:x=b
 ·subst h1;simp[Ne.symm h]
 ·simp[h1]
theorem St.sub_upd{b}(o)(h:s b=nO):s.sub (s.upd b o):=fun c x hx=>by
 have:c≠b:=fun hc=>by rw[hc,h]at hx;simp at hx
 rw[St.upd_ne s o this];exact hx
theorem St.sub_trans{s s' s'':St}(h:s.sub s')(h':s'.sub s''):s.sub s'':=fun b o ho=>h' b o (h b o ho)
inductive DWf:D→Prop where
 |int (k:IntKind) (n:Int) (h:inR k n):DWf (.int k n)
 |str (l:List UInt8) (h:l.length≤big):DWf (.str l)
 |agg (cs:List D) (h:∀c∈cs,DWf c):DWf (.agg cs)
 |tup (cs:List D) (h:∀c∈cs,DWf c):DWf (.tup cs)
 |sl (t:Tok) (n s:Nat) (row:Nat→List D) (h:n≤big) (hl:∀i,i<n→(row i).length=s) (hr:∀i,i<n→∀c∈row i,DWf c):DWf (.sl t n s row)
 |ep (cs:List D) (o:Nat) (h:∀c∈cs,DWf c):DWf (.ep cs o)
 |iface (t:TypeId) (d:D) (h:DWf d):DWf (.iface t d)
 |msl (b o n cap s:Nat) (h:n≤cap) (h':cap≤big):DWf (.msl b o n cap s)
 |fn (f:Fn) (a b:List D) (h:∀c∈a,DWf c) (h':∀c∈b,DWf c):DWf (.fn f a b)
 |other (d:D) (h:match d with|.int .. |.str _|.agg _|.tup _|.sl .. |.ep .. |.iface .. |.msl .. |.fn ..=>False|_=>True):DWf d
theorem ZbN{Q:D→Prop}{vs:List Value}(hn:vs.length=ds.length)(h:∀(i:Nat) (v:Value) (d:D),vs[i]?=sO v→ds[i]?=sO d→Q d):∀c∈ds,Q c:=by
 intro c hc
 obtain⟨i,hi,rfl⟩:=ZEV hc
 exact h i (vs[i]'(by omega)) _ (by simp[show i<vs.length by omega]) (by simp[hi])
theorem Rep.wf{g w v d}(h:Rep g w v d):DWf d:=by
 induction h with
 |int k n h=>exact .int k n h
 |str s l h hb=>exact .str l hb
 |agg vs cells hn _ _ ih=>exact .agg _ (ZbN hn ih)
 |tup vs ds hn _ ih=>exact .tup _ (ZbN hn ih)
 |sl0 a t s row ht=>exact .sl t 0 s row (Nat.zero_le _) (fun i hi=>by omega) (fun i hi=>by omega)
 |sl b o n cap s row t f hl hc hp _ one ht hcap hb ih =>
  refine .sl t n s row (by omega) hl fun i hi c hcm=>?_
  obtain⟨j,hj,rfl⟩:=ZEV hcm
  exact ih i j _ hi (by simp[hj])
 |ep b o off cells f hc hp _ one ih =>
  refine .ep _ _ fun c hcm=>?_
  obtain⟨j,hj,rfl⟩:=ZEV hcm
  exact ih j _ (by simp[hj])
 |iface t v d _ ih=>exact .iface t d ih
 |msl b off n cap s h hb=>exact .msl _ _ _ _ _ h hb
 |mslx a b off s=>exact .msl _ _ _ _ _ (ZEP _) (Nat.zero_le _)
 |fn f fs cs df dc hnf hnc _ _ ihf ihc=>exact .fn f df dc (ZbN hnf ihf) (ZbN hnc ihc)
 |_=>exact .other _ trivial
theorem DWf.int_inv{k n}(h:DWf (.int k n)):inR k n:=by
 cases h with
 |int _ _ h=>exact h
 |other _ h=>exact h.elim
theorem DWf.str_inv{l}(h:DWf (.str l)):l.length≤big:=by
 cases h with
 |str _ h=>exact h
 |other _ h=>exact h.elim
theorem DWf.agg_inv{cs}(h:DWf (.agg cs)):∀c∈cs,DWf c:=by
 cases h with
 |agg _ h=>exact h
 |other _ h=>exact h.elim
theorem DWf.sl_inv{t n s row}(h:DWf (.sl t n s row)):n≤big∧(∀i,i<n→(row i).length=s)∧∀i,i<n→∀c∈row i,DWf c:=by
 cases h with
 |sl _ _ _ _ h1 h2 h3=>exact⟨h1,h2,h3⟩
 |other _ h=>exact h.elim
theorem ZyF{g w vs ds}(h:ZG (Rep g w) vs ds):∀d∈ds,DWf d:=ZbN h.len fun i v d hv hd=>(h.get i v d hv hd).wf
section
variable {P:Program}
theorem Zh3{f args s Φ}(hf:∃fn,P.funcs[f]?=sO fn∧fn.body.isSome=true∧(fn.name == "runtime.NumGoroutine")=false)(h:(∀a∈args,DWf a)→Zb P f args s Φ):Zb P f args s Φ :=
 ⟨hf,fun g w vs hs ha=>(h (ZyF ha)).2 g w vs hs ha⟩
theorem Zp7{an f df}(hf:cf P an f=sO df):∃fn,P.funcs[f]?=sO fn∧fn.body.isSome=true∧(fn.name == "runtime.NumGoroutine")=false:=by
 unfold cf at hf
 split at hf<;>(try(simp at hf;done))
 rename_i fn hfn
 split at hf<;>(try(simp at hf;done))
 rename_i c hc
 split at hf<;>(try(simp at hf;done))
 rename_i hname
 exact⟨fn,hfn,by simp[hc],by simpa using hname⟩
theorem JU{an f N rs b}(hf:cf P an f=sO ⟨N,rs,b⟩){args s Φ}(h:(∀a∈args,DWf a)→∀F:Fr P,Yy F rs Φ []→Zs F [.code b] (KM 0 args) [] s):Zb P f args s Φ :=
 Zh3 (Zp7 hf) fun hw=>Zc hf (h hw)
theorem Wj{an f N rs b}(hf:cf P an f=sO ⟨N,rs,b⟩){args d}(h:(∀a∈args,DWf a)→∀(F:Fr P) (s:St),(∀{dk:List WL} {ρ:Env} {L:Loc} {s':St} {p:Prop} {ds:List D},Yk ρ L s' rs=sO (p,ds)→p→(KN ds).Le d→s.sub s'→Zs F (.code .ret::dk) ρ L s') →
   Zs F [.code b] (KM 0 args) [] s):Ze P f args d :=
 fun s=>Zh3 (Zp7 hf) fun hw=>Zc hf fun F hF=>h hw F s fun h1 h2 h3 h4=>hF.ret d s h1 h2 h3 h4 ⟨rfl,rfl⟩
theorem Zta{F:Fr P}{dk ρ L s}(t){d}(ht:ZH ρ t=sO (.d d))(h:DWf d→Zs F dk ρ L s):Zs F dk ρ L s :=
 fun k hk g ν w tmps hN m=>h (Rep.wf (m.env t _ ht)) k hk g ν w tmps hN m
end
section
variable {P:Program}
def ZK(P:Program)(f:FuncId)(args:List D)(s:St)(d:D)(s':St):Prop:=Zb P f args s fun r t=>r=.ret d∧t=s'
theorem Zah{F:Fr P}{kp dk o os ρ L s s'}(hg:Zk ρ o.guard=sO true){fx xs}(hk:o.k=.call fx xs){p q f first caps es ds}(hf:ZC ρ true fx=sO (q,.d (.fn (.func f) first caps)))(ha:Z2 ρ true xs=sO (p,es))(hds:W6 es=sO ds)(hp:p)(hq:q){d}(hc:ZK P f (first++ds++caps) s d s')(h:DO F kp dk os (Zv ρ o.dst (.d d)) L s'):DO F kp dk (o::os) ρ L s :=
 ZjK hg hk hf ha hds hp hq hc (fun d' t ⟨h1,h2⟩=>by simp only[Res.ret.injEq]at h1;subst h1;subst h2;exact h) (fun d' t ⟨h1,_⟩=>by simp at h1)
theorem Zh5{F:Fr P}{kp dk o f os ρ L s s' B}(hg:Zk ρ o.guard=sO true){fx xs}(hk:o.k=.call fx xs){p q fi first caps es ds}(hf:ZC ρ true fx=sO (q,.d (.fn (.func fi) first caps)))(ha:Z2 ρ true xs=sO (p,es))(hds:W6 es=sO ds)(hp:p)(hq:q){d}(hc:ZK P fi (first++ds++caps) s d s')(hB:Y5 f s s' L L B)(h:DOA F kp dk os (Zv ρ o.dst (.d d)) L s' (YP f B)):DOA F kp dk ((o,f)::os) ρ L s B :=
 ZgP hg hk hf ha hds hp hq hc (fun d' t ⟨h1,h2⟩=>by simp only[Res.ret.injEq]at h1;subst h1;subst h2;exact⟨hB,h⟩) (fun d' t ⟨h1,_⟩=>by simp at h1)
theorem Zvw{F:Fr P}{kp dk o os ρ L s s'}(hg:Zk ρ o.guard=sO true){fx xs}(hk:o.k=.call fx xs){p q f es ds}(hf:ZC ρ true fx=sO (q,.d f))(ha:Z2 ρ true xs=sO (p,es))(hds:W6 es=sO ds)(hp:p)(hq:q){d}(hc:WV P f ds s fun r t=>r=.ret d∧t=s')(h:DO F kp dk os (Zv ρ o.dst (.d d)) L s'):DO F kp dk (o::os) ρ L s :=
 Zd8 hg hk hf ha hds hp hq hc (fun d' t ⟨h1,h2⟩=>by simp only[Res.ret.injEq]at h1;subst h1;subst h2;exact h) (fun d' t ⟨h1,_⟩=>by simp at h1)
theorem Ze.le{f args d d'}(h:Ze P f args d)(e:d=d'):Ze P f args d':=e▸h
end
inductive LeC:List D→List D→Prop where
 |nil:LeC [] []
 |cons {d d':D} {l l':List D} (h:d.Le d') (t:LeC l l'):LeC (d::l) (d'::l')
theorem LeC.refl(l):LeC l l:=by
 induction l with
 |nil=>exact .nil
 |cons d l ih=>exact .cons (ZEF d) ih
theorem LeC.len{l l'}(h:LeC l l'):l.length=l'.length:=by
 induction h with
 |nil=>rfl
 |cons _ _ ih=>simp[ih]
theorem LeC.get{l l'}(h:LeC l l'){i:Nat}{d'}(hi:l'[i]?=sO d'):∃d,l[i]?=sO d∧d.Le d':=by
 induction h generalizing i with
 |nil=>simp at hi
 |cons h _ ih =>
  cases i with
  |zero=>simp at hi;subst hi;exact⟨_,rfl,h⟩
  |succ i=>exact ih (by simpa using hi)
theorem ZzQ{cs cs'}(h:LeC cs cs'):(D.agg cs).Le (.agg cs'):=by
 intro g w v hv
 cases hv with
 |agg vs _ hn hr one=>exact .agg vs _ (hn.trans h.len) (fun i v d' hv hd=>by obtain⟨d,h1,h2⟩:=h.get hd;exact h2 _ _ _ (hr i v d hv h1)) one
theorem ZyD{cs cs'}(h:LeC cs cs'):(D.tup cs).Le (.tup cs'):=by
 intro g w v hv
 cases hv with
 |tup vs _ hn hr=>exact .tup vs _ (hn.trans h.len) (fun i v d' hv hd=>by obtain⟨d,h1,h2⟩:=h.get hd;exact h2 _ _ _ (hr i v d hv h1))
theorem ZyC{t n s row}:(D.sl t n s row).Le (.sl .none n s row):=by
 intro g w v hv
 cases hv with
 |sl0 _ _ _ _ ht=>exact .sl0 _ _ _ _ (by simp)
 |sl b o n cap s row t f hl hc hp hr one ht hcap hb=>exact .sl b o n cap s row _ f hl hc hp hr one trivial hcap hb
theorem ZzS{t}{n s}{row row'}(h:∀i,i<n→LeC (row i) (row' i)):(D.sl t n s row).Le (.sl t n s row'):=by
 intro g w v hv
 cases hv with
 |sl0 _ _ _ _ ht=>exact .sl0 _ _ _ _ ht
 |sl b o n cap s row t f hl hc hp hr one ht hcap hb =>
  exact .sl b o n cap s _ _ f (fun i hi=>(h i hi).len.symm.trans (hl i hi)) hc hp (fun i j d hi hd=>by obtain⟨d',h1,h2⟩:=(h i hi).get hd;exact h2 _ _ _ (hr i j d' hi h1)) one ht hcap hb
theorem Kl{s row t}(ht:∀b,t≠.tip b):D.nilsl.Le (.sl t 0 s row):=by
 intro g w v hv;cases hv;exact .sl0 _ _ _ _ ht
theorem D.Le.trans{a b c:D}(h:a.Le b)(h':b.Le c):a.Le c:=fun g w v hv=>h' g w v (h g w v hv)
theorem Zys{t n n' s row row'}(hn:n=n')(h:∀i,i<n→row i=row' i):(D.sl t n s row).Le (.sl .none n' s row'):=by
 subst hn
 exact ZyC.trans (ZzS fun i hi=>by rw[h i hi];exact LeC.refl _)
inductive Zqw:E→E→Prop where
 |d {x y:D} (h:x.Le y):Zqw (.d x) (.d y)
 |refl (e:E):Zqw e e
inductive LeE:Env→Env→Prop where
 |nil:LeE [] []
 |cons {t:Nat} {e e':E} {ρ ρ':Env} (h:Zqw e e') (r:LeE ρ ρ'):LeE ((t,e)::ρ) ((t,e')::ρ')
 |skip {t:Nat} {e:E} {ρ ρ':Env} (r:LeE ρ ρ'):LeE ((t,e)::ρ) ((t,e)::ρ')
inductive LeL:Loc→Loc→Prop where
 |nil:LeL [] []
 |cons {t:Nat} {c c':List D} {ρ ρ':Loc} (h:LeC c c') (r:LeL ρ ρ'):LeL ((t,c)::ρ) ((t,c')::ρ')
 |skip {t:Nat} {c:List D} {ρ ρ':Loc} (r:LeL ρ ρ'):LeL ((t,c)::ρ) ((t,c)::ρ')
theorem LeE.get{ρ ρ'}(h:LeE ρ ρ'){t e'}(he:ZH ρ' t=sO e'):∃e,ZH ρ t=sO e∧Zqw e e':=by
 induction h with
 |nil=>simp[ZH]at he
 |cons h _ ih =>
  simp only[ZH]at he⊢
  split at he
  ·simp at he;subst he;rename_i ht;rw[if_pos ht];exact⟨_,rfl,h⟩
  ·rename_i ht;rw[if_neg ht];exact ih he
 |skip _ ih =>
  simp only[ZH]at he⊢
  split at he
  ·simp at he;subst he;rename_i ht;rw[if_pos ht];exact⟨_,rfl,.refl _⟩
  ·rename_i ht;rw[if_neg ht];exact ih he
theorem LeL.get{ρ ρ'}(h:LeL ρ ρ'){t e'}(he:Zf ρ' t=sO e'):∃e,Zf ρ t=sO e∧LeC e e':=by
 induction h with
 |nil=>simp[Zf]at he
 |cons h _ ih =>
  simp only[Zf]at he⊢
  split at he
  ·simp at he;subst he;rename_i ht;rw[if_pos ht];exact⟨_,rfl,h⟩
  ·rename_i ht;rw[if_neg ht];exact ih he
 |skip _ ih =>
  simp only[Zf]at he⊢
  split at he
  ·simp at he;subst he;rename_i ht;rw[if_pos ht];exact⟨_,rfl,LeC.refl _⟩
  ·rename_i ht;rw[if_neg ht];exact ih he
theorem LeL.getI{ρ ρ'}(h:LeL ρ ρ'){t e}(he:Zf ρ t=sO e):∃e',Zf ρ' t=sO e':=by
 induction h with
 |nil=>simp[Zf]at he
 |cons h _ ih =>
  simp only[Zf]at he⊢
  split at he
  ·rename_i ht;rw[if_pos ht];exact⟨_,rfl⟩
  ·rename_i ht;rw[if_neg ht];exact ih he
 |skip _ ih =>
  simp only[Zf]at he⊢
  split at he
  ·rename_i ht;rw[if_pos ht];exact⟨_,rfl⟩
  ·rename_i ht;rw[if_neg ht];exact ih he
theorem YM.le{g w b ds ds'}(h:YM g w b ds)(hl:LeC ds ds'):YM g w b ds':=by
 obtain⟨hp,vs,T,h1,h2,h3,h4⟩:=h
 exact⟨hp,vs,T,h1,h2.trans hl.len,fun i v d' hv hd=>by obtain⟨d,e1,e2⟩:=hl.get hd;exact e2 _ _ _ (h3 i v d hv e1),h4⟩
theorem ZI.le{g ν w L v e e'}(h:ZI g ν w L v e)(hl:Zqw e e'):ZI g ν w L v e':=by
 cases hl with
 |refl=>exact h
 |d hd=>exact hd _ _ _ h
theorem Zt.le{ρ ρ':Env}{L L':Loc}(m:Zt g ν w tmps ρ L s)(hρ:LeE ρ ρ')(hL:LeL L L'):Zt g ν w tmps ρ' L' s:={
 st:=m.st
 loc l cs h:=by obtain⟨c,h1,h2⟩:=hL.get h;exact(m.loc l c h1).le h2
 locKept l cs h:=by obtain⟨c,h1,_⟩:=hL.get h;exact m.locKept l c h1
 locSt l cs h:=by obtain⟨c,h1,_⟩:=hL.get h;exact m.locSt l c h1
 inj l l' cs cs' h h' hν:=by obtain⟨c,h1,_⟩:=hL.get h;obtain⟨c',h1',_⟩:=hL.get h';exact m.inj l l' c c' h1 h1' hν
 env t e h:=by
  obtain⟨e0,h1,h2⟩:=hρ.get h
  exact((m.env t e0 h1).le h2).locs fun l cs hc=>⟨hL.getI hc,rfl⟩ }
section
variable {P:Program}
theorem ZyB{F:Fr P}{dk ρ ρ' L L' s}(hρ:LeE ρ ρ')(hL:LeL L L')(h:Zs F dk ρ' L' s):Zs F dk ρ L s :=
 fun k hk g ν w tmps hN m=>h k hk g ν w tmps hN (m.le hρ hL)
end
theorem JC(ρ):LeE ρ ρ:=by
 induction ρ with
 |nil=>exact .nil
 |cons a r ih=>obtain⟨t,e⟩:=a;exact .cons (.refl _) ih
theorem Zcj(ρ):LeL ρ ρ:=by
 induction ρ with
 |nil=>exact .nil
 |cons a r ih=>obtain⟨t,e⟩:=a;exact .cons (LeC.refl _) ih
theorem Zgc{l cs}(hl:KN l=.tup l)(h:LeC l cs):(KN l).Le (.tup cs):=by rw[hl];exact ZyD h
theorem QF{d d'}(h:d.Le d'):(KN [d]).Le d':=h
def ZiG:Bool→List Nat→St→St→Loc→Loc→List (Nat×Rd)→Prop
 |true,_,_,_,_,_,_=>True
 |false,fl,s,s',L,L',B=>Y5 fl s s' L L' B
def ZmN:Bool→List Nat→List (Nat×Rd)→List (Nat×Rd)
 |true,_,B=>B
 |false,fl,B=>YP fl B
def Zg1(K:Env→Loc→St→Prop)(X:List (DOp×List Nat)→Env→Loc→St→List (Nat×Rd)→Prop):List (DOp×List Nat)→Env→Loc→St→List (Nat×Rd)→Prop
 | [],ρ,L,s,_=>K ρ L s
 |o::os,ρ,L,s,B=>match Zx o.1 ρ L s with
  |.ok side ρ' L' s'=>side∧ZiG (YU o.1.k) o.2 s s' L L' B∧Zg1 K X os ρ' L' s' (Kd o.1 ρ++ZmN (YU o.1.k) o.2 B)
  |.all side pre ρ' s'=>side∧∀b,pre b→ZiG false o.2 s (s' b) L L B∧Zg1 K X os (ρ' b) L (s' b) (ZmN false o.2 B)
  |.stop=>X (o::os) ρ L s B
theorem ZjS{K X}:∀{os ρ L s B},Zg1 K X os ρ L s B→Zg0 K X os ρ L s B
 | [],ρ,L,s,B,h=>h
 |o::os,ρ,L,s,B,h=>by
  simp only[Zg1,Zg0]at h⊢
  split at h<;>rename_i hst<;>simp only[hst]
  ·cases hp:YU o.1.k
   ·rw[hp]at h
    exact⟨h.1,h.2.1,ZjS h.2.2⟩
   ·rw[hp]at h;simp only[ZiG,ZmN]at h;exact⟨h.1,ZjS h.2.2⟩
  ·refine⟨h.1,fun b hb=>?_⟩
   exact⟨(h.2 b hb).1,ZjS (h.2 b hb).2⟩
  ·exact h
section
variable {P:Program}
theorem Yx{F:Fr P}{ks dk os ρ L s B}(h:Zg1 (fun ρ L s=>Zs F dk (Yh ρ ks) (ZaF (Yh ρ ks) L) s) (fun os ρ L s B=>DOA F (sO ks) dk os ρ L s B) os ρ L s B):DOA F (sO ks) dk os ρ L s B:=ZjJ (ZjS h)
theorem Zaf{F:Fr P}{kp dk o os ρ L s0}(s t)(hg:Zk ρ o.guard=sO true){e sz b z x y}(hk:o.k=.append e sz b z x y){p q n m row row2 dy dx}(hx:ZC ρ true x=sO (p,.d dx))(hsl:Zdf sz dx=sO (t,n,row))(hy:ZC ρ true y=sO (q,.d dy))(hel:Zaq sz dy=sO (m,row2))(hp:p)(hq:q)(hs:s0=s.own t (n*sz))(hok:t.okIn s)(hb:(n+m)*b≤140737488355328)(hbig:n+m≤big)(h:∀t':Tok,t'.okIn s→DO F kp dk os (Zv ρ o.dst (.d (.sl t' (n+m) sz (YJ n row row2)))) L (s.own t' ((n+m)*sz))):
  DO F kp dk (o::os) ρ L s0:=by
 subst hs;exact Zvs hg hk hx hsl hy hp hq hel hok hb hbig h
end
section
variable {P:Program}
theorem ZB{an f N rs b}(hf:cf P an f=sO ⟨N,rs,b⟩){args d s s'}(h:(∀a∈args,DWf a)→∀(F:Fr P),(∀{dk:List WL} {ρ:Env} {L:Loc} {t:St} {p:Prop} {ds:List D},Yk ρ L t rs=sO (p,ds)→p→(KN ds).Le d→s'.sub t→Zs F (.code .ret::dk) ρ L t) →
   Zs F [.code b] (KM 0 args) [] s):ZK P f args s d s' :=
 Zh3 (Zp7 hf) fun hw=>Zc hf fun F hF=>h hw F fun h1 h2 h3 h4=>hF.ret d s' h1 h2 h3 h4 ⟨rfl,rfl⟩
def VT(P:Program)(f:D)(args:List D)(s:St)(d:D)(s':St):Prop:=WV P f args s fun r t=>r=.ret d∧t=s'
theorem ZK.VT{f first args caps s s' d}(h:ZK P f (first++args++caps) s d s'):VT P (.fn (.func f) first caps) args s d s':=Zb.V h
theorem Ze.VT{f first args caps d}(h:Ze P f (first++args++caps) d)(s):VT P (.fn (.func f) first caps) args s d s:=Zb.V (h s)
theorem ZtS{F:Fr P}{kp dk o os ρ L s s'}(hg:Zk ρ o.guard=sO true){fx xs}(hk:o.k=.call fx xs){p q f es ds}(hf:ZC ρ true fx=sO (q,.d f))(ha:Z2 ρ true xs=sO (p,es))(hds:W6 es=sO ds)(hp:p)(hq:q){d}(hc:VT P f ds s d s')(h:DO F kp dk os (Zv ρ o.dst (.d d)) L s'):DO F kp dk (o::os) ρ L s:=Zvw hg hk hf ha hds hp hq hc h
theorem ZzL{F:Fr P}{kp dk o f os ρ L s s' B}(hg:Zk ρ o.guard=sO true){fx xs}(hk:o.k=.call fx xs){p q fv es ds}(hf:ZC ρ true fx=sO (q,.d fv))(ha:Z2 ρ true xs=sO (p,es))(hds:W6 es=sO ds)(hp:p)(hq:q){d}(hc:VT P fv ds s d s')(hB:Y5 f s s' L L B)(h:DOA F kp dk os (Zv ρ o.dst (.d d)) L s' (YP f B)):DOA F kp dk ((o,f)::os) ρ L s B :=
 ZcS hg hk hf ha hds hp hq hc (fun d' t ⟨h1,h2⟩=>by simp only[Res.ret.injEq]at h1;subst h1;subst h2;exact⟨hB,h⟩) (fun d' t ⟨h1,_⟩=>by simp at h1)
theorem ZG.leC{g w vs a a'}(h:ZG (Rep g w) vs a)(hl:LeC a a'):ZG (Rep g w) vs a':=by
 induction hl generalizing vs with
 |nil=>exact h
 |cons hd _ ih=>cases h with
  |cons h1 h2=>exact .cons (hd g w _ h1) (ih h2)
theorem Zb.leA{f args args' s Φ}(hl:LeC args args')(h:Zb P f args' s Φ):Zb P f args s Φ :=
 ⟨h.1,fun g w vs hs ha=>h.2 g w vs hs (ZG.leC ha hl)⟩
theorem Ze.leA{f args args' d}(hl:LeC args args')(h:Ze P f args' d):Ze P f args d:=fun s=>Zb.leA hl (h s)
theorem LeC.one{d d'}(h:d.Le d'):LeC [d] [d']:=.cons h .nil
theorem LeC.two{d d' e e'}(h:d.Le d')(h2:e.Le e'):LeC [d,e] [d',e']:=.cons h (.cons h2 .nil)
end
def St.or(s t:St):St:=fun b=>match s b with
 |some o=>sO o
 |none=>t b
theorem Yq(s t:St)(b o):(s.or t).upd b o=(s.upd b o).or t:=by
 funext c;simp only[St.or,ZFc];by_cases h:c=b<;>simp[h]
theorem Zh{s t:St}{b o}(h:s b=sO o):(s.or t) b=sO o:=by simp[St.or,h]
theorem Zl{s t:St}{b}(h:s b=nO):(s.or t) b=t b:=by simp[St.or,h]
theorem YQ(s t:St):s.sub (s.or t):=fun b o h=>Zh h
def ZJ(s t:St):Prop:=∀b o,t b=sO o→s b=nO
theorem or_assoc(s t u:St):(s.or t).or u=s.or (t.or u):=by
 funext b;simp only[St.or];cases s b<;>rfl
def St.single(b:Nat)(o:W4):St:=fun c=>if c=b then sO o else nO
theorem Z4(b o):(St.single b o) b=sO o:=by simp[St.single]
theorem WO{b c}(o)(h:c≠b):(St.single b o) c=nO:=by simp[St.single,h]
theorem Wu{b o}(h:s b=nO):s.upd b o=s.or (St.single b o):=by
 funext c;simp only[St.or,ZFc,St.single]
 by_cases hc:c=b
 ·subst hc;simp[h]
 ·simp only[hc,if_false];cases s c<;>rfl
theorem WX{s b o}(h:s b=nO):ZJ s (St.single b o):=fun c x hc=>by
 simp only[St.single]at hc;split at hc
 ·rename_i e;rw[e];exact h
 ·simp at hc
def G.keep(g:G)(k:Nat→Prop):G:={ g with kept:=k }
theorem WK{g k w v d}(h:Rep g w v d):Rep (g.keep k) w v d:=h.mono0 (fun _=>ZEP _) (fun _ _ _=>rfl) (fun _ _ h=>h)
theorem ZwA{g k ν w L v e}(h:ZI g ν w L v e):ZI (g.keep k) ν w L v e:=by
 induction e with
 |d d=>exact WK h
 |loc l off=>exact h
 |when c e ih=>exact⟨fun hc=>ih (h.1 hc),h.2⟩
theorem ZqR{g k w b ds}(h:YM g w b ds):YM (g.keep k) w b ds:=by
 obtain⟨hp,vs,T,h1,h2,h4,h5⟩:=h
 exact⟨hp,vs,T,h1,h2,fun i v d hv hd=>WK (h4 i v d hv hd),h5⟩
theorem ZmQ{g k w b o}(h:WD g w b o):WD (g.keep k) w b o:=by
 cases o with
 |cells ds=>exact ZqR h
 |map es =>
  obtain⟨hp0,en,clock,h1,h2,h3,h4,h5,h6⟩:=h
  exact⟨hp0,en,clock,h1,h2,fun i x d hv hd=>WK (h3 i x d hv hd),fun i x d hv hd=>WK (h4 i x d hv hd),h5,h6⟩
 |tip n=>exact h
 |mapE kp es kk n =>
  obtain⟨hp0,io,hio,en,clock,h1,h2,h3,h4,h5,h6,h7⟩:=h
  exact⟨hp0,io,hio,en,clock,h1,h2,fun i x d hi hv hd=>WK (h3 i x d hi hv hd),fun i x d hi hv hd=>WK (h4 i x d hi hv hd),fun e he=>⟨WK (h5 e he).1,(h5 e he).2⟩,h6,h7⟩
 |loop r st =>
  obtain⟨hp,l,h1,h2,h3,h4,h5,h6,h7,h8,h9⟩:=h
  exact⟨hp,l,h1,h2,h3,h4,h5,h6,h7,fun t e he=>ZwA (h8 t e he),h9⟩
 |dfr=>exact h
theorem ZG.imp{α β R S}{as9:List α}{bs:List β}(h:ZG R as9 bs)(hi:∀a b,R a b→S a b):ZG S as9 bs:=by
 induction h with
 |nil=>exact .nil
 |cons h _ ih=>exact .cons (hi _ _ h) ih
theorem Zrm{s t:St}(hd:ZJ s t)(h:Yb g (s.or t) w):Yb (g.keep fun b=>g.kept b∨(t b).isSome) s w:={
 obj b o hb:=ZmQ (h.obj b o (Zh hb))
 kept b o hb:=by
  rintro(hk|hk)
  ·exact h.kept b o (Zh hb) hk
  ·obtain⟨x,hx⟩:=Option.isSome_iff_exists.1 hk
   rw[hd b x hx]at hb;simp at hb
 fresh b hb:=by
  have h1:=h.fresh b hb
  refine⟨h1.1,?_⟩
  rintro(hk|hk)
  ·exact h1.2 hk
  ·obtain⟨x,hx⟩:=Option.isSome_iff_exists.1 hk
   have:=(h.obj b x (by rw[Zl (hd b x hx)];exact hx)).lt
   omega
 tabs n cs hc:=WK (h.tabs n cs hc) }
theorem Zo1{g w w' s t Φ e}(hd:ZJ s t)(h:Yb g (s.or t) w)(hp:Zgd (g.keep fun b=>g.kept b∨(t b).isSome) w Φ e w'):
  Zgd g w (fun r S=>∃s',Φ r s'∧ZJ s' t∧S=s'.or t) e w':=by
 obtain⟨g',s',r,he,hs,hr,hΦ⟩:=hp
 have hkeq:=he.keptEq
 have he':Ext g w (g'.keep g.kept) w':=⟨he.size,he.prot,he.cell,he.hdr,fun b hb=>he.kept b (.inl hb),fun b hb=>he.keptProt b (.inl hb),rfl,he.os,he.output,he.tape⟩
 have hd':ZJ s' t:=fun b o hb=>by
  cases hsb:s' b with
  |none=>rfl
  |some x=>exact absurd (by rw[hkeq];exact .inr (by rw[hb];rfl)) (hs.kept b x hsb)
 refine⟨g'.keep g.kept,s'.or t,r,he',⟨fun b o hb=>?_,fun b o hb=>?_,fun b hb=>?_,fun n cs hc=>WK (hs.tabs n cs hc)⟩,?_,s',hΦ,hd',rfl⟩
 ·cases hsb:s' b with
  |some x =>
   rw[Zh hsb]at hb;cases hb
   exact ZmQ (hs.obj b _ hsb)
  |none =>
   rw[Zl hsb]at hb
   have h0:=h.obj b o (by rw[Zl (hd b o hb)];exact hb)
   have hk:(g.keep fun b=>g.kept b∨(t b).isSome).kept b:=.inr (by rw[hb];rfl)
   exact h0.mono he' (he.kept b hk) (he.keptProt b hk)
 ·cases hsb:s' b with
  |some x=>exact fun hk=>hs.kept b x hsb (by rw[hkeq];exact .inl hk)
  |none =>
   rw[Zl hsb]at hb
   exact h.kept b o (by rw[Zl (hd b o hb)];exact hb)
 ·have:=hs.fresh b hb
  exact⟨this.1,fun hk=>this.2 (by rw[hkeq];exact .inl hk)⟩
 ·cases e<;>cases r<;>simp only[Zp5]at hr⊢
  ·exact WK hr
  ·obtain⟨v,h1,h2⟩:=hr;exact⟨v,h1,WK h2⟩
section
variable {P:Program}
theorem Zb.frame{f args s t Φ}(hd:ZJ s t)(h:Zb P f args s Φ):Zb P f args (s.or t) fun r S=>∃s',Φ r s'∧ZJ s' t∧S=s'.or t :=
 ⟨h.1,fun g w vs hs ha=>(h.2 _ w vs (Zrm hd hs) (ha.imp fun _ _=>WK)).mono fun _ _ hp=>Zo1 hd hs hp⟩
theorem WV.frame{f args s t Φ}(hd:ZJ s t)(h:WV P f args s Φ):WV P f args (s.or t) fun r S=>∃s',Φ r s'∧ZJ s' t∧S=s'.or t:=by
 intro g w fv vs hs hf ha
 obtain⟨d,nx,fr,h1,h2,h3,h4⟩:=h _ w fv vs (Zrm hd hs) (WK hf) (ha.imp fun _ _=>WK)
 refine⟨d,nx,fr,h1,h2,h3,fun c cs=>?_⟩
 obtain⟨e,w',h5,h6⟩:=h4 c cs
 exact⟨e,w',Zo1 hd hs h5,h6⟩
end
section
variable {P:Program}
theorem ZhK{an l N r s da db args Φ}(hs:s l=sO (.loop r .ready))(hlen:args.length=r.params.length)(ha:cc P an N r.assign=sO da)(hb:cc P an N r.body=sO db)(hN:r.N=N)(hp:∀t∈r.params,t<N)(h:∀F:Fr P,KL F l Φ→F.b.fn=r.fn→Zs F [.code da,.beginR,.code db] (YZ r.params args r.ρ) [] s):WV P (.fn (.yield l) [] []) args s Φ:=by
 intro g w fv vs hst hf hargs
 cases hf with
 |fn _ fs cs' _ _ hn1 hn2 h1 h2 =>
 obtain rfl:fs=[]:=by simpa using hn1
 obtain⟨hp0,l0,a1,a2,a3,a4,a5,a6,a7,a8,a9,a10⟩:=hst.obj l _ hs
 have hsize:vs.toArray.size=l0.params.size:=by
  have e1:=hargs.len
  have e2:l0.params.toList.length=r.params.length:=by rw[a3]
  simp at e2⊢;omega
 refine⟨_,_,_,by simp[Deferred.ofValue];rfl,by simp[invoke,Instr.yield,Instr.getLoop,QT a1,hsize];rfl,rfl,fun c cs=>?_⟩
 have M:Zt g (fun _=>0) w l0.tmps r.ρ [] s:=⟨hst,fun l cs h=>by simp[Zf]at h,fun l cs h=>by simp[Zf]at h,fun l cs h=>by simp[Zf]at h,fun l l' cs cs' h=>by simp[Zf]at h,a8⟩
 obtain⟨hN',M'⟩:=Zho M hargs hlen (by rw[hN]at *;exact hp) (by rw[←hN];exact a7)
 have:=h (ZaL P an r.fn N l c cs Φ) ⟨an,r.fn,N,c,cs,rfl⟩ rfl [.code r.assign,.beginRound,.code r.body] (.code ha (.beginR (.code hb .nil))) g (fun _=>0) w _ hN' M'
 have hfr:(ZaL P an r.fn N l c cs Φ).b.atR { tmps:=(r.params.zip vs).foldl (fun tmps (x:Nat×Value)=>tmps.setIfInBounds x.1 x.2) l0.tmps,defers:=[] } [.code r.assign,.beginRound,.code r.body] =
   Frame.round l l0.fn ((l0.params.zip vs.toArray).foldl (fun tmps (x:Nat×Value)=>tmps.setIfInBounds x.1 x.2) l0.tmps) l0.assign l0.body .normal:=by
  simp only[Frame.atR,Frame.round,a2,a4,a5,←a3]
  congr 1
  rw[←Array.foldl_toList]
  simp
 have e:(ZaL P an r.fn N l c cs Φ).ds=[]:=rfl
 rw[e,hfr]at this
 have e2:(l0.params.zip vs.toArray).size=l0.params.size:=by simp at hsize⊢;omega
 rw[e2]at this
 exact this
theorem Zh6{F:Fr P}(hr:F.b.roundOf=nO){o ps da db dk ρ L s p fv}(hf:ZC ρ true o=sO (p,.d fv))(hp:p)(ks)(hks:(Yh ρ ks).map (·.1) |>.Nodup)(h:∀q l r,s q=nO→s l=nO→q≠l→r.ρ=Wc ks ρ→r.params=ps→r.fn=F.b.fn→cc P F.an F.N r.assign=sO da→cc P F.an F.N r.body=sO db→r.N=F.N→(∀t∈ps,t<F.N) →
   ∃Ψ,WV P fv [.fn (.yield l) [] []] ((s.upd q .dfr).upd l (.loop r .ready)) Ψ∧(∀d s',Ψ (.ret d) s'→Zib (F.mark q) l r dk ρ L s')∧(∀d s',Ψ (.panic d) s'→YN (F.mark q) ρ L d s')):
  Zs F (.code (.rangeF o ps da db)::dk) ρ L s:=by
 intro k hk
 cases hk with
 | @code _ _ kt _ hc ht =>
 obtain⟨f',ps',a',b',rfl,hf',hps,ha,hb,hlt⟩:=ZoP hc
 intro g ν w tmps hN m
 have hfr:Rep g w _ fv:=Z3 m hf' rfl hf hp F.ds
 have hg1:=JH (g:=g) (w:=w) (.deferred (sO [])) m.st.fresh
 have he1:=hg1.ext m.st.fresh
 obtain⟨hq,m1⟩:=m.newObj hg1 (o:=.dfr) ⟨(m.st.fresh _ (ZEP _)).1,W9 w _⟩
 let w1:=w.alloc (.deferred (sO []))
 let lp:Go.Loop:={ state:=.ready,pending:=nO,fn:=F.b.fn,tmps:=tmps,params:=ps',assign:=a',body:=b',defers:=w.heap.size }
 let r:Zbt:={ fn:=F.b.fn,params:=ps,assign:=a',body:=b',defers:=w.heap.size,ρ:=Wc ks ρ,N:=F.N }
 have hg2:=JH (g:=g) (w:=w1) (.loop lp) m1.st.fresh
 have he2:=hg2.ext m1.st.fresh
 obtain⟨hl,m2⟩:=m1.newObj hg2 (o:=.loop r .ready) ⟨(m1.st.fresh _ (ZEP _)).1,lp,W9 w1 _,rfl,hps,rfl,rfl,rfl,hN,fun t e het=>by
  obtain⟨h1,h2⟩:=ZdD hks het
  exact Zm3 (((m1.env t e (ZcZ ρ ks t e h1))).mono he2) h2,rfl,rfl⟩
 have hqsz:w1.heap.size=w.heap.size+1:=by simp[w1]
 have hl':s w1.heap.size=nO:=by
  have hne:¬w1.heap.size=w.heap.size:=by omega
  have h0:(s.upd w.heap.size .dfr) w1.heap.size=nO:=hl
  simp[ZFc,hne]at h0
  exact h0
 obtain⟨Ψ,hV,hret,hpan⟩:=h w.heap.size w1.heap.size r hq hl' (by omega) rfl rfl rfl ha hb rfl hlt
 have hrep2:Rep g (w1.alloc (.loop lp)) _ fv:=(hfr.mono he1).mono he2
 obtain⟨d,nx,fr,hd1,hd2,hd3,hC⟩:=hV (Zfb g ν L) (w1.alloc (.loop lp)) _ [.func (.yield w1.heap.size) #[] #[]] m2.callSt (Wo hrep2 rfl) (.cons (.fn (.yield w1.heap.size) [] [] [] [] rfl rfl (by simp) (by simp)) .nil)
 have henter:(Instr.enterLoop F.b.fn tmps ps' a' b' F.b.roundOf).run P w=.ok (w1.heap.size,[{ target:=.collected w.heap.size,args:=#[] }]) (w1.alloc (.loop lp)):=by
  rw[hr];simp[Instr.enterLoop,w1,lp]
 have hstep:=ZgF (P:=P) (b:=F.b) (a:=⟨tmps,F.ds⟩) (k:=kt) (cs:=F.cs) henter hd1 hd2 hd3
 obtain⟨e,w',⟨g',s',res,x1,x2,x3,x4⟩,hback⟩:=hC (F.b.atR { tmps:=tmps,defers:=[{ target:=.collected w.heap.size,args:=#[] }]++F.ds } (.inRangeFunc w1.heap.size::kt)) F.cs
 obtain⟨hext,hm⟩:=m2.afterCall x1 x2
 have hext':=(he1.trans he2).trans hext
 cases e with
 |returned v =>
  cases res with
  |panic d=>exact x3.elim
  |ret d =>
   refine F.T.back _ _ _ _ (.head hstep hback) ?_
   exact F.T.ext _ _ _ _ _ hext' (Zm1 (F:=F.mark w.heap.size) ht hN hm (hret d s' x4))
 |panicked ch =>
  cases res with
  |ret d=>exact x3.elim
  |panic d =>
   obtain⟨v,rfl,hv⟩:=x3
   refine F.T.back _ _ _ _ (.head hstep hback) ?_
   exact F.T.ext _ _ _ _ _ hext' (hpan d s' x4 _ _ _ v _ _ hN hm (Wo hv rfl))
 |outgrown=>exact hback.elim
theorem Zl2{F:Fr P}{ρ L d s s'}(hs:s'.sub s)(h:YN F ρ L d s'):YN F ρ L d s :=
 fun g ν w v todo tmps hN m hr=>h g ν w v todo tmps hN (m.sub hs) hr
inductive Oc where
 |next
 |stop (c:Code)
 |pan (d:D)
def Oc.res:Oc→Res
 |.next=>.ret (.bool true)
 |.stop _=>.ret (.bool false)
 |.pan d=>.panic d
def ZgO(P:Program)(y:D)(n:Nat)(args:Nat→List D)(go:Nat→Oc)(A:Nat→St→Prop):Prop :=
 ∀j,j<n→(∀i,i<j→go i=.next)→∀a,A j a→WV P y (args j) a fun r a'=>r=(go j).res∧A (j+1) a'
inductive Zd9(n:Nat)(go:Nat→Oc)(A:Nat→St→Prop)(a:St):Res→Prop where
 |all (h:∀i,i<n→go i=.next) (ha:A n a):Zd9 n go A a (.ret (.tup []))
 |stop (m:Nat) (c:Code) (hm:m<n) (h:∀i,i<m→go i=.next) (hc:go m=.stop c) (ha:A (m+1) a):Zd9 n go A a (.ret (.tup []))
 |pan (m:Nat) (d:D) (hm:m<n) (h:∀i,i<m→go i=.next) (hc:go m=.pan d) (ha:A (m+1) a):Zd9 n go A a (.panic d)
def Zai(P:Program)(fv:D)(n:Nat)(args:Nat→List D)(t:St):Prop :=
 ∀(y:D) (go:Nat→Oc) (A:Nat→St→Prop) (a0:St),ZgO P y n args go A→A 0 a0→ZJ a0 t→WV P fv [y] (a0.or t) fun r S=>∃a,Zd9 n go A a r∧a.sub S
def lpS(q l:Nat)(r:Zbt)(st:LSt):St:=(St.single q .dfr).or (St.single l (.loop r st))
structure Zk9(F:Fr P)(busy:St)(E:Oc→St→Prop):Prop where
 fin:∀{ρ:Env} {L:Loc} {S a:St},E .next a→ZJ a busy→(a.or busy).sub S→Zs F [] ρ L S
 ret:∀{dk:List WL} {ρ:Env} {L:Loc} {S a:St},E (.stop .ret) a→ZJ a busy→(a.or busy).sub S→Zs F (.code .ret::dk) ρ L S
 exit:∀{id:Nat} {dk:List WL} {ρ:Env} {L:Loc} {S a:St},Qw id dk=none→E (.stop (.exit id)) a→ZJ a busy→(a.or busy).sub S→Zs F (.code (.exit id)::dk) ρ L S
 pan:∀{ρ:Env} {L:Loc} {d:D} {S a:St},E (.pan d) a→ZJ a busy→(a.or busy).sub S→YN F ρ L d S
theorem Yy.ex{F:Fr P}{rs Φ dds}(hF:Yy F rs Φ dds):∃f,P.funcs[F.b.fn]?=sO f:=by
 obtain⟨an,f,df,cs,hf,hrs,rfl⟩:=hF
 obtain⟨fn,h,_⟩:=Zp7 hf
 exact⟨fn,h⟩
theorem W3{q l r st}:(lpS q l r st) q=sO .dfr:=Zh (Z4 _ _)
theorem Wr{q l r st}(h:q≠l):(lpS q l r st) l=sO (.loop r st):=by
 unfold lpS;rw[Zl (WO _ (Ne.symm h))];exact Z4 _ _
theorem JR{q l c r st}(h1:c≠q)(h2:c≠l):(lpS q l r st) c=nO:=by
 unfold lpS;rw[Zl (WO _ h1)];exact WO _ h2
theorem Zhi{q l r r' st st' a}(h:ZJ a (lpS q l r st))(hq:q≠l):ZJ a (lpS q l r' st'):=fun b o hb=>by
 by_cases h1:b=q
 ·rw[h1];exact h q _ W3
 ·by_cases h2:b=l
  ·rw[h2];exact h l _ (Wr hq)
  ·rw[JR h1 h2]at hb;grind
theorem Zn8{q l r st st' a S}(hq:q≠l)(hd:ZJ a (lpS q l r st))(hs:(a.or (lpS q l r st)).sub S):(a.or (lpS q l r st')).sub (S.upd l (.loop r st')):=fun b o hb=>by
 by_cases h2:b=l
 ·subst h2
  rw[Zl (hd b _ (Wr hq)),Wr hq]at hb
  rw[St.upd_same];exact hb
 ·rw[St.upd_ne _ _ h2]
  refine hs b o ?_
  by_cases h1:b=q
  ·subst h1
   rw[Zl (hd b _ W3),W3]at hb⊢;exact hb
  ·cases ha:a b with
   |some x=>rw[Zh ha]at hb⊢;exact hb
   |none=>rw[Zl ha,JR h1 h2]at hb;grind
theorem ZkU{F:Fr P}{q l:Nat}{r:Zbt}(hF:KL F l Φ)(hq:q≠l)(hex:∃f,P.funcs[F.b.fn]?=sO f){E:Oc→St→Prop}(hΦ:∀oc a,E oc a→ZJ a (lpS q l r .busy)→Φ oc.res (a.or (lpS q l r (match oc with|.next=>.ready|.stop c=>.done c|.pan _=>.busy)))):Zk9 F (lpS q l r .busy) E:={
 fin he hd hs:=hF.fin (s':=_) (hs l _ (by rw[Zl (hd l _ (Wr hq))];exact Wr hq)) (Zn8 hq hd hs) (hΦ .next _ he hd)
 ret he hd hs:=hF.ret (hs l _ (by rw[Zl (hd l _ (Wr hq))];exact Wr hq)) (Zn8 hq hd hs) (hΦ (.stop .ret) _ he hd)
 exit hx he hd hs:=hF.exit hx (hs l _ (by rw[Zl (hd l _ (Wr hq))];exact Wr hq)) (Zn8 hq hd hs) (hΦ (.stop (.exit _)) _ he hd)
 pan he hd hs:=hF.pan hs (hΦ (.pan _) _ he hd) fun an fn N c cs e=>by
  obtain⟨f,hf⟩:=hex
  refine⟨f,?_⟩
  have:F.b.fn=fn:=by rw[e];rfl
  rw[←this];exact hf }
theorem ZtU{F:Fr P}{rs}{Φ}{dds}(hF:Yy F rs Φ dds){o}{ps}{da db}{dk}{ρ}{L}{p}{fv}(hf:ZC ρ true o=sO (p,.d fv))(hp:p)(ks)(hks:(Yh ρ ks).map (·.1) |>.Nodup){a0 t}(hd:ZJ a0 t){n}{args}(hit:Zai P fv n args t)(hlen:∀j,j<n→(args j).length=ps.length)(go:Nat→Oc)(B:Nat→St→Prop)(h0:B 0 a0)(hbody:∀j a,j<n→(∀i,i<j→go i=.next)→B j a→∀(F':Fr P) (ready busy:St),ZJ a ready →
   (∀{dk:List WL} {ρ:Env} {L:Loc},(ZJ a busy→Zs F' dk ρ L (a.or busy))→Zs F' (.beginR::dk) ρ L (a.or ready)) →
   Zk9 F' busy (fun oc a'=>oc=go j∧B (j+1) a')→Zs F' [.code da,.beginR,.code db] (YZ ps (args j) (Wc ks ρ)) [] (a.or ready))(hall:∀q a,(∀i,i<n→go i=.next)→B n a→a q=nO→Zs (F.mark q) dk ρ L (a.upd q .dfr))(hret:∀q a m,m<n→(∀i,i<m→go i=.next)→go m=.stop .ret→B (m+1) a→a q=nO→Zs (F.mark q) (.code .ret::dk) ρ L (a.upd q .dfr))(hexit:∀q a m id,m<n→(∀i,i<m→go i=.next)→go m=.stop (.exit id)→B (m+1) a→a q=nO→Zs (F.mark q) (.code (.exit id)::dk) ρ L (a.upd q .dfr))(hpan:∀q a m d,m<n→(∀i,i<m→go i=.next)→go m=.pan d→B (m+1) a→a q=nO→YN (F.mark q) ρ L d (a.upd q .dfr))(hgo:∀m c,go m=.stop c→c=.ret∨∃id,c=.exit id):
  Zs F (.code (.rangeF o ps da db)::dk) ρ L (a0.or t):=by
 refine Zh6 hF.roundOf hf hp ks hks fun q l r hq hl hql hr1 hr2 hr3 hca hcb hr4 hps=>?_
 have hq1:a0 q=nO:=by cases h:a0 q with|none=>rfl|some x=>rw[Zh h]at hq;simp at hq
 have hl1:a0 l=nO:=by cases h:a0 l with|none=>rfl|some x=>rw[Zh h]at hl;simp at hl
 have hq2:t q=nO:=by rw[Zl hq1]at hq;exact hq
 have hl2:t l=nO:=by rw[Zl hl1]at hl;exact hl
 let stOf:Nat→LSt:=fun j=>match j with
  |0=>.ready
  |j+1=>match go j with
   |.next=>.ready
   |.stop c=>.done c
   |.pan _=>.busy
 let A:Nat→St→Prop:=fun j S=>∃a,B j a∧ZJ a (lpS q l r .ready)∧S=a.or (lpS q l r (stOf j))
 have hd0:ZJ a0 (lpS q l r .ready):=fun b o hb=>by
  by_cases h1:b=q
  ·rw[h1];exact hq1
  ·by_cases h2:b=l
   ·rw[h2];exact hl1
   ·rw[JR h1 h2]at hb;simp at hb
 have hst:(((a0.or t).upd q .dfr).upd l (.loop r .ready))=(a0.or (lpS q l r .ready)).or t:=by
  funext b
  simp only[ZFc]
  by_cases h2:b=l
  ·subst h2;rw[if_pos rfl,Zh (s:=a0.or _) (by rw[Zl hl1];exact Wr hql)]
  ·rw[if_neg h2]
   by_cases h1:b=q
   ·subst h1;rw[if_pos rfl,Zh (s:=a0.or _) (by rw[Zl hq1];exact W3)]
   ·rw[if_neg h1]
    cases ha:a0 b with
    |some x=>rw[Zh ha,Zh (Zh ha)]
    |none=>rw[Zl ha,Zl (s:=a0.or _) (by rw[Zl ha];exact JR h1 h2)]
 have hd1:ZJ (a0.or (lpS q l r .ready)) t:=fun b o hb=>by
  rw[Zl (hd b o hb)]
  exact JR (fun e=>by rw[e,hq2]at hb;simp at hb) (fun e=>by rw[e,hl2]at hb;simp at hb)
 have hex:=hF.ex
 have hcons:ZgO P (.fn (.yield l) [] []) n args go A:=by
  rintro j hj hnx S ⟨a,hBj,hda,rfl⟩
  have hsj:stOf j=.ready:=by
   cases j with
   |zero=>rfl
   |succ j=>simp only[stOf,hnx j (by omega)]
  rw[hsj]
  refine ZhK (an:=F.an) (N:=F.N) (r:=r) (by rw[Zl (hda l _ (Wr hql))];exact Wr hql) (by rw[hr2];exact hlen j hj) hca hcb hr4 (by rw[hr2];exact hps) fun F' hF' hfn=>?_
  rw[hr1,hr2]
  refine hbody j a hj hnx hBj F' (lpS q l r .ready) (lpS q l r .busy) hda (fun hk=>hF'.begin (r:=r) (by rw[Zl (hda l _ (Wr hql))];exact Wr hql) ?_) ?_
  ·have e:(a.or (lpS q l r .ready)).upd l (.loop r .busy)=a.or (lpS q l r .busy):=by
    funext b
    simp only[ZFc]
    by_cases h2:b=l
    ·subst h2;rw[if_pos rfl,Zl (hda b _ (Wr hql)),Wr hql]
    ·rw[if_neg h2]
     by_cases h1:b=q
     ·subst h1;rw[Zl (hda b _ W3),Zl (hda b _ W3),W3,W3]
     ·cases ha:a b with
      |some x=>rw[Zh ha,Zh ha]
      |none=>rw[Zl ha,Zl ha,JR h1 h2,JR h1 h2]
   rw[e];exact hk (Zhi hda hql)
  ·refine ZkU hF' hql (by rw[hfn,hr3];exact hex) ?_
   rintro oc a' ⟨rfl,hB'⟩ hda'
   exact⟨rfl,a',hB',Zhi hda' hql,rfl⟩
 refine⟨_,by rw[hst];exact hit _ go A _ hcons ⟨a0,h0,hd0,rfl⟩ hd1,?_,?_⟩
 ·rintro d S ⟨S',hend,hsub⟩
  have fin:∀a,ZJ a (lpS q l r .ready)→∀st,(a.or (lpS q l r st)).sub S→S l=sO (.loop r st)∧(a.upd q .dfr).sub (S.del l)∧a q=nO:=fun a hda st hs=>by
   refine⟨hs l _ (by rw[Zl (hda l _ (Wr hql))];exact Wr hql),fun b o hb=>?_,hda q _ W3⟩
   have hbl:b≠l:=fun e=>by
    subst e
    rw[St.upd_ne _ _ (Ne.symm hql),hda b _ (Wr hql)]at hb;simp at hb
   simp only[St.del,hbl,if_false]
   by_cases h1:b=q
   ·subst h1;rw[St.upd_same]at hb;exact hs b o (by rw[Zl (hda b _ W3),W3];exact hb)
   ·rw[St.upd_ne _ _ h1]at hb;exact hs b o (Zh hb)
  cases hend with
  |all h ha =>
   obtain⟨a,hB,hda,rfl⟩:=ha
   have hsn:stOf n=.ready:=by
    cases n with
    |zero=>rfl
    |succ n=>simp only[stOf,h n (by omega)]
   rw[hsn]at hsub
   obtain⟨f1,f2,f3⟩:=fin a hda _ hsub
   exact .inl ⟨f1,Kk f2 (hall q a h hB f3)⟩
  |stop m c hm h hc ha =>
   obtain⟨a,hB,hda,rfl⟩:=ha
   have hsn:stOf (m+1)=.done c:=by simp only[stOf,hc]
   rw[hsn]at hsub
   obtain⟨f1,f2,f3⟩:=fin a hda _ hsub
   rcases hgo m c hc with rfl|⟨id,rfl⟩
   ·exact .inr ⟨.ret,.ret,f1,rfl,Kk f2 (hret q a m hm h hc hB f3)⟩
   ·exact .inr ⟨.exit id,.exit id,f1,rfl,Kk f2 (hexit q a m id hm h hc hB f3)⟩
 ·rintro d S ⟨S',hend,hsub⟩
  cases hend with
  |pan m d hm h hc ha =>
   obtain⟨a,hB,hda,rfl⟩:=ha
   have hs:(a.upd q .dfr).sub S:=fun b o hb=>by
    by_cases h1:b=q
    ·subst h1;rw[St.upd_same]at hb;exact hsub b o (by rw[Zl (hda b _ W3),W3];exact hb)
    ·rw[St.upd_ne _ _ h1]at hb;exact hsub b o (Zh hb)
   exact Zl2 hs (hpan q a m d hm h hc hB (hda q _ W3))
end
end Go.DL
namespace Go.DL
open Go Go.Lib
variable [Zqy]
section
variable {P:Program}
theorem Zds{F:Fr P}{kp dk o os ρ L s}(hg:Zk ρ o.guard=sO true){e sz b z x y}(hk:o.k=.append e sz b z x y)
  {p q t n m row row2 dy dx} (hx:ZC ρ true x=sO (p,.d dx)) (hsl:Zdf sz dx=sO (t,n,row)) (hy:ZC ρ true y=sO (q,.d dy)) (hp:p) (hq:q) (hel:∀g w v,Rep g w v dy→∃news,WP g w sz m news row2∧ZaX P w sz m v news) (hok:t.okIn s)
  (hb:(n+m)*b≤140737488355328) (hbig:n+m≤big) (h:∀t':Tok,t'.okIn s→DO F kp dk os (Zv ρ o.dst (.d (.sl t' (n+m) sz (YJ n row row2)))) L (s.own t' ((n+m)*sz))) :
  DO F kp dk (o::os) ρ L (s.own t (n*sz)):=by
 refine Wa fun oo g ν w tmps ops i r k hoo hck hcg hdst hd hN M hr hkk=>?_
 have hw:=Z8 M hcg hg
 have hnd:=Yc hck (by rw[hk];rfl)
 rw[hk]at hck
 obtain⟨x',y',args,ats,t1,t2,tu,hop,hargs,ha1,ha2,hu1,hu2,hnu,hsz,hz,hbb,hx',hy',h0,hzl⟩:=Zbv hck
 subst hbb
 have hr1:Rep g w _ (.sl t n sz row):=Zgh (Z3 M hx' rfl hx hp F.ds) hsl
 have hr2:Rep g w _ _:=Z3 M hy' rfl hy hq F.ds
 obtain⟨zv,hz1,hz2,hz3,ie,hie,hzz⟩:=QJ (g:=g) (w:=w) hz
 have hsize:ie.size=sz:=by simpa[ZS,hie]using hsz
 have hzlen:zv.cells.size=sz:=by have:=hz2.len;simp at this;omega
 have hby:P.bytesOf e=ie.bytes:=by simp[Program.bytesOf,hie]
 rw[hby]at hb
 obtain⟨news,hn1,hn2⟩:=hel _ _ _ hr2
 obtain⟨v',w',g',t',a1,a2,a3,a4,a5,a6,a7⟩:=ZqH (ty:=oo.type) hu1 hu2 hnu hie hzz hsize hzlen h0 M.st hok hr1 hn1 hn2 hb hbig
 have hne:∀l cs,Zf L l=sO cs→t≠.tip (ν l):=fun l cs hl ht=>by
  have:=M.locSt l cs hl
  rw[ht]at this
  simp[St.own,ZFc]at this
 have hsn:∀l cs,Zf L l=sO cs→s (ν l)=nO:=fun l cs hl=>by
  cases hx:s (ν l) with
  |none=>rfl
  |some o=>have:=Y0 (k:=n*sz) hok _ _ hx;rw[M.locSt l cs hl]at this;simp at this
 have mm:Zt g' ν w' tmps ρ L (s.own t' ((n+m)*sz)):=by
  refine⟨a3,fun l cs hl=>(M.loc l cs hl).mono a2 (a6 (ν l) (M.loc l cs hl).lt (hne l cs hl)).1 (a6 (ν l) (M.loc l cs hl).lt (hne l cs hl)).2,fun l cs hl=>by rw[a2.keptEq];exact M.locKept l cs hl,fun l cs hl=>?_,M.inj,fun t e he=>(M.env t e he).mono a2⟩
  cases t' with
  |tip b =>
   have:¬ν l=b:=fun hb=>by
    rcases a7 b rfl with h1|h1
    ·exact hne l cs hl (by rw[hb];exact h1)
    ·have:=(M.loc l cs hl).lt;omega
   simp only[St.own,ZFc,this,if_false];exact hsn l cs hl
  |_=>exact hsn l cs hl
 refine YD hN hoo hdst hd hw hnd (v:=v') (w':=w') (e:=.d (.sl t' (n+m) sz (YJ n row row2))) ?_ a2 mm a5 (h t' a4 ops r k hr hkk)
 have hae:args = #[x',y']:=by apply Array.ext';simpa using hargs
 have hats:∀vs,Builtin.append_ ats oo.type vs=Builtin.append_ #[t1,t2] oo.type vs:=fun vs=>by
  unfold Builtin.append_;simp[ha1,ha2]
 unfold execOp
 simp only[hop,hae,resolve,invoke,builtin,Sem.run_bind,Sem.run_pure,Result.andThen_ok,List.map_toArray,ZEQ,ZE6,hats,a1]
theorem Zfo{g w v b off cap sz}(h:Rep g w v (.msl b off 0 cap sz)):∃news,WP g w sz 0 news (fun _=>[])∧ZaX P w sz 0 v news:=by
 cases h with
 |mslx a _ _ _=>exact⟨[],⟨by simp,fun i hi=>by omega,fun i j v d hi=>by omega,by simp⟩,fun w2=>by simp[Builtin.lenOf],fun w2 _=>by simp[Builtin.firstCells,loadCells,loadCellsFrom]⟩
 |msl _ _ _ _ _ hn hb=>exact⟨[],⟨by simp,fun i hi=>by omega,fun i j v d hi=>by omega,by simp⟩,fun w2=>by simp[Builtin.lenOf],fun w2 _=>run_firstCells_some (P:=P) w2 sz 0 ⟨b,off,nO⟩ 0 cap [] (by simp) (fun k v hv=>by simp at hv)⟩
theorem Zdt{F:Fr P}{dk ρ L s}(t){tk sz row}(ht:ZH ρ t=sO (.d (.sl tk 0 sz row)))(h1:Zs F dk ((t,.d .nilsl)::ρ) L s)
  (h2:∀b off cap,Zs F dk ((t,.d (.msl b off 0 cap sz))::ρ) L s):Zs F dk ρ L s:=by
 intro k hk g ν w tmps hN m
 have hr:Rep g w (tmps.getD t undef) (.sl tk 0 sz row):=m.env t _ ht
 have key:∀d,Rep g w (tmps.getD t undef) d→Zt g ν w tmps ((t,.d d)::ρ) L s:=fun d hd=>⟨m.st,m.loc,m.locKept,m.locSt,m.inj,fun t' e' he=>by
  simp only[ZH]at he
  split at he
  ·rename_i hx;subst hx;simp only[ZEz]at he;subst he;exact hd
  ·exact m.env t' e' he⟩
 generalize tmps.getD t undef=v at hr key
 cases hr with
 |sl0 a _ _ _ _ =>
  cases a with
  |none=>exact h1 k hk g ν w tmps hN (key _ .nilsl)
  |some a=>exact h2 0 0 0 k hk g ν w tmps hN (key _ (.mslx a 0 0 _))
 |sl b o n cap s row t f hl hc hp hr one ht hcap hb=>exact h2 b o cap k hk g ν w tmps hN (key _ (.msl _ _ _ _ _ hcap hb))
end
end Go.DL
namespace Go.DL
open Go
variable [Zqy]
variable {kp:Option (List Nat)}{L:Loc}{ρ:Env}{s:St}{w:World}{os:List DOp}{ds:List D}{B:List (Nat × Rd)}{dst:Option Nat}{tmps:Array Value}{g:G}{Φ:Res→St→Prop}{ν:Nat→Nat}{xs:List Opd}{side:Prop}{row:Nat→List D}
section
variable {P:Program}
theorem ZrH{a:St}{q o}(h:a q=nO):(a.or (St.single q o)).del q=a:=by
 funext b
 simp only[St.del]
 by_cases hb:b=q
 ·rw[if_pos hb,hb,h]
 ·rw[if_neg hb]
  cases ha:a b with
  |some x=>exact Zh ha
  |none=>rw[Zl ha];exact WO _ hb
theorem Yy.retM{F:Fr P}{rs Φ dds}(hF:Yy F rs Φ dds){q a dk ρ L}(hq:a q=nO)(h:Unw P dds nO a (ZjM ρ L rs Φ)):
  Zs (F.mark q) (.code .ret::dk) ρ L (a.or (St.single q .dfr)) :=
 (hF.mark q).retU ⟨by rw[Zl hq];exact Z4 _ _,by rw[ZrH hq];exact h⟩
theorem Yy.ret1{F:Fr P}{rs Φ}(hF:Yy F rs Φ []){q a dk ρ L}(hq:a q=nO){p ds}(d s')(h1:Yk ρ L a rs=sO (p,ds))(h2:p)(h3:(KN ds).Le d)(h4:s'.sub a)(h5:Φ (.ret d) s'):
  Zs (F.mark q) (.code .ret::dk) ρ L (a.or (St.single q .dfr)):=hF.retM hq ⟨p,ds,d,s',h1,h2,h3,h4,h5⟩
theorem Yy.fin1{F:Fr P}{rs Φ}(hF:Yy F rs Φ []){q a ρ L}(hq:a q=nO){p ds}(d s')(h1:Yk ρ L a rs=sO (p,ds))(h2:p)(h3:(KN ds).Le d)(h4:s'.sub a)(h5:Φ (.ret d) s'):
  Zs (F.mark q) [] ρ L (a.or (St.single q .dfr)) :=
 (hF.mark q).finU ⟨by rw[Zl hq];exact Z4 _ _,by rw[ZrH hq];exact⟨p,ds,d,s',h1,h2,h3,h4,h5⟩⟩
theorem Yy.pan1{F:Fr P}{rs Φ}(hF:Yy F rs Φ []){q a ρ L d}(hq:a q=nO)(s')(h4:s'.sub a)(h5:Φ (.panic d) s'):YN (F.mark q) ρ L d (a.or (St.single q .dfr)) :=
 (hF.mark q).panU ⟨by rw[Zl hq];exact Z4 _ _,by rw[ZrH hq];exact⟨d,s',ZEF d,h4,h5⟩⟩
theorem Ziq{a t}(h:ZJ a t){q o}(ht:t q=sO o):a q=nO:=h q o ht
end
section
variable {P:Program}
theorem QZ{F:Fr P}{dk ρ L s b ds ds'}(h:s b=sO (.cells ds))(hl:LeC ds ds')(k:Zs F dk ρ L (s.upd b (.cells ds'))):Zs F dk ρ L s:=by
 intro kk hk g ν w tmps hN m
 have hc:YM g w b ds:=m.st.obj b _ h
 exact k kk hk g ν w tmps hN ⟨m.st.updL (o:=.cells ds') (hc.le hl) (m.st.kept b _ h),m.loc,m.locKept,fun l cs hL=>by
  have hne:ν l≠b:=fun e=>by have:=m.locSt l cs hL;rw[e,h]at this;simp at this
  rw[St.upd_ne _ _ hne];exact m.locSt l cs hL,m.inj,m.env⟩
end
theorem ZwC{s cs r}:∀{len},cs.length=len*s→(∀i,i<len→part cs (i*s) s=r i)→cs=(ZEO len).flatMap r:=by
 intro len hl hr
 have key:∀k,k≤len→cs.take (k*s)=(ZEO k).flatMap r:=by
  intro k
  induction k with
  |zero=>intro _;simp
  |succ k ih =>
   intro hk
   rw[List.range_succ,List.flatMap_append,←ih (by omega),ZE2,Nat.one_mul,List.take_add]
   congr 1
   simp only[List.flatMap_cons,List.flatMap_nil,ZFb]
   rw[←hr k hk];rfl
 have:=key len (ZEP _)
 rw[←hl,ZFa]at this;exact this
theorem ZiC(c:Array Value)(T:TypeId)(hf:∀b,w.heap.size≤b→g.prot b=0∧¬g.kept b):JB g w g (w.drew.alloc (.cells c T)):={
 size:=by simp
 old b hb:=(by first|exact heap_alloc_old w.drew _ b hb|exact heap_alloc_old w.drew _ hb)
 prot b hb:=rfl
 fresh b hb:=by
  have:(w.drew.alloc (.cells c T)).heap.size=w.heap.size+1:=by simp
  rw[this]at hb
  exact(hf b (by omega)).1
 kept:=rfl
 os:=rfl
 output:=rfl
 tape:=rfl }
section
variable {P:Program}
theorem ZyN{g w len s z t e}{parts:List (Nat×Value)}{ds}(hu:P.underlying t=sO (.slice e))(hsz:ZS P e=sO s)(hz:Zae P e=sO z)(hdis:K5 len (parts.map (·.1))=true)(hzl:z.length=s)(hs0:0<s)(hbig:len*s≤2 ^ 24)(hl0:0<len)(hd:ZG (Rep g w) (parts.map (·.2)) ds)(hp:KQ s ds=true):
  ∃cv:Array Value,(Instr.buildSlice t len parts.toArray).run P w=.ok (.slice (sO ⟨w.heap.size,0,nO⟩) len len) (w.alloc (.cells cv e)) ∧
   ZG (Rep g w) cv.toList ((ZEO len).flatMap (Z7 z ((parts.map (·.1)).zip ds)))∧∀v∈cv,v.one1=true:=by
 obtain⟨zv,hz1,hz2,hz3,ie,hie,hzz⟩:=QJ (g:=g) (w:=w) hz
 have hsize:ie.size=s:=by simpa[ZS,hie]using hsz
 have hzlen:zv.cells.size=s:=by have:=hz2.len;simp at this;omega
 have hn:(parts.map (·.1)).length=ds.length:=by have:=hd.len;simpa using this
 let c0:Array Value:=(Array.range (len*s)).map (zv.cells[· % zv.cells.size]!)
 let d0:List D:=(ZEO (len*s)).map fun i=>z.getD (i % s) .undef
 have hrep0:ZG (Rep g w) c0.toList d0:=by
  refine Ya (by simp[c0,d0]) (fun i v d hv hd=>?_)
  simp only[c0,d0,Array.toList_map,Array.toList_range,List.getElem?_map,ZEN]at hv hd
  obtain⟨a,ha,rfl⟩:=hv
  obtain⟨b,hb,rfl⟩:=hd
  rw[ha]at hb
  simp only[ZEz]at hb
  subst hb
  have hlt:a % s<s:=Nat.mod_lt _ hs0
  refine hz2.get (a % s) _ _ ?_ ?_
  ·rw[hzlen];simp[getElem!_pos,hzlen,hlt]
  ·simp[ZES,hzl,hlt]
 have hone0:∀v∈c0,v.one1=true:=fun v hv=>by
  simp only[c0,Array.mem_map]at hv
  obtain⟨a,_,rfl⟩:=hv
  have hlt:a % zv.cells.size<zv.cells.size:=Nat.mod_lt _ (by omega)
  rw[getElem!_pos zv.cells (a % zv.cells.size) hlt]
  exact hz3 _ (Array.getElem_mem hlt)
 have hlen0:d0.length=len*s:=by simp[d0]
 obtain⟨cs,hfill,hcl,hrows⟩:=Zix (parts.map (·.1)) ds d0 hdis hn hp hlen0
 obtain⟨cv,hf1,hf2,hf3⟩:=Zgm (g:=g) (w:=w) (fun i=>sO (i*s,s)) parts ((parts.map (·.1)).map fun i=>(i*s,s)) ds cs d0 c0 (fun i x q hx hq=>by
  simp only[List.map_map,List.getElem?_map,hx,ZE4,ZEz,Function.comp_def]at hq
  rw[←hq]) (by simp) hd hrep0 hone0 hfill
 have hpos:¬len*s=0:=by simp[Nat.mul_eq_zero];omega
 have hrun:=run_buildSlice (P:=P) w t e len parts.toArray cv ie zv hu hie hzz (by rw[hsize];omega) (by rw[hsize];exact hpos) (by rw[hsize];exact hf1)
 refine⟨cv,hrun,?_,hf3⟩
 have:cs=(ZEO len).flatMap (Z7 z ((parts.map (·.1)).zip ds)):=ZwC hcl fun i hi=>by
  rw[hrows i hi]
  have hzp:part d0 (i*s) s=z:=ZjG hzl hs0 hi
  rw[hzp]
 rw[←this];exact hf2
theorem Zs6{F:Fr P}{kp dk o os ρ L s}(hg:Zk ρ o.guard=sO true){len n z is xs}(hk:o.k=.bsl len n z is xs){p es ds}(ha:Z2 ρ true xs=sO (p,es))(hds:W6 es=sO ds)(hp:p)(hok:KQ n ds=true)(hl0:0<len)(h:∀b,s b=nO→DO F kp dk os (Zv ρ o.dst (.d (.msl b 0 len len n))) L (s.upd b (.cells ((ZEO len).flatMap (Z7 z (is.zip ds)))))):DO F kp dk (o::os) ρ L s:=by
 refine Wa fun oo g ν w tmps ops i r k hoo hck hcg hdst hd hN m hr hkk=>?_
 have hw:=Z8 m hcg hg
 have hnd:=Yc hck (by rw[hk];rfl)
 rw[hk]at hck
 obtain⟨t,e,parts,hop,hu,hsz,hz,hxs,rfl,hdis,hzl,hs0,hbig⟩:=ZvE hck
 have hargs:=ZbB m rfl F.ds hxs ha hp
 have hreps:=KH hargs hds
 obtain⟨cv,h1,h2,h3⟩:=ZyN (P:=P) (g:=g) (w:=w) (parts:=parts.toList.map fun x=>(x.1,(Act.mk tmps F.ds).eval x.2)) hu hsz hz (by simpa[List.map_map,Function.comp_def]using hdis) hzl hs0 hbig hl0
  (by simpa[List.map_map,Function.comp_def]using hreps) hok
 have h2':ZG (Rep g w) cv.toList ((ZEO len).flatMap (Z7 z ((parts.toList.map (·.1)).zip ds))):=by simpa[List.map_map,Function.comp_def]using h2
 have hgr:=JH (g:=g) (w:=w) (.cells cv e) m.st.fresh
 have he:=hgr.ext m.st.fresh
 have hob:WD g (w.alloc (.cells cv e)) w.heap.size (.cells ((ZEO len).flatMap (Z7 z ((parts.toList.map (·.1)).zip ds)))) :=
  ⟨(m.st.fresh _ (ZEP _)).1,_,e,W9 w _,by rw[←h2'.len];simp,fun i v d hv hd=>(h2'.get i v d (by simpa using hv) hd).mono he,h3⟩
 obtain⟨hn,m'⟩:=m.newObj hgr hob
 have hrun:(execOp (Act.mk tmps F.ds).eval oo).run P w=.ok (.value (.slice (sO ⟨w.heap.size,0,nO⟩) len len)) (w.alloc (.cells cv e)):=by
  simp only[execOp,hop,Sem.run_bind]
  have e1:(parts.map fun x=>(x.1,(Act.mk tmps F.ds).eval x.2))=(parts.toList.map fun x=>(x.1,(Act.mk tmps F.ds).eval x.2)).toArray:=by apply Array.ext';simp
  rw[e1,h1]
  rfl
 refine YD (L':=L) hN hoo hdst hd hw hnd (e:=.d (.msl w.heap.size 0 len len n)) hrun he m' (Rep.msl _ _ _ _ _ (ZEP _) ?_) ?_
 ·unfold big
  have:len≤len*n:=Nat.le_mul_of_pos_right _ hs0
  omega
 ·exact h _ hn ops r k hr hkk
def Zno(o:DOp)(ρ:Env)(L:Loc)(s:St):SR :=
 match o.k with
 |.bsl _ _ _ _ _=>.stop
 |_=>Zx o ρ L s
def ZjT(K:Env→Loc→St→Prop)(X:List DOp→Env→Loc→St→Prop):List DOp→Env→Loc→St→Prop
 | [],ρ,L,s=>K ρ L s
 |o::os,ρ,L,s=>match Zno o ρ L s with
  |.ok side ρ' L' s'=>side∧ZjT K X os ρ' L' s'
  |.all side pre ρ' s'=>side∧∀b,pre b→ZjT K X os (ρ' b) L (s' b)
  |.stop=>X (o::os) ρ L s
theorem ZjL{F:Fr P}{kp}{dk}:∀{os} {ρ} {L} {s},
  ZjT (fun ρ L s=>Zs F dk (kept kp ρ) (ZjX kp ρ L) s) (fun os ρ L s=>DO F kp dk os ρ L s) os ρ L s→DO F kp dk os ρ L s
 | [],ρ,L,s,h=>Zd7 h
 |o::os,ρ,L,s,h=>by
  have hst:∀r,Zno o ρ L s=r→r=.stop∨Zx o ρ L s=r:=fun r hr=>by
   unfold Zno at hr
   split at hr
   ·exact .inl hr.symm
   ·exact .inr hr
  simp only[ZjT]at h
  split at h
  ·rename_i sd ρ' L' s' h1
   rcases hst _ h1 with h2|h2
   ·cases h2
   ·exact Qg h2 h.1 (ZjL h.2)
  ·rename_i sd pre ρ' s' h1
   rcases hst _ h1 with h2|h2
   ·cases h2
   ·exact ZlY h2 h.1 fun b hb=>ZjL (h.2 b hb)
  ·exact h
theorem Ztc{g w s sz m v1 v2 row row2 tT u ty e tu i z}(ht:P.underlying tT=sO (.slice e))(hu:P.underlying u=sO tu)(hnu:∀k,tu≠.int k)(hi:P.info? e=sO i)(hz:i.zero=sO z)(hsz:i.size=sz)(hzc:z.cells.size=sz)(hone:∀x∈z.cells,x.one1=true)(h0:0<sz)(hs:Yb g s w)(h1:Rep g w v1 (.sl .full 0 sz row)){news}(hm:0<m)(h2:WP g w sz m news row2)(h3:ZaX P w sz m v2 news)(hb:m*i.bytes≤140737488355328)(hbig:m≤big):
    ∃(cap:Nat) (cv:Array Value),(Builtin.append_ #[tT,u] ty #[v1,v2]).run P w=.ok (.slice (sO ⟨w.heap.size,0,nO⟩) m cap) (w.drew.alloc (.cells cv e))∧m≤cap∧cap≤big∧cv.size=cap*sz∧(∀v∈cv,v.one1=true) ∧
      ∀(k:Nat) (v d),cv[k]?=sO v→((ZEO m).flatMap row2++List.replicate ((cap-m)*sz) .any)[k]?=sO d→Rep g w v d:=by
  subst hsz
  have grown:∀base,v1=.slice base 0 0→∃(cap:Nat) (cv:Array Value),(Builtin.append_ #[tT,u] ty #[v1,v2]).run P w=.ok (.slice (sO ⟨w.heap.size,0,nO⟩) m cap) (w.drew.alloc (.cells cv e))∧m≤cap∧cap≤big∧cv.size=cap*i.size∧(∀v∈cv,v.one1=true) ∧
      ∀(k:Nat) (v:Value) (d:D),cv[k]?=sO v→((ZEO m).flatMap row2++List.replicate ((cap-m)*i.size) .any)[k]?=sO d→Rep g w v d:=by
    intro base hv
    subst hv
    obtain⟨olds,hr1,ho1,ho2⟩:=Zhs (P:=P) h1 h0
    have hne:olds=[]:=List.eq_nil_of_length_eq_zero (by simpa using hr1.len)
    subst hne
    have ho:=ho2
    have hrun:=Zlg (ty:=ty) (n:=0) (cap:=0) ht hu hnu hi hz h3 ho (by omega) (by simp only[big]at hbig;omega) (by rw[Nat.zero_add];exact hb)
    rw[Nat.zero_add]at hrun
    have hge:=grownCap_ge w m 0 e
    have hle:=grownCap_le_maxLen w m 0 e (by simp only[big]at hbig;simp only[maxLen];omega)
    refine⟨_,_,hrun,hge,by simp only[maxLen]at hle;simp only[big];omega,?_,fun v hv=>?_,fun k v d hv hd=>?_⟩
    · simp only[List.nil_append,List.size_toArray,ZEM,h2.len,Array.length_toList,size_zeroCells,hzc,←ZE2]
      congr 1;omega
    · simp only[List.nil_append,List.mem_toArray,List.mem_append]at hv
      rcases hv with hv|hv
      · exact h2.one v hv
      · simp only[Builtin.zeroCells,Array.mem_toList_iff]at hv
        first
        | (simp only[Array.mem_map,Array.mem_range]at hv
           obtain⟨a,_,rfl⟩:=hv
           have hlt:a % z.cells.size<z.cells.size:=Nat.mod_lt _ (by omega)
           rw[getElem!_pos z.cells (a % z.cells.size) hlt]
           exact hone _ (Array.getElem_mem hlt))
    · simp only[List.nil_append,List.getElem?_toArray]at hv
      have hfl:((ZEO m).flatMap row2).length=m*i.size:=by
        have:∀k,k≤m→((ZEO k).flatMap row2).length=k*i.size:=by
          intro k
          induction k with
          |zero=>intro _;simp
          |succ k ih =>
            intro hk
            rw[List.range_succ,List.flatMap_append,ZEM,ih (by omega)]
            simp[h2.rlen k hk,ZE2]
        exact this m (ZEP _)
      by_cases hk:k<m*i.size
      · rw[ZE7 (by rw[h2.len];exact hk)]at hv
        rw[ZE7 (by rw[hfl];exact hk)]at hd
        have hqr:k / i.size<m:=Nat.div_lt_of_lt_mul (by rw[Nat.mul_comm];exact hk)
        have hmr:k % i.size<i.size:=Nat.mod_lt _ h0
        have e1:k / i.size*i.size+k % i.size=k:=by rw[Nat.mul_comm];exact Nat.div_add_mod k i.size
        refine h2.rep (k / i.size) (k % i.size) v d hqr hmr (by rw[e1];exact hv) ?_
        have key:∀q,q≤m→∀a b,a<q→b<i.size→((ZEO q).flatMap row2)[a*i.size+b]?=(row2 a)[b]?:=by
          intro q
          induction q with
          |zero=>intro _ a b ha;omega
          |succ q ih =>
            intro hq a b ha hb
            have hlq:((ZEO q).flatMap row2).length=q*i.size:=by
              have:∀k,k≤m→((ZEO k).flatMap row2).length=k*i.size:=by
                intro k
                induction k with
                |zero=>intro _;simp
                |succ k ih =>
                  intro hk
                  rw[List.range_succ,List.flatMap_append,ZEM,ih (by omega)]
                  simp[h2.rlen k hk,ZE2]
              exact this q (by omega)
            rw[List.range_succ,List.flatMap_append]
            by_cases haq:a<q
            · have:a*i.size+b<q*i.size:=by
                have:=ZEW i.size (show a+1≤q from haq)
                rw[ZE2,Nat.one_mul]at this;omega
              rw[ZE7 (by rw[hlq];exact this)]
              exact ih (by omega) a b haq hb
            · obtain rfl:a=q:=by omega
              rw[ZFj (by rw[hlq];omega),hlq]
              simp
        rw[←key m (ZEP _) _ _ hqr hmr,e1];exact hd
      · rw[ZFj (by rw[hfl];omega),List.getElem?_replicate]at hd
        split at hd
        · simp only[ZEz]at hd;subst hd;exact .any v
        · simp at hd
  cases h1 with
  |sl0 a t s row htt=>exact grown a rfl
  |sl b o n cap sz row t f hl hc hp hr one htok hcap hb' =>
    simp only[ZjO]at htok
    subst htok
    exact grown _ rfl
theorem Zs5{F:Fr P}{kp dk o os ρ L s}(hg:Zk ρ o.guard=sO true){e sz b z x y}(hk:o.k=.append e sz b z x y){p q m row row2 dy dx}(hx:ZC ρ true x=sO (p,.d dx))(hsl:Zdf sz dx=sO (.full,0,row))(hy:ZC ρ true y=sO (q,.d dy))(hel:Zaq sz dy=sO (m,row2))(hp:p)(hq:q)(hm:0<m)(hb:m*b≤140737488355328)(hbig:m≤big)(h:∀c cap,s c=nO→m≤cap→DO F kp dk os (Zv ρ o.dst (.d (.msl c 0 m cap sz))) L (s.upd c (.cells ((ZEO m).flatMap row2++List.replicate ((cap-m)*sz) .any)))):
  DO F kp dk (o::os) ρ L s:=by
 refine Wa fun oo g ν w tmps ops i r k hoo hck hcg hdst hd hN M hr hkk=>?_
 have hw:=Z8 M hcg hg
 have hnd:=Yc hck (by rw[hk];rfl)
 rw[hk]at hck
 obtain⟨x',y',args,ats,t1,t2,tu,hop,hargs,ha1,ha2,hu1,hu2,hnu,hsz,hz,hbb,hx',hy',h0,hzl⟩:=Zbv hck
 subst hbb
 have hr1:Rep g w _ (.sl .full 0 sz row):=Zgh (Z3 M hx' rfl hx hp F.ds) hsl
 have hr2:Rep g w _ _:=Z3 M hy' rfl hy hq F.ds
 obtain⟨zv,hz1,hz2,hz3,ie,hie,hzz⟩:=QJ (g:=g) (w:=w) hz
 have hsize:ie.size=sz:=by simpa[ZS,hie]using hsz
 have hzlen:zv.cells.size=sz:=by have:=hz2.len;simp at this;omega
 have hby:P.bytesOf e=ie.bytes:=by simp[Program.bytesOf,hie]
 rw[hby]at hb
 obtain⟨news,hn1,hn2⟩:=Zln (P:=P) hr2 hel h0
 obtain⟨cap,cv,a1,a2,a3,a4,a5,a6⟩:=Ztc (ty:=oo.type) hu1 hu2 hnu hie hzz hsize hzlen hz3 h0 M.st hr1 hm hn1 hn2 hb hbig
 have hgr:JB g w g (w.drew.alloc (.cells cv e)):=ZiC (g:=g) (w:=w) cv e M.st.fresh
 have he:=hgr.ext M.st.fresh
 have hfl:((ZEO m).flatMap row2).length=m*sz:=by
  have:∀k,k≤m→((ZEO k).flatMap row2).length=k*sz:=by
   intro k
   induction k with
   |zero=>intro _;simp
   |succ k ih =>
    intro hk
    rw[List.range_succ,List.flatMap_append,ZEM,ih (by omega)]
    simp[hn1.rlen k hk,ZE2]
  exact this m (ZEP _)
 have hob:WD g (w.drew.alloc (.cells cv e)) w.heap.size (.cells ((ZEO m).flatMap row2++List.replicate ((cap-m)*sz) .any)) :=
  ⟨(M.st.fresh _ (ZEP _)).1,_,e,W9 w.drew _,by rw[ZEM,hfl,List.length_replicate,a4,←ZE2];congr 1;omega,fun i v d hv hd=>(a6 i v d hv hd).mono he,a5⟩
 obtain⟨hn,m'⟩:=M.newObj hgr hob
 refine YD (L':=L) hN hoo hdst hd hw hnd (e:=.d (.msl w.heap.size 0 m cap sz)) ?_ he m' (Rep.msl _ _ _ _ _ a2 a3) (h _ cap hn a2 ops r k hr hkk)
 have hae:args = #[x',y']:=by apply Array.ext';simpa using hargs
 have hats:∀vs,Builtin.append_ ats oo.type vs=Builtin.append_ #[t1,t2] oo.type vs:=fun vs=>by
  unfold Builtin.append_;simp[ha1,ha2]
 unfold execOp
 simp only[hop,hae,resolve,invoke,builtin,Sem.run_bind,Sem.run_pure,Result.andThen_ok,List.map_toArray,ZEQ,ZE6,hats,a1]
end
def ZtX(g:G)(w:World)(b:Nat)(ds:List D):Prop :=
 ∃(vs:Array Value) (T:TypeId),w.heap[b]?=sO (.cells vs T (0,0))∧vs.size=ds.length∧(∀(i:Nat) (v:Value) (d:D),vs[i]?=sO v→ds[i]?=sO d→Rep g w v d)∧(∀v∈vs,v.one1=true)∧ds.length≤g.prot b
def Ys(t:St)(Ln:List Nat)(d d':D):Prop:=∀g w v,(∀b∈Ln,∀ds,t b=sO (.cells ds)→ZtX g w b ds)→Rep g w v d→Rep g w v d'
inductive LdC(t:St)(Ln:List Nat):List D→List D→Prop where
 |nil:LdC t Ln [] []
 |cons {d d':D} {l l':List D} (h:Ys t Ln d d') (r:LdC t Ln l l'):LdC t Ln (d::l) (d'::l')
theorem Ys.refl{t Ln}(d):Ys t Ln d d:=fun _ _ _ _ h=>h
theorem LdC.refl{t Ln}:∀l:List D,LdC t Ln l l
 | []=>.nil
 |d::l=>.cons (Ys.refl d) (LdC.refl l)
theorem LdC.len{t Ln l l'}(h:LdC t Ln l l'):l.length=l'.length:=by
 induction h with
 |nil=>rfl
 |cons _ _ ih=>simp[ih]
theorem LdC.get{t Ln l l'}(h:LdC t Ln l l'){i:Nat}{d'}(hi:l'[i]?=sO d'):∃d,l[i]?=sO d∧Ys t Ln d d':=by
 induction h generalizing i with
 |nil=>simp at hi
 |cons h1 _ ih =>
  cases i with
  |zero=>simp at hi;subst hi;exact⟨_,rfl,h1⟩
  |succ i=>simpa using ih (by simpa using hi)
theorem Ys.agg{t Ln l l'}(h:LdC t Ln l l'):Ys t Ln (.agg l) (.agg l'):=by
 intro g w v hf hr
 cases hr with
 |agg vs _ hn hc one =>
  refine .agg vs _ (hn.trans h.len) (fun i v d hv hd=>?_) one
  obtain⟨x,hx,hle⟩:=h.get hd
  exact hle g w v hf (hc i v x hv hx)
theorem Ys.msl{t Ln b n cap sz ds row}(hb:b∈Ln)(ht:t b=sO (.cells ds))(hlen:n*sz≤ds.length)(hrow:∀i,i<n→LdC t Ln ((ds.drop (i*sz)).take sz) (row i)):Ys t Ln (.msl b 0 n cap sz) (.sl .none n sz row):=by
 intro g w v hf hr
 obtain⟨vs,T,hh,hsz,hc,one,hp⟩:=hf b hb ds ht
 cases hr with
 |mslx a _ _ _=>exact .sl0 _ _ _ _ (by simp)
 |msl _ _ _ _ _ hcap hbig =>
 have hin:∀i j,i<n→j<sz→i*sz+j<ds.length:=fun i j hi hj=>by
  have:(i+1)*sz≤n*sz:=ZEW _ hi
  rw[ZE2,Nat.one_mul]at this
  omega
 have hget:∀i j,i<n→j<sz→vs[i*sz+j]?=sO (vs.getD (i*sz+j) undef):=fun i j hi hj=>by
  have h1:=hin i j hi hj
  simp only[Array.getD_eq_getD_getElem?,Array.getElem?_eq_getElem (show i*sz+j<vs.size by omega),ZFe]
 have hmem:∀i j,i<n→j<sz→vs.getD (i*sz+j) undef∈vs:=fun i j hi hj=>by
  have h1:=hin i j hi hj
  simp only[Array.getD_eq_getD_getElem?,Array.getElem?_eq_getElem (show i*sz+j<vs.size by omega),ZFe]
  exact Array.getElem_mem _
 have hrl:∀i,i<n→(row i).length=sz:=fun i hi=>by
  rw[←(hrow i hi).len,ZEU,ZFh]
  have:(i+1)*sz≤n*sz:=ZEW _ hi
  rw[ZE2,Nat.one_mul]at this
  omega
 refine .sl b 0 n cap sz row .none (fun i j=>vs.getD (i*sz+j) undef) hrl (fun i j hi hj=>?_) (fun i j hi hj=>?_) (fun i j d hi hd=>?_) (fun i j hi hj=>one _ (hmem i j hi hj)) trivial hcap hbig
 ·rw[Nat.zero_add,Zan hh];exact hget i j hi hj
 ·have:=hin i j hi hj;omega
 ·have hj:j<sz:=by rw[←hrl i hi];exact(List.getElem?_eq_some_iff.1 hd).1
  obtain⟨x,hx,hle⟩:=(hrow i hi).get hd
  rw[ZFg,if_pos hj,List.getElem?_drop]at hx
  exact hle g w _ hf (hc _ _ x (hget i j hi hj) hx)
inductive LdE(t:St)(Ln:List Nat):Env→Env→Prop where
 |nil:LdE t Ln [] []
 |cons {k:Nat} {d d':D} {ρ ρ':Env} (h:Ys t Ln d d') (r:LdE t Ln ρ ρ'):LdE t Ln ((k,.d d)::ρ) ((k,.d d')::ρ')
 |skip {k:Nat} {e:E} {ρ ρ':Env} (r:LdE t Ln ρ ρ'):LdE t Ln ((k,e)::ρ) ((k,e)::ρ')
inductive LdL(t:St)(Ln:List Nat):Loc→Loc→Prop where
 |nil:LdL t Ln [] []
 |cons {k:Nat} {c c':List D} {L L':Loc} (h:LdC t Ln c c') (r:LdL t Ln L L'):LdL t Ln ((k,c)::L) ((k,c')::L')
theorem LdE.get{t Ln ρ ρ'}(h:LdE t Ln ρ ρ'){k e'}(he:ZH ρ' k=sO e'):∃e,ZH ρ k=sO e∧(e=e'∨∃x y,e=.d x∧e'=.d y∧Ys t Ln x y):=by
 induction h with
 |nil=>simp[ZH]at he
 |cons h1 _ ih =>
  rename_i k' d d' ρ ρ' _
  simp only[ZH]at he⊢
  by_cases hk:k'=k
  ·simp only[hk,if_true,ZEz]at he⊢
   exact⟨_,rfl,.inr ⟨d,d',rfl,he.symm,h1⟩⟩
  ·simp only[hk,if_false]at he⊢;exact ih he
 |skip _ ih =>
  rename_i k' e ρ ρ' _
  simp only[ZH]at he⊢
  by_cases hk:k'=k
  ·simp only[hk,if_true,ZEz]at he⊢
   exact⟨_,rfl,.inl he⟩
  ·simp only[hk,if_false]at he⊢;exact ih he
theorem LdL.get{t Ln L L'}(h:LdL t Ln L L'){k c'}(he:Zf L' k=sO c'):∃c,Zf L k=sO c∧LdC t Ln c c':=by
 induction h with
 |nil=>simp[Zf]at he
 |cons h1 _ ih =>
  rename_i k' c c' L L' _
  simp only[Zf]at he⊢
  by_cases hk:k'=k
  ·simp only[hk,if_true,ZEz]at he⊢;exact⟨_,rfl,he▸h1⟩
  ·simp only[hk,if_false]at he⊢;exact ih he
theorem LdL.getI{t Ln L L'}(h:LdL t Ln L L'){k c}(he:Zf L k=sO c):∃c',Zf L' k=sO c':=by
 induction h with
 |nil=>simp[Zf]at he
 |cons h1 _ ih =>
  rename_i k' c c' L L' _
  simp only[Zf]at he⊢
  by_cases hk:k'=k
  ·simp only[hk,if_true];exact⟨_,rfl⟩
  ·simp only[hk,if_false]at he⊢;exact ih he
def St.delL(s:St)(Ln:List Nat):St:=fun b=>if b∈Ln then nO else s b
def QD(g:G)(t:St)(Ln:List Nat):G:={ g with prot:=fun b=>if b∈Ln then (match t b with|some (.cells ds)=>ds.length|_=>0) else g.prot b }
theorem Zas{t:St}{Ln:List Nat}(hs:Yb g t w)(hL:∀b∈Ln,∃ds,t b=sO (.cells ds)):Ext g w (QD g t Ln) w:={
 size:=ZEP _
 prot b:=by
  simp only[QD]
  split
  ·rename_i h
   obtain⟨ds,hd⟩:=hL b h
   have:=(hs.obj b _ hd).1
   omega
  ·exact ZEP _
 cell _ _ _:=rfl
 hdr _ _ h:=h
 kept _ _:=rfl
 keptProt b hb:=by
  simp only[QD]
  split
  ·rename_i h
   obtain⟨ds,hd⟩:=hL b h
   exact absurd hb (hs.kept b _ hd)
  ·rfl
 keptEq:=rfl
 os:=rfl
 output:=rfl
 tape:=rfl }
theorem ZjU{g w t Ln}(hs:Yb g t w)(hL:∀b∈Ln,∃ds,t b=sO (.cells ds)):∀b∈Ln,∀ds,t b=sO (.cells ds)→ZtX (QD g t Ln) w b ds:=by
 intro b hb ds hd
 obtain⟨hp,vs,T,h1,h2,h3,h4⟩:=hs.obj b _ hd
 exact⟨vs,T,h1,h2,fun i v d hv hdd=>(h3 i v d hv hdd).mono (Zas hs hL),h4,by simp only[QD,if_pos hb,hd];exact ZEP _⟩
section
variable {P:Program}
theorem Zqt{F:Fr P}{dk ρ ρ' L L' s}(Ln)(hL:∀b∈Ln,∃ds,s b=sO (.cells ds))(hE:LdE s Ln ρ ρ')(hLL:LdL s Ln L L')(k:Zs F dk ρ' L' (s.delL Ln)):Zs F dk ρ L s:=by
 intro kk hk g ν w tmps hN m
 have hx:=Zas m.st hL
 have hat:=ZjU m.st hL
 have hpe:∀c,c∉Ln→(QD g s Ln).prot c=g.prot c:=fun c hc=>by simp only[QD,if_neg hc]
 refine F.T.ext _ _ _ _ _ hx (k kk hk _ ν w tmps hN ?_)
 have hne:∀l cs,Zf L l=sO cs→ν l∉Ln:=fun l cs hl h=>by
  obtain⟨ds,hd⟩:=hL _ h
  have:=m.locSt l cs hl
  rw[hd]at this;simp at this
 refine⟨⟨fun c x hx'=>?_,fun c x hx'=>?_,fun c hc=>?_,fun n cs hc=>(m.st.tabs n cs hc).mono hx⟩,fun l cs hl=>?_,fun l cs hl=>?_,fun l cs hl=>?_,fun l l' cs cs' h1 h2=>?_,fun t' e he=>?_⟩
 ·simp only[St.delL]at hx'
  by_cases hc:c∈Ln
  ·simp[hc]at hx'
  ·simp only[hc,if_false]at hx';exact(m.st.obj c x hx').mono hx rfl (hpe c hc)
 ·simp only[St.delL]at hx'
  by_cases hc:c∈Ln
  ·simp[hc]at hx'
  ·simp only[hc,if_false]at hx';exact m.st.kept c x hx'
 ·have h1:=m.st.fresh c hc
  refine⟨(hpe c fun h=>?_).trans h1.1,h1.2⟩
  obtain⟨ds,hd⟩:=hL c h
  have:=(m.st.obj c _ hd).lt
  omega
 ·obtain⟨c,hc,hle⟩:=hLL.get hl
  have hc0:=(m.loc l c hc).mono hx rfl (hpe _ (hne l c hc))
  obtain⟨h1,vs,T,h2,h3,h4,h5⟩:=hc0
  refine⟨h1,vs,T,h2,h3.trans hle.len,fun i v d hv hd=>?_,h5⟩
  obtain⟨x,hx1,hx2⟩:=hle.get hd
  exact hx2 _ w v hat (h4 i v x hv hx1)
 ·obtain⟨c,hc,_⟩:=hLL.get hl;exact m.locKept l c hc
 ·obtain⟨c,hc,_⟩:=hLL.get hl
  simp only[St.delL]
  split
  ·rfl
  ·exact m.locSt l c hc
 ·obtain⟨c,hc,_⟩:=hLL.get h1
  obtain⟨c',hc',_⟩:=hLL.get h2
  exact m.inj l l' c c' hc hc'
 ·obtain⟨e0,h0,h1⟩:=hE.get he
  have hr:=m.env t' e0 h0
  rcases h1 with h1|⟨x,y,h1,h2,h3⟩
  ·subst h1
   exact(hr.mono hx).locs fun l cs hl=>⟨(hLL.getI hl),rfl⟩
  ·subst h1;subst h2
   exact h3 _ w _ hat (Rep.mono hr hx)
inductive SC(N:Nat→Prop):D→Prop where
 |int (k:IntKind) (n:Int):SC N (.int k n)
 |bool (b:Bool):SC N (.bool b)
 |str (l:List UInt8):SC N (.str l)
 |nilsl:SC N .nilsl
 |agg (cs:List D) (h:∀c∈cs,SC N c):SC N (.agg cs)
 |tup (cs:List D) (h:∀c∈cs,SC N c):SC N (.tup cs)
 |sl0 (t:Tok) (s:Nat) (row:Nat→List D):SC N (.sl t 0 s row)
 |tip (b n s:Nat) (row:Nat→List D) (hb:N b) (h:∀i,i<n→∀c∈row i,SC N c):SC N (.sl (.tip b) n s row)
 |ptr (b o:Nat):SC N (.ptr b o)
 |msl (b o n cap s:Nat):SC N (.msl b o n cap s)
 |fn (f:Fn) (a b:List D) (ha:∀c∈a,SC N c) (hb:∀c∈b,SC N c):SC N (.fn f a b)
 |nilptr:SC N .nilptr
 |map (b:Nat):SC N (.map b)
 |nilmap:SC N .nilmap
 |nilfn:SC N .nilfn
 |niliface:SC N .niliface
 |undef:SC N .undef
theorem SC.rep{N d}(h:SC N d):∀{g g' w v},(∀b,N b→g.prot b≤g'.prot b)→Rep g w v d→Rep g' w v d:=by
 induction h with
 |int k n=>intro g g' w v _ hr;cases hr with|int _ _ h=>exact .int k n h
 |bool b=>intro g g' w v _ hr;cases hr;exact .bool b
 |str l=>intro g g' w v _ hr;cases hr with|str s _ h hb=>exact .str s l h hb
 |nilsl=>intro g g' w v _ hr;cases hr;exact .nilsl
 |agg cs _ ih =>
  intro g g' w v hp hr
  cases hr with
  |agg vs _ hn hc one=>exact .agg vs cs hn (fun i v d hv hd=>ih d (List.mem_of_getElem? hd) hp (hc i v d hv hd)) one
 |tup cs _ ih =>
  intro g g' w v hp hr
  cases hr with
  |tup vs _ hn hc=>exact .tup vs cs hn (fun i v d hv hd=>ih d (List.mem_of_getElem? hd) hp (hc i v d hv hd))
 |sl0 t s row =>
  intro g g' w v hp hr
  cases hr with
  |sl0 _ _ _ _ ht=>exact .sl0 _ t s row ht
  |sl b o n cap sz _ t f hl hc hpp hrr one ht hcap hb =>
   exact .sl b o 0 cap s row t f hl hc (fun i j hi=>by omega) (fun i j d hi=>by omega) one ht hcap hb
 |tip b n s row hb _ ih =>
  intro g g' w v hp hr
  cases hr with
  |sl0 _ _ _ _ ht=>exact .sl0 _ _ s row ht
  |sl b' o n cap sz _ t f hl hc hpp hrr one ht hcap hbig =>
   have hbb:b'=b:=ht.1
   subst hbb
   exact .sl b' o n cap s row (.tip b') f hl hc (fun i j hi hj=>Nat.lt_of_lt_of_le (hpp i j hi hj) (hp _ hb)) (fun i j d hi hd=>ih i hi d (List.mem_of_getElem? hd) hp (hrr i j d hi hd)) one ht hcap hbig
 |ptr b o=>intro g g' w v _ hr;cases hr;exact .ptr b o
 |msl b o n cap s=>intro g g' w v _ hr;cases hr with|msl _ _ _ _ _ h hb=>exact .msl b o n cap s h hb|mslx a _ _ _=>exact .mslx a _ _ _
 |fn f a b _ _ iha ihb =>
  intro g g' w v hp hr
  cases hr with
  |fn _ fs cs _ _ hnf hnc hf hc=>exact .fn f fs cs a b hnf hnc (fun i v d hv hd=>iha d (List.mem_of_getElem? hd) hp (hf i v d hv hd)) (fun i v d hv hd=>ihb d (List.mem_of_getElem? hd) hp (hc i v d hv hd))
 |nilptr=>intro g g' w v _ hr;cases hr;exact .nilptr
 |map b=>intro g g' w v _ hr;cases hr;exact .map b
 |nilmap=>intro g g' w v _ hr;cases hr;exact .nilmap
 |nilfn=>intro g g' w v _ hr;cases hr;exact .nilfn
 |niliface=>intro g g' w v _ hr;cases hr;exact .niliface
 |undef=>intro g g' w v _ hr;cases hr;exact .undef
def SCO(N:Nat→Prop):W4→Prop
 |.cells ds=>∀d∈ds,SC N d
 |.map es=>∀e∈es,SC N e.1∧SC N e.2
 |.tip _=>True
 |.dfr=>True
 |_=>False
theorem SCO.ok{N o}(h:SCO N o){g g' w b}(hp:∀b,N b→g.prot b≤g'.prot b)(hpb:g'.prot b=g.prot b)(hr:WD g w b o):WD g' w b o:=by
 cases o with
 |cells ds =>
  obtain⟨h0,vs,T,h1,h2,h3,h4⟩:=hr
  exact⟨hpb.trans h0,vs,T,h1,h2,fun i v d hv hd=>(h d (List.mem_of_getElem? hd)).rep hp (h3 i v d hv hd),h4⟩
 |map es =>
  obtain⟨h0,en,cl,h1,h2,h3,h4,h5,h6⟩:=hr
  exact⟨hpb.trans h0,en,cl,h1,h2,fun i x d hv hd=>(h d (List.mem_of_getElem? hd)).1.rep hp (h3 i x d hv hd),fun i x d hv hd=>(h d (List.mem_of_getElem? hd)).2.rep hp (h4 i x d hv hd),h5,h6⟩
 |tip k =>
  obtain⟨h0,x⟩:=hr
  exact⟨hpb.trans h0,x⟩
 |dfr=>exact⟨hpb.trans hr.1,hr.2⟩
 |mapE _ _ _ _=>exact h.elim
 |loop _ _=>exact h.elim
def SCR(N:Nat→Prop):Res→Prop
 |.ret d=>SC N d
 |.panic d=>SC N d
theorem ZG.ldC{g w t Ln}(hf:∀b∈Ln,∀ds,t b=sO (.cells ds)→ZtX g w b ds){vs a a'}(h:ZG (Rep g w) vs a)(hl:LdC t Ln a a'):ZG (Rep g w) vs a':=by
 induction hl generalizing vs with
 |nil=>cases h;exact .nil
 |cons h1 _ ih=>cases h with|cons h2 h3=>exact .cons (h1 _ _ _ hf h2) (ih h3)
theorem Zb.lend{f args args' t Ln Φ}(hL:∀b∈Ln,∃ds,t b=sO (.cells ds))(hl:LdC t Ln args args')(h:Zb P f args' (fun _=>nO) Φ)(hΦ:∀r S,Φ r S→SCR (fun b=>(S b).isSome=true) r∧∀b o,S b=sO o→SCO (fun b=>(S b).isSome=true) o):
  Zb P f args t fun r S=>∃S',Φ r S'∧ZJ S' t∧S=S'.or t:=by
 refine⟨h.1,fun g w vs hs ha=>?_⟩
 have hx:=Zas hs hL
 have hat:=ZjU hs hL
 have ha1:ZG (Rep (QD g t Ln) w) vs args':=ZG.ldC hat (ha.imp fun _ _ h=>Rep.mono h hx) hl
 have hst:Yb ((QD g t Ln).keep fun b=>g.kept b∨(t b).isSome=true) (fun _=>nO) w:=by
  refine⟨fun b o hb=>by simp at hb,fun b o hb=>by simp at hb,fun b hb=>?_,fun n cs hc=>WK ((hs.tabs n cs hc).mono hx)⟩
  have h1:=hs.fresh b hb
  have htb:t b=nO:=by
   cases htb:t b with
   |none=>rfl
   |some o=>have:=(hs.obj b o htb).lt;omega
  have hbL:b∉Ln:=fun hm=>by obtain⟨ds,hd⟩:=hL b hm;rw[htb]at hd;simp at hd
  exact⟨by show(QD g t Ln).prot b=0;simp only[QD,if_neg hbL];exact h1.1,fun hk=>by rcases hk with hk|hk;exact h1.2 hk;rw[htb]at hk;simp at hk⟩
 refine(h.2 _ w vs hst (ha1.imp fun _ _ h=>WK h)).mono fun e w' hp=>?_
 obtain⟨g',S',r,he,hS,hr,hq⟩:=hp
 have hkeq:=he.keptEq
 obtain⟨hscr,hsco⟩:=hΦ r S' hq
 have hd':ZJ S' t:=fun b o hb=>by
  cases hsb:S' b with
  |none=>rfl
  |some x=>exact absurd (by rw[hkeq];exact .inr (by rw[hb];rfl)) (hS.kept b x hsb)
 have hnL:∀b,(S' b).isSome=true→b∉Ln:=fun b hb hm=>by
  obtain⟨ds,hd⟩:=hL b hm
  rw[hd' b _ hd]at hb;simp at hb
 let g2:G:={ prot:=fun b=>if b∈Ln then 0 else g'.prot b,kept:=g.kept }
 have hp2:∀b,(S' b).isSome=true→g'.prot b≤g2.prot b:=fun b hb=>by simp only[g2,if_neg (hnL b hb)];exact ZEP _
 have hf:∀b,b∉Ln→(QD g t Ln).prot b=g.prot b:=fun b hb=>by simp only[QD,if_neg hb]
 have hg0:∀b,b∈Ln→g.prot b=0:=fun b hb=>by obtain⟨ds,hd⟩:=hL b hb;exact(hs.obj b _ hd).1
 have he2:Ext g w g2 w':=by
  refine⟨he.size,fun b=>?_,fun b o ho=>?_,he.hdr,fun b hb=>he.kept b (.inl hb),fun b hb=>?_,rfl,he.os,he.output,he.tape⟩
  ·simp only[g2]
   split
   ·rename_i hb;rw[hg0 b hb];exact ZEP _
   ·rename_i hb;rw[←hf b hb];exact he.prot b
  ·have hb:b∉Ln:=fun hb=>by rw[hg0 b hb]at ho;omega
   exact he.cell b o (by show o<(QD g t Ln).prot b;rw[hf b hb];exact ho)
  ·have hbL:b∉Ln:=fun hm=>by obtain⟨ds,hd⟩:=hL b hm;exact hs.kept b _ hd hb
   simp only[g2,if_neg hbL]
   rw[←hf b hbL];exact he.keptProt b (.inl hb)
 have hg'0:∀b,w'.heap.size≤b→g'.prot b=0∧¬g'.kept b:=fun b hb=>hS.fresh b hb
 refine⟨g2,S'.or t,r,he2,⟨fun b o hb=>?_,fun b o hb=>?_,fun b hb=>?_,fun n cs hc=>(hs.tabs n cs hc).mono he2⟩,?_,S',hq,hd',rfl⟩
 ·cases hsb:S' b with
  |some x =>
   rw[Zh hsb]at hb;cases hb
   have hbN:(S' b).isSome=true:=by rw[hsb];rfl
   exact(hsco b _ hsb).ok hp2 (by simp only[g2,if_neg (hnL b hbN)]) (hS.obj b _ hsb)
  |none =>
   rw[Zl hsb]at hb
   have hk:g.kept b∨(t b).isSome=true:=.inr (by rw[hb];rfl)
   refine(hs.obj b o hb).mono he2 (he.kept b hk) ?_
   by_cases hbL:b∈Ln
   ·simp only[g2,if_pos hbL];exact(hg0 b hbL).symm
   ·simp only[g2,if_neg hbL];rw[←hf b hbL];exact he.keptProt b hk
 ·cases hsb:S' b with
  |some x=>exact fun hk=>hS.kept b x hsb (by rw[hkeq];exact .inl hk)
  |none=>rw[Zl hsb]at hb;exact hs.kept b o hb
 ·have:=hS.fresh b hb
  refine⟨?_,fun hk=>this.2 (by rw[hkeq];exact .inl hk)⟩
  simp only[g2]
  split
  ·rfl
  ·exact this.1
 ·cases e<;>cases r<;>simp only[Zp5]at hr⊢
  ·exact SC.rep hscr hp2 hr
  ·obtain⟨v,h1,h2⟩:=hr;exact⟨v,h1,SC.rep hscr hp2 h2⟩
end
end Go.DL
namespace Go.DL
open Go Go.ChangeShapes Go.RowKit Go.WideShapes Go.ChangeAt
variable [Zqy]
def Zcf(W:World):G:={ prot:=fun b=>match W.heap[b]? with|some (.cells vs _ _)=>vs.size|_=>0,kept:=fun b=>b<W.heap.size }
def Zl4(W:World):Prop:=∀n cs,Zqy.tab n=sO cs→Rep (Zcf W) W (.pointer (sO ⟨n,0,nO⟩)) (.ep cs 0)
theorem ZzH{W:World}(ht:Zl4 W):Yb (Zcf W) (fun _=>nO) W:={
 tabs:=ht
 obj b o h:=by simp at h
 kept b o h:=by simp at h
 fresh b hb:=⟨by simp[Zcf,hb],by simp only[Zcf];omega⟩ }
theorem ZzF{P W name g k}{zs:List Int}(h:W.var? P name=sO (zs.map fun z=>Value.int k z).toArray)(hg:P.globalNamed name=sO g)(hz:∀z∈zs,inR k z) :
  Rep (Zcf W) W (.pointer (sO ⟨g,0,nO⟩)) (.ep (zs.map fun z=>.int k z) 0):=by
 unfold World.var? at h
 rw[hg]at h
 simp only[Option.bind_some]at h
 split at h<;>(try(simp at h;done))
 rename_i cs T fr hh
 simp only[ZEz]at h
 subst h
 have key:∀i (hi:i<zs.length),W.cell? ⟨g,0+i,nO⟩=sO (.int k zs[i]):=fun i hi=>by
  simp only[World.cell?,hh]
  simp[hi]
 refine .ep g 0 0 _ (fun i=>.int k (zs.getD i 0)) (fun i hi=>?_) (fun i hi=>?_) (fun i d hd=>?_) (fun i hi=>rfl)
 ·simp only[List.length_map]at hi
  rw[key i hi];simp[ZES,hi]
 ·simp only[List.length_map]at hi
  simp only[Zcf,hh];simpa using hi
 ·simp only[List.getElem?_map,ZEN]at hd
  obtain⟨z,hz1,rfl⟩:=hd
  simp only[ZES,hz1,ZFe]
  exact .int k z (hz z (List.mem_of_getElem? hz1))
theorem Zyp{P f args}(h:Ze P f args (.bool true)){W}(ht:Zl4 W){vs}(ha:ZG (Rep (Zcf W) W) vs args) :
  Calls P f vs.toArray W fun e W'=>e=.returned (.bool true)∧Below W.heap.size W W':=by
 refine((h (fun _=>nO)).2 _ W vs (ZzH ht) ha).mono fun e W' hp=>?_
 obtain⟨g',s',r,he,hs,hr,hq,_⟩:=hp
 subst hq
 cases e with
 |returned v=>cases hr;exact⟨rfl,he.os,he.tape,he.output,he.size,fun b hb=>he.kept b hb⟩
 |_=>exact hr.elim
section
variable {H:Type} {enc:TypeId × Value→H} {P:Program} {w:World}
def W8(p:Nat→Prop)(enc:TypeId×Value→H)(P:Program)(w:World)(t:TypeId)(R:List D→Prop):Prop :=
 ∀fuel cs x,p fuel→DataW.trod enc P w 0 (fun _=>true) true fuel t cs=sO x→(∀k∈x.1.weights P t,k≤reachBytes)→∃ds,R ds∧ZG (Rep (Zcf w) w) cs ds∧∀v∈cs,v.one1=true
abbrev ZaD(enc:TypeId×Value→H)(P:Program)(w:World)(t:TypeId)(R:List D→Prop):Prop:=W8 (fun _=>True) enc P w t R
variable {p q:Nat→Prop}
theorem Zwb{k n}(h:(Lit.int k n).wf=true):inR k n:=by
 simpa[Lit.wf,inR]using h
theorem Zm2{t k}(ht:P.underlying t=sO (.int k)):W8 p enc P w t fun ds=>∃n,inR k n∧ds=[.int k n]:=by
 intro fuel cs x _ h _
 obtain⟨n,rfl,_,hn⟩:=DataW.trod_int ht h
 exact⟨_,⟨n,Zwb hn,rfl⟩,.cons (.int k n (Zwb hn)) .nil,fun v hv=>by simp at hv;subst hv;rfl⟩
theorem W8.imp{t R R'}(h:W8 p enc P w t R)(hi:∀ds,R ds→R' ds):W8 p enc P w t R':=fun fuel cs x hp hx hw=>by
 obtain⟨ds,h1,h2⟩:=h fuel cs x hp hx hw
 exact⟨ds,hi ds h1,h2⟩
theorem Jz{t k}(ht:P.underlying t=sO (.int k)):W8 p enc P w t fun ds=>∃n,ds=[.int k n]:=(Zm2 ht).imp fun _ ⟨n,_,h⟩=>⟨n,h⟩
theorem ZuV{t}(ht:P.underlying t=sO .bool):W8 p enc P w t fun ds=>∃b,ds=[.bool b]:=by
 intro fuel cs x _ h _
 obtain⟨n,rfl,_⟩:=DataW.trod_bool ht h
 exact⟨_,⟨n,rfl⟩,.cons (.bool n) .nil,fun v hv=>by simp at hv;subst hv;rfl⟩
theorem ZuW{t}(ht:P.underlying t=sO .string):W8 p enc P w t fun ds=>∃s:List UInt8,s.length≤reachBytes∧ds=[.str s]:=by
 intro fuel cs x _ h hw
 obtain⟨s,rfl,rfl,hs⟩:=DataW.trod_string ht h
 refine⟨_,⟨s.data.toList,hw _ (by simp[DataW.weights]),rfl⟩,.cons (.str s _ rfl ?_) .nil,fun v hv=>by simp at hv;subst hv;rfl⟩
 have:s.data.toList.length=s.size:=by rw[Array.length_toList];rfl
 rw[this];simp only[maxLen]at hs;simp only[big];omega
theorem Qf{t}(ht:P.underlying t=sO .string):W8 p enc P w t fun ds=>∃s,ds=[.str s]:=(ZuW ht).imp fun _ ⟨s,_,h⟩=>⟨s,h⟩
theorem ZfG:∀{ts ds} {i:Nat} {t:TypeId} {d:DataW H},ts[i]?=sO t→ds[i]?=sO d→∀k∈d.weights P t,k∈DataW.weightsEach P ts ds
 |t::ts,d::ds,0,_,_,ht,hd,k,hk=>by
  simp only[List.getElem?_cons_zero,ZEz]at ht hd
  subst ht;subst hd
  unfold DataW.weightsEach
  exact List.mem_append_left _ hk
 |t::ts,d::ds,i+1,_,_,ht,hd,k,hk=>by
  unfold DataW.weightsEach
  exact List.mem_append_right _ (ZfG (by simpa using ht) (by simpa using hd) k hk)
 | [],_,_,_,_,ht,_,_,_=>by simp at ht
 |_::_,[],_,_,_,_,hd,_,_=>by simp at hd
theorem ZfF:∀{ts us} {ds gs:List (DataW H)},ds.length=ts.length→∀k∈DataW.weightsEach P ts ds,k∈DataW.weightsEach P (ts++us) (ds++gs)
 | [],_,[],_,_,k,hk=>by simp[DataW.weightsEach]at hk
 |t::ts,us,d::ds,gs,hl,k,hk=>by
  unfold DataW.weightsEach at hk
  rw[List.cons_append,List.cons_append]
  unfold DataW.weightsEach
  rcases List.mem_append.1 hk with h|h
  ·exact List.mem_append_left _ h
  ·exact List.mem_append_right _ (ZfF (by simpa using hl) k h)
theorem ZgL{e}:∀{ds:List (DataW H)} {d:DataW H},d∈ds→∀k∈d.weights P e,k∈DataW.weightsAll P e ds
 |d::ds,x,hx,k,hk=>by
  unfold DataW.weightsAll
  rcases List.mem_cons.1 hx with rfl|hx
  ·exact List.mem_append_left _ hk
  ·exact List.mem_append_right _ (ZgL hx k hk)
theorem Zsw{α β R}{a a':List α}{b b':List β}(h:ZG R a b)(h':ZG R a' b'):ZG R (a++a') (b++b'):=by
 induction h with
 |nil=>exact h'
 |cons h1 _ ih=>exact .cons h1 ih
def Cat:List (List D→Prop)→List D→Prop
 | [],ds=>ds=[]
 |R::Rs,ds=>∃a b,ds=a++b∧R a∧Cat Rs b
def ZrD(P:Program):Nat→List Field→Nat→Bool
 |o,[],n=>o==n
 |o,f::r,n=>f.offset==o&&ZrD P (o+P.cellsOf f.type) r n
inductive Zic(p:Nat→Prop)(enc:TypeId×Value→H)(P:Program)(w:World):List Field→List (List D→Prop)→Prop where
 |nil:Zic p enc P w [] []
 |cons {f:Field} {fs:List Field} {R:List D→Prop} {Rs:List (List D→Prop)} (h:W8 p enc P w f.type R) (t:Zic p enc P w fs Rs):Zic p enc P w (f::fs) (R::Rs)
theorem Zwx{fs Rs}(hR:Zic q enc P w fs Rs):∀{o n m} {cs:List Value},q m→ZrD P o fs n=true→cs.length=n →
  (∀f∈fs,∃x,DataW.trod enc P w 0 (fun _=>true) true m f.type ((cs.drop f.offset).take (P.cellsOf f.type))=sO x∧∀k∈x.1.weights P f.type,k≤reachBytes) →
  ∃ds,Cat Rs ds∧ZG (Rep (Zcf w) w) (cs.drop o) ds∧∀v∈cs.drop o,v.one1=true:=by
 induction hR with
 |nil =>
  intro o n m cs _ ho hl _
  simp only[ZrD,beq_iff_eq]at ho
  subst ho;subst hl
  exact⟨[],rfl,by rw[List.drop_length];exact .nil,by simp⟩
 |cons h _ ih =>
  rename_i f fs R Rs _
  intro o n m cs hm ho hl hx
  simp only[ZrD,ZEK,beq_iff_eq]at ho
  obtain⟨ho1,ho2⟩:=ho
  obtain⟨x,h1,hw⟩:=hx f (List.mem_cons_self ..)
  obtain⟨a,ha1,ha2,ha3⟩:=h _ _ _ hm h1 hw
  obtain⟨b,hb1,hb2,hb3⟩:=ih hm ho2 hl fun f' hf'=>hx f' (List.mem_cons_of_mem _ hf')
  rw[ho1]at ha2 ha3
  have e:cs.drop o=(cs.drop o).take (P.cellsOf f.type)++cs.drop (o+P.cellsOf f.type):=by
   rw[←List.drop_drop];exact(List.take_append_drop _ _).symm
  refine⟨a++b,⟨a,b,rfl,ha1,hb1⟩,by rw[e];exact Zsw ha2 hb2,fun v hv=>?_⟩
  rw[e,List.mem_append]at hv
  exact hv.elim (ha3 v) (hb3 v)
theorem KG{t:TypeId}{fs:Array Field}(ht:P.underlying t=sO (.struct fs)){Rs:List (List D→Prop)}(hR:Zic q enc P w fs.toList Rs)(ho:ZrD P 0 fs.toList (P.cellsOf t)=true)(hpq:∀n,p (n+1)→q n:=by intros;trivial):W8 p enc P w t (Cat Rs):=by
 intro fuel cs x hp h hw
 obtain⟨xs,n,rfl,rfl,hl,hxl,hx⟩:=DataW.trod_struct ht h
 obtain⟨ds,h1,h2,h3⟩:=Zwx hR (m:=n) (hpq n hp) ho hl (fun f hf=>by
  obtain⟨i,hi,rfl⟩:=ZEV hf
  have hi':i<fs.size:=by simpa using hi
  refine⟨xs[i]'(by omega),?_,fun k hk=>hw k ?_⟩
  ·have:=hx i fs[i] (by simp[hi'])
   rw[ZE5 (by omega)]at this
   simpa using this
  ·unfold DataW.weights
   rw[ht]
   exact ZfG (i:=i) (by simp[hi']) (by rw[List.getElem?_map,ZE5 (by omega)];rfl) k hk)
 rw[List.drop_zero]at h2 h3
 exact⟨ds,h1,h2,h3⟩
theorem Zbu{a n cs}(h:w.cells? 0 a n=sO cs):cs.length=n∧∀j,j<n→w.cell? (a.add j)=cs[j]?:=by
 simp only[World.cells?,Nat.zero_le,if_true]at h
 refine⟨by simpa using mapM_some_length h,fun j hj=>?_⟩
 have:=mapM_some_get h j j (by simp[hj])
 exact this
theorem ZpR{t e:TypeId}{n:Nat}{α:Type}[Inhabited α]{f:α→List D}{Qx:α→Prop}{row:List α→Nat→List D}(hrow:∀l i,i<l.length→row l i=f (l.getD i dE))(ht:P.underlying t=sO (.slice e))(hn:P.cellsOf e=n)(hn0:0<n)(hf:∀x,(f x).length=n)
  (he:W8 q enc P w e fun ds=>∃x,Qx x∧ds=f x) (hpq:∀n,p (n+1)→q n:=by intros;trivial):W8 p enc P w t fun ds=>∃l:List α,(∀x∈l,Qx x)∧l.length*P.bytesOf e≤reachBytes∧ds=[.sl .none l.length n (row l)]:=by
 intro fuel cs x hp h hw
 rcases DataW.trod_slice ht h with ⟨rfl,_⟩|⟨a,len,cap,elems,rest,m,rfl,rfl,rfl,_,hlc,hcap,hel,hx,hrest,_⟩
 ·exact⟨_,⟨[],fun x hx=>absurd hx List.not_mem_nil,by simp,rfl⟩,.cons (.sl0 _ _ _ _ (by simp)) .nil,fun v hv=>by simp at hv;subst hv;rfl⟩
 unfold DataW.weights at hw
 rw[ht]at hw
 have key:∀i,i<len→∃(cs:List Value) (y:α),Qx y∧w.cells? 0 (a.add (i*n)) n=sO cs∧ZG (Rep (Zcf w) w) cs (f y)∧∀v∈cs,v.one1=true:=by
  intro i hi
  have h1:=hx i hi
  rw[ZE5 (by omega),hn]at h1
  obtain⟨cs,h2,h3⟩:=Option.bind_eq_some_iff.1 h1
  obtain⟨ds,⟨y,hy,rfl⟩,h4,h5⟩:=he _ _ _ (hpq _ hp) h3 fun k hk=>hw k (List.mem_cons_of_mem _ (List.mem_append_left _ (ZgL (List.mem_map_of_mem (List.getElem_mem _)) k hk)))
  exact⟨cs,y,hy,h2,h4,h5⟩
 have hbig:cap≤big:=by simp only[maxLen]at hcap;simp only[big];omega
 let g:(i:Nat)→i<len→α:=fun i hi=>(Classical.choose_spec (key i hi)).choose
 let c:(i:Nat)→i<len→List Value:=fun i hi=>Classical.choose (key i hi)
 have hg:∀i (hi:i<len),w.cells? 0 (a.add (i*n)) n=sO (c i hi)∧ZG (Rep (Zcf w) w) (c i hi) (f (g i hi))∧∀v∈c i hi,v.one1=true:=fun i hi=>(Classical.choose_spec (key i hi)).choose_spec.2
 have hq:∀i (hi:i<len),Qx (g i hi):=fun i hi=>(Classical.choose_spec (key i hi)).choose_spec.1
 let l:List α:=List.ofFn fun i:Fin len=>g i.1 i.2
 have hll:l.length=len:=by simp[l]
 have hlg:∀i (hi:i<len),l.getD i dE=g i hi:=fun i hi=>by simp[l,ZES,hi]
 have hrl:∀i (hi:i<len),row l i=f (g i hi):=fun i hi=>by rw[hrow l i (by omega),hlg i hi]
 refine⟨_,⟨l,fun x hx=>(by obtain⟨i,rfl⟩:=List.mem_ofFn.1 hx;exact hq i.1 i.2),Nat.le_trans (ZEW _ (by rw[hll,←hel,List.length_map];exact Nat.le_add_right _ _)) (hw _ (List.mem_cons_self ..)),rfl⟩,.cons ?_ .nil,fun v hv=>by simp at hv;subst hv;rfl⟩
 by_cases hl0:len=0
 ·subst hl0
  have hle:l=[]:=List.eq_nil_of_length_eq_zero hll
  rw[hle]
  by_cases hs:a.spot=nO
  ·obtain⟨b,o,sp⟩:=a
   simp only at hs
   subst hs
   exact .sl b o 0 cap n _ .none (fun _ _=>undef) (fun i hi=>by simp at hi) (fun i j hi=>by simp at hi) (fun i j hi=>by simp at hi) (fun i j d hi=>by simp at hi) (fun i j hi=>by simp at hi) trivial (Nat.zero_le _) hbig
  ·have hc0:cap=0:=by
    rcases Nat.eq_zero_or_pos cap with h0|h0
    ·exact h0
    ·obtain⟨h1,h2⟩:=hrest rfl
     have h3:=h2 0 (by omega)
     rw[ZE5 (by omega),hn]at h3
     obtain⟨cs,h4,_⟩:=Option.bind_eq_some_iff.1 h3
     have h5:=(Zbu h4).2 0 (by omega)
     have h6:=(Zbu h4).1
     rw[ZE5 (by omega)]at h5
     have:=World.cell?_spot h5
     exact absurd (by simpa[Addr.add]using this) hs
   subst hc0
   exact .sl0 _ _ _ _ (by simp)
 ·have hsp:a.spot=nO:=by
   have h0:=(hg 0 (by omega)).1
   have h1:=(Zbu h0).2 0 (by omega)
   have h2:(c 0 (by omega)).length=n:=(Zbu h0).1
   rw[ZE5 (by omega)]at h1
   have:=World.cell?_spot h1
   simpa[Addr.add]using this
  obtain⟨b,o,sp⟩:=a
  simp only at hsp
  subst hsp
  have hget:∀i j (hi:i<len) (hj:j<n),w.cell? ⟨b,o+i*n+j,nO⟩=(c i hi)[j]?:=fun i j hi hj=>by
   have h1:=(Zbu (hg i hi).1).2 j hj
   rw[W5,W5]at h1
   exact h1
  have hcl:∀i (hi:i<len),(c i hi).length=n:=fun i hi=>(Zbu (hg i hi).1).1
  rw[hll]
  refine .sl b o len cap n _ .none (fun i j=>if hi:i<len then (c i hi).getD j undef else undef) (fun i hi=>by rw[hrl i hi];exact hf _) (fun i j hi hj=>?_) (fun i j hi hj=>?_) (fun i j d hi hd=>?_) (fun i j hi hj=>?_) trivial hlc hbig
  ·simp only[dif_pos hi]
   rw[hget i j hi hj,ZES,ZE5 (by rw[hcl i hi];exact hj)];rfl
  ·have h1:=hget i j hi hj
   rw[ZE5 (by rw[hcl i hi];exact hj)]at h1
   simp only[World.cell?]at h1
   split at h1
   ·rename_i vs T fr hh
    simp only[Zcf,hh]
    have h1':vs[o+i*n+j]?=sO ((c i hi)[j]'(by rw[hcl i hi];exact hj)):=by simpa using h1
    exact(Array.getElem?_eq_some_iff.1 h1').1
   ·simp at h1
  ·simp only[dif_pos hi]
   rw[hrl i hi]at hd
   have hj:j<n:=by rw[←hf (g i hi)];exact(List.getElem?_eq_some_iff.1 hd).1
   refine(hg i hi).2.1.get j _ d ?_ hd
   rw[ZES,ZE5 (by rw[hcl i hi];exact hj)];rfl
  ·simp only[dif_pos hi]
   refine(hg i hi).2.2 _ ?_
   rw[ZES,ZE5 (by rw[hcl i hi];exact hj)]
   exact List.getElem_mem _
theorem Zi0{t e:TypeId}{n:Nat}{α:Type}[Inhabited α]{f:α→List D}{row:List α→Nat→List D}(hrow:∀l i,i<l.length→row l i=f (l.getD i dE))(ht:P.underlying t=sO (.slice e))(hn:P.cellsOf e=n)(hn0:0<n)(hf:∀x,(f x).length=n)
  (he:W8 q enc P w e fun ds=>∃x,ds=f x) (hpq:∀n,p (n+1)→q n:=by intros;trivial):W8 p enc P w t fun ds=>∃l:List α,ds=[.sl .none l.length n (row l)]:=(ZpR (Qx:=fun _=>True) hrow ht hn hn0 hf (he.imp fun _ ⟨x,h⟩=>⟨x,trivial,h⟩) hpq).imp fun _ ⟨l,_,_,h⟩=>⟨l,h⟩
theorem JY{t e:TypeId}{n:Nat}{α:Type}[Inhabited α]{f:α→List D}(ht:P.underlying t=sO (.slice e))(hn:P.cellsOf e=n)(hn0:0<n)(hf:∀x,(f x).length=n)
  (he:W8 q enc P w e fun ds=>∃x,ds=f x) (hpq:∀n,p (n+1)→q n:=by intros;trivial):W8 p enc P w t fun ds=>∃l:List α,ds=[.sl .none l.length n fun i=>f (l.getD i dE)] :=
 Zi0 (row:=fun l i=>f (l.getD i dE)) (fun _ _ _=>rfl) ht hn hn0 hf he hpq
def Zd5(enc:TypeId×Value→H)(P:Program)(t:TypeId)(Q:D→Prop):Prop :=
 ∀(W:World) (base:Nat) (v:Value) (d:DataW H) (ps:List MemPlace),Value.okWide P W .any base t v→DataW.Trod enc P W 0 (fun _=>true) true t v d ps→(∀k∈d.weights P t,k≤reachBytes)→∃x,Q x∧Rep (Zcf W) W v x
theorem Ze9{t fs}(ht:P.underlying t=sO (.struct fs)){R}(h:∀W,ZaD enc P W t R):Zd5 enc P t fun x=>∃ds,R ds∧x=.agg ds:=by
 intro W base v d ps hok ⟨fuel,hf⟩ hw
 obtain⟨cs,rfl,_⟩:=okWide_struct ht hok
 obtain⟨ds,h1,h2,h3⟩:=h W _ _ _ trivial hf hw
 exact⟨_,⟨ds,h1,rfl⟩,.agg cs.toList ds h2.len (fun i v d hv hd=>h2.get i v d hv hd) h3⟩
theorem Zie{t R Q}(h1:∀W base v,Value.okWide P W .any base t v→v.cells = #[v])(h:∀W,ZaD enc P W t R)(hq:∀ds,R ds→∃x,ds=[x]∧Q x):Zd5 enc P t Q:=by
 intro W base v d ps hok ⟨fuel,hf⟩ hw
 rw[h1 _ _ _ hok]at hf
 obtain⟨ds,h2,h3,_⟩:=h W _ _ _ trivial hf hw
 obtain⟨x,rfl,hx⟩:=hq ds h2
 cases h3 with|cons h4 _=>exact⟨x,hx,h4⟩
theorem ZqJ{t k}(ht:P.underlying t=sO (.int k)):Zd5 enc P t fun x=>∃n,x=.int k n :=
 Zie (fun W base v hok=>by obtain⟨a,rfl⟩:=okWide_int ht hok;rfl) (fun W=>Jz ht) fun ds ⟨n,hn⟩=>⟨_,hn,n,rfl⟩
theorem ZqK{t}(ht:P.underlying t=sO .string):Zd5 enc P t fun x=>∃n,x=.str n :=
 Zie (fun W base v hok=>by obtain⟨a,rfl⟩:=okWide_string ht hok;rfl) (fun W=>Qf ht) fun ds ⟨n,hn⟩=>⟨_,hn,n,rfl⟩
inductive ZlX(enc:TypeId×Value→H)(P:Program):List TypeId→List (D→Prop)→Prop where
 |nil:ZlX enc P [] []
 |cons {t:TypeId} {Q:D→Prop} {ts:List TypeId} {Qs:List (D→Prop)} (h:Zd5 enc P t Q) (r:ZlX enc P ts Qs):ZlX enc P (t::ts) (Q::Qs)
inductive Zqk:List (D→Prop)→List D→Prop where
 |nil:Zqk [] []
 |cons {Q:D→Prop} {x:D} {Qs:List (D→Prop)} {xs:List D} (h:Q x) (r:Zqk Qs xs):Zqk (Q::Qs) (x::xs)
theorem Zw9{ts Qs}(h:ZlX enc P ts Qs):∀{W base vs ds ps},
  (∀(j:Nat) t v,ts[j]?=sO t→vs[j]?=sO v→Value.okWide P W .any base t v)→DataW.TrodAll enc P W 0 (fun _=>true) true ts vs ds ps→(∀k∈DataW.weightsEach P ts ds,k≤reachBytes)→∃xs,Zqk Qs xs∧ZG (Rep (Zcf W) W) vs xs:=by
 induction h with
 |nil =>
  intro W base vs ds ps _ ht _
  obtain⟨rfl,_⟩:=trodAll_nil ht
  exact⟨[],.nil,.nil⟩
 |cons h1 _ ih =>
  intro W base vs ds ps hok ht hw
  obtain⟨v,vs',d,ds',p,q,rfl,rfl,rfl,h2,h3⟩:=trodAll_cons ht
  unfold DataW.weightsEach at hw
  obtain⟨x,hx1,hx2⟩:=h1 W base v d p (hok 0 _ _ rfl rfl) h2 fun k hk=>hw k (List.mem_append_left _ hk)
  obtain⟨xs,hxs1,hxs2⟩:=ih (base:=base) (fun j t v hj hv=>hok (j+1) t v (by simpa using hj) (by simpa using hv)) h3 fun k hk=>hw k (List.mem_append_right _ hk)
  exact⟨x::xs,.cons hx1 hxs1,.cons hx2 hxs2⟩
theorem ZhQ(hl:laidOutB P=true){W W'}(hb:Below W.heap.size W W'):∀{ts vs ds ps},(∀t∈ts,P.readableRec t=true∧t<P.types.size) →
  DataW.TrodAll enc P W 0 (fun _=>true) true ts vs ds ps→(∀x∈ps,x.block<W.heap.size)→DataW.TrodAll enc P W' 0 (fun b=>dC (b<W.heap.size)) true ts vs ds ps
 | [],vs,ds,ps,_,h,_=>by
  obtain⟨rfl,rfl,rfl⟩:=trodAll_nil h
  rfl
 |t::ts,vs,ds,ps,ht,h,hlt=>by
  obtain⟨v,vs',d,ds',p,q,rfl,rfl,rfl,h2,h3⟩:=trodAll_cons h
  have h4:=ht t (List.mem_cons_self ..)
  exact trodAll_cons_mk (Below.trod hl h4.1 h4.2 h2 hb fun x hx=>hlt x (List.mem_append_left _ hx)) (ZhQ hl hb (fun t ht'=>ht t (List.mem_cons_of_mem _ ht')) h3 fun x hx=>hlt x (List.mem_append_right _ hx))
theorem Zrs{f fn}{s:ChangeSpec}{tb Qs}(hv:s.vars=[])(hl:laidOutB P=true)(hr:∀t∈fn.params.toList,P.readableRec t=true∧t<P.types.size)
  (hres:fn.resultTypes = #[tb]) (hb:P.underlying tb=sO .bool) (hfn:∀ds:List (DataW H),ds.length=fn.params.toList.length→s.fn H ds={ results:=[.lit (.bool true)],args:=ds })
  (hargs:ZlX enc P fn.params.toList Qs) (hcall:∀xs,Zqk Qs xs→Ze P f xs (.bool true))
  (W) (ht:Zl4 W) (base args ds gs before)
  (hval:∀(j:Nat) t v,fn.params[j]?=sO t→args[j]?=sO v→Value.okWide P W .any base t v) (hW:DataW.Whole enc P fn.params.toList s.vars false W args.toList ds gs before)
  (hz:(DataW.weightsEach P (fn.params.toList++s.plain.varTypes P) (ds++gs)).all (·≤reachBytes)=true) :
  Calls P f args W fun e W'=>∃v,e=.returned v∧s.post enc P fn false true false false W args v W':=by
 have hW':=hW
 obtain⟨p,q,hA,hV,rfl,_,_⟩:=hW
 rw[hv]at hV
 obtain⟨rfl,rfl⟩:=trodVars_none hV
 have hlen:=(trodAll_length hA).2
 obtain⟨xs,hx1,hx2⟩:=Zw9 hargs (fun j t v hj hvj=>hval j t v (by simpa using hj) (by simpa using hvj)) hA fun k hk=>of_decide_eq_true (List.all_eq_true.1 hz k (ZfF hlen k hk))
 have hlt:∀x∈p,x.block<W.heap.size:=fun x hx=>by simpa using hW'.lt x (by simpa using hx)
 refine(Zyp (hcall xs hx1) ht hx2).mono fun e W' ⟨he,hbel⟩=>⟨.bool true,he,?_⟩
 have hspec:=hfn ds hlen
 refine⟨ds,[],p++[],[],p,[],hW',?_,?_,?_,hbel.frame _,fun h=>by cases h⟩
 ·rw[ZFb,hspec,hres]
  exact trodAll_mk1 ⟨1,by simp[DataW.trod,hb,Value.cells]⟩
 ·rw[ZFb,hspec]
  exact ZhQ hl hbel hr hA hlt
 ·rw[hv,ZFb,hspec]
  rfl
end
end Go.DL
namespace Go.DL
open Go
variable {kp:Option (List Nat)}{L:Loc}{ρ:Env}{s:St}{w:World}{os:List DOp}{ds:List D}{B:List (Nat × Rd)}{dst:Option Nat}{tmps:Array Value}{g:G}{Φ:Res→St→Prop}{ν:Nat→Nat}{xs:List Opd}{side:Prop}{row:Nat→List D}
theorem Zwd(n a:Nat)(l:List Nat):J3 n (a::l)=if a=n then true else J3 n l:=by
 show(a==n ||J3 n l)=_
 by_cases h:a=n<;>simp[h]
set_option linter.defProp false
def Eqs:=ZEC (ZEC (ZEC (ZEC (ZEC (ZEC (ZEC (ZEC @Option.mem_def.{0} @ZEz.{0}) (ZEC @forall_eq'.{1} @forall_eq'.{0})) (ZEC (ZEC @false_implies @decide_true) (ZEC (@Int.sub_zero) (ZEC @Int.sub_self @Zz6)))) (ZEC (ZEC (ZEC @ZAN @Zz7) (ZEC @Zz8 @Zz5)) (ZEC (ZEC @and_assoc @Int.toNat_zero) (ZEC (@Bool.not_not) (ZEC @Zy9 @ZAa))))) (ZEC (ZEC (ZEC (ZEC @implies_true.{1} @implies_true.{0}) (ZEC @true_and @and_true)) (ZEC (ZEC @and_self @List.drop_zero.{0}) (ZEC (@List.drop_succ_cons.{0}) (ZEC @List.take_succ_cons.{0} @List.take_zero.{0})))) (ZEC (ZEC (ZEC @List.take_nil.{0} @ZE4.{0,0}) (ZEC (@Option.map_none.{0,0}) (ZEC @Option.isSome_some.{0} @Option.isSome_none.{0}))) (ZEC (ZEC @ZFe.{0} @Option.getD_none.{0}) (ZEC (@List.flatMap_cons.{0,0}) (ZEC @List.flatMap_nil.{0,0} @ZFb.{0})))))) (ZEC (ZEC (ZEC (ZEC (ZEC @List.nil_append.{0} @List.cons_append.{0}) (ZEC @List.append_eq.{0} @List.getElem?_cons_zero.{0})) (ZEC (ZEC @List.getElem?_cons_succ.{0} @ZER.{0}) (ZEC (@List.length_nil.{0}) (ZEC @Nat.zero_add @Nat.add_zero)))) (ZEC (ZEC (ZEC @Int.toNat_natCast @forall_const.{1}) (ZEC @forall_const.{0} @imp_self)) (ZEC (ZEC @Bool.and_true @ZE1) (ZEC (@Bool.cond_false_right) (ZEC @ZE3 @Bool.not_true))))) (ZEC (ZEC (ZEC (ZEC @Bool.not_false @if_true_right) (ZEC @Zir.eq_1 @Zir.eq_2)) (ZEC (ZEC @Zg1.eq_1 @Zg1.eq_2) (ZEC (@ZiG.eq_1) (ZEC @ZiG.eq_2 @ZmN.eq_1)))) (ZEC (ZEC (ZEC @ZmN.eq_2 @Zx.eq_1) (ZEC (@KJ.eq_1) (ZEC @KJ.eq_2 @KJ.eq_3))) (ZEC (ZEC @Z5.eq_1 @KA.eq_1) (ZEC (@YV.eq_1) (ZEC @KF.eq_1 @KF.eq_2))))))) (ZEC (ZEC (ZEC (ZEC (ZEC (ZEC @KF.eq_3 @KF.eq_4) (ZEC @YL.eq_1 @YL.eq_2)) (ZEC (ZEC @YL.eq_3 @YL.eq_4) (ZEC (@YL.eq_6) (ZEC @qv.eq_51 @qv.eq_52)))) (ZEC (ZEC (ZEC @qv.eq_53 @YL.eq_5) (ZEC @YU.eq_1 @YU.eq_2)) (ZEC (ZEC @YU.eq_3 @YU.eq_4) (ZEC (@YU.eq_5) (ZEC @YU.eq_6 @YU.eq_7))))) (ZEC (ZEC (ZEC (ZEC @Y5.eq_1 @KE.eq_1) (ZEC @KE.eq_2 @KE.eq_3)) (ZEC (ZEC @YP.eq_1 @YP.eq_2) (ZEC (@Kd.eq_1) (ZEC @Zbq.eq_1 @J3.eq_1)))) (ZEC (ZEC (ZEC @Zwd @ZEQ.{0,0}) (ZEC (@ZE6.{0,0}) (ZEC @K8.eq_1 @Kh.eq_1))) (ZEC (ZEC @Kh.eq_2 @Kh.eq_3) (ZEC (@Y8.eq_1) (ZEC @Y8.eq_2 @J5.eq_1)))))) (ZEC (ZEC (ZEC (ZEC (ZEC @J5.eq_2 @J5.eq_3) (ZEC @J5.eq_4 @J5.eq_5)) (ZEC (ZEC @J5.eq_6 @J5.eq_7) (ZEC (@J5.eq_8) (ZEC @J5.eq_9 @J5.eq_10)))) (ZEC (ZEC (ZEC @J5.eq_11 @Zk.eq_1) (ZEC (@Zk.eq_2) (ZEC @ZC.eq_1 @ZC.eq_2))) (ZEC (ZEC @Z2.eq_1 @Z2.eq_2) (ZEC (@ZH.eq_1) (ZEC @ZH.eq_2 @qv.eq_1))))) (ZEC (ZEC (ZEC (ZEC @qv.eq_2 @qv.eq_3) (ZEC @qv.eq_4 @qv.eq_5)) (ZEC (ZEC @qv.eq_6 @qv.eq_7) (ZEC (@qv.eq_8) (ZEC @qv.eq_9 @qv.eq_10)))) (ZEC (ZEC (ZEC @qv.eq_11 @qv.eq_12) (ZEC (@qv.eq_13) (ZEC @qv.eq_14 @qv.eq_15))) (ZEC (ZEC @qv.eq_16 @qv.eq_17) (ZEC (@qv.eq_18) (ZEC @qv.eq_19 @qv.eq_20)))))))) (ZEC (ZEC (ZEC (ZEC (ZEC (ZEC (ZEC @qv.eq_21 @qv.eq_22) (ZEC @qv.eq_23 @qv.eq_24)) (ZEC (ZEC @qv.eq_25 @qv.eq_26) (ZEC (@qv.eq_27) (ZEC @qv.eq_28 @qv.eq_29)))) (ZEC (ZEC (ZEC @qv.eq_30 @qv.eq_31) (ZEC @qv.eq_32 @qv.eq_33)) (ZEC (ZEC @qv.eq_34 @qv.eq_35) (ZEC (@qv.eq_36) (ZEC @qv.eq_37 @qv.eq_38))))) (ZEC (ZEC (ZEC (ZEC @qv.eq_39 @qv.eq_40) (ZEC @qv.eq_41 @qv.eq_42)) (ZEC (ZEC @qv.eq_43 @qv.eq_44) (ZEC (@qv.eq_45) (ZEC @qv.eq_46 @qv.eq_47)))) (ZEC (ZEC (ZEC @qv.eq_48 @qv.eq_49) (ZEC (@qv.eq_50) (ZEC @Zv.eq_1 @Zv.eq_2))) (ZEC (ZEC @kept.eq_1 @kept.eq_2) (ZEC (@ZjX.eq_1) (ZEC @ZjX.eq_2 @Yh.eq_1)))))) (ZEC (ZEC (ZEC (ZEC (ZEC @Yh.eq_2 @ZaF.eq_1) (ZEC @Zab.eq_1 @Zab.eq_2)) (ZEC (ZEC @WE.eq_1 @WE.eq_2) (ZEC (@WE.eq_3) (ZEC @Zf.eq_1 @Zf.eq_2)))) (ZEC (ZEC (ZEC @J2.eq_1 @ZcP.eq_1) (ZEC @ZdW.eq_1 @ZdW.eq_2)) (ZEC (ZEC @J1.eq_1 @J1.eq_2) (ZEC (@J1.eq_3) (ZEC @J1.eq_4 @J1.eq_5))))) (ZEC (ZEC (ZEC (ZEC @QB.eq_1 @QB.eq_2) (ZEC @QB.eq_3 @QB.eq_4)) (ZEC (ZEC @QB.eq_5 @QB.eq_6) (ZEC (@QB.eq_7) (ZEC @QB.eq_8 @QB.eq_9)))) (ZEC (ZEC (ZEC @QB.eq_10 @QB.eq_11) (ZEC (@QB.eq_12) (ZEC @QB.eq_13 @QB.eq_14))) (ZEC (ZEC @QB.eq_15 @QB.eq_16) (ZEC (@QB.eq_17) (ZEC @Zdg.eq_1 @Zdg.eq_2))))))) (ZEC (ZEC (ZEC (ZEC (ZEC (ZEC @Zdg.eq_3 @Zdg.eq_4) (ZEC @Zdg.eq_5 @Zdg.eq_6)) (ZEC (ZEC @Zdg.eq_7 @Zdg.eq_8) (ZEC (@eqO.eq_1) (ZEC @eqO.eq_2 @eqO.eq_3)))) (ZEC (ZEC (ZEC @YF.eq_1 @YF.eq_2) (ZEC @YF.eq_3 @YF.eq_4)) (ZEC (ZEC @YF.eq_5 @YF.eq_6) (ZEC (@YF.eq_7) (ZEC @YF.eq_8 @YF.eq_9))))) (ZEC (ZEC (ZEC (ZEC @YF.eq_10 @YF.eq_11) (ZEC @YF.eq_12 @YF.eq_13)) (ZEC (ZEC @YF.eq_14 @YF.eq_15) (ZEC (@Wk.eq_1) (ZEC @Wk.eq_2 @Yf.eq_1)))) (ZEC (ZEC (ZEC @Yf.eq_2 @Yf.eq_3) (ZEC (@Yf.eq_4) (ZEC @YS.eq_1 @YS.eq_2))) (ZEC (ZEC @YS.eq_3 @YS.eq_4) (ZEC (@Kc.eq_1) (ZEC @Kc.eq_2 @Kc.eq_3)))))) (ZEC (ZEC (ZEC (ZEC (ZEC @Kc.eq_4 @Zu.eq_1) (ZEC @W6.eq_1 @W6.eq_2)) (ZEC (ZEC @W6.eq_3 @cellsOf.eq_1) (ZEC (@cellsOf.eq_2) (ZEC @QQ.eq_1 @QQ.eq_2)))) (ZEC (ZEC (ZEC @QQ.eq_3 @QQ.eq_4) (ZEC (@QQ.eq_5) (ZEC @W1.eq_1 @W1.eq_2))) (ZEC (ZEC @W1.eq_3 @W1.eq_4) (ZEC (@Zba.eq_1) (ZEC @Zba.eq_2 @Zba.eq_3))))) (ZEC (ZEC (ZEC (ZEC @KQ.eq_1 @KQ.eq_2) (ZEC @Z7.eq_1 @Z7.eq_2)) (ZEC (ZEC @KM.eq_1 @KM.eq_2) (ZEC (@Wx.eq_1) (ZEC @Wx.eq_2 @Wx.eq_3)))) (ZEC (ZEC (ZEC @Wx.eq_4 @ZaC.eq_1) (ZEC (@ZaC.eq_2) (ZEC @ZaC.eq_3 @ZaC.eq_4))) (ZEC (ZEC @Zbf.eq_1 @Zbf.eq_2) (ZEC (@Zbf.eq_3) (ZEC @Zbf.eq_4 @part.eq_1))))))))
end Go.DL
namespace Go.DL
open Go
variable [Zqy]
variable {kp:Option (List Nat)}{L:Loc}{ρ:Env}{s:St}{w:World}{os:List DOp}{ds:List D}{B:List (Nat × Rd)}{dst:Option Nat}{tmps:Array Value}{g:G}{Φ:Res→St→Prop}{ν:Nat→Nat}{xs:List Opd}{side:Prop}{row:Nat→List D}
section
variable {P:Program}
theorem ZyA{F:Fr P}{kp dk o os ρ L s}(hg:o.guard=nO){x}(hk:o.k=.box x){t}(hdt:o.dst=sO t){p v}(ha:ZC ρ true x=sO (p,.d v))(hp:p)(hok:W1 v=true)(h:∀b,s b=nO→DO F kp dk os ((t,.d (.ptr b 0))::ρ) L (s.upd b (.cells (cellsOf v)))):DO F kp dk (o::os) ρ L s:=by
 refine Wa fun oo g ν w tmps ops i r k hoo hck hcg hdst hd hN m hr hkk=>?_
 have hw:=Z8 m hcg (c:=true) (by rw[hg];rfl)
 have hnd:=Yc hck (by rw[hk];rfl)
 rw[hk]at hck
 obtain⟨e,x',hop,hx'⟩:=ZvD hck
 have hrep:Rep g w _ v:=Z3 m hx' rfl ha hp F.ds
 generalize hvv:(Act.mk tmps F.ds).eval x'=vv at hrep
 obtain⟨hc1,hc2⟩:=Zc7 hrep hok
 have hone:=Zgw hrep hok
 have hgr:=JH (g:=g) (w:=w) (.cells vv.cells e) m.st.fresh
 have he:=hgr.ext m.st.fresh
 obtain⟨hn,m'⟩:=m.newObj hgr (o:=.cells (cellsOf v)) ⟨(m.st.fresh _ (ZEP _)).1,_,e,W9 w _,by rw[hc1],fun i v d hv hd=>(hc2 i v d (by simpa using hv) hd).mono he,hone⟩
 refine YD (L':=L) hN hoo hdst hd hw hnd (v:=.pointer (sO ⟨w.heap.size,0,nO⟩)) (e:=.d (.ptr w.heap.size 0)) ?_ he m' (Rep.ptr _ _) ?_
 ·simp[execOp,hop,hvv,Instr.box,newVar,newRow]
 ·rw[hdt];exact h _ hn ops r k hr hkk
theorem Zvr{F:Fr P}{kp dk o os ρ L s}(hg:o.guard=nO){t}(hdt:o.dst=sO t){z}(hk:o.k=.alloc z)(h:∀b,s b=nO→DO F kp dk os ((t,.d (.ptr b 0))::ρ) L (s.upd b (.cells z))):DO F kp dk (o::os) ρ L s:=by
 refine Wa fun oo g ν w tmps ops i r k hoo hck hcg hdst hd hN m hr hkk=>?_
 have hw:=Z8 m hcg (c:=true) (by rw[hg];rfl)
 have hnd:=Yc hck (by rw[hk];rfl)
 rw[hk]at hck
 obtain⟨T,hop,hz⟩:=ZqU hck
 obtain⟨v,hv1,hv2,hv3,_⟩:=QJ (g:=g) (w:=w) hz
 have hgr:=JH (g:=g) (w:=w) (.cells v.cells T) m.st.fresh
 have he:=hgr.ext m.st.fresh
 obtain⟨hn,m'⟩:=m.newObj hgr (o:=.cells z) ⟨(m.st.fresh _ (ZEP _)).1,_,T,W9 w _,by simpa using hv2.len,fun i v d hv hd=>(hv2.get i v d (by simpa using hv) hd).mono he,hv3⟩
 refine YD (L':=L) hN hoo hdst hd hw hnd (v:=.pointer (sO ⟨w.heap.size,0,nO⟩)) (e:=.d (.ptr w.heap.size 0)) ?_ he m' (Rep.ptr _ _) ?_
 ·simp[execOp,hop,Instr.alloc,hv1,newVar,newRow]
 ·rw[hdt];exact h _ hn ops r k hr hkk
theorem ZeT{g w b off cs xs vs}(h:YM g w b cs)(hx:ZG (Rep g w) vs xs)(ho:∀v∈vs,v.one1=true)(hlen:off+xs.length≤cs.length)(hkp:¬g.kept b):
  ∃w',(storeCells ⟨b,off,nO⟩ vs 0).run P w=.ok () w'∧Ext g w g w'∧w'.heap.size=w.heap.size∧(∀c,c≠b→w'.heap[c]?=w.heap[c]?)∧YM g w' b (Zu cs off xs):=by
 obtain⟨hpr,cur,T,hb,hcl,hcr,hco⟩:=h
 have hvl:vs.length=xs.length:=hx.len
 have hst:=run_storeCells_at (P:=P) b off T vs 0 cur w hb (by simp;omega) (fun x hx=>by rw[Zcv];exact ho x hx)
 simp only[Nat.add_zero]at hst
 have hrepNew:ZG (Rep g w) (cur.toList.take off++vs++cur.toList.drop (off+vs.length)) (Zu cs off xs):=by
  have hcur:ZG (Rep g w) cur.toList cs:=Ya (by simpa using hcl) (fun i v d hv hd=>hcr i v d (by simpa using hv) hd)
  unfold Zu
  rw[←hvl]
  exact((hcur.take off).append hx).append (hcur.drop _)
 have hsize:((cur.toList.take off++vs++cur.toList.drop (off+vs.length)).toArray).size=cur.size:=by
  have:=hrepNew.len;simp[Zu]at this⊢;omega
 have he:=Zg3 (g:=g) b hb hsize hpr hkp
 refine⟨_,hst,he,by simp[World.setRow],fun c hc=>setRow_other w b c _ hc,hpr,_,T,setRow_heap w b cur _ T (0,0) hb,by rw[hsize,hcl];simp[Zu];omega,
  fun i v d hv hd=>(hrepNew.get i v d (by simpa using hv) hd).mono he,fun x hx=>?_⟩
 simp only[List.mem_toArray,List.mem_append]at hx
 rcases hx with (hx|hx)|hx
 ·exact hco x (Array.mem_toList_iff.1 (List.mem_of_mem_take hx))
 ·exact ho x hx
 ·exact hco x (Array.mem_toList_iff.1 (List.mem_of_mem_drop hx))
theorem Zxh{op n z x}(h:ck P op=sO (.clear n z x)):
  ∃ats t e x',op=.call ⟨.builtin .clear,#[x'],ats⟩∧ats[0]?=sO t∧P.underlying t=sO (.slice e)∧ZS P e=sO n∧Zae P e=sO z∧ZU x'=sO x∧0<n∧z.length=n:=by
 unfold ck at h
 split at h
 ·simp at h
 ·split at h<;>(try(simp at h;done))
  all_goals (try(repeat' (split at h<;>(try(simp at h;done)))))
  rename_i c _ _ hcal _ _ e x' hu hargs _ _ _ s z' x2 h1 h2 h3 hc
  simp only[ZEz,K.clear.injEq]at h
  obtain⟨rfl,rfl,rfl⟩:=h
  obtain⟨callee,args,ats⟩:=c
  simp only at hcal hu hargs
  obtain⟨args⟩:=args
  simp only at hargs
  subst hargs;subst hcal
  simp only[Option.bind_eq_some_iff]at hu
  obtain⟨t,ht,hu⟩:=hu
  simp only[ZEK,decide_eq_true_eq]at hc
  exact⟨ats,t,e,x',rfl,ht,hu,h1,h2,h3,hc.1,hc.2⟩
theorem Zk4{F:Fr P}{kp dk o os ρ L s}(hg:Zk ρ o.guard=sO true){z x sz b off n cap}(hk:o.k=.clear sz z x){p}(ha:ZC ρ true x=sO (p,.d (.msl b off n cap sz)))(hp:p){cs}(hcs:Z5 s b=sO cs)(hlen:off+n*sz≤cs.length)(h:DO F kp dk os (Zv ρ o.dst (.d (.tup []))) L (s.upd b (.cells (Zu cs off (KU z n))))):DO F kp dk (o::os) ρ L s:=by
 refine Wa fun oo g ν w tmps ops i r k hoo hck hcg hdst hd hN m hr hkk=>?_
 have hw:=Z8 m hcg hg
 have hnd:=Yc hck (by rw[hk];rfl)
 rw[hk]at hck
 obtain⟨ats,t,e,x',hop,hat,hu,hsz,hz,hx',h0,hzl⟩:=Zxh hck
 obtain⟨zv,hz1,hz2,hz3,ie,hie,hzz⟩:=QJ (g:=g) (w:=w) hz
 have hzlen:zv.cells.size=sz:=by have:=hz2.len;simp at this;omega
 have hrep:Rep g w _ _:=Z3 m hx' rfl ha hp F.ds
 generalize hvv:(Act.mk tmps F.ds).eval x'=vv at hrep
 have hsb:s b=sO (.cells cs):=by
  unfold Z5 at hcs
  split at hcs<;>simp only[ZEz,reduceCtorEq]at hcs
  subst hcs;assumption
 obtain⟨zl1,zl2⟩:=ZjI (z:=z) (n:=sz) (c:=n) hzl
 have hzs:ZG (Rep g w) (Builtin.zeroCells zv.cells n).toList (KU z n):=by
  refine Ya (by rw[Array.length_toList,size_zeroCells,zl1,hzlen]) fun i v d hv hd=>?_
  have hi:i<n*sz:=by rw[←zl1];exact(List.getElem?_eq_some_iff.1 hd).1
  rw[zl2 i hi]at hd
  have hm:i % sz<sz:=Nat.mod_lt _ h0
  simp only[Builtin.zeroCells,Array.toList_map,Array.toList_range,List.getElem?_map,ZEN,hzlen]at hv
  obtain⟨a,ha,rfl⟩:=hv
  rw[List.getElem?_range hi]at ha
  simp only[ZEz]at ha
  subst ha
  refine hz2.get (i % sz) _ d ?_ hd
  rw[getElem!_pos zv.cells (i % sz) (by omega)]
  simp[hzlen,hm]
 have hone:∀v∈(Builtin.zeroCells zv.cells n).toList,v.one1=true:=fun v hv=>by
  simp only[Builtin.zeroCells,Array.mem_toList_iff,Array.mem_map]at hv
  obtain⟨a,_,rfl⟩:=hv
  by_cases hs0:zv.cells.size=0
  ·omega
  ·exact hz3 _ (by rw[getElem!_pos zv.cells _ (Nat.mod_lt _ (by omega))];exact Array.getElem_mem _)
 have hset0:n=0→Zu cs off (KU z n)=cs:=fun hn=>by subst hn;simp[Zu,KU]
 have main:∃w',(Builtin.clear_ ats oo.type #[vv]).run P w=.ok (.tuple #[]) w'∧Ext g w g w'∧w'.heap.size=w.heap.size∧(∀c,c≠b→w'.heap[c]?=w.heap[c]?)∧YM g w' b (Zu cs off (KU z n)):=by
  have hc0:=QL m.st hcs
  cases hrep with
  |mslx a =>
   refine⟨w,?_,Ext.refl g w,rfl,fun _ _=>rfl,by rw[hset0 rfl];exact hc0⟩
   simp[Builtin.clear_,hat,run_underlying hu]
  |msl _ _ _ _ _ h1 h2 =>
   cases n with
   |zero =>
    refine⟨w,?_,Ext.refl g w,rfl,fun _ _=>rfl,by rw[hset0 rfl];exact hc0⟩
    simp[Builtin.clear_,hat,run_underlying hu]
   |succ n =>
    obtain⟨w',a1,a2,a3,a4,a5⟩:=ZeT (P:=P) hc0 hzs hone (by rw[zl1];exact hlen) (m.st.kept b _ hsb)
    refine⟨w',?_,a2,a3,a4,a5⟩
    simp only[Builtin.clear_,hat,List.getElem?_toArray,List.getElem?_cons_zero,Sem.run_bind,run_underlying hu,Result.andThen_ok,hz1,a1,Sem.run_pure]
 obtain⟨w',a1,a2,a3,a4,a5⟩:=main
 have m':=m.named (o':=.cells (Zu cs off (KU z n))) hsb a2 a3 a4 a5
 refine YD (L':=L) hN hoo hdst hd hw hnd (v:=.tuple #[]) (e:=.d (.tup [])) ?_ a2 m' (Rep.tup [] [] rfl (by simp)) (h ops r k hr hkk)
 simp only[execOp,hop,resolve,invoke,builtin,Sem.run_bind,Sem.run_pure,Result.andThen_ok,List.map_toArray,ZEQ,ZE6,hvv,a1]
def QK(P:Program)(s:St)(sz:Nat)(dy:D)(m:Nat)(row:Nat→List D):Prop :=
 ∀g w v,Yb g s w→Rep g w v dy→0<sz→∃news,WP g w sz m news row∧ZaX P w sz m v news
theorem QK.elems{s sz dy m row}(h:Zaq sz dy=sO (m,row)):QK P s sz dy m row:=fun g w v _ hr h0=>Zln (P:=P) hr h h0
theorem QK.msl{s sz b off n cap cs}(hcs:Z5 s b=sO cs)(hlen:off+n*sz≤cs.length):QK P s sz (.msl b off n cap sz) n (fun i=>part cs (off+i*sz) sz):=fun g w v hs hr h0=>by
 obtain⟨hp,cur,T,hb,hcl,hcr,hco⟩:=QL hs hcs
 let vals:=(cur.toList.drop off).take (n*sz)
 have hvl:vals.length=n*sz:=by simp[vals];omega
 have hval:∀k,k<n*sz→vals[k]?=cur[off+k]?:=fun k hk=>by
  simp only[vals,ZFg,hk,if_true,List.getElem?_drop,Array.getElem?_toList]
 have hk:∀i j,i<n→j<sz→i*sz+j<n*sz:=fun i j hi hj=>by
  have:(i+1)*sz≤n*sz:=ZEW _ hi
  rw[ZE2,Nat.one_mul]at this;omega
 refine⟨vals,⟨hvl,fun i hi=>?_,fun i j v d hi hj hv hd=>?_,fun v hv=>?_⟩,?_⟩
 ·have:=hk i (sz-1) hi (by omega)
  simp only[part,ZEU,ZFh];omega
 ·rw[hval _ (hk i j hi hj)]at hv
  refine hcr _ v d hv ?_
  simp only[part,ZFg,hj,if_true,List.getElem?_drop]at hd
  rw[←hd];congr 1;omega
 ·obtain⟨k,hk',rfl⟩:=ZEV hv
  have h1:=hval k (by omega)
  rw[ZE5 hk']at h1
  exact hco _ (Array.mem_of_getElem? h1.symm)
 ·cases hr with
  |mslx a =>
   have:vals=[]:=List.eq_nil_of_length_eq_zero (by simpa using hvl)
   rw[this]
   exact⟨fun w2=>by simp[Builtin.lenOf],fun w2 _=>by simp[Builtin.firstCells,loadCells,loadCellsFrom]⟩
  |msl _ _ _ _ _ h1 h2 =>
   refine⟨fun w2=>by simp[Builtin.lenOf],fun w2 hw2=>?_⟩
   refine run_firstCells_some (P:=P) w2 sz n ⟨b,off,nO⟩ n cap vals hvl fun k v hv=>?_
   have hkl:k<n*sz:=by rw[←hvl];exact(List.getElem?_eq_some_iff.1 hv).1
   rw[hval k hkl]at hv
   rw[W5,Jg (hw2▸rfl:w2.heap[b]?=w.heap[b]?),Zan hb]
   exact hv
theorem ZtR{F:Fr P}{kp dk o os ρ L s}(hg:Zk ρ o.guard=sO true){e sz b z x y}(hk:o.k=.append e sz b z x y){p q t n m row row2 dy dx}(hx:ZC ρ true x=sO (p,.d dx))(hsl:Zdf sz dx=sO (t,n,row))(hy:ZC ρ true y=sO (q,.d dy))(hp:p)(hq:q)(hel:QK P (s.own t (n*sz)) sz dy m row2)(hok:t.okIn s)(hb:(n+m)*b≤140737488355328)(hbig:n+m≤big)(h:∀t':Tok,t'.okIn s→DO F kp dk os (Zv ρ o.dst (.d (.sl t' (n+m) sz (YJ n row row2)))) L (s.own t' ((n+m)*sz))):
  DO F kp dk (o::os) ρ L (s.own t (n*sz)):=by
 refine Wa fun oo g ν w tmps ops i r k hoo hck hcg hdst hd hN M hr hkk=>?_
 have hw:=Z8 M hcg hg
 have hnd:=Yc hck (by rw[hk];rfl)
 rw[hk]at hck
 obtain⟨x',y',args,ats,t1,t2,tu,hop,hargs,ha1,ha2,hu1,hu2,hnu,hsz,hz,hbb,hx',hy',h0,hzl⟩:=Zbv hck
 subst hbb
 have hr1:Rep g w _ (.sl t n sz row):=Zgh (Z3 M hx' rfl hx hp F.ds) hsl
 have hr2:Rep g w _ _:=Z3 M hy' rfl hy hq F.ds
 obtain⟨zv,hz1,hz2,hz3,ie,hie,hzz⟩:=QJ (g:=g) (w:=w) hz
 have hsize:ie.size=sz:=by simpa[ZS,hie]using hsz
 have hzlen:zv.cells.size=sz:=by have:=hz2.len;simp at this;omega
 have hby:P.bytesOf e=ie.bytes:=by simp[Program.bytesOf,hie]
 rw[hby]at hb
 obtain⟨news,hn1,hn2⟩:=hel _ _ _ M.st hr2 h0
 obtain⟨v',w',g',t',a1,a2,a3,a4,a5,a6,a7⟩:=ZqH (ty:=oo.type) hu1 hu2 hnu hie hzz hsize hzlen h0 M.st hok hr1 hn1 hn2 hb hbig
 have hne:∀l cs,Zf L l=sO cs→t≠.tip (ν l):=fun l cs hl ht=>by
  have:=M.locSt l cs hl
  rw[ht]at this
  simp[St.own,ZFc]at this
 have hsn:∀l cs,Zf L l=sO cs→s (ν l)=nO:=fun l cs hl=>by
  cases hx:s (ν l) with
  |none=>rfl
  |some o=>have:=Y0 (k:=n*sz) hok _ _ hx;rw[M.locSt l cs hl]at this;simp at this
 have mm:Zt g' ν w' tmps ρ L (s.own t' ((n+m)*sz)):=by
  refine⟨a3,fun l cs hl=>(M.loc l cs hl).mono a2 (a6 (ν l) (M.loc l cs hl).lt (hne l cs hl)).1 (a6 (ν l) (M.loc l cs hl).lt (hne l cs hl)).2,fun l cs hl=>by rw[a2.keptEq];exact M.locKept l cs hl,fun l cs hl=>?_,M.inj,fun t e he=>(M.env t e he).mono a2⟩
  cases t' with
  |tip b =>
   have:¬ν l=b:=fun hb=>by
    rcases a7 b rfl with h1|h1
    ·exact hne l cs hl (by rw[hb];exact h1)
    ·have:=(M.loc l cs hl).lt;omega
   simp only[St.own,ZFc,this,if_false];exact hsn l cs hl
  |_=>exact hsn l cs hl
 refine YD hN hoo hdst hd hw hnd (v:=v') (w':=w') (e:=.d (.sl t' (n+m) sz (YJ n row row2))) ?_ a2 mm a5 (h t' a4 ops r k hr hkk)
 have hae:args = #[x',y']:=by apply Array.ext';simpa using hargs
 have hats:∀vs,Builtin.append_ ats oo.type vs=Builtin.append_ #[t1,t2] oo.type vs:=fun vs=>by
  unfold Builtin.append_;simp[ha1,ha2]
 unfold execOp
 simp only[hop,hae,resolve,invoke,builtin,Sem.run_bind,Sem.run_pure,Result.andThen_ok,List.map_toArray,ZEQ,ZE6,hats,a1]
theorem Zco{sz m}{row:Nat→List D}(h:∀i,i<m→(row i).length=sz):∀k,k≤m→((ZEO k).flatMap row).length=k*sz
 |0,_=>by simp
 |k+1,hk=>by
  rw[List.range_succ,List.flatMap_append,ZEM,Zco h k (by omega)]
  simp[h k hk,ZE2]
theorem Zlp{sz m}{row:Nat→List D}(h:∀i,i<m→(row i).length=sz):∀(k i j),k≤m→i<k→j<sz→((ZEO k).flatMap row)[i*sz+j]?=(row i)[j]?
 |0,i,j,_,hi,_=>by omega
 |k+1,i,j,hk,hi,hj=>by
  rw[List.range_succ,List.flatMap_append]
  have hl:=Zco h k (by omega)
  by_cases hik:i<k
  ·have:i*sz+j<k*sz:=by
    have:(i+1)*sz≤k*sz:=ZEW _ hik
    rw[ZE2,Nat.one_mul]at this;omega
   rw[ZE7 (by omega)]
   exact Zlp h k i j (by omega) hik hj
  ·obtain rfl:i=k:=by omega
   rw[ZFj (by omega),hl]
   simp[List.flatMap_cons]
theorem WP.flat{g w sz m vs row}(h:WP g w sz m vs row):ZG (Rep g w) vs ((ZEO m).flatMap row):=by
 have hl:=Zco h.rlen m (ZEP _)
 refine Ya (by rw[h.len,hl]) fun k v d hv hd=>?_
 have hk:k<m*sz:=by rw[←hl];exact(List.getElem?_eq_some_iff.1 hd).1
 have hs:0<sz:=by
  rcases Nat.eq_zero_or_pos sz with h|h
  ·subst h;simp at hk
  ·exact h
 have h1:k / sz<m:=(Nat.div_lt_iff_lt_mul hs).2 hk
 have h2:k % sz<sz:=Nat.mod_lt _ hs
 have e:k / sz*sz+k % sz=k:=by rw[Nat.mul_comm];exact Nat.div_add_mod k sz
 rw[←e]at hv hd
 rw[Zlp h.rlen m _ _ (ZEP _) h1 h2]at hd
 exact h.rep _ _ v d h1 h2 hv hd
theorem Zw2{F:Fr P}{kp dk o os ρ L s}(hg:Zk ρ o.guard=sO true){e sz b z x y}(hk:o.k=.append e sz b z x y){p q m row row2 dy dx}(hx:ZC ρ true x=sO (p,.d dx))(hsl:Zdf sz dx=sO (.full,0,row))(hy:ZC ρ true y=sO (q,.d dy))(hel:QK P s sz dy m row2)(hp:p)(hq:q)(hm:0<m)(hb:m*b≤140737488355328)(hbig:m≤big)(h:∀c cap,s c=nO→m≤cap→DO F kp dk os (Zv ρ o.dst (.d (.msl c 0 m cap sz))) L (s.upd c (.cells ((ZEO m).flatMap row2++List.replicate ((cap-m)*sz) .any)))):
  DO F kp dk (o::os) ρ L s:=by
 refine Wa fun oo g ν w tmps ops i r k hoo hck hcg hdst hd hN M hr hkk=>?_
 have hw:=Z8 M hcg hg
 have hnd:=Yc hck (by rw[hk];rfl)
 rw[hk]at hck
 obtain⟨x',y',args,ats,t1,t2,tu,hop,hargs,ha1,ha2,hu1,hu2,hnu,hsz,hz,hbb,hx',hy',h0,hzl⟩:=Zbv hck
 subst hbb
 have hr1:Rep g w _ (.sl .full 0 sz row):=Zgh (Z3 M hx' rfl hx hp F.ds) hsl
 have hr2:Rep g w _ _:=Z3 M hy' rfl hy hq F.ds
 obtain⟨zv,hz1,hz2,hz3,ie,hie,hzz⟩:=QJ (g:=g) (w:=w) hz
 have hsize:ie.size=sz:=by simpa[ZS,hie]using hsz
 have hzlen:zv.cells.size=sz:=by have:=hz2.len;simp at this;omega
 have hby:P.bytesOf e=ie.bytes:=by simp[Program.bytesOf,hie]
 rw[hby]at hb
 obtain⟨news,hn1,hn2⟩:=hel _ _ _ M.st hr2 h0
 obtain⟨cap,cv,a1,a2,a3,a4,a5,a6⟩:=Ztc (ty:=oo.type) hu1 hu2 hnu hie hzz hsize hzlen hz3 h0 M.st hr1 hm hn1 hn2 hb hbig
 have hgr:JB g w g (w.drew.alloc (.cells cv e)):=ZiC (g:=g) (w:=w) cv e M.st.fresh
 have he:=hgr.ext M.st.fresh
 have hfl:=Zco hn1.rlen m (ZEP _)
 have hob:WD g (w.drew.alloc (.cells cv e)) w.heap.size (.cells ((ZEO m).flatMap row2++List.replicate ((cap-m)*sz) .any)) :=
  ⟨(M.st.fresh _ (ZEP _)).1,_,e,W9 w.drew _,by rw[ZEM,hfl,List.length_replicate,a4,←ZE2];congr 1;omega,fun i v d hv hd=>(a6 i v d hv hd).mono he,a5⟩
 obtain⟨hn,m'⟩:=M.newObj hgr hob
 refine YD (L':=L) hN hoo hdst hd hw hnd (e:=.d (.msl w.heap.size 0 m cap sz)) ?_ he m' (Rep.msl _ _ _ _ _ a2 a3) (h _ cap hn a2 ops r k hr hkk)
 have hae:args = #[x',y']:=by apply Array.ext';simpa using hargs
 have hats:∀vs,Builtin.append_ ats oo.type vs=Builtin.append_ #[t1,t2] oo.type vs:=fun vs=>by
  unfold Builtin.append_;simp[ha1,ha2]
 unfold execOp
 simp only[hop,hae,resolve,invoke,builtin,Sem.run_bind,Sem.run_pure,Result.andThen_ok,List.map_toArray,ZEQ,ZE6,hats,a1]
theorem ZnM{F:Fr P}{kp dk o os ρ L s}(hg:Zk ρ o.guard=sO true){e sz bt z x y}(hk:o.k=.append e sz bt z x y){p q b off n cap m row2 dy cs}(hx:ZC ρ true x=sO (p,.d (.msl b off n cap sz)))(hy:ZC ρ true y=sO (q,.d dy))(hp:p)(hq:q)(hcs:Z5 s b=sO cs)(hlen:off+n*sz≤cs.length)(hel:QK P s sz dy m row2)(hroom:n+m≤cap→off=0∧(n+m)*sz≤cs.length)(hb:(n+m)*bt≤140737488355328)(hbig:n+m≤big)(h1:n+m≤cap→DO F kp dk os (Zv ρ o.dst (.d (.msl b off (n+m) cap sz))) L (s.upd b (.cells (Zu cs (n*sz) ((ZEO m).flatMap row2)))))(h2:∀c cap',cap<n+m→s c=nO→n+m≤cap'→DO F kp dk os (Zv ρ o.dst (.d (.msl c 0 (n+m) cap' sz))) L (s.upd c (.cells (part cs off (n*sz)++(ZEO m).flatMap row2++List.replicate ((cap'-(n+m))*sz) .any)))):
  DO F kp dk (o::os) ρ L s:=by
 refine Wa fun oo g ν w tmps ops i r k hoo hck hcg hdst hd hN M hr hkk=>?_
 have hw:=Z8 M hcg hg
 have hnd:=Yc hck (by rw[hk];rfl)
 rw[hk]at hck
 obtain⟨x',y',args,ats,t1,t2,tu,hop,hargs,ha1,ha2,hu1,hu2,hnu,hsz,hz,hbb,hx',hy',h0,hzl⟩:=Zbv hck
 subst hbb
 have hr1:Rep g w _ (.msl b off n cap sz):=Z3 M hx' rfl hx hp F.ds
 have hr2:Rep g w _ _:=Z3 M hy' rfl hy hq F.ds
 obtain⟨zv,hz1,hz2,hz3,ie,hie,hzz⟩:=QJ (g:=g) (w:=w) hz
 have hsize:ie.size=sz:=by simpa[ZS,hie]using hsz
 have hzlen:zv.cells.size=sz:=by have:=hz2.len;simp at this;omega
 have hby:P.bytesOf e=ie.bytes:=by simp[Program.bytesOf,hie]
 rw[hby]at hb
 have hsb:s b=sO (.cells cs):=by
  unfold Z5 at hcs
  split at hcs<;>simp only[ZEz,reduceCtorEq]at hcs
  subst hcs;assumption
 obtain⟨news,hn1,hn2⟩:=hel _ _ _ M.st hr2 h0
 obtain⟨olds,ho1,ho2⟩:=QK.msl (P:=P) (s:=s) (cap:=cap) hcs hlen g w _ M.st hr1 h0
 have hae:args = #[x',y']:=by apply Array.ext';simpa using hargs
 have hats:∀vs,Builtin.append_ ats oo.type vs=Builtin.append_ #[t1,t2] oo.type vs:=fun vs=>by
  unfold Builtin.append_;simp[ha1,ha2]
 generalize hvx:(Act.mk tmps F.ds).eval x'=vx at hr1 ho2
 generalize hvy:(Act.mk tmps F.ds).eval y'=vy at hr2 hn2
 have hexec:∀v' w',(Builtin.append_ #[t1,t2] oo.type #[vx,vy]).run P w=.ok v' w'→(execOp (Act.mk tmps F.ds).eval oo).run P w=.ok (.value v') w':=fun v' w' hrun=>by
  unfold execOp
  simp only[hop,hae,resolve,invoke,builtin,Sem.run_bind,Sem.run_pure,Result.andThen_ok,List.map_toArray,ZEQ,ZE6,hats,hvx,hvy,hrun]
 subst hsize
 have hfl:=Zco hn1.rlen m (ZEP _)
 have hpl:(part cs off (n*ie.size)).length=n*ie.size:=by simp only[part,ZEU,ZFh];omega
 have hflo:(ZEO n).flatMap (fun i=>part cs (off+i*ie.size) ie.size)=part cs off (n*ie.size):=by
  have hlo:=Zco ho1.rlen n (ZEP _)
  apply List.ext_getElem?
  intro k'
  by_cases hk':k'<n*ie.size
  ·have e1:k' / ie.size*ie.size+k' % ie.size=k':=by rw[Nat.mul_comm];exact Nat.div_add_mod k' ie.size
   have e2:k' / ie.size<n:=(Nat.div_lt_iff_lt_mul h0).2 hk'
   have e3:k' % ie.size<ie.size:=Nat.mod_lt _ h0
   have:=Zlp ho1.rlen n _ _ (ZEP _) e2 e3
   rw[e1]at this
   rw[this]
   simp only[part,ZFg,e3,if_true,List.getElem?_drop,hk']
   congr 1;omega
  ·rw[ZFi (by omega),ZFi (by omega)]
 have hgrow:∀base,vx=.slice base n cap→cap<n+m→F.T.T g w (lone (F.b.atR ⟨tmps,F.ds⟩ (.inRegion ops (i::r)::k)) F.cs w):=by
  intro base hv hlt
  subst hv
  have hrun:=Zlg (ty:=oo.type) hu1 hu2 hnu hie hzz hn2 ho2.2 hlt (by simp only[big]at hbig;omega) hb
  have hge:=grownCap_ge w (n+m) cap e
  have hle:=grownCap_le_maxLen w (n+m) cap e (by simp only[big]at hbig;simp only[maxLen];omega)
  generalize grownCap w (n+m) cap e=cap' at hrun hge hle
  generalize hcv:(olds++news++(Builtin.zeroCells zv.cells (cap'-(n+m))).toList).toArray=cv at hrun
  have hzs:(Builtin.zeroCells zv.cells (cap'-(n+m))).toList.length=(cap'-(n+m))*ie.size:=by rw[Array.length_toList,size_zeroCells,hzlen]
  have hgr:JB g w g (w.drew.alloc (.cells cv e)):=ZiC (g:=g) (w:=w) cv e M.st.fresh
  have he:=hgr.ext M.st.fresh
  have hall:ZG (Rep g w) cv.toList (part cs off (n*ie.size)++(ZEO m).flatMap row2++List.replicate ((cap'-(n+m))*ie.size) .any):=by
   rw[←hcv,←hflo]
   refine(ho1.flat.append hn1.flat).append (Ya (by rw[hzs,List.length_replicate]) fun k' v d hv hd=>?_)
   rw[List.getElem?_replicate]at hd
   split at hd<;>simp only[ZEz,reduceCtorEq]at hd
   subst hd;exact .any v
  have hone:∀v∈cv,v.one1=true:=fun v hv=>by
   rw[←hcv]at hv
   simp only[List.mem_toArray,List.mem_append]at hv
   rcases hv with (hv|hv)|hv
   ·exact ho1.one v hv
   ·exact hn1.one v hv
   ·simp only[Builtin.zeroCells,Array.mem_toList_iff,Array.mem_map]at hv
    obtain⟨a,_,rfl⟩:=hv
    exact hz3 _ (by rw[getElem!_pos zv.cells _ (Nat.mod_lt _ (by omega))];exact Array.getElem_mem _)
  have hob:WD g (w.drew.alloc (.cells cv e)) w.heap.size (.cells (part cs off (n*ie.size)++(ZEO m).flatMap row2++List.replicate ((cap'-(n+m))*ie.size) .any)) :=
   ⟨(M.st.fresh _ (ZEP _)).1,_,e,W9 w.drew _,by simpa using hall.len,fun i v d hv hd=>(hall.get i v d (by simpa using hv) hd).mono he,hone⟩
  obtain⟨hn,m'⟩:=M.newObj hgr hob
  exact YD (L':=L) hN hoo hdst hd hw hnd (e:=.d (.msl w.heap.size 0 (n+m) cap' ie.size)) (hexec _ _ hrun) he m' (Rep.msl _ _ _ _ _ hge (by simp only[maxLen]at hle;simp only[big];omega)) (h2 _ cap' hlt hn hge ops r k hr hkk)
 have hstay:∀base,vx=.slice base n cap→base=sO ⟨b,off,nO⟩∨(n+m=0∧cap=0)→n+m≤cap→F.T.T g w (lone (F.b.atR ⟨tmps,F.ds⟩ (.inRegion ops (i::r)::k)) F.cs w):=by
  intro base hv hbase hle
  subst hv
  obtain⟨ho0,hfit0⟩:=hroom hle
  subst ho0
  obtain⟨hpr,cur,T,hb1,hcl,hcr,hco⟩:=QL M.st hcs
  by_cases hm0:m=0
  ·subst hm0
   have hne:news=[]:=List.eq_nil_of_length_eq_zero (by simpa using hn1.len)
   subst hne
   have hrun:=ZoO (ty:=oo.type) (n:=n) (cap:=cap) (base:=base) hu1 hu2 hnu hie hn2 (by omega)
   have hset:Zu cs (n*ie.size) ((ZEO 0).flatMap row2)=cs:=by simp[Zu]
   have hup:s.upd b (.cells cs)=s:=by funext c;simp only[ZFc];split<;>simp_all
   have hgo:=h1 hle
   rw[hset,hup]at hgo
   exact YD (L':=L) (s':=s) hN hoo hdst hd hw hnd (e:=.d (.msl b 0 (n+0) cap ie.size)) (hexec _ _ hrun) (Ext.refl g w) M (by rw[Nat.add_zero];exact hr1) (hgo ops r k hr hkk)
  ·have hbase':base=sO ⟨b,0,nO⟩:=hbase.resolve_right (fun h=>hm0 (by omega))
   subst hbase'
   have hfit:n*ie.size+news.length≤cur.size:=by rw[hn1.len,←ZE2,hcl];exact hfit0
   have hrun:=ZqI (ty:=oo.type) hu1 hu2 hnu hie hn2 hb1 (fun v hv=>by rw[Zcv];exact hn1.one v hv) hle hfit
   obtain⟨w',a1,a2,a3,a4,a5⟩:=ZeT (P:=P) (off:=n*ie.size) (QL M.st hcs) hn1.flat hn1.one (by rw[hfl,←ZE2];exact hfit0) (M.st.kept b _ hsb)
   have hst:=run_storeCells_at (P:=P) b (n*ie.size) T news 0 cur w hb1 (by simpa using hfit) (fun v hv=>by rw[Zcv];exact hn1.one v hv)
   simp only[Nat.add_zero]at hst
   rw[a1]at hst
   simp only[Result.ok.injEq,true_and]at hst
   rw[←hst]at hrun
   have m':=M.named (o':=.cells (Zu cs (n*ie.size) ((ZEO m).flatMap row2))) hsb a2 a3 a4 a5
   exact YD (L':=L) hN hoo hdst hd hw hnd (e:=.d (.msl b 0 (n+m) cap ie.size)) (hexec _ _ hrun) a2 m' (by
    cases hr1 with
    |msl _ _ _ _ _ _ hcb=>exact Rep.msl _ _ _ _ _ hle hcb
    |mslx a=>exact absurd hle (by omega)) (h1 hle ops r k hr hkk)
 cases hr1 with
 |msl _ _ _ _ _ hc1 hc2 =>
  by_cases hle:n+m≤cap
  ·exact hstay _ rfl (.inl rfl) hle
  ·exact hgrow _ rfl (by omega)
 |mslx a =>
  by_cases hle:0+m≤0
  ·exact hstay _ rfl (.inr ⟨by omega,rfl⟩) hle
  ·exact hgrow _ rfl (by omega)
end
variable {P:Program}
def JN(o:DOp)(ρ:Env)(L:Loc)(s:St):SR :=
 match o.k with
 |.q (.bin .add _) _=>.stop
 |.q (.bin .shl _) _=>.stop
 |_=>Zx o ρ L s
def Qv(K:Env→Loc→St→Prop)(X:List DOp→Env→Loc→St→Prop):List DOp→Env→Loc→St→Prop
 | [],ρ,L,s=>K ρ L s
 |o::os,ρ,L,s=>match JN o ρ L s with
  |.ok side ρ' L' s'=>side∧Qv K X os ρ' L' s'
  |.all side pre ρ' s'=>side∧∀b,pre b→Qv K X os (ρ' b) L (s' b)
  |.stop=>X (o::os) ρ L s
theorem ZhC{o ρ L s}:∀r,JN o ρ L s=r→r=.stop∨Zx o ρ L s=r:=fun r hr=>by
 unfold JN at hr
 split at hr
 ·exact .inl hr.symm
 ·exact .inl hr.symm
 ·exact .inr hr
theorem Jb{F:Fr P}{kp}{dk}:∀{os} {ρ} {L} {s},
  Qv (fun ρ L s=>Zs F dk (kept kp ρ) (ZjX kp ρ L) s) (fun os ρ L s=>DO F kp dk os ρ L s) os ρ L s→DO F kp dk os ρ L s
 | [],ρ,L,s,h=>Zd7 h
 |o::os,ρ,L,s,h=>by
  simp only[Qv]at h
  split at h
  ·rename_i sd ρ' L' s' h1
   rcases ZhC _ h1 with h2|h2
   ·cases h2
   ·exact Qg h2 h.1 (Jb h.2)
  ·rename_i sd pre ρ' s' h1
   rcases ZhC _ h1 with h2|h2
   ·cases h2
   ·exact ZlY h2 h.1 fun b hb=>Jb (h.2 b hb)
  ·exact h
theorem Zbr{F:Fr P}{ks dk}:∀{os ρ L s},
  Qv (fun ρ L s=>Zs F dk (Yh ρ ks) (ZaF (Yh ρ ks) L) s) (fun os ρ L s=>JZ F (sO ks) dk os ρ L s) os ρ L s→JZ F (sO ks) dk os ρ L s
 | [],ρ,L,s,h=>Y9 (os:=[]) h
 |o::os,ρ,L,s,h=>by
  simp only[Qv]at h
  split at h
  ·rename_i sd ρ' L' s' h1
   rcases ZhC _ h1 with h2|h2
   ·cases h2
   ·intro B
    refine QY h2 h.1 ?_
    split
    ·exact Zbr h.2 _
    ·exact⟨ZbX,Zbr h.2 _⟩
  ·rename_i sd pre ρ' s' h1
   rcases ZhC _ h1 with h2|h2
   ·cases h2
   ·intro B
    exact ZnK h2 h.1 fun b hb=>⟨ZbX,Zbr (h.2 b hb) _⟩
  ·exact h
theorem Zvp{F:Fr P}{kp dk o os ρ L s}(hg:o.guard=nO){x y bo pl}(hk:o.k=.q (.bin bo pl) [x,y]){p k k2 a b v}(ha:Z2 ρ true [x,y]=sO (p,[.d (.int k a),.d (.int k2 b)]))(hp:p)(hv:ZhJ bo k k2 a b=sO v)(h:JZ F kp dk os (Zv ρ o.dst (.d (.int k v))) L s):JZ F kp dk (o::os) ρ L s:=fun B=>Zw1 hg hk ha hp hv (h B)
theorem ZoG{F:Fr P}{kp dk o os ρ L s}(hg:o.guard=nO){x y pl}(hk:o.k=.q (.bin .add pl) [x,y]){p k a b}(ha:Z2 ρ true [x,y]=sO (p,[.d (.int k a),.d (.int k b)]))(hp:p)(h:JZ F kp dk os (Zv ρ o.dst (.d (.int k (k.wrap (a+b))))) L s):JZ F kp dk (o::os) ρ L s:=Zvp hg hk ha hp (by simp[ZhJ]) h
section
variable {P:Program} {F:Fr P} {ks:Option (List Nat)} {dk:List WL} {ρ:Env} {L:Loc} {s:St}
theorem rgR{r os kt}(e:r=os)(e2:kt=ks)(h:DO F ks dk os ρ L s):Zs F (.code (.reg r kt)::dk) ρ L s:=by subst e e2;exact ZgQ h
theorem Zhq{o r os kt}(e:r=os)(e2:kt=ks)(h:JZ F ks dk os ρ L s):Zs F (.code (.regD o (Zvi r) kt)::dk) ρ L s:=by subst e e2;exact ZtV h
theorem rgD{o r os kt}(e:r=os)(e2:kt=ks)(h:DOA F ks dk os ρ L s []):Zs F (.code (.regD o r kt)::dk) ρ L s:=by subst e e2;exact Zh7 h
end
structure Hid(p:Prop):Prop where
 out:p
theorem nd2{a b}(x:a)(y:b):a∧b:=⟨x,y⟩
theorem mv{A B:Prop}(k:B)(h:Hid B→A:=by
 intro hk
 repeat(first|refine Za ?_|refine Zo ?_|refine ZT ?_|refine ZD ?_|refine Yu ?_|refine Zd ?_|refine Yg ?_|refine ZR rfl ?_)
 exact hk.out):A:=h ⟨k⟩
theorem rg{A B:Prop}(k:B)(h:Hid B→A:=by
 intro hk
 repeat(first|refine Za ?_|refine Zo ?_|refine ZT ?_|refine ZD ?_|refine Yu ?_|refine Zd ?_|refine Yg ?_|refine ZR rfl ?_)
 first|refine rgR (by conv=>lhs;whnf) (by conv=>lhs;whnf) (Zj ?_)|refine Zhq (by conv=>lhs;whnf) (by conv=>lhs;whnf) (Y9 ?_)|refine rgD (by conv=>lhs;whnf) (by conv=>lhs;whnf) (Yx ?_)
 simp only[Eqs,reduceCtorEq,Int.reduceToNat,reduceIte,Nat.reduceEqDiff,Nat.reduceAdd,Nat.reduceLeDiff]
 exact hk.out):A:=h ⟨k⟩
theorem rx{p:Prop}(e:p){A B:Prop}(k:B)(h:p→Hid B→A:=by
 intro e1 hk
 repeat(first|refine Za ?_|refine Zo ?_|refine ZT ?_|refine ZD ?_|refine Yu ?_|refine Zd ?_|refine Yg ?_|refine ZR rfl ?_)
 first|refine rgR (by conv=>lhs;whnf) (by conv=>lhs;whnf) (Zj ?_)|refine Zhq (by conv=>lhs;whnf) (by conv=>lhs;whnf) (Y9 ?_)|refine rgD (by conv=>lhs;whnf) (by conv=>lhs;whnf) (Yx ?_)
 simp only[Eqs,reduceCtorEq,Int.reduceToNat,reduceIte,Nat.reduceEqDiff,Nat.reduceAdd,Nat.reduceLeDiff,e1]
 exact hk.out):A:=h e ⟨k⟩
theorem rh{A B:Prop}(k:B)(h:Hid B→A:=by
 intro hk
 repeat(first|refine Za ?_|refine Zo ?_|refine ZT ?_|refine ZD ?_|refine Yu ?_|refine Zd ?_|refine Yg ?_|refine ZR rfl ?_)
 first|refine rgR (by conv=>lhs;whnf) (by conv=>lhs;whnf) ?_|refine Zhq (by conv=>lhs;whnf) (by conv=>lhs;whnf) ?_|refine rgD (by conv=>lhs;whnf) (by conv=>lhs;whnf) ?_
 exact hk.out):A:=h ⟨k⟩
theorem aa{A B:Prop}(k:B)(h:Hid B→A:=by
 intro hk
 repeat(refine And.intro (by first|omega|trivial|(intro h0;simp at h0;omega)) ?_)
 exact hk.out):A:=h ⟨k⟩
theorem cl{q:Prop}(c:q){A B:Prop}(k:B)(h:q→Hid B→A:=by
 intro hc hk
 refine Zag rfl rfl rfl rfl rfl (by trivial) (by trivial) hc (Zj ?_)
 simp only[Eqs,reduceCtorEq,Int.reduceToNat,reduceIte,Nat.reduceEqDiff,Nat.reduceAdd,Nat.reduceLeDiff]
 exact hk.out):A:=h c ⟨k⟩
theorem ct{q:Prop}(c:q){A B:Prop}(k:B)(h:q→Hid B→A:=by
 intro hc hk
 refine Zah rfl rfl rfl rfl rfl (by trivial) (by trivial) hc (Zj ?_)
 simp only[Eqs,reduceCtorEq,Int.reduceToNat,reduceIte,Nat.reduceEqDiff,Nat.reduceAdd,Nat.reduceLeDiff]
 exact hk.out):A:=h c ⟨k⟩
theorem cl0{q:Prop}(c:q){A B:Prop}(k:B)(h:q→Hid B→A:=by
 intro hc hk
 refine ZtO rfl rfl rfl rfl rfl (by trivial) (by trivial) hc (Y9 ?_)
 simp only[Eqs,reduceCtorEq,Int.reduceToNat,reduceIte,Nat.reduceEqDiff,Nat.reduceAdd,Nat.reduceLeDiff]
 exact hk.out):A:=h c ⟨k⟩
theorem clD{q:Prop}(c:q){A B:Prop}(k:B)(h:q→Hid B→A:=by
 intro hc hk
 refine Zh4 rfl rfl rfl rfl rfl (by trivial) (by trivial) hc (Yx ?_)
 simp only[Eqs,reduceCtorEq,Int.reduceToNat,reduceIte,Nat.reduceEqDiff,Nat.reduceAdd,Nat.reduceLeDiff]
 exact hk.out):A:=h c ⟨k⟩
theorem ctD{q:Prop}(c:q){A B:Prop}(k:B)(h:q→Hid B→A:=by
 intro hc hk
 refine Zh5 rfl rfl rfl rfl rfl (by trivial) (by trivial) hc (by first|trivial|exact⟨rfl,trivial⟩|simp[Y5,KE]) (Yx ?_)
 simp only[Eqs,reduceCtorEq,Int.reduceToNat,reduceIte,Nat.reduceEqDiff,Nat.reduceAdd,Nat.reduceLeDiff]
 exact hk.out):A:=h c ⟨k⟩
section
variable {P:Program} {F:Fr P} {dk:List WL} {ρ:Env} {L:Loc} {s:St}
theorem cd{o:Opd}{x y:DC}{b:Bool}{p:Prop}(ht:b=true→Zs F (.code x::dk) ρ L s)(hf:b=false→Zs F (.code y::dk) ρ L s)(ho:ZC ρ true o=sO (p,.d (.bool b)):=by rfl)(hp:p:=by trivial):Zs F (.code (.cond o x y)::dk) ρ L s:=Zq ho hp ht hf
end
theorem rb{p:Prop}(c:p){A B:Prop}(k:B)(h:p→Hid B→A:=by
 intro hret hk
 repeat(first|refine Za ?_|refine Zo ?_|refine ZT ?_|refine ZD ?_|refine Yu ?_|refine Zd ?_|refine Yg ?_|refine ZR rfl ?_)
 exact hret rfl (by first|trivial|simp) (ZdY hk.out) (by first|exact St.sub_refl _|exact Y0 (by first|trivial|assumption)|assumption|exact St.sub_upd _ (by assumption))):A:=h c ⟨k⟩
theorem ri{p:Prop}(c:p){A B:Prop}(k:B)(h:p→Hid B→A:=by
 intro hret hk
 repeat(first|refine Za ?_|refine Zo ?_|refine ZT ?_|refine ZD ?_|refine Yu ?_|refine Zd ?_|refine Yg ?_|refine ZR rfl ?_)
 exact hret rfl (by first|trivial|simp) (Zgb hk.out) (by first|exact St.sub_refl _|exact Y0 (by first|trivial|assumption)|assumption|exact St.sub_upd _ (by assumption))):A:=h c ⟨k⟩
theorem rs{p:Prop}(c:p){A B:Prop}(k:B)(h:p→Hid B→A:=by
 intro hret hk
 repeat(first|refine Za ?_|refine Zo ?_|refine ZT ?_|refine ZD ?_|refine Yu ?_|refine Zd ?_|refine Yg ?_|refine ZR rfl ?_)
 exact hret rfl (by first|trivial|simp) (ZzT hk.out) (by first|exact St.sub_refl _|exact Y0 (by first|trivial|assumption)|assumption|exact St.sub_upd _ (by assumption))):A:=h c ⟨k⟩
theorem ro{p:Prop}(c:p){A B:Prop}(k:B)(h:p→Hid B→A:=by
 intro hret hk
 repeat(first|refine Za ?_|refine Zo ?_|refine ZT ?_|refine ZD ?_|refine Yu ?_|refine Zd ?_|refine Yg ?_|refine ZR rfl ?_)
 exact hret rfl (by first|trivial|simp) (ZzR hk.out) (by first|exact St.sub_refl _|exact Y0 (by first|trivial|assumption)|assumption|exact St.sub_upd _ (by assumption))):A:=h c ⟨k⟩
theorem rt{p:Prop}(c:p){A B:Prop}(k:B)(h:p→Hid B→A:=by
 intro hret hk
 repeat(first|refine Za ?_|refine Zo ?_|refine ZT ?_|refine ZD ?_|refine Yu ?_|refine Zd ?_|refine Yg ?_|refine ZR rfl ?_)
 exact hret rfl (by first|trivial|simp) (Jd hk.out rfl) (by first|exact St.sub_refl _|exact Y0 (by first|trivial|assumption)|assumption|exact St.sub_upd _ (by assumption))):A:=h c ⟨k⟩
theorem fr{P}{F:Fr P}{x dk ρ L s}(N)(M:Nat→(Env→Loc→St→Prop)→Prop)(h:∀n,(∀m,m<n→∀i,N-i=m→M i fun ρ L s=>Zs F (.code x::.inLoop x::dk) ρ L s)→∀i,N-i=n→M i fun ρ L s=>Zs F (.code x::.inLoop x::dk) ρ L s)(g:(∀n i,N-i=n→M i fun ρ L s=>Zs F (.code x::.inLoop x::dk) ρ L s)→Zs F (.code x::.inLoop x::dk) ρ L s):Zs F (.code (.loop x)::dk) ρ L s :=
 Zbs (g fun n=>Nat.strongRecOn n h)
theorem i0{A B:Prop}(k:B)(h:Hid B→A:=by
 intro hq
 repeat(first|refine Za ?_|refine Zo ?_|refine ZT ?_|refine ZD ?_|refine Yu ?_|refine Zd ?_|refine Yg ?_|refine ZR rfl ?_)
 exact Zq rfl trivial (fun h=>by first|(simp at h;done)|(rw[hk]at h;simp at h;done)) (fun _=>hq.out)):A:=h ⟨k⟩
theorem i1{A B:Prop}(k:B)(h:Hid B→A:=by
 intro hq
 repeat(first|refine Za ?_|refine Zo ?_|refine ZT ?_|refine ZD ?_|refine Yu ?_|refine Zd ?_|refine Yg ?_|refine ZR rfl ?_)
 exact Zq rfl trivial (fun _=>hq.out) (fun h=>by first|(simp at h;done)|(rw[hk]at h;simp at h;done))):A:=h ⟨k⟩
theorem kl{P:Program}{F:Fr P}{dk:List WL}(s':St)(ρ':Env)(L':Loc)(h1:LeE ρ ρ')(h2:LeL L L')(h:Zs F dk ρ' L' s')(hs:s'.sub s:=by first|exact St.sub_refl _|exact Y0 (by first|trivial|assumption)|exact St.sub_trans (Y0 (by first|trivial|assumption)) (Y0 (by first|trivial|assumption))|assumption):Zs F dk ρ L s :=
 Kk hs (ZyB h1 h2 h)
end Go.DL
namespace Go.DL
open Go
variable {kp:Option (List Nat)}{L:Loc}{ρ:Env}{s:St}{w:World}{os:List DOp}{ds:List D}{B:List (Nat × Rd)}{dst:Option Nat}{tmps:Array Value}{g:G}{Φ:Res→St→Prop}{ν:Nat→Nat}{xs:List Opd}{side:Prop}{row:Nat→List D}
def ZrS:List Int:=[1,10,100,1000,10000,100000,1000000,10000000,100000000,1000000000,10000000000,100000000000,1000000000000,10000000000000,100000000000000,1000000000000000,10000000000000000,100000000000000000,1000000000000000000,10000000000000000000]
instance theTabs:Zqy:=⟨fun n=>match Nat.beq n 2 with
 |true=>sO (ZrS.map fun z=>.int .u64 z)
 |false=>nO⟩
end Go.DL
namespace Go.DL
open Go
variable [Zqy]
variable {kp:Option (List Nat)}{L:Loc}{ρ:Env}{s:St}{w:World}{os:List DOp}{ds:List D}{B:List (Nat × Rd)}{dst:Option Nat}{tmps:Array Value}{g:G}{Φ:Res→St→Prop}{ν:Nat→Nat}{xs:List Opd}{side:Prop}{row:Nat→List D}
def ZrI(T:Tab)(ms:List Nat):Nat→List Nat→List Nat→List Nat×List (Nat×List Nat)×List Nat
 |0,rest,_=>(rest,[],[])
 |n+1,rest,A =>
  let rdy:=rest.filter fun i=>(T.deps i).all fun d=>!rest.contains d
  let free:=fun(i:Nat) (A:List Nat)=>A.filter fun a=>!(ms.getD i 0).testBit a
  let fl:=fun(i:Nat) (A:List Nat) (l:List (Nat×List Nat))=>match (free i A).filter fun a=>YL (T.op a).k with
   | []=>l
   |as9=>(i,as9.map fun a=>Zbq (T.op a))::l
  match rdy.find? fun i=>Zcm T A i&&A.all fun a=>(ms.getD i 0).testBit a ||nd (T.op a).dst (Zz (T.op i)) with
  |some i=>match ZrI T ms n (rest.erase i) (i::A) with
   | (od,f,k)=>(i::od,f,k)
  |none=>match rdy with
   | []=>(rest,[],[])
   | [i]=>match ZrI T ms n (rest.erase i) (free i A) with
    | (od,f,k)=>(i::od,fl i A f,k)
   |i::j::_=>match ZrI T ms n ((rest.erase i).erase j) (free j (free i A)) with
    | (od,f,k)=>(i::j::od,fl i A (fl j A f),i::k)
def bS:List Nat→Nat
 | []=>0
 |a::l=>1 <<< a |||bS l
def bR:List DOp→Nat→Nat
 | [],m=>m
 |o::r,m=>bS (Zz o) |||match o.dst with
  |some d=>bR r m ^^^ (bR r m &&& 1 <<< d)
  |none=>bR r m
abbrev LB:=List (Nat×Nat)
def LB.get(d:Nat):LB→Nat→Nat
 | [],_=>d
 | (j,m)::r,k=>if j=k then m else LB.get d r k
def LB.put:LB→Nat→Nat→LB
 | [],k,m=>[(k,m)]
 | (j,n)::r,k,m=>if j=k then (j,n |||m)::r else (j,n)::LB.put r k m
def lvI(f:Nat→LB→Nat×LB×LB):Nat→Nat→LB→Nat×LB×LB
 |0,m,b=>f m b
 |n+1,m,b=>match f m b with
  | (m',k,b')=>if m' |||m=m then (m,k,b') else lvI f n (m' |||m) b'
def lvS(f:LB→Nat×LB×LB):Nat→LB→Nat×LB×LB
 |0,b=>f b
 |n+1,b=>match f b with
  | (m,k,b')=>if b'=b then (m,k,b') else lvS f n b'
def lvC(P:Program)(N ret:Nat):Code→LB→LB→Nat→Nat×LB×LB
 |.region id ops _,_,b,m=>match Q3 P N ops (List.range ops.size) with
  |some l=>(bR l m,[(id,m)],b)
  |none=>(0,[],b)
 |.seq x y,ex,b,m=>match lvC P N ret y ex b m with
  | (m,k,b)=>match lvC P N ret x ex b m with
   | (m,k',b)=>(m,k'++k,b)
 |.cond c x y,ex,b,m=>match lvC P N ret x ex b m,ZU c with
  | (n,k,b),sO c=>match lvC P N ret y ex b m with
   | (m,k',b)=>(bS (ZN c) |||n |||m,k++k',b)
  |_,nO=>(0,[],b)
 |.block id x,ex,b,m=>lvC P N ret x ((id,m)::ex) b m
 |.loop x,ex,b,_=>lvI (fun m b=>lvC P N ret x ex b m) 9 0 b
 |.exit id,ex,b,_=>(LB.get ret ex id,[],b)
 |.ret,_,b,_=>(ret,[],b)
 |.scope x,ex,b,m=>lvS (fun b=>lvC P N ret x ex b m) 9 b
 |.label l,_,b,m=>(m,[],b.put l m)
 |.goto l,_,b,_=>(LB.get 0 b l,[],b)
 |.rangeFunc f _ x y,ex,b,m0=>match ZU f,lvI (fun m b=>match lvC P N ret y ex b (m |||m0) with
   | (m1,k,b)=>match lvC P N ret x ex b m1 with
    | (m2,k',b)=>(m2 |||m0 |||m,k++k',b)) 9 0 b with
  |some f,(m,k,b)=>(bS (ZN f) |||m,k,b)
  |none,_=>(0,[],b)
 |_,_,b,m=>(m,[],b)
def fN:Nat→Option Nat
 |0=>sO 0
 |n+1=>sO (n+1)
def fNs:List Nat→Option (List Nat)
 | []=>sO []
 |a::l=>match fN a,fNs l with
  |some a,sO l=>sO (a::l)
  |_,_=>nO
def kpO:Nat→Nat→Nat→Option (List Nat)
 |0,_,_=>sO []
 |n+1,i,m=>match kpO n (i+1) (m / 2) with
  |some l=>if m % 2=1 then match fN i with
   |some i=>sO (i::l)
   |none=>nO
   else sO l
  |none=>nO
def kpM(N m:Nat):Option (List Nat):=kpO N 0 m
def rvM:List RV→Nat
 | []=>0
 |.tmp t::r=>1 <<< t |||rvM r
 |.cell1 t::r=>1 <<< t |||rvM r
 |.cellN t _::r=>1 <<< t |||rvM r
def dOf(P:Program)(N:Nat)(ops:Array Oper):List DOp×List Nat×List (Nat×List Nat)×List Nat :=
 match Q3 P N ops (List.range ops.size) with
 |some l=>(l,ZrI (l.zip (ops.toList.map Jm)) (Zfm (ops.toList.map Jm) []) ops.size (List.range ops.size) [])
 |none=>([],[],[],[])
def anD(P:Program)(N:Nat):Code→Ann
 |.region id ops true=>match dOf P N ops with
  | (_,od,fl,_)=>(id+1000000,od)::fl.map fun x=>(id+1000000*(x.1+4),x.2)
 |.seq a b=>anD P N a++anD P N b
 |.cond _ a b=>anD P N a++anD P N b
 |.block _ a=>anD P N a
 |.loop a=>anD P N a
 |.scope a=>anD P N a
 |.rangeFunc _ _ a b=>anD P N a++anD P N b
 |_=>[]
def lvF(P:Program)(fn:Func)(c:Code):LB :=
 match Zio P fn.results.toList with
 |some rs=>(lvC P fn.ntmps (rvM rs) c [] [] (rvM rs)).2.1
 |none=>[]
def anF(P:Program)(f:FuncId):Ann :=
 match P.funcs[f]? with
 |some fn=>match fn.body with
  |some c=>(lvF P fn c).filterMap (fun x=>(kpM fn.ntmps x.2).map fun k=>(x.1,k))++anD P fn.ntmps c
  |none=>[]
 |none=>[]
def fLL:List (Nat×Nat)→Option (List (Nat×Nat))
 | []=>sO []
 | (a,b)::l=>match fN a,fN b,fLL l with
  |some a,sO b,sO l=>sO ((a,b)::l)
  |_,_,_=>nO
def fCC:List (Nat×SK)→Option (List (Nat×SK))
 | []=>sO []
 | (a,b)::l=>match fN a,fCC l with
  |some a,sO l=>sO ((a,b)::l)
  |_,_=>nO
def fP:Option Zed→Option (Option Zed)
 |none=>sO nO
 |some p=>match p with
  |.cells l=>match fCC l with
   |some l=>sO (sO (.cells l))
   |none=>nO
  |p=>sO (sO p)
def plP(P:Program):Op→Option Zed
 |.binOp _ t x y _=>match P.underlying t with
  |some (.struct fs)=>(Km P fs.toList).map .cells
  |some (.array n e)=>match KT P e,ZS P e with
   |some k,sO 1=>sO (.cells ((List.range n).map (·,k)))
   |_,_=>nO
  |_=>Zc4 P t x y
 |_=>nO
def fQ(P:Program)(op:Op)(q:Q)(xs:List Opd):Option K :=
 match q with
 |.loadN n=>match fN n with
  |some n=>sO (.q (.loadN n) xs)
  |none=>nO
 |.bin o _=>match fP (plP P op) with
  |some p=>sO (.q (.bin o p) xs)
  |none=>nO
 |.faddr n=>match fN n with
  |some n=>sO (.q (.faddr n) xs)
  |none=>nO
 |.fld1 n=>match fN n with
  |some n=>sO (.q (.fld1 n) xs)
  |none=>nO
 |.fldN n m=>match fN n,fN m with
  |some n,sO m=>sO (.q (.fldN n m) xs)
  |_,_=>nO
 |.iaddr n=>match fN n with
  |some n=>sO (.q (.iaddr n) xs)
  |none=>nO
 |.iaddrA n m=>match fN n,fN m with
  |some n,sO m=>sO (.q (.iaddrA n m) xs)
  |_,_=>nO
 |.idxA n m o=>match fN n,fN m with
  |some n,sO m=>sO (.q (.idxA n m o) xs)
  |_,_=>nO
 |.sliceA n m a b c=>match fN n,fN m with
  |some n,sO m=>sO (.q (.sliceA n m a b c) xs)
  |_,_=>nO
 |.slice n a b c=>match fN n with
  |some n=>sO (.q (.slice n a b c) xs)
  |none=>nO
 |.build z l=>match fLL l with
  |some l=>sO (.q (.build z l) xs)
  |none=>nO
 |.mkfn f n=>match fN n with
  |some n=>sO (.q (.mkfn f n) xs)
  |none=>nO
 |q=>sO (.q q xs)
def fK(P:Program)(op:Op):K→Option K
 |.q q xs=>fQ P op q xs
 |.storeN n a v=>match fN n with
  |some n=>sO (.storeN n a v)
  |none=>nO
 |.bsl n s z is xs=>match fN s with
  |some s=>sO (.bsl n s z is xs)
  |none=>nO
 |.append e s b z x y=>match fN s,fN b with
  |some s,sO b=>sO (.append e s b z x y)
  |_,_=>nO
 |.mkslice e s b z x y=>match fN s,fN b with
  |some s,sO b=>sO (.mkslice e s b z x y)
  |_,_=>nO
 |.clear s z x=>match fN s with
  |some s=>sO (.clear s z x)
  |none=>nO
 |.copy s x y=>match fN s with
  |some s=>sO (.copy s x y)
  |none=>nO
 |.pick c a b=>sO (.pick c a b)
 |.alloc z=>sO (.alloc z)
 |.box x=>sO (.box x)
 |.s2b x=>sO (.s2b x)
 |.store1 a v=>sO (.store1 a v)
 |.call f xs=>sO (.call f xs)
 |.defer f xs=>sO (.defer f xs)
 |.mkmap=>sO .mkmap
 |.mapupd a b c d=>sO (.mapupd a b c d)
 |.mapent a b c d=>sO (.mapent a b c d)
 |.entst a b c=>sO (.entst a b c)
 |.panic x=>sO (.panic x)
 |.recover=>sO .recover
 |.delete a b c=>sO (.delete a b c)
 |.fork _=>nO
def fO(P:Program):List (DOp×Oper)→Option (List DOp)
 | []=>sO []
 | (o,r)::l=>match fK P r.op o.k,fO P l,o.dst,o.guard with
  |some k,sO l,sO d,nO=>sO (⟨sO d,nO,k⟩::l)
  |some k,sO l,nO,nO=>sO (⟨nO,nO,k⟩::l)
  |some k,sO l,sO d,sO (t,true)=>sO (⟨sO d,sO (t,true),k⟩::l)
  |some k,sO l,sO d,sO (t,false)=>sO (⟨sO d,sO (t,false),k⟩::l)
  |some k,sO l,nO,sO (t,true)=>sO (⟨nO,sO (t,true),k⟩::l)
  |some k,sO l,nO,sO (t,false)=>sO (⟨nO,sO (t,false),k⟩::l)
  |_,_,_,_=>nO
def ZfP(id:Nat):Code→Option (Array Oper)
 |.region i ops _=>if i=id then sO ops else nO
 |.seq a b=>match ZfP id a with
  |some x=>sO x
  |none=>ZfP id b
 |.cond _ a b=>match ZfP id a with
  |some x=>sO x
  |none=>ZfP id b
 |.block _ a=>ZfP id a
 |.loop a=>ZfP id a
 |.scope a=>ZfP id a
 |.rangeFunc _ _ a b=>match ZfP id a with
  |some x=>sO x
  |none=>ZfP id b
 |_=>nO
def ZuM(fn:Func)(id:Nat):Option (Array Oper):=match fn.body with
 |some c=>ZfP id c
 |none=>nO
def ZA9(P:Program)(fn:Func)(id:Nat):List DOp:=match ZuM fn id with
 |some ops=>match Q3 P fn.ntmps ops (List.range ops.size) with
  |some l=>match fO P (l.zip ops.toList) with
   |some l=>l
   |none=>[]
  |none=>[]
 |none=>[]
def ZA8(P:Program)(fn:Func)(id:Nat):List DOp:=match ZuM fn id with
 |some ops=>match dOf P fn.ntmps ops with
  | (l,od,_)=>match fO P (od.map fun i=>(l.zip ops.toList).getD i dE) with
   |some l=>l
   |none=>[]
 |none=>[]
def ZAI(fl:List (Nat×List Nat)):List Nat→List DOp→Option (List (DOp×List Nat))
 |i::od,o::l=>match ZAI fl od l,fl.find? fun x=>x.1==i with
  |some r,sO (_,t)=>match fNs t with
   |some t=>sO ((o,t)::r)
   |none=>nO
  |some r,nO=>sO ((o,[])::r)
  |none,_=>nO
 |_,_=>sO []
def ZBa(P:Program)(fn:Func)(id:Nat):List (DOp×List Nat):=match ZuM fn id with
 |some ops=>match dOf P fn.ntmps ops with
  | (l,od,fl,_)=>match fO P (od.map fun i=>(l.zip ops.toList).getD i dE) with
   |some l=>match ZAI fl od l with
    |some r=>r
    |none=>[]
   |none=>[]
 |none=>[]
def ZAq(P:Program)(fn:Func)(id:Nat):List Nat:=match ZuM fn id with
 |some ops=>(dOf P fn.ntmps ops).2.1
 |none=>[]
def skC(P:Program)(fn:Func)(lv:LB):Code→Option DC
 |.skip=>sO .skip
 |.region id ops true=>match fN (LB.get 0 lv id),(dOf P fn.ntmps ops).2.2.1 with
  |some m,[]=>sO (.regD (ZAq P fn id) (Zvi (ZA8 P fn id)) (kpM fn.ntmps m))
  |some m,_::_=>sO (.regD (ZAq P fn id) (ZBa P fn id) (kpM fn.ntmps m))
  |none,_=>nO
 |.region id _ false=>match fN (LB.get 0 lv id) with
  |some m=>sO (.reg (ZA9 P fn id) (kpM fn.ntmps m))
  |none=>nO
 |.seq a b=>match skC P fn lv a,skC P fn lv b with
  |some x,sO y=>sO (.seq x y)
  |_,_=>nO
 |.cond c a b=>match ZU c,skC P fn lv a,skC P fn lv b with
  |some c,sO x,sO y=>sO (.cond c x y)
  |_,_,_=>nO
 |.block id a=>match skC P fn lv a with
  |some x=>sO (.block id x)
  |none=>nO
 |.loop a=>match skC P fn lv a with
  |some x=>sO (.loop x)
  |none=>nO
 |.exit id=>sO (.exit id)
 |.ret=>sO .ret
 |.scope a=>match skC P fn lv a with
  |some x=>sO (.scope x)
  |none=>nO
 |.label l=>sO (.label l)
 |.goto l=>sO (.goto l)
 |.rangeFunc f ps a b=>match ZU f,skC P fn lv a,skC P fn lv b with
  |some f,sO x,sO y=>sO (.rangeF f ps.toList x y)
  |_,_,_=>nO
 |_=>nO
def skF(P:Program)(fn:Func):DC:=match fn.body with
 |some c=>match skC P fn (lvF P fn c) c with
  |some d=>d
  |none=>.skip
 |none=>.skip
def fR:List RV→Option (List RV)
 | []=>sO []
 |.tmp t::r=>match fR r with
  |some r=>sO (.tmp t::r)
  |none=>nO
 |.cell1 t::r=>match fR r with
  |some r=>sO (.cell1 t::r)
  |none=>nO
 |.cellN t n::r=>match fN n,fR r with
  |some n,sO r=>sO (.cellN t n::r)
  |_,_=>nO
def rsF(P:Program)(fn:Func):List RV:=match Zio P fn.results.toList with
 |some rs=>match fR rs with
  |some rs=>rs
  |none=>[]
 |none=>[]
theorem cR{P:Program}(f:FuncId)(fn:Func){rs:List RV}{b:DC}(h1:rsF P fn=rs:=by conv=>lhs;whnf)(h2:skF P fn=b:=by conv=>lhs;whnf)(h:cf P (anF P f) f=sO ⟨fn.ntmps,rsF P fn,skF P fn⟩:=by kernel_rfl):cf P (anF P f) f=sO ⟨fn.ntmps,rs,b⟩:=h1▸h2▸h
def upT:List Nat→List WL→List WL
 |0::r,_::d=>upT r d
 |1::r,.code (.seq a b)::d=>upT r (.code a::.code b::d)
 |2::r,.code (.block i a)::d=>upT r (.code a::.inBlock i::d)
 |_,d=>d
structure Tie{P:Program}(l:List Nat)(X:Fr P→Env→Loc→St→Prop)(A:Prop):Prop
section
variable {P:Program} {F:Fr P} {l:List Nat} {dk:List WL} {ρ:Env} {L:Loc} {s:St} {ks:Option (List Nat)} {os:List DOp} {ps:List (DOp × List Nat)} {B:List (Nat × Rd)}
theorem tU:Tie l (fun(F:Fr P)=>Zs F (upT l dk)) (Zs F dk ρ L s):=⟨⟩
theorem tO:Tie l (fun(F:Fr P)=>Zs F (upT l dk)) (DO F ks dk os ρ L s):=⟨⟩
theorem tO0:Tie l (fun(F:Fr P)=>Zs F (upT l dk)) (JZ F ks dk os ρ L s):=⟨⟩
theorem tOD:Tie l (fun(F:Fr P)=>Zs F (upT l dk)) (DOA F ks dk ps ρ L s B):=⟨⟩
theorem jU(l:List Nat)(J:(Fr P→Env→Loc→St→Prop)→Prop){X:Fr P→Env→Loc→St→Prop}{A:Prop}(h1:J X)(h2:J X→A)(_h:Tie l X A:=by first|exact tU|exact tO|exact tO0|exact tOD):A:=h2 h1
theorem lpU{a}(J:(Fr P→Env→Loc→St→Prop)→Prop)(h1:J fun(F:Fr P)=>Zs F (.code a::.inLoop a::dk))(h2:(J fun(F:Fr P)=>Zs F (.code a::.inLoop a::dk))→Zs F (.code a::.inLoop a::dk) ρ L s):Zs F (.code (.loop a)::dk) ρ L s:=Zbs (h2 h1)
end
end Go.DL
