/- Lemmas: DlAe, DlAf, R04a, Lst, R04b, Iv, R04d, R04e, R05a, R05b, R05c, R05d, R05e, R05f, R05g, R05h, R05i, R05j, R05k, Own, S00, S01, S02, Maps, S03, S04, S05, S06, Val, DlCp, Z05, Z06, W01, W02, W03, S10, S11, R43d, U01, A01, A02, A03, S12, S13, S14, S15, S16, S17, S18, S19, S20, S21, S22, S23, A04. -/
import Derived.Test.YtegkikicdlbfnaaGreatDoorT02
set_option maxHeartbeats 16000000
set_option maxRecDepth 100000
set_option linter.all false
open List renaming length->I
open Option renaming some -> sO, none -> nO
open Inhabited renaming default -> dE
open Decidable renaming decide -> dC
open Go.Proofs.Tryz
open And renaming intro -> ZH4
open Bool renaming and_eq_true -> ZIb, false_and -> ZIE, false_eq_true -> ZIz, or_eq_true -> ZIp, true_and -> ZIt
open Go.DL.D.Le renaming refl -> ZH3
open Go.DL.St renaming single -> ZIu, sub_refl -> ZH2, sub_trans -> ZIK, sub_upd -> ZIr, upd -> ZID, upd_ne -> ZH8, upd_same -> ZH5, upd_upd -> ZIk
open Go.Proofs.Tryz renaming prog -> ZH1
open Int renaming reduceEq -> ZIJ, reduceToNat -> ZH9
open List renaming append_assoc -> ZIv, append_nil -> ZIy, getD -> ZIg, getElem?_append_left -> ZIB, getElem?_append_right -> ZIL, getElem_of_mem -> ZIl, length_append -> ZIc, length_cons -> ZIi, length_drop -> ZIG, length_map -> ZIo, length_take -> ZIm, map_cons -> ZIj, map_nil -> ZIA, mem_cons -> ZIF, range -> ZIf, take_length -> ZIC
open Nat renaming add_mul -> ZIs, le_refl -> ZIh, mul_le_mul_right -> ZIn, reduceAdd -> ZIa, reduceEqDiff -> ZH6, reduceLeDiff -> ZH7
open Option renaming getD_some -> ZIH
open Option.some renaming injEq -> ZH0
namespace Go.DL
open Go
variable [ZsL]
variable {kp:Option (List Nat)}{L:Loc}{H:Env}{s:St}{w:World}{os:List DOp}{ds:List D}{B:List (Nat × Rd)}{dst:Option Nat}{tmps:Array Value}{g:G}{Φ:Res->St->Prop}{Z:Nat->Nat}{xs:List Opd}{side:Prop}{row:Nat->List D}
def Zjp(P:Program)(fv:D)(n:Nat)(args:Nat->List D)(t:St):Prop :=
 ∀(l:Nat) (go:Nat->Oc) (A:Nat->St->Prop) (a0:St),ZmN P (.fn (.yield l) [] []) n args go A->A 0 a0->Z8 a0 t->WP P fv [.fn (.yield l) [] []] (a0.or t) λr S=>∃a,Zhj n go A a r/\a.sub S
section
variable {P:Program}
def Zc7.Y{fv n args t}(h:Zc7 P fv n args t):Zjp P fv n args t:=λ_=>h _
def Kt{F:Fr P}{rs}{Φ}{dds}(hF:YL F rs Φ dds){o}{ps}{da db}{dk}{H}{L}{p}{fv}(hf:ZC H true o=sO (p,.d fv))(hp:p)(ks)(hks:(Yn H ks).map (·.1) |>.Nodup){a0 t}(hd:Z8 a0 t){n}{args}(hit:Zjp P fv n args t)(hlen:∀j,j<n->(args j).length=I ps)(go:Nat->Oc)(B:Nat->St->Prop)(h0:B 0 a0)(hbody:∀j a,j<n->(∀i,i<j->go i=.next)->B j a->∀(F':Fr P) (ready busy:St),Z8 a ready ->
   (∀{dk:List W2} {H:Env} {L:Loc},(Z8 a busy->Zv F' dk H L (a.or busy))->Zv F' (.beginR::dk) H L (a.or ready)) ->
   ZsK F' busy (λoc a'=>oc=go j/\B (j+1) a')->Zv F' [.code da,.beginR,.code db] (WB ps (args j) (W1 ks H)) [] (a.or ready))(hall:∀q a,(∀i,i<n->go i=.next)->B n a->a q=nO->Zv (F.mark q) dk H L (a.upd q .dfr))(hret:∀q a m,m<n->(∀i,i<m->go i=.next)->go m=.stop .ret->B (m+1) a->a q=nO->Zv (F.mark q) (.code .ret::dk) H L (a.upd q .dfr))(hexit:∀q a m id,m<n->(∀i,i<m->go i=.next)->go m=.stop (.exit id)->B (m+1) a->a q=nO->Zv (F.mark q) (.code (.exit id)::dk) H L (a.upd q .dfr))(hpan:∀q a m d,m<n->(∀i,i<m->go i=.next)->go m=.pan d->B (m+1) a->a q=nO->Y3 (F.mark q) H L d (a.upd q .dfr))(hgo:∀m c,go m=.stop c->c=.ret\/∃id,c=.exit id):
  Zv F (.code (.rangeF o ps da db)::dk) H L (a0.or t):=by
 refine ZsE hF.roundOf hf hp ks hks λq l r hq hl ab a4 ah a5 aq ar a6 az=>?_;have ag:a0 q=nO:=by cases h:a0 q with|none=>rfl|some x=>rw[Zs h]at hq;simp at hq
 have af:a0 l=nO:=by cases h:a0 l with|none=>rfl|some x=>rw[Zs h]at hl;simp at hl
 have a3:t q=nO:=by rw[ZG ag]at hq;exact hq
 have ay:t l=nO:=by rw[ZG af]at hl;exact hl
 let stOf:Nat->LSt:=λj=>match j with
  |0=>.ready
  |j+1=>match go j with
   |.next=>.ready
   |.stop c=>.done c
   |.pan _=>.busy
 let A:Nat->St->Prop:=λj S=>∃a,B j a/\Z8 a (lpS q l r .ready)/\S=a.or (lpS q l r (stOf j));have au:Z8 a0 (lpS q l r .ready):=λb o hb=>by by_cases h1:b=q;rw[h1];exact ag;by_cases h2:b=l;rw[h2];exact af;rw[Zfo h1 h2]at hb;simp at hb
 have a8:(((a0.or t).upd q .dfr).upd l (.loop r .ready))=(a0.or (lpS q l r .ready)).or t:=by
  funext b;simp only[ZID];by_cases h2:b=l;subst h2;rw[if_pos rfl,Zs (s:=a0.or _) (by rw[ZG af];exact QE ab)];rw[if_neg h2];by_cases h1:b=q;subst h1;rw[if_pos rfl,Zs (s:=a0.or _) (by rw[ZG ag];exact ZaE)];rw[if_neg h1];cases ha:a0 b with
  |some x=>rw[Zs ha,Zs (Zs ha)]
  |none=>rw[ZG ha,ZG (s:=a0.or _) (by rw[ZG ha];exact Zfo h1 h2)]
 have av:Z8 (a0.or (lpS q l r .ready)) t:=λb o hb=>by rw[ZG (hd b o hb)];exact Zfo (λe=>by rw[e,a3]at hb;simp at hb) (λe=>by rw[e,ay]at hb;simp at hb)
 have aw:=hF.ex;have ae:ZmN P (.fn (.yield l) [] []) n args go A:=by
  rintro j hj al S ⟨a,ao,u,rfl⟩;have a7:stOf j=.ready:=by
   cases j with
   |zero=>rfl
   |succ j=>simp only[stOf,al j ω]
  rw[a7];refine ZrI (an:=F.an) (N:=F.N) (r:=r) (by rw[ZG (u l _ (QE ab))];exact QE ab) (by rw[ah];exact hlen j hj) aq ar a6 (by rw[ah];exact az) λF' aj ax=>?_;rw[a4,ah];refine hbody j a hj al ao F' (lpS q l r .ready) (lpS q l r .busy) u (λhk=>aj.begin (r:=r) (by rw[ZG (u l _ (QE ab))];exact QE ab) ?_) ?_
  .have e:(a.or (lpS q l r .ready)).upd l (.loop r .busy)=a.or (lpS q l r .busy):=by
    funext b;simp only[ZID];by_cases h2:b=l;subst h2;rw[if_pos rfl,ZG (u b _ (QE ab)),QE ab];rw[if_neg h2];by_cases h1:b=q;subst h1;rw[ZG (u b _ ZaE),ZG (u b _ ZaE),ZaE,ZaE];cases ha:a b with
    |some x=>rw[Zs ha,Zs ha]
    |none=>rw[ZG ha,ZG ha,Zfo h1 h2,Zfo h1 h2]
   rw[e];exact hk (ZtI u ab)
  refine ZuS aj ab (by rw[ax,a5];exact aw) ?_;rintro oc a' ⟨rfl,am⟩ ak;exact⟨rfl,a',am,ZtI ak ab,rfl⟩
 refine⟨_,by rw[a8];exact hit _ go A _ ae ⟨a0,h0,au,rfl⟩ av,?_,?_⟩
 .rintro d S ⟨S',ad,ac⟩;have fin:∀a,Z8 a (lpS q l r .ready)->∀st,(a.or (lpS q l r st)).sub S->S l=sO (.loop r st)/\(a.upd q .dfr).sub (S.del l)/\a q=nO:=λa u st hs=>by
   refine⟨hs l _ (by rw[ZG (u l _ (QE ab))];exact QE ab),λb o hb=>?_,u q _ ZaE⟩;have ap:b≠l:=λe=>by subst e;rw[ZH8 _ _ (Ne.symm ab),u b _ (QE ab)]at hb;simp at hb
   simp only[St.del,ap,if_false];by_cases h1:b=q;subst h1;rw[ZH5]at hb;exact hs b o (by rw[ZG (u b _ ZaE),ZaE];exact hb);rw[ZH8 _ _ h1]at hb;exact hs b o (Zs hb)
  cases ad with
  |all h ha =>
   obtain⟨a,hB,u,rfl⟩:=ha;have ai:stOf n=.ready:=by
    cases n with
    |zero=>rfl
    |succ n=>simp only[stOf,h n ω]
   rw[ai]at ac;obtain⟨f1,f2,f3⟩:=fin a u _ ac;exact .inl ⟨f1,WW f2 (hall q a h hB f3)⟩
  |stop m c hm h hc ha =>
   obtain⟨a,hB,u,rfl⟩:=ha;have ai:stOf (m+1)=.done c:=by simp only[stOf,hc]
   rw[ai]at ac;obtain⟨f1,f2,f3⟩:=fin a u _ ac;rcases hgo m c hc with rfl|⟨id,rfl⟩;exact .inr ⟨.ret,.ret,f1,rfl,WW f2 (hret q a m hm h hc hB f3)⟩;exact .inr ⟨.exit id,.exit id,f1,rfl,WW f2 (hexit q a m id hm h hc hB f3)⟩
 rintro d S ⟨S',ad,ac⟩;cases ad with
 |pan m d hm h hc ha =>
  obtain⟨a,hB,u,rfl⟩:=ha;have hs:(a.upd q .dfr).sub S:=λb o hb=>by by_cases h1:b=q;subst h1;rw[ZH5]at hb;exact ac b o (by rw[ZG (u b _ ZaE),ZaE];exact hb);rw[ZH8 _ _ h1]at hb;exact ac b o (Zs hb)
  exact Zwq hs (hpan q a m d hm h hc hB (u q _ ZaE))
end
def gR0{A B:Prop}(k:B)(h:Hid B->A:=by
 intro hk;first|refine Zp ?_|refine YM ?_|refine Yt ?_
 simp only[Eqs,reduceCtorEq,Int.reduceToNat,reduceIte,Nat.reduceEqDiff,Nat.reduceAdd,Nat.reduceLeDiff];exact hk.out):A:=h ⟨k⟩
def gQ{p:Prop}(e:p){A B:Prop}(k:B)(h:p->Hid B->A:=by
 intro e1 hk;first|refine Zp ?_|refine YM ?_|refine Yt ?_
 simp only[Eqs,reduceCtorEq,Int.reduceToNat,reduceIte,Nat.reduceEqDiff,Nat.reduceAdd,Nat.reduceLeDiff,e1];exact hk.out):A:=h e ⟨k⟩
def kF{A B:Prop}(k:B)(h:Hid B->A:=by
 intro hk;refine And.intro (by first|trivial|exact⟨rfl,trivial⟩|simp[Wd,K0,YZ,Zaw]) ?_;exact hk.out):A:=h ⟨k⟩
def cX{p q:Prop}(e:p)(c:q){A B:Prop}(k:B)(h:p->q->Hid B->A:=by
 intro e1 hc hk;refine ZaK rfl rfl rfl rfl rfl φ φ hc (Zp ?_);simp only[Eqs,reduceCtorEq,Int.reduceToNat,reduceIte,Nat.reduceEqDiff,Nat.reduceAdd,Nat.reduceLeDiff,e1];exact hk.out):A:=h e c ⟨k⟩
def tX{p q:Prop}(e:p)(c:q){A B:Prop}(k:B)(h:p->q->Hid B->A:=by
 intro e1 hc hk;refine Jo rfl rfl rfl rfl rfl φ φ hc (Zp ?_);simp only[Eqs,reduceCtorEq,Int.reduceToNat,reduceIte,Nat.reduceEqDiff,Nat.reduceAdd,Nat.reduceLeDiff,e1];exact hk.out):A:=h e c ⟨k⟩
def cG{q:Prop}(c:q){A B:Prop}(k:B)(h:q->Hid B->A:=by
 intro hc hk;refine ZqO rfl rfl rfl rfl rfl (λhcg=>⟨by first|trivial|(simpa[Zi1]using hcg),trivial,hc⟩) (Zp ?_);simp only[Eqs,reduceCtorEq,Int.reduceToNat,reduceIte,Nat.reduceEqDiff,Nat.reduceAdd,Nat.reduceLeDiff];exact hk.out):A:=h c ⟨k⟩
def cW{q:Prop}(c:q){A B:Prop}(k:B)(h:q->Hid B->A:=by
 intro hc hk;refine Zwk rfl rfl rfl rfl rfl φ φ hc (Zp ?_);simp only[Eqs,reduceCtorEq,Int.reduceToNat,reduceIte,Nat.reduceEqDiff,Nat.reduceAdd,Nat.reduceLeDiff];exact hk.out):A:=h c ⟨k⟩
def cV{q:Prop}(c:q){A B C:Prop}(k:B)(k2:C)(h:q->Hid B->Hid C->A:=by
 intro hc hk hk2;exact Zhi rfl rfl rfl rfl rfl φ φ hc hk.out hk2.out):A:=h c ⟨k⟩ ⟨k2⟩
def vV{q:Prop}(c:q){A B C:Prop}(k:B)(k2:C)(h:q->Hid B->Hid C->A:=by
 intro hc hk hk2;exact ZbL rfl rfl rfl rfl rfl φ φ hc hk.out hk2.out):A:=h c ⟨k⟩ ⟨k2⟩
def cV0{q:Prop}(c:q){A B C:Prop}(k:B)(k2:C)(h:q->Hid B->Hid C->A:=by
 intro hc hk hk2;exact ZxM rfl rfl rfl rfl rfl φ φ hc hk.out hk2.out):A:=h c ⟨k⟩ ⟨k2⟩
def vV0{q:Prop}(c:q){A B C:Prop}(k:B)(k2:C)(h:q->Hid B->Hid C->A:=by
 intro hc hk hk2;exact ZnN rfl rfl rfl rfl rfl φ φ hc hk.out hk2.out):A:=h c ⟨k⟩ ⟨k2⟩
def cXD{p q:Prop}(e:p)(c:q){A B:Prop}(k:B)(h:p->q->Hid B->A:=by
 intro e1 hc hk;refine Zf2 rfl rfl rfl rfl rfl φ φ hc (Yt ?_);simp only[Eqs,reduceCtorEq,Int.reduceToNat,reduceIte,Nat.reduceEqDiff,Nat.reduceAdd,Nat.reduceLeDiff,e1];exact hk.out):A:=h e c ⟨k⟩
def tXD{p q:Prop}(e:p)(c:q){A B:Prop}(k:B)(h:p->q->Hid B->A:=by
 intro e1 hc hk;refine Zjm rfl rfl rfl rfl rfl φ φ hc (by first|trivial|exact⟨rfl,trivial⟩|simp[Wd,K0]) (Yt ?_);simp only[Eqs,reduceCtorEq,Int.reduceToNat,reduceIte,Nat.reduceEqDiff,Nat.reduceAdd,Nat.reduceLeDiff,e1];exact hk.out):A:=h e c ⟨k⟩
def cGD{q:Prop}(c:q){A B:Prop}(k:B)(h:q->Hid B->A:=by
 intro hc hk;refine Zwi rfl rfl rfl rfl rfl (λhcg=>⟨by first|trivial|(simpa[Zi1]using hcg),trivial,hc⟩) (Yt ?_);simp only[Eqs,reduceCtorEq,Int.reduceToNat,reduceIte,Nat.reduceEqDiff,Nat.reduceAdd,Nat.reduceLeDiff];exact hk.out):A:=h c ⟨k⟩
def cWD{q:Prop}(c:q){A B:Prop}(k:B)(h:q->Hid B->A:=by
 intro hc hk;refine ZCD rfl rfl rfl rfl rfl φ φ hc (by first|trivial|exact⟨rfl,trivial⟩|simp[Wd,K0]) (Yt ?_);simp only[Eqs,reduceCtorEq,Int.reduceToNat,reduceIte,Nat.reduceEqDiff,Nat.reduceAdd,Nat.reduceLeDiff];exact hk.out):A:=h c ⟨k⟩
def cVD{q:Prop}(c:q){A B C:Prop}(k:B)(k2:C)(h:q->Hid B->Hid C->A:=by
 intro hc hk hk2;exact Zh2 rfl rfl rfl rfl rfl φ φ hc hk.out hk2.out):A:=h c ⟨k⟩ ⟨k2⟩
def vVD{q:Prop}(c:q){A B C:Prop}(k:B)(k2:C)(h:q->Hid B->Hid C->A:=by
 intro hc hk hk2;exact ZdR rfl rfl rfl rfl rfl φ φ hc hk.out hk2.out):A:=h c ⟨k⟩ ⟨k2⟩
def gA{A B:Prop}(k:B)(h:Hid B->A:=by
 intro hq;repeat(first|refine Zc ?_|refine Zk ?_|refine Z5 ?_|refine ZE ?_|refine Yy ?_|refine Zd ?_|refine Yr ?_|refine ZO rfl ?_)
 first|refine rgR (by conv=>lhs;whnf) (by conv=>lhs;whnf) (Zp ?_)|refine ZiK (by conv=>lhs;whnf) (by conv=>lhs;whnf) (YM ?_)|refine rgD (by conv=>lhs;whnf) (by conv=>lhs;whnf) (Yt ?_)
 simp only[Eqs,reduceCtorEq,Int.reduceToNat,reduceIte,Nat.reduceEqDiff,Nat.reduceAdd,Nat.reduceLeDiff];repeat(refine And.intro (by first|omega|trivial|(intro h0;simp at h0;omega)) ?_)
 exact hq.out):A:=h ⟨k⟩
def xA{p:Prop}(e:p){A B:Prop}(k:B)(h:p->Hid B->A:=by
 intro e1 hq;repeat(first|refine Zc ?_|refine Zk ?_|refine Z5 ?_|refine ZE ?_|refine Yy ?_|refine Zd ?_|refine Yr ?_|refine ZO rfl ?_)
 first|refine rgR (by conv=>lhs;whnf) (by conv=>lhs;whnf) (Zp ?_)|refine ZiK (by conv=>lhs;whnf) (by conv=>lhs;whnf) (YM ?_)|refine rgD (by conv=>lhs;whnf) (by conv=>lhs;whnf) (Yt ?_)
 simp only[Eqs,reduceCtorEq,Int.reduceToNat,reduceIte,Nat.reduceEqDiff,Nat.reduceAdd,Nat.reduceLeDiff,e1];repeat(refine And.intro (by first|omega|trivial|(intro h0;simp at h0;omega)) ?_)
 exact hq.out):A:=h e ⟨k⟩
def gG{A B:Prop}(k:B)(h:Hid B->A:=by
 intro hq;repeat(first|refine Zc ?_|refine Zk ?_|refine Z5 ?_|refine ZE ?_|refine Yy ?_|refine Zd ?_|refine Yr ?_|refine ZO rfl ?_)
 first|refine rgR (by conv=>lhs;whnf) (by conv=>lhs;whnf) (Zp ?_)|refine ZiK (by conv=>lhs;whnf) (by conv=>lhs;whnf) (YM ?_)|refine rgD (by conv=>lhs;whnf) (by conv=>lhs;whnf) (Yt ?_)
 simp only[Eqs,reduceCtorEq,Int.reduceToNat,reduceIte,Nat.reduceEqDiff,Nat.reduceAdd,Nat.reduceLeDiff];repeat(first|refine Zc ?_|refine Zk ?_|refine Z5 ?_|refine ZE ?_|refine Yy ?_|refine Zd ?_|refine Yr ?_|refine ZO rfl ?_)
 first|refine rgR (by conv=>lhs;whnf) (by conv=>lhs;whnf) (Zp ?_)|refine ZiK (by conv=>lhs;whnf) (by conv=>lhs;whnf) (YM ?_)|refine rgD (by conv=>lhs;whnf) (by conv=>lhs;whnf) (Yt ?_)
 simp only[Eqs,reduceCtorEq,Int.reduceToNat,reduceIte,Nat.reduceEqDiff,Nat.reduceAdd,Nat.reduceLeDiff];exact hq.out):A:=h ⟨k⟩
def iG{A B:Prop}(k:B)(h:Hid B->A:=by
 intro hq;repeat(first|refine Zc ?_|refine Zk ?_|refine Z5 ?_|refine ZE ?_|refine Yy ?_|refine Zd ?_|refine Yr ?_|refine ZO rfl ?_)
 refine Zl rfl trivial (λh=>by first|(simp at h;done)|(rw[hk]at h;simp at h;done)) (λ_=>?_);repeat(first|refine Zc ?_|refine Zk ?_|refine Z5 ?_|refine ZE ?_|refine Yy ?_|refine Zd ?_|refine Yr ?_|refine ZO rfl ?_)
 first|refine rgR (by conv=>lhs;whnf) (by conv=>lhs;whnf) (Zp ?_)|refine ZiK (by conv=>lhs;whnf) (by conv=>lhs;whnf) (YM ?_)|refine rgD (by conv=>lhs;whnf) (by conv=>lhs;whnf) (Yt ?_)
 simp only[Eqs,reduceCtorEq,Int.reduceToNat,reduceIte,Nat.reduceEqDiff,Nat.reduceAdd,Nat.reduceLeDiff];exact hq.out):A:=h ⟨k⟩
def gI{A B:Prop}(k:B)(h:Hid B->A:=by
 intro hq;repeat(first|refine Zc ?_|refine Zk ?_|refine Z5 ?_|refine ZE ?_|refine Yy ?_|refine Zd ?_|refine Yr ?_|refine ZO rfl ?_)
 first|refine rgR (by conv=>lhs;whnf) (by conv=>lhs;whnf) (Zp ?_)|refine ZiK (by conv=>lhs;whnf) (by conv=>lhs;whnf) (YM ?_)|refine rgD (by conv=>lhs;whnf) (by conv=>lhs;whnf) (Yt ?_)
 simp only[Eqs,reduceCtorEq,Int.reduceToNat,reduceIte,Nat.reduceEqDiff,Nat.reduceAdd,Nat.reduceLeDiff];repeat(first|refine Zc ?_|refine Zk ?_|refine Z5 ?_|refine ZE ?_|refine Yy ?_|refine Zd ?_|refine Yr ?_|refine ZO rfl ?_)
 refine Zl rfl trivial (λh=>by first|(simp at h;done)|(rw[hk]at h;simp at h;done)) (λ_=>?_);exact hq.out):A:=h ⟨k⟩
section
variable {P:Program} {F:Fr P} {dk:List W2} {H:Env} {L:Loc} {s:St}
def xP{A:Prop}{t:St}{B:Nat->Prop}(l:Nat)(k:∀b,t b=nO->B b)(h:∀n,n=l->(∀b,t b=nO->Hid (B b))->A:=by
 intro n hn hk;refine ZdC n (by rw[hn];rfl) λb hb=>?_;simp only[hn,Eqs,reduceCtorEq,Int.reduceToNat,reduceIte,Nat.reduceEqDiff,Nat.reduceAdd,Nat.reduceLeDiff,JW,Jc,delL];exact(hk b hb).out):A:=h l rfl λb hb=>⟨k b hb⟩
def kE{A B:Prop}(l:List Nat)(k:B)(h:∀n,n=l->Hid B->A:=by
 intro n hn hk;refine ZqQ n ?_;simp only[hn,Eqs,reduceCtorEq,Int.reduceToNat,reduceIte,Nat.reduceEqDiff,Nat.reduceAdd,Nat.reduceLeDiff];exact hk.out):A:=h l rfl ⟨k⟩
end
end Go.DL
namespace Go.DL
open Go Go.Proofs
variable {kp:Option (List Nat)}{L:Loc}{H:Env}{s:St}{w:World}{os:List DOp}{ds:List D}{B:List (Nat × Rd)}{dst:Option Nat}{tmps:Array Value}{g:G}{Φ:Res->St->Prop}{Z:Nat->Nat}{xs:List Opd}{side:Prop}{row:Nat->List D}
def Zj6(c:UInt8):Bool:=(dC ((65:Int)<=c.toNat)&&dC ((c.toNat:Int)<=90)) ||(dC ((97:Int)<=c.toNat)&&dC ((c.toNat:Int)<=122))
def ZwE(c:UInt8):Bool:=dC ((48:Int)<=c.toNat)&&dC ((c.toNat:Int)<=57)
def Zgk(c:UInt8):Bool:=Zj6 c ||ZwE c ||decide ((c.toNat:Int)=95)
def Y7(s:Str):Bool:=match s with
 | []=>false
 |c::_=>dC (I s<=32)&&Zj6 c&&s.all Zgk
def Zec(v:Int):Bool:=dC (-1048576<=v)&&dC (v<=1048576)
end Go.DL
namespace Go.DL
open Go
variable {kp:Option (List Nat)}{L:Loc}{H:Env}{s:St}{w:World}{os:List DOp}{ds:List D}{B:List (Nat × Rd)}{dst:Option Nat}{tmps:Array Value}{g:G}{Φ:Res->St->Prop}{Z:Nat->Nat}{xs:List Opd}{side:Prop}{row:Nat->List D}
def Wn{α:Type}[Inhabited α]{l:List α}{k}(h:k<I l):l.drop k=l.getD k dE::l.drop (k+1):=by
 rw[List.drop_eq_getElem_cons h];simp[ZIg,h]
def Yo{α:Type}[Inhabited α]{l:List α}{k}(h:k<I l):l.take (k+1)=l.take k++[l.getD k dE]:=by
 rw[List.take_succ_eq_append_getElem h];simp[ZIg,h]
def ZY{α:Type}[Inhabited α](f:α->List D)(row:Nat->List D)(l:List α):Prop:=∀i,i<I l->row i=f (l.getD i dE)
section
variable {α:Type} [Inhabited α] {f:α->List D} {row row2:Nat->List D} {l a b:List α}
def ZY.self:ZY f (λi=>f (l.getD i dE)) l:=λ_ _=>rfl
def ZY.nil:ZY f row []:=λi h=>absurd h (Nat.not_lt_zero i)
def ZY.one{x}(h:row 0=f x):ZY f row [x]:=λi t=>by
 obtain rfl:i=0:=by simp at t;exact t
 exact h
def ZY.app{n}(h:ZY f row a)(u:ZY f row2 b)(hn:n=I a):ZY f (YW n row row2) (a++b):=λi hi=>by
 subst hn;unfold YW;split;rename_i t;rw[h i t];simp[ZIg,ZIB t];rename_i t;rw[u (i-I a) (by simp at hi;omega)];simp[ZIg,ZIL (Nat.not_lt.1 t)]
def ZY.snoc{n x}(h:ZY f row a)(i:row2 0=f x)(t:n=I a):ZY f (YW n row row2) (a++[x]):=h.app (.one i) t
def ZY.take(h:ZY f row l)(k):ZY f row (l.take k):=λi t=>by
 rw[ZIm]at t;rw[h i ω];simp[ZIg,List.getElem?_take_of_lt (show i<k by omega)]
def ZY.le{t n s}(h:ZY f row l)(u:n=I l):(D.sl t n s row).Le (slD s f l):=Zh5 u λi hi=>h i ω
end
open Go.Proofs
def JQ(t:Yb):Bool:=Y7 t.field&&!dC (t.factor=0)&&Zec t.factor
def Zbl:List Str->List Yb->Bool
 |_,[]=>true
 |seen,t::r=>JQ t&&!dC (t.field∈seen)&&Zbl (seen++[t.field]) r
def ZU(s:Zbo):Bool:=Zec s.base&&dC (I s.terms<=4)&&Zbl [] s.terms
abbrev Ze0:=Str->Option (Int×Int)
def ZbV(r:Int×Int):Bool:=dC (r.1<0) ||decide (r.2<r.1) ||decide (34359738368<=r.2)
def QC(look:Ze0)(t:Yb):Bool:=match look t.field with|some r=>ZbV r|none=>false
def JF(look:Ze0)(t:Yb):Bool:=(look t.field).isNone
def ZcF(s:Zbo)(look:Ze0):Int:=if ZU s=false then 2 else if s.terms.any (QC look) then 2 else if s.terms.any (JF look) then 9 else 0
def Zim(look:Ze0)(t:Yb):Int×Int:=(look t.field).getD (0,0)
def loT(look:Ze0)(t:Yb):Int:=if 0<t.factor then t.factor*(Zim look t).1 else t.factor*(Zim look t).2
def hiT(look:Ze0)(t:Yb):Int:=if 0<t.factor then t.factor*(Zim look t).2 else t.factor*(Zim look t).1
def loS(look:Ze0):List Yb->Int
 | []=>0
 |t::r=>loT look t+loS look r
def hiS(look:Ze0):List Yb->Int
 | []=>0
 |t::r=>hiT look t+hiS look r
def JY(s:Zbo)(look:Ze0):Int×Int×Int:=if ZcF s look=0 then (s.base+loS look s.terms,s.base+hiS look s.terms,0) else (0,0,ZcF s look)
def ZzL{α:Type}[Inhabited α]{p}{l:List α}{i}(h:i<I l):(l.take (i+1)).any p=((l.take i).any p ||p (l.getD i dE)):=by
 rw[Yo h,List.any_append];simp
def ZCM{α:Type}[Inhabited α]{p}{l:List α}{i}(h:i<I l)(t:p (l.getD i dE)=true):l.any p=true :=
 List.any_eq_true.2 ⟨_,Zu h,t⟩
def ZwQ{α β:Type}[Inhabited α]{f}{b:β}{l:List α}{i:Nat}(h:i<I l):(l.take (i+1)).foldl f b=f ((l.take i).foldl f b) (l.getD i dE):=by
 rw[Yo h,List.foldl_append];rfl
def Zi{α:Type}(p:α->Bool):List α->Int
 | []=>-1
 |x::r=>if p x then 0 else if Zi p r<0 then -1 else Zi p r+1
def Y9{α}{p:α->Bool}{l:List α}(h:∀x∈l,p x=false):Zi p l=-1:=by
 induction l with
 |nil=>rfl
 |cons x r ih=>simp[Zi,h x ψ,ih (λy i=>h y (by simp[i]))]
def WH{α}[Inhabited α]{p}{l:List α}{i:Nat}(hi:i<I l)(t:p (l.getD i dE)=true)(h:∀j,j<i->p (l.getD j dE)=false):Zi p l=i:=by
 induction l generalizing i with
 |nil=>simp at hi
 |cons x r ih =>
  cases i with
  |zero=>simp at t;simp[Zi,t]
  |succ i =>have u:=h 0 ω;have:=ih (i:=i) (by simpa using hi) (by simpa using t) (λj hj=>by simpa using h (j+1) ω);simp at u;simp[Zi,u,this];omega
def ZaU{α}(p:α->Bool)(l:List α):-1<=Zi p l:=by
 induction l with
 |nil=>simp[Zi]
 |cons x r ih=>simp only[Zi];split<;>(try split)<;>omega
def Wc{α}(p:α->Bool)(l:List α):Zi p l<I l:=by
 induction l with
 |nil=>simp[Zi]
 |cons x r ih=>simp only[Zi,ZIi];split<;>(try split)<;>omega
def ZcA{α}{p:α->Bool}{l:List α}(h:Zi p l<0):∀x∈l,p x=false:=by
 induction l with
 |nil=>simp
 |cons x r ih =>have:=ZaU p r;simp only[Zi]at h;split at h;omega;rename_i t;split at h;rename_i i;intro y hy;rcases List.mem_cons.1 hy with rfl|hy;simpa using t;exact ih i y hy;omega
def QK{α}[Inhabited α]{p:α->Bool}{l:List α}(h:0<=Zi p l):p (l.getD (Zi p l).toNat dE)=true/\∀j,j<(Zi p l).toNat->p (l.getD j dE)=false:=by
 induction l with
 |nil=>simp[Zi]at h
 |cons x r ih =>
  have:=ZaU p r;by_cases i:p x=true;simp[Zi,i];simp only[Zi,i,if_false,ZIz]at h⊢;by_cases t:Zi p r<0;simp[t]at h;rw[if_neg t];obtain⟨u,h2⟩:=ih ω;rw[show(Zi p r+1).toNat=(Zi p r).toNat+1 by omega];refine⟨by simpa using u,λj hj=>?_⟩;cases j with
  |zero=>simpa using i
  |succ j=>simpa using h2 j ω
def QZ{α:Type}[Inhabited α]{l:List α}{n j}(h:j<n):(l.take n).getD j dE=l.getD j dE:=by
 simp[ZIg,List.getElem?_take_of_lt h]
def Zy(d:Dfn)(s:Str)(n:Nat):Int:=Zi (λm=>dC (m.name=s)) (d.msgs.take n)
def KR(m:Msg)(s:Str)(n:Nat):Int:=Zi (λf=>dC (f.name=s)) (m.fields.take n)
def K8(f:Fld)(tag:Int):Int:=Zi (λc=>dC (c.low<=tag)&&dC (tag<=c.high)) f.cases
def YE(f:Fld):Bool:=dC (1<=f.kind)&&dC (f.kind<=3)
def KK(f:Fld):Int×Int:=if f.kind=2 then (f.low,f.low) else (f.low,f.high)
def Zsr(a b:Int):Bool:=dC (0<=a)&&(dC (a<=b)&&dC (b<34359738368))
def ZxI:List Str:=[[],[98,108,120,104],[98,108,120],[111,120,104],[115],[120,104],[111,104],[102,115],[102],[116,99],[98],[114,107],[102,115,121]]
def Zpx(k:Int):Str:=ZxI.getD k.toNat []
def ZcE(s:Str)(c:UInt8):Bool:=dC (c∈s)
def zrA(u:Str)(f:Fld):Bool:=(ZcE u 98 ||decide (f.bits=0))&&((ZcE u 108||!f.little)&&((ZcE u 111||!f.loose)&&((ZcE u 120 ||decide (f.low=0))&&(ZcE u 104 ||decide (f.high=0)))))
def zrB(u:Str)(f:Fld):Bool:=(ZcE u 115 ||(dC (f.size.base=0)&&dC (I f.size.terms=0)))&&((ZcE u 102 ||decide (f.of=[]))&&((ZcE u 116 ||decide (f.tag=[]))&&(ZcE u 114 ||decide (f.from_=[]))))
def zrC(u:Str)(f:Fld):Bool:=(ZcE u 99 ||decide (I f.cases=0))&&((ZcE u 107 ||decide (f.check=0))&&(ZcE u 121 ||decide (f.key=0)))
def ZlQ(f:Fld):Bool:=zrA (Zpx f.kind) f&&(zrB (Zpx f.kind) f&&zrC (Zpx f.kind) f)
def Zc9(f:Fld):Bool:=dC (f.bits<1) ||(dC (32<f.bits) ||(f.little&&(!dC (f.bits=16)&&(!dC (f.bits=24)&&!dC (f.bits=32)))))
def ZnH(f:Fld):Int:=if f.kind=2 then f.low else f.high
def ZtN(f:Fld):Bool:=dC (f.low<0) ||(dC (ZnH f<f.low) ||decide (2 ^ f.bits.toNat<=ZnH f))
def JH(f:Fld):Int:=if Zc9 f then 6 else if ZtN f then 7 else 0
def ZDw{b}(h0:0<=b)(h1:b<=32):Zah .i64 1 b=2 ^ b.toNat:=by
 unfold Zah;rw[show Nat.min b.toNat IntKind.i64.bits=b.toNat from Nat.min_eq_left (show b.toNat<=IntKind.i64.bits by simp[IntKind.bits];omega)];simp
def Zgz{b:Int}(h0:0<=b)(h1:b<=32):(0:Int)<2 ^ b.toNat/\(2:Int) ^ b.toNat<=4294967296:=by
 have h:=Nat.pow_le_pow_right (n:=2) ω (show b.toNat<=32 by omega);have i:=Nat.two_pow_pos b.toNat;rw[show(2:Int) ^ b.toNat=((2 ^ b.toNat:Nat):Int) from(Int.natCast_pow 2 b.toNat).symm];generalize 2 ^ b.toNat=x at h i⊢;omega
def Zwb(m:Msg)(s:Str)(n:Nat):Bool:=(m.fields.take n).any λf=>dC (f.kind=9)&&dC (f.tag=s)
def Ze6(d:Dfn)(at_:Nat)(high:Int):Int->List YB->Int
 |_,[]=>0
 |low,c::r=>if dC (c.low<low) ||(dC (c.high<c.low) ||decide (high<c.high)) then 7 else if Zy d c.of at_<0 then 8 else Ze6 d at_ high (c.high+1) r
def Zs0(d:Dfn)(at_:Nat)(f:Fld)(low high:Int):Int:=if dC (I f.cases<1) ||decide (40<I f.cases) then 3 else Ze6 d at_ high low f.cases
def WG(fs:List Fld):Ze0:=λs=>if Zi (λf=>dC (f.name=s)) fs<0 then nO else if YE (fs.getD (Zi (λf=>dC (f.name=s)) fs).toNat dE) then sO (KK (fs.getD (Zi (λf=>dC (f.name=s)) fs).toNat dE)) else nO
def Zd9(fs:List Fld)(s:Zbo):Int:=if ZU s=false then 9 else if s.terms.any (JF (WG fs)) then 8 else if !dC ((JY s (WG fs)).2.2=0) ||(dC ((JY s (WG fs)).1<0) ||decide (1048576<(JY s (WG fs)).2.1)) then 9 else 0
def Zbi(l:List Str):D:=slD 1 (λs=>[.str s]) l
def Za0(f:Fld):List Str:=if dC (f.kind=7) ||(dC (f.kind=8) ||decide (f.kind=12)) then [f.of] else []
def Yv(f:Fld):List Str:=Za0 f++if f.kind=9 then f.cases.map (·.of) else []
def Zcn(out:List Str)(s:Str):List Str:=if s∈out then out else out++[s]
def Kp(m:Msg):List Str:=(m.fields.flatMap Yv).foldl Zcn []
def ZuB(out s):(Zcn out s).length<=I out+1:=by unfold Zcn;split<;>simp
def ZlY(l i:List Str):(l.foldl Zcn i).length<=I i+I l:=by
 induction l generalizing i with
 |nil=>simp
 |cons x r ih=>have:=ih (Zcn i x);have:=ZuB i x;simp only[List.foldl_cons,ZIi];omega
def Zje(l:List Fld)(i):((l.take i).flatMap Yv).length<=(l.flatMap Yv).length:=by
 conv=>rhs;rw[<-List.take_append_drop i l,List.flatMap_append,ZIc]
 omega
def ZlX(l:List Fld)(i)(t:i<I l):(l.take (i+1)).flatMap Yv=(l.take i).flatMap Yv++Yv (l.getD i dE):=by
 rw[Yo t,List.flatMap_append];simp
def ZfO(d:Dfn)(m:Msg)(prev:List Bool):Bool:=m.fields.all (λf=>!f.loose)&&(Kp m).all λs=>prev.getD (Zy d s (I prev)).toNat dE
def KO(d:Dfn):Nat->List Bool
 |0=>[]
 |n+1=>KO d n++[ZfO d (d.msgs.getD n dE) (KO d n)]
def ZcZ(d n):(KO d n).length=n:=by
 induction n with
 |zero=>rfl
 |succ n ih=>simp[KO,ih]
structure ZDE(d:Dfn)(j:Nat):Prop where
 few:((d.msgs.getD j default).fields.flatMap Yv).length<=1000000
 ref:∀s∈Kp (d.msgs.getD j default),0<=Zy d s j
def ZsR{α:Type}[Inhabited α]{p}{l:List α}{i}(h:i<I l):(l.take (i+1)).all p=((l.take i).all p&&p (l.getD i dE)):=by
 rw[Yo h,List.all_append];simp
def ZoN(f:Fld):Bool:=!dC (f.bits=2)&&(!dC (f.bits=4)&&(dC (f.bits<8) ||(dC (512<f.bits)||!dC (Int.tmod f.bits 8=0))))
def ZjH(m:Msg)(i:Nat)(f:Fld):Bool:=dC (KR m f.tag i<0) ||(!YE (m.fields.getD (KR m f.tag i).toNat dE) ||Zwb m f.tag i)
def ZqE(d:Dfn)(at_:Nat)(f:Fld):Bool:=dC (Zy d f.of at_<0)||!(KO d at_).getD (Zy d f.of at_).toNat dE
def QU(d:Dfn)(at_:Nat)(m:Msg)(i:Nat)(f:Fld):Int :=
 if f.kind=1 then JH f else if f.kind=2 then JH f
 else if f.kind=3 then (if Zsr f.low f.high then 0 else 7)
 else if f.kind=4 then Zd9 (m.fields.take i) f.size
 else if f.kind=5 then (if dC (f.low<0) ||(dC (255<f.low) ||(dC (f.high<0) ||decide (1048576<f.high))) then 7 else 0)
 else if f.kind=6 then (if dC (f.high<2) ||decide (1048576<f.high) then 7 else 0)
 else if f.kind=7 then (if Zy d f.of at_<0 then 8 else Zd9 (m.fields.take i) f.size)
 else if f.kind=8 then (if Zy d f.of at_<0 then 8 else 0)
 else if f.kind=9 then (if ZjH m i f then 8 else Zs0 d at_ f (KK (m.fields.getD (KR m f.tag i).toNat dE)).1 (KK (m.fields.getD (KR m f.tag i).toNat dE)).2)
 else if f.kind=10 then (if ZoN f then 6 else 0)
 else if f.kind=11 then (if dC (f.check<1) ||decide (3<f.check) then 7 else if KR m f.from_ i<0 then 8 else 0)
 else if f.kind=12 then (if dC (f.key<0) ||decide (4294967295<f.key) then 7 else if ZqE d at_ f then 8 else Zd9 (m.fields.take i) f.size)
 else 0
def Qo(d:Dfn)(at_:Nat)(m:Msg)(i:Nat)(f:Fld):Int :=
 if Y7 f.name=false then 1 else if 0<=KR m f.name i then 2 else if dC (f.kind<1) ||decide (12<f.kind) then 4 else if ZlQ f=false then 5 else QU d at_ m i f
def YP(d:Dfn)(at_:Nat)(m:Msg):Nat->List Fld->Option (Int×Int)
 |_,[]=>nO
 |i,f::r=>if Qo d at_ m i f=0 then YP d at_ m (i+1) r else sO (i,Qo d at_ m i f)
def W7(d:Dfn)(at_:Nat)(m:Msg):Option (Int×Int) :=
 if Y7 m.name=false then sO (-1,1) else if 0<=Zy d m.name at_ then sO (-1,2) else if dC (I m.fields<1) ||decide (40<I m.fields) then sO (-1,3) else YP d at_ m 0 m.fields
def Zyf(d:Dfn)(at_:Nat)(deps:List Int)(b:Int)(l:List Str):Int:=l.foldl (λa s=>max a (deps.getD (Zy d s at_).toNat dE)) b
def Zfe(d:Dfn)(at_:Nat)(deps:List Int)(m:Msg):Int:=Zyf d at_ deps 0 (Kp m)+1
def JV(d:Dfn):Nat->List Msg->List Int->Option (Int×Int×Int)
 |_,[],_=>if Zy d d.start (I d.msgs)<0 then sO (-1,-1,11) else nO
 |at_,m::r,deps=>match W7 d at_ m with
  |some (i,c)=>sO (at_,i,c)
  |none=>if 16<Zfe d at_ deps m then sO (at_,-1,10) else JV d (at_+1) r (deps++[Zfe d at_ deps m])
def Zs5(d:Dfn):Option (Int×Int×Int) :=
 if Y7 d.name=false then sO (-1,-1,1) else if dC (I d.msgs<1) ||decide (60<I d.msgs) then sO (-1,-1,3) else JV d 0 d.msgs []
def ZfT(d:Dfn):Bool:=(Zs5 d).isNone
def Zx2{d at_ i low l}(h:Ze6 d at_ i low l=0):∀c∈l,0<=Zy d c.of at_:=by
 induction l generalizing low with
 |nil=>simp
 |cons c r ih =>simp only[Ze6]at h;split at h;omega;split at h;omega;intro x hx;rcases List.mem_cons.1 hx with rfl|hx;omega;exact ih h x hx
def Zq1{d at_ i m f}(h:Qo d at_ m i f=0):(Yv f).length<=41/\∀s∈Yv f,0<=Zy d s at_:=by
 unfold Qo at h;split at h;· omega
 split at h;· omega
 split at h;· omega
 rename_i hk;split at h;· omega
 simp only[ZIp,decide_eq_true_eq,not_or,Int.not_lt]at hk;have t:f.kind=1\/f.kind=2\/f.kind=3\/f.kind=4\/f.kind=5\/f.kind=6\/f.kind=7\/f.kind=8\/f.kind=9\/f.kind=10\/f.kind=11\/f.kind=12:=ω;unfold QU at h;rcases t with hk|hk|hk|hk|hk|hk|hk|hk|hk|hk|hk|hk<;>simp only[hk,ZIJ,if_true,if_false]at h<;>(try(simp[Yv,Za0,hk];done));simp only[Yv,Za0,hk];split at h;omega;simp;omega;simp only[Yv,Za0,hk];split at h;omega;simp;omega;split at h;omega;unfold Zs0 at h;split at h;omega;rename_i u;simp only[ZIp,decide_eq_true_eq,not_or,Nat.not_lt]at u;have:=Zx2 h;simp[Yv,Za0,hk];exact⟨ω,this⟩;split at h;omega;split at h;omega;rename_i hv;simp only[ZqE,ZIp,decide_eq_true_eq,not_or]at hv;simp[Yv,Za0,hk];omega
def Zol{d at_ m i l}(h:YP d at_ m i l=nO):(l.flatMap Yv).length<=41*I l/\∀s∈l.flatMap Yv,0<=Zy d s at_:=by
 induction l generalizing i with
 |nil=>simp
 |cons f r ih =>simp only[YP]at h;split at h;rename_i hf;have t:=Zq1 hf;have u:=ih h;simp only[List.flatMap_cons,ZIc,ZIi,List.mem_append];refine⟨ω,λs hs=>?_⟩;rcases hs with hs|hs;exact t.2 s hs;exact u.2 s hs;simp at h
def Zhy{s}{l i:List Str}:s∈l.foldl Zcn i↔s∈i\/s∈l:=by
 induction l generalizing i with
 |nil=>simp
 |cons x r ih =>simp only[List.foldl_cons,ih,ZIF];unfold Zcn;split;rename_i h;constructor;rintro(h1|h1);exact .inl h1;exact .inr (.inr h1);rintro(h1|rfl|h1);exact .inl h1;exact .inl h;exact .inr h1;simp only[List.mem_append,List.mem_singleton,_root_.or_assoc]
def ZuO{s m}:s∈Kp m↔s∈m.fields.flatMap Yv:=by
 unfold Kp;rw[Zhy];simp
def ZAT{d j m}(hm:d.msgs.getD j dE=m)(h:W7 d j m=nO):ZDE d j:=by
 unfold W7 at h;split at h;· simp at h
 split at h;· simp at h
 split at h;· simp at h
 rename_i i;simp only[ZIp,decide_eq_true_eq,not_or,Nat.not_lt]at i;have:=Zol h;subst hm;exact⟨ω,λs t=>this.2 s (ZuO.1 t)⟩
end Go.DL
namespace Go.DL
open Go
variable {kp:Option (List Nat)}{L:Loc}{H:Env}{s:St}{w:World}{os:List DOp}{ds:List D}{B:List (Nat × Rd)}{dst:Option Nat}{tmps:Array Value}{g:G}{Φ:Res->St->Prop}{Z:Nat->Nat}{xs:List Opd}{side:Prop}{row:Nat->List D}
def Yc{q:Nat->Prop}{j}(h:∀i,i<j->q i)(hj:q j):∀i,i<j+1->q i:=λi u=>by
 rcases Nat.lt_or_eq_of_le (Nat.le_of_lt_succ u) with t |rfl;exact h i t;exact hj
def Zqg{s}{t:Tok}{x k:Nat}(i:t.okIn s){o:Qv}(u:s x=sO o):(s.own t k) x=sO o:=Y2 i _ _ u
def st2(st:St)(t1:Tok)(k1:Nat)(t2:Tok)(k2:Nat)(x:Nat)(c:Qv):St:=((st.own t1 k1).own t2 k2).upd x c
def Yp{st u t2 x i t c}:(st2 st u i t2 t x c) x=sO c:=ZH5 _ _ _
def Yq{st t1 t2 x t u c i}:(st2 st t1 t t2 u x c).upd x i=st2 st t1 t t2 u x i:=ZIk _ _ _ _
open Go.Proofs
def KA{α:Type}(p:α->Bool):List α->Nat
 | []=>0
 |x::r=>if p x then 1 else KA p r+1
def QH{α}{p:α->Bool}{l:List α}(h:∀x∈l,p x=false):KA p l=I l:=by
 induction l with
 |nil=>rfl
 |cons x r ih=>simp only[KA,h x ψ,ZIi];rw[ih λy i=>h y (by simp[i])];simp
def Zaf{α}[Inhabited α]{p}{l:List α}{i:Nat}(hi:i<I l)(t:p (l.getD i dE)=true)(h:∀j,j<i->p (l.getD j dE)=false):KA p l=i+1:=by
 induction l generalizing i with
 |nil=>simp at hi
 |cons x r ih =>
  cases i with
  |zero=>simp at t;simp[KA,t]
  |succ i =>have u:=h 0 ω;simp only[List.getD_cons_zero]at u;simp only[List.getD_cons_succ,ZIi]at t hi;simp only[KA,u];rw[ih ω t λj hj=>by have:=h (j+1) ω;simpa only[List.getD_cons_succ]using this];simp
def byC(b:UInt8):List D:=[.int .u8 (b.toNat:Int)]
def Jg{α}(p:α->Bool)(l:List α):l.any p=dC (0<=Zi p l):=by
 induction l with
 |nil=>rfl
 |cons x r ih =>have:=ZaU p r;rw[List.any_cons,ih];simp only[Zi];by_cases i:p x=true;simp[i];by_cases t:Zi p r<0;simp[i,t];simp[i,t];omega
def Zeb(l f p)(sts:Nat->St)(hf:∀i,i<I l->VT ZH1 f [.agg (l.getD i dE).cells] (sts i) (.bool (p (l.getD i dE))) (sts (i+1))):
  ZL ZH1 110 [slD 2 Msg.cells l,f] (sts 0) (.i (Zi p l)) (sts (KA p l)):=by
 refine Zz (cR 110 f110) λad F t=>?_;have hw:=(Ww (ad (slD 2 Msg.cells l) ψ)).1;unfold big at hw;clear ad;refine rx @eQ1 ?_;refine rx @eQ1 ?_;refine Zd (fr (I l) (λi Q=>i<=I l->(∀j,j<i->p (l.getD j dE)=false)->Q [(0,.d (slD 2 Msg.cells l)),(1,.d f),(7,.d (.i (I l))),(8,.d (.i i))] [] (sts i)) (λn ab=>?_) λae=>?_);intro i hn hi u;refine rx @eQ1 ?_;refine Zc (Zl rfl trivial (λh1=>?_) (λh1=>?_));simp at h1;refine rx @eQ1 ?_;refine xA (nd2 @eQ1 @eQ3) ?_;refine cW (hf i h1) ?_;refine cd (λh2=>?_) (λh2=>?_);have e1:=WH h1 h2 u;have e2:=Zaf h1 h2 u;rw[e1,e2]at t;refine rg ?_;exact t rfl φ (ZH3 _) ZH2;refine gA ?_;refine Ze ?_;exact ab ((I l)-(i+1)) ω (i+1) rfl ω (Yc (q:=λj=>p (l.getD j dE)=false) u h2);simp at h1;obtain rfl:i=I l:=ω;have ac:∀x∈l,p x=false:=λx hx=>by obtain⟨j,hj,rfl⟩:=ZIl hx;have:=u j hj;simpa[ZIg,hj]using this
 rw[Y9 ac,QH ac]at t;refine rg ?_;exact t rfl φ (ZH3 _) ZH2;exact ae _ 0 rfl ω (by intro j hj;omega)
def ZfL(l f p)(sts:Nat->St)(hf:∀i,i<I l->VT ZH1 f [.agg (l.getD i dE).cells] (sts i) (.bool (p (l.getD i dE))) (sts (i+1))):
  ZL ZH1 90 [slD 2 Yb.cells l,f] (sts 0) (.i (Zi p l)) (sts (KA p l)):=by
 refine Zz (cR 90 f90) λad F t=>?_;have hw:=(Ww (ad (slD 2 Yb.cells l) ψ)).1;unfold big at hw;clear ad;refine rx @eQ1 ?_;refine rx @eQ1 ?_;refine Zd (fr (I l) (λi Q=>i<=I l->(∀j,j<i->p (l.getD j dE)=false)->Q [(0,.d (slD 2 Yb.cells l)),(1,.d f),(7,.d (.i (I l))),(8,.d (.i i))] [] (sts i)) (λn ab=>?_) λae=>?_);intro i hn hi u;refine rx @eQ1 ?_;refine Zc (Zl rfl trivial (λh1=>?_) (λh1=>?_));simp at h1;refine rx @eQ1 ?_;refine xA (nd2 @eQ1 @Yb.cells.eq_1) ?_;refine cW (hf i h1) ?_;refine cd (λh2=>?_) (λh2=>?_);have e1:=WH h1 h2 u;have e2:=Zaf h1 h2 u;rw[e1,e2]at t;refine rg ?_;exact t rfl φ (ZH3 _) ZH2;refine gA ?_;refine Ze ?_;exact ab ((I l)-(i+1)) ω (i+1) rfl ω (Yc (q:=λj=>p (l.getD j dE)=false) u h2);simp at h1;obtain rfl:i=I l:=ω;have ac:∀x∈l,p x=false:=λx hx=>by obtain⟨j,hj,rfl⟩:=ZIl hx;have:=u j hj;simpa[ZIg,hj]using this
 rw[Y9 ac,QH ac]at t;refine rg ?_;exact t rfl φ (ZH3 _) ZH2;exact ae _ 0 rfl ω (by intro j hj;omega)
def Za4(l f p)(sts:Nat->St)(hf:∀i,i<I l->VT ZH1 f [.agg (l.getD i dE).cells] (sts i) (.bool (p (l.getD i dE))) (sts (i+1))):
  ZL ZH1 49 [slD 3 YB.cells l,f] (sts 0) (.i (Zi p l)) (sts (KA p l)):=by
 refine Zz (cR 49 f49) λad F t=>?_;have hw:=(Ww (ad (slD 3 YB.cells l) ψ)).1;unfold big at hw;clear ad;refine rx @eQ1 ?_;refine rx @eQ1 ?_;refine Zd (fr (I l) (λi Q=>i<=I l->(∀j,j<i->p (l.getD j dE)=false)->Q [(0,.d (slD 3 YB.cells l)),(1,.d f),(7,.d (.i (I l))),(8,.d (.i i))] [] (sts i)) (λn ab=>?_) λae=>?_);intro i hn hi u;refine rx @eQ1 ?_;refine Zc (Zl rfl trivial (λh1=>?_) (λh1=>?_));simp at h1;refine rx @eQ1 ?_;refine xA (nd2 @eQ1 @YB.cells.eq_1) ?_;refine cW (hf i h1) ?_;refine cd (λh2=>?_) (λh2=>?_);have e1:=WH h1 h2 u;have e2:=Zaf h1 h2 u;rw[e1,e2]at t;refine rg ?_;exact t rfl φ (ZH3 _) ZH2;refine gA ?_;refine Ze ?_;exact ab ((I l)-(i+1)) ω (i+1) rfl ω (Yc (q:=λj=>p (l.getD j dE)=false) u h2);simp at h1;obtain rfl:i=I l:=ω;have ac:∀x∈l,p x=false:=λx hx=>by obtain⟨j,hj,rfl⟩:=ZIl hx;have:=u j hj;simpa[ZIg,hj]using this
 rw[Y9 ac,QH ac]at t;refine rg ?_;exact t rfl φ (ZH3 _) ZH2;exact ae _ 0 rfl ω (by intro j hj;omega)
def QJ(l f p)(sts:Nat->St)(hf:∀i,i<I l->VT ZH1 f [.agg (l.getD i dE).cells] (sts i) (.bool (p (l.getD i dE))) (sts (i+1))):
  ZL ZH1 131 [slD 15 Fld.cells l,f] (sts 0) (.i (Zi p l)) (sts (KA p l)):=by
 refine Zz (cR 131 f131) λad F t=>?_;have hw:=(Ww (ad (slD 15 Fld.cells l) ψ)).1;unfold big at hw;clear ad;refine rx @eQ1 ?_;refine rx @eQ1 ?_;refine Zd (fr (I l) (λi Q=>i<=I l->(∀j,j<i->p (l.getD j dE)=false)->Q [(0,.d (slD 15 Fld.cells l)),(1,.d f),(7,.d (.i (I l))),(8,.d (.i i))] [] (sts i)) (λn ab=>?_) λae=>?_);intro i hn hi u;refine rx @eQ1 ?_;refine Zc (Zl rfl trivial (λh1=>?_) (λh1=>?_));simp at h1;refine rx @eQ1 ?_;refine xA (nd2 @eQ1 @eQ0) ?_;refine cW (hf i h1) ?_;refine cd (λh2=>?_) (λh2=>?_);have e1:=WH h1 h2 u;have e2:=Zaf h1 h2 u;rw[e1,e2]at t;refine rg ?_;exact t rfl φ (ZH3 _) ZH2;refine gA ?_;refine Ze ?_;exact ab ((I l)-(i+1)) ω (i+1) rfl ω (Yc (q:=λj=>p (l.getD j dE)=false) u h2);simp at h1;obtain rfl:i=I l:=ω;have ac:∀x∈l,p x=false:=λx hx=>by obtain⟨j,hj,rfl⟩:=ZIl hx;have:=u j hj;simpa[ZIg,hj]using this
 rw[Y9 ac,QH ac]at t;refine rg ?_;exact t rfl φ (ZH3 _) ZH2;exact ae _ 0 rfl ω (by intro j hj;omega)
def ZfM(l f p)(sts:Nat->St)(hf:∀i,i<I l->VT ZH1 f [.int .u8 ((l.getD i dE).toNat:Int)] (sts i) (.bool (p (l.getD i dE))) (sts (i+1))):
  ZL ZH1 150 [slD 1 byC l,f] (sts 0) (.i (Zi p l)) (sts (KA p l)):=by
 refine Zz (cR 150 f150) λad F t=>?_;have hw:=(Ww (ad (slD 1 byC l) ψ)).1;unfold big at hw;clear ad;refine rx @eQ1 ?_;refine rx @eQ1 ?_;refine Zd (fr (I l) (λi Q=>i<=I l->(∀j,j<i->p (l.getD j dE)=false)->Q [(0,.d (slD 1 byC l)),(1,.d f),(7,.d (.i (I l))),(8,.d (.i i))] [] (sts i)) (λn ab=>?_) λae=>?_);intro i hn hi u;refine rx @eQ1 ?_;refine Zc (Zl rfl trivial (λh1=>?_) (λh1=>?_));simp at h1;refine rx @eQ1 ?_;refine xA (nd2 @eQ1 @byC.eq_1) ?_;refine cW (hf i h1) ?_;refine cd (λh2=>?_) (λh2=>?_);have e1:=WH h1 h2 u;have e2:=Zaf h1 h2 u;rw[e1,e2]at t;refine rg ?_;exact t rfl φ (ZH3 _) ZH2;refine gA ?_;refine Ze ?_;exact ab ((I l)-(i+1)) ω (i+1) rfl ω (Yc (q:=λj=>p (l.getD j dE)=false) u h2);simp at h1;obtain rfl:i=I l:=ω;have ac:∀x∈l,p x=false:=λx hx=>by obtain⟨j,hj,rfl⟩:=ZIl hx;have:=u j hj;simpa[ZIg,hj]using this
 rw[Y9 ac,QH ac]at t;refine rg ?_;exact t rfl φ (ZH3 _) ZH2;exact ae _ 0 rfl ω (by intro j hj;omega)
def Zdx(l f p)(sts:Nat->St)(hf:∀i,i<I l->VT ZH1 f [.agg (l.getD i dE).cells] (sts i) (.bool (p (l.getD i dE))) (sts (i+1))):
  ZL ZH1 315 [slD 15 Fld.cells l,f] (sts 0) (.bool (l.any p)) (sts (KA p l)):=by
 refine Zz (cR 315 f315) λu F t=>?_;clear u;refine gG ?_;refine ct (QJ l f p sts hf) ?_;rw[Jg]at t;exact t rfl φ (ZH3 _) ZH2
def K4(l){f p}(sts:Nat->St)(hf:∀i,i<I l->VT ZH1 f [.int .u8 ((l.getD i dE).toNat:Int)] (sts i) (.bool (p (l.getD i dE))) (sts (i+1))):
  ZL ZH1 102 [slD 1 byC l,f] (sts 0) (.bool (l.any p)) (sts (KA p l)):=by
 refine Zz (cR 102 f102) λu F t=>?_;clear u;refine gG ?_;refine ct (ZfM l f p sts hf) ?_;rw[Jg]at t;exact t rfl φ (ZH3 _) ZH2
def boC(b:Bool):List D:=[.bool b]
def ZbZ(s:Str):List D:=[.str s]
def ZnY{α:Type}[DecidableEq α](v)(l:List α):l.any (λx=>dC (v=x))=dC (v∈l):=by
 induction l with
 |nil=>simp
 |cons x r ih=>rw[List.any_cons,ih];simp[ZIF]
def Zi6{α:Type}[Inhabited α]{l r:List α}(h:I l=I r)(u:∀j,j<I l->l.getD j dE=r.getD j dE):l=r:=by
 apply List.ext_getElem h;intro i t h3;have:=u i t;simpa[ZIg,t,h3]using this
def ZiU(l v):Zf ZH1 200 [slD 1 boC l,.bool v] (.i (Zi (λx=>dC (v=x)) l)):=by
 refine WK (cR 200 f200) λad F st u=>?_;have hw:=(Ww (ad (slD 1 boC l) ψ)).1;unfold big at hw;clear ad;refine rx @eQ1 ?_;refine rx @eQ1 ?_;refine Zd (fr (I l) (λi Q=>i<=I l->(∀j,j<i->dC (v=l.getD j dE)=false)->Q [(0,.d (slD 1 boC l)),(1,.d (.bool v)),(7,.d (.i (I l))),(8,.d (.i i))] [] st) (λn t=>?_) λae=>?_);intro i hn hi ab;refine rx @eQ1 ?_;refine Zc (Zl rfl trivial (λh1=>?_) (λh1=>?_));simp at h1;refine rx @eQ1 ?_;refine xA (nd2 @eQ1 @boC.eq_1) ?_;refine cd (λh2=>?_) (λh2=>?_);have e1:=WH (p:=λx=>dC (v=x)) h1 h2 ab;refine rg ?_;refine ri u ?_;exact e1.symm;refine gA ?_;refine Ze ?_;exact t ((I l)-(i+1)) ω (i+1) rfl ω (Yc (q:=λj=>dC (v=l.getD j dE)=false) ab h2);simp at h1;obtain rfl:i=I l:=ω;have ac:∀x∈l,(λx=>dC (v=x)) x=false:=λx hx=>by obtain⟨j,hj,rfl⟩:=ZIl hx;have:=ab j hj;simpa[ZIg,hj]using this
 refine rg ?_;refine ri u ?_;exact(Y9 ac).symm;exact ae _ 0 rfl ω (by intro j hj;omega)
def ZfY(l v):Zf ZH1 149 [slD 1 boC l,.bool v] (.bool (dC (v∈l))):=by
 refine Zh (cR 149 f149) λF st i=>?_;refine gG ?_;refine cl (ZiU l v) ?_;refine rb i ?_;rw[<-Jg,ZnY];try congr
def Zhf(l v):Zf ZH1 310 [slD 1 ZbZ l,.str v] (.i (Zi (λx=>dC (v=x)) l)):=by
 refine WK (cR 310 f310) λad F st u=>?_;have hw:=(Ww (ad (slD 1 ZbZ l) ψ)).1;unfold big at hw;clear ad;refine rx @eQ1 ?_;refine rx @eQ1 ?_;refine Zd (fr (I l) (λi Q=>i<=I l->(∀j,j<i->dC (v=l.getD j dE)=false)->Q [(0,.d (slD 1 ZbZ l)),(1,.d (.str v)),(7,.d (.i (I l))),(8,.d (.i i))] [] st) (λn t=>?_) λae=>?_);intro i hn hi ab;refine rx @eQ1 ?_;refine Zc (Zl rfl trivial (λh1=>?_) (λh1=>?_));simp at h1;refine rx @eQ1 ?_;refine xA (nd2 @eQ1 @ZbZ.eq_1) ?_;refine cd (λh2=>?_) (λh2=>?_);have e1:=WH (p:=λx=>dC (v=x)) h1 h2 ab;refine rg ?_;refine ri u ?_;exact e1.symm;refine gA ?_;refine Ze ?_;exact t ((I l)-(i+1)) ω (i+1) rfl ω (Yc (q:=λj=>dC (v=l.getD j dE)=false) ab h2);simp at h1;obtain rfl:i=I l:=ω;have ac:∀x∈l,(λx=>dC (v=x)) x=false:=λx hx=>by obtain⟨j,hj,rfl⟩:=ZIl hx;have:=ab j hj;simpa[ZIg,hj]using this
 refine rg ?_;refine ri u ?_;exact(Y9 ac).symm;exact ae _ 0 rfl ω (by intro j hj;omega)
def ZeJ(l v):Zf ZH1 271 [slD 1 ZbZ l,.str v] (.bool (dC (v∈l))):=by
 refine Zh (cR 271 f271) λF st i=>?_;refine gG ?_;refine cl (Zhf l v) ?_;refine rb i ?_;rw[<-Jg,ZnY];try congr
def ZiT(l r):Zf ZH1 308 [slD 2 Yb.cells l,slD 2 Yb.cells r] (.bool (dC (l=r))):=by
 refine WK (cR 308 f308) λad F st t=>?_;have hw:=(Ww (ad (slD 2 Yb.cells l) ψ)).1;unfold big at hw;clear ad;refine rx @eQ1 ?_;refine rx @eQ1 ?_;refine cd (λh1=>?_) (λh1=>?_);refine rg ?_;refine rb t ?_;exact(decide_eq_false (λe=>by rw[e]at h1;simp at h1)).symm;have ab:I l=I r:=by simp at h1;omega
 refine rx @eQ1 ?_;refine Zd (fr (I l) (λi Q=>i<=I l->(∀j,j<i->l.getD j dE=r.getD j dE)->Q [(0,.d (slD 2 Yb.cells l)),(1,.d (slD 2 Yb.cells r)),(12,.d (.i (I l))),(13,.d (.i i))] [] st) (λn u=>?_) λag=>?_);intro i hn hi ac;refine rx @eQ1 ?_;refine Zc (Zl rfl trivial (λh2=>?_) (λh2=>?_));simp at h2;refine rx @eQ1 ?_;refine xA (nd2 @eQ1 @Yb.cells.eq_1) ?_;refine cd (λh3=>?_) (λh3=>?_);have af:l.getD i dE≠r.getD i dE:=λe=>by rw[e]at h3;simp at h3
 refine rg ?_;refine rb t ?_;exact(decide_eq_false (λe=>af (by rw[e]))).symm;have ae:l.getD i dE=r.getD i dE:=by generalize l.getD i dE=a at h3⊢;generalize r.getD i dE=b at h3⊢;cases a;cases b;simpa[and_assoc]using h3
 refine gA ?_;refine Ze ?_;exact u ((I l)-(i+1)) ω (i+1) rfl ω (Yc (q:=λj=>l.getD j dE=r.getD j dE) ac ae);simp at h2;obtain rfl:i=I l:=ω;refine rg ?_;refine rb t ?_;exact(decide_eq_true (Zi6 ab ac)).symm;exact ag _ 0 rfl ω (by intro j hj;omega)
def ZiS(l r):Zf ZH1 309 [slD 3 YB.cells l,slD 3 YB.cells r] (.bool (dC (l=r))):=by
 refine WK (cR 309 f309) λad F st t=>?_;have hw:=(Ww (ad (slD 3 YB.cells l) ψ)).1;unfold big at hw;clear ad;refine rx @eQ1 ?_;refine rx @eQ1 ?_;refine cd (λh1=>?_) (λh1=>?_);refine rg ?_;refine rb t ?_;exact(decide_eq_false (λe=>by rw[e]at h1;simp at h1)).symm;have ab:I l=I r:=by simp at h1;omega
 refine rx @eQ1 ?_;refine Zd (fr (I l) (λi Q=>i<=I l->(∀j,j<i->l.getD j dE=r.getD j dE)->Q [(0,.d (slD 3 YB.cells l)),(1,.d (slD 3 YB.cells r)),(12,.d (.i (I l))),(13,.d (.i i))] [] st) (λn u=>?_) λag=>?_);intro i hn hi ac;refine rx @eQ1 ?_;refine Zc (Zl rfl trivial (λh2=>?_) (λh2=>?_));simp at h2;refine rx @eQ1 ?_;refine xA (nd2 @eQ1 @YB.cells.eq_1) ?_;refine cd (λh3=>?_) (λh3=>?_);have af:l.getD i dE≠r.getD i dE:=λe=>by rw[e]at h3;simp at h3
 refine rg ?_;refine rb t ?_;exact(decide_eq_false (λe=>af (by rw[e]))).symm;have ae:l.getD i dE=r.getD i dE:=by generalize l.getD i dE=a at h3⊢;generalize r.getD i dE=b at h3⊢;cases a;cases b;simpa[and_assoc]using h3
 refine gA ?_;refine Ze ?_;exact u ((I l)-(i+1)) ω (i+1) rfl ω (Yc (q:=λj=>l.getD j dE=r.getD j dE) ac ae);simp at h2;obtain rfl:i=I l:=ω;refine rg ?_;refine rb t ?_;exact(decide_eq_true (Zi6 ab ac)).symm;exact ag _ 0 rfl ω (by intro j hj;omega)
def ZhO(c):Zf ZH1 99 [.int .u8 c.toNat] (.bool (Zj6 c)):=by
 refine Zh (cR 99 f99) λF st i=>?_;refine gG ?_;refine rb i ?_;rfl
def Zr4(c):Zf ZH1 100 [.int .u8 c.toNat] (.bool (ZwE c)):=by
 refine Zh (cR 100 f100) λF st i=>?_;refine gG ?_;refine rb i ?_;rfl
def Zeo(v):Zf ZH1 190 [.i v] (.bool (Zec v)):=by
 refine Zh (cR 190 f190) λF st i=>?_;refine gG ?_;refine rb i ?_;simp only[Zec]
def ZmJ(l):Zf ZH1 101 [slD 1 boC l] (.bool (!dC (false∈l))):=by
 refine Zh (cR 101 f101) λF st i=>?_;refine gG ?_;refine cl (ZfY l false) ?_;refine rb i ?_;rfl
def ZkV{a b}:Zf ZH1 101 [.sl .full 2 1 (ZZ [.bool false] ([0,1].zip [.bool a,.bool b]))] (.bool (a&&b)):=by
 have h:ZY boC (ZZ [.bool false] ([0,1].zip [.bool a,.bool b])) [a,b]:=λi t=>by
  match i,t with
  |0,_=>rfl
  |1,_=>rfl
 refine((ZmJ [a,b]).leA (LeC.one (h.le rfl))).le ?_;cases a<;>cases b<;>rfl
def ZrA{a b c}:Zf ZH1 101 [.sl .full 3 1 (ZZ [.bool false] ([0,1,2].zip [.bool a,.bool b,.bool c]))] (.bool (a&&(b&&c))):=by
 have h:ZY boC (ZZ [.bool false] ([0,1,2].zip [.bool a,.bool b,.bool c])) [a,b,c]:=λi t=>by
  match i,t with
  |0,_=>rfl
  |1,_=>rfl
  |2,_=>rfl
 refine((ZmJ [a,b,c]).leA (LeC.one (h.le rfl))).le ?_;cases a<;>cases b<;>cases c<;>rfl
def Zqv{c}:Zf ZH1 98 [.int .u8 c.toNat] (.bool (!Zgk c)):=by
 refine Zh (cR 98 f98) λF st i=>?_;refine gG ?_;refine cl (ZhO c) ?_;refine cG (Zr4 c) ?_;refine rb i ?_;unfold Zgk;cases Zj6 c<;>cases ZwE c<;>rfl
def Zxr(s):Zf ZH1 102 [slD 1 byC s,.fn (.func 98) [] []] (.bool (s.any λc=>!Zgk c)) :=
 λst=>K4 s (λ_=>st) λi _=> Zqv.VT (first:=[]) (caps:=[]) st
def Zj1(s):Y7 s=(((dC (1<=(I s:Int))&&dC ((I s:Int)<=32))&&Zj6 (s.getD 0 0))&&!(s.any λc=>!Zgk c)):=by
 cases s with
 |nil=>rfl
 |cons c r =>
  have h:∀l:Str,l.all Zgk=!(l.any λc=>!Zgk c):=λl=>by
   induction l with
   |nil=>rfl
   |cons x r ih=>simp only[List.all_cons,List.any_cons,ih];cases Zgk x<;>simp
  simp only[Y7,h,List.getD_cons_zero,ZIi]
  congr 2
  have i:dC (1<=((I r+1:Nat):Int))=true:=decide_eq_true ω;rw[i,ZIt];exact decide_eq_decide.2 ω
def Za2(s):Zf ZH1 57 [.str s] (.bool (Y7 s)):=by
 refine WK (cR 57 f57) λt F st i=>?_;have u:=(t (.str s) ψ).str_inv;unfold big at u;refine gG ?_;refine rg ?_;refine cl ZkV ?_;refine aa ?_;refine cG (ZhO _) ?_;refine cG (Zxr s) ?_;rw[Zj1]at i;refine rb i ?_;trivial
end Go.DL
namespace Go.DL
open Go
variable {kp:Option (List Nat)}{L:Loc}{H:Env}{s:St}{w:World}{os:List DOp}{ds:List D}{B:List (Nat × Rd)}{dst:Option Nat}{tmps:Array Value}{g:G}{Φ:Res->St->Prop}{Z:Nat->Nat}{xs:List Opd}{side:Prop}{row:Nat->List D}
section
variable {K V:Type} [DecidableEq K]
def Zr(k:K):List (K×V)->Option V
 | []=>nO
 |e::r=>if k=e.1 then sO e.2 else Zr k r
def YO(k:K)(v:V):List (K×V)->List (K×V)
 | []=>[(k,v)]
 |e::r=>if k=e.1 then (k,v)::r else e::YO k v r
def WD(kD:K->D)(vD:V->D)(l:List (K×V)):List (D×D):=l.map λe=>(kD e.1,vD e.2)
def Zlh(kp:KP)(kD:K->D):Prop:=∀a b,Kr kp (kD a) (kD b)=sO (dC (a=b))
def Yz{kp}{i}{vD:V->D}(h:Zlh kp i)(k:K)(l:List (K×V)):ZbF kp (i k) (WD i vD l)=sO ((Zr k l).map vD):=by
 induction l with
 |nil=>rfl
 |cons e r ih =>simp only[WD,ZIj,ZbF,h k e.1,Zr];by_cases t:k=e.1;simp[t];simp only[t,decide_false,if_false];exact ih
def J0{kp}{i}{vD}(h:Zlh kp i)(k:K)(v:V)(l:List (K×V)):JR kp (i k) (vD v) (WD i vD l)=sO (WD i vD (YO k v l)):=by
 induction l with
 |nil=>rfl
 |cons e r ih =>simp only[WD,ZIj,JR,h k e.1,YO];by_cases t:k=e.1;simp[t];simp only[t,decide_false,if_false,ZIj];rw[show JR kp (i k) (vD v) (r.map λe=>(i e.1,vD e.2))=_ from ih];rfl
def YH{kp}{i:K->D}(h:Zlh kp i)(k:K):QD kp (i k)=true:=by simp[QD,h k k]
def WY(k j)(v:V)(l:List (K×V)):Zr j (YO k v l)=if j=k then sO v else Zr j l:=by
 induction l with
 |nil=>simp[YO,Zr]
 |cons e r ih =>simp only[YO];by_cases i:k=e.1;subst i;simp only[if_true,Zr];split<;>rfl;simp only[i,if_false,Zr,ih];by_cases t:j=e.1;subst t;simp[Ne.symm i];simp[t]
def ZyA{k}{l:List (K×V)}:Zr k l=nO↔k∉l.map (·.1):=by
 induction l with
 |nil=>simp[Zr]
 |cons x r ih =>simp only[Zr,ZIj,ZIF];by_cases h:k=x.1;simp[h];simp[h,ih]
end
def Ks(s:Str):D:=.str s
def ZN:Zlh (.sc .str) Ks:=λa b=>rfl
def YR(n:Int):D:=.i n
def Zdj:Zlh (.sc .int) YR:=λa b=>by simp[Kr,YR,Yk]
open Go.Proofs
def vst(st:St)(b x:Nat)(es:List (D×D)):St:=(st.upd b (.map es)).upd x (.cells [.map b])
def ZBg{st b x es}:(vst st b x es) x=sO (.cells [.map b]):=ZH5 _ _ _
def ZBf{st b x es}(h:b≠x):(vst st b x es) b=sO (.map es):=by
 unfold vst;rw[ZH8 _ _ h];exact ZH5 _ _ _
def ZCB{st b x es i}(h:b≠x):(vst st b x es).upd b (.map i)=vst st b x i:=by
 unfold vst;rw[St.upd_comm h,ZIk]
abbrev Zew(l:List (Str×Bool)):List (D×D):=WD Ks D.bool l
def Znp(o:Option Bool):Wh (.bool false) false (o.map D.bool)=.bool (o.getD false):=by cases o<;>rfl
def Zpn(t st b x)(h:b≠x)(l):
  ZL ZH1 189 [.agg t.cells,.ptr x 0] (vst st b x (Zew l)) (.bool ((Zr t.field l).getD false||!JQ t)) (vst st b x (Zew (YO t.field true l))):=by
 refine Zz (cR 189 f189) λhwf F i=>?_;have u:=Yz (vD:=D.bool) ZN t.field l;have e2:=J0 (vD:=D.bool) ZN t.field true l;have e3:=YH ZN t.field;simp only[show Ks t.field=D.str t.field from rfl]at u e2 e3;refine rx @Yb.cells.eq_1 ?_;refine rh ?_;refine Zp ?_;simp only[Eqs,reduceCtorEq,ZH9,reduceIte,ZH6,ZIa,ZH7,ZBg,ZBf h,u,Znp];generalize (Zr t.field l).getD false=tw at *;refine rh ?_;refine Zp ?_;simp only[Eqs,reduceCtorEq,ZH9,reduceIte,ZH6,ZIa,ZH7,ZBg,ZBf h,e2,ZCB h];cases tw with
 |false =>refine rx @Yb.cells.eq_1 ?_;refine clD (Za2 t.field) ?_;refine clD (Zeo t.factor) ?_;refine clD ZrA ?_;refine i rfl φ (ZeO ?_) ZH2;unfold JQ;cases Y7 t.field<;>cases dC (t.factor=0)<;>cases Zec t.factor<;>rfl
 |true =>refine rx @Yb.cells.eq_1 ?_;refine ZeX rfl rfl (e:=.d (.bool false)) (Yt ?_);simp only[Eqs,reduceCtorEq,ZH9,reduceIte,ZH6,ZIa,ZH7];refine ZeX rfl rfl (e:=.d (.bool false)) (Yt ?_);simp only[Eqs,reduceCtorEq,ZH9,reduceIte,ZH6,ZIa,ZH7];refine ZeX rfl rfl (e:=.d (.bool false)) (Yt ?_);simp only[Eqs,reduceCtorEq,ZH9,reduceIte,ZH6,ZIa,ZH7];exact i rfl φ (ZeO ψ) ZH2
def ZeI{n i}(h:i<n):(ZIf n).getD i dE=i:=by simp[ZIg,h]
def ZfK(l f p)(sts:Nat->St)(hf:∀i,i<I l->VT ZH1 f [.agg (l.getD i dE).cells] (sts i) (.bool (p i)) (sts (i+1))):
  ZL ZH1 90 [slD 2 Yb.cells l,f] (sts 0) (.i (Zi p (ZIf (I l)))) (sts (KA p (ZIf (I l)))):=by
 refine Zz (cR 90 f90) λad F t=>?_;have hw:=(Ww (ad (slD 2 Yb.cells l) ψ)).1;unfold big at hw;clear ad;refine rx @eQ1 ?_;refine rx @eQ1 ?_;refine Zd (fr (I l) (λi Q=>i<=I l->(∀j,j<i->p j=false)->Q [(0,.d (slD 2 Yb.cells l)),(1,.d f),(7,.d (.i (I l))),(8,.d (.i i))] [] (sts i)) (λn ab=>?_) λae=>?_);intro i hn hi u;refine rx @eQ1 ?_;refine Zc (Zl rfl trivial (λh1=>?_) (λh1=>?_));simp at h1;refine rx @eQ1 ?_;refine xA (nd2 @eQ1 @Yb.cells.eq_1) ?_;refine cW (hf i h1) ?_;refine cd (λh2=>?_) (λh2=>?_);have e1:=WH (p:=p) (l:=ZIf (I l)) (i:=i) (by simpa using h1) (by rw[ZeI h1];exact h2) (λj hj=>by rw[ZeI ω];exact u j hj);have e2:=Zaf (p:=p) (l:=ZIf (I l)) (i:=i) (by simpa using h1) (by rw[ZeI h1];exact h2) (λj hj=>by rw[ZeI ω];exact u j hj);rw[e1,e2]at t;refine rg ?_;exact t rfl φ (ZH3 _) ZH2;refine gA ?_;refine Ze ?_;exact ab ((I l)-(i+1)) ω (i+1) rfl ω (Yc (q:=λj=>p j=false) u h2);simp at h1;obtain rfl:i=I l:=ω;have ac:∀x∈ZIf (I l),p x=false:=λx hx=>u x (by simpa using hx);rw[Y9 ac,QH ac,List.length_range]at t;refine rg ?_;exact t rfl φ (ZH3 _) ZH2;exact ae _ 0 rfl ω (by intro j hj;omega)
def Zea(l f p)(sts:Nat->St)(hf:∀i,i<I l->VT ZH1 f [.agg (l.getD i dE).cells] (sts i) (.bool (p i)) (sts (i+1))):
  ZL ZH1 191 [slD 2 Yb.cells l,f] (sts 0) (.bool ((ZIf (I l)).any p)) (sts (KA p (ZIf (I l)))):=by
 refine Zz (cR 191 f191) λu F t=>?_;clear u;refine gG ?_;refine ct (ZfK l f p sts hf) ?_;rw[Jg]at t;exact t rfl φ (ZH3 _) ZH2
def ZlI(l:List Yb):Nat->List (Str×Bool)
 |0=>[]
 |i+1=>YO (l.getD i dE).field true (ZlI l i)
def Zzh{l s i}(hi:i<=I l):(Zr s (ZlI l i)).getD false=dC (s∈(l.take i).map (·.field)):=by
 induction i with
 |zero=>simp[ZlI,Zr]
 |succ i ih =>have h:=ih ω;rw[ZlI,WY,Yo ω,List.map_append];by_cases t:s=(l.getD i dE).field;rw[if_pos t];simp[t];rw[if_neg t,h];simp only[List.mem_append,ZIj,ZIA,List.mem_singleton,t,or_false]
def ZdA(l r:List Yb)(k)(hr:r=l.drop k)(hk:k<=I l):Zbl ((l.take k).map (·.field)) r=!((ZIf (I r)).any λi=>(dC ((l.getD (k+i) dE).field∈(l.take (k+i)).map (·.field))||!JQ (l.getD (k+i) dE))):=by
 induction r generalizing k with
 |nil=>rfl
 |cons t q ih =>
  have u:k<I l:=by have:=congrArg List.length hr;simp at this;omega
  rw[Wn u]at hr;injection hr with h1 h2;have h3:=ih (k+1) h2 ω;rw[Zbl,ZIi,List.range_succ_eq_map,List.any_cons,List.any_map];rw[show(l.take k).map (·.field)++[t.field]=(l.take (k+1)).map (·.field) by rw[Yo u,List.map_append,<-h1];rfl,h3];simp only[Nat.add_zero,<-h1,Function.comp_def,Nat.succ_eq_add_one];rw[show(λi=>dC ((l.getD (k+(i+1)) dE).field∈(l.take (k+(i+1))).map (·.field))||!JQ (l.getD (k+(i+1)) dE))=λi=>dC ((l.getD (k+1+i) dE).field∈(l.take (k+1+i)).map (·.field))||!JQ (l.getD (k+1+i) dE) from funext λi=>by rw[show k+(i+1)=k+1+i by omega]];cases JQ t<;>cases dC (t.field∈(l.take k).map (·.field))<;>simp
def Zam(s):Zf ZH1 132 [.agg s.cells] (.bool (ZU s)):=by
 refine WK (cR 132 f132) λhwf F st t=>?_;refine rx (nd2 @eQ4 (nd2 @Ye.eq_1 @eQ1)) ?_;refine rg ?_;intro b hb;refine Zc ?_;refine ZdC 3 rfl λx hx=>?_;simp only[Eqs,reduceCtorEq,ZH9,reduceIte,ZH6,ZIa,ZH7,JW,Jc,delL];refine rg ?_;have u:b≠x:=λe=>by rw[e,ZH5]at hx;simp at hx
 have ab:∀o,(st.upd b o) x=nO:=λo=>by rw[ZH8 _ _ (Ne.symm u)]at hx⊢;exact hx
 have ac:(st.upd b (.map [])).upd x (.cells [.map b])=vst st b x (Zew []):=rfl;rw[ac];cases hc:(Zec s.base&&dC ((I s.terms:Int)<=4)) with
 |false =>refine rx (nd2 @eQ4 (nd2 @Ye.eq_1 @eQ1)) ?_;refine clD (Zeo s.base) ?_;refine cXD @hc ZkV ?_;refine ZeX rfl rfl (e:=.d (.bool false)) (Yt ?_);simp only[Eqs,reduceCtorEq,ZH9,reduceIte,ZH6,ZIa,ZH7];refine t rfl φ (ZeO ?_) (ZIK (ZIr _ hb) (ZIr _ (ab _)));unfold ZU;rw[show dC (I s.terms<=4)=dC ((I s.terms:Int)<=4) from decide_eq_decide.2 ω,hc];rfl
 |true =>refine rx (nd2 @eQ4 (nd2 @Ye.eq_1 @eQ1)) ?_;refine clD (Zeo s.base) ?_;refine cXD @hc ZkV ?_;refine Zjm rfl rfl rfl rfl rfl φ φ (by exact Zea s.terms (.fn (.func 189) [] [.ptr x 0]) (λi=>dC ((s.terms.getD i dE).field∈(s.terms.take i).map (·.field))||!JQ (s.terms.getD i dE)) (λi=>vst st b x (Zew (ZlI s.terms i))) (λi hi=>(by have:=Zpn (s.terms.getD i dE) st b x u (ZlI s.terms i);rw[Zzh ω]at this;exact this.VT (first:=[]) (args:=[_]) (caps:=[_])))) (by first|trivial|exact⟨rfl,trivial⟩|simp[Wd,K0]) (Yt ?_);simp only[Eqs,reduceCtorEq,ZH9,reduceIte,ZH6,ZIa,ZH7];refine t rfl φ (ZeO ?_) (ZIK (ZIr _ hb) (ZIr _ (ab _)));have hv:=ZdA s.terms s.terms 0 rfl ω;simp only[Nat.zero_add]at hv;rw[<-hv];unfold ZU;rw[show dC (I s.terms<=4)=dC ((I s.terms:Int)<=4) from decide_eq_decide.2 ω,hc,ZIt];rfl
def ZiQ(l)(hl:I l<=1000000)(st):Za ZH1 192 [Ye l] st (λr s=>r=.ret (Ye l)/\s=st):=by
 refine Zb (cR 192 f192) λF hF=>?_;by_cases h0:I l=0;have ac:l=[]:=List.eq_nil_of_length_eq_zero h0;subst ac;refine Zet 0 rfl ?_ λb off cap=>?_
 skip
 refine rx (nd2 @Ye.eq_1 @eQ1) ?_;refine rg ?_;refine i1 ?_;refine rg ?_;exact hF.ret _ st rfl φ (QP (YV λb h=>by cases h)) ZH2 ⟨rfl,rfl⟩
 skip
 refine rx (nd2 @Ye.eq_1 @eQ1) ?_;refine rg ?_;refine iG ?_;refine Zes (s:=st) (t:=.full) (m:=0) (row2:=λ_=>[]) rfl rfl rfl rfl rfl φ φ (λg w v h=>Zgl h) trivial (by decide) (by unfold big;decide) λt1 u=>?_;refine gR0 ?_;exact hF.ret _ st rfl φ (QP ((ZY.nil (f:=Yb.cells)).le rfl)) (Y2 u) ⟨rfl,rfl⟩
 skip
 refine rx (nd2 @Ye.eq_1 @eQ1) ?_;refine gA ?_;refine iG ?_;refine ZaJ (st) (.full) rfl rfl rfl rfl rfl rfl φ φ rfl (by first|trivial|assumption) ω (by (unfold big;omega)) λt1 u=>Zp ?_;simp only[Eqs,reduceCtorEq,ZH9,reduceIte,ZH6,ZIa,ZH7];have ab:ZY Yb.cells (YW 0 (ZZ [.str [],.i 0] ([].zip [])) λi=>(l.getD i dE).cells) ([]++l):=ZY.nil.app ZY.self rfl;exact hF.ret _ st rfl φ (QP (ab.le ψ)) (Y2 u) ⟨rfl,rfl⟩
def ZaF(l)(hl:I l<=big)(x):Zc7 ZH1 (.fn (.func 193) [] [.ptr x 0]) (I l) (λj=>[.str (l.getD j dE).field]) (ZIu x (.cells [Ye l])):=by
 intro y go A a0 ae hA hd;have hw:=hl;unfold big at hw;refine Za.V (first:=[]) (args:=[y]) (caps:=[.ptr x 0]) (Zb (cR 193 f193) λF hF=>?_);have hx:∀a,Z8 a (ZIu x (.cells [Ye l]))->(a.or (ZIu x (.cells [Ye l]))) x=sO (.cells [Ye l]):=λa ag=>by rw[ZG (ag x _ Yi),Yi]
 generalize hT:ZIu x (.cells [Ye l])=T at *;refine rh ?_;refine Zp ?_;simp only[Eqs,reduceCtorEq,ZH9,reduceIte,ZH6,ZIa,ZH7,hx a0 hd,Ye,slD];refine Zd (fr (I l) (λj Q=>∀a,A j a->Z8 a T->(∀i,i<j->go i=.next)->j<=I l->Q [(0,.d y),(5,.d (Ye l)),(6,.d (.i (I l))),(7,.d (.i j))] [] (a.or T)) (λn ad=>?_) λah=>?_)
 .clear hA hd;intro j hn a hA hd ab hj;refine rx (nd2 @Ye.eq_1 @eQ1) ?_;refine Zc (Zl rfl trivial (λh1=>?_) (λh1=>?_))
  .simp at h1;generalize hg:l.getD j dE=g at *;refine xA (nd2 @Yb.cells.eq_1 (nd2 @Ye.eq_1 (nd2 @eQ1 @hg))) ?_;refine rg ?_;have u:=(ae j h1 ab a hA).frame hd;simp only[hg]at u;refine vV (u) ?_ ?_
   .rintro d S ⟨s',⟨hr,ac⟩,af,rfl⟩;cases t:go j with
    |next =>rw[t]at hr;cases hr;refine gR0 ?_;refine i0 ?_;refine gA ?_;refine Ze ?_;exact ad ((I l)-(j+1)) ω (j+1) rfl s' ac af (Yc (q:=λi=>go i=.next) ab t) ω
    |stop c =>rw[t]at hr;cases hr;refine gR0 ?_;refine i1 ?_;exact hF.ret (.tup []) _ rfl trivial (ZH3 _) ZH2 ⟨s',.stop j c h1 ab t ac,KD⟩
    |pan d=>rw[t]at hr;cases hr
   rintro d S ⟨s',⟨hr,ac⟩,af,rfl⟩;cases t:go j with
   |pan d' =>rw[t]at hr;cases hr;exact hF.pan _ ZH2 ⟨s',.pan j d h1 ab t ac,KD⟩
   |next=>rw[t]at hr;cases hr
   |stop c=>rw[t]at hr;cases hr
  simp at h1;obtain rfl:j=I l:=ω;refine ZO rfl ?_;exact hF.fin (.tup []) _ rfl trivial (ZH3 _) ZH2 ⟨a,.all ab hA,KD⟩
 exact ah _ 0 rfl a0 hA hd (by intro i hi;omega) ω
def Je{s}(h:ZU s=true):I s.terms<=4:=by
 unfold ZU at h;simp only[ZIb,decide_eq_true_eq]at h;exact h.1.2
def ZbJ(s)(t:ZU s=true){st}:Za ZH1 133 [.agg s.cells] st (λr S=>∃x,st x=nO/\r=.ret (.fn (.func 193) [] [.ptr x 0])/\S=st.or (ZIu x (.cells [Ye s.terms]))):=by
 have hfew:=Je t;refine Zb (cR 133 f133) λF hF=>?_;refine rx @eQ4 ?_;refine rg ?_;refine rx @eQ4 ?_;refine cX @t (Zam s) ?_;refine i1 ?_;refine rx @eQ4 ?_;have c9:=(ZiQ s.terms ω st);refine cV (c9) ?_ ?_;rintro d S ⟨i,rfl⟩;cases i;refine gR0 ?_;refine⟨rfl,?_⟩;refine Zc ?_;refine ZdC 3 rfl λx u=>?_;simp only[Eqs,reduceCtorEq,ZH9,reduceIte,ZH6,ZIa,ZH7,JW,Jc,delL];refine rg ?_;exact hF.ret _ _ rfl φ (ZH3 _) ZH2 ⟨x,u,rfl,K6 u⟩;rintro d S ⟨i,_⟩;cases i
def Qq(r:Int×Int):D:=.agg [.i r.1,.i r.2]
abbrev ZzG:=List (Str×(Int×Int))
abbrev Zbz(l:ZzG):List (D×D):=WD Ks Qq l
def Zm{b c o}(h:(s.upd b o) c=nO):c≠b/\s c=nO:=by
 have:c≠b:=λe=>by rw[e,ZH5]at h;simp at h
 exact⟨this,by rw[ZH8 _ _ this]at h;exact h⟩
def ZkU(r):Zf ZH1 318 [Qq r] (.bool (!ZbV r)):=by
 refine Zh (cR 318 f318) λF st i=>?_;refine rx @Qq.eq_1 ?_;refine rg ?_;refine cl ZrA ?_;refine rb i ?_;unfold ZbV;rw[Bool.not_or,Bool.not_or,<-decide_not,<-decide_not,<-decide_not];simp only[Int.not_lt,Int.not_le,Bool.and_assoc]
def ckS(st:St)(b5 b6 b7 b8 b9 b:Nat)(rc:Int)(nn:Bool):St :=
 ((((st.upd b5 (.cells [.str []])).upd b6 (.cells [.map b])).upd b7 (.cells [.fn (.func 318) [] []])).upd b8 (.cells [.i rc])).upd b9 (.cells [.bool nn])
structure YG(st:St)(b5 b6 b7 b8 b9:Nat):Prop where
 n5:st b5=none
 n6:b6≠b5/\st b6=none
 n7:b7≠b6/\b7≠b5/\st b7=none
 n8:b8≠b7/\b8≠b6/\b8≠b5/\st b8=none
 n9:b9≠b8/\b9≠b7/\b9≠b6/\b9≠b5/\st b9=none
section
variable {st:St} {b5 b6 b7 b8 b9 b:Nat} {rc:Int} {nn:Bool}
def YG.g5(h:YG st b5 b6 b7 b8 b9):(ckS st b5 b6 b7 b8 b9 b rc nn) b5=sO (.cells [.str []]):=by
 simp[ckS,ZID,h.n6.1.symm,h.n7.2.1.symm,h.n8.2.2.1.symm,h.n9.2.2.2.1.symm]
def YG.g6(h:YG st b5 b6 b7 b8 b9):(ckS st b5 b6 b7 b8 b9 b rc nn) b6=sO (.cells [.map b]):=by
 simp[ckS,ZID,h.n7.1.symm,h.n8.2.1.symm,h.n9.2.2.1.symm]
def YG.g7(h:YG st b5 b6 b7 b8 b9):(ckS st b5 b6 b7 b8 b9 b rc nn) b7=sO (.cells [.fn (.func 318) [] []]):=by
 simp[ckS,ZID,h.n8.1.symm,h.n9.2.1.symm]
def YG.g8(h:YG st b5 b6 b7 b8 b9):(ckS st b5 b6 b7 b8 b9 b rc nn) b8=sO (.cells [.i rc]):=by
 simp[ckS,ZID,h.n9.1.symm]
def YG.g9:(ckS st b5 b6 b7 b8 b9 b rc nn) b9=sO (.cells [.bool nn]):=by
 simp[ckS,ZID]
def YG.gm(h:YG st b5 b6 b7 b8 b9){o}(i:st b=sO o):(ckS st b5 b6 b7 b8 b9 b rc nn) b=sO o:=by
 have t:b≠b5:=λe=>by rw[e,h.n5]at i;simp at i
 have u:b≠b6:=λe=>by rw[e,h.n6.2]at i;simp at i
 have h7:b≠b7:=λe=>by rw[e,h.n7.2.2]at i;simp at i
 have h8:b≠b8:=λe=>by rw[e,h.n8.2.2.2]at i;simp at i
 have h9:b≠b9:=λe=>by rw[e,h.n9.2.2.2.2]at i;simp at i
 simp[ckS,ZID,t,u,h7,h8,h9,i]
def YG.s8(h:YG st b5 b6 b7 b8 b9)(rc'):(ckS st b5 b6 b7 b8 b9 b rc nn).upd b8 (.cells [.i rc'])=ckS st b5 b6 b7 b8 b9 b rc' nn:=by
 unfold ckS;rw[St.upd_comm h.n9.1.symm,ZIk]
def YG.s9(nn'):(ckS st b5 b6 b7 b8 b9 b rc nn).upd b9 (.cells [.bool nn'])=ckS st b5 b6 b7 b8 b9 b rc nn':=by
 unfold ckS;rw[ZIk]
def YG.sub(h:YG st b5 b6 b7 b8 b9):st.sub (ckS st b5 b6 b7 b8 b9 b rc nn):=λc o i=>by
 have t:c≠b5:=λe=>by rw[e,h.n5]at i;simp at i
 have u:c≠b6:=λe=>by rw[e,h.n6.2]at i;simp at i
 have h7:c≠b7:=λe=>by rw[e,h.n7.2.2]at i;simp at i
 have h8:c≠b8:=λe=>by rw[e,h.n8.2.2.2]at i;simp at i
 have h9:c≠b9:=λe=>by rw[e,h.n9.2.2.2.2]at i;simp at i
 simp[ckS,ZID,t,u,h7,h8,h9,i]
end
def Zlk{st t b5 b6 b7 b8 b9 b rc u nn i}(h:Z8 (ckS st b5 b6 b7 b8 b9 b rc nn) t):Z8 (ckS st b5 b6 b7 b8 b9 b u i) t:=λc o hc=>by
 have:=h c o hc;unfold ckS at this⊢;have k9:=Zm this;have k8:=Zm k9.2;rw[ZH8 _ _ k9.1,ZH8 _ _ k8.1];exact k8.2
def Zs8{st b5 b6 b7 b8 b9 b rc nn}(h:YG st b5 b6 b7 b8 b9){H L}(hρ:ZM H 8=sO (.d (.ptr b8 0)):=by rfl):
  Yw H L (ckS st b5 b6 b7 b8 b9 b rc nn) [.cell1 8]=sO (True/\True,[.i rc]):=by
 simp[Yw,Kf,hρ,Wg,Z1,h.g8]
def ZpS{α:Type}[Inhabited α]{p}{l:List α}(h:∀i,i<I l->p (l.getD i dE)=false):l.any p=false:=by
 apply List.any_eq_false.2;intro x u;obtain⟨i,t,rfl⟩:=ZIl u;have:=h i t;simpa[ZIg,t]using this
def Zk7{s j}(h:ZU s=true)(hj:j<I s.terms):(s.terms.getD j dE).field≠[]:=by
 unfold ZU at h;simp only[ZIb]at h;have t:=ZdA s.terms s.terms 0 rfl ω;simp only[List.take_zero,ZIA,Nat.zero_add]at t;rw[t]at h;have h2:((ZIf (I s.terms)).any λi=>dC ((s.terms.getD i dE).field∈(s.terms.take i).map (·.field))||!JQ (s.terms.getD i dE))=false:=by simpa using h.2
 have u:=List.any_eq_false.1 h2 j (by simpa using hj);simp only[ZIp,not_or,Bool.not_eq_true',Bool.not_eq_false]at u;have h4:=u.2;intro e;rw[JQ,e]at h4;simp[Y7]at h4
def Zpo(s b l st)(hb:st b=sO (.map (Zbz l))):
  Za ZH1 319 [.agg s.cells,.str [],.map b,.fn (.func 318) [] []] st (λr S=>r=.ret (.i (ZcF s (λk=>Zr k l)))/\S=st):=by
 refine Zb (cR 319 f319) λF hF=>?_;refine rx @eQ4 ?_;refine rx @eQ4 ?_;refine cl (Zam s) ?_;refine cd (λhv=>?_) (λhv=>?_);have ag:ZU s=false:=by simpa using hv
 refine rg ?_;refine hF.ret _ st rfl φ (Zhk ?_) ZH2 ⟨rfl,rfl⟩;rw[ZcF,if_pos ag];have ag:ZU s=true:=by simpa using hv
 refine rg ?_;refine Zc (Zc ?_);refine xP 5 λb5 h5=>?_;refine xP 6 λb6 h6=>?_;refine xP 7 λb7 h7=>?_;refine xP 8 λb8 h8=>?_;refine xP 9 λb9 h9=>?_;refine rx @eQ4 ?_;refine cV (ZbJ s ag) ?_ ?_
 .rintro d S ⟨x,hx,hd,rfl⟩;cases hd;refine gR0 ?_;refine Zd ?_;have t:YG st b5 b6 b7 b8 b9:=by have k6:=Zm h6;have k7:=Zm h7;have ax:=Zm k7.2;have k8:=Zm h8;have au:=Zm k8.2;have ay:=Zm au.2;have k9:=Zm h9;have av:=Zm k9.2;have aw:=Zm av.2;have az:=Zm aw.2;exact⟨h5,k6,⟨k7.1,ax⟩,⟨k8.1,au.1,ay⟩,⟨k9.1,av.1,aw.1,az⟩⟩
  have hfew:=Je ag;rw[show(((((st.upd b5 (.cells [.str []])).upd b6 (.cells [.map b])).upd b7 (.cells [.fn (.func 318) [] []])).upd b8 (.cells [.i 0])).upd b9 (.cells [.bool false]))=ckS st b5 b6 b7 b8 b9 b 0 false from rfl]at hx⊢;refine Kt hF rfl trivial [5,6,7,8,9] (by show([5,6,7,8,9]:List Nat).Nodup;decide) (Wl hx) (ZaF s.terms (by unfold big;omega) x).Y (λj hj=>rfl)
   (λj=>if QC (λk=>Zr k l) (s.terms.getD j dE) then .stop .ret else .next)
   (λj a=>((∀i,i<j->QC (λk=>Zr k l) (s.terms.getD i dE)=false)/\a=ckS st b5 b6 b7 b8 b9 b 0 ((s.terms.take j).any (JF λk=>Zr k l)))\/((∃nn,a=ckS st b5 b6 b7 b8 b9 b 2 nn)/\∃i,i<j/\QC (λk=>Zr k l) (s.terms.getD i dE)=true))
   (.inl ⟨λi hi=>by omega,rfl⟩) ?_ ?_ ?_ ?_ ?_ ?_
  .intro j a hj ae hB F' ready busy hdr ap ad;have ac:∀i,i<j->QC (λk=>Zr k l) (s.terms.getD i dE)=false:=λi hi=>by have:=ae i hi;split at this;simp at this;rename_i h;simpa using h
   rcases hB with ⟨_,rfl⟩|⟨_,i,hi,ah⟩
   .skip
    simp only[Eqs,reduceCtorEq,ZH9,reduceIte,ZH6,ZIa,ZH7,WB,W1,Q5,Ke,List.isEmpty_nil,List.isEmpty_cons];refine rg ?_;refine ap λal=>?_;have ar:(s.terms.getD j dE).field≠[]:=Zk7 ag hj;have aj:=ZzL (p:=JF λk=>Zr k l) hj;generalize am:s.terms.getD j dE=tm at *;have e1:=Yz (vD:=Qq) ZN tm.field l;have e3:=YH ZN tm.field;simp only[show Ks tm.field=D.str tm.field from rfl]at e1 e3;cases hg:Zr tm.field l with
    |none =>
     rw[hg]at e1;have u:QC (λk=>Zr k l) tm=false:=by simp[QC,hg]
     have af:JF (λk=>Zr k l) tm=true:=by simp[JF,hg]
     rw[af,Bool.or_true]at aj;rw[if_neg (by rw[u];simp)]at ad;refine rh ?_;refine Zp ?_;simp only[Eqs,reduceCtorEq,ZH9,reduceIte,ZH6,ZIa,ZH7,Zs (t.g6 ),Zs (t.gm hb),e1,e3];refine rh ?_;refine Zp ?_;simp only[Eqs,reduceCtorEq,ZH9,reduceIte,ZH6,ZIa,ZH7,Zs (t.g5 )];refine Zl rfl trivial (λh=>by simp at h;exact absurd h ar) (λ_=>?_);refine rg ?_;refine i1 ?_;refine rh ?_;refine Zp ?_;simp only[Eqs,reduceCtorEq,ZH9,reduceIte,ZH6,ZIa,ZH7,Zs (YG.g9 ),WU,YG.s9];refine Zk (Zk ?_);exact ad.fin ⟨rfl,.inl ⟨Yc (q:=λi=>QC (λk=>Zr k l) (s.terms.getD i dE)=false) ac (by rw[am];exact u),by rw[aj]⟩⟩ (Zlk al) ZH2
    |some r =>
     rw[hg]at e1;have u:QC (λk=>Zr k l) tm=ZbV r:=by simp[QC,hg]
     have af:JF (λk=>Zr k l) tm=false:=by simp[JF,hg]
     rw[af,Bool.or_false]at aj;refine rh ?_;refine Zp ?_;simp only[Eqs,reduceCtorEq,ZH9,reduceIte,ZH6,ZIa,ZH7,Zs (t.g6 ),Zs (t.gm hb),e1,e3,Qq];refine rh ?_;refine Zp ?_;simp only[Eqs,reduceCtorEq,ZH9,reduceIte,ZH6,ZIa,ZH7,Zs (t.g5 )];refine Zl rfl trivial (λh=>by simp at h;exact absurd h ar) (λ_=>?_);refine gI ?_;refine rh ?_;refine Zp ?_;simp only[Eqs,reduceCtorEq,ZH9,reduceIte,ZH6,ZIa,ZH7,Zs (t.g7 )];refine cl (ZkU r) ?_;refine cd (λhr=>?_) (λhr=>?_);have ai:ZbV r=true:=by simpa using hr
     rw[if_pos (by rw[u];exact ai)]at ad;refine rh ?_;refine Zp ?_;simp only[Eqs,reduceCtorEq,ZH9,reduceIte,ZH6,ZIa,ZH7,Zs (t.g8 ),WU,t.s8];exact ad.ret ⟨rfl,.inr ⟨⟨_,rfl⟩,j,ω,by rw[am,u];exact ai⟩⟩ (Zlk al) ZH2;have ai:ZbV r=false:=by simpa using hr
     rw[if_neg (by rw[u,ai];simp)]at ad;refine ZE (Zk (Zk ?_));exact ad.fin ⟨rfl,.inl ⟨Yc (q:=λi=>QC (λk=>Zr k l) (s.terms.getD i dE)=false) ac (by rw[am,u];exact ai),by rw[aj]⟩⟩ al ZH2
   rw[ac i hi]at ah;simp at ah
  intro q a ae hB hq;have ac:∀i,i<I s.terms->QC (λk=>Zr k l) (s.terms.getD i dE)=false:=λi hi=>by have:=ae i hi;split at this;simp at this;rename_i h;simpa using h
  rcases hB with ⟨_,rfl⟩|⟨_,i,hi,ah⟩;rw[ZIC]at hq⊢;have ak:s.terms.any (QC λk=>Zr k l)=false:=ZpS ac;have hI:=ZcF.eq_1 s λk=>Zr k l;rw[if_neg (by rw[ag];simp),if_neg (by rw[ak];simp)]at hI;rw[K6 hq];have aq:=Wl (o:=Qv.dfr) hq;generalize s.terms.any (JF λk=>Zr k l)=nn at *;refine rh ?_;refine Zp ?_;simp only[Eqs,reduceCtorEq,ZH9,reduceIte,ZH6,ZIa,ZH7,Zs (YG.g9 )];refine cd (λhn=>?_) (λhn=>?_);rw[if_pos hn]at hI;refine rh ?_;refine Zp ?_;simp only[Eqs,reduceCtorEq,ZH9,reduceIte,ZH6,ZIa,ZH7,Zs (t.g8 ),WU,t.s8];exact hF.ret1 (Zf7 (Zlk aq) Yi) (.i 9) st (Zs8 t) ⟨trivial,trivial⟩ (ZH3 _) t.sub ⟨by rw[hI],rfl⟩;rw[if_neg (by rw[hn];simp)]at hI;refine rh ?_;refine Zp ?_;simp only[Eqs,reduceCtorEq,ZH9,reduceIte,ZH6,ZIa,ZH7,Zs (t.g8 ),WU,t.s8];exact hF.ret1 (Zf7 (Zlk aq) Yi) (.i 0) st (Zs8 t) ⟨trivial,trivial⟩ (ZH3 _) t.sub ⟨by rw[hI],rfl⟩;rw[ac i hi]at ah;simp at ah;intro q a m hm ae ab hB hq;have ac:∀i,i<m->QC (λk=>Zr k l) (s.terms.getD i dE)=false:=λi hi=>by have:=ae i hi;split at this;simp at this;rename_i h;simpa using h
  have u:QC (λk=>Zr k l) (s.terms.getD m dE)=true:=by split at ab;rename_i h;exact h;simp at ab
  rcases hB with ⟨ao,_⟩|⟨⟨nn,rfl⟩,_⟩;rw[ao m ω]at u;simp at u;have ak:s.terms.any (QC λk=>Zr k l)=true:=ZCM hm u;have hI:=ZcF.eq_1 s λk=>Zr k l;rw[if_neg (by rw[ag];simp),if_pos ak]at hI;rw[K6 hq];exact hF.ret1 hq (.i 2) st (Zs8 t) ⟨trivial,trivial⟩ (ZH3 _) t.sub ⟨by rw[hI],rfl⟩;intro q a m id hm ae ab;split at ab<;>simp at ab;intro q a m d hm ae ab;split at ab<;>simp at ab;intro m c ab;split at ab<;>simp at ab;exact .inl ab.symm
 rintro d S ⟨x,hx,hd,rfl⟩;cases hd
def Ql(v:Yb->Int):List Yb->Int
 | []=>0
 |t::r=>t.factor*v t+Ql v r
def Zzs{v}{l:List Yb}{i}(h:i<I l):Ql v (l.take (i+1))=Ql v (l.take i)+(l.getD i dE).factor*v (l.getD i dE):=by
 rw[Yo h];generalize l.getD i dE=x;induction l.take i with
 |nil=>simp[Ql]
 |cons y r ih=>simp only[List.cons_append,Ql,ih];omega
def Zro{a b}(i:-1048576<=a/\a<=1048576)(t:0<=b/\b<34359738368):-36028797018963968<=a*b/\a*b<=36028797018963968:=by
 have h1:a*b<=1048576*b:=Int.mul_le_mul_of_nonneg_right i.2 t.1;have h2:-1048576*b<=a*b:=Int.mul_le_mul_of_nonneg_right i.1 t.1;omega
def ZxC{v l}(h:∀t∈l,(-1048576<=t.factor/\t.factor<=1048576)/\0<=v t/\v t<34359738368):-36028797018963968*(I l:Int)<=Ql v l/\Ql v l<=36028797018963968*(I l:Int):=by
 induction l with
 |nil=>simp[Ql]
 |cons t r ih =>have h1:=ih λx i=>h x (by simp[i]);have h2:=Zro (h t ψ).1 (h t ψ).2;simp only[Ql,ZIi];generalize t.factor*v t=y at *;omega
def ZgA{s}(h:ZU s=true):(-1048576<=s.base/\s.base<=1048576)/\∀t∈s.terms,-1048576<=t.factor/\t.factor<=1048576:=by
 unfold ZU at h;simp only[ZIb]at h;refine⟨by have:=h.1.1;simpa[Zec]using this,λt ht=>?_⟩;have h1:=ZdA s.terms s.terms 0 rfl ω;simp only[List.take_zero,ZIA,Nat.zero_add]at h1;rw[h1]at h;have h2:((ZIf (I s.terms)).any λi=>dC ((s.terms.getD i dE).field∈(s.terms.take i).map (·.field))||!JQ (s.terms.getD i dE))=false:=by simpa using h.2
 obtain⟨j,hj,rfl⟩:=ZIl ht;have h3:=List.any_eq_false.1 h2 j (by simpa using hj);simp only[ZIp,not_or,Bool.not_eq_true',Bool.not_eq_false]at h3;have u:=h3.2;unfold JQ at u;simp only[ZIb]at u;have h5:=u.2;simpa[Zec,ZIg,hj]using h5
def Zdw(s)(hv:ZU s=true)(f v st)(hb:∀t∈s.terms,0<=v t/\v t<34359738368)(hf:∀t∈s.terms,VT ZH1 f [.agg t.cells] st (.i (v t)) st):
  ZL ZH1 92 [.agg s.cells,f] st (.i (s.base+Ql v s.terms)) st:=by
 refine Zz (cR 92 f92) λah F ac=>?_;clear ah;have hfew:=Je hv;have ad:=ZgA hv;refine rx (nd2 @eQ4 (nd2 @Ye.eq_1 @eQ1)) ?_;refine rx @eQ4 ?_;refine rx (nd2 @eQ4 (nd2 @Ye.eq_1 @eQ1)) ?_;refine Zd (fr (I s.terms) (λj Q=>j<=I s.terms->Q [(1,.d f),(5,.d (.i (s.base+Ql v (s.terms.take j)))),(11,.d (Ye s.terms)),(12,.d (.i (I s.terms))),(13,.d (.i j))] [] st) (λn ab=>?_) λai=>?_);intro j hn hj;refine rg ?_;refine Zc (Zl rfl trivial (λh1=>?_) (λh1=>?_));simp at h1;have i:=Zu h1;have af:=Zzs (v:=v) h1;have ae:=ZxC (v:=v) (l:=s.terms.take j) λt ht=>⟨ad.2 t (List.mem_of_mem_take ht),hb t (List.mem_of_mem_take ht)⟩;rw[ZIm]at ae;generalize ag:s.terms.getD j dE=tm at *;have hmb:=Zro (ad.2 tm i) (hb tm i);refine xA (nd2 @Yb.cells.eq_1 (nd2 @Ye.eq_1 (nd2 @eQ1 @ag))) ?_;refine rx @Yb.cells.eq_1 ?_;refine cWD (hf tm i) ?_;generalize hmv:tm.factor*v tm=mv at *;refine aa ?_;refine gA ?_;refine Ze ?_;have u:=ab ((I s.terms)-(j+1)) ω (j+1) rfl ω;rw[af,<-Int.add_assoc]at u;exact u;simp at h1;obtain rfl:j=I s.terms:=ω;rw[ZIC];refine rg ?_;exact ac rfl φ (ZH3 _) ZH2;have hk:=ai _ 0 rfl ω;rw[List.take_zero,show Ql v []=0 from rfl,Int.add_zero]at hk;exact hk
def Zeg(look:Ze0)(least:Bool)(t:Yb):Int:=if least=dC (0<t.factor) then (Zim look t).1 else (Zim look t).2
def ZCt(look l):Ql (Zeg look true) l=loS look l:=by
 induction l with
 |nil=>rfl
 |cons t r ih =>simp only[Ql,loS,ih,loT,Zeg];by_cases h:0<t.factor<;>simp[h]
def ZCs(look l):Ql (Zeg look false) l=hiS look l:=by
 induction l with
 |nil=>rfl
 |cons t r ih =>simp only[Ql,hiS,ih,hiT,Zeg];by_cases h:0<t.factor<;>simp[h]
def Zrm(o:Option (Int×Int)):Wh (.agg [.i 0,.i 0]) false (o.map Qq)=.agg [.i (o.getD (0,0)).1,.i (o.getD (0,0)).2]:=by cases o<;>rfl
def ZiP(t l least b x y){st}(hb:st b=sO (.map (Zbz l)))(hx:st x=sO (.cells [.map b]))(hy:st y=sO (.cells [.bool least])):
  ZL ZH1 321 [.agg t.cells,.ptr x 0,.ptr y 0] st (.i (Zeg (λk=>Zr k l) least t)) st:=by
 refine Zz (cR 321 f321) λu F i=>?_;clear u;have e1:=Yz (vD:=Qq) ZN t.field l;have e3:=YH ZN t.field;simp only[show Ks t.field=D.str t.field from rfl]at e1 e3;refine rx @Yb.cells.eq_1 ?_;refine rh ?_;refine Zp ?_;simp only[Eqs,reduceCtorEq,ZH9,reduceIte,ZH6,ZIa,ZH7,hx,hb,e1,e3,Zrm];refine rx @hy ?_;refine cd (λh1=>?_) (λh1=>?_);refine rg ?_;refine i rfl φ (Zhk ?_) ZH2;unfold Zeg Zim;rw[if_pos (by simpa using h1)];refine rh ?_;refine Zp ?_;simp only[Eqs,reduceCtorEq,ZH9,reduceIte,ZH6,ZIa,ZH7,hx,hb,e1,e3,Zrm];refine i rfl φ (Zhk ?_) ZH2;unfold Zeg Zim;rw[if_neg (by simpa using h1)]
def ZAr{s i}(h:ZcF s i=0):ZU s=true/\∀t∈s.terms,∀u,0<=Zeg i u t/\Zeg i u t<34359738368:=by
 unfold ZcF at h;split at h;· omega
 rename_i hv;split at h;· omega
 rename_i hb;refine⟨by simpa using hv,λt ht u=>?_⟩;have h1:QC i t=false:=by
  cases hx:QC i t with
  |false=>rfl
  |true=>exact absurd (List.any_eq_true.2 ⟨t,ht,hx⟩) hb
 unfold QC at h1;unfold Zeg Zim;cases hl:i t.field with
 |none=>simp
 |some r =>rw[hl]at h1;simp only[ZbV,Bool.or_eq_false_iff,decide_eq_false_iff_not]at h1;simp only[ZIH];split<;>omega
def Zd8(s l least b x y){st}(he:ZcF s (λk=>Zr k l)=0)(hb:st b=sO (.map (Zbz l)))(hx:st x=sO (.cells s.cells))(hy:st y=sO (.cells [.map b])):
  ZL ZH1 320 [.bool least,.ptr x 0,.ptr y 0] st (.i (s.base+Ql (Zeg (λk=>Zr k l) least) s.terms)) st:=by
 refine Zz (cR 320 f320) λac F u=>?_;clear ac;have i:=ZAr he;refine rg ?_;refine Zc ?_;refine xP 3 λz hz=>?_;have ab:b≠z:=λe=>by rw[e,hz]at hb;simp at hb
 have ae:x≠z:=λe=>by rw[e,hz]at hx;simp at hx
 have af:y≠z:=λe=>by rw[e,hz]at hy;simp at hy
 have ad:(st.upd z (.cells [.bool least])) x=sO (.cells s.cells):=by rw[ZH8 _ _ ae];exact hx
 refine rx (nd2 @ad @eQ4) ?_;refine Jo rfl rfl rfl rfl rfl φ φ (by exact Zdw s i.1 _ (Zeg (λk=>Zr k l) least) _ (λt ht=>i.2 t ht least) (λt ht=>(ZiP t l least b y z (by rw[ZH8 _ _ ab];exact hb) (by rw[ZH8 _ _ af];exact hy) (ZH5 _ _ _)).VT (first:=[]) (args:=[_]) (caps:=[_,_]))) (Zp ?_);simp only[Eqs,reduceCtorEq,ZH9,reduceIte,ZH6,ZIa,ZH7];exact u rfl φ (ZH3 _) (ZIr _ hz)
def ZnC(s b l){st}(hb:st b=sO (.map (Zbz l))):
  Za ZH1 314 [.agg s.cells,.map b] st (λr S=>r=.ret (.tup [Qq ((JY s λk=>Zr k l).1,(JY s λk=>Zr k l).2.1),.i (JY s λk=>Zr k l).2.2])/\S=st):=by
 refine Zb (cR 314 f314) λF hF=>?_;have hI:=JY.eq_1 s λk=>Zr k l;refine rx @eQ4 ?_;refine rg ?_;refine rx @eQ4 ?_;refine cV (Zpo s b l st hb) ?_ ?_;rintro d S ⟨hd,rfl⟩;cases hd;refine gR0 ?_;refine rg ?_;refine cd (λh1=>?_) (λh1=>?_);have i:¬ZcF s (λk=>Zr k l)=0:=by simpa using h1
 rw[if_neg i]at hI;refine rg ?_;refine hF.ret _ S rfl φ (Qn ?_ rfl) ZH2 ⟨rfl,rfl⟩;rw[hI];rfl;have i:ZcF s (λk=>Zr k l)=0:=by simpa using h1
 rw[if_pos i]at hI;refine ZE (Zc ?_);refine xP 2 λx hx=>?_;refine xP 3 λy hy=>?_;have ac:b≠x:=λe=>by rw[e,hx]at hb;simp at hb
 have ab:=Zm hy;have ad:b≠y:=λe=>by rw[e,ab.2]at hb;simp at hb
 have t:((S.upd x (.cells s.cells)).upd y (.cells [.map b])) b=sO (.map (Zbz l)):=by rw[ZH8 _ _ ad,ZH8 _ _ ac];exact hb
 have u:((S.upd x (.cells s.cells)).upd y (.cells [.map b])) x=sO (.cells s.cells):=by rw[ZH8 _ _ ab.1.symm];exact ZH5 _ _ _
 refine gG ?_;refine cW ((Zd8 s l true b x y i t u (ZH5 _ _ _)).VT (first:=[]) (args:=[_]) (caps:=[_,_])) ?_;refine cW ((Zd8 s l false b x y i t u (ZH5 _ _ _)).VT (first:=[]) (args:=[_]) (caps:=[_,_])) ?_;refine hF.ret _ S rfl (by first|trivial|simp) (Qn ?_ rfl) (ZIK (ZIr _ hx) (ZIr _ hy)) ⟨rfl,rfl⟩;rw[hI,ZCt,ZCs];rfl;rintro d S ⟨hd,_⟩;cases hd
def Zdm(o:Option Int):Wh (.i 0) false (o.map YR)=.i (o.getD 0):=by cases o<;>rfl
abbrev WZ(l:List (Str×Int)):List (D×D):=WD Ks YR l
def inC(n:Int):List D:=[.i n]
end Go.DL
namespace Go.DL
open Go
structure Hdr where
 name:Str
 text:Str
deriving Inhabited,DecidableEq
def Hdr.cells(h:Hdr):List D:=[.str h.name,.str h.text]
def Ym(l:List Hdr):D:=slD 2 Hdr.cells l
def u8C(b:UInt8):List D:=[.int .u8 b.toNat]
def Zo(b:Str):D:=slD 1 u8C b
inductive Val where
 |mk (name:Str) (int:Int) (bytes:Str) (hdrs:List Hdr) (parts:List Val)
namespace Val
def name:Val->Str
 |mk n _ _ _ _=>n
def int:Val->Int
 |mk _ i _ _ _=>i
def bytes:Val->Str
 |mk _ _ b _ _=>b
def hdrs:Val->List Hdr
 |mk _ _ _ h _=>h
def parts:Val->List Val
 |mk _ _ _ _ p=>p
end Val
instance:Inhabited Val:=⟨.mk [] 0 [] [] []⟩
def Zud:List D:=[.str [],.i 0,Zo [],Ym [],.nilsl]
mutual
def Val.cells:Val->List D
 |.mk n i b h p=>[.str n,.i i,Zo b,Ym h,.sl .none (I p) 5 λj=>(Val.cellsL p).getD j Zud]
def Val.cellsL:List Val->List (List D)
 | []=>[]
 |v::r=>v.cells::Val.cellsL r
end
def Val.cellsL_get:∀(l j),j<I l->(Val.cellsL l).getD j Zud=(l.getD j dE).cells
 | [],j,h=>absurd h (Nat.not_lt_zero _)
 |v::r,0,_=>rfl
 |v::r,j+1,h=>by have:=cellsL_get r j (by simpa using h);simpa[Val.cellsL]using this
def ZcP(p:List Val)(j:Nat):List D:=(Val.cellsL p).getD j Zud
def Zgn{p j}(h:j<I p):ZcP p j=(p.getD j dE).cells:=Val.cellsL_get p j h
def Z7(p:List Val):D:=.sl .none (I p) 5 (ZcP p)
def Val.cells_eq(v:Val):v.cells=[.str v.name,.i v.int,Zo v.bytes,Ym v.hdrs,Z7 v.parts]:=by
 cases v;rfl
def Val.len(v:Val):I v.cells=5:=by rw[Val.cells_eq];rfl
def Val.ind{p:Val->Prop}(h:∀v:Val,(∀x∈v.parts,p x)->p v)(v):p v:=by
 have i:∀n:Nat,∀v:Val,SizeOf.sizeOf v<n->p v:=by
  intro n;induction n with
  |zero=>intro v h;omega
  |succ n ih =>
   intro v hv;refine h v λx t=>ih x ?_;have h1:SizeOf.sizeOf x<SizeOf.sizeOf v.parts:=List.sizeOf_lt_of_mem t;have h2:SizeOf.sizeOf v.parts<SizeOf.sizeOf v:=by cases v;simp[Val.parts];omega
   omega
 exact i _ v (Nat.lt_succ_self _)
def QX{l i}(h:i<I l):ZcP l i=[.str (l.getD i dE).name,.i (l.getD i dE).int,Zo (l.getD i dE).bytes,Ym (l.getD i dE).hdrs,Z7 (l.getD i dE).parts]:=by rw[Zgn h,Val.cells_eq]
end Go.DL
namespace Go.DL
open Go
variable [ZsL]
variable {kp:Option (List Nat)}{L:Loc}{H:Env}{s:St}{w:World}{os:List DOp}{ds:List D}{B:List (Nat × Rd)}{dst:Option Nat}{tmps:Array Value}{g:G}{Φ:Res->St->Prop}{Z:Nat->Nat}{xs:List Opd}{side:Prop}{row:Nat->List D}
variable {P:Program}
def ZD5{k i:IntKind}{a b:Int}(h:0<=b):ZgD .shl k i a b=sO (k.wrap (Zah k a b)):=if_pos h
def ZBC{op s x y}(h:ck P op=sO (.copy s x y)):
  ∃x' y' args ats t1 e,op=.call ⟨.builtin .copy,args,ats⟩/\args.toList=[x',y']/\ats[0]?=sO t1/\P.underlying t1=sO (.slice e)/\ZT P e=sO s/\ZW x'=sO x/\ZW y'=sO y/\0<s:=by
 unfold ck at h;split at h;simp at h;split at h<;>(try(simp at h;done));all_goals (try(repeat' (split at h<;>(try(simp at h;done)))))
 all_goals
  simp only[ZH0,K.copy.injEq]at h;obtain⟨rfl,rfl,rfl⟩:=h
 rename_i c _ _ i _ _ e x' y' h1 t _ _ _ s' x1 y1 hs hx hy u;obtain⟨t1,g1,g2⟩:=Option.bind_eq_some_iff.1 h1;obtain⟨callee,args,ats⟩:=c;simp only at i;subst i;exact⟨x',y',args,ats,t1,e,rfl,t,g1,g2,hs,hx,hy,of_decide_eq_true u⟩
def Zvf{F:Fr P}{kp dk o os H L s}(hg:Zn H o.guard=sO true){sz x y}(hk:o.k=.copy sz x y){p q b off n cap m row2 dy cs}(hx:ZC H true x=sO (p,.d (.msl b off n cap sz)))(hy:ZC H true y=sO (q,.d dy))(hp:p)(hq:q)(hcs:Z1 s b=sO cs)(hlen:off+n*sz<=I cs)(hel:W3 P s sz dy m row2)(hmn:m<=n)(h:DO F kp dk os (Zx H o.dst (.d (.i m))) L (s.upd b (.cells (Zt cs off ((ZIf m).flatMap row2))))):DO F kp dk (o::os) H L s:=by
 refine Y5 λoo g Z w tmps bb i r k az aj be af hd hN M hr av=>?_;have hw:=Z9 M be hg;have ay:=Yd aj (by rw[hk];rfl);rw[hk]at aj;obtain⟨x',y',ao,ap,t1,e,bh,ai,aq,ba,al,bl,bn,h0⟩:=ZBC aj;have a0:Rep g w _ (.msl b off n cap sz):=Z0 M bl rfl hx hp F.ds;have a6:Rep g w _ _:=Z0 M bn rfl hy hq F.ds;have a8:s b=sO (.cells cs):=by unfold Z1 at hcs;split at hcs<;>simp only[ZH0,reduceCtorEq]at hcs;subst hcs;assumption
 obtain⟨ah,ad,ax⟩:=hel _ _ _ M.st a6 h0;have bc:ao = #[x',y']:=by apply Array.ext';simpa using ai
 obtain⟨ie,au,ak⟩:∃ie,P.info? e=sO ie/\ie.size=sz:=by
  unfold ZT at al;cases hi:P.info? e with
  |none=>simp[hi]at al
  |some ie=>exact⟨ie,rfl,by simpa[hi]using al⟩
 generalize bj:(Act.mk tmps F.ds).eval x'=vx at a0;generalize bk:(Act.mk tmps F.ds).eval y'=vy at a6 ax;have ab:∀v' w',(Builtin.copy_ ap oo.type #[vx,vy]).run P w=.ok v' w'->(execOp (Act.mk tmps F.ds).eval oo).run P w=.ok (.value v') w':=λv' w' a7=>by unfold execOp;simp only[bh,bc,resolve,invoke,builtin,Sem.run_bind,Sem.run_pure,Result.andThen_ok,List.map_toArray,ZIj,ZIA,bj,bk,a7]
 subst ak;have bf:=ZbP ad.rlen m (ZIh _);obtain⟨aw,ac⟩:=ax;have ac:=ac w rfl;have ag:Nat.min m n=m:=Nat.min_eq_left hmn;have ar:∀(t:Option Addr) ae w',vx=.slice t n ae->(match t with|some a=>storeCells a ah|none=>pure ()).run P w=.ok () w'->(Builtin.copy_ ap oo.type #[vx,vy]).run P w=.ok (.i m) w':=λt ae w' hv u=>by
  subst hv;cases t with
  |none=>simp at u;subst u;simp[Builtin.copy_,aq,run_underlying ba,sizeOf,typeInfo,au,aw,ac,ag,goInt]
  |some a=>simp at u;simp[Builtin.copy_,aq,run_underlying ba,sizeOf,typeInfo,au,aw,ac,ag,u,goInt]
 have u:=Zb1 (P:=P) (off:=off) (Qy M.st hcs) ad.flat ad.one (by rw[bf];have:=ZIn ie.size hmn;omega) (M.st.kept b _ a8);obtain⟨w',a1,a2,a3,a4,a5⟩:=u;have bi:s.upd b (.cells cs)=s:=by funext c;simp only[ZID];split<;>simp_all
 cases a0 with
 |msl _ _ _ _ _ hc1 hc2 =>have am:=ar _ _ w' rfl a1;have m':=M.named (o':=.cells (Zt cs off ((ZIf m).flatMap row2))) a8 a2 a3 a4 a5;exact Yl (L':=L) hN az af hd hw ay (e:=.d (.i m)) (ab _ _ am) a2 m' (.int _ _ (by simp only[big]at hc2;exact⟨by show(-9223372036854775808:Int)<=_;omega,by show _<=(9223372036854775807:Int);omega⟩)) (h bb r k hr av)
 |mslx a =>
  obtain rfl:m=0:=ω;have bg:ah=[]:=List.eq_nil_of_length_eq_zero (by simpa using ad.len);subst bg;have am:=ar (sO a) 0 w rfl (by simp[storeCells]);have a9:Zt cs off ((ZIf 0).flatMap row2)=cs:=by simp[Zt]
  rw[a9,bi]at h;exact Yl (L':=L) (s':=s) hN az af hd hw ay (e:=.d (.i 0)) (ab _ _ am) (Ext.refl g w) M (.int _ _ ⟨by decide,by decide⟩) (h bb r k hr av)
def Zjl{F:Fr P}{kp dk o os H L s}(hg:Zn H o.guard=sO true){sz x y}(hk:o.k=.copy sz x y){p q b off n cap m row2 dy cs}(hx:ZC H true x=sO (p,.d (.msl b off n cap sz)))(hy:ZC H true y=sO (q,.d dy))(hp:p)(hq:q)(hcs:Z1 s b=sO cs)(hlen:off+n*sz<=I cs)(hel:W3 P s sz dy m row2)(hmn:m<=n)(h:Q6 F kp dk os (Zx H o.dst (.d (.i m))) L (s.upd b (.cells (Zt cs off ((ZIf m).flatMap row2))))):Q6 F kp dk (o::os) H L s:=λB=>by
 refine Zb5 (λe' s'=>e'=.d (.i m)/\s'=s.upd b (.cells (Zt cs off ((ZIf m).flatMap row2)))) (by rw[hk];rfl) (λH' L' os' i u=>?_) (λe2 s2 ⟨h1,h2⟩=>by
  subst h1;subst h2;exact⟨J9,h _⟩)
 have h1:ZA H H' (ZS x):=λt ht=>i t (by simp[ZB,hk,Yj,ht]);have h2:ZA H H' (ZS y):=λt ht=>i t (by simp[ZB,hk,Yj,ht]);have h3:ZA H H' (ZcC o.guard):=λt ht=>i t (by simp[ZB,ht]);exact Zvf (by rw[YX h3];exact hg) hk (by rw[ZQ h1];exact hx) (by rw[ZQ h2];exact hy) hp hq hcs hlen hel hmn (u _ _ ⟨rfl,rfl⟩)
inductive Buf(S:St)(sz:Nat)(rows:List (List D)):D->Option Nat->Prop where
 |nil (h:rows=[]):Buf S sz rows .nilsl none
 |obj (x cap:Nat) (X:List D) (h:S x=some (.cells (rows.flatten++X))) (hX:X.length=(cap-I rows)*sz) (hc:I rows<=cap):Buf S sz rows (.msl x 0 (I rows) cap sz) (some x)
def Zh1(s s':St)(ob ob':Option Nat):Prop:=(∀y o,s y=sO o->ob≠sO y->s' y=sO o/\ob'≠sO y)
def Buf.fr{s s' sz rows d ob c i}(h:Buf s sz rows d ob)(t:Zh1 s s' c i)(u:∀x,ob=sO x->c≠sO x):Buf s' sz rows d ob/\∀x,ob=sO x->i≠sO x:=by
 cases h with
 |nil h=>exact⟨.nil h,λx e=>by cases e⟩
 |obj x cap X h hX hc=>exact⟨.obj x cap X (t x _ h (u x rfl)).1 hX hc,λy e=>by cases e;exact(t x _ h (u x rfl)).2⟩
def Zga{sz:Nat}:∀{rows:List (List D)},(∀r∈rows,I r=sz)->I rows.flatten=I rows*sz
 | [],_=>by simp
 |r::l,h=>by rw[List.flatten_cons,ZIc,h r ψ,Zga λq i=>h q (by simp[i]),ZIi,ZIs,Nat.one_mul,Nat.add_comm]
def ZBi{P}{F:Fr P}{kp dk o os H L s}(hg:Zn H o.guard=sO true){e sz bt z x y}(hk:o.k=.append e sz bt z x y){p q row2 dy}(hx:ZC H true x=sO (p,.d .nilsl))(hy:ZC H true y=sO (q,.d dy))(hp:p)(hq:q)(hel:W3 P s sz dy 0 row2)(h:DO F kp dk os (Zx H o.dst (.d .nilsl)) L s):DO F kp dk (o::os) H L s:=by
 refine Y5 λoo g Z w tmps a9 i r k ay u aq ae hd hN M hr ar=>?_;have hw:=Z9 M aq hg;have av:=Yd u (by rw[hk];rfl);rw[hk]at u;obtain⟨x',y',ac,al,t1,t2,tu,az,t,am,ao,a3,a4,ax,a0,hz,hbb,a7,a8,h0,hzl⟩:=ZaP u;have ah:Rep g w _ .nilsl:=Z0 M a7 rfl hx hp F.ds;have ai:Rep g w _ _:=Z0 M a8 rfl hy hq F.ds;obtain⟨zv,hz1,hz2,hz3,ie,af,hzz⟩:=Qf (g:=g) (w:=w) hz;have ab:ie.size=sz:=by simpa[ZT,af]using a0
 subst ab;obtain⟨ak,au,ag⟩:=hel _ _ _ M.st ai h0;have aw:ak=[]:=List.eq_nil_of_length_eq_zero (by simpa using au.len);subst aw;have ap:ac = #[x',y']:=by apply Array.ext';simpa using t
 have ad:∀vs,Builtin.append_ al oo.type vs=Builtin.append_ #[t1,t2] oo.type vs:=λvs=>by unfold Builtin.append_;simp[am,ao]
 generalize a5:(Act.mk tmps F.ds).eval x'=vx at ah;generalize a6:(Act.mk tmps F.ds).eval y'=vy at ai ag;cases ah;have aj:=Zju (ty:=oo.type) (n:=0) (cap:=0) (base:=nO) a3 a4 ax af ag ω;exact Yl (L':=L) (s':=s) hN ay ae hd hw av (e:=.d .nilsl) (by
  unfold execOp;simp only[az,ap,resolve,invoke,builtin,Sem.run_bind,Sem.run_pure,Result.andThen_ok,List.map_toArray,ZIj,ZIA,ad,a5,a6,aj]) (Ext.refl g w) M Rep.nilsl (h a9 r k hr ar)
def ZuV{A X c:List D}{n}(i:A.length=n):Zt (A++X) n c=A++c++X.drop (I c):=by
 subst i;unfold Zt;rw[List.take_left,<-List.drop_drop,List.drop_left]
def Zld{P}{F:Fr P}{kp dk o os H L s}(hg:Zn H o.guard=sO true){e sz bt z x y}(hk:o.k=.append e sz bt z x y){p q rows D0 ob m row2 dy}(hB:Buf s sz rows D0 ob)(hw:∀r∈rows,I r=sz)(hx:ZC H true x=sO (p,.d D0))(hy:ZC H true y=sO (q,.d dy))(hp:p)(hq:q)(hel:W3 P s sz dy m row2)(hb:(I rows+m)*bt<=140737488355328)(hbig:I rows+m<=big){new}(hr:(ZIf m).map row2=new)(hw2:∀r∈new,I r=sz)(h:∀s' D1 ob1,Buf s' sz (rows++new) D1 ob1->Zh1 s s' ob ob1->DO F kp dk os (Zx H o.dst (.d D1)) L s'):DO F kp dk (o::os) H L s:=by
 have ae:(ZIf m).flatMap row2=new.flatten:=by rw[<-hr,List.flatMap_def]
 have t:I new=m:=by rw[<-hr];simp
 cases hB with
 |nil h0 =>
  subst h0;by_cases hm:m=0;subst hm;have ah:new=[]:=List.eq_nil_of_length_eq_zero t;subst ah;exact ZBi hg hk hx hy hp hq hel <|h s _ nO (.nil rfl) λy o' i _=>⟨i,λe=>by cases e⟩;refine ZmO hg hk hx rfl hy hel hp hq (Nat.pos_of_ne_zero hm) (by simpa using hb) (by simpa using hbig) λc cap hc ab=>?_;have ai:I new<=cap:=ω;refine h _ _ (sO c) ?_ λy o' i _=>?_;rw[show(D.msl c 0 m cap sz)=.msl c 0 ([]++new).length cap sz by rw[List.nil_append,t]];refine .obj c cap (List.replicate ((cap-m)*sz) .any) ?_ ?_ ?_;rw[ZH5,ae,List.nil_append];rw[List.length_replicate,List.nil_append,t];rw[List.nil_append];exact ai;have:y≠c:=λe=>by rw[e,hc]at i;cases i
  exact⟨by rw[ZH8 _ _ this];exact i,λe=>this (Option.some.inj e).symm⟩
 |obj x0 cap X hb0 hX hc =>
  have ad:=Zga hw;have ac:(rows.flatten++X).length=cap*sz:=by rw[ZIc,ad,hX,<-ZIs];congr 1;omega
  refine Zle hg hk hx hy hp hq (cs:=rows.flatten++X) (by simp only[Z1,hb0]) (by rw[ac,Nat.zero_add];exact ZIn _ hc) hel (λak=>⟨rfl,by rw[ac];exact ZIn _ ak⟩) hb hbig (λab=>?_) λc u hlt ag ab=>?_;refine h _ _ (sO x0) ?_ λy o' i af=>?_;rw[show(D.msl x0 0 (I rows+m) cap sz)=.msl x0 0 (rows++new).length cap sz by rw[ZIc,t]];refine .obj x0 cap (X.drop (I new.flatten)) ?_ ?_ (by rw[ZIc,t];exact ab);rw[ZH5,ae,ZuV ad,List.flatten_append];rw[ZIG,hX,Zga hw2,t,ZIc,t,<-Nat.sub_mul];congr 1;omega;have:y≠x0:=λe=>af (by rw[e]);exact⟨by rw[ZH8 _ _ this];exact i,λe=>this (Option.some.inj e).symm⟩;refine h _ _ (sO c) ?_ λy o' i af=>?_;rw[show(D.msl c 0 (I rows+m) u sz)=.msl c 0 (rows++new).length u sz by rw[ZIc,t]];refine .obj c u (List.replicate ((u-(I rows+m))*sz) .any) ?_ (by rw[List.length_replicate,ZIc,t]) (by rw[ZIc,t];exact ab);have aj:part (rows.flatten++X) 0 (I rows*sz)=rows.flatten:=by unfold part;rw[List.drop_zero,List.take_left' ad]
  rw[ZH5,ae,aj,List.flatten_append];have:y≠c:=λe=>by rw[e,ag]at i;cases i
  exact⟨by rw[ZH8 _ _ this];exact i,λe=>this (Option.some.inj e).symm⟩
def Zsv{P}{F:Fr P}{kp dk o fl os H L s B}(hg:Zn H o.guard=sO true){e sz bt z x y}(hk:o.k=.append e sz bt z x y){p q rows D0 ob m row2 dy}(hB:Buf s sz rows D0 ob)(hw:∀r∈rows,I r=sz)(hx:ZC H true x=sO (p,.d D0))(hy:ZC H true y=sO (q,.d dy))(hp:p)(hq:q)(hel:W3 P s sz dy m row2)(hb:(I rows+m)*bt<=140737488355328)(hbig:I rows+m<=big){new}(hr:(ZIf m).map row2=new)(hw2:∀r∈new,I r=sz)(h:∀s' D1 ob1,Buf s' sz (rows++new) D1 ob1->Zh1 s s' ob ob1->ZhC false fl s s' L L B/\DOA F kp dk os (Zx H o.dst (.d D1)) L s' (Zlv false fl B)):DOA F kp dk ((o,fl)::os) H L s B:=by
 refine Zb5 (λe' s'=>∃D1 ob1,e'=.d D1/\Buf s' sz (rows++new) D1 ob1/\Zh1 s s' ob ob1) (by rw[hk];rfl) (λH' L' os' i u=>?_) (λe2 s2 ⟨D1,ob1,h1,h2,h3⟩=>by
  subst h1;exact h s2 D1 ob1 h2 h3)
 have e1:ZA H H' (ZS x):=λt ht=>i t (by simp[ZB,hk,Yj,ht]);have e2:ZA H H' (ZS y):=λt ht=>i t (by simp[ZB,hk,Yj,ht]);have e3:ZA H H' (ZcC o.guard):=λt ht=>i t (by simp[ZB,ht]);exact Zld (by rw[YX e3];exact hg) hk hB hw (by rw[ZQ e1];exact hx) (by rw[ZQ e2];exact hy) hp hq hel hb hbig hr hw2 λs' D1 ob1 h1 h2=>u _ _ ⟨D1,ob1,rfl,h1,h2⟩
def ZxL{P}{F:Fr P}{kp dk o os H L s}(hg:Zn H o.guard=sO true){e sz bt z x y}(hk:o.k=.append e sz bt z x y){p q rows D0 ob m row2 dy}(hB:Buf s sz rows D0 ob)(hw:∀r∈rows,I r=sz)(hx:ZC H true x=sO (p,.d D0))(hy:ZC H true y=sO (q,.d dy))(hp:p)(hq:q)(u:W3 P s sz dy m row2)(hb:(I rows+m)*bt<=140737488355328)(t:I rows+m<=big){new}(hr:(ZIf m).map row2=new)(hw2:∀r∈new,I r=sz)(h:∀s' D1 i,Buf s' sz (rows++new) D1 i->Zh1 s s' ob i->Q6 F kp dk os (Zx H o.dst (.d D1)) L s'):Q6 F kp dk (o::os) H L s :=
 λB=>Zsv hg hk hB hw hx hy hp hq u hb t hr hw2 λs' D1 i h1 h2=>⟨J9,h s' D1 i h1 h2 _⟩
end Go.DL
namespace Go.DL
open Go Go.Proofs
variable {kp:Option (List Nat)}{L:Loc}{H:Env}{s:St}{w:World}{os:List DOp}{ds:List D}{B:List (Nat × Rd)}{dst:Option Nat}{tmps:Array Value}{g:G}{Φ:Res->St->Prop}{Z:Nat->Nat}{xs:List Opd}{side:Prop}{row:Nat->List D}
def Zkn(n t:Nat):UInt8:=UInt8.ofNat (t*2 ^ (7-n % 8))
def Zqi(b:List UInt8)(n t:Nat):List UInt8:=b.set (I b-1) (b.getD (I b-1) dE |||Zkn n t)
def ZiH(b:List UInt8)(n:Nat):List UInt8:=if n % 8=0 then b++[0] else b
def Zfx(v:Nat):Nat->List UInt8->Nat->List UInt8
 |0,b,_=>b
 |k+1,b,n=>Zfx v k (Zqi (ZiH b n) n (v / 2 ^ k % 2)) (n+1)
def Zy2(v b n):Zfx v 0 b n=b:=rfl
def Zy1(v k b n):Zfx v (k+1) b n=Zfx v k (Zqi (ZiH b n) n (v / 2 ^ k % 2)) (n+1):=rfl
def BOk(b:List UInt8)(n:Nat):Prop:=I b=(n+7) / 8
def Zt7{b n}(h:BOk b n):(ZiH b n).length=n / 8+1:=by
 unfold BOk at h;unfold ZiH;split;rw[ZIc,List.length_singleton];omega;omega
def ZAL{b n t}(h:BOk b n):BOk (Zqi (ZiH b n) n t) (n+1):=by
 have:=Zt7 h;unfold BOk Zqi;rw[List.length_set];omega
def Znv{v}:∀{k b n},BOk b n->BOk (Zfx v k b n) (n+k)
 |0,_,_,h=>h
 |k+1,b,n,h=>by have:=Znv (v:=v) (k:=k) (ZAL (t:=v / 2 ^ k % 2) h);rw[Nat.add_assoc,Nat.add_comm 1 k]at this;exact this
def BOk.bytes{b n}(h:BOk b n)(l:List UInt8):BOk (b++l) (n+8*I l):=by
 unfold BOk at *;rw[ZIc,h];omega
def leS(v:Nat):Nat->List UInt8
 |0=>[]
 |k+1=>UInt8.ofNat v::leS (v / 256) k
def Wb(S:St)(z:Nat)(ob:Option Nat)(b:List UInt8)(n:Nat)(rest:List D):Prop:=∃bD,S z=sO (.cells (bD::.i n::rest))/\Buf S 1 (b.map u8C) bD ob/\ob≠sO z
def WbF(z:Nat)(S:St)(ob:Option Nat)(S':St)(ob':Option Nat):Prop:=∀y o,S y=sO o->y≠z->ob≠sO y->S' y=sO o/\ob'≠sO y
def WbF.trans{z S S1 S2 ob i t}(h:WbF z S ob S1 i)(h2:WbF z S1 i S2 t):WbF z S ob S2 t:=λy o hy u hn=>by
 obtain⟨h3,h4⟩:=h y o hy u hn;exact h2 y o h3 u h4
def WbF.refl{z S ob}:WbF z S ob S ob:=λ_ _ t _ i=>⟨t,i⟩
def Zh1.wb{z S S' ob i}(h:Zh1 S S' ob i):WbF z S ob S' i:=λy o u _ t=>h y o u t
def WbF.upd{z S S' ob i o}(h:WbF z S ob S' i):WbF z S ob (S'.upd z o) i:=λy o hy t u=>by
 rw[ZH8 _ _ t];exact h y o hy t u
def WbP(S:St)(z:Nat)(ob:Option Nat)(b:List UInt8)(n:Nat)(rest:List D)(r:Res)(S':St):Prop:=r=.ret (.tup [])/\∃ob',Wb S' z ob' b n rest/\WbF z S ob S' ob'
def ZeT{l:List UInt8}:∀r∈l.map u8C,I r=1:=λr i=>by
 obtain⟨x,_,rfl⟩:=List.mem_map.1 i;rfl
def Buf.upd{s sz rows d ob z o}(h:Buf s sz rows d ob)(i:ob≠sO z):Buf (s.upd z o) sz rows d ob:=by
 cases h with
 |nil h=>exact .nil h
 |obj x cap X h hX hc=>exact .obj x cap X (by rw[ZH8 _ _ λe=>i (by rw[e])];exact h) hX hc
def Buf.cell{s sz rows d ob}(h:Buf s sz rows d ob):Qp d=true:=by cases h<;>rfl
def Zdn(l:List UInt8):(ZIf (I l)).map (λi=>u8C (l.getD i dE))=l.map u8C:=by
 apply List.ext_getElem?;intro i;simp only[List.getElem?_map,List.getElem?_range,ZIg];by_cases h:i<I l;simp[h];simp[h]
def ZeU(l:List UInt8):(l.map u8C).flatten=l.map λc=>D.int .u8 c.toNat:=by
 induction l with
 |nil=>rfl
 |cons a r ih=>rw[ZIj,List.flatten_cons,ih];rfl
def ZBd{b:List UInt8}{X q}(h:q<I b):((b.map u8C).flatten++X)[q*1]?=sO (.int .u8 (b.getD q dE).toNat):=by
 rw[ZeU,Nat.mul_one,ZIB (by rw[ZIo];exact h),List.getElem?_map];simp[ZIg,h]
def Zzy{b:List UInt8}{X q}(y:UInt8)(h:q<I b):((b.map u8C).flatten++X).take q++[.int .u8 y.toNat]++((b.map u8C).flatten++X).drop (q+1)=((b.set q y).map u8C).flatten++X:=by
 rw[ZeU,ZeU];rw[List.take_append_of_le_length (by rw[ZIo];omega),<-List.map_take,List.drop_append_of_le_length (by rw[ZIo];omega),<-List.map_drop,<-ZIv]
 congr 1
 rw[List.set_eq_take_append_cons_drop,if_pos h];simp
def ZDR(x y:UInt8):Qh .or .u8 (x.toNat:Int) (y.toNat:Int)=((x |||y).toNat:Int):=by
 have hx:=x.toNat_lt;have hy:=y.toNat_lt;unfold Qh;simp only;have i:(BitVec.ofInt 8 (x.toNat:Int)).toNat=x.toNat:=by rw[BitVec.toNat_ofInt];omega
 have t:(BitVec.ofInt 8 (y.toNat:Int)).toNat=y.toNat:=by rw[BitVec.toNat_ofInt];omega
 show IntKind.u8.wrap ((BitVec.ofInt 8 (x.toNat:Int) |||BitVec.ofInt 8 (y.toNat:Int)).toNat:Int)=_;rw[BitVec.toNat_or,i,t,UInt8.toNat_or];have h:=Nat.or_lt_two_pow (n:=8) hx hy;have u:IntKind.u8.wrap ((x.toNat |||y.toNat:Nat):Int)=((x.toNat |||y.toNat:Nat):Int) % 256:=rfl;rw[u];omega
def ZzK{n:Nat}(h:n<4611686018427387904):Qh .and .i64 (n:Int) 1=((n % 2:Nat):Int):=by
 unfold Qh;simp only;have i:(BitVec.ofInt 64 (n:Int)).toNat=n:=by rw[BitVec.toNat_ofInt];omega
 show IntKind.i64.wrap ((BitVec.ofInt 64 (n:Int) &&& BitVec.ofInt 64 1).toNat:Int)=_;rw[BitVec.toNat_and,i,show(BitVec.ofInt 64 1).toNat=1 from rfl,Nat.and_one_is_mod];have t:∀m:Nat,m<2->IntKind.i64.wrap (m:Int)=(m:Int):=λm hm=>by rcases(by omega:m=0\/m=1) with rfl|rfl<;>rfl
 exact t _ (Nat.mod_lt _ (by decide))
def Zv9{v:Nat}(hv:v<4611686018427387904)(j:Nat):QI .i64 (v:Int) (j:Int)=((v / 2 ^ j:Nat):Int):=by
 unfold QI;rw[Int.toNat_natCast,Int.fdiv_eq_ediv_of_nonneg _ (by exact_mod_cast Nat.zero_le _)];have i:((v:Int) / 2 ^ (Nat.min j 64))=((v / 2 ^ (Nat.min j 64):Nat):Int):=by push_cast;rfl
 rw[show Nat.min j IntKind.i64.bits=Nat.min j 64 from rfl,i];by_cases h:j<=64;rw[show Nat.min j 64=j from Nat.min_eq_left h];rw[show Nat.min j 64=64 from Nat.min_eq_right ω,Nat.div_eq_of_lt ω,Nat.div_eq_of_lt];have:(2:Nat) ^ 64<=2 ^ j:=Nat.pow_le_pow_right (by decide) ω;omega
def ZAM{n t}(ht:t<2):(Zkn n t).toNat=t*2 ^ (7-n % 8):=by
 unfold Zkn;rw[UInt8.toNat_ofNat'];have i:∀k:Nat,k<=7->2 ^ k<=128:=λk u=>Nat.pow_le_pow_right (n:=2) (by decide) u;have:=i (7-n % 8) ω;rcases(by omega:t=0\/t=1) with rfl|rfl<;>omega
def ZCo{n t:Nat}(u:t<2):Zah .u8 (t:Int) (7-((n:Int) % 8))=((Zkn n t).toNat:Int):=by
 rw[ZAM u];unfold Zah;have i:(7-((n:Int) % 8)).toNat=7-n % 8:=ω;rw[i,show Nat.min (7-n % 8) IntKind.u8.bits=7-n % 8 from Nat.min_eq_left (by show _<=8;omega)]
 push_cast
 rfl
def ZBa{L s}(l):qv L s .lenL [.d (Zo l)]=sO (True,.d (.i (I l))):=rfl
def Kv{S z ob b n rest}(l:List UInt8)(hb:Wb S z ob b n rest)(hn:(n:Int)+8*(I b+I l)<=100000000000):Za ZH1 112 [.ptr z 0,Zo l] S (WbP S z ob (b++l) (n+8*I l) rest):=by
 obtain⟨bD,hz,hB,t⟩:=hb;refine Zb (cR 112 f112) λF hF=>?_;refine rx @hz ?_;refine Zld rfl rfl (hB) (by exact ZeT) rfl rfl φ φ (.elems rfl) (by rw[ZIo];omega) (by rw[ZIo];unfold big;omega) (by exact Zdn l) (by exact ZeT) λs1 D1 ac u i=>?_;have ab:=(i z _ hz t).1;refine gQ @ab ?_;refine⟨u.cell,?_⟩;refine xA (nd2 @ZH5 (nd2 @ZBa @ZIk)) ?_;exact hF.fin (.tup []) _ rfl trivial (ZH3 _) ZH2 ⟨rfl,ac,⟨D1,by rw[ZH5];rfl,by rw[List.map_append];exact u.upd (i z _ hz t).2,(i z _ hz t).2⟩,i.wb.upd⟩
def Zi4{S z ob b n rest}(v k:Nat)(hv:v<4611686018427387904)(hk:k<=1000)(hb:Wb S z ob b n rest)(hbo:BOk b n)(hn:n<=100000000000):Za ZH1 111 [.ptr z 0,.i v,.i k] S (WbP S z ob (Zfx v k b n) (n+k) rest):=by
 refine Zb (cR 111 f111) λF hF=>?_;refine Zd (fr (k) (λi Q=>∀b1 n1 t S1,Wb S1 z t b1 n1 rest->WbF z S ob S1 t->BOk b1 n1->n1=n+i->Zfx v (k-i) b1 n1=Zfx v k b n->i<=k->Q [(0,.d (.ptr z 0)),(1,.d (.i v)),(2,.d (.i ((k-i:Nat):Int)))] [] S1) (λn ah=>?_) λbg=>?_)
 .intro i hn2 b1 n1 t S1 am ak u a5 hp hi;have au:=am;obtain⟨bD,ad,ae,ab⟩:=au;refine rg ?_;refine cd (λhd=>?_) (λhd=>?_)
  .simp only[decide_eq_true_eq]at hd;have ag:=Zt7 u;refine xA @ad ?_;rw[Int.tmod_eq_emod_of_nonneg (show 0<=(n1:Int) by omega)];refine aa ?_;refine jU [0] (λQ=>∀ap S2,Wb S2 z ap (ZiH b1 n1) n1 rest->WbF z S ob S2 ap->Q F [(0,.d (.ptr z 0)),(1,.d (.i v)),(2,.d (.i ((k-i:Nat):Int)))] [] S2) ?_ λj1=>?_
   .intro ap S2 bc a0;obtain⟨bD2,ao,ax,ai⟩:=bc;obtain⟨j,hj⟩:∃j,k-i=j+1:=⟨k-i-1,ω⟩;rw[hj,Zy1]at hp;rw[hj,show((j+1:Nat):Int)=(j:Int)+1 by omega];generalize ZiH b1 n1=b2 at *;cases ax with
    |nil h0 =>have:=congrArg List.length h0;rw[ZIo,ag]at this;simp at this
    |obj x cap X hx hX hc =>
     have al:(b2.map u8C).length=n1 / 8+1:=by rw[ZIo,ag]
     generalize aj:(b2.map u8C).flatten++X=cs at hx;rw[al]at ao;have hqb:n1 / 8<=100000000000:=ω;generalize hqe:n1 / 8=q at *;have a7:((q+1:Nat):Int)-1=(q:Int):=ω;have a4:((j:Int)+1)-1=(j:Int):=ω;have aq:q<I b2:=ω;have az:cs[q*1]?=sO (.int .u8 (b2.getD q dE).toNat):=by rw[<-aj];exact ZBd aq
     have a9:v / 2 ^ j % 2<2:=Nat.mod_lt _ (by decide);have bb:v / 2 ^ j<4611686018427387904:=Nat.lt_of_le_of_lt (Nat.div_le_self _ _) hv;have a8:QI .i64 (v:Int) (j:Int)=((v / 2 ^ j:Nat):Int):=Zv9 hv j;have be:IntKind.u8.wrap ((v / 2 ^ j % 2:Nat):Int)=((v / 2 ^ j % 2:Nat):Int):=by rcases(by omega:v / 2 ^ j % 2=0\/v / 2 ^ j % 2=1) with h|h<;>rw[h]<;>rfl
     have ba:(n1:Int).tmod 8=(n1:Int) % 8:=Int.tmod_eq_emod_of_nonneg ω;refine rh ?_;refine YM ?_;simp(maxSteps:=1000000) only[Eqs,reduceCtorEq,ZH9,reduceIte,ZH6,ZIa,ZH7,ao,hx,a7,a4,az,a8,ZzK bb,be,ba,ZCo a9,ZDR];have hpc:=(Zkn n1 (v / 2 ^ j % 2)).toNat_lt;have hcl:q*1+1<=I cs:=by rw[<-aj,ZIc,ZeU,ZIo];omega
     generalize v / 2 ^ j=vj at *;refine aa ?_;rw[Nat.mul_one];have ar:=Zzy (X:=X) (b2.getD q dE |||Zkn n1 (vj % 2)) aq;rw[aj]at ar;rw[ar];have av:x≠z:=λe=>ai (by rw[e]);have a6:Zqi b2 n1 (vj % 2)=b2.set q (b2.getD q dE |||Zkn n1 (vj % 2)):=by unfold Zqi;rw[ag,Nat.add_sub_cancel]
     rw[a6]at hp;refine rh ?_;refine Zp ?_;simp only[Eqs,reduceCtorEq,ZH9,reduceIte,ZH6,ZIa,ZH7,ZH8 _ _ av.symm,ao];refine aa ?_;refine gA ?_;rw[show(j:Int)+1-1=((k-(i+1):Nat):Int) by omega];have ac:∀y,((b2.set q y).map u8C).length=q+1:=λy=>by rw[ZIo,List.length_set,ag]
     have ay:∀o y,Buf ((S2.upd x (.cells (((b2.set q y).map u8C).flatten++X))).upd z o) 1 ((b2.set q y).map u8C) (.msl x 0 (q+1) cap 1) (sO x):=λo y=>by have:=Buf.obj (S:=(S2.upd x (.cells (((b2.set q y).map u8C).flatten++X))).upd z o) (sz:=1) (rows:=(b2.set q y).map u8C) x cap X (by rw[ZH8 _ _ av,ZH5]) (by rw[hX,al,ac]) (by rw[ac,<-al];exact hc);rw[ac]at this;exact this
     have a3:∀o,WbF z S2 (sO x) (S2.upd x o) (sO x):=λo y o' hy _ hn=>⟨by rw[ZH8 _ _ λe=>hn (by rw[e])];exact hy,hn⟩;refine Ze ?_;exact ah ((k)-(i+1)) ω (i+1) rfl (b2.set q (b2.getD q dE |||Zkn n1 (vj % 2))) (n1+1) (sO x) _ ⟨_,ZH5 _ _ _,ay _ _,ai⟩ ((a0.trans (a3 _)).upd) (by unfold BOk;rw[List.length_set];omega) ω (by rw[show k-(i+1)=j by omega];exact hp) ω
   refine cd (λh8=>?_) (λh8=>?_);refine rx @ad ?_;refine Zld rfl rfl (ae) (by exact ZeT) rfl rfl φ φ (.elems rfl) (by rw[ZIo];simp only[BOk]at u;omega) (by rw[ZIo];simp only[BOk]at u;unfold big;omega) (by exact Zdn [0]) (by exact ZeT) λs1 D1 t ae af=>?_;have bf:=(af z _ ad ab).1;refine gQ @bf ?_;refine⟨ae.cell,?_⟩;have aw:n1 % 8=0:=by simp only[decide_eq_true_eq]at h8;omega
   exact j1 t _ ⟨D1,ZH5 _ _ _,by unfold ZiH;rw[if_pos aw,List.map_append];exact ae.upd (af z _ ad ab).2,(af z _ ad ab).2⟩ (ak.trans af.wb.upd);refine ZE ?_;refine kE [0,1,2] ?_;exact j1 t S1 (by unfold ZiH;rw[if_neg (by simp only[decide_eq_false_iff_not]at h8;omega)];exact am) ak
  simp only[decide_eq_false_iff_not]at hd;obtain rfl:i=k:=ω;refine ZO rfl ?_;rw[Nat.sub_self,Zy2]at hp;exact hF.fin (.tup []) _ rfl trivial (ZH3 _) ZH2 ⟨rfl,t,by rw[<-hp,<-a5];exact am,ak⟩
 exact bg _ 0 rfl b n ob S hb .refl hbo rfl rfl ω
def Zsp(c:UInt8):Bool:=dC ((32:Int)<c.toNat)&&dC ((c.toNat:Int)<127)
def ZeS(c:UInt8):Bool:=((dC ((65:Int)<=c.toNat)&&dC ((c.toNat:Int)<=90)) ||(dC ((97:Int)<=c.toNat)&&dC ((c.toNat:Int)<=122)) ||(dC ((48:Int)<=c.toNat)&&dC ((c.toNat:Int)<=57))) ||decide ((c.toNat:Int)=45)
def ZhB(s:Str):Bool:=s.all ZeS&&(dC (1<=(I s:Int))&&dC ((I s:Int)<=32))
def Zpu(c:UInt8):Bool:=dC ((c.toNat:Int)=32) ||Zsp c
def ZjM(t:Str):Bool:=dC (t=[]) ||(!dC (((t.getD 0 0).toNat:Int)=32)&&!dC (((t.getD (I t-1) 0).toNat:Int)=32))
def ZeB(h:Hdr):Bool:=h.text.all Zpu&&(ZhB h.name&&ZjM h.text)
def KJ(l:List Hdr):Bool:=l.all ZeB&&dC ((I l:Int)<=100)
def Ziv(h:Hdr):Str:=h.name++[58,32]++h.text++[13,10]
def Qt(l:List Hdr):Str:=l.flatMap Ziv++[13,10]
def ZAZ(c):Zsp c=(dC ((33:Int)<=c.toNat)&&dC ((c.toNat:Int)<=126)):=by
 unfold Zsp;rw[show dC ((33:Int)<=c.toNat)=dC ((32:Int)<c.toNat) from decide_eq_decide.2 ω,show dC ((c.toNat:Int)<=126)=dC ((c.toNat:Int)<127) from decide_eq_decide.2 ω]
def Zey{a b c}:Zf ZH1 219 [.int .u8 a,.int .u8 b,.int .u8 c] (.bool (dC (b<=a)&&dC (a<=c))):=by
 refine Zh (cR 219 f219) λF st i=>?_;refine gG ?_;refine rb i ?_;rfl
def ZrW{c}:Zf ZH1 211 [.int .u8 c.toNat] (.bool (ZeS c)):=by
 refine Zh (cR 211 f211) λF st i=>?_;refine gG ?_;refine cl Zey ?_;refine cG Zey ?_;refine cG Zey ?_;refine rb i ?_;unfold ZeS;rfl
def Zow{c}:Zf ZH1 178 [.int .u8 c.toNat] (.bool (Zsp c)):=by
 refine Zh (cR 178 f178) λF st i=>?_;refine gG ?_;refine cl Zey ?_;refine rb i ?_;rw[ZAZ]
def Zp7{c}:Zf ZH1 210 [.int .u8 c.toNat] (.bool (!ZeS c)):=by
 refine Zh (cR 210 f210) λF st i=>?_;refine gG ?_;refine cl ZrW ?_;refine rb i ?_;rfl
def Zot(s):Zf ZH1 102 [slD 1 byC s,.fn (.func 210) [] []] (.bool (s.any λc=>!ZeS c)) :=
 λst=>K4 s (λ_=>st) λi _=> Zp7.VT (first:=[]) (caps:=[]) st
def ZpR{α:Type}(p)(l:List α):l.all p=!(l.any λc=>!p c):=by
 induction l with
 |nil=>rfl
 |cons x r ih=>simp only[List.all_cons,List.any_cons,ih];cases p x<;>simp
def Ztx{s}:Zf ZH1 175 [.str s] (.bool (ZhB s)):=by
 refine WK (cR 175 f175) λt F st i=>?_;have u:=(t (.str s) ψ).str_inv;unfold big at u;refine gG ?_;refine cG (Zot s) ?_;refine rb i ?_;unfold ZhB;rw[ZpR];generalize (s.any λc=>!ZeS c)=x;generalize dC (1<=(I s:Int))=y;generalize dC ((I s:Int)<=32)=z;cases x<;>cases y<;>cases z<;>rfl
def Zeq(l f p)(sts:Nat->St)(hf:∀i,i<I l->VT ZH1 f [.agg (l.getD i dE).cells] (sts i) (.bool (p (l.getD i dE))) (sts (i+1))):
  ZL ZH1 174 [slD 2 Hdr.cells l,f] (sts 0) (.i (Zi p l)) (sts (KA p l)):=by
 refine Zz (cR 174 f174) λad F t=>?_;have hw:=(Ww (ad (slD 2 Hdr.cells l) ψ)).1;unfold big at hw;clear ad;refine rx @eQ1 ?_;refine rx @eQ1 ?_;refine Zd (fr (I l) (λi Q=>i<=I l->(∀j,j<i->p (l.getD j dE)=false)->Q [(0,.d (slD 2 Hdr.cells l)),(1,.d f),(7,.d (.i (I l))),(8,.d (.i i))] [] (sts i)) (λn ab=>?_) λae=>?_);intro i hn hi u;refine rx @eQ1 ?_;refine Zc (Zl rfl trivial (λh1=>?_) (λh1=>?_));simp at h1;refine rx @eQ1 ?_;refine xA (nd2 @eQ1 @Hdr.cells.eq_1) ?_;refine cW (hf i h1) ?_;refine cd (λh2=>?_) (λh2=>?_);have e1:=WH h1 h2 u;have e2:=Zaf h1 h2 u;rw[e1,e2]at t;refine rg ?_;exact t rfl φ (ZH3 _) ZH2;refine gA ?_;refine Ze ?_;exact ab ((I l)-(i+1)) ω (i+1) rfl ω (Yc (q:=λj=>p (l.getD j dE)=false) u h2);simp at h1;obtain rfl:i=I l:=ω;have ac:∀x∈l,p x=false:=λx hx=>by obtain⟨j,hj,rfl⟩:=ZIl hx;have:=u j hj;simpa[ZIg,hj]using this
 rw[Y9 ac,QH ac]at t;refine rg ?_;exact t rfl φ (ZH3 _) ZH2;exact ae _ 0 rfl ω (by intro j hj;omega)
def Jz(l){f p}(sts:Nat->St)(hf:∀i,i<I l->VT ZH1 f [.agg (l.getD i dE).cells] (sts i) (.bool (p (l.getD i dE))) (sts (i+1))):
  ZL ZH1 123 [slD 2 Hdr.cells l,f] (sts 0) (.bool (l.any p)) (sts (KA p l)):=by
 refine Zz (cR 123 f123) λu F t=>?_;clear u;refine gG ?_;refine ct (Zeq l f p sts hf) ?_;rw[Jg]at t;exact t rfl φ (ZH3 _) ZH2
def JC(c:UInt8):Bool:=dC ((c.toNat:Int)=32)
def Zc3(s:Str):Str:=s.dropWhile JC
def Zbk(s:Str):Str:=(s.reverse.dropWhile JC).reverse
def Zpv{s}(h:JC (s.getD 0 0)=true)(i:0<I s):Zc3 s=Zc3 (s.drop 1):=by
 cases s with
 |nil=>simp at i
 |cons c r=>simp only[List.getD_cons_zero]at h;simp[Zc3,List.dropWhile_cons,h]
def ZrD{s}(h:(dC (0<(I s:Int))&&JC (s.getD 0 0))=false):Zc3 s=s:=by
 cases s with
 |nil=>rfl
 |cons c r =>
  simp only[List.getD_cons_zero,ZIi]at h;have t:JC c=false:=by have i:dC (0<((I r+1:Nat):Int))=true:=decide_eq_true ω;rw[i,ZIt]at h;exact h
  simp[Zc3,List.dropWhile_cons,t]
def Zrk(l)(a:UInt8):(l++[a]).getD ((l++[a]).length-1) 0=a:=by simp[ZIg]
def Zpw{s}(h:JC (s.getD (I s-1) 0)=true)(i:0<I s):Zbk s=Zbk (s.take (I s-1)):=by
 rcases List.eq_nil_or_concat s with rfl|⟨l,a,rfl⟩;simp at i;rw[List.concat_eq_append]at h⊢;rw[Zrk]at h;simp[Zbk,List.dropWhile_cons,h]
def ZrE{s}(h:(dC (0<(I s:Int))&&JC (s.getD (I s-1) 0))=false):Zbk s=s:=by
 rcases List.eq_nil_or_concat s with rfl|⟨l,a,rfl⟩;rfl;rw[List.concat_eq_append]at h⊢;rw[Zrk]at h;have t:JC a=false:=by have i:dC (0<((l++[a]).length:Int))=true:=decide_eq_true (by rw[ZIc,List.length_singleton];omega);rw[i,ZIt]at h;exact h
 simp[Zbk,List.dropWhile_cons,t]
def Zzu(s):(Zbk s).length<=I s:=by
 unfold Zbk;rw[List.length_reverse];exact Nat.le_trans (List.dropWhile_sublist _).length_le ψ
def Zzv(t):dC (Zc3 (Zbk t)=t)=ZjM t:=by
 have i:∀s:Str,(Zc3 s).length<=I s:=λs=>(List.dropWhile_sublist _).length_le;by_cases ht:t=[];subst ht;rfl;have hp:=List.length_pos_iff.2 ht;have h0:ZjM t=(!JC (t.getD 0 0)&&!JC (t.getD (I t-1) 0)):=by unfold ZjM;rw[decide_eq_false ht,Bool.false_or];rfl
 rw[h0];cases hr:JC (t.getD (I t-1) 0) with
 |true =>rw[Bool.not_true,Bool.and_false,decide_eq_false];intro h;have u:=congrArg List.length h;rw[Zpw hr hp]at u;have h2:=i (Zbk (t.take (I t-1)));have h3:=Zzu (t.take (I t-1));rw[ZIm]at h3;omega
 |false =>
  rw[ZrE (by rw[hr,Bool.and_false]),Bool.not_false,Bool.and_true];cases hl:JC (t.getD 0 0) with
  |true =>rw[Bool.not_true,decide_eq_false];intro h;have u:=congrArg List.length h;rw[Zpv hl hp]at u;have h2:=i (t.drop 1);rw[ZIG]at h2;omega
  |false=>rw[ZrD (by rw[hl,Bool.and_false])];simp
def Zf1{s}:Zf ZH1 212 [.str s,.int .u8 32] (.str (Zc3 s)):=by
 refine WK (cR 212 f212) λu F st i=>?_;have hs:=(u (.str s) ψ).str_inv;unfold big at hs;clear u;refine rg ?_;refine Zc (Zd ?_);refine lpU (λQ=>∀n (t:Str),I t<=n->I t<=9223372036854775807->Zc3 t=Zc3 s->Q F [(0,.d (.str t)),(1,.d (.int .u8 32))] [] st) ?_ λab=>?_
 .intro n;induction n with
  |zero =>intro t hn hb ht;obtain rfl:t=[]:=List.length_eq_zero_iff.1 ω;refine gA ?_;refine iG ?_;refine rs i ?_;rw[<-ht];rfl
  |succ n ih =>intro t hn hb ht;refine gA ?_;refine cd (λh1=>?_) (λh1=>?_);simp only[ZIb,decide_eq_true_eq]at h1;refine gA ?_;refine Zk (Ze ?_);rw[show List.take (I t-1) (t.drop 1)=t.drop 1 from List.take_of_length_le ψ];exact ih _ (by rw[ZIG];omega) (by rw[ZIG];omega) (by rw[<-ht];exact(Zpv (decide_eq_true h1.2) ω).symm);refine rg ?_;refine rs i ?_;rw[<-ht];exact(ZrD h1).symm
 exact ab (I s) s (ZIh _) hs rfl
def ZfP(s):Zf ZH1 213 [.str s,.int .u8 32] (.str (Zbk s)):=by
 refine WK (cR 213 f213) λu F st i=>?_;have hs:=(u (.str s) ψ).str_inv;unfold big at hs;clear u;refine rg ?_;refine Zc (Zd ?_);refine lpU (λQ=>∀n (t:Str),I t<=n->I t<=9223372036854775807->Zbk t=Zbk s->Q F [(0,.d (.str t)),(1,.d (.int .u8 32))] [] st) ?_ λab=>?_
 .intro n;induction n with
  |zero =>intro t hn hb ht;obtain rfl:t=[]:=List.length_eq_zero_iff.1 ω;refine gA ?_;refine iG ?_;refine rs i ?_;rw[<-ht];rfl
  |succ n ih =>
   intro t hn hb ht;refine gA ?_;refine cd (λh1=>?_) (λh1=>?_);simp only[ZIb,decide_eq_true_eq]at h1;rw[show((I t:Int)-1).toNat=I t-1 by omega]at h1;refine gA ?_;refine Zk (Ze ?_);rw[show((I t:Int)-1).toNat=I t-1 by omega];exact ih _ (by rw[ZIm];omega) (by rw[ZIm];omega) (by rw[<-ht];exact(Zpw (decide_eq_true h1.2) ω).symm);have h2:(dC (0<(I t:Int))&&JC (t.getD (I t-1) 0))=false:=by rw[show((I t:Int)-1).toNat=I t-1 by omega]at h1;exact h1
   refine rg ?_;refine rs i ?_;rw[<-ht];exact(ZrE h2).symm
 exact ab (I s) s (ZIh _) hs rfl
def Zpr{s}:Zf ZH1 176 [.str s,.str [32]] (.str (Zc3 (Zbk s))):=by
 refine Zh (cR 176 f176) λF st i=>?_;refine gG ?_;refine cd (λu=>?_) (λu=>?_);refine rg ?_;have t:s=[]:=by simpa using u
 subst t;refine rs i ?_;rfl;refine gA ?_;refine i1 ?_;refine gA ?_;refine cl0 (ZfP s) ?_;refine cl0 Zf1 ?_;refine rs i ?_;rfl
def Zov{c}:Zf ZH1 177 [.int .u8 c.toNat] (.bool (!Zpu c)):=by
 refine Zh (cR 177 f177) λF st i=>?_;refine gG ?_;refine cG Zow ?_;refine rb i ?_;unfold Zpu;rw[Bool.not_or]
def Znh{s}:Zf ZH1 102 [slD 1 byC s,.fn (.func 177) [] []] (.bool (s.any λc=>!Zpu c)) :=
 λst=>K4 s (λ_=>st) λi _=> Zov.VT (first:=[]) (caps:=[]) st
def ZrX(h:Hdr):Zf ZH1 125 [.agg h.cells] (.bool (ZeB h)):=by
 refine Zh (cR 125 f125) λF st i=>?_;refine rx @Hdr.cells.eq_1 ?_;refine rg ?_;refine clD Ztx ?_;refine cGD Zpr ?_;refine cGD Znh ?_;refine rb i ?_;rw[Zzv];unfold ZeB;rw[ZpR];generalize (h.text.any λc=>!Zpu c)=x;generalize ZhB h.name=y;generalize ZjM h.text=z;cases x<;>cases y<;>cases z<;>rfl
def Zou{h:Hdr}:Zf ZH1 124 [.agg h.cells] (.bool (!ZeB h)):=by
 refine Zh (cR 124 f124) λF st i=>?_;refine rx @Hdr.cells.eq_1 ?_;refine rg ?_;rw[show D.agg [.str h.name,.str h.text]=.agg h.cells from rfl];refine cl (ZrX h) ?_;refine rb i ?_;rfl
def Zng(l):Zf ZH1 123 [slD 2 Hdr.cells l,.fn (.func 124) [] []] (.bool (l.any λc=>!ZeB c)) :=
 λst=>Jz l (λ_=>st) λi _=> Zou.VT (first:=[]) (caps:=[]) st
def Zj5{L s}(l):qv L s .lenL [.d (Ym l)]=sO (True,.d (.i (I l))):=rfl
def atH{L s}(l i):qv L s (.iaddr 2) [.d (Ym l),.d (.i i)]=sO (0<=i/\i<I l,.d (.ep (l.getD i.toNat dE).cells 0)):=rfl
def ZrV(l):Zf ZH1 79 [Ym l] (.bool (KJ l)):=by
 refine Zh (cR 79 f79) λF st i=>?_;refine rg ?_;refine rx @Zj5 ?_;refine cG (Zng l) ?_;refine rb i ?_;unfold KJ;rw[ZpR];rw[Bool.and_comm]
def Zc4(l:List Hdr):Prop:=∀h∈l,I h.text<=1048576
def ZAk{h:Hdr}(i:ZeB h=true)(ht:I h.text<=1048576):(Ziv h).length<=1048620:=by
 unfold ZeB ZhB at i;simp only[ZIb,decide_eq_true_eq]at i;unfold Ziv;simp only[ZIc,ZIi,List.length_nil];omega
def Zgb(l:List Hdr):Str:=l.flatMap Ziv
def ZyD{l}(t:∀h∈l,ZeB h=true)(u:Zc4 l):(Zgb l).length<=I l*1048620:=by
 induction l with
 |nil=>simp[Zgb]
 |cons a r ih =>have h1:=ZAk (t a ψ) (u a ψ);have h2:=ih (λh i=>t h (by simp[i])) (λh i=>u h (by simp[i]));unfold Zgb at h2⊢;rw[List.flatMap_cons,ZIc,ZIi,ZIs];omega
def ZwS{l:List Hdr}{i}(h:i<I l):Zgb (l.take (i+1))=Zgb (l.take i)++Ziv (l.getD i dE):=by
 rw[Yo h];simp[Zgb]
def ZAm{l}(u:KJ l=true)(ht:Zc4 l)(i):(Zgb (l.take i)).length<=104862000/\I l<=100:=by
 unfold KJ at u;rw[ZIb,List.all_eq_true,decide_eq_true_eq]at u;have h1:=ZyD (l:=l.take i) (λh t=>u.1 h (List.mem_of_mem_take t)) (λh t=>ht h (List.mem_of_mem_take t));rw[ZIm]at h1;have h2:min i (I l)<=100:=ω;have h3:=ZIn 1048620 h2;omega
def ZBS{l}(t:KJ l=true)(ht:Zc4 l){i}(u:i<I l):(l.getD i dE).name.length<=32/\(l.getD i dE).text.length<=1048576:=by
 refine⟨?_,ht _ (Zu u)⟩;unfold KJ at t;rw[ZIb,List.all_eq_true]at t;have:=t.1 _ (Zu u);unfold ZeB ZhB at this;simp only[ZIb,decide_eq_true_eq]at this;omega
def ZhZ(l:List Hdr):D:=if KJ l then .tup [Zo (Qt l),.i 0] else .tup [.nilsl,.i 2]
def Zei{l}(ht:Zc4 l):Zf ZH1 38 [Ym l] (ZhZ l):=by
 refine Zh (cR 38 f38) λF st t=>?_;have hW:=ZhZ.eq_1 l;refine gG ?_;refine cl (ZrV l) ?_;cases hk:KJ l with
 |false =>rw[hk,if_neg ψ]at hW;rw[hW]at t;refine i1 ?_;refine rg ?_;exact t rfl ψ (ZH3 _) ZH2
 |true =>
  rw[hk,if_pos rfl]at hW;rw[hW]at t;have hl:=ZAm hk ht;refine iG ?_;refine rx @Zj5 ?_;refine kl (st) [(4,.d (.sl .full 0 1 λ_=>[])),(10,.d (Ym l)),(11,.d (.i (I l))),(12,.d (.i (0:Nat)))] [] (.cons (.d (YV λb h=>by cases h)) Js) ZbM ?_;refine Zd (fr (I l) (λi Q=>∀tk row o,tk.okIn st->ZY byC row o->o=Zgb (l.take i)->i<=I l->Q [(4,.d (.sl tk (I o) 1 row)),(10,.d (Ym l)),(11,.d (.i (I l))),(12,.d (.i i))] [] (st.own tk (I o*1))) (λn ac=>?_) λag=>?_);intro i hn tk row o htk ad ho hi;have h1:=hl i;rw[<-ho]at h1;refine rg ?_;refine Zc (Zl rfl trivial (λh2=>?_) (λh2=>?_));simp at h2;have h3:=ZwS h2;have h4:=hl (i+1);have h5:=ZBS hk ht h2;rw[h3,<-ho]at h4;rw[<-ho]at h3;rw[ZIc]at h4;generalize hg:l.getD i dE=g at *;refine xA (nd2 @atH (nd2 @hg @Hdr.cells.eq_1)) ?_;refine rg ?_;repeat(refine ZH4 (by first|omega|trivial|(intro h0;simp at h0;omega)|(((try simp only[ZIc,ZIi,List.length_nil]);unfold big;omega))) ?_)
  have hB:g.name++[58,32]++g.text++[13,10]=Ziv g:=rfl;rw[hB];generalize Ziv g=b at *;refine ZaJ (st) (tk) rfl rfl rfl rfl rfl rfl φ φ rfl (by first|trivial|assumption) ω (by (unfold big;omega)) λt1 ae=>Zp ?_;simp only[Eqs,reduceCtorEq,ZH9,reduceIte,ZH6,ZIa,ZH7];refine gA ?_;have u:ZY byC (YW (I o) row λi=>[.int .u8 ((b.getD i 0).toNat:Int)]) (o++b):=ad.app ZY.self rfl;have ab:=ac (I l-(i+1)) ω (i+1) rfl t1 _ _ ae u h3.symm ω;rw[ZIc]at ab;refine Ze ?_;exact ab;simp at h2;obtain rfl:i=I l:=ω;rw[ZIC]at ho;refine rg ?_;refine ZaJ (st) (tk) rfl rfl rfl rfl rfl rfl φ φ rfl (by first|trivial|assumption) (by (simp;omega)) (by (simp;unfold big;omega)) λt1 ae=>Zp ?_;simp only[Eqs,reduceCtorEq,ZH9,reduceIte,ZH6,ZIa,ZH7];have u:ZY byC (YW (I o) row λi=>[.int .u8 ((([13,10]:Str).getD i 0).toNat:Int)]) (o++[13,10]):=ad.app ZY.self rfl;have af:Qt l=o++[13,10]:=by rw[ho];rfl
  rw[af]at t;exact t rfl ψ (ZpM rfl (.cons (u.le ψ) (LeC.refl _))) (Y2 ae);exact ag _ 0 rfl .full _ [] trivial ZY.nil rfl ω
def ZAp(f):YE f=(dC (f.kind=1) ||decide (f.kind=2) ||decide (f.kind=3)):=by
 unfold YE;rw[Bool.eq_iff_iff];simp only[ZIb,ZIp,decide_eq_true_eq];omega
def ZbY(f):Zf ZH1 46 [.agg f.cells] (.bool (YE f)):=by
 refine Zh (cR 46 f46) λF st i=>?_;refine rx @eQ0 ?_;refine rx @eQ0 ?_;refine rb i ?_;exact(ZAp f).symm
def Zks(f:Fld):(Int×Int)×Int:=if YE f then (KK f,0) else ((0,0),2)
def Zo8(f):Zf ZH1 317 [.agg f.cells] (.tup [Qq (Zks f).1,.i (Zks f).2]):=by
 refine Zh (cR 317 f317) λF st i=>?_;have t:=Zks.eq_1 f;refine rx @eQ0 ?_;refine rx @eQ0 ?_;refine cl (ZbY f) ?_;refine cd (λu=>?_) (λu=>?_);rw[if_neg (by simpa using u)]at t;refine rg ?_;refine i rfl (by first|trivial|simp) (Qn ?_ rfl) ZH2;rw[t];rfl;rw[if_pos (by simpa using u)]at t;refine rx @eQ0 ?_;refine cd (λh2=>?_) (λh2=>?_);refine rx @eQ0 ?_;refine i rfl (by first|trivial|simp) (Qn ?_ rfl) ZH2;rw[t,KK,if_pos (by simpa using h2)];rfl;refine rx @eQ0 ?_;refine i rfl (by first|trivial|simp) (Qn ?_ rfl) ZH2;rw[t,KK,if_neg (by simpa using h2)];rfl
def JM(fs:List Fld):Nat->ZzG
 |0=>[]
 |i+1=>if YE (fs.getD i dE) then YO (fs.getD i dE).name (KK (fs.getD i dE)) (JM fs i) else JM fs i
def ZfB(fs st):Za ZH1 313 [Zq fs] st λr S=>∃b,st b=nO/\r=.ret (.map b)/\S=st.upd b (.map (Zbz (JM fs (I fs)))):=by
 refine Zan (cR 313 f313) λac F hF=>?_;have hw:=(ZjR (ac (Zq fs) ψ)).1;unfold big at hw;clear ac;refine gG ?_;intro b hb;refine rx (nd2 @Zq.eq_1 @eQ1) ?_;refine Zd (fr (I fs) (λi Q=>i<=I fs->Q [(3,.d (.map b)),(9,.d (Zq fs)),(10,.d (.i (I fs))),(11,.d (.i i))] [] (st.upd b (.map (Zbz (JM fs i))))) (λn t=>?_) λae=>?_)
 .intro i hn hi;refine rg ?_;refine Zc (Zl rfl trivial (λh1=>?_) (λh1=>?_))
  .simp at h1;have ab:JM fs (i+1)=if YE (fs.getD i dE) then YO (fs.getD i dE).name (KK (fs.getD i dE)) (JM fs i) else JM fs i:=rfl
   generalize hf:fs.getD i dE=f at *;have hP:=Zks.eq_1 f;refine xA (nd2 @Zq.eq_1 (nd2 @eQ1 (nd2 @eQ0 @hf))) ?_;refine rx @eQ0 ?_;refine cX @Qq.eq_1 (Zo8 f) ?_;refine rg ?_;refine cd (λh2=>?_) (λh2=>?_)
   .have u:YE f=true:=by
     cases hx:YE f with
     |true=>rfl
     |false=>rw[hP,hx]at h2;simp at h2
    rw[if_pos u]at hP ab;have e2:=J0 (vD:=Qq) ZN f.name (KK f) (JM fs i);have e3:=YH ZN f.name;simp only[show Ks f.name=D.str f.name from rfl,show Qq (KK f)=D.agg [.i (KK f).1,.i (KK f).2] from rfl]at e2 e3;have ad:(Zks f).1=KK f:=by rw[hP]
    refine rx (nd2 @eQ0 (nd2 @ad (nd2 @e2 (nd2 @e3 (nd2 @ZH5 (nd2 @ZIk (nd2 @Yp @Yq))))))) ?_;refine gA ?_;rw[<-ab];refine Ze ?_;exact t ((I fs)-(i+1)) ω (i+1) rfl ω
   have u:YE f=false:=by
    cases hx:YE f with
    |true=>rw[hP,hx]at h2;simp at h2
    |false=>rfl
   rw[if_neg (by rw[u];simp)]at ab;refine gA ?_;rw[<-ab];refine Ze ?_;exact t ((I fs)-(i+1)) ω (i+1) rfl ω
  simp at h1;obtain rfl:i=I fs:=ω;refine rg ?_;exact hF.ret _ _ rfl φ (ZH3 _) ZH2 ⟨b,hb,rfl,rfl⟩
 exact ae _ 0 rfl ω
def ZfX(l f p)(sts:Nat->St)(hf:∀i,i<I l->VT ZH1 f [.agg (l.getD i dE).cells] (sts i) (.bool (p (l.getD i dE))) (sts (i+1))):
  ZL ZH1 63 [slD 2 Msg.cells l,f] (sts 0) (.tup [.i (max (Zi p l) 0),.bool (dC (0<=Zi p l))]) (sts (KA p l)):=by
 refine Zz (cR 63 f63) λu F t=>?_;clear u;refine gG ?_;refine ct (Zeb l f p sts hf) ?_;refine rg ?_;exact t rfl φ (Qn rfl rfl) ZH2
def ZhM(l f p)(sts:Nat->St)(hf:∀i,i<I l->VT ZH1 f [.agg (l.getD i dE).cells] (sts i) (.bool (p (l.getD i dE))) (sts (i+1))):
  ZL ZH1 225 [slD 15 Fld.cells l,f] (sts 0) (.tup [.i (max (Zi p l) 0),.bool (dC (0<=Zi p l))]) (sts (KA p l)):=by
 refine Zz (cR 225 f225) λu F t=>?_;clear u;refine gG ?_;refine ct (QJ l f p sts hf) ?_;refine rg ?_;exact t rfl φ (Qn rfl rfl) ZH2
def ZiN(l f p)(sts:Nat->St)(hf:∀i,i<I l->VT ZH1 f [.agg (l.getD i dE).cells] (sts i) (.bool (p (l.getD i dE))) (sts (i+1))):
  ZL ZH1 94 [slD 3 YB.cells l,f] (sts 0) (.tup [.i (max (Zi p l) 0),.bool (dC (0<=Zi p l))]) (sts (KA p l)):=by
 refine Zz (cR 94 f94) λu F t=>?_;clear u;refine gG ?_;refine ct (Za4 l f p sts hf) ?_;refine rg ?_;exact t rfl φ (Qn rfl rfl) ZH2
def Zny{x:Msg}(s b){st}(u:st b=sO (.cells [.str s])):ZL ZH1 64 [.agg x.cells,.ptr b 0] st (.bool (dC (x.name=s))) st:=by
 refine Zz (cR 64 f64) λt F i=>?_;clear t;refine rx @eQ3 ?_;refine rx @u ?_;exact i rfl φ (ZH3 _) ZH2
def Zl0{x:Fld}(s b){st}(u:st b=sO (.cells [.str s])):ZL ZH1 226 [.agg x.cells,.ptr b 0] st (.bool (dC (x.name=s))) st:=by
 refine Zz (cR 226 f226) λt F i=>?_;clear t;refine rx @eQ0 ?_;refine rx @u ?_;exact i rfl φ (ZH3 _) ZH2
def Zbg(d:Dfn)(s):Zf ZH1 30 [.agg d.cells,.str s] (.tup [.i (max (Zi (λx=>dC (x.name=s)) d.msgs) 0),.bool (dC (0<=Zi (λx=>dC (x.name=s)) d.msgs))]):=by
 refine Zh (cR 30 f30) λF st t=>?_;refine rx @eQ2 ?_;refine Zc ?_;refine xP 3 λb u=>?_;refine rx @eQ2 ?_;refine ct (ZfX d.msgs (.fn (.func 64) [] [.ptr b 0]) (λx=>dC (x.name=s)) (λ_=>st.upd b (.cells [.str s])) (λi hi=>(Zny s b (ZH5 _ _ _)).VT (first:=[]) (args:=[_]) (caps:=[_]))) ?_;exact t rfl φ (Qn rfl rfl) (ZIr _ u)
def ZcS(d:Msg)(s):Zf ZH1 185 [.agg d.cells,.str s] (.tup [.i (max (Zi (λx=>dC (x.name=s)) d.fields) 0),.bool (dC (0<=Zi (λx=>dC (x.name=s)) d.fields))]):=by
 refine Zh (cR 185 f185) λF st t=>?_;refine rx @eQ3 ?_;refine Zc ?_;refine xP 3 λb u=>?_;refine rx @eQ3 ?_;refine ct (ZhM d.fields (.fn (.func 226) [] [.ptr b 0]) (λx=>dC (x.name=s)) (λ_=>st.upd b (.cells [.str s])) (λi hi=>(Zl0 s b (ZH5 _ _ _)).VT (first:=[]) (args:=[_]) (caps:=[_]))) ?_;exact t rfl φ (Qn rfl rfl) (ZIr _ u)
def Znx{c:YB}(tag b){st}(u:st b=sO (.cells [.i tag])):ZL ZH1 95 [.agg c.cells,.ptr b 0] st (.bool (dC (c.low<=tag)&&dC (tag<=c.high))) st:=by
 refine Zz (cR 95 f95) λt F i=>?_;clear t;refine rx @YB.cells.eq_1 ?_;refine rx @u ?_;exact i rfl φ (ZH3 _) ZH2
def ZhK(f tag):Zf ZH1 51 [.agg f.cells,.i tag] (.tup [.i (max (K8 f tag) 0),.bool (dC (0<=K8 f tag))]):=by
 refine Zh (cR 51 f51) λF st t=>?_;refine rx @eQ0 ?_;refine Zc ?_;refine xP 3 λb u=>?_;refine rx @eQ0 ?_;refine ct (ZiN f.cases (.fn (.func 95) [] [.ptr b 0]) (λc=>dC (c.low<=tag)&&dC (tag<=c.high)) (λ_=>st.upd b (.cells [.i tag])) (λi hi=>(Znx tag b (ZH5 _ _ _)).VT (first:=[]) (args:=[_]) (caps:=[_]))) ?_;exact t rfl φ (Qn rfl rfl) (ZIr _ u)
def ZuJ{α:Type}[Inhabited α]{p:α->Bool}{l:List α}{n:Nat}(h:0<=Zi p (l.take n)):Zi p l=Zi p (l.take n):=by
 have t:=QK h;have u:=Wc p (l.take n);rw[ZIm]at u;have h3:=WH (p:=p) (l:=l) (i:=(Zi p (l.take n)).toNat) ω (by rw[<-QZ (n:=n) ω];exact t.1) (λj hj=>by rw[<-QZ (n:=n) ω];exact t.2 j hj);omega
def ZwM{d:Dfn}{s:Str}{n:Nat}(h:0<=Zy d s n):Zy d s (I d.msgs)=Zy d s n/\Zy d s n<n/\Zy d s n<I d.msgs:=by
 unfold Zy at *;have i:=Wc (λm:Msg=>dC (m.name=s)) (d.msgs.take n);rw[ZIm]at i;refine⟨?_,ω,ω⟩;rw[ZIC];exact ZuJ h
def ZpV{d:Dfn}{at_:Nat}{l:List Msg}{deps:List Int}(h:JV d at_ l deps=nO):(∀i,i<I l->W7 d (at_+i) (l.getD i dE)=nO)/\0<=Zy d d.start (I d.msgs):=by
 induction l generalizing at_ deps with
 |nil =>simp only[JV]at h;split at h;simp at h;exact⟨λi t=>by simp at t,ω⟩
 |cons m r ih =>
  simp only[JV]at h;split at h;simp at h;rename_i hm;split at h;simp at h;have u:=ih h;refine⟨λi t=>?_,u.2⟩;cases i with
  |zero=>simpa using hm
  |succ i =>have:=u.1 i (by simpa using t);simpa[Nat.add_assoc,Nat.add_comm 1 i]using this
structure WQ(d:Dfn):Prop where
 many:I d.msgs<=60
 start:0<=Zy d d.start (I d.msgs)
 flaw:∀i,i<I d.msgs->W7 d i (d.msgs.getD i default)=none
def ZrF{d:Dfn}(h:ZfT d=true):WQ d:=by
 unfold ZfT Zs5 at h;split at h;simp at h;split at h;simp at h;rename_i t;simp only[ZIp,decide_eq_true_eq,not_or,Nat.not_lt]at t;simp only[Option.isNone_iff_eq_none]at h;have:=ZpV h;refine⟨ω,this.2,λi u=>by simpa using this.1 i u⟩
def ZoB{s:Str}(h:Y7 s=true):I s<=32:=by
 unfold Y7 at h;split at h;simp;simp only[ZIb,decide_eq_true_eq]at h;exact h.1.1
structure ZdD(d:Dfn)(j:Nat)(m:Msg):Prop where
 name:I m.name<=32
 many:I m.fields<=40
 field:∀i,i<I m.fields->Qo d j m i (m.fields.getD i default)=0
def Znd{d:Dfn}{j:Nat}{m:Msg}{k:Nat}{l:List Fld}(h:YP d j m k l=nO):∀i,i<I l->Qo d j m (k+i) (l.getD i dE)=0:=by
 induction l generalizing k with
 |nil=>intro i t;simp at t
 |cons f r ih =>
  simp only[YP]at h;split at h
  .rename_i u;intro i t;cases i with
   |zero=>simpa using u
   |succ i=>have:=ih h i (by simpa using t);simpa[Nat.add_assoc,Nat.add_comm 1 i]using this
  simp at h
def ZAA{d:Dfn}{j:Nat}{m:Msg}(h:W7 d j m=nO):ZdD d j m:=by
 unfold W7 at h;split at h;· simp at h
 rename_i t;split at h;· simp at h
 split at h;· simp at h
 rename_i u;simp only[ZIp,decide_eq_true_eq,not_or,Nat.not_lt]at u;exact⟨ZoB (by simpa using t),ω,λi hi=>by simpa using Znd h i hi⟩
structure Zwm(d:Dfn)(j:Nat)(f:Fld):Prop where
 name:I f.name<=32
 ref:∀s∈Yv f,0<=Zy d s (I d.msgs)/\Zy d s (I d.msgs)<j
 cases:f.cases≠[]->f.kind=9
def Zvc{f:Fld}(h1:1<=f.kind)(h2:f.kind<=12)(h:ZlQ f=true)(t:f.cases≠[]):f.kind=9:=by
 have hk:f.kind=1\/f.kind=2\/f.kind=3\/f.kind=4\/f.kind=5\/f.kind=6\/f.kind=7\/f.kind=8\/f.kind=9\/f.kind=10\/f.kind=11\/f.kind=12:=ω;simp only[ZlQ,ZIb]at h;have i:=h.2.2;rcases hk with hk|hk|hk|hk|hk|hk|hk|hk|hk|hk|hk|hk<;>rw[hk]at i⊢<;>simp[zrC,Zpx,ZxI,ZcE,t]at i<;>rfl
def ZAc{d:Dfn}{j i:Nat}{m:Msg}{f:Fld}(h:Qo d j m i f=0):Zwm d j f:=by
 have t:=Zq1 h;unfold Qo at h;split at h;· omega
 rename_i u;split at h;· omega
 split at h;· omega
 rename_i hk;split at h;· omega
 rename_i hz;simp only[ZIp,decide_eq_true_eq,not_or,Int.not_lt]at hk;refine⟨ZoB (by simpa using u),λs hs=>?_,λhc=>Zvc ω ω (by simpa using hz) hc⟩;have h3:=t.2 s hs;have h4:=ZwM h3;exact⟨ω,ω⟩
def WQ.msg{d:Dfn}(h:WQ d){j:Nat}(i:j<I d.msgs):ZdD d j (d.msgs.getD j dE):=ZAA (h.flaw j i)
def WQ.fld{d:Dfn}(h:WQ d){j i:Nat}(u:j<I d.msgs)(t:i<(d.msgs.getD j dE).fields.length):Zwm d j ((d.msgs.getD j dE).fields.getD i dE):=ZAc ((h.msg u).field i t)
end Go.DL
namespace Go.DL
open Go
variable {kp:Option (List Nat)}{L:Loc}{H:Env}{s:St}{w:World}{os:List DOp}{ds:List D}{B:List (Nat × Rd)}{dst:Option Nat}{tmps:Array Value}{g:G}{Φ:Res->St->Prop}{Z:Nat->Nat}{xs:List Opd}{side:Prop}{row:Nat->List D}
def ixS(d:Dfn)(s:Str):Nat:=(Zy d s (I d.msgs)).toNat
open Go.Proofs
def upS(v of:Int):Int:=((v+of)-1).tdiv of*of
def ZDA{v of}(hv:-2000<=v/\v<=2000)(ho:1<=of/\of<=1000):(-4000<=((v+of)-1).tdiv of/\((v+of)-1).tdiv of<=4000)/\-5000<=upS v of/\upS v of<=5000:=by
 unfold upS;have i:=Int.mul_tdiv_add_tmod (v+of-1) of;have h2:=Int.tmod_lt_of_pos (v+of-1) (show 0<of by omega);have h3:=Int.lt_tmod_of_pos (v+of-1) (show 0<of by omega);rw[Int.mul_comm]at i;generalize (v+of-1).tmod of=r at *;generalize (v+of-1).tdiv of=q at *;have h4:-4000<=q*of/\q*of<=4000:=ω;refine⟨?_,ω⟩;rcases Int.lt_trichotomy q 0 with hq|hq|hq;have:=Int.mul_le_mul_of_nonneg_left (show(1:Int)<=of by omega) (show 0<=-q by omega);simp only[Int.neg_mul,Int.mul_one]at this;omega;omega;have:=Int.mul_le_mul_of_nonneg_left (show(1:Int)<=of by omega) (show 0<=q by omega);omega
def ZuE{v of}(hv:-2000<=v/\v<=2000)(ho:1<=of/\of<=1000):Zf ZH1 76 [.i v,.i of] (.i (upS v of)):=by
 have hb:=ZDA hv ho;have t:((v+of)-1).tdiv of*of=upS v of:=rfl;refine Zh (cR 76 f76) λF st i=>?_;refine gG ?_;generalize ((v+of)-1).tdiv of=q at *;rw[t];generalize upS v of=u at *;refine aa ?_;refine ri i ?_;rfl
structure Zhh(f:Fld):Prop where
 num:f.kind=1\/f.kind=2->-1000<=f.bits/\f.bits<=1000
 pad:f.kind=10->1<=f.bits/\f.bits<=1000
def ZcL(f:Fld)(o:Int):Int:=if f.kind=1\/f.kind=2 then (o+f.bits).tmod 8 else if f.kind=10 then (upS o f.bits).tmod 8 else 0
def Ky(l:List Fld):Nat->Int
 |0=>0
 |i+1=>ZcL (l.getD i dE) (Ky l i)
def ZAE{f o}:-8<ZcL f o/\ZcL f o<8:=by
 have h:∀x:Int,-8<x.tmod 8/\x.tmod 8<8:=λx=>⟨Int.lt_tmod_of_pos x (by decide),Int.tmod_lt_of_pos x (by decide)⟩;unfold ZcL;split;exact h _;split;exact h _;omega
def ZvR(l i):-8<Ky l i/\Ky l i<8:=by
 cases i with
 |zero=>simp[Ky]
 |succ i=>exact ZAE
def ZmV(f:Fld){o}(ho:-2000<=o/\o<=2000)(hb:-1000<=f.bits/\f.bits<=1000):Zf ZH1 223 [.agg f.cells,.i o] (.i (o+f.bits)):=by
 refine Zh (cR 223 f223) λF st i=>?_;refine rx @eQ0 ?_;refine xA @eQ0 ?_;refine ri i ?_;rfl
def ZmW(f:Fld){o}(u:-2000<=o/\o<=2000)(t:1<=f.bits/\f.bits<=1000):Zf ZH1 224 [.agg f.cells,.i o] (.i (upS o f.bits)):=by
 refine Zh (cR 224 f224) λF st i=>?_;refine rx @eQ0 ?_;refine rx @eQ0 ?_;refine cl (ZuE u t) ?_;refine ri i ?_;rfl
def ZsO:List (D×D):=[(.i 1,.fn (.func 223) [] []),(.i 2,.fn (.func 223) [] []),(.i 10,.fn (.func 224) [] [])]
def Zhm{st}:Za ZH1 181 [] st λr S=>∃b,st b=nO/\r=.ret (.map b)/\S=st.upd b (.map ZsO):=by
 refine Zb (cR 181 f181) λF i=>?_;refine gG ?_;refine rh ?_;refine Zp ?_;simp only[Eqs,reduceCtorEq,ZH9,reduceIte,ZH6,ZIa,ZH7,JR,Kr,Yk,ZH5,ZIk,Yp,Yq,decide_false,ZIJ,ite_false];intro b t;exact i.ret _ _ rfl φ (ZH3 _) ZH2 ⟨b,t,rfl,rfl⟩
def ZcB(k:Int):Bool:=dC (k=1) ||(dC (k=2) ||decide (k=10))
def ZeE(k:Int):D:=if k=1 then .fn (.func 223) [] [] else if k=2 then .fn (.func 223) [] [] else if k=10 then .fn (.func 224) [] [] else .nilfn
def Zoq(k):ZbF (.sc .int) (.i k) ZsO=sO (if ZcB k then sO (ZeE k) else nO):=by
 simp only[ZsO,ZbF,Kr,Yk,if_true,ZcB,ZeE];by_cases i:k=1;simp[i];by_cases t:k=2;simp[t];by_cases u:k=10;simp[u];simp[i,t,u]
def Zrl(k):Wh .nilfn true (if ZcB k=true then sO (ZeE k) else nO)=.tup [ZeE k,.bool (ZcB k)]:=by
 unfold ZcB ZeE;by_cases i:k=1;simp[i,Wh];by_cases t:k=2;simp[t,Wh];by_cases u:k=10;simp[u,Wh];simp[i,t,u,Wh]
def Zd1(f:Fld):Bool:=!ZcB f.kind ||f.little
def ZpP(f){st}:ZL ZH1 183 [.agg f.cells] st (.bool (Zd1 f)) st:=by
 refine Zz (cR 183 f183) λu F i=>?_;clear u;refine rx @eQ0 ?_;refine rx @eQ0 ?_;refine cVD Zhm ?_ ?_;rintro d S ⟨b,hb,hd,rfl⟩;cases hd;refine⟨by simp[Wd,K0,YZ,Zaw],?_⟩;have t:=Zoq f.kind;refine gQ (nd2 @t (nd2 @ZH5 @Zrl)) ?_;refine rx @eQ0 ?_;exact i rfl φ (by unfold Zd1;cases ZcB f.kind<;>exact ZH3 _) (ZIr _ hb);rintro d S ⟨b,hb,hd,_⟩;cases hd
def Zw6(l:List Fld)(j:Nat):List D:=[.i j,.i (Ky l j)]
def ZdU(l)(hl:I l<=1000)(hb:∀f∈l,Zhh f)(x):Zc7 ZH1 (.fn (.func 180) [] [.ptr x 0]) (I l+1) (Zw6 l) (ZIu x (.cells [Zq l])):=by
 intro y go A a0 aj hA hd;refine Za.V (first:=[]) (args:=[y]) (caps:=[.ptr x 0]) (Zb (cR 180 f180) λF hF=>?_);have hx:∀a,Z8 a (ZIu x (.cells [Zq l]))->(a.or (ZIu x (.cells [Zq l]))) x=sO (.cells [Zq l]):=λa ap=>by rw[ZG (ap x _ Yi),Yi]
 generalize hT:ZIu x (.cells [Zq l])=T at *;refine rg ?_;refine rh ?_;refine Zp ?_;simp only[Eqs,reduceCtorEq,ZH9,reduceIte,ZH6,ZIa,ZH7,hx a0 hd,Zq,slD];refine Zd (fr (I l) (λj Q=>∀a,A j a->Z8 a T->(∀i,i<j->go i=.next)->j<=I l->Q [(0,.d y),(1,.d (.ptr x 0)),(3,.d (.i (Ky l j))),(8,.d (Zq l)),(9,.d (.i (I l))),(10,.d (.i j))] [] (a.or T)) (λn ad=>?_) λar=>?_)
 .clear hA hd;intro j hn a hA hd ac hj;refine rg ?_;have ae:=(aj j ω ac a hA).frame hd;unfold Zw6 at ae;have ho:=ZvR l j;refine Zc (Zl rfl trivial (λh1=>?_) (λh1=>?_))
  .simp at h1;have ao:=hb (l.getD j dE) (by simp[ZIg,h1]);have am:Ky l (j+1)=ZcL (l.getD j dE) (Ky l j):=rfl;generalize hg:l.getD j dE=g at *;refine xA (nd2 @Zq.eq_1 (nd2 @eQ1 (nd2 @hg @eQ0))) ?_;refine rg ?_;refine vV (ae) ?_ ?_
   .rintro d S ⟨s',⟨hr,u⟩,af,rfl⟩;cases t:go j with
    |next =>
     rw[t]at hr;cases hr;refine gR0 ?_;refine i0 ?_;refine rx @eQ0 ?_;refine cVD Zhm ?_ ?_;rintro d S ⟨b,ag,ak,rfl⟩;cases ak;have aq:=Zoq g.kind;refine⟨by simp[Wd,K0,YZ,Zaw],?_⟩;refine gQ (nd2 @aq (nd2 @ZH5 @Zrl)) ?_;refine rg ?_;have h8:=ZvR l (j+1);refine cd (λhk=>?_) (λhk=>?_);by_cases ah:g.kind=10;have al:ZeE g.kind=.fn (.func 224) [] []:=by simp[ZeE,ah]
     have ab:(upS (Ky l j) g.bits).tmod 8=Ky l (j+1):=by rw[am,ZcL,if_neg ω,if_pos ah]
     rw[<-ab]at h8;rw[al];refine rx @eQ0 ?_;refine Zwk rfl rfl rfl rfl rfl φ φ (by exact(ZmW g ω (ao.pad ah)).VT (first:=[]) (args:=[_,_]) (caps:=[]) _) (Zp ?_);simp only[Eqs,reduceCtorEq,ZH9,reduceIte,ZH6,ZIa,ZH7];refine aa ?_;rw[ab];refine gA ?_;refine WW (ZIr _ ag) ?_;refine Ze ?_;exact ad ((I l)-(j+1)) ω (j+1) rfl s' u af (Yc (q:=λi=>go i=.next) ac t) ω;have ai:g.kind=1\/g.kind=2:=by simp only[ZcB,ZIp,decide_eq_true_eq]at hk;omega
     have al:ZeE g.kind=.fn (.func 223) [] []:=by rcases ai with h|h<;>simp[ZeE,h]
     have ab:(Ky l j+g.bits).tmod 8=Ky l (j+1):=by rw[am,ZcL,if_pos ai]
     rw[<-ab]at h8;rw[al];refine rx @eQ0 ?_;refine Zwk rfl rfl rfl rfl rfl φ φ (by exact(ZmV g ω (ao.num ai)).VT (first:=[]) (args:=[_,_]) (caps:=[]) _) (Zp ?_);simp only[Eqs,reduceCtorEq,ZH9,reduceIte,ZH6,ZIa,ZH7];refine aa ?_;rw[ab];refine gA ?_;refine WW (ZIr _ ag) ?_;refine Ze ?_;exact ad ((I l)-(j+1)) ω (j+1) rfl s' u af (Yc (q:=λi=>go i=.next) ac t) ω;have ab:(0:Int)=Ky l (j+1):=by simp only[ZcB,Bool.or_eq_false_iff,decide_eq_false_iff_not]at hk;rw[am,ZcL,if_neg ω,if_neg ω]
     refine rg ?_;refine gA ?_;rw[show(D.int IntKind.i64 0)=.i (Ky l (j+1)) by rw[<-ab]];refine WW (ZIr _ ag) ?_;refine Ze ?_;exact ad ((I l)-(j+1)) ω (j+1) rfl s' u af (Yc (q:=λi=>go i=.next) ac t) ω;rintro d S ⟨b,ag,ak,_⟩;cases ak
    |stop c =>rw[t]at hr;cases hr;refine gR0 ?_;refine i1 ?_;exact hF.ret (.tup []) _ rfl trivial (ZH3 _) ZH2 ⟨s',.stop j c ω ac t u,KD⟩
    |pan d=>rw[t]at hr;cases hr
   rintro d S ⟨s',⟨hr,u⟩,af,rfl⟩;cases t:go j with
   |pan d' =>rw[t]at hr;cases hr;exact hF.pan _ ZH2 ⟨s',.pan j d ω ac t u,KD⟩
   |next=>rw[t]at hr;cases hr
   |stop c=>rw[t]at hr;cases hr
  simp at h1;obtain rfl:j=I l:=ω;refine rh ?_;refine Zp ?_;simp only[Eqs,reduceCtorEq,ZH9,reduceIte,ZH6,ZIa,ZH7,hx a hd,Zq,slD];refine vV (ae) ?_ ?_
  .rintro d S ⟨s',⟨hr,u⟩,af,rfl⟩;cases t:go (I l) with
   |next =>rw[t]at hr;cases hr;refine gR0 ?_;exact hF.fin (.tup []) _ rfl trivial (ZH3 _) ZH2 ⟨s',.all (Yc (q:=λi=>go i=.next) ac t) u,KD⟩
   |stop c =>rw[t]at hr;cases hr;refine gR0 ?_;exact hF.fin (.tup []) _ rfl trivial (ZH3 _) ZH2 ⟨s',.stop (I l) c ω ac t u,KD⟩
   |pan d=>rw[t]at hr;cases hr
  rintro d S ⟨s',⟨hr,u⟩,af,rfl⟩;cases t:go (I l) with
  |pan d' =>rw[t]at hr;cases hr;exact hF.pan _ ZH2 ⟨s',.pan (I l) d ω ac t u,KD⟩
  |next=>rw[t]at hr;cases hr
  |stop c=>rw[t]at hr;cases hr
 exact ar _ 0 rfl a0 hA hd (by intro i hi;omega) ω
def Ze4(l st):Za ZH1 127 [Zq l] st λr S=>∃x,st x=nO/\r=.ret (.fn (.func 180) [] [.ptr x 0])/\S=st.or (ZIu x (.cells [Zq l])):=by
 refine Zb (cR 127 f127) λF t=>?_;refine rx (nd2 @Zq.eq_1 @eQ1) ?_;refine Zc ?_;refine xP 1 λx i=>?_;refine rg ?_;exact t.ret _ _ rfl φ (ZH3 _) ZH2 ⟨x,i,rfl,K6 i⟩
def ZuD(l)(hl:I l<=1000)(hb:∀f∈l,Zhh f)(k:Nat)(hk:k<=I l){st:St}:ZL ZH1 186 [Zq l,.i k] st (.i (Ky l k)) st:=by
 refine Zb (cR 186 f186) λF hF=>?_;refine rx (nd2 @Zq.eq_1 @eQ1) ?_;refine rg ?_;rw[show(D.sl .none (I l) 15 λi=>(l.getD i dE).cells)=Zq l from rfl];refine cV (Ze4 l st) ?_ ?_
 .rintro d S ⟨x,hx,hd,rfl⟩;cases hd;refine gR0 ?_;refine Zd ?_;refine xP 3 λz3 h3=>?_;refine xP 4 λz4 h4=>?_;have ap:z3≠x:=λe=>by subst e;rw[ZG hx,Yi]at h3;simp at h3
  have al:st z3=nO:=by
   cases h:st z3 with
   |none=>rfl
   |some o=>rw[Zs h]at h3;simp at h3
  have k4:=Zm h4;have aq:z4≠x:=λe=>by subst e;have:=k4.2;rw[ZG hx,Yi]at this;simp at this
  have am:st z4=nO:=by
   cases h:st z4 with
   |none=>rfl
   |some o=>have:=k4.2;rw[Zs h]at this;simp at this
  have hA:∀v,∃A:St,A=(st.upd z3 (.cells [.i k])).upd z4 (.cells [.i v])/\A z3=sO (.cells [.i k])/\A z4=sO (.cells [.i v])/\st.sub A/\A x=nO:=λv=>by refine⟨_,rfl,by rw[ZH8 _ _ (Ne.symm k4.1)];exact ZH5 _ _ _,ZH5 _ _ _,ZIK (ZIr _ al) (ZIr _ (by rw[ZH8 _ _ k4.1];exact am)),?_⟩;rw[ZH8 _ _ (Ne.symm aq),ZH8 _ _ (Ne.symm ap)];exact hx
  obtain⟨A0,e0,g3,g4,hsub0,ao⟩:=hA 0;obtain⟨A1,e1,g3',aj,ae,hx1⟩:=hA (Ky l k);have af:A0.upd z4 (.cells [.i (Ky l k)])=A1:=by rw[e0,e1,ZIk]
  have ai:(((st.or (ZIu x (.cells [Zq l]))).upd z3 (.cells [.i k])).upd z4 (.cells [.i 0]))=A0.or (ZIu x (.cells [Zq l])):=by
   rw[e0];funext c;by_cases c4:c=z4;subst c4;rw[ZH5,Zs (ZH5 _ _ _)];rw[ZH8 _ _ c4];by_cases c3:c=z3;subst c3;rw[ZH5,Zs (by rw[ZH8 _ _ c4];exact ZH5 _ _ _)];rw[ZH8 _ _ c3];show(match st c with|some o=>sO o|none=>_)=match ((st.upd z3 _).upd z4 _) c with|some o=>sO o|none=>_
   rw[ZH8 _ _ c4,ZH8 _ _ c3]
  rw[ai];clear ai hA;refine Kt hF rfl trivial [3,4] (by show([3,4]:List Nat).Nodup;decide) (Wl ao) (ZdU l hl hb x).Y (λj hj=>rfl)
   (λj=>if j=k then .stop .ret else .next) (λj a=>(j<=k/\a=A0)\/(k<j/\a=A1)) (.inl ⟨Nat.zero_le _,rfl⟩) ?_ ?_ ?_ ?_ ?_ ?_
  intro j a hj ab hB F' ready busy hdr ah u;have hjk:j<=k:=by refine Nat.le_of_not_lt λh=>?_;have:=ab k h;simp at this
  rcases hB with ⟨_,rfl⟩|⟨h,_⟩
  skip
  simp only[Eqs,reduceCtorEq,ZH9,reduceIte,ZH6,ZIa,ZH7,WB,W1,Q5,Ke,List.isEmpty_nil,List.isEmpty_cons,Zw6];refine gG ?_;refine ah λad=>?_;refine rh ?_;refine Zp ?_;simp only[Eqs,reduceCtorEq,ZH9,reduceIte,ZH6,ZIa,ZH7,Zs g3];refine cd (λhc=>?_) (λhc=>?_);have ac:j=k:=by simp at hc;omega
  subst ac;rw[if_pos rfl]at u;refine rh ?_;refine Zp ?_;simp only[Eqs,reduceCtorEq,ZH9,reduceIte,ZH6,ZIa,ZH7,Zs g4,WU];rw[af];exact u.ret ⟨rfl,.inr ⟨ω,rfl⟩⟩ (λb o ag=>by rw[<-af,ZH8 _ _ (λe=>by subst e;rw[ad _ o ag]at g4;simp at g4)];exact ad b o ag) ZH2;have ac:j≠k:=by simp at hc;omega
  rw[if_neg ac]at u;refine ZE (Zk ?_);exact u.fin ⟨rfl,.inl ⟨ω,rfl⟩⟩ ad ZH2;omega;intro q a ab hB hq;have:=ab k ω;simp at this;intro q a m hm ab t hB hq;have ak:m=k:=by split at t;assumption;simp at t
  subst ak;rcases hB with ⟨h,_⟩|⟨_,rfl⟩;omega;rw[K6 hq];exact hF.ret1 hq (.i (Ky l m)) st (by simp only[Eqs,reduceCtorEq,ZH9,reduceIte,ZH6,ZIa,ZH7,Yw,Kf,aj];rfl) φ (ZH3 _) ae ⟨rfl,rfl⟩;intro q a m id hm ab t;split at t<;>simp at t;intro q a m d hm ab t;split at t<;>simp at t;intro m c t;split at t<;>simp at t;exact .inl t.symm
 rintro d S ⟨x,hx,hd,_⟩;cases hd
def Qu(l:List Fld)(i:Nat):Bool:=if i=I l then !dC (Ky l i=0) else !(dC (Ky l i=0)||!Zd1 (l.getD i dE))||!(!dC ((l.getD i dE).kind=11) ||decide (Ky l (max (Zi (λx=>dC (x.name=(l.getD i dE).from_)) l) 0).toNat=0))
def ZmX{st a c o f}(ha:st a=sO (.cells [.i o]))(hc:st c=sO (.cells f.cells)):ZL ZH1 182 [.ptr a 0,.ptr c 0] st (.bool (dC (o=0)||!Zd1 f)) st:=by
 refine Zz (cR 182 f182) λt F i=>?_;clear t;by_cases u:o=0;subst u;refine rg ?_;refine rx (nd2 @ha @hc) ?_;refine Zao rfl (e:=.d (.bool false)) (Zp ?_);simp only[Eqs,reduceCtorEq,ZH9,reduceIte,ZH6,ZIa,ZH7];exact i rfl ψ (ZH3 _) ZH2;have h1:dC (o=0)=false:=decide_eq_false u;rw[h1,Bool.false_or]at i;refine rg ?_;refine rx (nd2 @ha (nd2 @hc (nd2 @h1 @eQ0))) ?_;refine Jo rfl rfl rfl rfl rfl φ φ (by exact ZpP f) (Zp ?_);simp only[Eqs,reduceCtorEq,ZH9,reduceIte,ZH6,ZIa,ZH7];exact i rfl ψ (by cases Zd1 f<;>exact ZH3 _) ZH2
def okF(l):Kc (Zq l)=true:=rfl
def ceF(l):cellsOf (Zq l)=[Zq l]:=rfl
def ZmY{st a c l}(hl:I l<=1000)(hb:∀f∈l,Zhh f){f:Fld}(ha:st a=sO (.cells [Zq l]))(hc:st c=sO (.cells f.cells))(hpos:0<I l):
  ZL ZH1 184 [.ptr a 0,.ptr c 0] st (.bool (!dC (f.kind=11) ||decide (Ky l (max (Zi (λx=>dC (x.name=f.from_)) l) 0).toNat=0))) st:=by
 refine Zz (cR 184 f184) λu F i=>?_;clear u;have hq1:=Wc (λx=>dC (x.name=f.from_)) l;have hq0:=ZaU (λx:Fld=>dC (x.name=f.from_)) l;have t:D.agg [.str [],Zq l]=.agg (Msg.mk [] l).cells:=rfl;refine rg ?_;refine rx (nd2 @ha (nd2 @hc (nd2 @eQ0 (nd2 @okF @ceF)))) ?_;rw[t];refine cl (ZcS ⟨[],l⟩ f.from_) ?_;obtain⟨q,hq⟩:∃q:Nat,max (Zi (λx=>dC (x.name=f.from_)) l) 0=q:=⟨(max (Zi (λx=>dC (x.name=f.from_)) l) 0).toNat,ω⟩;simp only[hq,Int.toNat_natCast]at i⊢;by_cases h0:f.kind=11;have h1:dC (f.kind=11)=true:=decide_eq_true h0;rw[h1,Bool.not_true,Bool.false_or]at i;refine rx (nd2 @ha (nd2 @hc (nd2 @eQ0 @h1))) ?_;refine Jo rfl rfl rfl rfl rfl φ φ (by exact ZuD l hl hb q ω) (Zp ?_);simp only[Eqs,reduceCtorEq,ZH9,reduceIte,ZH6,ZIa,ZH7];exact i rfl ψ (ZH3 _) ZH2;have h1:dC (f.kind=11)=false:=decide_eq_false h0;rw[h1,Bool.not_false,Bool.true_or]at i;refine rx (nd2 @ha (nd2 @hc (nd2 @eQ0 @h1))) ?_;refine Zao rfl (e:=.d (.i 0)) (Zp ?_);simp only[Eqs,reduceCtorEq,ZH9,reduceIte,ZH6,ZIa,ZH7];exact i rfl ψ (ZH3 _) ZH2
def Ze5{c v st}(h:VT ZH1 c [] st (.bool v) st):ZL ZH1 188 [c] st (.bool (!v)) st:=by
 refine Zz (cR 188 f188) λt F i=>?_;clear t;refine gG ?_;refine cW (h) ?_;exact i rfl φ (ZH3 _) ZH2
structure Ck where
 d:Dfn
 at_:Int
 field:Int
 m:Msg
def Ck.cells(k:Ck)(bd bs:Nat):List D:=[.str k.d.name,YY k.d.msgs,.str k.d.start,.map bd,.map bs,.i k.at_,.i k.field,.str k.m.name,Zq k.m.fields]
structure Qg(st:St)(x bd bs:Nat)(k:Ck)(dl:List (Str×Int))(sl:List (Str×Bool)):Prop where
 x:st x=some (.cells (k.cells bd bs))
 bd:st bd=some (.map (WZ dl))
 bs:st bs=some (.map (Zew sl))
def Qg.mono{st A x bd bs k dl sl}(h:Qg st x bd bs k dl sl)(i:st.sub A):Qg A x bd bs k dl sl:=⟨i _ _ h.x,i _ _ h.bd,i _ _ h.bs⟩
def ZdS(d:D):Prop:=∃a f c,d=.iface 155 (.agg [.i a,.i f,.i c])
def Ws(ok:Bool)(st:St)(r:Res)(S:St):Prop:=S=st/\if ok then r=.ret (.tup []) else ∃d,ZdS d/\r=.panic d
def YD{ok st S d}(h:Ws ok st (.ret d) S):ok=true/\d=.tup []/\S=st:=by
 obtain⟨t,i⟩:=h;cases ok with
 |true=>simp at i;exact⟨rfl,i,t⟩
 |false=>simp at i
def YC{ok st S d}(h:Ws ok st (.panic d) S):ok=false/\ZdS d/\S=st:=by
 obtain⟨t,i⟩:=h;cases ok with
 |true=>simp at i
 |false=>simp at i;exact⟨rfl,i,t⟩
def Zbp{ok st}(h:ok=true):Ws ok st (.ret (.tup [])) st:=by subst h;exact⟨rfl,rfl⟩
def Y8{ok st d}(h:ok=false)(i:ZdS d):Ws ok st (.panic d) st:=by subst h;exact⟨rfl,d,i,rfl⟩
def Zip(a f c:Int):D:=.iface 155 (.agg [.i a,.i f,.i c])
def Ztw{a f c}:ZdS (Zip a f c):=⟨a,f,c,rfl⟩
def Zgo{x bd bs}{k:Ck}{st}(u:st x=sO (.cells (k.cells bd bs)))(fine code):Za ZH1 221 [.ptr x 0,.bool fine,.i code] st (λr S=>S=st/\r=if fine then .ret (.tup []) else .panic (Zip k.at_ k.field code)):=by
 refine Zb (cR 221 f221) λF t=>?_;refine rg ?_;refine cd (λh=>?_) (λh=>?_);have i:fine=false:=by simpa using h
 refine rx (nd2 @u @Ck.cells.eq_1) ?_;refine Zwg rfl rfl rfl trivial ?_;exact t.pan st ZH2 ⟨rfl,by rw[i];rfl⟩;have i:fine=true:=by simpa using h
 refine ZE ?_;exact t.fin (.tup []) st rfl trivial (ZH3 _) ZH2 ⟨rfl,by rw[i];rfl⟩
def ZV{x bd bs}{k:Ck}{st}(u:st x=sO (.cells (k.cells bd bs)))(fine code):Za ZH1 221 [.ptr x 0,.bool fine,.i code] st (Ws fine st) :=
 (Zgo u fine code).mono λr S ⟨t,i⟩=>by
  subst t;cases fine with
  |true=>exact⟨rfl,i⟩
  |false=>exact⟨rfl,_,Ztw,i⟩
def Znq(o:Option Int):Wh (.i 0) true (o.map YR)=.tup [.i (o.getD 0),.bool o.isSome]:=by cases o<;>rfl
def ZoH(o:Option (Int×Int)):Wh (.agg [.i 0,.i 0]) true (o.map Qq)=.tup [.agg [.i (o.getD (0,0)).1,.i (o.getD (0,0)).2],.bool o.isSome]:=by cases o<;>rfl
def ZcT{x bd bs k dl sl st}(u:Qg st x bd bs k dl sl)(name):Za ZH1 296 [.ptr x 0,.str name] st (Ws (Zr name dl).isSome st):=by
 refine Zb (cR 296 f296) λF hF=>?_;have e1:=Yz (vD:=YR) ZN name dl;have e3:=YH ZN name;simp only[show Ks name=D.str name from rfl]at e1 e3;refine rh ?_;refine Zp ?_;simp only[Eqs,reduceCtorEq,ZH9,reduceIte,ZH6,ZIa,ZH7,u.x,u.bd,Ck.cells,e1,e3,Znq];refine rg ?_;refine cV (ZV u.x (Zr name dl).isSome 8) ?_ ?_;rintro d S h;obtain⟨i,rfl,rfl⟩:=YD h;refine gR0 ?_;exact hF.fin (.tup []) S rfl trivial (ZH3 _) ZH2 (Zbp i);rintro d S h;obtain⟨i,t,rfl⟩:=YC h;exact hF.pan S ZH2 (Y8 i t)
def QY{x bd bs}{k:Ck}{st}(hx:st x=sO (.cells (k.cells bd bs))){n:Nat}(hn:k.field=n)(hl:n<=I k.m.fields):ZL ZH1 267 [.ptr x 0] st (Zq (k.m.fields.take n)) st:=by
 refine Zz (cR 267 f267) λab F t=>?_;clear ab;refine rg ?_;refine rx (nd2 @hx (nd2 @Ck.cells.eq_1 (nd2 @Zq.eq_1 (nd2 @eQ1 @hn)))) ?_;refine⟨ω,ω,ω,?_⟩;rw[ite_self];have u:ZY Fld.cells (λi=>(k.m.fields.getD i dE).cells) (k.m.fields.take n):=ZY.self.take n;exact t rfl φ (QP (u.le (by rw[ZIm];omega))) ZH2
def Ys:Int->Int->List Int->Bool
 |_,_,[]=>true
 |low,high,n::r=>dC (low<=n)&&dC (n<=high)&&Ys n high r
def ZfC{x bd bs}{k:Ck}{st}(hx:st x=sO (.cells (k.cells bd bs)))(low high l):Za ZH1 283 [.ptr x 0,.i low,.i high,slD 1 inC l] st (Ws (Ys low high l) st):=by
 refine Zan (cR 283 f283) λab F hF=>?_;have hw:=(Ww (ab (slD 1 inC l) ψ)).1;unfold big at hw;clear ab;refine rx @eQ1 ?_;refine Zd (fr (I l) (λi Q=>∀lo,Ys low high l=Ys lo high (l.drop i)->i<=I l->Q [(0,.d (.ptr x 0)),(1,.d (.i lo)),(2,.d (.i high)),(10,.d (slD 1 inC l)),(11,.d (.i (I l))),(12,.d (.i i))] [] st) (λn t=>?_) λad=>?_);intro i hn lo hS hi;refine rg ?_;refine Zc (Zl rfl trivial (λh1=>?_) (λh1=>?_));simp at h1;rw[Wn h1,Ys]at hS;generalize hv:l.getD i dE=v at *;refine xA (nd2 @eQ1 (nd2 @inC.eq_1 @hv)) ?_;refine rg ?_;refine cV (ZV hx (dC (lo<=v)&&dC (v<=high)) 7) ?_ ?_;rintro d S h;obtain⟨u,rfl,rfl⟩:=YD h;rw[u,ZIt]at hS;refine gR0 ?_;refine rg ?_;refine gA ?_;refine Ze ?_;exact t ((I l)-(i+1)) ω (i+1) rfl v hS ω;rintro d S h;obtain⟨u,ac,rfl⟩:=YC h;rw[u,ZIE]at hS;exact hF.pan S ZH2 (Y8 hS ac);simp at h1;obtain rfl:i=I l:=ω;rw[List.drop_length,Ys]at hS;refine ZO rfl ?_;exact hF.fin (.tup []) st rfl trivial (ZH3 _) ZH2 (Zbp hS);exact ad _ 0 rfl low rfl ω
def ZdE(f:Fld):Bool:=dC (1<=f.bits)&&dC (f.bits<=32)&&(!f.little ||(dC (8<f.bits)&&dC (f.bits.tmod 8=0)))
def ZhL{x bd bs}{k:Ck}{st}(hx:st x=sO (.cells (k.cells bd bs)))(f):Za ZH1 282 [.ptr x 0,.agg f.cells] st (Ws (ZdE f) st):=by
 refine Zb (cR 282 f282) λF u=>?_;refine rx @eQ0 ?_;refine rx @eQ0 ?_;have ht1:=Int.tmod_lt_of_pos f.bits (by decide:(0:Int)<8);have ht2:=Int.lt_tmod_of_pos f.bits (by decide:(0:Int)<8);refine⟨λ_=>⟨by decide,ω,ω⟩,?_⟩;refine cV (ZV hx (ZdE f) 6) ?_ ?_;rintro d S h;obtain⟨i,rfl,rfl⟩:=YD h;refine gR0 ?_;exact u.fin (.tup []) S rfl trivial (ZH3 _) ZH2 (Zbp i);rintro d S h;obtain⟨i,t,rfl⟩:=YC h;exact u.pan S ZH2 (Y8 i t)
abbrev QG(fs:List Fld):ZzG:=JM fs (I fs)
abbrev ivP(fs:List Fld)(s:Zbo):Int×Int×Int:=JY s λk=>Zr k (QG fs)
def ZcG(fs:List Fld)(t:Yb):Bool:=(Zr t.field (QG fs)).isSome
def ZfI(fs:List Fld)(s:Zbo):Bool:=ZU s&&(s.terms.all (ZcG fs)&&(dC ((ivP fs s).2.2=0)&&dC (0<=(ivP fs s).1)&&dC ((ivP fs s).2.1<=1048576)))
def ZcU{x bd bs}{k:Ck}{st}(hx:st x=sO (.cells (k.cells bd bs))){n:Nat}(hn:k.field=n)(hl:n<=I k.m.fields)(f:Fld):
  Za ZH1 289 [.ptr x 0,.agg f.cells] st (Ws (ZfI (k.m.fields.take n) f.size) st):=by
 refine Zb (cR 289 f289) λF hF=>?_;have hS:=ZfI.eq_1 (k.m.fields.take n) f.size;generalize ao:k.m.fields.take n=fs at *;refine rx @eQ0 ?_;refine rx @eQ0 ?_;have ah:D.agg [D.int IntKind.i64 f.size.base,Ye f.size.terms]=.agg f.size.cells:=rfl;simp only[ah];refine clD (Zam f.size) ?_;refine cVD (ZV hx (ZU f.size) 9) ?_ ?_
 .rintro d S h;obtain⟨hv,rfl,rfl⟩:=YD h;rw[hv,ZIt]at hS;first|refine⟨by first|trivial|exact⟨rfl,rfl,trivial⟩|exact⟨rfl,trivial⟩,?_⟩|skip
  refine gR0 ?_;refine rg ?_;refine tX @ao (QY hx hn hl) ?_;refine cV (ZfB fs S) ?_ ?_
  .rintro d S' ⟨b,hb,hd,rfl⟩;cases hd;refine gR0 ?_;refine Zc (Zc ?_);refine xP 2 λz2 h2=>?_;refine xP 4 λz4 h4=>?_;have k2:=Zm h2;have k4:=Zm h4;have ai:=Zm k4.2;have ar:x≠b:=λe=>by rw[e,hb]at hx;simp at hx
   have ap:x≠z2:=λe=>by rw[e,k2.2]at hx;simp at hx
   have aq:x≠z4:=λe=>by rw[e,ai.2]at hx;simp at hx
   obtain⟨A,hA⟩:∃A,A=((S.upd b (.map (Zbz (JM fs (I fs))))).upd z2 (.cells [.ptr x 0])).upd z4 (.cells [.map b]):=⟨_,rfl⟩;have gx:A x=sO (.cells (k.cells bd bs)):=by rw[hA,ZH8 _ _ aq,ZH8 _ _ ap,ZH8 _ _ ar];exact hx
   have gb:A b=sO (.map (Zbz (QG fs))):=by rw[hA,ZH8 _ _ ai.1.symm,ZH8 _ _ k2.1.symm];exact ZH5 _ _ _
   have g2:A z2=sO (.cells [.ptr x 0]):=by rw[hA,ZH8 _ _ k4.1.symm];exact ZH5 _ _ _
   have g4:A z4=sO (.cells [.map b]):=by rw[hA];exact ZH5 _ _ _
   have ae:S.sub A:=by rw[hA];exact ZIK (ZIr _ hb) (ZIK (ZIr _ h2) (ZIr _ h4))
   rw[<-hA];clear hA h2 h4 k2 k4 ai;refine rx @eQ0 ?_;simp only[ah];have hfew:=Je hv;refine cV (ZbJ f.size hv) ?_ ?_
   .rintro d S' ⟨y,hy,hd,rfl⟩;cases hd;refine gR0 ?_;refine Zd ?_;refine Kt hF rfl trivial [2,4] (by show([2,4]:List Nat).Nodup;decide) (Wl hy) (ZaF f.size.terms (by unfold big;omega) y).Y (λj hj=>rfl)
     (λj=>if ZcG fs (f.size.terms.getD j dE) then .next else .pan (Zip k.at_ k.field 8)) (λj a=>a=A) rfl ?_ ?_ ?_ ?_ ?_ ?_
    .intro j a hj ac hB F' ready aj hdr al ad;subst hB;simp only[Eqs,reduceCtorEq,ZH9,reduceIte,ZH6,ZIa,ZH7,WB,W1,Q5,Ke,List.isEmpty_nil,List.isEmpty_cons];refine rg ?_;refine al λam=>?_;generalize htm:f.size.terms.getD j dE=tm at *;have e1:=Yz (vD:=Qq) ZN tm.field (QG fs);have e3:=YH ZN tm.field;simp only[show Ks tm.field=D.str tm.field from rfl]at e1 e3;refine rh ?_;refine Zp ?_;simp only[Eqs,reduceCtorEq,ZH9,reduceIte,ZH6,ZIa,ZH7,Zs g4,Zs gb,e1,e3,ZoH];refine rh ?_;refine Zp ?_;simp only[Eqs,reduceCtorEq,ZH9,reduceIte,ZH6,ZIa,ZH7,Zs g2];refine cV (Zgo (st:=a.or aj) (Zs gx) (Zr tm.field (QG fs)).isSome 8) ?_ ?_
     .rintro d S' ⟨rfl,h⟩;cases hk:(Zr tm.field (QG fs)).isSome with
      |false=>rw[hk]at h;simp at h
      |true =>rw[hk]at h;simp at h;subst h;refine gR0 ?_;refine Zk ?_;exact ad.fin ⟨by rw[if_pos (show ZcG fs tm=true from hk)],rfl⟩ am ZH2
     rintro d S' ⟨rfl,h⟩;cases hk:(Zr tm.field (QG fs)).isSome with
     |true=>rw[hk]at h;simp at h
     |false =>rw[hk]at h;simp at h;subst h;exact ad.pan ⟨by rw[if_neg (by rw[show ZcG fs tm=false from hk];simp)],rfl⟩ am ZH2
    intro q a ac hB hq;subst hB;have ab:f.size.terms.all (ZcG fs)=true:=by apply List.all_eq_true.2;intro t ht;obtain⟨i,hi,rfl⟩:=ZIl ht;have:=ac i hi;split at this;rename_i h;simpa[ZIg,hi]using h;simp at this
    rw[ab,ZIt]at hS;rw[K6 hq];refine rh ?_;refine Zp ?_;simp only[Eqs,reduceCtorEq,ZH9,reduceIte,ZH6,ZIa,ZH7,Zs g4,Fld.cells];simp only[ah];refine cV (ZnC f.size b (QG fs) (Zs gb)) ?_ ?_;rintro d S' ⟨hd,rfl⟩;cases hd;refine gQ @Qq.eq_1 ?_;refine rh ?_;refine Zp ?_;simp only[Eqs,reduceCtorEq,ZH9,reduceIte,ZH6,ZIa,ZH7,Zs g2];refine cV (ZV (st:=a.or (ZIu q .dfr)) (Zs gx) (dC ((ivP fs f.size).2.2=0)&&dC (0<=(ivP fs f.size).1)&&dC ((ivP fs f.size).2.1<=1048576)) 9) ?_ ?_;rintro d S' h;obtain⟨ag,rfl,rfl⟩:=YD h;rw[ag]at hS;refine gR0 ?_;exact hF.fin1 hq (.tup []) S rfl trivial (ZH3 _) ae (Zbp hS);rintro d S' h;obtain⟨ag,af,rfl⟩:=YC h;rw[ag]at hS;exact hF.pan1 hq S ae (Y8 hS af);rintro d S' ⟨hd,_⟩;cases hd;intro q a m hm ac u;split at u<;>simp at u;intro q a m id hm ac u;split at u<;>simp at u;intro q a m d hm ac u hB hq;subst hB;rw[K6 hq];have ak:ZcG fs (f.size.terms.getD m dE)=false:=by split at u;simp at u;rename_i h;simpa using h
    have ab:f.size.terms.all (ZcG fs)=false:=by apply List.all_eq_false.2;exact⟨_,Zu hm,by rw[ak];simp⟩
    rw[ab,ZIE]at hS;split at u;simp at u;simp at u;subst u;exact hF.pan1 hq S ae (Y8 hS Ztw);intro m c u;split at u<;>simp at u
   rintro d S' ⟨y,hy,hd,_⟩;cases hd
  rintro d S' ⟨b,hb,hd,_⟩;cases hd
 rintro d S h;obtain⟨hv,af,rfl⟩:=YC h;rw[hv,ZIE]at hS;exact hF.pan S ZH2 (Y8 hS af)
def Zct(dl:List (Str×Int))(high:Int):Int->List YB->Bool
 |_,[]=>true
 |low,c::r=>Ys low high [c.low,c.high]&&((Zr c.of dl).isSome&&Zct dl high (c.high+1) r)
def ZfQ(fs:List Fld)(f:Fld):Bool:=fs.any λo=>dC (o.kind=9)&&dC (o.tag=f.tag)
def Zjx(fs:List Fld)(dl:List (Str×Int))(f:Fld):Bool :=
 ((Zr f.tag (QG fs)).isSome&&!ZfQ fs f)&&((dC (1<=(I f.cases:Int))&&dC ((I f.cases:Int)<=40))&&Zct dl ((Zr f.tag (QG fs)).getD (0,0)).2 ((Zr f.tag (QG fs)).getD (0,0)).1 f.cases)
def Zl1{o:Fld}(f:Fld)(y st)(u:st y=sO (.cells f.cells)):ZL ZH1 316 [.agg o.cells,.ptr y 0] st (.bool (dC (o.kind=9)&&dC (o.tag=f.tag))) st:=by
 refine Zz (cR 316 f316) λt F i=>?_;clear t;refine rx @eQ0 ?_;refine rx (nd2 @u @eQ0) ?_;exact i rfl φ (ZH3 _) ZH2
def ZzC(a b):ZY inC (ZZ [.i 0] ([0,1].zip [.i a,.i b])) [a,b]:=λi t=>by
 match i,t with
 |0,_=>rfl
 |1,_=>rfl
def Zdu{x bd bs}{k:Ck}{st}(i:st x=sO (.cells (k.cells bd bs)))(low high a b):Za ZH1 283 [.ptr x 0,.i low,.i high,.sl .full 2 1 (ZZ [.i 0] ([0,1].zip [.i a,.i b]))] st (Ws (Ys low high [a,b]) st) :=
 Za.leA (.cons (ZH3 _) (.cons (ZH3 _) (.cons (ZH3 _) (LeC.one ((ZzC a b).le rfl))))) (ZfC i low high [a,b])
def QR{x bd bs}{k:Ck}{st}(i:st x=sO (.cells (k.cells bd bs)))(low high a):Za ZH1 283 [.ptr x 0,.i low,.i high,.sl .full 1 1 (ZZ [.i 0] ([0].zip [.i a]))] st (Ws (Ys low high [a]) st) :=
 Za.leA (.cons (ZH3 _) (.cons (ZH3 _) (.cons (ZH3 _) (LeC.one ((ZY.one (f:=inC) (x:=a) rfl).le rfl))))) (ZfC i low high [a])
def Zo9{x bd bs k dl sl st}(hst:Qg st x bd bs k dl sl){n:Nat}(hn:k.field=n)(hl:n<=I k.m.fields)(f)(hR:((Zr f.tag (QG (k.m.fields.take n))).getD (0,0)).2<4611686018427387904):
  Za ZH1 300 [.ptr x 0,.agg f.cells] st (Ws (Zjx (k.m.fields.take n) dl f) st):=by
 refine Zan (cR 300 f300) λah F hF=>?_;have ai:=(ZCZ (s:=f) (ah _ ψ)).cases;clear ah;have hx:=hst.x;have hS:=Zjx.eq_1 (k.m.fields.take n) dl f;generalize ag:k.m.fields.take n=fs at *;have e1:=Yz (vD:=Qq) ZN f.tag (QG fs);have e3:=YH ZN f.tag;simp only[show Ks f.tag=D.str f.tag from rfl]at e1 e3;refine rx @eQ0 ?_;refine rx @eQ0 ?_;refine tXD @ag (QY hx hn hl) ?_;refine cVD (ZfB fs st) ?_ ?_;rintro d S ⟨b,hb,hd,rfl⟩;cases hd;first|refine⟨by first|trivial|exact⟨rfl,rfl,trivial⟩|exact⟨rfl,trivial⟩,?_⟩|skip
 have hxb:x≠b:=λe=>by rw[e,hb]at hx;simp at hx
 generalize hr:(Zr f.tag (QG fs)).getD (0,0)=r at *;refine Yt ?_;simp only[Eqs,reduceCtorEq,ZH9,reduceIte,ZH6,ZIa,ZH7,e1,e3,ZoH,hr,ZH5,ZIk,Yp,Yq];refine Zc ?_;refine xP 3 λy hy=>?_;obtain⟨A,hA⟩:∃A,A=((st.upd b (.map (Zbz (JM fs (I fs))))).upd y (.cells f.cells)):=⟨_,rfl⟩;have ac:st.sub A:=by rw[hA];exact ZIK (ZIr _ hb) (ZIr _ hy)
 have gy:A y=sO (.cells f.cells):=by rw[hA];exact ZH5 _ _ _
 have ae:=hst.mono ac;have aj:[D.str f.name,D.int IntKind.i64 f.kind,D.int IntKind.i64 f.bits,D.bool f.little,D.bool f.loose,D.int IntKind.i64 f.low,D.int IntKind.i64 f.high,D.int IntKind.i64 f.size.base,Ye f.size.terms,D.str f.of,D.str f.tag,D.str f.from_,WE f.cases,D.int IntKind.i64 f.check,D.int IntKind.i64 f.key]=f.cells:=rfl;rw[aj,<-hA];clear hA hy;refine rg ?_;refine tX @ag (QY ae.x hn hl) ?_;refine ct (Zdx fs (.fn (.func 316) [] [.ptr y 0]) (λo=>dC (o.kind=9)&&dC (o.tag=f.tag)) (λ_=>A) (λi hi=>(Zl1 f y A gy).VT (first:=[]) (args:=[_]) (caps:=[_]))) ?_;rw[show(fs.any λo=>dC (o.kind=9)&&dC (o.tag=f.tag))=ZfQ fs f from rfl];refine rg ?_;refine cV (ZV ae.x ((Zr f.tag (QG fs)).isSome&&!ZfQ fs f) 8) ?_ ?_;rintro d S h;obtain⟨t,rfl,rfl⟩:=YD h;rw[t,ZIt]at hS;refine gR0 ?_;refine rx (nd2 @gy (nd2 @eQ0 (nd2 @WE.eq_1 @eQ1))) ?_;refine cV (ZV ae.x (dC (1<=(I f.cases:Int))&&dC ((I f.cases:Int)<=40)) 3) ?_ ?_;rintro d S2 h;obtain⟨t,rfl,rfl⟩:=YD h;rw[t,ZIt]at hS;simp only[ZIb,decide_eq_true_eq]at t;refine gR0 ?_;refine rg ?_;refine rx (nd2 @gy (nd2 @eQ0 (nd2 @WE.eq_1 @eQ1))) ?_;refine Zd (fr (I f.cases) (λi Q=>∀lo,Zct dl r.2 r.1 f.cases=Zct dl r.2 lo (f.cases.drop i)->i<=I f.cases->Q [(0,.d (.ptr x 0)),(4,.loc 4 0),(7,.d (.i lo)),(45,.d (WE f.cases)),(46,.d (.i (I f.cases))),(47,.d (.i i))] [(4,[.i r.1,.i r.2])] S2) (λn af=>?_) λak=>?_);intro i hni lo hL hi;refine rg ?_;refine Zc (Zl rfl trivial (λh1=>?_) (λh1=>?_));simp at h1;rw[Wn h1,Zct]at hL;have hcb:-9223372036854775808<=(f.cases.getD i dE).high/\(f.cases.getD i dE).high<=9223372036854775807:=(ai _ (Zu h1)).high;generalize hc:f.cases.getD i dE=c at *;refine xA (nd2 @WE.eq_1 (nd2 @eQ1 (nd2 @YB.cells.eq_1 @hc))) ?_;refine rx @YB.cells.eq_1 ?_;refine cV (Zdu ae.x lo r.2 c.low c.high) ?_ ?_;rintro d S3 h;obtain⟨ab,rfl,rfl⟩:=YD h;rw[ab,ZIt]at hL;simp only[Ys,Bool.and_true,ZIb,decide_eq_true_eq]at ab;refine gR0 ?_;refine rx @YB.cells.eq_1 ?_;refine cV (ZcT ae c.of) ?_ ?_;rintro d S4 h;obtain⟨ad,rfl,rfl⟩:=YD h;rw[ad,ZIt]at hL;refine gR0 ?_;refine xA @YB.cells.eq_1 ?_;refine gA ?_;refine Ze ?_;exact af ((I f.cases)-(i+1)) ω (i+1) rfl (c.high+1) hL ω;rintro d S4 h;obtain⟨ad,u,rfl⟩:=YC h;rw[ad,ZIE]at hL;exact hF.pan st ac (Y8 (hS.trans hL) u);rintro d S3 h;obtain⟨ab,u,rfl⟩:=YC h;rw[ab,ZIE]at hL;exact hF.pan st ac (Y8 (hS.trans hL) u);simp at h1;obtain rfl:i=I f.cases:=ω;rw[List.drop_length,Zct]at hL;refine ZO rfl ?_;exact hF.fin (.tup []) st rfl trivial (ZH3 _) ac (Zbp (hS.trans hL));exact ak _ 0 rfl r.1 rfl ω;rintro d S2 h;obtain⟨t,u,rfl⟩:=YC h;rw[t,ZIE]at hS;exact hF.pan st ac (Y8 hS u);rintro d S h;obtain⟨t,u,rfl⟩:=YC h;rw[t,ZIE]at hS;exact hF.pan st ac (Y8 hS u);rintro d S ⟨b,hb,hd,_⟩;cases hd
def Zs9(f:Fld):Fld:={ f with bits:=0,little:=false,low:=0,high:=0 }
def Zl3(f y s)(t:s y=sO (.cells f.cells)):ZL ZH1 280 [.ptr y 0] s (.tup []) (s.upd y (.cells (Zs9 f).cells)):=by
 refine Zb (cR 280 f280) λF i=>?_;refine rx (nd2 @t (nd2 @eQ0 (nd2 @ZH5 (nd2 @ZIk (nd2 @Yp @Yq))))) ?_;exact i.fin (.tup []) _ rfl trivial (ZH3 _) ZH2 ⟨rfl,rfl⟩
def Zta(f:Fld):Fld:={ f with bits:=0,little:=false,low:=0 }
def Zl5(f y s)(t:s y=sO (.cells f.cells)):ZL ZH1 284 [.ptr y 0] s (.tup []) (s.upd y (.cells (Zta f).cells)):=by
 refine Zb (cR 284 f284) λF i=>?_;refine rx (nd2 @t (nd2 @eQ0 (nd2 @ZH5 (nd2 @ZIk (nd2 @Yp @Yq))))) ?_;exact i.fin (.tup []) _ rfl trivial (ZH3 _) ZH2 ⟨rfl,rfl⟩
def Ztb(f:Fld):Fld:={ f with loose:=false,low:=0,high:=0 }
def Zl7(f y s)(t:s y=sO (.cells f.cells)):ZL ZH1 286 [.ptr y 0] s (.tup []) (s.upd y (.cells (Ztb f).cells)):=by
 refine Zb (cR 286 f286) λF i=>?_;refine rx (nd2 @t (nd2 @eQ0 (nd2 @ZH5 (nd2 @ZIk (nd2 @Yp @Yq))))) ?_;exact i.fin (.tup []) _ rfl trivial (ZH3 _) ZH2 ⟨rfl,rfl⟩
def Zn6(f:Fld):Fld:={ f with size:=⟨0,[]⟩ }
def Zl9(f y s)(t:s y=sO (.cells f.cells)):ZL ZH1 288 [.ptr y 0] s (.tup []) (s.upd y (.cells (Zn6 f).cells)):=by
 refine Zb (cR 288 f288) λF i=>?_;refine rx (nd2 @t (nd2 @eQ0 (nd2 @ZH5 (nd2 @ZIk (nd2 @Yp @Yq))))) ?_;refine Jp (ds':=(Zn6 f).cells) (ZH5 _ _ _) (.cons (ZH3 _) (.cons (ZH3 _) (.cons (ZH3 _) (.cons (ZH3 _) (.cons (ZH3 _) (.cons (ZH3 _) (.cons (ZH3 _) (.cons (ZH3 _) (.cons (YV ψ) (.cons (ZH3 _) (.cons (ZH3 _) (.cons (ZH3 _) (.cons (ZH3 _) (.cons (ZH3 _) (.cons (ZH3 _) (.nil)))))))))))))))) ?_;rw[ZIk];exact i.fin (.tup []) _ rfl trivial (ZH3 _) ZH2 ⟨rfl,rfl⟩
def Ztc(f:Fld):Fld:={ f with low:=0,high:=0 }
def Zma(f y s)(t:s y=sO (.cells f.cells)):ZL ZH1 290 [.ptr y 0] s (.tup []) (s.upd y (.cells (Ztc f).cells)):=by
 refine Zb (cR 290 f290) λF i=>?_;refine rx (nd2 @t (nd2 @eQ0 (nd2 @ZH5 (nd2 @ZIk (nd2 @Yp @Yq))))) ?_;exact i.fin (.tup []) _ rfl trivial (ZH3 _) ZH2 ⟨rfl,rfl⟩
def Ztd(f:Fld):Fld:={ f with loose:=false,high:=0 }
def ZkC(f y s)(t:s y=sO (.cells f.cells)):ZL ZH1 292 [.ptr y 0] s (.tup []) (s.upd y (.cells (Ztd f).cells)):=by
 refine Zb (cR 292 f292) λF i=>?_;refine rx (nd2 @t (nd2 @eQ0 (nd2 @ZH5 (nd2 @ZIk (nd2 @Yp @Yq))))) ?_;exact i.fin (.tup []) _ rfl trivial (ZH3 _) ZH2 ⟨rfl,rfl⟩
def Zn7(f:Fld):Fld:={ f with of:=[],size:=⟨0,[]⟩ }
def ZkE(f y s)(t:s y=sO (.cells f.cells)):ZL ZH1 294 [.ptr y 0] s (.tup []) (s.upd y (.cells (Zn7 f).cells)):=by
 refine Zb (cR 294 f294) λF i=>?_;refine rx (nd2 @t (nd2 @eQ0 (nd2 @ZH5 (nd2 @ZIk (nd2 @Yp @Yq))))) ?_;refine Jp (ds':=(Zn7 f).cells) (ZH5 _ _ _) (.cons (ZH3 _) (.cons (ZH3 _) (.cons (ZH3 _) (.cons (ZH3 _) (.cons (ZH3 _) (.cons (ZH3 _) (.cons (ZH3 _) (.cons (ZH3 _) (.cons (YV ψ) (.cons (ZH3 _) (.cons (ZH3 _) (.cons (ZH3 _) (.cons (ZH3 _) (.cons (ZH3 _) (.cons (ZH3 _) (.nil)))))))))))))))) ?_;rw[ZIk];exact i.fin (.tup []) _ rfl trivial (ZH3 _) ZH2 ⟨rfl,rfl⟩
def Zte(f:Fld):Fld:={ f with of:=[] }
def ZkG(f y s)(t:s y=sO (.cells f.cells)):ZL ZH1 297 [.ptr y 0] s (.tup []) (s.upd y (.cells (Zte f).cells)):=by
 refine Zb (cR 297 f297) λF i=>?_;refine rx (nd2 @t (nd2 @eQ0 (nd2 @ZH5 (nd2 @ZIk (nd2 @Yp @Yq))))) ?_;exact i.fin (.tup []) _ rfl trivial (ZH3 _) ZH2 ⟨rfl,rfl⟩
def Zn8(f:Fld):Fld:={ f with tag:=[],cases:=[] }
def ZkI(f y s)(t:s y=sO (.cells f.cells)):ZL ZH1 299 [.ptr y 0] s (.tup []) (s.upd y (.cells (Zn8 f).cells)):=by
 refine Zb (cR 299 f299) λF i=>?_;refine rx (nd2 @t (nd2 @eQ0 (nd2 @ZH5 (nd2 @ZIk (nd2 @Yp @Yq))))) ?_;refine Jp (ds':=(Zn8 f).cells) (ZH5 _ _ _) (.cons (ZH3 _) (.cons (ZH3 _) (.cons (ZH3 _) (.cons (ZH3 _) (.cons (ZH3 _) (.cons (ZH3 _) (.cons (ZH3 _) (.cons (ZH3 _) (.cons (ZH3 _) (.cons (ZH3 _) (.cons (ZH3 _) (.cons (ZH3 _) (.cons (YV ψ) (.cons (ZH3 _) (.cons (ZH3 _) (.nil)))))))))))))))) ?_;rw[ZIk];exact i.fin (.tup []) _ rfl trivial (ZH3 _) ZH2 ⟨rfl,rfl⟩
def ZpY(f:Fld):Fld:={ f with bits:=0 }
def ZkJ(f y s)(t:s y=sO (.cells f.cells)):ZL ZH1 301 [.ptr y 0] s (.tup []) (s.upd y (.cells (ZpY f).cells)):=by
 refine Zb (cR 301 f301) λF i=>?_;refine rx (nd2 @t (nd2 @eQ0 (nd2 @ZH5 (nd2 @ZIk (nd2 @Yp @Yq))))) ?_;exact i.fin (.tup []) _ rfl trivial (ZH3 _) ZH2 ⟨rfl,rfl⟩
def ZpZ(f:Fld):Fld:={ f with from_:=[],check:=0 }
def ZkL(f y s)(t:s y=sO (.cells f.cells)):ZL ZH1 303 [.ptr y 0] s (.tup []) (s.upd y (.cells (ZpZ f).cells)):=by
 refine Zb (cR 303 f303) λF i=>?_;refine rx (nd2 @t (nd2 @eQ0 (nd2 @ZH5 (nd2 @ZIk (nd2 @Yp @Yq))))) ?_;exact i.fin (.tup []) _ rfl trivial (ZH3 _) ZH2 ⟨rfl,rfl⟩
def Zll(f:Fld):Fld:={ f with of:=[],size:=⟨0,[]⟩,key:=0 }
def ZkN(f y s)(t:s y=sO (.cells f.cells)):ZL ZH1 305 [.ptr y 0] s (.tup []) (s.upd y (.cells (Zll f).cells)):=by
 refine Zb (cR 305 f305) λF i=>?_;refine rx (nd2 @t (nd2 @eQ0 (nd2 @ZH5 (nd2 @ZIk (nd2 @Yp @Yq))))) ?_;refine Jp (ds':=(Zll f).cells) (ZH5 _ _ _) (.cons (ZH3 _) (.cons (ZH3 _) (.cons (ZH3 _) (.cons (ZH3 _) (.cons (ZH3 _) (.cons (ZH3 _) (.cons (ZH3 _) (.cons (ZH3 _) (.cons (YV ψ) (.cons (ZH3 _) (.cons (ZH3 _) (.cons (ZH3 _) (.cons (ZH3 _) (.cons (ZH3 _) (.cons (ZH3 _) (.nil)))))))))))))))) ?_;rw[ZIk];exact i.fin (.tup []) _ rfl trivial (ZH3 _) ZH2 ⟨rfl,rfl⟩
def ck1(f:Fld):Bool:=ZdE f&&Ys 0 (2 ^ f.bits.toNat-1) [f.low,f.high]
def ck2(f:Fld):Bool:=ZdE f&&Ys 0 (2 ^ f.bits.toNat-1) [f.low]
def ck3(f:Fld):Bool:=Ys 0 34359738367 [f.low,f.high]
def ck5(f:Fld):Bool:=Ys 0 255 [f.low]&&Ys 0 1048576 [f.high]
def ck6(f:Fld):Bool:=Ys 2 1048576 [f.high]
def ck7(fs:List Fld)(dl:List (Str×Int))(f:Fld):Bool:=(Zr f.of dl).isSome&&ZfI fs f.size
def ck8(dl:List (Str×Int))(f:Fld):Bool:=(Zr f.of dl).isSome
def Zwy(f:Fld):Bool:=dC (f.bits=2) ||decide (f.bits=4) ||(dC (8<=f.bits)&&dC (f.bits<=512)&&dC (f.bits.tmod 8=0))
def Zwz(fs:List Fld)(f:Fld):Bool:=Ys 1 3 [f.check]&&dC (0<=Zi (λx=>dC (x.name=f.from_)) fs)
def ZwA(fs:List Fld)(sl:List (Str×Bool))(f:Fld):Bool:=Ys 0 4294967295 [f.key]&&((Zr f.of sl).getD false&&ZfI fs f.size)
def ZdX(f:Fld):D.agg [D.str f.name,D.int IntKind.i64 f.kind,D.int IntKind.i64 f.bits,D.bool f.little,D.bool f.loose,D.int IntKind.i64 f.low,D.int IntKind.i64 f.high,D.int IntKind.i64 f.size.base,Ye f.size.terms,D.str f.of,D.str f.tag,D.str f.from_,WE f.cases,D.int IntKind.i64 f.check,D.int IntKind.i64 f.key]=.agg f.cells:=rfl
def Zl4{x bd bs k dl sl st}(hst:Qg st x bd bs k dl sl){n:Nat}(hn:k.field=n)(hl:n<=I k.m.fields)(f):
  Za ZH1 281 [.ptr x 0,.agg f.cells] st (Ws (ck1 f) st):=by
 refine Zb (cR 281 f281) λF hF=>?_;have hS:=ck1.eq_1 f;refine rx @eQ0 ?_;refine rx @eQ0 ?_;simp only[ZdX];refine cV (ZhL hst.x f) ?_ ?_;rintro d S h;obtain⟨i,rfl,rfl⟩:=YD h;rw[i,ZIt]at hS;first|refine⟨by first|trivial|exact⟨rfl,trivial⟩,?_⟩|skip
 refine gR0 ?_;have hb1:1<=f.bits/\f.bits<=32:=by unfold ZdE at i;simp only[ZIb,decide_eq_true_eq]at i;exact i.1
 have u:=ZDw (b:=f.bits) ω ω;have h2p:=Zgz (b:=f.bits) ω ω;refine rx @eQ0 ?_;rw[u];generalize hpw:(2:Int) ^ f.bits.toNat=pw at *;refine⟨ω,ω,ω,ω,ω,?_⟩;refine cV0 (Zdu hst.x 0 (pw-1) f.low f.high) ?_ ?_;rintro d S h;obtain⟨i,rfl,rfl⟩:=YD h;rw[i]at hS;refine gR0 ?_;exact hF.fin (.tup []) _ rfl trivial (ZH3 _) ZH2 (Zbp hS);rintro d S h;obtain⟨i,t,rfl⟩:=YC h;rw[i]at hS;exact hF.pan _ ZH2 (Y8 hS t);rintro d S h;obtain⟨i,t,rfl⟩:=YC h;rw[i,ZIE]at hS;exact hF.pan _ ZH2 (Y8 hS t)
def Zl6{x bd bs k dl sl st}(hst:Qg st x bd bs k dl sl){n:Nat}(hn:k.field=n)(hl:n<=I k.m.fields)(f):
  Za ZH1 285 [.ptr x 0,.agg f.cells] st (Ws (ck2 f) st):=by
 refine Zb (cR 285 f285) λF hF=>?_;have hS:=ck2.eq_1 f;refine rx @eQ0 ?_;refine rx @eQ0 ?_;simp only[ZdX];refine cV (ZhL hst.x f) ?_ ?_;rintro d S h;obtain⟨i,rfl,rfl⟩:=YD h;rw[i,ZIt]at hS;first|refine⟨by first|trivial|exact⟨rfl,trivial⟩,?_⟩|skip
 refine gR0 ?_;have hb1:1<=f.bits/\f.bits<=32:=by unfold ZdE at i;simp only[ZIb,decide_eq_true_eq]at i;exact i.1
 have u:=ZDw (b:=f.bits) ω ω;have h2p:=Zgz (b:=f.bits) ω ω;refine rx @eQ0 ?_;rw[u];generalize hpw:(2:Int) ^ f.bits.toNat=pw at *;refine⟨ω,ω,ω,ω,ω,?_⟩;refine cV0 (QR hst.x 0 (pw-1) f.low) ?_ ?_;rintro d S h;obtain⟨i,rfl,rfl⟩:=YD h;rw[i]at hS;refine gR0 ?_;exact hF.fin (.tup []) _ rfl trivial (ZH3 _) ZH2 (Zbp hS);rintro d S h;obtain⟨i,t,rfl⟩:=YC h;rw[i]at hS;exact hF.pan _ ZH2 (Y8 hS t);rintro d S h;obtain⟨i,t,rfl⟩:=YC h;rw[i,ZIE]at hS;exact hF.pan _ ZH2 (Y8 hS t)
def Zl8{x bd bs k dl sl st}(hst:Qg st x bd bs k dl sl){n:Nat}(hn:k.field=n)(hl:n<=I k.m.fields)(f):
  Za ZH1 287 [.ptr x 0,.agg f.cells] st (Ws (ck3 f) st):=by
 refine Zb (cR 287 f287) λF hF=>?_;have u:=ck3.eq_1 f;refine rx @eQ0 ?_;refine rx @eQ0 ?_;refine cV (Zdu hst.x 0 34359738367 f.low f.high) ?_ ?_;rintro d S h;obtain⟨i,rfl,rfl⟩:=YD h;rw[i]at u;refine gR0 ?_;exact hF.fin (.tup []) _ rfl trivial (ZH3 _) ZH2 (Zbp u);rintro d S h;obtain⟨i,t,rfl⟩:=YC h;rw[i]at u;exact hF.pan _ ZH2 (Y8 u t)
def Zmb{x bd bs k dl sl st}(hst:Qg st x bd bs k dl sl){n:Nat}(hn:k.field=n)(hl:n<=I k.m.fields)(f):
  Za ZH1 291 [.ptr x 0,.agg f.cells] st (Ws (ck5 f) st):=by
 refine Zb (cR 291 f291) λF hF=>?_;have u:=ck5.eq_1 f;refine rx @eQ0 ?_;refine rx @eQ0 ?_;refine cV (QR hst.x 0 255 f.low) ?_ ?_;rintro d S h;obtain⟨i,rfl,rfl⟩:=YD h;rw[i,ZIt]at u;first|refine⟨by first|trivial|exact⟨rfl,trivial⟩,?_⟩|skip
 refine gR0 ?_;refine rx @eQ0 ?_;refine cV (QR hst.x 0 1048576 f.high) ?_ ?_;rintro d S h;obtain⟨i,rfl,rfl⟩:=YD h;rw[i]at u;refine gR0 ?_;exact hF.fin (.tup []) _ rfl trivial (ZH3 _) ZH2 (Zbp u);rintro d S h;obtain⟨i,t,rfl⟩:=YC h;rw[i]at u;exact hF.pan _ ZH2 (Y8 u t);rintro d S h;obtain⟨i,t,rfl⟩:=YC h;rw[i,ZIE]at u;exact hF.pan _ ZH2 (Y8 u t)
def ZkD{x bd bs k dl sl st}(hst:Qg st x bd bs k dl sl){n:Nat}(hn:k.field=n)(hl:n<=I k.m.fields)(f):
  Za ZH1 293 [.ptr x 0,.agg f.cells] st (Ws (ck6 f) st):=by
 refine Zb (cR 293 f293) λF hF=>?_;have u:=ck6.eq_1 f;refine rx @eQ0 ?_;refine rx @eQ0 ?_;refine cV (QR hst.x 2 1048576 f.high) ?_ ?_;rintro d S h;obtain⟨i,rfl,rfl⟩:=YD h;rw[i]at u;refine gR0 ?_;exact hF.fin (.tup []) _ rfl trivial (ZH3 _) ZH2 (Zbp u);rintro d S h;obtain⟨i,t,rfl⟩:=YC h;rw[i]at u;exact hF.pan _ ZH2 (Y8 u t)
def ZkF{x bd bs k dl sl st}(hst:Qg st x bd bs k dl sl){n:Nat}(hn:k.field=n)(hl:n<=I k.m.fields)(f):
  Za ZH1 295 [.ptr x 0,.agg f.cells] st (Ws (ck7 (k.m.fields.take n) dl f) st):=by
 refine Zb (cR 295 f295) λF hF=>?_;have u:=ck7.eq_1 (k.m.fields.take n) dl f;refine rx @eQ0 ?_;refine rx @eQ0 ?_;refine cV (ZcT hst f.of) ?_ ?_;rintro d S h;obtain⟨i,rfl,rfl⟩:=YD h;rw[i,ZIt]at u;first|refine⟨by first|trivial|exact⟨rfl,trivial⟩,?_⟩|skip
 refine gR0 ?_;refine rx @eQ0 ?_;simp only[ZdX];refine cV (ZcU hst.x hn hl f) ?_ ?_;rintro d S h;obtain⟨i,rfl,rfl⟩:=YD h;rw[i]at u;refine gR0 ?_;exact hF.fin (.tup []) _ rfl trivial (ZH3 _) ZH2 (Zbp u);rintro d S h;obtain⟨i,t,rfl⟩:=YC h;rw[i]at u;exact hF.pan _ ZH2 (Y8 u t);rintro d S h;obtain⟨i,t,rfl⟩:=YC h;rw[i,ZIE]at u;exact hF.pan _ ZH2 (Y8 u t)
def ZkH{x bd bs k dl sl st}(hst:Qg st x bd bs k dl sl){n:Nat}(hn:k.field=n)(hl:n<=I k.m.fields)(f):
  Za ZH1 298 [.ptr x 0,.agg f.cells] st (Ws (ck8 dl f) st):=by
 refine Zb (cR 298 f298) λF hF=>?_;have u:=ck8.eq_1 dl f;refine rx @eQ0 ?_;refine rx @eQ0 ?_;refine cV (ZcT hst f.of) ?_ ?_;rintro d S h;obtain⟨i,rfl,rfl⟩:=YD h;rw[i]at u;refine gR0 ?_;exact hF.fin (.tup []) _ rfl trivial (ZH3 _) ZH2 (Zbp u);rintro d S h;obtain⟨i,t,rfl⟩:=YC h;rw[i]at u;exact hF.pan _ ZH2 (Y8 u t)
def ZkK{x bd bs k dl sl st}(hst:Qg st x bd bs k dl sl){n:Nat}(hn:k.field=n)(hl:n<=I k.m.fields)(f):
  Za ZH1 302 [.ptr x 0,.agg f.cells] st (Ws (Zwy f) st):=by
 refine Zb (cR 302 f302) λF hF=>?_;have u:=Zwy.eq_1 f;refine rx @eQ0 ?_;refine rx @eQ0 ?_;have ht1:=Int.tmod_lt_of_pos f.bits (by decide:(0:Int)<8);have ht2:=Int.lt_tmod_of_pos f.bits (by decide:(0:Int)<8);refine⟨λ_=>⟨by decide,ω,ω⟩,?_⟩;refine cV (ZV hst.x (dC (f.bits=2) ||decide (f.bits=4) ||decide (8<=f.bits)&&dC (f.bits<=512)&&dC (f.bits.tmod 8=0)) 6) ?_ ?_;rintro d S h;obtain⟨i,rfl,rfl⟩:=YD h;rw[i]at u;refine gR0 ?_;exact hF.fin (.tup []) _ rfl trivial (ZH3 _) ZH2 (Zbp u);rintro d S h;obtain⟨i,t,rfl⟩:=YC h;rw[i]at u;exact hF.pan _ ZH2 (Y8 u t)
def ZkM{x bd bs k dl sl st}(hst:Qg st x bd bs k dl sl){n:Nat}(hn:k.field=n)(hl:n<=I k.m.fields)(f):
  Za ZH1 304 [.ptr x 0,.agg f.cells] st (Ws (Zwz (k.m.fields.take n) f) st):=by
 refine Zb (cR 304 f304) λF hF=>?_;have u:=Zwz.eq_1 (k.m.fields.take n) f;refine rx @eQ0 ?_;refine rx @eQ0 ?_;refine cV (QR hst.x 1 3 f.check) ?_ ?_;rintro d S h;obtain⟨i,rfl,rfl⟩:=YD h;rw[i,ZIt]at u;first|refine⟨by first|trivial|exact⟨rfl,trivial⟩,?_⟩|skip
 refine gR0 ?_;refine rx @eQ0 ?_;refine tXD (nd2 @Zq.eq_1 @eQ1) (QY hst.x hn hl) ?_;refine clD ((ZcS ⟨[],k.m.fields.take n⟩ f.from_)) ?_;refine rg ?_;refine cV (ZV hst.x (dC (0<=Zi (λx=>dC (x.name=f.from_)) (k.m.fields.take n))) 8) ?_ ?_;rintro d S h;obtain⟨i,rfl,rfl⟩:=YD h;rw[i]at u;refine gR0 ?_;exact hF.fin (.tup []) _ rfl trivial (ZH3 _) ZH2 (Zbp u);rintro d S h;obtain⟨i,t,rfl⟩:=YC h;rw[i]at u;exact hF.pan _ ZH2 (Y8 u t);rintro d S h;obtain⟨i,t,rfl⟩:=YC h;rw[i,ZIE]at u;exact hF.pan _ ZH2 (Y8 u t)
def ZkO{x bd bs k dl sl st}(u:Qg st x bd bs k dl sl){n:Nat}(hn:k.field=n)(hl:n<=I k.m.fields)(f):
  Za ZH1 306 [.ptr x 0,.agg f.cells] st (Ws (ZwA (k.m.fields.take n) sl f) st):=by
 refine Zb (cR 306 f306) λF hF=>?_;have hS:=ZwA.eq_1 (k.m.fields.take n) sl f;refine rx @eQ0 ?_;refine rx @eQ0 ?_;refine cV (QR u.x 0 4294967295 f.key) ?_ ?_;rintro d S h;obtain⟨i,rfl,rfl⟩:=YD h;rw[i,ZIt]at hS;first|refine⟨by first|trivial|exact⟨rfl,trivial⟩,?_⟩|skip
 refine gR0 ?_;have e1:=Yz (vD:=D.bool) ZN f.of sl;have e3:=YH ZN f.of;simp only[show Ks f.of=D.str f.of from rfl]at e1 e3;refine rh ?_;refine YM ?_;simp only[Eqs,reduceCtorEq,ZH9,reduceIte,ZH6,ZIa,ZH7,Fld.cells,u.x,u.bs,Ck.cells,e1,e3,Znp];refine cV0 (ZV u.x ((Zr f.of sl).getD false) 8) ?_ ?_;rintro d S h;obtain⟨i,rfl,rfl⟩:=YD h;rw[i,ZIt]at hS;first|refine⟨by first|trivial|exact⟨rfl,trivial⟩,?_⟩|skip
 refine gR0 ?_;refine rx @eQ0 ?_;simp only[ZdX];refine cV (ZcU u.x hn hl f) ?_ ?_;rintro d S h;obtain⟨i,rfl,rfl⟩:=YD h;rw[i]at hS;refine gR0 ?_;exact hF.fin (.tup []) _ rfl trivial (ZH3 _) ZH2 (Zbp hS);rintro d S h;obtain⟨i,t,rfl⟩:=YC h;rw[i]at hS;exact hF.pan _ ZH2 (Y8 hS t);rintro d S h;obtain⟨i,t,rfl⟩:=YC h;rw[i,ZIE]at hS;exact hF.pan _ ZH2 (Y8 hS t);rintro d S h;obtain⟨i,t,rfl⟩:=YC h;rw[i,ZIE]at hS;exact hF.pan _ ZH2 (Y8 hS t)
def ZyY(f:Fld):List D:=[.str f.name,.str f.of,.str f.tag,.str f.from_,.i f.kind,.i f.bits,.i f.low,.i f.high,.i f.size.base,.i f.check,.i f.key,.bool f.little,.bool f.loose]
def Zgp(f):Zf ZH1 307 [.agg f.cells] (.agg (ZyY f)):=by
 refine Zh (cR 307 f307) λF st i=>?_;refine rx @eQ0 ?_;refine rx @eQ0 ?_;exact i rfl (by first|trivial|simp) (ZH3 _) ZH2
def Zjf(a b:Fld):Zf ZH1 269 [.agg a.cells,.agg b.cells] (.bool (dC (a=b))):=by
 refine Zh (cR 269 f269) λF st ae=>?_;refine rx @eQ0 ?_;refine rx @eQ0 ?_;simp only[ZdX];refine clD (Zgp a) ?_;refine cXD @ZyY.eq_1 (Zgp b) ?_;refine cGD (ZiT a.size.terms b.size.terms) ?_;refine cGD (ZiS a.cases b.cases) ?_;refine ae rfl φ (ZeO ?_) ZH2;rw[Bool.eq_iff_iff];simp only[ZIb,decide_eq_true_eq];constructor;rintro⟨⟨⟨h1,h2,h3,h4,h5,h6,h7,h8,h9,i,t,u,ab⟩,ac⟩,ad⟩;obtain⟨n1,k1,b1,l1,o1,lo1,hi1,⟨sb1,st1⟩,of1,t1,f1,c1,ch1,ke1⟩:=a;obtain⟨n2,k2,b2,l2,o2,lo2,hi2,⟨sb2,st2⟩,of2,t2,f2,c2,ch2,ke2⟩:=b;simp only at h1 h2 h3 h4 h5 h6 h7 h8 h9 i t u ab ac ad;subst h1;subst h2;subst h3;subst h4;subst h5;subst h6;subst h7;subst h8;subst h9;subst i;subst t;subst u;subst ab;subst ac;subst ad;rfl;rintro rfl;simp
abbrev Zsi(x:Nat×Nat):D:=.agg [.fn (.func x.1) [] [],.fn (.func x.2) [] []]
def ZiB:List (Int×(Nat×Nat)):=[(1,(280,281)),(2,(284,285)),(3,(286,287)),(4,(288,289)),(5,(290,291)),(6,(292,293)),(7,(294,295)),(8,(297,298)),(9,(299,300)),(10,(301,302)),(11,(303,304)),(12,(305,306))]
def Zpa(st):Za ZH1 268 [] st λr S=>∃b,st b=nO/\r=.ret (.map b)/\S=st.upd b (.map (WD YR Zsi ZiB)):=by
 refine Zb (cR 268 f268) λF i=>?_;refine rg ?_;refine rh ?_;refine Zp ?_;simp only[Eqs,reduceCtorEq,ZH9,reduceIte,ZH6,ZIa,ZH7,JR,ZIJ,decide_false,ZH5,ZIk,Yp,Yq];intro b t;exact i.ret _ _ rfl φ (ZH3 _) ZH2 ⟨b,t,rfl,rfl⟩
def ZeV(n:Str)(k:Int):Fld:=⟨n,k,0,false,false,0,0,⟨0,[]⟩,[],[],[],[],0,0⟩
def Zfc(f:Fld):Fld :=
 if f.kind=1 then Zs9 f else if f.kind=2 then Zta f else if f.kind=3 then Ztb f else if f.kind=4 then Zn6 f else if f.kind=5 then Ztc f else if f.kind=6 then Ztd f
 else if f.kind=7 then Zn7 f else if f.kind=8 then Zte f else if f.kind=9 then Zn8 f else if f.kind=10 then ZpY f else if f.kind=11 then ZpZ f else Zll f
def Ze8(fs:List Fld)(dl:List (Str×Int))(sl:List (Str×Bool))(f:Fld):Bool :=
 if f.kind=1 then ck1 f else if f.kind=2 then ck2 f else if f.kind=3 then ck3 f else if f.kind=4 then ZfI fs f.size else if f.kind=5 then ck5 f else if f.kind=6 then ck6 f
 else if f.kind=7 then ck7 fs dl f else if f.kind=8 then ck8 dl f else if f.kind=9 then Zjx fs dl f else if f.kind=10 then Zwy f else if f.kind=11 then Zwz fs f else ZwA fs sl f
def Ji(f:Fld):Bool:=dC (1<=f.kind)&&dC (f.kind<=12)
def ZBZ{x bd bs k dl sl st}(t:Qg st x bd bs k dl sl){n:Nat}(hn:k.field=n)(hl:n<=I k.m.fields)(f)(hR:((Zr f.tag (QG (k.m.fields.take n))).getD (0,0)).2<4611686018427387904)(hk:Ji f=true):
  ∃c q,Zr f.kind ZiB=sO (c,q)/\(∀y s,s y=sO (.cells f.cells)->ZL ZH1 c [.ptr y 0] s (.tup []) (s.upd y (.cells (Zfc f).cells))) /\
   ∀A,st.sub A->Za ZH1 q [.ptr x 0,.agg f.cells] A (Ws (Ze8 (k.m.fields.take n) dl sl f) A):=by
 unfold Ji at hk;simp only[ZIb,decide_eq_true_eq]at hk;have i:f.kind=1\/f.kind=2\/f.kind=3\/f.kind=4\/f.kind=5\/f.kind=6\/f.kind=7\/f.kind=8\/f.kind=9\/f.kind=10\/f.kind=11\/f.kind=12:=ω;unfold Zfc Ze8;rcases i with h|h|h|h|h|h|h|h|h|h|h|h<;>simp only[h,ZIJ,if_true,if_false];exact⟨_,_,rfl,λy s hy=>Zl3 f y s hy,λA u=>Zl4 (t.mono u) hn hl f⟩;exact⟨_,_,rfl,λy s hy=>Zl5 f y s hy,λA u=>Zl6 (t.mono u) hn hl f⟩;exact⟨_,_,rfl,λy s hy=>Zl7 f y s hy,λA u=>Zl8 (t.mono u) hn hl f⟩;exact⟨_,_,rfl,λy s hy=>Zl9 f y s hy,λA u=>ZcU (t.mono u).x hn hl f⟩;exact⟨_,_,rfl,λy s hy=>Zma f y s hy,λA u=>Zmb (t.mono u) hn hl f⟩;exact⟨_,_,rfl,λy s hy=>ZkC f y s hy,λA u=>ZkD (t.mono u) hn hl f⟩;exact⟨_,_,rfl,λy s hy=>ZkE f y s hy,λA u=>ZkF (t.mono u) hn hl f⟩;exact⟨_,_,rfl,λy s hy=>ZkG f y s hy,λA u=>ZkH (t.mono u) hn hl f⟩;exact⟨_,_,rfl,λy s hy=>ZkI f y s hy,λA u=>Zo9 (t.mono u) hn hl f hR⟩;exact⟨_,_,rfl,λy s hy=>ZkJ f y s hy,λA u=>ZkK (t.mono u) hn hl f⟩;exact⟨_,_,rfl,λy s hy=>ZkL f y s hy,λA u=>ZkM (t.mono u) hn hl f⟩;exact⟨_,_,rfl,λy s hy=>ZkN f y s hy,λA u=>ZkO (t.mono u) hn hl f⟩
def ZyK{f}(i:Ji f=false):Zr f.kind ZiB=nO:=by
 rw[ZyA];unfold Ji at i;simp only[Bool.and_eq_false_iff,decide_eq_false_iff_not]at i;simp only[ZiB,ZIj,ZIA,ZIF,List.not_mem_nil,or_false];omega
def QT(fs:List Fld)(dl:List (Str×Int))(sl:List (Str×Bool))(f:Fld):Bool :=
 Y7 f.name&&(!dC (0<=Zi (λx=>dC (x.name=f.name)) fs)&&(Ji f&&(dC (Zfc f=ZeV f.name f.kind)&&Ze8 fs dl sl f)))
def Zl2{x bd bs k dl sl st}(hst:Qg st x bd bs k dl sl){n:Nat}(hn:k.field=n)(hl:n<=I k.m.fields)(f)(hR:((Zr f.tag (QG (k.m.fields.take n))).getD (0,0)).2<4611686018427387904):
  Za ZH1 249 [.ptr x 0,.agg f.cells] st (Ws (QT (k.m.fields.take n) dl sl f) st):=by
 refine Zb (cR 249 f249) λF hF=>?_;have hS:=QT.eq_1 (k.m.fields.take n) dl sl f;refine rx @eQ0 ?_;refine rx @eQ0 ?_;refine cl (Za2 f.name) ?_;refine cV (ZV hst.x (Y7 f.name) 1) ?_ ?_
 .rintro d S h;obtain⟨ah,rfl,rfl⟩:=YD h;rw[ah,ZIt]at hS;refine gR0 ?_;refine rx @eQ0 ?_;refine tXD (nd2 @Zq.eq_1 @eQ1) (QY hst.x hn hl) ?_;refine clD ((ZcS ⟨[],k.m.fields.take n⟩ f.name)) ?_;refine rg ?_;refine cV (ZV hst.x (!dC (0<=Zi (λx=>dC (x.name=f.name)) (k.m.fields.take n))) 2) ?_ ?_
  .rintro d S2 h;obtain⟨t,rfl,rfl⟩:=YD h;rw[t,ZIt]at hS;refine gR0 ?_;refine rx @eQ0 ?_;refine cVD (Zpa S2) ?_ ?_
   .rintro d S3 ⟨b,hb,hd,rfl⟩;cases hd;refine⟨by first|trivial|exact⟨rfl,trivial⟩,?_⟩;have e1:=Yz (vD:=Zsi) Zdj f.kind ZiB;have e3:=YH Zdj f.kind;simp only[show YR f.kind=D.i f.kind from rfl]at e1 e3;have ag:=ZIr (.map (WD YR Zsi ZiB)) hb;cases af:Ji f with
    |false =>rw[af,ZIE]at hS;rw[ZyK af]at e1;refine gQ (nd2 @e1 (nd2 @e3 (nd2 @ZH5 (nd2 @ZIk (nd2 @Yp @Yq))))) ?_;refine rg ?_;refine cV (ZV (hst.mono ag).x false 4) ?_ ?_;rintro d S4 h;exact absurd (YD h).1 ψ;rintro d S4 h;obtain⟨_,i,rfl⟩:=YC h;exact hF.pan S2 ag (Y8 hS i)
    |true =>rw[af,ZIt]at hS;obtain⟨c,q,hg,ae,ad⟩:=ZBZ hst hn hl f hR af;rw[hg]at e1;refine gQ (nd2 @e1 (nd2 @e3 (nd2 @ZH5 (nd2 @ZIk (nd2 @Yp @Yq))))) ?_;refine rg ?_;refine cV (ZV (hst.mono ag).x true 4) ?_ ?_;rintro d S4 h;obtain⟨_,rfl,rfl⟩:=YD h;refine gR0 ?_;refine rx @eQ0 ?_;refine Zc ?_;refine xP 7 λy hy=>?_;have ai:[D.str f.name,D.int IntKind.i64 f.kind,D.int IntKind.i64 f.bits,D.bool f.little,D.bool f.loose,D.int IntKind.i64 f.low,D.int IntKind.i64 f.high,D.int IntKind.i64 f.size.base,Ye f.size.terms,D.str f.of,D.str f.tag,D.str f.from_,WE f.cases,D.int IntKind.i64 f.check,D.int IntKind.i64 f.key]=f.cells:=rfl;simp only[ai];have ac:∀o,S2.sub (((S2.upd b (.map (WD YR Zsi ZiB)))).upd y o):=λo=>ZIK ag (ZIr _ hy);refine rg ?_;refine ct (ae y _ (ZH5 _ _ _)) ?_;simp only[ZIk];refine rx (nd2 @eQ0 (nd2 @ZH5 (nd2 @ZIk (nd2 @Yp @Yq)))) ?_;simp only[ZdX];refine ZaK rfl rfl rfl rfl rfl φ φ (by exact(Zjf (Zfc f) (ZeV f.name f.kind)).leA (LeC.two (ZH3 _) (ZsH (cs':=(ZeV f.name f.kind).cells) (.cons (ZH3 _) (.cons (ZH3 _) (.cons (ZH3 _) (.cons (ZH3 _) (.cons (ZH3 _) (.cons (ZH3 _) (.cons (ZH3 _) (.cons (ZH3 _) (.cons (YV ψ) (.cons (ZH3 _) (.cons (ZH3 _) (.cons (ZH3 _) (.cons (YV ψ) (.cons (ZH3 _) (.cons (ZH3 _) .nil)))))))))))))))))) (Zp ?_);simp only[Eqs,reduceCtorEq,ZH9,reduceIte,ZH6,ZIa,ZH7];refine cV (ZV (hst.mono (ac _)).x (dC (Zfc f=ZeV f.name f.kind)) 5) ?_ ?_;rintro d S5 h;obtain⟨u,rfl,rfl⟩:=YD h;rw[u,ZIt]at hS;refine gR0 ?_;refine rx @eQ0 ?_;simp only[ZdX];refine cV (ad _ (ac _)) ?_ ?_;rintro d S6 h;obtain⟨ab,rfl,rfl⟩:=YD h;rw[ab]at hS;refine gR0 ?_;exact hF.fin (.tup []) S2 rfl trivial (ZH3 _) (ac _) (Zbp hS);rintro d S6 h;obtain⟨ab,i,rfl⟩:=YC h;rw[ab]at hS;exact hF.pan S2 (ac _) (Y8 hS i);rintro d S5 h;obtain⟨u,i,rfl⟩:=YC h;rw[u,ZIE]at hS;exact hF.pan S2 (ac _) (Y8 hS i);rintro d S4 h;exact absurd (YC h).1 ψ
   rintro d S3 ⟨b,hb,hd,_⟩;cases hd
  rintro d S2 h;obtain⟨t,i,rfl⟩:=YC h;rw[t,ZIE]at hS;exact hF.pan _ ZH2 (Y8 hS i)
 rintro d S h;obtain⟨ah,i,rfl⟩:=YC h;rw[ah,ZIE]at hS;exact hF.pan _ ZH2 (Y8 hS i)
def ddS(l:List Str):List Str:=l.foldl Zcn []
def ZuC(l i:List Str):∃r,l.foldl Zcn i=i++r:=by
 induction l generalizing i with
 |nil=>exact⟨[],ψ⟩
 |cons x r ih =>obtain⟨q,t⟩:=ih (Zcn i x);rw[List.foldl_cons,t];unfold Zcn;split;exact⟨q,rfl⟩;exact⟨[x]++q,ψ⟩
def Zti{l:List Str}{i}(h:i<I l):ddS (l.take (i+1))=Zcn (ddS (l.take i)) (l.getD i dE):=by
 unfold ddS;rw[Yo h,List.foldl_append];rfl
def Zvt{l s}:s∈ddS l↔s∈l:=by unfold ddS;rw[Zhy];simp
def ZBI(l i):∃r,ddS l=ddS (l.take i)++r:=by
 conv=>enter [1,r];lhs;rw[<-List.take_append_drop i l]
 unfold ddS;rw[List.foldl_append];exact ZuC _ _
def ZCW{l i}(h:i<I l)(hn:l.getD i dE∉l.take i):(ddS (l.take i)).length<(ddS l).length/\(ddS l).getD (ddS (l.take i)).length dE=l.getD i dE/\(ddS (l.take (i+1))).length=(ddS (l.take i)).length+1:=by
 have t:=Zti h;have hm:l.getD i dE∉ddS (l.take i):=λhm=>hn (Zvt.1 hm);rw[Zcn,if_neg hm]at t;obtain⟨r,u⟩:=ZBI l (i+1);rw[t]at u;refine⟨by rw[u];simp,by rw[u];simp[ZIg],by rw[t];simp⟩
def Zz4{l:List Str}{i}(h:i<I l)(t:l.getD i dE∈l.take i):ddS (l.take (i+1))=ddS (l.take i):=by
 rw[Zti h,Zcn,if_pos (Zvt.2 t)]
def ZjJ(l:List Str)(i)(h:i<=I l){tk s}:Zf ZH1 271 [.sl tk i 1 (λi=>[.str (l.getD i dE)]),.str s] (.bool (dC (s∈l.take i))):=by
 have t:ZY ZbZ (λi=>[.str (l.getD i dE)]) (l.take i):=(ZY.self (f:=ZbZ) (l:=l)).take i;exact(ZeJ (l.take i) s).leA (LeC.two (t.le (by rw[ZIm];omega)) (ZH3 _))
def ZkA(l)(hl:I l<=big)(x):Zc7 ZH1 (.fn (.func 270) [] [.ptr x 0]) (ddS l).length (λj=>[.str ((ddS l).getD j dE)]) (ZIu x (.cells [Zbi l])):=by
 intro y go A a0 af hA hd;have hw:=hl;unfold big at hw;refine Za.V (first:=[]) (args:=[y]) (caps:=[.ptr x 0]) (Zb (cR 270 f270) λF hF=>?_);have hx:∀a,Z8 a (ZIu x (.cells [Zbi l]))->(a.or (ZIu x (.cells [Zbi l]))) x=sO (.cells [Zbi l]):=λa ai=>by rw[ZG (ai x _ Yi),Yi]
 generalize hT:ZIu x (.cells [Zbi l])=T at *;refine rh ?_;refine Zp ?_;simp only[Eqs,reduceCtorEq,ZH9,reduceIte,ZH6,ZIa,ZH7,hx a0 hd,Zbi,slD];refine Zd (fr (I l) (λi Q=>∀a,A (ddS (l.take i)).length a->Z8 a T->(∀j,j<(ddS (l.take i)).length->go j=.next)->i<=I l->Q [(0,.d y),(1,.d (.ptr x 0)),(5,.d (Zbi l)),(6,.d (.i (I l))),(7,.d (.i i))] [] (a.or T)) (λn ab=>?_) λaj=>?_)
 .clear hA hd;intro i hn a hA hd u hi;refine rg ?_;refine Zc (Zl rfl trivial (λh1=>?_) (λh1=>?_))
  .simp at h1;by_cases hm:l.getD i dE∈l.take i;have ah:=Zz4 h1 hm;refine xA (nd2 @Zbi.eq_1 @eQ1) ?_;refine rh ?_;refine Zp ?_;simp only[Eqs,reduceCtorEq,ZH9,reduceIte,ZH6,ZIa,ZH7,hx a hd,Zbi,slD];refine aa ?_;refine ZaK rfl rfl rfl rfl rfl φ φ (by exact ZjJ l i ω) (Zp ?_);simp only[Eqs,reduceCtorEq,ZH9,reduceIte,ZH6,ZIa,ZH7,decide_eq_true hm];refine Zao rfl (e:=.d (.bool false)) (Zp ?_);simp only[Eqs,reduceCtorEq,ZH9,reduceIte,ZH6,ZIa,ZH7];refine i0 ?_;refine gA ?_;refine Ze ?_;exact ab ((I l)-(i+1)) ω (i+1) rfl a (by rw[ah];exact hA) hd (by rw[ah];exact u) ω;have ac:=ZCW h1 hm;refine xA (nd2 @Zbi.eq_1 @eQ1) ?_;refine rh ?_;refine Zp ?_;simp only[Eqs,reduceCtorEq,ZH9,reduceIte,ZH6,ZIa,ZH7,hx a hd,Zbi,slD];refine aa ?_;refine ZaK rfl rfl rfl rfl rfl φ φ (by exact ZjJ l i ω) (Zp ?_);simp only[Eqs,reduceCtorEq,ZH9,reduceIte,ZH6,ZIa,ZH7,decide_eq_false hm];have ad:=(af _ ac.1 u a hA).frame hd;simp only[ac.2.1]at ad;refine vV (ad) ?_ ?_
   .rintro d S ⟨s',⟨hr,ae⟩,ag,rfl⟩;cases t:go (ddS (l.take i)).length with
    |next =>rw[t]at hr;cases hr;refine gR0 ?_;refine i0 ?_;refine gA ?_;refine Ze ?_;exact ab ((I l)-(i+1)) ω (i+1) rfl s' (by rw[ac.2.2];exact ae) ag (by rw[ac.2.2];exact Yc (q:=λi=>go i=.next) u t) ω
    |stop c =>rw[t]at hr;cases hr;refine gR0 ?_;refine i1 ?_;exact hF.ret (.tup []) _ rfl trivial (ZH3 _) ZH2 ⟨s',.stop _ c ac.1 u t ae,KD⟩
    |pan d=>rw[t]at hr;cases hr
   rintro d S ⟨s',⟨hr,ae⟩,ag,rfl⟩;cases t:go (ddS (l.take i)).length with
   |pan d' =>rw[t]at hr;cases hr;exact hF.pan _ ZH2 ⟨s',.pan _ d ac.1 u t ae,KD⟩
   |next=>rw[t]at hr;cases hr
   |stop c=>rw[t]at hr;cases hr
  simp at h1;obtain rfl:i=I l:=ω;rw[ZIC]at hA u;refine ZO rfl ?_;exact hF.fin (.tup []) _ rfl trivial (ZH3 _) ZH2 ⟨a,.all u hA,KD⟩
 exact aj _ 0 rfl a0 hA hd (by intro i hi;simp[ddS]at hi) ω
def Znz(m:Msg)(hb:(m.fields.flatMap Yv).length<=1000000){st}:Za ZH1 250 [.agg m.cells] st λr S=>∃x,st x=nO/\r=.ret (.fn (.func 270) [] [.ptr x 0])/\S=st.or (ZIu x (.cells [Zbi (m.fields.flatMap Yv)])):=by
 refine Zan (cR 250 f250) λal F hF=>?_;have hw:=(ZyQ (s:=m) (al _ ψ)).nfields;have ap:=(ZyQ (s:=m) (al _ ψ)).fields;unfold big at hw;clear al;refine rx @eQ3 ?_;refine rg ?_;refine rx (nd2 @eQ3 (nd2 @Zq.eq_1 @eQ1)) ?_;refine Zd ?_;refine kl (st) [(3,.loc 3 0),(9,.d (Zq m.fields)),(10,.d (.i (I m.fields))),(11,.d (.i (0:Nat)))] [(3,[.sl .full 0 1 λ_=>[]])] Js (.cons (.cons (YV ψ) .nil) .nil) ?_;refine fr (I m.fields) (λi Q=>∀tk row t,tk.okIn st->ZY (λs=>[.str s]) row t->t=(m.fields.take i).flatMap Yv->i<=I m.fields->Q [(3,.loc 3 0),(9,.d (Zq m.fields)),(10,.d (.i (I m.fields))),(11,.d (.i i))] [(3,[.sl tk (I t) 1 row])] (st.own tk (I t*1))) (λn ae=>?_) λar=>?_;intro i hn tk row t ag u ad hi;refine rg ?_;refine Zc (Zl rfl trivial (λh1=>?_) (λh1=>?_));simp at h1;have af:=ZlX m.fields i h1;have ac:=Zje m.fields (i+1);rw[af,ZIc,<-ad]at ac;have aq:=(ap _ (Zu h1)).ncases;unfold big at aq;generalize hf:m.fields.getD i dE=f at *;refine xA (nd2 @Zq.eq_1 (nd2 @eQ1 (nd2 @eQ0 @hf))) ?_;refine rx @eQ0 ?_;refine rg ?_;refine jU [0] (λQ=>∀bb:Bool,bb=(dC (f.kind=7) ||(dC (f.kind=8) ||decide (f.kind=12)))->Q F [(3,.loc 3 0),(5,.loc 5 0),(9,.d (Zq m.fields)),(10,.d (.int .i64 (I m.fields))),(11,.d (.int .i64 i)),(16,.d (.int .i64 f.kind)),(17,.d (.bool bb))] [(3,[.sl tk (I t) 1 row]),(5,f.cells)] (st.own tk (I t*1))) ?_ λjn=>?_;intro bb ai;refine cd (λh3=>?_) (λh3=>?_);have aj:Yv f=[f.of]:=by
  subst h3;have h9:¬f.kind=9:=by intro e;rw[e]at ai;simp at ai
  unfold Yv Za0;rw[<-ai,if_pos rfl,if_neg h9,ZIy]
 rw[aj]at af ac;simp only[ZIi,List.length_nil]at ac;refine rx @eQ0 ?_;refine ZaJ (st) (tk) rfl rfl rfl rfl rfl rfl φ φ rfl (by first|trivial|assumption) ω (by (unfold big;omega)) λt1 ak=>Zp ?_;simp only[Eqs,reduceCtorEq,ZH9,reduceIte,ZH6,ZIa,ZH7];refine gA ?_;refine Ze ?_;have ab:=ae ((I m.fields)-(i+1)) ω (i+1) rfl t1 _ (t++[f.of]) ak (u.snoc (x:=f.of) (row2:=ZZ [.str []] ([0].zip [.str f.of])) rfl rfl) (by rw[af,ad]) ω;rw[ZIc]at ab;exact ab;have aj:Yv f=if f.kind=9 then f.cases.map (·.of) else []:=by subst h3;unfold Yv Za0;rw[<-ai,if_neg ψ,List.nil_append]
 rw[aj]at af ac;refine rg ?_;refine cd (λh4=>?_) (λh4=>?_);have h9:f.kind=9:=by simpa using h4
 rw[if_pos h9]at af ac;simp only[ZIo]at ac;refine rx (nd2 @eQ0 (nd2 @WE.eq_1 @eQ1)) ?_;refine Zd (fr (I f.cases) (λq Q=>∀tk row o,tk.okIn st->ZY (λs=>[.str s]) row o->o=t++(f.cases.take q).map (·.of)->q<=I f.cases->Q [(3,.loc 3 0),(9,.d (Zq m.fields)),(10,.d (.i (I m.fields))),(11,.d (.i i)),(29,.d (WE f.cases)),(30,.d (.i (I f.cases))),(31,.d (.i q))] [(3,[.sl tk (I o) 1 row])] (st.own tk (I o*1))) (λn ah=>?_) λao=>?_);clear u ag;intro q hnq tk row o ag u ho hq;have hol:I o=I t+q:=by rw[ho];simp;omega
 refine rg ?_;refine Zc (Zl rfl trivial (λh5=>?_) (λh5=>?_));simp at h5;have am:(f.cases.take (q+1)).map (·.of)=(f.cases.take q).map (·.of)++[(f.cases.getD q dE).of]:=by rw[Yo h5,List.map_append];rfl
 generalize hc:f.cases.getD q dE=c at *;refine xA (nd2 @WE.eq_1 (nd2 @eQ1 (nd2 @YB.cells.eq_1 @hc))) ?_;refine rx @YB.cells.eq_1 ?_;refine ZaJ (st) (tk) rfl rfl rfl rfl rfl rfl φ φ rfl (by first|trivial|assumption) ω (by (unfold big;omega)) λt1 ak=>Zp ?_;simp only[Eqs,reduceCtorEq,ZH9,reduceIte,ZH6,ZIa,ZH7];refine gA ?_;refine Ze ?_;have ab:=ah ((I f.cases)-(q+1)) ω (q+1) rfl t1 _ (o++[c.of]) ak (u.snoc (x:=c.of) (row2:=ZZ [.str []] ([0].zip [.str c.of])) rfl rfl) (by rw[am,ho,ZIv]) ω;rw[ZIc]at ab;exact ab;simp at h5;obtain rfl:q=I f.cases:=ω;rw[ZIC]at ho;refine gA ?_;refine Ze ?_;exact ae ((I m.fields)-(i+1)) ω (i+1) rfl tk row o ag u (by rw[af,ho,ad]) ω;exact ao _ 0 rfl tk row t ag u ψ ω;have h9:¬f.kind=9:=by simpa using h4
 rw[if_neg h9,ZIy]at af;refine ZE ?_;refine gA ?_;refine Ze ?_;exact ae ((I m.fields)-(i+1)) ω (i+1) rfl tk row t ag u (by rw[af,ad]) ω;refine cd (λh2=>?_) (λh2=>?_);refine ZE ?_;refine jn _ ?_;rw[h2,Bool.true_or];refine rg ?_;refine cd (λh3=>?_) (λh3=>?_);refine ZE ?_;refine jn _ ?_;rw[h2,h3];rfl;refine rg ?_;refine jn _ ?_;rw[h2,h3];rfl;simp at h1;obtain rfl:i=I m.fields:=ω;rw[ZIC]at ad;refine ZO rfl (Zc ?_);refine kl (st) [(3,.loc 3 0),(9,.d (Zq m.fields)),(10,.d (.i (I m.fields))),(11,.d (.i (I m.fields))),(12,.d (.bool (dC ((I m.fields:Int)<I m.fields))))] [(3,[Zbi t])] Js (.cons (.cons (u.le rfl) .nil) .nil) ?_;refine xP 3 λx hx=>?_;refine rg ?_;exact hF.ret _ _ rfl φ (ZH3 _) ZH2 ⟨x,hx,rfl,by rw[<-ad];exact K6 hx⟩;exact ar _ 0 rfl .full _ [] trivial ZY.nil rfl ω
def Km(dl:List (Str×Int))(m:Msg):Int:=(Kp m).foldl (λa s=>max a ((Zr s dl).getD 0)) 0
def Jy(sl:List (Str×Bool))(m:Msg):Bool:=(m.fields.all λf=>!f.loose)&&(Kp m).all λs=>(Zr s sl).getD false
def QQ(dl:List (Str×Int))(sl:List (Str×Bool))(m:Msg)(n:Nat):Bool:=(ZIf n).all λi=>QT (m.fields.take i) dl sl (m.fields.getD i dE)
def Zel(dl:List (Str×Int))(sl:List (Str×Bool))(m:Msg):Bool :=
 Y7 m.name&&(!(Zr m.name dl).isSome&&((dC (1<=(I m.fields:Int))&&dC ((I m.fields:Int)<=40))&&(QQ dl sl m (I m.fields)&&dC (Km dl m<16))))
def ZpE:Int:=4611686018427387904
def Zp5{u dl sl f}(h:QT u dl sl f=true)(t:YE f=true):(KK f).2<ZpE:=by
 unfold QT at h;simp only[ZIb]at h;have i:=h.2.2.2.2;unfold YE at t;simp only[ZIb,decide_eq_true_eq]at t;have hk:f.kind=1\/f.kind=2\/f.kind=3:=ω;unfold Ze8 at i;unfold KK ZpE;rcases hk with hk|hk|hk<;>simp only[hk,ZIJ,if_true,if_false]at i⊢;unfold ck1 ZdE at i;simp only[Ys,ZIb,decide_eq_true_eq,Bool.and_true]at i;have:=Zgz (b:=f.bits) ω ω;generalize (2:Int) ^ f.bits.toNat=pw at *;omega;unfold ck2 ZdE at i;simp only[Ys,ZIb,decide_eq_true_eq,Bool.and_true]at i;have:=Zgz (b:=f.bits) ω ω;generalize (2:Int) ^ f.bits.toNat=pw at *;omega;unfold ck3 at i;simp only[Ys,ZIb,decide_eq_true_eq,Bool.and_true]at i;omega
def Zxf{t i}(h:∀j,j<i->YE (t.getD j dE)=true->(KK (t.getD j dE)).2<ZpE)(k):((Zr k (JM t i)).getD (0,0)).2<ZpE:=by
 induction i with
 |zero=>simp[JM,Zr,ZpE]
 |succ i ih =>have u:=ih λj hj=>h j ω;simp only[JM];split;rename_i hn;rw[WY];split;exact h i ω hn;exact u;exact u
def ZrU{dl sl m i}(h:QQ dl sl m i=true)(hi:i<=I m.fields)(k):((Zr k (QG (m.fields.take i))).getD (0,0)).2<4611686018427387904:=by
 refine Zxf (λj u t=>?_) k;rw[ZIm]at u;rw[QZ ω]at t⊢;exact Zp5 (List.all_eq_true.1 h j (by simp;omega)) t
def ZrS{t dl sl f}(h:QT t dl sl f=true):(Yv f).length<=41:=by
 unfold QT at h;simp only[ZIb]at h;have i:=h.2.2.2.2;unfold Yv;rw[ZIc];have h1:(Za0 f).length<=1:=by unfold Za0;split<;>simp
 split;rename_i u;unfold Ze8 at i;simp only[u,ZIJ,if_true,if_false]at i;unfold Zjx at i;simp only[ZIb,decide_eq_true_eq]at i;simp only[ZIo];omega;simp;omega
def Ztr{dl sl m}(h:QQ dl sl m (I m.fields)=true)(hm:I m.fields<=40):(m.fields.flatMap Yv).length<=1000000:=by
 have t:∀l:List Fld,(∀f∈l,(Yv f).length<=41)->(l.flatMap Yv).length<=41*I l:=by
  intro l;induction l with
  |nil=>simp
  |cons x r ih =>intro hx;have:=ih λf u=>hx f (by simp[u]);have:=hx x ψ;simp only[List.flatMap_cons,ZIc,ZIi];omega
 have:=t m.fields λf u=>by obtain⟨i,hi,rfl⟩:=ZIl u;have:=ZrS (List.all_eq_true.1 h i (by simpa using hi));simpa[ZIg,hi]using this
 omega
def ZjQ{dl sl m i}:QQ dl sl m (i+1)=(QQ dl sl m i&&QT (m.fields.take i) dl sl (m.fields.getD i dE)):=by
 unfold QQ;rw[List.range_succ,List.all_append];simp
def ZrT{dl sl m i n}(t:i<n)(h:QT (m.fields.take i) dl sl (m.fields.getD i dE)=false):QQ dl sl m n=false :=
 List.all_eq_false.2 ⟨i,by simpa using t,by rw[h];simp⟩
def Qg.ne{st x bd bs k dl sl}(h:Qg st x bd bs k dl sl):x≠bd/\x≠bs :=
 ⟨λe=>by have:=h.x;rw[e,h.bd]at this;simp at this,λe=>by have:=h.x;rw[e,h.bs]at this;simp at this⟩
def Qg.updX{st x bd bs k dl sl}(h:Qg st x bd bs k dl sl)(k'):Qg (st.upd x (.cells (k'.cells bd bs))) x bd bs k' dl sl :=
 ⟨ZH5 _ _ _,by rw[ZH8 _ _ h.ne.1.symm];exact h.bd,by rw[ZH8 _ _ h.ne.2.symm];exact h.bs⟩
def Ze1(ok:Bool)(st:St)(x bd bs:Nat)(k:Ck)(dl:List (Str×Int))(sl:List (Str×Bool))(r:Res)(S:St):Prop :=
 if ok then r=.ret (.tup [])/\S=((st.upd x (.cells (k.cells bd bs))).upd bd (.map (WZ dl))).upd bs (.map (Zew sl)) else (∃d,ZdS d/\r=.panic d)/\∀b,b≠x->b≠bd->b≠bs->S b=st b
def ZvP{ok st x bd bs k dl sl d c}(h:ok=false)(t:ZdS d):Ze1 ok st x bd bs k dl sl (.panic d) (st.upd x (.cells c)):=by
 subst h;exact⟨⟨d,t,rfl⟩,λb i _ _=>ZH8 _ _ i⟩
def ZqZ{K V}[DecidableEq K]{kp i}{vD:V->D}(h:Zlh kp i)(k:K)(z:D)(l:List (K×V)):Zeh kp (i k) z (WD i vD l)=sO ((Zr k l).elim z vD):=by
 induction l with
 |nil=>rfl
 |cons e r ih =>simp only[WD,ZIj,Zeh,h k e.1,Zr];by_cases t:k=e.1;simp[t];simp only[t,decide_false,if_false];exact ih
def nxS(s1:St)(x z2 z6 z9:Nat)(sb:Bool)(dp:Int):St:=((s1.upd z2 (.cells [.ptr x 0])).upd z6 (.cells [.bool sb])).upd z9 (.cells [.i dp])
structure Qw(s1:St)(z2 z6 z9:Nat):Prop where
 n2:s1 z2=none
 n6:z6≠z2/\s1 z6=none
 n9:z9≠z6/\z9≠z2/\s1 z9=none
section
variable {s1:St} {x z2 z6 z9:Nat} {sb:Bool} {dp:Int}
def Qw.g2(h:Qw s1 z2 z6 z9):(nxS s1 x z2 z6 z9 sb dp) z2=sO (.cells [.ptr x 0]):=by
 simp[nxS,ZID,h.n6.1.symm,h.n9.2.1.symm]
def Qw.g6(h:Qw s1 z2 z6 z9):(nxS s1 x z2 z6 z9 sb dp) z6=sO (.cells [.bool sb]):=by
 simp[nxS,ZID,h.n9.1.symm]
def Qw.g9:(nxS s1 x z2 z6 z9 sb dp) z9=sO (.cells [.i dp]):=by
 simp[nxS,ZID]
def Qw.gs(h:Qw s1 z2 z6 z9){b o}(i:s1 b=sO o):(nxS s1 x z2 z6 z9 sb dp) b=sO o:=by
 have t:b≠z2:=λe=>by rw[e,h.n2]at i;simp at i
 have u:b≠z6:=λe=>by rw[e,h.n6.2]at i;simp at i
 have h9:b≠z9:=λe=>by rw[e,h.n9.2.2]at i;simp at i
 simp[nxS,ZID,t,u,h9,i]
def Qw.sub(h:Qw s1 z2 z6 z9):s1.sub (nxS s1 x z2 z6 z9 sb dp):=λb o i=>h.gs i
def Qw.u9(dp'):(nxS s1 x z2 z6 z9 sb dp).upd z9 (.cells [.i dp'])=nxS s1 x z2 z6 z9 sb dp':=by
 unfold nxS;rw[ZIk]
def Qw.u6(h:Qw s1 z2 z6 z9)(sb'):(nxS s1 x z2 z6 z9 sb dp).upd z6 (.cells [.bool sb'])=nxS s1 x z2 z6 z9 sb' dp:=by
 unfold nxS;rw[St.upd_comm h.n9.1.symm,ZIk]
def Qw.disj{u i t}(h:Z8 (nxS s1 x z2 z6 z9 sb dp) t):Z8 (nxS s1 x z2 z6 z9 u i) t:=λc o hc=>by
 have:=h c o hc;unfold nxS at this⊢;have k9:=Zm this;have k6:=Zm k9.2;rw[ZH8 _ _ k9.1,ZH8 _ _ k6.1];exact k6.2
def Qw.ub(h:Qw s1 z2 z6 z9){b o o'}(i:s1 b=sO o):(nxS s1 x z2 z6 z9 sb dp).upd b o'=nxS (s1.upd b o') x z2 z6 z9 sb dp:=by
 have t:b≠z2:=λe=>by rw[e,h.n2]at i;simp at i
 have u:b≠z6:=λe=>by rw[e,h.n6.2]at i;simp at i
 have h9:b≠z9:=λe=>by rw[e,h.n9.2.2]at i;simp at i
 unfold nxS;rw[St.upd_comm h9,St.upd_comm u,St.upd_comm t]
def Qw.of(h:Qw s1 z2 z6 z9){b o o'}(i:s1 b=sO o):Qw (s1.upd b o') z2 z6 z9:=by
 have t:z2≠b:=λe=>by rw[<-e,h.n2]at i;simp at i
 have u:z6≠b:=λe=>by rw[<-e,h.n6.2]at i;simp at i
 have h9:z9≠b:=λe=>by rw[<-e,h.n9.2.2]at i;simp at i
 exact⟨by rw[ZH8 _ _ t];exact h.n2,⟨h.n6.1,by rw[ZH8 _ _ u];exact h.n6.2⟩,⟨h.n9.1,h.n9.2.1,by rw[ZH8 _ _ h9];exact h.n9.2.2⟩⟩
end
def Zi3{dl m}(h:∀s,0<=(Zr s dl).getD 0/\(Zr s dl).getD 0<=16):0<=Km dl m/\Km dl m<=16:=by
 unfold Km;have:∀(l:List Str) (b:Int),0<=b->b<=16->0<=l.foldl (λa s=>max a ((Zr s dl).getD 0)) b/\l.foldl (λa s=>max a ((Zr s dl).getD 0)) b<=16:=by
  intro l;induction l with
  |nil=>intro b i t;exact⟨i,t⟩
  |cons s r ih =>intro b i t;have:=h s;exact ih (max b ((Zr s dl).getD 0)) ω ω
 exact this _ 0 ω ω
def Zqm{x bd bs k dl sl st}(hst:Qg st x bd bs k dl sl)(hdd:bd≠bs)(hdl:∀s,0<=(Zr s dl).getD 0/\(Zr s dl).getD 0<=16)(m):
  Za ZH1 222 [.ptr x 0,.agg m.cells] st (Ze1 (Zel dl sl m) st x bd bs { k with field:=-1,m:=m } (YO m.name (Km dl m+1) dl) (YO m.name (Jy sl m) sl)):=by
 refine Zb (cR 222 f222) λF hF=>?_;have hS:=Zel.eq_1 dl sl m;have hx:=hst.x;have a9:=hst.ne;refine rx @eQ3 ?_;refine rx (nd2 @eQ3 (nd2 @hx (nd2 @Ck.cells.eq_1 (nd2 @ZH5 (nd2 @ZIk (nd2 @Yp @Yq)))))) ?_;obtain⟨k1,au⟩:∃k1:Ck,k1={ k with field:=-1,m:=m }:=⟨_,rfl⟩;have u:=hst.updX k1;have a3:(st.upd x (.cells [.str k.d.name,YY k.d.msgs,.str k.d.start,.map bd,.map bs,.i k.at_,.i (-1),.str m.name,Zq m.fields]))=st.upd x (.cells (k1.cells bd bs)):=by rw[au];rfl
 rw[a3];rw[<-au]at hF;generalize ae:st.upd x (.cells (k1.cells bd bs))=S1 at *;have e1:=Yz (vD:=YR) ZN m.name dl;have e3:=YH ZN m.name;simp only[show Ks m.name=D.str m.name from rfl]at e1 e3;have ah:∀d,Zel dl sl m=false->ZdS d->Ze1 (Zel dl sl m) st x bd bs k1 (YO m.name (Km dl m+1) dl) (YO m.name (Jy sl m) sl) (.panic d) S1:=λd h hd=>by rw[<-ae];exact ZvP h hd
 clear a3;refine rx @eQ3 ?_;refine clD (Za2 m.name) ?_;refine cVD (ZV u.x (Y7 m.name) 1) ?_ ?_;rintro d S h;obtain⟨ac,rfl,rfl⟩:=YD h;rw[ac,ZIt]at hS;first|refine⟨by first|trivial|exact⟨rfl,trivial⟩,?_⟩|skip
 refine gR0 ?_;refine rh ?_;refine YM ?_;simp only[Eqs,reduceCtorEq,ZH9,reduceIte,ZH6,ZIa,ZH7,Msg.cells,u.x,u.bd,Ck.cells,e1,e3,Znq];refine rg ?_;refine cV (ZV u.x (!(Zr m.name dl).isSome) 2) ?_ ?_;rintro d S h;obtain⟨ac,rfl,rfl⟩:=YD h;rw[ac,ZIt]at hS;refine gR0 ?_;refine rx (nd2 @eQ3 (nd2 @Zq.eq_1 @eQ1)) ?_;refine cV (ZV u.x (dC (1<=(I m.fields:Int))&&dC ((I m.fields:Int)<=40)) 3) ?_ ?_;rintro d S h;obtain⟨ac,rfl,rfl⟩:=YD h;rw[ac,ZIt]at hS;simp only[ZIb,decide_eq_true_eq]at ac;refine gR0 ?_;refine rg ?_;refine rx (nd2 @eQ3 (nd2 @Zq.eq_1 @eQ1)) ?_;subst au;refine Zd (fr (I m.fields) (λi Q=>∀fl:Int,QQ dl sl m i=true->i<=I m.fields->Q [(2,.loc 2 0),(3,.loc 3 0),(6,.loc 6 0),(50,.d (Zq m.fields)),(51,.d (.i (I m.fields))),(52,.d (.i i))] [(2,[.ptr x 0]),(3,m.cells),(6,[.bool ((m.fields.take i).all λf=>!f.loose)])] (st.upd x (.cells (({ k with field:=fl,m:=m }:Ck).cells bd bs)))) (λn ao=>?_) λbl=>?_);intro i hn fl al hi;refine rg ?_;refine Zc (Zl rfl trivial (λh1=>?_) (λh1=>?_));simp at h1;have hR:=ZrU al hi;have aw:=ZjQ (dl:=dl) (sl:=sl) (m:=m) (i:=i);have ag:=ZsR (p:=λf:Fld=>!f.loose) h1;generalize hf:m.fields.getD i dE=f at *;refine xA (nd2 @Zq.eq_1 (nd2 @eQ1 (nd2 @eQ0 @hf))) ?_;refine rx (nd2 @eQ0 (nd2 @Ck.cells.eq_1 (nd2 @ZH5 (nd2 @ZIk (nd2 @Yp @Yq))))) ?_;have bj:=hst.updX ({ k with field:=(i:Int),m:=m }:Ck);refine rx @eQ0 ?_;simp only[ZdX];refine cV (Zl2 bj (n:=i) rfl hi f (hR _)) ?_ ?_;rintro d S2 h;obtain⟨aj,rfl,rfl⟩:=YD h;refine gR0 ?_;refine rx @eQ0 ?_;refine gA ?_;rw[show(m.fields.take i)=({ k with field:=(i:Int),m:=m }:Ck).m.fields.take i from rfl]at aw;rw[aj,Bool.and_true]at aw;refine Ze ?_;have ai:=ao ((I m.fields)-(i+1)) ω (i+1) rfl i (aw.trans al) ω;rw[ag]at ai;exact ai;rintro d S2 h;obtain⟨aj,ad,rfl⟩:=YC h;rw[ZrT h1 (by rw[hf];exact aj),ZIE]at hS;exact hF.pan _ ZH2 (ZvP hS ad);simp at h1;obtain rfl:i=I m.fields:=ω;rw[ZIC];rw[al,ZIt]at hS;have av:=Ztr al ω;refine rx (nd2 @Ck.cells.eq_1 (nd2 @ZH5 (nd2 @ZIk (nd2 @Yp @Yq)))) ?_;refine rg ?_;refine Zc (Zc ?_);refine xP 2 λz2 h2=>?_;refine xP 6 λz6 h6=>?_;refine xP 9 λz9 h9=>?_;have k6:=Zm h6;have k9:=Zm h9;have ax:=Zm k9.2;have a4:(st.upd x (.cells [.str k.d.name,YY k.d.msgs,.str k.d.start,.map bd,.map bs,.i k.at_,.i (-1),.str m.name,Zq m.fields]))=S:=ae;rw[a4]at h2 k6 k9 ax⊢;have ab:Qw S z2 z6 z9:=⟨h2,k6,⟨k9.1,ax⟩⟩;clear h6 h9 k6 k9 ax h2;have hlen:(Kp m).length<=1000000:=by have:=ZlY (m.fields.flatMap Yv) [];unfold Kp;simp only[List.length_nil,Nat.zero_add]at this;omega
 have hmst:S.sub (nxS S x z2 z6 z9 (m.fields.all λf=>!f.loose) 0):=ab.sub;rw[show((S.upd z2 (.cells [.ptr x 0])).upd z6 (.cells [.bool (m.fields.all λf=>!f.loose)])).upd z9 (.cells [.i 0])=nxS S x z2 z6 z9 (m.fields.all λf=>!f.loose) 0 from rfl];refine rx @eQ3 ?_;refine cV (Znz m av) ?_ ?_;rintro d S2 ⟨y,hy,hd,rfl⟩;cases hd;refine gR0 ?_;refine Zd ?_;have bg:ddS (m.fields.flatMap Yv)=Kp m:=rfl;have a7:=ZkA (m.fields.flatMap Yv) (by unfold big;omega) y;rw[bg]at a7;refine Kt hF rfl trivial [2,6,9] (by show([2,6,9]:List Nat).Nodup;decide) (Wl hy) a7.Y (λj hj=>rfl) (λ_=>.next)
  (λj a=>a=nxS S x z2 z6 z9 ((m.fields.all λf=>!f.loose)&&((Kp m).take j).all λs=>(Zr s sl).getD false) (((Kp m).take j).foldl (λa s=>max a ((Zr s dl).getD 0)) 0)) ψ ?_ ?_ ?_ ?_ ?_ ?_
 intro j a hj am hB F' ready busy hdr a6 ap;subst hB;simp only[Eqs,reduceCtorEq,ZH9,reduceIte,ZH6,ZIa,ZH7,WB,W1,Q5,Ke,List.isEmpty_nil,List.isEmpty_cons];refine rg ?_;refine a6 λbf=>?_;have ag:=ZsR (p:=λs:Str=>(Zr s sl).getD false) hj;have ar:=ZwQ (f:=λa s=>max a ((Zr s dl).getD 0)) (b:=(0:Int)) hj;generalize hnm:(Kp m).getD j dE=nm at *;have e1:=Yz (vD:=YR) ZN nm dl;have e2:=Yz (vD:=D.bool) ZN nm sl;have e3:=YH ZN nm;simp only[show Ks nm=D.str nm from rfl]at e1 e2 e3;rw[ag,ar]at ap;generalize ((Kp m).take j).foldl (λa s=>max a ((Zr s dl).getD 0)) 0=dp at *;generalize ((Kp m).take j).all (λs=>(Zr s sl).getD false)=sb at *;generalize (m.fields.all λf=>!f.loose)=lo at *;refine rh ?_;refine YM ?_;simp only[Eqs,reduceCtorEq,ZH9,reduceIte,ZH6,ZIa,ZH7,Zs (ab.g2 ),Zs (Qw.g9 ),Zs (ab.gs u.x),Zs (ab.gs u.bd),Ck.cells,e1,e3,Zdm,WU,Qw.u9];refine rh ?_;refine Zp ?_;simp only[Eqs,reduceCtorEq,ZH9,reduceIte,ZH6,ZIa,ZH7,Zs (ab.g2 ),Zs (ab.g6 ),Zs (ab.gs u.x),Zs (ab.gs u.bs),Ck.cells,e2,e3,Znp,WU,ab.u6];refine Zk ?_;exact ap.fin ⟨rfl,by rw[<-Bool.and_assoc]⟩ (Qw.disj bf) ZH2;intro q a am hB hq;subst hB;rw[ZIC]at hq⊢;rw[K6 hq];rw[show((m.fields.all λf=>!f.loose)&&(Kp m).all λs=>(Zr s sl).getD false)=Jy sl m from rfl,show(Kp m).foldl (λa s=>max a ((Zr s dl).getD 0)) 0=Km dl m from rfl]at hq⊢;have hdp:=Zi3 (m:=m) hdl;generalize Jy sl m=sb at *;generalize Km dl m=dp at *;have ay:=Zs (t:=ZIu q .dfr) (ab.g2 (x:=x) (sb:=sb) (dp:=dp));have bb:=Zs (t:=ZIu q .dfr) (ab.g6 (x:=x) (sb:=sb) (dp:=dp));have az:=Zs (t:=ZIu q .dfr) (Qw.g9 (s1:=S) (x:=x) (z2:=z2) (z6:=z6) (z9:=z9) (sb:=sb) (dp:=dp));have a0:=Zs (t:=ZIu q .dfr) (ab.gs (x:=x) (sb:=sb) (dp:=dp) u.x);have bc:=Zs (t:=ZIu q .dfr) (ab.gs (x:=x) (sb:=sb) (dp:=dp) u.bd);have be:=Zs (t:=ZIu q .dfr) (ab.gs (x:=x) (sb:=sb) (dp:=dp) u.bs);generalize hX:(nxS S x z2 z6 z9 sb dp).or (ZIu q .dfr)=X at *;have n2:∀b o,S b=sO o->z2≠b:=λb o h e=>by rw[<-e,ab.n2]at h;simp at h
 have n6:∀b o,S b=sO o->z6≠b:=λb o h e=>by rw[<-e,ab.n6.2]at h;simp at h
 have n9:∀b o,S b=sO o->z9≠b:=λb o h e=>by rw[<-e,ab.n9.2.2]at h;simp at h
 have u2:∀(Y:St) o,(Y.upd bd o) z2=Y z2:=λY o=>ZH8 _ _ (n2 _ _ u.bd);have u6:∀(Y:St) o,(Y.upd bd o) z6=Y z6:=λY o=>ZH8 _ _ (n6 _ _ u.bd);have u9:∀(Y:St) o,(Y.upd bd o) z9=Y z9:=λY o=>ZH8 _ _ (n9 _ _ u.bd);have ux:∀(Y:St) o,(Y.upd bd o) x=Y x:=λY o=>ZH8 _ _ a9.1;have us:∀(Y:St) o,(Y.upd bd o) bs=Y bs:=λY o=>ZH8 _ _ hdd.symm;have v2:∀(Y:St) o,(Y.upd bs o) z2=Y z2:=λY o=>ZH8 _ _ (n2 _ _ u.bs);have v6:∀(Y:St) o,(Y.upd bs o) z6=Y z6:=λY o=>ZH8 _ _ (n6 _ _ u.bs);have v9:∀(Y:St) o,(Y.upd bs o) z9=Y z9:=λY o=>ZH8 _ _ (n9 _ _ u.bs);have vx:∀(Y:St) o,(Y.upd bs o) x=Y x:=λY o=>ZH8 _ _ a9.2;have d1:=ZqZ (vD:=YR) ZN m.name (D.i 0) dl;have d2:=J0 (vD:=YR) ZN m.name (dp+1) dl;have s1:=ZqZ (vD:=D.bool) ZN m.name (D.bool false) sl;have s2:=J0 (vD:=D.bool) ZN m.name sb sl;simp only[show Ks m.name=D.str m.name from rfl,show YR (dp+1)=D.i (dp+1) from rfl]at d1 d2 s1 s2;refine xA (nd2 @eQ3 (nd2 @ay (nd2 @bb (nd2 @az (nd2 @a0 (nd2 @bc (nd2 @be (nd2 @u2 (nd2 @u6 (nd2 @u9 (nd2 @ux (nd2 @us (nd2 @v2 (nd2 @v6 (nd2 @v9 (nd2 @vx (nd2 @d1 (nd2 @d2 (nd2 @s1 (nd2 @s2 (nd2 @e3 (nd2 @Ck.cells.eq_1 (nd2 @ZH5 (nd2 @ZIk (nd2 @Yp @Yq))))))))))))))))))))))))) ?_;refine rx (nd2 @u2 (nd2 @v2 (nd2 @ay (nd2 @u9 (nd2 @v9 @az))))) ?_;have a5:(X.upd bd (.map (WD Ks YR (YO m.name (dp+1) dl)))).upd bs (.map (WD Ks D.bool (YO m.name sb sl)))=(nxS ((S.upd bd (.map (WZ (YO m.name (dp+1) dl)))).upd bs (.map (Zew (YO m.name sb sl)))) x z2 z6 z9 sb dp).or (ZIu q .dfr):=by rw[<-hX,WU,WU,ab.ub u.bd,(ab.of u.bd).ub (by rw[us];exact u.bs)]
 have aq:Qw ((S.upd bd (.map (WZ (YO m.name (dp+1) dl)))).upd bs (.map (Zew (YO m.name sb sl)))) z2 z6 z9:=(ab.of u.bd).of (by rw[us];exact u.bs);have ba:(nxS ((S.upd bd (.map (WZ (YO m.name (dp+1) dl)))).upd bs (.map (Zew (YO m.name sb sl)))) x z2 z6 z9 sb dp) q=nO:=by
  have bh:q≠bs:=λe=>by have:=ab.gs (x:=x) (sb:=sb) (dp:=dp) u.bs;rw[<-e,hq]at this;simp at this
  have bi:q≠bd:=λe=>by have:=ab.gs (x:=x) (sb:=sb) (dp:=dp) u.bd;rw[<-e,hq]at this;simp at this
  rw[<-(ab.of u.bd).ub (by rw[us];exact u.bs),<-ab.ub u.bd,ZH8 _ _ bh,ZH8 _ _ bi];exact hq
 have bk:((X.upd bd (.map (WD Ks YR (YO m.name (dp+1) dl)))).upd bs (.map (WD Ks D.bool (YO m.name sb sl)))) x=sO (.cells (({ k with field:=-1,m:=m }:Ck).cells bd bs)):=by rw[vx,ux];exact a0
 refine cV (ZV bk (dC (dp<16)) 10) ?_ ?_;rintro d S3 h;obtain⟨ak,rfl,rfl⟩:=YD h;rw[ak]at hS;refine gR0 ?_;rw[a5];exact hF.fin1 ba (.tup []) _ rfl trivial (ZH3 _) aq.sub (by rw[hS];exact⟨rfl,by rw[<-ae]⟩);rintro d S3 h;obtain⟨ak,ad,rfl⟩:=YC h;rw[ak]at hS;rw[a5];exact hF.pan1 ba _ aq.sub (by rw[hS];exact⟨⟨d,ad,rfl⟩,λb h1 h2 h3=>by rw[ZH8 _ _ h3,ZH8 _ _ h2,<-ae,ZH8 _ _ h1]⟩);intro q a m hm am af;simp at af;intro q a m id hm am af;simp at af;intro q a m d hm am af;simp at af;intro m c af;simp at af;rintro d S2 ⟨y,hy,hd,_⟩;cases hd;have a8:=bl _ 0 rfl (-1) (by simp[QQ]) ω;rw[ae]at a8;exact a8;rintro d S h;obtain⟨ac,ad,rfl⟩:=YC h;rw[ac,ZIE]at hS;exact hF.pan _ ZH2 (ah _ hS ad);rintro d S h;obtain⟨ac,ad,rfl⟩:=YC h;rw[ac,ZIE]at hS;exact hF.pan _ ZH2 (ah _ hS ad);rintro d S h;obtain⟨ac,ad,rfl⟩:=YC h;rw[ac,ZIE]at hS;exact hF.pan _ ZH2 (ah _ hS ad)
def ZqR{P}{F:Fr P}{H L d s}(h:DWf d->Y3 F H L d s):Y3 F H L d s :=
 λg Z w v i tmps u m t=>h t.wf g Z w v i tmps u m t
def DWf.iface_inv{t d}(h:DWf (.iface t d)):DWf d:=by
 cases h with
 |iface _ _ h=>exact h
 |other _ h=>exact absurd h ψ
def ZbC{P i args m s Ψ Ψ'}(h:J1 P i args m s Ψ)(hi:∀b S,Ψ b S->Ψ' b S):J1 P i args m s Ψ' :=
 ⟨h.1,λg w vs cf cs h1 h2 h3=>by
  obtain⟨g',w',s',b,a1,a2,t,u⟩:=h.2 g w vs cf cs h1 h2 h3;exact⟨g',w',s',b,a1,a2,hi _ _ t,u⟩⟩
def Zha{z3 z4 c b st}(h3:st z3=sO c)(h4:st z4=sO (.cells [.bool b])):
  J1 ZH1 220 [.ptr z3 0,.ptr z4 0] nO st λ_ S=>S=st:=by
 refine Zci (cR 220 f220) rfl ψ λF i=>?_;refine rg ?_;refine ZgE i rfl rfl ?_;refine gR0 ?_;refine rg ?_;refine cd (λh=>?_) (λh=>?_);simp at h;refine ZE ?_;exact i.fin ZH2 rfl
def Zhb{z3 z4 b st}(hz:z3≠z4)(x y z)(hx:inR .i64 x)(hy:inR .i64 y)(hw:inR .i64 z)(h3:st z3=sO (.cells [.i 0,.i 0,.i 0]))(u:st z4=sO (.cells [.bool b])):
  J1 ZH1 220 [.ptr z3 0,.ptr z4 0] (sO (Zip x y z)) st λb S=>b=true/\S=(st.upd z3 (.cells [.i x,.i y,.i z])).upd z4 (.cells [.bool true]):=by
 refine Zci (cR 220 f220) rfl (by rintro d ⟨⟩;exact⟨hx,hy,hw,trivial⟩) λF hF=>?_;have i:∀o,(st.upd z3 o) z4=sO (.cells [.bool b]):=λo=>by rw[ZH8 _ _ (Ne.symm hz)];exact u
 refine rg ?_;refine ZnQ hF rfl rfl λF2 t=>?_;refine gR0 ?_;refine rx @Zip.eq_1 ?_;refine cd (λh=>?_) (λh=>?_);refine rx (nd2 @Zip.eq_1 (nd2 @h3 (nd2 @u (nd2 @i (nd2 @ZH5 (nd2 @ZIk (nd2 @Yp @Yq))))))) ?_;refine rx (nd2 @u (nd2 @i (nd2 @ZH5 (nd2 @ZIk (nd2 @Yp @Yq))))) ?_;refine cd (λh5=>?_) (λh5=>?_);simp at h5;refine ZE ?_;exact t.fin ZH2 ⟨rfl,rfl⟩;simp[Zip]at h
def ZcQ(dl:List (Str×Int))(sl:List (Str×Bool)):List Msg->Option (List (Str×Int)×List (Str×Bool))
 | []=>sO (dl,sl)
 |m::r=>if Zel dl sl m then ZcQ (YO m.name (Km dl m+1) dl) (YO m.name (Jy sl m) sl) r else nO
def Zd3(d:Dfn):Bool :=
 Y7 d.name&&((dC (1<=(I d.msgs:Int))&&dC ((I d.msgs:Int)<=60))&&(ZcQ [] [] d.msgs).elim false λp=>(Zr d.start p.1).isSome)
def ZmE(dl sl l l'):ZcQ dl sl (l++l')=(ZcQ dl sl l).elim nO λp=>ZcQ p.1 p.2 l':=by
 induction l generalizing dl sl with
 |nil=>rfl
 |cons m r ih =>simp only[List.cons_append,ZcQ];split;exact ih _ _;rfl
def Zrw{l:List Msg}{i dl sl}(h:ZcQ [] [] (l.take i)=sO (dl,sl))(t:i<I l):ZcQ [] [] (l.take (i+1))=if Zel dl sl (l.getD i dE) then sO (YO (l.getD i dE).name (Km dl (l.getD i dE)+1) dl,YO (l.getD i dE).name (Jy sl (l.getD i dE)) sl) else nO:=by
 rw[Yo t,ZmE,h];rfl
def ZAY{l i dl sl}(h:ZcQ [] [] (l.take i)=sO (dl,sl))(hi:i<I l)(u:Zel dl sl (l.getD i dE)=false):ZcQ [] [] l=nO:=by
 have t:=Zrw h hi;rw[u]at t;rw[<-List.take_append_drop (i+1) l,ZmE,t];rfl
structure Zbn(S st:St)(x bd bs z3 z4:Nat)(k:Ck)(dl:List (Str×Int))(sl:List (Str×Bool)):Prop where
 ck:Qg S x bd bs k dl sl
 c3:S z3=some (.cells [.i 0,.i 0,.i 0])
 c4:S z4=some (.cells [.bool false])
 sub:st.sub S
 fx:st x=none
 fd:st bd=none
 fs:st bs=none
 f3:st z3=none
 f4:st z4=none
 nd:bd≠bs
 n34:z3≠z4
section
variable {S st:St} {x bd bs z3 z4:Nat} {k:Ck} {dl:List (Str × Int)} {sl:List (Str × Bool)}
def Zbn.n3(h:Zbn S st x bd bs z3 z4 k dl sl):z3≠x/\z3≠bd/\z3≠bs:=by
 refine⟨λe=>?_,λe=>?_,λe=>?_⟩;have i:=h.c3;rw[e,h.ck.x]at i;simp[Ck.cells]at i;have i:=h.c3;rw[e,h.ck.bd]at i;simp at i;have i:=h.c3;rw[e,h.ck.bs]at i;simp at i
def Zbn.n4(h:Zbn S st x bd bs z3 z4 k dl sl):z4≠x/\z4≠bd/\z4≠bs:=by
 refine⟨λe=>?_,λe=>?_,λe=>?_⟩;have i:=h.c4;rw[e,h.ck.x]at i;simp[Ck.cells]at i;have i:=h.c4;rw[e,h.ck.bd]at i;simp at i;have i:=h.c4;rw[e,h.ck.bs]at i;simp at i
def Zbn.move(h:Zbn S st x bd bs z3 z4 k dl sl){S':St}{k':Ck}{dl':List (Str×Int)}{sl':List (Str×Bool)}(t:Qg S' x bd bs k' dl' sl')(i:∀b,b≠x->b≠bd->b≠bs->S' b=S b):Zbn S' st x bd bs z3 z4 k' dl' sl':={
 ck:=t
 c3:=by rw[i _ h.n3.1 h.n3.2.1 h.n3.2.2];exact h.c3
 c4:=by rw[i _ h.n4.1 h.n4.2.1 h.n4.2.2];exact h.c4
 sub b o hb:=by rw[i b (λe=>by rw[e,h.fx]at hb;simp at hb) (λe=>by rw[e,h.fd]at hb;simp at hb) (λe=>by rw[e,h.fs]at hb;simp at hb)];exact h.sub b o hb
 fx:=h.fx
 fd:=h.fd
 fs:=h.fs
 f3:=h.f3
 f4:=h.f4
 nd:=h.nd
 n34:=h.n34 }
def Zbn.updX(h:Zbn S st x bd bs z3 z4 k dl sl)(k'):Zbn (S.upd x (.cells (k'.cells bd bs))) st x bd bs z3 z4 k' dl sl :=
 h.move (h.ck.updX k') λb i _ _=>ZH8 _ _ i
def Zbn.bad(h:Zbn S st x bd bs z3 z4 k dl sl){S':St}(ho:∀b,b≠x->b≠bd->b≠bs->S' b=S b){F:Fr ZH1}(hF:YL F [.tmp 2,.cellN 3 3,.cell1 4] (λr S=>S=st/\∃a f c,r=Res.ret (.tup [.any,.agg [.i a,.i f,.i c],.bool true])) [.fn 220 [] [.ptr z3 0,.ptr z4 0]]){d:D}(hd:ZdS d)(hr:∀s' c3,s' z3=sO (.cells c3)->I c3=3->s' z4=sO (.cells [.bool true])->∃p,Yw H L s' [.tmp 2,.cellN 3 3,.cell1 4]=sO (p,[.ptr x 0,.agg c3,.bool true])/\p):Y3 F H L d S':=by
 obtain⟨a,f,c,rfl⟩:=hd;refine ZqR λhw=>?_;have i:=DWf.agg_inv (DWf.iface_inv hw);have h1:inR .i64 a:=(i _ ψ).int_inv;have h2:inR .i64 f:=(i _ ψ).int_inv;have h3:inR .i64 c:=(i _ ψ).int_inv;have ab:S' z3=sO (.cells [.i 0,.i 0,.i 0]):=by rw[ho _ h.n3.1 h.n3.2.1 h.n3.2.2];exact h.c3
 have ac:S' z4=sO (.cells [.bool false]):=by rw[ho _ h.n4.1 h.n4.2.1 h.n4.2.2];exact h.c4
 refine hF.panU ⟨trivial,⟨rfl,rfl,trivial⟩,ZbC (Zhb h.n34 a f c h1 h2 h3 ab ac) ?_⟩;rintro b S2 ⟨rfl,rfl⟩;obtain⟨p,t,u⟩:=hr ((S'.upd z3 (.cells [.i a,.i f,.i c])).upd z4 (.cells [.bool true])) [.i a,.i f,.i c] (by rw[ZH8 _ _ h.n34,ZH5]) rfl (ZH5 _ _ _);refine⟨p,_,_,st,t,u,?_,?_,rfl,a,f,c,rfl⟩;exact ZpM rfl (.cons (λ_ _ v _=>.any v) (LeC.refl _));intro b o hb;have e1:b≠z3:=λe=>by rw[e,h.f3]at hb;simp at hb
 have e2:b≠z4:=λe=>by rw[e,h.f4]at hb;simp at hb
 rw[ZH8 _ _ e2,ZH8 _ _ e1];rw[ho b (λe=>by rw[e,h.fx]at hb;simp at hb) (λe=>by rw[e,h.fd]at hb;simp at hb) (λe=>by rw[e,h.fs]at hb;simp at hb)];exact h.sub b o hb
end
def Zbn.mk0{st bd bs x z3 z4 c}(u:st bd=nO)(hbs:st.upd bd (.map []) bs=nO)(hx:(st.upd bd (.map [])).upd bs (.map []) x=nO)(h3:((st.upd bd (.map [])).upd bs (.map [])).upd x (.cells c) z3=nO)(h4:(((st.upd bd (.map [])).upd bs (.map [])).upd x (.cells c)).upd z3 (.cells [.i 0,.i 0,.i 0]) z4=nO)(k):
  ((((st.upd bd (.map [])).upd bs (.map [])).upd x (.cells c)).upd z3 (.cells [.i 0,.i 0,.i 0])).upd z4 (.cells [.bool false]) x=sO (.cells c) /\
  Zbn ((((((st.upd bd (.map [])).upd bs (.map [])).upd x (.cells c)).upd z3 (.cells [.i 0,.i 0,.i 0])).upd z4 (.cells [.bool false])).upd x (.cells (k.cells bd bs))) st x bd bs z3 z4 k [] []:=by
 have a4:=Zm h4;have b4:=Zm a4.2;have c4:=Zm b4.2;have d4:=Zm c4.2;have a3:=Zm h3;have b3:=Zm a3.2;have c3:=Zm b3.2;have ax:=Zm hx;have t:=Zm ax.2;have i:=Zm hbs;refine⟨?_,⟨⟨?_,?_,?_⟩,?_,?_,?_,?_,?_,?_,?_,?_,?_,?_⟩⟩;rw[ZH8 _ _ b4.1.symm,ZH8 _ _ a3.1.symm,ZH5];exact ZH5 _ _ _;rw[ZH8 _ _ t.1.symm,ZH8 _ _ d4.1.symm,ZH8 _ _ c3.1.symm,ZH8 _ _ t.1.symm,ZH8 _ _ i.1.symm,ZH5];rfl;rw[ZH8 _ _ ax.1.symm,ZH8 _ _ c4.1.symm,ZH8 _ _ b3.1.symm,ZH8 _ _ ax.1.symm,ZH5];rfl;rw[ZH8 _ _ a3.1,ZH8 _ _ a4.1.symm,ZH5];rw[ZH8 _ _ b4.1,ZH5];intro b o hb;have e:∀y,st y=nO->b≠y:=λy hy e=>by rw[e,hy]at hb;simp at hb
 rw[ZH8 _ _ (e _ t.2),ZH8 _ _ (e _ d4.2),ZH8 _ _ (e _ c3.2),ZH8 _ _ (e _ t.2),ZH8 _ _ (e _ i.2),ZH8 _ _ (e _ u)];exact hb;exact t.2;exact u;exact i.2;exact c3.2;exact d4.2;exact i.1.symm;exact a4.1.symm
def ZwY{c:List D}(h:I c=3):∃a b d,c=[a,b,d]:=by
 match c,h with
 | [a,b,d],_=>exact⟨a,b,d,rfl⟩
def ZkB(d st):
  Za ZH1 179 [.agg d.cells] st λr S=>S=st/\∃a f c,r=.ret (.tup [.any,.agg [.i a,.i f,.i c],.bool (!Zd3 d)]):=by
 refine Zb (cR 179 f179) λF hF=>?_;have hS:=Zd3.eq_1 d;refine rx @eQ2 ?_;refine rx @eQ2 ?_;intro bd aj bs ak;refine Zc ?_;refine xP 13 λx hx=>?_;refine xP 3 λz3 h3=>?_;refine xP 4 λz4 h4=>?_;refine rg ?_;refine ZmQ (by obtain⟨_,_,_,_,_,_,rfl⟩:=hF;rfl) rfl rfl rfl rfl rfl rfl trivial trivial ?_ ?_ ?_;trivial;exact⟨rfl,rfl,trivial⟩;have ac:=hF.defer 220 [] [.ptr z3 0,.ptr z4 0];clear hF;refine gR0 ?_;generalize F.defer 220 [] [.ptr z3 0,.ptr z4 0]=F at ac⊢;obtain⟨au,ab⟩:=Zbn.mk0 aj ak hx h3 h4 ⟨d,-1,-1,⟨[],[]⟩⟩;refine Jp au (ds':=Ck.cells ⟨d,-1,-1,⟨[],[]⟩⟩ bd bs) (.cons (ZH3 _) (.cons (ZH3 _) (.cons (ZH3 _) (.cons (ZH3 _) (.cons (ZH3 _) (.cons (ZH3 _) (.cons (ZH3 _) (.cons (ZH3 _) (.cons (YV λb h=>by cases h) .nil))))))))) ?_;generalize (ZID (ZID (ZID (ZID (ZID (ZID st _ _) _ _) _ _) _ _) _ _) _ _)=S at *;clear aj ak hx h3 h4 au;refine rx @eQ2 ?_;refine cl (Za2 d.name) ?_;refine cV (ZV ab.ck.x (Y7 d.name) 1) ?_ ?_;rintro dd S2 h;obtain⟨u,rfl,rfl⟩:=YD h;rw[u,ZIt]at hS;refine gR0 ?_;refine rx (nd2 @eQ2 (nd2 @YY.eq_1 @eQ1)) ?_;refine cV (ZV ab.ck.x (dC (1<=(I d.msgs:Int))&&dC ((I d.msgs:Int)<=60)) 3) ?_ ?_;rintro dd S2 h;obtain⟨u,rfl,rfl⟩:=YD h;rw[u,ZIt]at hS;simp only[ZIb,decide_eq_true_eq]at u;have hlen:=u.2;refine gR0 ?_;refine rx (nd2 @eQ2 (nd2 @YY.eq_1 @eQ1)) ?_;generalize ap:(⟨d,-1,-1,⟨[],[]⟩⟩:Ck)=k0 at *;have aw:k0.d=d:=by rw[<-ap]
 clear ap;refine Zd (fr (I d.msgs) (λi Q=>∀(S:St) (k:Ck) dl sl,Zbn S st x bd bs z3 z4 k dl sl->k.d=d->ZcQ [] [] (d.msgs.take i)=sO (dl,sl)->(∀s,0<=(Zr s dl).getD 0/\(Zr s dl).getD 0<=16)->i<=I d.msgs->Q [(1,.loc 1 0),(2,.d (.ptr x 0)),(3,.d (.ptr z3 0)),(4,.d (.ptr z4 0)),(33,.d (YY d.msgs)),(34,.d (.i (I d.msgs))),(35,.d (.i i))] [(1,d.cells)] S) (λn ag=>?_) λaz=>?_);intro i hni S k dl sl ab ax ae ah hi;refine rg ?_;refine Zc (Zl rfl trivial (λh1=>?_) (λh1=>?_));simp at h1;refine xA (nd2 @YY.eq_1 (nd2 @eQ1 @eQ3)) ?_;refine rx (nd2 @ab.ck.x (nd2 @Ck.cells.eq_1 (nd2 @ZH5 (nd2 @ZIk (nd2 @Yp @Yq))))) ?_;have af:(S.upd x (.cells [.str k.d.name,YY k.d.msgs,.str k.d.start,.map bd,.map bs,.i i,.i k.field,.str k.m.name,Zq k.m.fields]))=S.upd x (.cells (({ k with at_:=i }:Ck).cells bd bs)):=rfl;rw[af];have t:=ab.updX { k with at_:=i };generalize S.upd x (.cells (({ k with at_:=i }:Ck).cells bd bs))=S1 at *;have ao:({ k with at_:=(i:Int) }:Ck).d=d:=ax;clear af ab;generalize ({ k with at_:=i }:Ck)=k1 at *;have ar:=Zrw ae h1;have ay:=ZAY ae h1;generalize hm:d.msgs.getD i dE=m at *;refine rx @hm ?_;rw[show(D.agg [.str m.name,Zq m.fields])=.agg m.cells from rfl];refine cV (Zqm t.ck t.nd ah m) ?_ ?_;rintro dd S2 h;unfold Ze1 at h;split at h;rename_i u;rw[if_pos u]at ar;obtain⟨h4,h5⟩:=h;cases h4;have am:=t.move (S':=S2) (k':={ k1 with field:=-1,m:=m }) (dl':=YO m.name (Km dl m+1) dl) (sl':=YO m.name (Jy sl m) sl) (by
   subst h5;have aq:=t.ck.ne;exact⟨by rw[ZH8 _ _ aq.2,ZH8 _ _ aq.1,ZH5],by rw[ZH8 _ _ t.nd,ZH5],ZH5 _ _ _⟩) (λb h1 h2 h3=>by rw[h5,ZH8 _ _ h3,ZH8 _ _ h2,ZH8 _ _ h1])
 have al:∀s,0<=(Zr s (YO m.name (Km dl m+1) dl)).getD 0/\(Zr s (YO m.name (Km dl m+1) dl)).getD 0<=16:=λs=>by
  rw[WY];split;have hd16:=Zi3 (m:=m) ah;have:Km dl m<16:=by unfold Zel at u;simp only[ZIb,decide_eq_true_eq]at u;exact u.2.2.2.2
  simp only[ZIH];omega;exact ah s
 clear h5;refine gR0 ?_;refine gA ?_;refine Ze ?_;exact ag ((I d.msgs)-(i+1)) ω (i+1) rfl _ _ _ _ am ao ar al ω;exact absurd h.1 ψ;rintro dd S2 h;unfold Ze1 at h;split at h;exact absurd h.1 ψ;rename_i ai;obtain⟨⟨d2,ad,h4⟩,h5⟩:=h;cases h4;have hb:Zel dl sl m=false:=by simpa using ai
 rw[ay hb]at hS;exact t.bad h5 (by rw[hS]at ac;exact ac) ad (λs' c3 h1 h2 h3=>by obtain⟨u1,u2,u3,rfl⟩:=ZwY h2;refine⟨_,by simp only[Eqs,reduceCtorEq,ZH9,reduceIte,ZH6,ZIa,ZH7,Yw,Kf,h1,h3];rfl,?_⟩;trivial);simp at h1;obtain rfl:i=I d.msgs:=ω;rw[ZIC]at ae;rw[ae]at hS;simp only[Option.elim]at hS;refine rx (nd2 @ab.ck.x (nd2 @Ck.cells.eq_1 (nd2 @ZH5 (nd2 @ZIk (nd2 @Yp @Yq))))) ?_;have af:(S.upd x (.cells [.str k.d.name,YY k.d.msgs,.str k.d.start,.map bd,.map bs,.i (-1),.i k.field,.str k.m.name,Zq k.m.fields]))=S.upd x (.cells (({ k with at_:=-1 }:Ck).cells bd bs)):=rfl;rw[af];have t:=ab.updX { k with at_:=-1 };generalize S.upd x (.cells (({ k with at_:=-1 }:Ck).cells bd bs))=S1 at *;clear af ab;generalize ({ k with at_:=-1 }:Ck)=k1 at *;have e1:=Yz (vD:=YR) ZN d.start dl;have e3:=YH ZN d.start;simp only[show Ks d.start=D.str d.start from rfl]at e1 e3;refine rh ?_;refine YM ?_;simp only[Eqs,reduceCtorEq,ZH9,reduceIte,ZH6,ZIa,ZH7,Dfn.cells,t.ck.x,t.ck.bd,Ck.cells,e1,e3,Znq];refine rg ?_;refine cV (ZV t.ck.x (Zr d.start dl).isSome 11) ?_ ?_;rintro dd S2 h;obtain⟨u,rfl,rfl⟩:=YD h;rw[u]at hS;refine gR0 ?_;have av:∀o,(S2.upd z3 o) z4=sO (.cells [.bool false]):=λo=>by rw[ZH8 _ _ t.n34.symm];exact t.c4
 refine rx (nd2 @t.c3 (nd2 @t.c4 (nd2 @av (nd2 @ZH5 (nd2 @ZIk (nd2 @Yp @Yq)))))) ?_;refine ac.retU ⟨trivial,⟨rfl,rfl,trivial⟩,ZbC (Zha (by rw[ZH8 _ _ t.n34,ZH5]) (ZH5 _ _ _)) ?_⟩;rintro b S3 rfl;rw[ite_self];have g3:((S2.upd z3 (.cells [.i 0,.i 0,.i 0])).upd z4 (.cells [.bool false])) z3=sO (.cells [.i 0,.i 0,.i 0]):=by rw[ZH8 _ _ t.n34,ZH5]
 have g4:((S2.upd z3 (.cells [.i 0,.i 0,.i 0])).upd z4 (.cells [.bool false])) z4=sO (.cells [.bool false]):=ZH5 _ _ _;refine⟨_,[.ptr x 0,.agg [.i 0,.i 0,.i 0],.bool false],.tup [.any,.agg [.i 0,.i 0,.i 0],.bool false],st,by simp only[Eqs,reduceCtorEq,ZH9,reduceIte,ZH6,ZIa,ZH7,Yw,Kf,g3,g4];rfl,φ,?_,?_,rfl,0,0,0,by rw[hS];rfl⟩;exact ZpM rfl (.cons (λ_ _ v _=>.any v) (LeC.refl _));intro b o hb;have e1:b≠z3:=λe=>by rw[e,t.f3]at hb;simp at hb
 have e2:b≠z4:=λe=>by rw[e,t.f4]at hb;simp at hb
 rw[ZH8 _ _ e2,ZH8 _ _ e1];exact t.sub b o hb;rintro dd S2 h;obtain⟨u,ad,rfl⟩:=YC h;rw[u]at hS;exact t.bad (λ_ _ _ _=>rfl) (by rw[hS]at ac;exact ac) ad (λs' c3 h1 h2 h3=>by obtain⟨u1,u2,u3,rfl⟩:=ZwY h2;refine⟨_,by simp only[Eqs,reduceCtorEq,ZH9,reduceIte,ZH6,ZIa,ZH7,Yw,Kf,h1,h3];rfl,?_⟩;trivial);exact az _ 0 rfl _ k0 [] [] ab aw rfl (by simp[Zr]) ω;rintro dd S2 h;obtain⟨u,ad,rfl⟩:=YC h;rw[u,ZIE]at hS;exact ab.bad (λ_ _ _ _=>rfl) (by rw[hS]at ac;exact ac) ad (λs' c3 h1 h2 h3=>by obtain⟨u1,u2,u3,rfl⟩:=ZwY h2;refine⟨_,by simp only[Eqs,reduceCtorEq,ZH9,reduceIte,ZH6,ZIa,ZH7,Yw,Kf,h1,h3];rfl,?_⟩;trivial);rintro dd S2 h;obtain⟨u,ad,rfl⟩:=YC h;rw[u,ZIE]at hS;exact ab.bad (λ_ _ _ _=>rfl) (by rw[hS]at ac;exact ac) ad (λs' c3 h1 h2 h3=>by obtain⟨u1,u2,u3,rfl⟩:=ZwY h2;refine⟨_,by simp only[Eqs,reduceCtorEq,ZH9,reduceIte,ZH6,ZIa,ZH7,Yw,Kf,h1,h3];rfl,?_⟩;trivial)
def Zo7(d st):
  Za ZH1 126 [.agg d.cells] st λr S=>S=st/\∃a f c,r=.ret (.tup [.agg [.i a,.i f,.i c],.bool (!Zd3 d)]):=by
 refine Zb (cR 126 f126) λF t=>?_;refine rx @eQ2 ?_;refine rx @eQ2 ?_;rw[show(D.agg [.str d.name,YY d.msgs,.str d.start])=.agg d.cells from rfl];refine cV (ZkB d st) ?_ ?_;rintro i S2 ⟨rfl,a,f,c,h⟩;cases h;refine gR0 ?_;refine rg ?_;exact t.ret _ S2 rfl ψ (ZH3 _) ZH2 ⟨rfl,a,f,c,rfl⟩;rintro i S2 ⟨_,a,f,c,h⟩;cases h
def ZwD{f}(t:Ji f=true):dC (Zfc f=ZeV f.name f.kind)=ZlQ f:=by
 unfold Ji at t;simp only[ZIb,decide_eq_true_eq]at t;have i:f.kind=1\/f.kind=2\/f.kind=3\/f.kind=4\/f.kind=5\/f.kind=6\/f.kind=7\/f.kind=8\/f.kind=9\/f.kind=10\/f.kind=11\/f.kind=12:=ω;obtain⟨name,kind,bits,little,loose,low,high,size,of,tag,from_,cases_,check,key⟩:=f;obtain⟨base,terms⟩:=size;simp only at i;clear t;rw[Bool.eq_iff_iff];rcases i with h|h|h|h|h|h|h|h|h|h|h|h<;>subst h<;>simp[Zfc,Zs9,Zta,Ztb,Zn6,Ztc,Ztd,Zn7,Zte,Zn8,ZpY,ZpZ,Zll,ZeV,ZlQ,zrA,zrB,zrC,Zpx,ZxI,ZcE]<;>(try(constructor<;>(intro h;simp_all)))<;>(try(intro _;simp only[and_assoc]))
def ZqG(lo hi a b):Ys lo hi [a,b]=!(dC (a<lo) ||(dC (b<a) ||decide (hi<b))):=by
 rw[Bool.eq_iff_iff];simp[Ys];omega
def ZBr(f):ZdE f=!Zc9 f:=by
 rw[Bool.eq_iff_iff];unfold ZdE Zc9;cases f.little<;>simp;by_cases i:0<=f.bits;rw[Int.tmod_eq_emod_of_nonneg i];omega;omega
def Zmm{α p}{l:List α}{x:α}:Zi p (l++[x])=if 0<=Zi p l then Zi p l else if p x then (I l) else -1:=by
 induction l with
 |nil=>simp[Zi]
 |cons y r ih =>have h1:=ZaU p r;simp only[List.cons_append,Zi,ih,ZIi];split;simp;by_cases h:0<=Zi p r;simp[h,show ¬Zi p r<0 by omega,show 0<=Zi p r+1 by omega];simp only[h,if_false,show Zi p r<0 by omega,if_true];by_cases i:p x=true;simp[i,show ¬((I r:Int)<0) by omega];simp[i]
def Zjo(fs:List Fld)(n:Nat):Prop:=∀i,i<n->Zi (λx=>dC (x.name=(fs.getD i dE).name)) (fs.take i)<0
def ZaD{α}(p:α->Bool)(l:List α)(h:0<=Zi p l):(Zi p l).toNat<I l:=by
 have:=Wc p l;omega
def Zub{fs n}(hn:n<=I fs)(hd:Zjo fs n)(k):Zr k (JM fs n)=WG (fs.take n) k:=by
 induction n with
 |zero=>simp[JM,Zr,WG,Zi]
 |succ n ih =>
  have ih:=ih ω λi hi=>hd i ω;have u:=hd n ω;rw[Yo (show n<I fs by omega)];have t:(fs.take n).length=n:=by simp;omega
  simp only[JM];generalize fs.getD n dE=f at *;unfold WG;rw[Zmm];by_cases hk:f.name=k;rw[hk]at u;rw[if_neg (show ¬0<=Zi (λf=>dC (f.name=k)) (fs.take n) by omega)];simp only[hk,decide_true,if_true,t,show ¬((n:Int)<0) by omega,if_false];have hg:(fs.take n++[f]).getD ((n:Int)).toNat dE=f:=by simp[ZIg,List.getElem?_append,t]
  rw[hg];split;rw[WY,if_pos rfl];rw[ih];unfold WG;rw[if_pos u];have ab:¬k=f.name:=λh=>hk h.symm;have h0:Zr k (if YE f=true then YO f.name (KK f) (JM fs n) else JM fs n)=Zr k (JM fs n):=by split;rw[WY,if_neg ab];rfl
  rw[h0,ih];unfold WG;simp only[hk,decide_false,ZIz,if_false];by_cases hp:0<=Zi (λf=>dC (f.name=k)) (fs.take n);have hl:=ZaD _ _ hp;rw[if_pos hp];have hg:(fs.take n++[f]).getD (Zi (λf=>dC (f.name=k)) (fs.take n)).toNat dE=(fs.take n).getD (Zi (λf=>dC (f.name=k)) (fs.take n)).toNat dE:=by simp[ZIg,ZIB hl]
  rw[hg];rw[if_neg hp,if_pos ω,if_pos ω]
structure Zcm(d:Dfn)(a:Nat)(deps:List Int)(dl:List (Str×Int))(sl:List (Str×Bool)):Prop where
 len:I deps=a
 dep:∀s,Zr s dl=if Zy d s a<0 then none else some (deps.getD (Zy d s a).toNat default)
 str:∀s,Zr s sl=if Zy d s a<0 then none else some ((KO d a).getD (Zy d s a).toNat default)
def Zcm.has{d a deps dl sl}(h:Zcm d a deps dl sl)(s):(Zr s dl).isSome=!dC (Zy d s a<0):=by
 rw[h.dep];split<;>simp_all
def Zcm.strict{d a deps dl sl}(h:Zcm d a deps dl sl)(s):(Zr s sl).getD false=(!dC (Zy d s a<0)&&(KO d a).getD (Zy d s a).toNat dE):=by
 rw[h.str];split<;>simp_all
def ZDd{f}(hk:f.kind=1\/f.kind=2):(if f.kind=1 then ck1 f else ck2 f)=dC (JH f=0):=by
 unfold ck1 ck2 JH ZtN ZnH;rw[ZBr,ZqG];cases hb:Zc9 f
 .have hp:(0:Int)<2 ^ f.bits.toNat:=by have:=Nat.two_pow_pos f.bits.toNat;rw[show(2:Int) ^ f.bits.toNat=((2 ^ f.bits.toNat:Nat):Int) from(Int.natCast_pow 2 f.bits.toNat).symm];omega
  generalize (2:Int) ^ f.bits.toNat=pw at *;rcases hk with hk|hk<;>rw[Bool.eq_iff_iff]<;>simp[hk,Ys]<;>(try split)<;>(try omega);all_goals (try simp_all)<;>omega
 simp
def ZnF{fs}(u:Zjo fs (I fs)){s}:ZfI fs s=dC (Zd9 fs s=0):=by
 have i:(λk=>Zr k (QG fs))=WG fs:=by funext k;have:=Zub (ZIh _) u k;rw[ZIC]at this;exact this
 unfold ZfI Zd9 ivP;rw[i];have hk:s.terms.all (ZcG fs)=!s.terms.any (JF (WG fs)):=by
  rw[List.not_any_eq_all_not]
  congr 1;funext t
  have:Zr t.field (QG fs)=WG fs t.field:=congrFun i _;unfold ZcG JF;rw[this];simp
 rw[hk];cases ZU s;simp;cases s.terms.any (JF (WG fs));simp only[ZIt,Bool.not_false,ZIz,if_false,Bool.true_eq_false];rw[Bool.eq_iff_iff];simp;omega;simp
def ZzR{d a deps dl sl}(h:Zcm d a deps dl sl)(hi lo l):Zct dl hi lo l=dC (Ze6 d a hi lo l=0):=by
 induction l generalizing lo with
 |nil=>simp[Zct,Ze6]
 |cons c r ih =>simp only[Zct,Ze6,ZqG,h.has,ih];rcases Bool.eq_false_or_eq_true (dC (c.low<lo) ||(dC (c.high<c.low) ||decide (hi<c.high))) with hb|hb<;>simp only[hb];simp;simp only[Bool.not_false,ZIt,ZIz,if_false];by_cases i:Zy d c.of a<0<;>simp[i]
def Zz6{i}(u:Zjo i (I i))(k):(Zr k (QG i)).isSome=(!dC (Zi (λf=>dC (f.name=k)) i<0)&&YE (i.getD (Zi (λf=>dC (f.name=k)) i).toNat dE)) /\
  ((Zr k (QG i)).isSome=true->(Zr k (QG i)).getD (0,0)=KK (i.getD (Zi (λf=>dC (f.name=k)) i).toNat dE)):=by
 have:=Zub (ZIh _) u k;rw[ZIC]at this;rw[this];unfold WG;split;rename_i h;simp[h];rename_i h;split;rename_i t;simp only[h,t];simp;rename_i t;simp only[h,t];simp
def ZAt{d a deps dl sl}(h:Zcm d a deps dl sl){m i}(hi:i<I m.fields)(hd:Zjo m.fields i){f}(hk:Ji f=true):
  Ze8 (m.fields.take i) dl sl f=dC (QU d a m i f=0):=by
 have ag:(m.fields.take i).length=i:=by simp;omega
 have u:Zjo (m.fields.take i) (m.fields.take i).length:=λj hj=>by rw[ag]at hj;rw[QZ ω,List.take_take,Nat.min_eq_left ω];exact hd j hj
 unfold Ji at hk;simp only[ZIb,decide_eq_true_eq]at hk;have aj:f.kind=1\/f.kind=2\/f.kind=3\/f.kind=4\/f.kind=5\/f.kind=6\/f.kind=7\/f.kind=8\/f.kind=9\/f.kind=10\/f.kind=11\/f.kind=12:=ω;have hn:=ZDd (f:=f);unfold Ze8 QU;rcases aj with h1|h1|h1|h1|h1|h1|h1|h1|h1|h1|h1|h1<;>simp only[h1,ZIJ,if_true,if_false,true_or,or_true,or_self,forall_const,false_implies]at hn⊢;exact hn;exact hn;unfold ck3;rw[ZqG,Zsr];by_cases hA:0<=f.low/\f.low<=f.high/\f.high<34359738368;simp[hA];omega;rw[Bool.eq_iff_iff];simp;omega;exact ZnF u;unfold ck5;rw[Bool.eq_iff_iff];simp[Ys]<;>omega;unfold ck6;rw[Bool.eq_iff_iff];simp[Ys]<;>omega;unfold ck7;rw[h.has,ZnF u];by_cases h2:Zy d f.of a<0<;>simp[h2];unfold ck8;rw[h.has];by_cases h2:Zy d f.of a<0<;>simp[h2];have ht:=Zz6 u f.tag;unfold Zjx ZjH Zs0;rw[ZzR h];have ad:KR m f.tag i=Zi (λf'=>dC (f'.name=f.tag)) (m.fields.take i):=rfl;rw[ad];have ak:Zwb m f.tag i=ZfQ (m.fields.take i) f:=rfl;rw[ak];generalize hz:Zi (λf'=>dC (f'.name=f.tag)) (m.fields.take i)=z at *;by_cases af:z<0;simp[ht.1,af];have ai:=ZaD (λf':Fld=>dC (f'.name=f.tag)) (m.fields.take i) ω;rw[hz,ag]at ai;have hg:(m.fields.take i).getD z.toNat dE=m.fields.getD z.toNat dE:=QZ ai;rw[hg]at ht;by_cases t:YE (m.fields.getD z.toNat dE)=true;have hs:(Zr f.tag (QG (m.fields.take i))).isSome=true:=by rw[ht.1,t];simp[af]
 rw[ht.2 hs,hs,t];cases ZfQ (m.fields.take i) f;simp only[af,decide_false,Bool.not_true,Bool.or_self,Bool.not_false,ZIt,ZIz,if_false,Bool.false_or];by_cases hl:1<=I f.cases/\I f.cases<=40;have ab:(dC (1<=(I f.cases:Int))&&dC ((I f.cases:Int)<=40))=true:=by simp only[ZIb,decide_eq_true_eq];omega
 have ac:(dC (I f.cases<1) ||decide (40<I f.cases))=false:=by simp only[Bool.or_eq_false_iff,decide_eq_false_iff_not];omega
 rw[ab,ac];simp;have ab:(dC (1<=(I f.cases:Int))&&dC ((I f.cases:Int)<=40))=false:=by simp only[Bool.and_eq_false_iff,decide_eq_false_iff_not];omega
 have ac:(dC (I f.cases<1) ||decide (40<I f.cases))=true:=by simp only[ZIp,decide_eq_true_eq];omega
 rw[ab,ac];simp;simp;have ae:YE (m.fields.getD z.toNat dE)=false:=by simpa using t
 rw[ht.1,ae];simp;unfold Zwy ZoN;rw[Bool.eq_iff_iff];generalize f.bits=b;by_cases h0:0<=b;rw[Int.tmod_eq_emod_of_nonneg h0];simp;omega;simp;omega;unfold Zwz;have ad:KR m f.from_ i=Zi (λf'=>dC (f'.name=f.from_)) (m.fields.take i):=rfl;rw[ad];rw[Bool.eq_iff_iff];simp[Ys];generalize Zi (λf'=>dC (f'.name=f.from_)) (m.fields.take i)=z;split;simp;omega;split<;>simp<;>omega;unfold ZwA ZqE;rw[h.strict,ZnF u];by_cases ah:f.key<0\/4294967295<f.key;rw[if_pos (by simpa using ah)];simp[Ys];omega;rw[if_neg (by simpa using ah)];have:Ys 0 4294967295 [f.key]=true:=by simp[Ys];omega
 rw[this];by_cases h2:Zy d f.of a<0;simp[h2];simp only[h2,decide_false,Bool.not_false,ZIt,Bool.false_or];cases(KO d a).getD (Zy d f.of a).toNat dE<;>simp
def Zz9{d a deps dl sl}(h:Zcm d a deps dl sl){m i}(hi:i<I m.fields)(hd:Zjo m.fields i)(f):
  QT (m.fields.take i) dl sl f=dC (Qo d a m i f=0):=by
 unfold QT Qo;rw[show Zi (λx=>dC (x.name=f.name)) (m.fields.take i)=KR m f.name i from rfl];cases Y7 f.name;simp;by_cases h1:0<=KR m f.name i;simp[h1];by_cases hk:Ji f=true;have t:(dC (f.kind<1) ||decide (12<f.kind))=false:=by unfold Ji at hk;simp only[ZIb,decide_eq_true_eq]at hk;simp only[Bool.or_eq_false_iff,decide_eq_false_iff_not];omega
 rw[ZwD hk,ZAt h hi hd hk,hk,t];cases ZlQ f<;>simp[h1];have u:Ji f=false:=by simpa using hk
 have t:(dC (f.kind<1) ||decide (12<f.kind))=true:=by unfold Ji at hk;simp only[ZIb,decide_eq_true_eq]at hk;simp only[ZIp,decide_eq_true_eq];omega
 rw[u,t];simp[h1]
def Zp6{d a m}(j){l l'}(h:YP d a m j l=nO):YP d a m j (l++l')=YP d a m (j+I l) l':=by
 induction l generalizing j with
 |nil=>rfl
 |cons f r ih =>
  simp only[YP]at h;split at h;rename_i i;simp only[List.cons_append,YP,i,if_true,ZIi];rw[ih _ h]
  congr 1;omega
  simp at h
def Zys{d a deps dl sl}(h:Zcm d a deps dl sl){m}(n)(hn:n<=I m.fields):
  (QQ dl sl m n=true↔YP d a m 0 (m.fields.take n)=nO)/\(QQ dl sl m n=true->Zjo m.fields n):=by
 induction n with
 |zero=>simp[QQ,YP,Zjo]
 |succ n ih =>
  have ih:=ih ω;rw[ZjQ,Yo (show n<I m.fields by omega),ZIb];have i:(m.fields.take n).length=n:=by simp;omega
  by_cases hp:QQ dl sl m n=true;have hf:=ih.1.1 hp;have hd:=ih.2 hp;rw[Zp6 _ hf,Zz9 h (show n<I m.fields by omega) hd,i,Nat.zero_add];simp only[YP];refine⟨?_,λhh=>?_⟩;simp only[hp,true_and,decide_eq_true_eq];split<;>simp_all;have hz:Qo d a m n (m.fields.getD n dE)=0:=by simpa using hh.2
  intro j hj;by_cases t:j<n;exact hd j t;obtain rfl:j=n:=ω;unfold Qo at hz;split at hz;· omega
  split at hz;· omega
  rename_i h2;unfold KR at h2;omega;refine⟨?_,λhh=>absurd hh.1 hp⟩;constructor;intro hh;exact absurd hh.1 hp;intro hh;exfalso;apply hp;refine ih.1.2 ?_;have u:∀(j:Nat) (l l':List Fld),YP d a m j (l++l')=nO->YP d a m j l=nO:=by
   intro j l l';induction l generalizing j with
   |nil=>intro _;rfl
   |cons f r ih2 =>simp only[List.cons_append,YP];split;exact ih2 _;simp
  exact u _ _ _ hh
def Zox{α:Type}{l:List α}{p q:α->Int}(h:∀s∈l,p s=q s)(b):l.foldl (λa s=>max a (p s)) b=l.foldl (λa s=>max a (q s)) b:=by
 induction l generalizing b with
 |nil=>rfl
 |cons x r ih =>simp only[List.foldl_cons,h x ψ];exact ih (λs i=>h s (by simp[i])) _
def Zwt{α:Type}{p q}{l:List α}(h:∀x∈l,p x=q x):l.all p=l.all q:=by
 induction l with
 |nil=>rfl
 |cons x r ih=>simp only[List.all_cons,h x ψ,ih λy i=>h y (by simp[i])]
def ZC9{d a deps dl sl}(h:Zcm d a deps dl sl){m}(hm:d.msgs.getD a dE=m):
  (Zel dl sl m=true↔W7 d a m=nO/\Zfe d a deps m<=16)/\(W7 d a m=nO->Km dl m+1=Zfe d a deps m/\Jy sl m=ZfO d m (KO d a)):=by
 have hf:=Zys h (m:=m) (I m.fields) (ZIh _);rw[ZIC]at hf;have h2:W7 d a m=nO->Km dl m+1=Zfe d a deps m/\Jy sl m=ZfO d m (KO d a):=λhh=>by
  have u:=(ZAT hm hh).ref;rw[hm]at u;constructor;unfold Km Zfe Zyf
  congr 1
  refine Zox (λs hs=>?_) _;have:=u s hs;rw[h.dep,if_neg ω];rfl;unfold Jy ZfO
  congr 1
  refine Zwt λs hs=>?_;have:=u s hs;rw[h.strict,ZcZ];simp[show ¬Zy d s a<0 by omega]
 refine⟨?_,h2⟩;unfold Zel;rw[h.has];by_cases hn:Y7 m.name=true;by_cases hd:Zy d m.name a<0;by_cases hl:1<=I m.fields/\I m.fields<=40;have i:(dC (1<=(I m.fields:Int))&&dC ((I m.fields:Int)<=40))=true:=by simp only[ZIb,decide_eq_true_eq];omega
 have t:(dC (I m.fields<1) ||decide (40<I m.fields))=false:=by simp only[Bool.or_eq_false_iff,decide_eq_false_iff_not];omega
 have ab:W7 d a m=YP d a m 0 m.fields:=by unfold W7;rw[if_neg (by simp[hn]),if_neg ω,t];rfl
 rw[ab]at h2⊢;rw[i,hn];simp only[hd,decide_true,Bool.not_true,Bool.not_false,ZIt,ZIb,decide_eq_true_eq,hf.1];constructor;rintro⟨h3,h4⟩;have:=(h2 h3).1;exact⟨h3,ω⟩;rintro⟨h3,h4⟩;have:=(h2 h3).1;exact⟨h3,ω⟩;have i:(dC (1<=(I m.fields:Int))&&dC ((I m.fields:Int)<=40))=false:=by simp only[Bool.and_eq_false_iff,decide_eq_false_iff_not];omega
 have t:(dC (I m.fields<1) ||decide (40<I m.fields))=true:=by simp only[ZIp,decide_eq_true_eq];omega
 unfold W7;rw[i,t,if_neg (by simp[hn]),if_neg ω];simp;unfold W7;rw[if_neg (by simp[hn]),if_pos ω];simp[hd];have ac:Y7 m.name=false:=by simpa using hn
 unfold W7;rw[ac];simp
def Zon{d a m}(i:a<I d.msgs)(hm:d.msgs.getD a dE=m)(s):Zy d s (a+1)=if 0<=Zy d s a then Zy d s a else if m.name=s then (a:Int) else -1:=by
 unfold Zy;rw[Yo i,hm,Zmm];have:(d.msgs.take a).length=a:=by simp;omega
 rw[this];simp
def ZjW{α:Type}[Inhabited α]{l}{a:Nat}{v:α}(h:I l=a):(l++[v]).getD a dE=v:=by subst h;simp[ZIg]
def ZjX{α:Type}[Inhabited α]{l}{a:Nat}{v:α}(h:a<I l):(l++[v]).getD a dE=l.getD a dE:=by simp[ZIg,ZIB h]
def Zcm.step{d:Dfn}{a:Nat}{deps:List Int}{dl:List (Str×Int)}{sl:List (Str×Bool)}(h:Zcm d a deps dl sl){m:Msg}(ha:a<I d.msgs)(hm:d.msgs.getD a dE=m)(hnew:Zy d m.name a<0)(v:Int):
  Zcm d (a+1) (deps++[v]) (YO m.name v dl) (YO m.name (ZfO d m (KO d a)) sl):={
 len:=by simp[h.len]
 dep s:=by
  rw[WY,Zon ha hm,h.dep];by_cases u:s=m.name;subst u;rw[if_pos rfl,if_neg (show ¬0<=Zy d m.name a by omega),if_pos rfl,if_neg ω];rw[show((a:Int)).toNat=a from rfl,ZjW h.len];rw[if_neg u];by_cases t:0<=Zy d s a;have i:(Zy d s a).toNat<I deps:=by
   have:=ZaD _ _ t;rw[h.len];have h3:(d.msgs.take a).length<=a:=by simp;omega
   unfold Zy;omega
  rw[if_pos t,if_neg ω,if_neg ω,ZjX i];rw[if_neg t,if_neg (show ¬m.name=s from λe=>u e.symm),if_pos ω,if_pos ω]
 str s:=by
  rw[WY,Zon ha hm,h.str];simp only[KO,hm];by_cases u:s=m.name;subst u;rw[if_pos rfl,if_neg (show ¬0<=Zy d m.name a by omega),if_pos rfl,if_neg ω];rw[show((a:Int)).toNat=a from rfl,ZjW (ZcZ d a)];rw[if_neg u];by_cases t:0<=Zy d s a;have i:(Zy d s a).toNat<(KO d a).length:=by
   have:=ZaD _ _ t;rw[ZcZ];have h3:(d.msgs.take a).length<=a:=by simp;omega
   unfold Zy;omega
  rw[if_pos t,if_neg ω,if_neg ω,ZjX i];rw[if_neg t,if_neg (show ¬m.name=s from λe=>u e.symm),if_pos ω,if_pos ω] }
def ZDr{d}(n):∀{a deps dl sl},Zcm d a deps dl sl->a+n=I d.msgs ->
  ((ZcQ dl sl (d.msgs.drop a)).elim false λp=>(Zr d.start p.1).isSome)=(JV d a (d.msgs.drop a) deps).isNone:=by
 induction n with
 |zero =>intro a deps dl sl h ha;obtain rfl:a=I d.msgs:=ω;rw[List.drop_length];simp only[ZcQ,JV,Option.elim,h.has];by_cases hs:Zy d d.start (I d.msgs)<0<;>simp[hs]
 |succ n ih =>
  intro a deps dl sl h ha;have t:a<I d.msgs:=ω;rw[Wn t];generalize hm:d.msgs.getD a dE=m;have he:=ZC9 h hm;simp only[ZcQ,JV];by_cases hp:Zel dl sl m=true;obtain⟨u,h2⟩:=he.1.1 hp;obtain⟨h3,h4⟩:=he.2 u;rw[if_pos hp,u];simp only;rw[if_neg ω,h3,h4];refine ih (h.step t hm ?_ _) ω;unfold W7 at u;split at u;· simp at u
  split at u;· simp at u
  omega;rw[if_neg hp];cases u:W7 d a m with
  |some x=>obtain⟨i,c⟩:=x;rfl
  |none =>have:¬Zfe d a deps m<=16:=λh2=>hp (he.1.2 ⟨u,h2⟩);simp only;rw[if_pos ω];rfl
def Zt5(d):Zd3 d=ZfT d:=by
 unfold Zd3 ZfT Zs5;cases hn:Y7 d.name;rfl;by_cases hl:1<=I d.msgs/\I d.msgs<=60;have i:(dC (1<=(I d.msgs:Int))&&dC ((I d.msgs:Int)<=60))=true:=by simp only[ZIb,decide_eq_true_eq];omega
 have t:(dC (I d.msgs<1) ||decide (60<I d.msgs))=false:=by simp only[Bool.or_eq_false_iff,decide_eq_false_iff_not];omega
 rw[i,t];simp only[ZIt,Bool.true_eq_false,ZIz,if_false];have u:Zcm d 0 [] [] []:=⟨rfl,λs=>by simp[Zr,Zy,Zi],λs=>by simp[Zr,Zy,Zi]⟩;have:=ZDr (I d.msgs) u ω;rw[List.drop_zero]at this;exact this;have i:(dC (1<=(I d.msgs:Int))&&dC ((I d.msgs:Int)<=60))=false:=by simp only[Bool.and_eq_false_iff,decide_eq_false_iff_not];omega
 have t:(dC (I d.msgs<1) ||decide (60<I d.msgs))=true:=by simp only[ZIp,decide_eq_true_eq];omega
 rw[i,t];rfl
def ZsP{st b c0 c1 v0 v1}(hb:st b=sO (.cells [c0,c1]))(h0:VT ZH1 c0 [] st (.bool v0) st)(h1:VT ZH1 c1 [] st (.bool v1) st):
  ZL ZH1 227 [.msl b 0 2 2 1,.fn (.func 188) [] []] st (.i (if v0 then (if v1 then -1 else 1) else 0)) st:=by
 refine Zz (cR 227 f227) λu F i=>?_;clear u;have g0:=(Ze5 h0).VT (first:=[]) (args:=[c0]) (caps:=[]);have g1:=(Ze5 h1).VT (first:=[]) (args:=[c1]) (caps:=[]);refine gG ?_;refine Zd (JT ?_);refine rg ?_;refine i1 ?_;refine rg ?_;refine xA @hb ?_;refine cW (g0) ?_;refine cd (λhc=>?_) (λhc=>?_);have hv:v0=false:=by cases v0<;>simp_all
 rw[hv]at i;refine rg ?_;exact i rfl φ (ZH3 _) ZH2;have hv:v0=true:=by cases v0<;>simp_all
 rw[hv]at i;refine gA ?_;rw[show(0:Int)+1=1 from rfl];refine Ze ?_;refine rg ?_;refine i1 ?_;refine rg ?_;refine xA @hb ?_;refine cW (g1) ?_;refine cd (λhd=>?_) (λhd=>?_);have t:v1=false:=by cases v1<;>simp_all
 rw[t]at i;refine rg ?_;exact i rfl φ (ZH3 _) ZH2;have t:v1=true:=by cases v1<;>simp_all
 rw[t]at i;refine gA ?_;rw[show(1:Int)+1=2 from rfl];refine Ze ?_;refine rg ?_;refine iG ?_;exact i rfl φ (ZH3 _) ZH2
def ZrK{st b c0 c1 u v1}(hb:st b=sO (.cells [c0,c1]))(h0:VT ZH1 c0 [] st (.bool u) st)(h1:VT ZH1 c1 [] st (.bool v1) st):
  ZL ZH1 187 [.msl b 0 2 2 1,.fn (.func 188) [] []] st (.bool (!u||!v1)) st:=by
 refine Zz (cR 187 f187) λt F i=>?_;clear t;refine gG ?_;refine ct (ZsP hb h0 h1) ?_;exact i rfl φ (by cases u<;>cases v1<;>exact ZH3 _) ZH2
def Zdk{L s}(l):qv L s .lenL [.d (Zq l)]=sO (True,.d (.i (I l))):=rfl
def atF{L s}(l i):qv L s (.iaddr 15) [.d (Zq l),.d (.i i)]=sO (0<=i/\i<I l,.d (.ep (l.getD i.toNat dE).cells 0)):=rfl
def Zab(f:Fld):I f.cells=15:=rfl
def Zc1(f:Fld):List.take 15 f.cells=f.cells:=rfl
def Zhn(l)(hl:I l<=1000)(hb:∀f∈l,Zhh f)(i:Nat)(hi:i<=I l){st:St}:ZL ZH1 128 [Zq l,.i i,.i (Ky l i)] st (.bool (Qu l i)) st:=by
 refine Zz (cR 128 f128) λag F t=>?_;clear ag;have hW:=Qu.eq_1 l i;refine rx (nd2 @okF @ceF) ?_;refine rx @Zdk ?_;refine cd (λhc=>?_) (λhc=>?_);have u:i=I l:=by simp at hc;omega
 rw[if_pos u]at hW;refine rg ?_;exact t rfl φ (by rw[hW];exact ZH3 _) ZH2;have u:i<I l:=by simp at hc;omega
 rw[if_neg ω]at hW;generalize hg:l.getD i dE=g at *;refine xA (nd2 @atF (nd2 @hg (nd2 @Zab @Zc1))) ?_;refine Zc ?_;refine xP 3 λz3 h3=>?_;refine xP 5 λz5 h5=>?_;refine xP 7 λz7 h7=>?_;refine rg ?_;refine Zc ?_;refine xP 8 λz8 h8=>?_;have k5:=Zm h5;have k7:=Zm h7;have ah:=Zm k7.2;have k8:=Zm h8;have ad:=Zm k8.2;have ai:=Zm ad.2;obtain⟨A,hA⟩:∃A,A=((((st.upd z3 (.cells [Zq l])).upd z5 (.cells [.i (Ky l i)])).upd z7 (.cells g.cells)).upd z8 (.cells [.fn (.func 182) [] [.ptr z5 0,.ptr z7 0],.fn (.func 184) [] [.ptr z3 0,.ptr z7 0]])):=⟨_,rfl⟩;have g3:A z3=sO (.cells [Zq l]):=by rw[hA,ZH8 _ _ ai.1.symm,ZH8 _ _ ah.1.symm,ZH8 _ _ k5.1.symm];exact ZH5 _ _ _
 have g5:A z5=sO (.cells [.i (Ky l i)]):=by rw[hA,ZH8 _ _ ad.1.symm,ZH8 _ _ k7.1.symm];exact ZH5 _ _ _
 have g7:A z7=sO (.cells g.cells):=by rw[hA,ZH8 _ _ k8.1.symm];exact ZH5 _ _ _
 have g8:A z8=sO (.cells [.fn (.func 182) [] [.ptr z5 0,.ptr z7 0],.fn (.func 184) [] [.ptr z3 0,.ptr z7 0]]):=by rw[hA];exact ZH5 _ _ _
 have ac:st.sub A:=by rw[hA];exact ZIK (ZIr _ h3) (ZIK (ZIr _ h5) (ZIK (ZIr _ h7) (ZIr _ h8)))
 have ae:=(ZmX g5 g7).VT (first:=[]) (args:=[]) (caps:=[_,_]);have af:=(ZmY hl hb g3 g7 ω).VT (first:=[]) (args:=[]) (caps:=[_,_]);have ab:=ZrK g8 ae af;rw[<-hA];clear hA;refine rg ?_;refine⟨by decide,by decide,by decide,by decide,by unfold big;decide,?_⟩;rw[show(if ((2:Nat):Int)=0 then 0 else 0*1)=(0:Nat) from rfl];refine ct (ab) ?_;exact t rfl φ (by rw[hW];exact ZH3 _) ac
end Go.DL
