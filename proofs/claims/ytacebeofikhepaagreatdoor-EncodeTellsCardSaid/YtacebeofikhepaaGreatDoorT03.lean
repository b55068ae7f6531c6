/- Lemmas: DlAe, DlAf, R04a, Lst, R04b, Iv, R04d, R04e, R05a, R05b, R05c, R05d, R05e, R05f, R05g, R05h, R05i, R05j, R05k, Own, S00, S01, S02, Maps, S03, S04, S05, S06, Val, DlCp, Z05, Z06, W01, W02, W03, S10, S11, R43d, U01, A01, A02, A03, S12, S13, S14, S15, S16, S17, S18, S19, S20, S21, S22, S23, A04. -/
import Derived.Test.YtacebeofikhepaaGreatDoorT02
set_option maxHeartbeats 16000000
set_option maxRecDepth 100000
set_option linter.all false
open List renaming length->I
open Option renaming some -> sO, none -> nO
open Inhabited renaming default -> dE
open Decidable renaming decide -> dC
open Go.Proofs.Tryz
open And renaming intro -> ZIA
open Bool renaming and_eq_true -> ZIJ, false_and -> ZJb, false_eq_true -> ZI7, or_eq_true -> ZIW, true_and -> ZIY
open Go.DL.D.Le renaming refl -> ZIB
open Go.DL.St renaming single -> ZI0, sub_refl -> ZIz, sub_trans -> ZJh, sub_upd -> ZIZ, upd -> ZJc, upd_ne -> ZIG, upd_same -> ZIE, upd_upd -> ZIR
open Go.Proofs.Tryz renaming prog -> ZIy
open Int renaming reduceEq -> ZJg, reduceToNat -> ZIF
open List renaming append_assoc -> ZI1, append_nil -> ZI5, flatMap_cons -> ZJl, getD -> ZIN, getElem?_append_left -> ZI6, getElem?_append_right -> ZJi, getElem_of_mem -> ZIV, length_append -> ZII, length_cons -> ZIP, length_drop -> ZI8, length_map -> ZIU, length_take -> ZIS, map_cons -> ZIQ, map_nil -> ZI9, mem_cons -> ZJd, range -> ZIM, take_length -> ZJa
open Nat renaming add_mul -> ZIX, le_refl -> ZIO, mul_le_mul_right -> ZIT, reduceAdd -> ZIH, reduceEqDiff -> ZIC, reduceLeDiff -> ZID
open Option renaming getD_some -> ZJe
open Option.some renaming injEq -> ZIx
namespace Go.DL
open Go
variable [Zs5]
variable {kp:Option (List Nat)}{L:Loc}{H:Env}{s:St}{w:World}{os:List DOp}{ds:List D}{B:List (Nat × Rd)}{dst:Option Nat}{tmps:Array Value}{g:G}{Φ:Res->St->Prop}{Z:Nat->Nat}{xs:List Opd}{side:Prop}{row:Nat->List D}
def ZjD(P:Program)(fv:D)(n:Nat)(args:Nat->List D)(t:St):Prop :=
 ∀(l:Nat) (go:Nat->Oc) (A:Nat->St->Prop) (a0:St),Zm5 P (.fn (.yield l) [] []) n args go A->A 0 a0->Z6 a0 t->WP P fv [.fn (.yield l) [] []] (a0.or t) λr S=>∃a,Zho n go A a r/\a.sub S
section
variable {P:Program}
def Zc6.Y{fv n args t}(h:Zc6 P fv n args t):ZjD P fv n args t:=λ_=>h _
def KT{F:Fr P}{rs}{Φ}{dds}(hF:YL F rs Φ dds){o}{ps}{da db}{dk}{H}{L}{p}{fv}(hf:ZC H true o=sO (p,.d fv))(hp:p)(ks)(hks:(Yn H ks).map (·.1) |>.Nodup){a0 t}(hd:Z6 a0 t){n}{args}(hit:ZjD P fv n args t)(hlen:∀j,j<n->(args j).length=I ps)(go:Nat->Oc)(B:Nat->St->Prop)(h0:B 0 a0)(hbody:∀j a,j<n->(∀i,i<j->go i=.next)->B j a->∀(F':Fr P) (ready busy:St),Z6 a ready ->
   (∀{dk:List WY} {H:Env} {L:Loc},(Z6 a busy->Zt F' dk H L (a.or busy))->Zt F' (.beginR::dk) H L (a.or ready)) ->
   Zs4 F' busy (λoc a'=>oc=go j/\B (j+1) a')->Zt F' [.code da,.beginR,.code db] (WN ps (args j) (Ki ks H)) [] (a.or ready))(hall:∀q a,(∀i,i<n->go i=.next)->B n a->a q=nO->Zt (F.mark q) dk H L (a.upd q .dfr))(hret:∀q a m,m<n->(∀i,i<m->go i=.next)->go m=.stop .ret->B (m+1) a->a q=nO->Zt (F.mark q) (.code .ret::dk) H L (a.upd q .dfr))(hexit:∀q a m id,m<n->(∀i,i<m->go i=.next)->go m=.stop (.exit id)->B (m+1) a->a q=nO->Zt (F.mark q) (.code (.exit id)::dk) H L (a.upd q .dfr))(hpan:∀q a m d,m<n->(∀i,i<m->go i=.next)->go m=.pan d->B (m+1) a->a q=nO->Y3 (F.mark q) H L d (a.upd q .dfr))(hgo:∀m c,go m=.stop c->c=.ret\/∃id,c=.exit id):
  Zt F (.code (.rangeF o ps da db)::dk) H L (a0.or t):=by
 refine ZsZ hF.roundOf hf hp ks hks λq l r hq hl ab a4 ah a5 aq ar a6 az=>?_;have ag:a0 q=nO:=by cases h:a0 q with|none=>rfl|some x=>rw[Zs h]at hq;simp at hq
 have af:a0 l=nO:=by cases h:a0 l with|none=>rfl|some x=>rw[Zs h]at hl;simp at hl
 have a3:t q=nO:=by rw[ZJ ag]at hq;exact hq
 have ay:t l=nO:=by rw[ZJ af]at hl;exact hl
 let stOf:Nat->LSt:=λj=>match j with
  |0=>.ready
  |j+1=>match go j with
   |.next=>.ready
   |.stop c=>.done c
   |.pan _=>.busy
 let A:Nat->St->Prop:=λj S=>∃a,B j a/\Z6 a (lpS q l r .ready)/\S=a.or (lpS q l r (stOf j));have au:Z6 a0 (lpS q l r .ready):=λb o hb=>by by_cases h1:b=q;rw[h1];exact ag;by_cases h2:b=l;rw[h2];exact af;rw[ZfB h1 h2]at hb;simp at hb
 have a8:(((a0.or t).upd q .dfr).upd l (.loop r .ready))=(a0.or (lpS q l r .ready)).or t:=by
  funext b;simp only[ZJc];by_cases h2:b=l;subst h2;rw[if_pos rfl,Zs (s:=a0.or _) (by rw[ZJ af];exact QB ab)];rw[if_neg h2];by_cases h1:b=q;subst h1;rw[if_pos rfl,Zs (s:=a0.or _) (by rw[ZJ ag];exact Zax)];rw[if_neg h1];cases ha:a0 b with
  |some x=>rw[Zs ha,Zs (Zs ha)]
  |none=>rw[ZJ ha,ZJ (s:=a0.or _) (by rw[ZJ ha];exact ZfB h1 h2)]
 have av:Z6 (a0.or (lpS q l r .ready)) t:=λb o hb=>by rw[ZJ (hd b o hb)];exact ZfB (λe=>by rw[e,a3]at hb;simp at hb) (λe=>by rw[e,ay]at hb;simp at hb)
 have aw:=hF.ex;have ae:Zm5 P (.fn (.yield l) [] []) n args go A:=by
  rintro j hj al S ⟨a,ao,u,rfl⟩;have a7:stOf j=.ready:=by
   cases j with
   |zero=>rfl
   |succ j=>simp only[stOf,al j ω]
  rw[a7];refine Zr3 (an:=F.an) (N:=F.N) (r:=r) (by rw[ZJ (u l _ (QB ab))];exact QB ab) (by rw[ah];exact hlen j hj) aq ar a6 (by rw[ah];exact az) λF' aj ax=>?_;rw[a4,ah];refine hbody j a hj al ao F' (lpS q l r .ready) (lpS q l r .busy) u (λhk=>aj.begin (r:=r) (by rw[ZJ (u l _ (QB ab))];exact QB ab) ?_) ?_
  .have e:(a.or (lpS q l r .ready)).upd l (.loop r .busy)=a.or (lpS q l r .busy):=by
    funext b;simp only[ZJc];by_cases h2:b=l;subst h2;rw[if_pos rfl,ZJ (u b _ (QB ab)),QB ab];rw[if_neg h2];by_cases h1:b=q;subst h1;rw[ZJ (u b _ Zax),ZJ (u b _ Zax),Zax,Zax];cases ha:a b with
    |some x=>rw[Zs ha,Zs ha]
    |none=>rw[ZJ ha,ZJ ha,ZfB h1 h2,ZfB h1 h2]
   rw[e];exact hk (Zt7 u ab)
  refine Zvb aj ab (by rw[ax,a5];exact aw) ?_;rintro oc a' ⟨rfl,am⟩ ak;exact⟨rfl,a',am,Zt7 ak ab,rfl⟩
 refine⟨_,by rw[a8];exact hit _ go A _ ae ⟨a0,h0,au,rfl⟩ av,?_,?_⟩
 .rintro d S ⟨S',ad,ac⟩;have fin:∀a,Z6 a (lpS q l r .ready)->∀st,(a.or (lpS q l r st)).sub S->S l=sO (.loop r st)/\(a.upd q .dfr).sub (S.del l)/\a q=nO:=λa u st hs=>by
   refine⟨hs l _ (by rw[ZJ (u l _ (QB ab))];exact QB ab),λb o hb=>?_,u q _ Zax⟩;have ap:b≠l:=λe=>by subst e;rw[ZIG _ _ (Ne.symm ab),u b _ (QB ab)]at hb;simp at hb
   simp only[St.del,ap,if_false];by_cases h1:b=q;subst h1;rw[ZIE]at hb;exact hs b o (by rw[ZJ (u b _ Zax),Zax];exact hb);rw[ZIG _ _ h1]at hb;exact hs b o (Zs hb)
  cases ad with
  |all h ha =>
   obtain⟨a,hB,u,rfl⟩:=ha;have ai:stOf n=.ready:=by
    cases n with
    |zero=>rfl
    |succ n=>simp only[stOf,h n ω]
   rw[ai]at ac;obtain⟨f1,f2,f3⟩:=fin a u _ ac;exact .inl ⟨f1,KN f2 (hall q a h hB f3)⟩
  |stop m c hm h hc ha =>
   obtain⟨a,hB,u,rfl⟩:=ha;have ai:stOf (m+1)=.done c:=by simp only[stOf,hc]
   rw[ai]at ac;obtain⟨f1,f2,f3⟩:=fin a u _ ac;rcases hgo m c hc with rfl|⟨id,rfl⟩;exact .inr ⟨.ret,.ret,f1,rfl,KN f2 (hret q a m hm h hc hB f3)⟩;exact .inr ⟨.exit id,.exit id,f1,rfl,KN f2 (hexit q a m id hm h hc hB f3)⟩
 rintro d S ⟨S',ad,ac⟩;cases ad with
 |pan m d hm h hc ha =>
  obtain⟨a,hB,u,rfl⟩:=ha;have hs:(a.upd q .dfr).sub S:=λb o hb=>by by_cases h1:b=q;subst h1;rw[ZIE]at hb;exact ac b o (by rw[ZJ (u b _ Zax),Zax];exact hb);rw[ZIG _ _ h1]at hb;exact ac b o (Zs hb)
  exact ZwF hs (hpan q a m d hm h hc hB (u q _ Zax))
end
def gR0{A B:Prop}(k:B)(h:Hid B->A:=by
 intro hk;first|refine Zm ?_|refine YE ?_|refine Yp ?_
 simp only[Eqs,reduceCtorEq,Int.reduceToNat,reduceIte,Nat.reduceEqDiff,Nat.reduceAdd,Nat.reduceLeDiff];exact hk.out):A:=h ⟨k⟩
def gQ{p:Prop}(e:p){A B:Prop}(k:B)(h:p->Hid B->A:=by
 intro e1 hk;first|refine Zm ?_|refine YE ?_|refine Yp ?_
 simp only[Eqs,reduceCtorEq,Int.reduceToNat,reduceIte,Nat.reduceEqDiff,Nat.reduceAdd,Nat.reduceLeDiff,e1];exact hk.out):A:=h e ⟨k⟩
def kF{A B:Prop}(k:B)(h:Hid B->A:=by
 intro hk;refine And.intro (by first|trivial|exact⟨rfl,trivial⟩|simp[Wi,K2,YY,Zam]) ?_;exact hk.out):A:=h ⟨k⟩
def cX{p q:Prop}(e:p)(c:q){A B:Prop}(k:B)(h:p->q->Hid B->A:=by
 intro e1 hc hk;refine ZaD rfl rfl rfl rfl rfl φ φ hc (Zm ?_);simp only[Eqs,reduceCtorEq,Int.reduceToNat,reduceIte,Nat.reduceEqDiff,Nat.reduceAdd,Nat.reduceLeDiff,e1];exact hk.out):A:=h e c ⟨k⟩
def tX{p q:Prop}(e:p)(c:q){A B:Prop}(k:B)(h:p->q->Hid B->A:=by
 intro e1 hc hk;refine ZaE rfl rfl rfl rfl rfl φ φ hc (Zm ?_);simp only[Eqs,reduceCtorEq,Int.reduceToNat,reduceIte,Nat.reduceEqDiff,Nat.reduceAdd,Nat.reduceLeDiff,e1];exact hk.out):A:=h e c ⟨k⟩
def cG{q:Prop}(c:q){A B:Prop}(k:B)(h:q->Hid B->A:=by
 intro hc hk;refine Zq3 rfl rfl rfl rfl rfl (λhcg=>⟨by first|trivial|(simpa[ZgJ]using hcg),trivial,hc⟩) (Zm ?_);simp only[Eqs,reduceCtorEq,Int.reduceToNat,reduceIte,Nat.reduceEqDiff,Nat.reduceAdd,Nat.reduceLeDiff];exact hk.out):A:=h c ⟨k⟩
def cW{q:Prop}(c:q){A B:Prop}(k:B)(h:q->Hid B->A:=by
 intro hc hk;refine Zwz rfl rfl rfl rfl rfl φ φ hc (Zm ?_);simp only[Eqs,reduceCtorEq,Int.reduceToNat,reduceIte,Nat.reduceEqDiff,Nat.reduceAdd,Nat.reduceLeDiff];exact hk.out):A:=h c ⟨k⟩
def cV{q:Prop}(c:q){A B C:Prop}(k:B)(k2:C)(h:q->Hid B->Hid C->A:=by
 intro hc hk hk2;exact Zly rfl rfl rfl rfl rfl φ φ hc hk.out hk2.out):A:=h c ⟨k⟩ ⟨k2⟩
def vV{q:Prop}(c:q){A B C:Prop}(k:B)(k2:C)(h:q->Hid B->Hid C->A:=by
 intro hc hk hk2;exact ZbL rfl rfl rfl rfl rfl φ φ hc hk.out hk2.out):A:=h c ⟨k⟩ ⟨k2⟩
def cW0{q:Prop}(c:q){A B:Prop}(k:B)(h:q->Hid B->A:=by
 intro hc hk;refine ZBG rfl rfl rfl rfl rfl φ φ hc (YE ?_);simp only[Eqs,reduceCtorEq,Int.reduceToNat,reduceIte,Nat.reduceEqDiff,Nat.reduceAdd,Nat.reduceLeDiff];exact hk.out):A:=h c ⟨k⟩
def cV0{q:Prop}(c:q){A B C:Prop}(k:B)(k2:C)(h:q->Hid B->Hid C->A:=by
 intro hc hk hk2;exact ZxW rfl rfl rfl rfl rfl φ φ hc hk.out hk2.out):A:=h c ⟨k⟩ ⟨k2⟩
def vV0{q:Prop}(c:q){A B C:Prop}(k:B)(k2:C)(h:q->Hid B->Hid C->A:=by
 intro hc hk hk2;exact Zia rfl rfl rfl rfl rfl φ φ hc hk.out hk2.out):A:=h c ⟨k⟩ ⟨k2⟩
def cXD{p q:Prop}(e:p)(c:q){A B:Prop}(k:B)(h:p->q->Hid B->A:=by
 intro e1 hc hk;refine Zf8 rfl rfl rfl rfl rfl φ φ hc (Yp ?_);simp only[Eqs,reduceCtorEq,Int.reduceToNat,reduceIte,Nat.reduceEqDiff,Nat.reduceAdd,Nat.reduceLeDiff,e1];exact hk.out):A:=h e c ⟨k⟩
def tXD{p q:Prop}(e:p)(c:q){A B:Prop}(k:B)(h:p->q->Hid B->A:=by
 intro e1 hc hk;refine Zjy rfl rfl rfl rfl rfl φ φ hc (by first|trivial|exact⟨rfl,trivial⟩|simp[Wi,K2]) (Yp ?_);simp only[Eqs,reduceCtorEq,Int.reduceToNat,reduceIte,Nat.reduceEqDiff,Nat.reduceAdd,Nat.reduceLeDiff,e1];exact hk.out):A:=h e c ⟨k⟩
def cGD{q:Prop}(c:q){A B:Prop}(k:B)(h:q->Hid B->A:=by
 intro hc hk;refine Zn6 rfl rfl rfl rfl rfl (λhcg=>⟨by first|trivial|(simpa[ZgJ]using hcg),trivial,hc⟩) (Yp ?_);simp only[Eqs,reduceCtorEq,Int.reduceToNat,reduceIte,Nat.reduceEqDiff,Nat.reduceAdd,Nat.reduceLeDiff];exact hk.out):A:=h c ⟨k⟩
def cWD{q:Prop}(c:q){A B:Prop}(k:B)(h:q->Hid B->A:=by
 intro hc hk;refine ZC5 rfl rfl rfl rfl rfl φ φ hc (by first|trivial|exact⟨rfl,trivial⟩|simp[Wi,K2]) (Yp ?_);simp only[Eqs,reduceCtorEq,Int.reduceToNat,reduceIte,Nat.reduceEqDiff,Nat.reduceAdd,Nat.reduceLeDiff];exact hk.out):A:=h c ⟨k⟩
def cVD{q:Prop}(c:q){A B C:Prop}(k:B)(k2:C)(h:q->Hid B->Hid C->A:=by
 intro hc hk hk2;exact Zib rfl rfl rfl rfl rfl φ φ hc hk.out hk2.out):A:=h c ⟨k⟩ ⟨k2⟩
def gA{A B:Prop}(k:B)(h:Hid B->A:=by
 intro hq;repeat(first|refine Zc ?_|refine Zr ?_|refine Z4 ?_|refine ZK ?_|refine Yx ?_|refine Ze ?_|refine Ys ?_|refine ZT rfl ?_)
 first|refine rgR (by conv=>lhs;whnf) (by conv=>lhs;whnf) (Zm ?_)|refine ZiX (by conv=>lhs;whnf) (by conv=>lhs;whnf) (YE ?_)|refine rgD (by conv=>lhs;whnf) (by conv=>lhs;whnf) (Yp ?_)
 simp only[Eqs,reduceCtorEq,Int.reduceToNat,reduceIte,Nat.reduceEqDiff,Nat.reduceAdd,Nat.reduceLeDiff];repeat(refine And.intro (by first|omega|trivial|(intro h0;simp at h0;omega)) ?_)
 exact hq.out):A:=h ⟨k⟩
def xA{p:Prop}(e:p){A B:Prop}(k:B)(h:p->Hid B->A:=by
 intro e1 hq;repeat(first|refine Zc ?_|refine Zr ?_|refine Z4 ?_|refine ZK ?_|refine Yx ?_|refine Ze ?_|refine Ys ?_|refine ZT rfl ?_)
 first|refine rgR (by conv=>lhs;whnf) (by conv=>lhs;whnf) (Zm ?_)|refine ZiX (by conv=>lhs;whnf) (by conv=>lhs;whnf) (YE ?_)|refine rgD (by conv=>lhs;whnf) (by conv=>lhs;whnf) (Yp ?_)
 simp only[Eqs,reduceCtorEq,Int.reduceToNat,reduceIte,Nat.reduceEqDiff,Nat.reduceAdd,Nat.reduceLeDiff,e1];repeat(refine And.intro (by first|omega|trivial|(intro h0;simp at h0;omega)) ?_)
 exact hq.out):A:=h e ⟨k⟩
def gG{A B:Prop}(k:B)(h:Hid B->A:=by
 intro hq;repeat(first|refine Zc ?_|refine Zr ?_|refine Z4 ?_|refine ZK ?_|refine Yx ?_|refine Ze ?_|refine Ys ?_|refine ZT rfl ?_)
 first|refine rgR (by conv=>lhs;whnf) (by conv=>lhs;whnf) (Zm ?_)|refine ZiX (by conv=>lhs;whnf) (by conv=>lhs;whnf) (YE ?_)|refine rgD (by conv=>lhs;whnf) (by conv=>lhs;whnf) (Yp ?_)
 simp only[Eqs,reduceCtorEq,Int.reduceToNat,reduceIte,Nat.reduceEqDiff,Nat.reduceAdd,Nat.reduceLeDiff];repeat(first|refine Zc ?_|refine Zr ?_|refine Z4 ?_|refine ZK ?_|refine Yx ?_|refine Ze ?_|refine Ys ?_|refine ZT rfl ?_)
 first|refine rgR (by conv=>lhs;whnf) (by conv=>lhs;whnf) (Zm ?_)|refine ZiX (by conv=>lhs;whnf) (by conv=>lhs;whnf) (YE ?_)|refine rgD (by conv=>lhs;whnf) (by conv=>lhs;whnf) (Yp ?_)
 simp only[Eqs,reduceCtorEq,Int.reduceToNat,reduceIte,Nat.reduceEqDiff,Nat.reduceAdd,Nat.reduceLeDiff];exact hq.out):A:=h ⟨k⟩
def iG{A B:Prop}(k:B)(h:Hid B->A:=by
 intro hq;repeat(first|refine Zc ?_|refine Zr ?_|refine Z4 ?_|refine ZK ?_|refine Yx ?_|refine Ze ?_|refine Ys ?_|refine ZT rfl ?_)
 refine Zl rfl trivial (λh=>by first|(simp at h;done)|(rw[hk]at h;simp at h;done)) (λ_=>?_);repeat(first|refine Zc ?_|refine Zr ?_|refine Z4 ?_|refine ZK ?_|refine Yx ?_|refine Ze ?_|refine Ys ?_|refine ZT rfl ?_)
 first|refine rgR (by conv=>lhs;whnf) (by conv=>lhs;whnf) (Zm ?_)|refine ZiX (by conv=>lhs;whnf) (by conv=>lhs;whnf) (YE ?_)|refine rgD (by conv=>lhs;whnf) (by conv=>lhs;whnf) (Yp ?_)
 simp only[Eqs,reduceCtorEq,Int.reduceToNat,reduceIte,Nat.reduceEqDiff,Nat.reduceAdd,Nat.reduceLeDiff];exact hq.out):A:=h ⟨k⟩
def gI{A B:Prop}(k:B)(h:Hid B->A:=by
 intro hq;repeat(first|refine Zc ?_|refine Zr ?_|refine Z4 ?_|refine ZK ?_|refine Yx ?_|refine Ze ?_|refine Ys ?_|refine ZT rfl ?_)
 first|refine rgR (by conv=>lhs;whnf) (by conv=>lhs;whnf) (Zm ?_)|refine ZiX (by conv=>lhs;whnf) (by conv=>lhs;whnf) (YE ?_)|refine rgD (by conv=>lhs;whnf) (by conv=>lhs;whnf) (Yp ?_)
 simp only[Eqs,reduceCtorEq,Int.reduceToNat,reduceIte,Nat.reduceEqDiff,Nat.reduceAdd,Nat.reduceLeDiff];repeat(first|refine Zc ?_|refine Zr ?_|refine Z4 ?_|refine ZK ?_|refine Yx ?_|refine Ze ?_|refine Ys ?_|refine ZT rfl ?_)
 refine Zl rfl trivial (λh=>by first|(simp at h;done)|(rw[hk]at h;simp at h;done)) (λ_=>?_);exact hq.out):A:=h ⟨k⟩
section
variable {P:Program} {F:Fr P} {dk:List WY} {H:Env} {L:Loc} {s:St}
def xP{A:Prop}{t:St}{B:Nat->Prop}(l:Nat)(k:∀b,t b=nO->B b)(h:∀n,n=l->(∀b,t b=nO->Hid (B b))->A:=by
 intro n hn hk;refine Zdz n (by rw[hn];rfl) λb hb=>?_;simp only[hn,Eqs,reduceCtorEq,Int.reduceToNat,reduceIte,Nat.reduceEqDiff,Nat.reduceAdd,Nat.reduceLeDiff,JQ,Q8,delL];exact(hk b hb).out):A:=h l rfl λb hb=>⟨k b hb⟩
def kE{A B:Prop}(l:List Nat)(k:B)(h:∀n,n=l->Hid B->A:=by
 intro n hn hk;refine Zq5 n ?_;simp only[hn,Eqs,reduceCtorEq,Int.reduceToNat,reduceIte,Nat.reduceEqDiff,Nat.reduceAdd,Nat.reduceLeDiff];exact hk.out):A:=h l rfl ⟨k⟩
end
end Go.DL
namespace Go.DL
open Go Go.Proofs
variable {kp:Option (List Nat)}{L:Loc}{H:Env}{s:St}{w:World}{os:List DOp}{ds:List D}{B:List (Nat × Rd)}{dst:Option Nat}{tmps:Array Value}{g:G}{Φ:Res->St->Prop}{Z:Nat->Nat}{xs:List Opd}{side:Prop}{row:Nat->List D}
def Zkm(c:UInt8):Bool:=(dC ((65:Int)<=c.toNat)&&dC ((c.toNat:Int)<=90)) ||(dC ((97:Int)<=c.toNat)&&dC ((c.toNat:Int)<=122))
def ZwT(c:UInt8):Bool:=dC ((48:Int)<=c.toNat)&&dC ((c.toNat:Int)<=57)
def Zgs(c:UInt8):Bool:=Zkm c ||ZwT c ||decide ((c.toNat:Int)=95)
def Wa(s:Str):Bool:=match s with
 | []=>false
 |c::_=>dC (I s<=32)&&Zkm c&&s.all Zgs
def Zeb(v:Int):Bool:=dC (-1048576<=v)&&dC (v<=1048576)
end Go.DL
namespace Go.DL
open Go
variable {kp:Option (List Nat)}{L:Loc}{H:Env}{s:St}{w:World}{os:List DOp}{ds:List D}{B:List (Nat × Rd)}{dst:Option Nat}{tmps:Array Value}{g:G}{Φ:Res->St->Prop}{Z:Nat->Nat}{xs:List Opd}{side:Prop}{row:Nat->List D}
def Wh{α:Type}[Inhabited α]{l:List α}{k}(h:k<I l):l.drop k=l.getD k dE::l.drop (k+1):=by
 rw[List.drop_eq_getElem_cons h];simp[ZIN,h]
def Yo{α:Type}[Inhabited α]{l:List α}{k}(h:k<I l):l.take (k+1)=l.take k++[l.getD k dE]:=by
 rw[List.take_succ_eq_append_getElem h];simp[ZIN,h]
def ZX{α:Type}[Inhabited α](f:α->List D)(row:Nat->List D)(l:List α):Prop:=∀i,i<I l->row i=f (l.getD i dE)
section
variable {α:Type} [Inhabited α] {f:α->List D} {row row2:Nat->List D} {l a b:List α}
def ZX.self:ZX f (λi=>f (l.getD i dE)) l:=λ_ _=>rfl
def ZX.nil:ZX f row []:=λi h=>absurd h (Nat.not_lt_zero i)
def ZX.one{x}(h:row 0=f x):ZX f row [x]:=λi t=>by
 obtain rfl:i=0:=by simp at t;exact t
 exact h
def ZX.app{n}(h:ZX f row a)(u:ZX f row2 b)(hn:n=I a):ZX f (YV n row row2) (a++b):=λi hi=>by
 subst hn;unfold YV;split;rename_i t;rw[h i t];simp[ZIN,ZI6 t];rename_i t;rw[u (i-I a) (by simp at hi;omega)];simp[ZIN,ZJi (Nat.not_lt.1 t)]
def ZX.snoc{n x}(h:ZX f row a)(t:row2 0=f x)(u:n=I a):ZX f (YV n row row2) (a++[x]):=h.app (.one t) u
def ZX.take(h:ZX f row l)(k):ZX f row (l.take k):=λi t=>by
 rw[ZIS]at t;rw[h i ω];simp[ZIN,List.getElem?_take_of_lt (show i<k by omega)]
def ZX.le{t n s}(h:ZX f row l)(u:n=I l):(D.sl t n s row).Le (slD s f l):=Zgb u λi hi=>h i ω
end
open Go.Proofs
def Zad(t:Yw):Bool:=Wa t.field&&!dC (t.factor=0)&&Zeb t.factor
def ZeV:List Str->List Yw->Bool
 |_,[]=>true
 |seen,t::r=>Zad t&&!dC (t.field∈seen)&&ZeV (seen++[t.field]) r
def Z9(s:ZbN):Bool:=Zeb s.base&&dC (I s.terms<=4)&&ZeV [] s.terms
abbrev Ze9:=Str->Option (Int×Int)
def ZbY(r:Int×Int):Bool:=dC (r.1<0) ||decide (r.2<r.1) ||decide (34359738368<=r.2)
def Qz(look:Ze9)(t:Yw):Bool:=match look t.field with|some r=>ZbY r|none=>false
def JD(look:Ze9)(t:Yw):Bool:=(look t.field).isNone
def ZcF(s:ZbN)(look:Ze9):Int:=if Z9 s=false then 2 else if s.terms.any (Qz look) then 2 else if s.terms.any (JD look) then 9 else 0
def Ziv(look:Ze9)(t:Yw):Int×Int:=(look t.field).getD (0,0)
def loT(look:Ze9)(t:Yw):Int:=if 0<t.factor then t.factor*(Ziv look t).1 else t.factor*(Ziv look t).2
def hiT(look:Ze9)(t:Yw):Int:=if 0<t.factor then t.factor*(Ziv look t).2 else t.factor*(Ziv look t).1
def loS(look:Ze9):List Yw->Int
 | []=>0
 |t::r=>loT look t+loS look r
def hiS(look:Ze9):List Yw->Int
 | []=>0
 |t::r=>hiT look t+hiS look r
def JS(s:ZbN)(look:Ze9):Int×Int×Int:=if ZcF s look=0 then (s.base+loS look s.terms,s.base+hiS look s.terms,0) else (0,0,ZcF s look)
def ZzZ{α:Type}[Inhabited α]{p}{l:List α}{i}(h:i<I l):(l.take (i+1)).any p=((l.take i).any p ||p (l.getD i dE)):=by
 rw[Yo h,List.any_append];simp
def ZDd{α:Type}[Inhabited α]{p}{l:List α}{i}(h:i<I l)(t:p (l.getD i dE)=true):l.any p=true :=
 List.any_eq_true.2 ⟨_,ZE h,t⟩
def Zw3{α β:Type}[Inhabited α]{f}{b:β}{l:List α}{i:Nat}(h:i<I l):(l.take (i+1)).foldl f b=f ((l.take i).foldl f b) (l.getD i dE):=by
 rw[Yo h,List.foldl_append];rfl
def Zi{α:Type}(p:α->Bool):List α->Int
 | []=>-1
 |x::r=>if p x then 0 else if Zi p r<0 then -1 else Zi p r+1
def Wp{α}{p:α->Bool}{l:List α}(h:∀x∈l,p x=false):Zi p l=-1:=by
 induction l with
 |nil=>rfl
 |cons x r ih=>simp[Zi,h x ψ,ih (λy t=>h y (by simp[t]))]
def W2{α}[Inhabited α]{p}{l:List α}{i:Nat}(hi:i<I l)(t:p (l.getD i dE)=true)(h:∀j,j<i->p (l.getD j dE)=false):Zi p l=i:=by
 induction l generalizing i with
 |nil=>simp at hi
 |cons x r ih =>
  cases i with
  |zero=>simp at t;simp[Zi,t]
  |succ i =>have u:=h 0 ω;have:=ih (i:=i) (by simpa using hi) (by simpa using t) (λj hj=>by simpa using h (j+1) ω);simp at u;simp[Zi,u,this];omega
def ZaQ{α}(p:α->Bool)(l:List α):-1<=Zi p l:=by
 induction l with
 |nil=>simp[Zi]
 |cons x r ih=>simp only[Zi];split<;>(try split)<;>omega
def WE{α}(p:α->Bool)(l:List α):Zi p l<I l:=by
 induction l with
 |nil=>simp[Zi]
 |cons x r ih=>simp only[Zi,ZIP];split<;>(try split)<;>omega
def ZcB{α}{p:α->Bool}{l:List α}(h:Zi p l<0):∀x∈l,p x=false:=by
 induction l with
 |nil=>simp
 |cons x r ih =>have:=ZaQ p r;simp only[Zi]at h;split at h;omega;rename_i u;split at h;rename_i t;intro y hy;rcases List.mem_cons.1 hy with rfl|hy;simpa using u;exact ih t y hy;omega
def Jr{α}[Inhabited α]{p:α->Bool}{l:List α}(h:0<=Zi p l):p (l.getD (Zi p l).toNat dE)=true/\∀j,j<(Zi p l).toNat->p (l.getD j dE)=false:=by
 induction l with
 |nil=>simp[Zi]at h
 |cons x r ih =>
  have:=ZaQ p r;by_cases t:p x=true;simp[Zi,t];simp only[Zi,t,if_false,ZI7]at h⊢;by_cases u:Zi p r<0;simp[u]at h;rw[if_neg u];obtain⟨h1,h2⟩:=ih ω;rw[show(Zi p r+1).toNat=(Zi p r).toNat+1 by omega];refine⟨by simpa using h1,λj hj=>?_⟩;cases j with
  |zero=>simpa using t
  |succ j=>simpa using h2 j ω
def QX{α:Type}[Inhabited α]{l:List α}{n j}(h:j<n):(l.take n).getD j dE=l.getD j dE:=by
 simp[ZIN,List.getElem?_take_of_lt h]
def Zz(d:Dfn)(s:Str)(n:Nat):Int:=Zi (λm=>dC (m.name=s)) (d.msgs.take n)
def KV(m:Msg)(s:Str)(n:Nat):Int:=Zi (λf=>dC (f.name=s)) (m.fields.take n)
def J1(f:Fld)(tag:Int):Int:=Zi (λc=>dC (c.low<=tag)&&dC (tag<=c.high)) f.cases
def YB(f:Fld):Bool:=dC (1<=f.kind)&&dC (f.kind<=3)
def KL(f:Fld):Int×Int:=if f.kind=2 then (f.low,f.low) else (f.low,f.high)
def ZsM(a b:Int):Bool:=dC (0<=a)&&(dC (a<=b)&&dC (b<34359738368))
def ZxQ:List Str:=[[],[98,108,120,104],[98,108,120],[111,120,104],[115],[120,104],[111,104],[102,115],[102],[116,99],[98],[114,107],[102,115,121]]
def ZpI(k:Int):Str:=ZxQ.getD k.toNat []
def ZcE(s:Str)(c:UInt8):Bool:=dC (c∈s)
def zrA(u:Str)(f:Fld):Bool:=(ZcE u 98 ||decide (f.bits=0))&&((ZcE u 108||!f.little)&&((ZcE u 111||!f.loose)&&((ZcE u 120 ||decide (f.low=0))&&(ZcE u 104 ||decide (f.high=0)))))
def zrB(u:Str)(f:Fld):Bool:=(ZcE u 115 ||(dC (f.size.base=0)&&dC (I f.size.terms=0)))&&((ZcE u 102 ||decide (f.of=[]))&&((ZcE u 116 ||decide (f.tag=[]))&&(ZcE u 114 ||decide (f.from_=[]))))
def zrC(u:Str)(f:Fld):Bool:=(ZcE u 99 ||decide (I f.cases=0))&&((ZcE u 107 ||decide (f.check=0))&&(ZcE u 121 ||decide (f.key=0)))
def Zl9(f:Fld):Bool:=zrA (ZpI f.kind) f&&(zrB (ZpI f.kind) f&&zrC (ZpI f.kind) f)
def Zc9(f:Fld):Bool:=dC (f.bits<1) ||(dC (32<f.bits) ||(f.little&&(!dC (f.bits=16)&&(!dC (f.bits=24)&&!dC (f.bits=32)))))
def Zll(f:Fld):Int:=if f.kind=2 then f.low else f.high
def Zkw(f:Fld):Bool:=dC (f.low<0) ||(dC (Zll f<f.low) ||decide (2 ^ f.bits.toNat<=Zll f))
def QM(f:Fld):Int:=if Zc9 f then 6 else if Zkw f then 7 else 0
def ZDW{b}(h0:0<=b)(h1:b<=32):J8 .i64 1 b=2 ^ b.toNat:=by
 unfold J8;rw[show Nat.min b.toNat IntKind.i64.bits=b.toNat from Nat.min_eq_left (show b.toNat<=IntKind.i64.bits by simp[IntKind.bits];omega)];simp
def ZgI{b:Int}(h0:0<=b)(h1:b<=32):(0:Int)<2 ^ b.toNat/\(2:Int) ^ b.toNat<=4294967296:=by
 have h:=Nat.pow_le_pow_right (n:=2) ω (show b.toNat<=32 by omega);have t:=Nat.two_pow_pos b.toNat;rw[show(2:Int) ^ b.toNat=((2 ^ b.toNat:Nat):Int) from(Int.natCast_pow 2 b.toNat).symm];generalize 2 ^ b.toNat=x at h t⊢;omega
def Zwp(m:Msg)(s:Str)(n:Nat):Bool:=(m.fields.take n).any λf=>dC (f.kind=9)&&dC (f.tag=s)
def Zfg(d:Dfn)(at_:Nat)(high:Int):Int->List Y6->Int
 |_,[]=>0
 |low,c::r=>if dC (c.low<low) ||(dC (c.high<c.low) ||decide (high<c.high)) then 7 else if Zz d c.of at_<0 then 8 else Zfg d at_ high (c.high+1) r
def Ztm(d:Dfn)(at_:Nat)(f:Fld)(low high:Int):Int:=if dC (I f.cases<1) ||decide (40<I f.cases) then 3 else Zfg d at_ high low f.cases
def WD(fs:List Fld):Ze9:=λs=>if Zi (λf=>dC (f.name=s)) fs<0 then nO else if YB (fs.getD (Zi (λf=>dC (f.name=s)) fs).toNat dE) then sO (KL (fs.getD (Zi (λf=>dC (f.name=s)) fs).toNat dE)) else nO
def Zd8(fs:List Fld)(s:ZbN):Int:=if Z9 s=false then 9 else if s.terms.any (JD (WD fs)) then 8 else if !dC ((JS s (WD fs)).2.2=0) ||(dC ((JS s (WD fs)).1<0) ||decide (1048576<(JS s (WD fs)).2.1)) then 9 else 0
def Zbe(l:List Str):D:=slD 1 (λs=>[.str s]) l
def ZaX(f:Fld):List Str:=if dC (f.kind=7) ||(dC (f.kind=8) ||decide (f.kind=12)) then [f.of] else []
def Yv(f:Fld):List Str:=ZaX f++if f.kind=9 then f.cases.map (·.of) else []
def Zcn(out:List Str)(s:Str):List Str:=if s∈out then out else out++[s]
def Ko(m:Msg):List Str:=(m.fields.flatMap Yv).foldl Zcn []
def ZuV(out s):(Zcn out s).length<=I out+1:=by unfold Zcn;split<;>simp
def Zmh(l t:List Str):(l.foldl Zcn t).length<=I t+I l:=by
 induction l generalizing t with
 |nil=>simp
 |cons x r ih=>have:=ih (Zcn t x);have:=ZuV t x;simp only[List.foldl_cons,ZIP];omega
def Zjq(l:List Fld)(i):((l.take i).flatMap Yv).length<=(l.flatMap Yv).length:=by
 conv=>rhs;rw[<-List.take_append_drop i l,List.flatMap_append,ZII]
 omega
def Zmg(l:List Fld)(i)(t:i<I l):(l.take (i+1)).flatMap Yv=(l.take i).flatMap Yv++Yv (l.getD i dE):=by
 rw[Yo t,List.flatMap_append];simp
def ZfW(d:Dfn)(m:Msg)(prev:List Bool):Bool:=m.fields.all (λf=>!f.loose)&&(Ko m).all λs=>prev.getD (Zz d s (I prev)).toNat dE
def KR(d:Dfn):Nat->List Bool
 |0=>[]
 |n+1=>KR d n++[ZfW d (d.msgs.getD n dE) (KR d n)]
def Zc0(d n):(KR d n).length=n:=by
 induction n with
 |zero=>rfl
 |succ n ih=>simp[KR,ih]
structure ZD5(d:Dfn)(j:Nat):Prop where
 few:((d.msgs.getD j default).fields.flatMap Yv).length<=1000000
 ref:∀s∈Ko (d.msgs.getD j default),0<=Zz d s j
def Ztd{α:Type}[Inhabited α]{p}{l:List α}{i}(h:i<I l):(l.take (i+1)).all p=((l.take i).all p&&p (l.getD i dE)):=by
 rw[Yo h,List.all_append];simp
def Zo7(f:Fld):Bool:=!dC (f.bits=2)&&(!dC (f.bits=4)&&(dC (f.bits<8) ||(dC (512<f.bits)||!dC (Int.tmod f.bits 8=0))))
def ZjV(m:Msg)(i:Nat)(f:Fld):Bool:=dC (KV m f.tag i<0) ||(!YB (m.fields.getD (KV m f.tag i).toNat dE) ||Zwp m f.tag i)
def ZqS(d:Dfn)(at_:Nat)(f:Fld):Bool:=dC (Zz d f.of at_<0)||!(KR d at_).getD (Zz d f.of at_).toNat dE
def Qo(d:Dfn)(at_:Nat)(m:Msg)(i:Nat)(f:Fld):Int :=
 if f.kind=1 then QM f else if f.kind=2 then QM f
 else if f.kind=3 then (if ZsM f.low f.high then 0 else 7)
 else if f.kind=4 then Zd8 (m.fields.take i) f.size
 else if f.kind=5 then (if dC (f.low<0) ||(dC (255<f.low) ||(dC (f.high<0) ||decide (1048576<f.high))) then 7 else 0)
 else if f.kind=6 then (if dC (f.high<2) ||decide (1048576<f.high) then 7 else 0)
 else if f.kind=7 then (if Zz d f.of at_<0 then 8 else Zd8 (m.fields.take i) f.size)
 else if f.kind=8 then (if Zz d f.of at_<0 then 8 else 0)
 else if f.kind=9 then (if ZjV m i f then 8 else Ztm d at_ f (KL (m.fields.getD (KV m f.tag i).toNat dE)).1 (KL (m.fields.getD (KV m f.tag i).toNat dE)).2)
 else if f.kind=10 then (if Zo7 f then 6 else 0)
 else if f.kind=11 then (if dC (f.check<1) ||decide (3<f.check) then 7 else if KV m f.from_ i<0 then 8 else 0)
 else if f.kind=12 then (if dC (f.key<0) ||decide (4294967295<f.key) then 7 else if ZqS d at_ f then 8 else Zd8 (m.fields.take i) f.size)
 else 0
def Qn(d:Dfn)(at_:Nat)(m:Msg)(i:Nat)(f:Fld):Int :=
 if Wa f.name=false then 1 else if 0<=KV m f.name i then 2 else if dC (f.kind<1) ||decide (12<f.kind) then 4 else if Zl9 f=false then 5 else Qo d at_ m i f
def YM(d:Dfn)(at_:Nat)(m:Msg):Nat->List Fld->Option (Int×Int)
 |_,[]=>nO
 |i,f::r=>if Qn d at_ m i f=0 then YM d at_ m (i+1) r else sO (i,Qn d at_ m i f)
def W5(d:Dfn)(at_:Nat)(m:Msg):Option (Int×Int) :=
 if Wa m.name=false then sO (-1,1) else if 0<=Zz d m.name at_ then sO (-1,2) else if dC (I m.fields<1) ||decide (40<I m.fields) then sO (-1,3) else YM d at_ m 0 m.fields
def Zyo(d:Dfn)(at_:Nat)(deps:List Int)(b:Int)(l:List Str):Int:=l.foldl (λa s=>max a (deps.getD (Zz d s at_).toNat dE)) b
def Zfp(d:Dfn)(at_:Nat)(deps:List Int)(m:Msg):Int:=Zyo d at_ deps 0 (Ko m)+1
def JP(d:Dfn):Nat->List Msg->List Int->Option (Int×Int×Int)
 |_,[],_=>if Zz d d.start (I d.msgs)<0 then sO (-1,-1,11) else nO
 |at_,m::r,deps=>match W5 d at_ m with
  |some (i,c)=>sO (at_,i,c)
  |none=>if 16<Zfp d at_ deps m then sO (at_,-1,10) else JP d (at_+1) r (deps++[Zfp d at_ deps m])
def Zts(d:Dfn):Option (Int×Int×Int) :=
 if Wa d.name=false then sO (-1,-1,1) else if dC (I d.msgs<1) ||decide (60<I d.msgs) then sO (-1,-1,3) else JP d 0 d.msgs []
def Zf1(d:Dfn):Bool:=(Zts d).isNone
def Zyb{d at_ t low l}(h:Zfg d at_ t low l=0):∀c∈l,0<=Zz d c.of at_:=by
 induction l generalizing low with
 |nil=>simp
 |cons c r ih =>simp only[Zfg]at h;split at h;omega;split at h;omega;intro x hx;rcases List.mem_cons.1 hx with rfl|hx;omega;exact ih h x hx
def Zrh{d at_ i m f}(h:Qn d at_ m i f=0):(Yv f).length<=41/\∀s∈Yv f,0<=Zz d s at_:=by
 unfold Qn at h;split at h;· omega
 split at h;· omega
 split at h;· omega
 rename_i hk;split at h;· omega
 simp only[ZIW,decide_eq_true_eq,not_or,Int.not_lt]at hk;have t:f.kind=1\/f.kind=2\/f.kind=3\/f.kind=4\/f.kind=5\/f.kind=6\/f.kind=7\/f.kind=8\/f.kind=9\/f.kind=10\/f.kind=11\/f.kind=12:=ω;unfold Qo at h;rcases t with hk|hk|hk|hk|hk|hk|hk|hk|hk|hk|hk|hk<;>simp only[hk,ZJg,if_true,if_false]at h<;>(try(simp[Yv,ZaX,hk];done));simp only[Yv,ZaX,hk];split at h;omega;simp;omega;simp only[Yv,ZaX,hk];split at h;omega;simp;omega;split at h;omega;unfold Ztm at h;split at h;omega;rename_i u;simp only[ZIW,decide_eq_true_eq,not_or,Nat.not_lt]at u;have:=Zyb h;simp[Yv,ZaX,hk];exact⟨ω,this⟩;split at h;omega;split at h;omega;rename_i hv;simp only[ZqS,ZIW,decide_eq_true_eq,not_or]at hv;simp[Yv,ZaX,hk];omega
def ZoE{d at_ m i l}(h:YM d at_ m i l=nO):(l.flatMap Yv).length<=41*I l/\∀s∈l.flatMap Yv,0<=Zz d s at_:=by
 induction l generalizing i with
 |nil=>simp
 |cons f r ih =>simp only[YM]at h;split at h;rename_i hf;have t:=Zrh hf;have u:=ih h;simp only[ZJl,ZII,ZIP,List.mem_append];refine⟨ω,λs hs=>?_⟩;rcases hs with hs|hs;exact t.2 s hs;exact u.2 s hs;simp at h
def ZhF{s}{l t:List Str}:s∈l.foldl Zcn t↔s∈t\/s∈l:=by
 induction l generalizing t with
 |nil=>simp
 |cons x r ih =>simp only[List.foldl_cons,ih,ZJd];unfold Zcn;split;rename_i h;constructor;rintro(h1|h1);exact .inl h1;exact .inr (.inr h1);rintro(h1|rfl|h1);exact .inl h1;exact .inl h;exact .inr h1;simp only[List.mem_append,List.mem_singleton,_root_.or_assoc]
def Zu7{s m}:s∈Ko m↔s∈m.fields.flatMap Yv:=by
 unfold Ko;rw[ZhF];simp
def ZBg{d j m}(hm:d.msgs.getD j dE=m)(h:W5 d j m=nO):ZD5 d j:=by
 unfold W5 at h;split at h;· simp at h
 split at h;· simp at h
 split at h;· simp at h
 rename_i t;simp only[ZIW,decide_eq_true_eq,not_or,Nat.not_lt]at t;have:=ZoE h;subst hm;exact⟨ω,λs u=>this.2 s (Zu7.1 u)⟩
end Go.DL
namespace Go.DL
open Go
variable {kp:Option (List Nat)}{L:Loc}{H:Env}{s:St}{w:World}{os:List DOp}{ds:List D}{B:List (Nat × Rd)}{dst:Option Nat}{tmps:Array Value}{g:G}{Φ:Res->St->Prop}{Z:Nat->Nat}{xs:List Opd}{side:Prop}{row:Nat->List D}
def Yc{q:Nat->Prop}{j}(h:∀i,i<j->q i)(hj:q j):∀i,i<j+1->q i:=λi u=>by
 rcases Nat.lt_or_eq_of_le (Nat.le_of_lt_succ u) with t |rfl;exact h i t;exact hj
def Zqr{s}{t:Tok}{x k:Nat}(u:t.okIn s){o:QO}(hx:s x=sO o):(s.own t k) x=sO o:=Y2 u _ _ hx
def st2(st:St)(t1:Tok)(k1:Nat)(t2:Tok)(k2:Nat)(x:Nat)(c:QO):St:=((st.own t1 k1).own t2 k2).upd x c
def Yq{st t1 t2 x t u c}:(st2 st t1 t t2 u x c) x=sO c:=ZIE _ _ _
def Yr{st t1 t2 x u k2 c t}:(st2 st t1 u t2 k2 x c).upd x t=st2 st t1 u t2 k2 x t:=ZIR _ _ _ _
open Go.Proofs
def KJ{α:Type}(p:α->Bool):List α->Nat
 | []=>0
 |x::r=>if p x then 1 else KJ p r+1
def Jf{α}{p:α->Bool}{l:List α}(h:∀x∈l,p x=false):KJ p l=I l:=by
 induction l with
 |nil=>rfl
 |cons x r ih=>simp only[KJ,h x ψ,ZIP];rw[ih λy t=>h y (by simp[t])];simp
def ZaY{α}[Inhabited α]{p}{l:List α}{i:Nat}(hi:i<I l)(t:p (l.getD i dE)=true)(h:∀j,j<i->p (l.getD j dE)=false):KJ p l=i+1:=by
 induction l generalizing i with
 |nil=>simp at hi
 |cons x r ih =>
  cases i with
  |zero=>simp at t;simp[KJ,t]
  |succ i =>have u:=h 0 ω;simp only[List.getD_cons_zero]at u;simp only[List.getD_cons_succ,ZIP]at t hi;simp only[KJ,u];rw[ih ω t λj hj=>by have:=h (j+1) ω;simpa only[List.getD_cons_succ]using this];simp
def byC(b:UInt8):List D:=[.int .u8 (b.toNat:Int)]
def Ja{α}(p:α->Bool)(l:List α):l.any p=dC (0<=Zi p l):=by
 induction l with
 |nil=>rfl
 |cons x r ih =>have:=ZaQ p r;rw[List.any_cons,ih];simp only[Zi];by_cases t:p x=true;simp[t];by_cases u:Zi p r<0;simp[t,u];simp[t,u];omega
def Zea(l f p)(sts:Nat->St)(hf:∀i,i<I l->VT ZIy f [.agg (l.getD i dE).cells] (sts i) (.bool (p (l.getD i dE))) (sts (i+1))):
  ZO ZIy 77 [slD 2 Msg.cells l,f] (sts 0) (.i (Zi p l)) (sts (KJ p l)):=by
 refine ZG (cR 77 f77) λad F t=>?_;have hw:=(Wm (ad (slD 2 Msg.cells l) ψ)).1;unfold big at hw;clear ad;refine rx @eQ1 ?_;refine rx @eQ1 ?_;refine Ze (fr (I l) (λi Q=>i<=I l->(∀j,j<i->p (l.getD j dE)=false)->Q [(0,.d (slD 2 Msg.cells l)),(1,.d f),(7,.d (.i (I l))),(8,.d (.i i))] [] (sts i)) (λn ab=>?_) λae=>?_);intro i hn hi u;refine rx @eQ1 ?_;refine Zc (Zl rfl trivial (λh1=>?_) (λh1=>?_));simp at h1;refine rx @eQ1 ?_;refine xA (nd2 @eQ1 @eQ3) ?_;refine cW (hf i h1) ?_;refine cd (λh2=>?_) (λh2=>?_);have e1:=W2 h1 h2 u;have e2:=ZaY h1 h2 u;rw[e1,e2]at t;refine rg ?_;exact t rfl φ (ZIB _) ZIz;refine gA ?_;refine Zf ?_;exact ab ((I l)-(i+1)) ω (i+1) rfl ω (Yc (q:=λj=>p (l.getD j dE)=false) u h2);simp at h1;obtain rfl:i=I l:=ω;have ac:∀x∈l,p x=false:=λx hx=>by obtain⟨j,hj,rfl⟩:=ZIV hx;have:=u j hj;simpa[ZIN,hj]using this
 rw[Wp ac,Jf ac]at t;refine rg ?_;exact t rfl φ (ZIB _) ZIz;exact ae _ 0 rfl ω (by intro j hj;omega)
def ZfT(l f p)(sts:Nat->St)(hf:∀i,i<I l->VT ZIy f [.agg (l.getD i dE).cells] (sts i) (.bool (p (l.getD i dE))) (sts (i+1))):
  ZO ZIy 236 [slD 3 Y6.cells l,f] (sts 0) (.i (Zi p l)) (sts (KJ p l)):=by
 refine ZG (cR 236 f236) λad F t=>?_;have hw:=(Wm (ad (slD 3 Y6.cells l) ψ)).1;unfold big at hw;clear ad;refine rx @eQ1 ?_;refine rx @eQ1 ?_;refine Ze (fr (I l) (λi Q=>i<=I l->(∀j,j<i->p (l.getD j dE)=false)->Q [(0,.d (slD 3 Y6.cells l)),(1,.d f),(7,.d (.i (I l))),(8,.d (.i i))] [] (sts i)) (λn ab=>?_) λae=>?_);intro i hn hi u;refine rx @eQ1 ?_;refine Zc (Zl rfl trivial (λh1=>?_) (λh1=>?_));simp at h1;refine rx @eQ1 ?_;refine xA (nd2 @eQ1 @Y6.cells.eq_1) ?_;refine cW (hf i h1) ?_;refine cd (λh2=>?_) (λh2=>?_);have e1:=W2 h1 h2 u;have e2:=ZaY h1 h2 u;rw[e1,e2]at t;refine rg ?_;exact t rfl φ (ZIB _) ZIz;refine gA ?_;refine Zf ?_;exact ab ((I l)-(i+1)) ω (i+1) rfl ω (Yc (q:=λj=>p (l.getD j dE)=false) u h2);simp at h1;obtain rfl:i=I l:=ω;have ac:∀x∈l,p x=false:=λx hx=>by obtain⟨j,hj,rfl⟩:=ZIV hx;have:=u j hj;simpa[ZIN,hj]using this
 rw[Wp ac,Jf ac]at t;refine rg ?_;exact t rfl φ (ZIB _) ZIz;exact ae _ 0 rfl ω (by intro j hj;omega)
def QG(l f p)(sts:Nat->St)(hf:∀i,i<I l->VT ZIy f [.agg (l.getD i dE).cells] (sts i) (.bool (p (l.getD i dE))) (sts (i+1))):
  ZO ZIy 187 [slD 15 Fld.cells l,f] (sts 0) (.i (Zi p l)) (sts (KJ p l)):=by
 refine ZG (cR 187 f187) λad F t=>?_;have hw:=(Wm (ad (slD 15 Fld.cells l) ψ)).1;unfold big at hw;clear ad;refine rx @eQ1 ?_;refine rx @eQ1 ?_;refine Ze (fr (I l) (λi Q=>i<=I l->(∀j,j<i->p (l.getD j dE)=false)->Q [(0,.d (slD 15 Fld.cells l)),(1,.d f),(7,.d (.i (I l))),(8,.d (.i i))] [] (sts i)) (λn ab=>?_) λae=>?_);intro i hn hi u;refine rx @eQ1 ?_;refine Zc (Zl rfl trivial (λh1=>?_) (λh1=>?_));simp at h1;refine rx @eQ1 ?_;refine xA (nd2 @eQ1 @eQ0) ?_;refine cW (hf i h1) ?_;refine cd (λh2=>?_) (λh2=>?_);have e1:=W2 h1 h2 u;have e2:=ZaY h1 h2 u;rw[e1,e2]at t;refine rg ?_;exact t rfl φ (ZIB _) ZIz;refine gA ?_;refine Zf ?_;exact ab ((I l)-(i+1)) ω (i+1) rfl ω (Yc (q:=λj=>p (l.getD j dE)=false) u h2);simp at h1;obtain rfl:i=I l:=ω;have ac:∀x∈l,p x=false:=λx hx=>by obtain⟨j,hj,rfl⟩:=ZIV hx;have:=u j hj;simpa[ZIN,hj]using this
 rw[Wp ac,Jf ac]at t;refine rg ?_;exact t rfl φ (ZIB _) ZIz;exact ae _ 0 rfl ω (by intro j hj;omega)
def ZfV(l f p)(sts:Nat->St)(hf:∀i,i<I l->VT ZIy f [.int .u8 ((l.getD i dE).toNat:Int)] (sts i) (.bool (p (l.getD i dE))) (sts (i+1))):
  ZO ZIy 94 [slD 1 byC l,f] (sts 0) (.i (Zi p l)) (sts (KJ p l)):=by
 refine ZG (cR 94 f94) λad F t=>?_;have hw:=(Wm (ad (slD 1 byC l) ψ)).1;unfold big at hw;clear ad;refine rx @eQ1 ?_;refine rx @eQ1 ?_;refine Ze (fr (I l) (λi Q=>i<=I l->(∀j,j<i->p (l.getD j dE)=false)->Q [(0,.d (slD 1 byC l)),(1,.d f),(7,.d (.i (I l))),(8,.d (.i i))] [] (sts i)) (λn ab=>?_) λae=>?_);intro i hn hi u;refine rx @eQ1 ?_;refine Zc (Zl rfl trivial (λh1=>?_) (λh1=>?_));simp at h1;refine rx @eQ1 ?_;refine xA (nd2 @eQ1 @byC.eq_1) ?_;refine cW (hf i h1) ?_;refine cd (λh2=>?_) (λh2=>?_);have e1:=W2 h1 h2 u;have e2:=ZaY h1 h2 u;rw[e1,e2]at t;refine rg ?_;exact t rfl φ (ZIB _) ZIz;refine gA ?_;refine Zf ?_;exact ab ((I l)-(i+1)) ω (i+1) rfl ω (Yc (q:=λj=>p (l.getD j dE)=false) u h2);simp at h1;obtain rfl:i=I l:=ω;have ac:∀x∈l,p x=false:=λx hx=>by obtain⟨j,hj,rfl⟩:=ZIV hx;have:=u j hj;simpa[ZIN,hj]using this
 rw[Wp ac,Jf ac]at t;refine rg ?_;exact t rfl φ (ZIB _) ZIz;exact ae _ 0 rfl ω (by intro j hj;omega)
def Zdt(l f p)(sts:Nat->St)(hf:∀i,i<I l->VT ZIy f [.agg (l.getD i dE).cells] (sts i) (.bool (p (l.getD i dE))) (sts (i+1))):
  ZO ZIy 319 [slD 15 Fld.cells l,f] (sts 0) (.bool (l.any p)) (sts (KJ p l)):=by
 refine ZG (cR 319 f319) λu F t=>?_;clear u;refine gG ?_;refine ct (QG l f p sts hf) ?_;rw[Ja]at t;exact t rfl φ (ZIB _) ZIz
def K7(l){f p}(sts:Nat->St)(hf:∀i,i<I l->VT ZIy f [.int .u8 ((l.getD i dE).toNat:Int)] (sts i) (.bool (p (l.getD i dE))) (sts (i+1))):
  ZO ZIy 64 [slD 1 byC l,f] (sts 0) (.bool (l.any p)) (sts (KJ p l)):=by
 refine ZG (cR 64 f64) λu F t=>?_;clear u;refine gG ?_;refine ct (ZfV l f p sts hf) ?_;rw[Ja]at t;exact t rfl φ (ZIB _) ZIz
def boC(b:Bool):List D:=[.bool b]
def Zb1(s:Str):List D:=[.str s]
def Zoh{α:Type}[DecidableEq α](v)(l:List α):l.any (λx=>dC (v=x))=dC (v∈l):=by
 induction l with
 |nil=>simp
 |cons x r ih=>rw[List.any_cons,ih];simp[ZJd]
def Zjm{α:Type}[Inhabited α]{l r:List α}(h:I l=I r)(u:∀j,j<I l->l.getD j dE=r.getD j dE):l=r:=by
 apply List.ext_getElem h;intro i t h3;have:=u i t;simpa[ZIN,t,h3]using this
def Zi6(l v):Zd ZIy 125 [slD 1 boC l,.bool v] (.i (Zi (λx=>dC (v=x)) l)):=by
 refine Wc (cR 125 f125) λad F st u=>?_;have hw:=(Wm (ad (slD 1 boC l) ψ)).1;unfold big at hw;clear ad;refine rx @eQ1 ?_;refine rx @eQ1 ?_;refine Ze (fr (I l) (λi Q=>i<=I l->(∀j,j<i->dC (v=l.getD j dE)=false)->Q [(0,.d (slD 1 boC l)),(1,.d (.bool v)),(7,.d (.i (I l))),(8,.d (.i i))] [] st) (λn t=>?_) λae=>?_);intro i hn hi ab;refine rx @eQ1 ?_;refine Zc (Zl rfl trivial (λh1=>?_) (λh1=>?_));simp at h1;refine rx @eQ1 ?_;refine xA (nd2 @eQ1 @boC.eq_1) ?_;refine cd (λh2=>?_) (λh2=>?_);have e1:=W2 (p:=λx=>dC (v=x)) h1 h2 ab;refine rg ?_;refine ri u ?_;exact e1.symm;refine gA ?_;refine Zf ?_;exact t ((I l)-(i+1)) ω (i+1) rfl ω (Yc (q:=λj=>dC (v=l.getD j dE)=false) ab h2);simp at h1;obtain rfl:i=I l:=ω;have ac:∀x∈l,(λx=>dC (v=x)) x=false:=λx hx=>by obtain⟨j,hj,rfl⟩:=ZIV hx;have:=ab j hj;simpa[ZIN,hj]using this
 refine rg ?_;refine ri u ?_;exact(Wp ac).symm;exact ae _ 0 rfl ω (by intro j hj;omega)
def Zf4(l v):Zd ZIy 93 [slD 1 boC l,.bool v] (.bool (dC (v∈l))):=by
 refine Zg (cR 93 f93) λF st t=>?_;refine gG ?_;refine cl (Zi6 l v) ?_;refine rb t ?_;rw[<-Ja,Zoh];try congr
def Zhl(l v):Zd ZIy 312 [slD 1 Zb1 l,.str v] (.i (Zi (λx=>dC (v=x)) l)):=by
 refine Wc (cR 312 f312) λad F st u=>?_;have hw:=(Wm (ad (slD 1 Zb1 l) ψ)).1;unfold big at hw;clear ad;refine rx @eQ1 ?_;refine rx @eQ1 ?_;refine Ze (fr (I l) (λi Q=>i<=I l->(∀j,j<i->dC (v=l.getD j dE)=false)->Q [(0,.d (slD 1 Zb1 l)),(1,.d (.str v)),(7,.d (.i (I l))),(8,.d (.i i))] [] st) (λn t=>?_) λae=>?_);intro i hn hi ab;refine rx @eQ1 ?_;refine Zc (Zl rfl trivial (λh1=>?_) (λh1=>?_));simp at h1;refine rx @eQ1 ?_;refine xA (nd2 @eQ1 @Zb1.eq_1) ?_;refine cd (λh2=>?_) (λh2=>?_);have e1:=W2 (p:=λx=>dC (v=x)) h1 h2 ab;refine rg ?_;refine ri u ?_;exact e1.symm;refine gA ?_;refine Zf ?_;exact t ((I l)-(i+1)) ω (i+1) rfl ω (Yc (q:=λj=>dC (v=l.getD j dE)=false) ab h2);simp at h1;obtain rfl:i=I l:=ω;have ac:∀x∈l,(λx=>dC (v=x)) x=false:=λx hx=>by obtain⟨j,hj,rfl⟩:=ZIV hx;have:=ab j hj;simpa[ZIN,hj]using this
 refine rg ?_;refine ri u ?_;exact(Wp ac).symm;exact ae _ 0 rfl ω (by intro j hj;omega)
def ZeR(l v):Zd ZIy 269 [slD 1 Zb1 l,.str v] (.bool (dC (v∈l))):=by
 refine Zg (cR 269 f269) λF st t=>?_;refine gG ?_;refine cl (Zhl l v) ?_;refine rb t ?_;rw[<-Ja,Zoh];try congr
def Zi5(l r):Zd ZIy 310 [slD 2 Yw.cells l,slD 2 Yw.cells r] (.bool (dC (l=r))):=by
 refine Wc (cR 310 f310) λad F st t=>?_;have hw:=(Wm (ad (slD 2 Yw.cells l) ψ)).1;unfold big at hw;clear ad;refine rx @eQ1 ?_;refine rx @eQ1 ?_;refine cd (λh1=>?_) (λh1=>?_);refine rg ?_;refine rb t ?_;exact(decide_eq_false (λe=>by rw[e]at h1;simp at h1)).symm;have ab:I l=I r:=by simp at h1;omega
 refine rx @eQ1 ?_;refine Ze (fr (I l) (λi Q=>i<=I l->(∀j,j<i->l.getD j dE=r.getD j dE)->Q [(0,.d (slD 2 Yw.cells l)),(1,.d (slD 2 Yw.cells r)),(12,.d (.i (I l))),(13,.d (.i i))] [] st) (λn u=>?_) λag=>?_);intro i hn hi ac;refine rx @eQ1 ?_;refine Zc (Zl rfl trivial (λh2=>?_) (λh2=>?_));simp at h2;refine rx @eQ1 ?_;refine xA (nd2 @eQ1 @Yw.cells.eq_1) ?_;refine cd (λh3=>?_) (λh3=>?_);have af:l.getD i dE≠r.getD i dE:=λe=>by rw[e]at h3;simp at h3
 refine rg ?_;refine rb t ?_;exact(decide_eq_false (λe=>af (by rw[e]))).symm;have ae:l.getD i dE=r.getD i dE:=by generalize l.getD i dE=a at h3⊢;generalize r.getD i dE=b at h3⊢;cases a;cases b;simpa[and_assoc]using h3
 refine gA ?_;refine Zf ?_;exact u ((I l)-(i+1)) ω (i+1) rfl ω (Yc (q:=λj=>l.getD j dE=r.getD j dE) ac ae);simp at h2;obtain rfl:i=I l:=ω;refine rg ?_;refine rb t ?_;exact(decide_eq_true (Zjm ab ac)).symm;exact ag _ 0 rfl ω (by intro j hj;omega)
def Zi4(l r):Zd ZIy 311 [slD 3 Y6.cells l,slD 3 Y6.cells r] (.bool (dC (l=r))):=by
 refine Wc (cR 311 f311) λad F st t=>?_;have hw:=(Wm (ad (slD 3 Y6.cells l) ψ)).1;unfold big at hw;clear ad;refine rx @eQ1 ?_;refine rx @eQ1 ?_;refine cd (λh1=>?_) (λh1=>?_);refine rg ?_;refine rb t ?_;exact(decide_eq_false (λe=>by rw[e]at h1;simp at h1)).symm;have ab:I l=I r:=by simp at h1;omega
 refine rx @eQ1 ?_;refine Ze (fr (I l) (λi Q=>i<=I l->(∀j,j<i->l.getD j dE=r.getD j dE)->Q [(0,.d (slD 3 Y6.cells l)),(1,.d (slD 3 Y6.cells r)),(12,.d (.i (I l))),(13,.d (.i i))] [] st) (λn u=>?_) λag=>?_);intro i hn hi ac;refine rx @eQ1 ?_;refine Zc (Zl rfl trivial (λh2=>?_) (λh2=>?_));simp at h2;refine rx @eQ1 ?_;refine xA (nd2 @eQ1 @Y6.cells.eq_1) ?_;refine cd (λh3=>?_) (λh3=>?_);have af:l.getD i dE≠r.getD i dE:=λe=>by rw[e]at h3;simp at h3
 refine rg ?_;refine rb t ?_;exact(decide_eq_false (λe=>af (by rw[e]))).symm;have ae:l.getD i dE=r.getD i dE:=by generalize l.getD i dE=a at h3⊢;generalize r.getD i dE=b at h3⊢;cases a;cases b;simpa[and_assoc]using h3
 refine gA ?_;refine Zf ?_;exact u ((I l)-(i+1)) ω (i+1) rfl ω (Yc (q:=λj=>l.getD j dE=r.getD j dE) ac ae);simp at h2;obtain rfl:i=I l:=ω;refine rg ?_;refine rb t ?_;exact(decide_eq_true (Zjm ab ac)).symm;exact ag _ 0 rfl ω (by intro j hj;omega)
def ZhS(c):Zd ZIy 61 [.int .u8 c.toNat] (.bool (Zkm c)):=by
 refine Zg (cR 61 f61) λF st t=>?_;refine gG ?_;refine rb t ?_;rfl
def Zso(c):Zd ZIy 62 [.int .u8 c.toNat] (.bool (ZwT c)):=by
 refine Zg (cR 62 f62) λF st t=>?_;refine gG ?_;refine rb t ?_;rfl
def Zer(v):Zd ZIy 273 [.i v] (.bool (Zeb v)):=by
 refine Zg (cR 273 f273) λF st t=>?_;refine gG ?_;refine rb t ?_;simp only[Zeb]
def Zm1(l):Zd ZIy 63 [slD 1 boC l] (.bool (!dC (false∈l))):=by
 refine Zg (cR 63 f63) λF st t=>?_;refine gG ?_;refine cl (Zf4 l false) ?_;refine rb t ?_;rfl
def Zlb{a b}:Zd ZIy 63 [.sl .full 2 1 (ZV [.bool false] ([0,1].zip [.bool a,.bool b]))] (.bool (a&&b)):=by
 have h:ZX boC (ZV [.bool false] ([0,1].zip [.bool a,.bool b])) [a,b]:=λi t=>by
  match i,t with
  |0,_=>rfl
  |1,_=>rfl
 refine((Zm1 [a,b]).leA (LeC.one (h.le rfl))).le ?_;cases a<;>cases b<;>rfl
def ZrV{a b c}:Zd ZIy 63 [.sl .full 3 1 (ZV [.bool false] ([0,1,2].zip [.bool a,.bool b,.bool c]))] (.bool (a&&(b&&c))):=by
 have h:ZX boC (ZV [.bool false] ([0,1,2].zip [.bool a,.bool b,.bool c])) [a,b,c]:=λi t=>by
  match i,t with
  |0,_=>rfl
  |1,_=>rfl
  |2,_=>rfl
 refine((Zm1 [a,b,c]).leA (LeC.one (h.le rfl))).le ?_;cases a<;>cases b<;>cases c<;>rfl
def ZqI{c}:Zd ZIy 60 [.int .u8 c.toNat] (.bool (!Zgs c)):=by
 refine Zg (cR 60 f60) λF st t=>?_;refine gG ?_;refine cl (ZhS c) ?_;refine cG (Zso c) ?_;refine rb t ?_;unfold Zgs;cases Zkm c<;>cases ZwT c<;>rfl
def ZxA(s):Zd ZIy 64 [slD 1 byC s,.fn (.func 60) [] []] (.bool (s.any λc=>!Zgs c)) :=
 λst=>K7 s (λ_=>st) λi _=> ZqI.VT (first:=[]) (caps:=[]) st
def Zkh(s):Wa s=(((dC (1<=(I s:Int))&&dC ((I s:Int)<=32))&&Zkm (s.getD 0 0))&&!(s.any λc=>!Zgs c)):=by
 cases s with
 |nil=>rfl
 |cons c r =>
  have h:∀l:Str,l.all Zgs=!(l.any λc=>!Zgs c):=λl=>by
   induction l with
   |nil=>rfl
   |cons x r ih=>simp only[List.all_cons,List.any_cons,ih];cases Zgs x<;>simp
  simp only[Wa,h,List.getD_cons_zero,ZIP]
  congr 2
  have t:dC (1<=((I r+1:Nat):Int))=true:=decide_eq_true ω;rw[t,ZIY];exact decide_eq_decide.2 ω
def Za0(s):Zd ZIy 35 [.str s] (.bool (Wa s)):=by
 refine Wc (cR 35 f35) λu F st t=>?_;have hs:=(u (.str s) ψ).str_inv;unfold big at hs;refine gG ?_;refine rg ?_;refine cl Zlb ?_;refine aa ?_;refine cG (ZhS _) ?_;refine cG (ZxA s) ?_;rw[Zkh]at t;refine rb t ?_;trivial
end Go.DL
namespace Go.DL
open Go
variable {kp:Option (List Nat)}{L:Loc}{H:Env}{s:St}{w:World}{os:List DOp}{ds:List D}{B:List (Nat × Rd)}{dst:Option Nat}{tmps:Array Value}{g:G}{Φ:Res->St->Prop}{Z:Nat->Nat}{xs:List Opd}{side:Prop}{row:Nat->List D}
section
variable {K V:Type} [DecidableEq K]
def Zp(k:K):List (K×V)->Option V
 | []=>nO
 |e::r=>if k=e.1 then sO e.2 else Zp k r
def YK(k:K)(v:V):List (K×V)->List (K×V)
 | []=>[(k,v)]
 |e::r=>if k=e.1 then (k,v)::r else e::YK k v r
def WL(kD:K->D)(vD:V->D)(l:List (K×V)):List (D×D):=l.map λe=>(kD e.1,vD e.2)
def ZlB(kp:KP)(kD:K->D):Prop:=∀a b,Kr kp (kD a) (kD b)=sO (dC (a=b))
def YF{kp}{t}{vD:V->D}(h:ZlB kp t)(k:K)(l:List (K×V)):ZbD kp (t k) (WL t vD l)=sO ((Zp k l).map vD):=by
 induction l with
 |nil=>rfl
 |cons e r ih =>simp only[WL,ZIQ,ZbD,h k e.1,Zp];by_cases u:k=e.1;simp[u];simp only[u,decide_false,if_false];exact ih
def JU{kp}{t}{vD}(h:ZlB kp t)(k:K)(v:V)(l:List (K×V)):JL kp (t k) (vD v) (WL t vD l)=sO (WL t vD (YK k v l)):=by
 induction l with
 |nil=>rfl
 |cons e r ih =>simp only[WL,ZIQ,JL,h k e.1,YK];by_cases u:k=e.1;simp[u];simp only[u,decide_false,if_false,ZIQ];rw[show JL kp (t k) (vD v) (r.map λe=>(t e.1,vD e.2))=_ from ih];rfl
def YS{kp}{t:K->D}(h:ZlB kp t)(k:K):QA kp (t k)=true:=by simp[QA,h k k]
def WU(k j)(v:V)(l:List (K×V)):Zp j (YK k v l)=if j=k then sO v else Zp j l:=by
 induction l with
 |nil=>simp[YK,Zp]
 |cons e r ih =>simp only[YK];by_cases t:k=e.1;subst t;simp only[if_true,Zp];split<;>rfl;simp only[t,if_false,Zp,ih];by_cases u:j=e.1;subst u;simp[Ne.symm t];simp[u]
def ZyM{k}{l:List (K×V)}:Zp k l=nO↔k∉l.map (·.1):=by
 induction l with
 |nil=>simp[Zp]
 |cons x r ih =>simp only[Zp,ZIQ,ZJd];by_cases h:k=x.1;simp[h];simp[h,ih]
end
def KG(s:Str):D:=.str s
def ZP:ZlB (.sc .str) KG:=λa b=>rfl
def YR(n:Int):D:=.i n
def Zdk:ZlB (.sc .int) YR:=λa b=>by simp[Kr,YR,Yj]
open Go.Proofs
def vst(st:St)(b x:Nat)(es:List (D×D)):St:=(st.upd b (.map es)).upd x (.cells [.map b])
def ZBE{st b x es}:(vst st b x es) x=sO (.cells [.map b]):=ZIE _ _ _
def ZBD{st b x es}(h:b≠x):(vst st b x es) b=sO (.map es):=by
 unfold vst;rw[ZIG _ _ h];exact ZIE _ _ _
def ZC3{st b x es t}(h:b≠x):(vst st b x es).upd b (.map t)=vst st b x t:=by
 unfold vst;rw[St.upd_comm h,ZIR]
abbrev ZeC(l:List (Str×Bool)):List (D×D):=WL KG D.bool l
def ZnJ(o:Option Bool):Wj (.bool false) false (o.map D.bool)=.bool (o.getD false):=by cases o<;>rfl
def Zpy(t st b x)(h:b≠x)(l):
  ZO ZIy 272 [.agg t.cells,.ptr x 0] (vst st b x (ZeC l)) (.bool ((Zp t.field l).getD false||!Zad t)) (vst st b x (ZeC (YK t.field true l))):=by
 refine ZG (cR 272 f272) λhwf F u=>?_;have e1:=YF (vD:=D.bool) ZP t.field l;have e2:=JU (vD:=D.bool) ZP t.field true l;have e3:=YS ZP t.field;simp only[show KG t.field=D.str t.field from rfl]at e1 e2 e3;refine rx @Yw.cells.eq_1 ?_;refine rh ?_;refine Zm ?_;simp only[Eqs,reduceCtorEq,ZIF,reduceIte,ZIC,ZIH,ZID,ZBE,ZBD h,e1,ZnJ];generalize (Zp t.field l).getD false=tw at *;refine rh ?_;refine Zm ?_;simp only[Eqs,reduceCtorEq,ZIF,reduceIte,ZIC,ZIH,ZID,ZBE,ZBD h,e2,ZC3 h];cases tw with
 |false =>refine rx @Yw.cells.eq_1 ?_;refine clD (Za0 t.field) ?_;refine clD (Zer t.factor) ?_;refine clD ZrV ?_;refine u rfl φ (ZeX ?_) ZIz;unfold Zad;cases Wa t.field<;>cases dC (t.factor=0)<;>cases Zeb t.factor<;>rfl
 |true =>refine rx @Yw.cells.eq_1 ?_;refine Ze7 rfl rfl (e:=.d (.bool false)) (Yp ?_);simp only[Eqs,reduceCtorEq,ZIF,reduceIte,ZIC,ZIH,ZID];refine Ze7 rfl rfl (e:=.d (.bool false)) (Yp ?_);simp only[Eqs,reduceCtorEq,ZIF,reduceIte,ZIC,ZIH,ZID];refine Ze7 rfl rfl (e:=.d (.bool false)) (Yp ?_);simp only[Eqs,reduceCtorEq,ZIF,reduceIte,ZIC,ZIH,ZID];exact u rfl φ (ZeX ψ) ZIz
def ZeP{n i}(h:i<n):(ZIM n).getD i dE=i:=by simp[ZIN,h]
def ZfU(l f p)(sts:Nat->St)(hf:∀i,i<I l->VT ZIy f [.agg (l.getD i dE).cells] (sts i) (.bool (p i)) (sts (i+1))):
  ZO ZIy 313 [slD 2 Yw.cells l,f] (sts 0) (.i (Zi p (ZIM (I l)))) (sts (KJ p (ZIM (I l)))):=by
 refine ZG (cR 313 f313) λad F t=>?_;have hw:=(Wm (ad (slD 2 Yw.cells l) ψ)).1;unfold big at hw;clear ad;refine rx @eQ1 ?_;refine rx @eQ1 ?_;refine Ze (fr (I l) (λi Q=>i<=I l->(∀j,j<i->p j=false)->Q [(0,.d (slD 2 Yw.cells l)),(1,.d f),(7,.d (.i (I l))),(8,.d (.i i))] [] (sts i)) (λn ab=>?_) λae=>?_);intro i hn hi u;refine rx @eQ1 ?_;refine Zc (Zl rfl trivial (λh1=>?_) (λh1=>?_));simp at h1;refine rx @eQ1 ?_;refine xA (nd2 @eQ1 @Yw.cells.eq_1) ?_;refine cW (hf i h1) ?_;refine cd (λh2=>?_) (λh2=>?_);have e1:=W2 (p:=p) (l:=ZIM (I l)) (i:=i) (by simpa using h1) (by rw[ZeP h1];exact h2) (λj hj=>by rw[ZeP ω];exact u j hj);have e2:=ZaY (p:=p) (l:=ZIM (I l)) (i:=i) (by simpa using h1) (by rw[ZeP h1];exact h2) (λj hj=>by rw[ZeP ω];exact u j hj);rw[e1,e2]at t;refine rg ?_;exact t rfl φ (ZIB _) ZIz;refine gA ?_;refine Zf ?_;exact ab ((I l)-(i+1)) ω (i+1) rfl ω (Yc (q:=λj=>p j=false) u h2);simp at h1;obtain rfl:i=I l:=ω;have ac:∀x∈ZIM (I l),p x=false:=λx hx=>u x (by simpa using hx);rw[Wp ac,Jf ac,List.length_range]at t;refine rg ?_;exact t rfl φ (ZIB _) ZIz;exact ae _ 0 rfl ω (by intro j hj;omega)
def Zd9(l f p)(sts:Nat->St)(hf:∀i,i<I l->VT ZIy f [.agg (l.getD i dE).cells] (sts i) (.bool (p i)) (sts (i+1))):
  ZO ZIy 274 [slD 2 Yw.cells l,f] (sts 0) (.bool ((ZIM (I l)).any p)) (sts (KJ p (ZIM (I l)))):=by
 refine ZG (cR 274 f274) λu F t=>?_;clear u;refine gG ?_;refine ct (ZfU l f p sts hf) ?_;rw[Ja]at t;exact t rfl φ (ZIB _) ZIz
def Zl2(l:List Yw):Nat->List (Str×Bool)
 |0=>[]
 |i+1=>YK (l.getD i dE).field true (Zl2 l i)
def Zzs{l s i}(hi:i<=I l):(Zp s (Zl2 l i)).getD false=dC (s∈(l.take i).map (·.field)):=by
 induction i with
 |zero=>simp[Zl2,Zp]
 |succ i ih =>have h:=ih ω;rw[Zl2,WU,Yo ω,List.map_append];by_cases t:s=(l.getD i dE).field;rw[if_pos t];simp[t];rw[if_neg t,h];simp only[List.mem_append,ZIQ,ZI9,List.mem_singleton,t,or_false]
def Zdx(l r:List Yw)(k)(hr:r=l.drop k)(hk:k<=I l):ZeV ((l.take k).map (·.field)) r=!((ZIM (I r)).any λi=>(dC ((l.getD (k+i) dE).field∈(l.take (k+i)).map (·.field))||!Zad (l.getD (k+i) dE))):=by
 induction r generalizing k with
 |nil=>rfl
 |cons t q ih =>
  have u:k<I l:=by have:=congrArg List.length hr;simp at this;omega
  rw[Wh u]at hr;injection hr with h1 h2;have h3:=ih (k+1) h2 ω;rw[ZeV,ZIP,List.range_succ_eq_map,List.any_cons,List.any_map];rw[show(l.take k).map (·.field)++[t.field]=(l.take (k+1)).map (·.field) by rw[Yo u,List.map_append,<-h1];rfl,h3];simp only[Nat.add_zero,<-h1,Function.comp_def,Nat.succ_eq_add_one];rw[show(λi=>dC ((l.getD (k+(i+1)) dE).field∈(l.take (k+(i+1))).map (·.field))||!Zad (l.getD (k+(i+1)) dE))=λi=>dC ((l.getD (k+1+i) dE).field∈(l.take (k+1+i)).map (·.field))||!Zad (l.getD (k+1+i) dE) from funext λi=>by rw[show k+(i+1)=k+1+i by omega]];cases Zad t<;>cases dC (t.field∈(l.take k).map (·.field))<;>simp
def ZbK(s):Zd ZIy 258 [.agg s.cells] (.bool (Z9 s)):=by
 refine Wc (cR 258 f258) λhwf F st t=>?_;refine rx (nd2 @eQ4 (nd2 @Yi.eq_1 @eQ1)) ?_;refine rg ?_;intro b hb;refine Zc ?_;refine Zdz 3 rfl λx hx=>?_;simp only[Eqs,reduceCtorEq,ZIF,reduceIte,ZIC,ZIH,ZID,JQ,Q8,delL];refine rg ?_;have u:b≠x:=λe=>by rw[e,ZIE]at hx;simp at hx
 have ab:∀o,(st.upd b o) x=nO:=λo=>by rw[ZIG _ _ (Ne.symm u)]at hx⊢;exact hx
 have ac:(st.upd b (.map [])).upd x (.cells [.map b])=vst st b x (ZeC []):=rfl;rw[ac];cases hc:(Zeb s.base&&dC ((I s.terms:Int)<=4)) with
 |false =>refine rx (nd2 @eQ4 (nd2 @Yi.eq_1 @eQ1)) ?_;refine clD (Zer s.base) ?_;refine cXD @hc Zlb ?_;refine Ze7 rfl rfl (e:=.d (.bool false)) (Yp ?_);simp only[Eqs,reduceCtorEq,ZIF,reduceIte,ZIC,ZIH,ZID];refine t rfl φ (ZeX ?_) (ZJh (ZIZ _ hb) (ZIZ _ (ab _)));unfold Z9;rw[show dC (I s.terms<=4)=dC ((I s.terms:Int)<=4) from decide_eq_decide.2 ω,hc];rfl
 |true =>refine rx (nd2 @eQ4 (nd2 @Yi.eq_1 @eQ1)) ?_;refine clD (Zer s.base) ?_;refine cXD @hc Zlb ?_;refine Zjy rfl rfl rfl rfl rfl φ φ (by exact Zd9 s.terms (.fn (.func 272) [] [.ptr x 0]) (λi=>dC ((s.terms.getD i dE).field∈(s.terms.take i).map (·.field))||!Zad (s.terms.getD i dE)) (λi=>vst st b x (ZeC (Zl2 s.terms i))) (λi hi=>(by have:=Zpy (s.terms.getD i dE) st b x u (Zl2 s.terms i);rw[Zzs ω]at this;exact this.VT (first:=[]) (args:=[_]) (caps:=[_])))) (by first|trivial|exact⟨rfl,trivial⟩|simp[Wi,K2]) (Yp ?_);simp only[Eqs,reduceCtorEq,ZIF,reduceIte,ZIC,ZIH,ZID];refine t rfl φ (ZeX ?_) (ZJh (ZIZ _ hb) (ZIZ _ (ab _)));have hv:=Zdx s.terms s.terms 0 rfl ω;simp only[Nat.zero_add]at hv;rw[<-hv];unfold Z9;rw[show dC (I s.terms<=4)=dC ((I s.terms:Int)<=4) from decide_eq_decide.2 ω,hc,ZIY];rfl
def Zi2(l)(hl:I l<=1000000)(st):Za ZIy 275 [Yi l] st (λr s=>r=.ret (Yi l)/\s=st):=by
 refine Zb (cR 275 f275) λF hF=>?_;by_cases h0:I l=0;have ac:l=[]:=List.eq_nil_of_length_eq_zero h0;subst ac;refine Zey 0 rfl ?_ λb off cap=>?_
 skip
 refine rx (nd2 @Yi.eq_1 @eQ1) ?_;refine rg ?_;refine i1 ?_;refine rg ?_;exact hF.ret _ st rfl φ (QK (YU λb h=>by cases h)) ZIz ⟨rfl,rfl⟩
 skip
 refine rx (nd2 @Yi.eq_1 @eQ1) ?_;refine rg ?_;refine iG ?_;refine Zex (s:=st) (t:=.full) (m:=0) (row2:=λ_=>[]) rfl rfl rfl rfl rfl φ φ (λg w v h=>Zgt h) trivial (by decide) (by unfold big;decide) λt1 u=>?_;refine gR0 ?_;exact hF.ret _ st rfl φ (QK ((ZX.nil (f:=Yw.cells)).le rfl)) (Y2 u) ⟨rfl,rfl⟩
 skip
 refine rx (nd2 @Yi.eq_1 @eQ1) ?_;refine gA ?_;refine iG ?_;refine ZaC (st) (.full) rfl rfl rfl rfl rfl rfl φ φ rfl (by first|trivial|assumption) ω (by (unfold big;omega)) λt1 u=>Zm ?_;simp only[Eqs,reduceCtorEq,ZIF,reduceIte,ZIC,ZIH,ZID];have ab:ZX Yw.cells (YV 0 (ZV [.str [],.i 0] ([].zip [])) λi=>(l.getD i dE).cells) ([]++l):=ZX.nil.app ZX.self rfl;exact hF.ret _ st rfl φ (QK (ab.le ψ)) (Y2 u) ⟨rfl,rfl⟩
def ZcZ(l)(hl:I l<=big)(x):Zc6 ZIy (.fn (.func 276) [] [.ptr x 0]) (I l) (λj=>[.str (l.getD j dE).field]) (ZI0 x (.cells [Yi l])):=by
 intro y go A a0 ae hA hd;have hw:=hl;unfold big at hw;refine Za.V (first:=[]) (args:=[y]) (caps:=[.ptr x 0]) (Zb (cR 276 f276) λF hF=>?_);have hx:∀a,Z6 a (ZI0 x (.cells [Yi l]))->(a.or (ZI0 x (.cells [Yi l]))) x=sO (.cells [Yi l]):=λa ag=>by rw[ZJ (ag x _ Yl),Yl]
 generalize hT:ZI0 x (.cells [Yi l])=T at *;refine rh ?_;refine Zm ?_;simp only[Eqs,reduceCtorEq,ZIF,reduceIte,ZIC,ZIH,ZID,hx a0 hd,Yi,slD];refine Ze (fr (I l) (λj Q=>∀a,A j a->Z6 a T->(∀i,i<j->go i=.next)->j<=I l->Q [(0,.d y),(5,.d (Yi l)),(6,.d (.i (I l))),(7,.d (.i j))] [] (a.or T)) (λn ad=>?_) λah=>?_)
 .clear hA hd;intro j hn a hA hd ab hj;refine rx (nd2 @Yi.eq_1 @eQ1) ?_;refine Zc (Zl rfl trivial (λh1=>?_) (λh1=>?_))
  .simp at h1;generalize hg:l.getD j dE=g at *;refine xA (nd2 @Yw.cells.eq_1 (nd2 @Yi.eq_1 (nd2 @eQ1 @hg))) ?_;refine rg ?_;have u:=(ae j h1 ab a hA).frame hd;simp only[hg]at u;refine vV (u) ?_ ?_
   .rintro d S ⟨s',⟨hr,ac⟩,af,rfl⟩;cases t:go j with
    |next =>rw[t]at hr;cases hr;refine gR0 ?_;refine i0 ?_;refine gA ?_;refine Zf ?_;exact ad ((I l)-(j+1)) ω (j+1) rfl s' ac af (Yc (q:=λi=>go i=.next) ab t) ω
    |stop c =>rw[t]at hr;cases hr;refine gR0 ?_;refine i1 ?_;exact hF.ret (.tup []) _ rfl trivial (ZIB _) ZIz ⟨s',.stop j c h1 ab t ac,KD⟩
    |pan d=>rw[t]at hr;cases hr
   rintro d S ⟨s',⟨hr,ac⟩,af,rfl⟩;cases t:go j with
   |pan d' =>rw[t]at hr;cases hr;exact hF.pan _ ZIz ⟨s',.pan j d h1 ab t ac,KD⟩
   |next=>rw[t]at hr;cases hr
   |stop c=>rw[t]at hr;cases hr
  simp at h1;obtain rfl:j=I l:=ω;refine ZT rfl ?_;exact hF.fin (.tup []) _ rfl trivial (ZIB _) ZIz ⟨a,.all ab hA,KD⟩
 exact ah _ 0 rfl a0 hA hd (by intro i hi;omega) ω
def Zae{s}(h:Z9 s=true):I s.terms<=4:=by
 unfold Z9 at h;simp only[ZIJ,decide_eq_true_eq]at h;exact h.1.2
def Zeq(s)(u:Z9 s=true){st}:Za ZIy 259 [.agg s.cells] st (λr S=>∃x,st x=nO/\r=.ret (.fn (.func 276) [] [.ptr x 0])/\S=st.or (ZI0 x (.cells [Yi s.terms]))):=by
 have hfew:=Zae u;refine Zb (cR 259 f259) λF hF=>?_;refine rx @eQ4 ?_;refine rg ?_;refine rx @eQ4 ?_;refine cX @u (ZbK s) ?_;refine i1 ?_;refine rx @eQ4 ?_;have c9:=(Zi2 s.terms ω st);refine cV (c9) ?_ ?_;rintro d S ⟨t,rfl⟩;cases t;refine gR0 ?_;refine⟨rfl,?_⟩;refine Zc ?_;refine Zdz 3 rfl λx hx=>?_;simp only[Eqs,reduceCtorEq,ZIF,reduceIte,ZIC,ZIH,ZID,JQ,Q8,delL];refine rg ?_;exact hF.ret _ _ rfl φ (ZIB _) ZIz ⟨x,hx,rfl,Qq hx⟩;rintro d S ⟨t,_⟩;cases t
def Qp(r:Int×Int):D:=.agg [.i r.1,.i r.2]
abbrev ZzU:=List (Str×(Int×Int))
abbrev Zbx(l:ZzU):List (D×D):=WL KG Qp l
def Zo{b c o}(h:(s.upd b o) c=nO):c≠b/\s c=nO:=by
 have:c≠b:=λe=>by rw[e,ZIE]at h;simp at h
 exact⟨this,by rw[ZIG _ _ this]at h;exact h⟩
def Zla(r):Zd ZIy 322 [Qp r] (.bool (!ZbY r)):=by
 refine Zg (cR 322 f322) λF st t=>?_;refine rx @Qp.eq_1 ?_;refine rg ?_;refine cl ZrV ?_;refine rb t ?_;unfold ZbY;rw[Bool.not_or,Bool.not_or,<-decide_not,<-decide_not,<-decide_not];simp only[Int.not_lt,Int.not_le,Bool.and_assoc]
def ckS(st:St)(b5 b6 b7 b8 b9 b:Nat)(rc:Int)(nn:Bool):St :=
 ((((st.upd b5 (.cells [.str []])).upd b6 (.cells [.map b])).upd b7 (.cells [.fn (.func 322) [] []])).upd b8 (.cells [.i rc])).upd b9 (.cells [.bool nn])
structure Ws(st:St)(b5 b6 b7 b8 b9:Nat):Prop where
 n5:st b5=none
 n6:b6≠b5/\st b6=none
 n7:b7≠b6/\b7≠b5/\st b7=none
 n8:b8≠b7/\b8≠b6/\b8≠b5/\st b8=none
 n9:b9≠b8/\b9≠b7/\b9≠b6/\b9≠b5/\st b9=none
section
variable {st:St} {b5 b6 b7 b8 b9 b:Nat} {rc:Int} {nn:Bool}
def Ws.g5(h:Ws st b5 b6 b7 b8 b9):(ckS st b5 b6 b7 b8 b9 b rc nn) b5=sO (.cells [.str []]):=by
 simp[ckS,ZJc,h.n6.1.symm,h.n7.2.1.symm,h.n8.2.2.1.symm,h.n9.2.2.2.1.symm]
def Ws.g6(h:Ws st b5 b6 b7 b8 b9):(ckS st b5 b6 b7 b8 b9 b rc nn) b6=sO (.cells [.map b]):=by
 simp[ckS,ZJc,h.n7.1.symm,h.n8.2.1.symm,h.n9.2.2.1.symm]
def Ws.g7(h:Ws st b5 b6 b7 b8 b9):(ckS st b5 b6 b7 b8 b9 b rc nn) b7=sO (.cells [.fn (.func 322) [] []]):=by
 simp[ckS,ZJc,h.n8.1.symm,h.n9.2.1.symm]
def Ws.g8(h:Ws st b5 b6 b7 b8 b9):(ckS st b5 b6 b7 b8 b9 b rc nn) b8=sO (.cells [.i rc]):=by
 simp[ckS,ZJc,h.n9.1.symm]
def Ws.g9:(ckS st b5 b6 b7 b8 b9 b rc nn) b9=sO (.cells [.bool nn]):=by
 simp[ckS,ZJc]
def Ws.gm(h:Ws st b5 b6 b7 b8 b9){o}(t:st b=sO o):(ckS st b5 b6 b7 b8 b9 b rc nn) b=sO o:=by
 have u:b≠b5:=λe=>by rw[e,h.n5]at t;simp at t
 have h6:b≠b6:=λe=>by rw[e,h.n6.2]at t;simp at t
 have h7:b≠b7:=λe=>by rw[e,h.n7.2.2]at t;simp at t
 have h8:b≠b8:=λe=>by rw[e,h.n8.2.2.2]at t;simp at t
 have h9:b≠b9:=λe=>by rw[e,h.n9.2.2.2.2]at t;simp at t
 simp[ckS,ZJc,u,h6,h7,h8,h9,t]
def Ws.s8(h:Ws st b5 b6 b7 b8 b9)(rc'):(ckS st b5 b6 b7 b8 b9 b rc nn).upd b8 (.cells [.i rc'])=ckS st b5 b6 b7 b8 b9 b rc' nn:=by
 unfold ckS;rw[St.upd_comm h.n9.1.symm,ZIR]
def Ws.s9(nn'):(ckS st b5 b6 b7 b8 b9 b rc nn).upd b9 (.cells [.bool nn'])=ckS st b5 b6 b7 b8 b9 b rc nn':=by
 unfold ckS;rw[ZIR]
def Ws.sub(h:Ws st b5 b6 b7 b8 b9):st.sub (ckS st b5 b6 b7 b8 b9 b rc nn):=λc o t=>by
 have u:c≠b5:=λe=>by rw[e,h.n5]at t;simp at t
 have h6:c≠b6:=λe=>by rw[e,h.n6.2]at t;simp at t
 have h7:c≠b7:=λe=>by rw[e,h.n7.2.2]at t;simp at t
 have h8:c≠b8:=λe=>by rw[e,h.n8.2.2.2]at t;simp at t
 have h9:c≠b9:=λe=>by rw[e,h.n9.2.2.2.2]at t;simp at t
 simp[ckS,ZJc,u,h6,h7,h8,h9,t]
end
def ZlE{st t b5 b6 b7 b8 b9 b rc rc' nn u}(h:Z6 (ckS st b5 b6 b7 b8 b9 b rc nn) t):Z6 (ckS st b5 b6 b7 b8 b9 b rc' u) t:=λc o hc=>by
 have:=h c o hc;unfold ckS at this⊢;have k9:=Zo this;have k8:=Zo k9.2;rw[ZIG _ _ k9.1,ZIG _ _ k8.1];exact k8.2
def Ztv{st b5 b6 b7 b8 b9 b rc nn}(h:Ws st b5 b6 b7 b8 b9){H L}(hρ:ZM H 8=sO (.d (.ptr b8 0)):=by rfl):
  YD H L (ckS st b5 b6 b7 b8 b9 b rc nn) [.cell1 8]=sO (True/\True,[.i rc]):=by
 simp[YD,Kt,hρ,Wn,Z2,h.g8]
def Zp3{α:Type}[Inhabited α]{p}{l:List α}(h:∀i,i<I l->p (l.getD i dE)=false):l.any p=false:=by
 apply List.any_eq_false.2;intro x u;obtain⟨i,t,rfl⟩:=ZIV u;have:=h i t;simpa[ZIN,t]using this
def Zlp{s j}(h:Z9 s=true)(hj:j<I s.terms):(s.terms.getD j dE).field≠[]:=by
 unfold Z9 at h;simp only[ZIJ]at h;have t:=Zdx s.terms s.terms 0 rfl ω;simp only[List.take_zero,ZI9,Nat.zero_add]at t;rw[t]at h;have h2:((ZIM (I s.terms)).any λi=>dC ((s.terms.getD i dE).field∈(s.terms.take i).map (·.field))||!Zad (s.terms.getD i dE))=false:=by simpa using h.2
 have u:=List.any_eq_false.1 h2 j (by simpa using hj);simp only[ZIW,not_or,Bool.not_eq_true',Bool.not_eq_false]at u;have h4:=u.2;intro e;rw[Zad,e]at h4;simp[Wa]at h4
def ZpA(s b l st)(hb:st b=sO (.map (Zbx l))):
  Za ZIy 323 [.agg s.cells,.str [],.map b,.fn (.func 322) [] []] st (λr S=>r=.ret (.i (ZcF s (λk=>Zp k l)))/\S=st):=by
 refine Zb (cR 323 f323) λF hF=>?_;refine rx @eQ4 ?_;refine rx @eQ4 ?_;refine cl (ZbK s) ?_;refine cd (λhv=>?_) (λhv=>?_);have ag:Z9 s=false:=by simpa using hv
 refine rg ?_;refine hF.ret _ st rfl φ (Zhp ?_) ZIz ⟨rfl,rfl⟩;rw[ZcF,if_pos ag];have ag:Z9 s=true:=by simpa using hv
 refine rg ?_;refine Zc (Zc ?_);refine xP 5 λb5 h5=>?_;refine xP 6 λb6 h6=>?_;refine xP 7 λb7 h7=>?_;refine xP 8 λb8 h8=>?_;refine xP 9 λb9 h9=>?_;refine rx @eQ4 ?_;refine cV (Zeq s ag) ?_ ?_
 .rintro d S ⟨x,hx,hd,rfl⟩;cases hd;refine gR0 ?_;refine Ze ?_;have t:Ws st b5 b6 b7 b8 b9:=by have k6:=Zo h6;have k7:=Zo h7;have ax:=Zo k7.2;have k8:=Zo h8;have au:=Zo k8.2;have ay:=Zo au.2;have k9:=Zo h9;have av:=Zo k9.2;have aw:=Zo av.2;have az:=Zo aw.2;exact⟨h5,k6,⟨k7.1,ax⟩,⟨k8.1,au.1,ay⟩,⟨k9.1,av.1,aw.1,az⟩⟩
  have hfew:=Zae ag;rw[show(((((st.upd b5 (.cells [.str []])).upd b6 (.cells [.map b])).upd b7 (.cells [.fn (.func 322) [] []])).upd b8 (.cells [.i 0])).upd b9 (.cells [.bool false]))=ckS st b5 b6 b7 b8 b9 b 0 false from rfl]at hx⊢;refine KT hF rfl trivial [5,6,7,8,9] (by show([5,6,7,8,9]:List Nat).Nodup;decide) (W9 hx) (ZcZ s.terms (by unfold big;omega) x).Y (λj hj=>rfl)
   (λj=>if Qz (λk=>Zp k l) (s.terms.getD j dE) then .stop .ret else .next)
   (λj a=>((∀i,i<j->Qz (λk=>Zp k l) (s.terms.getD i dE)=false)/\a=ckS st b5 b6 b7 b8 b9 b 0 ((s.terms.take j).any (JD λk=>Zp k l)))\/((∃nn,a=ckS st b5 b6 b7 b8 b9 b 2 nn)/\∃i,i<j/\Qz (λk=>Zp k l) (s.terms.getD i dE)=true))
   (.inl ⟨λi hi=>by omega,rfl⟩) ?_ ?_ ?_ ?_ ?_ ?_
  .intro j a hj ae hB F' ready busy hdr ap ad;have ac:∀i,i<j->Qz (λk=>Zp k l) (s.terms.getD i dE)=false:=λi hi=>by have:=ae i hi;split at this;simp at this;rename_i h;simpa using h
   rcases hB with ⟨_,rfl⟩|⟨_,i,hi,ah⟩
   .skip
    simp only[Eqs,reduceCtorEq,ZIF,reduceIte,ZIC,ZIH,ZID,WN,Ki,Jd,Ks,List.isEmpty_nil,List.isEmpty_cons];refine rg ?_;refine ap λal=>?_;have ar:(s.terms.getD j dE).field≠[]:=Zlp ag hj;have aj:=ZzZ (p:=JD λk=>Zp k l) hj;generalize am:s.terms.getD j dE=tm at *;have e1:=YF (vD:=Qp) ZP tm.field l;have e3:=YS ZP tm.field;simp only[show KG tm.field=D.str tm.field from rfl]at e1 e3;cases hg:Zp tm.field l with
    |none =>
     rw[hg]at e1;have u:Qz (λk=>Zp k l) tm=false:=by simp[Qz,hg]
     have af:JD (λk=>Zp k l) tm=true:=by simp[JD,hg]
     rw[af,Bool.or_true]at aj;rw[if_neg (by rw[u];simp)]at ad;refine rh ?_;refine Zm ?_;simp only[Eqs,reduceCtorEq,ZIF,reduceIte,ZIC,ZIH,ZID,Zs (t.g6 ),Zs (t.gm hb),e1,e3];refine rh ?_;refine Zm ?_;simp only[Eqs,reduceCtorEq,ZIF,reduceIte,ZIC,ZIH,ZID,Zs (t.g5 )];refine Zl rfl trivial (λh=>by simp at h;exact absurd h ar) (λ_=>?_);refine rg ?_;refine i1 ?_;refine rh ?_;refine Zm ?_;simp only[Eqs,reduceCtorEq,ZIF,reduceIte,ZIC,ZIH,ZID,Zs (Ws.g9 ),Kc,Ws.s9];refine Zr (Zr ?_);exact ad.fin ⟨rfl,.inl ⟨Yc (q:=λi=>Qz (λk=>Zp k l) (s.terms.getD i dE)=false) ac (by rw[am];exact u),by rw[aj]⟩⟩ (ZlE al) ZIz
    |some r =>
     rw[hg]at e1;have u:Qz (λk=>Zp k l) tm=ZbY r:=by simp[Qz,hg]
     have af:JD (λk=>Zp k l) tm=false:=by simp[JD,hg]
     rw[af,Bool.or_false]at aj;refine rh ?_;refine Zm ?_;simp only[Eqs,reduceCtorEq,ZIF,reduceIte,ZIC,ZIH,ZID,Zs (t.g6 ),Zs (t.gm hb),e1,e3,Qp];refine rh ?_;refine Zm ?_;simp only[Eqs,reduceCtorEq,ZIF,reduceIte,ZIC,ZIH,ZID,Zs (t.g5 )];refine Zl rfl trivial (λh=>by simp at h;exact absurd h ar) (λ_=>?_);refine gI ?_;refine rh ?_;refine Zm ?_;simp only[Eqs,reduceCtorEq,ZIF,reduceIte,ZIC,ZIH,ZID,Zs (t.g7 )];refine cl (Zla r) ?_;refine cd (λhr=>?_) (λhr=>?_);have ai:ZbY r=true:=by simpa using hr
     rw[if_pos (by rw[u];exact ai)]at ad;refine rh ?_;refine Zm ?_;simp only[Eqs,reduceCtorEq,ZIF,reduceIte,ZIC,ZIH,ZID,Zs (t.g8 ),Kc,t.s8];exact ad.ret ⟨rfl,.inr ⟨⟨_,rfl⟩,j,ω,by rw[am,u];exact ai⟩⟩ (ZlE al) ZIz;have ai:ZbY r=false:=by simpa using hr
     rw[if_neg (by rw[u,ai];simp)]at ad;refine ZK (Zr (Zr ?_));exact ad.fin ⟨rfl,.inl ⟨Yc (q:=λi=>Qz (λk=>Zp k l) (s.terms.getD i dE)=false) ac (by rw[am,u];exact ai),by rw[aj]⟩⟩ al ZIz
   rw[ac i hi]at ah;simp at ah
  intro q a ae hB hq;have ac:∀i,i<I s.terms->Qz (λk=>Zp k l) (s.terms.getD i dE)=false:=λi hi=>by have:=ae i hi;split at this;simp at this;rename_i h;simpa using h
  rcases hB with ⟨_,rfl⟩|⟨_,i,hi,ah⟩;rw[ZJa]at hq⊢;have ak:s.terms.any (Qz λk=>Zp k l)=false:=Zp3 ac;have hI:=ZcF.eq_1 s λk=>Zp k l;rw[if_neg (by rw[ag];simp),if_neg (by rw[ak];simp)]at hI;rw[Qq hq];have aq:=W9 (o:=QO.dfr) hq;generalize s.terms.any (JD λk=>Zp k l)=nn at *;refine rh ?_;refine Zm ?_;simp only[Eqs,reduceCtorEq,ZIF,reduceIte,ZIC,ZIH,ZID,Zs (Ws.g9 )];refine cd (λhn=>?_) (λhn=>?_);rw[if_pos hn]at hI;refine rh ?_;refine Zm ?_;simp only[Eqs,reduceCtorEq,ZIF,reduceIte,ZIC,ZIH,ZID,Zs (t.g8 ),Kc,t.s8];exact hF.ret1 (Zj1 (ZlE aq) Yl) (.i 9) st (Ztv t) ⟨trivial,trivial⟩ (ZIB _) t.sub ⟨by rw[hI],rfl⟩;rw[if_neg (by rw[hn];simp)]at hI;refine rh ?_;refine Zm ?_;simp only[Eqs,reduceCtorEq,ZIF,reduceIte,ZIC,ZIH,ZID,Zs (t.g8 ),Kc,t.s8];exact hF.ret1 (Zj1 (ZlE aq) Yl) (.i 0) st (Ztv t) ⟨trivial,trivial⟩ (ZIB _) t.sub ⟨by rw[hI],rfl⟩;rw[ac i hi]at ah;simp at ah;intro q a m hm ae ab hB hq;have ac:∀i,i<m->Qz (λk=>Zp k l) (s.terms.getD i dE)=false:=λi hi=>by have:=ae i hi;split at this;simp at this;rename_i h;simpa using h
  have u:Qz (λk=>Zp k l) (s.terms.getD m dE)=true:=by split at ab;rename_i h;exact h;simp at ab
  rcases hB with ⟨ao,_⟩|⟨⟨nn,rfl⟩,_⟩;rw[ao m ω]at u;simp at u;have ak:s.terms.any (Qz λk=>Zp k l)=true:=ZDd hm u;have hI:=ZcF.eq_1 s λk=>Zp k l;rw[if_neg (by rw[ag];simp),if_pos ak]at hI;rw[Qq hq];exact hF.ret1 hq (.i 2) st (Ztv t) ⟨trivial,trivial⟩ (ZIB _) t.sub ⟨by rw[hI],rfl⟩;intro q a m id hm ae ab;split at ab<;>simp at ab;intro q a m d hm ae ab;split at ab<;>simp at ab;intro m c ab;split at ab<;>simp at ab;exact .inl ab.symm
 rintro d S ⟨x,hx,hd,rfl⟩;cases hd
def Q3(v:Yw->Int):List Yw->Int
 | []=>0
 |t::r=>t.factor*v t+Q3 v r
def ZzC{v}{l:List Yw}{i}(h:i<I l):Q3 v (l.take (i+1))=Q3 v (l.take i)+(l.getD i dE).factor*v (l.getD i dE):=by
 rw[Yo h];generalize l.getD i dE=x;induction l.take i with
 |nil=>simp[Q3]
 |cons y r ih=>simp only[List.cons_append,Q3,ih];omega
def ZrG{a b}(t:-1048576<=a/\a<=1048576)(u:0<=b/\b<34359738368):-36028797018963968<=a*b/\a*b<=36028797018963968:=by
 have h1:a*b<=1048576*b:=Int.mul_le_mul_of_nonneg_right t.2 u.1;have h2:-1048576*b<=a*b:=Int.mul_le_mul_of_nonneg_right t.1 u.1;omega
def ZxK{v l}(h:∀t∈l,(-1048576<=t.factor/\t.factor<=1048576)/\0<=v t/\v t<34359738368):-36028797018963968*(I l:Int)<=Q3 v l/\Q3 v l<=36028797018963968*(I l:Int):=by
 induction l with
 |nil=>simp[Q3]
 |cons t r ih =>have h1:=ih λx u=>h x (by simp[u]);have h2:=ZrG (h t ψ).1 (h t ψ).2;simp only[Q3,ZIP];generalize t.factor*v t=y at *;omega
def ZpL{s}(h:Z9 s=true):(-1048576<=s.base/\s.base<=1048576)/\∀t∈s.terms,-1048576<=t.factor/\t.factor<=1048576:=by
 unfold Z9 at h;simp only[ZIJ]at h;refine⟨by have:=h.1.1;simpa[Zeb]using this,λt ht=>?_⟩;have h1:=Zdx s.terms s.terms 0 rfl ω;simp only[List.take_zero,ZI9,Nat.zero_add]at h1;rw[h1]at h;have h2:((ZIM (I s.terms)).any λi=>dC ((s.terms.getD i dE).field∈(s.terms.take i).map (·.field))||!Zad (s.terms.getD i dE))=false:=by simpa using h.2
 obtain⟨j,hj,rfl⟩:=ZIV ht;have h3:=List.any_eq_false.1 h2 j (by simpa using hj);simp only[ZIW,not_or,Bool.not_eq_true',Bool.not_eq_false]at h3;have u:=h3.2;unfold Zad at u;simp only[ZIJ]at u;have h5:=u.2;simpa[Zeb,ZIN,hj]using h5
def ZhT(s)(hv:Z9 s=true){f}(v){st}(hb:∀t∈s.terms,0<=v t/\v t<34359738368)(hf:∀t∈s.terms,VT ZIy f [.agg t.cells] st (.i (v t)) st):
  ZO ZIy 234 [.agg s.cells,f] st (.i (s.base+Q3 v s.terms)) st:=by
 refine ZG (cR 234 f234) λai F ad=>?_;clear ai;have hfew:=Zae hv;have ae:=ZpL hv;refine rx (nd2 @eQ4 (nd2 @Yi.eq_1 @eQ1)) ?_;refine rx @eQ4 ?_;refine rx (nd2 @eQ4 (nd2 @Yi.eq_1 @eQ1)) ?_;refine Ze (fr (I s.terms) (λj Q=>j<=I s.terms->Q [(1,.d f),(5,.d (.i (s.base+Q3 v (s.terms.take j)))),(11,.d (Yi s.terms)),(12,.d (.i (I s.terms))),(13,.d (.i j))] [] st) (λn ac=>?_) λaj=>?_);intro j hn hj;refine rg ?_;refine Zc (Zl rfl trivial (λh1=>?_) (λh1=>?_));simp at h1;have u:=ZE h1;have ag:=ZzC (v:=v) h1;have af:=ZxK (v:=v) (l:=s.terms.take j) λt ht=>⟨ae.2 t (List.mem_of_mem_take ht),hb t (List.mem_of_mem_take ht)⟩;rw[ZIS]at af;generalize ah:s.terms.getD j dE=tm at *;have hmb:=ZrG (ae.2 tm u) (hb tm u);refine xA (nd2 @Yw.cells.eq_1 (nd2 @Yi.eq_1 (nd2 @eQ1 @ah))) ?_;refine rx @Yw.cells.eq_1 ?_;refine cWD (hf tm u) ?_;generalize hmv:tm.factor*v tm=mv at *;refine aa ?_;refine gA ?_;refine Zf ?_;have ab:=ac ((I s.terms)-(j+1)) ω (j+1) rfl ω;rw[ag,<-Int.add_assoc]at ab;exact ab;simp at h1;obtain rfl:j=I s.terms:=ω;rw[ZJa];refine rg ?_;exact ad rfl φ (ZIB _) ZIz;have hk:=aj _ 0 rfl ω;rw[List.take_zero,show Q3 v []=0 from rfl,Int.add_zero]at hk;exact hk
def Zej(look:Ze9)(least:Bool)(t:Yw):Int:=if least=dC (0<t.factor) then (Ziv look t).1 else (Ziv look t).2
def ZCV(look l):Q3 (Zej look true) l=loS look l:=by
 induction l with
 |nil=>rfl
 |cons t r ih =>simp only[Q3,loS,ih,loT,Zej];by_cases h:0<t.factor<;>simp[h]
def ZCU(look l):Q3 (Zej look false) l=hiS look l:=by
 induction l with
 |nil=>rfl
 |cons t r ih =>simp only[Q3,hiS,ih,hiT,Zej];by_cases h:0<t.factor<;>simp[h]
def ZrC(o:Option (Int×Int)):Wj (.agg [.i 0,.i 0]) false (o.map Qp)=.agg [.i (o.getD (0,0)).1,.i (o.getD (0,0)).2]:=by cases o<;>rfl
def Zi1(t l least b x y){st}(hb:st b=sO (.map (Zbx l)))(hx:st x=sO (.cells [.map b]))(hy:st y=sO (.cells [.bool least])):
  ZO ZIy 325 [.agg t.cells,.ptr x 0,.ptr y 0] st (.i (Zej (λk=>Zp k l) least t)) st:=by
 refine ZG (cR 325 f325) λab F u=>?_;clear ab;have e1:=YF (vD:=Qp) ZP t.field l;have e3:=YS ZP t.field;simp only[show KG t.field=D.str t.field from rfl]at e1 e3;refine rx @Yw.cells.eq_1 ?_;refine rh ?_;refine Zm ?_;simp only[Eqs,reduceCtorEq,ZIF,reduceIte,ZIC,ZIH,ZID,hx,hb,e1,e3,ZrC];refine rx @hy ?_;refine cd (λh1=>?_) (λh1=>?_);refine rg ?_;refine u rfl φ (Zhp ?_) ZIz;unfold Zej Ziv;rw[if_pos (by simpa using h1)];refine rh ?_;refine Zm ?_;simp only[Eqs,reduceCtorEq,ZIF,reduceIte,ZIC,ZIH,ZID,hx,hb,e1,e3,ZrC];refine u rfl φ (Zhp ?_) ZIz;unfold Zej Ziv;rw[if_neg (by simpa using h1)]
def ZAH{s u}(h:ZcF s u=0):Z9 s=true/\∀t∈s.terms,∀least,0<=Zej u least t/\Zej u least t<34359738368:=by
 unfold ZcF at h;split at h;· omega
 rename_i hv;split at h;· omega
 rename_i hb;refine⟨by simpa using hv,λt ht least=>?_⟩;have h1:Qz u t=false:=by
  cases hx:Qz u t with
  |false=>rfl
  |true=>exact absurd (List.any_eq_true.2 ⟨t,ht,hx⟩) hb
 unfold Qz at h1;unfold Zej Ziv;cases hl:u t.field with
 |none=>simp
 |some r =>rw[hl]at h1;simp only[ZbY,Bool.or_eq_false_iff,decide_eq_false_iff_not]at h1;simp only[ZJe];split<;>omega
def Zd7(s l least b x y){st}(he:ZcF s (λk=>Zp k l)=0)(hb:st b=sO (.map (Zbx l)))(hx:st x=sO (.cells s.cells))(hy:st y=sO (.cells [.map b])):
  ZO ZIy 324 [.bool least,.ptr x 0,.ptr y 0] st (.i (s.base+Q3 (Zej (λk=>Zp k l) least) s.terms)) st:=by
 refine ZG (cR 324 f324) λad F ab=>?_;clear ad;have u:=ZAH he;refine rg ?_;refine Zc ?_;refine xP 3 λz hz=>?_;have ac:b≠z:=λe=>by rw[e,hz]at hb;simp at hb
 have af:x≠z:=λe=>by rw[e,hz]at hx;simp at hx
 have ag:y≠z:=λe=>by rw[e,hz]at hy;simp at hy
 have ae:(st.upd z (.cells [.bool least])) x=sO (.cells s.cells):=by rw[ZIG _ _ af];exact hx
 refine rx (nd2 @ae @eQ4) ?_;refine ZaE rfl rfl rfl rfl rfl φ φ (by exact ZhT s u.1 (Zej (λk=>Zp k l) least) (λt ht=>u.2 t ht least) (λt ht=>(Zi1 t l least b y z (by rw[ZIG _ _ ac];exact hb) (by rw[ZIG _ _ ag];exact hy) (ZIE _ _ _)).VT (first:=[]) (args:=[_]) (caps:=[_,_]))) (Zm ?_);simp only[Eqs,reduceCtorEq,ZIF,reduceIte,ZIC,ZIH,ZID];exact ab rfl φ (ZIB _) (ZIZ _ hz)
def ZnW(s b l){st}(hb:st b=sO (.map (Zbx l))):
  Za ZIy 318 [.agg s.cells,.map b] st (λr S=>r=.ret (.tup [Qp ((JS s λk=>Zp k l).1,(JS s λk=>Zp k l).2.1),.i (JS s λk=>Zp k l).2.2])/\S=st):=by
 refine Zb (cR 318 f318) λF hF=>?_;have hI:=JS.eq_1 s λk=>Zp k l;refine rx @eQ4 ?_;refine rg ?_;refine rx @eQ4 ?_;refine cV (ZpA s b l st hb) ?_ ?_;rintro d S ⟨hd,rfl⟩;cases hd;refine gR0 ?_;refine rg ?_;refine cd (λh1=>?_) (λh1=>?_);have t:¬ZcF s (λk=>Zp k l)=0:=by simpa using h1
 rw[if_neg t]at hI;refine rg ?_;refine hF.ret _ S rfl φ (Jy ?_ rfl) ZIz ⟨rfl,rfl⟩;rw[hI];rfl;have t:ZcF s (λk=>Zp k l)=0:=by simpa using h1
 rw[if_pos t]at hI;refine ZK (Zc ?_);refine xP 2 λx hx=>?_;refine xP 3 λy hy=>?_;have ad:b≠x:=λe=>by rw[e,hx]at hb;simp at hb
 have ac:=Zo hy;have ae:b≠y:=λe=>by rw[e,ac.2]at hb;simp at hb
 have u:((S.upd x (.cells s.cells)).upd y (.cells [.map b])) b=sO (.map (Zbx l)):=by rw[ZIG _ _ ae,ZIG _ _ ad];exact hb
 have ab:((S.upd x (.cells s.cells)).upd y (.cells [.map b])) x=sO (.cells s.cells):=by rw[ZIG _ _ ac.1.symm];exact ZIE _ _ _
 refine gG ?_;refine cW ((Zd7 s l true b x y t u ab (ZIE _ _ _)).VT (first:=[]) (args:=[_]) (caps:=[_,_])) ?_;refine cW ((Zd7 s l false b x y t u ab (ZIE _ _ _)).VT (first:=[]) (args:=[_]) (caps:=[_,_])) ?_;refine hF.ret _ S rfl (by first|trivial|simp) (Jy ?_ rfl) (ZJh (ZIZ _ hx) (ZIZ _ hy)) ⟨rfl,rfl⟩;rw[hI,ZCV,ZCU];rfl;rintro d S ⟨hd,_⟩;cases hd
def Ze1(o:Option Int):Wj (.i 0) false (o.map YR)=.i (o.getD 0):=by cases o<;>rfl
abbrev Kh(l:List (Str×Int)):List (D×D):=WL KG YR l
def inC(n:Int):List D:=[.i n]
end Go.DL
namespace Go.DL
open Go
structure Hdr where
 name:Str
 text:Str
deriving Inhabited,DecidableEq
def Hdr.cells(h:Hdr):List D:=[.str h.name,.str h.text]
def Yg(l:List Hdr):D:=slD 2 Hdr.cells l
def u8C(b:UInt8):List D:=[.int .u8 b.toNat]
def Zk(b:Str):D:=slD 1 u8C b
inductive Val where
 |mk (name:Str) (int:Int) (bytes:Str) (hdrs:List Hdr) (parts:List Val)
namespace Val
def name:Val->Str
 |mk n _ _ _ _=>n
def int:Val->Int
 |mk _ i _ _ _=>i
def bytes:Val->Str
 |mk _ _ b _ _=>b
def hdrs:Val->List Hdr
 |mk _ _ _ h _=>h
def parts:Val->List Val
 |mk _ _ _ _ p=>p
end Val
instance:Inhabited Val:=⟨.mk [] 0 [] [] []⟩
def ZBj:List D:=[.str [],.i 0,Zk [],Yg [],.nilsl]
mutual
def Val.cells:Val->List D
 |.mk n i b h p=>[.str n,.i i,Zk b,Yg h,.sl .none (I p) 5 λj=>(Val.cellsL p).getD j ZBj]
def Val.cellsL:List Val->List (List D)
 | []=>[]
 |v::r=>v.cells::Val.cellsL r
end
def Val.cellsL_get:∀(l j),j<I l->(Val.cellsL l).getD j ZBj=(l.getD j dE).cells
 | [],j,h=>absurd h (Nat.not_lt_zero _)
 |v::r,0,_=>rfl
 |v::r,j+1,h=>by have:=cellsL_get r j (by simpa using h);simpa[Val.cellsL]using this
def ZcS(p:List Val)(j:Nat):List D:=(Val.cellsL p).getD j ZBj
def Zgv{p j}(h:j<I p):ZcS p j=(p.getD j dE).cells:=Val.cellsL_get p j h
def ZZ(p:List Val):D:=.sl .none (I p) 5 (ZcS p)
def Val.cells_eq(v:Val):v.cells=[.str v.name,.i v.int,Zk v.bytes,Yg v.hdrs,ZZ v.parts]:=by
 cases v;rfl
def Val.len(v:Val):I v.cells=5:=by rw[Val.cells_eq];rfl
def Val.ind{p:Val->Prop}(h:∀v:Val,(∀x∈v.parts,p x)->p v)(v):p v:=by
 have t:∀n:Nat,∀v:Val,SizeOf.sizeOf v<n->p v:=by
  intro n;induction n with
  |zero=>intro v h;omega
  |succ n ih =>
   intro v hv;refine h v λx u=>ih x ?_;have h1:SizeOf.sizeOf x<SizeOf.sizeOf v.parts:=List.sizeOf_lt_of_mem u;have h2:SizeOf.sizeOf v.parts<SizeOf.sizeOf v:=by cases v;simp[Val.parts];omega
   omega
 exact t _ v (Nat.lt_succ_self _)
def K6{l i}(h:i<I l):ZcS l i=[.str (l.getD i dE).name,.i (l.getD i dE).int,Zk (l.getD i dE).bytes,Yg (l.getD i dE).hdrs,ZZ (l.getD i dE).parts]:=by rw[Zgv h,Val.cells_eq]
end Go.DL
namespace Go.DL
open Go
variable [Zs5]
variable {kp:Option (List Nat)}{L:Loc}{H:Env}{s:St}{w:World}{os:List DOp}{ds:List D}{B:List (Nat × Rd)}{dst:Option Nat}{tmps:Array Value}{g:G}{Φ:Res->St->Prop}{Z:Nat->Nat}{xs:List Opd}{side:Prop}{row:Nat->List D}
variable {P:Program}
def ZEz{k t:IntKind}{a b:Int}(h:0<=b):ZgM .shl k t a b=sO (k.wrap (J8 k a b)):=if_pos h
def ZB3{op s x y}(h:ck P op=sO (.copy s x y)):
  ∃x' y' args ats t1 e,op=.call ⟨.builtin .copy,args,ats⟩/\args.toList=[x',y']/\ats[0]?=sO t1/\P.underlying t1=sO (.slice e)/\ZS P e=sO s/\ZW x'=sO x/\ZW y'=sO y/\0<s:=by
 unfold ck at h;split at h;simp at h;split at h<;>(try(simp at h;done));all_goals (try(repeat' (split at h<;>(try(simp at h;done)))))
 all_goals
  simp only[ZIx,K.copy.injEq]at h;obtain⟨rfl,rfl,rfl⟩:=h
 rename_i c _ _ t _ _ e x' y' h1 u _ _ _ s' x1 y1 hs hx hy ab;obtain⟨t1,g1,g2⟩:=Option.bind_eq_some_iff.1 h1;obtain⟨callee,args,ats⟩:=c;simp only at t;subst t;exact⟨x',y',args,ats,t1,e,rfl,u,g1,g2,hs,hx,hy,of_decide_eq_true ab⟩
def Zvy{F:Fr P}{kp dk o os H L s}(hg:Zj H o.guard=sO true){sz x y}(hk:o.k=.copy sz x y){p q b off n cap m row2 dy cs}(hx:ZC H true x=sO (p,.d (.msl b off n cap sz)))(hy:ZC H true y=sO (q,.d dy))(hp:p)(hq:q)(hcs:Z2 s b=sO cs)(hlen:off+n*sz<=I cs)(hel:WZ P s sz dy m row2)(hmn:m<=n)(h:DO F kp dk os (Zx H o.dst (.d (.i m))) L (s.upd b (.cells (Zy cs off ((ZIM m).flatMap row2))))):DO F kp dk (o::os) H L s:=by
 refine Y7 λoo g Z w tmps bb i r k az aj be af hd hN M hr av=>?_;have hw:=Z7 M be hg;have ay:=Yb aj (by rw[hk];rfl);rw[hk]at aj;obtain⟨x',y',ao,ap,t1,e,bh,ai,aq,ba,al,bl,bn,h0⟩:=ZB3 aj;have a0:Rep g w _ (.msl b off n cap sz):=ZY M bl rfl hx hp F.ds;have a6:Rep g w _ _:=ZY M bn rfl hy hq F.ds;have a8:s b=sO (.cells cs):=by unfold Z2 at hcs;split at hcs<;>simp only[ZIx,reduceCtorEq]at hcs;subst hcs;assumption
 obtain⟨ah,ad,ax⟩:=hel _ _ _ M.st a6 h0;have bc:ao = #[x',y']:=by apply Array.ext';simpa using ai
 obtain⟨ie,au,ak⟩:∃ie,P.info? e=sO ie/\ie.size=sz:=by
  unfold ZS at al;cases hi:P.info? e with
  |none=>simp[hi]at al
  |some ie=>exact⟨ie,rfl,by simpa[hi]using al⟩
 generalize bj:(Act.mk tmps F.ds).eval x'=vx at a0;generalize bk:(Act.mk tmps F.ds).eval y'=vy at a6 ax;have ab:∀v' w',(Builtin.copy_ ap oo.type #[vx,vy]).run P w=.ok v' w'->(execOp (Act.mk tmps F.ds).eval oo).run P w=.ok (.value v') w':=λv' w' a7=>by unfold execOp;simp only[bh,bc,resolve,invoke,builtin,Sem.run_bind,Sem.run_pure,Result.andThen_ok,List.map_toArray,ZIQ,ZI9,bj,bk,a7]
 subst ak;have bf:=ZbR ad.rlen m (ZIO _);obtain⟨aw,ac⟩:=ax;have ac:=ac w rfl;have ag:Nat.min m n=m:=Nat.min_eq_left hmn;have ar:∀(t:Option Addr) ae w',vx=.slice t n ae->(match t with|some a=>storeCells a ah|none=>pure ()).run P w=.ok () w'->(Builtin.copy_ ap oo.type #[vx,vy]).run P w=.ok (.i m) w':=λt ae w' hv u=>by
  subst hv;cases t with
  |none=>simp at u;subst u;simp[Builtin.copy_,aq,run_underlying ba,sizeOf,typeInfo,au,aw,ac,ag,goInt]
  |some a=>simp at u;simp[Builtin.copy_,aq,run_underlying ba,sizeOf,typeInfo,au,aw,ac,ag,u,goInt]
 have u:=Zb2 (P:=P) (off:=off) (Qv M.st hcs) ad.flat ad.one (by rw[bf];have:=ZIT ie.size hmn;omega) (M.st.kept b _ a8);obtain⟨w',a1,a2,a3,a4,a5⟩:=u;have bi:s.upd b (.cells cs)=s:=by funext c;simp only[ZJc];split<;>simp_all
 cases a0 with
 |msl _ _ _ _ _ hc1 hc2 =>have am:=ar _ _ w' rfl a1;have m':=M.named (o':=.cells (Zy cs off ((ZIM m).flatMap row2))) a8 a2 a3 a4 a5;exact Yk (L':=L) hN az af hd hw ay (e:=.d (.i m)) (ab _ _ am) a2 m' (.int _ _ (by simp only[big]at hc2;exact⟨by show(-9223372036854775808:Int)<=_;omega,by show _<=(9223372036854775807:Int);omega⟩)) (h bb r k hr av)
 |mslx a =>
  obtain rfl:m=0:=ω;have bg:ah=[]:=List.eq_nil_of_length_eq_zero (by simpa using ad.len);subst bg;have am:=ar (sO a) 0 w rfl (by simp[storeCells]);have a9:Zy cs off ((ZIM 0).flatMap row2)=cs:=by simp[Zy]
  rw[a9,bi]at h;exact Yk (L':=L) (s':=s) hN az af hd hw ay (e:=.d (.i 0)) (ab _ _ am) (Ext.refl g w) M (.int _ _ ⟨by decide,by decide⟩) (h bb r k hr av)
def Zjx{F:Fr P}{kp dk o os H L s}(hg:Zj H o.guard=sO true){sz x y}(hk:o.k=.copy sz x y){p q b off n cap m row2 dy cs}(hx:ZC H true x=sO (p,.d (.msl b off n cap sz)))(hy:ZC H true y=sO (q,.d dy))(hp:p)(hq:q)(hcs:Z2 s b=sO cs)(hlen:off+n*sz<=I cs)(hel:WZ P s sz dy m row2)(hmn:m<=n)(h:Qt F kp dk os (Zx H o.dst (.d (.i m))) L (s.upd b (.cells (Zy cs off ((ZIM m).flatMap row2))))):Qt F kp dk (o::os) H L s:=λB=>by
 refine Zb6 (λe' s'=>e'=.d (.i m)/\s'=s.upd b (.cells (Zy cs off ((ZIM m).flatMap row2)))) (by rw[hk];rfl) (λH' L' os' u ab=>?_) (λe2 s2 ⟨h1,h2⟩=>by
  subst h1;subst h2;exact⟨J4,h _⟩)
 have h1:ZA H H' (ZR x):=λt ht=>u t (by simp[ZB,hk,Yh,ht]);have h2:ZA H H' (ZR y):=λt ht=>u t (by simp[ZB,hk,Yh,ht]);have h3:ZA H H' (ZcC o.guard):=λt ht=>u t (by simp[ZB,ht]);exact Zvy (by rw[YW h3];exact hg) hk (by rw[ZQ h1];exact hx) (by rw[ZQ h2];exact hy) hp hq hcs hlen hel hmn (ab _ _ ⟨rfl,rfl⟩)
inductive Buf(S:St)(sz:Nat)(rows:List (List D)):D->Option Nat->Prop where
 |nil (h:rows=[]):Buf S sz rows .nilsl none
 |obj (x cap:Nat) (X:List D) (h:S x=some (.cells (rows.flatten++X))) (hX:X.length=(cap-I rows)*sz) (hc:I rows<=cap):Buf S sz rows (.msl x 0 (I rows) cap sz) (some x)
def Zh9(s s':St)(ob ob':Option Nat):Prop:=(∀y o,s y=sO o->ob≠sO y->s' y=sO o/\ob'≠sO y)
def Buf.fr{s s' sz rows d ob c t}(h:Buf s sz rows d ob)(u:Zh9 s s' c t)(hn:∀x,ob=sO x->c≠sO x):Buf s' sz rows d ob/\∀x,ob=sO x->t≠sO x:=by
 cases h with
 |nil h=>exact⟨.nil h,λx e=>by cases e⟩
 |obj x cap X h hX hc=>exact⟨.obj x cap X (u x _ h (hn x rfl)).1 hX hc,λy e=>by cases e;exact(u x _ h (hn x rfl)).2⟩
def Zgg{sz:Nat}:∀{rows:List (List D)},(∀r∈rows,I r=sz)->I rows.flatten=I rows*sz
 | [],_=>by simp
 |r::l,h=>by rw[List.flatten_cons,ZII,h r ψ,Zgg λq t=>h q (by simp[t]),ZIP,ZIX,Nat.one_mul,Nat.add_comm]
def ZBH{P}{F:Fr P}{kp dk o os H L s}(hg:Zj H o.guard=sO true){e sz bt z x y}(hk:o.k=.append e sz bt z x y){p q row2 dy}(hx:ZC H true x=sO (p,.d .nilsl))(hy:ZC H true y=sO (q,.d dy))(hp:p)(hq:q)(hel:WZ P s sz dy 0 row2)(h:DO F kp dk os (Zx H o.dst (.d .nilsl)) L s):DO F kp dk (o::os) H L s:=by
 refine Y7 λoo g Z w tmps a9 i r k ay u aq ae hd hN M hr ar=>?_;have hw:=Z7 M aq hg;have av:=Yb u (by rw[hk];rfl);rw[hk]at u;obtain⟨x',y',ac,al,t1,t2,tu,az,t,am,ao,a3,a4,ax,a0,hz,hbb,a7,a8,h0,hzl⟩:=ZaK u;have ah:Rep g w _ .nilsl:=ZY M a7 rfl hx hp F.ds;have ai:Rep g w _ _:=ZY M a8 rfl hy hq F.ds;obtain⟨zv,hz1,hz2,hz3,ie,af,hzz⟩:=Qh (g:=g) (w:=w) hz;have ab:ie.size=sz:=by simpa[ZS,af]using a0
 subst ab;obtain⟨ak,au,ag⟩:=hel _ _ _ M.st ai h0;have aw:ak=[]:=List.eq_nil_of_length_eq_zero (by simpa using au.len);subst aw;have ap:ac = #[x',y']:=by apply Array.ext';simpa using t
 have ad:∀vs,Builtin.append_ al oo.type vs=Builtin.append_ #[t1,t2] oo.type vs:=λvs=>by unfold Builtin.append_;simp[am,ao]
 generalize a5:(Act.mk tmps F.ds).eval x'=vx at ah;generalize a6:(Act.mk tmps F.ds).eval y'=vy at ai ag;cases ah;have aj:=ZjI (ty:=oo.type) (n:=0) (cap:=0) (base:=nO) a3 a4 ax af ag ω;exact Yk (L':=L) (s':=s) hN ay ae hd hw av (e:=.d .nilsl) (by
  unfold execOp;simp only[az,ap,resolve,invoke,builtin,Sem.run_bind,Sem.run_pure,Result.andThen_ok,List.map_toArray,ZIQ,ZI9,ad,a5,a6,aj]) (Ext.refl g w) M Rep.nilsl (h a9 r k hr ar)
def Zve{A X c:List D}{n}(t:A.length=n):Zy (A++X) n c=A++c++X.drop (I c):=by
 subst t;unfold Zy;rw[List.take_left,<-List.drop_drop,List.drop_left]
def Zlw{P}{F:Fr P}{kp dk o os H L s}(hg:Zj H o.guard=sO true){e sz bt z x y}(hk:o.k=.append e sz bt z x y){p q rows D0 ob m row2 dy}(hB:Buf s sz rows D0 ob)(hw:∀r∈rows,I r=sz)(hx:ZC H true x=sO (p,.d D0))(hy:ZC H true y=sO (q,.d dy))(hp:p)(hq:q)(hel:WZ P s sz dy m row2)(hb:(I rows+m)*bt<=140737488355328)(hbig:I rows+m<=big){new}(hr:(ZIM m).map row2=new)(hw2:∀r∈new,I r=sz)(h:∀s' D1 ob1,Buf s' sz (rows++new) D1 ob1->Zh9 s s' ob ob1->DO F kp dk os (Zx H o.dst (.d D1)) L s'):DO F kp dk (o::os) H L s:=by
 have af:(ZIM m).flatMap row2=new.flatten:=by rw[<-hr,List.flatMap_def]
 have u:I new=m:=by rw[<-hr];simp
 cases hB with
 |nil h0 =>
  subst h0;by_cases hm:m=0;subst hm;have ai:new=[]:=List.eq_nil_of_length_eq_zero u;subst ai;exact ZBH hg hk hx hy hp hq hel <|h s _ nO (.nil rfl) λy o' t _=>⟨t,λe=>by cases e⟩;refine Zm6 hg hk hx rfl hy hel hp hq (Nat.pos_of_ne_zero hm) (by simpa using hb) (by simpa using hbig) λc cap hc ac=>?_;have aj:I new<=cap:=ω;refine h _ _ (sO c) ?_ λy o' t _=>?_;rw[show(D.msl c 0 m cap sz)=.msl c 0 ([]++new).length cap sz by rw[List.nil_append,u]];refine .obj c cap (List.replicate ((cap-m)*sz) .any) ?_ ?_ ?_;rw[ZIE,af,List.nil_append];rw[List.length_replicate,List.nil_append,u];rw[List.nil_append];exact aj;have:y≠c:=λe=>by rw[e,hc]at t;cases t
  exact⟨by rw[ZIG _ _ this];exact t,λe=>this (Option.some.inj e).symm⟩
 |obj x0 cap X hb0 hX hc =>
  have ae:=Zgg hw;have ad:(rows.flatten++X).length=cap*sz:=by rw[ZII,ae,hX,<-ZIX];congr 1;omega
  refine Zlx hg hk hx hy hp hq (cs:=rows.flatten++X) (by simp only[Z2,hb0]) (by rw[ad,Nat.zero_add];exact ZIT _ hc) hel (λal=>⟨rfl,by rw[ad];exact ZIT _ al⟩) hb hbig (λac=>?_) λc ab hlt ah ac=>?_;refine h _ _ (sO x0) ?_ λy o' t ag=>?_;rw[show(D.msl x0 0 (I rows+m) cap sz)=.msl x0 0 (rows++new).length cap sz by rw[ZII,u]];refine .obj x0 cap (X.drop (I new.flatten)) ?_ ?_ (by rw[ZII,u];exact ac);rw[ZIE,af,Zve ae,List.flatten_append];rw[ZI8,hX,Zgg hw2,u,ZII,u,<-Nat.sub_mul];congr 1;omega;have:y≠x0:=λe=>ag (by rw[e]);exact⟨by rw[ZIG _ _ this];exact t,λe=>this (Option.some.inj e).symm⟩;refine h _ _ (sO c) ?_ λy o' t ag=>?_;rw[show(D.msl c 0 (I rows+m) ab sz)=.msl c 0 (rows++new).length ab sz by rw[ZII,u]];refine .obj c ab (List.replicate ((ab-(I rows+m))*sz) .any) ?_ (by rw[List.length_replicate,ZII,u]) (by rw[ZII,u];exact ac);have ak:part (rows.flatten++X) 0 (I rows*sz)=rows.flatten:=by unfold part;rw[List.drop_zero,List.take_left' ae]
  rw[ZIE,af,ak,List.flatten_append];have:y≠c:=λe=>by rw[e,ah]at t;cases t
  exact⟨by rw[ZIG _ _ this];exact t,λe=>this (Option.some.inj e).symm⟩
def ZsQ{P}{F:Fr P}{kp dk o fl os H L s B}(hg:Zj H o.guard=sO true){e sz bt z x y}(hk:o.k=.append e sz bt z x y){p q rows D0 ob m row2 dy}(hB:Buf s sz rows D0 ob)(hw:∀r∈rows,I r=sz)(hx:ZC H true x=sO (p,.d D0))(hy:ZC H true y=sO (q,.d dy))(hp:p)(hq:q)(hel:WZ P s sz dy m row2)(hb:(I rows+m)*bt<=140737488355328)(hbig:I rows+m<=big){new}(hr:(ZIM m).map row2=new)(hw2:∀r∈new,I r=sz)(h:∀s' D1 ob1,Buf s' sz (rows++new) D1 ob1->Zh9 s s' ob ob1->ZhH false fl s s' L L B/\DOA F kp dk os (Zx H o.dst (.d D1)) L s' (ZlP false fl B)):DOA F kp dk ((o,fl)::os) H L s B:=by
 refine Zb6 (λe' s'=>∃D1 ob1,e'=.d D1/\Buf s' sz (rows++new) D1 ob1/\Zh9 s s' ob ob1) (by rw[hk];rfl) (λH' L' os' u ab=>?_) (λe2 s2 ⟨D1,ob1,h1,h2,h3⟩=>by
  subst h1;exact h s2 D1 ob1 h2 h3)
 have e1:ZA H H' (ZR x):=λt ht=>u t (by simp[ZB,hk,Yh,ht]);have e2:ZA H H' (ZR y):=λt ht=>u t (by simp[ZB,hk,Yh,ht]);have e3:ZA H H' (ZcC o.guard):=λt ht=>u t (by simp[ZB,ht]);exact Zlw (by rw[YW e3];exact hg) hk hB hw (by rw[ZQ e1];exact hx) (by rw[ZQ e2];exact hy) hp hq hel hb hbig hr hw2 λs' D1 ob1 h1 h2=>ab _ _ ⟨D1,ob1,rfl,h1,h2⟩
def ZxV{P}{F:Fr P}{kp dk o os H L s}(hg:Zj H o.guard=sO true){e sz bt z x y}(hk:o.k=.append e sz bt z x y){p q rows D0 ob m row2 dy}(hB:Buf s sz rows D0 ob)(hw:∀r∈rows,I r=sz)(hx:ZC H true x=sO (p,.d D0))(hy:ZC H true y=sO (q,.d dy))(hp:p)(hq:q)(hel:WZ P s sz dy m row2)(hb:(I rows+m)*bt<=140737488355328)(u:I rows+m<=big){new}(hr:(ZIM m).map row2=new)(hw2:∀r∈new,I r=sz)(h:∀s' D1 t,Buf s' sz (rows++new) D1 t->Zh9 s s' ob t->Qt F kp dk os (Zx H o.dst (.d D1)) L s'):Qt F kp dk (o::os) H L s :=
 λB=>ZsQ hg hk hB hw hx hy hp hq hel hb u hr hw2 λs' D1 t h1 h2=>⟨J4,h s' D1 t h1 h2 _⟩
end Go.DL
namespace Go.DL
open Go Go.Proofs
variable {kp:Option (List Nat)}{L:Loc}{H:Env}{s:St}{w:World}{os:List DOp}{ds:List D}{B:List (Nat × Rd)}{dst:Option Nat}{tmps:Array Value}{g:G}{Φ:Res->St->Prop}{Z:Nat->Nat}{xs:List Opd}{side:Prop}{row:Nat->List D}
def Zhd(n t:Nat):UInt8:=UInt8.ofNat (t*2 ^ (7-n % 8))
def ZiV(b:List UInt8)(n t:Nat):List UInt8:=b.set (I b-1) (b.getD (I b-1) dE |||Zhd n t)
def ZcQ(b:List UInt8)(n:Nat):List UInt8:=if n % 8=0 then b++[0] else b
def Zao(v:Nat):Nat->List UInt8->Nat->List UInt8
 |0,b,_=>b
 |k+1,b,n=>Zao v k (ZiV (ZcQ b n) n (v / 2 ^ k % 2)) (n+1)
def ZrO(v b n):Zao v 0 b n=b:=rfl
def ZrN(v k b n):Zao v (k+1) b n=Zao v k (ZiV (ZcQ b n) n (v / 2 ^ k % 2)) (n+1):=rfl
def BOk(b:List UInt8)(n:Nat):Prop:=I b=(n+7) / 8
def ZnN{b n}(h:BOk b n):(ZcQ b n).length=n / 8+1:=by
 unfold BOk at h;unfold ZcQ;split;rw[ZII,List.length_singleton];omega;omega
def Zus{b n t}(h:BOk b n):BOk (ZiV (ZcQ b n) n t) (n+1):=by
 have:=ZnN h;unfold BOk ZiV;rw[List.length_set];omega
def ZnO{v}:∀{k b n},BOk b n->BOk (Zao v k b n) (n+k)
 |0,_,_,h=>h
 |k+1,b,n,h=>by have:=ZnO (v:=v) (k:=k) (Zus (t:=v / 2 ^ k % 2) h);rw[Nat.add_assoc,Nat.add_comm 1 k]at this;exact this
def BOk.bytes{b n}(h:BOk b n)(l:List UInt8):BOk (b++l) (n+8*I l):=by
 unfold BOk at *;rw[ZII,h];omega
def leS(v:Nat):Nat->List UInt8
 |0=>[]
 |k+1=>UInt8.ofNat v::leS (v / 256) k
def Wb(S:St)(z:Nat)(ob:Option Nat)(b:List UInt8)(n:Nat)(rest:List D):Prop:=∃bD,S z=sO (.cells (bD::.i n::rest))/\Buf S 1 (b.map u8C) bD ob/\ob≠sO z
def WbF(z:Nat)(S:St)(ob:Option Nat)(S':St)(ob':Option Nat):Prop:=∀y o,S y=sO o->y≠z->ob≠sO y->S' y=sO o/\ob'≠sO y
def WbF.trans{z S S1 S2 ob t u}(h:WbF z S ob S1 t)(h2:WbF z S1 t S2 u):WbF z S ob S2 u:=λy o hy hz hn=>by
 obtain⟨h3,h4⟩:=h y o hy hz hn;exact h2 y o h3 hz h4
def WbF.refl{z S ob}:WbF z S ob S ob:=λ_ _ u _ t=>⟨u,t⟩
def Zh9.wb{z S S' ob t}(h:Zh9 S S' ob t):WbF z S ob S' t:=λy o hy _ u=>h y o hy u
def WbF.upd{z S S' ob t o}(h:WbF z S ob S' t):WbF z S ob (S'.upd z o) t:=λy o hy u hn=>by
 rw[ZIG _ _ u];exact h y o hy u hn
def WbP(S:St)(z:Nat)(ob:Option Nat)(b:List UInt8)(n:Nat)(rest:List D)(r:Res)(S':St):Prop:=r=.ret (.tup [])/\∃ob',Wb S' z ob' b n rest/\WbF z S ob S' ob'
def Ze3{l:List UInt8}:∀r∈l.map u8C,I r=1:=λr t=>by
 obtain⟨x,_,rfl⟩:=List.mem_map.1 t;rfl
def Buf.upd{s sz rows d ob z o}(h:Buf s sz rows d ob)(t:ob≠sO z):Buf (s.upd z o) sz rows d ob:=by
 cases h with
 |nil h=>exact .nil h
 |obj x cap X h hX hc=>exact .obj x cap X (by rw[ZIG _ _ λe=>t (by rw[e])];exact h) hX hc
def Buf.cell{s sz rows d ob}(h:Buf s sz rows d ob):QU d=true:=by cases h<;>rfl
def Zdm(l:List UInt8):(ZIM (I l)).map (λi=>u8C (l.getD i dE))=l.map u8C:=by
 apply List.ext_getElem?;intro i;simp only[List.getElem?_map,List.getElem?_range,ZIN];by_cases h:i<I l;simp[h];simp[h]
def Ze4(l:List UInt8):(l.map u8C).flatten=l.map λc=>D.int .u8 c.toNat:=by
 induction l with
 |nil=>rfl
 |cons a r ih=>rw[ZIQ,List.flatten_cons,ih];rfl
def ZBB{b:List UInt8}{X q}(h:q<I b):((b.map u8C).flatten++X)[q*1]?=sO (.int .u8 (b.getD q dE).toNat):=by
 rw[Ze4,Nat.mul_one,ZI6 (by rw[ZIU];exact h),List.getElem?_map];simp[ZIN,h]
def ZzI{b:List UInt8}{X q}(y:UInt8)(h:q<I b):((b.map u8C).flatten++X).take q++[.int .u8 y.toNat]++((b.map u8C).flatten++X).drop (q+1)=((b.set q y).map u8C).flatten++X:=by
 rw[Ze4,Ze4];rw[List.take_append_of_le_length (by rw[ZIU];omega),<-List.map_take,List.drop_append_of_le_length (by rw[ZIU];omega),<-List.map_drop,<-ZI1]
 congr 1
 rw[List.set_eq_take_append_cons_drop,if_pos h];simp
def ZEk(x y:UInt8):Qj .or .u8 (x.toNat:Int) (y.toNat:Int)=((x |||y).toNat:Int):=by
 have hx:=x.toNat_lt;have hy:=y.toNat_lt;unfold Qj;simp only;have t:(BitVec.ofInt 8 (x.toNat:Int)).toNat=x.toNat:=by rw[BitVec.toNat_ofInt];omega
 have u:(BitVec.ofInt 8 (y.toNat:Int)).toNat=y.toNat:=by rw[BitVec.toNat_ofInt];omega
 show IntKind.u8.wrap ((BitVec.ofInt 8 (x.toNat:Int) |||BitVec.ofInt 8 (y.toNat:Int)).toNat:Int)=_;rw[BitVec.toNat_or,t,u,UInt8.toNat_or];have h:=Nat.or_lt_two_pow (n:=8) hx hy;have h1:IntKind.u8.wrap ((x.toNat |||y.toNat:Nat):Int)=((x.toNat |||y.toNat:Nat):Int) % 256:=rfl;rw[h1];omega
def ZzY{n:Nat}(h:n<4611686018427387904):Qj .and .i64 (n:Int) 1=((n % 2:Nat):Int):=by
 unfold Qj;simp only;have t:(BitVec.ofInt 64 (n:Int)).toNat=n:=by rw[BitVec.toNat_ofInt];omega
 show IntKind.i64.wrap ((BitVec.ofInt 64 (n:Int) &&& BitVec.ofInt 64 1).toNat:Int)=_;rw[BitVec.toNat_and,t,show(BitVec.ofInt 64 1).toNat=1 from rfl,Nat.and_one_is_mod];have u:∀m:Nat,m<2->IntKind.i64.wrap (m:Int)=(m:Int):=λm hm=>by rcases(by omega:m=0\/m=1) with rfl|rfl<;>rfl
 exact u _ (Nat.mod_lt _ (by decide))
def Zwn{v:Nat}(hv:v<4611686018427387904)(j:Nat):QE .i64 (v:Int) (j:Int)=((v / 2 ^ j:Nat):Int):=by
 unfold QE;rw[Int.toNat_natCast,Int.fdiv_eq_ediv_of_nonneg _ (by exact_mod_cast Nat.zero_le _)];have t:((v:Int) / 2 ^ (Nat.min j 64))=((v / 2 ^ (Nat.min j 64):Nat):Int):=by push_cast;rfl
 rw[show Nat.min j IntKind.i64.bits=Nat.min j 64 from rfl,t];by_cases h:j<=64;rw[show Nat.min j 64=j from Nat.min_eq_left h];rw[show Nat.min j 64=64 from Nat.min_eq_right ω,Nat.div_eq_of_lt ω,Nat.div_eq_of_lt];have:(2:Nat) ^ 64<=2 ^ j:=Nat.pow_le_pow_right (by decide) ω;omega
def ZA7{n t}(ht:t<2):(Zhd n t).toNat=t*2 ^ (7-n % 8):=by
 unfold Zhd;rw[UInt8.toNat_ofNat'];have u:∀k:Nat,k<=7->2 ^ k<=128:=λk hk=>Nat.pow_le_pow_right (n:=2) (by decide) hk;have:=u (7-n % 8) ω;rcases(by omega:t=0\/t=1) with rfl|rfl<;>omega
def ZCQ{n t:Nat}(ht:t<2):J8 .u8 (t:Int) (7-((n:Int) % 8))=((Zhd n t).toNat:Int):=by
 rw[ZA7 ht];unfold J8;have u:(7-((n:Int) % 8)).toNat=7-n % 8:=ω;rw[u,show Nat.min (7-n % 8) IntKind.u8.bits=7-n % 8 from Nat.min_eq_left (by show _<=8;omega)]
 push_cast
 rfl
def ZBx{L s}(l):qv L s .lenL [.d (Zk l)]=sO (True,.d (.i (I l))):=rfl
def Kw{S z ob b n rest}(l:List UInt8)(hb:Wb S z ob b n rest)(hn:(n:Int)+8*(I b+I l)<=100000000000):Za ZIy 79 [.ptr z 0,Zk l] S (WbP S z ob (b++l) (n+8*I l) rest):=by
 obtain⟨bD,hz,hB,u⟩:=hb;refine Zb (cR 79 f79) λF hF=>?_;refine rx @hz ?_;refine Zlw rfl rfl (hB) (by exact Ze3) rfl rfl φ φ (.elems rfl) (by rw[ZIU];omega) (by rw[ZIU];unfold big;omega) (by exact Zdm l) (by exact Ze3) λs1 D1 ad ab t=>?_;have ac:=(t z _ hz u).1;refine gQ @ac ?_;refine⟨ab.cell,?_⟩;refine xA (nd2 @ZIE (nd2 @ZBx @ZIR)) ?_;exact hF.fin (.tup []) _ rfl trivial (ZIB _) ZIz ⟨rfl,ad,⟨D1,by rw[ZIE];rfl,by rw[List.map_append];exact ab.upd (t z _ hz u).2,(t z _ hz u).2⟩,t.wb.upd⟩
def Zjk{S z ob b n rest}(v k:Nat)(hv:v<4611686018427387904)(hk:k<=1000)(hb:Wb S z ob b n rest)(hbo:BOk b n)(hn:n<=100000000000):Za ZIy 78 [.ptr z 0,.i v,.i k] S (WbP S z ob (Zao v k b n) (n+k) rest):=by
 refine Zb (cR 78 f78) λF hF=>?_;refine Ze (fr (k) (λi Q=>∀b1 n1 t S1,Wb S1 z t b1 n1 rest->WbF z S ob S1 t->BOk b1 n1->n1=n+i->Zao v (k-i) b1 n1=Zao v k b n->i<=k->Q [(0,.d (.ptr z 0)),(1,.d (.i v)),(2,.d (.i ((k-i:Nat):Int)))] [] S1) (λn ah=>?_) λbg=>?_)
 .intro i hn2 b1 n1 t S1 am ak u a5 hp hi;have au:=am;obtain⟨bD,ad,ae,ab⟩:=au;refine rg ?_;refine cd (λhd=>?_) (λhd=>?_)
  .simp only[decide_eq_true_eq]at hd;have ag:=ZnN u;refine xA @ad ?_;rw[Int.tmod_eq_emod_of_nonneg (show 0<=(n1:Int) by omega)];refine aa ?_;refine jU [0] (λQ=>∀ap S2,Wb S2 z ap (ZcQ b1 n1) n1 rest->WbF z S ob S2 ap->Q F [(0,.d (.ptr z 0)),(1,.d (.i v)),(2,.d (.i ((k-i:Nat):Int)))] [] S2) ?_ λj1=>?_
   .intro ap S2 bc a0;obtain⟨bD2,ao,ax,ai⟩:=bc;obtain⟨j,hj⟩:∃j,k-i=j+1:=⟨k-i-1,ω⟩;rw[hj,ZrN]at hp;rw[hj,show((j+1:Nat):Int)=(j:Int)+1 by omega];generalize ZcQ b1 n1=b2 at *;cases ax with
    |nil h0 =>have:=congrArg List.length h0;rw[ZIU,ag]at this;simp at this
    |obj x cap X hx hX hc =>
     have al:(b2.map u8C).length=n1 / 8+1:=by rw[ZIU,ag]
     generalize aj:(b2.map u8C).flatten++X=cs at hx;rw[al]at ao;have hqb:n1 / 8<=100000000000:=ω;generalize hqe:n1 / 8=q at *;have a7:((q+1:Nat):Int)-1=(q:Int):=ω;have a4:((j:Int)+1)-1=(j:Int):=ω;have aq:q<I b2:=ω;have az:cs[q*1]?=sO (.int .u8 (b2.getD q dE).toNat):=by rw[<-aj];exact ZBB aq
     have a9:v / 2 ^ j % 2<2:=Nat.mod_lt _ (by decide);have bb:v / 2 ^ j<4611686018427387904:=Nat.lt_of_le_of_lt (Nat.div_le_self _ _) hv;have a8:QE .i64 (v:Int) (j:Int)=((v / 2 ^ j:Nat):Int):=Zwn hv j;have be:IntKind.u8.wrap ((v / 2 ^ j % 2:Nat):Int)=((v / 2 ^ j % 2:Nat):Int):=by rcases(by omega:v / 2 ^ j % 2=0\/v / 2 ^ j % 2=1) with h|h<;>rw[h]<;>rfl
     have ba:(n1:Int).tmod 8=(n1:Int) % 8:=Int.tmod_eq_emod_of_nonneg ω;refine rh ?_;refine YE ?_;simp(maxSteps:=1000000) only[Eqs,reduceCtorEq,ZIF,reduceIte,ZIC,ZIH,ZID,ao,hx,a7,a4,az,a8,ZzY bb,be,ba,ZCQ a9,ZEk];have hpc:=(Zhd n1 (v / 2 ^ j % 2)).toNat_lt;have hcl:q*1+1<=I cs:=by rw[<-aj,ZII,Ze4,ZIU];omega
     generalize v / 2 ^ j=vj at *;refine aa ?_;rw[Nat.mul_one];have ar:=ZzI (X:=X) (b2.getD q dE |||Zhd n1 (vj % 2)) aq;rw[aj]at ar;rw[ar];have av:x≠z:=λe=>ai (by rw[e]);have a6:ZiV b2 n1 (vj % 2)=b2.set q (b2.getD q dE |||Zhd n1 (vj % 2)):=by unfold ZiV;rw[ag,Nat.add_sub_cancel]
     rw[a6]at hp;refine rh ?_;refine Zm ?_;simp only[Eqs,reduceCtorEq,ZIF,reduceIte,ZIC,ZIH,ZID,ZIG _ _ av.symm,ao];refine aa ?_;refine gA ?_;rw[show(j:Int)+1-1=((k-(i+1):Nat):Int) by omega];have ac:∀y,((b2.set q y).map u8C).length=q+1:=λy=>by rw[ZIU,List.length_set,ag]
     have ay:∀o y,Buf ((S2.upd x (.cells (((b2.set q y).map u8C).flatten++X))).upd z o) 1 ((b2.set q y).map u8C) (.msl x 0 (q+1) cap 1) (sO x):=λo y=>by have:=Buf.obj (S:=(S2.upd x (.cells (((b2.set q y).map u8C).flatten++X))).upd z o) (sz:=1) (rows:=(b2.set q y).map u8C) x cap X (by rw[ZIG _ _ av,ZIE]) (by rw[hX,al,ac]) (by rw[ac,<-al];exact hc);rw[ac]at this;exact this
     have a3:∀o,WbF z S2 (sO x) (S2.upd x o) (sO x):=λo y o' hy _ hn=>⟨by rw[ZIG _ _ λe=>hn (by rw[e])];exact hy,hn⟩;refine Zf ?_;exact ah ((k)-(i+1)) ω (i+1) rfl (b2.set q (b2.getD q dE |||Zhd n1 (vj % 2))) (n1+1) (sO x) _ ⟨_,ZIE _ _ _,ay _ _,ai⟩ ((a0.trans (a3 _)).upd) (by unfold BOk;rw[List.length_set];omega) ω (by rw[show k-(i+1)=j by omega];exact hp) ω
   refine cd (λh8=>?_) (λh8=>?_);refine rx @ad ?_;refine Zlw rfl rfl (ae) (by exact Ze3) rfl rfl φ φ (.elems rfl) (by rw[ZIU];simp only[BOk]at u;omega) (by rw[ZIU];simp only[BOk]at u;unfold big;omega) (by exact Zdm [0]) (by exact Ze3) λs1 D1 t ae af=>?_;have bf:=(af z _ ad ab).1;refine gQ @bf ?_;refine⟨ae.cell,?_⟩;have aw:n1 % 8=0:=by simp only[decide_eq_true_eq]at h8;omega
   exact j1 t _ ⟨D1,ZIE _ _ _,by unfold ZcQ;rw[if_pos aw,List.map_append];exact ae.upd (af z _ ad ab).2,(af z _ ad ab).2⟩ (ak.trans af.wb.upd);refine ZK ?_;refine kE [0,1,2] ?_;exact j1 t S1 (by unfold ZcQ;rw[if_neg (by simp only[decide_eq_false_iff_not]at h8;omega)];exact am) ak
  simp only[decide_eq_false_iff_not]at hd;obtain rfl:i=k:=ω;refine ZT rfl ?_;rw[Nat.sub_self,ZrO]at hp;exact hF.fin (.tup []) _ rfl trivial (ZIB _) ZIz ⟨rfl,t,by rw[<-hp,<-a5];exact am,ak⟩
 exact bg _ 0 rfl b n ob S hb .refl hbo rfl rfl ω
def ZsK(c:UInt8):Bool:=dC ((32:Int)<c.toNat)&&dC ((c.toNat:Int)<127)
def Ze2(c:UInt8):Bool:=((dC ((65:Int)<=c.toNat)&&dC ((c.toNat:Int)<=90)) ||(dC ((97:Int)<=c.toNat)&&dC ((c.toNat:Int)<=122)) ||(dC ((48:Int)<=c.toNat)&&dC ((c.toNat:Int)<=57))) ||decide ((c.toNat:Int)=45)
def Zfw(s:Str):Bool:=s.all Ze2&&(dC (1<=(I s:Int))&&dC ((I s:Int)<=32))
def ZpF(c:UInt8):Bool:=dC ((c.toNat:Int)=32) ||ZsK c
def Zj3(t:Str):Bool:=dC (t=[]) ||(!dC (((t.getD 0 0).toNat:Int)=32)&&!dC (((t.getD (I t-1) 0).toNat:Int)=32))
def Zaw(h:Hdr):Bool:=h.text.all ZpF&&(Zfw h.name&&Zj3 h.text)
def Kz(l:List Hdr):Bool:=l.all Zaw&&dC ((I l:Int)<=100)
def ZgY(h:Hdr):Str:=h.name++[58,32]++h.text++[13,10]
def Kd(l:List Hdr):Str:=l.flatMap ZgY++[13,10]
def ZBm(c):ZsK c=(dC ((33:Int)<=c.toNat)&&dC ((c.toNat:Int)<=126)):=by
 unfold ZsK;rw[show dC ((33:Int)<=c.toNat)=dC ((32:Int)<c.toNat) from decide_eq_decide.2 ω,show dC ((c.toNat:Int)<=126)=dC ((c.toNat:Int)<127) from decide_eq_decide.2 ω]
def ZeE{a b c}:Zd ZIy 246 [.int .u8 a,.int .u8 b,.int .u8 c] (.bool (dC (b<=a)&&dC (a<=c))):=by
 refine Zg (cR 246 f246) λF st t=>?_;refine gG ?_;refine rb t ?_;rfl
def Zsh{c}:Zd ZIy 238 [.int .u8 c.toNat] (.bool (Ze2 c)):=by
 refine Zg (cR 238 f238) λF st t=>?_;refine gG ?_;refine cl ZeE ?_;refine cG ZeE ?_;refine cG ZeE ?_;refine rb t ?_;unfold Ze2;rfl
def ZoQ{c}:Zd ZIy 202 [.int .u8 c.toNat] (.bool (ZsK c)):=by
 refine Zg (cR 202 f202) λF st t=>?_;refine gG ?_;refine cl ZeE ?_;refine rb t ?_;rw[ZBm]
def Zqj{c}:Zd ZIy 237 [.int .u8 c.toNat] (.bool (!Ze2 c)):=by
 refine Zg (cR 237 f237) λF st t=>?_;refine gG ?_;refine cl Zsh ?_;refine rb t ?_;rfl
def ZoN(s):Zd ZIy 64 [slD 1 byC s,.fn (.func 237) [] []] (.bool (s.any λc=>!Ze2 c)) :=
 λst=>K7 s (λ_=>st) λi _=> Zqj.VT (first:=[]) (caps:=[]) st
def Zp2{α:Type}(p)(l:List α):l.all p=!(l.any λc=>!p c):=by
 induction l with
 |nil=>rfl
 |cons x r ih=>simp only[List.all_cons,List.any_cons,ih];cases p x<;>simp
def ZtV{s}:Zd ZIy 199 [.str s] (.bool (Zfw s)):=by
 refine Wc (cR 199 f199) λu F st t=>?_;have hs:=(u (.str s) ψ).str_inv;unfold big at hs;refine gG ?_;refine cG (ZoN s) ?_;refine rb t ?_;unfold Zfw;rw[Zp2];generalize (s.any λc=>!Ze2 c)=x;generalize dC (1<=(I s:Int))=y;generalize dC ((I s:Int)<=32)=z;cases x<;>cases y<;>cases z<;>rfl
def Zet(l f p)(sts:Nat->St)(hf:∀i,i<I l->VT ZIy f [.agg (l.getD i dE).cells] (sts i) (.bool (p (l.getD i dE))) (sts (i+1))):
  ZO ZIy 131 [slD 2 Hdr.cells l,f] (sts 0) (.i (Zi p l)) (sts (KJ p l)):=by
 refine ZG (cR 131 f131) λad F t=>?_;have hw:=(Wm (ad (slD 2 Hdr.cells l) ψ)).1;unfold big at hw;clear ad;refine rx @eQ1 ?_;refine rx @eQ1 ?_;refine Ze (fr (I l) (λi Q=>i<=I l->(∀j,j<i->p (l.getD j dE)=false)->Q [(0,.d (slD 2 Hdr.cells l)),(1,.d f),(7,.d (.i (I l))),(8,.d (.i i))] [] (sts i)) (λn ab=>?_) λae=>?_);intro i hn hi u;refine rx @eQ1 ?_;refine Zc (Zl rfl trivial (λh1=>?_) (λh1=>?_));simp at h1;refine rx @eQ1 ?_;refine xA (nd2 @eQ1 @Hdr.cells.eq_1) ?_;refine cW (hf i h1) ?_;refine cd (λh2=>?_) (λh2=>?_);have e1:=W2 h1 h2 u;have e2:=ZaY h1 h2 u;rw[e1,e2]at t;refine rg ?_;exact t rfl φ (ZIB _) ZIz;refine gA ?_;refine Zf ?_;exact ab ((I l)-(i+1)) ω (i+1) rfl ω (Yc (q:=λj=>p (l.getD j dE)=false) u h2);simp at h1;obtain rfl:i=I l:=ω;have ac:∀x∈l,p x=false:=λx hx=>by obtain⟨j,hj,rfl⟩:=ZIV hx;have:=u j hj;simpa[ZIN,hj]using this
 rw[Wp ac,Jf ac]at t;refine rg ?_;exact t rfl φ (ZIB _) ZIz;exact ae _ 0 rfl ω (by intro j hj;omega)
def Jv(l){f p}(sts:Nat->St)(hf:∀i,i<I l->VT ZIy f [.agg (l.getD i dE).cells] (sts i) (.bool (p (l.getD i dE))) (sts (i+1))):
  ZO ZIy 103 [slD 2 Hdr.cells l,f] (sts 0) (.bool (l.any p)) (sts (KJ p l)):=by
 refine ZG (cR 103 f103) λu F t=>?_;clear u;refine gG ?_;refine ct (Zet l f p sts hf) ?_;rw[Ja]at t;exact t rfl φ (ZIB _) ZIz
def Jz(c:UInt8):Bool:=dC ((c.toNat:Int)=32)
def Zc3(s:Str):Str:=s.dropWhile Jz
def Zbh(s:Str):Str:=(s.reverse.dropWhile Jz).reverse
def ZpG{s}(h:Jz (s.getD 0 0)=true)(t:0<I s):Zc3 s=Zc3 (s.drop 1):=by
 cases s with
 |nil=>simp at t
 |cons c r=>simp only[List.getD_cons_zero]at h;simp[Zc3,List.dropWhile_cons,h]
def ZrY{s}(h:(dC (0<(I s:Int))&&Jz (s.getD 0 0))=false):Zc3 s=s:=by
 cases s with
 |nil=>rfl
 |cons c r =>
  simp only[List.getD_cons_zero,ZIP]at h;have u:Jz c=false:=by have t:dC (0<((I r+1:Nat):Int))=true:=decide_eq_true ω;rw[t,ZIY]at h;exact h
  simp[Zc3,List.dropWhile_cons,u]
def ZrA(l)(a:UInt8):(l++[a]).getD ((l++[a]).length-1) 0=a:=by simp[ZIN]
def ZpH{s}(h:Jz (s.getD (I s-1) 0)=true)(t:0<I s):Zbh s=Zbh (s.take (I s-1)):=by
 rcases List.eq_nil_or_concat s with rfl|⟨l,a,rfl⟩;simp at t;rw[List.concat_eq_append]at h⊢;rw[ZrA]at h;simp[Zbh,List.dropWhile_cons,h]
def ZrZ{s}(h:(dC (0<(I s:Int))&&Jz (s.getD (I s-1) 0))=false):Zbh s=s:=by
 rcases List.eq_nil_or_concat s with rfl|⟨l,a,rfl⟩;rfl;rw[List.concat_eq_append]at h⊢;rw[ZrA]at h;have u:Jz a=false:=by have t:dC (0<((l++[a]).length:Int))=true:=decide_eq_true (by rw[ZII,List.length_singleton];omega);rw[t,ZIY]at h;exact h
 simp[Zbh,List.dropWhile_cons,u]
def ZzE(s):(Zbh s).length<=I s:=by
 unfold Zbh;rw[List.length_reverse];exact Nat.le_trans (List.dropWhile_sublist _).length_le ψ
def ZzF(t):dC (Zc3 (Zbh t)=t)=Zj3 t:=by
 have u:∀s:Str,(Zc3 s).length<=I s:=λs=>(List.dropWhile_sublist _).length_le;by_cases ht:t=[];subst ht;rfl;have hp:=List.length_pos_iff.2 ht;have h0:Zj3 t=(!Jz (t.getD 0 0)&&!Jz (t.getD (I t-1) 0)):=by unfold Zj3;rw[decide_eq_false ht,Bool.false_or];rfl
 rw[h0];cases hr:Jz (t.getD (I t-1) 0) with
 |true =>rw[Bool.not_true,Bool.and_false,decide_eq_false];intro h;have h1:=congrArg List.length h;rw[ZpH hr hp]at h1;have h2:=u (Zbh (t.take (I t-1)));have h3:=ZzE (t.take (I t-1));rw[ZIS]at h3;omega
 |false =>
  rw[ZrZ (by rw[hr,Bool.and_false]),Bool.not_false,Bool.and_true];cases hl:Jz (t.getD 0 0) with
  |true =>rw[Bool.not_true,decide_eq_false];intro h;have h1:=congrArg List.length h;rw[ZpG hl hp]at h1;have h2:=u (t.drop 1);rw[ZI8]at h2;omega
  |false=>rw[ZrY (by rw[hl,Bool.and_false])];simp
def Zf7{s}:Zd ZIy 239 [.str s,.int .u8 32] (.str (Zc3 s)):=by
 refine Wc (cR 239 f239) λab F st u=>?_;have hs:=(ab (.str s) ψ).str_inv;unfold big at hs;clear ab;refine rg ?_;refine Zc (Ze ?_);refine lpU (λQ=>∀n (t:Str),I t<=n->I t<=9223372036854775807->Zc3 t=Zc3 s->Q F [(0,.d (.str t)),(1,.d (.int .u8 32))] [] st) ?_ λac=>?_
 .intro n;induction n with
  |zero =>intro t hn hb ht;obtain rfl:t=[]:=List.length_eq_zero_iff.1 ω;refine gA ?_;refine iG ?_;refine rs u ?_;rw[<-ht];rfl
  |succ n ih =>intro t hn hb ht;refine gA ?_;refine cd (λh1=>?_) (λh1=>?_);simp only[ZIJ,decide_eq_true_eq]at h1;refine gA ?_;refine Zr (Zf ?_);rw[show List.take (I t-1) (t.drop 1)=t.drop 1 from List.take_of_length_le ψ];exact ih _ (by rw[ZI8];omega) (by rw[ZI8];omega) (by rw[<-ht];exact(ZpG (decide_eq_true h1.2) ω).symm);refine rg ?_;refine rs u ?_;rw[<-ht];exact(ZrY h1).symm
 exact ac (I s) s (ZIO _) hs rfl
def ZfX(s):Zd ZIy 240 [.str s,.int .u8 32] (.str (Zbh s)):=by
 refine Wc (cR 240 f240) λab F st u=>?_;have hs:=(ab (.str s) ψ).str_inv;unfold big at hs;clear ab;refine rg ?_;refine Zc (Ze ?_);refine lpU (λQ=>∀n (t:Str),I t<=n->I t<=9223372036854775807->Zbh t=Zbh s->Q F [(0,.d (.str t)),(1,.d (.int .u8 32))] [] st) ?_ λac=>?_
 .intro n;induction n with
  |zero =>intro t hn hb ht;obtain rfl:t=[]:=List.length_eq_zero_iff.1 ω;refine gA ?_;refine iG ?_;refine rs u ?_;rw[<-ht];rfl
  |succ n ih =>
   intro t hn hb ht;refine gA ?_;refine cd (λh1=>?_) (λh1=>?_);simp only[ZIJ,decide_eq_true_eq]at h1;rw[show((I t:Int)-1).toNat=I t-1 by omega]at h1;refine gA ?_;refine Zr (Zf ?_);rw[show((I t:Int)-1).toNat=I t-1 by omega];exact ih _ (by rw[ZIS];omega) (by rw[ZIS];omega) (by rw[<-ht];exact(ZpH (decide_eq_true h1.2) ω).symm);have h2:(dC (0<(I t:Int))&&Jz (t.getD (I t-1) 0))=false:=by rw[show((I t:Int)-1).toNat=I t-1 by omega]at h1;exact h1
   refine rg ?_;refine rs u ?_;rw[<-ht];exact(ZrZ h2).symm
 exact ac (I s) s (ZIO _) hs rfl
def ZpD{s}:Zd ZIy 200 [.str s,.str [32]] (.str (Zc3 (Zbh s))):=by
 refine Zg (cR 200 f200) λF st t=>?_;refine gG ?_;refine cd (λh0=>?_) (λh0=>?_);refine rg ?_;have u:s=[]:=by simpa using h0
 subst u;refine rs t ?_;rfl;refine gA ?_;refine i1 ?_;refine gA ?_;refine cl0 (ZfX s) ?_;refine cl0 Zf7 ?_;refine rs t ?_;rfl
def ZoP{c}:Zd ZIy 201 [.int .u8 c.toNat] (.bool (!ZpF c)):=by
 refine Zg (cR 201 f201) λF st t=>?_;refine gG ?_;refine cG ZoQ ?_;refine rb t ?_;unfold ZpF;rw[Bool.not_or]
def ZnA{s}:Zd ZIy 64 [slD 1 byC s,.fn (.func 201) [] []] (.bool (s.any λc=>!ZpF c)) :=
 λst=>K7 s (λ_=>st) λi _=> ZoP.VT (first:=[]) (caps:=[]) st
def Zsi(h:Hdr):Zd ZIy 164 [.agg h.cells] (.bool (Zaw h)):=by
 refine Zg (cR 164 f164) λF st t=>?_;refine rx @Hdr.cells.eq_1 ?_;refine rg ?_;refine clD ZtV ?_;refine cGD ZpD ?_;refine cGD ZnA ?_;refine rb t ?_;rw[ZzF];unfold Zaw;rw[Zp2];generalize (h.text.any λc=>!ZpF c)=x;generalize Zfw h.name=y;generalize Zj3 h.text=z;cases x<;>cases y<;>cases z<;>rfl
def ZoO{h:Hdr}:Zd ZIy 163 [.agg h.cells] (.bool (!Zaw h)):=by
 refine Zg (cR 163 f163) λF st t=>?_;refine rx @Hdr.cells.eq_1 ?_;refine rg ?_;rw[show D.agg [.str h.name,.str h.text]=.agg h.cells from rfl];refine cl (Zsi h) ?_;refine rb t ?_;rfl
def Znz(l):Zd ZIy 103 [slD 2 Hdr.cells l,.fn (.func 163) [] []] (.bool (l.any λc=>!Zaw c)) :=
 λst=>Jv l (λ_=>st) λi _=> ZoO.VT (first:=[]) (caps:=[]) st
def Zg5{L s}(l):qv L s .lenL [.d (Yg l)]=sO (True,.d (.i (I l))):=rfl
def atH{L s}(l i):qv L s (.iaddr 2) [.d (Yg l),.d (.i i)]=sO (0<=i/\i<I l,.d (.ep (l.getD i.toNat dE).cells 0)):=rfl
def Zsg(l):Zd ZIy 112 [Yg l] (.bool (Kz l)):=by
 refine Zg (cR 112 f112) λF st t=>?_;refine rg ?_;refine rx @Zg5 ?_;refine cG (Znz l) ?_;refine rb t ?_;unfold Kz;rw[Zp2];rw[Bool.and_comm]
def Zc4(l:List Hdr):Prop:=∀h∈l,I h.text<=1048576
def ZAA{h:Hdr}(t:Zaw h=true)(ht:I h.text<=1048576):(ZgY h).length<=1048620:=by
 unfold Zaw Zfw at t;simp only[ZIJ,decide_eq_true_eq]at t;unfold ZgY;simp only[ZII,ZIP,List.length_nil];omega
def Zgj(l:List Hdr):Str:=l.flatMap ZgY
def ZyQ{l}(u:∀h∈l,Zaw h=true)(ht:Zc4 l):(Zgj l).length<=I l*1048620:=by
 induction l with
 |nil=>simp[Zgj]
 |cons a r ih =>have h1:=ZAA (u a ψ) (ht a ψ);have h2:=ih (λh t=>u h (by simp[t])) (λh t=>ht h (by simp[t]));unfold Zgj at h2⊢;rw[ZJl,ZII,ZIP,ZIX];omega
def Zw6{l:List Hdr}{i}(h:i<I l):Zgj (l.take (i+1))=Zgj (l.take i)++ZgY (l.getD i dE):=by
 rw[Yo h];simp[Zgj]
def ZAC{l}(u:Kz l=true)(ht:Zc4 l)(i):(Zgj (l.take i)).length<=104862000/\I l<=100:=by
 unfold Kz at u;rw[ZIJ,List.all_eq_true,decide_eq_true_eq]at u;have h1:=ZyQ (l:=l.take i) (λh t=>u.1 h (List.mem_of_mem_take t)) (λh t=>ht h (List.mem_of_mem_take t));rw[ZIS]at h1;have h2:min i (I l)<=100:=ω;have h3:=ZIT 1048620 h2;omega
def ZCk{l}(t:Kz l=true)(ht:Zc4 l){i}(u:i<I l):(l.getD i dE).name.length<=32/\(l.getD i dE).text.length<=1048576:=by
 refine⟨?_,ht _ (ZE u)⟩;unfold Kz at t;rw[ZIJ,List.all_eq_true]at t;have:=t.1 _ (ZE u);unfold Zaw Zfw at this;simp only[ZIJ,decide_eq_true_eq]at this;omega
def Zh7(l:List Hdr):D:=if Kz l then .tup [Zk (Kd l),.i 0] else .tup [.nilsl,.i 2]
def Zel{l}(ht:Zc4 l):Zd ZIy 81 [Yg l] (Zh7 l):=by
 refine Zg (cR 81 f81) λF st t=>?_;have hW:=Zh7.eq_1 l;refine gG ?_;refine cl (Zsg l) ?_;cases hk:Kz l with
 |false =>rw[hk,if_neg ψ]at hW;rw[hW]at t;refine i1 ?_;refine rg ?_;exact t rfl ψ (ZIB _) ZIz
 |true =>
  rw[hk,if_pos rfl]at hW;rw[hW]at t;have hl:=ZAC hk ht;refine iG ?_;refine rx @Zg5 ?_;refine kl (st) [(4,.d (.sl .full 0 1 λ_=>[])),(10,.d (Yg l)),(11,.d (.i (I l))),(12,.d (.i (0:Nat)))] [] (.cons (.d (YU λb h=>by cases h)) Jn) ZbM ?_;refine Ze (fr (I l) (λi Q=>∀tk row o,tk.okIn st->ZX byC row o->o=Zgj (l.take i)->i<=I l->Q [(4,.d (.sl tk (I o) 1 row)),(10,.d (Yg l)),(11,.d (.i (I l))),(12,.d (.i i))] [] (st.own tk (I o*1))) (λn ac=>?_) λag=>?_);intro i hn tk row o htk ad ho hi;have h1:=hl i;rw[<-ho]at h1;refine rg ?_;refine Zc (Zl rfl trivial (λh2=>?_) (λh2=>?_));simp at h2;have h3:=Zw6 h2;have h4:=hl (i+1);have h5:=ZCk hk ht h2;rw[h3,<-ho]at h4;rw[<-ho]at h3;rw[ZII]at h4;generalize hg:l.getD i dE=g at *;refine xA (nd2 @atH (nd2 @hg @Hdr.cells.eq_1)) ?_;refine rg ?_;repeat(refine ZIA (by first|omega|trivial|(intro h0;simp at h0;omega)|(((try simp only[ZII,ZIP,List.length_nil]);unfold big;omega))) ?_)
  have hB:g.name++[58,32]++g.text++[13,10]=ZgY g:=rfl;rw[hB];generalize ZgY g=b at *;refine ZaC (st) (tk) rfl rfl rfl rfl rfl rfl φ φ rfl (by first|trivial|assumption) ω (by (unfold big;omega)) λt1 ae=>Zm ?_;simp only[Eqs,reduceCtorEq,ZIF,reduceIte,ZIC,ZIH,ZID];refine gA ?_;have u:ZX byC (YV (I o) row λi=>[.int .u8 ((b.getD i 0).toNat:Int)]) (o++b):=ad.app ZX.self rfl;have ab:=ac (I l-(i+1)) ω (i+1) rfl t1 _ _ ae u h3.symm ω;rw[ZII]at ab;refine Zf ?_;exact ab;simp at h2;obtain rfl:i=I l:=ω;rw[ZJa]at ho;refine rg ?_;refine ZaC (st) (tk) rfl rfl rfl rfl rfl rfl φ φ rfl (by first|trivial|assumption) (by (simp;omega)) (by (simp;unfold big;omega)) λt1 ae=>Zm ?_;simp only[Eqs,reduceCtorEq,ZIF,reduceIte,ZIC,ZIH,ZID];have u:ZX byC (YV (I o) row λi=>[.int .u8 ((([13,10]:Str).getD i 0).toNat:Int)]) (o++[13,10]):=ad.app ZX.self rfl;have af:Kd l=o++[13,10]:=by rw[ho];rfl
  rw[af]at t;exact t rfl ψ (ZpX rfl (.cons (u.le ψ) (LeC.refl _))) (Y2 ae);exact ag _ 0 rfl .full _ [] trivial ZX.nil rfl ω
def ZAF(f):YB f=(dC (f.kind=1) ||decide (f.kind=2) ||decide (f.kind=3)):=by
 unfold YB;rw[Bool.eq_iff_iff];simp only[ZIJ,ZIW,decide_eq_true_eq];omega
def ZfM(f):Zd ZIy 142 [.agg f.cells] (.bool (YB f)):=by
 refine Zg (cR 142 f142) λF st t=>?_;refine rx @eQ0 ?_;refine rx @eQ0 ?_;refine rb t ?_;exact(ZAF f).symm
def ZkG(f:Fld):(Int×Int)×Int:=if YB f then (KL f,0) else ((0,0),2)
def Zpo(f):Zd ZIy 321 [.agg f.cells] (.tup [Qp (ZkG f).1,.i (ZkG f).2]):=by
 refine Zg (cR 321 f321) λF st t=>?_;have u:=ZkG.eq_1 f;refine rx @eQ0 ?_;refine rx @eQ0 ?_;refine cl (ZfM f) ?_;refine cd (λh1=>?_) (λh1=>?_);rw[if_neg (by simpa using h1)]at u;refine rg ?_;refine t rfl (by first|trivial|simp) (Jy ?_ rfl) ZIz;rw[u];rfl;rw[if_pos (by simpa using h1)]at u;refine rx @eQ0 ?_;refine cd (λh2=>?_) (λh2=>?_);refine rx @eQ0 ?_;refine t rfl (by first|trivial|simp) (Jy ?_ rfl) ZIz;rw[u,KL,if_pos (by simpa using h2)];rfl;refine rx @eQ0 ?_;refine t rfl (by first|trivial|simp) (Jy ?_ rfl) ZIz;rw[u,KL,if_neg (by simpa using h2)];rfl
def JI(fs:List Fld):Nat->ZzU
 |0=>[]
 |i+1=>if YB (fs.getD i dE) then YK (fs.getD i dE).name (KL (fs.getD i dE)) (JI fs i) else JI fs i
def ZfN(fs st):Za ZIy 317 [Zq fs] st λr S=>∃b,st b=nO/\r=.ret (.map b)/\S=st.upd b (.map (Zbx (JI fs (I fs)))):=by
 refine Zbn (cR 317 f317) λac F hF=>?_;have hw:=(Zj8 (ac (Zq fs) ψ)).1;unfold big at hw;clear ac;refine gG ?_;intro b hb;refine rx (nd2 @Zq.eq_1 @eQ1) ?_;refine Ze (fr (I fs) (λi Q=>i<=I fs->Q [(3,.d (.map b)),(9,.d (Zq fs)),(10,.d (.i (I fs))),(11,.d (.i i))] [] (st.upd b (.map (Zbx (JI fs i))))) (λn t=>?_) λae=>?_)
 .intro i hn hi;refine rg ?_;refine Zc (Zl rfl trivial (λh1=>?_) (λh1=>?_))
  .simp at h1;have ab:JI fs (i+1)=if YB (fs.getD i dE) then YK (fs.getD i dE).name (KL (fs.getD i dE)) (JI fs i) else JI fs i:=rfl
   generalize hf:fs.getD i dE=f at *;have hP:=ZkG.eq_1 f;refine xA (nd2 @Zq.eq_1 (nd2 @eQ1 (nd2 @eQ0 @hf))) ?_;refine rx @eQ0 ?_;refine cX @Qp.eq_1 (Zpo f) ?_;refine rg ?_;refine cd (λh2=>?_) (λh2=>?_)
   .have u:YB f=true:=by
     cases hx:YB f with
     |true=>rfl
     |false=>rw[hP,hx]at h2;simp at h2
    rw[if_pos u]at hP ab;have e2:=JU (vD:=Qp) ZP f.name (KL f) (JI fs i);have e3:=YS ZP f.name;simp only[show KG f.name=D.str f.name from rfl,show Qp (KL f)=D.agg [.i (KL f).1,.i (KL f).2] from rfl]at e2 e3;have ad:(ZkG f).1=KL f:=by rw[hP]
    refine rx (nd2 @eQ0 (nd2 @ad (nd2 @e2 (nd2 @e3 (nd2 @ZIE (nd2 @ZIR (nd2 @Yq @Yr))))))) ?_;refine gA ?_;rw[<-ab];refine Zf ?_;exact t ((I fs)-(i+1)) ω (i+1) rfl ω
   have u:YB f=false:=by
    cases hx:YB f with
    |true=>rw[hP,hx]at h2;simp at h2
    |false=>rfl
   rw[if_neg (by rw[u];simp)]at ab;refine gA ?_;rw[<-ab];refine Zf ?_;exact t ((I fs)-(i+1)) ω (i+1) rfl ω
  simp at h1;obtain rfl:i=I fs:=ω;refine rg ?_;exact hF.ret _ _ rfl φ (ZIB _) ZIz ⟨b,hb,rfl,rfl⟩
 exact ae _ 0 rfl ω
def Zf3(l f p)(sts:Nat->St)(hf:∀i,i<I l->VT ZIy f [.agg (l.getD i dE).cells] (sts i) (.bool (p (l.getD i dE))) (sts (i+1))):
  ZO ZIy 44 [slD 2 Msg.cells l,f] (sts 0) (.tup [.i (max (Zi p l) 0),.bool (dC (0<=Zi p l))]) (sts (KJ p l)):=by
 refine ZG (cR 44 f44) λu F t=>?_;clear u;refine gG ?_;refine ct (Zea l f p sts hf) ?_;refine rg ?_;exact t rfl φ (Jy rfl rfl) ZIz
def ZhR(l f p)(sts:Nat->St)(hf:∀i,i<I l->VT ZIy f [.agg (l.getD i dE).cells] (sts i) (.bool (p (l.getD i dE))) (sts (i+1))):
  ZO ZIy 225 [slD 15 Fld.cells l,f] (sts 0) (.tup [.i (max (Zi p l) 0),.bool (dC (0<=Zi p l))]) (sts (KJ p l)):=by
 refine ZG (cR 225 f225) λu F t=>?_;clear u;refine gG ?_;refine ct (QG l f p sts hf) ?_;refine rg ?_;exact t rfl φ (Jy rfl rfl) ZIz
def Zi0(l f p)(sts:Nat->St)(hf:∀i,i<I l->VT ZIy f [.agg (l.getD i dE).cells] (sts i) (.bool (p (l.getD i dE))) (sts (i+1))):
  ZO ZIy 193 [slD 3 Y6.cells l,f] (sts 0) (.tup [.i (max (Zi p l) 0),.bool (dC (0<=Zi p l))]) (sts (KJ p l)):=by
 refine ZG (cR 193 f193) λu F t=>?_;clear u;refine gG ?_;refine ct (ZfT l f p sts hf) ?_;refine rg ?_;exact t rfl φ (Jy rfl rfl) ZIz
def ZnS{x:Msg}(s b){st}(hb:st b=sO (.cells [.str s])):ZO ZIy 45 [.agg x.cells,.ptr b 0] st (.bool (dC (x.name=s))) st:=by
 refine ZG (cR 45 f45) λu F t=>?_;clear u;refine rx @eQ3 ?_;refine rx @hb ?_;exact t rfl φ (ZIB _) ZIz
def Zmj{x:Fld}(s b){st}(hb:st b=sO (.cells [.str s])):ZO ZIy 226 [.agg x.cells,.ptr b 0] st (.bool (dC (x.name=s))) st:=by
 refine ZG (cR 226 f226) λu F t=>?_;clear u;refine rx @eQ0 ?_;refine rx @hb ?_;exact t rfl φ (ZIB _) ZIz
def Zbc(d:Dfn)(s):Zd ZIy 24 [.agg d.cells,.str s] (.tup [.i (max (Zi (λx=>dC (x.name=s)) d.msgs) 0),.bool (dC (0<=Zi (λx=>dC (x.name=s)) d.msgs))]):=by
 refine Zg (cR 24 f24) λF st t=>?_;refine rx @eQ2 ?_;refine Zc ?_;refine xP 3 λb u=>?_;refine rx @eQ2 ?_;refine ct (Zf3 d.msgs (.fn (.func 45) [] [.ptr b 0]) (λx=>dC (x.name=s)) (λ_=>st.upd b (.cells [.str s])) (λi hi=>(ZnS s b (ZIE _ _ _)).VT (first:=[]) (args:=[_]) (caps:=[_]))) ?_;exact t rfl φ (Jy rfl rfl) (ZIZ _ u)
def ZcV(d:Msg)(s):Zd ZIy 183 [.agg d.cells,.str s] (.tup [.i (max (Zi (λx=>dC (x.name=s)) d.fields) 0),.bool (dC (0<=Zi (λx=>dC (x.name=s)) d.fields))]):=by
 refine Zg (cR 183 f183) λF st t=>?_;refine rx @eQ3 ?_;refine Zc ?_;refine xP 3 λb u=>?_;refine rx @eQ3 ?_;refine ct (ZhR d.fields (.fn (.func 226) [] [.ptr b 0]) (λx=>dC (x.name=s)) (λ_=>st.upd b (.cells [.str s])) (λi hi=>(Zmj s b (ZIE _ _ _)).VT (first:=[]) (args:=[_]) (caps:=[_]))) ?_;exact t rfl φ (Jy rfl rfl) (ZIZ _ u)
def ZnR{c:Y6}(tag b){st}(hb:st b=sO (.cells [.i tag])):ZO ZIy 194 [.agg c.cells,.ptr b 0] st (.bool (dC (c.low<=tag)&&dC (tag<=c.high))) st:=by
 refine ZG (cR 194 f194) λu F t=>?_;clear u;refine rx @Y6.cells.eq_1 ?_;refine rx @hb ?_;exact t rfl φ (ZIB _) ZIz
def Zqw(f tag):Zd ZIy 158 [.agg f.cells,.i tag] (.tup [.i (max (J1 f tag) 0),.bool (dC (0<=J1 f tag))]):=by
 refine Zg (cR 158 f158) λF st t=>?_;refine rx @eQ0 ?_;refine Zc ?_;refine xP 3 λb u=>?_;refine rx @eQ0 ?_;refine ct (Zi0 f.cases (.fn (.func 194) [] [.ptr b 0]) (λc=>dC (c.low<=tag)&&dC (tag<=c.high)) (λ_=>st.upd b (.cells [.i tag])) (λi hi=>(ZnR tag b (ZIE _ _ _)).VT (first:=[]) (args:=[_]) (caps:=[_]))) ?_;exact t rfl φ (Jy rfl rfl) (ZIZ _ u)
def Zu3{α:Type}[Inhabited α]{p:α->Bool}{l:List α}{n:Nat}(h:0<=Zi p (l.take n)):Zi p l=Zi p (l.take n):=by
 have t:=Jr h;have u:=WE p (l.take n);rw[ZIS]at u;have h3:=W2 (p:=p) (l:=l) (i:=(Zi p (l.take n)).toNat) ω (by rw[<-QX (n:=n) ω];exact t.1) (λj hj=>by rw[<-QX (n:=n) ω];exact t.2 j hj);omega
def Zw0{d:Dfn}{s:Str}{n:Nat}(h:0<=Zz d s n):Zz d s (I d.msgs)=Zz d s n/\Zz d s n<n/\Zz d s n<I d.msgs:=by
 unfold Zz at *;have t:=WE (λm:Msg=>dC (m.name=s)) (d.msgs.take n);rw[ZIS]at t;refine⟨?_,ω,ω⟩;rw[ZJa];exact Zu3 h
def Zp5{d:Dfn}{at_:Nat}{l:List Msg}{deps:List Int}(h:JP d at_ l deps=nO):(∀i,i<I l->W5 d (at_+i) (l.getD i dE)=nO)/\0<=Zz d d.start (I d.msgs):=by
 induction l generalizing at_ deps with
 |nil =>simp only[JP]at h;split at h;simp at h;exact⟨λi t=>by simp at t,ω⟩
 |cons m r ih =>
  simp only[JP]at h;split at h;simp at h;rename_i hm;split at h;simp at h;have u:=ih h;refine⟨λi t=>?_,u.2⟩;cases i with
  |zero=>simpa using hm
  |succ i =>have:=u.1 i (by simpa using t);simpa[Nat.add_assoc,Nat.add_comm 1 i]using this
structure QP(d:Dfn):Prop where
 many:I d.msgs<=60
 start:0<=Zz d d.start (I d.msgs)
 flaw:∀i,i<I d.msgs->W5 d i (d.msgs.getD i default)=none
def Zr0{d:Dfn}(h:Zf1 d=true):QP d:=by
 unfold Zf1 Zts at h;split at h;simp at h;split at h;simp at h;rename_i t;simp only[ZIW,decide_eq_true_eq,not_or,Nat.not_lt]at t;simp only[Option.isNone_iff_eq_none]at h;have:=Zp5 h;refine⟨ω,this.2,λi u=>by simpa using this.1 i u⟩
def ZoV{s:Str}(h:Wa s=true):I s<=32:=by
 unfold Wa at h;split at h;simp;simp only[ZIJ,decide_eq_true_eq]at h;exact h.1.1
structure ZeA(d:Dfn)(j:Nat)(m:Msg):Prop where
 name:I m.name<=32
 many:I m.fields<=40
 field:∀i,i<I m.fields->Qn d j m i (m.fields.getD i default)=0
def Znx{d:Dfn}{j:Nat}{m:Msg}{k:Nat}{l:List Fld}(h:YM d j m k l=nO):∀i,i<I l->Qn d j m (k+i) (l.getD i dE)=0:=by
 induction l generalizing k with
 |nil=>intro i t;simp at t
 |cons f r ih =>
  simp only[YM]at h;split at h
  .rename_i u;intro i t;cases i with
   |zero=>simpa using u
   |succ i=>have:=ih h i (by simpa using t);simpa[Nat.add_assoc,Nat.add_comm 1 i]using this
  simp at h
def ZAP{d:Dfn}{j:Nat}{m:Msg}(h:W5 d j m=nO):ZeA d j m:=by
 unfold W5 at h;split at h;· simp at h
 rename_i t;split at h;· simp at h
 split at h;· simp at h
 rename_i u;simp only[ZIW,decide_eq_true_eq,not_or,Nat.not_lt]at u;exact⟨ZoV (by simpa using t),ω,λi hi=>by simpa using Znx h i hi⟩
structure ZwB(d:Dfn)(j:Nat)(f:Fld):Prop where
 name:I f.name<=32
 ref:∀s∈Yv f,0<=Zz d s (I d.msgs)/\Zz d s (I d.msgs)<j
 cases:f.cases≠[]->f.kind=9
def Zvv{f:Fld}(h1:1<=f.kind)(h2:f.kind<=12)(h:Zl9 f=true)(u:f.cases≠[]):f.kind=9:=by
 have hk:f.kind=1\/f.kind=2\/f.kind=3\/f.kind=4\/f.kind=5\/f.kind=6\/f.kind=7\/f.kind=8\/f.kind=9\/f.kind=10\/f.kind=11\/f.kind=12:=ω;simp only[Zl9,ZIJ]at h;have t:=h.2.2;rcases hk with hk|hk|hk|hk|hk|hk|hk|hk|hk|hk|hk|hk<;>rw[hk]at t⊢<;>simp[zrC,ZpI,ZxQ,ZcE,u]at t<;>rfl
def ZAq{d:Dfn}{j i:Nat}{m:Msg}{f:Fld}(h:Qn d j m i f=0):ZwB d j f:=by
 have t:=Zrh h;unfold Qn at h;split at h;· omega
 rename_i u;split at h;· omega
 split at h;· omega
 rename_i hk;split at h;· omega
 rename_i hz;simp only[ZIW,decide_eq_true_eq,not_or,Int.not_lt]at hk;refine⟨ZoV (by simpa using u),λs hs=>?_,λhc=>Zvv ω ω (by simpa using hz) hc⟩;have h3:=t.2 s hs;have h4:=Zw0 h3;exact⟨ω,ω⟩
def QP.msg{d:Dfn}(h:QP d){j:Nat}(t:j<I d.msgs):ZeA d j (d.msgs.getD j dE):=ZAP (h.flaw j t)
def QP.fld{d:Dfn}(h:QP d){j i:Nat}(u:j<I d.msgs)(t:i<(d.msgs.getD j dE).fields.length):ZwB d j ((d.msgs.getD j dE).fields.getD i dE):=ZAq ((h.msg u).field i t)
end Go.DL
namespace Go.DL
open Go
variable {kp:Option (List Nat)}{L:Loc}{H:Env}{s:St}{w:World}{os:List DOp}{ds:List D}{B:List (Nat × Rd)}{dst:Option Nat}{tmps:Array Value}{g:G}{Φ:Res->St->Prop}{Z:Nat->Nat}{xs:List Opd}{side:Prop}{row:Nat->List D}
def ixS(d:Dfn)(s:Str):Nat:=(Zz d s (I d.msgs)).toNat
open Go.Proofs
def upS(v of:Int):Int:=((v+of)-1).tdiv of*of
def ZD1{v of}(hv:-2000<=v/\v<=2000)(ho:1<=of/\of<=1000):(-4000<=((v+of)-1).tdiv of/\((v+of)-1).tdiv of<=4000)/\-5000<=upS v of/\upS v of<=5000:=by
 unfold upS;have t:=Int.mul_tdiv_add_tmod (v+of-1) of;have h2:=Int.tmod_lt_of_pos (v+of-1) (show 0<of by omega);have h3:=Int.lt_tmod_of_pos (v+of-1) (show 0<of by omega);rw[Int.mul_comm]at t;generalize (v+of-1).tmod of=r at *;generalize (v+of-1).tdiv of=q at *;have h4:-4000<=q*of/\q*of<=4000:=ω;refine⟨?_,ω⟩;rcases Int.lt_trichotomy q 0 with hq|hq|hq;have:=Int.mul_le_mul_of_nonneg_left (show(1:Int)<=of by omega) (show 0<=-q by omega);simp only[Int.neg_mul,Int.mul_one]at this;omega;omega;have:=Int.mul_le_mul_of_nonneg_left (show(1:Int)<=of by omega) (show 0<=q by omega);omega
def ZuY{v of}(hv:-2000<=v/\v<=2000)(ho:1<=of/\of<=1000):Zd ZIy 114 [.i v,.i of] (.i (upS v of)):=by
 have hb:=ZD1 hv ho;have he:((v+of)-1).tdiv of*of=upS v of:=rfl;refine Zg (cR 114 f114) λF st t=>?_;refine gG ?_;generalize ((v+of)-1).tdiv of=q at *;rw[he];generalize upS v of=u at *;refine aa ?_;refine ri t ?_;rfl
structure Zhn(f:Fld):Prop where
 num:f.kind=1\/f.kind=2->-1000<=f.bits/\f.bits<=1000
 pad:f.kind=10->1<=f.bits/\f.bits<=1000
def ZcO(f:Fld)(o:Int):Int:=if f.kind=1\/f.kind=2 then (o+f.bits).tmod 8 else if f.kind=10 then (upS o f.bits).tmod 8 else 0
def KB(l:List Fld):Nat->Int
 |0=>0
 |i+1=>ZcO (l.getD i dE) (KB l i)
def ZAT{f o}:-8<ZcO f o/\ZcO f o<8:=by
 have h:∀x:Int,-8<x.tmod 8/\x.tmod 8<8:=λx=>⟨Int.lt_tmod_of_pos x (by decide),Int.tmod_lt_of_pos x (by decide)⟩;unfold ZcO;split;exact h _;split;exact h _;omega
def Zwb(l i):-8<KB l i/\KB l i<8:=by
 cases i with
 |zero=>simp[KB]
 |succ i=>exact ZAT
def Znd(f:Fld){o}(ho:-2000<=o/\o<=2000)(hb:-1000<=f.bits/\f.bits<=1000):Zd ZIy 223 [.agg f.cells,.i o] (.i (o+f.bits)):=by
 refine Zg (cR 223 f223) λF st t=>?_;refine rx @eQ0 ?_;refine xA @eQ0 ?_;refine ri t ?_;rfl
def Zne(f:Fld){o}(ho:-2000<=o/\o<=2000)(u:1<=f.bits/\f.bits<=1000):Zd ZIy 224 [.agg f.cells,.i o] (.i (upS o f.bits)):=by
 refine Zg (cR 224 f224) λF st t=>?_;refine rx @eQ0 ?_;refine rx @eQ0 ?_;refine cl (ZuY ho u) ?_;refine ri t ?_;rfl
def Zs9:List (D×D):=[(.i 1,.fn (.func 223) [] []),(.i 2,.fn (.func 223) [] []),(.i 10,.fn (.func 224) [] [])]
def Zhr{st}:Za ZIy 179 [] st λr S=>∃b,st b=nO/\r=.ret (.map b)/\S=st.upd b (.map Zs9):=by
 refine Zb (cR 179 f179) λF t=>?_;refine gG ?_;refine rh ?_;refine Zm ?_;simp only[Eqs,reduceCtorEq,ZIF,reduceIte,ZIC,ZIH,ZID,JL,Kr,Yj,ZIE,ZIR,Yq,Yr,decide_false,ZJg,ite_false];intro b u;exact t.ret _ _ rfl φ (ZIB _) ZIz ⟨b,u,rfl,rfl⟩
def ZbE(k:Int):Bool:=dC (k=1) ||(dC (k=2) ||decide (k=10))
def ZeL(k:Int):D:=if k=1 then .fn (.func 223) [] [] else if k=2 then .fn (.func 223) [] [] else if k=10 then .fn (.func 224) [] [] else .nilfn
def ZoJ(k):ZbD (.sc .int) (.i k) Zs9=sO (if ZbE k then sO (ZeL k) else nO):=by
 simp only[Zs9,ZbD,Kr,Yj,if_true,ZbE,ZeL];by_cases t:k=1;simp[t];by_cases u:k=2;simp[u];by_cases h3:k=10;simp[h3];simp[t,u,h3]
def ZrB(k):Wj .nilfn true (if ZbE k=true then sO (ZeL k) else nO)=.tup [ZeL k,.bool (ZbE k)]:=by
 unfold ZbE ZeL;by_cases t:k=1;simp[t,Wj];by_cases u:k=2;simp[u,Wj];by_cases h3:k=10;simp[h3,Wj];simp[t,u,h3,Wj]
def KK(f:Fld):Bool:=!ZbE f.kind ||f.little
def Zp0(f){st}:ZO ZIy 181 [.agg f.cells] st (.bool (KK f)) st:=by
 refine ZG (cR 181 f181) λab F t=>?_;clear ab;refine rx @eQ0 ?_;refine rx @eQ0 ?_;refine cVD Zhr ?_ ?_;rintro d S ⟨b,hb,hd,rfl⟩;cases hd;refine⟨by simp[Wi,K2,YY,Zam],?_⟩;have u:=ZoJ f.kind;refine gQ (nd2 @u (nd2 @ZIE @ZrB)) ?_;refine rx @eQ0 ?_;exact t rfl φ (by unfold KK;cases ZbE f.kind<;>exact ZIB _) (ZIZ _ hb);rintro d S ⟨b,hb,hd,_⟩;cases hd
def Zxi(l:List Fld)(j:Nat):List D:=[.i j,.i (KB l j)]
def ZdT(l)(hl:I l<=1000)(hb:∀f∈l,Zhn f)(x):Zc6 ZIy (.fn (.func 178) [] [.ptr x 0]) (I l+1) (Zxi l) (ZI0 x (.cells [Zq l])):=by
 intro y go A a0 aj hA hd;refine Za.V (first:=[]) (args:=[y]) (caps:=[.ptr x 0]) (Zb (cR 178 f178) λF hF=>?_);have hx:∀a,Z6 a (ZI0 x (.cells [Zq l]))->(a.or (ZI0 x (.cells [Zq l]))) x=sO (.cells [Zq l]):=λa ap=>by rw[ZJ (ap x _ Yl),Yl]
 generalize hT:ZI0 x (.cells [Zq l])=T at *;refine rg ?_;refine rh ?_;refine Zm ?_;simp only[Eqs,reduceCtorEq,ZIF,reduceIte,ZIC,ZIH,ZID,hx a0 hd,Zq,slD];refine Ze (fr (I l) (λj Q=>∀a,A j a->Z6 a T->(∀i,i<j->go i=.next)->j<=I l->Q [(0,.d y),(1,.d (.ptr x 0)),(3,.d (.i (KB l j))),(8,.d (Zq l)),(9,.d (.i (I l))),(10,.d (.i j))] [] (a.or T)) (λn ad=>?_) λar=>?_)
 .clear hA hd;intro j hn a hA hd ac hj;refine rg ?_;have ae:=(aj j ω ac a hA).frame hd;unfold Zxi at ae;have ho:=Zwb l j;refine Zc (Zl rfl trivial (λh1=>?_) (λh1=>?_))
  .simp at h1;have ao:=hb (l.getD j dE) (by simp[ZIN,h1]);have am:KB l (j+1)=ZcO (l.getD j dE) (KB l j):=rfl;generalize hg:l.getD j dE=g at *;refine xA (nd2 @Zq.eq_1 (nd2 @eQ1 (nd2 @hg @eQ0))) ?_;refine rg ?_;refine vV (ae) ?_ ?_
   .rintro d S ⟨s',⟨hr,u⟩,af,rfl⟩;cases t:go j with
    |next =>
     rw[t]at hr;cases hr;refine gR0 ?_;refine i0 ?_;refine rx @eQ0 ?_;refine cVD Zhr ?_ ?_;rintro d S ⟨b,ag,ak,rfl⟩;cases ak;have aq:=ZoJ g.kind;refine⟨by simp[Wi,K2,YY,Zam],?_⟩;refine gQ (nd2 @aq (nd2 @ZIE @ZrB)) ?_;refine rg ?_;have h8:=Zwb l (j+1);refine cd (λhk=>?_) (λhk=>?_);by_cases ah:g.kind=10;have al:ZeL g.kind=.fn (.func 224) [] []:=by simp[ZeL,ah]
     have ab:(upS (KB l j) g.bits).tmod 8=KB l (j+1):=by rw[am,ZcO,if_neg ω,if_pos ah]
     rw[<-ab]at h8;rw[al];refine rx @eQ0 ?_;refine Zwz rfl rfl rfl rfl rfl φ φ (by exact(Zne g ω (ao.pad ah)).VT (first:=[]) (args:=[_,_]) (caps:=[]) _) (Zm ?_);simp only[Eqs,reduceCtorEq,ZIF,reduceIte,ZIC,ZIH,ZID];refine aa ?_;rw[ab];refine gA ?_;refine KN (ZIZ _ ag) ?_;refine Zf ?_;exact ad ((I l)-(j+1)) ω (j+1) rfl s' u af (Yc (q:=λi=>go i=.next) ac t) ω;have ai:g.kind=1\/g.kind=2:=by simp only[ZbE,ZIW,decide_eq_true_eq]at hk;omega
     have al:ZeL g.kind=.fn (.func 223) [] []:=by rcases ai with h|h<;>simp[ZeL,h]
     have ab:(KB l j+g.bits).tmod 8=KB l (j+1):=by rw[am,ZcO,if_pos ai]
     rw[<-ab]at h8;rw[al];refine rx @eQ0 ?_;refine Zwz rfl rfl rfl rfl rfl φ φ (by exact(Znd g ω (ao.num ai)).VT (first:=[]) (args:=[_,_]) (caps:=[]) _) (Zm ?_);simp only[Eqs,reduceCtorEq,ZIF,reduceIte,ZIC,ZIH,ZID];refine aa ?_;rw[ab];refine gA ?_;refine KN (ZIZ _ ag) ?_;refine Zf ?_;exact ad ((I l)-(j+1)) ω (j+1) rfl s' u af (Yc (q:=λi=>go i=.next) ac t) ω;have ab:(0:Int)=KB l (j+1):=by simp only[ZbE,Bool.or_eq_false_iff,decide_eq_false_iff_not]at hk;rw[am,ZcO,if_neg ω,if_neg ω]
     refine rg ?_;refine gA ?_;rw[show(D.int IntKind.i64 0)=.i (KB l (j+1)) by rw[<-ab]];refine KN (ZIZ _ ag) ?_;refine Zf ?_;exact ad ((I l)-(j+1)) ω (j+1) rfl s' u af (Yc (q:=λi=>go i=.next) ac t) ω;rintro d S ⟨b,ag,ak,_⟩;cases ak
    |stop c =>rw[t]at hr;cases hr;refine gR0 ?_;refine i1 ?_;exact hF.ret (.tup []) _ rfl trivial (ZIB _) ZIz ⟨s',.stop j c ω ac t u,KD⟩
    |pan d=>rw[t]at hr;cases hr
   rintro d S ⟨s',⟨hr,u⟩,af,rfl⟩;cases t:go j with
   |pan d' =>rw[t]at hr;cases hr;exact hF.pan _ ZIz ⟨s',.pan j d ω ac t u,KD⟩
   |next=>rw[t]at hr;cases hr
   |stop c=>rw[t]at hr;cases hr
  simp at h1;obtain rfl:j=I l:=ω;refine rh ?_;refine Zm ?_;simp only[Eqs,reduceCtorEq,ZIF,reduceIte,ZIC,ZIH,ZID,hx a hd,Zq,slD];refine vV (ae) ?_ ?_
  .rintro d S ⟨s',⟨hr,u⟩,af,rfl⟩;cases t:go (I l) with
   |next =>rw[t]at hr;cases hr;refine gR0 ?_;exact hF.fin (.tup []) _ rfl trivial (ZIB _) ZIz ⟨s',.all (Yc (q:=λi=>go i=.next) ac t) u,KD⟩
   |stop c =>rw[t]at hr;cases hr;refine gR0 ?_;exact hF.fin (.tup []) _ rfl trivial (ZIB _) ZIz ⟨s',.stop (I l) c ω ac t u,KD⟩
   |pan d=>rw[t]at hr;cases hr
  rintro d S ⟨s',⟨hr,u⟩,af,rfl⟩;cases t:go (I l) with
  |pan d' =>rw[t]at hr;cases hr;exact hF.pan _ ZIz ⟨s',.pan (I l) d ω ac t u,KD⟩
  |next=>rw[t]at hr;cases hr
  |stop c=>rw[t]at hr;cases hr
 exact ar _ 0 rfl a0 hA hd (by intro i hi;omega) ω
def Zfd(l st):Za ZIy 134 [Zq l] st λr S=>∃x,st x=nO/\r=.ret (.fn (.func 178) [] [.ptr x 0])/\S=st.or (ZI0 x (.cells [Zq l])):=by
 refine Zb (cR 134 f134) λF u=>?_;refine rx (nd2 @Zq.eq_1 @eQ1) ?_;refine Zc ?_;refine xP 1 λx t=>?_;refine rg ?_;exact u.ret _ _ rfl φ (ZIB _) ZIz ⟨x,t,rfl,Qq t⟩
def ZuX(l)(hl:I l<=1000)(hb:∀f∈l,Zhn f)(k:Nat)(hk:k<=I l){st:St}:ZO ZIy 184 [Zq l,.i k] st (.i (KB l k)) st:=by
 refine Zb (cR 184 f184) λF hF=>?_;refine rx (nd2 @Zq.eq_1 @eQ1) ?_;refine rg ?_;rw[show(D.sl .none (I l) 15 λi=>(l.getD i dE).cells)=Zq l from rfl];refine cV (Zfd l st) ?_ ?_
 .rintro d S ⟨x,hx,hd,rfl⟩;cases hd;refine gR0 ?_;refine Ze ?_;refine xP 3 λz3 h3=>?_;refine xP 4 λz4 h4=>?_;have ap:z3≠x:=λe=>by subst e;rw[ZJ hx,Yl]at h3;simp at h3
  have al:st z3=nO:=by
   cases h:st z3 with
   |none=>rfl
   |some o=>rw[Zs h]at h3;simp at h3
  have k4:=Zo h4;have aq:z4≠x:=λe=>by subst e;have:=k4.2;rw[ZJ hx,Yl]at this;simp at this
  have am:st z4=nO:=by
   cases h:st z4 with
   |none=>rfl
   |some o=>have:=k4.2;rw[Zs h]at this;simp at this
  have hA:∀v,∃A:St,A=(st.upd z3 (.cells [.i k])).upd z4 (.cells [.i v])/\A z3=sO (.cells [.i k])/\A z4=sO (.cells [.i v])/\st.sub A/\A x=nO:=λv=>by refine⟨_,rfl,by rw[ZIG _ _ (Ne.symm k4.1)];exact ZIE _ _ _,ZIE _ _ _,ZJh (ZIZ _ al) (ZIZ _ (by rw[ZIG _ _ k4.1];exact am)),?_⟩;rw[ZIG _ _ (Ne.symm aq),ZIG _ _ (Ne.symm ap)];exact hx
  obtain⟨A0,e0,g3,g4,hsub0,ao⟩:=hA 0;obtain⟨A1,e1,g3',aj,ae,hx1⟩:=hA (KB l k);have af:A0.upd z4 (.cells [.i (KB l k)])=A1:=by rw[e0,e1,ZIR]
  have ai:(((st.or (ZI0 x (.cells [Zq l]))).upd z3 (.cells [.i k])).upd z4 (.cells [.i 0]))=A0.or (ZI0 x (.cells [Zq l])):=by
   rw[e0];funext c;by_cases c4:c=z4;subst c4;rw[ZIE,Zs (ZIE _ _ _)];rw[ZIG _ _ c4];by_cases c3:c=z3;subst c3;rw[ZIE,Zs (by rw[ZIG _ _ c4];exact ZIE _ _ _)];rw[ZIG _ _ c3];show(match st c with|some o=>sO o|none=>_)=match ((st.upd z3 _).upd z4 _) c with|some o=>sO o|none=>_
   rw[ZIG _ _ c4,ZIG _ _ c3]
  rw[ai];clear ai hA;refine KT hF rfl trivial [3,4] (by show([3,4]:List Nat).Nodup;decide) (W9 ao) (ZdT l hl hb x).Y (λj hj=>rfl)
   (λj=>if j=k then .stop .ret else .next) (λj a=>(j<=k/\a=A0)\/(k<j/\a=A1)) (.inl ⟨Nat.zero_le _,rfl⟩) ?_ ?_ ?_ ?_ ?_ ?_
  intro j a hj ab hB F' ready busy hdr ah u;have hjk:j<=k:=by refine Nat.le_of_not_lt λh=>?_;have:=ab k h;simp at this
  rcases hB with ⟨_,rfl⟩|⟨h,_⟩
  skip
  simp only[Eqs,reduceCtorEq,ZIF,reduceIte,ZIC,ZIH,ZID,WN,Ki,Jd,Ks,List.isEmpty_nil,List.isEmpty_cons,Zxi];refine gG ?_;refine ah λad=>?_;refine rh ?_;refine Zm ?_;simp only[Eqs,reduceCtorEq,ZIF,reduceIte,ZIC,ZIH,ZID,Zs g3];refine cd (λhc=>?_) (λhc=>?_);have ac:j=k:=by simp at hc;omega
  subst ac;rw[if_pos rfl]at u;refine rh ?_;refine Zm ?_;simp only[Eqs,reduceCtorEq,ZIF,reduceIte,ZIC,ZIH,ZID,Zs g4,Kc];rw[af];exact u.ret ⟨rfl,.inr ⟨ω,rfl⟩⟩ (λb o ag=>by rw[<-af,ZIG _ _ (λe=>by subst e;rw[ad _ o ag]at g4;simp at g4)];exact ad b o ag) ZIz;have ac:j≠k:=by simp at hc;omega
  rw[if_neg ac]at u;refine ZK (Zr ?_);exact u.fin ⟨rfl,.inl ⟨ω,rfl⟩⟩ ad ZIz;omega;intro q a ab hB hq;have:=ab k ω;simp at this;intro q a m hm ab t hB hq;have ak:m=k:=by split at t;assumption;simp at t
  subst ak;rcases hB with ⟨h,_⟩|⟨_,rfl⟩;omega;rw[Qq hq];exact hF.ret1 hq (.i (KB l m)) st (by simp only[Eqs,reduceCtorEq,ZIF,reduceIte,ZIC,ZIH,ZID,YD,Kt,aj];rfl) φ (ZIB _) ae ⟨rfl,rfl⟩;intro q a m id hm ab t;split at t<;>simp at t;intro q a m d hm ab t;split at t<;>simp at t;intro m c t;split at t<;>simp at t;exact .inl t.symm
 rintro d S ⟨x,hx,hd,_⟩;cases hd
def Qr(l:List Fld)(i:Nat):Bool:=if i=I l then !dC (KB l i=0) else !(dC (KB l i=0)||!KK (l.getD i dE))||!(!dC ((l.getD i dE).kind=11) ||decide (KB l (max (Zi (λx=>dC (x.name=(l.getD i dE).from_)) l) 0).toNat=0))
def Znf{st a c o f}(ha:st a=sO (.cells [.i o]))(hc:st c=sO (.cells f.cells)):ZO ZIy 180 [.ptr a 0,.ptr c 0] st (.bool (dC (o=0)||!KK f)) st:=by
 refine ZG (cR 180 f180) λu F t=>?_;clear u;by_cases h0:o=0;subst h0;refine rg ?_;refine rx (nd2 @ha @hc) ?_;refine Jw rfl (e:=.d (.bool false)) (Zm ?_);simp only[Eqs,reduceCtorEq,ZIF,reduceIte,ZIC,ZIH,ZID];exact t rfl ψ (ZIB _) ZIz;have h1:dC (o=0)=false:=decide_eq_false h0;rw[h1,Bool.false_or]at t;refine rg ?_;refine rx (nd2 @ha (nd2 @hc (nd2 @h1 @eQ0))) ?_;refine ZaE rfl rfl rfl rfl rfl φ φ (by exact Zp0 f) (Zm ?_);simp only[Eqs,reduceCtorEq,ZIF,reduceIte,ZIC,ZIH,ZID];exact t rfl ψ (by cases KK f<;>exact ZIB _) ZIz
def okF(l):Kb (Zq l)=true:=rfl
def ceF(l):cellsOf (Zq l)=[Zq l]:=rfl
def Zng{st a c l}(hl:I l<=1000)(hb:∀f∈l,Zhn f){f:Fld}(ha:st a=sO (.cells [Zq l]))(hc:st c=sO (.cells f.cells))(hpos:0<I l):
  ZO ZIy 182 [.ptr a 0,.ptr c 0] st (.bool (!dC (f.kind=11) ||decide (KB l (max (Zi (λx=>dC (x.name=f.from_)) l) 0).toNat=0))) st:=by
 refine ZG (cR 182 f182) λab F t=>?_;clear ab;have hq1:=WE (λx=>dC (x.name=f.from_)) l;have hq0:=ZaQ (λx:Fld=>dC (x.name=f.from_)) l;have u:D.agg [.str [],Zq l]=.agg (Msg.mk [] l).cells:=rfl;refine rg ?_;refine rx (nd2 @ha (nd2 @hc (nd2 @eQ0 (nd2 @okF @ceF)))) ?_;rw[u];refine cl (ZcV ⟨[],l⟩ f.from_) ?_;obtain⟨q,hq⟩:∃q:Nat,max (Zi (λx=>dC (x.name=f.from_)) l) 0=q:=⟨(max (Zi (λx=>dC (x.name=f.from_)) l) 0).toNat,ω⟩;simp only[hq,Int.toNat_natCast]at t⊢;by_cases h0:f.kind=11;have h1:dC (f.kind=11)=true:=decide_eq_true h0;rw[h1,Bool.not_true,Bool.false_or]at t;refine rx (nd2 @ha (nd2 @hc (nd2 @eQ0 @h1))) ?_;refine ZaE rfl rfl rfl rfl rfl φ φ (by exact ZuX l hl hb q ω) (Zm ?_);simp only[Eqs,reduceCtorEq,ZIF,reduceIte,ZIC,ZIH,ZID];exact t rfl ψ (ZIB _) ZIz;have h1:dC (f.kind=11)=false:=decide_eq_false h0;rw[h1,Bool.not_false,Bool.true_or]at t;refine rx (nd2 @ha (nd2 @hc (nd2 @eQ0 @h1))) ?_;refine Jw rfl (e:=.d (.i 0)) (Zm ?_);simp only[Eqs,reduceCtorEq,ZIF,reduceIte,ZIC,ZIH,ZID];exact t rfl ψ (ZIB _) ZIz
def Zfe{c v st}(h:VT ZIy c [] st (.bool v) st):ZO ZIy 186 [c] st (.bool (!v)) st:=by
 refine ZG (cR 186 f186) λu F t=>?_;clear u;refine gG ?_;refine cW (h) ?_;exact t rfl φ (ZIB _) ZIz
structure Ck where
 d:Dfn
 at_:Int
 field:Int
 m:Msg
def Ck.cells(k:Ck)(bd bs:Nat):List D:=[.str k.d.name,YX k.d.msgs,.str k.d.start,.map bd,.map bs,.i k.at_,.i k.field,.str k.m.name,Zq k.m.fields]
structure Qi(st:St)(x bd bs:Nat)(k:Ck)(dl:List (Str×Int))(sl:List (Str×Bool)):Prop where
 x:st x=some (.cells (k.cells bd bs))
 bd:st bd=some (.map (Kh dl))
 bs:st bs=some (.map (ZeC sl))
def Qi.mono{st A x bd bs k dl sl}(h:Qi st x bd bs k dl sl)(t:st.sub A):Qi A x bd bs k dl sl:=⟨t _ _ h.x,t _ _ h.bd,t _ _ h.bs⟩
def ZdR(d:D):Prop:=∃a f c,d=.iface 167 (.agg [.i a,.i f,.i c])
def Wv(ok:Bool)(st:St)(r:Res)(S:St):Prop:=S=st/\if ok then r=.ret (.tup []) else ∃d,ZdR d/\r=.panic d
def YA{ok st S d}(h:Wv ok st (.ret d) S):ok=true/\d=.tup []/\S=st:=by
 obtain⟨u,t⟩:=h;cases ok with
 |true=>simp at t;exact⟨rfl,t,u⟩
 |false=>simp at t
def Yz{ok st S d}(h:Wv ok st (.panic d) S):ok=false/\ZdR d/\S=st:=by
 obtain⟨u,t⟩:=h;cases ok with
 |true=>simp at t
 |false=>simp at t;exact⟨rfl,t,u⟩
def Zbl{ok st}(h:ok=true):Wv ok st (.ret (.tup [])) st:=by subst h;exact⟨rfl,rfl⟩
def Wd{ok st d}(h:ok=false)(t:ZdR d):Wv ok st (.panic d) st:=by subst h;exact⟨rfl,d,t,rfl⟩
def ZiA(a f c:Int):D:=.iface 167 (.agg [.i a,.i f,.i c])
def ZtT{a f c}:ZdR (ZiA a f c):=⟨a,f,c,rfl⟩
def Zgw{x bd bs}{k:Ck}{st}(hx:st x=sO (.cells (k.cells bd bs)))(fine code):Za ZIy 221 [.ptr x 0,.bool fine,.i code] st (λr S=>S=st/\r=if fine then .ret (.tup []) else .panic (ZiA k.at_ k.field code)):=by
 refine Zb (cR 221 f221) λF u=>?_;refine rg ?_;refine cd (λh=>?_) (λh=>?_);have t:fine=false:=by simpa using h
 refine rx (nd2 @hx @Ck.cells.eq_1) ?_;refine Zww rfl rfl rfl trivial ?_;exact u.pan st ZIz ⟨rfl,by rw[t];rfl⟩;have t:fine=true:=by simpa using h
 refine ZK ?_;exact u.fin (.tup []) st rfl trivial (ZIB _) ZIz ⟨rfl,by rw[t];rfl⟩
def ZU{x bd bs}{k:Ck}{st}(hx:st x=sO (.cells (k.cells bd bs)))(fine code):Za ZIy 221 [.ptr x 0,.bool fine,.i code] st (Wv fine st) :=
 (Zgw hx fine code).mono λr S ⟨u,t⟩=>by
  subst u;cases fine with
  |true=>exact⟨rfl,t⟩
  |false=>exact⟨rfl,_,ZtT,t⟩
def ZnK(o:Option Int):Wj (.i 0) true (o.map YR)=.tup [.i (o.getD 0),.bool o.isSome]:=by cases o<;>rfl
def Zo1(o:Option (Int×Int)):Wj (.agg [.i 0,.i 0]) true (o.map Qp)=.tup [.agg [.i (o.getD (0,0)).1,.i (o.getD (0,0)).2],.bool o.isSome]:=by cases o<;>rfl
def ZcW{x bd bs k dl sl st}(hst:Qi st x bd bs k dl sl)(name):Za ZIy 298 [.ptr x 0,.str name] st (Wv (Zp name dl).isSome st):=by
 refine Zb (cR 298 f298) λF hF=>?_;have e1:=YF (vD:=YR) ZP name dl;have e3:=YS ZP name;simp only[show KG name=D.str name from rfl]at e1 e3;refine rh ?_;refine Zm ?_;simp only[Eqs,reduceCtorEq,ZIF,reduceIte,ZIC,ZIH,ZID,hst.x,hst.bd,Ck.cells,e1,e3,ZnK];refine rg ?_;refine cV (ZU hst.x (Zp name dl).isSome 8) ?_ ?_;rintro d S h;obtain⟨t,rfl,rfl⟩:=YA h;refine gR0 ?_;exact hF.fin (.tup []) S rfl trivial (ZIB _) ZIz (Zbl t);rintro d S h;obtain⟨t,u,rfl⟩:=Yz h;exact hF.pan S ZIz (Wd t u)
def QW{x bd bs}{k:Ck}{st}(hx:st x=sO (.cells (k.cells bd bs))){n:Nat}(hn:k.field=n)(hl:n<=I k.m.fields):ZO ZIy 265 [.ptr x 0] st (Zq (k.m.fields.take n)) st:=by
 refine ZG (cR 265 f265) λab F t=>?_;clear ab;refine rg ?_;refine rx (nd2 @hx (nd2 @Ck.cells.eq_1 (nd2 @Zq.eq_1 (nd2 @eQ1 @hn)))) ?_;refine⟨ω,ω,ω,?_⟩;rw[ite_self];have u:ZX Fld.cells (λi=>(k.m.fields.getD i dE).cells) (k.m.fields.take n):=ZX.self.take n;exact t rfl φ (QK (u.le (by rw[ZIS];omega))) ZIz
def Yt:Int->Int->List Int->Bool
 |_,_,[]=>true
 |low,high,n::r=>dC (low<=n)&&dC (n<=high)&&Yt n high r
def ZfO{x bd bs}{k:Ck}{st}(hx:st x=sO (.cells (k.cells bd bs)))(low high l):Za ZIy 285 [.ptr x 0,.i low,.i high,slD 1 inC l] st (Wv (Yt low high l) st):=by
 refine Zbn (cR 285 f285) λab F hF=>?_;have hw:=(Wm (ab (slD 1 inC l) ψ)).1;unfold big at hw;clear ab;refine rx @eQ1 ?_;refine Ze (fr (I l) (λi Q=>∀lo,Yt low high l=Yt lo high (l.drop i)->i<=I l->Q [(0,.d (.ptr x 0)),(1,.d (.i lo)),(2,.d (.i high)),(10,.d (slD 1 inC l)),(11,.d (.i (I l))),(12,.d (.i i))] [] st) (λn t=>?_) λad=>?_);intro i hn lo hS hi;refine rg ?_;refine Zc (Zl rfl trivial (λh1=>?_) (λh1=>?_));simp at h1;rw[Wh h1,Yt]at hS;generalize hv:l.getD i dE=v at *;refine xA (nd2 @eQ1 (nd2 @inC.eq_1 @hv)) ?_;refine rg ?_;refine cV (ZU hx (dC (lo<=v)&&dC (v<=high)) 7) ?_ ?_;rintro d S h;obtain⟨u,rfl,rfl⟩:=YA h;rw[u,ZIY]at hS;refine gR0 ?_;refine rg ?_;refine gA ?_;refine Zf ?_;exact t ((I l)-(i+1)) ω (i+1) rfl v hS ω;rintro d S h;obtain⟨u,ac,rfl⟩:=Yz h;rw[u,ZJb]at hS;exact hF.pan S ZIz (Wd hS ac);simp at h1;obtain rfl:i=I l:=ω;rw[List.drop_length,Yt]at hS;refine ZT rfl ?_;exact hF.fin (.tup []) st rfl trivial (ZIB _) ZIz (Zbl hS);exact ad _ 0 rfl low rfl ω
def ZdA(f:Fld):Bool:=dC (1<=f.bits)&&dC (f.bits<=32)&&(!f.little ||(dC (8<f.bits)&&dC (f.bits.tmod 8=0)))
def ZhQ{x bd bs}{k:Ck}{st}(hx:st x=sO (.cells (k.cells bd bs)))(f):Za ZIy 284 [.ptr x 0,.agg f.cells] st (Wv (ZdA f) st):=by
 refine Zb (cR 284 f284) λF hF=>?_;refine rx @eQ0 ?_;refine rx @eQ0 ?_;have ht1:=Int.tmod_lt_of_pos f.bits (by decide:(0:Int)<8);have ht2:=Int.lt_tmod_of_pos f.bits (by decide:(0:Int)<8);refine⟨λ_=>⟨by decide,ω,ω⟩,?_⟩;refine cV (ZU hx (ZdA f) 6) ?_ ?_;rintro d S h;obtain⟨t,rfl,rfl⟩:=YA h;refine gR0 ?_;exact hF.fin (.tup []) S rfl trivial (ZIB _) ZIz (Zbl t);rintro d S h;obtain⟨t,u,rfl⟩:=Yz h;exact hF.pan S ZIz (Wd t u)
abbrev QD(fs:List Fld):ZzU:=JI fs (I fs)
abbrev ivP(fs:List Fld)(s:ZbN):Int×Int×Int:=JS s λk=>Zp k (QD fs)
def ZcG(fs:List Fld)(t:Yw):Bool:=(Zp t.field (QD fs)).isSome
def ZfR(fs:List Fld)(s:ZbN):Bool:=Z9 s&&(s.terms.all (ZcG fs)&&(dC ((ivP fs s).2.2=0)&&dC (0<=(ivP fs s).1)&&dC ((ivP fs s).2.1<=1048576)))
def ZcX{x bd bs}{k:Ck}{st}(hx:st x=sO (.cells (k.cells bd bs))){n:Nat}(hn:k.field=n)(hl:n<=I k.m.fields)(f:Fld):
  Za ZIy 291 [.ptr x 0,.agg f.cells] st (Wv (ZfR (k.m.fields.take n) f.size) st):=by
 refine Zb (cR 291 f291) λF hF=>?_;have hS:=ZfR.eq_1 (k.m.fields.take n) f.size;generalize ao:k.m.fields.take n=fs at *;refine rx @eQ0 ?_;refine rx @eQ0 ?_;have ah:D.agg [D.int IntKind.i64 f.size.base,Yi f.size.terms]=.agg f.size.cells:=rfl;simp only[ah];refine clD (ZbK f.size) ?_;refine cVD (ZU hx (Z9 f.size) 9) ?_ ?_
 .rintro d S h;obtain⟨hv,rfl,rfl⟩:=YA h;rw[hv,ZIY]at hS;first|refine⟨by first|trivial|exact⟨rfl,rfl,trivial⟩|exact⟨rfl,trivial⟩,?_⟩|skip
  refine gR0 ?_;refine rg ?_;refine tX @ao (QW hx hn hl) ?_;refine cV (ZfN fs S) ?_ ?_
  .rintro d S' ⟨b,hb,hd,rfl⟩;cases hd;refine gR0 ?_;refine Zc (Zc ?_);refine xP 2 λz2 h2=>?_;refine xP 4 λz4 h4=>?_;have k2:=Zo h2;have k4:=Zo h4;have ai:=Zo k4.2;have ar:x≠b:=λe=>by rw[e,hb]at hx;simp at hx
   have ap:x≠z2:=λe=>by rw[e,k2.2]at hx;simp at hx
   have aq:x≠z4:=λe=>by rw[e,ai.2]at hx;simp at hx
   obtain⟨A,hA⟩:∃A,A=((S.upd b (.map (Zbx (JI fs (I fs))))).upd z2 (.cells [.ptr x 0])).upd z4 (.cells [.map b]):=⟨_,rfl⟩;have gx:A x=sO (.cells (k.cells bd bs)):=by rw[hA,ZIG _ _ aq,ZIG _ _ ap,ZIG _ _ ar];exact hx
   have gb:A b=sO (.map (Zbx (QD fs))):=by rw[hA,ZIG _ _ ai.1.symm,ZIG _ _ k2.1.symm];exact ZIE _ _ _
   have g2:A z2=sO (.cells [.ptr x 0]):=by rw[hA,ZIG _ _ k4.1.symm];exact ZIE _ _ _
   have g4:A z4=sO (.cells [.map b]):=by rw[hA];exact ZIE _ _ _
   have ae:S.sub A:=by rw[hA];exact ZJh (ZIZ _ hb) (ZJh (ZIZ _ h2) (ZIZ _ h4))
   rw[<-hA];clear hA h2 h4 k2 k4 ai;refine rx @eQ0 ?_;simp only[ah];have hfew:=Zae hv;refine cV (Zeq f.size hv) ?_ ?_
   .rintro d S' ⟨y,hy,hd,rfl⟩;cases hd;refine gR0 ?_;refine Ze ?_;refine KT hF rfl trivial [2,4] (by show([2,4]:List Nat).Nodup;decide) (W9 hy) (ZcZ f.size.terms (by unfold big;omega) y).Y (λj hj=>rfl)
     (λj=>if ZcG fs (f.size.terms.getD j dE) then .next else .pan (ZiA k.at_ k.field 8)) (λj a=>a=A) rfl ?_ ?_ ?_ ?_ ?_ ?_
    .intro j a hj ac hB F' ready aj hdr al ad;subst hB;simp only[Eqs,reduceCtorEq,ZIF,reduceIte,ZIC,ZIH,ZID,WN,Ki,Jd,Ks,List.isEmpty_nil,List.isEmpty_cons];refine rg ?_;refine al λam=>?_;generalize htm:f.size.terms.getD j dE=tm at *;have e1:=YF (vD:=Qp) ZP tm.field (QD fs);have e3:=YS ZP tm.field;simp only[show KG tm.field=D.str tm.field from rfl]at e1 e3;refine rh ?_;refine Zm ?_;simp only[Eqs,reduceCtorEq,ZIF,reduceIte,ZIC,ZIH,ZID,Zs g4,Zs gb,e1,e3,Zo1];refine rh ?_;refine Zm ?_;simp only[Eqs,reduceCtorEq,ZIF,reduceIte,ZIC,ZIH,ZID,Zs g2];refine cV (Zgw (st:=a.or aj) (Zs gx) (Zp tm.field (QD fs)).isSome 8) ?_ ?_
     .rintro d S' ⟨rfl,h⟩;cases hk:(Zp tm.field (QD fs)).isSome with
      |false=>rw[hk]at h;simp at h
      |true =>rw[hk]at h;simp at h;subst h;refine gR0 ?_;refine Zr ?_;exact ad.fin ⟨by rw[if_pos (show ZcG fs tm=true from hk)],rfl⟩ am ZIz
     rintro d S' ⟨rfl,h⟩;cases hk:(Zp tm.field (QD fs)).isSome with
     |true=>rw[hk]at h;simp at h
     |false =>rw[hk]at h;simp at h;subst h;exact ad.pan ⟨by rw[if_neg (by rw[show ZcG fs tm=false from hk];simp)],rfl⟩ am ZIz
    intro q a ac hB hq;subst hB;have ab:f.size.terms.all (ZcG fs)=true:=by apply List.all_eq_true.2;intro t ht;obtain⟨i,hi,rfl⟩:=ZIV ht;have:=ac i hi;split at this;rename_i h;simpa[ZIN,hi]using h;simp at this
    rw[ab,ZIY]at hS;rw[Qq hq];refine rh ?_;refine Zm ?_;simp only[Eqs,reduceCtorEq,ZIF,reduceIte,ZIC,ZIH,ZID,Zs g4,Fld.cells];simp only[ah];refine cV (ZnW f.size b (QD fs) (Zs gb)) ?_ ?_;rintro d S' ⟨hd,rfl⟩;cases hd;refine gQ @Qp.eq_1 ?_;refine rh ?_;refine Zm ?_;simp only[Eqs,reduceCtorEq,ZIF,reduceIte,ZIC,ZIH,ZID,Zs g2];refine cV (ZU (st:=a.or (ZI0 q .dfr)) (Zs gx) (dC ((ivP fs f.size).2.2=0)&&dC (0<=(ivP fs f.size).1)&&dC ((ivP fs f.size).2.1<=1048576)) 9) ?_ ?_;rintro d S' h;obtain⟨ag,rfl,rfl⟩:=YA h;rw[ag]at hS;refine gR0 ?_;exact hF.fin1 hq (.tup []) S rfl trivial (ZIB _) ae (Zbl hS);rintro d S' h;obtain⟨ag,af,rfl⟩:=Yz h;rw[ag]at hS;exact hF.pan1 hq S ae (Wd hS af);rintro d S' ⟨hd,_⟩;cases hd;intro q a m hm ac u;split at u<;>simp at u;intro q a m id hm ac u;split at u<;>simp at u;intro q a m d hm ac u hB hq;subst hB;rw[Qq hq];have ak:ZcG fs (f.size.terms.getD m dE)=false:=by split at u;simp at u;rename_i h;simpa using h
    have ab:f.size.terms.all (ZcG fs)=false:=by apply List.all_eq_false.2;exact⟨_,ZE hm,by rw[ak];simp⟩
    rw[ab,ZJb]at hS;split at u;simp at u;simp at u;subst u;exact hF.pan1 hq S ae (Wd hS ZtT);intro m c u;split at u<;>simp at u
   rintro d S' ⟨y,hy,hd,_⟩;cases hd
  rintro d S' ⟨b,hb,hd,_⟩;cases hd
 rintro d S h;obtain⟨hv,af,rfl⟩:=Yz h;rw[hv,ZJb]at hS;exact hF.pan S ZIz (Wd hS af)
def Zcu(dl:List (Str×Int))(high:Int):Int->List Y6->Bool
 |_,[]=>true
 |low,c::r=>Yt low high [c.low,c.high]&&((Zp c.of dl).isSome&&Zcu dl high (c.high+1) r)
def ZfY(fs:List Fld)(f:Fld):Bool:=fs.any λo=>dC (o.kind=9)&&dC (o.tag=f.tag)
def ZjL(fs:List Fld)(dl:List (Str×Int))(f:Fld):Bool :=
 ((Zp f.tag (QD fs)).isSome&&!ZfY fs f)&&((dC (1<=(I f.cases:Int))&&dC ((I f.cases:Int)<=40))&&Zcu dl ((Zp f.tag (QD fs)).getD (0,0)).2 ((Zp f.tag (QD fs)).getD (0,0)).1 f.cases)
def Zmk{o:Fld}(f:Fld)(y st)(hy:st y=sO (.cells f.cells)):ZO ZIy 320 [.agg o.cells,.ptr y 0] st (.bool (dC (o.kind=9)&&dC (o.tag=f.tag))) st:=by
 refine ZG (cR 320 f320) λu F t=>?_;clear u;refine rx @eQ0 ?_;refine rx (nd2 @hy @eQ0) ?_;exact t rfl φ (ZIB _) ZIz
def ZzO(a b):ZX inC (ZV [.i 0] ([0,1].zip [.i a,.i b])) [a,b]:=λi t=>by
 match i,t with
 |0,_=>rfl
 |1,_=>rfl
def Zds{x bd bs}{k:Ck}{st}(t:st x=sO (.cells (k.cells bd bs)))(low high a b):Za ZIy 285 [.ptr x 0,.i low,.i high,.sl .full 2 1 (ZV [.i 0] ([0,1].zip [.i a,.i b]))] st (Wv (Yt low high [a,b]) st) :=
 Za.leA (.cons (ZIB _) (.cons (ZIB _) (.cons (ZIB _) (LeC.one ((ZzO a b).le rfl))))) (ZfO t low high [a,b])
def QN{x bd bs}{k:Ck}{st}(t:st x=sO (.cells (k.cells bd bs)))(low high a):Za ZIy 285 [.ptr x 0,.i low,.i high,.sl .full 1 1 (ZV [.i 0] ([0].zip [.i a]))] st (Wv (Yt low high [a]) st) :=
 Za.leA (.cons (ZIB _) (.cons (ZIB _) (.cons (ZIB _) (LeC.one ((ZX.one (f:=inC) (x:=a) rfl).le rfl))))) (ZfO t low high [a])
def Zpp{x bd bs k dl sl st}(hst:Qi st x bd bs k dl sl){n:Nat}(hn:k.field=n)(hl:n<=I k.m.fields)(f)(hR:((Zp f.tag (QD (k.m.fields.take n))).getD (0,0)).2<4611686018427387904):
  Za ZIy 302 [.ptr x 0,.agg f.cells] st (Wv (ZjL (k.m.fields.take n) dl f) st):=by
 refine Zbn (cR 302 f302) λah F hF=>?_;have ai:=(ZDp (s:=f) (ah _ ψ)).cases;clear ah;have hx:=hst.x;have hS:=ZjL.eq_1 (k.m.fields.take n) dl f;generalize ag:k.m.fields.take n=fs at *;have e1:=YF (vD:=Qp) ZP f.tag (QD fs);have e3:=YS ZP f.tag;simp only[show KG f.tag=D.str f.tag from rfl]at e1 e3;refine rx @eQ0 ?_;refine rx @eQ0 ?_;refine tXD @ag (QW hx hn hl) ?_;refine cVD (ZfN fs st) ?_ ?_;rintro d S ⟨b,hb,hd,rfl⟩;cases hd;first|refine⟨by first|trivial|exact⟨rfl,rfl,trivial⟩|exact⟨rfl,trivial⟩,?_⟩|skip
 have hxb:x≠b:=λe=>by rw[e,hb]at hx;simp at hx
 generalize hr:(Zp f.tag (QD fs)).getD (0,0)=r at *;refine Yp ?_;simp only[Eqs,reduceCtorEq,ZIF,reduceIte,ZIC,ZIH,ZID,e1,e3,Zo1,hr,ZIE,ZIR,Yq,Yr];refine Zc ?_;refine xP 3 λy hy=>?_;obtain⟨A,hA⟩:∃A,A=((st.upd b (.map (Zbx (JI fs (I fs))))).upd y (.cells f.cells)):=⟨_,rfl⟩;have ac:st.sub A:=by rw[hA];exact ZJh (ZIZ _ hb) (ZIZ _ hy)
 have gy:A y=sO (.cells f.cells):=by rw[hA];exact ZIE _ _ _
 have ae:=hst.mono ac;have aj:[D.str f.name,D.int IntKind.i64 f.kind,D.int IntKind.i64 f.bits,D.bool f.little,D.bool f.loose,D.int IntKind.i64 f.low,D.int IntKind.i64 f.high,D.int IntKind.i64 f.size.base,Yi f.size.terms,D.str f.of,D.str f.tag,D.str f.from_,WS f.cases,D.int IntKind.i64 f.check,D.int IntKind.i64 f.key]=f.cells:=rfl;rw[aj,<-hA];clear hA hy;refine rg ?_;refine tX @ag (QW ae.x hn hl) ?_;refine ct (Zdt fs (.fn (.func 320) [] [.ptr y 0]) (λo=>dC (o.kind=9)&&dC (o.tag=f.tag)) (λ_=>A) (λi hi=>(Zmk f y A gy).VT (first:=[]) (args:=[_]) (caps:=[_]))) ?_;rw[show(fs.any λo=>dC (o.kind=9)&&dC (o.tag=f.tag))=ZfY fs f from rfl];refine rg ?_;refine cV (ZU ae.x ((Zp f.tag (QD fs)).isSome&&!ZfY fs f) 8) ?_ ?_;rintro d S h;obtain⟨t,rfl,rfl⟩:=YA h;rw[t,ZIY]at hS;refine gR0 ?_;refine rx (nd2 @gy (nd2 @eQ0 (nd2 @WS.eq_1 @eQ1))) ?_;refine cV (ZU ae.x (dC (1<=(I f.cases:Int))&&dC ((I f.cases:Int)<=40)) 3) ?_ ?_;rintro d S2 h;obtain⟨t,rfl,rfl⟩:=YA h;rw[t,ZIY]at hS;simp only[ZIJ,decide_eq_true_eq]at t;refine gR0 ?_;refine rg ?_;refine rx (nd2 @gy (nd2 @eQ0 (nd2 @WS.eq_1 @eQ1))) ?_;refine Ze (fr (I f.cases) (λi Q=>∀lo,Zcu dl r.2 r.1 f.cases=Zcu dl r.2 lo (f.cases.drop i)->i<=I f.cases->Q [(0,.d (.ptr x 0)),(4,.loc 4 0),(7,.d (.i lo)),(45,.d (WS f.cases)),(46,.d (.i (I f.cases))),(47,.d (.i i))] [(4,[.i r.1,.i r.2])] S2) (λn af=>?_) λak=>?_);intro i hni lo hL hi;refine rg ?_;refine Zc (Zl rfl trivial (λh1=>?_) (λh1=>?_));simp at h1;rw[Wh h1,Zcu]at hL;have hcb:-9223372036854775808<=(f.cases.getD i dE).high/\(f.cases.getD i dE).high<=9223372036854775807:=(ai _ (ZE h1)).high;generalize hc:f.cases.getD i dE=c at *;refine xA (nd2 @WS.eq_1 (nd2 @eQ1 (nd2 @Y6.cells.eq_1 @hc))) ?_;refine rx @Y6.cells.eq_1 ?_;refine cV (Zds ae.x lo r.2 c.low c.high) ?_ ?_;rintro d S3 h;obtain⟨ab,rfl,rfl⟩:=YA h;rw[ab,ZIY]at hL;simp only[Yt,Bool.and_true,ZIJ,decide_eq_true_eq]at ab;refine gR0 ?_;refine rx @Y6.cells.eq_1 ?_;refine cV (ZcW ae c.of) ?_ ?_;rintro d S4 h;obtain⟨ad,rfl,rfl⟩:=YA h;rw[ad,ZIY]at hL;refine gR0 ?_;refine xA @Y6.cells.eq_1 ?_;refine gA ?_;refine Zf ?_;exact af ((I f.cases)-(i+1)) ω (i+1) rfl (c.high+1) hL ω;rintro d S4 h;obtain⟨ad,u,rfl⟩:=Yz h;rw[ad,ZJb]at hL;exact hF.pan st ac (Wd (hS.trans hL) u);rintro d S3 h;obtain⟨ab,u,rfl⟩:=Yz h;rw[ab,ZJb]at hL;exact hF.pan st ac (Wd (hS.trans hL) u);simp at h1;obtain rfl:i=I f.cases:=ω;rw[List.drop_length,Zcu]at hL;refine ZT rfl ?_;exact hF.fin (.tup []) st rfl trivial (ZIB _) ac (Zbl (hS.trans hL));exact ak _ 0 rfl r.1 rfl ω;rintro d S2 h;obtain⟨t,u,rfl⟩:=Yz h;rw[t,ZJb]at hS;exact hF.pan st ac (Wd hS u);rintro d S h;obtain⟨t,u,rfl⟩:=Yz h;rw[t,ZJb]at hS;exact hF.pan st ac (Wd hS u);rintro d S ⟨b,hb,hd,_⟩;cases hd
def Ztw(f:Fld):Fld:={ f with bits:=0,little:=false,low:=0,high:=0 }
def Zmm(f y s)(u:s y=sO (.cells f.cells)):ZO ZIy 282 [.ptr y 0] s (.tup []) (s.upd y (.cells (Ztw f).cells)):=by
 refine Zb (cR 282 f282) λF t=>?_;refine rx (nd2 @u (nd2 @eQ0 (nd2 @ZIE (nd2 @ZIR (nd2 @Yq @Yr))))) ?_;exact t.fin (.tup []) _ rfl trivial (ZIB _) ZIz ⟨rfl,rfl⟩
def Ztx(f:Fld):Fld:={ f with bits:=0,little:=false,low:=0 }
def Zmo(f y s)(u:s y=sO (.cells f.cells)):ZO ZIy 286 [.ptr y 0] s (.tup []) (s.upd y (.cells (Ztx f).cells)):=by
 refine Zb (cR 286 f286) λF t=>?_;refine rx (nd2 @u (nd2 @eQ0 (nd2 @ZIE (nd2 @ZIR (nd2 @Yq @Yr))))) ?_;exact t.fin (.tup []) _ rfl trivial (ZIB _) ZIz ⟨rfl,rfl⟩
def Zty(f:Fld):Fld:={ f with loose:=false,low:=0,high:=0 }
def Zmq(f y s)(u:s y=sO (.cells f.cells)):ZO ZIy 288 [.ptr y 0] s (.tup []) (s.upd y (.cells (Zty f).cells)):=by
 refine Zb (cR 288 f288) λF t=>?_;refine rx (nd2 @u (nd2 @eQ0 (nd2 @ZIE (nd2 @ZIR (nd2 @Yq @Yr))))) ?_;exact t.fin (.tup []) _ rfl trivial (ZIB _) ZIz ⟨rfl,rfl⟩
def Zop(f:Fld):Fld:={ f with size:=⟨0,[]⟩ }
def Zms(f y s)(u:s y=sO (.cells f.cells)):ZO ZIy 290 [.ptr y 0] s (.tup []) (s.upd y (.cells (Zop f).cells)):=by
 refine Zb (cR 290 f290) λF t=>?_;refine rx (nd2 @u (nd2 @eQ0 (nd2 @ZIE (nd2 @ZIR (nd2 @Yq @Yr))))) ?_;refine Jk (ds':=(Zop f).cells) (ZIE _ _ _) (.cons (ZIB _) (.cons (ZIB _) (.cons (ZIB _) (.cons (ZIB _) (.cons (ZIB _) (.cons (ZIB _) (.cons (ZIB _) (.cons (ZIB _) (.cons (YU ψ) (.cons (ZIB _) (.cons (ZIB _) (.cons (ZIB _) (.cons (ZIB _) (.cons (ZIB _) (.cons (ZIB _) (.nil)))))))))))))))) ?_;rw[ZIR];exact t.fin (.tup []) _ rfl trivial (ZIB _) ZIz ⟨rfl,rfl⟩
def Ztz(f:Fld):Fld:={ f with low:=0,high:=0 }
def Zmt(f y s)(u:s y=sO (.cells f.cells)):ZO ZIy 292 [.ptr y 0] s (.tup []) (s.upd y (.cells (Ztz f).cells)):=by
 refine Zb (cR 292 f292) λF t=>?_;refine rx (nd2 @u (nd2 @eQ0 (nd2 @ZIE (nd2 @ZIR (nd2 @Yq @Yr))))) ?_;exact t.fin (.tup []) _ rfl trivial (ZIB _) ZIz ⟨rfl,rfl⟩
def ZtA(f:Fld):Fld:={ f with loose:=false,high:=0 }
def ZkQ(f y s)(u:s y=sO (.cells f.cells)):ZO ZIy 294 [.ptr y 0] s (.tup []) (s.upd y (.cells (ZtA f).cells)):=by
 refine Zb (cR 294 f294) λF t=>?_;refine rx (nd2 @u (nd2 @eQ0 (nd2 @ZIE (nd2 @ZIR (nd2 @Yq @Yr))))) ?_;exact t.fin (.tup []) _ rfl trivial (ZIB _) ZIz ⟨rfl,rfl⟩
def Zoq(f:Fld):Fld:={ f with of:=[],size:=⟨0,[]⟩ }
def ZkS(f y s)(u:s y=sO (.cells f.cells)):ZO ZIy 296 [.ptr y 0] s (.tup []) (s.upd y (.cells (Zoq f).cells)):=by
 refine Zb (cR 296 f296) λF t=>?_;refine rx (nd2 @u (nd2 @eQ0 (nd2 @ZIE (nd2 @ZIR (nd2 @Yq @Yr))))) ?_;refine Jk (ds':=(Zoq f).cells) (ZIE _ _ _) (.cons (ZIB _) (.cons (ZIB _) (.cons (ZIB _) (.cons (ZIB _) (.cons (ZIB _) (.cons (ZIB _) (.cons (ZIB _) (.cons (ZIB _) (.cons (YU ψ) (.cons (ZIB _) (.cons (ZIB _) (.cons (ZIB _) (.cons (ZIB _) (.cons (ZIB _) (.cons (ZIB _) (.nil)))))))))))))))) ?_;rw[ZIR];exact t.fin (.tup []) _ rfl trivial (ZIB _) ZIz ⟨rfl,rfl⟩
def ZtB(f:Fld):Fld:={ f with of:=[] }
def ZkU(f y s)(u:s y=sO (.cells f.cells)):ZO ZIy 299 [.ptr y 0] s (.tup []) (s.upd y (.cells (ZtB f).cells)):=by
 refine Zb (cR 299 f299) λF t=>?_;refine rx (nd2 @u (nd2 @eQ0 (nd2 @ZIE (nd2 @ZIR (nd2 @Yq @Yr))))) ?_;exact t.fin (.tup []) _ rfl trivial (ZIB _) ZIz ⟨rfl,rfl⟩
def Zor(f:Fld):Fld:={ f with tag:=[],cases:=[] }
def ZkW(f y s)(u:s y=sO (.cells f.cells)):ZO ZIy 301 [.ptr y 0] s (.tup []) (s.upd y (.cells (Zor f).cells)):=by
 refine Zb (cR 301 f301) λF t=>?_;refine rx (nd2 @u (nd2 @eQ0 (nd2 @ZIE (nd2 @ZIR (nd2 @Yq @Yr))))) ?_;refine Jk (ds':=(Zor f).cells) (ZIE _ _ _) (.cons (ZIB _) (.cons (ZIB _) (.cons (ZIB _) (.cons (ZIB _) (.cons (ZIB _) (.cons (ZIB _) (.cons (ZIB _) (.cons (ZIB _) (.cons (ZIB _) (.cons (ZIB _) (.cons (ZIB _) (.cons (ZIB _) (.cons (YU ψ) (.cons (ZIB _) (.cons (ZIB _) (.nil)))))))))))))))) ?_;rw[ZIR];exact t.fin (.tup []) _ rfl trivial (ZIB _) ZIz ⟨rfl,rfl⟩
def Zp7(f:Fld):Fld:={ f with bits:=0 }
def ZkX(f y s)(u:s y=sO (.cells f.cells)):ZO ZIy 303 [.ptr y 0] s (.tup []) (s.upd y (.cells (Zp7 f).cells)):=by
 refine Zb (cR 303 f303) λF t=>?_;refine rx (nd2 @u (nd2 @eQ0 (nd2 @ZIE (nd2 @ZIR (nd2 @Yq @Yr))))) ?_;exact t.fin (.tup []) _ rfl trivial (ZIB _) ZIz ⟨rfl,rfl⟩
def Zp8(f:Fld):Fld:={ f with from_:=[],check:=0 }
def ZkZ(f y s)(u:s y=sO (.cells f.cells)):ZO ZIy 305 [.ptr y 0] s (.tup []) (s.upd y (.cells (Zp8 f).cells)):=by
 refine Zb (cR 305 f305) λF t=>?_;refine rx (nd2 @u (nd2 @eQ0 (nd2 @ZIE (nd2 @ZIR (nd2 @Yq @Yr))))) ?_;exact t.fin (.tup []) _ rfl trivial (ZIB _) ZIz ⟨rfl,rfl⟩
def ZlF(f:Fld):Fld:={ f with of:=[],size:=⟨0,[]⟩,key:=0 }
def Zk1(f y s)(u:s y=sO (.cells f.cells)):ZO ZIy 307 [.ptr y 0] s (.tup []) (s.upd y (.cells (ZlF f).cells)):=by
 refine Zb (cR 307 f307) λF t=>?_;refine rx (nd2 @u (nd2 @eQ0 (nd2 @ZIE (nd2 @ZIR (nd2 @Yq @Yr))))) ?_;refine Jk (ds':=(ZlF f).cells) (ZIE _ _ _) (.cons (ZIB _) (.cons (ZIB _) (.cons (ZIB _) (.cons (ZIB _) (.cons (ZIB _) (.cons (ZIB _) (.cons (ZIB _) (.cons (ZIB _) (.cons (YU ψ) (.cons (ZIB _) (.cons (ZIB _) (.cons (ZIB _) (.cons (ZIB _) (.cons (ZIB _) (.cons (ZIB _) (.nil)))))))))))))))) ?_;rw[ZIR];exact t.fin (.tup []) _ rfl trivial (ZIB _) ZIz ⟨rfl,rfl⟩
def ck1(f:Fld):Bool:=ZdA f&&Yt 0 (2 ^ f.bits.toNat-1) [f.low,f.high]
def ck2(f:Fld):Bool:=ZdA f&&Yt 0 (2 ^ f.bits.toNat-1) [f.low]
def ck3(f:Fld):Bool:=Yt 0 34359738367 [f.low,f.high]
def ck5(f:Fld):Bool:=Yt 0 255 [f.low]&&Yt 0 1048576 [f.high]
def ck6(f:Fld):Bool:=Yt 2 1048576 [f.high]
def ck7(fs:List Fld)(dl:List (Str×Int))(f:Fld):Bool:=(Zp f.of dl).isSome&&ZfR fs f.size
def ck8(dl:List (Str×Int))(f:Fld):Bool:=(Zp f.of dl).isSome
def ZwN(f:Fld):Bool:=dC (f.bits=2) ||decide (f.bits=4) ||(dC (8<=f.bits)&&dC (f.bits<=512)&&dC (f.bits.tmod 8=0))
def ZwO(fs:List Fld)(f:Fld):Bool:=Yt 1 3 [f.check]&&dC (0<=Zi (λx=>dC (x.name=f.from_)) fs)
def ZwP(fs:List Fld)(sl:List (Str×Bool))(f:Fld):Bool:=Yt 0 4294967295 [f.key]&&((Zp f.of sl).getD false&&ZfR fs f.size)
def ZdX(f:Fld):D.agg [D.str f.name,D.int IntKind.i64 f.kind,D.int IntKind.i64 f.bits,D.bool f.little,D.bool f.loose,D.int IntKind.i64 f.low,D.int IntKind.i64 f.high,D.int IntKind.i64 f.size.base,Yi f.size.terms,D.str f.of,D.str f.tag,D.str f.from_,WS f.cases,D.int IntKind.i64 f.check,D.int IntKind.i64 f.key]=.agg f.cells:=rfl
def Zmn{x bd bs k dl sl st}(hst:Qi st x bd bs k dl sl){n:Nat}(hn:k.field=n)(hl:n<=I k.m.fields)(f):
  Za ZIy 283 [.ptr x 0,.agg f.cells] st (Wv (ck1 f) st):=by
 refine Zb (cR 283 f283) λF hF=>?_;have hS:=ck1.eq_1 f;refine rx @eQ0 ?_;refine rx @eQ0 ?_;simp only[ZdX];refine cV (ZhQ hst.x f) ?_ ?_;rintro d S h;obtain⟨t,rfl,rfl⟩:=YA h;rw[t,ZIY]at hS;first|refine⟨by first|trivial|exact⟨rfl,trivial⟩,?_⟩|skip
 refine gR0 ?_;have hb1:1<=f.bits/\f.bits<=32:=by unfold ZdA at t;simp only[ZIJ,decide_eq_true_eq]at t;exact t.1
 have ab:=ZDW (b:=f.bits) ω ω;have h2p:=ZgI (b:=f.bits) ω ω;refine rx @eQ0 ?_;rw[ab];generalize hpw:(2:Int) ^ f.bits.toNat=pw at *;refine⟨ω,ω,ω,ω,ω,?_⟩;refine cV0 (Zds hst.x 0 (pw-1) f.low f.high) ?_ ?_;rintro d S h;obtain⟨t,rfl,rfl⟩:=YA h;rw[t]at hS;refine gR0 ?_;exact hF.fin (.tup []) _ rfl trivial (ZIB _) ZIz (Zbl hS);rintro d S h;obtain⟨t,u,rfl⟩:=Yz h;rw[t]at hS;exact hF.pan _ ZIz (Wd hS u);rintro d S h;obtain⟨t,u,rfl⟩:=Yz h;rw[t,ZJb]at hS;exact hF.pan _ ZIz (Wd hS u)
def Zmp{x bd bs k dl sl st}(hst:Qi st x bd bs k dl sl){n:Nat}(hn:k.field=n)(hl:n<=I k.m.fields)(f):
  Za ZIy 287 [.ptr x 0,.agg f.cells] st (Wv (ck2 f) st):=by
 refine Zb (cR 287 f287) λF hF=>?_;have hS:=ck2.eq_1 f;refine rx @eQ0 ?_;refine rx @eQ0 ?_;simp only[ZdX];refine cV (ZhQ hst.x f) ?_ ?_;rintro d S h;obtain⟨t,rfl,rfl⟩:=YA h;rw[t,ZIY]at hS;first|refine⟨by first|trivial|exact⟨rfl,trivial⟩,?_⟩|skip
 refine gR0 ?_;have hb1:1<=f.bits/\f.bits<=32:=by unfold ZdA at t;simp only[ZIJ,decide_eq_true_eq]at t;exact t.1
 have ab:=ZDW (b:=f.bits) ω ω;have h2p:=ZgI (b:=f.bits) ω ω;refine rx @eQ0 ?_;rw[ab];generalize hpw:(2:Int) ^ f.bits.toNat=pw at *;refine⟨ω,ω,ω,ω,ω,?_⟩;refine cV0 (QN hst.x 0 (pw-1) f.low) ?_ ?_;rintro d S h;obtain⟨t,rfl,rfl⟩:=YA h;rw[t]at hS;refine gR0 ?_;exact hF.fin (.tup []) _ rfl trivial (ZIB _) ZIz (Zbl hS);rintro d S h;obtain⟨t,u,rfl⟩:=Yz h;rw[t]at hS;exact hF.pan _ ZIz (Wd hS u);rintro d S h;obtain⟨t,u,rfl⟩:=Yz h;rw[t,ZJb]at hS;exact hF.pan _ ZIz (Wd hS u)
def Zmr{x bd bs k dl sl st}(hst:Qi st x bd bs k dl sl){n:Nat}(hn:k.field=n)(hl:n<=I k.m.fields)(f):
  Za ZIy 289 [.ptr x 0,.agg f.cells] st (Wv (ck3 f) st):=by
 refine Zb (cR 289 f289) λF hF=>?_;have hS:=ck3.eq_1 f;refine rx @eQ0 ?_;refine rx @eQ0 ?_;refine cV (Zds hst.x 0 34359738367 f.low f.high) ?_ ?_;rintro d S h;obtain⟨t,rfl,rfl⟩:=YA h;rw[t]at hS;refine gR0 ?_;exact hF.fin (.tup []) _ rfl trivial (ZIB _) ZIz (Zbl hS);rintro d S h;obtain⟨t,u,rfl⟩:=Yz h;rw[t]at hS;exact hF.pan _ ZIz (Wd hS u)
def Zmu{x bd bs k dl sl st}(hst:Qi st x bd bs k dl sl){n:Nat}(hn:k.field=n)(hl:n<=I k.m.fields)(f):
  Za ZIy 293 [.ptr x 0,.agg f.cells] st (Wv (ck5 f) st):=by
 refine Zb (cR 293 f293) λF hF=>?_;have hS:=ck5.eq_1 f;refine rx @eQ0 ?_;refine rx @eQ0 ?_;refine cV (QN hst.x 0 255 f.low) ?_ ?_;rintro d S h;obtain⟨t,rfl,rfl⟩:=YA h;rw[t,ZIY]at hS;first|refine⟨by first|trivial|exact⟨rfl,trivial⟩,?_⟩|skip
 refine gR0 ?_;refine rx @eQ0 ?_;refine cV (QN hst.x 0 1048576 f.high) ?_ ?_;rintro d S h;obtain⟨t,rfl,rfl⟩:=YA h;rw[t]at hS;refine gR0 ?_;exact hF.fin (.tup []) _ rfl trivial (ZIB _) ZIz (Zbl hS);rintro d S h;obtain⟨t,u,rfl⟩:=Yz h;rw[t]at hS;exact hF.pan _ ZIz (Wd hS u);rintro d S h;obtain⟨t,u,rfl⟩:=Yz h;rw[t,ZJb]at hS;exact hF.pan _ ZIz (Wd hS u)
def ZkR{x bd bs k dl sl st}(hst:Qi st x bd bs k dl sl){n:Nat}(hn:k.field=n)(hl:n<=I k.m.fields)(f):
  Za ZIy 295 [.ptr x 0,.agg f.cells] st (Wv (ck6 f) st):=by
 refine Zb (cR 295 f295) λF hF=>?_;have hS:=ck6.eq_1 f;refine rx @eQ0 ?_;refine rx @eQ0 ?_;refine cV (QN hst.x 2 1048576 f.high) ?_ ?_;rintro d S h;obtain⟨t,rfl,rfl⟩:=YA h;rw[t]at hS;refine gR0 ?_;exact hF.fin (.tup []) _ rfl trivial (ZIB _) ZIz (Zbl hS);rintro d S h;obtain⟨t,u,rfl⟩:=Yz h;rw[t]at hS;exact hF.pan _ ZIz (Wd hS u)
def ZkT{x bd bs k dl sl st}(hst:Qi st x bd bs k dl sl){n:Nat}(hn:k.field=n)(hl:n<=I k.m.fields)(f):
  Za ZIy 297 [.ptr x 0,.agg f.cells] st (Wv (ck7 (k.m.fields.take n) dl f) st):=by
 refine Zb (cR 297 f297) λF hF=>?_;have hS:=ck7.eq_1 (k.m.fields.take n) dl f;refine rx @eQ0 ?_;refine rx @eQ0 ?_;refine cV (ZcW hst f.of) ?_ ?_;rintro d S h;obtain⟨t,rfl,rfl⟩:=YA h;rw[t,ZIY]at hS;first|refine⟨by first|trivial|exact⟨rfl,trivial⟩,?_⟩|skip
 refine gR0 ?_;refine rx @eQ0 ?_;simp only[ZdX];refine cV (ZcX hst.x hn hl f) ?_ ?_;rintro d S h;obtain⟨t,rfl,rfl⟩:=YA h;rw[t]at hS;refine gR0 ?_;exact hF.fin (.tup []) _ rfl trivial (ZIB _) ZIz (Zbl hS);rintro d S h;obtain⟨t,u,rfl⟩:=Yz h;rw[t]at hS;exact hF.pan _ ZIz (Wd hS u);rintro d S h;obtain⟨t,u,rfl⟩:=Yz h;rw[t,ZJb]at hS;exact hF.pan _ ZIz (Wd hS u)
def ZkV{x bd bs k dl sl st}(hst:Qi st x bd bs k dl sl){n:Nat}(hn:k.field=n)(hl:n<=I k.m.fields)(f):
  Za ZIy 300 [.ptr x 0,.agg f.cells] st (Wv (ck8 dl f) st):=by
 refine Zb (cR 300 f300) λF hF=>?_;have hS:=ck8.eq_1 dl f;refine rx @eQ0 ?_;refine rx @eQ0 ?_;refine cV (ZcW hst f.of) ?_ ?_;rintro d S h;obtain⟨t,rfl,rfl⟩:=YA h;rw[t]at hS;refine gR0 ?_;exact hF.fin (.tup []) _ rfl trivial (ZIB _) ZIz (Zbl hS);rintro d S h;obtain⟨t,u,rfl⟩:=Yz h;rw[t]at hS;exact hF.pan _ ZIz (Wd hS u)
def ZkY{x bd bs k dl sl st}(hst:Qi st x bd bs k dl sl){n:Nat}(hn:k.field=n)(hl:n<=I k.m.fields)(f):
  Za ZIy 304 [.ptr x 0,.agg f.cells] st (Wv (ZwN f) st):=by
 refine Zb (cR 304 f304) λF hF=>?_;have hS:=ZwN.eq_1 f;refine rx @eQ0 ?_;refine rx @eQ0 ?_;have ht1:=Int.tmod_lt_of_pos f.bits (by decide:(0:Int)<8);have ht2:=Int.lt_tmod_of_pos f.bits (by decide:(0:Int)<8);refine⟨λ_=>⟨by decide,ω,ω⟩,?_⟩;refine cV (ZU hst.x (dC (f.bits=2) ||decide (f.bits=4) ||decide (8<=f.bits)&&dC (f.bits<=512)&&dC (f.bits.tmod 8=0)) 6) ?_ ?_;rintro d S h;obtain⟨t,rfl,rfl⟩:=YA h;rw[t]at hS;refine gR0 ?_;exact hF.fin (.tup []) _ rfl trivial (ZIB _) ZIz (Zbl hS);rintro d S h;obtain⟨t,u,rfl⟩:=Yz h;rw[t]at hS;exact hF.pan _ ZIz (Wd hS u)
def Zk0{x bd bs k dl sl st}(hst:Qi st x bd bs k dl sl){n:Nat}(hn:k.field=n)(hl:n<=I k.m.fields)(f):
  Za ZIy 306 [.ptr x 0,.agg f.cells] st (Wv (ZwO (k.m.fields.take n) f) st):=by
 refine Zb (cR 306 f306) λF hF=>?_;have hS:=ZwO.eq_1 (k.m.fields.take n) f;refine rx @eQ0 ?_;refine rx @eQ0 ?_;refine cV (QN hst.x 1 3 f.check) ?_ ?_;rintro d S h;obtain⟨t,rfl,rfl⟩:=YA h;rw[t,ZIY]at hS;first|refine⟨by first|trivial|exact⟨rfl,trivial⟩,?_⟩|skip
 refine gR0 ?_;refine rx @eQ0 ?_;refine tXD (nd2 @Zq.eq_1 @eQ1) (QW hst.x hn hl) ?_;refine clD ((ZcV ⟨[],k.m.fields.take n⟩ f.from_)) ?_;refine rg ?_;refine cV (ZU hst.x (dC (0<=Zi (λx=>dC (x.name=f.from_)) (k.m.fields.take n))) 8) ?_ ?_;rintro d S h;obtain⟨t,rfl,rfl⟩:=YA h;rw[t]at hS;refine gR0 ?_;exact hF.fin (.tup []) _ rfl trivial (ZIB _) ZIz (Zbl hS);rintro d S h;obtain⟨t,u,rfl⟩:=Yz h;rw[t]at hS;exact hF.pan _ ZIz (Wd hS u);rintro d S h;obtain⟨t,u,rfl⟩:=Yz h;rw[t,ZJb]at hS;exact hF.pan _ ZIz (Wd hS u)
def Zk2{x bd bs k dl sl st}(hst:Qi st x bd bs k dl sl){n:Nat}(hn:k.field=n)(hl:n<=I k.m.fields)(f):
  Za ZIy 308 [.ptr x 0,.agg f.cells] st (Wv (ZwP (k.m.fields.take n) sl f) st):=by
 refine Zb (cR 308 f308) λF hF=>?_;have hS:=ZwP.eq_1 (k.m.fields.take n) sl f;refine rx @eQ0 ?_;refine rx @eQ0 ?_;refine cV (QN hst.x 0 4294967295 f.key) ?_ ?_;rintro d S h;obtain⟨t,rfl,rfl⟩:=YA h;rw[t,ZIY]at hS;first|refine⟨by first|trivial|exact⟨rfl,trivial⟩,?_⟩|skip
 refine gR0 ?_;have e1:=YF (vD:=D.bool) ZP f.of sl;have e3:=YS ZP f.of;simp only[show KG f.of=D.str f.of from rfl]at e1 e3;refine rh ?_;refine YE ?_;simp only[Eqs,reduceCtorEq,ZIF,reduceIte,ZIC,ZIH,ZID,Fld.cells,hst.x,hst.bs,Ck.cells,e1,e3,ZnJ];refine cV0 (ZU hst.x ((Zp f.of sl).getD false) 8) ?_ ?_;rintro d S h;obtain⟨t,rfl,rfl⟩:=YA h;rw[t,ZIY]at hS;first|refine⟨by first|trivial|exact⟨rfl,trivial⟩,?_⟩|skip
 refine gR0 ?_;refine rx @eQ0 ?_;simp only[ZdX];refine cV (ZcX hst.x hn hl f) ?_ ?_;rintro d S h;obtain⟨t,rfl,rfl⟩:=YA h;rw[t]at hS;refine gR0 ?_;exact hF.fin (.tup []) _ rfl trivial (ZIB _) ZIz (Zbl hS);rintro d S h;obtain⟨t,u,rfl⟩:=Yz h;rw[t]at hS;exact hF.pan _ ZIz (Wd hS u);rintro d S h;obtain⟨t,u,rfl⟩:=Yz h;rw[t,ZJb]at hS;exact hF.pan _ ZIz (Wd hS u);rintro d S h;obtain⟨t,u,rfl⟩:=Yz h;rw[t,ZJb]at hS;exact hF.pan _ ZIz (Wd hS u)
def Zy9(f:Fld):List D:=[.str f.name,.str f.of,.str f.tag,.str f.from_,.i f.kind,.i f.bits,.i f.low,.i f.high,.i f.size.base,.i f.check,.i f.key,.bool f.little,.bool f.loose]
def Zgx(f):Zd ZIy 309 [.agg f.cells] (.agg (Zy9 f)):=by
 refine Zg (cR 309 f309) λF st t=>?_;refine rx @eQ0 ?_;refine rx @eQ0 ?_;exact t rfl (by first|trivial|simp) (ZIB _) ZIz
def Zjr(a b:Fld):Zd ZIy 267 [.agg a.cells,.agg b.cells] (.bool (dC (a=b))):=by
 refine Zg (cR 267 f267) λF st af=>?_;refine rx @eQ0 ?_;refine rx @eQ0 ?_;simp only[ZdX];refine clD (Zgx a) ?_;refine cXD @Zy9.eq_1 (Zgx b) ?_;refine cGD (Zi5 a.size.terms b.size.terms) ?_;refine cGD (Zi4 a.cases b.cases) ?_;refine af rfl φ (ZeX ?_) ZIz;rw[Bool.eq_iff_iff];simp only[ZIJ,decide_eq_true_eq];constructor;rintro⟨⟨⟨h1,h2,h3,h4,h5,h6,h7,h8,h9,t,u,ab,ac⟩,ad⟩,ae⟩;obtain⟨n1,k1,b1,l1,o1,lo1,hi1,⟨sb1,st1⟩,of1,t1,f1,c1,ch1,ke1⟩:=a;obtain⟨n2,k2,b2,l2,o2,lo2,hi2,⟨sb2,st2⟩,of2,t2,f2,c2,ch2,ke2⟩:=b;simp only at h1 h2 h3 h4 h5 h6 h7 h8 h9 t u ab ac ad ae;subst h1;subst h2;subst h3;subst h4;subst h5;subst h6;subst h7;subst h8;subst h9;subst t;subst u;subst ab;subst ac;subst ad;subst ae;rfl;rintro rfl;simp
abbrev ZsD(x:Nat×Nat):D:=.agg [.fn (.func x.1) [] [],.fn (.func x.2) [] []]
def ZiL:List (Int×(Nat×Nat)):=[(1,(282,283)),(2,(286,287)),(3,(288,289)),(4,(290,291)),(5,(292,293)),(6,(294,295)),(7,(296,297)),(8,(299,300)),(9,(301,302)),(10,(303,304)),(11,(305,306)),(12,(307,308))]
def Zpq(st):Za ZIy 266 [] st λr S=>∃b,st b=nO/\r=.ret (.map b)/\S=st.upd b (.map (WL YR ZsD ZiL)):=by
 refine Zb (cR 266 f266) λF t=>?_;refine rg ?_;refine rh ?_;refine Zm ?_;simp only[Eqs,reduceCtorEq,ZIF,reduceIte,ZIC,ZIH,ZID,JL,ZJg,decide_false,ZIE,ZIR,Yq,Yr];intro b u;exact t.ret _ _ rfl φ (ZIB _) ZIz ⟨b,u,rfl,rfl⟩
def Ze5(n:Str)(k:Int):Fld:=⟨n,k,0,false,false,0,0,⟨0,[]⟩,[],[],[],[],0,0⟩
def Zfn(f:Fld):Fld :=
 if f.kind=1 then Ztw f else if f.kind=2 then Ztx f else if f.kind=3 then Zty f else if f.kind=4 then Zop f else if f.kind=5 then Ztz f else if f.kind=6 then ZtA f
 else if f.kind=7 then Zoq f else if f.kind=8 then ZtB f else if f.kind=9 then Zor f else if f.kind=10 then Zp7 f else if f.kind=11 then Zp8 f else ZlF f
def Zfj(fs:List Fld)(dl:List (Str×Int))(sl:List (Str×Bool))(f:Fld):Bool :=
 if f.kind=1 then ck1 f else if f.kind=2 then ck2 f else if f.kind=3 then ck3 f else if f.kind=4 then ZfR fs f.size else if f.kind=5 then ck5 f else if f.kind=6 then ck6 f
 else if f.kind=7 then ck7 fs dl f else if f.kind=8 then ck8 dl f else if f.kind=9 then ZjL fs dl f else if f.kind=10 then ZwN f else if f.kind=11 then ZwO fs f else ZwP fs sl f
def Jc(f:Fld):Bool:=dC (1<=f.kind)&&dC (f.kind<=12)
def ZCr{x bd bs k dl sl st}(u:Qi st x bd bs k dl sl){n:Nat}(hn:k.field=n)(hl:n<=I k.m.fields)(f)(hR:((Zp f.tag (QD (k.m.fields.take n))).getD (0,0)).2<4611686018427387904)(hk:Jc f=true):
  ∃c q,Zp f.kind ZiL=sO (c,q)/\(∀y s,s y=sO (.cells f.cells)->ZO ZIy c [.ptr y 0] s (.tup []) (s.upd y (.cells (Zfn f).cells))) /\
   ∀A,st.sub A->Za ZIy q [.ptr x 0,.agg f.cells] A (Wv (Zfj (k.m.fields.take n) dl sl f) A):=by
 unfold Jc at hk;simp only[ZIJ,decide_eq_true_eq]at hk;have t:f.kind=1\/f.kind=2\/f.kind=3\/f.kind=4\/f.kind=5\/f.kind=6\/f.kind=7\/f.kind=8\/f.kind=9\/f.kind=10\/f.kind=11\/f.kind=12:=ω;unfold Zfn Zfj;rcases t with h|h|h|h|h|h|h|h|h|h|h|h<;>simp only[h,ZJg,if_true,if_false];exact⟨_,_,rfl,λy s hy=>Zmm f y s hy,λA hA=>Zmn (u.mono hA) hn hl f⟩;exact⟨_,_,rfl,λy s hy=>Zmo f y s hy,λA hA=>Zmp (u.mono hA) hn hl f⟩;exact⟨_,_,rfl,λy s hy=>Zmq f y s hy,λA hA=>Zmr (u.mono hA) hn hl f⟩;exact⟨_,_,rfl,λy s hy=>Zms f y s hy,λA hA=>ZcX (u.mono hA).x hn hl f⟩;exact⟨_,_,rfl,λy s hy=>Zmt f y s hy,λA hA=>Zmu (u.mono hA) hn hl f⟩;exact⟨_,_,rfl,λy s hy=>ZkQ f y s hy,λA hA=>ZkR (u.mono hA) hn hl f⟩;exact⟨_,_,rfl,λy s hy=>ZkS f y s hy,λA hA=>ZkT (u.mono hA) hn hl f⟩;exact⟨_,_,rfl,λy s hy=>ZkU f y s hy,λA hA=>ZkV (u.mono hA) hn hl f⟩;exact⟨_,_,rfl,λy s hy=>ZkW f y s hy,λA hA=>Zpp (u.mono hA) hn hl f hR⟩;exact⟨_,_,rfl,λy s hy=>ZkX f y s hy,λA hA=>ZkY (u.mono hA) hn hl f⟩;exact⟨_,_,rfl,λy s hy=>ZkZ f y s hy,λA hA=>Zk0 (u.mono hA) hn hl f⟩;exact⟨_,_,rfl,λy s hy=>Zk1 f y s hy,λA hA=>Zk2 (u.mono hA) hn hl f⟩
def ZyX{f}(t:Jc f=false):Zp f.kind ZiL=nO:=by
 rw[ZyM];unfold Jc at t;simp only[Bool.and_eq_false_iff,decide_eq_false_iff_not]at t;simp only[ZiL,ZIQ,ZI9,ZJd,List.not_mem_nil,or_false];omega
def QR(fs:List Fld)(dl:List (Str×Int))(sl:List (Str×Bool))(f:Fld):Bool :=
 Wa f.name&&(!dC (0<=Zi (λx=>dC (x.name=f.name)) fs)&&(Jc f&&(dC (Zfn f=Ze5 f.name f.kind)&&Zfj fs dl sl f)))
def Zml{x bd bs k dl sl st}(hst:Qi st x bd bs k dl sl){n:Nat}(hn:k.field=n)(hl:n<=I k.m.fields)(f)(hR:((Zp f.tag (QD (k.m.fields.take n))).getD (0,0)).2<4611686018427387904):
  Za ZIy 254 [.ptr x 0,.agg f.cells] st (Wv (QR (k.m.fields.take n) dl sl f) st):=by
 refine Zb (cR 254 f254) λF hF=>?_;have hS:=QR.eq_1 (k.m.fields.take n) dl sl f;refine rx @eQ0 ?_;refine rx @eQ0 ?_;refine cl (Za0 f.name) ?_;refine cV (ZU hst.x (Wa f.name) 1) ?_ ?_
 .rintro d S h;obtain⟨ai,rfl,rfl⟩:=YA h;rw[ai,ZIY]at hS;refine gR0 ?_;refine rx @eQ0 ?_;refine tXD (nd2 @Zq.eq_1 @eQ1) (QW hst.x hn hl) ?_;refine clD ((ZcV ⟨[],k.m.fields.take n⟩ f.name)) ?_;refine rg ?_;refine cV (ZU hst.x (!dC (0<=Zi (λx=>dC (x.name=f.name)) (k.m.fields.take n))) 2) ?_ ?_
  .rintro d S2 h;obtain⟨u,rfl,rfl⟩:=YA h;rw[u,ZIY]at hS;refine gR0 ?_;refine rx @eQ0 ?_;refine cVD (Zpq S2) ?_ ?_
   .rintro d S3 ⟨b,hb,hd,rfl⟩;cases hd;refine⟨by first|trivial|exact⟨rfl,trivial⟩,?_⟩;have e1:=YF (vD:=ZsD) Zdk f.kind ZiL;have e3:=YS Zdk f.kind;simp only[show YR f.kind=D.i f.kind from rfl]at e1 e3;have ah:=ZIZ (.map (WL YR ZsD ZiL)) hb;cases ag:Jc f with
    |false =>rw[ag,ZJb]at hS;rw[ZyX ag]at e1;refine gQ (nd2 @e1 (nd2 @e3 (nd2 @ZIE (nd2 @ZIR (nd2 @Yq @Yr))))) ?_;refine rg ?_;refine cV (ZU (hst.mono ah).x false 4) ?_ ?_;rintro d S4 h;exact absurd (YA h).1 ψ;rintro d S4 h;obtain⟨_,t,rfl⟩:=Yz h;exact hF.pan S2 ah (Wd hS t)
    |true =>rw[ag,ZIY]at hS;obtain⟨c,q,hg,af,ae⟩:=ZCr hst hn hl f hR ag;rw[hg]at e1;refine gQ (nd2 @e1 (nd2 @e3 (nd2 @ZIE (nd2 @ZIR (nd2 @Yq @Yr))))) ?_;refine rg ?_;refine cV (ZU (hst.mono ah).x true 4) ?_ ?_;rintro d S4 h;obtain⟨_,rfl,rfl⟩:=YA h;refine gR0 ?_;refine rx @eQ0 ?_;refine Zc ?_;refine xP 7 λy hy=>?_;have aj:[D.str f.name,D.int IntKind.i64 f.kind,D.int IntKind.i64 f.bits,D.bool f.little,D.bool f.loose,D.int IntKind.i64 f.low,D.int IntKind.i64 f.high,D.int IntKind.i64 f.size.base,Yi f.size.terms,D.str f.of,D.str f.tag,D.str f.from_,WS f.cases,D.int IntKind.i64 f.check,D.int IntKind.i64 f.key]=f.cells:=rfl;simp only[aj];have ad:∀o,S2.sub (((S2.upd b (.map (WL YR ZsD ZiL)))).upd y o):=λo=>ZJh ah (ZIZ _ hy);refine rg ?_;refine ct (af y _ (ZIE _ _ _)) ?_;simp only[ZIR];refine rx (nd2 @eQ0 (nd2 @ZIE (nd2 @ZIR (nd2 @Yq @Yr)))) ?_;simp only[ZdX];refine ZaD rfl rfl rfl rfl rfl φ φ (by exact(Zjr (Zfn f) (Ze5 f.name f.kind)).leA (LeC.two (ZIB _) (Zs2 (cs':=(Ze5 f.name f.kind).cells) (.cons (ZIB _) (.cons (ZIB _) (.cons (ZIB _) (.cons (ZIB _) (.cons (ZIB _) (.cons (ZIB _) (.cons (ZIB _) (.cons (ZIB _) (.cons (YU ψ) (.cons (ZIB _) (.cons (ZIB _) (.cons (ZIB _) (.cons (YU ψ) (.cons (ZIB _) (.cons (ZIB _) .nil)))))))))))))))))) (Zm ?_);simp only[Eqs,reduceCtorEq,ZIF,reduceIte,ZIC,ZIH,ZID];refine cV (ZU (hst.mono (ad _)).x (dC (Zfn f=Ze5 f.name f.kind)) 5) ?_ ?_;rintro d S5 h;obtain⟨ab,rfl,rfl⟩:=YA h;rw[ab,ZIY]at hS;refine gR0 ?_;refine rx @eQ0 ?_;simp only[ZdX];refine cV (ae _ (ad _)) ?_ ?_;rintro d S6 h;obtain⟨ac,rfl,rfl⟩:=YA h;rw[ac]at hS;refine gR0 ?_;exact hF.fin (.tup []) S2 rfl trivial (ZIB _) (ad _) (Zbl hS);rintro d S6 h;obtain⟨ac,t,rfl⟩:=Yz h;rw[ac]at hS;exact hF.pan S2 (ad _) (Wd hS t);rintro d S5 h;obtain⟨ab,t,rfl⟩:=Yz h;rw[ab,ZJb]at hS;exact hF.pan S2 (ad _) (Wd hS t);rintro d S4 h;exact absurd (Yz h).1 ψ
   rintro d S3 ⟨b,hb,hd,_⟩;cases hd
  rintro d S2 h;obtain⟨u,t,rfl⟩:=Yz h;rw[u,ZJb]at hS;exact hF.pan _ ZIz (Wd hS t)
 rintro d S h;obtain⟨ai,t,rfl⟩:=Yz h;rw[ai,ZJb]at hS;exact hF.pan _ ZIz (Wd hS t)
def ddS(l:List Str):List Str:=l.foldl Zcn []
def ZuW(l t:List Str):∃r,l.foldl Zcn t=t++r:=by
 induction l generalizing t with
 |nil=>exact⟨[],ψ⟩
 |cons x r ih =>obtain⟨q,u⟩:=ih (Zcn t x);rw[List.foldl_cons,u];unfold Zcn;split;exact⟨q,rfl⟩;exact⟨[x]++q,ψ⟩
def ZtF{l:List Str}{i}(h:i<I l):ddS (l.take (i+1))=Zcn (ddS (l.take i)) (l.getD i dE):=by
 unfold ddS;rw[Yo h,List.foldl_append];rfl
def ZvM{l s}:s∈ddS l↔s∈l:=by unfold ddS;rw[ZhF];simp
def ZB9(l i):∃r,ddS l=ddS (l.take i)++r:=by
 conv=>enter [1,r];lhs;rw[<-List.take_append_drop i l]
 unfold ddS;rw[List.foldl_append];exact ZuW _ _
def ZDm{l i}(h:i<I l)(hn:l.getD i dE∉l.take i):(ddS (l.take i)).length<(ddS l).length/\(ddS l).getD (ddS (l.take i)).length dE=l.getD i dE/\(ddS (l.take (i+1))).length=(ddS (l.take i)).length+1:=by
 have t:=ZtF h;have hm:l.getD i dE∉ddS (l.take i):=λhm=>hn (ZvM.1 hm);rw[Zcn,if_neg hm]at t;obtain⟨r,u⟩:=ZB9 l (i+1);rw[t]at u;refine⟨by rw[u];simp,by rw[u];simp[ZIN],by rw[t];simp⟩
def ZAi{l:List Str}{i}(h:i<I l)(t:l.getD i dE∈l.take i):ddS (l.take (i+1))=ddS (l.take i):=by
 rw[ZtF h,Zcn,if_pos (ZvM.2 t)]
def ZjY(l:List Str)(i)(h:i<=I l){tk s}:Zd ZIy 269 [.sl tk i 1 (λi=>[.str (l.getD i dE)]),.str s] (.bool (dC (s∈l.take i))):=by
 have t:ZX Zb1 (λi=>[.str (l.getD i dE)]) (l.take i):=(ZX.self (f:=Zb1) (l:=l)).take i;exact(ZeR (l.take i) s).leA (LeC.two (t.le (by rw[ZIS];omega)) (ZIB _))
def ZkO(l)(hl:I l<=big)(x):Zc6 ZIy (.fn (.func 268) [] [.ptr x 0]) (ddS l).length (λj=>[.str ((ddS l).getD j dE)]) (ZI0 x (.cells [Zbe l])):=by
 intro y go A a0 af hA hd;have hw:=hl;unfold big at hw;refine Za.V (first:=[]) (args:=[y]) (caps:=[.ptr x 0]) (Zb (cR 268 f268) λF hF=>?_);have hx:∀a,Z6 a (ZI0 x (.cells [Zbe l]))->(a.or (ZI0 x (.cells [Zbe l]))) x=sO (.cells [Zbe l]):=λa ai=>by rw[ZJ (ai x _ Yl),Yl]
 generalize hT:ZI0 x (.cells [Zbe l])=T at *;refine rh ?_;refine Zm ?_;simp only[Eqs,reduceCtorEq,ZIF,reduceIte,ZIC,ZIH,ZID,hx a0 hd,Zbe,slD];refine Ze (fr (I l) (λi Q=>∀a,A (ddS (l.take i)).length a->Z6 a T->(∀j,j<(ddS (l.take i)).length->go j=.next)->i<=I l->Q [(0,.d y),(1,.d (.ptr x 0)),(5,.d (Zbe l)),(6,.d (.i (I l))),(7,.d (.i i))] [] (a.or T)) (λn ab=>?_) λaj=>?_)
 .clear hA hd;intro i hn a hA hd u hi;refine rg ?_;refine Zc (Zl rfl trivial (λh1=>?_) (λh1=>?_))
  .simp at h1;by_cases hm:l.getD i dE∈l.take i;have ah:=ZAi h1 hm;refine xA (nd2 @Zbe.eq_1 @eQ1) ?_;refine rh ?_;refine Zm ?_;simp only[Eqs,reduceCtorEq,ZIF,reduceIte,ZIC,ZIH,ZID,hx a hd,Zbe,slD];refine aa ?_;refine ZaD rfl rfl rfl rfl rfl φ φ (by exact ZjY l i ω) (Zm ?_);simp only[Eqs,reduceCtorEq,ZIF,reduceIte,ZIC,ZIH,ZID,decide_eq_true hm];refine Jw rfl (e:=.d (.bool false)) (Zm ?_);simp only[Eqs,reduceCtorEq,ZIF,reduceIte,ZIC,ZIH,ZID];refine i0 ?_;refine gA ?_;refine Zf ?_;exact ab ((I l)-(i+1)) ω (i+1) rfl a (by rw[ah];exact hA) hd (by rw[ah];exact u) ω;have ac:=ZDm h1 hm;refine xA (nd2 @Zbe.eq_1 @eQ1) ?_;refine rh ?_;refine Zm ?_;simp only[Eqs,reduceCtorEq,ZIF,reduceIte,ZIC,ZIH,ZID,hx a hd,Zbe,slD];refine aa ?_;refine ZaD rfl rfl rfl rfl rfl φ φ (by exact ZjY l i ω) (Zm ?_);simp only[Eqs,reduceCtorEq,ZIF,reduceIte,ZIC,ZIH,ZID,decide_eq_false hm];have ad:=(af _ ac.1 u a hA).frame hd;simp only[ac.2.1]at ad;refine vV (ad) ?_ ?_
   .rintro d S ⟨s',⟨hr,ae⟩,ag,rfl⟩;cases t:go (ddS (l.take i)).length with
    |next =>rw[t]at hr;cases hr;refine gR0 ?_;refine i0 ?_;refine gA ?_;refine Zf ?_;exact ab ((I l)-(i+1)) ω (i+1) rfl s' (by rw[ac.2.2];exact ae) ag (by rw[ac.2.2];exact Yc (q:=λi=>go i=.next) u t) ω
    |stop c =>rw[t]at hr;cases hr;refine gR0 ?_;refine i1 ?_;exact hF.ret (.tup []) _ rfl trivial (ZIB _) ZIz ⟨s',.stop _ c ac.1 u t ae,KD⟩
    |pan d=>rw[t]at hr;cases hr
   rintro d S ⟨s',⟨hr,ae⟩,ag,rfl⟩;cases t:go (ddS (l.take i)).length with
   |pan d' =>rw[t]at hr;cases hr;exact hF.pan _ ZIz ⟨s',.pan _ d ac.1 u t ae,KD⟩
   |next=>rw[t]at hr;cases hr
   |stop c=>rw[t]at hr;cases hr
  simp at h1;obtain rfl:i=I l:=ω;rw[ZJa]at hA u;refine ZT rfl ?_;exact hF.fin (.tup []) _ rfl trivial (ZIB _) ZIz ⟨a,.all u hA,KD⟩
 exact aj _ 0 rfl a0 hA hd (by intro i hi;simp[ddS]at hi) ω
def ZnT(m:Msg)(hb:(m.fields.flatMap Yv).length<=1000000){st}:Za ZIy 255 [.agg m.cells] st λr S=>∃x,st x=nO/\r=.ret (.fn (.func 268) [] [.ptr x 0])/\S=st.or (ZI0 x (.cells [Zbe (m.fields.flatMap Yv)])):=by
 refine Zbn (cR 255 f255) λal F hF=>?_;have hw:=(Zy3 (s:=m) (al _ ψ)).nfields;have ap:=(Zy3 (s:=m) (al _ ψ)).fields;unfold big at hw;clear al;refine rx @eQ3 ?_;refine rg ?_;refine rx (nd2 @eQ3 (nd2 @Zq.eq_1 @eQ1)) ?_;refine Ze ?_;refine kl (st) [(3,.loc 3 0),(9,.d (Zq m.fields)),(10,.d (.i (I m.fields))),(11,.d (.i (0:Nat)))] [(3,[.sl .full 0 1 λ_=>[]])] Jn (.cons (.cons (YU ψ) .nil) .nil) ?_;refine fr (I m.fields) (λi Q=>∀tk row t,tk.okIn st->ZX (λs=>[.str s]) row t->t=(m.fields.take i).flatMap Yv->i<=I m.fields->Q [(3,.loc 3 0),(9,.d (Zq m.fields)),(10,.d (.i (I m.fields))),(11,.d (.i i))] [(3,[.sl tk (I t) 1 row])] (st.own tk (I t*1))) (λn ae=>?_) λar=>?_;intro i hn tk row t ag u ad hi;refine rg ?_;refine Zc (Zl rfl trivial (λh1=>?_) (λh1=>?_));simp at h1;have af:=Zmg m.fields i h1;have ac:=Zjq m.fields (i+1);rw[af,ZII,<-ad]at ac;have aq:=(ap _ (ZE h1)).ncases;unfold big at aq;generalize hf:m.fields.getD i dE=f at *;refine xA (nd2 @Zq.eq_1 (nd2 @eQ1 (nd2 @eQ0 @hf))) ?_;refine rx @eQ0 ?_;refine rg ?_;refine jU [0] (λQ=>∀bb:Bool,bb=(dC (f.kind=7) ||(dC (f.kind=8) ||decide (f.kind=12)))->Q F [(3,.loc 3 0),(5,.loc 5 0),(9,.d (Zq m.fields)),(10,.d (.int .i64 (I m.fields))),(11,.d (.int .i64 i)),(16,.d (.int .i64 f.kind)),(17,.d (.bool bb))] [(3,[.sl tk (I t) 1 row]),(5,f.cells)] (st.own tk (I t*1))) ?_ λjn=>?_;intro bb ai;refine cd (λh3=>?_) (λh3=>?_);have aj:Yv f=[f.of]:=by
  subst h3;have h9:¬f.kind=9:=by intro e;rw[e]at ai;simp at ai
  unfold Yv ZaX;rw[<-ai,if_pos rfl,if_neg h9,ZI5]
 rw[aj]at af ac;simp only[ZIP,List.length_nil]at ac;refine rx @eQ0 ?_;refine ZaC (st) (tk) rfl rfl rfl rfl rfl rfl φ φ rfl (by first|trivial|assumption) ω (by (unfold big;omega)) λt1 ak=>Zm ?_;simp only[Eqs,reduceCtorEq,ZIF,reduceIte,ZIC,ZIH,ZID];refine gA ?_;refine Zf ?_;have ab:=ae ((I m.fields)-(i+1)) ω (i+1) rfl t1 _ (t++[f.of]) ak (u.snoc (x:=f.of) (row2:=ZV [.str []] ([0].zip [.str f.of])) rfl rfl) (by rw[af,ad]) ω;rw[ZII]at ab;exact ab;have aj:Yv f=if f.kind=9 then f.cases.map (·.of) else []:=by subst h3;unfold Yv ZaX;rw[<-ai,if_neg ψ,List.nil_append]
 rw[aj]at af ac;refine rg ?_;refine cd (λh4=>?_) (λh4=>?_);have h9:f.kind=9:=by simpa using h4
 rw[if_pos h9]at af ac;simp only[ZIU]at ac;refine rx (nd2 @eQ0 (nd2 @WS.eq_1 @eQ1)) ?_;refine Ze (fr (I f.cases) (λq Q=>∀tk row o,tk.okIn st->ZX (λs=>[.str s]) row o->o=t++(f.cases.take q).map (·.of)->q<=I f.cases->Q [(3,.loc 3 0),(9,.d (Zq m.fields)),(10,.d (.i (I m.fields))),(11,.d (.i i)),(29,.d (WS f.cases)),(30,.d (.i (I f.cases))),(31,.d (.i q))] [(3,[.sl tk (I o) 1 row])] (st.own tk (I o*1))) (λn ah=>?_) λao=>?_);clear u ag;intro q hnq tk row o ag u ho hq;have hol:I o=I t+q:=by rw[ho];simp;omega
 refine rg ?_;refine Zc (Zl rfl trivial (λh5=>?_) (λh5=>?_));simp at h5;have am:(f.cases.take (q+1)).map (·.of)=(f.cases.take q).map (·.of)++[(f.cases.getD q dE).of]:=by rw[Yo h5,List.map_append];rfl
 generalize hc:f.cases.getD q dE=c at *;refine xA (nd2 @WS.eq_1 (nd2 @eQ1 (nd2 @Y6.cells.eq_1 @hc))) ?_;refine rx @Y6.cells.eq_1 ?_;refine ZaC (st) (tk) rfl rfl rfl rfl rfl rfl φ φ rfl (by first|trivial|assumption) ω (by (unfold big;omega)) λt1 ak=>Zm ?_;simp only[Eqs,reduceCtorEq,ZIF,reduceIte,ZIC,ZIH,ZID];refine gA ?_;refine Zf ?_;have ab:=ah ((I f.cases)-(q+1)) ω (q+1) rfl t1 _ (o++[c.of]) ak (u.snoc (x:=c.of) (row2:=ZV [.str []] ([0].zip [.str c.of])) rfl rfl) (by rw[am,ho,ZI1]) ω;rw[ZII]at ab;exact ab;simp at h5;obtain rfl:q=I f.cases:=ω;rw[ZJa]at ho;refine gA ?_;refine Zf ?_;exact ae ((I m.fields)-(i+1)) ω (i+1) rfl tk row o ag u (by rw[af,ho,ad]) ω;exact ao _ 0 rfl tk row t ag u ψ ω;have h9:¬f.kind=9:=by simpa using h4
 rw[if_neg h9,ZI5]at af;refine ZK ?_;refine gA ?_;refine Zf ?_;exact ae ((I m.fields)-(i+1)) ω (i+1) rfl tk row t ag u (by rw[af,ad]) ω;refine cd (λh2=>?_) (λh2=>?_);refine ZK ?_;refine jn _ ?_;rw[h2,Bool.true_or];refine rg ?_;refine cd (λh3=>?_) (λh3=>?_);refine ZK ?_;refine jn _ ?_;rw[h2,h3];rfl;refine rg ?_;refine jn _ ?_;rw[h2,h3];rfl;simp at h1;obtain rfl:i=I m.fields:=ω;rw[ZJa]at ad;refine ZT rfl (Zc ?_);refine kl (st) [(3,.loc 3 0),(9,.d (Zq m.fields)),(10,.d (.i (I m.fields))),(11,.d (.i (I m.fields))),(12,.d (.bool (dC ((I m.fields:Int)<I m.fields))))] [(3,[Zbe t])] Jn (.cons (.cons (u.le rfl) .nil) .nil) ?_;refine xP 3 λx hx=>?_;refine rg ?_;exact hF.ret _ _ rfl φ (ZIB _) ZIz ⟨x,hx,rfl,by rw[<-ad];exact Qq hx⟩;exact ar _ 0 rfl .full _ [] trivial ZX.nil rfl ω
def Kl(dl:List (Str×Int))(m:Msg):Int:=(Ko m).foldl (λa s=>max a ((Zp s dl).getD 0)) 0
def Ju(sl:List (Str×Bool))(m:Msg):Bool:=(m.fields.all λf=>!f.loose)&&(Ko m).all λs=>(Zp s sl).getD false
def QL(dl:List (Str×Int))(sl:List (Str×Bool))(m:Msg)(n:Nat):Bool:=(ZIM n).all λi=>QR (m.fields.take i) dl sl (m.fields.getD i dE)
def Zen(dl:List (Str×Int))(sl:List (Str×Bool))(m:Msg):Bool :=
 Wa m.name&&(!(Zp m.name dl).isSome&&((dC (1<=(I m.fields:Int))&&dC ((I m.fields:Int)<=40))&&(QL dl sl m (I m.fields)&&dC (Kl dl m<16))))
def ZpQ:Int:=4611686018427387904
def Zqf{fs dl sl f}(h:QR fs dl sl f=true)(u:YB f=true):(KL f).2<ZpQ:=by
 unfold QR at h;simp only[ZIJ]at h;have t:=h.2.2.2.2;unfold YB at u;simp only[ZIJ,decide_eq_true_eq]at u;have hk:f.kind=1\/f.kind=2\/f.kind=3:=ω;unfold Zfj at t;unfold KL ZpQ;rcases hk with hk|hk|hk<;>simp only[hk,ZJg,if_true,if_false]at t⊢;unfold ck1 ZdA at t;simp only[Yt,ZIJ,decide_eq_true_eq,Bool.and_true]at t;have:=ZgI (b:=f.bits) ω ω;generalize (2:Int) ^ f.bits.toNat=pw at *;omega;unfold ck2 ZdA at t;simp only[Yt,ZIJ,decide_eq_true_eq,Bool.and_true]at t;have:=ZgI (b:=f.bits) ω ω;generalize (2:Int) ^ f.bits.toNat=pw at *;omega;unfold ck3 at t;simp only[Yt,ZIJ,decide_eq_true_eq,Bool.and_true]at t;omega
def Zxn{t i}(h:∀j,j<i->YB (t.getD j dE)=true->(KL (t.getD j dE)).2<ZpQ)(k):((Zp k (JI t i)).getD (0,0)).2<ZpQ:=by
 induction i with
 |zero=>simp[JI,Zp,ZpQ]
 |succ i ih =>have u:=ih λj hj=>h j ω;simp only[JI];split;rename_i hn;rw[WU];split;exact h i ω hn;exact u;exact u
def Zsf{dl sl m i}(h:QL dl sl m i=true)(hi:i<=I m.fields)(k):((Zp k (QD (m.fields.take i))).getD (0,0)).2<4611686018427387904:=by
 refine Zxn (λj u t=>?_) k;rw[ZIS]at u;rw[QX ω]at t⊢;exact Zqf (List.all_eq_true.1 h j (by simp;omega)) t
def Zsd{u dl sl f}(h:QR u dl sl f=true):(Yv f).length<=41:=by
 unfold QR at h;simp only[ZIJ]at h;have t:=h.2.2.2.2;unfold Yv;rw[ZII];have h1:(ZaX f).length<=1:=by unfold ZaX;split<;>simp
 split;rename_i h9;unfold Zfj at t;simp only[h9,ZJg,if_true,if_false]at t;unfold ZjL at t;simp only[ZIJ,decide_eq_true_eq]at t;simp only[ZIU];omega;simp;omega
def ZtO{dl sl m}(h:QL dl sl m (I m.fields)=true)(hm:I m.fields<=40):(m.fields.flatMap Yv).length<=1000000:=by
 have t:∀l:List Fld,(∀f∈l,(Yv f).length<=41)->(l.flatMap Yv).length<=41*I l:=by
  intro l;induction l with
  |nil=>simp
  |cons x r ih =>intro hx;have:=ih λf u=>hx f (by simp[u]);have:=hx x ψ;simp only[ZJl,ZII,ZIP];omega
 have:=t m.fields λf u=>by obtain⟨i,hi,rfl⟩:=ZIV u;have:=Zsd (List.all_eq_true.1 h i (by simpa using hi));simpa[ZIN,hi]using this
 omega
def Zj7{dl sl m i}:QL dl sl m (i+1)=(QL dl sl m i&&QR (m.fields.take i) dl sl (m.fields.getD i dE)):=by
 unfold QL;rw[List.range_succ,List.all_append];simp
def Zse{dl sl m i n}(t:i<n)(h:QR (m.fields.take i) dl sl (m.fields.getD i dE)=false):QL dl sl m n=false :=
 List.all_eq_false.2 ⟨i,by simpa using t,by rw[h];simp⟩
def Qi.ne{st x bd bs k dl sl}(h:Qi st x bd bs k dl sl):x≠bd/\x≠bs :=
 ⟨λe=>by have:=h.x;rw[e,h.bd]at this;simp at this,λe=>by have:=h.x;rw[e,h.bs]at this;simp at this⟩
def Qi.updX{st x bd bs k dl sl}(h:Qi st x bd bs k dl sl)(k'):Qi (st.upd x (.cells (k'.cells bd bs))) x bd bs k' dl sl :=
 ⟨ZIE _ _ _,by rw[ZIG _ _ h.ne.1.symm];exact h.bd,by rw[ZIG _ _ h.ne.2.symm];exact h.bs⟩
def Zfa(ok:Bool)(st:St)(x bd bs:Nat)(k:Ck)(dl:List (Str×Int))(sl:List (Str×Bool))(r:Res)(S:St):Prop :=
 if ok then r=.ret (.tup [])/\S=((st.upd x (.cells (k.cells bd bs))).upd bd (.map (Kh dl))).upd bs (.map (ZeC sl)) else (∃d,ZdR d/\r=.panic d)/\∀b,b≠x->b≠bd->b≠bs->S b=st b
def Zv8{ok st x bd bs k dl sl d c}(h:ok=false)(u:ZdR d):Zfa ok st x bd bs k dl sl (.panic d) (st.upd x (.cells c)):=by
 subst h;exact⟨⟨d,u,rfl⟩,λb t _ _=>ZIG _ _ t⟩
def Zrf{K V}[DecidableEq K]{kp t}{vD:V->D}(h:ZlB kp t)(k:K)(z:D)(l:List (K×V)):Zek kp (t k) z (WL t vD l)=sO ((Zp k l).elim z vD):=by
 induction l with
 |nil=>rfl
 |cons e r ih =>simp only[WL,ZIQ,Zek,h k e.1,Zp];by_cases u:k=e.1;simp[u];simp only[u,decide_false,if_false];exact ih
def nxS(s1:St)(x z2 z6 z9:Nat)(sb:Bool)(dp:Int):St:=((s1.upd z2 (.cells [.ptr x 0])).upd z6 (.cells [.bool sb])).upd z9 (.cells [.i dp])
structure Qu(s1:St)(z2 z6 z9:Nat):Prop where
 n2:s1 z2=none
 n6:z6≠z2/\s1 z6=none
 n9:z9≠z6/\z9≠z2/\s1 z9=none
section
variable {s1:St} {x z2 z6 z9:Nat} {sb:Bool} {dp:Int}
def Qu.g2(h:Qu s1 z2 z6 z9):(nxS s1 x z2 z6 z9 sb dp) z2=sO (.cells [.ptr x 0]):=by
 simp[nxS,ZJc,h.n6.1.symm,h.n9.2.1.symm]
def Qu.g6(h:Qu s1 z2 z6 z9):(nxS s1 x z2 z6 z9 sb dp) z6=sO (.cells [.bool sb]):=by
 simp[nxS,ZJc,h.n9.1.symm]
def Qu.g9:(nxS s1 x z2 z6 z9 sb dp) z9=sO (.cells [.i dp]):=by
 simp[nxS,ZJc]
def Qu.gs(h:Qu s1 z2 z6 z9){b o}(t:s1 b=sO o):(nxS s1 x z2 z6 z9 sb dp) b=sO o:=by
 have u:b≠z2:=λe=>by rw[e,h.n2]at t;simp at t
 have h6:b≠z6:=λe=>by rw[e,h.n6.2]at t;simp at t
 have h9:b≠z9:=λe=>by rw[e,h.n9.2.2]at t;simp at t
 simp[nxS,ZJc,u,h6,h9,t]
def Qu.sub(h:Qu s1 z2 z6 z9):s1.sub (nxS s1 x z2 z6 z9 sb dp):=λb o t=>h.gs t
def Qu.u9(dp'):(nxS s1 x z2 z6 z9 sb dp).upd z9 (.cells [.i dp'])=nxS s1 x z2 z6 z9 sb dp':=by
 unfold nxS;rw[ZIR]
def Qu.u6(h:Qu s1 z2 z6 z9)(sb'):(nxS s1 x z2 z6 z9 sb dp).upd z6 (.cells [.bool sb'])=nxS s1 x z2 z6 z9 sb' dp:=by
 unfold nxS;rw[St.upd_comm h.n9.1.symm,ZIR]
def Qu.disj{sb' u t}(h:Z6 (nxS s1 x z2 z6 z9 sb dp) t):Z6 (nxS s1 x z2 z6 z9 sb' u) t:=λc o hc=>by
 have:=h c o hc;unfold nxS at this⊢;have k9:=Zo this;have k6:=Zo k9.2;rw[ZIG _ _ k9.1,ZIG _ _ k6.1];exact k6.2
def Qu.ub(h:Qu s1 z2 z6 z9){b o o'}(t:s1 b=sO o):(nxS s1 x z2 z6 z9 sb dp).upd b o'=nxS (s1.upd b o') x z2 z6 z9 sb dp:=by
 have u:b≠z2:=λe=>by rw[e,h.n2]at t;simp at t
 have h6:b≠z6:=λe=>by rw[e,h.n6.2]at t;simp at t
 have h9:b≠z9:=λe=>by rw[e,h.n9.2.2]at t;simp at t
 unfold nxS;rw[St.upd_comm h9,St.upd_comm h6,St.upd_comm u]
def Qu.of(h:Qu s1 z2 z6 z9){b o o'}(t:s1 b=sO o):Qu (s1.upd b o') z2 z6 z9:=by
 have u:z2≠b:=λe=>by rw[<-e,h.n2]at t;simp at t
 have h6:z6≠b:=λe=>by rw[<-e,h.n6.2]at t;simp at t
 have h9:z9≠b:=λe=>by rw[<-e,h.n9.2.2]at t;simp at t
 exact⟨by rw[ZIG _ _ u];exact h.n2,⟨h.n6.1,by rw[ZIG _ _ h6];exact h.n6.2⟩,⟨h.n9.1,h.n9.2.1,by rw[ZIG _ _ h9];exact h.n9.2.2⟩⟩
end
def Zjj{dl m}(h:∀s,0<=(Zp s dl).getD 0/\(Zp s dl).getD 0<=16):0<=Kl dl m/\Kl dl m<=16:=by
 unfold Kl;have:∀(l:List Str) (b:Int),0<=b->b<=16->0<=l.foldl (λa s=>max a ((Zp s dl).getD 0)) b/\l.foldl (λa s=>max a ((Zp s dl).getD 0)) b<=16:=by
  intro l;induction l with
  |nil=>intro b t u;exact⟨t,u⟩
  |cons s r ih =>intro b t u;have:=h s;exact ih (max b ((Zp s dl).getD 0)) ω ω
 exact this _ 0 ω ω
def Zqx{x bd bs k dl sl st}(hst:Qi st x bd bs k dl sl)(hdd:bd≠bs)(hdl:∀s,0<=(Zp s dl).getD 0/\(Zp s dl).getD 0<=16)(m):
  Za ZIy 222 [.ptr x 0,.agg m.cells] st (Zfa (Zen dl sl m) st x bd bs { k with field:=-1,m:=m } (YK m.name (Kl dl m+1) dl) (YK m.name (Ju sl m) sl)):=by
 refine Zb (cR 222 f222) λF hF=>?_;have hS:=Zen.eq_1 dl sl m;have hx:=hst.x;have a9:=hst.ne;refine rx @eQ3 ?_;refine rx (nd2 @eQ3 (nd2 @hx (nd2 @Ck.cells.eq_1 (nd2 @ZIE (nd2 @ZIR (nd2 @Yq @Yr)))))) ?_;obtain⟨k1,au⟩:∃k1:Ck,k1={ k with field:=-1,m:=m }:=⟨_,rfl⟩;have u:=hst.updX k1;have a3:(st.upd x (.cells [.str k.d.name,YX k.d.msgs,.str k.d.start,.map bd,.map bs,.i k.at_,.i (-1),.str m.name,Zq m.fields]))=st.upd x (.cells (k1.cells bd bs)):=by rw[au];rfl
 rw[a3];rw[<-au]at hF;generalize ae:st.upd x (.cells (k1.cells bd bs))=S1 at *;have e1:=YF (vD:=YR) ZP m.name dl;have e3:=YS ZP m.name;simp only[show KG m.name=D.str m.name from rfl]at e1 e3;have ah:∀d,Zen dl sl m=false->ZdR d->Zfa (Zen dl sl m) st x bd bs k1 (YK m.name (Kl dl m+1) dl) (YK m.name (Ju sl m) sl) (.panic d) S1:=λd h hd=>by rw[<-ae];exact Zv8 h hd
 clear a3;refine rx @eQ3 ?_;refine clD (Za0 m.name) ?_;refine cVD (ZU u.x (Wa m.name) 1) ?_ ?_;rintro d S h;obtain⟨ac,rfl,rfl⟩:=YA h;rw[ac,ZIY]at hS;first|refine⟨by first|trivial|exact⟨rfl,trivial⟩,?_⟩|skip
 refine gR0 ?_;refine rh ?_;refine YE ?_;simp only[Eqs,reduceCtorEq,ZIF,reduceIte,ZIC,ZIH,ZID,Msg.cells,u.x,u.bd,Ck.cells,e1,e3,ZnK];refine rg ?_;refine cV (ZU u.x (!(Zp m.name dl).isSome) 2) ?_ ?_;rintro d S h;obtain⟨ac,rfl,rfl⟩:=YA h;rw[ac,ZIY]at hS;refine gR0 ?_;refine rx (nd2 @eQ3 (nd2 @Zq.eq_1 @eQ1)) ?_;refine cV (ZU u.x (dC (1<=(I m.fields:Int))&&dC ((I m.fields:Int)<=40)) 3) ?_ ?_;rintro d S h;obtain⟨ac,rfl,rfl⟩:=YA h;rw[ac,ZIY]at hS;simp only[ZIJ,decide_eq_true_eq]at ac;refine gR0 ?_;refine rg ?_;refine rx (nd2 @eQ3 (nd2 @Zq.eq_1 @eQ1)) ?_;subst au;refine Ze (fr (I m.fields) (λi Q=>∀fl:Int,QL dl sl m i=true->i<=I m.fields->Q [(2,.loc 2 0),(3,.loc 3 0),(6,.loc 6 0),(50,.d (Zq m.fields)),(51,.d (.i (I m.fields))),(52,.d (.i i))] [(2,[.ptr x 0]),(3,m.cells),(6,[.bool ((m.fields.take i).all λf=>!f.loose)])] (st.upd x (.cells (({ k with field:=fl,m:=m }:Ck).cells bd bs)))) (λn ao=>?_) λbl=>?_);intro i hn fl al hi;refine rg ?_;refine Zc (Zl rfl trivial (λh1=>?_) (λh1=>?_));simp at h1;have hR:=Zsf al hi;have aw:=Zj7 (dl:=dl) (sl:=sl) (m:=m) (i:=i);have ag:=Ztd (p:=λf:Fld=>!f.loose) h1;generalize hf:m.fields.getD i dE=f at *;refine xA (nd2 @Zq.eq_1 (nd2 @eQ1 (nd2 @eQ0 @hf))) ?_;refine rx (nd2 @eQ0 (nd2 @Ck.cells.eq_1 (nd2 @ZIE (nd2 @ZIR (nd2 @Yq @Yr))))) ?_;have bj:=hst.updX ({ k with field:=(i:Int),m:=m }:Ck);refine rx @eQ0 ?_;simp only[ZdX];refine cV (Zml bj (n:=i) rfl hi f (hR _)) ?_ ?_;rintro d S2 h;obtain⟨aj,rfl,rfl⟩:=YA h;refine gR0 ?_;refine rx @eQ0 ?_;refine gA ?_;rw[show(m.fields.take i)=({ k with field:=(i:Int),m:=m }:Ck).m.fields.take i from rfl]at aw;rw[aj,Bool.and_true]at aw;refine Zf ?_;have ai:=ao ((I m.fields)-(i+1)) ω (i+1) rfl i (aw.trans al) ω;rw[ag]at ai;exact ai;rintro d S2 h;obtain⟨aj,ad,rfl⟩:=Yz h;rw[Zse h1 (by rw[hf];exact aj),ZJb]at hS;exact hF.pan _ ZIz (Zv8 hS ad);simp at h1;obtain rfl:i=I m.fields:=ω;rw[ZJa];rw[al,ZIY]at hS;have av:=ZtO al ω;refine rx (nd2 @Ck.cells.eq_1 (nd2 @ZIE (nd2 @ZIR (nd2 @Yq @Yr)))) ?_;refine rg ?_;refine Zc (Zc ?_);refine xP 2 λz2 h2=>?_;refine xP 6 λz6 h6=>?_;refine xP 9 λz9 h9=>?_;have k6:=Zo h6;have k9:=Zo h9;have ax:=Zo k9.2;have a4:(st.upd x (.cells [.str k.d.name,YX k.d.msgs,.str k.d.start,.map bd,.map bs,.i k.at_,.i (-1),.str m.name,Zq m.fields]))=S:=ae;rw[a4]at h2 k6 k9 ax⊢;have ab:Qu S z2 z6 z9:=⟨h2,k6,⟨k9.1,ax⟩⟩;clear h6 h9 k6 k9 ax h2;have hlen:(Ko m).length<=1000000:=by have:=Zmh (m.fields.flatMap Yv) [];unfold Ko;simp only[List.length_nil,Nat.zero_add]at this;omega
 have hmst:S.sub (nxS S x z2 z6 z9 (m.fields.all λf=>!f.loose) 0):=ab.sub;rw[show((S.upd z2 (.cells [.ptr x 0])).upd z6 (.cells [.bool (m.fields.all λf=>!f.loose)])).upd z9 (.cells [.i 0])=nxS S x z2 z6 z9 (m.fields.all λf=>!f.loose) 0 from rfl];refine rx @eQ3 ?_;refine cV (ZnT m av) ?_ ?_;rintro d S2 ⟨y,hy,hd,rfl⟩;cases hd;refine gR0 ?_;refine Ze ?_;have bg:ddS (m.fields.flatMap Yv)=Ko m:=rfl;have a7:=ZkO (m.fields.flatMap Yv) (by unfold big;omega) y;rw[bg]at a7;refine KT hF rfl trivial [2,6,9] (by show([2,6,9]:List Nat).Nodup;decide) (W9 hy) a7.Y (λj hj=>rfl) (λ_=>.next)
  (λj a=>a=nxS S x z2 z6 z9 ((m.fields.all λf=>!f.loose)&&((Ko m).take j).all λs=>(Zp s sl).getD false) (((Ko m).take j).foldl (λa s=>max a ((Zp s dl).getD 0)) 0)) ψ ?_ ?_ ?_ ?_ ?_ ?_
 intro j a hj am hB F' ready busy hdr a6 ap;subst hB;simp only[Eqs,reduceCtorEq,ZIF,reduceIte,ZIC,ZIH,ZID,WN,Ki,Jd,Ks,List.isEmpty_nil,List.isEmpty_cons];refine rg ?_;refine a6 λbf=>?_;have ag:=Ztd (p:=λs:Str=>(Zp s sl).getD false) hj;have ar:=Zw3 (f:=λa s=>max a ((Zp s dl).getD 0)) (b:=(0:Int)) hj;generalize hnm:(Ko m).getD j dE=nm at *;have e1:=YF (vD:=YR) ZP nm dl;have e2:=YF (vD:=D.bool) ZP nm sl;have e3:=YS ZP nm;simp only[show KG nm=D.str nm from rfl]at e1 e2 e3;rw[ag,ar]at ap;generalize ((Ko m).take j).foldl (λa s=>max a ((Zp s dl).getD 0)) 0=dp at *;generalize ((Ko m).take j).all (λs=>(Zp s sl).getD false)=sb at *;generalize (m.fields.all λf=>!f.loose)=lo at *;refine rh ?_;refine YE ?_;simp only[Eqs,reduceCtorEq,ZIF,reduceIte,ZIC,ZIH,ZID,Zs (ab.g2 ),Zs (Qu.g9 ),Zs (ab.gs u.x),Zs (ab.gs u.bd),Ck.cells,e1,e3,Ze1,Kc,Qu.u9];refine rh ?_;refine Zm ?_;simp only[Eqs,reduceCtorEq,ZIF,reduceIte,ZIC,ZIH,ZID,Zs (ab.g2 ),Zs (ab.g6 ),Zs (ab.gs u.x),Zs (ab.gs u.bs),Ck.cells,e2,e3,ZnJ,Kc,ab.u6];refine Zr ?_;exact ap.fin ⟨rfl,by rw[<-Bool.and_assoc]⟩ (Qu.disj bf) ZIz;intro q a am hB hq;subst hB;rw[ZJa]at hq⊢;rw[Qq hq];rw[show((m.fields.all λf=>!f.loose)&&(Ko m).all λs=>(Zp s sl).getD false)=Ju sl m from rfl,show(Ko m).foldl (λa s=>max a ((Zp s dl).getD 0)) 0=Kl dl m from rfl]at hq⊢;have hdp:=Zjj (m:=m) hdl;generalize Ju sl m=sb at *;generalize Kl dl m=dp at *;have ay:=Zs (t:=ZI0 q .dfr) (ab.g2 (x:=x) (sb:=sb) (dp:=dp));have bb:=Zs (t:=ZI0 q .dfr) (ab.g6 (x:=x) (sb:=sb) (dp:=dp));have az:=Zs (t:=ZI0 q .dfr) (Qu.g9 (s1:=S) (x:=x) (z2:=z2) (z6:=z6) (z9:=z9) (sb:=sb) (dp:=dp));have a0:=Zs (t:=ZI0 q .dfr) (ab.gs (x:=x) (sb:=sb) (dp:=dp) u.x);have bc:=Zs (t:=ZI0 q .dfr) (ab.gs (x:=x) (sb:=sb) (dp:=dp) u.bd);have be:=Zs (t:=ZI0 q .dfr) (ab.gs (x:=x) (sb:=sb) (dp:=dp) u.bs);generalize hX:(nxS S x z2 z6 z9 sb dp).or (ZI0 q .dfr)=X at *;have n2:∀b o,S b=sO o->z2≠b:=λb o h e=>by rw[<-e,ab.n2]at h;simp at h
 have n6:∀b o,S b=sO o->z6≠b:=λb o h e=>by rw[<-e,ab.n6.2]at h;simp at h
 have n9:∀b o,S b=sO o->z9≠b:=λb o h e=>by rw[<-e,ab.n9.2.2]at h;simp at h
 have u2:∀(Y:St) o,(Y.upd bd o) z2=Y z2:=λY o=>ZIG _ _ (n2 _ _ u.bd);have u6:∀(Y:St) o,(Y.upd bd o) z6=Y z6:=λY o=>ZIG _ _ (n6 _ _ u.bd);have u9:∀(Y:St) o,(Y.upd bd o) z9=Y z9:=λY o=>ZIG _ _ (n9 _ _ u.bd);have ux:∀(Y:St) o,(Y.upd bd o) x=Y x:=λY o=>ZIG _ _ a9.1;have us:∀(Y:St) o,(Y.upd bd o) bs=Y bs:=λY o=>ZIG _ _ hdd.symm;have v2:∀(Y:St) o,(Y.upd bs o) z2=Y z2:=λY o=>ZIG _ _ (n2 _ _ u.bs);have v6:∀(Y:St) o,(Y.upd bs o) z6=Y z6:=λY o=>ZIG _ _ (n6 _ _ u.bs);have v9:∀(Y:St) o,(Y.upd bs o) z9=Y z9:=λY o=>ZIG _ _ (n9 _ _ u.bs);have vx:∀(Y:St) o,(Y.upd bs o) x=Y x:=λY o=>ZIG _ _ a9.2;have d1:=Zrf (vD:=YR) ZP m.name (D.i 0) dl;have d2:=JU (vD:=YR) ZP m.name (dp+1) dl;have s1:=Zrf (vD:=D.bool) ZP m.name (D.bool false) sl;have s2:=JU (vD:=D.bool) ZP m.name sb sl;simp only[show KG m.name=D.str m.name from rfl,show YR (dp+1)=D.i (dp+1) from rfl]at d1 d2 s1 s2;refine xA (nd2 @eQ3 (nd2 @ay (nd2 @bb (nd2 @az (nd2 @a0 (nd2 @bc (nd2 @be (nd2 @u2 (nd2 @u6 (nd2 @u9 (nd2 @ux (nd2 @us (nd2 @v2 (nd2 @v6 (nd2 @v9 (nd2 @vx (nd2 @d1 (nd2 @d2 (nd2 @s1 (nd2 @s2 (nd2 @e3 (nd2 @Ck.cells.eq_1 (nd2 @ZIE (nd2 @ZIR (nd2 @Yq @Yr))))))))))))))))))))))))) ?_;refine rx (nd2 @u2 (nd2 @v2 (nd2 @ay (nd2 @u9 (nd2 @v9 @az))))) ?_;have a5:(X.upd bd (.map (WL KG YR (YK m.name (dp+1) dl)))).upd bs (.map (WL KG D.bool (YK m.name sb sl)))=(nxS ((S.upd bd (.map (Kh (YK m.name (dp+1) dl)))).upd bs (.map (ZeC (YK m.name sb sl)))) x z2 z6 z9 sb dp).or (ZI0 q .dfr):=by rw[<-hX,Kc,Kc,ab.ub u.bd,(ab.of u.bd).ub (by rw[us];exact u.bs)]
 have aq:Qu ((S.upd bd (.map (Kh (YK m.name (dp+1) dl)))).upd bs (.map (ZeC (YK m.name sb sl)))) z2 z6 z9:=(ab.of u.bd).of (by rw[us];exact u.bs);have ba:(nxS ((S.upd bd (.map (Kh (YK m.name (dp+1) dl)))).upd bs (.map (ZeC (YK m.name sb sl)))) x z2 z6 z9 sb dp) q=nO:=by
  have bh:q≠bs:=λe=>by have:=ab.gs (x:=x) (sb:=sb) (dp:=dp) u.bs;rw[<-e,hq]at this;simp at this
  have bi:q≠bd:=λe=>by have:=ab.gs (x:=x) (sb:=sb) (dp:=dp) u.bd;rw[<-e,hq]at this;simp at this
  rw[<-(ab.of u.bd).ub (by rw[us];exact u.bs),<-ab.ub u.bd,ZIG _ _ bh,ZIG _ _ bi];exact hq
 have bk:((X.upd bd (.map (WL KG YR (YK m.name (dp+1) dl)))).upd bs (.map (WL KG D.bool (YK m.name sb sl)))) x=sO (.cells (({ k with field:=-1,m:=m }:Ck).cells bd bs)):=by rw[vx,ux];exact a0
 refine cV (ZU bk (dC (dp<16)) 10) ?_ ?_;rintro d S3 h;obtain⟨ak,rfl,rfl⟩:=YA h;rw[ak]at hS;refine gR0 ?_;rw[a5];exact hF.fin1 ba (.tup []) _ rfl trivial (ZIB _) aq.sub (by rw[hS];exact⟨rfl,by rw[<-ae]⟩);rintro d S3 h;obtain⟨ak,ad,rfl⟩:=Yz h;rw[ak]at hS;rw[a5];exact hF.pan1 ba _ aq.sub (by rw[hS];exact⟨⟨d,ad,rfl⟩,λb h1 h2 h3=>by rw[ZIG _ _ h3,ZIG _ _ h2,<-ae,ZIG _ _ h1]⟩);intro q a m hm am af;simp at af;intro q a m id hm am af;simp at af;intro q a m d hm am af;simp at af;intro m c af;simp at af;rintro d S2 ⟨y,hy,hd,_⟩;cases hd;have a8:=bl _ 0 rfl (-1) (by simp[QL]) ω;rw[ae]at a8;exact a8;rintro d S h;obtain⟨ac,ad,rfl⟩:=Yz h;rw[ac,ZJb]at hS;exact hF.pan _ ZIz (ah _ hS ad);rintro d S h;obtain⟨ac,ad,rfl⟩:=Yz h;rw[ac,ZJb]at hS;exact hF.pan _ ZIz (ah _ hS ad);rintro d S h;obtain⟨ac,ad,rfl⟩:=Yz h;rw[ac,ZJb]at hS;exact hF.pan _ ZIz (ah _ hS ad)
def Zq6{P}{F:Fr P}{H L d s}(h:DWf d->Y3 F H L d s):Y3 F H L d s :=
 λg Z w v t tmps hN m u=>h u.wf g Z w v t tmps hN m u
def DWf.iface_inv{t d}(h:DWf (.iface t d)):DWf d:=by
 cases h with
 |iface _ _ h=>exact h
 |other _ h=>exact absurd h ψ
def ZbA{P i args m s Ψ Ψ'}(h:JV P i args m s Ψ)(hi:∀b S,Ψ b S->Ψ' b S):JV P i args m s Ψ' :=
 ⟨h.1,λg w vs cf cs h1 h2 h3=>by
  obtain⟨g',w',s',b,a1,a2,t,u⟩:=h.2 g w vs cf cs h1 h2 h3;exact⟨g',w',s',b,a1,a2,hi _ _ t,u⟩⟩
def Zhg{z3 z4 c b st}(h3:st z3=sO c)(h4:st z4=sO (.cells [.bool b])):
  JV ZIy 220 [.ptr z3 0,.ptr z4 0] nO st λ_ S=>S=st:=by
 refine Zci (cR 220 f220) rfl ψ λF t=>?_;refine rg ?_;refine ZgN t rfl rfl ?_;refine gR0 ?_;refine rg ?_;refine cd (λh=>?_) (λh=>?_);simp at h;refine ZK ?_;exact t.fin ZIz rfl
def Zhh{z3 z4 b st}(hz:z3≠z4)(x y z)(hx:inR .i64 x)(hy:inR .i64 y)(hw:inR .i64 z)(h3:st z3=sO (.cells [.i 0,.i 0,.i 0]))(h4:st z4=sO (.cells [.bool b])):
  JV ZIy 220 [.ptr z3 0,.ptr z4 0] (sO (ZiA x y z)) st λb S=>b=true/\S=(st.upd z3 (.cells [.i x,.i y,.i z])).upd z4 (.cells [.bool true]):=by
 refine Zci (cR 220 f220) rfl (by rintro d ⟨⟩;exact⟨hx,hy,hw,trivial⟩) λF hF=>?_;have t:∀o,(st.upd z3 o) z4=sO (.cells [.bool b]):=λo=>by rw[ZIG _ _ (Ne.symm hz)];exact h4
 refine rg ?_;refine Zn9 hF rfl rfl λF2 u=>?_;refine gR0 ?_;refine rx @ZiA.eq_1 ?_;refine cd (λh=>?_) (λh=>?_);refine rx (nd2 @ZiA.eq_1 (nd2 @h3 (nd2 @h4 (nd2 @t (nd2 @ZIE (nd2 @ZIR (nd2 @Yq @Yr))))))) ?_;refine rx (nd2 @h4 (nd2 @t (nd2 @ZIE (nd2 @ZIR (nd2 @Yq @Yr))))) ?_;refine cd (λh5=>?_) (λh5=>?_);simp at h5;refine ZK ?_;exact u.fin ZIz ⟨rfl,rfl⟩;simp[ZiA]at h
def ZcT(dl:List (Str×Int))(sl:List (Str×Bool)):List Msg->Option (List (Str×Int)×List (Str×Bool))
 | []=>sO (dl,sl)
 |m::r=>if Zen dl sl m then ZcT (YK m.name (Kl dl m+1) dl) (YK m.name (Ju sl m) sl) r else nO
def Zd3(d:Dfn):Bool :=
 Wa d.name&&((dC (1<=(I d.msgs:Int))&&dC ((I d.msgs:Int)<=60))&&(ZcT [] [] d.msgs).elim false λp=>(Zp d.start p.1).isSome)
def ZmX(dl sl l l'):ZcT dl sl (l++l')=(ZcT dl sl l).elim nO λp=>ZcT p.1 p.2 l':=by
 induction l generalizing dl sl with
 |nil=>rfl
 |cons m r ih =>simp only[List.cons_append,ZcT];split;exact ih _ _;rfl
def ZrR{l:List Msg}{i dl sl}(h:ZcT [] [] (l.take i)=sO (dl,sl))(t:i<I l):ZcT [] [] (l.take (i+1))=if Zen dl sl (l.getD i dE) then sO (YK (l.getD i dE).name (Kl dl (l.getD i dE)+1) dl,YK (l.getD i dE).name (Ju sl (l.getD i dE)) sl) else nO:=by
 rw[Yo t,ZmX,h];rfl
def ZBl{l i dl sl}(h:ZcT [] [] (l.take i)=sO (dl,sl))(hi:i<I l)(u:Zen dl sl (l.getD i dE)=false):ZcT [] [] l=nO:=by
 have t:=ZrR h hi;rw[u]at t;rw[<-List.take_append_drop (i+1) l,ZmX,t];rfl
structure Zbk(S st:St)(x bd bs z3 z4:Nat)(k:Ck)(dl:List (Str×Int))(sl:List (Str×Bool)):Prop where
 ck:Qi S x bd bs k dl sl
 c3:S z3=some (.cells [.i 0,.i 0,.i 0])
 c4:S z4=some (.cells [.bool false])
 sub:st.sub S
 fx:st x=none
 fd:st bd=none
 fs:st bs=none
 f3:st z3=none
 f4:st z4=none
 nd:bd≠bs
 n34:z3≠z4
section
variable {S st:St} {x bd bs z3 z4:Nat} {k:Ck} {dl:List (Str × Int)} {sl:List (Str × Bool)}
def Zbk.n3(h:Zbk S st x bd bs z3 z4 k dl sl):z3≠x/\z3≠bd/\z3≠bs:=by
 refine⟨λe=>?_,λe=>?_,λe=>?_⟩;have t:=h.c3;rw[e,h.ck.x]at t;simp[Ck.cells]at t;have t:=h.c3;rw[e,h.ck.bd]at t;simp at t;have t:=h.c3;rw[e,h.ck.bs]at t;simp at t
def Zbk.n4(h:Zbk S st x bd bs z3 z4 k dl sl):z4≠x/\z4≠bd/\z4≠bs:=by
 refine⟨λe=>?_,λe=>?_,λe=>?_⟩;have t:=h.c4;rw[e,h.ck.x]at t;simp[Ck.cells]at t;have t:=h.c4;rw[e,h.ck.bd]at t;simp at t;have t:=h.c4;rw[e,h.ck.bs]at t;simp at t
def Zbk.move(h:Zbk S st x bd bs z3 z4 k dl sl){S':St}{k':Ck}{dl':List (Str×Int)}{sl':List (Str×Bool)}(u:Qi S' x bd bs k' dl' sl')(t:∀b,b≠x->b≠bd->b≠bs->S' b=S b):Zbk S' st x bd bs z3 z4 k' dl' sl':={
 ck:=u
 c3:=by rw[t _ h.n3.1 h.n3.2.1 h.n3.2.2];exact h.c3
 c4:=by rw[t _ h.n4.1 h.n4.2.1 h.n4.2.2];exact h.c4
 sub b o hb:=by rw[t b (λe=>by rw[e,h.fx]at hb;simp at hb) (λe=>by rw[e,h.fd]at hb;simp at hb) (λe=>by rw[e,h.fs]at hb;simp at hb)];exact h.sub b o hb
 fx:=h.fx
 fd:=h.fd
 fs:=h.fs
 f3:=h.f3
 f4:=h.f4
 nd:=h.nd
 n34:=h.n34 }
def Zbk.updX(h:Zbk S st x bd bs z3 z4 k dl sl)(k'):Zbk (S.upd x (.cells (k'.cells bd bs))) st x bd bs z3 z4 k' dl sl :=
 h.move (h.ck.updX k') λb t _ _=>ZIG _ _ t
def Zbk.bad(h:Zbk S st x bd bs z3 z4 k dl sl){S':St}(ho:∀b,b≠x->b≠bd->b≠bs->S' b=S b){F:Fr ZIy}(hF:YL F [.tmp 2,.cellN 3 3,.cell1 4] (λr S=>S=st/\∃a f c,r=Res.ret (.tup [.any,.agg [.i a,.i f,.i c],.bool true])) [.fn 220 [] [.ptr z3 0,.ptr z4 0]]){d:D}(hd:ZdR d)(hr:∀s' c3,s' z3=sO (.cells c3)->I c3=3->s' z4=sO (.cells [.bool true])->∃p,YD H L s' [.tmp 2,.cellN 3 3,.cell1 4]=sO (p,[.ptr x 0,.agg c3,.bool true])/\p):Y3 F H L d S':=by
 obtain⟨a,f,c,rfl⟩:=hd;refine Zq6 λhw=>?_;have t:=DWf.agg_inv (DWf.iface_inv hw);have h1:inR .i64 a:=(t _ ψ).int_inv;have h2:inR .i64 f:=(t _ ψ).int_inv;have h3:inR .i64 c:=(t _ ψ).int_inv;have ac:S' z3=sO (.cells [.i 0,.i 0,.i 0]):=by rw[ho _ h.n3.1 h.n3.2.1 h.n3.2.2];exact h.c3
 have ad:S' z4=sO (.cells [.bool false]):=by rw[ho _ h.n4.1 h.n4.2.1 h.n4.2.2];exact h.c4
 refine hF.panU ⟨trivial,⟨rfl,rfl,trivial⟩,ZbA (Zhh h.n34 a f c h1 h2 h3 ac ad) ?_⟩;rintro b S2 ⟨rfl,rfl⟩;obtain⟨p,u,ab⟩:=hr ((S'.upd z3 (.cells [.i a,.i f,.i c])).upd z4 (.cells [.bool true])) [.i a,.i f,.i c] (by rw[ZIG _ _ h.n34,ZIE]) rfl (ZIE _ _ _);refine⟨p,_,_,st,u,ab,?_,?_,rfl,a,f,c,rfl⟩;exact ZpX rfl (.cons (λ_ _ v _=>.any v) (LeC.refl _));intro b o hb;have e1:b≠z3:=λe=>by rw[e,h.f3]at hb;simp at hb
 have e2:b≠z4:=λe=>by rw[e,h.f4]at hb;simp at hb
 rw[ZIG _ _ e2,ZIG _ _ e1];rw[ho b (λe=>by rw[e,h.fx]at hb;simp at hb) (λe=>by rw[e,h.fd]at hb;simp at hb) (λe=>by rw[e,h.fs]at hb;simp at hb)];exact h.sub b o hb
end
def Zbk.mk0{st bd bs x z3 z4 c}(hbd:st bd=nO)(hbs:st.upd bd (.map []) bs=nO)(hx:(st.upd bd (.map [])).upd bs (.map []) x=nO)(h3:((st.upd bd (.map [])).upd bs (.map [])).upd x (.cells c) z3=nO)(h4:(((st.upd bd (.map [])).upd bs (.map [])).upd x (.cells c)).upd z3 (.cells [.i 0,.i 0,.i 0]) z4=nO)(k):
  ((((st.upd bd (.map [])).upd bs (.map [])).upd x (.cells c)).upd z3 (.cells [.i 0,.i 0,.i 0])).upd z4 (.cells [.bool false]) x=sO (.cells c) /\
  Zbk ((((((st.upd bd (.map [])).upd bs (.map [])).upd x (.cells c)).upd z3 (.cells [.i 0,.i 0,.i 0])).upd z4 (.cells [.bool false])).upd x (.cells (k.cells bd bs))) st x bd bs z3 z4 k [] []:=by
 have a4:=Zo h4;have b4:=Zo a4.2;have c4:=Zo b4.2;have d4:=Zo c4.2;have a3:=Zo h3;have b3:=Zo a3.2;have c3:=Zo b3.2;have ax:=Zo hx;have u:=Zo ax.2;have t:=Zo hbs;refine⟨?_,⟨⟨?_,?_,?_⟩,?_,?_,?_,?_,?_,?_,?_,?_,?_,?_⟩⟩;rw[ZIG _ _ b4.1.symm,ZIG _ _ a3.1.symm,ZIE];exact ZIE _ _ _;rw[ZIG _ _ u.1.symm,ZIG _ _ d4.1.symm,ZIG _ _ c3.1.symm,ZIG _ _ u.1.symm,ZIG _ _ t.1.symm,ZIE];rfl;rw[ZIG _ _ ax.1.symm,ZIG _ _ c4.1.symm,ZIG _ _ b3.1.symm,ZIG _ _ ax.1.symm,ZIE];rfl;rw[ZIG _ _ a3.1,ZIG _ _ a4.1.symm,ZIE];rw[ZIG _ _ b4.1,ZIE];intro b o hb;have e:∀y,st y=nO->b≠y:=λy hy e=>by rw[e,hy]at hb;simp at hb
 rw[ZIG _ _ (e _ u.2),ZIG _ _ (e _ d4.2),ZIG _ _ (e _ c3.2),ZIG _ _ (e _ u.2),ZIG _ _ (e _ t.2),ZIG _ _ (e _ hbd)];exact hb;exact u.2;exact hbd;exact t.2;exact c3.2;exact d4.2;exact t.1.symm;exact a4.1.symm
def Zxb{c:List D}(h:I c=3):∃a b d,c=[a,b,d]:=by
 match c,h with
 | [a,b,d],_=>exact⟨a,b,d,rfl⟩
def ZkP(d st):
  Za ZIy 177 [.agg d.cells] st λr S=>S=st/\∃a f c,r=.ret (.tup [.any,.agg [.i a,.i f,.i c],.bool (!Zd3 d)]):=by
 refine Zb (cR 177 f177) λF hF=>?_;have hS:=Zd3.eq_1 d;refine rx @eQ2 ?_;refine rx @eQ2 ?_;intro bd aj bs ak;refine Zc ?_;refine xP 13 λx hx=>?_;refine xP 3 λz3 h3=>?_;refine xP 4 λz4 h4=>?_;refine rg ?_;refine Zm8 (by obtain⟨_,_,_,_,_,_,rfl⟩:=hF;rfl) rfl rfl rfl rfl rfl rfl trivial trivial ?_ ?_ ?_;trivial;exact⟨rfl,rfl,trivial⟩;have ac:=hF.defer 220 [] [.ptr z3 0,.ptr z4 0];clear hF;refine gR0 ?_;generalize F.defer 220 [] [.ptr z3 0,.ptr z4 0]=F at ac⊢;obtain⟨au,ab⟩:=Zbk.mk0 aj ak hx h3 h4 ⟨d,-1,-1,⟨[],[]⟩⟩;refine Jk au (ds':=Ck.cells ⟨d,-1,-1,⟨[],[]⟩⟩ bd bs) (.cons (ZIB _) (.cons (ZIB _) (.cons (ZIB _) (.cons (ZIB _) (.cons (ZIB _) (.cons (ZIB _) (.cons (ZIB _) (.cons (ZIB _) (.cons (YU λb h=>by cases h) .nil))))))))) ?_;generalize (ZJc (ZJc (ZJc (ZJc (ZJc (ZJc st _ _) _ _) _ _) _ _) _ _) _ _)=S at *;clear aj ak hx h3 h4 au;refine rx @eQ2 ?_;refine cl (Za0 d.name) ?_;refine cV (ZU ab.ck.x (Wa d.name) 1) ?_ ?_;rintro dd S2 h;obtain⟨u,rfl,rfl⟩:=YA h;rw[u,ZIY]at hS;refine gR0 ?_;refine rx (nd2 @eQ2 (nd2 @YX.eq_1 @eQ1)) ?_;refine cV (ZU ab.ck.x (dC (1<=(I d.msgs:Int))&&dC ((I d.msgs:Int)<=60)) 3) ?_ ?_;rintro dd S2 h;obtain⟨u,rfl,rfl⟩:=YA h;rw[u,ZIY]at hS;simp only[ZIJ,decide_eq_true_eq]at u;have hlen:=u.2;refine gR0 ?_;refine rx (nd2 @eQ2 (nd2 @YX.eq_1 @eQ1)) ?_;generalize ap:(⟨d,-1,-1,⟨[],[]⟩⟩:Ck)=k0 at *;have aw:k0.d=d:=by rw[<-ap]
 clear ap;refine Ze (fr (I d.msgs) (λi Q=>∀(S:St) (k:Ck) dl sl,Zbk S st x bd bs z3 z4 k dl sl->k.d=d->ZcT [] [] (d.msgs.take i)=sO (dl,sl)->(∀s,0<=(Zp s dl).getD 0/\(Zp s dl).getD 0<=16)->i<=I d.msgs->Q [(1,.loc 1 0),(2,.d (.ptr x 0)),(3,.d (.ptr z3 0)),(4,.d (.ptr z4 0)),(33,.d (YX d.msgs)),(34,.d (.i (I d.msgs))),(35,.d (.i i))] [(1,d.cells)] S) (λn ag=>?_) λaz=>?_);intro i hni S k dl sl ab ax ae ah hi;refine rg ?_;refine Zc (Zl rfl trivial (λh1=>?_) (λh1=>?_));simp at h1;refine xA (nd2 @YX.eq_1 (nd2 @eQ1 @eQ3)) ?_;refine rx (nd2 @ab.ck.x (nd2 @Ck.cells.eq_1 (nd2 @ZIE (nd2 @ZIR (nd2 @Yq @Yr))))) ?_;have af:(S.upd x (.cells [.str k.d.name,YX k.d.msgs,.str k.d.start,.map bd,.map bs,.i i,.i k.field,.str k.m.name,Zq k.m.fields]))=S.upd x (.cells (({ k with at_:=i }:Ck).cells bd bs)):=rfl;rw[af];have t:=ab.updX { k with at_:=i };generalize S.upd x (.cells (({ k with at_:=i }:Ck).cells bd bs))=S1 at *;have ao:({ k with at_:=(i:Int) }:Ck).d=d:=ax;clear af ab;generalize ({ k with at_:=i }:Ck)=k1 at *;have ar:=ZrR ae h1;have ay:=ZBl ae h1;generalize hm:d.msgs.getD i dE=m at *;refine rx @hm ?_;rw[show(D.agg [.str m.name,Zq m.fields])=.agg m.cells from rfl];refine cV (Zqx t.ck t.nd ah m) ?_ ?_;rintro dd S2 h;unfold Zfa at h;split at h;rename_i u;rw[if_pos u]at ar;obtain⟨h4,h5⟩:=h;cases h4;have am:=t.move (S':=S2) (k':={ k1 with field:=-1,m:=m }) (dl':=YK m.name (Kl dl m+1) dl) (sl':=YK m.name (Ju sl m) sl) (by
   subst h5;have aq:=t.ck.ne;exact⟨by rw[ZIG _ _ aq.2,ZIG _ _ aq.1,ZIE],by rw[ZIG _ _ t.nd,ZIE],ZIE _ _ _⟩) (λb h1 h2 h3=>by rw[h5,ZIG _ _ h3,ZIG _ _ h2,ZIG _ _ h1])
 have al:∀s,0<=(Zp s (YK m.name (Kl dl m+1) dl)).getD 0/\(Zp s (YK m.name (Kl dl m+1) dl)).getD 0<=16:=λs=>by
  rw[WU];split;have hd16:=Zjj (m:=m) ah;have:Kl dl m<16:=by unfold Zen at u;simp only[ZIJ,decide_eq_true_eq]at u;exact u.2.2.2.2
  simp only[ZJe];omega;exact ah s
 clear h5;refine gR0 ?_;refine gA ?_;refine Zf ?_;exact ag ((I d.msgs)-(i+1)) ω (i+1) rfl _ _ _ _ am ao ar al ω;exact absurd h.1 ψ;rintro dd S2 h;unfold Zfa at h;split at h;exact absurd h.1 ψ;rename_i ai;obtain⟨⟨d2,ad,h4⟩,h5⟩:=h;cases h4;have hb:Zen dl sl m=false:=by simpa using ai
 rw[ay hb]at hS;exact t.bad h5 (by rw[hS]at ac;exact ac) ad (λs' c3 h1 h2 h3=>by obtain⟨u1,u2,u3,rfl⟩:=Zxb h2;refine⟨_,by simp only[Eqs,reduceCtorEq,ZIF,reduceIte,ZIC,ZIH,ZID,YD,Kt,h1,h3];rfl,?_⟩;trivial);simp at h1;obtain rfl:i=I d.msgs:=ω;rw[ZJa]at ae;rw[ae]at hS;simp only[Option.elim]at hS;refine rx (nd2 @ab.ck.x (nd2 @Ck.cells.eq_1 (nd2 @ZIE (nd2 @ZIR (nd2 @Yq @Yr))))) ?_;have af:(S.upd x (.cells [.str k.d.name,YX k.d.msgs,.str k.d.start,.map bd,.map bs,.i (-1),.i k.field,.str k.m.name,Zq k.m.fields]))=S.upd x (.cells (({ k with at_:=-1 }:Ck).cells bd bs)):=rfl;rw[af];have t:=ab.updX { k with at_:=-1 };generalize S.upd x (.cells (({ k with at_:=-1 }:Ck).cells bd bs))=S1 at *;clear af ab;generalize ({ k with at_:=-1 }:Ck)=k1 at *;have e1:=YF (vD:=YR) ZP d.start dl;have e3:=YS ZP d.start;simp only[show KG d.start=D.str d.start from rfl]at e1 e3;refine rh ?_;refine YE ?_;simp only[Eqs,reduceCtorEq,ZIF,reduceIte,ZIC,ZIH,ZID,Dfn.cells,t.ck.x,t.ck.bd,Ck.cells,e1,e3,ZnK];refine rg ?_;refine cV (ZU t.ck.x (Zp d.start dl).isSome 11) ?_ ?_;rintro dd S2 h;obtain⟨u,rfl,rfl⟩:=YA h;rw[u]at hS;refine gR0 ?_;have av:∀o,(S2.upd z3 o) z4=sO (.cells [.bool false]):=λo=>by rw[ZIG _ _ t.n34.symm];exact t.c4
 refine rx (nd2 @t.c3 (nd2 @t.c4 (nd2 @av (nd2 @ZIE (nd2 @ZIR (nd2 @Yq @Yr)))))) ?_;refine ac.retU ⟨trivial,⟨rfl,rfl,trivial⟩,ZbA (Zhg (by rw[ZIG _ _ t.n34,ZIE]) (ZIE _ _ _)) ?_⟩;rintro b S3 rfl;rw[ite_self];have g3:((S2.upd z3 (.cells [.i 0,.i 0,.i 0])).upd z4 (.cells [.bool false])) z3=sO (.cells [.i 0,.i 0,.i 0]):=by rw[ZIG _ _ t.n34,ZIE]
 have g4:((S2.upd z3 (.cells [.i 0,.i 0,.i 0])).upd z4 (.cells [.bool false])) z4=sO (.cells [.bool false]):=ZIE _ _ _;refine⟨_,[.ptr x 0,.agg [.i 0,.i 0,.i 0],.bool false],.tup [.any,.agg [.i 0,.i 0,.i 0],.bool false],st,by simp only[Eqs,reduceCtorEq,ZIF,reduceIte,ZIC,ZIH,ZID,YD,Kt,g3,g4];rfl,φ,?_,?_,rfl,0,0,0,by rw[hS];rfl⟩;exact ZpX rfl (.cons (λ_ _ v _=>.any v) (LeC.refl _));intro b o hb;have e1:b≠z3:=λe=>by rw[e,t.f3]at hb;simp at hb
 have e2:b≠z4:=λe=>by rw[e,t.f4]at hb;simp at hb
 rw[ZIG _ _ e2,ZIG _ _ e1];exact t.sub b o hb;rintro dd S2 h;obtain⟨u,ad,rfl⟩:=Yz h;rw[u]at hS;exact t.bad (λ_ _ _ _=>rfl) (by rw[hS]at ac;exact ac) ad (λs' c3 h1 h2 h3=>by obtain⟨u1,u2,u3,rfl⟩:=Zxb h2;refine⟨_,by simp only[Eqs,reduceCtorEq,ZIF,reduceIte,ZIC,ZIH,ZID,YD,Kt,h1,h3];rfl,?_⟩;trivial);exact az _ 0 rfl _ k0 [] [] ab aw rfl (by simp[Zp]) ω;rintro dd S2 h;obtain⟨u,ad,rfl⟩:=Yz h;rw[u,ZJb]at hS;exact ab.bad (λ_ _ _ _=>rfl) (by rw[hS]at ac;exact ac) ad (λs' c3 h1 h2 h3=>by obtain⟨u1,u2,u3,rfl⟩:=Zxb h2;refine⟨_,by simp only[Eqs,reduceCtorEq,ZIF,reduceIte,ZIC,ZIH,ZID,YD,Kt,h1,h3];rfl,?_⟩;trivial);rintro dd S2 h;obtain⟨u,ad,rfl⟩:=Yz h;rw[u,ZJb]at hS;exact ab.bad (λ_ _ _ _=>rfl) (by rw[hS]at ac;exact ac) ad (λs' c3 h1 h2 h3=>by obtain⟨u1,u2,u3,rfl⟩:=Zxb h2;refine⟨_,by simp only[Eqs,reduceCtorEq,ZIF,reduceIte,ZIC,ZIH,ZID,YD,Kt,h1,h3];rfl,?_⟩;trivial)
def Zpn(d st):
  Za ZIy 133 [.agg d.cells] st λr S=>S=st/\∃a f c,r=.ret (.tup [.agg [.i a,.i f,.i c],.bool (!Zd3 d)]):=by
 refine Zb (cR 133 f133) λF u=>?_;refine rx @eQ2 ?_;refine rx @eQ2 ?_;rw[show(D.agg [.str d.name,YX d.msgs,.str d.start])=.agg d.cells from rfl];refine cV (ZkP d st) ?_ ?_;rintro t S2 ⟨rfl,a,f,c,h⟩;cases h;refine gR0 ?_;refine rg ?_;exact u.ret _ S2 rfl ψ (ZIB _) ZIz ⟨rfl,a,f,c,rfl⟩;rintro t S2 ⟨_,a,f,c,h⟩;cases h
def ZwS{f}(u:Jc f=true):dC (Zfn f=Ze5 f.name f.kind)=Zl9 f:=by
 unfold Jc at u;simp only[ZIJ,decide_eq_true_eq]at u;have t:f.kind=1\/f.kind=2\/f.kind=3\/f.kind=4\/f.kind=5\/f.kind=6\/f.kind=7\/f.kind=8\/f.kind=9\/f.kind=10\/f.kind=11\/f.kind=12:=ω;obtain⟨name,kind,bits,little,loose,low,high,size,of,tag,from_,cases_,check,key⟩:=f;obtain⟨base,terms⟩:=size;simp only at t;clear u;rw[Bool.eq_iff_iff];rcases t with h|h|h|h|h|h|h|h|h|h|h|h<;>subst h<;>simp[Zfn,Ztw,Ztx,Zty,Zop,Ztz,ZtA,Zoq,ZtB,Zor,Zp7,Zp8,ZlF,Ze5,Zl9,zrA,zrB,zrC,ZpI,ZxQ,ZcE]<;>(try(constructor<;>(intro h;simp_all)))<;>(try(intro _;simp only[and_assoc]))
def ZqU(lo hi a b):Yt lo hi [a,b]=!(dC (a<lo) ||(dC (b<a) ||decide (hi<b))):=by
 rw[Bool.eq_iff_iff];simp[Yt];omega
def ZBS(f):ZdA f=!Zc9 f:=by
 rw[Bool.eq_iff_iff];unfold ZdA Zc9;cases f.little<;>simp;by_cases t:0<=f.bits;rw[Int.tmod_eq_emod_of_nonneg t];omega;omega
def ZmG{α p}{l:List α}{x:α}:Zi p (l++[x])=if 0<=Zi p l then Zi p l else if p x then (I l) else -1:=by
 induction l with
 |nil=>simp[Zi]
 |cons y r ih =>have h1:=ZaQ p r;simp only[List.cons_append,Zi,ih,ZIP];split;simp;by_cases h:0<=Zi p r;simp[h,show ¬Zi p r<0 by omega,show 0<=Zi p r+1 by omega];simp only[h,if_false,show Zi p r<0 by omega,if_true];by_cases t:p x=true;simp[t,show ¬((I r:Int)<0) by omega];simp[t]
def ZjC(fs:List Fld)(n:Nat):Prop:=∀i,i<n->Zi (λx=>dC (x.name=(fs.getD i dE).name)) (fs.take i)<0
def Zav{α}(p:α->Bool)(l:List α)(h:0<=Zi p l):(Zi p l).toNat<I l:=by
 have:=WE p l;omega
def Zux{fs n}(hn:n<=I fs)(hd:ZjC fs n)(k):Zp k (JI fs n)=WD (fs.take n) k:=by
 induction n with
 |zero=>simp[JI,Zp,WD,Zi]
 |succ n ih =>
  have ih:=ih ω λi hi=>hd i ω;have u:=hd n ω;rw[Yo (show n<I fs by omega)];have t:(fs.take n).length=n:=by simp;omega
  simp only[JI];generalize fs.getD n dE=f at *;unfold WD;rw[ZmG];by_cases hk:f.name=k;rw[hk]at u;rw[if_neg (show ¬0<=Zi (λf=>dC (f.name=k)) (fs.take n) by omega)];simp only[hk,decide_true,if_true,t,show ¬((n:Int)<0) by omega,if_false];have hg:(fs.take n++[f]).getD ((n:Int)).toNat dE=f:=by simp[ZIN,List.getElem?_append,t]
  rw[hg];split;rw[WU,if_pos rfl];rw[ih];unfold WD;rw[if_pos u];have ab:¬k=f.name:=λh=>hk h.symm;have h0:Zp k (if YB f=true then YK f.name (KL f) (JI fs n) else JI fs n)=Zp k (JI fs n):=by split;rw[WU,if_neg ab];rfl
  rw[h0,ih];unfold WD;simp only[hk,decide_false,ZI7,if_false];by_cases hp:0<=Zi (λf=>dC (f.name=k)) (fs.take n);have hl:=Zav _ _ hp;rw[if_pos hp];have hg:(fs.take n++[f]).getD (Zi (λf=>dC (f.name=k)) (fs.take n)).toNat dE=(fs.take n).getD (Zi (λf=>dC (f.name=k)) (fs.take n)).toNat dE:=by simp[ZIN,ZI6 hl]
  rw[hg];rw[if_neg hp,if_pos ω,if_pos ω]
structure Zcm(d:Dfn)(a:Nat)(deps:List Int)(dl:List (Str×Int))(sl:List (Str×Bool)):Prop where
 len:I deps=a
 dep:∀s,Zp s dl=if Zz d s a<0 then none else some (deps.getD (Zz d s a).toNat default)
 str:∀s,Zp s sl=if Zz d s a<0 then none else some ((KR d a).getD (Zz d s a).toNat default)
def Zcm.has{d a deps dl sl}(h:Zcm d a deps dl sl)(s):(Zp s dl).isSome=!dC (Zz d s a<0):=by
 rw[h.dep];split<;>simp_all
def Zcm.strict{d a deps dl sl}(h:Zcm d a deps dl sl)(s):(Zp s sl).getD false=(!dC (Zz d s a<0)&&(KR d a).getD (Zz d s a).toNat dE):=by
 rw[h.str];split<;>simp_all
def ZDF{f}(hk:f.kind=1\/f.kind=2):(if f.kind=1 then ck1 f else ck2 f)=dC (QM f=0):=by
 unfold ck1 ck2 QM Zkw Zll;rw[ZBS,ZqU];cases hb:Zc9 f
 .have hp:(0:Int)<2 ^ f.bits.toNat:=by have:=Nat.two_pow_pos f.bits.toNat;rw[show(2:Int) ^ f.bits.toNat=((2 ^ f.bits.toNat:Nat):Int) from(Int.natCast_pow 2 f.bits.toNat).symm];omega
  generalize (2:Int) ^ f.bits.toNat=pw at *;rcases hk with hk|hk<;>rw[Bool.eq_iff_iff]<;>simp[hk,Yt]<;>(try split)<;>(try omega);all_goals (try simp_all)<;>omega
 simp
def ZnY{fs}(hd:ZjC fs (I fs)){s}:ZfR fs s=dC (Zd8 fs s=0):=by
 have u:(λk=>Zp k (QD fs))=WD fs:=by funext k;have:=Zux (ZIO _) hd k;rw[ZJa]at this;exact this
 unfold ZfR Zd8 ivP;rw[u];have hk:s.terms.all (ZcG fs)=!s.terms.any (JD (WD fs)):=by
  rw[List.not_any_eq_all_not]
  congr 1;funext t
  have:Zp t.field (QD fs)=WD fs t.field:=congrFun u _;unfold ZcG JD;rw[this];simp
 rw[hk];cases Z9 s;simp;cases s.terms.any (JD (WD fs));simp only[ZIY,Bool.not_false,ZI7,if_false,Bool.true_eq_false];rw[Bool.eq_iff_iff];simp;omega;simp
def Zz5{d a deps dl sl}(h:Zcm d a deps dl sl)(hi lo l):Zcu dl hi lo l=dC (Zfg d a hi lo l=0):=by
 induction l generalizing lo with
 |nil=>simp[Zcu,Zfg]
 |cons c r ih =>simp only[Zcu,Zfg,ZqU,h.has,ih];rcases Bool.eq_false_or_eq_true (dC (c.low<lo) ||(dC (c.high<c.low) ||decide (hi<c.high))) with hb|hb<;>simp only[hb];simp;simp only[Bool.not_false,ZIY,ZI7,if_false];by_cases t:Zz d c.of a<0<;>simp[t]
def ZAk{t}(hd:ZjC t (I t))(k):(Zp k (QD t)).isSome=(!dC (Zi (λf=>dC (f.name=k)) t<0)&&YB (t.getD (Zi (λf=>dC (f.name=k)) t).toNat dE)) /\
  ((Zp k (QD t)).isSome=true->(Zp k (QD t)).getD (0,0)=KL (t.getD (Zi (λf=>dC (f.name=k)) t).toNat dE)):=by
 have:=Zux (ZIO _) hd k;rw[ZJa]at this;rw[this];unfold WD;split;rename_i h;simp[h];rename_i h;split;rename_i u;simp only[h,u];simp;rename_i u;simp only[h,u];simp
def ZAJ{d a deps dl sl}(h:Zcm d a deps dl sl){m i}(hi:i<I m.fields)(hd:ZjC m.fields i){f}(hk:Jc f=true):
  Zfj (m.fields.take i) dl sl f=dC (Qo d a m i f=0):=by
 have ag:(m.fields.take i).length=i:=by simp;omega
 have u:ZjC (m.fields.take i) (m.fields.take i).length:=λj hj=>by rw[ag]at hj;rw[QX ω,List.take_take,Nat.min_eq_left ω];exact hd j hj
 unfold Jc at hk;simp only[ZIJ,decide_eq_true_eq]at hk;have aj:f.kind=1\/f.kind=2\/f.kind=3\/f.kind=4\/f.kind=5\/f.kind=6\/f.kind=7\/f.kind=8\/f.kind=9\/f.kind=10\/f.kind=11\/f.kind=12:=ω;have hn:=ZDF (f:=f);unfold Zfj Qo;rcases aj with h1|h1|h1|h1|h1|h1|h1|h1|h1|h1|h1|h1<;>simp only[h1,ZJg,if_true,if_false,true_or,or_true,or_self,forall_const,false_implies]at hn⊢;exact hn;exact hn;unfold ck3;rw[ZqU,ZsM];by_cases hA:0<=f.low/\f.low<=f.high/\f.high<34359738368;simp[hA];omega;rw[Bool.eq_iff_iff];simp;omega;exact ZnY u;unfold ck5;rw[Bool.eq_iff_iff];simp[Yt]<;>omega;unfold ck6;rw[Bool.eq_iff_iff];simp[Yt]<;>omega;unfold ck7;rw[h.has,ZnY u];by_cases h2:Zz d f.of a<0<;>simp[h2];unfold ck8;rw[h.has];by_cases h2:Zz d f.of a<0<;>simp[h2];have ht:=ZAk u f.tag;unfold ZjL ZjV Ztm;rw[Zz5 h];have ad:KV m f.tag i=Zi (λf'=>dC (f'.name=f.tag)) (m.fields.take i):=rfl;rw[ad];have ak:Zwp m f.tag i=ZfY (m.fields.take i) f:=rfl;rw[ak];generalize hz:Zi (λf'=>dC (f'.name=f.tag)) (m.fields.take i)=z at *;by_cases af:z<0;simp[ht.1,af];have ai:=Zav (λf':Fld=>dC (f'.name=f.tag)) (m.fields.take i) ω;rw[hz,ag]at ai;have hg:(m.fields.take i).getD z.toNat dE=m.fields.getD z.toNat dE:=QX ai;rw[hg]at ht;by_cases t:YB (m.fields.getD z.toNat dE)=true;have hs:(Zp f.tag (QD (m.fields.take i))).isSome=true:=by rw[ht.1,t];simp[af]
 rw[ht.2 hs,hs,t];cases ZfY (m.fields.take i) f;simp only[af,decide_false,Bool.not_true,Bool.or_self,Bool.not_false,ZIY,ZI7,if_false,Bool.false_or];by_cases hl:1<=I f.cases/\I f.cases<=40;have ab:(dC (1<=(I f.cases:Int))&&dC ((I f.cases:Int)<=40))=true:=by simp only[ZIJ,decide_eq_true_eq];omega
 have ac:(dC (I f.cases<1) ||decide (40<I f.cases))=false:=by simp only[Bool.or_eq_false_iff,decide_eq_false_iff_not];omega
 rw[ab,ac];simp;have ab:(dC (1<=(I f.cases:Int))&&dC ((I f.cases:Int)<=40))=false:=by simp only[Bool.and_eq_false_iff,decide_eq_false_iff_not];omega
 have ac:(dC (I f.cases<1) ||decide (40<I f.cases))=true:=by simp only[ZIW,decide_eq_true_eq];omega
 rw[ab,ac];simp;simp;have ae:YB (m.fields.getD z.toNat dE)=false:=by simpa using t
 rw[ht.1,ae];simp;unfold ZwN Zo7;rw[Bool.eq_iff_iff];generalize f.bits=b;by_cases h0:0<=b;rw[Int.tmod_eq_emod_of_nonneg h0];simp;omega;simp;omega;unfold ZwO;have ad:KV m f.from_ i=Zi (λf'=>dC (f'.name=f.from_)) (m.fields.take i):=rfl;rw[ad];rw[Bool.eq_iff_iff];simp[Yt];generalize Zi (λf'=>dC (f'.name=f.from_)) (m.fields.take i)=z;split;simp;omega;split<;>simp<;>omega;unfold ZwP ZqS;rw[h.strict,ZnY u];by_cases ah:f.key<0\/4294967295<f.key;rw[if_pos (by simpa using ah)];simp[Yt];omega;rw[if_neg (by simpa using ah)];have:Yt 0 4294967295 [f.key]=true:=by simp[Yt];omega
 rw[this];by_cases h2:Zz d f.of a<0;simp[h2];simp only[h2,decide_false,Bool.not_false,ZIY,Bool.false_or];cases(KR d a).getD (Zz d f.of a).toNat dE<;>simp
def ZAn{d a deps dl sl}(h:Zcm d a deps dl sl){m i}(hi:i<I m.fields)(hd:ZjC m.fields i)(f):
  QR (m.fields.take i) dl sl f=dC (Qn d a m i f=0):=by
 unfold QR Qn;rw[show Zi (λx=>dC (x.name=f.name)) (m.fields.take i)=KV m f.name i from rfl];cases Wa f.name;simp;by_cases h1:0<=KV m f.name i;simp[h1];by_cases hk:Jc f=true;have t:(dC (f.kind<1) ||decide (12<f.kind))=false:=by unfold Jc at hk;simp only[ZIJ,decide_eq_true_eq]at hk;simp only[Bool.or_eq_false_iff,decide_eq_false_iff_not];omega
 rw[ZwS hk,ZAJ h hi hd hk,hk,t];cases Zl9 f<;>simp[h1];have u:Jc f=false:=by simpa using hk
 have t:(dC (f.kind<1) ||decide (12<f.kind))=true:=by unfold Jc at hk;simp only[ZIJ,decide_eq_true_eq]at hk;simp only[ZIW,decide_eq_true_eq];omega
 rw[u,t];simp[h1]
def Zqg{d a m}(j){l l'}(h:YM d a m j l=nO):YM d a m j (l++l')=YM d a m (j+I l) l':=by
 induction l generalizing j with
 |nil=>rfl
 |cons f r ih =>
  simp only[YM]at h;split at h;rename_i t;simp only[List.cons_append,YM,t,if_true,ZIP];rw[ih _ h]
  congr 1;omega
  simp at h
def ZyD{d a deps dl sl}(h:Zcm d a deps dl sl){m}(n)(hn:n<=I m.fields):
  (QL dl sl m n=true↔YM d a m 0 (m.fields.take n)=nO)/\(QL dl sl m n=true->ZjC m.fields n):=by
 induction n with
 |zero=>simp[QL,YM,ZjC]
 |succ n ih =>
  have ih:=ih ω;rw[Zj7,Yo (show n<I m.fields by omega),ZIJ];have t:(m.fields.take n).length=n:=by simp;omega
  by_cases hp:QL dl sl m n=true;have hf:=ih.1.1 hp;have hd:=ih.2 hp;rw[Zqg _ hf,ZAn h (show n<I m.fields by omega) hd,t,Nat.zero_add];simp only[YM];refine⟨?_,λhh=>?_⟩;simp only[hp,true_and,decide_eq_true_eq];split<;>simp_all;have hz:Qn d a m n (m.fields.getD n dE)=0:=by simpa using hh.2
  intro j hj;by_cases u:j<n;exact hd j u;obtain rfl:j=n:=ω;unfold Qn at hz;split at hz;· omega
  split at hz;· omega
  rename_i h2;unfold KV at h2;omega;refine⟨?_,λhh=>absurd hh.1 hp⟩;constructor;intro hh;exact absurd hh.1 hp;intro hh;exfalso;apply hp;refine ih.1.2 ?_;have ab:∀(j:Nat) (l l':List Fld),YM d a m j (l++l')=nO->YM d a m j l=nO:=by
   intro j l l';induction l generalizing j with
   |nil=>intro _;rfl
   |cons f r ih2 =>simp only[List.cons_append,YM];split;exact ih2 _;simp
  exact ab _ _ _ hh
def ZoR{α:Type}{l:List α}{p q:α->Int}(h:∀s∈l,p s=q s)(b):l.foldl (λa s=>max a (p s)) b=l.foldl (λa s=>max a (q s)) b:=by
 induction l generalizing b with
 |nil=>rfl
 |cons x r ih =>simp only[List.foldl_cons,h x ψ];exact ih (λs t=>h s (by simp[t])) _
def ZwI{α:Type}{p q}{l:List α}(h:∀x∈l,p x=q x):l.all p=l.all q:=by
 induction l with
 |nil=>rfl
 |cons x r ih=>simp only[List.all_cons,h x ψ,ih λy t=>h y (by simp[t])]
def ZDB{d a deps dl sl}(h:Zcm d a deps dl sl){m}(hm:d.msgs.getD a dE=m):
  (Zen dl sl m=true↔W5 d a m=nO/\Zfp d a deps m<=16)/\(W5 d a m=nO->Kl dl m+1=Zfp d a deps m/\Ju sl m=ZfW d m (KR d a)):=by
 have hf:=ZyD h (m:=m) (I m.fields) (ZIO _);rw[ZJa]at hf;have h2:W5 d a m=nO->Kl dl m+1=Zfp d a deps m/\Ju sl m=ZfW d m (KR d a):=λhh=>by
  have ab:=(ZBg hm hh).ref;rw[hm]at ab;constructor;unfold Kl Zfp Zyo
  congr 1
  refine ZoR (λs hs=>?_) _;have:=ab s hs;rw[h.dep,if_neg ω];rfl;unfold Ju ZfW
  congr 1
  refine ZwI λs hs=>?_;have:=ab s hs;rw[h.strict,Zc0];simp[show ¬Zz d s a<0 by omega]
 refine⟨?_,h2⟩;unfold Zen;rw[h.has];by_cases hn:Wa m.name=true;by_cases hd:Zz d m.name a<0;by_cases hl:1<=I m.fields/\I m.fields<=40;have t:(dC (1<=(I m.fields:Int))&&dC ((I m.fields:Int)<=40))=true:=by simp only[ZIJ,decide_eq_true_eq];omega
 have u:(dC (I m.fields<1) ||decide (40<I m.fields))=false:=by simp only[Bool.or_eq_false_iff,decide_eq_false_iff_not];omega
 have ac:W5 d a m=YM d a m 0 m.fields:=by unfold W5;rw[if_neg (by simp[hn]),if_neg ω,u];rfl
 rw[ac]at h2⊢;rw[t,hn];simp only[hd,decide_true,Bool.not_true,Bool.not_false,ZIY,ZIJ,decide_eq_true_eq,hf.1];constructor;rintro⟨h3,h4⟩;have:=(h2 h3).1;exact⟨h3,ω⟩;rintro⟨h3,h4⟩;have:=(h2 h3).1;exact⟨h3,ω⟩;have t:(dC (1<=(I m.fields:Int))&&dC ((I m.fields:Int)<=40))=false:=by simp only[Bool.and_eq_false_iff,decide_eq_false_iff_not];omega
 have u:(dC (I m.fields<1) ||decide (40<I m.fields))=true:=by simp only[ZIW,decide_eq_true_eq];omega
 unfold W5;rw[t,u,if_neg (by simp[hn]),if_neg ω];simp;unfold W5;rw[if_neg (by simp[hn]),if_pos ω];simp[hd];have ad:Wa m.name=false:=by simpa using hn
 unfold W5;rw[ad];simp
def ZoG{d a m}(t:a<I d.msgs)(hm:d.msgs.getD a dE=m)(s):Zz d s (a+1)=if 0<=Zz d s a then Zz d s a else if m.name=s then (a:Int) else -1:=by
 unfold Zz;rw[Yo t,hm,ZmG];have:(d.msgs.take a).length=a:=by simp;omega
 rw[this];simp
def Zkc{α:Type}[Inhabited α]{l}{a:Nat}{v:α}(h:I l=a):(l++[v]).getD a dE=v:=by subst h;simp[ZIN]
def Zkd{α:Type}[Inhabited α]{l}{a:Nat}{v:α}(h:a<I l):(l++[v]).getD a dE=l.getD a dE:=by simp[ZIN,ZI6 h]
def Zcm.step{d:Dfn}{a:Nat}{deps:List Int}{dl:List (Str×Int)}{sl:List (Str×Bool)}(h:Zcm d a deps dl sl){m:Msg}(ha:a<I d.msgs)(hm:d.msgs.getD a dE=m)(hnew:Zz d m.name a<0)(v:Int):
  Zcm d (a+1) (deps++[v]) (YK m.name v dl) (YK m.name (ZfW d m (KR d a)) sl):={
 len:=by simp[h.len]
 dep s:=by
  rw[WU,ZoG ha hm,h.dep];by_cases hs:s=m.name;subst hs;rw[if_pos rfl,if_neg (show ¬0<=Zz d m.name a by omega),if_pos rfl,if_neg ω];rw[show((a:Int)).toNat=a from rfl,Zkc h.len];rw[if_neg hs];by_cases u:0<=Zz d s a;have t:(Zz d s a).toNat<I deps:=by
   have:=Zav _ _ u;rw[h.len];have h3:(d.msgs.take a).length<=a:=by simp;omega
   unfold Zz;omega
  rw[if_pos u,if_neg ω,if_neg ω,Zkd t];rw[if_neg u,if_neg (show ¬m.name=s from λe=>hs e.symm),if_pos ω,if_pos ω]
 str s:=by
  rw[WU,ZoG ha hm,h.str];simp only[KR,hm];by_cases hs:s=m.name;subst hs;rw[if_pos rfl,if_neg (show ¬0<=Zz d m.name a by omega),if_pos rfl,if_neg ω];rw[show((a:Int)).toNat=a from rfl,Zkc (Zc0 d a)];rw[if_neg hs];by_cases u:0<=Zz d s a;have t:(Zz d s a).toNat<(KR d a).length:=by
   have:=Zav _ _ u;rw[Zc0];have h3:(d.msgs.take a).length<=a:=by simp;omega
   unfold Zz;omega
  rw[if_pos u,if_neg ω,if_neg ω,Zkd t];rw[if_neg u,if_neg (show ¬m.name=s from λe=>hs e.symm),if_pos ω,if_pos ω] }
def ZDR{d}(n):∀{a deps dl sl},Zcm d a deps dl sl->a+n=I d.msgs ->
  ((ZcT dl sl (d.msgs.drop a)).elim false λp=>(Zp d.start p.1).isSome)=(JP d a (d.msgs.drop a) deps).isNone:=by
 induction n with
 |zero =>intro a deps dl sl h ha;obtain rfl:a=I d.msgs:=ω;rw[List.drop_length];simp only[ZcT,JP,Option.elim,h.has];by_cases hs:Zz d d.start (I d.msgs)<0<;>simp[hs]
 |succ n ih =>
  intro a deps dl sl h ha;have t:a<I d.msgs:=ω;rw[Wh t];generalize hm:d.msgs.getD a dE=m;have he:=ZDB h hm;simp only[ZcT,JP];by_cases hp:Zen dl sl m=true;obtain⟨u,h2⟩:=he.1.1 hp;obtain⟨h3,h4⟩:=he.2 u;rw[if_pos hp,u];simp only;rw[if_neg ω,h3,h4];refine ih (h.step t hm ?_ _) ω;unfold W5 at u;split at u;· simp at u
  split at u;· simp at u
  omega;rw[if_neg hp];cases u:W5 d a m with
  |some x=>obtain⟨i,c⟩:=x;rfl
  |none =>have:¬Zfp d a deps m<=16:=λh2=>hp (he.1.2 ⟨u,h2⟩);simp only;rw[if_pos ω];rfl
def Zur(d):Zd3 d=Zf1 d:=by
 unfold Zd3 Zf1 Zts;cases hn:Wa d.name;rfl;by_cases hl:1<=I d.msgs/\I d.msgs<=60;have t:(dC (1<=(I d.msgs:Int))&&dC ((I d.msgs:Int)<=60))=true:=by simp only[ZIJ,decide_eq_true_eq];omega
 have u:(dC (I d.msgs<1) ||decide (60<I d.msgs))=false:=by simp only[Bool.or_eq_false_iff,decide_eq_false_iff_not];omega
 rw[t,u];simp only[ZIY,Bool.true_eq_false,ZI7,if_false];have h0:Zcm d 0 [] [] []:=⟨rfl,λs=>by simp[Zp,Zz,Zi],λs=>by simp[Zp,Zz,Zi]⟩;have:=ZDR (I d.msgs) h0 ω;rw[List.drop_zero]at this;exact this;have t:(dC (1<=(I d.msgs:Int))&&dC ((I d.msgs:Int)<=60))=false:=by simp only[Bool.and_eq_false_iff,decide_eq_false_iff_not];omega
 have u:(dC (I d.msgs<1) ||decide (60<I d.msgs))=true:=by simp only[ZIW,decide_eq_true_eq];omega
 rw[t,u];rfl
def Ztb{st b c0 c1 v0 v1}(hb:st b=sO (.cells [c0,c1]))(h0:VT ZIy c0 [] st (.bool v0) st)(h1:VT ZIy c1 [] st (.bool v1) st):
  ZO ZIy 227 [.msl b 0 2 2 1,.fn (.func 186) [] []] st (.i (if v0 then (if v1 then -1 else 1) else 0)) st:=by
 refine ZG (cR 227 f227) λab F t=>?_;clear ab;have g0:=(Zfe h0).VT (first:=[]) (args:=[c0]) (caps:=[]);have g1:=(Zfe h1).VT (first:=[]) (args:=[c1]) (caps:=[]);refine gG ?_;refine Ze (ZaF ?_);refine rg ?_;refine i1 ?_;refine rg ?_;refine xA @hb ?_;refine cW (g0) ?_;refine cd (λhc=>?_) (λhc=>?_);have hv:v0=false:=by cases v0<;>simp_all
 rw[hv]at t;refine rg ?_;exact t rfl φ (ZIB _) ZIz;have hv:v0=true:=by cases v0<;>simp_all
 rw[hv]at t;refine gA ?_;rw[show(0:Int)+1=1 from rfl];refine Zf ?_;refine rg ?_;refine i1 ?_;refine rg ?_;refine xA @hb ?_;refine cW (g1) ?_;refine cd (λhd=>?_) (λhd=>?_);have u:v1=false:=by cases v1<;>simp_all
 rw[u]at t;refine rg ?_;exact t rfl φ (ZIB _) ZIz;have u:v1=true:=by cases v1<;>simp_all
 rw[u]at t;refine gA ?_;rw[show(1:Int)+1=2 from rfl];refine Zf ?_;refine rg ?_;refine iG ?_;exact t rfl φ (ZIB _) ZIz
def Zr5{st b c0 c1 v0 v1}(hb:st b=sO (.cells [c0,c1]))(h0:VT ZIy c0 [] st (.bool v0) st)(h1:VT ZIy c1 [] st (.bool v1) st):
  ZO ZIy 185 [.msl b 0 2 2 1,.fn (.func 186) [] []] st (.bool (!v0||!v1)) st:=by
 refine ZG (cR 185 f185) λu F t=>?_;clear u;refine gG ?_;refine ct (Ztb hb h0 h1) ?_;exact t rfl φ (by cases v0<;>cases v1<;>exact ZIB _) ZIz
def Zfy{L s}(l):qv L s .lenL [.d (Zq l)]=sO (True,.d (.i (I l))):=rfl
def atF{L s}(l i):qv L s (.iaddr 15) [.d (Zq l),.d (.i i)]=sO (0<=i/\i<I l,.d (.ep (l.getD i.toNat dE).cells 0)):=rfl
def ZaS(f:Fld):I f.cells=15:=rfl
def Zeu(f:Fld):List.take 15 f.cells=f.cells:=rfl
def Zhs(l)(hl:I l<=1000)(hb:∀f∈l,Zhn f)(i:Nat)(hi:i<=I l){st:St}:ZO ZIy 135 [Zq l,.i i,.i (KB l i)] st (.bool (Qr l i)) st:=by
 refine ZG (cR 135 f135) λag F t=>?_;clear ag;have hW:=Qr.eq_1 l i;refine rx (nd2 @okF @ceF) ?_;refine rx @Zfy ?_;refine cd (λhc=>?_) (λhc=>?_);have u:i=I l:=by simp at hc;omega
 rw[if_pos u]at hW;refine rg ?_;exact t rfl φ (by rw[hW];exact ZIB _) ZIz;have u:i<I l:=by simp at hc;omega
 rw[if_neg ω]at hW;generalize hg:l.getD i dE=g at *;refine xA (nd2 @atF (nd2 @hg (nd2 @ZaS @Zeu))) ?_;refine Zc ?_;refine xP 3 λz3 h3=>?_;refine xP 5 λz5 h5=>?_;refine xP 7 λz7 h7=>?_;refine rg ?_;refine Zc ?_;refine xP 8 λz8 h8=>?_;have k5:=Zo h5;have k7:=Zo h7;have ah:=Zo k7.2;have k8:=Zo h8;have ad:=Zo k8.2;have ai:=Zo ad.2;obtain⟨A,hA⟩:∃A,A=((((st.upd z3 (.cells [Zq l])).upd z5 (.cells [.i (KB l i)])).upd z7 (.cells g.cells)).upd z8 (.cells [.fn (.func 180) [] [.ptr z5 0,.ptr z7 0],.fn (.func 182) [] [.ptr z3 0,.ptr z7 0]])):=⟨_,rfl⟩;have g3:A z3=sO (.cells [Zq l]):=by rw[hA,ZIG _ _ ai.1.symm,ZIG _ _ ah.1.symm,ZIG _ _ k5.1.symm];exact ZIE _ _ _
 have g5:A z5=sO (.cells [.i (KB l i)]):=by rw[hA,ZIG _ _ ad.1.symm,ZIG _ _ k7.1.symm];exact ZIE _ _ _
 have g7:A z7=sO (.cells g.cells):=by rw[hA,ZIG _ _ k8.1.symm];exact ZIE _ _ _
 have g8:A z8=sO (.cells [.fn (.func 180) [] [.ptr z5 0,.ptr z7 0],.fn (.func 182) [] [.ptr z3 0,.ptr z7 0]]):=by rw[hA];exact ZIE _ _ _
 have ac:st.sub A:=by rw[hA];exact ZJh (ZIZ _ h3) (ZJh (ZIZ _ h5) (ZJh (ZIZ _ h7) (ZIZ _ h8)))
 have ae:=(Znf g5 g7).VT (first:=[]) (args:=[]) (caps:=[_,_]);have af:=(Zng hl hb g3 g7 ω).VT (first:=[]) (args:=[]) (caps:=[_,_]);have ab:=Zr5 g8 ae af;rw[<-hA];clear hA;refine rg ?_;refine⟨by decide,by decide,by decide,by decide,by unfold big;decide,?_⟩;rw[show(if ((2:Nat):Int)=0 then 0 else 0*1)=(0:Nat) from rfl];refine ct (ab) ?_;exact t rfl φ (by rw[hW];exact ZIB _) ac
end Go.DL
