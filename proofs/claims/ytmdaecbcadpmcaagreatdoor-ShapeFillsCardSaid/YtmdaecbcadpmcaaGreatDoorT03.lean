/- Lemmas: Api, DlAe, DlAf, R04a, Lst, R04b, R04c, Iv, R04d, R04e, R05a, R05b, R05c, R05d, R05e, R05f, R05g, R05h, R05i, R05j, R05k, Own, S00, S01, S02, Val, W01, W02, W03, Maps, S03, S04, S05, S06, S10, S11, R05l, R43d, U01, A01, A02, A03, S12, S13, S14, S15, S16, S17, S18. -/
import Derived.Test.YtmdaecbcadpmcaaGreatDoorT02
set_option maxHeartbeats 16000000
set_option maxRecDepth 100000
set_option linter.all false
open List renaming length->I
open Option renaming some -> sO, none -> nO
open Inhabited renaming default -> dE
open Decidable renaming decide -> dC
open Go.Proofs.Tryz
open And renaming intro -> ZHG
open Bool renaming and_eq_false_iff -> ZIl, and_eq_true -> ZHN, false_and -> ZH7, false_eq_true -> ZIe, or_eq_true -> ZH0, true_and -> ZH3
open Go.DL.D.Le renaming refl -> ZHL
open Go.DL.St renaming single -> ZH9, sub_refl -> ZHH, sub_trans -> ZIn, sub_upd -> ZH6, upd -> ZIi, upd_ne -> ZHQ, upd_same -> ZHP, upd_upd -> ZH4
open Go.Proofs.Tryz renaming prog -> ZHF
open Int renaming reduceEq -> ZIp, reduceToNat -> ZHK
open List renaming append_assoc -> ZIg, getD -> ZHU, getElem?_append_left -> ZIc, getElem?_append_right -> ZIq, getElem?_eq_getElem -> ZIb, getElem?_eq_none -> ZIr, getElem_of_mem -> ZH1, length_append -> ZHO, length_cons -> ZHW, length_drop -> ZIh, length_take -> ZHZ, map_cons -> ZHY, map_nil -> ZIf, mem_cons -> ZIj, range -> ZHT, take_length -> ZH2
open Nat renaming add_mul -> ZIa, le_refl -> ZHV, mul_le_mul_right -> ZH5, reduceAdd -> ZHM, reduceEqDiff -> ZHI, reduceLeDiff -> ZHJ
open Option renaming getD_some -> ZIk
namespace Go.DL
open Go
variable {kp:Option (List Nat)}{L:Loc}{H:Env}{s:St}{w:World}{os:List DOp}{ds:List D}{B:List (Nat × Rd)}{dst:Option Nat}{tmps:Array Value}{g:G}{Φ:Res->St->Prop}{Z:Nat->Nat}{xs:List Opd}{side:Prop}{row:Nat->List D}
abbrev Str:=List UInt8
structure Yn where
 field:Str
 factor:Int
deriving Inhabited,DecidableEq
structure Jp where
 base:Int
 terms:List Yn
deriving Inhabited,DecidableEq
structure Yw where
 low:Int
 high:Int
 of:Str
deriving Inhabited,DecidableEq
structure Fld where
 name:Str
 kind:Int
 bits:Int
 little:Bool
 loose:Bool
 low:Int
 high:Int
 size:Jp
 of:Str
 tag:Str
 from_:Str
 cases:List Yw
 check:Int
 key:Int
deriving Inhabited,DecidableEq
structure Msg where
 name:Str
 fields:List Fld
deriving Inhabited,DecidableEq
structure Dfn where
 name:Str
 msgs:List Msg
 start:Str
deriving Inhabited,DecidableEq
def slD{α:Type}[Inhabited α](n:Nat)(f:α->List D)(l:List α):D:=.sl .none (I l) n (λi=>f (l.getD i dE))
def eQ1:=@slD.eq_1
def Yn.cells(t:Yn):List D:=[.str t.field,.i t.factor]
def eQ8:=@Yn.cells.eq_1
def Yw.cells(c:Yw):List D:=[.i c.low,.i c.high,.str c.of]
def eQ9:=@Yw.cells.eq_1
def Yd(l:List Yn):D:=slD 2 Yn.cells l
def eQ6:=@Yd.eq_1
def Yk(l:List Yw):D:=slD 3 Yw.cells l
def Jp.cells(s:Jp):List D:=[.i s.base,Yd s.terms]
def eQ4:=@Jp.cells.eq_1
def Fld.cells(f:Fld):List D:=[.str f.name,.i f.kind,.i f.bits,.bool f.little,.bool f.loose,.i f.low,.i f.high,.i f.size.base,Yd f.size.terms,.str f.of,.str f.tag,.str f.from_,Yk f.cases,.i f.check,.i f.key]
def eQ0:=@Fld.cells.eq_1
def Zk(l:List Fld):D:=slD 15 Fld.cells l
def eQ5:=@Zk.eq_1
def Msg.cells(m:Msg):List D:=[.str m.name,Zk m.fields]
def eQ3:=@Msg.cells.eq_1
def Yy(l:List Msg):D:=slD 2 Msg.cells l
def eQ7:=@Yy.eq_1
def Dfn.cells(d:Dfn):List D:=[.str d.name,Yy d.msgs,.str d.start]
def eQ2:=@Dfn.cells.eq_1
def YR{α}[Inhabited α]{n}{f:α->List D}{l:List α}(h:DWf (slD n f l)):I l<=big/\∀x∈l,∀c∈f x,DWf c:=by
 obtain⟨z,h2,t⟩:=h.sl_inv;refine⟨z,λx hx c u=>?_⟩;obtain⟨i,j,rfl⟩:=ZH1 hx;exact t i j c (by simpa[ZHU,j]using u)
structure Yn.Wf(t:Yn):Prop where
 field:I t.field<=big
 factor:inR .i64 t.factor
structure Yw.Wf(c:Yw):Prop where
 low:inR .i64 c.low
 high:inR .i64 c.high
 of:I c.of<=big
structure Jp.Wf(s:Jp):Prop where
 base:inR .i64 s.base
 nterms:I s.terms<=big
 terms:∀t∈s.terms,t.Wf
structure Fld.Wf(f:Fld):Prop where
 name:I f.name<=big
 kind:inR .i64 f.kind
 bits:inR .i64 f.bits
 low:inR .i64 f.low
 high:inR .i64 f.high
 size:f.size.Wf
 of:I f.of<=big
 tag:I f.tag<=big
 from_:I f.from_<=big
 ncases:I f.cases<=big
 cases:∀c∈f.cases,c.Wf
 check:inR .i64 f.check
 key:inR .i64 f.key
structure Msg.Wf(m:Msg):Prop where
 name:I m.name<=big
 nfields:I m.fields<=big
 fields:∀f∈m.fields,f.Wf
structure Dfn.Wf(d:Dfn):Prop where
 name:I d.name<=big
 nmsgs:I d.msgs<=big
 msgs:∀m∈d.msgs,m.Wf
 start:I d.start<=big
def Yn.wf_of{t:Yn}(h:∀c∈t.cells,DWf c):t.Wf:=by
 simp only[Yn.cells,ZIj,List.not_mem_nil,or_false,forall_eq_or_imp,forall_eq]at h;exact⟨h.1.str_inv,h.2.int_inv⟩
def Yw.wf_of{t:Yw}(h:∀c∈t.cells,DWf c):t.Wf:=by
 simp only[Yw.cells,ZIj,List.not_mem_nil,or_false,forall_eq_or_imp,forall_eq]at h;exact⟨h.1.int_inv,h.2.1.int_inv,h.2.2.str_inv⟩
def ZiX{l}(h:DWf (Yd l)):I l<=big/\∀t∈l,t.Wf:=⟨(YR h).1,λt i=>Yn.wf_of ((YR h).2 t i)⟩
def ZsG{l}(h:DWf (Yk l)):I l<=big/\∀t∈l,t.Wf:=⟨(YR h).1,λt i=>Yw.wf_of ((YR h).2 t i)⟩
def Jp.wf_of{s:Jp}(h:∀c∈s.cells,DWf c):s.Wf:=by
 simp only[Jp.cells,ZIj,List.not_mem_nil,or_false,forall_eq_or_imp,forall_eq]at h;exact⟨h.1.int_inv,(ZiX h.2).1,(ZiX h.2).2⟩
def Fld.wf_of{f:Fld}(h:∀c∈f.cells,DWf c):f.Wf:=by
 simp only[Fld.cells,ZIj,List.not_mem_nil,or_false,forall_eq_or_imp,forall_eq]at h;obtain⟨h1,h2,h3,h4,h5,h6,h7,h8,h9,j,u,n,i,z,t⟩:=h;exact⟨h1.str_inv,h2.int_inv,h3.int_inv,h6.int_inv,h7.int_inv,⟨h8.int_inv,(ZiX h9).1,(ZiX h9).2⟩,j.str_inv,u.str_inv,n.str_inv,(ZsG i).1,(ZsG i).2,z.int_inv,t.int_inv⟩
def ZjH{l}(h:DWf (Zk l)):I l<=big/\∀t∈l,t.Wf:=⟨(YR h).1,λt i=>Fld.wf_of ((YR h).2 t i)⟩
def Msg.wf_of{m:Msg}(h:∀c∈m.cells,DWf c):m.Wf:=by
 simp only[Msg.cells,ZIj,List.not_mem_nil,or_false,forall_eq_or_imp,forall_eq]at h;exact⟨h.1.str_inv,(ZjH h.2).1,(ZjH h.2).2⟩
def ZvB{l}(h:DWf (Yy l)):I l<=big/\∀t∈l,t.Wf:=⟨(YR h).1,λt i=>Msg.wf_of ((YR h).2 t i)⟩
def Dfn.wf_of{m:Dfn}(h:∀c∈m.cells,DWf c):m.Wf:=by
 simp only[Dfn.cells,ZIj,List.not_mem_nil,or_false,forall_eq_or_imp,forall_eq]at h;exact⟨h.1.str_inv,(ZvB h.2.1).1,(ZvB h.2.1).2,h.2.2.str_inv⟩
def ZvS{s:Jp}(h:DWf (.agg s.cells)):s.Wf:=Jp.wf_of h.agg_inv
def ZCl{s:Fld}(h:DWf (.agg s.cells)):s.Wf:=Fld.wf_of h.agg_inv
def ZfI{s:Msg}(h:DWf (.agg s.cells)):s.Wf:=Msg.wf_of h.agg_inv
def Zhu{s:Dfn}(h:DWf (.agg s.cells)):s.Wf:=Dfn.wf_of h.agg_inv
def Zm{α:Type}[Inhabited α]{l:List α}{i}(h:i<I l):l.getD i dE∈l:=by
 simp[ZHU,h]
end Go.DL
namespace Go.DL
open Go
variable [Zsq]
variable {kp:Option (List Nat)}{L:Loc}{H:Env}{s:St}{w:World}{os:List DOp}{ds:List D}{B:List (Nat × Rd)}{dst:Option Nat}{tmps:Array Value}{g:G}{Φ:Res->St->Prop}{Z:Nat->Nat}{xs:List Opd}{side:Prop}{row:Nat->List D}
def Zjp(P:Program)(fv:D)(n:Nat)(args:Nat->List D)(t:St):Prop :=
 ∀(l:Nat) (go:Nat->Oc) (A:Nat->St->Prop) (a0:St),Zmw P (.fn (.yield l) [] []) n args go A->A 0 a0->Yc a0 t->Ki P fv [.fn (.yield l) [] []] (a0.or t) λr S=>∃a,Zhk n go A a r/\a.sub S
section
variable {P:Program}
def Zds.Y{fv n args t}(h:Zds P fv n args t):Zjp P fv n args t:=λ_=>h _
def KM{F:Fr P}{rs}{Φ}{dds}(hF:Y0 F rs Φ dds){o}{ps}{da db}{dk}{H}{L}{p}{fv}(hf:ZD H true o=sO (p,.d fv))(hp:p)(ks)(hks:(Yx H ks).map (·.1) |>.Nodup){a0 t}(hd:Yc a0 t){n}{args}(hit:Zjp P fv n args t)(hlen:∀j,j<n->(args j).length=I ps)(go:Nat->Oc)(B:Nat->St->Prop)(h0:B 0 a0)(hbody:∀j a,j<n->(∀i,i<j->go i=.next)->B j a->∀(F':Fr P) (ready busy:St),Yc a ready ->
   (∀{dk:List KH} {H:Env} {L:Loc},(Yc a busy->ZC F' dk H L (a.or busy))->ZC F' (.beginR::dk) H L (a.or ready)) ->
   Zsp F' busy (λoc a'=>oc=go j/\B (j+1) a')->ZC F' [.code da,.beginR,.code db] (WT ps (args j) (Kc ks H)) [] (a.or ready))(hall:∀q a,(∀i,i<n->go i=.next)->B n a->a q=nO->ZC (F.mark q) dk H L (a.upd q .dfr))(hret:∀q a m,m<n->(∀i,i<m->go i=.next)->go m=.stop .ret->B (m+1) a->a q=nO->ZC (F.mark q) (.code .ret::dk) H L (a.upd q .dfr))(hexit:∀q a m id,m<n->(∀i,i<m->go i=.next)->go m=.stop (.exit id)->B (m+1) a->a q=nO->ZC (F.mark q) (.code (.exit id)::dk) H L (a.upd q .dfr))(hpan:∀q a m d,m<n->(∀i,i<m->go i=.next)->go m=.pan d->B (m+1) a->a q=nO->Wk (F.mark q) H L d (a.upd q .dfr))(hgo:∀m c,go m=.stop c->c=.ret\/∃id,c=.exit id):
  ZC F (.code (.rangeF o ps da db)::dk) H L (a0.or t):=by
 refine Zsj hF.roundOf hf hp ks hks λq l r hq hl z ap ae al ao a4 ay ax=>?_;have ah:a0 q=nO:=by cases h:a0 q with|none=>rfl|some x=>rw[Zu h]at hq;simp at hq
 have ag:a0 l=nO:=by cases h:a0 l with|none=>rfl|some x=>rw[Zu h]at hl;simp at hl
 have av:t q=nO:=by rw[ZM ah]at hq;exact hq
 have a7:t l=nO:=by rw[ZM ag]at hl;exact hl
 let stOf:Nat->LSt:=λj=>match j with
  |0=>.ready
  |j+1=>match go j with
   |.next=>.ready
   |.stop c=>.done c
   |.pan _=>.busy
 let A:Nat->St->Prop:=λj S=>∃a,B j a/\Yc a (lpS q l r .ready)/\S=a.or (lpS q l r (stOf j));have az:Yc a0 (lpS q l r .ready):=λb o hb=>by by_cases h1:b=q;rw[h1];exact ah;by_cases h2:b=l;rw[h2];exact ag;rw[ZfD h1 h2]at hb;simp at hb
 have ar:(((a0.or t).upd q .dfr).upd l (.loop r .ready))=(a0.or (lpS q l r .ready)).or t:=by
  funext b;simp only[ZIi];by_cases h2:b=l;subst h2;rw[if_pos rfl,Zu (s:=a0.or _) (by rw[ZM ag];exact QT z)];rw[if_neg h2];by_cases h1:b=q;subst h1;rw[if_pos rfl,Zu (s:=a0.or _) (by rw[ZM ah];exact Za1)];rw[if_neg h1];cases ha:a0 b with
  |some x=>rw[Zu ha,Zu (Zu ha)]
  |none=>rw[ZM ha,ZM (s:=a0.or _) (by rw[ZM ha];exact ZfD h1 h2)]
 have aw:Yc (a0.or (lpS q l r .ready)) t:=λb o hb=>by rw[ZM (hd b o hb)];exact ZfD (λe=>by rw[e,av]at hb;simp at hb) (λe=>by rw[e,a7]at hb;simp at hb)
 have a6:=hF.ex;have ad:Zmw P (.fn (.yield l) [] []) n args go A:=by
  rintro j hj ak S ⟨a,au,u,rfl⟩;have aq:stOf j=.ready:=by
   cases j with
   |zero=>rfl
   |succ j=>simp only[stOf,ak j ω]
  rw[aq];refine Zro (an:=F.an) (N:=F.N) (r:=r) (by rw[ZM (u l _ (QT z))];exact QT z) (by rw[ae];exact hlen j hj) ao a4 ay (by rw[ae];exact ax) λF' ai am=>?_;rw[ap,ae];refine hbody j a hj ak au F' (lpS q l r .ready) (lpS q l r .busy) u (λhk=>ai.begin (r:=r) (by rw[ZM (u l _ (QT z))];exact QT z) ?_) ?_
  .have e:(a.or (lpS q l r .ready)).upd l (.loop r .busy)=a.or (lpS q l r .busy):=by
    funext b;simp only[ZIi];by_cases h2:b=l;subst h2;rw[if_pos rfl,ZM (u b _ (QT z)),QT z];rw[if_neg h2];by_cases h1:b=q;subst h1;rw[ZM (u b _ Za1),ZM (u b _ Za1),Za1,Za1];cases ha:a b with
    |some x=>rw[Zu ha,Zu ha]
    |none=>rw[ZM ha,ZM ha,ZfD h1 h2,ZfD h1 h2]
   rw[e];exact hk (Ztt u z)
  refine ZuT ai z (by rw[am,al];exact a6) ?_;rintro oc a' ⟨rfl,a5⟩ aj;exact⟨rfl,a',a5,Ztt aj z,rfl⟩
 refine⟨_,by rw[ar];exact hit _ go A _ ad ⟨a0,h0,az,rfl⟩ aw,?_,?_⟩
 .rintro d S ⟨S',ac,ab⟩;have fin:∀a,Yc a (lpS q l r .ready)->∀st,(a.or (lpS q l r st)).sub S->S l=sO (.loop r st)/\(a.upd q .dfr).sub (S.del l)/\a q=nO:=λa u st hs=>by
   refine⟨hs l _ (by rw[ZM (u l _ (QT z))];exact QT z),λb o hb=>?_,u q _ Za1⟩;have a3:b≠l:=λe=>by subst e;rw[ZHQ _ _ (Ne.symm z),u b _ (QT z)]at hb;simp at hb
   simp only[St.del,a3,if_false];by_cases h1:b=q;subst h1;rw[ZHP]at hb;exact hs b o (by rw[ZM (u b _ Za1),Za1];exact hb);rw[ZHQ _ _ h1]at hb;exact hs b o (Zu hb)
  cases ac with
  |all h ha =>
   obtain⟨a,hB,u,rfl⟩:=ha;have af:stOf n=.ready:=by
    cases n with
    |zero=>rfl
    |succ n=>simp only[stOf,h n ω]
   rw[af]at ab;obtain⟨f1,f2,f3⟩:=fin a u _ ab;exact .inl ⟨f1,Ka f2 (hall q a h hB f3)⟩
  |stop m c hm h hc ha =>
   obtain⟨a,hB,u,rfl⟩:=ha;have af:stOf (m+1)=.done c:=by simp only[stOf,hc]
   rw[af]at ab;obtain⟨f1,f2,f3⟩:=fin a u _ ab;rcases hgo m c hc with rfl|⟨id,rfl⟩;exact .inr ⟨.ret,.ret,f1,rfl,Ka f2 (hret q a m hm h hc hB f3)⟩;exact .inr ⟨.exit id,.exit id,f1,rfl,Ka f2 (hexit q a m id hm h hc hB f3)⟩
 rintro d S ⟨S',ac,ab⟩;cases ac with
 |pan m d hm h hc ha =>
  obtain⟨a,hB,u,rfl⟩:=ha;have hs:(a.upd q .dfr).sub S:=λb o hb=>by by_cases h1:b=q;subst h1;rw[ZHP]at hb;exact ab b o (by rw[ZM (u b _ Za1),Za1];exact hb);rw[ZHQ _ _ h1]at hb;exact ab b o (Zu hb)
  exact Zwa hs (hpan q a m d hm h hc hB (u q _ Za1))
end
def gR0{A B:Prop}(k:B)(h:Hid B->A:=by
 intro hk;first|refine Zn ?_|refine YT ?_|refine Yz ?_
 simp only[Eqs,reduceCtorEq,Int.reduceToNat,reduceIte,Nat.reduceEqDiff,Nat.reduceAdd,Nat.reduceLeDiff];exact hk.out):A:=h ⟨k⟩
def gQ{p:Prop}(e:p){A B:Prop}(k:B)(h:p->Hid B->A:=by
 intro e1 hk;first|refine Zn ?_|refine YT ?_|refine Yz ?_
 simp only[Eqs,reduceCtorEq,Int.reduceToNat,reduceIte,Nat.reduceEqDiff,Nat.reduceAdd,Nat.reduceLeDiff,e1];exact hk.out):A:=h e ⟨k⟩
def kF{A B:Prop}(k:B)(h:Hid B->A:=by
 intro hk;refine And.intro (by first|trivial|exact⟨rfl,trivial⟩|simp[Wq,Qk,Wa,ZaS]) ?_;exact hk.out):A:=h ⟨k⟩
def cX{p q:Prop}(e:p)(c:q){A B:Prop}(k:B)(h:p->q->Hid B->A:=by
 intro e1 hc hk;refine Zao rfl rfl rfl rfl rfl φ φ hc (Zn ?_);simp only[Eqs,reduceCtorEq,Int.reduceToNat,reduceIte,Nat.reduceEqDiff,Nat.reduceAdd,Nat.reduceLeDiff,e1];exact hk.out):A:=h e c ⟨k⟩
def tX{p q:Prop}(e:p)(c:q){A B:Prop}(k:B)(h:p->q->Hid B->A:=by
 intro e1 hc hk;refine JS rfl rfl rfl rfl rfl φ φ hc (Zn ?_);simp only[Eqs,reduceCtorEq,Int.reduceToNat,reduceIte,Nat.reduceEqDiff,Nat.reduceAdd,Nat.reduceLeDiff,e1];exact hk.out):A:=h e c ⟨k⟩
def cG{q:Prop}(c:q){A B:Prop}(k:B)(h:q->Hid B->A:=by
 intro hc hk;refine Zcz rfl rfl rfl rfl rfl (λhcg=>⟨by first|trivial|(simpa[ZbO]using hcg),trivial,hc⟩) (Zn ?_);simp only[Eqs,reduceCtorEq,Int.reduceToNat,reduceIte,Nat.reduceEqDiff,Nat.reduceAdd,Nat.reduceLeDiff];exact hk.out):A:=h c ⟨k⟩
def cW{q:Prop}(c:q){A B:Prop}(k:B)(h:q->Hid B->A:=by
 intro hc hk;refine Zv3 rfl rfl rfl rfl rfl φ φ hc (Zn ?_);simp only[Eqs,reduceCtorEq,Int.reduceToNat,reduceIte,Nat.reduceEqDiff,Nat.reduceAdd,Nat.reduceLeDiff];exact hk.out):A:=h c ⟨k⟩
def cV{q:Prop}(c:q){A B C:Prop}(k:B)(k2:C)(h:q->Hid B->Hid C->A:=by
 intro hc hk hk2;exact Zhj rfl rfl rfl rfl rfl φ φ hc hk.out hk2.out):A:=h c ⟨k⟩ ⟨k2⟩
def vV{q:Prop}(c:q){A B C:Prop}(k:B)(k2:C)(h:q->Hid B->Hid C->A:=by
 intro hc hk hk2;exact Zfn rfl rfl rfl rfl rfl φ φ hc hk.out hk2.out):A:=h c ⟨k⟩ ⟨k2⟩
def cV0{q:Prop}(c:q){A B C:Prop}(k:B)(k2:C)(h:q->Hid B->Hid C->A:=by
 intro hc hk hk2;exact ZxD rfl rfl rfl rfl rfl φ φ hc hk.out hk2.out):A:=h c ⟨k⟩ ⟨k2⟩
def vV0{q:Prop}(c:q){A B C:Prop}(k:B)(k2:C)(h:q->Hid B->Hid C->A:=by
 intro hc hk hk2;exact Zno rfl rfl rfl rfl rfl φ φ hc hk.out hk2.out):A:=h c ⟨k⟩ ⟨k2⟩
def cXD{p q:Prop}(e:p)(c:q){A B:Prop}(k:B)(h:p->q->Hid B->A:=by
 intro e1 hc hk;refine Zjk rfl rfl rfl rfl rfl φ φ hc (Yz ?_);simp only[Eqs,reduceCtorEq,Int.reduceToNat,reduceIte,Nat.reduceEqDiff,Nat.reduceAdd,Nat.reduceLeDiff,e1];exact hk.out):A:=h e c ⟨k⟩
def tXD{p q:Prop}(e:p)(c:q){A B:Prop}(k:B)(h:p->q->Hid B->A:=by
 intro e1 hc hk;refine Zjl rfl rfl rfl rfl rfl φ φ hc (by first|trivial|exact⟨rfl,trivial⟩|simp[Wq,Qk]) (Yz ?_);simp only[Eqs,reduceCtorEq,Int.reduceToNat,reduceIte,Nat.reduceEqDiff,Nat.reduceAdd,Nat.reduceLeDiff,e1];exact hk.out):A:=h e c ⟨k⟩
def cGD{q:Prop}(c:q){A B:Prop}(k:B)(h:q->Hid B->A:=by
 intro hc hk;refine Znq rfl rfl rfl rfl rfl (λhcg=>⟨by first|trivial|(simpa[ZbO]using hcg),trivial,hc⟩) (Yz ?_);simp only[Eqs,reduceCtorEq,Int.reduceToNat,reduceIte,Nat.reduceEqDiff,Nat.reduceAdd,Nat.reduceLeDiff];exact hk.out):A:=h c ⟨k⟩
def cWD{q:Prop}(c:q){A B:Prop}(k:B)(h:q->Hid B->A:=by
 intro hc hk;refine ZB4 rfl rfl rfl rfl rfl φ φ hc (by first|trivial|exact⟨rfl,trivial⟩|simp[Wq,Qk]) (Yz ?_);simp only[Eqs,reduceCtorEq,Int.reduceToNat,reduceIte,Nat.reduceEqDiff,Nat.reduceAdd,Nat.reduceLeDiff];exact hk.out):A:=h c ⟨k⟩
def cVD{q:Prop}(c:q){A B C:Prop}(k:B)(k2:C)(h:q->Hid B->Hid C->A:=by
 intro hc hk hk2;exact Zh3 rfl rfl rfl rfl rfl φ φ hc hk.out hk2.out):A:=h c ⟨k⟩ ⟨k2⟩
def vVD{q:Prop}(c:q){A B C:Prop}(k:B)(k2:C)(h:q->Hid B->Hid C->A:=by
 intro hc hk hk2;exact Zed rfl rfl rfl rfl rfl φ φ hc hk.out hk2.out):A:=h c ⟨k⟩ ⟨k2⟩
def gA{A B:Prop}(k:B)(h:Hid B->A:=by
 intro hq;repeat(first|refine Zd ?_|refine Zf ?_|refine Z9 ?_|refine Zp ?_|refine YL ?_|refine Zb ?_|refine YB ?_|refine ZR rfl ?_)
 first|refine rgR (by conv=>lhs;whnf) (by conv=>lhs;whnf) (Zn ?_)|refine ZiG (by conv=>lhs;whnf) (by conv=>lhs;whnf) (YT ?_)|refine rgD (by conv=>lhs;whnf) (by conv=>lhs;whnf) (Yz ?_)
 simp only[Eqs,reduceCtorEq,Int.reduceToNat,reduceIte,Nat.reduceEqDiff,Nat.reduceAdd,Nat.reduceLeDiff];repeat(refine And.intro (by first|omega|trivial|(intro h0;simp at h0;omega)) ?_)
 exact hq.out):A:=h ⟨k⟩
def xA{p:Prop}(e:p){A B:Prop}(k:B)(h:p->Hid B->A:=by
 intro e1 hq;repeat(first|refine Zd ?_|refine Zf ?_|refine Z9 ?_|refine Zp ?_|refine YL ?_|refine Zb ?_|refine YB ?_|refine ZR rfl ?_)
 first|refine rgR (by conv=>lhs;whnf) (by conv=>lhs;whnf) (Zn ?_)|refine ZiG (by conv=>lhs;whnf) (by conv=>lhs;whnf) (YT ?_)|refine rgD (by conv=>lhs;whnf) (by conv=>lhs;whnf) (Yz ?_)
 simp only[Eqs,reduceCtorEq,Int.reduceToNat,reduceIte,Nat.reduceEqDiff,Nat.reduceAdd,Nat.reduceLeDiff,e1];repeat(refine And.intro (by first|omega|trivial|(intro h0;simp at h0;omega)) ?_)
 exact hq.out):A:=h e ⟨k⟩
def gG{A B:Prop}(k:B)(h:Hid B->A:=by
 intro hq;repeat(first|refine Zd ?_|refine Zf ?_|refine Z9 ?_|refine Zp ?_|refine YL ?_|refine Zb ?_|refine YB ?_|refine ZR rfl ?_)
 first|refine rgR (by conv=>lhs;whnf) (by conv=>lhs;whnf) (Zn ?_)|refine ZiG (by conv=>lhs;whnf) (by conv=>lhs;whnf) (YT ?_)|refine rgD (by conv=>lhs;whnf) (by conv=>lhs;whnf) (Yz ?_)
 simp only[Eqs,reduceCtorEq,Int.reduceToNat,reduceIte,Nat.reduceEqDiff,Nat.reduceAdd,Nat.reduceLeDiff];repeat(first|refine Zd ?_|refine Zf ?_|refine Z9 ?_|refine Zp ?_|refine YL ?_|refine Zb ?_|refine YB ?_|refine ZR rfl ?_)
 first|refine rgR (by conv=>lhs;whnf) (by conv=>lhs;whnf) (Zn ?_)|refine ZiG (by conv=>lhs;whnf) (by conv=>lhs;whnf) (YT ?_)|refine rgD (by conv=>lhs;whnf) (by conv=>lhs;whnf) (Yz ?_)
 simp only[Eqs,reduceCtorEq,Int.reduceToNat,reduceIte,Nat.reduceEqDiff,Nat.reduceAdd,Nat.reduceLeDiff];exact hq.out):A:=h ⟨k⟩
def iG{A B:Prop}(k:B)(h:Hid B->A:=by
 intro hq;repeat(first|refine Zd ?_|refine Zf ?_|refine Z9 ?_|refine Zp ?_|refine YL ?_|refine Zb ?_|refine YB ?_|refine ZR rfl ?_)
 refine Zt rfl trivial (λh=>by first|(simp at h;done)|(rw[hk]at h;simp at h;done)) (λ_=>?_);repeat(first|refine Zd ?_|refine Zf ?_|refine Z9 ?_|refine Zp ?_|refine YL ?_|refine Zb ?_|refine YB ?_|refine ZR rfl ?_)
 first|refine rgR (by conv=>lhs;whnf) (by conv=>lhs;whnf) (Zn ?_)|refine ZiG (by conv=>lhs;whnf) (by conv=>lhs;whnf) (YT ?_)|refine rgD (by conv=>lhs;whnf) (by conv=>lhs;whnf) (Yz ?_)
 simp only[Eqs,reduceCtorEq,Int.reduceToNat,reduceIte,Nat.reduceEqDiff,Nat.reduceAdd,Nat.reduceLeDiff];exact hq.out):A:=h ⟨k⟩
def gI{A B:Prop}(k:B)(h:Hid B->A:=by
 intro hq;repeat(first|refine Zd ?_|refine Zf ?_|refine Z9 ?_|refine Zp ?_|refine YL ?_|refine Zb ?_|refine YB ?_|refine ZR rfl ?_)
 first|refine rgR (by conv=>lhs;whnf) (by conv=>lhs;whnf) (Zn ?_)|refine ZiG (by conv=>lhs;whnf) (by conv=>lhs;whnf) (YT ?_)|refine rgD (by conv=>lhs;whnf) (by conv=>lhs;whnf) (Yz ?_)
 simp only[Eqs,reduceCtorEq,Int.reduceToNat,reduceIte,Nat.reduceEqDiff,Nat.reduceAdd,Nat.reduceLeDiff];repeat(first|refine Zd ?_|refine Zf ?_|refine Z9 ?_|refine Zp ?_|refine YL ?_|refine Zb ?_|refine YB ?_|refine ZR rfl ?_)
 refine Zt rfl trivial (λh=>by first|(simp at h;done)|(rw[hk]at h;simp at h;done)) (λ_=>?_);exact hq.out):A:=h ⟨k⟩
section
variable {P:Program} {F:Fr P} {dk:List KH} {H:Env} {L:Loc} {s:St}
def xP{A:Prop}{t:St}{B:Nat->Prop}(l:Nat)(k:∀b,t b=nO->B b)(h:∀n,n=l->(∀b,t b=nO->Hid (B b))->A:=by
 intro n hn hk;refine ZdX n (by rw[hn];rfl) λb hb=>?_;simp only[hn,Eqs,reduceCtorEq,Int.reduceToNat,reduceIte,Nat.reduceEqDiff,Nat.reduceAdd,Nat.reduceLeDiff,Zal,JB,delL];exact(hk b hb).out):A:=h l rfl λb hb=>⟨k b hb⟩
def kE{A B:Prop}(l:List Nat)(k:B)(h:∀n,n=l->Hid B->A:=by
 intro n hn hk;refine Zee n ?_;simp only[hn,Eqs,reduceCtorEq,Int.reduceToNat,reduceIte,Nat.reduceEqDiff,Nat.reduceAdd,Nat.reduceLeDiff];exact hk.out):A:=h l rfl ⟨k⟩
end
end Go.DL
namespace Go.DL
open Go Go.Proofs
variable {kp:Option (List Nat)}{L:Loc}{H:Env}{s:St}{w:World}{os:List DOp}{ds:List D}{B:List (Nat × Rd)}{dst:Option Nat}{tmps:Array Value}{g:G}{Φ:Res->St->Prop}{Z:Nat->Nat}{xs:List Opd}{side:Prop}{row:Nat->List D}
def Zer(c:UInt8):Bool:=(dC ((65:Int)<=c.toNat)&&dC ((c.toNat:Int)<=90)) ||(dC ((97:Int)<=c.toNat)&&dC ((c.toNat:Int)<=122))
def Zlf(c:UInt8):Bool:=dC ((48:Int)<=c.toNat)&&dC ((c.toNat:Int)<=57)
def JK(c:UInt8):Bool:=Zer c ||Zlf c ||decide ((c.toNat:Int)=95)
def Yt(s:Str):Bool:=match s with
 | []=>false
 |c::_=>dC (I s<=32)&&Zer c&&s.all JK
def Jd(v:Int):Bool:=dC (-1048576<=v)&&dC (v<=1048576)
def Zi3{c}:Zc ZHF 208 [.int .u8 c.toNat] (.bool (Zer c)):=by
 refine Zg (cR 208 f208) λF st i=>?_;refine gG ?_;refine rb i ?_;rfl
def ZtQ{c}:Zc ZHF 209 [.int .u8 c.toNat] (.bool (Zlf c)):=by
 refine Zg (cR 209 f209) λF st i=>?_;refine gG ?_;refine rb i ?_;rfl
def Zj8{v}:Zc ZHF 170 [.i v] (.bool (Jd v)):=by
 refine Zg (cR 170 f170) λF st i=>?_;refine gG ?_;refine rb i ?_;simp only[Jd]
def Zzs(s:Str)(k)(h:k<I s):(s.drop k).all JK=(JK (s.getD k 0)&&(s.drop (k+1)).all JK):=by
 rw[List.drop_eq_getElem_cons h,List.all_cons];simp[ZHU,h]
def Zb3(s):Zc ZHF 166 [.str s] (.bool (Yt s)):=by
 refine ZJ (cR 166 f166) λu F st i=>?_;have hs:=(u (.str s) ψ).str_inv;unfold big at hs;refine rg ?_;refine gA ?_;refine cG Zi3 ?_;refine cd (λz=>?_) (λz=>?_);refine rg ?_;refine rb i ?_;cases s with|nil=>rfl|cons c r=>(simp[Yt]at z⊢;intro h1 h2;simp[h2]at z;omega)
 refine rg ?_;have he:Yt s=(s.drop 0).all JK:=by
  cases s with
  |nil=>simp at z
  |cons c r=>simp at z;simp[Yt,z];omega
 refine Zb ?_;refine lpU (λQ=>∀n k,n+k=I s->Yt s=(s.drop k).all JK->Q F [(0,.d (.str s)),(3,.d (.i k))] [] st) ?_ λt=>?_
 .intro n;induction n with
  |zero =>intro k hk he;refine rg ?_;refine cd (λhd=>?_) (λhd=>?_);simp at hd;omega;refine rg ?_;refine rb i ?_;rw[he,show k=I s by omega];simp
  |succ n ih =>
   intro k hk he;have j:=Zzs s k ω;refine rg ?_;refine cd (λhd=>?_) (λhd=>?_);refine gA ?_;refine cl Zi3 ?_;refine aa ?_;refine cG ZtQ ?_;refine aa ?_;refine cd (λh3=>?_) (λh3=>?_);refine rg ?_;have hn:JK (s.getD k 0)=false:=by cases h1:Zer (s.getD k 0)<;>cases h2:Zlf (s.getD k 0)<;>simp_all[JK]
   refine rb i ?_;rw[he,j,hn];rfl;refine gA ?_;refine Za ?_;have hn:JK (s.getD k 0)=true:=by cases h1:Zer (s.getD k 0)<;>cases h2:Zlf (s.getD k 0)<;>simp_all[JK]
   exact ih (k+1) ω (by rw[he,j,hn];rfl);simp at hd;omega
 exact t (I s) 0 ω he
end Go.DL
namespace Go.DL
open Go
variable {kp:Option (List Nat)}{L:Loc}{H:Env}{s:St}{w:World}{os:List DOp}{ds:List D}{B:List (Nat × Rd)}{dst:Option Nat}{tmps:Array Value}{g:G}{Φ:Res->St->Prop}{Z:Nat->Nat}{xs:List Opd}{side:Prop}{row:Nat->List D}
def Ww{α:Type}[Inhabited α]{l:List α}{k}(h:k<I l):l.drop k=l.getD k dE::l.drop (k+1):=by
 rw[List.drop_eq_getElem_cons h];simp[ZHU,h]
def Z3{α:Type}[Inhabited α]{l:List α}{k}(h:k<I l):l.take (k+1)=l.take k++[l.getD k dE]:=by
 rw[List.take_succ_eq_append_getElem h];simp[ZHU,h]
def ZaF{α:Type}[Inhabited α]{l:List α}{k x}(hk:k<=I l):x∈l.take k↔∃j,j<k/\l.getD j dE=x:=by
 constructor;intro h;obtain⟨j,i,rfl⟩:=ZH1 h;simp only[ZHZ]at i;exact⟨j,ω,by simp[ZHU,show j<I l by omega]⟩;rintro⟨j,i,rfl⟩;rw[List.mem_take_iff_getElem];exact⟨j,ω,by simp[ZHU,show j<I l by omega]⟩
def ZjT{α:Type}[Inhabited α]{β:Type}{f}{l:List α}{k:Nat}(n:k<=I l)(x:β):x∈(l.take k).map f↔∃j,j<k/\f (l.getD j dE)=x:=by
 simp only[List.mem_map];constructor;rintro⟨a,t,rfl⟩;obtain⟨j,i,rfl⟩:=(ZaF n).1 t;exact⟨j,i,rfl⟩;rintro⟨j,i,rfl⟩;exact⟨_,(ZaF n).2 ⟨j,i,rfl⟩,rfl⟩
def ZQ{α:Type}[Inhabited α](f:α->List D)(row:Nat->List D)(l:List α):Prop:=∀i,i<I l->row i=f (l.getD i dE)
section
variable {α:Type} [Inhabited α] {f:α->List D} {row row2:Nat->List D} {l a b:List α}
def ZQ.self:ZQ f (λi=>f (l.getD i dE)) l:=λ_ _=>rfl
def ZQ.nil:ZQ f row []:=λi h=>absurd h (Nat.not_lt_zero i)
def ZQ.one{x}(h:row 0=f x):ZQ f row [x]:=λi j=>by
 obtain rfl:i=0:=by simp at j;exact j
 exact h
def ZQ.app{n}(h:ZQ f row a)(t:ZQ f row2 b)(u:n=I a):ZQ f (YA n row row2) (a++b):=λi z=>by
 subst u;unfold YA;split;rename_i j;rw[h i j];simp[ZHU,ZIc j];rename_i j;rw[t (i-I a) (by simp at z;omega)];simp[ZHU,ZIq (Nat.not_lt.1 j)]
def ZQ.snoc{n x}(h:ZQ f row a)(i:row2 0=f x)(j:n=I a):ZQ f (YA n row row2) (a++[x]):=h.app (.one i) j
def ZQ.take(h:ZQ f row l)(k):ZQ f row (l.take k):=λi j=>by
 rw[ZHZ]at j;rw[h i ω];simp[ZHU,List.getElem?_take_of_lt (show i<k by omega)]
def ZQ.le{t n s}(h:ZQ f row l)(j:n=I l):(D.sl t n s row).Le (slD s f l):=ZAL j λi hi=>h i ω
end
open Go.Proofs
def KY(t:Yn):Bool:=Yt t.field&&!dC (t.factor=0)&&Jd t.factor
def Kt:List Str->List Yn->Bool
 |_,[]=>true
 |seen,t::r=>KY t&&!dC (t.field∈seen)&&Kt (seen++[t.field]) r
def ZI(s:Jp):Bool:=Jd s.base&&dC (I s.terms<=4)&&Kt [] s.terms
def ZfR(s):Zc ZHF 123 [.agg s.cells] (.bool (ZI s)):=by
 refine ZJ (cR 123 f123) λab F st t=>?_;have hw:=(ZvS (s:=s) (ab _ ψ)).nterms;unfold big at hw;clear ab;refine rx (nd2 @eQ4 (nd2 @eQ6 @eQ1)) ?_;refine rg ?_;refine cl Zj8 ?_;refine cd (λhc=>?_) (λhc=>?_);refine rg ?_;refine rb t ?_;simp[ZI];cases h:Jd s.base<;>simp[h]at hc⊢;intro h2;omega;have he:ZI s=Kt ((s.terms.take 0).map (·.field)) (s.terms.drop 0):=by simp[ZI]at hc⊢;simp[hc];intro h;omega
 refine rg ?_;refine Zb ?_;refine lpU (λQ=>∀n i,n+i=I s.terms->ZI s=Kt ((s.terms.take i).map (·.field)) (s.terms.drop i)->Q F [(1,.loc 1 0),(3,.d (.i i))] [(1,[.i s.base,.sl .none (I s.terms) 2 λi=>(s.terms.getD i dE).cells])] st) ?_ λag=>?_
 .intro n;induction n with
  |zero =>intro i hi he;refine rg ?_;refine cd (λhd=>?_) (λhd=>?_);simp at hd;omega;refine rg ?_;refine rb t ?_;rw[he,show i=I s.terms by omega];simp[Kt]
  |succ n ih =>
   intro i hi he;have hdr:=Ww (l:=s.terms) (k:=i) ω;have ah:=Z3 (l:=s.terms) (k:=i) ω;rw[hdr]at he;simp only[Kt]at he;generalize hx:s.terms.getD i dE=x at *;refine rg ?_;refine cd (λhd=>?_) (λhd=>?_)
   .refine xA (nd2 @eQ8 @hx) ?_;refine cl (Zb3 _) ?_;refine aa ?_;refine Zcz rfl rfl rfl rfl rfl (λae=>⟨by first|trivial|(simpa[ZbO]using ae),trivial,Zj8⟩) (Zn ?_);simp only[Eqs,reduceCtorEq,ZHK,reduceIte,ZHI,ZHM,ZHJ,Yn.cells,hx];refine cd (λh3=>?_) (λh3=>?_);refine rg ?_;have:KY x=false:=by revert h3;unfold KY;generalize Yt x.field=a;generalize dC (x.factor=0)=b;generalize Jd x.factor=c;cases a<;>cases b<;>cases c<;>decide
    refine rb t ?_;rw[he,this];rfl;have af:KY x=true:=by revert h3;unfold KY;generalize Yt x.field=a;generalize dC (x.factor=0)=b;generalize Jd x.factor=c;cases a<;>cases b<;>cases c<;>decide
    refine rg ?_;refine Zb ?_;refine lpU (λQ=>∀m j,m+j=i->(∀j',j'<j->(s.terms.getD j' dE).field≠x.field)->Q F [(1,.loc 1 0),(3,.d (.i i)),(4,.d (.i j))] [(1,[.i s.base,.sl .none (I s.terms) 2 λi=>(s.terms.getD i dE).cells])] st) ?_ λac=>?_
    .intro m;induction m with
     |zero =>
      intro j hj z;refine rg ?_;refine cd (λh4=>?_) (λh4=>?_);simp at h4;omega;refine gA ?_;refine Za ?_;refine ih (i+1) ω ?_;have u:x.field∉(s.terms.take i).map (·.field):=by intro h;obtain⟨j',h1,h2⟩:=(ZjT (f:=(·.field)) (l:=s.terms) (k:=i) ω x.field).1 h;exact z j' ω h2
      rw[he,af,decide_eq_false u,ah];simp
     |succ m ih2 =>intro j hj z;refine rg ?_;refine cd (λh4=>?_) (λh4=>?_);refine xA (nd2 @eQ8 @hx) ?_;refine cd (λh5=>?_) (λh5=>?_);refine rg ?_;have u:x.field∈(s.terms.take i).map (·.field):=(ZjT (f:=(·.field)) (l:=s.terms) (k:=i) ω x.field).2 ⟨j,ω,by simpa using h5⟩;refine rb t ?_;rw[he,decide_eq_true u];simp;refine gA ?_;refine Za ?_;refine ih2 (j+1) ω λj' hj'=>?_;by_cases ad:j'=j;subst ad;simpa using h5;exact z j' ω;simp at h4;omega
    exact ac i 0 ω (λj' h=>by omega)
   simp at hd;omega
 exact ag (I s.terms) 0 ω he
structure Ran where
 name:Str
 low:Int
 high:Int
deriving Inhabited,DecidableEq
def Ran.cells(r:Ran):List D:=[.str r.name,.i r.low,.i r.high]
def ZbJ(l:List Ran):D:=slD 3 Ran.cells l
def YM(s:Str):List Ran->Int
 | []=>-1
 |x::r=>if 0<=YM s r then YM s r+1 else if x.name=s then 0 else -1
def Ztm(s l):-1<=YM s l:=by
 induction l with
 |nil=>simp[YM]
 |cons x r ih=>simp only[YM];split<;>(try split)<;>omega
def Ztn(s l):YM s l<I l:=by
 induction l with
 |nil=>simp[YM]
 |cons x r ih=>simp only[YM,ZHW];split<;>(try split)<;>omega
def Zoi(s l x):YM s (l++[x])=if x.name=s then (I l:Int) else YM s l:=by
 induction l with
 |nil=>simp[YM]
 |cons y r ih =>simp only[List.cons_append,YM,ih,ZHW];have:=Ztm s r;by_cases h:x.name=s<;>simp[h]
def ZfQ(l){s}:Zc ZHF 293 [ZbJ l,.str s] (.i (YM s l)):=by
 refine ZJ (cR 293 f293) λu F st z=>?_;have hw:=(YR (u (ZbJ l) ψ)).1;unfold big at hw;clear u;refine rx (nd2 @ZbJ.eq_1 @eQ1) ?_;refine gG ?_;refine Zb (fr (I l) (λi Q=>i<=I l->Q [(0,.d (ZbJ l)),(1,.d (.str s)),(5,.d (.i (YM s (l.take i)))),(6,.d (.i i))] [] st) (λn t=>?_) λab=>?_);intro i hn hi;have hge:=Ztm s (l.take i);refine rx (nd2 @ZbJ.eq_1 @eQ1) ?_;refine cd (λhd=>?_) (λhd=>?_);simp at hd;refine xA @Ran.cells.eq_1 ?_;refine cd (λh5=>?_) (λh5=>?_);refine rg ?_;refine gA ?_;have:YM s (l.take (i+1))=i:=by rw[Z3 ω,Zoi,if_pos (by simpa using h5)];simp;omega
 refine Za ?_;have j:=t ((I l)-(i+1)) ω (i+1) rfl ω;rw[this]at j;exact j;refine gA ?_;have:YM s (l.take (i+1))=YM s (l.take i):=by rw[Z3 ω,Zoi,if_neg (by simpa using h5)]
 refine Za ?_;have j:=t ((I l)-(i+1)) ω (i+1) rfl ω;rw[this]at j;exact j;refine rg ?_;refine ri z ?_;simp at hd;rw[List.take_of_length_le ω];exact ab _ 0 rfl ω
abbrev Zbb:=Str->Option (Int×Int)
def Jb(r:Int×Int):Bool:=dC (r.1<0) ||decide (r.2<r.1) ||decide (34359738368<=r.2)
def WK(look:Zbb)(t:Yn):Bool:=match look t.field with|some r=>Jb r|none=>false
def YP(look:Zbb)(t:Yn):Bool:=(look t.field).isNone
def JH(s:Jp)(look:Zbb):Int:=if ZI s=false then 2 else if s.terms.any (WK look) then 2 else if s.terms.any (YP look) then 9 else 0
def Jt(look:Zbb)(t:Yn):Int×Int:=(look t.field).getD (0,0)
def loT(look:Zbb)(t:Yn):Int:=if 0<t.factor then t.factor*(Jt look t).1 else t.factor*(Jt look t).2
def hiT(look:Zbb)(t:Yn):Int:=if 0<t.factor then t.factor*(Jt look t).2 else t.factor*(Jt look t).1
def loS(look:Zbb):List Yn->Int
 | []=>0
 |t::r=>loT look t+loS look r
def hiS(look:Zbb):List Yn->Int
 | []=>0
 |t::r=>hiT look t+hiS look r
def YV(s:Jp)(look:Zbb):Int×Int×Int:=if JH s look=0 then (s.base+loS look s.terms,s.base+hiS look s.terms,0) else (0,0,JH s look)
def ZbR(look:Zbb)(t:Yn)(mix:Nat):Int:=t.factor*(if mix % 2=1 then (Jt look t).2 else (Jt look t).1)
def Zad(look:Zbb):List Yn->Nat->Int
 | [],_=>0
 |t::r,mix=>ZbR look t mix+Zad look r (mix / 2)
structure ZmB(look:Zbb)(t:Yn):Prop where
 le:(Jt look t).1<=(Jt look t).2
 lo:0<=(Jt look t).1
 hi:(Jt look t).2<34359738368
 f1:-1048576<=t.factor
 f2:t.factor<=1048576
def ZCC{f v}(n:-1048576<=f)(j:f<=1048576)(i:0<=v)(h4:v<34359738368):-36028797018963968<=f*v/\f*v<=36028797018963968:=by
 have a:f*v<=1048576*v:=Int.mul_le_mul_of_nonneg_right j i;have b:-1048576*v<=f*v:=Int.mul_le_mul_of_nonneg_right n i;omega
def ZmB.ends_mix{look t}(h:ZmB look t)(m):-36028797018963968<=ZbR look t m/\ZbR look t m<=36028797018963968:=by
 have a:=h.le;have b:=h.lo;have c:=h.hi;unfold ZbR;split;exact ZCC h.f1 h.f2 ω c;exact ZCC h.f1 h.f2 b ω
def ZmB.lo_le{look t}(h:ZmB look t)(m):loT look t<=ZbR look t m/\ZbR look t m<=hiT look t:=by
 have a:=h.le;unfold loT hiT ZbR;by_cases i:0<t.factor;have:=Int.mul_le_mul_of_nonneg_left a (show 0<=t.factor by omega);simp only[i,if_true];split<;>omega;have:=Int.mul_le_mul_of_nonpos_left (show t.factor<=0 by omega) a;simp only[i,if_false];split<;>omega
def Zyr{look l}(h:∀t∈l,ZmB look t)(m):loS look l<=Zad look l m/\Zad look l m<=hiS look l:=by
 induction l generalizing m with
 |nil=>simp[loS,Zad,hiS]
 |cons t r ih =>have:=(h t ψ).lo_le m;have:=ih (λt i=>h t (by simp[i])) (m / 2);simp only[loS,Zad,hiS];omega
def ZDa{look}(l):(∃m,m<2 ^ I l/\Zad look l m=loS look l)/\∃m,m<2 ^ I l/\Zad look l m=hiS look l:=by
 induction l with
 |nil=>exact⟨⟨0,ψ,rfl⟩,⟨0,ψ,rfl⟩⟩
 |cons t r ih =>obtain⟨⟨m,hm,j⟩,⟨n,hn,u⟩⟩:=ih;simp only[ZHW,Nat.pow_succ,loS,Zad,hiS,loT,hiT];by_cases i:0<t.factor;refine⟨⟨2*m,ω,?_⟩,⟨2*n+1,ω,?_⟩⟩;rw[show 2*m / 2=m by omega,j];simp[ZbR,i];rw[show(2*n+1) / 2=n by omega,u];simp[ZbR,i,show(2*n+1) % 2=1 by omega];refine⟨⟨2*m+1,ω,?_⟩,⟨2*n,ω,?_⟩⟩;rw[show(2*m+1) / 2=m by omega,j];simp[ZbR,i,show(2*m+1) % 2=1 by omega];rw[show 2*n / 2=n by omega,u];simp[ZbR,i]
def Zyv{look}{l:List Yn}{i}(h:i<I l)(m):Zad look (l.drop i) (m / 2 ^ i)=ZbR look (l.getD i dE) (m / 2 ^ i)+Zad look (l.drop (i+1)) (m / 2 ^ (i+1)):=by
 rw[Ww h,Zad,Nat.div_div_eq_div_mul,Nat.pow_succ]
structure Zpk(look:Zbb)(l:List Yn)(b:Int)(k:Nat)(low high:Int):Prop where
 zero:k=0->low=0/\high=0
 le:∀m,m<k->low<=b+Zad look l m/\b+Zad look l m<=high
 ex:0<k->(∃m,m<k/\low=b+Zad look l m)/\∃m,m<k/\high=b+Zad look l m
def Zpk.fin{look l b low i}(h:Zpk look l b (2 ^ I l) low i)(j:∀t∈l,ZmB look t):low=b+loS look l/\i=b+hiS look l:=by
 obtain⟨⟨m,hm,he⟩,⟨n,hn,hf⟩⟩:=ZDa (look:=look) l;obtain⟨⟨z,hm',he'⟩,⟨u,hn',hf'⟩⟩:=h.ex (Nat.two_pow_pos _);have h1:=h.le m hm;have h2:=h.le n hn;have h3:=Zyr j z;have h4:=Zyr j u;omega
def Zpk.step{look l b low t k n z u}(h:Zpk look l b k low t)(hn:n=b+Zad look l k)(h1:z=if k=0\/n<low then n else low)(h2:u=if k=0\/t<n then n else t):Zpk look l b (k+1) z u:=by
 by_cases hk:k=0;subst hk;simp only[true_or,if_true]at h1 h2;refine⟨ω,λm hm=>?_,λ_=>⟨⟨0,ω,ω⟩,⟨0,ω,ω⟩⟩⟩;obtain rfl:m=0:=ω;omega;simp only[hk,false_or]at h1 h2;obtain⟨⟨m',hm',i⟩,⟨n',hn',j⟩⟩:=h.ex ω;refine⟨ω,λm hm=>?_,λ_=>⟨?_,?_⟩⟩;rcases Nat.lt_succ_iff_lt_or_eq.1 hm with hm|rfl;have:=h.le m hm;constructor;rw[h1];split<;>omega;rw[h2];split<;>omega;constructor;rw[h1];split<;>omega;rw[h2];split<;>omega;rw[h1];split;exact⟨k,ω,hn⟩;exact⟨m',ω,i⟩;rw[h2];split;exact⟨k,ω,hn⟩;exact⟨n',ω,j⟩
def Zqk{i l}(h:Kt i l=true):∀t∈l,KY t=true:=by
 induction l generalizing i with
 |nil=>simp
 |cons x r ih =>simp only[Kt,ZHN]at h;intro t ht;rcases List.mem_cons.1 ht with rfl|ht;exact h.1.1;exact ih h.2 t ht
structure Znz(s:Jp):Prop where
 b1:-1048576<=s.base
 b2:s.base<=1048576
 len:I s.terms<=4
 f1:∀t∈s.terms,-1048576<=t.factor
 f2:∀t∈s.terms,t.factor<=1048576
 f0:∀t∈s.terms,t.factor≠0
 nm:∀t∈s.terms,Yt t.field=true
def Znz.of{s}(h:ZI s=true):Znz s:=by
 simp only[ZI,ZHN,decide_eq_true_eq,Jd]at h;have j:=Zqk h.2;refine⟨h.1.1.1,h.1.1.2,h.1.2,?_,?_,?_,?_⟩<;>intro t i<;>have:=j t i<;>simp[KY,Jd]at this<;>simp_all
def Wo(l:List Ran):Zbb:=λs=>if YM s l<0 then nO else sO ((l.getD (YM s l).toNat dE).low,(l.getD (YM s l).toNat dE).high)
def Zh7{α:Type}[Inhabited α]{p}{l:List α}{i}(h:i<I l):(l.take (i+1)).any p=((l.take i).any p ||p (l.getD i dE)):=by
 rw[Z3 h,List.any_append];simp
def Zsx{α:Type}[Inhabited α]{p}{l:List α}{i}(h:i<I l)(j:p (l.getD i dE)=true):l.any p=true :=
 List.any_eq_true.2 ⟨_,Zm h,j⟩
def ZoA(s l):Zc ZHF 279 [.agg s.cells,ZbJ l] (.tup [.i (YV s (Wo l)).1,.i (YV s (Wo l)).2.1,.i (YV s (Wo l)).2.2]):=by
 refine ZJ (cR 279 f279) λaw F st ah=>?_;have hw:=(ZvS (s:=s) (aw _ ψ)).nterms;have a9:=(YR (aw (ZbJ l) ψ)).1;unfold big at hw a9;clear aw;refine rx (nd2 @eQ4 (nd2 @eQ6 @eQ1)) ?_;refine rg ?_;refine cX (nd2 @eQ4 (nd2 @eQ6 @eQ1)) (ZfR s) ?_;refine cd (λhc=>?_) (λhc=>?_);refine rg ?_;simp at hc;refine rt ah ?_;simp[YV,JH,hc];simp at hc;have hv:=Znz.of hc;refine gG ?_;refine Zb (fr (I s.terms) (λi Q=>i<=I s.terms->(s.terms.take i).any (WK (Wo l))=false->Q [(1,.d (ZbJ l)),(2,.loc 2 0),(7,.d (.bool ((s.terms.take i).any (YP (Wo l))))),(8,.d (.i i))] [(2,[.i s.base,Yd s.terms])] st) (λn ad=>?_) λa8=>?_)
 .intro i hn hi ac;refine rx (nd2 @eQ6 @eQ1) ?_;refine cd (λhd=>?_) (λhd=>?_);simp at hd;have ao:=Zh7 (p:=WK (Wo l)) hd;have ar:=Zh7 (p:=YP (Wo l)) hd;refine xA (nd2 @eQ8 (nd2 @eQ6 @eQ1)) ?_;refine cl (ZfQ l) ?_;refine rg ?_;refine cd (λh5=>?_) (λh5=>?_);refine rg ?_;refine gA ?_;have av:YP (Wo l) (s.terms.getD i dE)=true:=by simp only[YP,Wo];rw[if_pos (of_decide_eq_true h5)];rfl
  have aj:WK (Wo l) (s.terms.getD i dE)=false:=by simp only[WK,Wo];rw[if_pos (of_decide_eq_true h5)]
  rw[av,Bool.or_true]at ar;rw[aj,Bool.or_false]at ao;refine Za ?_;have ab:=ad ((I s.terms)-(i+1)) ω (i+1) rfl ω (by rw[ao,ac]);rw[ar]at ab;exact ab;have hge:=Ztn (s.terms.getD i dE).field l;have ay:¬YM (s.terms.getD i dE).field l<0:=of_decide_eq_false h5;refine xA (nd2 @Ran.cells.eq_1 (nd2 @ZbJ.eq_1 @eQ1)) ?_;have av:YP (Wo l) (s.terms.getD i dE)=false:=by simp only[YP,Wo];rw[if_neg ay];rfl
  have aj:WK (Wo l) (s.terms.getD i dE)=Jb ((l.getD (YM (s.terms.getD i dE).field l).toNat dE).low,(l.getD (YM (s.terms.getD i dE).field l).toNat dE).high):=by simp only[WK,Wo];rw[if_neg ay]
  refine cd (λh6=>?_) (λh6=>?_);refine rg ?_;rw[<-Jb.eq_1 (_,_)]at h6;rw[h6]at aj;have:=Zsx hd aj;refine rt ah ?_;simp[YV,JH,hc,this];refine gA ?_;rw[show Jb (_,_)=false from h6]at aj;rw[av,Bool.or_false]at ar;rw[aj,Bool.or_false]at ao;refine Za ?_;have ab:=ad ((I s.terms)-(i+1)) ω (i+1) rfl ω (by rw[ao,ac]);rw[ar]at ab;exact ab;simp at hd;obtain rfl:i=I s.terms:=ω;rw[ZH2]at ac;rw[ZH2];refine rg ?_;refine cd (λh7=>?_) (λh7=>?_);refine rg ?_;refine rt ah ?_;simp[YV,JH,hc,ac,h7];have al:∀t∈s.terms,ZmB (Wo l) t:=by intro t ht;have h1:=List.any_eq_false.1 ac t ht;have h2:=List.any_eq_false.1 h7 t ht;simp only[WK,YP,Wo]at h1 h2;have ak:¬YM t.field l<0:=λh=>h2 (by rw[if_pos h];rfl);rw[if_neg ak]at h1;simp[Jb]at h1;refine⟨?_,?_,?_,hv.f1 t ht,hv.f2 t ht⟩<;>simp only[Jt,Wo]<;>rw[if_neg ak]<;>simp<;>omega
  have he:JH s (Wo l)=0:=by simp[JH,hc,ac,h7]
  have aq:∀t∈s.terms,0<=YM t.field l/\Jt (Wo l) t=((l.getD (YM t.field l).toNat dE).low,(l.getD (YM t.field l).toNat dE).high):=by intro t ht;have h:=List.any_eq_false.1 h7 t ht;simp only[YP,Wo]at h;by_cases ak:YM t.field l<0;rw[if_pos ak]at h;simp at h;simp only[Jt,Wo];rw[if_neg ak];exact⟨ω,rfl⟩
  have a7:ZkE .i64 1 (I s.terms:Int)=((2 ^ I s.terms:Nat):Int):=by
   have:=hv.len;generalize (I s.terms)=n at this
   match n,this with
   |0,_=>decide
   |1,_=>decide
   |2,_=>decide
   |3,_=>decide
   |4,_=>decide
   |n+5,h=>omega
  have hle16:2 ^ I s.terms<=16:=by have:=hv.len;exact Nat.pow_le_pow_right (n:=2) ω this
  clear ad ac h7 hn hi hd;refine gG ?_;refine Zb (fr ((2 ^ I s.terms)) (λk Q=>∀low ai,k<=2 ^ I s.terms->Zpk (Wo l) s.terms s.base k low ai->Q [(1,.d (ZbJ l)),(2,.loc 2 0),(10,.d (.i low)),(11,.d (.i ai)),(12,.d (.i k))] [(2,[.i s.base,Yd s.terms])] st) (λn u=>?_) λa6=>?_);intro k hn low ai hk hb;have h2n:=Nat.two_pow_pos (I s.terms);refine xA (nd2 @eQ6 (nd2 @eQ1 @a7)) ?_;refine cd (λh8=>?_) (λh8=>?_);have a0:k<2 ^ I s.terms:=by have:=of_decide_eq_true h8;omega
  clear h8;refine gG ?_;have hbase:∀j,j<=I s.terms->True:=λ_ _=>trivial;refine Zb (fr (I s.terms) (λj Q=>∀x,j<=I s.terms->x+Zad (Wo l) (s.terms.drop j) (k / 2 ^ j)=s.base+Zad (Wo l) s.terms k->-1048576-j*36028797018963968<=x->x<=1048576+j*36028797018963968->Q [(1,.d (ZbJ l)),(2,.loc 2 0),(10,.d (.i low)),(11,.d (.i ai)),(12,.d (.i k)),(13,.d (.i x)),(14,.d (.i j))] [(2,[.i s.base,Yd s.terms])] st) (λn ag=>?_) λaz=>?_);intro j hn3 x hj hx hx1 hx2;have hlen:=hv.len;refine rx (nd2 @eQ6 @eQ1) ?_;refine cd (λh9=>?_) (λh9=>?_);simp at h9;have af:=Zyv (look:=Wo l) h9 k;have hf:=al _ (Zm h9);have a5:=hf.ends_mix (k / 2 ^ j);have am:=aq _ (Zm h9);have ak:=Ztn (s.terms.getD j dE).field l;have a4:ZkF .i64 (k:Int) (j:Int)=((k / 2 ^ j:Nat):Int):=by unfold ZkF;rw[Int.toNat_natCast,show Nat.min j IntKind.i64.bits=j from Nat.min_eq_left (show j<=IntKind.i64.bits by simp[IntKind.bits];omega)];rw[Int.fdiv_eq_ediv_of_nonneg _ (by exact_mod_cast Nat.zero_le _)];simp
  have hk2:k / 2 ^ j<=k:=Nat.div_le_self _ _;have a3:Int.tmod ((k / 2 ^ j:Nat):Int) 2=((k / 2 ^ j % 2:Nat):Int):=by simp[Int.tmod]
  generalize hq:k / 2 ^ j=q at *;refine xA (nd2 @eQ8 (nd2 @Ran.cells.eq_1 (nd2 @eQ6 @eQ1))) ?_;refine cX (nd2 @Ran.cells.eq_1 (nd2 @ZbJ.eq_1 @eQ1)) (ZfQ l) ?_;refine aa ?_;refine rg ?_;refine xA (nd2 @a4 @a3) ?_;refine cd (λau=>?_) (λau=>?_);simp at au;have ax:ZbR (Wo l) (s.terms.getD j dE) q=(s.terms.getD j dE).factor*(l.getD (YM (s.terms.getD j dE).field l).toNat dE).high:=by unfold ZbR;rw[am.2,if_pos ω]
  refine rg ?_;refine rx (nd2 @eQ8 (nd2 @eQ6 @eQ1)) ?_;rw[ax]at a5 af;generalize (s.terms.getD j dE).factor*(l.getD (YM (s.terms.getD j dE).field l).toNat dE).high=p at *;refine aa ?_;refine gA ?_;refine Za ?_;exact ag ((I s.terms)-(j+1)) ω (j+1) rfl _ ω (by rw[<-hx,af];omega) ω ω;simp at au;have ax:ZbR (Wo l) (s.terms.getD j dE) q=(s.terms.getD j dE).factor*(l.getD (YM (s.terms.getD j dE).field l).toNat dE).low:=by unfold ZbR;rw[am.2,if_neg ω]
  refine rx (nd2 @eQ8 (nd2 @eQ6 @eQ1)) ?_;rw[ax]at a5 af;generalize (s.terms.getD j dE).factor*(l.getD (YM (s.terms.getD j dE).field l).toNat dE).low=p at *;refine aa ?_;refine gA ?_;refine Za ?_;exact ag ((I s.terms)-(j+1)) ω (j+1) rfl _ ω (by rw[<-hx,af];omega) ω ω;simp at h9;obtain rfl:j=I s.terms:=ω;have ap:x=s.base+Zad (Wo l) s.terms k:=by rw[List.drop_length,Zad,Int.add_zero]at hx;exact hx
  refine rg ?_;refine cd (λae=>?_) (λae=>?_);refine gG ?_;refine cd (λz=>?_) (λz=>?_);refine rg ?_;refine gA ?_;refine Za ?_;exact u (((2 ^ I s.terms))-(k+1)) ω (k+1) rfl _ _ ω (hb.step ap (by simp at ae;simp[ae]<;>omega) (by simp at z;simp[z]<;>omega));refine gA ?_;refine Za ?_;exact u (((2 ^ I s.terms))-(k+1)) ω (k+1) rfl _ _ ω (hb.step ap (by simp at ae;simp[ae]<;>omega) (by simp at z;simp[z]<;>omega));refine rg ?_;refine cd (λz=>?_) (λz=>?_);refine rg ?_;refine gA ?_;refine Za ?_;exact u (((2 ^ I s.terms))-(k+1)) ω (k+1) rfl _ _ ω (hb.step ap (by simp at ae;simp[ae]<;>omega) (by simp at z;simp[z]<;>omega));refine gA ?_;refine Za ?_;exact u (((2 ^ I s.terms))-(k+1)) ω (k+1) rfl _ _ ω (hb.step ap (by simp at ae;simp[ae]<;>omega) (by simp at z;simp[z]<;>omega));exact az _ 0 rfl s.base ω ψ (by have:=hv.b1;omega) (by have:=hv.b2;omega);have a0:¬k<2 ^ I s.terms:=λh=>of_decide_eq_false h8 (by exact_mod_cast h);obtain rfl:k=2 ^ I s.terms:=Nat.le_antisymm hk (Nat.not_lt.1 a0);obtain⟨rfl,rfl⟩:=hb.fin al;refine rg ?_;refine rt ah ?_;unfold YV;rw[if_pos he];exact a6 _ 0 rfl 0 0 (Nat.zero_le _) ⟨ψ,ψ,ψ⟩
 exact a8 _ 0 rfl ω ψ
def Zwz{α β:Type}[Inhabited α]{f}{b:β}{l:List α}{i:Nat}(h:i<I l):(l.take (i+1)).foldl f b=f ((l.take i).foldl f b) (l.getD i dE):=by
 rw[Z3 h,List.foldl_append];rfl
def Zi{α:Type}(p:α->Bool):List α->Int
 | []=>-1
 |x::r=>if p x then 0 else if Zi p r<0 then -1 else Zi p r+1
def Wu{α}{p:α->Bool}{l:List α}(h:∀x∈l,p x=false):Zi p l=-1:=by
 induction l with
 |nil=>rfl
 |cons x r ih=>simp[Zi,h x ψ,ih (λy i=>h y (by simp[i]))]
def WY{α}[Inhabited α]{p}{l:List α}{i:Nat}(u:i<I l)(n:p (l.getD i dE)=true)(h:∀j,j<i->p (l.getD j dE)=false):Zi p l=i:=by
 induction l generalizing i with
 |nil=>simp at u
 |cons x r ih =>
  cases i with
  |zero=>simp at n;simp[Zi,n]
  |succ i =>have t:=h 0 ω;have:=ih (i:=i) (by simpa using u) (by simpa using n) (λj hj=>by simpa using h (j+1) ω);simp at t;simp[Zi,t,this];omega
def QY{α}(p:α->Bool)(l:List α):-1<=Zi p l:=by
 induction l with
 |nil=>simp[Zi]
 |cons x r ih=>simp only[Zi];split<;>(try split)<;>omega
def Ys{α}(p:α->Bool)(l:List α):Zi p l<I l:=by
 induction l with
 |nil=>simp[Zi]
 |cons x r ih=>simp only[Zi,ZHW];split<;>(try split)<;>omega
def ZbC{α}{p:α->Bool}{l:List α}(h:Zi p l<0):∀x∈l,p x=false:=by
 induction l with
 |nil=>simp
 |cons x r ih =>have:=QY p r;simp only[Zi]at h;split at h;omega;rename_i i;split at h;rename_i j;intro y hy;rcases List.mem_cons.1 hy with rfl|hy;simpa using i;exact ih j y hy;omega
def Qc{α}[Inhabited α]{p:α->Bool}{l:List α}(h:0<=Zi p l):p (l.getD (Zi p l).toNat dE)=true/\∀j,j<(Zi p l).toNat->p (l.getD j dE)=false:=by
 induction l with
 |nil=>simp[Zi]at h
 |cons x r ih =>
  have:=QY p r;by_cases i:p x=true;simp[Zi,i];simp only[Zi,i,if_false,ZIe]at h⊢;by_cases n:Zi p r<0;simp[n]at h;rw[if_neg n];obtain⟨u,t⟩:=ih ω;rw[show(Zi p r+1).toNat=(Zi p r).toNat+1 by omega];refine⟨by simpa using u,λj hj=>?_⟩;cases j with
  |zero=>simpa using i
  |succ j=>simpa using t j ω
def KX{α:Type}[Inhabited α]{l:List α}{n j}(h:j<n):(l.take n).getD j dE=l.getD j dE:=by
 simp[ZHU,List.getElem?_take_of_lt h]
def Zhz{α}[Inhabited α]{p}{l:List α}{i n}(hn:n<=I l)(z:i<n)(t:p (l.getD i dE)=true)(h:∀j,j<i->p (l.getD j dE)=false):Zi p (l.take n)=i :=
 WY (by simp;omega) (by rw[KX z];exact t) (λj u=>by rw[KX ω];exact h j u)
def ZfA{α}[Inhabited α]{p}{l:List α}{n}(u:n<=I l)(h:∀j,j<n->p (l.getD j dE)=false):Zi p (l.take n)=-1 :=
 Wu λx t=>by obtain⟨j,i,rfl⟩:=(ZaF u).1 t;exact h j i
def Zr(d:Dfn)(s:Str)(n:Nat):Int:=Zi (λm=>dC (m.name=s)) (d.msgs.take n)
def Yb(m:Msg)(s:Str)(n:Nat):Int:=Zi (λf=>dC (f.name=s)) (m.fields.take n)
def KJ(f:Fld)(tag:Int):Int:=Zi (λc=>dC (c.low<=tag)&&dC (tag<=c.high)) f.cases
def Yj(f:Fld):Bool:=dC (1<=f.kind)&&dC (f.kind<=3)
def Y8(f:Fld):Int×Int:=if f.kind=2 then (f.low,f.low) else (f.low,f.high)
def ZgJ(a b:Int):Bool:=dC (0<=a)&&(dC (a<=b)&&dC (b<34359738368))
def Wi(d)(s:Str)(sm:Nat)(hs:sm<=I d.msgs):Zc ZHF 28 [.agg d.cells,.str s,.i sm] (.i (Zr d s sm)):=by
 refine ZJ (cR 28 f28) λab F st u=>?_;have hw:=(Zhu (s:=d) (ab _ ψ)).nmsgs;unfold big at hw;clear ab;refine rx (nd2 @eQ2 (nd2 @eQ7 @eQ1)) ?_;refine rg ?_;refine Zb (fr (sm) (λi Q=>i<=sm->(∀j,j<i->dC ((d.msgs.getD j dE).name=s)=false)->Q [(1,.d (.str s)),(2,.d (.i sm)),(3,.loc 3 0),(7,.d (.i i))] [(3,d.cells)] st) (λn t=>?_) λad=>?_);intro i hn hi z;refine rx (nd2 @eQ2 (nd2 @eQ7 @eQ1)) ?_;refine cd (λhd=>?_) (λhd=>?_);simp at hd;refine xA (nd2 @eQ3 (nd2 @eQ2 (nd2 @eQ7 @eQ1))) ?_;refine cd (λh5=>?_) (λh5=>?_);refine rg ?_;refine ri u ?_;exact(Zhz hs hd h5 z).symm;refine gA ?_;have ac:∀j,j<i+1->dC ((d.msgs.getD j dE).name=s)=false:=by intro j hj;rcases Nat.lt_succ_iff_lt_or_eq.1 hj with hj|rfl;exact z j hj;exact h5
 refine Za ?_;exact t ((sm)-(i+1)) ω (i+1) rfl ω ac;simp at hd;refine rg ?_;refine ri u ?_;exact(ZfA hs (λj hj=>z j ω)).symm;exact ad _ 0 rfl ω (λj h=>by omega)
def Zah(m)(s:Str)(sm:Nat)(hs:sm<=I m.fields):Zc ZHF 121 [.agg m.cells,.str s,.i sm] (.i (Yb m s sm)):=by
 refine ZJ (cR 121 f121) λab F st u=>?_;have hw:=(ZfI (s:=m) (ab _ ψ)).nfields;unfold big at hw;clear ab;refine rx (nd2 @eQ3 (nd2 @eQ5 @eQ1)) ?_;refine rg ?_;refine Zb (fr (sm) (λi Q=>i<=sm->(∀j,j<i->dC ((m.fields.getD j dE).name=s)=false)->Q [(1,.d (.str s)),(2,.d (.i sm)),(3,.loc 3 0),(7,.d (.i i))] [(3,m.cells)] st) (λn t=>?_) λad=>?_);intro i hn hi z;refine rx (nd2 @eQ3 (nd2 @eQ5 @eQ1)) ?_;refine cd (λhd=>?_) (λhd=>?_);simp at hd;refine xA (nd2 @eQ0 (nd2 @eQ3 (nd2 @eQ5 @eQ1))) ?_;refine cd (λh5=>?_) (λh5=>?_);refine rg ?_;refine ri u ?_;exact(Zhz hs hd h5 z).symm;refine gA ?_;have ac:∀j,j<i+1->dC ((m.fields.getD j dE).name=s)=false:=by intro j hj;rcases Nat.lt_succ_iff_lt_or_eq.1 hj with hj|rfl;exact z j hj;exact h5
 refine Za ?_;exact t ((sm)-(i+1)) ω (i+1) rfl ω ac;simp at hd;refine rg ?_;refine ri u ?_;exact(ZfA hs (λj hj=>z j ω)).symm;exact ad _ 0 rfl ω (λj h=>by omega)
def Zcf(f):Zc ZHF 75 [.agg f.cells] (.bool (Yj f)):=by
 refine Zg (cR 75 f75) λF st i=>?_;refine rx @eQ0 ?_;refine rg ?_;refine rb i ?_;rfl
def Zj9(f):Zc ZHF 254 [.agg f.cells] (.tup [.i (Y8 f).1,.i (Y8 f).2]):=by
 refine Zg (cR 254 f254) λF st i=>?_;refine rx @eQ0 ?_;refine rg ?_;refine cd (λj=>?_) (λj=>?_);refine rg ?_;refine rt i ?_;simp at j;simp[Y8,j];refine rg ?_;refine rt i ?_;simp at j;simp[Y8,j]
def ZuL(a b):Zc ZHF 251 [.i a,.i b] (.bool (ZgJ a b)):=by
 refine Zg (cR 251 f251) λF st i=>?_;refine gG ?_;refine rb i ?_;simp[ZgJ,Bool.and_assoc]
def Zxx:List Str:=[[],[98,108,120,104],[98,108,120],[111,120,104],[115],[120,104],[111,104],[102,115],[102],[116,99],[98],[114,107],[102,115,121]]
def Zff(k:Int):Str:=Zxx.getD k.toNat []
def ZuC{k}(h0:0<=k)(h1:k<13):ZY [D.str []] ([0,1,2,3,4,5,6,7,8,9,10,11,12].zip [D.str [],.str [98,108,120,104],.str [98,108,120],.str [111,120,104],.str [115],.str [120,104],.str [111,104],.str [102,115],.str [102],.str [116,99],.str [98],.str [114,107],.str [102,115,121]]) k.toNat=[.str (Zff k)]:=by
 unfold Zff;have h:k.toNat<13:=ω;generalize k.toNat=n at h
 match n,h with
 |0,_|1,_|2,_|3,_|4,_|5,_|6,_|7,_|8,_|9,_|10,_|11,_|12,_=>rfl
 |n+13,h=>omega
def ZuK(k)(n:0<=k)(t:k<13):Zc ZHF 248 [.i k] (.str (Zff k)):=by
 refine Zg (cR 248 f248) λF st i=>?_;have j:=ZuC n t;refine rg ?_;refine xA @j ?_;refine rs i ?_;rfl
def Qi(s:Str)(c:UInt8):Bool:=dC (c∈s)
def Zz8{s:Str}{i}(h:i<I s):s.getD i 0∈s:=by simp[ZHU,h]
def Kr{s}(c):Zc ZHF 249 [.str s,.int .u8 (c.toNat:Int)] (.bool (Qi s c)):=by
 refine ZJ (cR 249 f249) λab F st u=>?_;have hw:=(ab (.str s) ψ).str_inv;unfold big at hw;clear ab;refine gG ?_;refine Zb (fr (I s) (λi Q=>i<=I s->(∀j,j<i->s.getD j 0≠c)->Q [(0,.d (.str s)),(1,.d (.int .u8 (c.toNat:Int))),(5,.d (.i i))] [] st) (λn t=>?_) λad=>?_);intro i hn hi z;refine rg ?_;refine cd (λhd=>?_) (λhd=>?_);simp at hd;refine gA ?_;have ae:=UInt8.toNat_inj (a:=s.getD i 0) (b:=c);refine cd (λh5=>?_) (λh5=>?_);simp only[decide_eq_true_eq]at h5;have h6:s.getD i 0=c:=ae.1 ω;refine rg ?_;refine rb u ?_;simp only[Qi];exact(decide_eq_true (h6▸Zz8 hd)).symm;simp only[decide_eq_false_iff_not]at h5;refine gA ?_;have ac:∀j,j<i+1->s.getD j 0≠c:=by intro j hj;rcases Nat.lt_succ_iff_lt_or_eq.1 hj with hj|rfl;exact z j hj;intro h;rw[h]at h5;exact h5 rfl
 refine Za ?_;exact t ((I s)-(i+1)) ω (i+1) rfl ω ac;simp at hd;refine rg ?_;refine rb u ?_;simp only[Qi];refine(decide_eq_false λh=>?_).symm;obtain⟨j,hj,he⟩:=ZH1 h;exact z j ω (by simp[ZHU,hj,he]);exact ad _ 0 rfl ω (λj h=>by omega)
def zrA(u:Str)(f:Fld):Bool:=(Qi u 98 ||decide (f.bits=0))&&((Qi u 108||!f.little)&&((Qi u 111||!f.loose)&&((Qi u 120 ||decide (f.low=0))&&(Qi u 104 ||decide (f.high=0)))))
def zrB(u:Str)(f:Fld):Bool:=(Qi u 115 ||(dC (f.size.base=0)&&dC (I f.size.terms=0)))&&((Qi u 102 ||decide (f.of=[]))&&((Qi u 116 ||decide (f.tag=[]))&&(Qi u 114 ||decide (f.from_=[]))))
def zrC(u:Str)(f:Fld):Bool:=(Qi u 99 ||decide (I f.cases=0))&&((Qi u 107 ||decide (f.check=0))&&(Qi u 121 ||decide (f.key=0)))
def Zeb(f:Fld):Bool:=zrA (Zff f.kind) f&&(zrB (Zff f.kind) f&&zrC (Zff f.kind) f)
def Zzi(u f):zrA u f=!(!Qi u 98&&!dC (f.bits=0)||!Qi u 108&&f.little||!Qi u 111&&f.loose||!Qi u 120&&!dC (f.low=0)||!Qi u 104&&!dC (f.high=0)):=by
 simp[zrA,Bool.and_assoc]
def Zzj(u f):zrB u f=!(!Qi u 115&&(!dC (f.size.base=0)||!dC ((I f.size.terms:Int)=0))||!Qi u 102&&!dC (f.of=[])||!Qi u 116&&!dC (f.tag=[])||!Qi u 114&&!dC (f.from_=[])):=by
 simp[zrB,Bool.and_assoc]
def ZuM(f)(h0:0<=f.kind)(h1:f.kind<13):Zc ZHF 210 [.agg f.cells] (.bool (Zeb f)):=by
 refine Zg (cR 210 f210) λF st i=>?_;refine rx (nd2 @eQ0 (nd2 @eQ6 (nd2 @Yk.eq_1 @eQ1))) ?_;refine rg ?_;refine cl (ZuK f.kind h0 h1) ?_;refine rg ?_;refine cl (Kr 98) ?_;refine cG (Kr 108) ?_;refine cG (Kr 111) ?_;refine cG (Kr 120) ?_;refine cG (Kr 104) ?_;generalize z:Zff f.kind=u;refine cd (λn=>?_) (λn=>?_);have hz:zrA u f=false:=by rw[Zzi,n];rfl
 refine rg ?_;refine rb i ?_;simp[Zeb,z,hz];have hz:zrA u f=true:=by rw[Zzi,n];rfl
 clear n;refine rg ?_;refine cX (nd2 @eQ6 (nd2 @Yk.eq_1 @eQ1)) (Kr 115) ?_;refine cG (Kr 102) ?_;refine cG (Kr 116) ?_;refine cG (Kr 114) ?_;refine cd (λt=>?_) (λt=>?_);have j:zrB u f=false:=by rw[Zzj,t];rfl
 refine rg ?_;refine rb i ?_;simp[Zeb,z,j];have j:zrB u f=true:=by rw[Zzj,t];rfl
 clear t;refine rg ?_;refine cX (nd2 @eQ6 (nd2 @Yk.eq_1 @eQ1)) (Kr 99) ?_;refine cG (Kr 107) ?_;refine cG (Kr 121) ?_;refine rb i ?_;simp only[Zeb,z,hz,j];simp[zrC,Bool.and_assoc]
def Jy(f:Fld):Bool:=dC (f.bits<1) ||(dC (32<f.bits) ||(f.little&&(!dC (f.bits=16)&&(!dC (f.bits=24)&&!dC (f.bits=32)))))
def Zf9(f:Fld):Int:=if f.kind=2 then f.low else f.high
def Zbr(f:Fld):Bool:=dC (f.low<0) ||(dC (Zf9 f<f.low) ||decide (2 ^ f.bits.toNat<=Zf9 f))
def KA(f:Fld):Int:=if Jy f then 6 else if Zbr f then 7 else 0
def ZAC{b}(h0:0<=b)(h1:b<=32):ZkE .i64 1 b=2 ^ b.toNat:=by
 unfold ZkE;rw[show Nat.min b.toNat IntKind.i64.bits=b.toNat from Nat.min_eq_left (show b.toNat<=IntKind.i64.bits by simp[IntKind.bits];omega)];simp
def ZeG{b:Int}(h0:0<=b)(h1:b<=32):(0:Int)<2 ^ b.toNat/\(2:Int) ^ b.toNat<=4294967296:=by
 have h:=Nat.pow_le_pow_right (n:=2) ω (show b.toNat<=32 by omega);have i:=Nat.two_pow_pos b.toNat;rw[show(2:Int) ^ b.toNat=((2 ^ b.toNat:Nat):Int) from(Int.natCast_pow 2 b.toNat).symm];generalize 2 ^ b.toNat=x at h i⊢;omega
def Zi5(f):Zc ZHF 250 [.agg f.cells] (.i (KA f)):=by
 refine Zg (cR 250 f250) λF st i=>?_;refine rx (nd2 @eQ0 (nd2 @eQ6 (nd2 @Yk.eq_1 @eQ1))) ?_;refine rg ?_;refine cd (λhc=>?_) (λhc=>?_);have z:Jy f=true:=by rw[<-hc];simp[Jy,Bool.or_assoc,Bool.and_assoc]
 refine rg ?_;refine ri i ?_;simp[KA,z];have z:Jy f=false:=by rw[<-hc];simp[Jy,Bool.or_assoc,Bool.and_assoc]
 have j:=z;simp[Jy]at j;have n:=ZAC (b:=f.bits) ω ω;have h32:=ZeG (b:=f.bits) ω ω;have hbits:1<=f.bits/\f.bits<=32:=ω;clear hc j;refine gG ?_;refine cd (λh2=>?_) (λh2=>?_);have ht:Zf9 f=f.low:=by simp at h2;simp[Zf9,h2]
 refine rg ?_;refine rx @n ?_;refine ZHG (λ_=>by omega) ?_;refine cd (λu=>?_) (λu=>?_);have t:Zbr f=true:=by rw[<-u];simp[Zbr,ht,Bool.or_assoc]
 refine rg ?_;refine ri i ?_;simp[KA,z,t];have t:Zbr f=false:=by rw[<-u];simp[Zbr,ht,Bool.or_assoc]
 refine rg ?_;refine ri i ?_;simp[KA,z,t];have ht:Zf9 f=f.high:=by simp at h2;simp[Zf9,h2]
 refine rx @n ?_;refine ZHG (λ_=>by omega) ?_;refine cd (λu=>?_) (λu=>?_);have t:Zbr f=true:=by rw[<-u];simp[Zbr,ht,Bool.or_assoc]
 refine rg ?_;refine ri i ?_;simp[KA,z,t];have t:Zbr f=false:=by rw[<-u];simp[Zbr,ht,Bool.or_assoc]
 refine rg ?_;refine ri i ?_;simp[KA,z,t]
def Zqg(m:Msg)(s:Str)(n:Nat):Bool:=(m.fields.take n).any λf=>dC (f.kind=9)&&dC (f.tag=s)
def Zpu{α:Type}[Inhabited α]{p}{l:List α}{n}(u:n<=I l)(h:∀j,j<n->p (l.getD j dE)=false):(l.take n).any p=false:=by
 rw[List.any_eq_false];intro x t;obtain⟨j,i,rfl⟩:=(ZaF u).1 t;rw[h j i];simp
def Zrr{α:Type}[Inhabited α]{p}{l:List α}{n i}(j:n<=I l)(t:i<n)(h:p (l.getD i dE)=true):(l.take n).any p=true :=
 List.any_eq_true.2 ⟨_,(ZaF j).2 ⟨i,t,rfl⟩,h⟩
def ZrD(m)(s:Str)(sm:Nat)(hs:sm<=I m.fields):Zc ZHF 253 [.agg m.cells,.str s,.i sm] (.bool (Zqg m s sm)):=by
 refine ZJ (cR 253 f253) λab F st u=>?_;have hw:=(ZfI (s:=m) (ab _ ψ)).nfields;unfold big at hw;clear ab;refine rx (nd2 @eQ3 (nd2 @eQ5 @eQ1)) ?_;refine rg ?_;refine Zb (fr (sm) (λi Q=>i<=sm->(∀j,j<i->(dC ((m.fields.getD j dE).kind=9)&&dC ((m.fields.getD j dE).tag=s))=false)->Q [(1,.d (.str s)),(2,.d (.i sm)),(3,.loc 3 0),(7,.d (.i i))] [(3,m.cells)] st) (λn t=>?_) λad=>?_);intro i hn hi z;refine rx (nd2 @eQ3 (nd2 @eQ5 @eQ1)) ?_;refine cd (λhd=>?_) (λhd=>?_);simp at hd;refine xA (nd2 @eQ0 (nd2 @eQ3 (nd2 @eQ5 @eQ1))) ?_;refine cd (λh5=>?_) (λh5=>?_);refine rg ?_;refine rb u ?_;exact(Zrr hs hd h5).symm;refine gA ?_;have ac:∀j,j<i+1->(dC ((m.fields.getD j dE).kind=9)&&dC ((m.fields.getD j dE).tag=s))=false:=by intro j hj;rcases Nat.lt_succ_iff_lt_or_eq.1 hj with hj|rfl;exact z j hj;exact h5
 refine Za ?_;exact t ((sm)-(i+1)) ω (i+1) rfl ω ac;simp at hd;refine rg ?_;refine rb u ?_;exact(Zpu hs (λj hj=>z j ω)).symm;exact ad _ 0 rfl ω (λj h=>by omega)
def J7(d:Dfn)(at_:Nat)(high:Int):Int->List Yw->Int
 |_,[]=>0
 |low,c::r=>if dC (c.low<low) ||(dC (c.high<c.low) ||decide (high<c.high)) then 7 else if Zr d c.of at_<0 then 8 else J7 d at_ high (c.high+1) r
def ZbT(d:Dfn)(at_:Nat)(f:Fld)(low high:Int):Int:=if dC (I f.cases<1) ||decide (40<I f.cases) then 3 else J7 d at_ high low f.cases
def ZtS(d)(at_:Nat)(f:Fld){low high:Int}(ha:at_<=I d.msgs):Zc ZHF 255 [.agg d.cells,.i at_,.agg f.cells,.i low,.i high] (.i (ZbT d at_ f low high)):=by
 refine Zg (cR 255 f255) λF st t=>?_;refine rx (nd2 @eQ0 (nd2 @eQ2 (nd2 @eQ6 (nd2 @Yk.eq_1 @eQ1)))) ?_;refine rg ?_;refine cd (λhc=>?_) (λhc=>?_);refine rg ?_;have ab:(dC (I f.cases<1) ||decide (40<I f.cases))=true:=by rw[ZH0,decide_eq_true_eq,decide_eq_true_eq]at hc⊢;omega
 refine ri t ?_;unfold ZbT;rw[if_pos ab];rw[Bool.or_eq_false_iff,decide_eq_false_iff_not,decide_eq_false_iff_not]at hc;have ab:¬(dC (I f.cases<1) ||decide (40<I f.cases))=true:=by rw[ZH0,decide_eq_true_eq,decide_eq_true_eq];omega
 have he:ZbT d at_ f low high=J7 d at_ high low (f.cases.drop 0):=by unfold ZbT;rw[if_neg ab];rfl
 have hlen:I f.cases<=40:=ω;clear hc;refine rg ?_;refine Zb (fr (I f.cases) (λi Q=>∀lo,i<=I f.cases->ZbT d at_ f low high=J7 d at_ high lo (f.cases.drop i)->(low<=lo/\(i=0->lo=low)/\(0<i->lo=(f.cases.getD (i-1) dE).high+1))->Q [(1,.d (.i at_)),(3,.d (.i low)),(4,.d (.i high)),(5,.loc 5 0),(7,.loc 7 0),(11,.d (.i i))] [(5,d.cells),(7,f.cells)] st) (λn u=>?_) λae=>?_);intro i hn lo hi j af;refine rx (nd2 @eQ0 (nd2 @eQ2 (nd2 @eQ6 (nd2 @Yk.eq_1 @eQ1)))) ?_;refine cd (λhd=>?_) (λhd=>?_);simp at hd;rw[Ww hd,J7]at j;refine xA (nd2 @eQ0 (nd2 @eQ2 (nd2 @eQ9 (nd2 @eQ6 (nd2 @Yk.eq_1 @eQ1))))) ?_;refine rx (nd2 @eQ0 (nd2 @eQ2 (nd2 @eQ9 (nd2 @eQ6 (nd2 @Yk.eq_1 @eQ1))))) ?_;rw[show((i:Int)-1).toNat=i-1 by omega];refine ZHG (λh=>by omega) (ZHG (λh=>by simp at h;omega) ?_);obtain⟨hlo1,ac,ad⟩:=af;have z:(dC ((f.cases.getD i dE).low<low) ||decide ((f.cases.getD i dE).high<(f.cases.getD i dE).low) ||decide (high<(f.cases.getD i dE).high) ||decide (0<(i:Int))&&dC ((f.cases.getD i dE).low<=(f.cases.getD (i-1) dE).high))=(dC ((f.cases.getD i dE).low<lo) ||(dC ((f.cases.getD i dE).high<(f.cases.getD i dE).low) ||decide (high<(f.cases.getD i dE).high))):=by rw[Bool.eq_iff_iff];simp only[ZH0,ZHN,decide_eq_true_eq];rcases Nat.eq_zero_or_pos i with h|h;have:=ac h;omega;have:=ad h;omega
 rw[z];generalize hx:f.cases.getD i dE=x at *;refine cd (λh4=>?_) (λh4=>?_);rw[if_pos h4]at j;refine rg ?_;refine ri t ?_;exact j.symm;rw[h4,if_neg (by decide)]at j;refine rx @eQ2 ?_;refine cX @eQ2 (Wi d x.of at_ ha) ?_;refine cd (λh5=>?_) (λh5=>?_);rw[if_pos (of_decide_eq_true h5)]at j;refine rg ?_;refine ri t ?_;exact j.symm;rw[if_neg (of_decide_eq_false h5)]at j;simp at h4;refine gA ?_;refine Za ?_;exact u ((I f.cases)-(i+1)) ω (i+1) rfl _ ω j ⟨ω,ω,λ_=>by rw[show i+1-1=i by omega,hx]⟩;simp at hd;rw[List.drop_of_length_le ω,J7]at j;refine rg ?_;refine ri t ?_;exact j.symm;exact ae _ 0 rfl low ω he ⟨ω,λ_=>rfl,λh=>by omega⟩
def Z4(fs:List Fld):Zbb:=λs=>if Zi (λf=>dC (f.name=s)) fs<0 then nO else if Yj (fs.getD (Zi (λf=>dC (f.name=s)) fs).toNat dE) then sO (Y8 (fs.getD (Zi (λf=>dC (f.name=s)) fs).toNat dE)) else nO
def Zak(fs:List Fld)(s:Jp):Int:=if ZI s=false then 9 else if s.terms.any (YP (Z4 fs)) then 8 else if !dC ((YV s (Z4 fs)).2.2=0) ||(dC ((YV s (Z4 fs)).1<0) ||decide (1048576<(YV s (Z4 fs)).2.1)) then 9 else 0
def Zqy{α:Type}{p q}{l:List α}(h:∀x∈l,p x=q x):l.any p=l.any q:=by
 induction l with
 |nil=>rfl
 |cons x r ih=>simp only[List.any_cons,h x ψ,ih λy i=>h y (by simp[i])]
def Zyq{look i l}(h:∀t∈l,look t.field=i t.field):loS look l=loS i l/\hiS look l=hiS i l:=by
 induction l with
 |nil=>exact⟨rfl,rfl⟩
 |cons x r ih =>have j:=ih λy n=>h y (by simp[n]);have u:=h x ψ;simp only[loS,hiS,loT,hiT,Jt,j.1,j.2,u,and_self]
def Zob{s look i}(h:∀t∈s.terms,look t.field=i t.field):YV s look=YV s i:=by
 have z:=Zqy (p:=WK look) (q:=WK i) (l:=s.terms) λt j=>by simp only[WK,h t j]
 have u:=Zqy (p:=YP look) (q:=YP i) (l:=s.terms) λt j=>by simp only[YP,h t j]
 have n:=Zyq h;unfold YV JH;rw[z,u,n.1,n.2]
def Zyo{s}{l:List Yn}{g:Str->Int×Int}(h:∃t∈l,t.field=s):Wo (l.map λt=>⟨t.field,(g t.field).1,(g t.field).2⟩) s=sO (g s):=by
 have n:0<=YM s (l.map λt=>⟨t.field,(g t.field).1,(g t.field).2⟩)/\(((l.map λt=>(⟨t.field,(g t.field).1,(g t.field).2⟩:Ran)).getD (YM s (l.map λt=>⟨t.field,(g t.field).1,(g t.field).2⟩)).toNat dE).low,((l.map λt=>(⟨t.field,(g t.field).1,(g t.field).2⟩:Ran)).getD (YM s (l.map λt=>⟨t.field,(g t.field).1,(g t.field).2⟩)).toNat dE).high)=g s:=by
  induction l with
  |nil=>simp at h
  |cons x r ih =>
   simp only[ZHY,YM];by_cases z:0<=YM s (r.map λt=>⟨t.field,(g t.field).1,(g t.field).2⟩)
   .have j:∃t∈r,t.field=s:=by
     apply Classical.byContradiction;intro i;have:YM s (r.map λt=>⟨t.field,(g t.field).1,(g t.field).2⟩)=-1:=by
      clear ih h z;induction r with
      |nil=>rfl
      |cons y q ih2 =>have h1:=ih2 λ⟨t,ht,u⟩=>i ⟨t,by simp[ht],u⟩;have h2:y.field≠s:=λu=>i ⟨y,ψ,u⟩;simp[YM,h1,h2]
     omega
    have h1:=ih j;rw[if_pos z];refine⟨ω,?_⟩;rw[show((YM s (r.map λt=>⟨t.field,(g t.field).1,(g t.field).2⟩))+1).toNat=(YM s (r.map λt=>⟨t.field,(g t.field).1,(g t.field).2⟩)).toNat+1 by omega];simpa using h1.2
   have hx:x.field=s:=by apply Classical.byContradiction;intro i;obtain⟨t,ht,u⟩:=h;rcases List.mem_cons.1 ht with rfl|ht;exact i u;exact z (ih ⟨t,ht,u⟩).1
   rw[if_neg z,if_pos hx];subst hx;exact⟨ω,ψ⟩
 unfold Wo;rw[if_neg ω,n.2]
def Zcd(look:Zbb)(t:Yn):Ran:=⟨t.field,(Jt look t).1,(Jt look t).2⟩
def ZAy{look}{l:List Yn}{t}(j:t∈l)(i:YP look t=false):Wo (l.map (Zcd look)) t.field=look t.field:=by
 have:=Zyo (s:=t.field) (l:=l) (g:=λs=>(look s).getD (0,0)) ⟨t,j,rfl⟩;rw[show(Zcd look)=λt=>⟨t.field,((look t.field).getD (0,0)).1,((look t.field).getD (0,0)).2⟩ from rfl,this];simp only[YP]at i;cases h:look t.field with
 |none=>rw[h]at i;simp at i
 |some r=>rfl
def ZtV(m:Msg)(i)(hi:i<I m.fields):Zc ZHF 252 [.agg m.cells,.i i] (.i (Zak (m.fields.take i) (m.fields.getD i dE).size)):=by
 refine ZJ (cR 252 f252) λai F st j=>?_;have hw:=(ZfI (s:=m) (ai _ ψ)).nfields;unfold big at hw;clear ai;generalize hs:(m.fields.getD i dE).size=s at *;refine rx (nd2 @eQ3 (nd2 @eQ5 @eQ1)) ?_;refine xA (nd2 @eQ3 (nd2 @eQ0 (nd2 @eQ5 (nd2 @eQ1 @hs)))) ?_;refine rg ?_;refine cl (ZfR s) ?_;refine cd (λhc=>?_) (λhc=>?_);simp at hc;refine rg ?_;refine ri j ?_;simp[Zak,hc];simp at hc;have hv:=Znz.of hc;have hlen:=hv.len;refine gG ?_;refine kl (st) [(1,.d (.i i)),(2,.loc 2 0),(5,.loc 5 0),(6,.d (.sl .full 0 3 λ_=>[])),(7,.d (.i (0:Nat)))] [(2,m.cells),(5,s.cells)] (.skip (.skip (.skip (.cons (.d (Y3 ψ)) (.skip .nil))))) WE ?_;refine Zb (fr (I s.terms) (λk Q=>∀tk row,tk.okIn st->ZQ Ran.cells row ((s.terms.take k).map (Zcd (Z4 (m.fields.take i))))->k<=I s.terms->(s.terms.take k).any (YP (Z4 (m.fields.take i)))=false->Q [(1,.d (.i i)),(2,.loc 2 0),(5,.loc 5 0),(6,.d (.sl tk k 3 row)),(7,.d (.i k))] [(2,m.cells),(5,s.cells)] (st.own tk (k*3))) (λn ad=>?_) λam=>?_);intro k hn tk row htk u hk ac;refine rx (nd2 @eQ4 (nd2 @eQ6 @eQ1)) ?_;refine cd (λhd=>?_) (λhd=>?_);simp at hd;have aj:=Zh7 (p:=YP (Z4 (m.fields.take i))) hd;generalize hx:s.terms.getD k dE=x at *;refine xA (nd2 @eQ3 (nd2 @eQ4 (nd2 @eQ8 (nd2 @eQ6 (nd2 @eQ1 @hx))))) ?_;have c9:=Zah m x.field i ω;refine cl0 (c9) ?_;have ao:=QY (λf=>dC (f.name=x.field)) (m.fields.take i);have ah:=Ys (λf=>dC (f.name=x.field)) (m.fields.take i);rw[ZHZ]at ah;have ab:Z4 (m.fields.take i) x.field=if Yb m x.field i<0 then nO else if Yj (m.fields.getD (Yb m x.field i).toNat dE) then sO (Y8 (m.fields.getD (Yb m x.field i).toNat dE)) else nO:=by unfold Z4 Yb;by_cases h:Zi (λf=>dC (f.name=x.field)) (m.fields.take i)<0;rw[if_pos h,if_pos h];rw[if_neg h,if_neg h,KX ω]
 rw[show Zi (λf=>dC (f.name=x.field)) (m.fields.take i)=Yb m x.field i from rfl]at ao ah;generalize Yb m x.field i=q at *;refine xA (nd2 @eQ3 (nd2 @eQ0 (nd2 @eQ5 @eQ1))) ?_;refine cG (Zcf (m.fields.getD q.toNat dE)) ?_;refine aa ?_;refine cd (λh5=>?_) (λh5=>?_);have af:YP (Z4 (m.fields.take i)) x=true:=by unfold YP;rw[ab];by_cases hq:q<0;rw[if_pos hq];rfl;rw[decide_eq_false hq,Bool.false_or,Bool.not_eq_true']at h5;rw[if_neg hq,h5];rfl
 have:=Zsx (p:=YP (Z4 (m.fields.take i))) hd (by rw[hx];exact af);refine rg ?_;refine ri j ?_;unfold Zak;rw[hc,this];rfl;rw[Bool.or_eq_false_iff,decide_eq_false_iff_not]at h5;obtain⟨hq,ae⟩:=h5;rw[Bool.not_eq_false']at ae;rw[if_neg hq,if_pos ae]at ab;have af:YP (Z4 (m.fields.take i)) x=false:=by unfold YP;rw[ab];rfl
 rw[af,Bool.or_false]at aj;refine xA (nd2 @eQ3 (nd2 @eQ0 (nd2 @eQ5 @eQ1))) ?_;refine cl (Zj9 (m.fields.getD q.toNat dE)) ?_;refine xA (nd2 @eQ4 (nd2 @eQ8 (nd2 @eQ6 (nd2 @eQ1 @hx)))) ?_;refine K3 (st) (tk) rfl rfl rfl rfl rfl rfl φ φ rfl (by first|trivial|assumption) ω (by (unfold big;omega)) λt1 aq=>Zn ?_;simp only[Eqs,reduceCtorEq,ZHK,reduceIte,ZHI,ZHM,ZHJ];refine gA ?_;have al:Zcd (Z4 (m.fields.take i)) x=⟨x.field,(Y8 (m.fields.getD q.toNat dE)).1,(Y8 (m.fields.getD q.toNat dE)).2⟩:=by unfold Zcd Jt;rw[ab];rfl
 have z:=u.snoc (x:=Zcd (Z4 (m.fields.take i)) x) (row2:=ZY [.str [],.i 0,.i 0] ([0].zip [.agg [.str x.field,.i (Y8 (m.fields.getD q.toNat dE)).1,.i (Y8 (m.fields.getD q.toNat dE)).2]])) (by rw[al];rfl) (show k=_ by simp;omega);rw[show(s.terms.take k).map (Zcd (Z4 (m.fields.take i)))++[Zcd (Z4 (m.fields.take i)) x]=(s.terms.take (k+1)).map (Zcd (Z4 (m.fields.take i))) by rw[Z3 hd,hx];simp]at z;refine Za ?_;exact ad ((I s.terms)-(k+1)) ω (k+1) rfl t1 _ aq z ω (by rw[aj];exact ac);simp at hd;obtain rfl:k=I s.terms:=ω;rw[ZH2]at u ac;have ak:YV s (Wo (s.terms.map (Zcd (Z4 (m.fields.take i)))))=YV s (Z4 (m.fields.take i)):=Zob λt ht=>ZAy ht (by have:=List.any_eq_false.1 ac t ht;simpa using this);have ag:=ZoA s (s.terms.map (Zcd (Z4 (m.fields.take i))));rw[ak]at ag;generalize hr:YV s (Z4 (m.fields.take i))=r at *;obtain⟨lo,ap,er⟩:=r;refine ZR rfl (Zd (Zee [2,5,6] ?_));simp only[Eqs,reduceCtorEq,ZHK,reduceIte,ZHI,ZHM,ZHJ];refine kl (st) [(2,.loc 2 0),(5,.loc 5 0),(6,.d (ZbJ (s.terms.map (Zcd (Z4 (m.fields.take i))))))] [(2,m.cells),(5,s.cells)] (.skip (.skip (.cons (.d (u.le ψ)) .nil))) WE ?_;refine rx (nd2 @eQ4 @eQ3) ?_;refine cl (ag) ?_;refine rg ?_;have hf:Zak (m.fields.take i) s=if !dC (er=0) ||(dC (lo<0) ||decide (1048576<ap)) then 9 else 0:=by unfold Zak;rw[hc,ac,hr];rfl
 rw[<-Bool.or_assoc]at hf;refine cd (λh6=>?_) (λh6=>?_);rw[h6]at hf;refine rg ?_;refine ri j ?_;exact hf.symm;rw[h6]at hf;refine rg ?_;refine ri j ?_;exact hf.symm;exact am _ 0 rfl .full _ trivial ZQ.nil ω ψ
def WM(l:List Str):D:=slD 1 (λs=>[.str s]) l
def Qo(f:Fld):List Str:=if dC (f.kind=7) ||(dC (f.kind=8) ||decide (f.kind=12)) then [f.of] else []
def Z7(f:Fld):List Str:=Qo f++if f.kind=9 then f.cases.map (·.of) else []
def Jq(out:List Str)(s:Str):List Str:=if s∈out then out else out++[s]
def Wd(m:Msg):List Str:=(m.fields.flatMap Z7).foldl Jq []
def Zus(out s):(Jq out s).length<=I out+1:=by unfold Jq;split<;>simp
def QL(l i:List Str):(l.foldl Jq i).length<=I i+I l:=by
 induction l generalizing i with
 |nil=>simp
 |cons x r ih=>have:=ih (Jq i x);have:=Zus i x;simp only[List.foldl_cons,ZHW];omega
def ZaQ(l:List Fld)(i):((l.take i).flatMap Z7).length<=(l.flatMap Z7).length:=by
 conv=>rhs;rw[<-List.take_append_drop i l,List.flatMap_append,ZHO]
 omega
def ZeR(l:List Fld)(i)(j:i<I l):(l.take (i+1)).flatMap Z7=(l.take i).flatMap Z7++Z7 (l.getD i dE):=by
 rw[Z3 j,List.flatMap_append];simp
def Zi4(m)(hb:(m.fields.flatMap Z7).length<=1000000):Zc ZHF 168 [.agg m.cells] (WM (Wd m)):=by
 refine ZJ (cR 168 f168) λak F st aq=>?_;have hw:=(ZfI (s:=m) (ak _ ψ)).nfields;have a9:=(ZfI (s:=m) (ak _ ψ)).fields;unfold big at hw;clear ak;refine rx (nd2 @eQ3 (nd2 @eQ5 @eQ1)) ?_;refine gG ?_;refine kl (st) [(1,.loc 1 0),(3,.d (.sl .full 0 1 λ_=>[])),(4,.d (.i (0:Nat)))] [(1,m.cells)] (.skip (.cons (.d (Y3 λb h=>by cases h)) (.skip .nil))) WE ?_;refine Zb (fr (I m.fields) (λi Q=>∀tk row u,tk.okIn st->ZQ (λs=>[.str s]) row u->u=((m.fields.take i).flatMap Z7).foldl Jq []->i<=I m.fields->Q [(1,.loc 1 0),(3,.d (.sl tk (I u) 1 row)),(4,.d (.i i))] [(1,m.cells)] (st.own tk (I u*1))) (λn ap=>?_) λba=>?_);intro i hn tk row u ag ac af hi;have a6:=QL ((m.fields.take i).flatMap Z7) [];have hlt:=ZaQ m.fields i;rw[<-af]at a6;simp only[List.length_nil,Nat.zero_add]at a6;refine rx (nd2 @eQ3 (nd2 @eQ5 @eQ1)) ?_;refine cd (λhd=>?_) (λhd=>?_);simp at hd;have ai:=ZeR m.fields i hd;have ax:=ZaQ m.fields (i+1);have ak:=a9 _ (Zm hd);have a7:=ak.ncases;unfold big at a7;generalize hf:m.fields.getD i dE=f at *;rw[ai,ZHO]at ax;refine xA (nd2 @eQ3 (nd2 @eQ0 (nd2 @eQ5 (nd2 @eQ1 @hf)))) ?_;refine rg ?_;refine rx @eQ0 ?_;refine jU [0] (λQ=>∀tl z ll,tl.okIn (st.own tk (I u*1))->ZQ (λs=>[.str s]) z ll->ll=Qo f->Q F [(1,.loc 1 0),(3,.d (.sl tk (I u) 1 row)),(4,.d (.i i)),(5,.loc 5 0),(6,.d (.sl tl (I ll) 1 z))] [(1,m.cells),(5,f.cells)] ((st.own tk (I u*1)).own tl (I ll*1))) ?_ λjn=>?_;intro tl z ll ao ab al;have bb:I ll<=1:=by rw[al];unfold Qo;split<;>simp
 refine rx @eQ0 ?_;refine Zb (fr (I f.cases) (λk Q=>∀tl z l,tl.okIn (st.own tk (I u*1))->ZQ (λs=>[.str s]) z l->(l=ll++if f.kind=9 then (f.cases.take k).map (·.of) else [])->k<=I f.cases->Q [(1,.loc 1 0),(3,.d (.sl tk (I u) 1 row)),(4,.d (.i i)),(5,.loc 5 0),(6,.d (.sl tl (I l) 1 z)),(7,.d (.i k))] [(1,m.cells),(5,f.cells)] ((st.own tk (I u*1)).own tl (I l*1))) (λn ad=>?_) λa5=>?_);clear ab ao z tl;intro k a4 tl z l ao ab hl hk;refine rx (nd2 @eQ0 (nd2 @Yk.eq_1 @eQ1)) ?_;refine cd (λh4=>?_) (λh4=>?_);simp only[ZHN,decide_eq_true_eq]at h4;have hll2:I l=I ll+k:=by rw[hl,if_pos h4.1];simp;omega
 have hcl:(Z7 f).length=I ll+I f.cases:=by rw[al,Z7,if_pos h4.1];simp
 refine xA (nd2 @eQ0 (nd2 @eQ9 (nd2 @Yk.eq_1 @eQ1))) ?_;refine K3 (st.own tk (I u*1)) (tl) rfl rfl rfl rfl rfl rfl φ φ rfl (by first|trivial|assumption) ω (by (unfold big;omega)) λt2 av=>Zn ?_;simp only[Eqs,reduceCtorEq,ZHK,reduceIte,ZHI,ZHM,ZHJ];refine gA ?_;have au:=ab.snoc (x:=(f.cases.getD k dE).of) (row2:=ZY [.str []] ([0].zip [.str (f.cases.getD k dE).of])) rfl rfl;refine Za ?_;have t:=ad ((I f.cases)-(k+1)) ω (k+1) rfl t2 _ (l++[(f.cases.getD k dE).of]) av au (by rw[hl,if_pos h4.1,if_pos h4.1,Z3 ω];simp) ω;rw[ZHO]at t;exact t;have ay:l=Z7 f:=by
  rw[hl,al,Z7];by_cases h9:f.kind=9;have:k=I f.cases:=by simp[h9]at h4;omega
  rw[if_pos h9,if_pos h9,this,ZH2];rw[if_neg h9,if_neg h9]
 clear ad h4 hl al bb ll hk a4;have al:I l=(Z7 f).length:=by rw[ay]
 refine rg ?_;refine kl (st.own tk (I u*1)) [(1,.loc 1 0),(3,.d (.sl tk (I u) 1 row)),(4,.d (.i i)),(6,.d (WM l)),(8,.d (.i (0:Nat)))] [(1,m.cells)] (.skip (.skip (.skip (.cons (.d (ab.le rfl)) (.skip .nil))))) WE ?_;refine Zb (fr (I l) (λk Q=>∀tk row o,tk.okIn st->ZQ (λs=>[.str s]) row o->o=(l.take k).foldl Jq u->k<=I l->Q [(1,.loc 1 0),(3,.d (.sl tk (I o) 1 row)),(4,.d (.i i)),(6,.d (WM l)),(8,.d (.i k))] [(1,m.cells)] (st.own tk (I o*1))) (λn ae=>?_) λa0=>?_);clear ac ag ab ao tl;intro k a4 tk row o ag ac ho hk;have hol:I o<=I u+k:=by have:=QL (l.take k) u;rw[<-ho,ZHZ]at this;omega
 refine rx (nd2 @WM.eq_1 @eQ1) ?_;refine cd (λh5=>?_) (λh5=>?_);simp at h5;have aj:(l.take (k+1)).foldl Jq u=Jq o (l.getD k dE):=by rw[Z3 h5,List.foldl_append,<-ho];rfl
 generalize hx:l.getD k dE=x at *;refine gG ?_;refine kl (st.own tk (I o*1)) [(1,.loc 1 0),(3,.d (.sl tk (I o) 1 row)),(4,.d (.i i)),(6,.d (WM l)),(8,.d (.i k)),(9,.d (.bool (dC (x∈o.take 0)))),(10,.d (.i (0:Nat)))] [(1,m.cells)] (by rw[show dC (x∈o.take 0)=false by simp];exact Ku) WE ?_;refine Zb (fr (I o) (λj Q=>j<=I o->Q [(1,.loc 1 0),(3,.d (.sl tk (I o) 1 row)),(4,.d (.i i)),(6,.d (WM l)),(8,.d (.i k)),(9,.d (.bool (dC (x∈o.take j)))),(10,.d (.i j))] [(1,m.cells)] (st.own tk (I o*1))) (λn ah=>?_) λaz=>?_);intro j hnj hj;refine rx (nd2 @WM.eq_1 @eQ1) ?_;refine cd (λh6=>?_) (λh6=>?_);simp at h6;have bc:=ac j h6;have a3:dC (x∈o.take (j+1))=(dC (x∈o.take j) ||decide (o.getD j dE=x)):=by rw[Z3 h6,Bool.eq_iff_iff];simp only[List.mem_append,List.mem_singleton,ZH0,decide_eq_true_eq];exact or_congr Iff.rfl ⟨Eq.symm,Eq.symm⟩
 refine xA (nd2 @WM.eq_1 (nd2 @eQ1 (nd2 @hx @bc))) ?_;refine gA ?_;refine Za ?_;have t:=ah ((I o)-(j+1)) ω (j+1) rfl ω;rw[a3]at t;exact t;simp at h6;obtain rfl:j=I o:=ω;rw[ZH2];refine rg ?_;refine cd (λh7=>?_) (λh7=>?_);have aw:x∉o:=by simpa using h7
 refine xA (nd2 @WM.eq_1 (nd2 @eQ1 @hx)) ?_;refine K3 (st) (tk) rfl rfl rfl rfl rfl rfl φ φ rfl (by first|trivial|assumption) ω (by (unfold big;omega)) λt3 be=>Zn ?_;simp only[Eqs,reduceCtorEq,ZHK,reduceIte,ZHI,ZHM,ZHJ];refine gA ?_;have ar:=ac.snoc (x:=x) (row2:=ZY [.str []] ([0].zip [.str x])) rfl rfl;have t:=ae (I l-(k+1)) ω (k+1) rfl t3 _ (o++[x]) be ar (by rw[aj,Jq,if_neg aw]) ω;rw[ZHO]at t;refine Za ?_;exact t;have aw:x∈o:=by simpa using h7
 refine gA ?_;have t:=ae (I l-(k+1)) ω (k+1) rfl tk row o ag ac (by rw[aj,Jq,if_pos aw]) ω;refine Za ?_;exact t;exact az _ 0 rfl ω;simp at h5;obtain rfl:k=I l:=ω;rw[ZH2]at ho;refine gA ?_;have t:=ap (I m.fields-(i+1)) ω (i+1) rfl tk row o ag ac (by rw[ai,List.foldl_append,<-af,ho,ay]) ω;refine Za ?_;exact t;exact a0 _ 0 rfl tk row u ag ac rfl ω;exact a5 _ 0 rfl tl z ll ao ab ψ ω;refine cd (λh3=>?_) (λh3=>?_);refine rx @eQ0 ?_;refine K3 (st.own tk (I u*1)) (.full) rfl rfl rfl rfl rfl rfl φ φ rfl (by first|trivial|assumption) (by decide) (by (unfold big;decide)) λt2 av=>Zn ?_;simp only[Eqs,reduceCtorEq,ZHK,reduceIte,ZHI,ZHM,ZHJ];have am:[f.of]=Qo f:=by unfold Qo;rw[if_pos (by rw[<-Bool.or_assoc];exact h3)]
 exact jn t2 _ [f.of] av (ZQ.nil.snoc (x:=f.of) rfl rfl) am;refine Zp ?_;refine kE [1,3,4,5,6] ?_;refine kl (st.own tk (I u*1)) [(1,.loc 1 0),(3,.d (.sl tk (I u) 1 row)),(4,.d (.i i)),(5,.loc 5 0),(6,.d (.sl .full 0 1 λ_=>[]))] [(1,m.cells),(5,f.cells)] (.skip (.skip (.skip (.skip (.cons (.d (Y3 λb h=>by cases h)) .nil))))) WE ?_;have am:[]=Qo f:=by unfold Qo;rw[if_neg (by rw[<-Bool.or_assoc,h3];simp)]
 exact jn .full _ [] trivial ZQ.nil am;simp at hd;obtain rfl:i=I m.fields:=ω;rw[ZH2]at af;refine rg ?_;have a8:Wd m=u:=af.symm;rw[a8]at aq;exact aq rfl φ (K7 (ac.le rfl)) (YH ag);exact ba _ 0 rfl .full _ [] trivial ZQ.nil rfl ω
def ZxP(l:List Bool):D:=slD 1 (λb=>[.bool b]) l
def Je(d:Dfn)(m:Msg)(prev:List Bool):Bool:=m.fields.all (λf=>!f.loose)&&(Wd m).all λs=>prev.getD (Zr d s (I prev)).toNat dE
def W1(d:Dfn):Nat->List Bool
 |0=>[]
 |n+1=>W1 d n++[Je d (d.msgs.getD n dE) (W1 d n)]
def JP(d n):(W1 d n).length=n:=by
 induction n with
 |zero=>rfl
 |succ n ih=>simp[W1,ih]
structure Zla(d:Dfn)(j:Nat):Prop where
 few:((d.msgs.getD j default).fields.flatMap Z7).length<=1000000
 ref:∀s∈Wd (d.msgs.getD j default),0<=Zr d s j
def Zh6{α:Type}[Inhabited α]{p}{l:List α}{i}(h:i<I l):(l.take (i+1)).all p=((l.take i).all p&&p (l.getD i dE)):=by
 rw[Z3 h,List.all_append];simp
def ZpV(d sm)(hs:sm<=I d.msgs)(hsm:sm<=1000)(hr:∀j,j<sm->Zla d j):Zc ZHF 256 [.agg d.cells,.i sm] (ZxP (W1 d sm)):=by
 refine ZJ (cR 256 f256) λai F st ag=>?_;have hw:=(Zhu (s:=d) (ai _ ψ)).nmsgs;have a4:=(Zhu (s:=d) (ai _ ψ)).msgs;unfold big at hw;clear ai;refine rx (nd2 @eQ2 (nd2 @eQ7 @eQ1)) ?_;refine gG ?_;refine kl (st) [(1,.d (.i sm)),(2,.loc 2 0),(5,.d (.sl .full 0 1 λ_=>[])),(6,.d (.i (0:Nat)))] [(2,d.cells)] (.skip (.skip (.cons (.d (Y3 λb h=>by cases h)) (.skip .nil)))) WE ?_;refine Zb (fr (sm) (λi Q=>∀tk row t,tk.okIn st->ZQ (λb=>[.bool b]) row t->t=W1 d i->i<=sm->Q [(1,.d (.i sm)),(2,.loc 2 0),(5,.d (.sl tk (I t) 1 row)),(6,.d (.i i))] [(2,d.cells)] (st.own tk (I t*1))) (λn af=>?_) λav=>?_);intro i hn tk row t aw z ac hi;have ay:I t=i:=by rw[ac,JP]
 refine rx (nd2 @eQ2 (nd2 @eQ7 @eQ1)) ?_;refine cd (λhd=>?_) (λhd=>?_);simp at hd;have a3:i<I d.msgs:=ω;have aj:=hr i hd;have ax:=(a4 _ (Zm a3)).nfields;unfold big at ax;have ak:W1 d (i+1)=t++[Je d (d.msgs.getD i dE) t]:=by rw[W1,<-ac]
 generalize hm:d.msgs.getD i dE=m at *;refine gG ?_;refine Zb (fr (I m.fields) (λk Q=>k<=I m.fields->Q [(1,.d (.i sm)),(2,.loc 2 0),(5,.d (.sl tk (I t) 1 row)),(6,.d (.i i)),(7,.d (.bool ((m.fields.take k).all λf=>!f.loose))),(8,.d (.i k))] [(2,d.cells)] (st.own tk (I t*1))) (λn ad=>?_) λap=>?_);intro k hnk hk;refine xA (nd2 @eQ2 (nd2 @eQ3 (nd2 @eQ7 (nd2 @eQ5 (nd2 @eQ1 @hm))))) ?_;refine cd (λh4=>?_) (λh4=>?_);simp at h4;have ae:=Zh6 (p:=λf:Fld=>!f.loose) h4;refine xA (nd2 @eQ2 (nd2 @eQ3 (nd2 @eQ0 (nd2 @eQ7 (nd2 @eQ5 (nd2 @eQ1 @hm)))))) ?_;refine gA ?_;refine Za ?_;have u:=ad ((I m.fields)-(k+1)) ω (k+1) rfl ω;rw[ae]at u;exact u;simp at h4;obtain rfl:k=I m.fields:=ω;rw[ZH2];refine xA (nd2 @eQ2 (nd2 @eQ3 (nd2 @eQ7 (nd2 @eQ1 @hm)))) ?_;have c9:=Zi4 m (by have:=aj.few;rw[hm]at this;exact this);refine cl (c9) ?_;refine rg ?_;have am:=aj.few;have ah:=aj.ref;rw[hm]at am ah;have ao:=QL (m.fields.flatMap Z7) [];rw[show(m.fields.flatMap Z7).foldl Jq []=Wd m from rfl]at ao;simp only[List.length_nil,Nat.zero_add]at ao;have au:Je d m t=((m.fields.all λf=>!f.loose)&&(Wd m).all λs=>t.getD (Zr d s i).toNat dE):=by rw[Je,ay]
 generalize (m.fields.all λf=>!f.loose)=lo at *;generalize hrs:Wd m=rs at *;refine kl (st.own tk (I t*1)) [(1,.d (.i sm)),(2,.loc 2 0),(5,.d (.sl tk (I t) 1 row)),(6,.d (.i i)),(7,.d (.bool (lo&&(rs.take 0).all λs=>t.getD (Zr d s i).toNat dE))),(9,.d (WM rs)),(10,.d (.i (0:Nat)))] [(2,d.cells)] (by rw[show(lo&&(rs.take 0).all λs=>t.getD (Zr d s i).toNat dE)=lo by simp];exact Ku) WE ?_;refine Zb (fr (I rs) (λq Q=>q<=I rs->Q [(1,.d (.i sm)),(2,.loc 2 0),(5,.d (.sl tk (I t) 1 row)),(6,.d (.i i)),(7,.d (.bool (lo&&(rs.take q).all λs=>t.getD (Zr d s i).toNat dE))),(9,.d (WM rs)),(10,.d (.i q))] [(2,d.cells)] (st.own tk (I t*1))) (λn ab=>?_) λal=>?_);intro q hnq hq;refine rx (nd2 @WM.eq_1 @eQ1) ?_;refine cd (λh5=>?_) (λh5=>?_);simp at h5;have ae:=Zh6 (p:=λs:Str=>t.getD (Zr d s i).toNat dE) h5;have hge:=ah _ (Zm h5);have ar:=Ys (λm=>dC (m.name=rs.getD q dE)) (d.msgs.take i);rw[show Zi (λm=>dC (m.name=rs.getD q dE)) (d.msgs.take i)=Zr d (rs.getD q dE) i from rfl,ZHZ]at ar;have az:=z (Zr d (rs.getD q dE) i).toNat ω;refine xA (nd2 @eQ2 (nd2 @eQ7 (nd2 @WM.eq_1 @eQ1))) ?_;have c9:=Wi d (rs.getD q dE) i ω;refine Zl2 rfl rfl rfl rfl rfl (λaq=>⟨by first|trivial|(simpa[ZbO]using aq),trivial,c9⟩) (YT ?_);simp only[Eqs,reduceCtorEq,ZHK,reduceIte,ZHI,ZHM,ZHJ,az];refine aa ?_;refine gA ?_;refine Za ?_;have u:=ab ((I rs)-(q+1)) ω (q+1) rfl ω;rw[ae,<-Bool.and_assoc]at u;exact u;simp at h5;obtain rfl:q=I rs:=ω;rw[ZH2,<-au];refine gA ?_;refine K3 (st) (tk) rfl rfl rfl rfl rfl rfl φ φ rfl (by first|trivial|assumption) ω (by (unfold big;omega)) λt1 a0=>Zn ?_;simp only[Eqs,reduceCtorEq,ZHK,reduceIte,ZHI,ZHM,ZHJ];refine gA ?_;have u:=af (sm-(i+1)) ω (i+1) rfl t1 _ (t++[Je d m t]) a0 (z.snoc (x:=Je d m t) (row2:=ZY [.bool false] ([0].zip [.bool (Je d m t)])) rfl rfl) ak.symm ω;rw[ZHO]at u;refine Za ?_;exact u;exact al _ 0 rfl ω;exact ap _ 0 rfl ω;simp at hd;obtain rfl:i=sm:=ω;refine rg ?_;rw[<-ac]at ag;exact ag rfl φ (K7 (z.le rfl)) (YH aw);exact av _ 0 rfl .full _ [] trivial ZQ.nil rfl ω
def ZfJ(f:Fld):Bool:=!dC (f.bits=2)&&(!dC (f.bits=4)&&(dC (f.bits<8) ||(dC (512<f.bits)||!dC (Int.tmod f.bits 8=0))))
def Zej(m:Msg)(i:Nat)(f:Fld):Bool:=dC (Yb m f.tag i<0) ||(!Yj (m.fields.getD (Yb m f.tag i).toNat dE) ||Zqg m f.tag i)
def ZlI(d:Dfn)(at_:Nat)(f:Fld):Bool:=dC (Zr d f.of at_<0)||!(W1 d at_).getD (Zr d f.of at_).toNat dE
def K5(d:Dfn)(at_:Nat)(m:Msg)(i:Nat)(f:Fld):Int :=
 if f.kind=1 then KA f else if f.kind=2 then KA f
 else if f.kind=3 then (if ZgJ f.low f.high then 0 else 7)
 else if f.kind=4 then Zak (m.fields.take i) f.size
 else if f.kind=5 then (if dC (f.low<0) ||(dC (255<f.low) ||(dC (f.high<0) ||decide (1048576<f.high))) then 7 else 0)
 else if f.kind=6 then (if dC (f.high<2) ||decide (1048576<f.high) then 7 else 0)
 else if f.kind=7 then (if Zr d f.of at_<0 then 8 else Zak (m.fields.take i) f.size)
 else if f.kind=8 then (if Zr d f.of at_<0 then 8 else 0)
 else if f.kind=9 then (if Zej m i f then 8 else ZbT d at_ f (Y8 (m.fields.getD (Yb m f.tag i).toNat dE)).1 (Y8 (m.fields.getD (Yb m f.tag i).toNat dE)).2)
 else if f.kind=10 then (if ZfJ f then 6 else 0)
 else if f.kind=11 then (if dC (f.check<1) ||decide (3<f.check) then 7 else if Yb m f.from_ i<0 then 8 else 0)
 else if f.kind=12 then (if dC (f.key<0) ||decide (4294967295<f.key) then 7 else if ZlI d at_ f then 8 else Zak (m.fields.take i) f.size)
 else 0
def ZtU(d at_ i)(m:Msg)(f:Fld)(ha:at_<I d.msgs)(hm:d.msgs.getD at_ dE=m)(hi:i<I m.fields)(hf:m.fields.getD i dE=f)(h1000:at_<=1000)(hr:∀j,j<at_->Zla d j)(_:1<=f.kind)(_:f.kind<=12):Zc ZHF 211 [.agg d.cells,.i at_,.i i] (.i (K5 d at_ m i f)):=by
 refine Zg (cR 211 f211) λF st n=>?_;have hS:=K5.eq_1 d at_ m i f;have z:=ZtV m i hi;rw[hf]at z;refine rx (nd2 @eQ2 (nd2 @eQ7 @eQ1)) ?_;refine xA (nd2 @eQ2 (nd2 @eQ3 (nd2 @eQ7 (nd2 @eQ1 @hm)))) ?_;refine xA (nd2 @eQ3 (nd2 @eQ0 (nd2 @eQ5 (nd2 @eQ1 @hf)))) ?_;refine gG ?_;refine cd (λhk=>?_) (λhk=>?_);rw[if_pos (of_decide_eq_true hk)]at hS;refine Zp ?_;refine i1 ?_;refine rx @eQ0 ?_;refine cX @eQ0 (Zi5 f) ?_;refine ri n ?_;exact hS.symm;rw[if_neg (of_decide_eq_false hk)]at hS;refine rg ?_;refine cd (λhk=>?_) (λhk=>?_);rw[if_pos (of_decide_eq_true hk)]at hS;refine rx @eQ0 ?_;refine cX @eQ0 (Zi5 f) ?_;refine ri n ?_;exact hS.symm;rw[if_neg (of_decide_eq_false hk)]at hS;refine rg ?_;refine cd (λhk=>?_) (λhk=>?_);rw[if_pos (of_decide_eq_true hk)]at hS;refine rx @eQ0 ?_;refine cl (ZuL f.low f.high) ?_;refine cd (λh=>?_) (λh=>?_);rw[show ZgJ f.low f.high=false by simpa using h]at hS;refine rg ?_;refine ri n ?_;exact hS.symm;rw[show ZgJ f.low f.high=true by simpa using h]at hS;refine rg ?_;refine ri n ?_;exact hS.symm;rw[if_neg (of_decide_eq_false hk)]at hS;refine rg ?_;refine cd (λhk=>?_) (λhk=>?_);rw[if_pos (of_decide_eq_true hk)]at hS;refine rx (nd2 @eQ3 (nd2 @eQ5 @eQ1)) ?_;refine cl (z) ?_;refine ri n ?_;exact hS.symm;rw[if_neg (of_decide_eq_false hk)]at hS;refine rg ?_;refine cd (λhk=>?_) (λhk=>?_);rw[if_pos (of_decide_eq_true hk)]at hS;refine rx @eQ0 ?_;rw[<-Bool.or_assoc,<-Bool.or_assoc]at hS;refine cd (λh=>?_) (λh=>?_);rw[h]at hS;refine rg ?_;refine ri n ?_;exact hS.symm;rw[h]at hS;refine rg ?_;refine ri n ?_;exact hS.symm;rw[if_neg (of_decide_eq_false hk)]at hS;refine rg ?_;refine cd (λhk=>?_) (λhk=>?_);rw[if_pos (of_decide_eq_true hk)]at hS;refine rx @eQ0 ?_;refine cd (λh=>?_) (λh=>?_);rw[h]at hS;refine rg ?_;refine ri n ?_;exact hS.symm;rw[h]at hS;refine rg ?_;refine ri n ?_;exact hS.symm;rw[if_neg (of_decide_eq_false hk)]at hS;refine rg ?_;refine cd (λhk=>?_) (λhk=>?_);rw[if_pos (of_decide_eq_true hk)]at hS;refine rx (nd2 @eQ2 (nd2 @eQ0 (nd2 @eQ7 @eQ1))) ?_;have c9:=Wi d f.of at_ ω;refine cX (nd2 @eQ2 (nd2 @eQ7 @eQ1)) (c9) ?_;refine cd (λh=>?_) (λh=>?_);rw[if_pos (of_decide_eq_true h)]at hS;refine rg ?_;refine ri n ?_;exact hS.symm;rw[if_neg (of_decide_eq_false h)]at hS;refine rx (nd2 @eQ3 (nd2 @eQ5 @eQ1)) ?_;refine cl (z) ?_;refine ri n ?_;exact hS.symm;rw[if_neg (of_decide_eq_false hk)]at hS;refine rg ?_;refine cd (λhk=>?_) (λhk=>?_);rw[if_pos (of_decide_eq_true hk)]at hS;refine rx (nd2 @eQ2 (nd2 @eQ0 (nd2 @eQ7 @eQ1))) ?_;have c9:=Wi d f.of at_ ω;refine cX (nd2 @eQ2 (nd2 @eQ7 @eQ1)) (c9) ?_;refine cd (λh=>?_) (λh=>?_);rw[if_pos (of_decide_eq_true h)]at hS;refine rg ?_;refine ri n ?_;exact hS.symm;rw[if_neg (of_decide_eq_false h)]at hS;refine rg ?_;refine ri n ?_;exact hS.symm;rw[if_neg (of_decide_eq_false hk)]at hS;refine rg ?_;refine cd (λhk=>?_) (λhk=>?_);rw[if_pos (of_decide_eq_true hk)]at hS;refine rx (nd2 @eQ3 (nd2 @eQ0 (nd2 @eQ5 @eQ1))) ?_;have c9:=Zah m f.tag i ω;refine cX (nd2 @eQ3 (nd2 @eQ5 @eQ1)) (c9) ?_;have ab:=QY (λg=>dC (g.name=f.tag)) (m.fields.take i);have u:=Ys (λg=>dC (g.name=f.tag)) (m.fields.take i);rw[ZHZ]at u;rw[show Zi (λg=>dC (g.name=f.tag)) (m.fields.take i)=Yb m f.tag i from rfl]at ab u;unfold Zej at hS;generalize Yb m f.tag i=q at *;refine xA (nd2 @eQ3 (nd2 @eQ0 (nd2 @eQ5 @eQ1))) ?_;refine Zcz rfl rfl rfl rfl rfl (λt=>⟨by first|trivial|(simpa[ZbO]using t),trivial,Zcf (m.fields.getD q.toNat dE)⟩) (Zn ?_);simp only[Eqs,reduceCtorEq,ZHK,reduceIte,ZHI,ZHM,ZHJ,Msg.cells,Fld.cells,Zk,slD];refine aa ?_;have c9:=ZrD m f.tag i ω;refine Zcz rfl rfl rfl rfl rfl (λt=>⟨by first|trivial|(simpa[ZbO]using t),trivial,c9⟩) (Zn ?_);simp only[Eqs,reduceCtorEq,ZHK,reduceIte,ZHI,ZHM,ZHJ,Msg.cells,Fld.cells,Zk,slD];refine aa ?_;rw[<-Bool.or_assoc]at hS;refine cd (λh=>?_) (λh=>?_);rw[h]at hS;refine rg ?_;refine ri n ?_;exact hS.symm;rw[h]at hS;have hq:¬q<0:=by intro hq;rw[decide_eq_true hq]at h;simp at h
 refine xA (nd2 @eQ3 (nd2 @eQ0 (nd2 @eQ5 @eQ1))) ?_;refine cl (Zj9 (m.fields.getD q.toNat dE)) ?_;refine rx (nd2 @eQ2 @eQ0) ?_;refine Zao rfl rfl rfl rfl rfl φ φ (by exact ZtS d at_ f ω) (Zn ?_);simp only[Eqs,reduceCtorEq,ZHK,reduceIte,ZHI,ZHM,ZHJ];refine ri n ?_;exact hS.symm;rw[if_neg (of_decide_eq_false hk)]at hS;refine rg ?_;refine cd (λhk=>?_) (λhk=>?_);rw[if_pos (of_decide_eq_true hk)]at hS;refine rx @eQ0 ?_;have ht1:=Int.tmod_lt_of_pos f.bits (show(0:Int)<8 by decide);have ht2:=Int.lt_tmod_of_pos f.bits (show(0:Int)<8 by decide);repeat(refine ZHG (by first|omega|trivial|(intro h0;simp at h0;omega)|(intro _;omega)) ?_)
 have ad:ZfJ f=(!dC (f.bits=2)&&!dC (f.bits=4)&&(dC (f.bits<8) ||decide (512<f.bits)||!dC (Int.tmod f.bits 8=0))):=by simp only[ZfJ,Bool.or_assoc,Bool.and_assoc]
 rw[ad]at hS;refine cd (λh=>?_) (λh=>?_);rw[h]at hS;refine rg ?_;refine ri n ?_;exact hS.symm;rw[h]at hS;refine rg ?_;refine ri n ?_;exact hS.symm;rw[if_neg (of_decide_eq_false hk)]at hS;refine rg ?_;refine cd (λhk=>?_) (λhk=>?_);rw[if_pos (of_decide_eq_true hk)]at hS;refine rx @eQ0 ?_;refine cd (λh=>?_) (λh=>?_);rw[h]at hS;refine rg ?_;refine ri n ?_;exact hS.symm;rw[h,if_neg (by decide)]at hS;refine rx (nd2 @eQ3 (nd2 @eQ0 (nd2 @eQ5 @eQ1))) ?_;have c9:=Zah m f.from_ i ω;refine cl (c9) ?_;refine cd (λh2=>?_) (λh2=>?_);rw[if_pos (of_decide_eq_true h2)]at hS;refine rg ?_;refine ri n ?_;exact hS.symm;rw[if_neg (of_decide_eq_false h2)]at hS;refine rg ?_;refine ri n ?_;exact hS.symm;rw[if_neg (of_decide_eq_false hk)]at hS;refine rg ?_;refine cd (λhk=>?_) (λhk=>?_);rw[if_pos (of_decide_eq_true hk)]at hS;refine rx @eQ0 ?_;refine cd (λh=>?_) (λh=>?_);rw[h]at hS;refine rg ?_;refine ri n ?_;exact hS.symm;rw[h,if_neg (by decide)]at hS;refine rx (nd2 @eQ2 (nd2 @eQ0 (nd2 @eQ7 @eQ1))) ?_;have c9:=Wi d f.of at_ ω;refine cl (c9) ?_;have ab:=QY (λg=>dC (g.name=f.of)) (d.msgs.take at_);have u:=Ys (λg=>dC (g.name=f.of)) (d.msgs.take at_);rw[ZHZ]at u;rw[show Zi (λg=>dC (g.name=f.of)) (d.msgs.take at_)=Zr d f.of at_ from rfl]at ab u;unfold ZlI at hS;generalize Zr d f.of at_=q at *;have ac:=JP d at_;refine rx (nd2 @eQ2 (nd2 @eQ7 @eQ1)) ?_;have c9:=ZpV d at_ ω ω hr;refine Zcz rfl rfl rfl rfl rfl (λt=>⟨by first|trivial|(simpa[ZbO]using t),trivial,c9⟩) (Zn ?_);simp only[Eqs,reduceCtorEq,ZHK,reduceIte,ZHI,ZHM,ZHJ,ZxP,slD];rw[ac];refine ZHG (λh=>by simp at h;omega) ?_;refine cd (λh2=>?_) (λh2=>?_);rw[h2]at hS;refine rg ?_;refine ri n ?_;exact hS.symm;rw[h2]at hS;refine rx (nd2 @eQ3 (nd2 @eQ5 @eQ1)) ?_;refine cl (z) ?_;refine ri n ?_;exact hS.symm;rw[if_neg (of_decide_eq_false hk)]at hS;refine rg ?_;refine ri n ?_;exact hS.symm
def WX(d:Dfn)(at_:Nat)(m:Msg)(i:Nat)(f:Fld):Int :=
 if Yt f.name=false then 1 else if 0<=Yb m f.name i then 2 else if dC (f.kind<1) ||decide (12<f.kind) then 4 else if Zeb f=false then 5 else K5 d at_ m i f
def ZtT(d at_ i)(m:Msg)(f:Fld)(ha:at_<I d.msgs)(hm:d.msgs.getD at_ dE=m)(hi:i<I m.fields)(hf:m.fields.getD i dE=f)(z:at_<=1000)(hr:∀j,j<at_->Zla d j):Zc ZHF 167 [.agg d.cells,.i at_,.i i] (.i (WX d at_ m i f)):=by
 refine Zg (cR 167 f167) λF st n=>?_;have u:=WX.eq_1 d at_ m i f;refine rx (nd2 @eQ2 (nd2 @eQ7 @eQ1)) ?_;refine xA (nd2 @eQ2 (nd2 @eQ3 (nd2 @eQ0 (nd2 @eQ7 (nd2 @eQ5 (nd2 @eQ1 (nd2 @hm @hf))))))) ?_;refine rx @eQ0 ?_;refine cl (Zb3 f.name) ?_;refine cd (λh=>?_) (λh=>?_);rw[if_pos (by simpa using h)]at u;refine rg ?_;refine ri n ?_;exact u.symm;rw[if_neg (by simpa using h)]at u;refine xA (nd2 @eQ2 (nd2 @eQ3 (nd2 @eQ0 (nd2 @eQ7 (nd2 @eQ5 (nd2 @eQ1 @hm)))))) ?_;have c9:=Zah m f.name i ω;refine cl0 (c9) ?_;refine cd (λh2=>?_) (λh2=>?_);rw[if_pos (of_decide_eq_true h2)]at u;refine rg ?_;refine ri n ?_;exact u.symm;rw[if_neg (of_decide_eq_false h2)]at u;refine rx @eQ0 ?_;refine cd (λh3=>?_) (λh3=>?_);rw[h3]at u;refine rg ?_;refine ri n ?_;exact u.symm;have t:=h3;rw[Bool.or_eq_false_iff,decide_eq_false_iff_not,decide_eq_false_iff_not]at t;rw[h3,if_neg (by decide)]at u;refine rx @eQ0 ?_;have c9:=ZuM f ω ω;refine cl (c9) ?_;refine cd (λh4=>?_) (λh4=>?_);rw[if_pos (by simpa using h4)]at u;refine rg ?_;refine ri n ?_;exact u.symm;rw[if_neg (by simpa using h4)]at u;refine rx @eQ2 ?_;have c9:=ZtU d at_ i m f ha hm hi hf z hr ω ω;refine cl (c9) ?_;refine ri n ?_;exact u.symm
def YD(d:Dfn)(at_:Nat)(m:Msg):Nat->List Fld->Option (Int×Int)
 |_,[]=>nO
 |i,f::r=>if WX d at_ m i f=0 then YD d at_ m (i+1) r else sO (i,WX d at_ m i f)
def WS(d:Dfn)(at_:Nat)(m:Msg):Option (Int×Int) :=
 if Yt m.name=false then sO (-1,1) else if 0<=Zr d m.name at_ then sO (-1,2) else if dC (I m.fields<1) ||decide (40<I m.fields) then sO (-1,3) else YD d at_ m 0 m.fields
def Zbi(d:Dfn)(at_:Nat)(deps:List Int)(b:Int)(l:List Str):Int:=l.foldl (λa s=>max a (deps.getD (Zr d s at_).toNat dE)) b
def Zel(d:Dfn)(at_:Nat)(deps:List Int)(m:Msg):Int:=Zbi d at_ deps 0 (Wd m)+1
def Qh(d:Dfn):Nat->List Msg->List Int->Option (Int×Int×Int)
 |_,[],_=>if Zr d d.start (I d.msgs)<0 then sO (-1,-1,11) else nO
 |at_,m::r,deps=>match WS d at_ m with
  |some (i,c)=>sO (at_,i,c)
  |none=>if 16<Zel d at_ deps m then sO (at_,-1,10) else Qh d (at_+1) r (deps++[Zel d at_ deps m])
def ZbV(d:Dfn):Option (Int×Int×Int) :=
 if Yt d.name=false then sO (-1,-1,1) else if dC (I d.msgs<1) ||decide (60<I d.msgs) then sO (-1,-1,3) else Qh d 0 d.msgs []
def Zb7(d:Dfn):Bool:=(ZbV d).isNone
def ZxQ{d at_ i low l}(h:J7 d at_ i low l=0):∀c∈l,0<=Zr d c.of at_:=by
 induction l generalizing low with
 |nil=>simp
 |cons c r ih =>simp only[J7]at h;split at h;omega;split at h;omega;intro x hx;rcases List.mem_cons.1 hx with rfl|hx;omega;exact ih h x hx
def ZqJ{d at_ i m f}(h:WX d at_ m i f=0):(Z7 f).length<=41/\∀s∈Z7 f,0<=Zr d s at_:=by
 unfold WX at h;split at h;· omega
 split at h;· omega
 split at h;· omega
 rename_i hk;split at h;· omega
 simp only[ZH0,decide_eq_true_eq,not_or,Int.not_lt]at hk;have j:f.kind=1\/f.kind=2\/f.kind=3\/f.kind=4\/f.kind=5\/f.kind=6\/f.kind=7\/f.kind=8\/f.kind=9\/f.kind=10\/f.kind=11\/f.kind=12:=ω;unfold K5 at h;rcases j with hk|hk|hk|hk|hk|hk|hk|hk|hk|hk|hk|hk<;>simp only[hk,ZIp,if_true,if_false]at h<;>(try(simp[Z7,Qo,hk];done));simp only[Z7,Qo,hk];split at h;omega;simp;omega;simp only[Z7,Qo,hk];split at h;omega;simp;omega;split at h;omega;unfold ZbT at h;split at h;omega;rename_i t;simp only[ZH0,decide_eq_true_eq,not_or,Nat.not_lt]at t;have:=ZxQ h;simp[Z7,Qo,hk];exact⟨ω,this⟩;split at h;omega;split at h;omega;rename_i n;simp only[ZlI,ZH0,decide_eq_true_eq,not_or]at n;simp[Z7,Qo,hk];omega
def ZnU{d at_ m i l}(h:YD d at_ m i l=nO):(l.flatMap Z7).length<=41*I l/\∀s∈l.flatMap Z7,0<=Zr d s at_:=by
 induction l generalizing i with
 |nil=>simp
 |cons f r ih =>simp only[YD]at h;split at h;rename_i n;have t:=ZqJ n;have j:=ih h;simp only[List.flatMap_cons,ZHO,ZHW,List.mem_append];refine⟨ω,λs hs=>?_⟩;rcases hs with hs|hs;exact t.2 s hs;exact j.2 s hs;simp at h
def ZhA{s}{l i:List Str}:s∈l.foldl Jq i↔s∈i\/s∈l:=by
 induction l generalizing i with
 |nil=>simp
 |cons x r ih =>simp only[List.foldl_cons,ih,ZIj];unfold Jq;split;rename_i h;constructor;rintro(h1|h1);exact .inl h1;exact .inr (.inr h1);rintro(h1|rfl|h1);exact .inl h1;exact .inl h;exact .inr h1;simp only[List.mem_append,List.mem_singleton,_root_.or_assoc]
def ZuE{s m}:s∈Wd m↔s∈m.fields.flatMap Z7:=by
 unfold Wd;rw[ZhA];simp
def Zt4{d j m}(hm:d.msgs.getD j dE=m)(h:WS d j m=nO):Zla d j:=by
 unfold WS at h;split at h;· simp at h
 split at h;· simp at h
 split at h;· simp at h
 rename_i i;simp only[ZH0,decide_eq_true_eq,not_or,Nat.not_lt]at i;have:=ZnU h;subst hm;exact⟨ω,λs n=>this.2 s (ZuE.1 n)⟩
end Go.DL
namespace Go.DL
open Go
variable {kp:Option (List Nat)}{L:Loc}{H:Env}{s:St}{w:World}{os:List DOp}{ds:List D}{B:List (Nat × Rd)}{dst:Option Nat}{tmps:Array Value}{g:G}{Φ:Res->St->Prop}{Z:Nat->Nat}{xs:List Opd}{side:Prop}{row:Nat->List D}
def ZZ{q:Nat->Prop}{j}(h:∀i,i<j->q i)(n:q j):∀i,i<j+1->q i:=λi u=>by
 rcases Nat.lt_or_eq_of_le (Nat.le_of_lt_succ u) with t |rfl;exact h i t;exact n
def Zlt{s}{t:Tok}{x k:Nat}(i:t.okIn s){o:Jo}(j:s x=sO o):(s.own t k) x=sO o:=YH i _ _ j
def st2(st:St)(t1:Tok)(k1:Nat)(t2:Tok)(k2:Nat)(x:Nat)(c:Jo):St:=((st.own t1 k1).own t2 k2).upd x c
def YF{st t i x n j c}:(st2 st t n i j x c) x=sO c:=ZHP _ _ _
def YG{st u j x t n c i}:(st2 st u t j n x c).upd x i=st2 st u t j n x i:=ZH4 _ _ _ _
open Go.Proofs
def QD{α:Type}(p:α->Bool):List α->Nat
 | []=>0
 |x::r=>if p x then 1 else QD p r+1
def ZaB{α}{p:α->Bool}{l:List α}(h:∀x∈l,p x=false):QD p l=I l:=by
 induction l with
 |nil=>rfl
 |cons x r ih=>simp only[QD,h x ψ,ZHW];rw[ih λy i=>h y (by simp[i])];simp
def Zcv{α}[Inhabited α]{p}{l:List α}{i:Nat}(u:i<I l)(n:p (l.getD i dE)=true)(h:∀j,j<i->p (l.getD j dE)=false):QD p l=i+1:=by
 induction l generalizing i with
 |nil=>simp at u
 |cons x r ih =>
  cases i with
  |zero=>simp at n;simp[QD,n]
  |succ i =>have t:=h 0 ω;simp only[List.getD_cons_zero]at t;simp only[List.getD_cons_succ,ZHW]at n u;simp only[QD,t];rw[ih ω n λj hj=>by have:=h (j+1) ω;simpa only[List.getD_cons_succ]using this];simp
def byC(b:UInt8):List D:=[.int .u8 (b.toNat:Int)]
def Zat{α}(p:α->Bool)(l:List α):l.any p=dC (0<=Zi p l):=by
 induction l with
 |nil=>rfl
 |cons x r ih =>have:=QY p r;rw[List.any_cons,ih];simp only[Zi];by_cases i:p x=true;simp[i];by_cases j:Zi p r<0;simp[i,j];simp[i,j];omega
def ZeC(l f p)(sts:Nat->St)(hf:∀i,i<I l->VT ZHF f [.agg (l.getD i dE).cells] (sts i) (.bool (p (l.getD i dE))) (sts (i+1))):
  ZU ZHF 147 [slD 2 Msg.cells l,f] (sts 0) (.i (Zi p l)) (sts (QD p l)):=by
 refine ZK (cR 147 f147) λac F t=>?_;have hw:=(YR (ac (slD 2 Msg.cells l) ψ)).1;unfold big at hw;clear ac;refine rx @eQ1 ?_;refine rx @eQ1 ?_;refine Zb (fr (I l) (λi Q=>i<=I l->(∀j,j<i->p (l.getD j dE)=false)->Q [(0,.d (slD 2 Msg.cells l)),(1,.d f),(7,.d (.i (I l))),(8,.d (.i i))] [] (sts i)) (λn z=>?_) λad=>?_);intro i hn hi u;refine rx @eQ1 ?_;refine Zd (Zt rfl trivial (λh1=>?_) (λh1=>?_));simp at h1;refine rx @eQ1 ?_;refine xA (nd2 @eQ1 @eQ3) ?_;refine cW (hf i h1) ?_;refine cd (λh2=>?_) (λh2=>?_);have e1:=WY h1 h2 u;have e2:=Zcv h1 h2 u;rw[e1,e2]at t;refine rg ?_;exact t rfl φ (ZHL _) ZHH;refine gA ?_;refine Za ?_;exact z ((I l)-(i+1)) ω (i+1) rfl ω (ZZ (q:=λj=>p (l.getD j dE)=false) u h2);simp at h1;obtain rfl:i=I l:=ω;have ab:∀x∈l,p x=false:=λx hx=>by obtain⟨j,hj,rfl⟩:=ZH1 hx;have:=u j hj;simpa[ZHU,hj]using this
 rw[Wu ab,ZaB ab]at t;refine rg ?_;exact t rfl φ (ZHL _) ZHH;exact ad _ 0 rfl ω (by intro j hj;omega)
def Zf4(l f p)(sts:Nat->St)(hf:∀i,i<I l->VT ZHF f [.agg (l.getD i dE).cells] (sts i) (.bool (p (l.getD i dE))) (sts (i+1))):
  ZU ZHF 110 [slD 2 Yn.cells l,f] (sts 0) (.i (Zi p l)) (sts (QD p l)):=by
 refine ZK (cR 110 f110) λac F t=>?_;have hw:=(YR (ac (slD 2 Yn.cells l) ψ)).1;unfold big at hw;clear ac;refine rx @eQ1 ?_;refine rx @eQ1 ?_;refine Zb (fr (I l) (λi Q=>i<=I l->(∀j,j<i->p (l.getD j dE)=false)->Q [(0,.d (slD 2 Yn.cells l)),(1,.d f),(7,.d (.i (I l))),(8,.d (.i i))] [] (sts i)) (λn z=>?_) λad=>?_);intro i hn hi u;refine rx @eQ1 ?_;refine Zd (Zt rfl trivial (λh1=>?_) (λh1=>?_));simp at h1;refine rx @eQ1 ?_;refine xA (nd2 @eQ1 @eQ8) ?_;refine cW (hf i h1) ?_;refine cd (λh2=>?_) (λh2=>?_);have e1:=WY h1 h2 u;have e2:=Zcv h1 h2 u;rw[e1,e2]at t;refine rg ?_;exact t rfl φ (ZHL _) ZHH;refine gA ?_;refine Za ?_;exact z ((I l)-(i+1)) ω (i+1) rfl ω (ZZ (q:=λj=>p (l.getD j dE)=false) u h2);simp at h1;obtain rfl:i=I l:=ω;have ab:∀x∈l,p x=false:=λx hx=>by obtain⟨j,hj,rfl⟩:=ZH1 hx;have:=u j hj;simpa[ZHU,hj]using this
 rw[Wu ab,ZaB ab]at t;refine rg ?_;exact t rfl φ (ZHL _) ZHH;exact ad _ 0 rfl ω (by intro j hj;omega)
def Zbw(l f p)(sts:Nat->St)(hf:∀i,i<I l->VT ZHF f [.agg (l.getD i dE).cells] (sts i) (.bool (p (l.getD i dE))) (sts (i+1))):
  ZU ZHF 59 [slD 3 Yw.cells l,f] (sts 0) (.i (Zi p l)) (sts (QD p l)):=by
 refine ZK (cR 59 f59) λac F t=>?_;have hw:=(YR (ac (slD 3 Yw.cells l) ψ)).1;unfold big at hw;clear ac;refine rx @eQ1 ?_;refine rx @eQ1 ?_;refine Zb (fr (I l) (λi Q=>i<=I l->(∀j,j<i->p (l.getD j dE)=false)->Q [(0,.d (slD 3 Yw.cells l)),(1,.d f),(7,.d (.i (I l))),(8,.d (.i i))] [] (sts i)) (λn z=>?_) λad=>?_);intro i hn hi u;refine rx @eQ1 ?_;refine Zd (Zt rfl trivial (λh1=>?_) (λh1=>?_));simp at h1;refine rx @eQ1 ?_;refine xA (nd2 @eQ1 @eQ9) ?_;refine cW (hf i h1) ?_;refine cd (λh2=>?_) (λh2=>?_);have e1:=WY h1 h2 u;have e2:=Zcv h1 h2 u;rw[e1,e2]at t;refine rg ?_;exact t rfl φ (ZHL _) ZHH;refine gA ?_;refine Za ?_;exact z ((I l)-(i+1)) ω (i+1) rfl ω (ZZ (q:=λj=>p (l.getD j dE)=false) u h2);simp at h1;obtain rfl:i=I l:=ω;have ab:∀x∈l,p x=false:=λx hx=>by obtain⟨j,hj,rfl⟩:=ZH1 hx;have:=u j hj;simpa[ZHU,hj]using this
 rw[Wu ab,ZaB ab]at t;refine rg ?_;exact t rfl φ (ZHL _) ZHH;exact ad _ 0 rfl ω (by intro j hj;omega)
def QW(l f p)(sts:Nat->St)(hf:∀i,i<I l->VT ZHF f [.agg (l.getD i dE).cells] (sts i) (.bool (p (l.getD i dE))) (sts (i+1))):
  ZU ZHF 148 [slD 15 Fld.cells l,f] (sts 0) (.i (Zi p l)) (sts (QD p l)):=by
 refine ZK (cR 148 f148) λac F t=>?_;have hw:=(YR (ac (slD 15 Fld.cells l) ψ)).1;unfold big at hw;clear ac;refine rx @eQ1 ?_;refine rx @eQ1 ?_;refine Zb (fr (I l) (λi Q=>i<=I l->(∀j,j<i->p (l.getD j dE)=false)->Q [(0,.d (slD 15 Fld.cells l)),(1,.d f),(7,.d (.i (I l))),(8,.d (.i i))] [] (sts i)) (λn z=>?_) λad=>?_);intro i hn hi u;refine rx @eQ1 ?_;refine Zd (Zt rfl trivial (λh1=>?_) (λh1=>?_));simp at h1;refine rx @eQ1 ?_;refine xA (nd2 @eQ1 @eQ0) ?_;refine cW (hf i h1) ?_;refine cd (λh2=>?_) (λh2=>?_);have e1:=WY h1 h2 u;have e2:=Zcv h1 h2 u;rw[e1,e2]at t;refine rg ?_;exact t rfl φ (ZHL _) ZHH;refine gA ?_;refine Za ?_;exact z ((I l)-(i+1)) ω (i+1) rfl ω (ZZ (q:=λj=>p (l.getD j dE)=false) u h2);simp at h1;obtain rfl:i=I l:=ω;have ab:∀x∈l,p x=false:=λx hx=>by obtain⟨j,hj,rfl⟩:=ZH1 hx;have:=u j hj;simpa[ZHU,hj]using this
 rw[Wu ab,ZaB ab]at t;refine rg ?_;exact t rfl φ (ZHL _) ZHH;exact ad _ 0 rfl ω (by intro j hj;omega)
def Zf5(l f p)(sts:Nat->St)(hf:∀i,i<I l->VT ZHF f [.int .u8 ((l.getD i dE).toNat:Int)] (sts i) (.bool (p (l.getD i dE))) (sts (i+1))):
  ZU ZHF 178 [slD 1 byC l,f] (sts 0) (.i (Zi p l)) (sts (QD p l)):=by
 refine ZK (cR 178 f178) λac F t=>?_;have hw:=(YR (ac (slD 1 byC l) ψ)).1;unfold big at hw;clear ac;refine rx @eQ1 ?_;refine rx @eQ1 ?_;refine Zb (fr (I l) (λi Q=>i<=I l->(∀j,j<i->p (l.getD j dE)=false)->Q [(0,.d (slD 1 byC l)),(1,.d f),(7,.d (.i (I l))),(8,.d (.i i))] [] (sts i)) (λn z=>?_) λad=>?_);intro i hn hi u;refine rx @eQ1 ?_;refine Zd (Zt rfl trivial (λh1=>?_) (λh1=>?_));simp at h1;refine rx @eQ1 ?_;refine xA (nd2 @eQ1 @byC.eq_1) ?_;refine cW (hf i h1) ?_;refine cd (λh2=>?_) (λh2=>?_);have e1:=WY h1 h2 u;have e2:=Zcv h1 h2 u;rw[e1,e2]at t;refine rg ?_;exact t rfl φ (ZHL _) ZHH;refine gA ?_;refine Za ?_;exact z ((I l)-(i+1)) ω (i+1) rfl ω (ZZ (q:=λj=>p (l.getD j dE)=false) u h2);simp at h1;obtain rfl:i=I l:=ω;have ab:∀x∈l,p x=false:=λx hx=>by obtain⟨j,hj,rfl⟩:=ZH1 hx;have:=u j hj;simpa[ZHU,hj]using this
 rw[Wu ab,ZaB ab]at t;refine rg ?_;exact t rfl φ (ZHL _) ZHH;exact ad _ 0 rfl ω (by intro j hj;omega)
def ZdR(l f p)(t:Nat->St)(u:∀i,i<I l->VT ZHF f [.agg (l.getD i dE).cells] (t i) (.bool (p (l.getD i dE))) (t (i+1))):
  ZU ZHF 333 [slD 15 Fld.cells l,f] (t 0) (.bool (l.any p)) (t (QD p l)):=by
 refine ZK (cR 333 f333) λn F j=>?_;clear n;refine gG ?_;refine ct (QW l f p t u) ?_;rw[Zat]at j;exact j rfl φ (ZHL _) ZHH
def Qq(l){f p}(t:Nat->St)(u:∀i,i<I l->VT ZHF f [.int .u8 ((l.getD i dE).toNat:Int)] (t i) (.bool (p (l.getD i dE))) (t (i+1))):
  ZU ZHF 135 [slD 1 byC l,f] (t 0) (.bool (l.any p)) (t (QD p l)):=by
 refine ZK (cR 135 f135) λn F j=>?_;clear n;refine gG ?_;refine ct (Zf5 l f p t u) ?_;rw[Zat]at j;exact j rfl φ (ZHL _) ZHH
def boC(b:Bool):List D:=[.bool b]
def Zcw(s:Str):List D:=[.str s]
def ZnD{α:Type}[DecidableEq α](v)(l:List α):l.any (λx=>dC (v=x))=dC (v∈l):=by
 induction l with
 |nil=>simp
 |cons x r ih=>rw[List.any_cons,ih];simp[ZIj]
def Zi2{α:Type}[Inhabited α]{l r:List α}(h:I l=I r)(t:∀j,j<I l->l.getD j dE=r.getD j dE):l=r:=by
 apply List.ext_getElem h;intro i n u;have:=t i n;simpa[ZHU,n,u]using this
def ZiP(l v):Zc ZHF 225 [slD 1 boC l,.bool v] (.i (Zi (λx=>dC (v=x)) l)):=by
 refine ZJ (cR 225 f225) λab F st u=>?_;have hw:=(YR (ab (slD 1 boC l) ψ)).1;unfold big at hw;clear ab;refine rx @eQ1 ?_;refine rx @eQ1 ?_;refine Zb (fr (I l) (λi Q=>i<=I l->(∀j,j<i->dC (v=l.getD j dE)=false)->Q [(0,.d (slD 1 boC l)),(1,.d (.bool v)),(7,.d (.i (I l))),(8,.d (.i i))] [] st) (λn t=>?_) λad=>?_);intro i hn hi z;refine rx @eQ1 ?_;refine Zd (Zt rfl trivial (λh1=>?_) (λh1=>?_));simp at h1;refine rx @eQ1 ?_;refine xA (nd2 @eQ1 @boC.eq_1) ?_;refine cd (λh2=>?_) (λh2=>?_);have e1:=WY (p:=λx=>dC (v=x)) h1 h2 z;refine rg ?_;refine ri u ?_;exact e1.symm;refine gA ?_;refine Za ?_;exact t ((I l)-(i+1)) ω (i+1) rfl ω (ZZ (q:=λj=>dC (v=l.getD j dE)=false) z h2);simp at h1;obtain rfl:i=I l:=ω;have ac:∀x∈l,(λx=>dC (v=x)) x=false:=λx hx=>by obtain⟨j,hj,rfl⟩:=ZH1 hx;have:=z j hj;simpa[ZHU,hj]using this
 refine rg ?_;refine ri u ?_;exact(Wu ac).symm;exact ad _ 0 rfl ω (by intro j hj;omega)
def Zgd(l v):Zc ZHF 177 [slD 1 boC l,.bool v] (.bool (dC (v∈l))):=by
 refine Zg (cR 177 f177) λF st i=>?_;refine gG ?_;refine cl (ZiP l v) ?_;refine rb i ?_;rw[<-Zat,ZnD];try congr
def Zhh(l v):Zc ZHF 327 [slD 1 Zcw l,.str v] (.i (Zi (λx=>dC (v=x)) l)):=by
 refine ZJ (cR 327 f327) λab F st u=>?_;have hw:=(YR (ab (slD 1 Zcw l) ψ)).1;unfold big at hw;clear ab;refine rx @eQ1 ?_;refine rx @eQ1 ?_;refine Zb (fr (I l) (λi Q=>i<=I l->(∀j,j<i->dC (v=l.getD j dE)=false)->Q [(0,.d (slD 1 Zcw l)),(1,.d (.str v)),(7,.d (.i (I l))),(8,.d (.i i))] [] st) (λn t=>?_) λad=>?_);intro i hn hi z;refine rx @eQ1 ?_;refine Zd (Zt rfl trivial (λh1=>?_) (λh1=>?_));simp at h1;refine rx @eQ1 ?_;refine xA (nd2 @eQ1 @Zcw.eq_1) ?_;refine cd (λh2=>?_) (λh2=>?_);have e1:=WY (p:=λx=>dC (v=x)) h1 h2 z;refine rg ?_;refine ri u ?_;exact e1.symm;refine gA ?_;refine Za ?_;exact t ((I l)-(i+1)) ω (i+1) rfl ω (ZZ (q:=λj=>dC (v=l.getD j dE)=false) z h2);simp at h1;obtain rfl:i=I l:=ω;have ac:∀x∈l,(λx=>dC (v=x)) x=false:=λx hx=>by obtain⟨j,hj,rfl⟩:=ZH1 hx;have:=z j hj;simpa[ZHU,hj]using this
 refine rg ?_;refine ri u ?_;exact(Wu ac).symm;exact ad _ 0 rfl ω (by intro j hj;omega)
def Zfc(l v):Zc ZHF 290 [slD 1 Zcw l,.str v] (.bool (dC (v∈l))):=by
 refine Zg (cR 290 f290) λF st i=>?_;refine gG ?_;refine cl (Zhh l v) ?_;refine rb i ?_;rw[<-Zat,ZnD];try congr
def ZiO(l r):Zc ZHF 325 [slD 2 Yn.cells l,slD 2 Yn.cells r] (.bool (dC (l=r))):=by
 refine ZJ (cR 325 f325) λac F st t=>?_;have hw:=(YR (ac (slD 2 Yn.cells l) ψ)).1;unfold big at hw;clear ac;refine rx @eQ1 ?_;refine rx @eQ1 ?_;refine cd (λh1=>?_) (λh1=>?_);refine rg ?_;refine rb t ?_;exact(decide_eq_false (λe=>by rw[e]at h1;simp at h1)).symm;have ab:I l=I r:=by simp at h1;omega
 refine rx @eQ1 ?_;refine Zb (fr (I l) (λi Q=>i<=I l->(∀j,j<i->l.getD j dE=r.getD j dE)->Q [(0,.d (slD 2 Yn.cells l)),(1,.d (slD 2 Yn.cells r)),(12,.d (.i (I l))),(13,.d (.i i))] [] st) (λn u=>?_) λad=>?_);intro i hn hi z;refine rx @eQ1 ?_;refine Zd (Zt rfl trivial (λh2=>?_) (λh2=>?_));simp at h2;refine rx @eQ1 ?_;refine xA (nd2 @eQ1 @eQ8) ?_;refine cd (λh3=>?_) (λh3=>?_);have af:l.getD i dE≠r.getD i dE:=λe=>by rw[e]at h3;simp at h3
 refine rg ?_;refine rb t ?_;exact(decide_eq_false (λe=>af (by rw[e]))).symm;have ae:l.getD i dE=r.getD i dE:=by generalize l.getD i dE=a at h3⊢;generalize r.getD i dE=b at h3⊢;cases a;cases b;simpa[and_assoc]using h3
 refine gA ?_;refine Za ?_;exact u ((I l)-(i+1)) ω (i+1) rfl ω (ZZ (q:=λj=>l.getD j dE=r.getD j dE) z ae);simp at h2;obtain rfl:i=I l:=ω;refine rg ?_;refine rb t ?_;exact(decide_eq_true (Zi2 ab z)).symm;exact ad _ 0 rfl ω (by intro j hj;omega)
def ZiN(l r):Zc ZHF 326 [slD 3 Yw.cells l,slD 3 Yw.cells r] (.bool (dC (l=r))):=by
 refine ZJ (cR 326 f326) λac F st t=>?_;have hw:=(YR (ac (slD 3 Yw.cells l) ψ)).1;unfold big at hw;clear ac;refine rx @eQ1 ?_;refine rx @eQ1 ?_;refine cd (λh1=>?_) (λh1=>?_);refine rg ?_;refine rb t ?_;exact(decide_eq_false (λe=>by rw[e]at h1;simp at h1)).symm;have ab:I l=I r:=by simp at h1;omega
 refine rx @eQ1 ?_;refine Zb (fr (I l) (λi Q=>i<=I l->(∀j,j<i->l.getD j dE=r.getD j dE)->Q [(0,.d (slD 3 Yw.cells l)),(1,.d (slD 3 Yw.cells r)),(12,.d (.i (I l))),(13,.d (.i i))] [] st) (λn u=>?_) λad=>?_);intro i hn hi z;refine rx @eQ1 ?_;refine Zd (Zt rfl trivial (λh2=>?_) (λh2=>?_));simp at h2;refine rx @eQ1 ?_;refine xA (nd2 @eQ1 @eQ9) ?_;refine cd (λh3=>?_) (λh3=>?_);have af:l.getD i dE≠r.getD i dE:=λe=>by rw[e]at h3;simp at h3
 refine rg ?_;refine rb t ?_;exact(decide_eq_false (λe=>af (by rw[e]))).symm;have ae:l.getD i dE=r.getD i dE:=by generalize l.getD i dE=a at h3⊢;generalize r.getD i dE=b at h3⊢;cases a;cases b;simpa[and_assoc]using h3
 refine gA ?_;refine Za ?_;exact u ((I l)-(i+1)) ω (i+1) rfl ω (ZZ (q:=λj=>l.getD j dE=r.getD j dE) z ae);simp at h2;obtain rfl:i=I l:=ω;refine rg ?_;refine rb t ?_;exact(decide_eq_true (Zi2 ab z)).symm;exact ad _ 0 rfl ω (by intro j hj;omega)
def ZhR(c):Zc ZHF 132 [.int .u8 c.toNat] (.bool (Zer c)):=by
 refine Zg (cR 132 f132) λF st i=>?_;refine gG ?_;refine rb i ?_;rfl
def ZrO(c):Zc ZHF 133 [.int .u8 c.toNat] (.bool (Zlf c)):=by
 refine Zg (cR 133 f133) λF st i=>?_;refine gG ?_;refine rb i ?_;rfl
def ZeP(v):Zc ZHF 198 [.i v] (.bool (Jd v)):=by
 refine Zg (cR 198 f198) λF st i=>?_;refine gG ?_;refine rb i ?_;simp only[Jd]
def Zms(l):Zc ZHF 134 [slD 1 boC l] (.bool (!dC (false∈l))):=by
 refine Zg (cR 134 f134) λF st i=>?_;refine gG ?_;refine cl (Zgd l false) ?_;refine rb i ?_;rfl
def ZkH{a b}:Zc ZHF 134 [.sl .full 2 1 (ZY [.bool false] ([0,1].zip [.bool a,.bool b]))] (.bool (a&&b)):=by
 have h:ZQ boC (ZY [.bool false] ([0,1].zip [.bool a,.bool b])) [a,b]:=λi j=>by
  match i,j with
  |0,_=>rfl
  |1,_=>rfl
 refine((Zms [a,b]).leA (LeC.one (h.le rfl))).le ?_;cases a<;>cases b<;>rfl
def Zrf{a b c}:Zc ZHF 134 [.sl .full 3 1 (ZY [.bool false] ([0,1,2].zip [.bool a,.bool b,.bool c]))] (.bool (a&&(b&&c))):=by
 have h:ZQ boC (ZY [.bool false] ([0,1,2].zip [.bool a,.bool b,.bool c])) [a,b,c]:=λi j=>by
  match i,j with
  |0,_=>rfl
  |1,_=>rfl
  |2,_=>rfl
 refine((Zms [a,b,c]).leA (LeC.one (h.le rfl))).le ?_;cases a<;>cases b<;>cases c<;>rfl
def Zqe{c}:Zc ZHF 131 [.int .u8 c.toNat] (.bool (!JK c)):=by
 refine Zg (cR 131 f131) λF st i=>?_;refine gG ?_;refine cl (ZhR c) ?_;refine cG (ZrO c) ?_;refine rb i ?_;unfold JK;cases Zer c<;>cases Zlf c<;>rfl
def Zxi(s):Zc ZHF 135 [slD 1 byC s,.fn (.func 131) [] []] (.bool (s.any λc=>!JK c)) :=
 λst=>Qq s (λ_=>st) λi _=> Zqe.VT (first:=[]) (caps:=[]) st
def Zyh(s):Yt s=(((dC (1<=(I s:Int))&&dC ((I s:Int)<=32))&&Zer (s.getD 0 0))&&!(s.any λc=>!JK c)):=by
 cases s with
 |nil=>rfl
 |cons c r =>
  have h:∀l:Str,l.all JK=!(l.any λc=>!JK c):=λl=>by
   induction l with
   |nil=>rfl
   |cons x r ih=>simp only[List.all_cons,List.any_cons,ih];cases JK x<;>simp
  simp only[Yt,h,List.getD_cons_zero,ZHW]
  congr 2
  have i:dC (1<=((I r+1:Nat):Int))=true:=decide_eq_true ω;rw[i,ZH3];exact decide_eq_decide.2 ω
def Zbu(s):Zc ZHF 90 [.str s] (.bool (Yt s)):=by
 refine ZJ (cR 90 f90) λj F st i=>?_;have n:=(j (.str s) ψ).str_inv;unfold big at n;refine gG ?_;refine rg ?_;refine cl ZkH ?_;refine aa ?_;refine cG (ZhR _) ?_;refine cG (Zxi s) ?_;rw[Zyh]at i;refine rb i ?_;trivial
end Go.DL
namespace Go.DL
open Go
structure Hdr where
 name:Str
 text:Str
deriving Inhabited,DecidableEq
def Hdr.cells(h:Hdr):List D:=[.str h.name,.str h.text]
def Zx(l:List Hdr):D:=slD 2 Hdr.cells l
def u8C(b:UInt8):List D:=[.int .u8 b.toNat]
def Zs(b:Str):D:=slD 1 u8C b
inductive Val where
 |mk (name:Str) (int:Int) (bytes:Str) (hdrs:List Hdr) (parts:List Val)
namespace Val
def name:Val->Str
 |mk n _ _ _ _=>n
def int:Val->Int
 |mk _ i _ _ _=>i
def bytes:Val->Str
 |mk _ _ b _ _=>b
def hdrs:Val->List Hdr
 |mk _ _ _ h _=>h
def parts:Val->List Val
 |mk _ _ _ _ p=>p
end Val
instance:Inhabited Val:=⟨.mk [] 0 [] [] []⟩
def Zt6:List D:=[.str [],.i 0,Zs [],Zx [],.nilsl]
mutual
def Val.cells:Val->List D
 |.mk n i b h p=>[.str n,.i i,Zs b,Zx h,.sl .none (I p) 5 λj=>(Val.cellsL p).getD j Zt6]
def Val.cellsL:List Val->List (List D)
 | []=>[]
 |v::r=>v.cells::Val.cellsL r
end
def Val.cellsL_get:∀(l j),j<I l->(Val.cellsL l).getD j Zt6=(l.getD j dE).cells
 | [],j,h=>absurd h (Nat.not_lt_zero _)
 |v::r,0,_=>rfl
 |v::r,j+1,h=>by have:=cellsL_get r j (by simpa using h);simpa[Val.cellsL]using this
def J5(p:List Val)(j:Nat):List D:=(Val.cellsL p).getD j Zt6
def ZcL{p j}(h:j<I p):J5 p j=(p.getD j dE).cells:=Val.cellsL_get p j h
def ZF(p:List Val):D:=.sl .none (I p) 5 (J5 p)
def Val.cellsL_len:∀l:List Val,(Val.cellsL l).length=I l
 | []=>rfl
 |v::r=>by simp[Val.cellsL,cellsL_len r]
def Val.cells_eq(v:Val):v.cells=[.str v.name,.i v.int,Zs v.bytes,Zx v.hdrs,ZF v.parts]:=by
 cases v;rfl
def Val.len(v:Val):I v.cells=5:=by rw[Val.cells_eq];rfl
def Val.ind{p:Val->Prop}(h:∀v:Val,(∀x∈v.parts,p x)->p v)(v):p v:=by
 have i:∀n:Nat,∀v:Val,SizeOf.sizeOf v<n->p v:=by
  intro n;induction n with
  |zero=>intro v h;omega
  |succ n ih =>
   intro v hv;refine h v λx j=>ih x ?_;have h1:SizeOf.sizeOf x<SizeOf.sizeOf v.parts:=List.sizeOf_lt_of_mem j;have h2:SizeOf.sizeOf v.parts<SizeOf.sizeOf v:=by cases v;simp[Val.parts];omega
   omega
 exact i _ v (Nat.lt_succ_self _)
def Wm{l i}(h:i<I l):J5 l i=[.str (l.getD i dE).name,.i (l.getD i dE).int,Zs (l.getD i dE).bytes,Zx (l.getD i dE).hdrs,ZF (l.getD i dE).parts]:=by rw[ZcL h,Val.cells_eq]
def ZBP(l i):∃x y b h p,J5 l i=[.str x,.i y,Zs b,Zx h,p]/\(i<I l->x=(l.getD i dE).name/\y=(l.getD i dE).int/\b=(l.getD i dE).bytes/\h=(l.getD i dE).hdrs/\p=ZF (l.getD i dE).parts):=by
 by_cases j:i<I l;exact⟨_,_,_,_,_,Wm j,λ_=>⟨rfl,rfl,rfl,rfl,rfl⟩⟩;refine⟨[],0,[],[],.nilsl,?_,λh=>absurd h j⟩;unfold J5;rw[List.getD_eq_getElem?_getD,ZIr (by rw[Val.cellsL_len];omega)];rfl
end Go.DL
namespace Go.DL
open Go Go.Proofs
variable {kp:Option (List Nat)}{L:Loc}{H:Env}{s:St}{w:World}{os:List DOp}{ds:List D}{B:List (Nat × Rd)}{dst:Option Nat}{tmps:Array Value}{g:G}{Φ:Res->St->Prop}{Z:Nat->Nat}{xs:List Opd}{side:Prop}{row:Nat->List D}
def ZlD(c:UInt8):Bool:=dC ((32:Int)<c.toNat)&&dC ((c.toNat:Int)<127)
def Zae(c:UInt8):Bool:=((dC ((65:Int)<=c.toNat)&&dC ((c.toNat:Int)<=90)) ||(dC ((97:Int)<=c.toNat)&&dC ((c.toNat:Int)<=122)) ||(dC ((48:Int)<=c.toNat)&&dC ((c.toNat:Int)<=57))) ||decide ((c.toNat:Int)=45)
def Zep(s:Str):Bool:=s.all Zae&&(dC (1<=(I s:Int))&&dC ((I s:Int)<=32))
def Zdo(c:UInt8):Bool:=dC ((c.toNat:Int)=32) ||ZlD c
def Zhw(t:Str):Bool:=dC (t=[]) ||(!dC (((t.getD 0 0).toNat:Int)=32)&&!dC (((t.getD (I t-1) 0).toNat:Int)=32))
def Zax(h:Hdr):Bool:=h.text.all Zdo&&(Zep h.name&&Zhw h.text)
def Kl(l:List Hdr):Bool:=l.all Zax&&dC ((I l:Int)<=100)
def ZgV(h:Hdr):Str:=h.name++[58,32]++h.text++[13,10]
def Zby(l:List Hdr):Str:=l.flatMap ZgV++[13,10]
def ZnC{α:Type}[Inhabited α]{p}{l:List α}(h:∀j,j<I l->p (l.getD j dE)=true):l.all p=true:=by
 rw[List.all_eq_true];intro x n;obtain⟨j,i,rfl⟩:=ZH1 n;have:=h j i;simpa[ZHU,i]using this
def Zvg{α:Type}[Inhabited α]{p}{l:List α}{j}(i:j<I l)(h:p (l.getD j dE)=false):l.all p=false:=by
 rw[List.all_eq_false];exact⟨_,Zm i,by rw[h];simp⟩
def Zsw{p}{s:Str}{j}(i:j<I s)(h:(!p (s.getD j 0))=true):s.all p=false:=Zvg i (by rw[show s.getD j dE=s.getD j 0 from rfl];simpa using h)
def ZAB(c):ZlD c=(dC ((33:Int)<=c.toNat)&&dC ((c.toNat:Int)<=126)):=by
 unfold ZlD;rw[show dC ((33:Int)<=c.toNat)=dC ((32:Int)<c.toNat) from decide_eq_decide.2 ω,show dC ((c.toNat:Int)<=126)=dC ((c.toNat:Int)<127) from decide_eq_decide.2 ω]
def ZuO{c}:Zc ZHF 171 [.int .u8 c.toNat] (.bool (ZlD c)):=by
 refine Zg (cR 171 f171) λF st i=>?_;refine gG ?_;refine rb i ?_;rfl
def ZrE{c}:Zc ZHF 212 [.int .u8 c.toNat] (.bool (Zae c)):=by
 refine Zg (cR 212 f212) λF st i=>?_;refine gG ?_;refine rb i ?_;rfl
def ZeZ{a b c}:Zc ZHF 266 [.int .u8 a,.int .u8 b,.int .u8 c] (.bool (dC (b<=a)&&dC (a<=c))):=by
 refine Zg (cR 266 f266) λF st i=>?_;refine gG ?_;refine rb i ?_;rfl
def Zrz{c}:Zc ZHF 258 [.int .u8 c.toNat] (.bool (Zae c)):=by
 refine Zg (cR 258 f258) λF st i=>?_;refine gG ?_;refine cl ZeZ ?_;refine cG ZeZ ?_;refine cG ZeZ ?_;refine rb i ?_;unfold Zae;rfl
def Zn5{c}:Zc ZHF 224 [.int .u8 c.toNat] (.bool (ZlD c)):=by
 refine Zg (cR 224 f224) λF st i=>?_;refine gG ?_;refine cl ZeZ ?_;refine rb i ?_;rw[ZAB]
def ZuN{s}:Zc ZHF 172 [.str s] (.bool (Zep s)):=by
 refine ZJ (cR 172 f172) λab F st u=>?_;have hs:=(ab (.str s) ψ).str_inv;unfold big at hs;clear ab;have hS:=Zep.eq_1 s;refine gG ?_;refine Zb (fr (I s) (λi Q=>i<=I s->(∀j,j<i->Zae (s.getD j 0)=true)->Q [(0,.d (.str s)),(3,.d (.i i))] [] st) (λn t=>?_) λac=>?_);intro i hn hi z;refine rg ?_;refine cd (λh1=>?_) (λh1=>?_);simp at h1;refine gA ?_;refine cl ZrE ?_;refine cd (λh2=>?_) (λh2=>?_);rw[Zsw (p:=Zae) h1 (by simpa using h2),ZH7]at hS;refine rg ?_;refine rb u ?_;exact hS.symm;refine gA ?_;refine Za ?_;exact t ((I s)-(i+1)) ω (i+1) rfl ω (ZZ (q:=λj=>Zae (s.getD j 0)=true) z (by simpa using h2));simp at h1;obtain rfl:i=I s:=ω;rw[ZnC (p:=Zae) z,ZH3]at hS;refine rg ?_;refine rb u ?_;exact hS.symm;exact ac _ 0 rfl ω (by intro j hj;omega)
def Zw4{h:Hdr}:Zc ZHF 126 [.agg h.cells] (.bool (Zax h)):=by
 refine ZJ (cR 126 f126) λac F st z=>?_;have hs:=((ac (.agg h.cells) ψ).agg_inv (.str h.text) (by simp[Hdr.cells])).str_inv;unfold big at hs;clear ac;have hS:=Zax.eq_1 h;refine rx @Hdr.cells.eq_1 ?_;refine rg ?_;generalize ht:h.text=t at *;refine rg ?_;refine Zb (fr (I t) (λi Q=>i<=I t->(∀j,j<i->Zdo (t.getD j 0)=true)->Q [(1,.loc 1 0),(3,.d (.str t)),(4,.d (.i i))] [(1,[.str h.name,.str t])] st) (λn u=>?_) λad=>?_);intro i hn hi ab;refine rg ?_;refine cd (λh1=>?_) (λh1=>?_);simp at h1;refine gA ?_;refine cG ZuO ?_;refine aa ?_;have hc:(!dC (((t.getD i 0).toNat:Int)=32)&&!ZlD (t.getD i 0))=!Zdo (t.getD i 0):=by unfold Zdo;rw[Bool.not_or]
 rw[hc];refine cd (λh2=>?_) (λh2=>?_);rw[Zsw (p:=Zdo) h1 (by simpa using h2),ZH7]at hS;refine rg ?_;refine rb z ?_;exact hS.symm;refine gA ?_;refine Za ?_;exact u ((I t)-(i+1)) ω (i+1) rfl ω (ZZ (q:=λj=>Zdo (t.getD j 0)=true) ab (by simpa using h2));simp at h1;obtain rfl:i=I t:=ω;rw[ZnC (p:=Zdo) ab,ZH3]at hS;have hE:=Zhw.eq_1 t;refine rg ?_;refine cl ZuN ?_;have hp:t≠[]->0<I t:=λh0=>List.length_pos_iff.2 h0;refine⟨λh0=>⟨ω,by have:=hp (by simp at h0;exact h0.2);omega⟩,λh0=>by have:=hp (by simp at h0;exact h0.1.2);omega,λh0=>by have:=hp (by simp at h0;exact h0.1.2);omega,?_⟩;rw[show((I t:Int)-1).toNat=I t-1 by omega];refine rb z ?_;rw[hS,hE];exact ad _ 0 rfl ω (by intro j hj;omega)
def ZtW(l):Zc ZHF 79 [Zx l] (.bool (Kl l)):=by
 refine ZJ (cR 79 f79) λab F st u=>?_;have hw:=(YR (ab (slD 2 Hdr.cells l) (by simp[Zx]))).1;unfold big at hw;clear ab;have hS:=Kl.eq_1 l;refine rx (nd2 @Zx.eq_1 @eQ1) ?_;refine rg ?_;refine Zb (fr (I l) (λi Q=>i<=I l->(∀j,j<i->Zax (l.getD j dE)=true)->Q [(0,.d (Zx l)),(3,.d (.i i))] [] st) (λn t=>?_) λac=>?_);intro i hn hi z;refine rx (nd2 @Zx.eq_1 @eQ1) ?_;refine cd (λh1=>?_) (λh1=>?_);simp at h1;refine rx (nd2 @Zx.eq_1 (nd2 @eQ1 @Hdr.cells.eq_1)) ?_;rw[show D.agg [.str (l.getD i dE).name,.str (l.getD i dE).text]=.agg (l.getD i dE).cells from rfl];refine aa ?_;refine cl Zw4 ?_;refine cd (λh2=>?_) (λh2=>?_);rw[Zvg (p:=Zax) h1 (by simpa using h2),ZH7]at hS;refine rg ?_;refine rb u ?_;exact hS.symm;refine gA ?_;refine Za ?_;exact t ((I l)-(i+1)) ω (i+1) rfl ω (ZZ (q:=λj=>Zax (l.getD j dE)=true) z (by simpa using h2));simp at h1;obtain rfl:i=I l:=ω;rw[ZnC (p:=Zax) z,ZH3]at hS;refine rx (nd2 @Zx.eq_1 @eQ1) ?_;refine rb u ?_;exact hS.symm;exact ac _ 0 rfl ω (by intro j hj;omega)
def ZpG{c}:Zc ZHF 257 [.int .u8 c.toNat] (.bool (!Zae c)):=by
 refine Zg (cR 257 f257) λF st i=>?_;refine gG ?_;refine cl Zrz ?_;refine rb i ?_;rfl
def Zn2(s):Zc ZHF 135 [slD 1 byC s,.fn (.func 257) [] []] (.bool (s.any λc=>!Zae c)) :=
 λst=>Qq s (λ_=>st) λi _=> ZpG.VT (first:=[]) (caps:=[]) st
def Zpt{α:Type}(p)(l:List α):l.all p=!(l.any λc=>!p c):=by
 induction l with
 |nil=>rfl
 |cons x r ih=>simp only[List.all_cons,List.any_cons,ih];cases p x<;>simp
def Ztd{s}:Zc ZHF 221 [.str s] (.bool (Zep s)):=by
 refine ZJ (cR 221 f221) λj F st i=>?_;have n:=(j (.str s) ψ).str_inv;unfold big at n;refine gG ?_;refine cG (Zn2 s) ?_;refine rb i ?_;unfold Zep;rw[Zpt];generalize (s.any λc=>!Zae c)=x;generalize dC (1<=(I s:Int))=y;generalize dC ((I s:Int)<=32)=z;cases x<;>cases y<;>cases z<;>rfl
def ZeQ(l f p)(sts:Nat->St)(hf:∀i,i<I l->VT ZHF f [.agg (l.getD i dE).cells] (sts i) (.bool (p (l.getD i dE))) (sts (i+1))):
  ZU ZHF 185 [slD 2 Hdr.cells l,f] (sts 0) (.i (Zi p l)) (sts (QD p l)):=by
 refine ZK (cR 185 f185) λac F t=>?_;have hw:=(YR (ac (slD 2 Hdr.cells l) ψ)).1;unfold big at hw;clear ac;refine rx @eQ1 ?_;refine rx @eQ1 ?_;refine Zb (fr (I l) (λi Q=>i<=I l->(∀j,j<i->p (l.getD j dE)=false)->Q [(0,.d (slD 2 Hdr.cells l)),(1,.d f),(7,.d (.i (I l))),(8,.d (.i i))] [] (sts i)) (λn z=>?_) λad=>?_);intro i hn hi u;refine rx @eQ1 ?_;refine Zd (Zt rfl trivial (λh1=>?_) (λh1=>?_));simp at h1;refine rx @eQ1 ?_;refine xA (nd2 @eQ1 @Hdr.cells.eq_1) ?_;refine cW (hf i h1) ?_;refine cd (λh2=>?_) (λh2=>?_);have e1:=WY h1 h2 u;have e2:=Zcv h1 h2 u;rw[e1,e2]at t;refine rg ?_;exact t rfl φ (ZHL _) ZHH;refine gA ?_;refine Za ?_;exact z ((I l)-(i+1)) ω (i+1) rfl ω (ZZ (q:=λj=>p (l.getD j dE)=false) u h2);simp at h1;obtain rfl:i=I l:=ω;have ab:∀x∈l,p x=false:=λx hx=>by obtain⟨j,hj,rfl⟩:=ZH1 hx;have:=u j hj;simpa[ZHU,hj]using this
 rw[Wu ab,ZaB ab]at t;refine rg ?_;exact t rfl φ (ZHL _) ZHH;exact ad _ 0 rfl ω (by intro j hj;omega)
def J3(l){f p}(t:Nat->St)(u:∀i,i<I l->VT ZHF f [.agg (l.getD i dE).cells] (t i) (.bool (p (l.getD i dE))) (t (i+1))):
  ZU ZHF 142 [slD 2 Hdr.cells l,f] (t 0) (.bool (l.any p)) (t (QD p l)):=by
 refine ZK (cR 142 f142) λn F j=>?_;clear n;refine gG ?_;refine ct (ZeQ l f p t u) ?_;rw[Zat]at j;exact j rfl φ (ZHL _) ZHH
def J6(c:UInt8):Bool:=dC ((c.toNat:Int)=32)
def Zdq(s:Str):Str:=s.dropWhile J6
def ZbM(s:Str):Str:=(s.reverse.dropWhile J6).reverse
def Zpc{s}(h:J6 (s.getD 0 0)=true)(i:0<I s):Zdq s=Zdq (s.drop 1):=by
 cases s with
 |nil=>simp at i
 |cons c r=>simp only[List.getD_cons_zero]at h;simp[Zdq,List.dropWhile_cons,h]
def Zrk{s}(h:(dC (0<(I s:Int))&&J6 (s.getD 0 0))=false):Zdq s=s:=by
 cases s with
 |nil=>rfl
 |cons c r =>
  simp only[List.getD_cons_zero,ZHW]at h;have i:J6 c=false:=by have j:dC (0<((I r+1:Nat):Int))=true:=decide_eq_true ω;rw[j,ZH3]at h;exact h
  simp[Zdq,List.dropWhile_cons,i]
def ZqZ(l)(a:UInt8):(l++[a]).getD ((l++[a]).length-1) 0=a:=by simp[ZHU]
def Zpd{s}(h:J6 (s.getD (I s-1) 0)=true)(i:0<I s):ZbM s=ZbM (s.take (I s-1)):=by
 rcases List.eq_nil_or_concat s with rfl|⟨l,a,rfl⟩;simp at i;rw[List.concat_eq_append]at h⊢;rw[ZqZ]at h;simp[ZbM,List.dropWhile_cons,h]
def Zrl{s}(h:(dC (0<(I s:Int))&&J6 (s.getD (I s-1) 0))=false):ZbM s=s:=by
 rcases List.eq_nil_or_concat s with rfl|⟨l,a,rfl⟩;rfl;rw[List.concat_eq_append]at h⊢;rw[ZqZ]at h;have i:J6 a=false:=by have j:dC (0<((l++[a]).length:Int))=true:=decide_eq_true (by rw[ZHO,List.length_singleton];omega);rw[j,ZH3]at h;exact h
 simp[ZbM,List.dropWhile_cons,i]
def Zza(s):(ZbM s).length<=I s:=by
 unfold ZbM;rw[List.length_reverse];exact Nat.le_trans (List.dropWhile_sublist _).length_le ψ
def Zzb(t):dC (Zdq (ZbM t)=t)=Zhw t:=by
 have i:∀s:Str,(Zdq s).length<=I s:=λs=>(List.dropWhile_sublist _).length_le;by_cases j:t=[];subst j;rfl;have u:=List.length_pos_iff.2 j;have h0:Zhw t=(!J6 (t.getD 0 0)&&!J6 (t.getD (I t-1) 0)):=by unfold Zhw;rw[decide_eq_false j,Bool.false_or];rfl
 rw[h0];cases hr:J6 (t.getD (I t-1) 0) with
 |true =>rw[Bool.not_true,Bool.and_false,decide_eq_false];intro h;have n:=congrArg List.length h;rw[Zpd hr u]at n;have z:=i (ZbM (t.take (I t-1)));have h3:=Zza (t.take (I t-1));rw[ZHZ]at h3;omega
 |false =>
  rw[Zrl (by rw[hr,Bool.and_false]),Bool.not_false,Bool.and_true];cases hl:J6 (t.getD 0 0) with
  |true =>rw[Bool.not_true,decide_eq_false];intro h;have n:=congrArg List.length h;rw[Zpc hl u]at n;have z:=i (t.drop 1);rw[ZIh]at z;omega
  |false=>rw[Zrk (by rw[hl,Bool.and_false])];simp
def Zgf{s}:Zc ZHF 259 [.str s,.int .u8 32] (.str (Zdq s)):=by
 refine ZJ (cR 259 f259) λj F st i=>?_;have hs:=(j (.str s) ψ).str_inv;unfold big at hs;clear j;refine rg ?_;refine Zd (Zb ?_);refine lpU (λQ=>∀n (t:Str),I t<=n->I t<=9223372036854775807->Zdq t=Zdq s->Q F [(0,.d (.str t)),(1,.d (.int .u8 32))] [] st) ?_ λu=>?_
 .intro n;induction n with
  |zero =>intro t hn hb z;obtain rfl:t=[]:=List.length_eq_zero_iff.1 ω;refine gA ?_;refine iG ?_;refine rs i ?_;rw[<-z];rfl
  |succ n ih =>intro t hn hb z;refine gA ?_;refine cd (λh1=>?_) (λh1=>?_);simp only[ZHN,decide_eq_true_eq]at h1;refine gA ?_;refine Zf (Za ?_);rw[show List.take (I t-1) (t.drop 1)=t.drop 1 from List.take_of_length_le ψ];exact ih _ (by rw[ZIh];omega) (by rw[ZIh];omega) (by rw[<-z];exact(Zpc (decide_eq_true h1.2) ω).symm);refine rg ?_;refine rs i ?_;rw[<-z];exact(Zrk h1).symm
 exact u (I s) s (ZHV _) hs rfl
def Zf7(s):Zc ZHF 260 [.str s,.int .u8 32] (.str (ZbM s)):=by
 refine ZJ (cR 260 f260) λj F st i=>?_;have hs:=(j (.str s) ψ).str_inv;unfold big at hs;clear j;refine rg ?_;refine Zd (Zb ?_);refine lpU (λQ=>∀n (t:Str),I t<=n->I t<=9223372036854775807->ZbM t=ZbM s->Q F [(0,.d (.str t)),(1,.d (.int .u8 32))] [] st) ?_ λu=>?_
 .intro n;induction n with
  |zero =>intro t hn hb ht;obtain rfl:t=[]:=List.length_eq_zero_iff.1 ω;refine gA ?_;refine iG ?_;refine rs i ?_;rw[<-ht];rfl
  |succ n ih =>
   intro t hn hb ht;refine gA ?_;refine cd (λz=>?_) (λz=>?_);simp only[ZHN,decide_eq_true_eq]at z;rw[show((I t:Int)-1).toNat=I t-1 by omega]at z;refine gA ?_;refine Zf (Za ?_);rw[show((I t:Int)-1).toNat=I t-1 by omega];exact ih _ (by rw[ZHZ];omega) (by rw[ZHZ];omega) (by rw[<-ht];exact(Zpd (decide_eq_true z.2) ω).symm);have h2:(dC (0<(I t:Int))&&J6 (t.getD (I t-1) 0))=false:=by rw[show((I t:Int)-1).toNat=I t-1 by omega]at z;exact z
   refine rg ?_;refine rs i ?_;rw[<-ht];exact(Zrl h2).symm
 exact u (I s) s (ZHV _) hs rfl
def Zo9{s}:Zc ZHF 222 [.str s,.str [32]] (.str (Zdq (ZbM s))):=by
 refine Zg (cR 222 f222) λF st i=>?_;refine gG ?_;refine cd (λn=>?_) (λn=>?_);refine rg ?_;have j:s=[]:=by simpa using n
 subst j;refine rs i ?_;rfl;refine gA ?_;refine i1 ?_;refine gA ?_;refine cl0 (Zf7 s) ?_;refine cl0 Zgf ?_;refine rs i ?_;rfl
def Zn4{c}:Zc ZHF 223 [.int .u8 c.toNat] (.bool (!Zdo c)):=by
 refine Zg (cR 223 f223) λF st i=>?_;refine gG ?_;refine cG Zn5 ?_;refine rb i ?_;unfold Zdo;rw[Bool.not_or]
def ZmW{s}:Zc ZHF 135 [slD 1 byC s,.fn (.func 223) [] []] (.bool (s.any λc=>!Zdo c)) :=
 λst=>Qq s (λ_=>st) λi _=> Zn4.VT (first:=[]) (caps:=[]) st
def ZrA(h:Hdr):Zc ZHF 176 [.agg h.cells] (.bool (Zax h)):=by
 refine Zg (cR 176 f176) λF st i=>?_;refine rx @Hdr.cells.eq_1 ?_;refine rg ?_;refine clD Ztd ?_;refine cGD Zo9 ?_;refine cGD ZmW ?_;refine rb i ?_;rw[Zzb];unfold Zax;rw[Zpt];generalize (h.text.any λc=>!Zdo c)=x;generalize Zep h.name=y;generalize Zhw h.text=z;cases x<;>cases y<;>cases z<;>rfl
def Zn3{h:Hdr}:Zc ZHF 175 [.agg h.cells] (.bool (!Zax h)):=by
 refine Zg (cR 175 f175) λF st i=>?_;refine rx @Hdr.cells.eq_1 ?_;refine rg ?_;rw[show D.agg [.str h.name,.str h.text]=.agg h.cells from rfl];refine cl (ZrA h) ?_;refine rb i ?_;rfl
def ZmV(l):Zc ZHF 142 [slD 2 Hdr.cells l,.fn (.func 175) [] []] (.bool (l.any λc=>!Zax c)) :=
 λst=>J3 l (λ_=>st) λi _=> Zn3.VT (first:=[]) (caps:=[]) st
def Zcp{L s}(l):qv L s .lenL [.d (Zx l)]=sO (True,.d (.i (I l))):=rfl
def atH{L s}(l i):qv L s (.iaddr 2) [.d (Zx l),.d (.i i)]=sO (0<=i/\i<I l,.d (.ep (l.getD i.toNat dE).cells 0)):=rfl
def Zry(l):Zc ZHF 130 [Zx l] (.bool (Kl l)):=by
 refine Zg (cR 130 f130) λF st i=>?_;refine rg ?_;refine rx @Zcp ?_;refine cG (ZmV l) ?_;refine rb i ?_;unfold Kl;rw[Zpt];rw[Bool.and_comm]
def Zck(l:List Hdr):Prop:=∀h∈l,I h.text<=1048576
def ZzV{h:Hdr}(i:Zax h=true)(ht:I h.text<=1048576):(ZgV h).length<=1048620:=by
 unfold Zax Zep at i;simp only[ZHN,decide_eq_true_eq]at i;unfold ZgV;simp only[ZHO,ZHW,List.length_nil];omega
def Ze1(l:List Hdr):Str:=l.flatMap ZgV
def Zyf{l}(n:∀h∈l,Zax h=true)(j:Zck l):(Ze1 l).length<=I l*1048620:=by
 induction l with
 |nil=>simp[Ze1]
 |cons a r ih =>have h1:=ZzV (n a ψ) (j a ψ);have t:=ih (λh i=>n h (by simp[i])) (λh i=>j h (by simp[i]));unfold Ze1 at t⊢;rw[List.flatMap_cons,ZHO,ZHW,ZIa];omega
def Zn9{l:List Hdr}{i}(h:i<I l):Ze1 (l.take (i+1))=Ze1 (l.take i)++ZgV (l.getD i dE):=by
 rw[Z3 h];simp[Ze1]
def Ztg{l}(n:Kl l=true)(t:Zck l)(i):(Ze1 (l.take i)).length<=104862000/\I l<=100:=by
 unfold Kl at n;rw[ZHN,List.all_eq_true,decide_eq_true_eq]at n;have z:=Zyf (l:=l.take i) (λh j=>n.1 h (List.mem_of_mem_take j)) (λh j=>t h (List.mem_of_mem_take j));rw[ZHZ]at z;have u:min i (I l)<=100:=ω;have h3:=ZH5 1048620 u;omega
def Zvx{l}(j:Kl l=true)(t:Zck l){i}(n:i<I l):(l.getD i dE).name.length<=32/\(l.getD i dE).text.length<=1048576:=by
 refine⟨?_,t _ (Zm n)⟩;unfold Kl at j;rw[ZHN,List.all_eq_true]at j;have:=j.1 _ (Zm n);unfold Zax Zep at this;simp only[ZHN,decide_eq_true_eq]at this;omega
def Zka{l}(hk:Kl l=true)(ht:Zck l):Zc ZHF 74 [Zx l] (Zs (Zby l)):=by
 refine Zg (cR 74 f74) λF st t=>?_;have hl:=Ztg hk ht;refine gG ?_;refine rg ?_;refine Zb (fr (I l) (λi Q=>∀s,s=Ze1 (l.take i)->i<=I l->Q [(0,.d (Zx l)),(3,.d (.str s)),(4,.d (.i i))] [] st) (λn j=>?_) λu=>?_);intro i hn s z hi;have h1:=hl i;rw[<-z]at h1;refine rx @Zcp ?_;refine cd (λh2=>?_) (λh2=>?_);simp at h2;have h3:=Zn9 h2;have h4:=hl (i+1);have h5:=Zvx hk ht h2;rw[h3,<-z]at h4;rw[<-z]at h3;unfold ZgV at h3 h4;simp only[ZHO,ZHW,List.length_nil]at h4;generalize hg:l.getD i dE=g at *;refine rx (nd2 @atH (nd2 @hg @Hdr.cells.eq_1)) ?_;repeat(refine ZHG (by first|omega|trivial|(intro h0;simp at h0;omega)|(((try simp only[ZHO,ZHW,List.length_nil]);unfold big;omega))) ?_)
 refine gA ?_;refine Za ?_;exact j ((I l)-(i+1)) ω (i+1) rfl _ (by rw[h3];simp only[ZIg]) ω;simp at h2;obtain rfl:i=I l:=ω;rw[ZH2]at z;subst z;refine rg ?_;repeat(refine ZHG (by first|omega|trivial|(intro h0;simp at h0;omega)|(((try simp only[ZHO,ZHW,List.length_nil]);unfold big;omega))) ?_)
 exact t rfl φ (ZHL _) ZHH;exact u _ 0 rfl [] rfl ω
def ZkX(l:List Hdr):D:=if Kl l then .tup [Zs (Zby l),.i 0] else .tup [.nilsl,.i 2]
def Zi1{l}(ht:Zck l):Zc ZHF 87 [Zx l] (ZkX l):=by
 refine Zg (cR 87 f87) λF st j=>?_;have hW:=ZkX.eq_1 l;refine gG ?_;refine cl (Zry l) ?_;cases hk:Kl l with
 |false =>rw[hk,if_neg ψ]at hW;rw[hW]at j;refine i1 ?_;refine rg ?_;exact j rfl ψ (ZHL _) ZHH
 |true =>
  rw[hk,if_pos rfl]at hW;rw[hW]at j;have hl:=Ztg hk ht;refine iG ?_;refine rx @Zcp ?_;refine kl (st) [(4,.d (.sl .full 0 1 λ_=>[])),(10,.d (Zx l)),(11,.d (.i (I l))),(12,.d (.i (0:Nat)))] [] (.cons (.d (Y3 λb h=>by cases h)) Ku) WE ?_;refine Zb (fr (I l) (λi Q=>∀tk row o,tk.okIn st->ZQ byC row o->o=Ze1 (l.take i)->i<=I l->Q [(4,.d (.sl tk (I o) 1 row)),(10,.d (Zx l)),(11,.d (.i (I l))),(12,.d (.i i))] [] (st.own tk (I o*1))) (λn z=>?_) λae=>?_);intro i hn tk row o htk ab ho hi;have h1:=hl i;rw[<-ho]at h1;refine rg ?_;refine Zd (Zt rfl trivial (λh2=>?_) (λh2=>?_));simp at h2;have h3:=Zn9 h2;have h4:=hl (i+1);have h5:=Zvx hk ht h2;rw[h3,<-ho]at h4;rw[<-ho]at h3;rw[ZHO]at h4;generalize hg:l.getD i dE=g at *;refine xA (nd2 @atH (nd2 @hg @Hdr.cells.eq_1)) ?_;refine rg ?_;repeat(refine ZHG (by first|omega|trivial|(intro h0;simp at h0;omega)|(((try simp only[ZHO,ZHW,List.length_nil]);unfold big;omega))) ?_)
  have hB:g.name++[58,32]++g.text++[13,10]=ZgV g:=rfl;rw[hB];generalize ZgV g=b at *;refine K3 (st) (tk) rfl rfl rfl rfl rfl rfl φ φ rfl (by first|trivial|assumption) ω (by (unfold big;omega)) λt1 ac=>Zn ?_;simp only[Eqs,reduceCtorEq,ZHK,reduceIte,ZHI,ZHM,ZHJ];refine gA ?_;have t:ZQ byC (YA (I o) row λi=>[.int .u8 ((b.getD i 0).toNat:Int)]) (o++b):=ab.app ZQ.self rfl;have u:=z (I l-(i+1)) ω (i+1) rfl t1 _ _ ac t h3.symm ω;rw[ZHO]at u;refine Za ?_;exact u;simp at h2;obtain rfl:i=I l:=ω;rw[ZH2]at ho;refine rg ?_;refine K3 (st) (tk) rfl rfl rfl rfl rfl rfl φ φ rfl (by first|trivial|assumption) (by (simp;omega)) (by (simp;unfold big;omega)) λt1 ac=>Zn ?_;simp only[Eqs,reduceCtorEq,ZHK,reduceIte,ZHI,ZHM,ZHJ];have t:ZQ byC (YA (I o) row λi=>[.int .u8 ((([13,10]:Str).getD i 0).toNat:Int)]) (o++[13,10]):=ab.app ZQ.self rfl;have ad:Zby l=o++[13,10]:=by rw[ho];rfl
  rw[ad]at j;exact j rfl ψ (Zk7 rfl (.cons (t.le ψ) (LeC.refl _))) (YH ac);exact ae _ 0 rfl .full _ [] trivial ZQ.nil rfl ω
end Go.DL
namespace Go.DL
open Go
variable {kp:Option (List Nat)}{L:Loc}{H:Env}{s:St}{w:World}{os:List DOp}{ds:List D}{B:List (Nat × Rd)}{dst:Option Nat}{tmps:Array Value}{g:G}{Φ:Res->St->Prop}{Z:Nat->Nat}{xs:List Opd}{side:Prop}{row:Nat->List D}
section
variable {K V:Type} [DecidableEq K]
def Zw(k:K):List (K×V)->Option V
 | []=>nO
 |e::r=>if k=e.1 then sO e.2 else Zw k r
def WH(k:K)(v:V):List (K×V)->List (K×V)
 | []=>[(k,v)]
 |e::r=>if k=e.1 then (k,v)::r else e::WH k v r
def Qv(kD:K->D)(vD:V->D)(l:List (K×V)):List (D×D):=l.map λe=>(kD e.1,vD e.2)
def Zk6(kp:KP)(kD:K->D):Prop:=∀a b,KK kp (kD a) (kD b)=sO (dC (a=b))
def We{kp}{i}{vD:V->D}(h:Zk6 kp i)(k:K)(l:List (K×V)):Zcb kp (i k) (Qv i vD l)=sO ((Zw k l).map vD):=by
 induction l with
 |nil=>rfl
 |cons e r ih =>simp only[Qv,ZHY,Zcb,h k e.1,Zw];by_cases j:k=e.1;simp[j];simp only[j,decide_false,if_false];exact ih
def ZcM{kp}{i}{vD}(h:Zk6 kp i)(k:K)(v:V)(l:List (K×V)):ZaE kp (i k) (vD v) (Qv i vD l)=sO (Qv i vD (WH k v l)):=by
 induction l with
 |nil=>rfl
 |cons e r ih =>simp only[Qv,ZHY,ZaE,h k e.1,WH];by_cases j:k=e.1;simp[j];simp only[j,decide_false,if_false,ZHY];rw[show ZaE kp (i k) (vD v) (r.map λe=>(i e.1,vD e.2))=_ from ih];rfl
def Wr{kp}{i:K->D}(h:Zk6 kp i)(k:K):QS kp (i k)=true:=by simp[QS,h k k]
def QH(k j)(v:V)(l:List (K×V)):Zw j (WH k v l)=if j=k then sO v else Zw j l:=by
 induction l with
 |nil=>simp[WH,Zw]
 |cons e r ih =>simp only[WH];by_cases i:k=e.1;subst i;simp only[if_true,Zw];split<;>rfl;simp only[i,if_false,Zw,ih];by_cases n:j=e.1;subst n;simp[Ne.symm i];simp[n]
def Zyb{k}{l:List (K×V)}:Zw k l=nO↔k∉l.map (·.1):=by
 induction l with
 |nil=>simp[Zw]
 |cons x r ih =>simp only[Zw,ZHY,ZIj];by_cases h:k=x.1;simp[h];simp[h,ih]
end
def Qa(s:Str):D:=.str s
def ZX:Zk6 (.sc .str) Qa:=λa b=>rfl
def KL(n:Int):D:=.i n
def Ziq:Zk6 (.sc .int) KL:=λa b=>by simp[KK,KL,Yv]
open Go.Proofs
def vst(st:St)(b x:Nat)(es:List (D×D)):St:=(st.upd b (.map es)).upd x (.cells [.map b])
def ZAR{st b x es}:(vst st b x es) x=sO (.cells [.map b]):=ZHP _ _ _
def ZAQ{st b x es}(h:b≠x):(vst st b x es) b=sO (.map es):=by
 unfold vst;rw[ZHQ _ _ h];exact ZHP _ _ _
def ZB2{st b x es i}(h:b≠x):(vst st b x es).upd b (.map i)=vst st b x i:=by
 unfold vst;rw[St.upd_comm h,ZH4]
abbrev ZeW(l:List (Str×Bool)):List (D×D):=Qv Qa D.bool l
def Zm3(o:Option Bool):Wy (.bool false) false (o.map D.bool)=.bool (o.getD false):=by cases o<;>rfl
def Zo5(t st b x)(h:b≠x)(l):
  ZU ZHF 197 [.agg t.cells,.ptr x 0] (vst st b x (ZeW l)) (.bool ((Zw t.field l).getD false||!KY t)) (vst st b x (ZeW (WH t.field true l))):=by
 refine ZK (cR 197 f197) λhwf F i=>?_;have j:=We (vD:=D.bool) ZX t.field l;have n:=ZcM (vD:=D.bool) ZX t.field true l;have z:=Wr ZX t.field;simp only[show Qa t.field=D.str t.field from rfl]at j n z;refine rx @eQ8 ?_;refine rh ?_;refine Zn ?_;simp only[Eqs,reduceCtorEq,ZHK,reduceIte,ZHI,ZHM,ZHJ,ZAR,ZAQ h,j,Zm3];generalize (Zw t.field l).getD false=u at *;refine rh ?_;refine Zn ?_;simp only[Eqs,reduceCtorEq,ZHK,reduceIte,ZHI,ZHM,ZHJ,ZAR,ZAQ h,n,ZB2 h];cases u with
 |false =>refine rx @eQ8 ?_;refine clD (Zbu t.field) ?_;refine clD (ZeP t.factor) ?_;refine clD Zrf ?_;refine i rfl φ (Zfg ?_) ZHH;unfold KY;cases Yt t.field<;>cases dC (t.factor=0)<;>cases Jd t.factor<;>rfl
 |true =>refine rx @eQ8 ?_;refine Zfl rfl rfl (e:=.d (.bool false)) (Yz ?_);simp only[Eqs,reduceCtorEq,ZHK,reduceIte,ZHI,ZHM,ZHJ];refine Zfl rfl rfl (e:=.d (.bool false)) (Yz ?_);simp only[Eqs,reduceCtorEq,ZHK,reduceIte,ZHI,ZHM,ZHJ];refine Zfl rfl rfl (e:=.d (.bool false)) (Yz ?_);simp only[Eqs,reduceCtorEq,ZHK,reduceIte,ZHI,ZHM,ZHJ];exact i rfl φ (Zfg ψ) ZHH
def Zfa{n i}(h:i<n):(ZHT n).getD i dE=i:=by simp[ZHU,h]
def Zf3(l f p)(sts:Nat->St)(hf:∀i,i<I l->VT ZHF f [.agg (l.getD i dE).cells] (sts i) (.bool (p i)) (sts (i+1))):
  ZU ZHF 110 [slD 2 Yn.cells l,f] (sts 0) (.i (Zi p (ZHT (I l)))) (sts (QD p (ZHT (I l)))):=by
 refine ZK (cR 110 f110) λac F t=>?_;have hw:=(YR (ac (slD 2 Yn.cells l) ψ)).1;unfold big at hw;clear ac;refine rx @eQ1 ?_;refine rx @eQ1 ?_;refine Zb (fr (I l) (λi Q=>i<=I l->(∀j,j<i->p j=false)->Q [(0,.d (slD 2 Yn.cells l)),(1,.d f),(7,.d (.i (I l))),(8,.d (.i i))] [] (sts i)) (λn z=>?_) λad=>?_);intro i hn hi u;refine rx @eQ1 ?_;refine Zd (Zt rfl trivial (λh1=>?_) (λh1=>?_));simp at h1;refine rx @eQ1 ?_;refine xA (nd2 @eQ1 @eQ8) ?_;refine cW (hf i h1) ?_;refine cd (λh2=>?_) (λh2=>?_);have e1:=WY (p:=p) (l:=ZHT (I l)) (i:=i) (by simpa using h1) (by rw[Zfa h1];exact h2) (λj hj=>by rw[Zfa ω];exact u j hj);have e2:=Zcv (p:=p) (l:=ZHT (I l)) (i:=i) (by simpa using h1) (by rw[Zfa h1];exact h2) (λj hj=>by rw[Zfa ω];exact u j hj);rw[e1,e2]at t;refine rg ?_;exact t rfl φ (ZHL _) ZHH;refine gA ?_;refine Za ?_;exact z ((I l)-(i+1)) ω (i+1) rfl ω (ZZ (q:=λj=>p j=false) u h2);simp at h1;obtain rfl:i=I l:=ω;have ab:∀x∈ZHT (I l),p x=false:=λx hx=>u x (by simpa using hx);rw[Wu ab,ZaB ab,List.length_range]at t;refine rg ?_;exact t rfl φ (ZHL _) ZHH;exact ad _ 0 rfl ω (by intro j hj;omega)
def ZeB(l f p)(t:Nat->St)(u:∀i,i<I l->VT ZHF f [.agg (l.getD i dE).cells] (t i) (.bool (p i)) (t (i+1))):
  ZU ZHF 199 [slD 2 Yn.cells l,f] (t 0) (.bool ((ZHT (I l)).any p)) (t (QD p (ZHT (I l)))):=by
 refine ZK (cR 199 f199) λn F j=>?_;clear n;refine gG ?_;refine ct (Zf3 l f p t u) ?_;rw[Zat]at j;exact j rfl φ (ZHL _) ZHH
def ZlE(l:List Yn):Nat->List (Str×Bool)
 |0=>[]
 |i+1=>WH (l.getD i dE).field true (ZlE l i)
def ZyY{l s i}(hi:i<=I l):(Zw s (ZlE l i)).getD false=dC (s∈(l.take i).map (·.field)):=by
 induction i with
 |zero=>simp[ZlE,Zw]
 |succ i ih =>have h:=ih ω;rw[ZlE,QH,Z3 ω,List.map_append];by_cases j:s=(l.getD i dE).field;rw[if_pos j];simp[j];rw[if_neg j,h];simp only[List.mem_append,ZHY,ZIf,List.mem_singleton,j,or_false]
def ZdU(l r:List Yn)(k)(n:r=l.drop k)(hk:k<=I l):Kt ((l.take k).map (·.field)) r=!((ZHT (I r)).any λi=>(dC ((l.getD (k+i) dE).field∈(l.take (k+i)).map (·.field))||!KY (l.getD (k+i) dE))):=by
 induction r generalizing k with
 |nil=>rfl
 |cons t q ih =>
  have j:k<I l:=by have:=congrArg List.length n;simp at this;omega
  rw[Ww j]at n;injection n with h1 h2;have u:=ih (k+1) h2 ω;rw[Kt,ZHW,List.range_succ_eq_map,List.any_cons,List.any_map];rw[show(l.take k).map (·.field)++[t.field]=(l.take (k+1)).map (·.field) by rw[Z3 j,List.map_append,<-h1];rfl,u];simp only[Nat.add_zero,<-h1,Function.comp_def,Nat.succ_eq_add_one];rw[show(λi=>dC ((l.getD (k+(i+1)) dE).field∈(l.take (k+(i+1))).map (·.field))||!KY (l.getD (k+(i+1)) dE))=λi=>dC ((l.getD (k+1+i) dE).field∈(l.take (k+1+i)).map (·.field))||!KY (l.getD (k+1+i) dE) from funext λi=>by rw[show k+(i+1)=k+1+i by omega]];cases KY t<;>cases dC (t.field∈(l.take k).map (·.field))<;>simp
def ZaG(s):Zc ZHF 149 [.agg s.cells] (.bool (ZI s)):=by
 refine ZJ (cR 149 f149) λhwf F st j=>?_;refine rx (nd2 @eQ4 (nd2 @eQ6 @eQ1)) ?_;refine rg ?_;intro b hb;refine Zd ?_;refine ZdX 3 rfl λx hx=>?_;simp only[Eqs,reduceCtorEq,ZHK,reduceIte,ZHI,ZHM,ZHJ,Zal,JB,delL];refine rg ?_;have n:b≠x:=λe=>by rw[e,ZHP]at hx;simp at hx
 have t:∀o,(st.upd b o) x=nO:=λo=>by rw[ZHQ _ _ (Ne.symm n)]at hx⊢;exact hx
 have u:(st.upd b (.map [])).upd x (.cells [.map b])=vst st b x (ZeW []):=rfl;rw[u];cases z:(Jd s.base&&dC ((I s.terms:Int)<=4)) with
 |false =>refine rx (nd2 @eQ4 (nd2 @eQ6 @eQ1)) ?_;refine clD (ZeP s.base) ?_;refine cXD @z ZkH ?_;refine Zfl rfl rfl (e:=.d (.bool false)) (Yz ?_);simp only[Eqs,reduceCtorEq,ZHK,reduceIte,ZHI,ZHM,ZHJ];refine j rfl φ (Zfg ?_) (ZIn (ZH6 _ hb) (ZH6 _ (t _)));unfold ZI;rw[show dC (I s.terms<=4)=dC ((I s.terms:Int)<=4) from decide_eq_decide.2 ω,z];rfl
 |true =>refine rx (nd2 @eQ4 (nd2 @eQ6 @eQ1)) ?_;refine clD (ZeP s.base) ?_;refine cXD @z ZkH ?_;refine Zjl rfl rfl rfl rfl rfl φ φ (by exact ZeB s.terms (.fn (.func 197) [] [.ptr x 0]) (λi=>dC ((s.terms.getD i dE).field∈(s.terms.take i).map (·.field))||!KY (s.terms.getD i dE)) (λi=>vst st b x (ZeW (ZlE s.terms i))) (λi hi=>(by have:=Zo5 (s.terms.getD i dE) st b x n (ZlE s.terms i);rw[ZyY ω]at this;exact this.VT (first:=[]) (args:=[_]) (caps:=[_])))) (by first|trivial|exact⟨rfl,trivial⟩|simp[Wq,Qk]) (Yz ?_);simp only[Eqs,reduceCtorEq,ZHK,reduceIte,ZHI,ZHM,ZHJ];refine j rfl φ (Zfg ?_) (ZIn (ZH6 _ hb) (ZH6 _ (t _)));have hv:=ZdU s.terms s.terms 0 rfl ω;simp only[Nat.zero_add]at hv;rw[<-hv];unfold ZI;rw[show dC (I s.terms<=4)=dC ((I s.terms:Int)<=4) from decide_eq_decide.2 ω,z,ZH3];rfl
def ZiL(l)(hl:I l<=1000000)(st):Ze ZHF 200 [Yd l] st (λr s=>r=.ret (Yd l)/\s=st):=by
 refine Zh (cR 200 f200) λF z=>?_;by_cases h0:I l=0;have u:l=[]:=List.eq_nil_of_length_eq_zero h0;subst u;refine ZeT 0 rfl ?_ λb off cap=>?_
 skip
 refine rx (nd2 @eQ6 @eQ1) ?_;refine rg ?_;refine i1 ?_;refine rg ?_;exact z.ret _ st rfl φ (K7 (Y3 λb h=>by cases h)) ZHH ⟨rfl,rfl⟩
 skip
 refine rx (nd2 @eQ6 @eQ1) ?_;refine rg ?_;refine iG ?_;refine ZeS (s:=st) (t:=.full) (m:=0) (row2:=λ_=>[]) rfl rfl rfl rfl rfl φ φ (λg w v h=>Zgw h) trivial (by decide) (by unfold big;decide) λt1 j=>?_;refine gR0 ?_;exact z.ret _ st rfl φ (K7 ((ZQ.nil (f:=Yn.cells)).le rfl)) (YH j) ⟨rfl,rfl⟩
 skip
 refine rx (nd2 @eQ6 @eQ1) ?_;refine gA ?_;refine iG ?_;refine K3 (st) (.full) rfl rfl rfl rfl rfl rfl φ φ rfl (by first|trivial|assumption) ω (by (unfold big;omega)) λt1 j=>Zn ?_;simp only[Eqs,reduceCtorEq,ZHK,reduceIte,ZHI,ZHM,ZHJ];have n:ZQ Yn.cells (YA 0 (ZY [.str [],.i 0] ([].zip [])) λi=>(l.getD i dE).cells) ([]++l):=ZQ.nil.app ZQ.self rfl;exact z.ret _ st rfl φ (K7 (n.le ψ)) (YH j) ⟨rfl,rfl⟩
def Za4(l)(hl:I l<=big)(x):Zds ZHF (.fn (.func 201) [] [.ptr x 0]) (I l) (λj=>[.str (l.getD j dE).field]) (ZH9 x (.cells [Yd l])):=by
 intro y go A a0 ad hA hd;have hw:=hl;unfold big at hw;refine Ze.V (first:=[]) (args:=[y]) (caps:=[.ptr x 0]) (Zh (cR 201 f201) λF hF=>?_);have hx:∀a,Yc a (ZH9 x (.cells [Yd l]))->(a.or (ZH9 x (.cells [Yd l]))) x=sO (.cells [Yd l]):=λa af=>by rw[ZM (af x _ YE),YE]
 generalize hT:ZH9 x (.cells [Yd l])=T at *;refine rh ?_;refine Zn ?_;simp only[Eqs,reduceCtorEq,ZHK,reduceIte,ZHI,ZHM,ZHJ,hx a0 hd,Yd,slD];refine Zb (fr (I l) (λj Q=>∀a,A j a->Yc a T->(∀i,i<j->go i=.next)->j<=I l->Q [(0,.d y),(5,.d (Yd l)),(6,.d (.i (I l))),(7,.d (.i j))] [] (a.or T)) (λn ab=>?_) λag=>?_)
 .clear hA hd;intro j hn a hA hd z hj;refine rx (nd2 @eQ6 @eQ1) ?_;refine Zd (Zt rfl trivial (λh1=>?_) (λh1=>?_))
  .simp at h1;generalize hg:l.getD j dE=g at *;refine xA (nd2 @eQ8 (nd2 @eQ6 (nd2 @eQ1 @hg))) ?_;refine rg ?_;have u:=(ad j h1 z a hA).frame hd;simp only[hg]at u;refine vV (u) ?_ ?_
   .rintro d S ⟨s',⟨hr,ac⟩,ae,rfl⟩;cases t:go j with
    |next =>rw[t]at hr;cases hr;refine gR0 ?_;refine i0 ?_;refine gA ?_;refine Za ?_;exact ab ((I l)-(j+1)) ω (j+1) rfl s' ac ae (ZZ (q:=λi=>go i=.next) z t) ω
    |stop c =>rw[t]at hr;cases hr;refine gR0 ?_;refine i1 ?_;exact hF.ret (.tup []) _ rfl trivial (ZHL _) ZHH ⟨s',.stop j c h1 z t ac,KW⟩
    |pan d=>rw[t]at hr;cases hr
   rintro d S ⟨s',⟨hr,ac⟩,ae,rfl⟩;cases t:go j with
   |pan d' =>rw[t]at hr;cases hr;exact hF.pan _ ZHH ⟨s',.pan j d h1 z t ac,KW⟩
   |next=>rw[t]at hr;cases hr
   |stop c=>rw[t]at hr;cases hr
  simp at h1;obtain rfl:j=I l:=ω;refine ZR rfl ?_;exact hF.fin (.tup []) _ rfl trivial (ZHL _) ZHH ⟨a,.all z hA,KW⟩
 exact ag _ 0 rfl a0 hA hd (by intro i hi;omega) ω
def JD{s}(h:ZI s=true):I s.terms<=4:=by
 unfold ZI at h;simp only[ZHN,decide_eq_true_eq]at h;exact h.1.2
def Zci(s)(n:ZI s=true){st}:Ze ZHF 150 [.agg s.cells] st (λr S=>∃x,st x=nO/\r=.ret (.fn (.func 201) [] [.ptr x 0])/\S=st.or (ZH9 x (.cells [Yd s.terms]))):=by
 have hfew:=JD n;refine Zh (cR 150 f150) λF t=>?_;refine rx @eQ4 ?_;refine rg ?_;refine rx @eQ4 ?_;refine cX @n (ZaG s) ?_;refine i1 ?_;refine rx @eQ4 ?_;have u:=(ZiL s.terms ω st);refine cV (u) ?_ ?_;rintro d S ⟨i,rfl⟩;cases i;refine gR0 ?_;refine⟨rfl,?_⟩;refine Zd ?_;refine ZdX 3 rfl λx j=>?_;simp only[Eqs,reduceCtorEq,ZHK,reduceIte,ZHI,ZHM,ZHJ,Zal,JB,delL];refine rg ?_;exact t.ret _ _ rfl φ (ZHL _) ZHH ⟨x,j,rfl,Qt j⟩;rintro d S ⟨i,_⟩;cases i
def QN(r:Int×Int):D:=.agg [.i r.1,.i r.2]
abbrev Zzp:=List (Str×(Int×Int))
abbrev Zb4(l:Zzp):List (D×D):=Qv Qa QN l
def Zv{b c o}(h:(s.upd b o) c=nO):c≠b/\s c=nO:=by
 have:c≠b:=λe=>by rw[e,ZHP]at h;simp at h
 exact⟨this,by rw[ZHQ _ _ this]at h;exact h⟩
def ZkG(r):Zc ZHF 336 [QN r] (.bool (!Jb r)):=by
 refine Zg (cR 336 f336) λF st i=>?_;refine rx @QN.eq_1 ?_;refine rg ?_;refine cl Zrf ?_;refine rb i ?_;unfold Jb;rw[Bool.not_or,Bool.not_or,<-decide_not,<-decide_not,<-decide_not];simp only[Int.not_lt,Int.not_le,Bool.and_assoc]
def ckS(st:St)(b5 b6 b7 b8 b9 b:Nat)(rc:Int)(nn:Bool):St :=
 ((((st.upd b5 (.cells [.str []])).upd b6 (.cells [.map b])).upd b7 (.cells [.fn (.func 336) [] []])).upd b8 (.cells [.i rc])).upd b9 (.cells [.bool nn])
structure YS(st:St)(b5 b6 b7 b8 b9:Nat):Prop where
 n5:st b5=none
 n6:b6≠b5/\st b6=none
 n7:b7≠b6/\b7≠b5/\st b7=none
 n8:b8≠b7/\b8≠b6/\b8≠b5/\st b8=none
 n9:b9≠b8/\b9≠b7/\b9≠b6/\b9≠b5/\st b9=none
section
variable {st:St} {b5 b6 b7 b8 b9 b:Nat} {rc:Int} {nn:Bool}
def YS.g5(h:YS st b5 b6 b7 b8 b9):(ckS st b5 b6 b7 b8 b9 b rc nn) b5=sO (.cells [.str []]):=by
 simp[ckS,ZIi,h.n6.1.symm,h.n7.2.1.symm,h.n8.2.2.1.symm,h.n9.2.2.2.1.symm]
def YS.g6(h:YS st b5 b6 b7 b8 b9):(ckS st b5 b6 b7 b8 b9 b rc nn) b6=sO (.cells [.map b]):=by
 simp[ckS,ZIi,h.n7.1.symm,h.n8.2.1.symm,h.n9.2.2.1.symm]
def YS.g7(h:YS st b5 b6 b7 b8 b9):(ckS st b5 b6 b7 b8 b9 b rc nn) b7=sO (.cells [.fn (.func 336) [] []]):=by
 simp[ckS,ZIi,h.n8.1.symm,h.n9.2.1.symm]
def YS.g8(h:YS st b5 b6 b7 b8 b9):(ckS st b5 b6 b7 b8 b9 b rc nn) b8=sO (.cells [.i rc]):=by
 simp[ckS,ZIi,h.n9.1.symm]
def YS.g9:(ckS st b5 b6 b7 b8 b9 b rc nn) b9=sO (.cells [.bool nn]):=by
 simp[ckS,ZIi]
def YS.gm(h:YS st b5 b6 b7 b8 b9){o}(i:st b=sO o):(ckS st b5 b6 b7 b8 b9 b rc nn) b=sO o:=by
 have t:b≠b5:=λe=>by rw[e,h.n5]at i;simp at i
 have u:b≠b6:=λe=>by rw[e,h.n6.2]at i;simp at i
 have z:b≠b7:=λe=>by rw[e,h.n7.2.2]at i;simp at i
 have j:b≠b8:=λe=>by rw[e,h.n8.2.2.2]at i;simp at i
 have n:b≠b9:=λe=>by rw[e,h.n9.2.2.2.2]at i;simp at i
 simp[ckS,ZIi,t,u,z,j,n,i]
def YS.s8(h:YS st b5 b6 b7 b8 b9)(rc'):(ckS st b5 b6 b7 b8 b9 b rc nn).upd b8 (.cells [.i rc'])=ckS st b5 b6 b7 b8 b9 b rc' nn:=by
 unfold ckS;rw[St.upd_comm h.n9.1.symm,ZH4]
def YS.s9(nn'):(ckS st b5 b6 b7 b8 b9 b rc nn).upd b9 (.cells [.bool nn'])=ckS st b5 b6 b7 b8 b9 b rc nn':=by
 unfold ckS;rw[ZH4]
def YS.sub(h:YS st b5 b6 b7 b8 b9):st.sub (ckS st b5 b6 b7 b8 b9 b rc nn):=λc o i=>by
 have n:c≠b5:=λe=>by rw[e,h.n5]at i;simp at i
 have t:c≠b6:=λe=>by rw[e,h.n6.2]at i;simp at i
 have z:c≠b7:=λe=>by rw[e,h.n7.2.2]at i;simp at i
 have j:c≠b8:=λe=>by rw[e,h.n8.2.2.2]at i;simp at i
 have u:c≠b9:=λe=>by rw[e,h.n9.2.2.2.2]at i;simp at i
 simp[ckS,ZIi,n,t,z,j,u,i]
end
def Zld{st t b5 b6 b7 b8 b9 b rc j nn i}(h:Yc (ckS st b5 b6 b7 b8 b9 b rc nn) t):Yc (ckS st b5 b6 b7 b8 b9 b j i) t:=λc o z=>by
 have:=h c o z;unfold ckS at this⊢;have u:=Zv this;have n:=Zv u.2;rw[ZHQ _ _ u.1,ZHQ _ _ n.1];exact n.2
def ZsL{st b5 b6 b7 b8 b9 b rc nn}(h:YS st b5 b6 b7 b8 b9){H L}(hρ:ZS H 8=sO (.d (.ptr b8 0)):=by rfl):
  YK H L (ckS st b5 b6 b7 b8 b9 b rc nn) [.cell1 8]=sO (True/\True,[.i rc]):=by
 simp[YK,Ks,hρ,Wx,Ye,h.g8]
def Zhq{α:Type}[Inhabited α]{p}{l:List α}(h:∀i,i<I l->p (l.getD i dE)=false):l.any p=false:=by
 apply List.any_eq_false.2;intro x n;obtain⟨i,j,rfl⟩:=ZH1 n;have:=h i j;simpa[ZHU,j]using this
def ZkT{s j}(h:ZI s=true)(z:j<I s.terms):(s.terms.getD j dE).field≠[]:=by
 unfold ZI at h;simp only[ZHN]at h;have u:=ZdU s.terms s.terms 0 rfl ω;simp only[List.take_zero,ZIf,Nat.zero_add]at u;rw[u]at h;have h2:((ZHT (I s.terms)).any λi=>dC ((s.terms.getD i dE).field∈(s.terms.take i).map (·.field))||!KY (s.terms.getD i dE))=false:=by simpa using h.2
 have t:=List.any_eq_false.1 h2 j (by simpa using z);simp only[ZH0,not_or,Bool.not_eq_true',Bool.not_eq_false]at t;have n:=t.2;intro e;rw[KY,e]at n;simp[Yt]at n
def Zo6(s b l st)(hb:st b=sO (.map (Zb4 l))):
  Ze ZHF 337 [.agg s.cells,.str [],.map b,.fn (.func 336) [] []] st (λr S=>r=.ret (.i (JH s (λk=>Zw k l)))/\S=st):=by
 refine Zh (cR 337 f337) λF hF=>?_;refine rx @eQ4 ?_;refine rx @eQ4 ?_;refine cl (ZaG s) ?_;refine cd (λhv=>?_) (λhv=>?_);have ad:ZI s=false:=by simpa using hv
 refine rg ?_;refine hF.ret _ st rfl φ (Zhl ?_) ZHH ⟨rfl,rfl⟩;rw[JH,if_pos ad];have ad:ZI s=true:=by simpa using hv
 refine rg ?_;refine Zd (Zd ?_);refine xP 5 λb5 h5=>?_;refine xP 6 λb6 h6=>?_;refine xP 7 λb7 h7=>?_;refine xP 8 λb8 h8=>?_;refine xP 9 λb9 h9=>?_;refine rx @eQ4 ?_;refine cV (Zci s ad) ?_ ?_
 .rintro d S ⟨x,hx,hd,rfl⟩;cases hd;refine gR0 ?_;refine Zb ?_;have n:YS st b5 b6 b7 b8 b9:=by have k6:=Zv h6;have k7:=Zv h7;have av:=Zv k7.2;have k8:=Zv h8;have ap:=Zv k8.2;have ax:=Zv ap.2;have k9:=Zv h9;have al:=Zv k9.2;have ao:=Zv al.2;have aw:=Zv ao.2;exact⟨h5,k6,⟨k7.1,av⟩,⟨k8.1,ap.1,ax⟩,⟨k9.1,al.1,ao.1,aw⟩⟩
  have hfew:=JD ad;rw[show(((((st.upd b5 (.cells [.str []])).upd b6 (.cells [.map b])).upd b7 (.cells [.fn (.func 336) [] []])).upd b8 (.cells [.i 0])).upd b9 (.cells [.bool false]))=ckS st b5 b6 b7 b8 b9 b 0 false from rfl]at hx⊢;refine KM hF rfl trivial [5,6,7,8,9] (by show([5,6,7,8,9]:List Nat).Nodup;decide) (WD hx) (Za4 s.terms (by unfold big;omega) x).Y (λj hj=>rfl)
   (λj=>if WK (λk=>Zw k l) (s.terms.getD j dE) then .stop .ret else .next)
   (λj a=>((∀i,i<j->WK (λk=>Zw k l) (s.terms.getD i dE)=false)/\a=ckS st b5 b6 b7 b8 b9 b 0 ((s.terms.take j).any (YP λk=>Zw k l)))\/((∃nn,a=ckS st b5 b6 b7 b8 b9 b 2 nn)/\∃i,i<j/\WK (λk=>Zw k l) (s.terms.getD i dE)=true))
   (.inl ⟨λi hi=>by omega,rfl⟩) ?_ ?_ ?_ ?_ ?_ ?_
  .intro j a hj ac hB F' ready busy hdr ar ab;have z:∀i,i<j->WK (λk=>Zw k l) (s.terms.getD i dE)=false:=λi hi=>by have:=ac i hi;split at this;simp at this;rename_i h;simpa using h
   rcases hB with ⟨_,rfl⟩|⟨_,i,hi,ag⟩
   .skip
    simp only[Eqs,reduceCtorEq,ZHK,reduceIte,ZHI,ZHM,ZHJ,WT,Kc,Jk,Kq,List.isEmpty_nil,List.isEmpty_cons];refine rg ?_;refine ar λak=>?_;have au:(s.terms.getD j dE).field≠[]:=ZkT ad hj;have ah:=Zh7 (p:=YP λk=>Zw k l) hj;generalize ai:s.terms.getD j dE=tm at *;have e1:=We (vD:=QN) ZX tm.field l;have e3:=Wr ZX tm.field;simp only[show Qa tm.field=D.str tm.field from rfl]at e1 e3;cases hg:Zw tm.field l with
    |none =>
     rw[hg]at e1;have t:WK (λk=>Zw k l) tm=false:=by simp[WK,hg]
     have ae:YP (λk=>Zw k l) tm=true:=by simp[YP,hg]
     rw[ae,Bool.or_true]at ah;rw[if_neg (by rw[t];simp)]at ab;refine rh ?_;refine Zn ?_;simp only[Eqs,reduceCtorEq,ZHK,reduceIte,ZHI,ZHM,ZHJ,Zu (n.g6 ),Zu (n.gm hb),e1,e3];refine rh ?_;refine Zn ?_;simp only[Eqs,reduceCtorEq,ZHK,reduceIte,ZHI,ZHM,ZHJ,Zu (n.g5 )];refine Zt rfl trivial (λh=>by simp at h;exact absurd h au) (λ_=>?_);refine rg ?_;refine i1 ?_;refine rh ?_;refine Zn ?_;simp only[Eqs,reduceCtorEq,ZHK,reduceIte,ZHI,ZHM,ZHJ,Zu (YS.g9 ),W7,YS.s9];refine Zf (Zf ?_);exact ab.fin ⟨rfl,.inl ⟨ZZ (q:=λi=>WK (λk=>Zw k l) (s.terms.getD i dE)=false) z (by rw[ai];exact t),by rw[ah]⟩⟩ (Zld ak) ZHH
    |some r =>
     rw[hg]at e1;have t:WK (λk=>Zw k l) tm=Jb r:=by simp[WK,hg]
     have ae:YP (λk=>Zw k l) tm=false:=by simp[YP,hg]
     rw[ae,Bool.or_false]at ah;refine rh ?_;refine Zn ?_;simp only[Eqs,reduceCtorEq,ZHK,reduceIte,ZHI,ZHM,ZHJ,Zu (n.g6 ),Zu (n.gm hb),e1,e3,QN];refine rh ?_;refine Zn ?_;simp only[Eqs,reduceCtorEq,ZHK,reduceIte,ZHI,ZHM,ZHJ,Zu (n.g5 )];refine Zt rfl trivial (λh=>by simp at h;exact absurd h au) (λ_=>?_);refine gI ?_;refine rh ?_;refine Zn ?_;simp only[Eqs,reduceCtorEq,ZHK,reduceIte,ZHI,ZHM,ZHJ,Zu (n.g7 )];refine cl (ZkG r) ?_;refine cd (λhr=>?_) (λhr=>?_);have af:Jb r=true:=by simpa using hr
     rw[if_pos (by rw[t];exact af)]at ab;refine rh ?_;refine Zn ?_;simp only[Eqs,reduceCtorEq,ZHK,reduceIte,ZHI,ZHM,ZHJ,Zu (n.g8 ),W7,n.s8];exact ab.ret ⟨rfl,.inr ⟨⟨_,rfl⟩,j,ω,by rw[ai,t];exact af⟩⟩ (Zld ak) ZHH;have af:Jb r=false:=by simpa using hr
     rw[if_neg (by rw[t,af];simp)]at ab;refine Zp (Zf (Zf ?_));exact ab.fin ⟨rfl,.inl ⟨ZZ (q:=λi=>WK (λk=>Zw k l) (s.terms.getD i dE)=false) z (by rw[ai,t];exact af),by rw[ah]⟩⟩ ak ZHH
   rw[z i hi]at ag;simp at ag
  intro q a ac hB hq;have z:∀i,i<I s.terms->WK (λk=>Zw k l) (s.terms.getD i dE)=false:=λi hi=>by have:=ac i hi;split at this;simp at this;rename_i h;simpa using h
  rcases hB with ⟨_,rfl⟩|⟨_,i,hi,ag⟩;rw[ZH2]at hq⊢;have aj:s.terms.any (WK λk=>Zw k l)=false:=Zhq z;have hI:=JH.eq_1 s λk=>Zw k l;rw[if_neg (by rw[ad];simp),if_neg (by rw[aj];simp)]at hI;rw[Qt hq];have am:=WD (o:=Jo.dfr) hq;generalize s.terms.any (YP λk=>Zw k l)=nn at *;refine rh ?_;refine Zn ?_;simp only[Eqs,reduceCtorEq,ZHK,reduceIte,ZHI,ZHM,ZHJ,Zu (YS.g9 )];refine cd (λhn=>?_) (λhn=>?_);rw[if_pos hn]at hI;refine rh ?_;refine Zn ?_;simp only[Eqs,reduceCtorEq,ZHK,reduceIte,ZHI,ZHM,ZHJ,Zu (n.g8 ),W7,n.s8];exact hF.ret1 (Zgk (Zld am) YE) (.i 9) st (ZsL n) ⟨trivial,trivial⟩ (ZHL _) n.sub ⟨by rw[hI],rfl⟩;rw[if_neg (by rw[hn];simp)]at hI;refine rh ?_;refine Zn ?_;simp only[Eqs,reduceCtorEq,ZHK,reduceIte,ZHI,ZHM,ZHJ,Zu (n.g8 ),W7,n.s8];exact hF.ret1 (Zgk (Zld am) YE) (.i 0) st (ZsL n) ⟨trivial,trivial⟩ (ZHL _) n.sub ⟨by rw[hI],rfl⟩;rw[z i hi]at ag;simp at ag;intro q a m hm ac u hB hq;have z:∀i,i<m->WK (λk=>Zw k l) (s.terms.getD i dE)=false:=λi hi=>by have:=ac i hi;split at this;simp at this;rename_i h;simpa using h
  have t:WK (λk=>Zw k l) (s.terms.getD m dE)=true:=by split at u;rename_i h;exact h;simp at u
  rcases hB with ⟨aq,_⟩|⟨⟨nn,rfl⟩,_⟩;rw[aq m ω]at t;simp at t;have aj:s.terms.any (WK λk=>Zw k l)=true:=Zsx hm t;have hI:=JH.eq_1 s λk=>Zw k l;rw[if_neg (by rw[ad];simp),if_pos aj]at hI;rw[Qt hq];exact hF.ret1 hq (.i 2) st (ZsL n) ⟨trivial,trivial⟩ (ZHL _) n.sub ⟨by rw[hI],rfl⟩;intro q a m id hm ac u;split at u<;>simp at u;intro q a m d hm ac u;split at u<;>simp at u;intro m c u;split at u<;>simp at u;exact .inl u.symm
 rintro d S ⟨x,hx,hd,rfl⟩;cases hd
def Qb(v:Yn->Int):List Yn->Int
 | []=>0
 |t::r=>t.factor*v t+Qb v r
def Zri{v}{l:List Yn}{i}(h:i<I l):Qb v (l.take (i+1))=Qb v (l.take i)+(l.getD i dE).factor*v (l.getD i dE):=by
 rw[Z3 h];generalize l.getD i dE=x;induction l.take i with
 |nil=>simp[Qb]
 |cons y r ih=>simp only[List.cons_append,Qb,ih];omega
def ZjV{a b}(j:-1048576<=a/\a<=1048576)(i:0<=b/\b<34359738368):-36028797018963968<=a*b/\a*b<=36028797018963968:=by
 have h1:a*b<=1048576*b:=Int.mul_le_mul_of_nonneg_right j.2 i.1;have h2:-1048576*b<=a*b:=Int.mul_le_mul_of_nonneg_right j.1 i.1;omega
def ZiW{v l}(h:∀t∈l,(-1048576<=t.factor/\t.factor<=1048576)/\0<=v t/\v t<34359738368):-36028797018963968*(I l:Int)<=Qb v l/\Qb v l<=36028797018963968*(I l:Int):=by
 induction l with
 |nil=>simp[Qb]
 |cons t r ih =>have h1:=ih λx i=>h x (by simp[i]);have h2:=ZjV (h t ψ).1 (h t ψ).2;simp only[Qb,ZHW];generalize t.factor*v t=y at *;omega
def Za7{s}(h:ZI s=true):(-1048576<=s.base/\s.base<=1048576)/\∀t∈s.terms,-1048576<=t.factor/\t.factor<=1048576:=by
 unfold ZI at h;simp only[ZHN]at h;refine⟨by have:=h.1.1;simpa[Jd]using this,λt ht=>?_⟩;have z:=ZdU s.terms s.terms 0 rfl ω;simp only[List.take_zero,ZIf,Nat.zero_add]at z;rw[z]at h;have h2:((ZHT (I s.terms)).any λi=>dC ((s.terms.getD i dE).field∈(s.terms.take i).map (·.field))||!KY (s.terms.getD i dE))=false:=by simpa using h.2
 obtain⟨j,hj,rfl⟩:=ZH1 ht;have u:=List.any_eq_false.1 h2 j (by simpa using hj);simp only[ZH0,not_or,Bool.not_eq_true',Bool.not_eq_false]at u;have n:=u.2;unfold KY at n;simp only[ZHN]at n;have h5:=n.2;simpa[Jd,ZHU,hj]using h5
def ZdQ(s)(hv:ZI s=true)(f v st)(hb:∀t∈s.terms,0<=v t/\v t<34359738368)(hf:∀t∈s.terms,VT ZHF f [.agg t.cells] st (.i (v t)) st):
  ZU ZHF 112 [.agg s.cells,f] st (.i (s.base+Qb v s.terms)) st:=by
 refine ZK (cR 112 f112) λaf F ac=>?_;clear af;have hfew:=JD hv;have ab:=Za7 hv;refine rx (nd2 @eQ4 (nd2 @eQ6 @eQ1)) ?_;refine rx @eQ4 ?_;refine rx (nd2 @eQ4 (nd2 @eQ6 @eQ1)) ?_;refine Zb (fr (I s.terms) (λj Q=>j<=I s.terms->Q [(1,.d f),(5,.d (.i (s.base+Qb v (s.terms.take j)))),(11,.d (Yd s.terms)),(12,.d (.i (I s.terms))),(13,.d (.i j))] [] st) (λn z=>?_) λae=>?_);intro j hn hj;refine rg ?_;refine Zd (Zt rfl trivial (λh1=>?_) (λh1=>?_));simp at h1;have i:=Zm h1;have ag:=Zri (v:=v) h1;have ah:=ZiW (v:=v) (l:=s.terms.take j) λt ht=>⟨ab.2 t (List.mem_of_mem_take ht),hb t (List.mem_of_mem_take ht)⟩;rw[ZHZ]at ah;generalize ad:s.terms.getD j dE=tm at *;have hmb:=ZjV (ab.2 tm i) (hb tm i);refine xA (nd2 @eQ8 (nd2 @eQ6 (nd2 @eQ1 @ad))) ?_;refine rx @eQ8 ?_;refine cWD (hf tm i) ?_;generalize hmv:tm.factor*v tm=mv at *;refine aa ?_;refine gA ?_;refine Za ?_;have u:=z ((I s.terms)-(j+1)) ω (j+1) rfl ω;rw[ag,<-Int.add_assoc]at u;exact u;simp at h1;obtain rfl:j=I s.terms:=ω;rw[ZH2];refine rg ?_;exact ac rfl φ (ZHL _) ZHH;have hk:=ae _ 0 rfl ω;rw[List.take_zero,show Qb v []=0 from rfl,Int.add_zero]at hk;exact hk
def ZeI(look:Zbb)(least:Bool)(t:Yn):Int:=if least=dC (0<t.factor) then (Jt look t).1 else (Jt look t).2
def ZBW(look l):Qb (ZeI look true) l=loS look l:=by
 induction l with
 |nil=>rfl
 |cons t r ih =>simp only[Qb,loS,ih,loT,ZeI];by_cases h:0<t.factor<;>simp[h]
def ZBV(look l):Qb (ZeI look false) l=hiS look l:=by
 induction l with
 |nil=>rfl
 |cons t r ih =>simp only[Qb,hiS,ih,hiT,ZeI];by_cases h:0<t.factor<;>simp[h]
def Zq1(o:Option (Int×Int)):Wy (.agg [.i 0,.i 0]) false (o.map QN)=.agg [.i (o.getD (0,0)).1,.i (o.getD (0,0)).2]:=by cases o<;>rfl
def ZiK(t l least b x y){st}(hb:st b=sO (.map (Zb4 l)))(hx:st x=sO (.cells [.map b]))(hy:st y=sO (.cells [.bool least])):
  ZU ZHF 339 [.agg t.cells,.ptr x 0,.ptr y 0] st (.i (ZeI (λk=>Zw k l) least t)) st:=by
 refine ZK (cR 339 f339) λj F i=>?_;clear j;have n:=We (vD:=QN) ZX t.field l;have z:=Wr ZX t.field;simp only[show Qa t.field=D.str t.field from rfl]at n z;refine rx @eQ8 ?_;refine rh ?_;refine Zn ?_;simp only[Eqs,reduceCtorEq,ZHK,reduceIte,ZHI,ZHM,ZHJ,hx,hb,n,z,Zq1];refine rx @hy ?_;refine cd (λu=>?_) (λu=>?_);refine rg ?_;refine i rfl φ (Zhl ?_) ZHH;unfold ZeI Jt;rw[if_pos (by simpa using u)];refine rh ?_;refine Zn ?_;simp only[Eqs,reduceCtorEq,ZHK,reduceIte,ZHI,ZHM,ZHJ,hx,hb,n,z,Zq1];refine i rfl φ (Zhl ?_) ZHH;unfold ZeI Jt;rw[if_neg (by simpa using u)]
def Zz1{s look}(h:JH s look=0):ZI s=true/\∀t∈s.terms,∀i,0<=ZeI look i t/\ZeI look i t<34359738368:=by
 unfold JH at h;split at h;· omega
 rename_i hv;split at h;· omega
 rename_i hb;refine⟨by simpa using hv,λt n i=>?_⟩;have j:WK look t=false:=by
  cases z:WK look t with
  |false=>rfl
  |true=>exact absurd (List.any_eq_true.2 ⟨t,n,z⟩) hb
 unfold WK at j;unfold ZeI Jt;cases u:look t.field with
 |none=>simp
 |some r =>rw[u]at j;simp only[Jb,Bool.or_eq_false_iff,decide_eq_false_iff_not]at j;simp only[ZIk];split<;>omega
def ZeA(s l least b x y){st}(he:JH s (λk=>Zw k l)=0)(hb:st b=sO (.map (Zb4 l)))(hx:st x=sO (.cells s.cells))(hy:st y=sO (.cells [.map b])):
  ZU ZHF 338 [.bool least,.ptr x 0,.ptr y 0] st (.i (s.base+Qb (ZeI (λk=>Zw k l) least) s.terms)) st:=by
 refine ZK (cR 338 f338) λab F j=>?_;clear ab;have i:=Zz1 he;refine rg ?_;refine Zd ?_;refine xP 3 λz hz=>?_;have n:b≠z:=λe=>by rw[e,hz]at hb;simp at hb
 have u:x≠z:=λe=>by rw[e,hz]at hx;simp at hx
 have ad:y≠z:=λe=>by rw[e,hz]at hy;simp at hy
 have ac:(st.upd z (.cells [.bool least])) x=sO (.cells s.cells):=by rw[ZHQ _ _ u];exact hx
 refine rx (nd2 @ac @eQ4) ?_;refine JS rfl rfl rfl rfl rfl φ φ (by exact ZdQ s i.1 _ (ZeI (λk=>Zw k l) least) _ (λt ht=>i.2 t ht least) (λt ht=>(ZiK t l least b y z (by rw[ZHQ _ _ n];exact hb) (by rw[ZHQ _ _ ad];exact hy) (ZHP _ _ _)).VT (first:=[]) (args:=[_]) (caps:=[_,_]))) (Zn ?_);simp only[Eqs,reduceCtorEq,ZHK,reduceIte,ZHI,ZHM,ZHJ];exact j rfl φ (ZHL _) (ZH6 _ hz)
def Znf(s b l){st}(hb:st b=sO (.map (Zb4 l))):
  Ze ZHF 332 [.agg s.cells,.map b] st (λr S=>r=.ret (.tup [QN ((YV s λk=>Zw k l).1,(YV s λk=>Zw k l).2.1),.i (YV s λk=>Zw k l).2.2])/\S=st):=by
 refine Zh (cR 332 f332) λF hF=>?_;have hI:=YV.eq_1 s λk=>Zw k l;refine rx @eQ4 ?_;refine rg ?_;refine rx @eQ4 ?_;refine cV (Zo6 s b l st hb) ?_ ?_;rintro d S ⟨hd,rfl⟩;cases hd;refine gR0 ?_;refine rg ?_;refine cd (λh1=>?_) (λh1=>?_);have i:¬JH s (λk=>Zw k l)=0:=by simpa using h1
 rw[if_neg i]at hI;refine rg ?_;refine hF.ret _ S rfl φ (K4 ?_ rfl) ZHH ⟨rfl,rfl⟩;rw[hI];rfl;have i:JH s (λk=>Zw k l)=0:=by simpa using h1
 rw[if_pos i]at hI;refine Zp (Zd ?_);refine xP 2 λx hx=>?_;refine xP 3 λy hy=>?_;have z:b≠x:=λe=>by rw[e,hx]at hb;simp at hb
 have j:=Zv hy;have u:b≠y:=λe=>by rw[e,j.2]at hb;simp at hb
 have t:((S.upd x (.cells s.cells)).upd y (.cells [.map b])) b=sO (.map (Zb4 l)):=by rw[ZHQ _ _ u,ZHQ _ _ z];exact hb
 have n:((S.upd x (.cells s.cells)).upd y (.cells [.map b])) x=sO (.cells s.cells):=by rw[ZHQ _ _ j.1.symm];exact ZHP _ _ _
 refine gG ?_;refine cW ((ZeA s l true b x y i t n (ZHP _ _ _)).VT (first:=[]) (args:=[_]) (caps:=[_,_])) ?_;refine cW ((ZeA s l false b x y i t n (ZHP _ _ _)).VT (first:=[]) (args:=[_]) (caps:=[_,_])) ?_;refine hF.ret _ S rfl (by first|trivial|simp) (K4 ?_ rfl) (ZIn (ZH6 _ hx) (ZH6 _ hy)) ⟨rfl,rfl⟩;rw[hI,ZBW,ZBV];rfl;rintro d S ⟨hd,_⟩;cases hd
def Zlo(o:Option Int):Wy (.i 0) false (o.map KL)=.i (o.getD 0):=by cases o<;>rfl
abbrev JZ(l:List (Str×Int)):List (D×D):=Qv Qa KL l
def inC(n:Int):List D:=[.i n]
def ZzZ(f):Yj f=(dC (f.kind=1) ||decide (f.kind=2) ||decide (f.kind=3)):=by
 unfold Yj;rw[Bool.eq_iff_iff];simp only[ZHN,ZH0,decide_eq_true_eq];omega
def Zcu(f):Zc ZHF 56 [.agg f.cells] (.bool (Yj f)):=by
 refine Zg (cR 56 f56) λF st i=>?_;refine rx @eQ0 ?_;refine rx @eQ0 ?_;refine rb i ?_;exact(ZzZ f).symm
def Zkd(f:Fld):(Int×Int)×Int:=if Yj f then (Y8 f,0) else ((0,0),2)
def ZoP(f):Zc ZHF 335 [.agg f.cells] (.tup [QN (Zkd f).1,.i (Zkd f).2]):=by
 refine Zg (cR 335 f335) λF st i=>?_;have j:=Zkd.eq_1 f;refine rx @eQ0 ?_;refine rx @eQ0 ?_;refine cl (Zcu f) ?_;refine cd (λt=>?_) (λt=>?_);rw[if_neg (by simpa using t)]at j;refine rg ?_;refine i rfl (by first|trivial|simp) (K4 ?_ rfl) ZHH;rw[j];rfl;rw[if_pos (by simpa using t)]at j;refine rx @eQ0 ?_;refine cd (λn=>?_) (λn=>?_);refine rx @eQ0 ?_;refine i rfl (by first|trivial|simp) (K4 ?_ rfl) ZHH;rw[j,Y8,if_pos (by simpa using n)];rfl;refine rx @eQ0 ?_;refine i rfl (by first|trivial|simp) (K4 ?_ rfl) ZHH;rw[j,Y8,if_neg (by simpa using n)];rfl
def Zai(fs:List Fld):Nat->Zzp
 |0=>[]
 |i+1=>if Yj (fs.getD i dE) then WH (fs.getD i dE).name (Y8 (fs.getD i dE)) (Zai fs i) else Zai fs i
def ZfV(fs st):Ze ZHF 331 [Zk fs] st λr S=>∃b,st b=nO/\r=.ret (.map b)/\S=st.upd b (.map (Zb4 (Zai fs (I fs)))):=by
 refine ZaH (cR 331 f331) λz F hF=>?_;have hw:=(ZjH (z (Zk fs) ψ)).1;unfold big at hw;clear z;refine gG ?_;intro b hb;refine rx (nd2 @eQ5 @eQ1) ?_;refine Zb (fr (I fs) (λi Q=>i<=I fs->Q [(3,.d (.map b)),(9,.d (Zk fs)),(10,.d (.i (I fs))),(11,.d (.i i))] [] (st.upd b (.map (Zb4 (Zai fs i))))) (λn j=>?_) λab=>?_)
 .intro i hn hi;refine rg ?_;refine Zd (Zt rfl trivial (λh1=>?_) (λh1=>?_))
  .simp at h1;have u:Zai fs (i+1)=if Yj (fs.getD i dE) then WH (fs.getD i dE).name (Y8 (fs.getD i dE)) (Zai fs i) else Zai fs i:=rfl
   generalize hf:fs.getD i dE=f at *;have hP:=Zkd.eq_1 f;refine xA (nd2 @eQ5 (nd2 @eQ1 (nd2 @eQ0 @hf))) ?_;refine rx @eQ0 ?_;refine cX @QN.eq_1 (ZoP f) ?_;refine rg ?_;refine cd (λh2=>?_) (λh2=>?_)
   .have t:Yj f=true:=by
     cases hx:Yj f with
     |true=>rfl
     |false=>rw[hP,hx]at h2;simp at h2
    rw[if_pos t]at hP u;have e2:=ZcM (vD:=QN) ZX f.name (Y8 f) (Zai fs i);have e3:=Wr ZX f.name;simp only[show Qa f.name=D.str f.name from rfl,show QN (Y8 f)=D.agg [.i (Y8 f).1,.i (Y8 f).2] from rfl]at e2 e3;have ac:(Zkd f).1=Y8 f:=by rw[hP]
    refine rx (nd2 @eQ0 (nd2 @ac (nd2 @e2 (nd2 @e3 (nd2 @ZHP (nd2 @ZH4 (nd2 @YF @YG))))))) ?_;refine gA ?_;rw[<-u];refine Za ?_;exact j ((I fs)-(i+1)) ω (i+1) rfl ω
   have t:Yj f=false:=by
    cases hx:Yj f with
    |true=>rw[hP,hx]at h2;simp at h2
    |false=>rfl
   rw[if_neg (by rw[t];simp)]at u;refine gA ?_;rw[<-u];refine Za ?_;exact j ((I fs)-(i+1)) ω (i+1) rfl ω
  simp at h1;obtain rfl:i=I fs:=ω;refine rg ?_;exact hF.ret _ _ rfl φ (ZHL _) ZHH ⟨b,hb,rfl,rfl⟩
 exact ab _ 0 rfl ω
def Zgc(l f p)(t:Nat->St)(u:∀i,i<I l->VT ZHF f [.agg (l.getD i dE).cells] (t i) (.bool (p (l.getD i dE))) (t (i+1))):
  ZU ZHF 101 [slD 2 Msg.cells l,f] (t 0) (.tup [.i (max (Zi p l) 0),.bool (dC (0<=Zi p l))]) (t (QD p l)):=by
 refine ZK (cR 101 f101) λn F j=>?_;clear n;refine gG ?_;refine ct (ZeC l f p t u) ?_;refine rg ?_;exact j rfl φ (K4 rfl rfl) ZHH
def ZhO(l f p)(t:Nat->St)(u:∀i,i<I l->VT ZHF f [.agg (l.getD i dE).cells] (t i) (.bool (p (l.getD i dE))) (t (i+1))):
  ZU ZHF 239 [slD 15 Fld.cells l,f] (t 0) (.tup [.i (max (Zi p l) 0),.bool (dC (0<=Zi p l))]) (t (QD p l)):=by
 refine ZK (cR 239 f239) λn F j=>?_;clear n;refine gG ?_;refine ct (QW l f p t u) ?_;refine rg ?_;exact j rfl φ (K4 rfl rfl) ZHH
def ZiJ(l f p)(t:Nat->St)(u:∀i,i<I l->VT ZHF f [.agg (l.getD i dE).cells] (t i) (.bool (p (l.getD i dE))) (t (i+1))):
  ZU ZHF 114 [slD 3 Yw.cells l,f] (t 0) (.tup [.i (max (Zi p l) 0),.bool (dC (0<=Zi p l))]) (t (QD p l)):=by
 refine ZK (cR 114 f114) λn F j=>?_;clear n;refine gG ?_;refine ct (Zbw l f p t u) ?_;refine rg ?_;exact j rfl φ (K4 rfl rfl) ZHH
def Zna{x:Msg}(s b){st}(n:st b=sO (.cells [.str s])):ZU ZHF 102 [.agg x.cells,.ptr b 0] st (.bool (dC (x.name=s))) st:=by
 refine ZK (cR 102 f102) λj F i=>?_;clear j;refine rx @eQ3 ?_;refine rx @n ?_;exact i rfl φ (ZHL _) ZHH
def ZlL{x:Fld}(s b){st}(n:st b=sO (.cells [.str s])):ZU ZHF 240 [.agg x.cells,.ptr b 0] st (.bool (dC (x.name=s))) st:=by
 refine ZK (cR 240 f240) λj F i=>?_;clear j;refine rx @eQ0 ?_;refine rx @n ?_;exact i rfl φ (ZHL _) ZHH
def ZhM(d:Dfn)(s):Zc ZHF 49 [.agg d.cells,.str s] (.tup [.i (max (Zi (λx=>dC (x.name=s)) d.msgs) 0),.bool (dC (0<=Zi (λx=>dC (x.name=s)) d.msgs))]):=by
 refine Zg (cR 49 f49) λF st j=>?_;refine rx @eQ2 ?_;refine Zd ?_;refine xP 3 λb n=>?_;refine rx @eQ2 ?_;refine ct (Zgc d.msgs (.fn (.func 102) [] [.ptr b 0]) (λx=>dC (x.name=s)) (λ_=>st.upd b (.cells [.str s])) (λi hi=>(Zna s b (ZHP _ _ _)).VT (first:=[]) (args:=[_]) (caps:=[_]))) ?_;exact j rfl φ (K4 rfl rfl) (ZH6 _ n)
def Zdg(d:Msg)(s):Zc ZHF 193 [.agg d.cells,.str s] (.tup [.i (max (Zi (λx=>dC (x.name=s)) d.fields) 0),.bool (dC (0<=Zi (λx=>dC (x.name=s)) d.fields))]):=by
 refine Zg (cR 193 f193) λF st j=>?_;refine rx @eQ3 ?_;refine Zd ?_;refine xP 3 λb n=>?_;refine rx @eQ3 ?_;refine ct (ZhO d.fields (.fn (.func 240) [] [.ptr b 0]) (λx=>dC (x.name=s)) (λ_=>st.upd b (.cells [.str s])) (λi hi=>(ZlL s b (ZHP _ _ _)).VT (first:=[]) (args:=[_]) (caps:=[_]))) ?_;exact j rfl φ (K4 rfl rfl) (ZH6 _ n)
def Zm9{c:Yw}(tag b){st}(n:st b=sO (.cells [.i tag])):ZU ZHF 115 [.agg c.cells,.ptr b 0] st (.bool (dC (c.low<=tag)&&dC (tag<=c.high))) st:=by
 refine ZK (cR 115 f115) λj F i=>?_;clear j;refine rx @eQ9 ?_;refine rx @n ?_;exact i rfl φ (ZHL _) ZHH
def ZhL(f tag):Zc ZHF 61 [.agg f.cells,.i tag] (.tup [.i (max (KJ f tag) 0),.bool (dC (0<=KJ f tag))]):=by
 refine Zg (cR 61 f61) λF st j=>?_;refine rx @eQ0 ?_;refine Zd ?_;refine xP 3 λb n=>?_;refine rx @eQ0 ?_;refine ct (ZiJ f.cases (.fn (.func 115) [] [.ptr b 0]) (λc=>dC (c.low<=tag)&&dC (tag<=c.high)) (λ_=>st.upd b (.cells [.i tag])) (λi hi=>(Zm9 tag b (ZHP _ _ _)).VT (first:=[]) (args:=[_]) (caps:=[_]))) ?_;exact j rfl φ (K4 rfl rfl) (ZH6 _ n)
def ZAM:Option (Int×Int×Int)->List D
 |none=>[.i 0,.i 0,.i 0]
 |some (a,b,c)=>[.i a,.i b,.i c]
def ZAN(o:Option (Int×Int×Int)):D:=.tup [.agg (ZAM o),.bool o.isSome]
def Js(l:List Int):List D:=l.map (.int .i64)
def ZgQ(l):(Js l).length=I l:=by simp[Js]
def Zie{l i}(h:i<I l):(Js l)[i]?=sO (.i (l.getD i dE)):=by
 simp[Js,ZHU,ZIb h]
def Zwo(n):K2 [.i 0] n=Js (List.replicate n 0):=by
 unfold K2 Js;induction n with
 |zero=>rfl
 |succ n ih=>rw[List.replicate_succ,List.flatten_cons,ih,List.replicate_succ];rfl
def ZzH{l i v}(h:i<I l):Zq (Js l) i [.i v]=Js (l.set i v):=by
 unfold Zq Js;rw[List.map_set,List.set_eq_take_append_cons_drop,if_pos (by simpa using h)];simp
def ZsY{l i v}(h:i<I l):List.take i (Js l)++[.i v]++List.drop (i+1) (Js l)=Js (l.set i v):=ZzH h
def ZrB{l r:List Int}{i}(h:i<I l):(l++r).getD i dE=l.getD i dE:=by
 simp[ZHU,ZIc h]
def ZgU{l r}{i:Nat}{v:Int}(h:I l=i):(l++v::r).getD i dE=v:=by
 subst h;simp[ZHU]
def ZoS{l r}{i:Nat}{v w:Int}(h:I l=i):(l++v::r).set i w=l++w::r:=by
 subst h;simp[List.set_append]
def ZsZ{d at_ deps}(i:∀x∈deps,0<=x/\x<=16)(l){b}(j:0<=b)(n:b<=16):0<=Zbi d at_ deps b l/\Zbi d at_ deps b l<=16:=by
 induction l generalizing b with
 |nil=>exact⟨j,n⟩
 |cons s r ih =>
  have:0<=deps.getD (Zr d s at_).toNat dE/\deps.getD (Zr d s at_).toNat dE<=16:=by by_cases h:(Zr d s at_).toNat<I deps;exact i _ (Zm h);rw[ZHU,ZIr ω];decide
  exact ih (b:=max b (deps.getD (Zr d s at_).toNat dE)) ω ω
def Zuy{d at_ deps b}{l:List Str}{q}(h:q<I l):
  Zbi d at_ deps b (l.take (q+1))=max (Zbi d at_ deps b (l.take q)) (deps.getD (Zr d (l.getD q dE) at_).toNat dE):=by
 rw[Z3 h,Zbi,List.foldl_append];rfl
def ZtR(d):Zc ZHF 118 [.agg d.cells] (ZAN (ZbV d)):=by
 refine ZJ (cR 118 f118) λap F st ab=>?_;have hw:=(Zhu (s:=d) (ap _ ψ)).nmsgs;have a9:=(Zhu (s:=d) (ap _ ψ)).msgs;unfold big at hw;clear ap;have hS:=ZbV.eq_1 d;refine rx @eQ2 ?_;refine rx @eQ2 ?_;refine cl (Zb3 d.name) ?_;refine cd (λh=>?_) (λh=>?_);rw[if_pos (by simpa using h)]at hS;refine rg ?_;refine rt ab ?_;rw[hS];rfl;rw[if_neg (by simpa using h)]at hS;refine rx (nd2 @eQ2 (nd2 @eQ7 @eQ1)) ?_;refine cd (λh2=>?_) (λh2=>?_);have ac:(dC (I d.msgs<1) ||decide (60<I d.msgs))=true:=by rw[ZH0,decide_eq_true_eq,decide_eq_true_eq]at h2⊢;omega
 rw[if_pos ac]at hS;refine rg ?_;refine rt ab ?_;rw[hS];rfl;rw[Bool.or_eq_false_iff,decide_eq_false_iff_not,decide_eq_false_iff_not]at h2;have ac:¬(dC (I d.msgs<1) ||decide (60<I d.msgs))=true:=by rw[ZH0,decide_eq_true_eq,decide_eq_true_eq];omega
 rw[if_neg ac]at hS;refine rx (nd2 @eQ2 (nd2 @eQ7 @eQ1)) ?_;refine⟨ω,ω,ω,by unfold big;omega,λb hb=>?_⟩;simp only[Zwo];refine rg ?_;refine Zb (fr (I d.msgs) (λa Q=>∀deps:List Int,I deps=a->a<=I d.msgs->ZbV d=Qh d a (d.msgs.drop a) deps->(∀x∈deps,0<=x/\x<=16)->(∀j,j<a->Zla d j)->Q [(1,.loc 1 0),(2,.loc 2 0),(4,.d (.msl b 0 (I d.msgs) (I d.msgs) 1)),(5,.d (.i a))] [(1,d.cells),(2,[.i 0,.i 0,.i 0])] (st.upd b (.cells (Js (deps++List.replicate (I d.msgs-a) 0))))) (λn ai=>?_) λa4=>?_);intro a hn deps ad ha t aw ax;refine rx (nd2 @eQ2 (nd2 @eQ7 @eQ1)) ?_;refine cd (λh3=>?_) (λh3=>?_);simp at h3;have ao:d.msgs.drop a=d.msgs.getD a dE::d.msgs.drop (a+1):=Ww h3;have a8:=(a9 _ (Zm h3)).nfields;unfold big at a8;have hF:=WS.eq_1 d a (d.msgs.getD a dE);rw[ao,Qh]at t;generalize hm:d.msgs.getD a dE=m at *;refine xA (nd2 @eQ2 (nd2 @eQ3 (nd2 @eQ7 (nd2 @eQ1 @hm)))) ?_;refine rx @eQ3 ?_;refine cl (Zb3 m.name) ?_;refine cd (λh4=>?_) (λh4=>?_);rw[if_pos (by simpa using h4)]at hF;rw[hF]at t;refine rg ?_;refine rt ab ?_;rw[t];rfl;rw[if_neg (by simpa using h4)]at hF;refine rx (nd2 @eQ2 @eQ3) ?_;have c9:=Wi d m.name a ω;refine cl (c9) ?_;refine cd (λh5=>?_) (λh5=>?_);rw[if_pos (by simpa using h5)]at hF;rw[hF]at t;refine rg ?_;refine rt ab ?_;rw[t];rfl;rw[if_neg (by simpa using h5)]at hF;refine rx (nd2 @eQ3 (nd2 @eQ5 @eQ1)) ?_;refine cd (λh6=>?_) (λh6=>?_);have ac:(dC (I m.fields<1) ||decide (40<I m.fields))=true:=by rw[ZH0,decide_eq_true_eq,decide_eq_true_eq]at h6⊢;omega
 rw[if_pos ac]at hF;rw[hF]at t;refine rg ?_;refine rt ab ?_;rw[t];rfl;rw[Bool.or_eq_false_iff,decide_eq_false_iff_not,decide_eq_false_iff_not]at h6;have ac:¬(dC (I m.fields<1) ||decide (40<I m.fields))=true:=by rw[ZH0,decide_eq_true_eq,decide_eq_true_eq];omega
 rw[if_neg ac]at hF;refine rx (nd2 @eQ3 (nd2 @eQ5 @eQ1)) ?_;refine Zb (fr (I m.fields) (λi Q=>i<=I m.fields->WS d a m=YD d a m i (m.fields.drop i)->Q [(1,.loc 1 0),(2,.loc 2 0),(4,.d (.msl b 0 (I d.msgs) (I d.msgs) 1)),(5,.d (.i a)),(6,.loc 6 0),(7,.d (.i i))] [(1,d.cells),(2,[.i 0,.i 0,.i 0]),(6,m.cells)] (st.upd b (.cells (Js (deps++List.replicate (I d.msgs-a) 0))))) (λn ae=>?_) λa3=>?_);intro i hni hi hF;refine rx (nd2 @eQ3 (nd2 @eQ5 @eQ1)) ?_;refine cd (λh7=>?_) (λh7=>?_);simp at h7;rw[Ww h7,YD]at hF;refine rx (nd2 @eQ2 (nd2 @eQ3 (nd2 @eQ7 (nd2 @eQ5 @eQ1)))) ?_;have c9:=ZtT d a i m (m.fields.getD i dE) h3 hm h7 rfl ω ax;refine cl (c9) ?_;generalize hc:WX d a m i (m.fields.getD i dE)=c at *;refine rg ?_;refine cd (λh8=>?_) (λh8=>?_);simp only[decide_not,Bool.not_eq_true',decide_eq_false_iff_not]at h8;rw[if_neg h8]at hF;rw[hF]at t;refine rg ?_;refine rt ab ?_;rw[t];rfl;simp only[decide_not,Bool.not_eq_false',decide_eq_true_eq]at h8;rw[if_pos h8]at hF;refine gA ?_;refine Za ?_;exact ae ((I m.fields)-(i+1)) ω (i+1) rfl ω hF;simp at h7;obtain rfl:i=I m.fields:=ω;rw[List.drop_length,YD]at hF;have am:=Zt4 hm hF;have ak:=am.ref;have al:=am.few;rw[hm]at ak al;rw[hF]at t;simp only at t;have aq:∀j,j<a+1->Zla d j:=λj hj=>by rcases Nat.lt_or_eq_of_le (Nat.le_of_lt_succ hj) with h|rfl;exact ax j h;exact am
 have a0:=QL (m.fields.flatMap Z7) [];rw[show(m.fields.flatMap Z7).foldl Jq []=Wd m from rfl]at a0;simp only[List.length_nil,Nat.zero_add]at a0;refine rx @eQ3 ?_;refine cl (Zi4 m al) ?_;have hD:Zel d a deps m=Zbi d a deps 0 (Wd m)+1:=rfl;generalize hrs:Wd m=rs at *;have ar:List.replicate (I d.msgs-a) (0:Int)=0::List.replicate (I d.msgs-(a+1)) 0:=by rw[show (I d.msgs)-a=(I d.msgs-(a+1))+1 by omega,List.replicate_succ]
 rw[ar];generalize hz:List.replicate (I d.msgs-(a+1)) (0:Int)=z;have hzl:I z=I d.msgs-(a+1):=by rw[<-hz,List.length_replicate]
 refine rg ?_;refine Zb ?_;refine fr (I rs) (λq Q=>q<=I rs->Q [(1,.loc 1 0),(2,.loc 2 0),(4,.d (.msl b 0 (I d.msgs) (I d.msgs) 1)),(5,.d (.i a)),(9,.d (WM rs)),(10,.d (.i q))] [(1,d.cells),(2,[.i 0,.i 0,.i 0])] (st.upd b (.cells (Js (deps++Zbi d a deps 0 (rs.take q)::z))))) (λn af=>?_) λav=>?_;intro q hnq hq;refine rx (nd2 @WM.eq_1 @eQ1) ?_;refine cd (λh9=>?_) (λh9=>?_);simp at h9;have bc:=ak _ (Zm h9);have a6:Zr d (rs.getD q dE) a<a:=by have:=Ys (λm:Msg=>dC (m.name=rs.getD q dE)) (d.msgs.take a);rw[ZHZ]at this;unfold Zr;omega
 have a5:=Zuy (d:=d) (at_:=a) (deps:=deps) (b:=0) h9;generalize Zbi d a deps 0 (rs.take q)=X at *;have ah:(Js (deps++X::z))[a]?=sO (.i X):=by rw[Zie (by simp;omega),ZgU ad]
 have aj:(Js (deps++X::z)).length=I d.msgs:=by rw[ZgQ];simp;omega
 have a7:(Zr d (rs.getD q dE) a).toNat<I deps:=by rw[ad];generalize Zr d (rs.getD q dE) a=u at bc a6⊢;omega
 have ba:(Js (deps++X::z))[(Zr d (rs.getD q dE) a).toNat]?=sO (.i (deps.getD (Zr d (rs.getD q dE) a).toNat dE)):=by rw[Zie (by rw[ZHO];omega),ZrB a7]
 refine xA (nd2 @eQ2 (nd2 @eQ7 (nd2 @WM.eq_1 (nd2 @eQ1 (nd2 @ah (nd2 @aj (nd2 @ZHP (nd2 @ZH4 @Nat.mul_one)))))))) ?_;have c9:=Wi d (rs.getD q dE) a ω;refine cXD (nd2 @ba (nd2 @aj (nd2 @ah (nd2 @ZHP (nd2 @ZH4 @Nat.mul_one))))) (c9) ?_;refine aa ?_;rw[ZsY (by rw[ZHO,ZHW];omega),ZoS ad,<-a5];refine gA ?_;refine Za ?_;exact af ((I rs)-(q+1)) ω (q+1) rfl ω;simp at h9;obtain rfl:q=I rs:=ω;rw[ZH2];have hbd:=ZsZ (d:=d) (at_:=a) aw rs (b:=0) ω ω;rw[hD]at t;generalize Zbi d a deps 0 rs=X at *;have ah:(Js (deps++X::z))[a]?=sO (.i X):=by rw[Zie (by rw[ZHO,ZHW];omega),ZgU ad]
 have aj:(Js (deps++X::z)).length=I d.msgs:=by rw[ZgQ,ZHO,ZHW];omega
 have ay:(Js (deps++(X+1)::z))[a]?=sO (.i (X+1)):=by rw[Zie (by rw[ZHO,ZHW];omega),ZgU ad]
 have az:(Js (deps++(X+1)::z)).length=I d.msgs:=by rw[ZgQ,ZHO,ZHW];omega
 refine xA (nd2 @ah (nd2 @aj (nd2 @ZHP (nd2 @ZH4 @Nat.mul_one)))) ?_;rw[ZsY (by rw[ZHO,ZHW];omega),ZoS ad];refine xA (nd2 @ay (nd2 @az (nd2 @ZHP (nd2 @ZH4 @Nat.mul_one)))) ?_;refine cd (λag=>?_) (λag=>?_);rw[if_pos (by simpa using ag)]at t;refine rg ?_;refine rt ab ?_;rw[t];rfl;rw[if_neg (by simpa using ag)]at t;simp only[decide_eq_false_iff_not]at ag;refine gA ?_;have bb:deps++(X+1)::z=(deps++[X+1])++List.replicate (I d.msgs-(a+1)) 0:=by rw[hz];simp
 rw[bb];have au:∀x∈deps++[X+1],0<=x/\x<=16:=by intro x hx;rcases List.mem_append.1 hx with h|h;exact aw x h;simp at h;omega
 refine Za ?_;exact ai ((I d.msgs)-(a+1)) ω (a+1) rfl (deps++[X+1]) (by simp;omega) ω t au aq;exact av _ 0 rfl ω;exact a3 _ 0 rfl ω hF;simp at h3;obtain rfl:a=I d.msgs:=ω;rw[List.drop_length,Qh]at t;refine rx (nd2 @eQ2 (nd2 @eQ7 @eQ1)) ?_;have c9:=Wi d d.start (I d.msgs) ω;refine cl (c9) ?_;refine cd (λh4=>?_) (λh4=>?_);rw[if_pos (by simpa using h4)]at t;refine rg ?_;refine rt ab ?_;rw[t];rfl;rw[if_neg (by simpa using h4)]at t;refine rg ?_;refine rt ab ?_;rw[t];rfl;exact a4 _ 0 rfl [] rfl ω hS ψ ψ
def Zl7{α:Type}[Inhabited α]{p:α->Bool}{l:List α}{n:Nat}(h:0<=Zi p (l.take n)):Zi p l=Zi p (l.take n):=by
 have t:=Qc h;have z:=Ys p (l.take n);rw[ZHZ]at z;have h3:=WY (p:=p) (l:=l) (i:=(Zi p (l.take n)).toNat) ω (by rw[<-KX (n:=n) ω];exact t.1) (λj u=>by rw[<-KX (n:=n) ω];exact t.2 j u);omega
def Zwv{d:Dfn}{s:Str}{n:Nat}(h:0<=Zr d s n):Zr d s (I d.msgs)=Zr d s n/\Zr d s n<n/\Zr d s n<I d.msgs:=by
 unfold Zr at *;have i:=Ys (λm:Msg=>dC (m.name=s)) (d.msgs.take n);rw[ZHZ]at i;refine⟨?_,ω,ω⟩;rw[ZH2];exact Zl7 h
def Zpz{d:Dfn}{at_:Nat}{l:List Msg}{deps:List Int}(h:Qh d at_ l deps=nO):(∀i,i<I l->WS d (at_+i) (l.getD i dE)=nO)/\0<=Zr d d.start (I d.msgs):=by
 induction l generalizing at_ deps with
 |nil =>simp only[Qh]at h;split at h;simp at h;exact⟨λi j=>by simp at j,ω⟩
 |cons m r ih =>
  simp only[Qh]at h;split at h;simp at h;rename_i hm;split at h;simp at h;have n:=ih h;refine⟨λi j=>?_,n.2⟩;cases i with
  |zero=>simpa using hm
  |succ i =>have:=n.1 i (by simpa using j);simpa[Nat.add_assoc,Nat.add_comm 1 i]using this
structure WW(d:Dfn):Prop where
 many:I d.msgs<=60
 start:0<=Zr d d.start (I d.msgs)
 flaw:∀i,i<I d.msgs->WS d i (d.msgs.getD i default)=none
def ZkS{d:Dfn}(h:Zb7 d=true):WW d:=by
 unfold Zb7 ZbV at h;split at h;simp at h;split at h;simp at h;rename_i j;simp only[ZH0,decide_eq_true_eq,not_or,Nat.not_lt]at j;simp only[Option.isNone_iff_eq_none]at h;have:=Zpz h;refine⟨ω,this.2,λi n=>by simpa using this.1 i n⟩
def Zod{s:Str}(h:Yt s=true):I s<=32:=by
 unfold Yt at h;split at h;simp;simp only[ZHN,decide_eq_true_eq]at h;exact h.1.1
structure ZbA(d:Dfn)(j:Nat)(m:Msg):Prop where
 name:I m.name<=32
 many:I m.fields<=40
 field:∀i,i<I m.fields->WX d j m i (m.fields.getD i default)=0
def ZmT{d:Dfn}{j:Nat}{m:Msg}{k:Nat}{l:List Fld}(h:YD d j m k l=nO):∀i,i<I l->WX d j m (k+i) (l.getD i dE)=0:=by
 induction l generalizing k with
 |nil=>intro i n;simp at n
 |cons f r ih =>
  simp only[YD]at h;split at h
  .rename_i t;intro i n;cases i with
   |zero=>simpa using t
   |succ i=>have:=ih h i (by simpa using n);simpa[Nat.add_assoc,Nat.add_comm 1 i]using this
  simp at h
def ZAa{d:Dfn}{j:Nat}{m:Msg}(h:WS d j m=nO):ZbA d j m:=by
 unfold WS at h;split at h;· simp at h
 rename_i u;split at h;· simp at h
 split at h;· simp at h
 rename_i n;simp only[ZH0,decide_eq_true_eq,not_or,Nat.not_lt]at n;exact⟨Zod (by simpa using u),ω,λi t=>by simpa using ZmT h i t⟩
structure Zv6(d:Dfn)(j:Nat)(f:Fld):Prop where
 name:I f.name<=32
 ref:∀s∈Z7 f,0<=Zr d s (I d.msgs)/\Zr d s (I d.msgs)<j
 cases:f.cases≠[]->f.kind=9
def Zva{f:Fld}(h1:1<=f.kind)(h2:f.kind<=12)(h:Zeb f=true)(j:f.cases≠[]):f.kind=9:=by
 have hk:f.kind=1\/f.kind=2\/f.kind=3\/f.kind=4\/f.kind=5\/f.kind=6\/f.kind=7\/f.kind=8\/f.kind=9\/f.kind=10\/f.kind=11\/f.kind=12:=ω;simp only[Zeb,ZHN]at h;have i:=h.2.2;rcases hk with hk|hk|hk|hk|hk|hk|hk|hk|hk|hk|hk|hk<;>rw[hk]at i⊢<;>simp[zrC,Zff,Zxx,Qi,j]at i<;>rfl
def ZzO{d:Dfn}{j i:Nat}{m:Msg}{f:Fld}(h:WX d j m i f=0):Zv6 d j f:=by
 have h0:=ZqJ h;unfold WX at h;split at h;· omega
 rename_i h1;split at h;· omega
 split at h;· omega
 rename_i t;split at h;· omega
 rename_i z;simp only[ZH0,decide_eq_true_eq,not_or,Int.not_lt]at t;refine⟨Zod (by simpa using h1),λs n=>?_,λhc=>Zva ω ω (by simpa using z) hc⟩;have u:=h0.2 s n;have h4:=Zwv u;exact⟨ω,ω⟩
def WW.msg{d:Dfn}(h:WW d){j:Nat}(i:j<I d.msgs):ZbA d j (d.msgs.getD j dE):=ZAa (h.flaw j i)
def WW.fld{d:Dfn}(h:WW d){j i:Nat}(n:j<I d.msgs)(t:i<(d.msgs.getD j dE).fields.length):Zv6 d j ((d.msgs.getD j dE).fields.getD i dE):=ZzO ((h.msg n).field i t)
end Go.DL
namespace Go.DL
open Go
variable {kp:Option (List Nat)}{L:Loc}{H:Env}{s:St}{w:World}{os:List DOp}{ds:List D}{B:List (Nat × Rd)}{dst:Option Nat}{tmps:Array Value}{g:G}{Φ:Res->St->Prop}{Z:Nat->Nat}{xs:List Opd}{side:Prop}{row:Nat->List D}
def ixS(d:Dfn)(s:Str):Nat:=(Zr d s (I d.msgs)).toNat
open Go.Proofs
def upS(v of:Int):Int:=((v+of)-1).tdiv of*of
def ZCV{v of}(hv:-2000<=v/\v<=2000)(ho:1<=of/\of<=1000):(-4000<=((v+of)-1).tdiv of/\((v+of)-1).tdiv of<=4000)/\-5000<=upS v of/\upS v of<=5000:=by
 unfold upS;have i:=Int.mul_tdiv_add_tmod (v+of-1) of;have h2:=Int.tmod_lt_of_pos (v+of-1) (show 0<of by omega);have h3:=Int.lt_tmod_of_pos (v+of-1) (show 0<of by omega);rw[Int.mul_comm]at i;generalize (v+of-1).tmod of=r at *;generalize (v+of-1).tdiv of=q at *;have h4:-4000<=q*of/\q*of<=4000:=ω;refine⟨?_,ω⟩;rcases Int.lt_trichotomy q 0 with hq|hq|hq;have:=Int.mul_le_mul_of_nonneg_left (show(1:Int)<=of by omega) (show 0<=-q by omega);simp only[Int.neg_mul,Int.mul_one]at this;omega;omega;have:=Int.mul_le_mul_of_nonneg_left (show(1:Int)<=of by omega) (show 0<=q by omega);omega
def Zuv{v of}(n:-2000<=v/\v<=2000)(j:1<=of/\of<=1000):Zc ZHF 127 [.i v,.i of] (.i (upS v of)):=by
 have hb:=ZCV n j;have t:((v+of)-1).tdiv of*of=upS v of:=rfl;refine Zg (cR 127 f127) λF st i=>?_;refine gG ?_;generalize ((v+of)-1).tdiv of=q at *;rw[t];generalize upS v of=u at *;refine aa ?_;refine ri i ?_;rfl
structure Zhi(f:Fld):Prop where
 num:f.kind=1\/f.kind=2->-1000<=f.bits/\f.bits<=1000
 pad:f.kind=10->1<=f.bits/\f.bits<=1000
def ZaA(f:Fld)(o:Int):Int:=if f.kind=1\/f.kind=2 then (o+f.bits).tmod 8 else if f.kind=10 then (upS o f.bits).tmod 8 else 0
def YZ(l:List Fld):Nat->Int
 |0=>0
 |i+1=>ZaA (l.getD i dE) (YZ l i)
def ZAc{f o}:-8<ZaA f o/\ZaA f o<8:=by
 have h:∀x:Int,-8<x.tmod 8/\x.tmod 8<8:=λx=>⟨Int.lt_tmod_of_pos x (by decide),Int.tmod_lt_of_pos x (by decide)⟩;unfold ZaA;split;exact h _;split;exact h _;omega
def ZpP(l i):-8<YZ l i/\YZ l i<8:=by
 cases i with
 |zero=>simp[YZ]
 |succ i=>exact ZAc
def ZmF(f:Fld){o}(ho:-2000<=o/\o<=2000)(hb:-1000<=f.bits/\f.bits<=1000):Zc ZHF 237 [.agg f.cells,.i o] (.i (o+f.bits)):=by
 refine Zg (cR 237 f237) λF st i=>?_;refine rx @eQ0 ?_;refine xA @eQ0 ?_;refine ri i ?_;rfl
def ZmG(f:Fld){o}(j:-2000<=o/\o<=2000)(n:1<=f.bits/\f.bits<=1000):Zc ZHF 238 [.agg f.cells,.i o] (.i (upS o f.bits)):=by
 refine Zg (cR 238 f238) λF st i=>?_;refine rx @eQ0 ?_;refine rx @eQ0 ?_;refine cl (Zuv j n) ?_;refine ri i ?_;rfl
def Zst:List (D×D):=[(.i 1,.fn (.func 237) [] []),(.i 2,.fn (.func 237) [] []),(.i 10,.fn (.func 238) [] [])]
def Zho{st}:Ze ZHF 189 [] st λr S=>∃b,st b=nO/\r=.ret (.map b)/\S=st.upd b (.map Zst):=by
 refine Zh (cR 189 f189) λF i=>?_;refine gG ?_;refine rh ?_;refine Zn ?_;simp only[Eqs,reduceCtorEq,ZHK,reduceIte,ZHI,ZHM,ZHJ,ZaE,KK,Yv,ZHP,ZH4,YF,YG,decide_false,ZIp,ite_false];intro b j;exact i.ret _ _ rfl φ (ZHL _) ZHH ⟨b,j,rfl,rfl⟩
def Zd1(k:Int):Bool:=dC (k=1) ||(dC (k=2) ||decide (k=10))
def Ze5(k:Int):D:=if k=1 then .fn (.func 237) [] [] else if k=2 then .fn (.func 237) [] [] else if k=10 then .fn (.func 238) [] [] else .nilfn
def Zn0(k):Zcb (.sc .int) (.i k) Zst=sO (if Zd1 k then sO (Ze5 k) else nO):=by
 simp only[Zst,Zcb,KK,Yv,if_true,Zd1,Ze5];by_cases n:k=1;simp[n];by_cases i:k=2;simp[i];by_cases j:k=10;simp[j];simp[n,i,j]
def Zq0(k):Wy .nilfn true (if Zd1 k=true then sO (Ze5 k) else nO)=.tup [Ze5 k,.bool (Zd1 k)]:=by
 unfold Zd1 Ze5;by_cases n:k=1;simp[n,Wy];by_cases i:k=2;simp[i,Wy];by_cases j:k=10;simp[j,Wy];simp[n,i,j,Wy]
def Zbp(f:Fld):Bool:=!Zd1 f.kind ||f.little
def Zpr(f){st}:ZU ZHF 191 [.agg f.cells] st (.bool (Zbp f)) st:=by
 refine ZK (cR 191 f191) λn F i=>?_;clear n;refine rx @eQ0 ?_;refine rx @eQ0 ?_;refine cVD Zho ?_ ?_;rintro d S ⟨b,u,t,rfl⟩;cases t;refine⟨by simp[Wq,Qk,Wa,ZaS],?_⟩;have j:=Zn0 f.kind;refine gQ (nd2 @j (nd2 @ZHP @Zq0)) ?_;refine rx @eQ0 ?_;exact i rfl φ (by unfold Zbp;cases Zd1 f.kind<;>exact ZHL _) (ZH6 _ u);rintro d S ⟨b,u,t,_⟩;cases t
def ZwV(l:List Fld)(j:Nat):List D:=[.i j,.i (YZ l j)]
def Zeh(l)(hl:I l<=1000)(hb:∀f∈l,Zhi f)(x):Zds ZHF (.fn (.func 188) [] [.ptr x 0]) (I l+1) (ZwV l) (ZH9 x (.cells [Zk l])):=by
 intro y go A a0 ai hA hd;refine Ze.V (first:=[]) (args:=[y]) (caps:=[.ptr x 0]) (Zh (cR 188 f188) λF hF=>?_);have hx:∀a,Yc a (ZH9 x (.cells [Zk l]))->(a.or (ZH9 x (.cells [Zk l]))) x=sO (.cells [Zk l]):=λa ap=>by rw[ZM (ap x _ YE),YE]
 generalize hT:ZH9 x (.cells [Zk l])=T at *;refine rg ?_;refine rh ?_;refine Zn ?_;simp only[Eqs,reduceCtorEq,ZHK,reduceIte,ZHI,ZHM,ZHJ,hx a0 hd,Zk,slD];refine Zb (fr (I l) (λj Q=>∀a,A j a->Yc a T->(∀i,i<j->go i=.next)->j<=I l->Q [(0,.d y),(1,.d (.ptr x 0)),(3,.d (.i (YZ l j))),(8,.d (Zk l)),(9,.d (.i (I l))),(10,.d (.i j))] [] (a.or T)) (λn ac=>?_) λaq=>?_)
 .clear hA hd;intro j hn a hA hd ab hj;refine rg ?_;have ad:=(ai j ω ab a hA).frame hd;unfold ZwV at ad;have ho:=ZpP l j;refine Zd (Zt rfl trivial (λh1=>?_) (λh1=>?_))
  .simp at h1;have am:=hb (l.getD j dE) (by simp[ZHU,h1]);have al:YZ l (j+1)=ZaA (l.getD j dE) (YZ l j):=rfl;generalize hg:l.getD j dE=g at *;refine xA (nd2 @eQ5 (nd2 @eQ1 (nd2 @hg @eQ0))) ?_;refine rg ?_;refine vV (ad) ?_ ?_
   .rintro d S ⟨s',⟨hr,z⟩,ae,rfl⟩;cases t:go j with
    |next =>
     rw[t]at hr;cases hr;refine gR0 ?_;refine i0 ?_;refine rx @eQ0 ?_;refine cVD Zho ?_ ?_;rintro d S ⟨b,af,ag,rfl⟩;cases ag;have ao:=Zn0 g.kind;refine⟨by simp[Wq,Qk,Wa,ZaS],?_⟩;refine gQ (nd2 @ao (nd2 @ZHP @Zq0)) ?_;refine rg ?_;have h8:=ZpP l (j+1);refine cd (λhk=>?_) (λhk=>?_);by_cases ah:g.kind=10;have ak:Ze5 g.kind=.fn (.func 238) [] []:=by simp[Ze5,ah]
     have u:(upS (YZ l j) g.bits).tmod 8=YZ l (j+1):=by rw[al,ZaA,if_neg ω,if_pos ah]
     rw[<-u]at h8;rw[ak];refine rx @eQ0 ?_;refine Zv3 rfl rfl rfl rfl rfl φ φ (by exact(ZmG g ω (am.pad ah)).VT (first:=[]) (args:=[_,_]) (caps:=[]) _) (Zn ?_);simp only[Eqs,reduceCtorEq,ZHK,reduceIte,ZHI,ZHM,ZHJ];refine aa ?_;rw[u];refine gA ?_;refine Ka (ZH6 _ af) ?_;refine Za ?_;exact ac ((I l)-(j+1)) ω (j+1) rfl s' z ae (ZZ (q:=λi=>go i=.next) ab t) ω;have aj:g.kind=1\/g.kind=2:=by simp only[Zd1,ZH0,decide_eq_true_eq]at hk;omega
     have ak:Ze5 g.kind=.fn (.func 237) [] []:=by rcases aj with h|h<;>simp[Ze5,h]
     have u:(YZ l j+g.bits).tmod 8=YZ l (j+1):=by rw[al,ZaA,if_pos aj]
     rw[<-u]at h8;rw[ak];refine rx @eQ0 ?_;refine Zv3 rfl rfl rfl rfl rfl φ φ (by exact(ZmF g ω (am.num aj)).VT (first:=[]) (args:=[_,_]) (caps:=[]) _) (Zn ?_);simp only[Eqs,reduceCtorEq,ZHK,reduceIte,ZHI,ZHM,ZHJ];refine aa ?_;rw[u];refine gA ?_;refine Ka (ZH6 _ af) ?_;refine Za ?_;exact ac ((I l)-(j+1)) ω (j+1) rfl s' z ae (ZZ (q:=λi=>go i=.next) ab t) ω;have u:(0:Int)=YZ l (j+1):=by simp only[Zd1,Bool.or_eq_false_iff,decide_eq_false_iff_not]at hk;rw[al,ZaA,if_neg ω,if_neg ω]
     refine rg ?_;refine gA ?_;rw[show(D.int IntKind.i64 0)=.i (YZ l (j+1)) by rw[<-u]];refine Ka (ZH6 _ af) ?_;refine Za ?_;exact ac ((I l)-(j+1)) ω (j+1) rfl s' z ae (ZZ (q:=λi=>go i=.next) ab t) ω;rintro d S ⟨b,af,ag,_⟩;cases ag
    |stop c =>rw[t]at hr;cases hr;refine gR0 ?_;refine i1 ?_;exact hF.ret (.tup []) _ rfl trivial (ZHL _) ZHH ⟨s',.stop j c ω ab t z,KW⟩
    |pan d=>rw[t]at hr;cases hr
   rintro d S ⟨s',⟨hr,z⟩,ae,rfl⟩;cases t:go j with
   |pan d' =>rw[t]at hr;cases hr;exact hF.pan _ ZHH ⟨s',.pan j d ω ab t z,KW⟩
   |next=>rw[t]at hr;cases hr
   |stop c=>rw[t]at hr;cases hr
  simp at h1;obtain rfl:j=I l:=ω;refine rh ?_;refine Zn ?_;simp only[Eqs,reduceCtorEq,ZHK,reduceIte,ZHI,ZHM,ZHJ,hx a hd,Zk,slD];refine vV (ad) ?_ ?_
  .rintro d S ⟨s',⟨hr,z⟩,ae,rfl⟩;cases t:go (I l) with
   |next =>rw[t]at hr;cases hr;refine gR0 ?_;exact hF.fin (.tup []) _ rfl trivial (ZHL _) ZHH ⟨s',.all (ZZ (q:=λi=>go i=.next) ab t) z,KW⟩
   |stop c =>rw[t]at hr;cases hr;refine gR0 ?_;exact hF.fin (.tup []) _ rfl trivial (ZHL _) ZHH ⟨s',.stop (I l) c ω ab t z,KW⟩
   |pan d=>rw[t]at hr;cases hr
  rintro d S ⟨s',⟨hr,z⟩,ae,rfl⟩;cases t:go (I l) with
  |pan d' =>rw[t]at hr;cases hr;exact hF.pan _ ZHH ⟨s',.pan (I l) d ω ab t z,KW⟩
  |next=>rw[t]at hr;cases hr
  |stop c=>rw[t]at hr;cases hr
 exact aq _ 0 rfl a0 hA hd (by intro i hi;omega) ω
def Zfq(l st):Ze ZHF 145 [Zk l] st λr S=>∃x,st x=nO/\r=.ret (.fn (.func 188) [] [.ptr x 0])/\S=st.or (ZH9 x (.cells [Zk l])):=by
 refine Zh (cR 145 f145) λF j=>?_;refine rx (nd2 @eQ5 @eQ1) ?_;refine Zd ?_;refine xP 1 λx i=>?_;refine rg ?_;exact j.ret _ _ rfl φ (ZHL _) ZHH ⟨x,i,rfl,Qt i⟩
def Zuu(l)(hl:I l<=1000)(hb:∀f∈l,Zhi f)(k:Nat)(hk:k<=I l){st:St}:ZU ZHF 194 [Zk l,.i k] st (.i (YZ l k)) st:=by
 refine Zh (cR 194 f194) λF hF=>?_;refine rx (nd2 @eQ5 @eQ1) ?_;refine rg ?_;rw[show(D.sl .none (I l) 15 λi=>(l.getD i dE).cells)=Zk l from rfl];refine cV (Zfq l st) ?_ ?_
 .rintro d S ⟨x,hx,hd,rfl⟩;cases hd;refine gR0 ?_;refine Zb ?_;refine xP 3 λz3 h3=>?_;refine xP 4 λz4 h4=>?_;have al:z3≠x:=λe=>by subst e;rw[ZM hx,YE]at h3;simp at h3
  have ak:st z3=nO:=by
   cases h:st z3 with
   |none=>rfl
   |some o=>rw[Zu h]at h3;simp at h3
  have k4:=Zv h4;have am:z4≠x:=λe=>by subst e;have:=k4.2;rw[ZM hx,YE]at this;simp at this
  have ao:st z4=nO:=by
   cases h:st z4 with
   |none=>rfl
   |some o=>have:=k4.2;rw[Zu h]at this;simp at this
  have hA:∀v,∃A:St,A=(st.upd z3 (.cells [.i k])).upd z4 (.cells [.i v])/\A z3=sO (.cells [.i k])/\A z4=sO (.cells [.i v])/\st.sub A/\A x=nO:=λv=>by refine⟨_,rfl,by rw[ZHQ _ _ (Ne.symm k4.1)];exact ZHP _ _ _,ZHP _ _ _,ZIn (ZH6 _ ak) (ZH6 _ (by rw[ZHQ _ _ k4.1];exact ao)),?_⟩;rw[ZHQ _ _ (Ne.symm am),ZHQ _ _ (Ne.symm al)];exact hx
  obtain⟨A0,e0,g3,g4,hsub0,ah⟩:=hA 0;obtain⟨A1,e1,g3',aj,ab,hx1⟩:=hA (YZ l k);have ad:A0.upd z4 (.cells [.i (YZ l k)])=A1:=by rw[e0,e1,ZH4]
  have af:(((st.or (ZH9 x (.cells [Zk l]))).upd z3 (.cells [.i k])).upd z4 (.cells [.i 0]))=A0.or (ZH9 x (.cells [Zk l])):=by
   rw[e0];funext c;by_cases c4:c=z4;subst c4;rw[ZHP,Zu (ZHP _ _ _)];rw[ZHQ _ _ c4];by_cases c3:c=z3;subst c3;rw[ZHP,Zu (by rw[ZHQ _ _ c4];exact ZHP _ _ _)];rw[ZHQ _ _ c3];show(match st c with|some o=>sO o|none=>_)=match ((st.upd z3 _).upd z4 _) c with|some o=>sO o|none=>_
   rw[ZHQ _ _ c4,ZHQ _ _ c3]
  rw[af];clear af hA;refine KM hF rfl trivial [3,4] (by show([3,4]:List Nat).Nodup;decide) (WD ah) (Zeh l hl hb x).Y (λj hj=>rfl)
   (λj=>if j=k then .stop .ret else .next) (λj a=>(j<=k/\a=A0)\/(k<j/\a=A1)) (.inl ⟨Nat.zero_le _,rfl⟩) ?_ ?_ ?_ ?_ ?_ ?_
  intro j a hj u hB F' ready busy hdr ag t;have hjk:j<=k:=by refine Nat.le_of_not_lt λh=>?_;have:=u k h;simp at this
  rcases hB with ⟨_,rfl⟩|⟨h,_⟩
  skip
  simp only[Eqs,reduceCtorEq,ZHK,reduceIte,ZHI,ZHM,ZHJ,WT,Kc,Jk,Kq,List.isEmpty_nil,List.isEmpty_cons,ZwV];refine gG ?_;refine ag λz=>?_;refine rh ?_;refine Zn ?_;simp only[Eqs,reduceCtorEq,ZHK,reduceIte,ZHI,ZHM,ZHJ,Zu g3];refine cd (λhc=>?_) (λhc=>?_);have ac:j=k:=by simp at hc;omega
  subst ac;rw[if_pos rfl]at t;refine rh ?_;refine Zn ?_;simp only[Eqs,reduceCtorEq,ZHK,reduceIte,ZHI,ZHM,ZHJ,Zu g4,W7];rw[ad];exact t.ret ⟨rfl,.inr ⟨ω,rfl⟩⟩ (λb o ae=>by rw[<-ad,ZHQ _ _ (λe=>by subst e;rw[z _ o ae]at g4;simp at g4)];exact z b o ae) ZHH;have ac:j≠k:=by simp at hc;omega
  rw[if_neg ac]at t;refine Zp (Zf ?_);exact t.fin ⟨rfl,.inl ⟨ω,rfl⟩⟩ z ZHH;omega;intro q a u hB hq;have:=u k ω;simp at this;intro q a m hm u n hB hq;have ai:m=k:=by split at n;assumption;simp at n
  subst ai;rcases hB with ⟨h,_⟩|⟨_,rfl⟩;omega;rw[Qt hq];exact hF.ret1 hq (.i (YZ l m)) st (by simp only[Eqs,reduceCtorEq,ZHK,reduceIte,ZHI,ZHM,ZHJ,YK,Ks,aj];rfl) φ (ZHL _) ab ⟨rfl,rfl⟩;intro q a m id hm u n;split at n<;>simp at n;intro q a m d hm u n;split at n<;>simp at n;intro m c n;split at n<;>simp at n;exact .inl n.symm
 rintro d S ⟨x,hx,hd,_⟩;cases hd
def KG(l:List Fld)(i:Nat):Bool:=if i=I l then !dC (YZ l i=0) else !(dC (YZ l i=0)||!Zbp (l.getD i dE))||!(!dC ((l.getD i dE).kind=11) ||decide (YZ l (max (Zi (λx=>dC (x.name=(l.getD i dE).from_)) l) 0).toNat=0))
def ZmH{st a c o f}(u:st a=sO (.cells [.i o]))(t:st c=sO (.cells f.cells)):ZU ZHF 190 [.ptr a 0,.ptr c 0] st (.bool (dC (o=0)||!Zbp f)) st:=by
 refine ZK (cR 190 f190) λj F i=>?_;clear j;by_cases z:o=0;subst z;refine rg ?_;refine rx (nd2 @u @t) ?_;refine Jx rfl (e:=.d (.bool false)) (Zn ?_);simp only[Eqs,reduceCtorEq,ZHK,reduceIte,ZHI,ZHM,ZHJ];exact i rfl ψ (ZHL _) ZHH;have n:dC (o=0)=false:=decide_eq_false z;rw[n,Bool.false_or]at i;refine rg ?_;refine rx (nd2 @u (nd2 @t (nd2 @n @eQ0))) ?_;refine JS rfl rfl rfl rfl rfl φ φ (by exact Zpr f) (Zn ?_);simp only[Eqs,reduceCtorEq,ZHK,reduceIte,ZHI,ZHM,ZHJ];exact i rfl ψ (by cases Zbp f<;>exact ZHL _) ZHH
def okF(l):Km (Zk l)=true:=rfl
def ceF(l):cellsOf (Zk l)=[Zk l]:=rfl
def ZmI{st a c l}(hl:I l<=1000)(hb:∀f∈l,Zhi f){f:Fld}(z:st a=sO (.cells [Zk l]))(u:st c=sO (.cells f.cells))(hpos:0<I l):
  ZU ZHF 192 [.ptr a 0,.ptr c 0] st (.bool (!dC (f.kind=11) ||decide (YZ l (max (Zi (λx=>dC (x.name=f.from_)) l) 0).toNat=0))) st:=by
 refine ZK (cR 192 f192) λn F i=>?_;clear n;have hq1:=Ys (λx=>dC (x.name=f.from_)) l;have hq0:=QY (λx:Fld=>dC (x.name=f.from_)) l;have j:D.agg [.str [],Zk l]=.agg (Msg.mk [] l).cells:=rfl;refine rg ?_;refine rx (nd2 @z (nd2 @u (nd2 @eQ0 (nd2 @okF @ceF)))) ?_;rw[j];refine cl (Zdg ⟨[],l⟩ f.from_) ?_;obtain⟨q,hq⟩:∃q:Nat,max (Zi (λx=>dC (x.name=f.from_)) l) 0=q:=⟨(max (Zi (λx=>dC (x.name=f.from_)) l) 0).toNat,ω⟩;simp only[hq,Int.toNat_natCast]at i⊢;by_cases h0:f.kind=11;have t:dC (f.kind=11)=true:=decide_eq_true h0;rw[t,Bool.not_true,Bool.false_or]at i;refine rx (nd2 @z (nd2 @u (nd2 @eQ0 @t))) ?_;refine JS rfl rfl rfl rfl rfl φ φ (by exact Zuu l hl hb q ω) (Zn ?_);simp only[Eqs,reduceCtorEq,ZHK,reduceIte,ZHI,ZHM,ZHJ];exact i rfl ψ (ZHL _) ZHH;have t:dC (f.kind=11)=false:=decide_eq_false h0;rw[t,Bool.not_false,Bool.true_or]at i;refine rx (nd2 @z (nd2 @u (nd2 @eQ0 @t))) ?_;refine Jx rfl (e:=.d (.i 0)) (Zn ?_);simp only[Eqs,reduceCtorEq,ZHK,reduceIte,ZHI,ZHM,ZHJ];exact i rfl ψ (ZHL _) ZHH
def Zfr{c v st}(h:VT ZHF c [] st (.bool v) st):ZU ZHF 196 [c] st (.bool (!v)) st:=by
 refine ZK (cR 196 f196) λj F i=>?_;clear j;refine gG ?_;refine cW (h) ?_;exact i rfl φ (ZHL _) ZHH
structure Ck where
 d:Dfn
 at_:Int
 field:Int
 m:Msg
def Ck.cells(k:Ck)(bd bs:Nat):List D:=[.str k.d.name,Yy k.d.msgs,.str k.d.start,.map bd,.map bs,.i k.at_,.i k.field,.str k.m.name,Zk k.m.fields]
structure QF(st:St)(x bd bs:Nat)(k:Ck)(dl:List (Str×Int))(sl:List (Str×Bool)):Prop where
 x:st x=some (.cells (k.cells bd bs))
 bd:st bd=some (.map (JZ dl))
 bs:st bs=some (.map (ZeW sl))
def QF.mono{st A x bd bs k dl sl}(h:QF st x bd bs k dl sl)(i:st.sub A):QF A x bd bs k dl sl:=⟨i _ _ h.x,i _ _ h.bd,i _ _ h.bs⟩
def Zef(d:D):Prop:=∃a f c,d=.iface 121 (.agg [.i a,.i f,.i c])
def WI(ok:Bool)(st:St)(r:Res)(S:St):Prop:=S=st/\if ok then r=.ret (.tup []) else ∃d,Zef d/\r=.panic d
def YO{ok st S d}(h:WI ok st (.ret d) S):ok=true/\d=.tup []/\S=st:=by
 obtain⟨j,i⟩:=h;cases ok with
 |true=>simp at i;exact⟨rfl,i,j⟩
 |false=>simp at i
def YN{ok st S d}(h:WI ok st (.panic d) S):ok=false/\Zef d/\S=st:=by
 obtain⟨j,i⟩:=h;cases ok with
 |true=>simp at i
 |false=>simp at i;exact⟨rfl,i,j⟩
def ZbQ{ok st}(h:ok=true):WI ok st (.ret (.tup [])) st:=by subst h;exact⟨rfl,rfl⟩
def Wt{ok st d}(h:ok=false)(i:Zef d):WI ok st (.panic d) st:=by subst h;exact⟨rfl,d,i,rfl⟩
def Zil(a f c:Int):D:=.iface 121 (.agg [.i a,.i f,.i c])
def Ztc{a f c}:Zef (Zil a f c):=⟨a,f,c,rfl⟩
def Zgz{x bd bs}{k:Ck}{st}(n:st x=sO (.cells (k.cells bd bs)))(fine code):Ze ZHF 235 [.ptr x 0,.bool fine,.i code] st (λr S=>S=st/\r=if fine then .ret (.tup []) else .panic (Zil k.at_ k.field code)):=by
 refine Zh (cR 235 f235) λF j=>?_;refine rg ?_;refine cd (λh=>?_) (λh=>?_);have i:fine=false:=by simpa using h
 refine rx (nd2 @n @Ck.cells.eq_1) ?_;refine Zv0 rfl rfl rfl trivial ?_;exact j.pan st ZHH ⟨rfl,by rw[i];rfl⟩;have i:fine=true:=by simpa using h
 refine Zp ?_;exact j.fin (.tup []) st rfl trivial (ZHL _) ZHH ⟨rfl,by rw[i];rfl⟩
def Z0{x bd bs}{k:Ck}{st}(j:st x=sO (.cells (k.cells bd bs)))(fine code):Ze ZHF 235 [.ptr x 0,.bool fine,.i code] st (WI fine st) :=
 (Zgz j fine code).mono λr S ⟨n,i⟩=>by
  subst n;cases fine with
  |true=>exact⟨rfl,i⟩
  |false=>exact⟨rfl,_,Ztc,i⟩
def Zm4(o:Option Int):Wy (.i 0) true (o.map KL)=.tup [.i (o.getD 0),.bool o.isSome]:=by cases o<;>rfl
def Zom(o:Option (Int×Int)):Wy (.agg [.i 0,.i 0]) true (o.map QN)=.tup [.agg [.i (o.getD (0,0)).1,.i (o.getD (0,0)).2],.bool o.isSome]:=by cases o<;>rfl
def Zdh{x bd bs k dl sl st}(n:QF st x bd bs k dl sl)(name):Ze ZHF 313 [.ptr x 0,.str name] st (WI (Zw name dl).isSome st):=by
 refine Zh (cR 313 f313) λF u=>?_;have t:=We (vD:=KL) ZX name dl;have z:=Wr ZX name;simp only[show Qa name=D.str name from rfl]at t z;refine rh ?_;refine Zn ?_;simp only[Eqs,reduceCtorEq,ZHK,reduceIte,ZHI,ZHM,ZHJ,n.x,n.bd,Ck.cells,t,z,Zm4];refine rg ?_;refine cV (Z0 n.x (Zw name dl).isSome 8) ?_ ?_;rintro d S h;obtain⟨i,rfl,rfl⟩:=YO h;refine gR0 ?_;exact u.fin (.tup []) S rfl trivial (ZHL _) ZHH (ZbQ i);rintro d S h;obtain⟨i,j,rfl⟩:=YN h;exact u.pan S ZHH (Wt i j)
def Jc{x bd bs}{k:Ck}{st}(hx:st x=sO (.cells (k.cells bd bs))){n:Nat}(z:k.field=n)(hl:n<=I k.m.fields):ZU ZHF 286 [.ptr x 0] st (Zk (k.m.fields.take n)) st:=by
 refine ZK (cR 286 f286) λu F t=>?_;clear u;refine rg ?_;refine rx (nd2 @hx (nd2 @Ck.cells.eq_1 (nd2 @eQ5 (nd2 @eQ1 @z)))) ?_;refine⟨ω,ω,ω,?_⟩;rw[ite_self];have j:ZQ Fld.cells (λi=>(k.m.fields.getD i dE).cells) (k.m.fields.take n):=ZQ.self.take n;exact t rfl φ (K7 (j.le (by rw[ZHZ];omega))) ZHH
def YI:Int->Int->List Int->Bool
 |_,_,[]=>true
 |low,high,n::r=>dC (low<=n)&&dC (n<=high)&&YI n high r
def ZfW{x bd bs}{k:Ck}{st}(hx:st x=sO (.cells (k.cells bd bs)))(low high l):Ze ZHF 300 [.ptr x 0,.i low,.i high,slD 1 inC l] st (WI (YI low high l) st):=by
 refine ZaH (cR 300 f300) λu F hF=>?_;have hw:=(YR (u (slD 1 inC l) ψ)).1;unfold big at hw;clear u;refine rx @eQ1 ?_;refine Zb (fr (I l) (λi Q=>∀lo,YI low high l=YI lo high (l.drop i)->i<=I l->Q [(0,.d (.ptr x 0)),(1,.d (.i lo)),(2,.d (.i high)),(10,.d (slD 1 inC l)),(11,.d (.i (I l))),(12,.d (.i i))] [] st) (λn j=>?_) λab=>?_);intro i hn lo hS hi;refine rg ?_;refine Zd (Zt rfl trivial (λh1=>?_) (λh1=>?_));simp at h1;rw[Ww h1,YI]at hS;generalize hv:l.getD i dE=v at *;refine xA (nd2 @eQ1 (nd2 @inC.eq_1 @hv)) ?_;refine rg ?_;refine cV (Z0 hx (dC (lo<=v)&&dC (v<=high)) 7) ?_ ?_;rintro d S h;obtain⟨t,rfl,rfl⟩:=YO h;rw[t,ZH3]at hS;refine gR0 ?_;refine rg ?_;refine gA ?_;refine Za ?_;exact j ((I l)-(i+1)) ω (i+1) rfl v hS ω;rintro d S h;obtain⟨t,z,rfl⟩:=YN h;rw[t,ZH7]at hS;exact hF.pan S ZHH (Wt hS z);simp at h1;obtain rfl:i=I l:=ω;rw[List.drop_length,YI]at hS;refine ZR rfl ?_;exact hF.fin (.tup []) st rfl trivial (ZHL _) ZHH (ZbQ hS);exact ab _ 0 rfl low rfl ω
def ZdY(f:Fld):Bool:=dC (1<=f.bits)&&dC (f.bits<=32)&&(!f.little ||(dC (8<f.bits)&&dC (f.bits.tmod 8=0)))
def ZhN{x bd bs}{k:Ck}{st}(t:st x=sO (.cells (k.cells bd bs)))(f):Ze ZHF 299 [.ptr x 0,.agg f.cells] st (WI (ZdY f) st):=by
 refine Zh (cR 299 f299) λF n=>?_;refine rx @eQ0 ?_;refine rx @eQ0 ?_;have ht1:=Int.tmod_lt_of_pos f.bits (by decide:(0:Int)<8);have ht2:=Int.lt_tmod_of_pos f.bits (by decide:(0:Int)<8);refine⟨λ_=>⟨by decide,ω,ω⟩,?_⟩;refine cV (Z0 t (ZdY f) 6) ?_ ?_;rintro d S h;obtain⟨i,rfl,rfl⟩:=YO h;refine gR0 ?_;exact n.fin (.tup []) S rfl trivial (ZHL _) ZHH (ZbQ i);rintro d S h;obtain⟨i,j,rfl⟩:=YN h;exact n.pan S ZHH (Wt i j)
abbrev QV(fs:List Fld):Zzp:=Zai fs (I fs)
abbrev ivP(fs:List Fld)(s:Jp):Int×Int×Int:=YV s λk=>Zw k (QV fs)
def Zc3(fs:List Fld)(t:Yn):Bool:=(Zw t.field (QV fs)).isSome
def Zf1(fs:List Fld)(s:Jp):Bool:=ZI s&&(s.terms.all (Zc3 fs)&&(dC ((ivP fs s).2.2=0)&&dC (0<=(ivP fs s).1)&&dC ((ivP fs s).2.1<=1048576)))
def Zdi{x bd bs}{k:Ck}{st}(hx:st x=sO (.cells (k.cells bd bs))){n:Nat}(hn:k.field=n)(hl:n<=I k.m.fields)(f:Fld):
  Ze ZHF 306 [.ptr x 0,.agg f.cells] st (WI (Zf1 (k.m.fields.take n) f.size) st):=by
 refine Zh (cR 306 f306) λF hF=>?_;have hS:=Zf1.eq_1 (k.m.fields.take n) f.size;generalize ap:k.m.fields.take n=fs at *;refine rx @eQ0 ?_;refine rx @eQ0 ?_;have ag:D.agg [D.int IntKind.i64 f.size.base,Yd f.size.terms]=.agg f.size.cells:=rfl;simp only[ag];refine clD (ZaG f.size) ?_;refine cVD (Z0 hx (ZI f.size) 9) ?_ ?_
 .rintro d S h;obtain⟨hv,rfl,rfl⟩:=YO h;rw[hv,ZH3]at hS;first|refine⟨by first|trivial|exact⟨rfl,rfl,trivial⟩|exact⟨rfl,trivial⟩,?_⟩|skip
  refine gR0 ?_;refine rg ?_;refine tX @ap (Jc hx hn hl) ?_;refine cV (ZfV fs S) ?_ ?_
  .rintro d S' ⟨b,hb,hd,rfl⟩;cases hd;refine gR0 ?_;refine Zd (Zd ?_);refine xP 2 λz2 h2=>?_;refine xP 4 λz4 h4=>?_;have k2:=Zv h2;have k4:=Zv h4;have af:=Zv k4.2;have ao:x≠b:=λe=>by rw[e,hb]at hx;simp at hx
   have am:x≠z2:=λe=>by rw[e,k2.2]at hx;simp at hx
   have aq:x≠z4:=λe=>by rw[e,af.2]at hx;simp at hx
   obtain⟨A,hA⟩:∃A,A=((S.upd b (.map (Zb4 (Zai fs (I fs))))).upd z2 (.cells [.ptr x 0])).upd z4 (.cells [.map b]):=⟨_,rfl⟩;have gx:A x=sO (.cells (k.cells bd bs)):=by rw[hA,ZHQ _ _ aq,ZHQ _ _ am,ZHQ _ _ ao];exact hx
   have gb:A b=sO (.map (Zb4 (QV fs))):=by rw[hA,ZHQ _ _ af.1.symm,ZHQ _ _ k2.1.symm];exact ZHP _ _ _
   have g2:A z2=sO (.cells [.ptr x 0]):=by rw[hA,ZHQ _ _ k4.1.symm];exact ZHP _ _ _
   have g4:A z4=sO (.cells [.map b]):=by rw[hA];exact ZHP _ _ _
   have ah:S.sub A:=by rw[hA];exact ZIn (ZH6 _ hb) (ZIn (ZH6 _ h2) (ZH6 _ h4))
   rw[<-hA];clear hA h2 h4 k2 k4 af;refine rx @eQ0 ?_;simp only[ag];have hfew:=JD hv;refine cV (Zci f.size hv) ?_ ?_
   .rintro d S' ⟨y,hy,hd,rfl⟩;cases hd;refine gR0 ?_;refine Zb ?_;refine KM hF rfl trivial [2,4] (by show([2,4]:List Nat).Nodup;decide) (WD hy) (Za4 f.size.terms (by unfold big;omega) y).Y (λj hj=>rfl)
     (λj=>if Zc3 fs (f.size.terms.getD j dE) then .next else .pan (Zil k.at_ k.field 8)) (λj a=>a=A) rfl ?_ ?_ ?_ ?_ ?_ ?_
    .intro j a hj z hB F' ready aj hdr al ac;subst hB;simp only[Eqs,reduceCtorEq,ZHK,reduceIte,ZHI,ZHM,ZHJ,WT,Kc,Jk,Kq,List.isEmpty_nil,List.isEmpty_cons];refine rg ?_;refine al λai=>?_;generalize htm:f.size.terms.getD j dE=tm at *;have e1:=We (vD:=QN) ZX tm.field (QV fs);have e3:=Wr ZX tm.field;simp only[show Qa tm.field=D.str tm.field from rfl]at e1 e3;refine rh ?_;refine Zn ?_;simp only[Eqs,reduceCtorEq,ZHK,reduceIte,ZHI,ZHM,ZHJ,Zu g4,Zu gb,e1,e3,Zom];refine rh ?_;refine Zn ?_;simp only[Eqs,reduceCtorEq,ZHK,reduceIte,ZHI,ZHM,ZHJ,Zu g2];refine cV (Zgz (st:=a.or aj) (Zu gx) (Zw tm.field (QV fs)).isSome 8) ?_ ?_
     .rintro d S' ⟨rfl,h⟩;cases hk:(Zw tm.field (QV fs)).isSome with
      |false=>rw[hk]at h;simp at h
      |true =>rw[hk]at h;simp at h;subst h;refine gR0 ?_;refine Zf ?_;exact ac.fin ⟨by rw[if_pos (show Zc3 fs tm=true from hk)],rfl⟩ ai ZHH
     rintro d S' ⟨rfl,h⟩;cases hk:(Zw tm.field (QV fs)).isSome with
     |true=>rw[hk]at h;simp at h
     |false =>rw[hk]at h;simp at h;subst h;exact ac.pan ⟨by rw[if_neg (by rw[show Zc3 fs tm=false from hk];simp)],rfl⟩ ai ZHH
    intro q a z hB hq;subst hB;have ab:f.size.terms.all (Zc3 fs)=true:=by apply List.all_eq_true.2;intro t ht;obtain⟨i,hi,rfl⟩:=ZH1 ht;have:=z i hi;split at this;rename_i h;simpa[ZHU,hi]using h;simp at this
    rw[ab,ZH3]at hS;rw[Qt hq];refine rh ?_;refine Zn ?_;simp only[Eqs,reduceCtorEq,ZHK,reduceIte,ZHI,ZHM,ZHJ,Zu g4,Fld.cells];simp only[ag];refine cV (Znf f.size b (QV fs) (Zu gb)) ?_ ?_;rintro d S' ⟨hd,rfl⟩;cases hd;refine gQ @QN.eq_1 ?_;refine rh ?_;refine Zn ?_;simp only[Eqs,reduceCtorEq,ZHK,reduceIte,ZHI,ZHM,ZHJ,Zu g2];refine cV (Z0 (st:=a.or (ZH9 q .dfr)) (Zu gx) (dC ((ivP fs f.size).2.2=0)&&dC (0<=(ivP fs f.size).1)&&dC ((ivP fs f.size).2.1<=1048576)) 9) ?_ ?_;rintro d S' h;obtain⟨ae,rfl,rfl⟩:=YO h;rw[ae]at hS;refine gR0 ?_;exact hF.fin1 hq (.tup []) S rfl trivial (ZHL _) ah (ZbQ hS);rintro d S' h;obtain⟨ae,ad,rfl⟩:=YN h;rw[ae]at hS;exact hF.pan1 hq S ah (Wt hS ad);rintro d S' ⟨hd,_⟩;cases hd;intro q a m hm z u;split at u<;>simp at u;intro q a m id hm z u;split at u<;>simp at u;intro q a m d hm z u hB hq;subst hB;rw[Qt hq];have ak:Zc3 fs (f.size.terms.getD m dE)=false:=by split at u;simp at u;rename_i h;simpa using h
    have ab:f.size.terms.all (Zc3 fs)=false:=by apply List.all_eq_false.2;exact⟨_,Zm hm,by rw[ak];simp⟩
    rw[ab,ZH7]at hS;split at u;simp at u;simp at u;subst u;exact hF.pan1 hq S ah (Wt hS Ztc);intro m c u;split at u<;>simp at u
   rintro d S' ⟨y,hy,hd,_⟩;cases hd
  rintro d S' ⟨b,hb,hd,_⟩;cases hd
 rintro d S h;obtain⟨hv,ad,rfl⟩:=YN h;rw[hv,ZH7]at hS;exact hF.pan S ZHH (Wt hS ad)
def ZcY(dl:List (Str×Int))(high:Int):Int->List Yw->Bool
 |_,[]=>true
 |low,c::r=>YI low high [c.low,c.high]&&((Zw c.of dl).isSome&&ZcY dl high (c.high+1) r)
def Zf8(fs:List Fld)(f:Fld):Bool:=fs.any λo=>dC (o.kind=9)&&dC (o.tag=f.tag)
def Zjw(fs:List Fld)(dl:List (Str×Int))(f:Fld):Bool :=
 ((Zw f.tag (QV fs)).isSome&&!Zf8 fs f)&&((dC (1<=(I f.cases:Int))&&dC ((I f.cases:Int)<=40))&&ZcY dl ((Zw f.tag (QV fs)).getD (0,0)).2 ((Zw f.tag (QV fs)).getD (0,0)).1 f.cases)
def ZlM{o:Fld}(f:Fld)(y st)(n:st y=sO (.cells f.cells)):ZU ZHF 334 [.agg o.cells,.ptr y 0] st (.bool (dC (o.kind=9)&&dC (o.tag=f.tag))) st:=by
 refine ZK (cR 334 f334) λj F i=>?_;clear j;refine rx @eQ0 ?_;refine rx (nd2 @n @eQ0) ?_;exact i rfl φ (ZHL _) ZHH
def Zzh(a b):ZQ inC (ZY [.i 0] ([0,1].zip [.i a,.i b])) [a,b]:=λi j=>by
 match i,j with
 |0,_=>rfl
 |1,_=>rfl
def ZdN{x bd bs}{k:Ck}{st}(i:st x=sO (.cells (k.cells bd bs)))(low high a b):Ze ZHF 300 [.ptr x 0,.i low,.i high,.sl .full 2 1 (ZY [.i 0] ([0,1].zip [.i a,.i b]))] st (WI (YI low high [a,b]) st) :=
 Ze.leA (.cons (ZHL _) (.cons (ZHL _) (.cons (ZHL _) (LeC.one ((Zzh a b).le rfl))))) (ZfW i low high [a,b])
def Q3{x bd bs}{k:Ck}{st}(i:st x=sO (.cells (k.cells bd bs)))(low high a):Ze ZHF 300 [.ptr x 0,.i low,.i high,.sl .full 1 1 (ZY [.i 0] ([0].zip [.i a]))] st (WI (YI low high [a]) st) :=
 Ze.leA (.cons (ZHL _) (.cons (ZHL _) (.cons (ZHL _) (LeC.one ((ZQ.one (f:=inC) (x:=a) rfl).le rfl))))) (ZfW i low high [a])
def ZoQ{x bd bs k dl sl st}(hst:QF st x bd bs k dl sl){n:Nat}(hn:k.field=n)(hl:n<=I k.m.fields)(f)(hR:((Zw f.tag (QV (k.m.fields.take n))).getD (0,0)).2<4611686018427387904):
  Ze ZHF 317 [.ptr x 0,.agg f.cells] st (WI (Zjw (k.m.fields.take n) dl f) st):=by
 refine ZaH (cR 317 f317) λae F hF=>?_;have ai:=(ZCl (s:=f) (ae _ ψ)).cases;clear ae;have hx:=hst.x;have hS:=Zjw.eq_1 (k.m.fields.take n) dl f;generalize af:k.m.fields.take n=fs at *;have e1:=We (vD:=QN) ZX f.tag (QV fs);have e3:=Wr ZX f.tag;simp only[show Qa f.tag=D.str f.tag from rfl]at e1 e3;refine rx @eQ0 ?_;refine rx @eQ0 ?_;refine tXD @af (Jc hx hn hl) ?_;refine cVD (ZfV fs st) ?_ ?_;rintro d S ⟨b,hb,hd,rfl⟩;cases hd;first|refine⟨by first|trivial|exact⟨rfl,rfl,trivial⟩|exact⟨rfl,trivial⟩,?_⟩|skip
 have hxb:x≠b:=λe=>by rw[e,hb]at hx;simp at hx
 generalize hr:(Zw f.tag (QV fs)).getD (0,0)=r at *;refine Yz ?_;simp only[Eqs,reduceCtorEq,ZHK,reduceIte,ZHI,ZHM,ZHJ,e1,e3,Zom,hr,ZHP,ZH4,YF,YG];refine Zd ?_;refine xP 3 λy hy=>?_;obtain⟨A,hA⟩:∃A,A=((st.upd b (.map (Zb4 (Zai fs (I fs))))).upd y (.cells f.cells)):=⟨_,rfl⟩;have z:st.sub A:=by rw[hA];exact ZIn (ZH6 _ hb) (ZH6 _ hy)
 have gy:A y=sO (.cells f.cells):=by rw[hA];exact ZHP _ _ _
 have ab:=hst.mono z;have ag:[D.str f.name,D.int IntKind.i64 f.kind,D.int IntKind.i64 f.bits,D.bool f.little,D.bool f.loose,D.int IntKind.i64 f.low,D.int IntKind.i64 f.high,D.int IntKind.i64 f.size.base,Yd f.size.terms,D.str f.of,D.str f.tag,D.str f.from_,Yk f.cases,D.int IntKind.i64 f.check,D.int IntKind.i64 f.key]=f.cells:=rfl;rw[ag,<-hA];clear hA hy;refine rg ?_;refine tX @af (Jc ab.x hn hl) ?_;refine ct (ZdR fs (.fn (.func 334) [] [.ptr y 0]) (λo=>dC (o.kind=9)&&dC (o.tag=f.tag)) (λ_=>A) (λi hi=>(ZlM f y A gy).VT (first:=[]) (args:=[_]) (caps:=[_]))) ?_;rw[show(fs.any λo=>dC (o.kind=9)&&dC (o.tag=f.tag))=Zf8 fs f from rfl];refine rg ?_;refine cV (Z0 ab.x ((Zw f.tag (QV fs)).isSome&&!Zf8 fs f) 8) ?_ ?_;rintro d S h;obtain⟨j,rfl,rfl⟩:=YO h;rw[j,ZH3]at hS;refine gR0 ?_;refine rx (nd2 @gy (nd2 @eQ0 (nd2 @Yk.eq_1 @eQ1))) ?_;refine cV (Z0 ab.x (dC (1<=(I f.cases:Int))&&dC ((I f.cases:Int)<=40)) 3) ?_ ?_;rintro d S2 h;obtain⟨j,rfl,rfl⟩:=YO h;rw[j,ZH3]at hS;simp only[ZHN,decide_eq_true_eq]at j;refine gR0 ?_;refine rg ?_;refine rx (nd2 @gy (nd2 @eQ0 (nd2 @Yk.eq_1 @eQ1))) ?_;refine Zb (fr (I f.cases) (λi Q=>∀lo,ZcY dl r.2 r.1 f.cases=ZcY dl r.2 lo (f.cases.drop i)->i<=I f.cases->Q [(0,.d (.ptr x 0)),(4,.loc 4 0),(7,.d (.i lo)),(45,.d (Yk f.cases)),(46,.d (.i (I f.cases))),(47,.d (.i i))] [(4,[.i r.1,.i r.2])] S2) (λn ad=>?_) λah=>?_);intro i hni lo hL hi;refine rg ?_;refine Zd (Zt rfl trivial (λh1=>?_) (λh1=>?_));simp at h1;rw[Ww h1,ZcY]at hL;have hcb:-9223372036854775808<=(f.cases.getD i dE).high/\(f.cases.getD i dE).high<=9223372036854775807:=(ai _ (Zm h1)).high;generalize hc:f.cases.getD i dE=c at *;refine xA (nd2 @Yk.eq_1 (nd2 @eQ1 (nd2 @eQ9 @hc))) ?_;refine rx @eQ9 ?_;refine cV (ZdN ab.x lo r.2 c.low c.high) ?_ ?_;rintro d S3 h;obtain⟨u,rfl,rfl⟩:=YO h;rw[u,ZH3]at hL;simp only[YI,Bool.and_true,ZHN,decide_eq_true_eq]at u;refine gR0 ?_;refine rx @eQ9 ?_;refine cV (Zdh ab c.of) ?_ ?_;rintro d S4 h;obtain⟨ac,rfl,rfl⟩:=YO h;rw[ac,ZH3]at hL;refine gR0 ?_;refine xA @eQ9 ?_;refine gA ?_;refine Za ?_;exact ad ((I f.cases)-(i+1)) ω (i+1) rfl (c.high+1) hL ω;rintro d S4 h;obtain⟨ac,t,rfl⟩:=YN h;rw[ac,ZH7]at hL;exact hF.pan st z (Wt (hS.trans hL) t);rintro d S3 h;obtain⟨u,t,rfl⟩:=YN h;rw[u,ZH7]at hL;exact hF.pan st z (Wt (hS.trans hL) t);simp at h1;obtain rfl:i=I f.cases:=ω;rw[List.drop_length,ZcY]at hL;refine ZR rfl ?_;exact hF.fin (.tup []) st rfl trivial (ZHL _) z (ZbQ (hS.trans hL));exact ah _ 0 rfl r.1 rfl ω;rintro d S2 h;obtain⟨j,t,rfl⟩:=YN h;rw[j,ZH7]at hS;exact hF.pan st z (Wt hS t);rintro d S h;obtain⟨j,t,rfl⟩:=YN h;rw[j,ZH7]at hS;exact hF.pan st z (Wt hS t);rintro d S ⟨b,hb,hd,_⟩;cases hd
def ZsM(f:Fld):Fld:={ f with bits:=0,little:=false,low:=0,high:=0 }
def ZlO(f y s)(j:s y=sO (.cells f.cells)):ZU ZHF 297 [.ptr y 0] s (.tup []) (s.upd y (.cells (ZsM f).cells)):=by
 refine Zh (cR 297 f297) λF i=>?_;refine rx (nd2 @j (nd2 @eQ0 (nd2 @ZHP (nd2 @ZH4 (nd2 @YF @YG))))) ?_;exact i.fin (.tup []) _ rfl trivial (ZHL _) ZHH ⟨rfl,rfl⟩
def ZsN(f:Fld):Fld:={ f with bits:=0,little:=false,low:=0 }
def ZlQ(f y s)(j:s y=sO (.cells f.cells)):ZU ZHF 301 [.ptr y 0] s (.tup []) (s.upd y (.cells (ZsN f).cells)):=by
 refine Zh (cR 301 f301) λF i=>?_;refine rx (nd2 @j (nd2 @eQ0 (nd2 @ZHP (nd2 @ZH4 (nd2 @YF @YG))))) ?_;exact i.fin (.tup []) _ rfl trivial (ZHL _) ZHH ⟨rfl,rfl⟩
def ZsO(f:Fld):Fld:={ f with loose:=false,low:=0,high:=0 }
def ZlS(f y s)(j:s y=sO (.cells f.cells)):ZU ZHF 303 [.ptr y 0] s (.tup []) (s.upd y (.cells (ZsO f).cells)):=by
 refine Zh (cR 303 f303) λF i=>?_;refine rx (nd2 @j (nd2 @eQ0 (nd2 @ZHP (nd2 @ZH4 (nd2 @YF @YG))))) ?_;exact i.fin (.tup []) _ rfl trivial (ZHL _) ZHH ⟨rfl,rfl⟩
def ZnI(f:Fld):Fld:={ f with size:=⟨0,[]⟩ }
def ZlU(f y s)(j:s y=sO (.cells f.cells)):ZU ZHF 305 [.ptr y 0] s (.tup []) (s.upd y (.cells (ZnI f).cells)):=by
 refine Zh (cR 305 f305) λF i=>?_;refine rx (nd2 @j (nd2 @eQ0 (nd2 @ZHP (nd2 @ZH4 (nd2 @YF @YG))))) ?_;refine ZaI (ds':=(ZnI f).cells) (ZHP _ _ _) (.cons (ZHL _) (.cons (ZHL _) (.cons (ZHL _) (.cons (ZHL _) (.cons (ZHL _) (.cons (ZHL _) (.cons (ZHL _) (.cons (ZHL _) (.cons (Y3 ψ) (.cons (ZHL _) (.cons (ZHL _) (.cons (ZHL _) (.cons (ZHL _) (.cons (ZHL _) (.cons (ZHL _) (.nil)))))))))))))))) ?_;rw[ZH4];exact i.fin (.tup []) _ rfl trivial (ZHL _) ZHH ⟨rfl,rfl⟩
def ZsP(f:Fld):Fld:={ f with low:=0,high:=0 }
def ZlV(f y s)(j:s y=sO (.cells f.cells)):ZU ZHF 307 [.ptr y 0] s (.tup []) (s.upd y (.cells (ZsP f).cells)):=by
 refine Zh (cR 307 f307) λF i=>?_;refine rx (nd2 @j (nd2 @eQ0 (nd2 @ZHP (nd2 @ZH4 (nd2 @YF @YG))))) ?_;exact i.fin (.tup []) _ rfl trivial (ZHL _) ZHH ⟨rfl,rfl⟩
def ZsQ(f:Fld):Fld:={ f with loose:=false,high:=0 }
def Zkm(f y s)(j:s y=sO (.cells f.cells)):ZU ZHF 309 [.ptr y 0] s (.tup []) (s.upd y (.cells (ZsQ f).cells)):=by
 refine Zh (cR 309 f309) λF i=>?_;refine rx (nd2 @j (nd2 @eQ0 (nd2 @ZHP (nd2 @ZH4 (nd2 @YF @YG))))) ?_;exact i.fin (.tup []) _ rfl trivial (ZHL _) ZHH ⟨rfl,rfl⟩
def ZnJ(f:Fld):Fld:={ f with of:=[],size:=⟨0,[]⟩ }
def Zko(f y s)(j:s y=sO (.cells f.cells)):ZU ZHF 311 [.ptr y 0] s (.tup []) (s.upd y (.cells (ZnJ f).cells)):=by
 refine Zh (cR 311 f311) λF i=>?_;refine rx (nd2 @j (nd2 @eQ0 (nd2 @ZHP (nd2 @ZH4 (nd2 @YF @YG))))) ?_;refine ZaI (ds':=(ZnJ f).cells) (ZHP _ _ _) (.cons (ZHL _) (.cons (ZHL _) (.cons (ZHL _) (.cons (ZHL _) (.cons (ZHL _) (.cons (ZHL _) (.cons (ZHL _) (.cons (ZHL _) (.cons (Y3 ψ) (.cons (ZHL _) (.cons (ZHL _) (.cons (ZHL _) (.cons (ZHL _) (.cons (ZHL _) (.cons (ZHL _) (.nil)))))))))))))))) ?_;rw[ZH4];exact i.fin (.tup []) _ rfl trivial (ZHL _) ZHH ⟨rfl,rfl⟩
def ZsR(f:Fld):Fld:={ f with of:=[] }
def Zkq(f y s)(j:s y=sO (.cells f.cells)):ZU ZHF 314 [.ptr y 0] s (.tup []) (s.upd y (.cells (ZsR f).cells)):=by
 refine Zh (cR 314 f314) λF i=>?_;refine rx (nd2 @j (nd2 @eQ0 (nd2 @ZHP (nd2 @ZH4 (nd2 @YF @YG))))) ?_;exact i.fin (.tup []) _ rfl trivial (ZHL _) ZHH ⟨rfl,rfl⟩
def ZnK(f:Fld):Fld:={ f with tag:=[],cases:=[] }
def Zks(f y s)(j:s y=sO (.cells f.cells)):ZU ZHF 316 [.ptr y 0] s (.tup []) (s.upd y (.cells (ZnK f).cells)):=by
 refine Zh (cR 316 f316) λF i=>?_;refine rx (nd2 @j (nd2 @eQ0 (nd2 @ZHP (nd2 @ZH4 (nd2 @YF @YG))))) ?_;refine ZaI (ds':=(ZnK f).cells) (ZHP _ _ _) (.cons (ZHL _) (.cons (ZHL _) (.cons (ZHL _) (.cons (ZHL _) (.cons (ZHL _) (.cons (ZHL _) (.cons (ZHL _) (.cons (ZHL _) (.cons (ZHL _) (.cons (ZHL _) (.cons (ZHL _) (.cons (ZHL _) (.cons (Y3 ψ) (.cons (ZHL _) (.cons (ZHL _) (.nil)))))))))))))))) ?_;rw[ZH4];exact i.fin (.tup []) _ rfl trivial (ZHL _) ZHH ⟨rfl,rfl⟩
def ZpA(f:Fld):Fld:={ f with bits:=0 }
def Zkt(f y s)(j:s y=sO (.cells f.cells)):ZU ZHF 318 [.ptr y 0] s (.tup []) (s.upd y (.cells (ZpA f).cells)):=by
 refine Zh (cR 318 f318) λF i=>?_;refine rx (nd2 @j (nd2 @eQ0 (nd2 @ZHP (nd2 @ZH4 (nd2 @YF @YG))))) ?_;exact i.fin (.tup []) _ rfl trivial (ZHL _) ZHH ⟨rfl,rfl⟩
def ZpB(f:Fld):Fld:={ f with from_:=[],check:=0 }
def Zkv(f y s)(j:s y=sO (.cells f.cells)):ZU ZHF 320 [.ptr y 0] s (.tup []) (s.upd y (.cells (ZpB f).cells)):=by
 refine Zh (cR 320 f320) λF i=>?_;refine rx (nd2 @j (nd2 @eQ0 (nd2 @ZHP (nd2 @ZH4 (nd2 @YF @YG))))) ?_;exact i.fin (.tup []) _ rfl trivial (ZHL _) ZHH ⟨rfl,rfl⟩
def Zle(f:Fld):Fld:={ f with of:=[],size:=⟨0,[]⟩,key:=0 }
def Zkx(f y s)(j:s y=sO (.cells f.cells)):ZU ZHF 322 [.ptr y 0] s (.tup []) (s.upd y (.cells (Zle f).cells)):=by
 refine Zh (cR 322 f322) λF i=>?_;refine rx (nd2 @j (nd2 @eQ0 (nd2 @ZHP (nd2 @ZH4 (nd2 @YF @YG))))) ?_;refine ZaI (ds':=(Zle f).cells) (ZHP _ _ _) (.cons (ZHL _) (.cons (ZHL _) (.cons (ZHL _) (.cons (ZHL _) (.cons (ZHL _) (.cons (ZHL _) (.cons (ZHL _) (.cons (ZHL _) (.cons (Y3 ψ) (.cons (ZHL _) (.cons (ZHL _) (.cons (ZHL _) (.cons (ZHL _) (.cons (ZHL _) (.cons (ZHL _) (.nil)))))))))))))))) ?_;rw[ZH4];exact i.fin (.tup []) _ rfl trivial (ZHL _) ZHH ⟨rfl,rfl⟩
def ck1(f:Fld):Bool:=ZdY f&&YI 0 (2 ^ f.bits.toNat-1) [f.low,f.high]
def ck2(f:Fld):Bool:=ZdY f&&YI 0 (2 ^ f.bits.toNat-1) [f.low]
def ck3(f:Fld):Bool:=YI 0 34359738367 [f.low,f.high]
def ck5(f:Fld):Bool:=YI 0 255 [f.low]&&YI 0 1048576 [f.high]
def ck6(f:Fld):Bool:=YI 2 1048576 [f.high]
def ck7(fs:List Fld)(dl:List (Str×Int))(f:Fld):Bool:=(Zw f.of dl).isSome&&Zf1 fs f.size
def ck8(dl:List (Str×Int))(f:Fld):Bool:=(Zw f.of dl).isSome
def Zwi(f:Fld):Bool:=dC (f.bits=2) ||decide (f.bits=4) ||(dC (8<=f.bits)&&dC (f.bits<=512)&&dC (f.bits.tmod 8=0))
def Zwj(fs:List Fld)(f:Fld):Bool:=YI 1 3 [f.check]&&dC (0<=Zi (λx=>dC (x.name=f.from_)) fs)
def Zwk(fs:List Fld)(sl:List (Str×Bool))(f:Fld):Bool:=YI 0 4294967295 [f.key]&&((Zw f.of sl).getD false&&Zf1 fs f.size)
def Zen(f:Fld):D.agg [D.str f.name,D.int IntKind.i64 f.kind,D.int IntKind.i64 f.bits,D.bool f.little,D.bool f.loose,D.int IntKind.i64 f.low,D.int IntKind.i64 f.high,D.int IntKind.i64 f.size.base,Yd f.size.terms,D.str f.of,D.str f.tag,D.str f.from_,Yk f.cases,D.int IntKind.i64 f.check,D.int IntKind.i64 f.key]=.agg f.cells:=rfl
def ZlP{x bd bs k dl sl st}(z:QF st x bd bs k dl sl){n:Nat}(hn:k.field=n)(hl:n<=I k.m.fields)(f):
  Ze ZHF 298 [.ptr x 0,.agg f.cells] st (WI (ck1 f) st):=by
 refine Zh (cR 298 f298) λF hF=>?_;have u:=ck1.eq_1 f;refine rx @eQ0 ?_;refine rx @eQ0 ?_;simp only[Zen];refine cV (ZhN z.x f) ?_ ?_;rintro d S h;obtain⟨i,rfl,rfl⟩:=YO h;rw[i,ZH3]at u;first|refine⟨by first|trivial|exact⟨rfl,trivial⟩,?_⟩|skip
 refine gR0 ?_;have hb1:1<=f.bits/\f.bits<=32:=by unfold ZdY at i;simp only[ZHN,decide_eq_true_eq]at i;exact i.1
 have t:=ZAC (b:=f.bits) ω ω;have h2p:=ZeG (b:=f.bits) ω ω;refine rx @eQ0 ?_;rw[t];generalize hpw:(2:Int) ^ f.bits.toNat=pw at *;refine⟨ω,ω,ω,ω,ω,?_⟩;refine cV0 (ZdN z.x 0 (pw-1) f.low f.high) ?_ ?_;rintro d S h;obtain⟨i,rfl,rfl⟩:=YO h;rw[i]at u;refine gR0 ?_;exact hF.fin (.tup []) _ rfl trivial (ZHL _) ZHH (ZbQ u);rintro d S h;obtain⟨i,j,rfl⟩:=YN h;rw[i]at u;exact hF.pan _ ZHH (Wt u j);rintro d S h;obtain⟨i,j,rfl⟩:=YN h;rw[i,ZH7]at u;exact hF.pan _ ZHH (Wt u j)
def ZlR{x bd bs k dl sl st}(z:QF st x bd bs k dl sl){n:Nat}(hn:k.field=n)(hl:n<=I k.m.fields)(f):
  Ze ZHF 302 [.ptr x 0,.agg f.cells] st (WI (ck2 f) st):=by
 refine Zh (cR 302 f302) λF hF=>?_;have u:=ck2.eq_1 f;refine rx @eQ0 ?_;refine rx @eQ0 ?_;simp only[Zen];refine cV (ZhN z.x f) ?_ ?_;rintro d S h;obtain⟨i,rfl,rfl⟩:=YO h;rw[i,ZH3]at u;first|refine⟨by first|trivial|exact⟨rfl,trivial⟩,?_⟩|skip
 refine gR0 ?_;have hb1:1<=f.bits/\f.bits<=32:=by unfold ZdY at i;simp only[ZHN,decide_eq_true_eq]at i;exact i.1
 have t:=ZAC (b:=f.bits) ω ω;have h2p:=ZeG (b:=f.bits) ω ω;refine rx @eQ0 ?_;rw[t];generalize hpw:(2:Int) ^ f.bits.toNat=pw at *;refine⟨ω,ω,ω,ω,ω,?_⟩;refine cV0 (Q3 z.x 0 (pw-1) f.low) ?_ ?_;rintro d S h;obtain⟨i,rfl,rfl⟩:=YO h;rw[i]at u;refine gR0 ?_;exact hF.fin (.tup []) _ rfl trivial (ZHL _) ZHH (ZbQ u);rintro d S h;obtain⟨i,j,rfl⟩:=YN h;rw[i]at u;exact hF.pan _ ZHH (Wt u j);rintro d S h;obtain⟨i,j,rfl⟩:=YN h;rw[i,ZH7]at u;exact hF.pan _ ZHH (Wt u j)
def ZlT{x bd bs k dl sl st}(u:QF st x bd bs k dl sl){n:Nat}(hn:k.field=n)(hl:n<=I k.m.fields)(f):
  Ze ZHF 304 [.ptr x 0,.agg f.cells] st (WI (ck3 f) st):=by
 refine Zh (cR 304 f304) λF z=>?_;have t:=ck3.eq_1 f;refine rx @eQ0 ?_;refine rx @eQ0 ?_;refine cV (ZdN u.x 0 34359738367 f.low f.high) ?_ ?_;rintro d S h;obtain⟨i,rfl,rfl⟩:=YO h;rw[i]at t;refine gR0 ?_;exact z.fin (.tup []) _ rfl trivial (ZHL _) ZHH (ZbQ t);rintro d S h;obtain⟨i,j,rfl⟩:=YN h;rw[i]at t;exact z.pan _ ZHH (Wt t j)
def ZlW{x bd bs k dl sl st}(u:QF st x bd bs k dl sl){n:Nat}(hn:k.field=n)(hl:n<=I k.m.fields)(f):
  Ze ZHF 308 [.ptr x 0,.agg f.cells] st (WI (ck5 f) st):=by
 refine Zh (cR 308 f308) λF z=>?_;have t:=ck5.eq_1 f;refine rx @eQ0 ?_;refine rx @eQ0 ?_;refine cV (Q3 u.x 0 255 f.low) ?_ ?_;rintro d S h;obtain⟨i,rfl,rfl⟩:=YO h;rw[i,ZH3]at t;first|refine⟨by first|trivial|exact⟨rfl,trivial⟩,?_⟩|skip
 refine gR0 ?_;refine rx @eQ0 ?_;refine cV (Q3 u.x 0 1048576 f.high) ?_ ?_;rintro d S h;obtain⟨i,rfl,rfl⟩:=YO h;rw[i]at t;refine gR0 ?_;exact z.fin (.tup []) _ rfl trivial (ZHL _) ZHH (ZbQ t);rintro d S h;obtain⟨i,j,rfl⟩:=YN h;rw[i]at t;exact z.pan _ ZHH (Wt t j);rintro d S h;obtain⟨i,j,rfl⟩:=YN h;rw[i,ZH7]at t;exact z.pan _ ZHH (Wt t j)
def Zkn{x bd bs k dl sl st}(u:QF st x bd bs k dl sl){n:Nat}(hn:k.field=n)(hl:n<=I k.m.fields)(f):
  Ze ZHF 310 [.ptr x 0,.agg f.cells] st (WI (ck6 f) st):=by
 refine Zh (cR 310 f310) λF z=>?_;have t:=ck6.eq_1 f;refine rx @eQ0 ?_;refine rx @eQ0 ?_;refine cV (Q3 u.x 2 1048576 f.high) ?_ ?_;rintro d S h;obtain⟨i,rfl,rfl⟩:=YO h;rw[i]at t;refine gR0 ?_;exact z.fin (.tup []) _ rfl trivial (ZHL _) ZHH (ZbQ t);rintro d S h;obtain⟨i,j,rfl⟩:=YN h;rw[i]at t;exact z.pan _ ZHH (Wt t j)
def Zkp{x bd bs k dl sl st}(u:QF st x bd bs k dl sl){n:Nat}(hn:k.field=n)(hl:n<=I k.m.fields)(f):
  Ze ZHF 312 [.ptr x 0,.agg f.cells] st (WI (ck7 (k.m.fields.take n) dl f) st):=by
 refine Zh (cR 312 f312) λF z=>?_;have t:=ck7.eq_1 (k.m.fields.take n) dl f;refine rx @eQ0 ?_;refine rx @eQ0 ?_;refine cV (Zdh u f.of) ?_ ?_;rintro d S h;obtain⟨i,rfl,rfl⟩:=YO h;rw[i,ZH3]at t;first|refine⟨by first|trivial|exact⟨rfl,trivial⟩,?_⟩|skip
 refine gR0 ?_;refine rx @eQ0 ?_;simp only[Zen];refine cV (Zdi u.x hn hl f) ?_ ?_;rintro d S h;obtain⟨i,rfl,rfl⟩:=YO h;rw[i]at t;refine gR0 ?_;exact z.fin (.tup []) _ rfl trivial (ZHL _) ZHH (ZbQ t);rintro d S h;obtain⟨i,j,rfl⟩:=YN h;rw[i]at t;exact z.pan _ ZHH (Wt t j);rintro d S h;obtain⟨i,j,rfl⟩:=YN h;rw[i,ZH7]at t;exact z.pan _ ZHH (Wt t j)
def Zkr{x bd bs k dl sl st}(u:QF st x bd bs k dl sl){n:Nat}(hn:k.field=n)(hl:n<=I k.m.fields)(f):
  Ze ZHF 315 [.ptr x 0,.agg f.cells] st (WI (ck8 dl f) st):=by
 refine Zh (cR 315 f315) λF z=>?_;have t:=ck8.eq_1 dl f;refine rx @eQ0 ?_;refine rx @eQ0 ?_;refine cV (Zdh u f.of) ?_ ?_;rintro d S h;obtain⟨i,rfl,rfl⟩:=YO h;rw[i]at t;refine gR0 ?_;exact z.fin (.tup []) _ rfl trivial (ZHL _) ZHH (ZbQ t);rintro d S h;obtain⟨i,j,rfl⟩:=YN h;rw[i]at t;exact z.pan _ ZHH (Wt t j)
def Zku{x bd bs k dl sl st}(u:QF st x bd bs k dl sl){n:Nat}(hn:k.field=n)(hl:n<=I k.m.fields)(f):
  Ze ZHF 319 [.ptr x 0,.agg f.cells] st (WI (Zwi f) st):=by
 refine Zh (cR 319 f319) λF z=>?_;have t:=Zwi.eq_1 f;refine rx @eQ0 ?_;refine rx @eQ0 ?_;have ht1:=Int.tmod_lt_of_pos f.bits (by decide:(0:Int)<8);have ht2:=Int.lt_tmod_of_pos f.bits (by decide:(0:Int)<8);refine⟨λ_=>⟨by decide,ω,ω⟩,?_⟩;refine cV (Z0 u.x (dC (f.bits=2) ||decide (f.bits=4) ||decide (8<=f.bits)&&dC (f.bits<=512)&&dC (f.bits.tmod 8=0)) 6) ?_ ?_;rintro d S h;obtain⟨i,rfl,rfl⟩:=YO h;rw[i]at t;refine gR0 ?_;exact z.fin (.tup []) _ rfl trivial (ZHL _) ZHH (ZbQ t);rintro d S h;obtain⟨i,j,rfl⟩:=YN h;rw[i]at t;exact z.pan _ ZHH (Wt t j)
def Zkw{x bd bs k dl sl st}(t:QF st x bd bs k dl sl){n:Nat}(hn:k.field=n)(hl:n<=I k.m.fields)(f):
  Ze ZHF 321 [.ptr x 0,.agg f.cells] st (WI (Zwj (k.m.fields.take n) f) st):=by
 refine Zh (cR 321 f321) λF z=>?_;have u:=Zwj.eq_1 (k.m.fields.take n) f;refine rx @eQ0 ?_;refine rx @eQ0 ?_;refine cV (Q3 t.x 1 3 f.check) ?_ ?_;rintro d S h;obtain⟨i,rfl,rfl⟩:=YO h;rw[i,ZH3]at u;first|refine⟨by first|trivial|exact⟨rfl,trivial⟩,?_⟩|skip
 refine gR0 ?_;refine rx @eQ0 ?_;refine tXD (nd2 @eQ5 @eQ1) (Jc t.x hn hl) ?_;refine clD ((Zdg ⟨[],k.m.fields.take n⟩ f.from_)) ?_;refine rg ?_;refine cV (Z0 t.x (dC (0<=Zi (λx=>dC (x.name=f.from_)) (k.m.fields.take n))) 8) ?_ ?_;rintro d S h;obtain⟨i,rfl,rfl⟩:=YO h;rw[i]at u;refine gR0 ?_;exact z.fin (.tup []) _ rfl trivial (ZHL _) ZHH (ZbQ u);rintro d S h;obtain⟨i,j,rfl⟩:=YN h;rw[i]at u;exact z.pan _ ZHH (Wt u j);rintro d S h;obtain⟨i,j,rfl⟩:=YN h;rw[i,ZH7]at u;exact z.pan _ ZHH (Wt u j)
def Zky{x bd bs k dl sl st}(t:QF st x bd bs k dl sl){n:Nat}(hn:k.field=n)(hl:n<=I k.m.fields)(f):
  Ze ZHF 323 [.ptr x 0,.agg f.cells] st (WI (Zwk (k.m.fields.take n) sl f) st):=by
 refine Zh (cR 323 f323) λF z=>?_;have u:=Zwk.eq_1 (k.m.fields.take n) sl f;refine rx @eQ0 ?_;refine rx @eQ0 ?_;refine cV (Q3 t.x 0 4294967295 f.key) ?_ ?_;rintro d S h;obtain⟨i,rfl,rfl⟩:=YO h;rw[i,ZH3]at u;first|refine⟨by first|trivial|exact⟨rfl,trivial⟩,?_⟩|skip
 refine gR0 ?_;have e1:=We (vD:=D.bool) ZX f.of sl;have e3:=Wr ZX f.of;simp only[show Qa f.of=D.str f.of from rfl]at e1 e3;refine rh ?_;refine YT ?_;simp only[Eqs,reduceCtorEq,ZHK,reduceIte,ZHI,ZHM,ZHJ,Fld.cells,t.x,t.bs,Ck.cells,e1,e3,Zm3];refine cV0 (Z0 t.x ((Zw f.of sl).getD false) 8) ?_ ?_;rintro d S h;obtain⟨i,rfl,rfl⟩:=YO h;rw[i,ZH3]at u;first|refine⟨by first|trivial|exact⟨rfl,trivial⟩,?_⟩|skip
 refine gR0 ?_;refine rx @eQ0 ?_;simp only[Zen];refine cV (Zdi t.x hn hl f) ?_ ?_;rintro d S h;obtain⟨i,rfl,rfl⟩:=YO h;rw[i]at u;refine gR0 ?_;exact z.fin (.tup []) _ rfl trivial (ZHL _) ZHH (ZbQ u);rintro d S h;obtain⟨i,j,rfl⟩:=YN h;rw[i]at u;exact z.pan _ ZHH (Wt u j);rintro d S h;obtain⟨i,j,rfl⟩:=YN h;rw[i,ZH7]at u;exact z.pan _ ZHH (Wt u j);rintro d S h;obtain⟨i,j,rfl⟩:=YN h;rw[i,ZH7]at u;exact z.pan _ ZHH (Wt u j)
def ZyI(f:Fld):List D:=[.str f.name,.str f.of,.str f.tag,.str f.from_,.i f.kind,.i f.bits,.i f.low,.i f.high,.i f.size.base,.i f.check,.i f.key,.bool f.little,.bool f.loose]
def ZgA(f):Zc ZHF 324 [.agg f.cells] (.agg (ZyI f)):=by
 refine Zg (cR 324 f324) λF st i=>?_;refine rx @eQ0 ?_;refine rx @eQ0 ?_;exact i rfl (by first|trivial|simp) (ZHL _) ZHH
def Zje(a b:Fld):Zc ZHF 288 [.agg a.cells,.agg b.cells] (.bool (dC (a=b))):=by
 refine Zg (cR 288 f288) λF st j=>?_;refine rx @eQ0 ?_;refine rx @eQ0 ?_;simp only[Zen];refine clD (ZgA a) ?_;refine cXD @ZyI.eq_1 (ZgA b) ?_;refine cGD (ZiO a.size.terms b.size.terms) ?_;refine cGD (ZiN a.cases b.cases) ?_;refine j rfl φ (Zfg ?_) ZHH;rw[Bool.eq_iff_iff];simp only[ZHN,decide_eq_true_eq];constructor;rintro⟨⟨⟨h1,h2,h3,h4,h5,h6,h7,h8,h9,i,u,t,ab⟩,n⟩,z⟩;obtain⟨n1,k1,b1,l1,o1,lo1,hi1,⟨sb1,st1⟩,of1,t1,f1,c1,ch1,ke1⟩:=a;obtain⟨n2,k2,b2,l2,o2,lo2,hi2,⟨sb2,st2⟩,of2,t2,f2,c2,ch2,ke2⟩:=b;simp only at h1 h2 h3 h4 h5 h6 h7 h8 h9 i u t ab n z;subst h1;subst h2;subst h3;subst h4;subst h5;subst h6;subst h7;subst h8;subst h9;subst i;subst u;subst t;subst ab;subst n;subst z;rfl;rintro rfl;simp
abbrev Zr1(x:Nat×Nat):D:=.agg [.fn (.func x.1) [] [],.fn (.func x.2) [] []]
def Zix:List (Int×(Nat×Nat)):=[(1,(297,298)),(2,(301,302)),(3,(303,304)),(4,(305,306)),(5,(307,308)),(6,(309,310)),(7,(311,312)),(8,(314,315)),(9,(316,317)),(10,(318,319)),(11,(320,321)),(12,(322,323))]
def ZoR(st):Ze ZHF 287 [] st λr S=>∃b,st b=nO/\r=.ret (.map b)/\S=st.upd b (.map (Qv KL Zr1 Zix)):=by
 refine Zh (cR 287 f287) λF i=>?_;refine rg ?_;refine rh ?_;refine Zn ?_;simp only[Eqs,reduceCtorEq,ZHK,reduceIte,ZHI,ZHM,ZHJ,ZaE,ZIp,decide_false,ZHP,ZH4,YF,YG];intro b j;exact i.ret _ _ rfl φ (ZHL _) ZHH ⟨b,j,rfl,rfl⟩
def Zfj(n:Str)(k:Int):Fld:=⟨n,k,0,false,false,0,0,⟨0,[]⟩,[],[],[],[],0,0⟩
def Zfx(f:Fld):Fld :=
 if f.kind=1 then ZsM f else if f.kind=2 then ZsN f else if f.kind=3 then ZsO f else if f.kind=4 then ZnI f else if f.kind=5 then ZsP f else if f.kind=6 then ZsQ f
 else if f.kind=7 then ZnJ f else if f.kind=8 then ZsR f else if f.kind=9 then ZnK f else if f.kind=10 then ZpA f else if f.kind=11 then ZpB f else Zle f
def Zft(fs:List Fld)(dl:List (Str×Int))(sl:List (Str×Bool))(f:Fld):Bool :=
 if f.kind=1 then ck1 f else if f.kind=2 then ck2 f else if f.kind=3 then ck3 f else if f.kind=4 then Zf1 fs f.size else if f.kind=5 then ck5 f else if f.kind=6 then ck6 f
 else if f.kind=7 then ck7 fs dl f else if f.kind=8 then ck8 dl f else if f.kind=9 then Zjw fs dl f else if f.kind=10 then Zwi f else if f.kind=11 then Zwj fs f else Zwk fs sl f
def JJ(f:Fld):Bool:=dC (1<=f.kind)&&dC (f.kind<=12)
def ZBv{x bd bs k dl sl st}(j:QF st x bd bs k dl sl){n:Nat}(hn:k.field=n)(z:n<=I k.m.fields)(f)(hR:((Zw f.tag (QV (k.m.fields.take n))).getD (0,0)).2<4611686018427387904)(hk:JJ f=true):
  ∃c q,Zw f.kind Zix=sO (c,q)/\(∀y s,s y=sO (.cells f.cells)->ZU ZHF c [.ptr y 0] s (.tup []) (s.upd y (.cells (Zfx f).cells))) /\
   ∀A,st.sub A->Ze ZHF q [.ptr x 0,.agg f.cells] A (WI (Zft (k.m.fields.take n) dl sl f) A):=by
 unfold JJ at hk;simp only[ZHN,decide_eq_true_eq]at hk;have i:f.kind=1\/f.kind=2\/f.kind=3\/f.kind=4\/f.kind=5\/f.kind=6\/f.kind=7\/f.kind=8\/f.kind=9\/f.kind=10\/f.kind=11\/f.kind=12:=ω;unfold Zfx Zft;rcases i with h|h|h|h|h|h|h|h|h|h|h|h<;>simp only[h,ZIp,if_true,if_false];exact⟨_,_,rfl,λy s t=>ZlO f y s t,λA u=>ZlP (j.mono u) hn z f⟩;exact⟨_,_,rfl,λy s t=>ZlQ f y s t,λA u=>ZlR (j.mono u) hn z f⟩;exact⟨_,_,rfl,λy s t=>ZlS f y s t,λA u=>ZlT (j.mono u) hn z f⟩;exact⟨_,_,rfl,λy s t=>ZlU f y s t,λA u=>Zdi (j.mono u).x hn z f⟩;exact⟨_,_,rfl,λy s t=>ZlV f y s t,λA u=>ZlW (j.mono u) hn z f⟩;exact⟨_,_,rfl,λy s t=>Zkm f y s t,λA u=>Zkn (j.mono u) hn z f⟩;exact⟨_,_,rfl,λy s t=>Zko f y s t,λA u=>Zkp (j.mono u) hn z f⟩;exact⟨_,_,rfl,λy s t=>Zkq f y s t,λA u=>Zkr (j.mono u) hn z f⟩;exact⟨_,_,rfl,λy s t=>Zks f y s t,λA u=>ZoQ (j.mono u) hn z f hR⟩;exact⟨_,_,rfl,λy s t=>Zkt f y s t,λA u=>Zku (j.mono u) hn z f⟩;exact⟨_,_,rfl,λy s t=>Zkv f y s t,λA u=>Zkw (j.mono u) hn z f⟩;exact⟨_,_,rfl,λy s t=>Zkx f y s t,λA u=>Zky (j.mono u) hn z f⟩
def Zyn{f}(i:JJ f=false):Zw f.kind Zix=nO:=by
 rw[Zyb];unfold JJ at i;simp only[ZIl,decide_eq_false_iff_not]at i;simp only[Zix,ZHY,ZIf,ZIj,List.not_mem_nil,or_false];omega
def Q5(fs:List Fld)(dl:List (Str×Int))(sl:List (Str×Bool))(f:Fld):Bool :=
 Yt f.name&&(!dC (0<=Zi (λx=>dC (x.name=f.name)) fs)&&(JJ f&&(dC (Zfx f=Zfj f.name f.kind)&&Zft fs dl sl f)))
def ZlN{x bd bs k dl sl st}(hst:QF st x bd bs k dl sl){n:Nat}(hn:k.field=n)(hl:n<=I k.m.fields)(f)(hR:((Zw f.tag (QV (k.m.fields.take n))).getD (0,0)).2<4611686018427387904):
  Ze ZHF 274 [.ptr x 0,.agg f.cells] st (WI (Q5 (k.m.fields.take n) dl sl f) st):=by
 refine Zh (cR 274 f274) λF hF=>?_;have hS:=Q5.eq_1 (k.m.fields.take n) dl sl f;refine rx @eQ0 ?_;refine rx @eQ0 ?_;refine cl (Zbu f.name) ?_;refine cV (Z0 hst.x (Yt f.name) 1) ?_ ?_
 .rintro d S h;obtain⟨af,rfl,rfl⟩:=YO h;rw[af,ZH3]at hS;refine gR0 ?_;refine rx @eQ0 ?_;refine tXD (nd2 @eQ5 @eQ1) (Jc hst.x hn hl) ?_;refine clD ((Zdg ⟨[],k.m.fields.take n⟩ f.name)) ?_;refine rg ?_;refine cV (Z0 hst.x (!dC (0<=Zi (λx=>dC (x.name=f.name)) (k.m.fields.take n))) 2) ?_ ?_
  .rintro d S2 h;obtain⟨u,rfl,rfl⟩:=YO h;rw[u,ZH3]at hS;refine gR0 ?_;refine rx @eQ0 ?_;refine cVD (ZoR S2) ?_ ?_
   .rintro d S3 ⟨b,hb,hd,rfl⟩;cases hd;refine⟨by first|trivial|exact⟨rfl,trivial⟩,?_⟩;have e1:=We (vD:=Zr1) Ziq f.kind Zix;have e3:=Wr Ziq f.kind;simp only[show KL f.kind=D.i f.kind from rfl]at e1 e3;have ae:=ZH6 (.map (Qv KL Zr1 Zix)) hb;cases ad:JJ f with
    |false =>rw[ad,ZH7]at hS;rw[Zyn ad]at e1;refine gQ (nd2 @e1 (nd2 @e3 (nd2 @ZHP (nd2 @ZH4 (nd2 @YF @YG))))) ?_;refine rg ?_;refine cV (Z0 (hst.mono ae).x false 4) ?_ ?_;rintro d S4 h;exact absurd (YO h).1 ψ;rintro d S4 h;obtain⟨_,i,rfl⟩:=YN h;exact hF.pan S2 ae (Wt hS i)
    |true =>rw[ad,ZH3]at hS;obtain⟨c,q,hg,ab,ac⟩:=ZBv hst hn hl f hR ad;rw[hg]at e1;refine gQ (nd2 @e1 (nd2 @e3 (nd2 @ZHP (nd2 @ZH4 (nd2 @YF @YG))))) ?_;refine rg ?_;refine cV (Z0 (hst.mono ae).x true 4) ?_ ?_;rintro d S4 h;obtain⟨_,rfl,rfl⟩:=YO h;refine gR0 ?_;refine rx @eQ0 ?_;refine Zd ?_;refine xP 7 λy hy=>?_;have ag:[D.str f.name,D.int IntKind.i64 f.kind,D.int IntKind.i64 f.bits,D.bool f.little,D.bool f.loose,D.int IntKind.i64 f.low,D.int IntKind.i64 f.high,D.int IntKind.i64 f.size.base,Yd f.size.terms,D.str f.of,D.str f.tag,D.str f.from_,Yk f.cases,D.int IntKind.i64 f.check,D.int IntKind.i64 f.key]=f.cells:=rfl;simp only[ag];have t:∀o,S2.sub (((S2.upd b (.map (Qv KL Zr1 Zix)))).upd y o):=λo=>ZIn ae (ZH6 _ hy);refine rg ?_;refine ct (ab y _ (ZHP _ _ _)) ?_;simp only[ZH4];refine rx (nd2 @eQ0 (nd2 @ZHP (nd2 @ZH4 (nd2 @YF @YG)))) ?_;simp only[Zen];refine Zao rfl rfl rfl rfl rfl φ φ (by exact(Zje (Zfx f) (Zfj f.name f.kind)).leA (LeC.two (ZHL _) (Zsm (cs':=(Zfj f.name f.kind).cells) (.cons (ZHL _) (.cons (ZHL _) (.cons (ZHL _) (.cons (ZHL _) (.cons (ZHL _) (.cons (ZHL _) (.cons (ZHL _) (.cons (ZHL _) (.cons (Y3 ψ) (.cons (ZHL _) (.cons (ZHL _) (.cons (ZHL _) (.cons (Y3 ψ) (.cons (ZHL _) (.cons (ZHL _) .nil)))))))))))))))))) (Zn ?_);simp only[Eqs,reduceCtorEq,ZHK,reduceIte,ZHI,ZHM,ZHJ];refine cV (Z0 (hst.mono (t _)).x (dC (Zfx f=Zfj f.name f.kind)) 5) ?_ ?_;rintro d S5 h;obtain⟨z,rfl,rfl⟩:=YO h;rw[z,ZH3]at hS;refine gR0 ?_;refine rx @eQ0 ?_;simp only[Zen];refine cV (ac _ (t _)) ?_ ?_;rintro d S6 h;obtain⟨j,rfl,rfl⟩:=YO h;rw[j]at hS;refine gR0 ?_;exact hF.fin (.tup []) S2 rfl trivial (ZHL _) (t _) (ZbQ hS);rintro d S6 h;obtain⟨j,i,rfl⟩:=YN h;rw[j]at hS;exact hF.pan S2 (t _) (Wt hS i);rintro d S5 h;obtain⟨z,i,rfl⟩:=YN h;rw[z,ZH7]at hS;exact hF.pan S2 (t _) (Wt hS i);rintro d S4 h;exact absurd (YN h).1 ψ
   rintro d S3 ⟨b,hb,hd,_⟩;cases hd
  rintro d S2 h;obtain⟨u,i,rfl⟩:=YN h;rw[u,ZH7]at hS;exact hF.pan _ ZHH (Wt hS i)
 rintro d S h;obtain⟨af,i,rfl⟩:=YN h;rw[af,ZH7]at hS;exact hF.pan _ ZHH (Wt hS i)
end Go.DL
