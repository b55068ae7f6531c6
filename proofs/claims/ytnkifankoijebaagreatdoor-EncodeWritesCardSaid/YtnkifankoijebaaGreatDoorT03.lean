/- Lemmas: Api, DlAe, DlAf, R04a, Lst, R04b, R04c, Iv, R04d, R04e, R05a, R05b, R05c, R05d, R05e, R05f, R05g, R05h, R05i, R05j, R05k, Own, S00, S01, S02, Maps, S03, S04, S05, S06, Val, DlCp, Z05, Z06, W01, W02, W03, S10, S11, R05l, R43d, U01, A01, A02, A03, S12, S13, S14. -/
import Derived.Test.YtnkifankoijebaaGreatDoorT02
set_option maxHeartbeats 16000000
set_option maxRecDepth 100000
set_option linter.all false
open List renaming length->I
open Option renaming some -> sO, none -> nO
open Inhabited renaming default -> dE
open Decidable renaming decide -> dC
open Go.Proofs.Tryz
open And renaming intro -> ZHZ
open Bool renaming and_eq_true -> ZH1, false_and -> ZIl, false_eq_true -> ZIx, or_eq_true -> ZId, true_and -> ZIf
open Go.DL.D.Le renaming refl -> ZHT
open Go.DL.St renaming single -> ZIk, sub_refl -> ZHU, sub_trans -> ZIu, sub_upd -> ZIg, upd_ne -> ZH0, upd_same -> ZHW, upd_upd -> ZH7
open Go.Proofs.Tryz renaming prog -> ZHP
open Int renaming reduceEq -> ZIt, reduceToNat -> ZHV
open List renaming append_assoc -> ZIh, getD -> ZH6, getElem?_append_left -> ZIm, getElem?_append_right -> ZIw, getElem?_eq_getElem -> ZIn, getElem?_eq_none -> ZIz, getElem_of_mem -> ZIc, length_append -> ZHX, length_cons -> ZH3, length_drop -> ZIq, length_map -> ZH4, length_take -> ZIa, map_cons -> ZIo, mem_cons -> ZIs, range -> ZH5, take_length -> ZIb
open Nat renaming add_mul -> ZIp, le_refl -> ZH9, le_trans -> ZIy, mul_le_mul_right -> ZIi, reduceAdd -> ZHY, reduceEqDiff -> ZHR, reduceLeDiff -> ZHS
open Option renaming getD_some -> ZIr
open Option.some renaming injEq -> ZHQ
namespace Go.DL
open Go
variable {kp:Option (List Nat)}{L:Loc}{H:Env}{s:St}{w:World}{os:List DOp}{ds:List D}{B:List (Nat × Rd)}{dst:Option Nat}{tmps:Array Value}{g:G}{Φ:Res->St->Prop}{Z:Nat->Nat}{xs:List Opd}{side:Prop}{row:Nat->List D}
abbrev Str:=List UInt8
structure YF where
 field:Str
 factor:Int
deriving Inhabited,DecidableEq
structure JX where
 base:Int
 terms:List YF
deriving Inhabited,DecidableEq
structure YE where
 low:Int
 high:Int
 of:Str
deriving Inhabited,DecidableEq
structure Fld where
 name:Str
 kind:Int
 bits:Int
 little:Bool
 loose:Bool
 low:Int
 high:Int
 size:JX
 of:Str
 tag:Str
 from_:Str
 cases:List YE
 check:Int
 key:Int
deriving Inhabited,DecidableEq
structure Msg where
 name:Str
 fields:List Fld
deriving Inhabited,DecidableEq
structure Dfn where
 name:Str
 msgs:List Msg
 start:Str
deriving Inhabited,DecidableEq
def slD{α:Type}[Inhabited α](n:Nat)(f:α->List D)(l:List α):D:=.sl .none (I l) n (λi=>f (l.getD i dE))
def eQ1:=@slD.eq_1
def YF.cells(t:YF):List D:=[.str t.field,.i t.factor]
def eQ8:=@YF.cells.eq_1
def YE.cells(c:YE):List D:=[.i c.low,.i c.high,.str c.of]
def Z4(l:List YF):D:=slD 2 YF.cells l
def eQ5:=@Z4.eq_1
def Z2(l:List YE):D:=slD 3 YE.cells l
def JX.cells(s:JX):List D:=[.i s.base,Z4 s.terms]
def eQ7:=@JX.cells.eq_1
def Fld.cells(f:Fld):List D:=[.str f.name,.i f.kind,.i f.bits,.bool f.little,.bool f.loose,.i f.low,.i f.high,.i f.size.base,Z4 f.size.terms,.str f.of,.str f.tag,.str f.from_,Z2 f.cases,.i f.check,.i f.key]
def eQ0:=@Fld.cells.eq_1
def Zp(l:List Fld):D:=slD 15 Fld.cells l
def eQ4:=@Zp.eq_1
def Msg.cells(m:Msg):List D:=[.str m.name,Zp m.fields]
def eQ3:=@Msg.cells.eq_1
def Z0(l:List Msg):D:=slD 2 Msg.cells l
def eQ6:=@Z0.eq_1
def Dfn.cells(d:Dfn):List D:=[.str d.name,Z0 d.msgs,.str d.start]
def eQ2:=@Dfn.cells.eq_1
def Y4{α}[Inhabited α]{n}{f:α->List D}{l:List α}(h:DWf (slD n f l)):I l<=big/\∀x∈l,∀c∈f x,DWf c:=by
 obtain⟨r,h2,t⟩:=h.sl_inv;refine⟨r,λx hx c u=>?_⟩;obtain⟨i,o,rfl⟩:=ZIc hx;exact t i o c (by simpa[ZH6,o]using u)
structure YF.Wf(t:YF):Prop where
 field:I t.field<=big
 factor:inR .i64 t.factor
structure YE.Wf(c:YE):Prop where
 low:inR .i64 c.low
 high:inR .i64 c.high
 of:I c.of<=big
structure JX.Wf(s:JX):Prop where
 base:inR .i64 s.base
 nterms:I s.terms<=big
 terms:∀t∈s.terms,t.Wf
structure Fld.Wf(f:Fld):Prop where
 name:I f.name<=big
 kind:inR .i64 f.kind
 bits:inR .i64 f.bits
 low:inR .i64 f.low
 high:inR .i64 f.high
 size:f.size.Wf
 of:I f.of<=big
 tag:I f.tag<=big
 from_:I f.from_<=big
 ncases:I f.cases<=big
 cases:∀c∈f.cases,c.Wf
 check:inR .i64 f.check
 key:inR .i64 f.key
structure Msg.Wf(m:Msg):Prop where
 name:I m.name<=big
 nfields:I m.fields<=big
 fields:∀f∈m.fields,f.Wf
structure Dfn.Wf(d:Dfn):Prop where
 name:I d.name<=big
 nmsgs:I d.msgs<=big
 msgs:∀m∈d.msgs,m.Wf
 start:I d.start<=big
def YF.wf_of{t:YF}(h:∀c∈t.cells,DWf c):t.Wf:=by
 simp only[YF.cells,ZIs,List.not_mem_nil,or_false,forall_eq_or_imp,forall_eq]at h;exact⟨h.1.str_inv,h.2.int_inv⟩
def YE.wf_of{t:YE}(h:∀c∈t.cells,DWf c):t.Wf:=by
 simp only[YE.cells,ZIs,List.not_mem_nil,or_false,forall_eq_or_imp,forall_eq]at h;exact⟨h.1.int_inv,h.2.1.int_inv,h.2.2.str_inv⟩
def ZiQ{l}(h:DWf (Z4 l)):I l<=big/\∀t∈l,t.Wf:=⟨(Y4 h).1,λt i=>YF.wf_of ((Y4 h).2 t i)⟩
def Zr0{l}(h:DWf (Z2 l)):I l<=big/\∀t∈l,t.Wf:=⟨(Y4 h).1,λt i=>YE.wf_of ((Y4 h).2 t i)⟩
def JX.wf_of{s:JX}(h:∀c∈s.cells,DWf c):s.Wf:=by
 simp only[JX.cells,ZIs,List.not_mem_nil,or_false,forall_eq_or_imp,forall_eq]at h;exact⟨h.1.int_inv,(ZiQ h.2).1,(ZiQ h.2).2⟩
def Fld.wf_of{f:Fld}(h:∀c∈f.cells,DWf c):f.Wf:=by
 simp only[Fld.cells,ZIs,List.not_mem_nil,or_false,forall_eq_or_imp,forall_eq]at h;obtain⟨h1,h2,h3,h4,h5,h6,h7,h8,h9,o,r,t,i,u,ab⟩:=h;exact⟨h1.str_inv,h2.int_inv,h3.int_inv,h6.int_inv,h7.int_inv,⟨h8.int_inv,(ZiQ h9).1,(ZiQ h9).2⟩,o.str_inv,r.str_inv,t.str_inv,(Zr0 i).1,(Zr0 i).2,u.int_inv,ab.int_inv⟩
def ZjJ{l}(h:DWf (Zp l)):I l<=big/\∀t∈l,t.Wf:=⟨(Y4 h).1,λt i=>Fld.wf_of ((Y4 h).2 t i)⟩
def Msg.wf_of{m:Msg}(h:∀c∈m.cells,DWf c):m.Wf:=by
 simp only[Msg.cells,ZIs,List.not_mem_nil,or_false,forall_eq_or_imp,forall_eq]at h;exact⟨h.1.str_inv,(ZjJ h.2).1,(ZjJ h.2).2⟩
def ZuX{l}(h:DWf (Z0 l)):I l<=big/\∀t∈l,t.Wf:=⟨(Y4 h).1,λt i=>Msg.wf_of ((Y4 h).2 t i)⟩
def Dfn.wf_of{m:Dfn}(h:∀c∈m.cells,DWf c):m.Wf:=by
 simp only[Dfn.cells,ZIs,List.not_mem_nil,or_false,forall_eq_or_imp,forall_eq]at h;exact⟨h.1.str_inv,(ZuX h.2.1).1,(ZuX h.2.1).2,h.2.2.str_inv⟩
def Zu9{s:JX}(h:DWf (.agg s.cells)):s.Wf:=JX.wf_of h.agg_inv
def ZBk{s:Fld}(h:DWf (.agg s.cells)):s.Wf:=Fld.wf_of h.agg_inv
def ZfE{s:Msg}(h:DWf (.agg s.cells)):s.Wf:=Msg.wf_of h.agg_inv
def Zhp{s:Dfn}(h:DWf (.agg s.cells)):s.Wf:=Dfn.wf_of h.agg_inv
def Zr{α:Type}[Inhabited α]{l:List α}{i}(h:i<I l):l.getD i dE∈l:=by
 simp[ZH6,h]
end Go.DL
namespace Go.DL
open Go
variable [Zo5]
variable {kp:Option (List Nat)}{L:Loc}{H:Env}{s:St}{w:World}{os:List DOp}{ds:List D}{B:List (Nat × Rd)}{dst:Option Nat}{tmps:Array Value}{g:G}{Φ:Res->St->Prop}{Z:Nat->Nat}{xs:List Opd}{side:Prop}{row:Nat->List D}
def Zji(P:Program)(fv:D)(n:Nat)(args:Nat->List D)(t:St):Prop :=
 ∀(l:Nat) (go:Nat->Oc) (A:Nat->St->Prop) (a0:St),Zdv P (.fn (.yield l) [] []) n args go A->A 0 a0->Z7 a0 t->KC P fv [.fn (.yield l) [] []] (a0.or t) λr S=>∃a,Zea n go A a r/\a.sub S
section
variable {P:Program}
def Zdy.Y{fv n args t}(h:Zdy P fv n args t):Zji P fv n args t:=λ_=>h _
def Qh{F:Fr P}{rs}{Φ}{dds}(hF:Y0 F rs Φ dds){o}{ps}{da db}{dk}{H}{L}{p}{fv}(hf:ZH H true o=sO (p,.d fv))(hp:p)(ks)(hks:(Wh H ks).map (·.1) |>.Nodup){a0 t}(hd:Z7 a0 t){n}{args}(hit:Zji P fv n args t)(hlen:∀j,j<n->(args j).length=I ps)(go:Nat->Oc)(B:Nat->St->Prop)(h0:B 0 a0)(hbody:∀j a,j<n->(∀i,i<j->go i=.next)->B j a->∀(F':Fr P) (ready busy:St),Z7 a ready ->
   (∀{dk:List QU} {H:Env} {L:Loc},(Z7 a busy->ZA F' dk H L (a.or busy))->ZA F' (.beginR::dk) H L (a.or ready)) ->
   Zmx F' busy (λoc a'=>oc=go j/\B (j+1) a')->ZA F' [.code da,.beginR,.code db] (KG ps (args j) (K0 ks H)) [] (a.or ready))(hall:∀q a,(∀i,i<n->go i=.next)->B n a->a q=nO->ZA (F.mark q) dk H L (a.upd q .dfr))(hret:∀q a m,m<n->(∀i,i<m->go i=.next)->go m=.stop .ret->B (m+1) a->a q=nO->ZA (F.mark q) (.code .ret::dk) H L (a.upd q .dfr))(hexit:∀q a m id,m<n->(∀i,i<m->go i=.next)->go m=.stop (.exit id)->B (m+1) a->a q=nO->ZA (F.mark q) (.code (.exit id)::dk) H L (a.upd q .dfr))(hpan:∀q a m d,m<n->(∀i,i<m->go i=.next)->go m=.pan d->B (m+1) a->a q=nO->WB (F.mark q) H L d (a.upd q .dfr))(hgo:∀m c,go m=.stop c->c=.ret\/∃id,c=.exit id):
  ZA F (.code (.rangeF o ps da db)::dk) H L (a0.or t):=by
 refine Zjg hF.roundOf hf hp ks hks λq l r hq hl ab a2 ah a3 aq ar a4 az=>?_;have ag:a0 q=nO:=by cases h:a0 q with|none=>rfl|some x=>rw[Zt h]at hq;simp at hq
 have af:a0 l=nO:=by cases h:a0 l with|none=>rfl|some x=>rw[Zt h]at hl;simp at hl
 have a1:t q=nO:=by rw[Zz ag]at hq;exact hq
 have ay:t l=nO:=by rw[Zz af]at hl;exact hl
 let stOf:Nat->LSt:=λj=>match j with
  |0=>.ready
  |j+1=>match go j with
   |.next=>.ready
   |.stop c=>.done c
   |.pan _=>.busy
 let A:Nat->St->Prop:=λj S=>∃a,B j a/\Z7 a (lpS q l r .ready)/\S=a.or (lpS q l r (stOf j));have au:Z7 a0 (lpS q l r .ready):=λb o hb=>by by_cases h1:b=q;rw[h1];exact ag;by_cases h2:b=l;rw[h2];exact af;rw[Zbu h1 h2]at hb;simp at hb
 have a6:(((a0.or t).upd q .dfr).upd l (.loop r .ready))=(a0.or (lpS q l r .ready)).or t:=by
  funext b;simp only[St.upd];by_cases h2:b=l;subst h2;rw[if_pos rfl,Zt (s:=a0.or _) (by rw[Zz af];exact WQ ab)];rw[if_neg h2];by_cases h1:b=q;subst h1;rw[if_pos rfl,Zt (s:=a0.or _) (by rw[Zz ag];exact Kv)];rw[if_neg h1];cases ha:a0 b with
  |some x=>rw[Zt ha,Zt (Zt ha)]
  |none=>rw[Zz ha,Zz (s:=a0.or _) (by rw[Zz ha];exact Zbu h1 h2)]
 have av:Z7 (a0.or (lpS q l r .ready)) t:=λb o hb=>by rw[Zz (hd b o hb)];exact Zbu (λe=>by rw[e,a1]at hb;simp at hb) (λe=>by rw[e,ay]at hb;simp at hb)
 have aw:=hF.ex;have ae:Zdv P (.fn (.yield l) [] []) n args go A:=by
  rintro j hj al S ⟨a,ao,u,rfl⟩;have a5:stOf j=.ready:=by
   cases j with
   |zero=>rfl
   |succ j=>simp only[stOf,al j ω]
  rw[a5];refine ZiS (an:=F.an) (N:=F.N) (r:=r) (by rw[Zz (u l _ (WQ ab))];exact WQ ab) (by rw[ah];exact hlen j hj) aq ar a4 (by rw[ah];exact az) λF' aj ax=>?_;rw[a2,ah];refine hbody j a hj al ao F' (lpS q l r .ready) (lpS q l r .busy) u (λhk=>aj.begin (r:=r) (by rw[Zz (u l _ (WQ ab))];exact WQ ab) ?_) ?_
  .have e:(a.or (lpS q l r .ready)).upd l (.loop r .busy)=a.or (lpS q l r .busy):=by
    funext b;simp only[St.upd];by_cases h2:b=l;subst h2;rw[if_pos rfl,Zz (u b _ (WQ ab)),WQ ab];rw[if_neg h2];by_cases h1:b=q;subst h1;rw[Zz (u b _ Kv),Zz (u b _ Kv),Kv,Kv];cases ha:a b with
    |some x=>rw[Zt ha,Zt ha]
    |none=>rw[Zz ha,Zz ha,Zbu h1 h2,Zbu h1 h2]
   rw[e];exact hk (Zin u ab)
  refine Zmk aj ab (by rw[ax,a3];exact aw) ?_;rintro oc a' ⟨rfl,am⟩ ak;exact⟨rfl,a',am,Zin ak ab,rfl⟩
 refine⟨_,by rw[a6];exact hit _ go A _ ae ⟨a0,h0,au,rfl⟩ av,?_,?_⟩
 .rintro d S ⟨S',ad,ac⟩;have fin:∀a,Z7 a (lpS q l r .ready)->∀st,(a.or (lpS q l r st)).sub S->S l=sO (.loop r st)/\(a.upd q .dfr).sub (S.del l)/\a q=nO:=λa u st hs=>by
   refine⟨hs l _ (by rw[Zz (u l _ (WQ ab))];exact WQ ab),λb o hb=>?_,u q _ Kv⟩;have ap:b≠l:=λe=>by subst e;rw[ZH0 _ _ (Ne.symm ab),u b _ (WQ ab)]at hb;simp at hb
   simp only[St.del,ap,if_false];by_cases h1:b=q;subst h1;rw[ZHW]at hb;exact hs b o (by rw[Zz (u b _ Kv),Kv];exact hb);rw[ZH0 _ _ h1]at hb;exact hs b o (Zt hb)
  cases ad with
  |all h ha =>
   obtain⟨a,hB,u,rfl⟩:=ha;have ai:stOf n=.ready:=by
    cases n with
    |zero=>rfl
    |succ n=>simp only[stOf,h n ω]
   rw[ai]at ac;obtain⟨f1,f2,f3⟩:=fin a u _ ac;exact .inl ⟨f1,Ww f2 (hall q a h hB f3)⟩
  |stop m c hm h hc ha =>
   obtain⟨a,hB,u,rfl⟩:=ha;have ai:stOf (m+1)=.done c:=by simp only[stOf,hc]
   rw[ai]at ac;obtain⟨f1,f2,f3⟩:=fin a u _ ac;rcases hgo m c hc with rfl|⟨id,rfl⟩;exact .inr ⟨.ret,.ret,f1,rfl,Ww f2 (hret q a m hm h hc hB f3)⟩;exact .inr ⟨.exit id,.exit id,f1,rfl,Ww f2 (hexit q a m id hm h hc hB f3)⟩
 rintro d S ⟨S',ad,ac⟩;cases ad with
 |pan m d hm h hc ha =>
  obtain⟨a,hB,u,rfl⟩:=ha;have hs:(a.upd q .dfr).sub S:=λb o hb=>by by_cases h1:b=q;subst h1;rw[ZHW]at hb;exact ac b o (by rw[Zz (u b _ Kv),Kv];exact hb);rw[ZH0 _ _ h1]at hb;exact ac b o (Zt hb)
  exact Znl hs (hpan q a m d hm h hc hB (u q _ Kv))
end
def gR0{A B:Prop}(k:B)(h:Hid B->A:=by
 intro hk;first|refine Zk ?_|refine Ye ?_|refine Yb ?_
 simp only[Eqs,reduceCtorEq,Int.reduceToNat,reduceIte,Nat.reduceEqDiff,Nat.reduceAdd,Nat.reduceLeDiff];exact hk.out):A:=h ⟨k⟩
def gQ{p:Prop}(e:p){A B:Prop}(k:B)(h:p->Hid B->A:=by
 intro e1 hk;first|refine Zk ?_|refine Ye ?_|refine Yb ?_
 simp only[Eqs,reduceCtorEq,Int.reduceToNat,reduceIte,Nat.reduceEqDiff,Nat.reduceAdd,Nat.reduceLeDiff,e1];exact hk.out):A:=h e ⟨k⟩
def kF{A B:Prop}(k:B)(h:Hid B->A:=by
 intro hk;refine And.intro (by first|trivial|exact⟨rfl,trivial⟩|simp[Wo,Qv,Wk,Zcu]) ?_;exact hk.out):A:=h ⟨k⟩
def cX{p q:Prop}(e:p)(c:q){A B:Prop}(k:B)(h:p->q->Hid B->A:=by
 intro e1 hc hk;refine JV rfl rfl rfl rfl rfl φ φ hc (Zk ?_);simp only[Eqs,reduceCtorEq,Int.reduceToNat,reduceIte,Nat.reduceEqDiff,Nat.reduceAdd,Nat.reduceLeDiff,e1];exact hk.out):A:=h e c ⟨k⟩
def tX{p q:Prop}(e:p)(c:q){A B:Prop}(k:B)(h:p->q->Hid B->A:=by
 intro e1 hc hk;refine ZaA rfl rfl rfl rfl rfl φ φ hc (Zk ?_);simp only[Eqs,reduceCtorEq,Int.reduceToNat,reduceIte,Nat.reduceEqDiff,Nat.reduceAdd,Nat.reduceLeDiff,e1];exact hk.out):A:=h e c ⟨k⟩
def cG{q:Prop}(c:q){A B:Prop}(k:B)(h:q->Hid B->A:=by
 intro hc hk;refine Zbd rfl rfl rfl rfl rfl (λhcg=>⟨by first|trivial|(simpa[ZbO]using hcg),trivial,hc⟩) (Zk ?_);simp only[Eqs,reduceCtorEq,Int.reduceToNat,reduceIte,Nat.reduceEqDiff,Nat.reduceAdd,Nat.reduceLeDiff];exact hk.out):A:=h c ⟨k⟩
def cW{q:Prop}(c:q){A B:Prop}(k:B)(h:q->Hid B->A:=by
 intro hc hk;refine Zvi rfl rfl rfl rfl rfl φ φ hc (Zk ?_);simp only[Eqs,reduceCtorEq,Int.reduceToNat,reduceIte,Nat.reduceEqDiff,Nat.reduceAdd,Nat.reduceLeDiff];exact hk.out):A:=h c ⟨k⟩
def cV{q:Prop}(c:q){A B C:Prop}(k:B)(k2:C)(h:q->Hid B->Hid C->A:=by
 intro hc hk hk2;exact Ze8 rfl rfl rfl rfl rfl φ φ hc hk.out hk2.out):A:=h c ⟨k⟩ ⟨k2⟩
def vV{q:Prop}(c:q){A B C:Prop}(k:B)(k2:C)(h:q->Hid B->Hid C->A:=by
 intro hc hk hk2;exact Zdx rfl rfl rfl rfl rfl φ φ hc hk.out hk2.out):A:=h c ⟨k⟩ ⟨k2⟩
def cX0{p q:Prop}(e:p)(c:q){A B:Prop}(k:B)(h:p->q->Hid B->A:=by
 intro e1 hc hk;refine ZhU rfl rfl rfl rfl rfl φ φ hc (Ye ?_);simp only[Eqs,reduceCtorEq,Int.reduceToNat,reduceIte,Nat.reduceEqDiff,Nat.reduceAdd,Nat.reduceLeDiff,e1];exact hk.out):A:=h e c ⟨k⟩
def cW0{q:Prop}(c:q){A B:Prop}(k:B)(h:q->Hid B->A:=by
 intro hc hk;refine ZzT rfl rfl rfl rfl rfl φ φ hc (Ye ?_);simp only[Eqs,reduceCtorEq,Int.reduceToNat,reduceIte,Nat.reduceEqDiff,Nat.reduceAdd,Nat.reduceLeDiff];exact hk.out):A:=h c ⟨k⟩
def cV0{q:Prop}(c:q){A B C:Prop}(k:B)(k2:C)(h:q->Hid B->Hid C->A:=by
 intro hc hk hk2;exact Zwq rfl rfl rfl rfl rfl φ φ hc hk.out hk2.out):A:=h c ⟨k⟩ ⟨k2⟩
def vV0{q:Prop}(c:q){A B C:Prop}(k:B)(k2:C)(h:q->Hid B->Hid C->A:=by
 intro hc hk hk2;exact ZhV rfl rfl rfl rfl rfl φ φ hc hk.out hk2.out):A:=h c ⟨k⟩ ⟨k2⟩
def cXD{p q:Prop}(e:p)(c:q){A B:Prop}(k:B)(h:p->q->Hid B->A:=by
 intro e1 hc hk;refine Zf8 rfl rfl rfl rfl rfl φ φ hc (Yb ?_);simp only[Eqs,reduceCtorEq,Int.reduceToNat,reduceIte,Nat.reduceEqDiff,Nat.reduceAdd,Nat.reduceLeDiff,e1];exact hk.out):A:=h e c ⟨k⟩
def tXD{p q:Prop}(e:p)(c:q){A B:Prop}(k:B)(h:p->q->Hid B->A:=by
 intro e1 hc hk;refine Zf9 rfl rfl rfl rfl rfl φ φ hc (by first|trivial|exact⟨rfl,trivial⟩|simp[Wo,Qv]) (Yb ?_);simp only[Eqs,reduceCtorEq,Int.reduceToNat,reduceIte,Nat.reduceEqDiff,Nat.reduceAdd,Nat.reduceLeDiff,e1];exact hk.out):A:=h e c ⟨k⟩
def cGD{q:Prop}(c:q){A B:Prop}(k:B)(h:q->Hid B->A:=by
 intro hc hk;refine Znf rfl rfl rfl rfl rfl (λhcg=>⟨by first|trivial|(simpa[ZbO]using hcg),trivial,hc⟩) (Yb ?_);simp only[Eqs,reduceCtorEq,Int.reduceToNat,reduceIte,Nat.reduceEqDiff,Nat.reduceAdd,Nat.reduceLeDiff];exact hk.out):A:=h c ⟨k⟩
def cWD{q:Prop}(c:q){A B:Prop}(k:B)(h:q->Hid B->A:=by
 intro hc hk;refine ZA2 rfl rfl rfl rfl rfl φ φ hc (by first|trivial|exact⟨rfl,trivial⟩|simp[Wo,Qv]) (Yb ?_);simp only[Eqs,reduceCtorEq,Int.reduceToNat,reduceIte,Nat.reduceEqDiff,Nat.reduceAdd,Nat.reduceLeDiff];exact hk.out):A:=h c ⟨k⟩
def cVD{q:Prop}(c:q){A B C:Prop}(k:B)(k2:C)(h:q->Hid B->Hid C->A:=by
 intro hc hk hk2;exact ZhW rfl rfl rfl rfl rfl φ φ hc hk.out hk2.out):A:=h c ⟨k⟩ ⟨k2⟩
def gA{A B:Prop}(k:B)(h:Hid B->A:=by
 intro hq;repeat(first|refine Zd ?_|refine Zi ?_|refine Z8 ?_|refine Zo ?_|refine YQ ?_|refine Zb ?_|refine YJ ?_|refine ZG rfl ?_)
 first|refine rgR (by conv=>lhs;whnf) (by conv=>lhs;whnf) (Zk ?_)|refine Ziy (by conv=>lhs;whnf) (by conv=>lhs;whnf) (Ye ?_)|refine rgD (by conv=>lhs;whnf) (by conv=>lhs;whnf) (Yb ?_)
 simp only[Eqs,reduceCtorEq,Int.reduceToNat,reduceIte,Nat.reduceEqDiff,Nat.reduceAdd,Nat.reduceLeDiff];repeat(refine And.intro (by first|omega|trivial|(intro h0;simp at h0;omega)) ?_)
 exact hq.out):A:=h ⟨k⟩
def xA{p:Prop}(e:p){A B:Prop}(k:B)(h:p->Hid B->A:=by
 intro e1 hq;repeat(first|refine Zd ?_|refine Zi ?_|refine Z8 ?_|refine Zo ?_|refine YQ ?_|refine Zb ?_|refine YJ ?_|refine ZG rfl ?_)
 first|refine rgR (by conv=>lhs;whnf) (by conv=>lhs;whnf) (Zk ?_)|refine Ziy (by conv=>lhs;whnf) (by conv=>lhs;whnf) (Ye ?_)|refine rgD (by conv=>lhs;whnf) (by conv=>lhs;whnf) (Yb ?_)
 simp only[Eqs,reduceCtorEq,Int.reduceToNat,reduceIte,Nat.reduceEqDiff,Nat.reduceAdd,Nat.reduceLeDiff,e1];repeat(refine And.intro (by first|omega|trivial|(intro h0;simp at h0;omega)) ?_)
 exact hq.out):A:=h e ⟨k⟩
def gG{A B:Prop}(k:B)(h:Hid B->A:=by
 intro hq;repeat(first|refine Zd ?_|refine Zi ?_|refine Z8 ?_|refine Zo ?_|refine YQ ?_|refine Zb ?_|refine YJ ?_|refine ZG rfl ?_)
 first|refine rgR (by conv=>lhs;whnf) (by conv=>lhs;whnf) (Zk ?_)|refine Ziy (by conv=>lhs;whnf) (by conv=>lhs;whnf) (Ye ?_)|refine rgD (by conv=>lhs;whnf) (by conv=>lhs;whnf) (Yb ?_)
 simp only[Eqs,reduceCtorEq,Int.reduceToNat,reduceIte,Nat.reduceEqDiff,Nat.reduceAdd,Nat.reduceLeDiff];repeat(first|refine Zd ?_|refine Zi ?_|refine Z8 ?_|refine Zo ?_|refine YQ ?_|refine Zb ?_|refine YJ ?_|refine ZG rfl ?_)
 first|refine rgR (by conv=>lhs;whnf) (by conv=>lhs;whnf) (Zk ?_)|refine Ziy (by conv=>lhs;whnf) (by conv=>lhs;whnf) (Ye ?_)|refine rgD (by conv=>lhs;whnf) (by conv=>lhs;whnf) (Yb ?_)
 simp only[Eqs,reduceCtorEq,Int.reduceToNat,reduceIte,Nat.reduceEqDiff,Nat.reduceAdd,Nat.reduceLeDiff];exact hq.out):A:=h ⟨k⟩
def iG{A B:Prop}(k:B)(h:Hid B->A:=by
 intro hq;repeat(first|refine Zd ?_|refine Zi ?_|refine Z8 ?_|refine Zo ?_|refine YQ ?_|refine Zb ?_|refine YJ ?_|refine ZG rfl ?_)
 refine Zj rfl trivial (λh=>by first|(simp at h;done)|(rw[hk]at h;simp at h;done)) (λ_=>?_);repeat(first|refine Zd ?_|refine Zi ?_|refine Z8 ?_|refine Zo ?_|refine YQ ?_|refine Zb ?_|refine YJ ?_|refine ZG rfl ?_)
 first|refine rgR (by conv=>lhs;whnf) (by conv=>lhs;whnf) (Zk ?_)|refine Ziy (by conv=>lhs;whnf) (by conv=>lhs;whnf) (Ye ?_)|refine rgD (by conv=>lhs;whnf) (by conv=>lhs;whnf) (Yb ?_)
 simp only[Eqs,reduceCtorEq,Int.reduceToNat,reduceIte,Nat.reduceEqDiff,Nat.reduceAdd,Nat.reduceLeDiff];exact hq.out):A:=h ⟨k⟩
def gI{A B:Prop}(k:B)(h:Hid B->A:=by
 intro hq;repeat(first|refine Zd ?_|refine Zi ?_|refine Z8 ?_|refine Zo ?_|refine YQ ?_|refine Zb ?_|refine YJ ?_|refine ZG rfl ?_)
 first|refine rgR (by conv=>lhs;whnf) (by conv=>lhs;whnf) (Zk ?_)|refine Ziy (by conv=>lhs;whnf) (by conv=>lhs;whnf) (Ye ?_)|refine rgD (by conv=>lhs;whnf) (by conv=>lhs;whnf) (Yb ?_)
 simp only[Eqs,reduceCtorEq,Int.reduceToNat,reduceIte,Nat.reduceEqDiff,Nat.reduceAdd,Nat.reduceLeDiff];repeat(first|refine Zd ?_|refine Zi ?_|refine Z8 ?_|refine Zo ?_|refine YQ ?_|refine Zb ?_|refine YJ ?_|refine ZG rfl ?_)
 refine Zj rfl trivial (λh=>by first|(simp at h;done)|(rw[hk]at h;simp at h;done)) (λ_=>?_);exact hq.out):A:=h ⟨k⟩
section
variable {P:Program} {F:Fr P} {dk:List QU} {H:Env} {L:Loc} {s:St}
def xP{A:Prop}{t:St}{B:Nat->Prop}(l:Nat)(k:∀b,t b=nO->B b)(h:∀n,n=l->(∀b,t b=nO->Hid (B b))->A:=by
 intro n hn hk;refine ZgJ n (by rw[hn];rfl) λb hb=>?_;simp only[hn,Eqs,reduceCtorEq,Int.reduceToNat,reduceIte,Nat.reduceEqDiff,Nat.reduceAdd,Nat.reduceLeDiff,Zax,ZcI,delL];exact(hk b hb).out):A:=h l rfl λb hb=>⟨k b hb⟩
def kE{A B:Prop}(l:List Nat)(k:B)(h:∀n,n=l->Hid B->A:=by
 intro n hn hk;refine Zd9 n ?_;simp only[hn,Eqs,reduceCtorEq,Int.reduceToNat,reduceIte,Nat.reduceEqDiff,Nat.reduceAdd,Nat.reduceLeDiff];exact hk.out):A:=h l rfl ⟨k⟩
end
end Go.DL
namespace Go.DL
open Go Go.Proofs
variable {kp:Option (List Nat)}{L:Loc}{H:Env}{s:St}{w:World}{os:List DOp}{ds:List D}{B:List (Nat × Rd)}{dst:Option Nat}{tmps:Array Value}{g:G}{Φ:Res->St->Prop}{Z:Nat->Nat}{xs:List Opd}{side:Prop}{row:Nat->List D}
def Zda(c:UInt8):Bool:=(dC ((65:Int)<=c.toNat)&&dC ((c.toNat:Int)<=90)) ||(dC ((97:Int)<=c.toNat)&&dC ((c.toNat:Int)<=122))
def JF(c:UInt8):Bool:=dC ((48:Int)<=c.toNat)&&dC ((c.toNat:Int)<=57)
def Kh(c:UInt8):Bool:=Zda c ||JF c ||decide ((c.toNat:Int)=95)
def Yl(s:Str):Bool:=match s with
 | []=>false
 |c::_=>dC (I s<=32)&&Zda c&&s.all Kh
def Jk(v:Int):Bool:=dC (-1048576<=v)&&dC (v<=1048576)
def ZiX{c}:Zc ZHP 213 [.int .u8 c.toNat] (.bool (Zda c)):=by
 refine Ze (cR 213 f213) λF st i=>?_;refine gG ?_;refine rb i ?_;rfl
def Zs1{c}:Zc ZHP 214 [.int .u8 c.toNat] (.bool (JF c)):=by
 refine Ze (cR 214 f214) λF st i=>?_;refine gG ?_;refine rb i ?_;rfl
def Zj6{v}:Zc ZHP 327 [.i v] (.bool (Jk v)):=by
 refine Ze (cR 327 f327) λF st i=>?_;refine gG ?_;refine rb i ?_;simp only[Jk]
def Zyg(s:Str)(k)(h:k<I s):(s.drop k).all Kh=(Kh (s.getD k 0)&&(s.drop (k+1)).all Kh):=by
 rw[List.drop_eq_getElem_cons h,List.all_cons];simp[ZH6,h]
def Zb4(s):Zc ZHP 161 [.str s] (.bool (Yl s)):=by
 refine ZO (cR 161 f161) λt F st i=>?_;have hs:=(t (.str s) ψ).str_inv;unfold big at hs;refine rg ?_;refine gA ?_;refine cG ZiX ?_;refine cd (λhc=>?_) (λhc=>?_);refine rg ?_;refine rb i ?_;cases s with|nil=>rfl|cons c r=>(simp[Yl]at hc⊢;intro h1 h2;simp[h2]at hc;omega)
 refine rg ?_;have he:Yl s=(s.drop 0).all Kh:=by
  cases s with
  |nil=>simp at hc
  |cons c r=>simp at hc;simp[Yl,hc];omega
 refine Zb ?_;refine lpU (λQ=>∀n k,n+k=I s->Yl s=(s.drop k).all Kh->Q F [(0,.d (.str s)),(3,.d (.i k))] [] st) ?_ λu=>?_
 .intro n;induction n with
  |zero =>intro k hk he;refine rg ?_;refine cd (λhd=>?_) (λhd=>?_);simp at hd;omega;refine rg ?_;refine rb i ?_;rw[he,show k=I s by omega];simp
  |succ n ih =>
   intro k hk he;have o:=Zyg s k ω;refine rg ?_;refine cd (λhd=>?_) (λhd=>?_);refine gA ?_;refine cl ZiX ?_;refine aa ?_;refine cG Zs1 ?_;refine aa ?_;refine cd (λh3=>?_) (λh3=>?_);refine rg ?_;have hn:Kh (s.getD k 0)=false:=by cases h1:Zda (s.getD k 0)<;>cases h2:JF (s.getD k 0)<;>simp_all[Kh]
   refine rb i ?_;rw[he,o,hn];rfl;refine gA ?_;refine Za ?_;have hn:Kh (s.getD k 0)=true:=by cases h1:Zda (s.getD k 0)<;>cases h2:JF (s.getD k 0)<;>simp_all[Kh]
   exact ih (k+1) ω (by rw[he,o,hn];rfl);simp at hd;omega
 exact u (I s) 0 ω he
end Go.DL
namespace Go.DL
open Go
variable {kp:Option (List Nat)}{L:Loc}{H:Env}{s:St}{w:World}{os:List DOp}{ds:List D}{B:List (Nat × Rd)}{dst:Option Nat}{tmps:Array Value}{g:G}{Φ:Res->St->Prop}{Z:Nat->Nat}{xs:List Opd}{side:Prop}{row:Nat->List D}
def Yf{α:Type}[Inhabited α]{l:List α}{k}(h:k<I l):l.drop k=l.getD k dE::l.drop (k+1):=by
 rw[List.drop_eq_getElem_cons h];simp[ZH6,h]
def ZQ{α:Type}[Inhabited α]{l:List α}{k}(h:k<I l):l.take (k+1)=l.take k++[l.getD k dE]:=by
 rw[List.take_succ_eq_append_getElem h];simp[ZH6,h]
def ZaN{α:Type}[Inhabited α]{l:List α}{k x}(hk:k<=I l):x∈l.take k↔∃j,j<k/\l.getD j dE=x:=by
 constructor;intro h;obtain⟨j,i,rfl⟩:=ZIc h;simp only[ZIa]at i;exact⟨j,ω,by simp[ZH6,show j<I l by omega]⟩;rintro⟨j,i,rfl⟩;rw[List.mem_take_iff_getElem];exact⟨j,ω,by simp[ZH6,show j<I l by omega]⟩
def ZjW{α:Type}[Inhabited α]{β:Type}{f}{l:List α}{k:Nat}(o:k<=I l)(x:β):x∈(l.take k).map f↔∃j,j<k/\f (l.getD j dE)=x:=by
 simp only[List.mem_map];constructor;rintro⟨a,r,rfl⟩;obtain⟨j,i,rfl⟩:=(ZaN o).1 r;exact⟨j,i,rfl⟩;rintro⟨j,i,rfl⟩;exact⟨_,(ZaN o).2 ⟨j,i,rfl⟩,rfl⟩
def Zy{α:Type}[Inhabited α](f:α->List D)(row:Nat->List D)(l:List α):Prop:=∀i,i<I l->row i=f (l.getD i dE)
section
variable {α:Type} [Inhabited α] {f:α->List D} {row row2:Nat->List D} {l a b:List α}
def Zy.self:Zy f (λi=>f (l.getD i dE)) l:=λ_ _=>rfl
def Zy.nil:Zy f row []:=λi h=>absurd h (Nat.not_lt_zero i)
def Zy.one{x}(h:row 0=f x):Zy f row [x]:=λi o=>by
 obtain rfl:i=0:=by simp at o;exact o
 exact h
def Zy.app{n}(h:Zy f row a)(r:Zy f row2 b)(u:n=I a):Zy f (Yd n row row2) (a++b):=λi t=>by
 subst u;unfold Yd;split;rename_i o;rw[h i o];simp[ZH6,ZIm o];rename_i o;rw[r (i-I a) (by simp at t;omega)];simp[ZH6,ZIw (Nat.not_lt.1 o)]
def Zy.snoc{n x}(h:Zy f row a)(i:row2 0=f x)(o:n=I a):Zy f (Yd n row row2) (a++[x]):=h.app (.one i) o
def Zy.take(h:Zy f row l)(k):Zy f row (l.take k):=λi o=>by
 rw[ZIa]at o;rw[h i ω];simp[ZH6,List.getElem?_take_of_lt (show i<k by omega)]
def Zy.le{t n s}(h:Zy f row l)(o:n=I l):(D.sl t n s row).Le (slD s f l):=Zca o λi hi=>h i ω
end
open Go.Proofs
def Qe(t:YF):Bool:=Yl t.field&&!dC (t.factor=0)&&Jk t.factor
def Ql:List Str->List YF->Bool
 |_,[]=>true
 |seen,t::r=>Qe t&&!dC (t.field∈seen)&&Ql (seen++[t.field]) r
def ZU(s:JX):Bool:=Jk s.base&&dC (I s.terms<=4)&&Ql [] s.terms
def Zj5(s):Zc ZHP 312 [.agg s.cells] (.bool (ZU s)):=by
 refine ZO (cR 312 f312) λu F st o=>?_;have hw:=(Zu9 (s:=s) (u _ ψ)).nterms;unfold big at hw;clear u;refine rx (nd2 @eQ7 (nd2 @eQ5 @eQ1)) ?_;refine rg ?_;refine cl Zj6 ?_;refine cd (λhc=>?_) (λhc=>?_);refine rg ?_;refine rb o ?_;simp[ZU];cases h:Jk s.base<;>simp[h]at hc⊢;intro h2;omega;have he:ZU s=Ql ((s.terms.take 0).map (·.field)) (s.terms.drop 0):=by simp[ZU]at hc⊢;simp[hc];intro h;omega
 refine rg ?_;refine Zb ?_;refine lpU (λQ=>∀n i,n+i=I s.terms->ZU s=Ql ((s.terms.take i).map (·.field)) (s.terms.drop i)->Q F [(1,.loc 1 0),(3,.d (.i i))] [(1,[.i s.base,.sl .none (I s.terms) 2 λi=>(s.terms.getD i dE).cells])] st) ?_ λag=>?_
 .intro n;induction n with
  |zero =>intro i hi he;refine rg ?_;refine cd (λhd=>?_) (λhd=>?_);simp at hd;omega;refine rg ?_;refine rb o ?_;rw[he,show i=I s.terms by omega];simp[Ql]
  |succ n ih =>
   intro i hi he;have hdr:=Yf (l:=s.terms) (k:=i) ω;have af:=ZQ (l:=s.terms) (k:=i) ω;rw[hdr]at he;simp only[Ql]at he;generalize hx:s.terms.getD i dE=x at *;refine rg ?_;refine cd (λhd=>?_) (λhd=>?_)
   .refine xA (nd2 @eQ8 @hx) ?_;refine cl (Zb4 _) ?_;refine aa ?_;refine Zbd rfl rfl rfl rfl rfl (λac=>⟨by first|trivial|(simpa[ZbO]using ac),trivial,Zj6⟩) (Zk ?_);simp only[Eqs,reduceCtorEq,ZHV,reduceIte,ZHR,ZHY,ZHS,YF.cells,hx];refine cd (λh3=>?_) (λh3=>?_);refine rg ?_;have:Qe x=false:=by revert h3;unfold Qe;generalize Yl x.field=a;generalize dC (x.factor=0)=b;generalize Jk x.factor=c;cases a<;>cases b<;>cases c<;>decide
    refine rb o ?_;rw[he,this];rfl;have ae:Qe x=true:=by revert h3;unfold Qe;generalize Yl x.field=a;generalize dC (x.factor=0)=b;generalize Jk x.factor=c;cases a<;>cases b<;>cases c<;>decide
    refine rg ?_;refine Zb ?_;refine lpU (λQ=>∀m j,m+j=i->(∀j',j'<j->(s.terms.getD j' dE).field≠x.field)->Q F [(1,.loc 1 0),(3,.d (.i i)),(4,.d (.i j))] [(1,[.i s.base,.sl .none (I s.terms) 2 λi=>(s.terms.getD i dE).cells])] st) ?_ λab=>?_
    .intro m;induction m with
     |zero =>
      intro j hj t;refine rg ?_;refine cd (λh4=>?_) (λh4=>?_);simp at h4;omega;refine gA ?_;refine Za ?_;refine ih (i+1) ω ?_;have r:x.field∉(s.terms.take i).map (·.field):=by intro h;obtain⟨j',h1,h2⟩:=(ZjW (f:=(·.field)) (l:=s.terms) (k:=i) ω x.field).1 h;exact t j' ω h2
      rw[he,ae,decide_eq_false r,af];simp
     |succ m ih2 =>intro j hj t;refine rg ?_;refine cd (λh4=>?_) (λh4=>?_);refine xA (nd2 @eQ8 @hx) ?_;refine cd (λh5=>?_) (λh5=>?_);refine rg ?_;have r:x.field∈(s.terms.take i).map (·.field):=(ZjW (f:=(·.field)) (l:=s.terms) (k:=i) ω x.field).2 ⟨j,ω,by simpa using h5⟩;refine rb o ?_;rw[he,decide_eq_true r];simp;refine gA ?_;refine Za ?_;refine ih2 (j+1) ω λj' hj'=>?_;by_cases ad:j'=j;subst ad;simpa using h5;exact t j' ω;simp at h4;omega
    exact ab i 0 ω (λj' h=>by omega)
   simp at hd;omega
 exact ag (I s.terms) 0 ω he
structure Ran where
 name:Str
 low:Int
 high:Int
deriving Inhabited,DecidableEq
def Ran.cells(r:Ran):List D:=[.str r.name,.i r.low,.i r.high]
def ZbM(l:List Ran):D:=slD 3 Ran.cells l
def YK(s:Str):List Ran->Int
 | []=>-1
 |x::r=>if 0<=YK s r then YK s r+1 else if x.name=s then 0 else -1
def ZsB(s l):-1<=YK s l:=by
 induction l with
 |nil=>simp[YK]
 |cons x r ih=>simp only[YK];split<;>(try split)<;>omega
def ZsC(s l):YK s l<I l:=by
 induction l with
 |nil=>simp[YK]
 |cons x r ih=>simp only[YK,ZH3];split<;>(try split)<;>omega
def Zn0(s l x):YK s (l++[x])=if x.name=s then (I l:Int) else YK s l:=by
 induction l with
 |nil=>simp[YK]
 |cons y r ih =>simp only[List.cons_append,YK,ih,ZH3];have:=ZsB s r;by_cases h:x.name=s<;>simp[h]
def ZfK(l){s}:Zc ZHP 328 [ZbM l,.str s] (.i (YK s l)):=by
 refine ZO (cR 328 f328) λu F st t=>?_;have hw:=(Y4 (u (ZbM l) ψ)).1;unfold big at hw;clear u;refine rx (nd2 @ZbM.eq_1 @eQ1) ?_;refine gG ?_;refine Zb (fr (I l) (λi Q=>i<=I l->Q [(0,.d (ZbM l)),(1,.d (.str s)),(5,.d (.i (YK s (l.take i)))),(6,.d (.i i))] [] st) (λn r=>?_) λab=>?_);intro i hn hi;have hge:=ZsB s (l.take i);refine rx (nd2 @ZbM.eq_1 @eQ1) ?_;refine cd (λhd=>?_) (λhd=>?_);simp at hd;refine xA @Ran.cells.eq_1 ?_;refine cd (λh5=>?_) (λh5=>?_);refine rg ?_;refine gA ?_;have:YK s (l.take (i+1))=i:=by rw[ZQ ω,Zn0,if_pos (by simpa using h5)];simp;omega
 refine Za ?_;have o:=r ((I l)-(i+1)) ω (i+1) rfl ω;rw[this]at o;exact o;refine gA ?_;have:YK s (l.take (i+1))=YK s (l.take i):=by rw[ZQ ω,Zn0,if_neg (by simpa using h5)]
 refine Za ?_;have o:=r ((I l)-(i+1)) ω (i+1) rfl ω;rw[this]at o;exact o;refine rg ?_;refine ri t ?_;simp at hd;rw[List.take_of_length_le ω];exact ab _ 0 rfl ω
abbrev Zbf:=Str->Option (Int×Int)
def Jh(r:Int×Int):Bool:=dC (r.1<0) ||decide (r.2<r.1) ||decide (34359738368<=r.2)
def WP(look:Zbf)(t:YF):Bool:=match look t.field with|some r=>Jh r|none=>false
def YO(look:Zbf)(t:YF):Bool:=(look t.field).isNone
def JH(s:JX)(look:Zbf):Int:=if ZU s=false then 2 else if s.terms.any (WP look) then 2 else if s.terms.any (YO look) then 9 else 0
def Jt(look:Zbf)(t:YF):Int×Int:=(look t.field).getD (0,0)
def loT(look:Zbf)(t:YF):Int:=if 0<t.factor then t.factor*(Jt look t).1 else t.factor*(Jt look t).2
def hiT(look:Zbf)(t:YF):Int:=if 0<t.factor then t.factor*(Jt look t).2 else t.factor*(Jt look t).1
def loS(look:Zbf):List YF->Int
 | []=>0
 |t::r=>loT look t+loS look r
def hiS(look:Zbf):List YF->Int
 | []=>0
 |t::r=>hiT look t+hiS look r
def YU(s:JX)(look:Zbf):Int×Int×Int:=if JH s look=0 then (s.base+loS look s.terms,s.base+hiS look s.terms,0) else (0,0,JH s look)
def ZbS(look:Zbf)(t:YF)(mix:Nat):Int:=t.factor*(if mix % 2=1 then (Jt look t).2 else (Jt look t).1)
def Zak(look:Zbf):List YF->Nat->Int
 | [],_=>0
 |t::r,mix=>ZbS look t mix+Zak look r (mix / 2)
structure Zmw(look:Zbf)(t:YF):Prop where
 le:(Jt look t).1<=(Jt look t).2
 lo:0<=(Jt look t).1
 hi:(Jt look t).2<34359738368
 f1:-1048576<=t.factor
 f2:t.factor<=1048576
def ZBx{f v}(o:-1048576<=f)(r:f<=1048576)(i:0<=v)(h4:v<34359738368):-36028797018963968<=f*v/\f*v<=36028797018963968:=by
 have a:f*v<=1048576*v:=Int.mul_le_mul_of_nonneg_right r i;have b:-1048576*v<=f*v:=Int.mul_le_mul_of_nonneg_right o i;omega
def Zmw.ends_mix{look t}(h:Zmw look t)(m):-36028797018963968<=ZbS look t m/\ZbS look t m<=36028797018963968:=by
 have a:=h.le;have b:=h.lo;have c:=h.hi;unfold ZbS;split;exact ZBx h.f1 h.f2 ω c;exact ZBx h.f1 h.f2 b ω
def Zmw.lo_le{look t}(h:Zmw look t)(m):loT look t<=ZbS look t m/\ZbS look t m<=hiT look t:=by
 have a:=h.le;unfold loT hiT ZbS;by_cases i:0<t.factor;have:=Int.mul_le_mul_of_nonneg_left a (show 0<=t.factor by omega);simp only[i,if_true];split<;>omega;have:=Int.mul_le_mul_of_nonpos_left (show t.factor<=0 by omega) a;simp only[i,if_false];split<;>omega
def Zxm{look l}(h:∀t∈l,Zmw look t)(m):loS look l<=Zak look l m/\Zak look l m<=hiS look l:=by
 induction l generalizing m with
 |nil=>simp[loS,Zak,hiS]
 |cons t r ih =>have:=(h t ψ).lo_le m;have:=ih (λt i=>h t (by simp[i])) (m / 2);simp only[loS,Zak,hiS];omega
def ZB3{look}(l):(∃m,m<2 ^ I l/\Zak look l m=loS look l)/\∃m,m<2 ^ I l/\Zak look l m=hiS look l:=by
 induction l with
 |nil=>exact⟨⟨0,ψ,rfl⟩,⟨0,ψ,rfl⟩⟩
 |cons t r ih =>obtain⟨⟨m,hm,o⟩,⟨n,hn,u⟩⟩:=ih;simp only[ZH3,Nat.pow_succ,loS,Zak,hiS,loT,hiT];by_cases i:0<t.factor;refine⟨⟨2*m,ω,?_⟩,⟨2*n+1,ω,?_⟩⟩;rw[show 2*m / 2=m by omega,o];simp[ZbS,i];rw[show(2*n+1) / 2=n by omega,u];simp[ZbS,i,show(2*n+1) % 2=1 by omega];refine⟨⟨2*m+1,ω,?_⟩,⟨2*n,ω,?_⟩⟩;rw[show(2*m+1) / 2=m by omega,o];simp[ZbS,i,show(2*m+1) % 2=1 by omega];rw[show 2*n / 2=n by omega,u];simp[ZbS,i]
def Zxq{look}{l:List YF}{i}(h:i<I l)(m):Zak look (l.drop i) (m / 2 ^ i)=ZbS look (l.getD i dE) (m / 2 ^ i)+Zak look (l.drop (i+1)) (m / 2 ^ (i+1)):=by
 rw[Yf h,Zak,Nat.div_div_eq_div_mul,Nat.pow_succ]
structure ZoZ(look:Zbf)(l:List YF)(b:Int)(k:Nat)(low high:Int):Prop where
 zero:k=0->low=0/\high=0
 le:∀m,m<k->low<=b+Zak look l m/\b+Zak look l m<=high
 ex:0<k->(∃m,m<k/\low=b+Zak look l m)/\∃m,m<k/\high=b+Zak look l m
def ZoZ.fin{look l b low i}(h:ZoZ look l b (2 ^ I l) low i)(o:∀t∈l,Zmw look t):low=b+loS look l/\i=b+hiS look l:=by
 obtain⟨⟨m,hm,he⟩,⟨n,r,hf⟩⟩:=ZB3 (look:=look) l;obtain⟨⟨u,hm',he'⟩,⟨n',hn',hf'⟩⟩:=h.ex (Nat.two_pow_pos _);have h1:=h.le m hm;have h2:=h.le n r;have h3:=Zxm o u;have h4:=Zxm o n';omega
def ZoZ.step{look l b low r k n u t}(h:ZoZ look l b k low r)(hn:n=b+Zak look l k)(h1:u=if k=0\/n<low then n else low)(h2:t=if k=0\/r<n then n else r):ZoZ look l b (k+1) u t:=by
 by_cases hk:k=0;subst hk;simp only[true_or,if_true]at h1 h2;refine⟨ω,λm hm=>?_,λ_=>⟨⟨0,ω,ω⟩,⟨0,ω,ω⟩⟩⟩;obtain rfl:m=0:=ω;omega;simp only[hk,false_or]at h1 h2;obtain⟨⟨m',hm',i⟩,⟨n',hn',o⟩⟩:=h.ex ω;refine⟨ω,λm hm=>?_,λ_=>⟨?_,?_⟩⟩;rcases Nat.lt_succ_iff_lt_or_eq.1 hm with hm|rfl;have:=h.le m hm;constructor;rw[h1];split<;>omega;rw[h2];split<;>omega;constructor;rw[h1];split<;>omega;rw[h2];split<;>omega;rw[h1];split;exact⟨k,ω,hn⟩;exact⟨m',ω,i⟩;rw[h2];split;exact⟨k,ω,hn⟩;exact⟨n',ω,o⟩
def ZpS{i l}(h:Ql i l=true):∀t∈l,Qe t=true:=by
 induction l generalizing i with
 |nil=>simp
 |cons x r ih =>simp only[Ql,ZH1]at h;intro t ht;rcases List.mem_cons.1 ht with rfl|ht;exact h.1.1;exact ih h.2 t ht
structure Znn(s:JX):Prop where
 b1:-1048576<=s.base
 b2:s.base<=1048576
 len:I s.terms<=4
 f1:∀t∈s.terms,-1048576<=t.factor
 f2:∀t∈s.terms,t.factor<=1048576
 f0:∀t∈s.terms,t.factor≠0
 nm:∀t∈s.terms,Yl t.field=true
def Znn.of{s}(h:ZU s=true):Znn s:=by
 simp only[ZU,ZH1,decide_eq_true_eq,Jk]at h;have o:=ZpS h.2;refine⟨h.1.1.1,h.1.1.2,h.1.2,?_,?_,?_,?_⟩<;>intro t i<;>have:=o t i<;>simp[Qe,Jk]at this<;>simp_all
def Wl(l:List Ran):Zbf:=λs=>if YK s l<0 then nO else sO ((l.getD (YK s l).toNat dE).low,(l.getD (YK s l).toNat dE).high)
def Zh0{α:Type}[Inhabited α]{p}{l:List α}{i}(h:i<I l):(l.take (i+1)).any p=((l.take i).any p ||p (l.getD i dE)):=by
 rw[ZQ h,List.any_append];simp
def ZrW{α:Type}[Inhabited α]{p}{l:List α}{i}(h:i<I l)(o:p (l.getD i dE)=true):l.any p=true :=
 List.any_eq_true.2 ⟨_,Zr h,o⟩
def Zoj(s l):Zc ZHP 313 [.agg s.cells,ZbM l] (.tup [.i (YU s (Wl l)).1,.i (YU s (Wl l)).2.1,.i (YU s (Wl l)).2.2]):=by
 refine ZO (cR 313 f313) λav F st ah=>?_;have hw:=(Zu9 (s:=s) (av _ ψ)).nterms;have a4:=(Y4 (av (ZbM l) ψ)).1;unfold big at hw a4;clear av;refine rx (nd2 @eQ7 (nd2 @eQ5 @eQ1)) ?_;refine rg ?_;refine cX (nd2 @eQ7 (nd2 @eQ5 @eQ1)) (Zj5 s) ?_;refine cd (λhc=>?_) (λhc=>?_);refine rg ?_;simp at hc;refine rt ah ?_;simp[YU,JH,hc];simp at hc;have hv:=Znn.of hc;refine gG ?_;refine Zb (fr (I s.terms) (λi Q=>i<=I s.terms->(s.terms.take i).any (WP (Wl l))=false->Q [(1,.d (ZbM l)),(2,.loc 2 0),(7,.d (.bool ((s.terms.take i).any (YO (Wl l))))),(8,.d (.i i))] [(2,[.i s.base,Z4 s.terms])] st) (λn ae=>?_) λa5=>?_)
 .intro i hn hi u;refine rx (nd2 @eQ5 @eQ1) ?_;refine cd (λhd=>?_) (λhd=>?_);simp at hd;have am:=Zh0 (p:=WP (Wl l)) hd;have ao:=Zh0 (p:=YO (Wl l)) hd;refine xA (nd2 @eQ8 (nd2 @eQ5 @eQ1)) ?_;refine cl (ZfK l) ?_;refine rg ?_;refine cd (λh5=>?_) (λh5=>?_);refine rg ?_;refine gA ?_;have au:YO (Wl l) (s.terms.getD i dE)=true:=by simp only[YO,Wl];rw[if_pos (of_decide_eq_true h5)];rfl
  have aj:WP (Wl l) (s.terms.getD i dE)=false:=by simp only[WP,Wl];rw[if_pos (of_decide_eq_true h5)]
  rw[au,Bool.or_true]at ao;rw[aj,Bool.or_false]at am;refine Za ?_;have ab:=ae ((I s.terms)-(i+1)) ω (i+1) rfl ω (by rw[am,u]);rw[ao]at ab;exact ab;have hge:=ZsC (s.terms.getD i dE).field l;have aw:¬YK (s.terms.getD i dE).field l<0:=of_decide_eq_false h5;refine xA (nd2 @Ran.cells.eq_1 (nd2 @ZbM.eq_1 @eQ1)) ?_;have au:YO (Wl l) (s.terms.getD i dE)=false:=by simp only[YO,Wl];rw[if_neg aw];rfl
  have aj:WP (Wl l) (s.terms.getD i dE)=Jh ((l.getD (YK (s.terms.getD i dE).field l).toNat dE).low,(l.getD (YK (s.terms.getD i dE).field l).toNat dE).high):=by simp only[WP,Wl];rw[if_neg aw]
  refine cd (λh6=>?_) (λh6=>?_);refine rg ?_;rw[<-Jh.eq_1 (_,_)]at h6;rw[h6]at aj;have:=ZrW hd aj;refine rt ah ?_;simp[YU,JH,hc,this];refine gA ?_;rw[show Jh (_,_)=false from h6]at aj;rw[au,Bool.or_false]at ao;rw[aj,Bool.or_false]at am;refine Za ?_;have ab:=ae ((I s.terms)-(i+1)) ω (i+1) rfl ω (by rw[am,u]);rw[ao]at ab;exact ab;simp at hd;obtain rfl:i=I s.terms:=ω;rw[ZIb]at u;rw[ZIb];refine rg ?_;refine cd (λh7=>?_) (λh7=>?_);refine rg ?_;refine rt ah ?_;simp[YU,JH,hc,u,h7];have ak:∀t∈s.terms,Zmw (Wl l) t:=by intro t ht;have h1:=List.any_eq_false.1 u t ht;have h2:=List.any_eq_false.1 h7 t ht;simp only[WP,YO,Wl]at h1 h2;have ai:¬YK t.field l<0:=λh=>h2 (by rw[if_pos h];rfl);rw[if_neg ai]at h1;simp[Jh]at h1;refine⟨?_,?_,?_,hv.f1 t ht,hv.f2 t ht⟩<;>simp only[Jt,Wl]<;>rw[if_neg ai]<;>simp<;>omega
  have he:JH s (Wl l)=0:=by simp[JH,hc,u,h7]
  have an:∀t∈s.terms,0<=YK t.field l/\Jt (Wl l) t=((l.getD (YK t.field l).toNat dE).low,(l.getD (YK t.field l).toNat dE).high):=by intro t ht;have h:=List.any_eq_false.1 h7 t ht;simp only[YO,Wl]at h;by_cases ai:YK t.field l<0;rw[if_pos ai]at h;simp at h;simp only[Jt,Wl];rw[if_neg ai];exact⟨ω,rfl⟩
  have a3:QQ .i64 1 (I s.terms:Int)=((2 ^ I s.terms:Nat):Int):=by
   have:=hv.len;generalize (I s.terms)=n at this
   match n,this with
   |0,_=>decide
   |1,_=>decide
   |2,_=>decide
   |3,_=>decide
   |4,_=>decide
   |n+5,h=>omega
  have hle16:2 ^ I s.terms<=16:=by have:=hv.len;exact Nat.pow_le_pow_right (n:=2) ω this
  clear ae u h7 hn hi hd;refine gG ?_;refine Zb (fr ((2 ^ I s.terms)) (λk Q=>∀low ag,k<=2 ^ I s.terms->ZoZ (Wl l) s.terms s.base k low ag->Q [(1,.d (ZbM l)),(2,.loc 2 0),(10,.d (.i low)),(11,.d (.i ag)),(12,.d (.i k))] [(2,[.i s.base,Z4 s.terms])] st) (λn o=>?_) λa1=>?_);intro k hn low ag hk hb;have h2n:=Nat.two_pow_pos (I s.terms);refine xA (nd2 @eQ5 (nd2 @eQ1 @a3)) ?_;refine cd (λh8=>?_) (λh8=>?_);have ax:k<2 ^ I s.terms:=by have:=of_decide_eq_true h8;omega
  clear h8;refine gG ?_;have hbase:∀j,j<=I s.terms->True:=λ_ _=>trivial;refine Zb (fr (I s.terms) (λj Q=>∀x,j<=I s.terms->x+Zak (Wl l) (s.terms.drop j) (k / 2 ^ j)=s.base+Zak (Wl l) s.terms k->-1048576-j*36028797018963968<=x->x<=1048576+j*36028797018963968->Q [(1,.d (ZbM l)),(2,.loc 2 0),(10,.d (.i low)),(11,.d (.i ag)),(12,.d (.i k)),(13,.d (.i x)),(14,.d (.i j))] [(2,[.i s.base,Z4 s.terms])] st) (λn af=>?_) λa2=>?_);intro j hn3 x hj hx hx1 hx2;have hlen:=hv.len;refine rx (nd2 @eQ5 @eQ1) ?_;refine cd (λh9=>?_) (λh9=>?_);simp at h9;have ad:=Zxq (look:=Wl l) h9 k;have hf:=ak _ (Zr h9);have ay:=hf.ends_mix (k / 2 ^ j);have al:=an _ (Zr h9);have ai:=ZsC (s.terms.getD j dE).field l;have a0:WL .i64 (k:Int) (j:Int)=((k / 2 ^ j:Nat):Int):=by unfold WL;rw[Int.toNat_natCast,show Nat.min j IntKind.i64.bits=j from Nat.min_eq_left (show j<=IntKind.i64.bits by simp[IntKind.bits];omega)];rw[Int.fdiv_eq_ediv_of_nonneg _ (by exact_mod_cast Nat.zero_le _)];simp
  have hk2:k / 2 ^ j<=k:=Nat.div_le_self _ _;have az:Int.tmod ((k / 2 ^ j:Nat):Int) 2=((k / 2 ^ j % 2:Nat):Int):=by simp[Int.tmod]
  generalize hq:k / 2 ^ j=q at *;refine xA (nd2 @eQ8 (nd2 @Ran.cells.eq_1 (nd2 @eQ5 @eQ1))) ?_;refine cX (nd2 @Ran.cells.eq_1 (nd2 @ZbM.eq_1 @eQ1)) (ZfK l) ?_;refine aa ?_;refine rg ?_;refine xA (nd2 @a0 @az) ?_;refine cd (λaq=>?_) (λaq=>?_);simp at aq;have ar:ZbS (Wl l) (s.terms.getD j dE) q=(s.terms.getD j dE).factor*(l.getD (YK (s.terms.getD j dE).field l).toNat dE).high:=by unfold ZbS;rw[al.2,if_pos ω]
  refine rg ?_;refine rx (nd2 @eQ8 (nd2 @eQ5 @eQ1)) ?_;rw[ar]at ay ad;generalize (s.terms.getD j dE).factor*(l.getD (YK (s.terms.getD j dE).field l).toNat dE).high=p at *;refine aa ?_;refine gA ?_;refine Za ?_;exact af ((I s.terms)-(j+1)) ω (j+1) rfl _ ω (by rw[<-hx,ad];omega) ω ω;simp at aq;have ar:ZbS (Wl l) (s.terms.getD j dE) q=(s.terms.getD j dE).factor*(l.getD (YK (s.terms.getD j dE).field l).toNat dE).low:=by unfold ZbS;rw[al.2,if_neg ω]
  refine rx (nd2 @eQ8 (nd2 @eQ5 @eQ1)) ?_;rw[ar]at ay ad;generalize (s.terms.getD j dE).factor*(l.getD (YK (s.terms.getD j dE).field l).toNat dE).low=p at *;refine aa ?_;refine gA ?_;refine Za ?_;exact af ((I s.terms)-(j+1)) ω (j+1) rfl _ ω (by rw[<-hx,ad];omega) ω ω;simp at h9;obtain rfl:j=I s.terms:=ω;have ap:x=s.base+Zak (Wl l) s.terms k:=by rw[List.drop_length,Zak,Int.add_zero]at hx;exact hx
  refine rg ?_;refine cd (λac=>?_) (λac=>?_);refine gG ?_;refine cd (λr=>?_) (λr=>?_);refine rg ?_;refine gA ?_;refine Za ?_;exact o (((2 ^ I s.terms))-(k+1)) ω (k+1) rfl _ _ ω (hb.step ap (by simp at ac;simp[ac]<;>omega) (by simp at r;simp[r]<;>omega));refine gA ?_;refine Za ?_;exact o (((2 ^ I s.terms))-(k+1)) ω (k+1) rfl _ _ ω (hb.step ap (by simp at ac;simp[ac]<;>omega) (by simp at r;simp[r]<;>omega));refine rg ?_;refine cd (λr=>?_) (λr=>?_);refine rg ?_;refine gA ?_;refine Za ?_;exact o (((2 ^ I s.terms))-(k+1)) ω (k+1) rfl _ _ ω (hb.step ap (by simp at ac;simp[ac]<;>omega) (by simp at r;simp[r]<;>omega));refine gA ?_;refine Za ?_;exact o (((2 ^ I s.terms))-(k+1)) ω (k+1) rfl _ _ ω (hb.step ap (by simp at ac;simp[ac]<;>omega) (by simp at r;simp[r]<;>omega));exact a2 _ 0 rfl s.base ω ψ (by have:=hv.b1;omega) (by have:=hv.b2;omega);have ax:¬k<2 ^ I s.terms:=λh=>of_decide_eq_false h8 (by exact_mod_cast h);obtain rfl:k=2 ^ I s.terms:=Nat.le_antisymm hk (Nat.not_lt.1 ax);obtain⟨rfl,rfl⟩:=hb.fin ak;refine rg ?_;refine rt ah ?_;unfold YU;rw[if_pos he];exact a1 _ 0 rfl 0 0 (Nat.zero_le _) ⟨ψ,ψ,ψ⟩
 exact a5 _ 0 rfl ω ψ
def ZvD{α β:Type}[Inhabited α]{f}{b:β}{l:List α}{i:Nat}(h:i<I l):(l.take (i+1)).foldl f b=f ((l.take i).foldl f b) (l.getD i dE):=by
 rw[ZQ h,List.foldl_append];rfl
def Zl{α:Type}(p:α->Bool):List α->Int
 | []=>-1
 |x::r=>if p x then 0 else if Zl p r<0 then -1 else Zl p r+1
def Wd{α}{p:α->Bool}{l:List α}(h:∀x∈l,p x=false):Zl p l=-1:=by
 induction l with
 |nil=>rfl
 |cons x r ih=>simp[Zl,h x ψ,ih (λy i=>h y (by simp[i]))]
def Wv{α}[Inhabited α]{p}{l:List α}{i:Nat}(u:i<I l)(o:p (l.getD i dE)=true)(h:∀j,j<i->p (l.getD j dE)=false):Zl p l=i:=by
 induction l generalizing i with
 |nil=>simp at u
 |cons x r ih =>
  cases i with
  |zero=>simp at o;simp[Zl,o]
  |succ i =>have t:=h 0 ω;have:=ih (i:=i) (by simpa using u) (by simpa using o) (λj hj=>by simpa using h (j+1) ω);simp at t;simp[Zl,t,this];omega
def K4{α}(p:α->Bool)(l:List α):-1<=Zl p l:=by
 induction l with
 |nil=>simp[Zl]
 |cons x r ih=>simp only[Zl];split<;>(try split)<;>omega
def YC{α}(p:α->Bool)(l:List α):Zl p l<I l:=by
 induction l with
 |nil=>simp[Zl]
 |cons x r ih=>simp only[Zl,ZH3];split<;>(try split)<;>omega
def Zc7{α}{p:α->Bool}{l:List α}(h:Zl p l<0):∀x∈l,p x=false:=by
 induction l with
 |nil=>simp
 |cons x r ih =>have:=K4 p r;simp only[Zl]at h;split at h;omega;rename_i o;split at h;rename_i i;intro y hy;rcases List.mem_cons.1 hy with rfl|hy;simpa using o;exact ih i y hy;omega
def Q6{α}[Inhabited α]{p:α->Bool}{l:List α}(h:0<=Zl p l):p (l.getD (Zl p l).toNat dE)=true/\∀j,j<(Zl p l).toNat->p (l.getD j dE)=false:=by
 induction l with
 |nil=>simp[Zl]at h
 |cons x r ih =>
  have:=K4 p r;by_cases i:p x=true;simp[Zl,i];simp only[Zl,i,if_false,ZIx]at h⊢;by_cases o:Zl p r<0;simp[o]at h;rw[if_neg o];obtain⟨t,u⟩:=ih ω;rw[show(Zl p r+1).toNat=(Zl p r).toNat+1 by omega];refine⟨by simpa using t,λj hj=>?_⟩;cases j with
  |zero=>simpa using i
  |succ j=>simpa using u j ω
def W8{α:Type}[Inhabited α]{l:List α}{n j}(h:j<n):(l.take n).getD j dE=l.getD j dE:=by
 simp[ZH6,List.getElem?_take_of_lt h]
def Zhv{α}[Inhabited α]{p}{l:List α}{i n}(hn:n<=I l)(o:i<n)(t:p (l.getD i dE)=true)(h:∀j,j<i->p (l.getD j dE)=false):Zl p (l.take n)=i :=
 Wv (by simp;omega) (by rw[W8 o];exact t) (λj r=>by rw[W8 ω];exact h j r)
def Zfy{α}[Inhabited α]{p}{l:List α}{n}(o:n<=I l)(h:∀j,j<n->p (l.getD j dE)=false):Zl p (l.take n)=-1 :=
 Wd λx r=>by obtain⟨j,i,rfl⟩:=(ZaN o).1 r;exact h j i
def Zm(d:Dfn)(s:Str)(n:Nat):Int:=Zl (λm=>dC (m.name=s)) (d.msgs.take n)
def Yi(m:Msg)(s:Str)(n:Nat):Int:=Zl (λf=>dC (f.name=s)) (m.fields.take n)
def Jo(f:Fld)(tag:Int):Int:=Zl (λc=>dC (c.low<=tag)&&dC (tag<=c.high)) f.cases
def Yy(f:Fld):Bool:=dC (1<=f.kind)&&dC (f.kind<=3)
def Wq(f:Fld):Int×Int:=if f.kind=2 then (f.low,f.low) else (f.low,f.high)
def ZgG(a b:Int):Bool:=dC (0<=a)&&(dC (a<=b)&&dC (b<34359738368))
def WG(d)(s:Str)(sm:Nat)(hs:sm<=I d.msgs):Zc ZHP 34 [.agg d.cells,.str s,.i sm] (.i (Zm d s sm)):=by
 refine ZO (cR 34 f34) λab F st r=>?_;have hw:=(Zhp (s:=d) (ab _ ψ)).nmsgs;unfold big at hw;clear ab;refine rx (nd2 @eQ2 (nd2 @eQ6 @eQ1)) ?_;refine rg ?_;refine Zb (fr (sm) (λi Q=>i<=sm->(∀j,j<i->dC ((d.msgs.getD j dE).name=s)=false)->Q [(1,.d (.str s)),(2,.d (.i sm)),(3,.loc 3 0),(7,.d (.i i))] [(3,d.cells)] st) (λn o=>?_) λac=>?_);intro i hn hi t;refine rx (nd2 @eQ2 (nd2 @eQ6 @eQ1)) ?_;refine cd (λhd=>?_) (λhd=>?_);simp at hd;refine xA (nd2 @eQ3 (nd2 @eQ2 (nd2 @eQ6 @eQ1))) ?_;refine cd (λh5=>?_) (λh5=>?_);refine rg ?_;refine ri r ?_;exact(Zhv hs hd h5 t).symm;refine gA ?_;have u:∀j,j<i+1->dC ((d.msgs.getD j dE).name=s)=false:=by intro j hj;rcases Nat.lt_succ_iff_lt_or_eq.1 hj with hj|rfl;exact t j hj;exact h5
 refine Za ?_;exact o ((sm)-(i+1)) ω (i+1) rfl ω u;simp at hd;refine rg ?_;refine ri r ?_;exact(Zfy hs (λj hj=>t j ω)).symm;exact ac _ 0 rfl ω (λj h=>by omega)
def Zan(m)(s:Str)(sm:Nat)(hs:sm<=I m.fields):Zc ZHP 84 [.agg m.cells,.str s,.i sm] (.i (Yi m s sm)):=by
 refine ZO (cR 84 f84) λab F st r=>?_;have hw:=(ZfE (s:=m) (ab _ ψ)).nfields;unfold big at hw;clear ab;refine rx (nd2 @eQ3 (nd2 @eQ4 @eQ1)) ?_;refine rg ?_;refine Zb (fr (sm) (λi Q=>i<=sm->(∀j,j<i->dC ((m.fields.getD j dE).name=s)=false)->Q [(1,.d (.str s)),(2,.d (.i sm)),(3,.loc 3 0),(7,.d (.i i))] [(3,m.cells)] st) (λn o=>?_) λac=>?_);intro i hn hi t;refine rx (nd2 @eQ3 (nd2 @eQ4 @eQ1)) ?_;refine cd (λhd=>?_) (λhd=>?_);simp at hd;refine xA (nd2 @eQ0 (nd2 @eQ3 (nd2 @eQ4 @eQ1))) ?_;refine cd (λh5=>?_) (λh5=>?_);refine rg ?_;refine ri r ?_;exact(Zhv hs hd h5 t).symm;refine gA ?_;have u:∀j,j<i+1->dC ((m.fields.getD j dE).name=s)=false:=by intro j hj;rcases Nat.lt_succ_iff_lt_or_eq.1 hj with hj|rfl;exact t j hj;exact h5
 refine Za ?_;exact o ((sm)-(i+1)) ω (i+1) rfl ω u;simp at hd;refine rg ?_;refine ri r ?_;exact(Zfy hs (λj hj=>t j ω)).symm;exact ac _ 0 rfl ω (λj h=>by omega)
def ZeA(f):Zc ZHP 70 [.agg f.cells] (.bool (Yy f)):=by
 refine Ze (cR 70 f70) λF st i=>?_;refine rx @eQ0 ?_;refine rg ?_;refine rb i ?_;rfl
def Zj7(f):Zc ZHP 270 [.agg f.cells] (.tup [.i (Wq f).1,.i (Wq f).2]):=by
 refine Ze (cR 270 f270) λF st i=>?_;refine rx @eQ0 ?_;refine rg ?_;refine cd (λo=>?_) (λo=>?_);refine rg ?_;refine rt i ?_;simp at o;simp[Wq,o];refine rg ?_;refine rt i ?_;simp at o;simp[Wq,o]
def Zt0(a b):Zc ZHP 267 [.i a,.i b] (.bool (ZgG a b)):=by
 refine Ze (cR 267 f267) λF st i=>?_;refine gG ?_;refine rb i ?_;simp[ZgG,Bool.and_assoc]
def Zwn:List Str:=[[],[98,108,120,104],[98,108,120],[111,120,104],[115],[120,104],[111,104],[102,115],[102],[116,99],[98],[114,107],[102,115,121]]
def Ze6(k:Int):Str:=Zwn.getD k.toNat []
def ZtQ{k}(h0:0<=k)(h1:k<13):ZI [D.str []] ([0,1,2,3,4,5,6,7,8,9,10,11,12].zip [D.str [],.str [98,108,120,104],.str [98,108,120],.str [111,120,104],.str [115],.str [120,104],.str [111,104],.str [102,115],.str [102],.str [116,99],.str [98],.str [114,107],.str [102,115,121]]) k.toNat=[.str (Ze6 k)]:=by
 unfold Ze6;have h:k.toNat<13:=ω;generalize k.toNat=n at h
 match n,h with
 |0,_|1,_|2,_|3,_|4,_|5,_|6,_|7,_|8,_|9,_|10,_|11,_|12,_=>rfl
 |n+13,h=>omega
def ZtZ(k)(o:0<=k)(r:k<13):Zc ZHP 264 [.i k] (.str (Ze6 k)):=by
 refine Ze (cR 264 f264) λF st i=>?_;have t:=ZtQ o r;refine rg ?_;refine xA @t ?_;refine rs i ?_;rfl
def Qt(s:Str)(c:UInt8):Bool:=dC (c∈s)
def Zy3{s:Str}{i}(h:i<I s):s.getD i 0∈s:=by simp[ZH6,h]
def Kx{s}(c):Zc ZHP 265 [.str s,.int .u8 (c.toNat:Int)] (.bool (Qt s c)):=by
 refine ZO (cR 265 f265) λab F st r=>?_;have hw:=(ab (.str s) ψ).str_inv;unfold big at hw;clear ab;refine gG ?_;refine Zb (fr (I s) (λi Q=>i<=I s->(∀j,j<i->s.getD j 0≠c)->Q [(0,.d (.str s)),(1,.d (.int .u8 (c.toNat:Int))),(5,.d (.i i))] [] st) (λn o=>?_) λad=>?_);intro i hn hi t;refine rg ?_;refine cd (λhd=>?_) (λhd=>?_);simp at hd;refine gA ?_;have ac:=UInt8.toNat_inj (a:=s.getD i 0) (b:=c);refine cd (λh5=>?_) (λh5=>?_);simp only[decide_eq_true_eq]at h5;have h6:s.getD i 0=c:=ac.1 ω;refine rg ?_;refine rb r ?_;simp only[Qt];exact(decide_eq_true (h6▸Zy3 hd)).symm;simp only[decide_eq_false_iff_not]at h5;refine gA ?_;have u:∀j,j<i+1->s.getD j 0≠c:=by intro j hj;rcases Nat.lt_succ_iff_lt_or_eq.1 hj with hj|rfl;exact t j hj;intro h;rw[h]at h5;exact h5 rfl
 refine Za ?_;exact o ((I s)-(i+1)) ω (i+1) rfl ω u;simp at hd;refine rg ?_;refine rb r ?_;simp only[Qt];refine(decide_eq_false λh=>?_).symm;obtain⟨j,hj,he⟩:=ZIc h;exact t j ω (by simp[ZH6,hj,he]);exact ad _ 0 rfl ω (λj h=>by omega)
def zrA(u:Str)(f:Fld):Bool:=(Qt u 98 ||decide (f.bits=0))&&((Qt u 108||!f.little)&&((Qt u 111||!f.loose)&&((Qt u 120 ||decide (f.low=0))&&(Qt u 104 ||decide (f.high=0)))))
def zrB(u:Str)(f:Fld):Bool:=(Qt u 115 ||(dC (f.size.base=0)&&dC (I f.size.terms=0)))&&((Qt u 102 ||decide (f.of=[]))&&((Qt u 116 ||decide (f.tag=[]))&&(Qt u 114 ||decide (f.from_=[]))))
def zrC(u:Str)(f:Fld):Bool:=(Qt u 99 ||decide (I f.cases=0))&&((Qt u 107 ||decide (f.check=0))&&(Qt u 121 ||decide (f.key=0)))
def Zd8(f:Fld):Bool:=zrA (Ze6 f.kind) f&&(zrB (Ze6 f.kind) f&&zrC (Ze6 f.kind) f)
def Zx6(u f):zrA u f=!(!Qt u 98&&!dC (f.bits=0)||!Qt u 108&&f.little||!Qt u 111&&f.loose||!Qt u 120&&!dC (f.low=0)||!Qt u 104&&!dC (f.high=0)):=by
 simp[zrA,Bool.and_assoc]
def Zx7(u f):zrB u f=!(!Qt u 115&&(!dC (f.size.base=0)||!dC ((I f.size.terms:Int)=0))||!Qt u 102&&!dC (f.of=[])||!Qt u 116&&!dC (f.tag=[])||!Qt u 114&&!dC (f.from_=[])):=by
 simp[zrB,Bool.and_assoc]
def Zt1(f)(h0:0<=f.kind)(h1:f.kind<13):Zc ZHP 215 [.agg f.cells] (.bool (Zd8 f)):=by
 refine Ze (cR 215 f215) λF st i=>?_;refine rx (nd2 @eQ0 (nd2 @eQ5 (nd2 @Z2.eq_1 @eQ1))) ?_;refine rg ?_;refine cl (ZtZ f.kind h0 h1) ?_;refine rg ?_;refine cl (Kx 98) ?_;refine cG (Kx 108) ?_;refine cG (Kx 111) ?_;refine cG (Kx 120) ?_;refine cG (Kx 104) ?_;generalize hu:Ze6 f.kind=u;refine cd (λr=>?_) (λr=>?_);have hz:zrA u f=false:=by rw[Zx6,r];rfl
 refine rg ?_;refine rb i ?_;simp[Zd8,hu,hz];have hz:zrA u f=true:=by rw[Zx6,r];rfl
 clear r;refine rg ?_;refine cX (nd2 @eQ5 (nd2 @Z2.eq_1 @eQ1)) (Kx 115) ?_;refine cG (Kx 102) ?_;refine cG (Kx 116) ?_;refine cG (Kx 114) ?_;refine cd (λt=>?_) (λt=>?_);have o:zrB u f=false:=by rw[Zx7,t];rfl
 refine rg ?_;refine rb i ?_;simp[Zd8,hu,o];have o:zrB u f=true:=by rw[Zx7,t];rfl
 clear t;refine rg ?_;refine cX (nd2 @eQ5 (nd2 @Z2.eq_1 @eQ1)) (Kx 99) ?_;refine cG (Kx 107) ?_;refine cG (Kx 121) ?_;refine rb i ?_;simp only[Zd8,hu,hz,o];simp[zrC,Bool.and_assoc]
def Q8(f:Fld):Bool:=dC (f.bits<1) ||(dC (32<f.bits) ||(f.little&&(!dC (f.bits=16)&&(!dC (f.bits=24)&&!dC (f.bits=32)))))
def ZfY(f:Fld):Int:=if f.kind=2 then f.low else f.high
def Zbw(f:Fld):Bool:=dC (f.low<0) ||(dC (ZfY f<f.low) ||decide (2 ^ f.bits.toNat<=ZfY f))
def Kd(f:Fld):Int:=if Q8 f then 6 else if Zbw f then 7 else 0
def Zzv{b}(h0:0<=b)(h1:b<=32):QQ .i64 1 b=2 ^ b.toNat:=by
 unfold QQ;rw[show Nat.min b.toNat IntKind.i64.bits=b.toNat from Nat.min_eq_left (show b.toNat<=IntKind.i64.bits by simp[IntKind.bits];omega)];simp
def Zes{b:Int}(h0:0<=b)(h1:b<=32):(0:Int)<2 ^ b.toNat/\(2:Int) ^ b.toNat<=4294967296:=by
 have h:=Nat.pow_le_pow_right (n:=2) ω (show b.toNat<=32 by omega);have i:=Nat.two_pow_pos b.toNat;rw[show(2:Int) ^ b.toNat=((2 ^ b.toNat:Nat):Int) from(Int.natCast_pow 2 b.toNat).symm];generalize 2 ^ b.toNat=x at h i⊢;omega
def ZiZ(f):Zc ZHP 266 [.agg f.cells] (.i (Kd f)):=by
 refine Ze (cR 266 f266) λF st i=>?_;refine rx (nd2 @eQ0 (nd2 @eQ5 (nd2 @Z2.eq_1 @eQ1))) ?_;refine rg ?_;refine cd (λhc=>?_) (λhc=>?_);have u:Q8 f=true:=by rw[<-hc];simp[Q8,Bool.or_assoc,Bool.and_assoc]
 refine rg ?_;refine ri i ?_;simp[Kd,u];have u:Q8 f=false:=by rw[<-hc];simp[Q8,Bool.or_assoc,Bool.and_assoc]
 have o:=u;simp[Q8]at o;have r:=Zzv (b:=f.bits) ω ω;have h32:=Zes (b:=f.bits) ω ω;have hbits:1<=f.bits/\f.bits<=32:=ω;clear hc o;refine gG ?_;refine cd (λh2=>?_) (λh2=>?_);have ht:ZfY f=f.low:=by simp at h2;simp[ZfY,h2]
 refine rg ?_;refine rx @r ?_;refine ZHZ (λ_=>by omega) ?_;refine cd (λt=>?_) (λt=>?_);have hn:Zbw f=true:=by rw[<-t];simp[Zbw,ht,Bool.or_assoc]
 refine rg ?_;refine ri i ?_;simp[Kd,u,hn];have hn:Zbw f=false:=by rw[<-t];simp[Zbw,ht,Bool.or_assoc]
 refine rg ?_;refine ri i ?_;simp[Kd,u,hn];have ht:ZfY f=f.high:=by simp at h2;simp[ZfY,h2]
 refine rx @r ?_;refine ZHZ (λ_=>by omega) ?_;refine cd (λt=>?_) (λt=>?_);have hn:Zbw f=true:=by rw[<-t];simp[Zbw,ht,Bool.or_assoc]
 refine rg ?_;refine ri i ?_;simp[Kd,u,hn];have hn:Zbw f=false:=by rw[<-t];simp[Zbw,ht,Bool.or_assoc]
 refine rg ?_;refine ri i ?_;simp[Kd,u,hn]
def ZpR(m:Msg)(s:Str)(n:Nat):Bool:=(m.fields.take n).any λf=>dC (f.kind=9)&&dC (f.tag=s)
def Zpa{α:Type}[Inhabited α]{p}{l:List α}{n}(o:n<=I l)(h:∀j,j<n->p (l.getD j dE)=false):(l.take n).any p=false:=by
 rw[List.any_eq_false];intro x r;obtain⟨j,i,rfl⟩:=(ZaN o).1 r;rw[h j i];simp
def ZqV{α:Type}[Inhabited α]{p}{l:List α}{n i}(r:n<=I l)(o:i<n)(h:p (l.getD i dE)=true):(l.take n).any p=true :=
 List.any_eq_true.2 ⟨_,(ZaN r).2 ⟨i,o,rfl⟩,h⟩
def Zrc(m)(s:Str)(sm:Nat)(hs:sm<=I m.fields):Zc ZHP 269 [.agg m.cells,.str s,.i sm] (.bool (ZpR m s sm)):=by
 refine ZO (cR 269 f269) λab F st r=>?_;have hw:=(ZfE (s:=m) (ab _ ψ)).nfields;unfold big at hw;clear ab;refine rx (nd2 @eQ3 (nd2 @eQ4 @eQ1)) ?_;refine rg ?_;refine Zb (fr (sm) (λi Q=>i<=sm->(∀j,j<i->(dC ((m.fields.getD j dE).kind=9)&&dC ((m.fields.getD j dE).tag=s))=false)->Q [(1,.d (.str s)),(2,.d (.i sm)),(3,.loc 3 0),(7,.d (.i i))] [(3,m.cells)] st) (λn o=>?_) λac=>?_);intro i hn hi t;refine rx (nd2 @eQ3 (nd2 @eQ4 @eQ1)) ?_;refine cd (λhd=>?_) (λhd=>?_);simp at hd;refine xA (nd2 @eQ0 (nd2 @eQ3 (nd2 @eQ4 @eQ1))) ?_;refine cd (λh5=>?_) (λh5=>?_);refine rg ?_;refine rb r ?_;exact(ZqV hs hd h5).symm;refine gA ?_;have u:∀j,j<i+1->(dC ((m.fields.getD j dE).kind=9)&&dC ((m.fields.getD j dE).tag=s))=false:=by intro j hj;rcases Nat.lt_succ_iff_lt_or_eq.1 hj with hj|rfl;exact t j hj;exact h5
 refine Za ?_;exact o ((sm)-(i+1)) ω (i+1) rfl ω u;simp at hd;refine rg ?_;refine rb r ?_;exact(Zpa hs (λj hj=>t j ω)).symm;exact ac _ 0 rfl ω (λj h=>by omega)
def Zbj(d:Dfn)(at_:Nat)(high:Int):Int->List YE->Int
 |_,[]=>0
 |low,c::r=>if dC (c.low<low) ||(dC (c.high<c.low) ||decide (high<c.high)) then 7 else if Zm d c.of at_<0 then 8 else Zbj d at_ high (c.high+1) r
def Zee(d:Dfn)(at_:Nat)(f:Fld)(low high:Int):Int:=if dC (I f.cases<1) ||decide (40<I f.cases) then 3 else Zbj d at_ high low f.cases
def Zs3(d)(at_:Nat)(f:Fld){low high:Int}(ha:at_<=I d.msgs):Zc ZHP 271 [.agg d.cells,.i at_,.agg f.cells,.i low,.i high] (.i (Zee d at_ f low high)):=by
 refine Ze (cR 271 f271) λF st r=>?_;refine rx (nd2 @eQ0 (nd2 @eQ2 (nd2 @eQ5 (nd2 @Z2.eq_1 @eQ1)))) ?_;refine rg ?_;refine cd (λhc=>?_) (λhc=>?_);refine rg ?_;have u:(dC (I f.cases<1) ||decide (40<I f.cases))=true:=by rw[ZId,decide_eq_true_eq,decide_eq_true_eq]at hc⊢;omega
 refine ri r ?_;unfold Zee;rw[if_pos u];rw[Bool.or_eq_false_iff,decide_eq_false_iff_not,decide_eq_false_iff_not]at hc;have u:¬(dC (I f.cases<1) ||decide (40<I f.cases))=true:=by rw[ZId,decide_eq_true_eq,decide_eq_true_eq];omega
 have he:Zee d at_ f low high=Zbj d at_ high low (f.cases.drop 0):=by unfold Zee;rw[if_neg u];rfl
 have hlen:I f.cases<=40:=ω;clear hc;refine rg ?_;refine Zb (fr (I f.cases) (λi Q=>∀lo,i<=I f.cases->Zee d at_ f low high=Zbj d at_ high lo (f.cases.drop i)->(low<=lo/\(i=0->lo=low)/\(0<i->lo=(f.cases.getD (i-1) dE).high+1))->Q [(1,.d (.i at_)),(3,.d (.i low)),(4,.d (.i high)),(5,.loc 5 0),(7,.loc 7 0),(11,.d (.i i))] [(5,d.cells),(7,f.cells)] st) (λn t=>?_) λaf=>?_);intro i hn lo hi o ae;refine rx (nd2 @eQ0 (nd2 @eQ2 (nd2 @eQ5 (nd2 @Z2.eq_1 @eQ1)))) ?_;refine cd (λhd=>?_) (λhd=>?_);simp at hd;rw[Yf hd,Zbj]at o;refine xA (nd2 @eQ0 (nd2 @eQ2 (nd2 @YE.cells.eq_1 (nd2 @eQ5 (nd2 @Z2.eq_1 @eQ1))))) ?_;refine rx (nd2 @eQ0 (nd2 @eQ2 (nd2 @YE.cells.eq_1 (nd2 @eQ5 (nd2 @Z2.eq_1 @eQ1))))) ?_;rw[show((i:Int)-1).toNat=i-1 by omega];refine ZHZ (λh=>by omega) (ZHZ (λh=>by simp at h;omega) ?_);obtain⟨hlo1,ac,ad⟩:=ae;have ab:(dC ((f.cases.getD i dE).low<low) ||decide ((f.cases.getD i dE).high<(f.cases.getD i dE).low) ||decide (high<(f.cases.getD i dE).high) ||decide (0<(i:Int))&&dC ((f.cases.getD i dE).low<=(f.cases.getD (i-1) dE).high))=(dC ((f.cases.getD i dE).low<lo) ||(dC ((f.cases.getD i dE).high<(f.cases.getD i dE).low) ||decide (high<(f.cases.getD i dE).high))):=by rw[Bool.eq_iff_iff];simp only[ZId,ZH1,decide_eq_true_eq];rcases Nat.eq_zero_or_pos i with h|h;have:=ac h;omega;have:=ad h;omega
 rw[ab];generalize hx:f.cases.getD i dE=x at *;refine cd (λh4=>?_) (λh4=>?_);rw[if_pos h4]at o;refine rg ?_;refine ri r ?_;exact o.symm;rw[h4,if_neg (by decide)]at o;refine rx @eQ2 ?_;refine cX @eQ2 (WG d x.of at_ ha) ?_;refine cd (λh5=>?_) (λh5=>?_);rw[if_pos (of_decide_eq_true h5)]at o;refine rg ?_;refine ri r ?_;exact o.symm;rw[if_neg (of_decide_eq_false h5)]at o;simp at h4;refine gA ?_;refine Za ?_;exact t ((I f.cases)-(i+1)) ω (i+1) rfl _ ω o ⟨ω,ω,λ_=>by rw[show i+1-1=i by omega,hx]⟩;simp at hd;rw[List.drop_of_length_le ω,Zbj]at o;refine rg ?_;refine ri r ?_;exact o.symm;exact af _ 0 rfl low ω he ⟨ω,λ_=>rfl,λh=>by omega⟩
def Z3(fs:List Fld):Zbf:=λs=>if Zl (λf=>dC (f.name=s)) fs<0 then nO else if Yy (fs.getD (Zl (λf=>dC (f.name=s)) fs).toNat dE) then sO (Wq (fs.getD (Zl (λf=>dC (f.name=s)) fs).toNat dE)) else nO
def Zat(fs:List Fld)(s:JX):Int:=if ZU s=false then 9 else if s.terms.any (YO (Z3 fs)) then 8 else if !dC ((YU s (Z3 fs)).2.2=0) ||(dC ((YU s (Z3 fs)).1<0) ||decide (1048576<(YU s (Z3 fs)).2.1)) then 9 else 0
def Zp6{α:Type}{p q}{l:List α}(h:∀x∈l,p x=q x):l.any p=l.any q:=by
 induction l with
 |nil=>rfl
 |cons x r ih=>simp only[List.any_cons,h x ψ,ih λy i=>h y (by simp[i])]
def Zxl{look i l}(h:∀t∈l,look t.field=i t.field):loS look l=loS i l/\hiS look l=hiS i l:=by
 induction l with
 |nil=>exact⟨rfl,rfl⟩
 |cons x r ih =>have o:=ih λy hy=>h y (by simp[hy]);have u:=h x ψ;simp only[loS,hiS,loT,hiT,Jt,o.1,o.2,u,and_self]
def ZnW{s look i}(h:∀t∈s.terms,look t.field=i t.field):YU s look=YU s i:=by
 have u:=Zp6 (p:=WP look) (q:=WP i) (l:=s.terms) λt o=>by simp only[WP,h t o]
 have h2:=Zp6 (p:=YO look) (q:=YO i) (l:=s.terms) λt o=>by simp only[YO,h t o]
 have r:=Zxl h;unfold YU JH;rw[u,h2,r.1,r.2]
def Zxg{s}{l:List YF}{g:Str->Int×Int}(h:∃t∈l,t.field=s):Wl (l.map λt=>⟨t.field,(g t.field).1,(g t.field).2⟩) s=sO (g s):=by
 have u:0<=YK s (l.map λt=>⟨t.field,(g t.field).1,(g t.field).2⟩)/\(((l.map λt=>(⟨t.field,(g t.field).1,(g t.field).2⟩:Ran)).getD (YK s (l.map λt=>⟨t.field,(g t.field).1,(g t.field).2⟩)).toNat dE).low,((l.map λt=>(⟨t.field,(g t.field).1,(g t.field).2⟩:Ran)).getD (YK s (l.map λt=>⟨t.field,(g t.field).1,(g t.field).2⟩)).toNat dE).high)=g s:=by
  induction l with
  |nil=>simp at h
  |cons x r ih =>
   simp only[ZIo,YK];by_cases hr:0<=YK s (r.map λt=>⟨t.field,(g t.field).1,(g t.field).2⟩)
   .have o:∃t∈r,t.field=s:=by
     apply Classical.byContradiction;intro i;have:YK s (r.map λt=>⟨t.field,(g t.field).1,(g t.field).2⟩)=-1:=by
      clear ih h hr;induction r with
      |nil=>rfl
      |cons y q ih2 =>have h1:=ih2 λ⟨t,ht,he⟩=>i ⟨t,by simp[ht],he⟩;have h2:y.field≠s:=λhe=>i ⟨y,ψ,he⟩;simp[YK,h1,h2]
     omega
    have h1:=ih o;rw[if_pos hr];refine⟨ω,?_⟩;rw[show((YK s (r.map λt=>⟨t.field,(g t.field).1,(g t.field).2⟩))+1).toNat=(YK s (r.map λt=>⟨t.field,(g t.field).1,(g t.field).2⟩)).toNat+1 by omega];simpa using h1.2
   have hx:x.field=s:=by apply Classical.byContradiction;intro i;obtain⟨t,ht,he⟩:=h;rcases List.mem_cons.1 ht with rfl|ht;exact i he;exact hr (ih ⟨t,ht,he⟩).1
   rw[if_neg hr,if_pos hx];subst hx;exact⟨ω,ψ⟩
 unfold Wl;rw[if_neg ω,u.2]
def Zcf(look:Zbf)(t:YF):Ran:=⟨t.field,(Jt look t).1,(Jt look t).2⟩
def Zzq{look}{l:List YF}{t}(o:t∈l)(i:YO look t=false):Wl (l.map (Zcf look)) t.field=look t.field:=by
 have:=Zxg (s:=t.field) (l:=l) (g:=λs=>(look s).getD (0,0)) ⟨t,o,rfl⟩;rw[show(Zcf look)=λt=>⟨t.field,((look t.field).getD (0,0)).1,((look t.field).getD (0,0)).2⟩ from rfl,this];simp only[YO]at i;cases h:look t.field with
 |none=>rw[h]at i;simp at i
 |some r=>rfl
def Zs6(m:Msg)(i)(hi:i<I m.fields):Zc ZHP 268 [.agg m.cells,.i i] (.i (Zat (m.fields.take i) (m.fields.getD i dE).size)):=by
 refine ZO (cR 268 f268) λak F st o=>?_;have hw:=(ZfE (s:=m) (ak _ ψ)).nfields;unfold big at hw;clear ak;generalize hs:(m.fields.getD i dE).size=s at *;refine rx (nd2 @eQ3 (nd2 @eQ4 @eQ1)) ?_;refine xA (nd2 @eQ3 (nd2 @eQ0 (nd2 @eQ4 (nd2 @eQ1 @hs)))) ?_;refine rg ?_;refine cl (Zj5 s) ?_;refine cd (λhc=>?_) (λhc=>?_);simp at hc;refine rg ?_;refine ri o ?_;simp[Zat,hc];simp at hc;have hv:=Znn.of hc;have hlen:=hv.len;refine gG ?_;refine kl (st) [(1,.d (.i i)),(2,.loc 2 0),(5,.loc 5 0),(6,.d (.sl .full 0 3 λ_=>[])),(7,.d (.i (0:Nat)))] [(2,m.cells),(5,s.cells)] (.skip (.skip (.skip (.cons (.d (Z1 ψ)) (.skip .nil))))) Y6 ?_;refine Zb (fr (I s.terms) (λk Q=>∀tk row,tk.okIn st->Zy Ran.cells row ((s.terms.take k).map (Zcf (Z3 (m.fields.take i))))->k<=I s.terms->(s.terms.take k).any (YO (Z3 (m.fields.take i)))=false->Q [(1,.d (.i i)),(2,.loc 2 0),(5,.loc 5 0),(6,.d (.sl tk k 3 row)),(7,.d (.i k))] [(2,m.cells),(5,s.cells)] (st.own tk (k*3))) (λn ae=>?_) λaq=>?_);intro k hn tk row htk u hk ad;refine rx (nd2 @eQ7 (nd2 @eQ5 @eQ1)) ?_;refine cd (λhd=>?_) (λhd=>?_);simp at hd;have ai:=Zh0 (p:=YO (Z3 (m.fields.take i))) hd;generalize hx:s.terms.getD k dE=x at *;refine xA (nd2 @eQ3 (nd2 @eQ7 (nd2 @eQ8 (nd2 @eQ5 (nd2 @eQ1 @hx))))) ?_;have c9:=Zan m x.field i ω;refine cl0 (c9) ?_;have am:=K4 (λf=>dC (f.name=x.field)) (m.fields.take i);have ah:=YC (λf=>dC (f.name=x.field)) (m.fields.take i);rw[ZIa]at ah;have ac:Z3 (m.fields.take i) x.field=if Yi m x.field i<0 then nO else if Yy (m.fields.getD (Yi m x.field i).toNat dE) then sO (Wq (m.fields.getD (Yi m x.field i).toNat dE)) else nO:=by unfold Z3 Yi;by_cases h:Zl (λf=>dC (f.name=x.field)) (m.fields.take i)<0;rw[if_pos h,if_pos h];rw[if_neg h,if_neg h,W8 ω]
 rw[show Zl (λf=>dC (f.name=x.field)) (m.fields.take i)=Yi m x.field i from rfl]at am ah;generalize Yi m x.field i=q at *;refine xA (nd2 @eQ3 (nd2 @eQ0 (nd2 @eQ4 @eQ1))) ?_;refine cG (ZeA (m.fields.getD q.toNat dE)) ?_;refine aa ?_;refine cd (λh5=>?_) (λh5=>?_);have ag:YO (Z3 (m.fields.take i)) x=true:=by unfold YO;rw[ac];by_cases hq:q<0;rw[if_pos hq];rfl;rw[decide_eq_false hq,Bool.false_or,Bool.not_eq_true']at h5;rw[if_neg hq,h5];rfl
 have:=ZrW (p:=YO (Z3 (m.fields.take i))) hd (by rw[hx];exact ag);refine rg ?_;refine ri o ?_;unfold Zat;rw[hc,this];rfl;rw[Bool.or_eq_false_iff,decide_eq_false_iff_not]at h5;obtain⟨hq,af⟩:=h5;rw[Bool.not_eq_false']at af;rw[if_neg hq,if_pos af]at ac;have ag:YO (Z3 (m.fields.take i)) x=false:=by unfold YO;rw[ac];rfl
 rw[ag,Bool.or_false]at ai;refine xA (nd2 @eQ3 (nd2 @eQ0 (nd2 @eQ4 @eQ1))) ?_;refine cl (Zj7 (m.fields.getD q.toNat dE)) ?_;refine xA (nd2 @eQ7 (nd2 @eQ8 (nd2 @eQ5 (nd2 @eQ1 @hx)))) ?_;refine Y2 (st) (tk) rfl rfl rfl rfl rfl rfl φ φ rfl (by first|trivial|assumption) ω (by (unfold big;omega)) λt1 ap=>Zk ?_;simp only[Eqs,reduceCtorEq,ZHV,reduceIte,ZHR,ZHY,ZHS];refine gA ?_;have ao:Zcf (Z3 (m.fields.take i)) x=⟨x.field,(Wq (m.fields.getD q.toNat dE)).1,(Wq (m.fields.getD q.toNat dE)).2⟩:=by unfold Zcf Jt;rw[ac];rfl
 have ab:=u.snoc (x:=Zcf (Z3 (m.fields.take i)) x) (row2:=ZI [.str [],.i 0,.i 0] ([0].zip [.agg [.str x.field,.i (Wq (m.fields.getD q.toNat dE)).1,.i (Wq (m.fields.getD q.toNat dE)).2]])) (by rw[ao];rfl) (show k=_ by simp;omega);rw[show(s.terms.take k).map (Zcf (Z3 (m.fields.take i)))++[Zcf (Z3 (m.fields.take i)) x]=(s.terms.take (k+1)).map (Zcf (Z3 (m.fields.take i))) by rw[ZQ hd,hx];simp]at ab;refine Za ?_;exact ae ((I s.terms)-(k+1)) ω (k+1) rfl t1 _ ap ab ω (by rw[ai];exact ad);simp at hd;obtain rfl:k=I s.terms:=ω;rw[ZIb]at u ad;have al:YU s (Wl (s.terms.map (Zcf (Z3 (m.fields.take i)))))=YU s (Z3 (m.fields.take i)):=ZnW λt ht=>Zzq ht (by have:=List.any_eq_false.1 ad t ht;simpa using this);have aj:=Zoj s (s.terms.map (Zcf (Z3 (m.fields.take i))));rw[al]at aj;generalize hr:YU s (Z3 (m.fields.take i))=r at *;obtain⟨lo,an,er⟩:=r;refine ZG rfl (Zd (Zd9 [2,5,6] ?_));simp only[Eqs,reduceCtorEq,ZHV,reduceIte,ZHR,ZHY,ZHS];refine kl (st) [(2,.loc 2 0),(5,.loc 5 0),(6,.d (ZbM (s.terms.map (Zcf (Z3 (m.fields.take i))))))] [(2,m.cells),(5,s.cells)] (.skip (.skip (.cons (.d (u.le ψ)) .nil))) Y6 ?_;refine rx (nd2 @eQ7 @eQ3) ?_;refine cl (aj) ?_;refine rg ?_;have hf:Zat (m.fields.take i) s=if !dC (er=0) ||(dC (lo<0) ||decide (1048576<an)) then 9 else 0:=by unfold Zat;rw[hc,ad,hr];rfl
 rw[<-Bool.or_assoc]at hf;refine cd (λh6=>?_) (λh6=>?_);rw[h6]at hf;refine rg ?_;refine ri o ?_;exact hf.symm;rw[h6]at hf;refine rg ?_;refine ri o ?_;exact hf.symm;exact aq _ 0 rfl .full _ trivial Zy.nil ω ψ
def WS(l:List Str):D:=slD 1 (λs=>[.str s]) l
def QA(f:Fld):List Str:=if dC (f.kind=7) ||(dC (f.kind=8) ||decide (f.kind=12)) then [f.of] else []
def Ya(f:Fld):List Str:=QA f++if f.kind=9 then f.cases.map (·.of) else []
def Jr(out:List Str)(s:Str):List Str:=if s∈out then out else out++[s]
def Y9(m:Msg):List Str:=(m.fields.flatMap Ya).foldl Jr []
def ZtG(out s):(Jr out s).length<=I out+1:=by unfold Jr;split<;>simp
def QS(l i:List Str):(l.foldl Jr i).length<=I i+I l:=by
 induction l generalizing i with
 |nil=>simp
 |cons x r ih=>have:=ih (Jr i x);have:=ZtG i x;simp only[List.foldl_cons,ZH3];omega
def ZaY(l:List Fld)(i):((l.take i).flatMap Ya).length<=(l.flatMap Ya).length:=by
 conv=>rhs;rw[<-List.take_append_drop i l,List.flatMap_append,ZHX]
 omega
def ZeI(l:List Fld)(i)(o:i<I l):(l.take (i+1)).flatMap Ya=(l.take i).flatMap Ya++Ya (l.getD i dE):=by
 rw[ZQ o,List.flatMap_append];simp
def ZiY(m)(hb:(m.fields.flatMap Ya).length<=1000000):Zc ZHP 163 [.agg m.cells] (WS (Y9 m)):=by
 refine ZO (cR 163 f163) λal F st ap=>?_;have hw:=(ZfE (s:=m) (al _ ψ)).nfields;have a4:=(ZfE (s:=m) (al _ ψ)).fields;unfold big at hw;clear al;refine rx (nd2 @eQ3 (nd2 @eQ4 @eQ1)) ?_;refine gG ?_;refine kl (st) [(1,.loc 1 0),(3,.d (.sl .full 0 1 λ_=>[])),(4,.d (.i (0:Nat)))] [(1,m.cells)] (.skip (.cons (.d (Z1 λb h=>by cases h)) (.skip .nil))) Y6 ?_;refine Zb (fr (I m.fields) (λi Q=>∀tk row t,tk.okIn st->Zy (λs=>[.str s]) row t->t=((m.fields.take i).flatMap Ya).foldl Jr []->i<=I m.fields->Q [(1,.loc 1 0),(3,.d (.sl tk (I t) 1 row)),(4,.d (.i i))] [(1,m.cells)] (st.own tk (I t*1))) (λn ao=>?_) λba=>?_);intro i hn tk row t ag ac af hi;have aw:=QS ((m.fields.take i).flatMap Ya) [];have hlt:=ZaY m.fields i;rw[<-af]at aw;simp only[List.length_nil,Nat.zero_add]at aw;refine rx (nd2 @eQ3 (nd2 @eQ4 @eQ1)) ?_;refine cd (λhd=>?_) (λhd=>?_);simp at hd;have ak:=ZeI m.fields i hd;have ay:=ZaY m.fields (i+1);have al:=a4 _ (Zr hd);have a6:=al.ncases;unfold big at a6;generalize hf:m.fields.getD i dE=f at *;rw[ak,ZHX]at ay;refine xA (nd2 @eQ3 (nd2 @eQ0 (nd2 @eQ4 (nd2 @eQ1 @hf)))) ?_;refine rg ?_;refine rx @eQ0 ?_;refine jU [0] (λQ=>∀tl u ll,tl.okIn (st.own tk (I t*1))->Zy (λs=>[.str s]) u ll->ll=QA f->Q F [(1,.loc 1 0),(3,.d (.sl tk (I t) 1 row)),(4,.d (.i i)),(5,.loc 5 0),(6,.d (.sl tl (I ll) 1 u))] [(1,m.cells),(5,f.cells)] ((st.own tk (I t*1)).own tl (I ll*1))) ?_ λjn=>?_;intro tl u ll an ab ah;have a5:I ll<=1:=by rw[ah];unfold QA;split<;>simp
 refine rx @eQ0 ?_;refine Zb (fr (I f.cases) (λk Q=>∀tl u l,tl.okIn (st.own tk (I t*1))->Zy (λs=>[.str s]) u l->(l=ll++if f.kind=9 then (f.cases.take k).map (·.of) else [])->k<=I f.cases->Q [(1,.loc 1 0),(3,.d (.sl tk (I t) 1 row)),(4,.d (.i i)),(5,.loc 5 0),(6,.d (.sl tl (I l) 1 u)),(7,.d (.i k))] [(1,m.cells),(5,f.cells)] ((st.own tk (I t*1)).own tl (I l*1))) (λn ad=>?_) λa1=>?_);clear ab an u tl;intro k a0 tl u l an ab hl hk;refine rx (nd2 @eQ0 (nd2 @Z2.eq_1 @eQ1)) ?_;refine cd (λh4=>?_) (λh4=>?_);simp only[ZH1,decide_eq_true_eq]at h4;have hll2:I l=I ll+k:=by rw[hl,if_pos h4.1];simp;omega
 have hcl:(Ya f).length=I ll+I f.cases:=by rw[ah,Ya,if_pos h4.1];simp
 refine xA (nd2 @eQ0 (nd2 @YE.cells.eq_1 (nd2 @Z2.eq_1 @eQ1))) ?_;refine Y2 (st.own tk (I t*1)) (tl) rfl rfl rfl rfl rfl rfl φ φ rfl (by first|trivial|assumption) ω (by (unfold big;omega)) λt2 au=>Zk ?_;simp only[Eqs,reduceCtorEq,ZHV,reduceIte,ZHR,ZHY,ZHS];refine gA ?_;have aq:=ab.snoc (x:=(f.cases.getD k dE).of) (row2:=ZI [.str []] ([0].zip [.str (f.cases.getD k dE).of])) rfl rfl;refine Za ?_;have r:=ad ((I f.cases)-(k+1)) ω (k+1) rfl t2 _ (l++[(f.cases.getD k dE).of]) au aq (by rw[hl,if_pos h4.1,if_pos h4.1,ZQ ω];simp) ω;rw[ZHX]at r;exact r;have ax:l=Ya f:=by
  rw[hl,ah,Ya];by_cases h9:f.kind=9;have:k=I f.cases:=by simp[h9]at h4;omega
  rw[if_pos h9,if_pos h9,this,ZIb];rw[if_neg h9,if_neg h9]
 clear ad h4 hl ah a5 ll hk a0;have ah:I l=(Ya f).length:=by rw[ax]
 refine rg ?_;refine kl (st.own tk (I t*1)) [(1,.loc 1 0),(3,.d (.sl tk (I t) 1 row)),(4,.d (.i i)),(6,.d (WS l)),(8,.d (.i (0:Nat)))] [(1,m.cells)] (.skip (.skip (.skip (.cons (.d (ab.le rfl)) (.skip .nil))))) Y6 ?_;refine Zb (fr (I l) (λk Q=>∀tk row o,tk.okIn st->Zy (λs=>[.str s]) row o->o=(l.take k).foldl Jr t->k<=I l->Q [(1,.loc 1 0),(3,.d (.sl tk (I o) 1 row)),(4,.d (.i i)),(6,.d (WS l)),(8,.d (.i k))] [(1,m.cells)] (st.own tk (I o*1))) (λn ae=>?_) λa2=>?_);clear ac ag ab an tl;intro k a0 tk row o ag ac ho hk;have hol:I o<=I t+k:=by have:=QS (l.take k) t;rw[<-ho,ZIa]at this;omega
 refine rx (nd2 @WS.eq_1 @eQ1) ?_;refine cd (λh5=>?_) (λh5=>?_);simp at h5;have aj:(l.take (k+1)).foldl Jr t=Jr o (l.getD k dE):=by rw[ZQ h5,List.foldl_append,<-ho];rfl
 generalize hx:l.getD k dE=x at *;refine gG ?_;refine kl (st.own tk (I o*1)) [(1,.loc 1 0),(3,.d (.sl tk (I o) 1 row)),(4,.d (.i i)),(6,.d (WS l)),(8,.d (.i k)),(9,.d (.bool (dC (x∈o.take 0)))),(10,.d (.i (0:Nat)))] [(1,m.cells)] (by rw[show dC (x∈o.take 0)=false by simp];exact Wx) Y6 ?_;refine Zb (fr (I o) (λj Q=>j<=I o->Q [(1,.loc 1 0),(3,.d (.sl tk (I o) 1 row)),(4,.d (.i i)),(6,.d (WS l)),(8,.d (.i k)),(9,.d (.bool (dC (x∈o.take j)))),(10,.d (.i j))] [(1,m.cells)] (st.own tk (I o*1))) (λn am=>?_) λa3=>?_);intro j hnj hj;refine rx (nd2 @WS.eq_1 @eQ1) ?_;refine cd (λh6=>?_) (λh6=>?_);simp at h6;have a7:=ac j h6;have az:dC (x∈o.take (j+1))=(dC (x∈o.take j) ||decide (o.getD j dE=x)):=by rw[ZQ h6,Bool.eq_iff_iff];simp only[List.mem_append,List.mem_singleton,ZId,decide_eq_true_eq];exact or_congr Iff.rfl ⟨Eq.symm,Eq.symm⟩
 refine xA (nd2 @WS.eq_1 (nd2 @eQ1 (nd2 @hx @a7))) ?_;refine gA ?_;refine Za ?_;have r:=am ((I o)-(j+1)) ω (j+1) rfl ω;rw[az]at r;exact r;simp at h6;obtain rfl:j=I o:=ω;rw[ZIb];refine rg ?_;refine cd (λh7=>?_) (λh7=>?_);have av:x∉o:=by simpa using h7
 refine xA (nd2 @WS.eq_1 (nd2 @eQ1 @hx)) ?_;refine Y2 (st) (tk) rfl rfl rfl rfl rfl rfl φ φ rfl (by first|trivial|assumption) ω (by (unfold big;omega)) λt3 a9=>Zk ?_;simp only[Eqs,reduceCtorEq,ZHV,reduceIte,ZHR,ZHY,ZHS];refine gA ?_;have ar:=ac.snoc (x:=x) (row2:=ZI [.str []] ([0].zip [.str x])) rfl rfl;have r:=ae (I l-(k+1)) ω (k+1) rfl t3 _ (o++[x]) a9 ar (by rw[aj,Jr,if_neg av]) ω;rw[ZHX]at r;refine Za ?_;exact r;have av:x∈o:=by simpa using h7
 refine gA ?_;have r:=ae (I l-(k+1)) ω (k+1) rfl tk row o ag ac (by rw[aj,Jr,if_pos av]) ω;refine Za ?_;exact r;exact a3 _ 0 rfl ω;simp at h5;obtain rfl:k=I l:=ω;rw[ZIb]at ho;refine gA ?_;have r:=ao (I m.fields-(i+1)) ω (i+1) rfl tk row o ag ac (by rw[ak,List.foldl_append,<-af,ho,ax]) ω;refine Za ?_;exact r;exact a2 _ 0 rfl tk row t ag ac rfl ω;exact a1 _ 0 rfl tl u ll an ab ψ ω;refine cd (λh3=>?_) (λh3=>?_);refine rx @eQ0 ?_;refine Y2 (st.own tk (I t*1)) (.full) rfl rfl rfl rfl rfl rfl φ φ rfl (by first|trivial|assumption) (by decide) (by (unfold big;decide)) λt2 au=>Zk ?_;simp only[Eqs,reduceCtorEq,ZHV,reduceIte,ZHR,ZHY,ZHS];have ai:[f.of]=QA f:=by unfold QA;rw[if_pos (by rw[<-Bool.or_assoc];exact h3)]
 exact jn t2 _ [f.of] au (Zy.nil.snoc (x:=f.of) rfl rfl) ai;refine Zo ?_;refine kE [1,3,4,5,6] ?_;refine kl (st.own tk (I t*1)) [(1,.loc 1 0),(3,.d (.sl tk (I t) 1 row)),(4,.d (.i i)),(5,.loc 5 0),(6,.d (.sl .full 0 1 λ_=>[]))] [(1,m.cells),(5,f.cells)] (.skip (.skip (.skip (.skip (.cons (.d (Z1 λb h=>by cases h)) .nil))))) Y6 ?_;have ai:[]=QA f:=by unfold QA;rw[if_neg (by rw[<-Bool.or_assoc,h3];simp)]
 exact jn .full _ [] trivial Zy.nil ai;simp at hd;obtain rfl:i=I m.fields:=ω;rw[ZIb]at af;refine rg ?_;have a8:Y9 m=t:=af.symm;rw[a8]at ap;exact ap rfl φ (K1 (ac.le rfl)) (Yj ag);exact ba _ 0 rfl .full _ [] trivial Zy.nil rfl ω
def ZwE(l:List Bool):D:=slD 1 (λb=>[.bool b]) l
def Jm(d:Dfn)(m:Msg)(prev:List Bool):Bool:=m.fields.all (λf=>!f.loose)&&(Y9 m).all λs=>prev.getD (Zm d s (I prev)).toNat dE
def W7(d:Dfn):Nat->List Bool
 |0=>[]
 |n+1=>W7 d n++[Jm d (d.msgs.getD n dE) (W7 d n)]
def JS(d n):(W7 d n).length=n:=by
 induction n with
 |zero=>rfl
 |succ n ih=>simp[W7,ih]
structure ZkX(d:Dfn)(j:Nat):Prop where
 few:((d.msgs.getD j default).fields.flatMap Ya).length<=1000000
 ref:∀s∈Y9 (d.msgs.getD j default),0<=Zm d s j
def ZhZ{α:Type}[Inhabited α]{p}{l:List α}{i}(h:i<I l):(l.take (i+1)).all p=((l.take i).all p&&p (l.getD i dE)):=by
 rw[ZQ h,List.all_append];simp
def Zpy(d sm)(hs:sm<=I d.msgs)(hsm:sm<=1000)(hr:∀j,j<sm->ZkX d j):Zc ZHP 272 [.agg d.cells,.i sm] (ZwE (W7 d sm)):=by
 refine ZO (cR 272 f272) λaj F st ag=>?_;have hw:=(Zhp (s:=d) (aj _ ψ)).nmsgs;have au:=(Zhp (s:=d) (aj _ ψ)).msgs;unfold big at hw;clear aj;refine rx (nd2 @eQ2 (nd2 @eQ6 @eQ1)) ?_;refine gG ?_;refine kl (st) [(1,.d (.i sm)),(2,.loc 2 0),(5,.d (.sl .full 0 1 λ_=>[])),(6,.d (.i (0:Nat)))] [(2,d.cells)] (.skip (.skip (.cons (.d (Z1 λb h=>by cases h)) (.skip .nil)))) Y6 ?_;refine Zb (fr (sm) (λi Q=>∀tk row o,tk.okIn st->Zy (λb=>[.bool b]) row o->o=W7 d i->i<=sm->Q [(1,.d (.i sm)),(2,.loc 2 0),(5,.d (.sl tk (I o) 1 row)),(6,.d (.i i))] [(2,d.cells)] (st.own tk (I o*1))) (λn ae=>?_) λa0=>?_);intro i hn tk row o az ab u hi;have av:I o=i:=by rw[u,JS]
 refine rx (nd2 @eQ2 (nd2 @eQ6 @eQ1)) ?_;refine cd (λhd=>?_) (λhd=>?_);simp at hd;have ap:i<I d.msgs:=ω;have ah:=hr i hd;have ar:=(au _ (Zr ap)).nfields;unfold big at ar;have ai:W7 d (i+1)=o++[Jm d (d.msgs.getD i dE) o]:=by rw[W7,<-u]
 generalize hm:d.msgs.getD i dE=m at *;refine gG ?_;refine Zb (fr (I m.fields) (λk Q=>k<=I m.fields->Q [(1,.d (.i sm)),(2,.loc 2 0),(5,.d (.sl tk (I o) 1 row)),(6,.d (.i i)),(7,.d (.bool ((m.fields.take k).all λf=>!f.loose))),(8,.d (.i k))] [(2,d.cells)] (st.own tk (I o*1))) (λn ac=>?_) λam=>?_);intro k hnk hk;refine xA (nd2 @eQ2 (nd2 @eQ3 (nd2 @eQ6 (nd2 @eQ4 (nd2 @eQ1 @hm))))) ?_;refine cd (λh4=>?_) (λh4=>?_);simp at h4;have t:=ZhZ (p:=λf:Fld=>!f.loose) h4;refine xA (nd2 @eQ2 (nd2 @eQ3 (nd2 @eQ0 (nd2 @eQ6 (nd2 @eQ4 (nd2 @eQ1 @hm)))))) ?_;refine gA ?_;refine Za ?_;have r:=ac ((I m.fields)-(k+1)) ω (k+1) rfl ω;rw[t]at r;exact r;simp at h4;obtain rfl:k=I m.fields:=ω;rw[ZIb];refine xA (nd2 @eQ2 (nd2 @eQ3 (nd2 @eQ6 (nd2 @eQ1 @hm)))) ?_;have c9:=ZiY m (by have:=ah.few;rw[hm]at this;exact this);refine cl (c9) ?_;refine rg ?_;have ak:=ah.few;have af:=ah.ref;rw[hm]at ak af;have al:=QS (m.fields.flatMap Ya) [];rw[show(m.fields.flatMap Ya).foldl Jr []=Y9 m from rfl]at al;simp only[List.length_nil,Nat.zero_add]at al;have ax:Jm d m o=((m.fields.all λf=>!f.loose)&&(Y9 m).all λs=>o.getD (Zm d s i).toNat dE):=by rw[Jm,av]
 generalize (m.fields.all λf=>!f.loose)=lo at *;generalize hrs:Y9 m=rs at *;refine kl (st.own tk (I o*1)) [(1,.d (.i sm)),(2,.loc 2 0),(5,.d (.sl tk (I o) 1 row)),(6,.d (.i i)),(7,.d (.bool (lo&&(rs.take 0).all λs=>o.getD (Zm d s i).toNat dE))),(9,.d (WS rs)),(10,.d (.i (0:Nat)))] [(2,d.cells)] (by rw[show(lo&&(rs.take 0).all λs=>o.getD (Zm d s i).toNat dE)=lo by simp];exact Wx) Y6 ?_;refine Zb (fr (I rs) (λq Q=>q<=I rs->Q [(1,.d (.i sm)),(2,.loc 2 0),(5,.d (.sl tk (I o) 1 row)),(6,.d (.i i)),(7,.d (.bool (lo&&(rs.take q).all λs=>o.getD (Zm d s i).toNat dE))),(9,.d (WS rs)),(10,.d (.i q))] [(2,d.cells)] (st.own tk (I o*1))) (λn ad=>?_) λan=>?_);intro q hnq hq;refine rx (nd2 @WS.eq_1 @eQ1) ?_;refine cd (λh5=>?_) (λh5=>?_);simp at h5;have t:=ZhZ (p:=λs:Str=>o.getD (Zm d s i).toNat dE) h5;have hge:=af _ (Zr h5);have aq:=YC (λm=>dC (m.name=rs.getD q dE)) (d.msgs.take i);rw[show Zl (λm=>dC (m.name=rs.getD q dE)) (d.msgs.take i)=Zm d (rs.getD q dE) i from rfl,ZIa]at aq;have aw:=ab (Zm d (rs.getD q dE) i).toNat ω;refine xA (nd2 @eQ2 (nd2 @eQ6 (nd2 @WS.eq_1 @eQ1))) ?_;have c9:=WG d (rs.getD q dE) i ω;refine ZlX rfl rfl rfl rfl rfl (λao=>⟨by first|trivial|(simpa[ZbO]using ao),trivial,c9⟩) (Ye ?_);simp only[Eqs,reduceCtorEq,ZHV,reduceIte,ZHR,ZHY,ZHS,aw];refine aa ?_;refine gA ?_;refine Za ?_;have r:=ad ((I rs)-(q+1)) ω (q+1) rfl ω;rw[t,<-Bool.and_assoc]at r;exact r;simp at h5;obtain rfl:q=I rs:=ω;rw[ZIb,<-ax];refine gA ?_;refine Y2 (st) (tk) rfl rfl rfl rfl rfl rfl φ φ rfl (by first|trivial|assumption) ω (by (unfold big;omega)) λt1 ay=>Zk ?_;simp only[Eqs,reduceCtorEq,ZHV,reduceIte,ZHR,ZHY,ZHS];refine gA ?_;have r:=ae (sm-(i+1)) ω (i+1) rfl t1 _ (o++[Jm d m o]) ay (ab.snoc (x:=Jm d m o) (row2:=ZI [.bool false] ([0].zip [.bool (Jm d m o)])) rfl rfl) ai.symm ω;rw[ZHX]at r;refine Za ?_;exact r;exact an _ 0 rfl ω;exact am _ 0 rfl ω;simp at hd;obtain rfl:i=sm:=ω;refine rg ?_;rw[<-u]at ag;exact ag rfl φ (K1 (ab.le rfl)) (Yj az);exact a0 _ 0 rfl .full _ [] trivial Zy.nil rfl ω
def ZfI(f:Fld):Bool:=!dC (f.bits=2)&&(!dC (f.bits=4)&&(dC (f.bits<8) ||(dC (512<f.bits)||!dC (Int.tmod f.bits 8=0))))
def Zge(m:Msg)(i:Nat)(f:Fld):Bool:=dC (Yi m f.tag i<0) ||(!Yy (m.fields.getD (Yi m f.tag i).toNat dE) ||ZpR m f.tag i)
def Zlp(d:Dfn)(at_:Nat)(f:Fld):Bool:=dC (Zm d f.of at_<0)||!(W7 d at_).getD (Zm d f.of at_).toNat dE
def Kp(d:Dfn)(at_:Nat)(m:Msg)(i:Nat)(f:Fld):Int :=
 if f.kind=1 then Kd f else if f.kind=2 then Kd f
 else if f.kind=3 then (if ZgG f.low f.high then 0 else 7)
 else if f.kind=4 then Zat (m.fields.take i) f.size
 else if f.kind=5 then (if dC (f.low<0) ||(dC (255<f.low) ||(dC (f.high<0) ||decide (1048576<f.high))) then 7 else 0)
 else if f.kind=6 then (if dC (f.high<2) ||decide (1048576<f.high) then 7 else 0)
 else if f.kind=7 then (if Zm d f.of at_<0 then 8 else Zat (m.fields.take i) f.size)
 else if f.kind=8 then (if Zm d f.of at_<0 then 8 else 0)
 else if f.kind=9 then (if Zge m i f then 8 else Zee d at_ f (Wq (m.fields.getD (Yi m f.tag i).toNat dE)).1 (Wq (m.fields.getD (Yi m f.tag i).toNat dE)).2)
 else if f.kind=10 then (if ZfI f then 6 else 0)
 else if f.kind=11 then (if dC (f.check<1) ||decide (3<f.check) then 7 else if Yi m f.from_ i<0 then 8 else 0)
 else if f.kind=12 then (if dC (f.key<0) ||decide (4294967295<f.key) then 7 else if Zlp d at_ f then 8 else Zat (m.fields.take i) f.size)
 else 0
def Zs5(d at_ i)(m:Msg)(f:Fld)(ha:at_<I d.msgs)(hm:d.msgs.getD at_ dE=m)(hi:i<I m.fields)(hf:m.fields.getD i dE=f)(h1000:at_<=1000)(hr:∀j,j<at_->ZkX d j)(_:1<=f.kind)(_:f.kind<=12):Zc ZHP 216 [.agg d.cells,.i at_,.i i] (.i (Kp d at_ m i f)):=by
 refine Ze (cR 216 f216) λF st o=>?_;have hS:=Kp.eq_1 d at_ m i f;have u:=Zs6 m i hi;rw[hf]at u;refine rx (nd2 @eQ2 (nd2 @eQ6 @eQ1)) ?_;refine xA (nd2 @eQ2 (nd2 @eQ3 (nd2 @eQ6 (nd2 @eQ1 @hm)))) ?_;refine xA (nd2 @eQ3 (nd2 @eQ0 (nd2 @eQ4 (nd2 @eQ1 @hf)))) ?_;refine gG ?_;refine cd (λhk=>?_) (λhk=>?_);rw[if_pos (of_decide_eq_true hk)]at hS;refine Zo ?_;refine i1 ?_;refine rx @eQ0 ?_;refine cX @eQ0 (ZiZ f) ?_;refine ri o ?_;exact hS.symm;rw[if_neg (of_decide_eq_false hk)]at hS;refine rg ?_;refine cd (λhk=>?_) (λhk=>?_);rw[if_pos (of_decide_eq_true hk)]at hS;refine rx @eQ0 ?_;refine cX @eQ0 (ZiZ f) ?_;refine ri o ?_;exact hS.symm;rw[if_neg (of_decide_eq_false hk)]at hS;refine rg ?_;refine cd (λhk=>?_) (λhk=>?_);rw[if_pos (of_decide_eq_true hk)]at hS;refine rx @eQ0 ?_;refine cl (Zt0 f.low f.high) ?_;refine cd (λh=>?_) (λh=>?_);rw[show ZgG f.low f.high=false by simpa using h]at hS;refine rg ?_;refine ri o ?_;exact hS.symm;rw[show ZgG f.low f.high=true by simpa using h]at hS;refine rg ?_;refine ri o ?_;exact hS.symm;rw[if_neg (of_decide_eq_false hk)]at hS;refine rg ?_;refine cd (λhk=>?_) (λhk=>?_);rw[if_pos (of_decide_eq_true hk)]at hS;refine rx (nd2 @eQ3 (nd2 @eQ4 @eQ1)) ?_;refine cl (u) ?_;refine ri o ?_;exact hS.symm;rw[if_neg (of_decide_eq_false hk)]at hS;refine rg ?_;refine cd (λhk=>?_) (λhk=>?_);rw[if_pos (of_decide_eq_true hk)]at hS;refine rx @eQ0 ?_;rw[<-Bool.or_assoc,<-Bool.or_assoc]at hS;refine cd (λh=>?_) (λh=>?_);rw[h]at hS;refine rg ?_;refine ri o ?_;exact hS.symm;rw[h]at hS;refine rg ?_;refine ri o ?_;exact hS.symm;rw[if_neg (of_decide_eq_false hk)]at hS;refine rg ?_;refine cd (λhk=>?_) (λhk=>?_);rw[if_pos (of_decide_eq_true hk)]at hS;refine rx @eQ0 ?_;refine cd (λh=>?_) (λh=>?_);rw[h]at hS;refine rg ?_;refine ri o ?_;exact hS.symm;rw[h]at hS;refine rg ?_;refine ri o ?_;exact hS.symm;rw[if_neg (of_decide_eq_false hk)]at hS;refine rg ?_;refine cd (λhk=>?_) (λhk=>?_);rw[if_pos (of_decide_eq_true hk)]at hS;refine rx (nd2 @eQ2 (nd2 @eQ0 (nd2 @eQ6 @eQ1))) ?_;have c9:=WG d f.of at_ ω;refine cX (nd2 @eQ2 (nd2 @eQ6 @eQ1)) (c9) ?_;refine cd (λh=>?_) (λh=>?_);rw[if_pos (of_decide_eq_true h)]at hS;refine rg ?_;refine ri o ?_;exact hS.symm;rw[if_neg (of_decide_eq_false h)]at hS;refine rx (nd2 @eQ3 (nd2 @eQ4 @eQ1)) ?_;refine cl (u) ?_;refine ri o ?_;exact hS.symm;rw[if_neg (of_decide_eq_false hk)]at hS;refine rg ?_;refine cd (λhk=>?_) (λhk=>?_);rw[if_pos (of_decide_eq_true hk)]at hS;refine rx (nd2 @eQ2 (nd2 @eQ0 (nd2 @eQ6 @eQ1))) ?_;have c9:=WG d f.of at_ ω;refine cX (nd2 @eQ2 (nd2 @eQ6 @eQ1)) (c9) ?_;refine cd (λh=>?_) (λh=>?_);rw[if_pos (of_decide_eq_true h)]at hS;refine rg ?_;refine ri o ?_;exact hS.symm;rw[if_neg (of_decide_eq_false h)]at hS;refine rg ?_;refine ri o ?_;exact hS.symm;rw[if_neg (of_decide_eq_false hk)]at hS;refine rg ?_;refine cd (λhk=>?_) (λhk=>?_);rw[if_pos (of_decide_eq_true hk)]at hS;refine rx (nd2 @eQ3 (nd2 @eQ0 (nd2 @eQ4 @eQ1))) ?_;have c9:=Zan m f.tag i ω;refine cX (nd2 @eQ3 (nd2 @eQ4 @eQ1)) (c9) ?_;have ab:=K4 (λg=>dC (g.name=f.tag)) (m.fields.take i);have t:=YC (λg=>dC (g.name=f.tag)) (m.fields.take i);rw[ZIa]at t;rw[show Zl (λg=>dC (g.name=f.tag)) (m.fields.take i)=Yi m f.tag i from rfl]at ab t;unfold Zge at hS;generalize Yi m f.tag i=q at *;refine xA (nd2 @eQ3 (nd2 @eQ0 (nd2 @eQ4 @eQ1))) ?_;refine Zbd rfl rfl rfl rfl rfl (λr=>⟨by first|trivial|(simpa[ZbO]using r),trivial,ZeA (m.fields.getD q.toNat dE)⟩) (Zk ?_);simp only[Eqs,reduceCtorEq,ZHV,reduceIte,ZHR,ZHY,ZHS,Msg.cells,Fld.cells,Zp,slD];refine aa ?_;have c9:=Zrc m f.tag i ω;refine Zbd rfl rfl rfl rfl rfl (λr=>⟨by first|trivial|(simpa[ZbO]using r),trivial,c9⟩) (Zk ?_);simp only[Eqs,reduceCtorEq,ZHV,reduceIte,ZHR,ZHY,ZHS,Msg.cells,Fld.cells,Zp,slD];refine aa ?_;rw[<-Bool.or_assoc]at hS;refine cd (λh=>?_) (λh=>?_);rw[h]at hS;refine rg ?_;refine ri o ?_;exact hS.symm;rw[h]at hS;have hq:¬q<0:=by intro hq;rw[decide_eq_true hq]at h;simp at h
 refine xA (nd2 @eQ3 (nd2 @eQ0 (nd2 @eQ4 @eQ1))) ?_;refine cl (Zj7 (m.fields.getD q.toNat dE)) ?_;refine rx (nd2 @eQ2 @eQ0) ?_;refine JV rfl rfl rfl rfl rfl φ φ (by exact Zs3 d at_ f ω) (Zk ?_);simp only[Eqs,reduceCtorEq,ZHV,reduceIte,ZHR,ZHY,ZHS];refine ri o ?_;exact hS.symm;rw[if_neg (of_decide_eq_false hk)]at hS;refine rg ?_;refine cd (λhk=>?_) (λhk=>?_);rw[if_pos (of_decide_eq_true hk)]at hS;refine rx @eQ0 ?_;have ht1:=Int.tmod_lt_of_pos f.bits (show(0:Int)<8 by decide);have ht2:=Int.lt_tmod_of_pos f.bits (show(0:Int)<8 by decide);repeat(refine ZHZ (by first|omega|trivial|(intro h0;simp at h0;omega)|(intro _;omega)) ?_)
 have ac:ZfI f=(!dC (f.bits=2)&&!dC (f.bits=4)&&(dC (f.bits<8) ||decide (512<f.bits)||!dC (Int.tmod f.bits 8=0))):=by simp only[ZfI,Bool.or_assoc,Bool.and_assoc]
 rw[ac]at hS;refine cd (λh=>?_) (λh=>?_);rw[h]at hS;refine rg ?_;refine ri o ?_;exact hS.symm;rw[h]at hS;refine rg ?_;refine ri o ?_;exact hS.symm;rw[if_neg (of_decide_eq_false hk)]at hS;refine rg ?_;refine cd (λhk=>?_) (λhk=>?_);rw[if_pos (of_decide_eq_true hk)]at hS;refine rx @eQ0 ?_;refine cd (λh=>?_) (λh=>?_);rw[h]at hS;refine rg ?_;refine ri o ?_;exact hS.symm;rw[h,if_neg (by decide)]at hS;refine rx (nd2 @eQ3 (nd2 @eQ0 (nd2 @eQ4 @eQ1))) ?_;have c9:=Zan m f.from_ i ω;refine cl (c9) ?_;refine cd (λh2=>?_) (λh2=>?_);rw[if_pos (of_decide_eq_true h2)]at hS;refine rg ?_;refine ri o ?_;exact hS.symm;rw[if_neg (of_decide_eq_false h2)]at hS;refine rg ?_;refine ri o ?_;exact hS.symm;rw[if_neg (of_decide_eq_false hk)]at hS;refine rg ?_;refine cd (λhk=>?_) (λhk=>?_);rw[if_pos (of_decide_eq_true hk)]at hS;refine rx @eQ0 ?_;refine cd (λh=>?_) (λh=>?_);rw[h]at hS;refine rg ?_;refine ri o ?_;exact hS.symm;rw[h,if_neg (by decide)]at hS;refine rx (nd2 @eQ2 (nd2 @eQ0 (nd2 @eQ6 @eQ1))) ?_;have c9:=WG d f.of at_ ω;refine cl (c9) ?_;have ab:=K4 (λg=>dC (g.name=f.of)) (d.msgs.take at_);have t:=YC (λg=>dC (g.name=f.of)) (d.msgs.take at_);rw[ZIa]at t;rw[show Zl (λg=>dC (g.name=f.of)) (d.msgs.take at_)=Zm d f.of at_ from rfl]at ab t;unfold Zlp at hS;generalize Zm d f.of at_=q at *;have ad:=JS d at_;refine rx (nd2 @eQ2 (nd2 @eQ6 @eQ1)) ?_;have c9:=Zpy d at_ ω ω hr;refine Zbd rfl rfl rfl rfl rfl (λr=>⟨by first|trivial|(simpa[ZbO]using r),trivial,c9⟩) (Zk ?_);simp only[Eqs,reduceCtorEq,ZHV,reduceIte,ZHR,ZHY,ZHS,ZwE,slD];rw[ad];refine ZHZ (λh=>by simp at h;omega) ?_;refine cd (λh2=>?_) (λh2=>?_);rw[h2]at hS;refine rg ?_;refine ri o ?_;exact hS.symm;rw[h2]at hS;refine rx (nd2 @eQ3 (nd2 @eQ4 @eQ1)) ?_;refine cl (u) ?_;refine ri o ?_;exact hS.symm;rw[if_neg (of_decide_eq_false hk)]at hS;refine rg ?_;refine ri o ?_;exact hS.symm
def WY(d:Dfn)(at_:Nat)(m:Msg)(i:Nat)(f:Fld):Int :=
 if Yl f.name=false then 1 else if 0<=Yi m f.name i then 2 else if dC (f.kind<1) ||decide (12<f.kind) then 4 else if Zd8 f=false then 5 else Kp d at_ m i f
def Zs4(d at_ i)(m:Msg)(f:Fld)(ha:at_<I d.msgs)(hm:d.msgs.getD at_ dE=m)(hi:i<I m.fields)(hf:m.fields.getD i dE=f)(u:at_<=1000)(hr:∀j,j<at_->ZkX d j):Zc ZHP 162 [.agg d.cells,.i at_,.i i] (.i (WY d at_ m i f)):=by
 refine Ze (cR 162 f162) λF st o=>?_;have t:=WY.eq_1 d at_ m i f;refine rx (nd2 @eQ2 (nd2 @eQ6 @eQ1)) ?_;refine xA (nd2 @eQ2 (nd2 @eQ3 (nd2 @eQ0 (nd2 @eQ6 (nd2 @eQ4 (nd2 @eQ1 (nd2 @hm @hf))))))) ?_;refine rx @eQ0 ?_;refine cl (Zb4 f.name) ?_;refine cd (λh=>?_) (λh=>?_);rw[if_pos (by simpa using h)]at t;refine rg ?_;refine ri o ?_;exact t.symm;rw[if_neg (by simpa using h)]at t;refine xA (nd2 @eQ2 (nd2 @eQ3 (nd2 @eQ0 (nd2 @eQ6 (nd2 @eQ4 (nd2 @eQ1 @hm)))))) ?_;have c9:=Zan m f.name i ω;refine cl0 (c9) ?_;refine cd (λh2=>?_) (λh2=>?_);rw[if_pos (of_decide_eq_true h2)]at t;refine rg ?_;refine ri o ?_;exact t.symm;rw[if_neg (of_decide_eq_false h2)]at t;refine rx @eQ0 ?_;refine cd (λh3=>?_) (λh3=>?_);rw[h3]at t;refine rg ?_;refine ri o ?_;exact t.symm;have r:=h3;rw[Bool.or_eq_false_iff,decide_eq_false_iff_not,decide_eq_false_iff_not]at r;rw[h3,if_neg (by decide)]at t;refine rx @eQ0 ?_;have c9:=Zt1 f ω ω;refine cl (c9) ?_;refine cd (λh4=>?_) (λh4=>?_);rw[if_pos (by simpa using h4)]at t;refine rg ?_;refine ri o ?_;exact t.symm;rw[if_neg (by simpa using h4)]at t;refine rx @eQ2 ?_;have c9:=Zs5 d at_ i m f ha hm hi hf u hr ω ω;refine cl (c9) ?_;refine ri o ?_;exact t.symm
def Yx(d:Dfn)(at_:Nat)(m:Msg):Nat->List Fld->Option (Int×Int)
 |_,[]=>nO
 |i,f::r=>if WY d at_ m i f=0 then Yx d at_ m (i+1) r else sO (i,WY d at_ m i f)
def WV(d:Dfn)(at_:Nat)(m:Msg):Option (Int×Int) :=
 if Yl m.name=false then sO (-1,1) else if 0<=Zm d m.name at_ then sO (-1,2) else if dC (I m.fields<1) ||decide (40<I m.fields) then sO (-1,3) else Yx d at_ m 0 m.fields
def Zbn(d:Dfn)(at_:Nat)(deps:List Int)(b:Int)(l:List Str):Int:=l.foldl (λa s=>max a (deps.getD (Zm d s at_).toNat dE)) b
def Zeh(d:Dfn)(at_:Nat)(deps:List Int)(m:Msg):Int:=Zbn d at_ deps 0 (Y9 m)+1
def Qq(d:Dfn):Nat->List Msg->List Int->Option (Int×Int×Int)
 |_,[],_=>if Zm d d.start (I d.msgs)<0 then sO (-1,-1,11) else nO
 |at_,m::r,deps=>match WV d at_ m with
  |some (i,c)=>sO (at_,i,c)
  |none=>if 16<Zeh d at_ deps m then sO (at_,-1,10) else Qq d (at_+1) r (deps++[Zeh d at_ deps m])
def ZbX(d:Dfn):Option (Int×Int×Int) :=
 if Yl d.name=false then sO (-1,-1,1) else if dC (I d.msgs<1) ||decide (60<I d.msgs) then sO (-1,-1,3) else Qq d 0 d.msgs []
def Zb8(d:Dfn):Bool:=(ZbX d).isNone
def ZwF{d at_ i low l}(h:Zbj d at_ i low l=0):∀c∈l,0<=Zm d c.of at_:=by
 induction l generalizing low with
 |nil=>simp
 |cons c r ih =>simp only[Zbj]at h;split at h;omega;split at h;omega;intro x hx;rcases List.mem_cons.1 hx with rfl|hx;omega;exact ih h x hx
def Zqj{d at_ i m f}(h:WY d at_ m i f=0):(Ya f).length<=41/\∀s∈Ya f,0<=Zm d s at_:=by
 unfold WY at h;split at h;· omega
 split at h;· omega
 split at h;· omega
 rename_i hk;split at h;· omega
 simp only[ZId,decide_eq_true_eq,not_or,Int.not_lt]at hk;have o:f.kind=1\/f.kind=2\/f.kind=3\/f.kind=4\/f.kind=5\/f.kind=6\/f.kind=7\/f.kind=8\/f.kind=9\/f.kind=10\/f.kind=11\/f.kind=12:=ω;unfold Kp at h;rcases o with hk|hk|hk|hk|hk|hk|hk|hk|hk|hk|hk|hk<;>simp only[hk,ZIt,if_true,if_false]at h<;>(try(simp[Ya,QA,hk];done));simp only[Ya,QA,hk];split at h;omega;simp;omega;simp only[Ya,QA,hk];split at h;omega;simp;omega;split at h;omega;unfold Zee at h;split at h;omega;rename_i r;simp only[ZId,decide_eq_true_eq,not_or,Nat.not_lt]at r;have:=ZwF h;simp[Ya,QA,hk];exact⟨ω,this⟩;split at h;omega;split at h;omega;rename_i t;simp only[Zlp,ZId,decide_eq_true_eq,not_or]at t;simp[Ya,QA,hk];omega
def ZnG{d at_ m i l}(h:Yx d at_ m i l=nO):(l.flatMap Ya).length<=41*I l/\∀s∈l.flatMap Ya,0<=Zm d s at_:=by
 induction l generalizing i with
 |nil=>simp
 |cons f r ih =>simp only[Yx]at h;split at h;rename_i u;have o:=Zqj u;have t:=ih h;simp only[List.flatMap_cons,ZHX,ZH3,List.mem_append];refine⟨ω,λs hs=>?_⟩;rcases hs with hs|hs;exact o.2 s hs;exact t.2 s hs;simp at h
def Zhw{s}{l i:List Str}:s∈l.foldl Jr i↔s∈i\/s∈l:=by
 induction l generalizing i with
 |nil=>simp
 |cons x r ih =>simp only[List.foldl_cons,ih,ZIs];unfold Jr;split;rename_i h;constructor;rintro(h1|h1);exact .inl h1;exact .inr (.inr h1);rintro(h1|rfl|h1);exact .inl h1;exact .inl h;exact .inr h1;simp only[List.mem_append,List.mem_singleton,_root_.or_assoc]
def ZtT{s m}:s∈Y9 m↔s∈m.fields.flatMap Ya:=by
 unfold Y9;rw[Zhw];simp
def Ztn{d j m}(hm:d.msgs.getD j dE=m)(h:WV d j m=nO):ZkX d j:=by
 unfold WV at h;split at h;· simp at h
 split at h;· simp at h
 split at h;· simp at h
 rename_i i;simp only[ZId,decide_eq_true_eq,not_or,Nat.not_lt]at i;have:=ZnG h;subst hm;exact⟨ω,λs o=>this.2 s (ZtT.1 o)⟩
end Go.DL
namespace Go.DL
open Go
variable {kp:Option (List Nat)}{L:Loc}{H:Env}{s:St}{w:World}{os:List DOp}{ds:List D}{B:List (Nat × Rd)}{dst:Option Nat}{tmps:Array Value}{g:G}{Φ:Res->St->Prop}{Z:Nat->Nat}{xs:List Opd}{side:Prop}{row:Nat->List D}
def ZV{q:Nat->Prop}{j}(h:∀i,i<j->q i)(t:q j):∀i,i<j+1->q i:=λi r=>by
 rcases Nat.lt_or_eq_of_le (Nat.le_of_lt_succ r) with o |rfl;exact h i o;exact t
def ZtB{s}{t:Tok}{x:Nat}{o:JW}(h:t.okIn (s.upd x o)):t.okIn s/\∀k,(s.upd x o).own t k=(s.own t k).upd x o:=by
 cases t with
 |tip b =>
  simp only[Tok.okIn]at h;have i:b≠x:=λe=>by rw[e,ZHW]at h;simp at h
  refine⟨by simp only[Tok.okIn];rw[ZH0 s o i]at h;exact h,λk=>?_⟩;simp only[St.own];exact St.upd_comm s o i
 |full=>exact⟨trivial,λ_=>rfl⟩
 |none=>exact h.elim
def Zlc{s}{t:Tok}{x k:Nat}(i:t.okIn s){o:JW}(r:s x=sO o):(s.own t k) x=sO o:=Yj i _ _ r
def Zy9{t x k}(i:(s.own t k) x=nO):s x=nO/\∀j,(s.own t j) x=nO:=by
 cases t with
 |tip b =>
  simp only[St.own]at i⊢;have o:x≠b:=λe=>by rw[e,ZHW]at i;simp at i
  rw[ZH0 s _ o]at i;exact⟨i,λj=>by rw[ZH0 s _ o];exact i⟩
 |_=>exact⟨i,λ_=>i⟩
def st2(st:St)(t1:Tok)(k1:Nat)(t2:Tok)(k2:Nat)(x:Nat)(c:JW):St:=((st.own t1 k1).own t2 k2).upd x c
def Yv{st r t x i o c}:(st2 st r i t o x c) x=sO c:=ZHW _ _ _
def Yw{st t u x o r c i}:(st2 st t o u r x c).upd x i=st2 st t o u r x i:=ZH7 _ _ _ _
open Go.Proofs
def K9{α:Type}(p:α->Bool):List α->Nat
 | []=>0
 |x::r=>if p x then 1 else K9 p r+1
def JQ{α}{p:α->Bool}{l:List α}(h:∀x∈l,p x=false):K9 p l=I l:=by
 induction l with
 |nil=>rfl
 |cons x r ih=>simp only[K9,h x ψ,ZH3];rw[ih λy i=>h y (by simp[i])];simp
def Zbz{α}[Inhabited α]{p}{l:List α}{i:Nat}(u:i<I l)(o:p (l.getD i dE)=true)(h:∀j,j<i->p (l.getD j dE)=false):K9 p l=i+1:=by
 induction l generalizing i with
 |nil=>simp at u
 |cons x r ih =>
  cases i with
  |zero=>simp at o;simp[K9,o]
  |succ i =>have t:=h 0 ω;simp only[List.getD_cons_zero]at t;simp only[List.getD_cons_succ,ZH3]at o u;simp only[K9,t];rw[ih ω o λj hj=>by have:=h (j+1) ω;simpa only[List.getD_cons_succ]using this];simp
def byC(b:UInt8):List D:=[.int .u8 (b.toNat:Int)]
def JE{α}(p:α->Bool)(l:List α):l.any p=dC (0<=Zl p l):=by
 induction l with
 |nil=>rfl
 |cons x r ih =>have:=K4 p r;rw[List.any_cons,ih];simp only[Zl];by_cases i:p x=true;simp[i];by_cases o:Zl p r<0;simp[i,o];simp[i,o];omega
def Zeq(l f p)(sts:Nat->St)(hf:∀i,i<I l->VT ZHP f [.agg (l.getD i dE).cells] (sts i) (.bool (p (l.getD i dE))) (sts (i+1))):
  ZL ZHP 105 [slD 2 Msg.cells l,f] (sts 0) (.i (Zl p l)) (sts (K9 p l)):=by
 refine ZE (cR 105 f105) λab F o=>?_;have hw:=(Y4 (ab (slD 2 Msg.cells l) ψ)).1;unfold big at hw;clear ab;refine rx @eQ1 ?_;refine rx @eQ1 ?_;refine Zb (fr (I l) (λi Q=>i<=I l->(∀j,j<i->p (l.getD j dE)=false)->Q [(0,.d (slD 2 Msg.cells l)),(1,.d f),(7,.d (.i (I l))),(8,.d (.i i))] [] (sts i)) (λn t=>?_) λac=>?_);intro i hn hi r;refine rx @eQ1 ?_;refine Zd (Zj rfl trivial (λh1=>?_) (λh1=>?_));simp at h1;refine rx @eQ1 ?_;refine xA (nd2 @eQ1 @eQ3) ?_;refine cW (hf i h1) ?_;refine cd (λh2=>?_) (λh2=>?_);have e1:=Wv h1 h2 r;have e2:=Zbz h1 h2 r;rw[e1,e2]at o;refine rg ?_;exact o rfl φ (ZHT _) ZHU;refine gA ?_;refine Za ?_;exact t ((I l)-(i+1)) ω (i+1) rfl ω (ZV (q:=λj=>p (l.getD j dE)=false) r h2);simp at h1;obtain rfl:i=I l:=ω;have u:∀x∈l,p x=false:=λx hx=>by obtain⟨j,hj,rfl⟩:=ZIc hx;have:=r j hj;simpa[ZH6,hj]using this
 rw[Wd u,JQ u]at o;refine rg ?_;exact o rfl φ (ZHT _) ZHU;exact ac _ 0 rfl ω (by intro j hj;omega)
def ZfT(l f p)(sts:Nat->St)(hf:∀i,i<I l->VT ZHP f [.agg (l.getD i dE).cells] (sts i) (.bool (p (l.getD i dE))) (sts (i+1))):
  ZL ZHP 296 [slD 3 YE.cells l,f] (sts 0) (.i (Zl p l)) (sts (K9 p l)):=by
 refine ZE (cR 296 f296) λab F o=>?_;have hw:=(Y4 (ab (slD 3 YE.cells l) ψ)).1;unfold big at hw;clear ab;refine rx @eQ1 ?_;refine rx @eQ1 ?_;refine Zb (fr (I l) (λi Q=>i<=I l->(∀j,j<i->p (l.getD j dE)=false)->Q [(0,.d (slD 3 YE.cells l)),(1,.d f),(7,.d (.i (I l))),(8,.d (.i i))] [] (sts i)) (λn t=>?_) λac=>?_);intro i hn hi r;refine rx @eQ1 ?_;refine Zd (Zj rfl trivial (λh1=>?_) (λh1=>?_));simp at h1;refine rx @eQ1 ?_;refine xA (nd2 @eQ1 @YE.cells.eq_1) ?_;refine cW (hf i h1) ?_;refine cd (λh2=>?_) (λh2=>?_);have e1:=Wv h1 h2 r;have e2:=Zbz h1 h2 r;rw[e1,e2]at o;refine rg ?_;exact o rfl φ (ZHT _) ZHU;refine gA ?_;refine Za ?_;exact t ((I l)-(i+1)) ω (i+1) rfl ω (ZV (q:=λj=>p (l.getD j dE)=false) r h2);simp at h1;obtain rfl:i=I l:=ω;have u:∀x∈l,p x=false:=λx hx=>by obtain⟨j,hj,rfl⟩:=ZIc hx;have:=r j hj;simpa[ZH6,hj]using this
 rw[Wd u,JQ u]at o;refine rg ?_;exact o rfl φ (ZHT _) ZHU;exact ac _ 0 rfl ω (by intro j hj;omega)
def Q2(l f p)(sts:Nat->St)(hf:∀i,i<I l->VT ZHP f [.agg (l.getD i dE).cells] (sts i) (.bool (p (l.getD i dE))) (sts (i+1))):
  ZL ZHP 237 [slD 15 Fld.cells l,f] (sts 0) (.i (Zl p l)) (sts (K9 p l)):=by
 refine ZE (cR 237 f237) λab F o=>?_;have hw:=(Y4 (ab (slD 15 Fld.cells l) ψ)).1;unfold big at hw;clear ab;refine rx @eQ1 ?_;refine rx @eQ1 ?_;refine Zb (fr (I l) (λi Q=>i<=I l->(∀j,j<i->p (l.getD j dE)=false)->Q [(0,.d (slD 15 Fld.cells l)),(1,.d f),(7,.d (.i (I l))),(8,.d (.i i))] [] (sts i)) (λn t=>?_) λac=>?_);intro i hn hi r;refine rx @eQ1 ?_;refine Zd (Zj rfl trivial (λh1=>?_) (λh1=>?_));simp at h1;refine rx @eQ1 ?_;refine xA (nd2 @eQ1 @eQ0) ?_;refine cW (hf i h1) ?_;refine cd (λh2=>?_) (λh2=>?_);have e1:=Wv h1 h2 r;have e2:=Zbz h1 h2 r;rw[e1,e2]at o;refine rg ?_;exact o rfl φ (ZHT _) ZHU;refine gA ?_;refine Za ?_;exact t ((I l)-(i+1)) ω (i+1) rfl ω (ZV (q:=λj=>p (l.getD j dE)=false) r h2);simp at h1;obtain rfl:i=I l:=ω;have u:∀x∈l,p x=false:=λx hx=>by obtain⟨j,hj,rfl⟩:=ZIc hx;have:=r j hj;simpa[ZH6,hj]using this
 rw[Wd u,JQ u]at o;refine rg ?_;exact o rfl φ (ZHT _) ZHU;exact ac _ 0 rfl ω (by intro j hj;omega)
def ZfV(l f p)(sts:Nat->St)(hf:∀i,i<I l->VT ZHP f [.int .u8 ((l.getD i dE).toNat:Int)] (sts i) (.bool (p (l.getD i dE))) (sts (i+1))):
  ZL ZHP 132 [slD 1 byC l,f] (sts 0) (.i (Zl p l)) (sts (K9 p l)):=by
 refine ZE (cR 132 f132) λab F o=>?_;have hw:=(Y4 (ab (slD 1 byC l) ψ)).1;unfold big at hw;clear ab;refine rx @eQ1 ?_;refine rx @eQ1 ?_;refine Zb (fr (I l) (λi Q=>i<=I l->(∀j,j<i->p (l.getD j dE)=false)->Q [(0,.d (slD 1 byC l)),(1,.d f),(7,.d (.i (I l))),(8,.d (.i i))] [] (sts i)) (λn t=>?_) λac=>?_);intro i hn hi r;refine rx @eQ1 ?_;refine Zd (Zj rfl trivial (λh1=>?_) (λh1=>?_));simp at h1;refine rx @eQ1 ?_;refine xA (nd2 @eQ1 @byC.eq_1) ?_;refine cW (hf i h1) ?_;refine cd (λh2=>?_) (λh2=>?_);have e1:=Wv h1 h2 r;have e2:=Zbz h1 h2 r;rw[e1,e2]at o;refine rg ?_;exact o rfl φ (ZHT _) ZHU;refine gA ?_;refine Za ?_;exact t ((I l)-(i+1)) ω (i+1) rfl ω (ZV (q:=λj=>p (l.getD j dE)=false) r h2);simp at h1;obtain rfl:i=I l:=ω;have u:∀x∈l,p x=false:=λx hx=>by obtain⟨j,hj,rfl⟩:=ZIc hx;have:=r j hj;simpa[ZH6,hj]using this
 rw[Wd u,JQ u]at o;refine rg ?_;exact o rfl φ (ZHT _) ZHU;exact ac _ 0 rfl ω (by intro j hj;omega)
def ZdQ(l f p)(t:Nat->St)(u:∀i,i<I l->VT ZHP f [.agg (l.getD i dE).cells] (t i) (.bool (p (l.getD i dE))) (t (i+1))):
  ZL ZHP 383 [slD 15 Fld.cells l,f] (t 0) (.bool (l.any p)) (t (K9 p l)):=by
 refine ZE (cR 383 f383) λr F o=>?_;clear r;refine gG ?_;refine ct (Q2 l f p t u) ?_;rw[JE]at o;exact o rfl φ (ZHT _) ZHU
def QC(l){f p}(t:Nat->St)(u:∀i,i<I l->VT ZHP f [.int .u8 ((l.getD i dE).toNat:Int)] (t i) (.bool (p (l.getD i dE))) (t (i+1))):
  ZL ZHP 92 [slD 1 byC l,f] (t 0) (.bool (l.any p)) (t (K9 p l)):=by
 refine ZE (cR 92 f92) λr F o=>?_;clear r;refine gG ?_;refine ct (ZfV l f p t u) ?_;rw[JE]at o;exact o rfl φ (ZHT _) ZHU
def boC(b:Bool):List D:=[.bool b]
def Zdo(s:Str):List D:=[.str s]
def Znp{α:Type}[DecidableEq α](v)(l:List α):l.any (λx=>dC (v=x))=dC (v∈l):=by
 induction l with
 |nil=>simp
 |cons x r ih=>rw[List.any_cons,ih];simp[ZIs]
def ZiW{α:Type}[Inhabited α]{l r:List α}(h:I l=I r)(t:∀j,j<I l->l.getD j dE=r.getD j dE):l=r:=by
 apply List.ext_getElem h;intro i o u;have:=t i o;simpa[ZH6,o,u]using this
def ZiH(l v):Zc ZHP 168 [slD 1 boC l,.bool v] (.i (Zl (λx=>dC (v=x)) l)):=by
 refine ZO (cR 168 f168) λab F st r=>?_;have hw:=(Y4 (ab (slD 1 boC l) ψ)).1;unfold big at hw;clear ab;refine rx @eQ1 ?_;refine rx @eQ1 ?_;refine Zb (fr (I l) (λi Q=>i<=I l->(∀j,j<i->dC (v=l.getD j dE)=false)->Q [(0,.d (slD 1 boC l)),(1,.d (.bool v)),(7,.d (.i (I l))),(8,.d (.i i))] [] st) (λn o=>?_) λac=>?_);intro i hn hi t;refine rx @eQ1 ?_;refine Zd (Zj rfl trivial (λh1=>?_) (λh1=>?_));simp at h1;refine rx @eQ1 ?_;refine xA (nd2 @eQ1 @boC.eq_1) ?_;refine cd (λh2=>?_) (λh2=>?_);have e1:=Wv (p:=λx=>dC (v=x)) h1 h2 t;refine rg ?_;refine ri r ?_;exact e1.symm;refine gA ?_;refine Za ?_;exact o ((I l)-(i+1)) ω (i+1) rfl ω (ZV (q:=λj=>dC (v=l.getD j dE)=false) t h2);simp at h1;obtain rfl:i=I l:=ω;have u:∀x∈l,(λx=>dC (v=x)) x=false:=λx hx=>by obtain⟨j,hj,rfl⟩:=ZIc hx;have:=t j hj;simpa[ZH6,hj]using this
 refine rg ?_;refine ri r ?_;exact(Wd u).symm;exact ac _ 0 rfl ω (by intro j hj;omega)
def Zf4(l v):Zc ZHP 131 [slD 1 boC l,.bool v] (.bool (dC (v∈l))):=by
 refine Ze (cR 131 f131) λF st i=>?_;refine gG ?_;refine cl (ZiH l v) ?_;refine rb i ?_;rw[<-JE,Znp];try congr
def Zhb(l v):Zc ZHP 376 [slD 1 Zdo l,.str v] (.i (Zl (λx=>dC (v=x)) l)):=by
 refine ZO (cR 376 f376) λab F st r=>?_;have hw:=(Y4 (ab (slD 1 Zdo l) ψ)).1;unfold big at hw;clear ab;refine rx @eQ1 ?_;refine rx @eQ1 ?_;refine Zb (fr (I l) (λi Q=>i<=I l->(∀j,j<i->dC (v=l.getD j dE)=false)->Q [(0,.d (slD 1 Zdo l)),(1,.d (.str v)),(7,.d (.i (I l))),(8,.d (.i i))] [] st) (λn o=>?_) λac=>?_);intro i hn hi t;refine rx @eQ1 ?_;refine Zd (Zj rfl trivial (λh1=>?_) (λh1=>?_));simp at h1;refine rx @eQ1 ?_;refine xA (nd2 @eQ1 @Zdo.eq_1) ?_;refine cd (λh2=>?_) (λh2=>?_);have e1:=Wv (p:=λx=>dC (v=x)) h1 h2 t;refine rg ?_;refine ri r ?_;exact e1.symm;refine gA ?_;refine Za ?_;exact o ((I l)-(i+1)) ω (i+1) rfl ω (ZV (q:=λj=>dC (v=l.getD j dE)=false) t h2);simp at h1;obtain rfl:i=I l:=ω;have u:∀x∈l,(λx=>dC (v=x)) x=false:=λx hx=>by obtain⟨j,hj,rfl⟩:=ZIc hx;have:=t j hj;simpa[ZH6,hj]using this
 refine rg ?_;refine ri r ?_;exact(Wd u).symm;exact ac _ 0 rfl ω (by intro j hj;omega)
def Ze2(l v):Zc ZHP 333 [slD 1 Zdo l,.str v] (.bool (dC (v∈l))):=by
 refine Ze (cR 333 f333) λF st i=>?_;refine gG ?_;refine cl (Zhb l v) ?_;refine rb i ?_;rw[<-JE,Znp];try congr
def ZiG(l r):Zc ZHP 374 [slD 2 YF.cells l,slD 2 YF.cells r] (.bool (dC (l=r))):=by
 refine ZO (cR 374 f374) λac F st o=>?_;have hw:=(Y4 (ac (slD 2 YF.cells l) ψ)).1;unfold big at hw;clear ac;refine rx @eQ1 ?_;refine rx @eQ1 ?_;refine cd (λh1=>?_) (λh1=>?_);refine rg ?_;refine rb o ?_;exact(decide_eq_false (λe=>by rw[e]at h1;simp at h1)).symm;have u:I l=I r:=by simp at h1;omega
 refine rx @eQ1 ?_;refine Zb (fr (I l) (λi Q=>i<=I l->(∀j,j<i->l.getD j dE=r.getD j dE)->Q [(0,.d (slD 2 YF.cells l)),(1,.d (slD 2 YF.cells r)),(12,.d (.i (I l))),(13,.d (.i i))] [] st) (λn t=>?_) λaf=>?_);intro i hn hi ab;refine rx @eQ1 ?_;refine Zd (Zj rfl trivial (λh2=>?_) (λh2=>?_));simp at h2;refine rx @eQ1 ?_;refine xA (nd2 @eQ1 @eQ8) ?_;refine cd (λh3=>?_) (λh3=>?_);have ae:l.getD i dE≠r.getD i dE:=λe=>by rw[e]at h3;simp at h3
 refine rg ?_;refine rb o ?_;exact(decide_eq_false (λe=>ae (by rw[e]))).symm;have ad:l.getD i dE=r.getD i dE:=by generalize l.getD i dE=a at h3⊢;generalize r.getD i dE=b at h3⊢;cases a;cases b;simpa[and_assoc]using h3
 refine gA ?_;refine Za ?_;exact t ((I l)-(i+1)) ω (i+1) rfl ω (ZV (q:=λj=>l.getD j dE=r.getD j dE) ab ad);simp at h2;obtain rfl:i=I l:=ω;refine rg ?_;refine rb o ?_;exact(decide_eq_true (ZiW u ab)).symm;exact af _ 0 rfl ω (by intro j hj;omega)
def ZiF(l r):Zc ZHP 375 [slD 3 YE.cells l,slD 3 YE.cells r] (.bool (dC (l=r))):=by
 refine ZO (cR 375 f375) λac F st o=>?_;have hw:=(Y4 (ac (slD 3 YE.cells l) ψ)).1;unfold big at hw;clear ac;refine rx @eQ1 ?_;refine rx @eQ1 ?_;refine cd (λh1=>?_) (λh1=>?_);refine rg ?_;refine rb o ?_;exact(decide_eq_false (λe=>by rw[e]at h1;simp at h1)).symm;have u:I l=I r:=by simp at h1;omega
 refine rx @eQ1 ?_;refine Zb (fr (I l) (λi Q=>i<=I l->(∀j,j<i->l.getD j dE=r.getD j dE)->Q [(0,.d (slD 3 YE.cells l)),(1,.d (slD 3 YE.cells r)),(12,.d (.i (I l))),(13,.d (.i i))] [] st) (λn t=>?_) λaf=>?_);intro i hn hi ab;refine rx @eQ1 ?_;refine Zd (Zj rfl trivial (λh2=>?_) (λh2=>?_));simp at h2;refine rx @eQ1 ?_;refine xA (nd2 @eQ1 @YE.cells.eq_1) ?_;refine cd (λh3=>?_) (λh3=>?_);have ae:l.getD i dE≠r.getD i dE:=λe=>by rw[e]at h3;simp at h3
 refine rg ?_;refine rb o ?_;exact(decide_eq_false (λe=>ae (by rw[e]))).symm;have ad:l.getD i dE=r.getD i dE:=by generalize l.getD i dE=a at h3⊢;generalize r.getD i dE=b at h3⊢;cases a;cases b;simpa[and_assoc]using h3
 refine gA ?_;refine Za ?_;exact t ((I l)-(i+1)) ω (i+1) rfl ω (ZV (q:=λj=>l.getD j dE=r.getD j dE) ab ad);simp at h2;obtain rfl:i=I l:=ω;refine rg ?_;refine rb o ?_;exact(decide_eq_true (ZiW u ab)).symm;exact af _ 0 rfl ω (by intro j hj;omega)
def ZhH(c):Zc ZHP 89 [.int .u8 c.toNat] (.bool (Zda c)):=by
 refine Ze (cR 89 f89) λF st i=>?_;refine gG ?_;refine rb i ?_;rfl
def Zrl(c):Zc ZHP 90 [.int .u8 c.toNat] (.bool (JF c)):=by
 refine Ze (cR 90 f90) λF st i=>?_;refine gG ?_;refine rb i ?_;rfl
def ZeE(v):Zc ZHP 337 [.i v] (.bool (Jk v)):=by
 refine Ze (cR 337 f337) λF st i=>?_;refine gG ?_;refine rb i ?_;simp only[Jk]
def Zmo(l):Zc ZHP 91 [slD 1 boC l] (.bool (!dC (false∈l))):=by
 refine Ze (cR 91 f91) λF st i=>?_;refine gG ?_;refine cl (Zf4 l false) ?_;refine rb i ?_;rfl
def Zkz{a b}:Zc ZHP 91 [.sl .full 2 1 (ZI [.bool false] ([0,1].zip [.bool a,.bool b]))] (.bool (a&&b)):=by
 have h:Zy boC (ZI [.bool false] ([0,1].zip [.bool a,.bool b])) [a,b]:=λi o=>by
  match i,o with
  |0,_=>rfl
  |1,_=>rfl
 refine((Zmo [a,b]).leA (LeC.one (h.le rfl))).le ?_;cases a<;>cases b<;>rfl
def ZqJ{a b c}:Zc ZHP 91 [.sl .full 3 1 (ZI [.bool false] ([0,1,2].zip [.bool a,.bool b,.bool c]))] (.bool (a&&(b&&c))):=by
 have h:Zy boC (ZI [.bool false] ([0,1,2].zip [.bool a,.bool b,.bool c])) [a,b,c]:=λi o=>by
  match i,o with
  |0,_=>rfl
  |1,_=>rfl
  |2,_=>rfl
 refine((Zmo [a,b,c]).leA (LeC.one (h.le rfl))).le ?_;cases a<;>cases b<;>cases c<;>rfl
def ZpO{c}:Zc ZHP 88 [.int .u8 c.toNat] (.bool (!Kh c)):=by
 refine Ze (cR 88 f88) λF st i=>?_;refine gG ?_;refine cl (ZhH c) ?_;refine cG (Zrl c) ?_;refine rb i ?_;unfold Kh;cases Zda c<;>cases JF c<;>rfl
def Zv9(s):Zc ZHP 92 [slD 1 byC s,.fn (.func 88) [] []] (.bool (s.any λc=>!Kh c)) :=
 λst=>QC s (λ_=>st) λi _=> ZpO.VT (first:=[]) (caps:=[]) st
def ZjT(s):Yl s=(((dC (1<=(I s:Int))&&dC ((I s:Int)<=32))&&Zda (s.getD 0 0))&&!(s.any λc=>!Kh c)):=by
 cases s with
 |nil=>rfl
 |cons c r =>
  have h:∀l:Str,l.all Kh=!(l.any λc=>!Kh c):=λl=>by
   induction l with
   |nil=>rfl
   |cons x r ih=>simp only[List.all_cons,List.any_cons,ih];cases Kh x<;>simp
  simp only[Yl,h,List.getD_cons_zero,ZH3]
  congr 2
  have i:dC (1<=((I r+1:Nat):Int))=true:=decide_eq_true ω;rw[i,ZIf];exact decide_eq_decide.2 ω
def Zas(s):Zc ZHP 44 [.str s] (.bool (Yl s)):=by
 refine ZO (cR 44 f44) λo F st i=>?_;have r:=(o (.str s) ψ).str_inv;unfold big at r;refine gG ?_;refine rg ?_;refine cl Zkz ?_;refine aa ?_;refine cG (ZhH _) ?_;refine cG (Zv9 s) ?_;rw[ZjT]at i;refine rb i ?_;trivial
end Go.DL
namespace Go.DL
open Go
variable {kp:Option (List Nat)}{L:Loc}{H:Env}{s:St}{w:World}{os:List DOp}{ds:List D}{B:List (Nat × Rd)}{dst:Option Nat}{tmps:Array Value}{g:G}{Φ:Res->St->Prop}{Z:Nat->Nat}{xs:List Opd}{side:Prop}{row:Nat->List D}
section
variable {K V:Type} [DecidableEq K]
def Zv(k:K):List (K×V)->Option V
 | []=>nO
 |e::r=>if k=e.1 then sO e.2 else Zv k r
def YY(k:K)(v:V):List (K×V)->List (K×V)
 | []=>[(k,v)]
 |e::r=>if k=e.1 then (k,v)::r else e::YY k v r
def Kc(kD:K->D)(vD:V->D)(l:List (K×V)):List (D×D):=l.map λe=>(kD e.1,vD e.2)
def ZkV(kp:KP)(kD:K->D):Prop:=∀a b,K6 kp (kD a) (kD b)=sO (dC (a=b))
def YR{kp}{i}{vD:V->D}(h:ZkV kp i)(k:K)(l:List (K×V)):ZeO kp (i k) (Kc i vD l)=sO ((Zv k l).map vD):=by
 induction l with
 |nil=>rfl
 |cons e r ih =>simp only[Kc,ZIo,ZeO,h k e.1,Zv];by_cases o:k=e.1;simp[o];simp only[o,decide_false,if_false];exact ih
def Zay{kp}{i}{vD}(h:ZkV kp i)(k:K)(v:V)(l:List (K×V)):ZbD kp (i k) (vD v) (Kc i vD l)=sO (Kc i vD (YY k v l)):=by
 induction l with
 |nil=>rfl
 |cons e r ih =>simp only[Kc,ZIo,ZbD,h k e.1,YY];by_cases o:k=e.1;simp[o];simp only[o,decide_false,if_false,ZIo];rw[show ZbD kp (i k) (vD v) (r.map λe=>(i e.1,vD e.2))=_ from ih];rfl
def Y8{kp}{i:K->D}(h:ZkV kp i)(k:K):JK kp (i k)=true:=by simp[JK,h k k]
def WZ(k j)(v:V)(l:List (K×V)):Zv j (YY k v l)=if j=k then sO v else Zv j l:=by
 induction l with
 |nil=>simp[YY,Zv]
 |cons e r ih =>simp only[YY];by_cases i:k=e.1;subst i;simp only[if_true,Zv];split<;>rfl;simp only[i,if_false,Zv,ih];by_cases o:j=e.1;subst o;simp[Ne.symm i];simp[o]
def Zw7{k}{l:List (K×V)}:Zv k l=nO↔k∉l.map (·.1):=by
 induction l with
 |nil=>simp[Zv]
 |cons x r ih =>simp only[Zv,ZIo,ZIs];by_cases h:k=x.1;simp[h];simp[h,ih]
end
def K5(s:Str):D:=.str s
def ZS:ZkV (.sc .str) K5:=λa b=>rfl
def Y7(n:Int):D:=.i n
def ZdH:ZkV (.sc .int) Y7:=λa b=>by simp[K6,Y7,YT]
open Go.Proofs
def vst(st:St)(b x:Nat)(es:List (D×D)):St:=(st.upd b (.map es)).upd x (.cells [.map b])
def ZzR{st b x es}:(vst st b x es) x=sO (.cells [.map b]):=ZHW _ _ _
def ZzQ{st b x es}(h:b≠x):(vst st b x es) b=sO (.map es):=by
 unfold vst;rw[ZH0 _ _ h];exact ZHW _ _ _
def ZAX{st b x es i}(h:b≠x):(vst st b x es).upd b (.map i)=vst st b x i:=by
 unfold vst;rw[St.upd_comm _ _ h,ZH7]
abbrev ZeN(l:List (Str×Bool)):List (D×D):=Kc K5 D.bool l
def ZmZ(o:Option Bool):WU (.bool false) false (o.map D.bool)=.bool (o.getD false):=by cases o<;>rfl
def ZoF(t st b x)(h:b≠x)(l):
  ZL ZHP 336 [.agg t.cells,.ptr x 0] (vst st b x (ZeN l)) (.bool ((Zv t.field l).getD false||!Qe t)) (vst st b x (ZeN (YY t.field true l))):=by
 refine ZE (cR 336 f336) λhwf F i=>?_;have o:=YR (vD:=D.bool) ZS t.field l;have r:=Zay (vD:=D.bool) ZS t.field true l;have u:=Y8 ZS t.field;simp only[show K5 t.field=D.str t.field from rfl]at o r u;refine rx @eQ8 ?_;refine rh ?_;refine Zk ?_;simp only[Eqs,reduceCtorEq,ZHV,reduceIte,ZHR,ZHY,ZHS,ZzR,ZzQ h,o,ZmZ];generalize (Zv t.field l).getD false=tw at *;refine rh ?_;refine Zk ?_;simp only[Eqs,reduceCtorEq,ZHV,reduceIte,ZHR,ZHY,ZHS,ZzR,ZzQ h,r,ZAX h];cases tw with
 |false =>refine rx @eQ8 ?_;refine clD (Zas t.field) ?_;refine clD (ZeE t.factor) ?_;refine clD ZqJ ?_;refine i rfl φ (Ze9 ?_) ZHU;unfold Qe;cases Yl t.field<;>cases dC (t.factor=0)<;>cases Jk t.factor<;>rfl
 |true =>refine rx @eQ8 ?_;refine Zfg rfl rfl (e:=.d (.bool false)) (Yb ?_);simp only[Eqs,reduceCtorEq,ZHV,reduceIte,ZHR,ZHY,ZHS];refine Zfg rfl rfl (e:=.d (.bool false)) (Yb ?_);simp only[Eqs,reduceCtorEq,ZHV,reduceIte,ZHR,ZHY,ZHS];refine Zfg rfl rfl (e:=.d (.bool false)) (Yb ?_);simp only[Eqs,reduceCtorEq,ZHV,reduceIte,ZHR,ZHY,ZHS];exact i rfl φ (Ze9 ψ) ZHU
def Ze0{n i}(h:i<n):(ZH5 n).getD i dE=i:=by simp[ZH6,h]
def ZfU(l f p)(sts:Nat->St)(hf:∀i,i<I l->VT ZHP f [.agg (l.getD i dE).cells] (sts i) (.bool (p i)) (sts (i+1))):
  ZL ZHP 377 [slD 2 YF.cells l,f] (sts 0) (.i (Zl p (ZH5 (I l)))) (sts (K9 p (ZH5 (I l)))):=by
 refine ZE (cR 377 f377) λab F o=>?_;have hw:=(Y4 (ab (slD 2 YF.cells l) ψ)).1;unfold big at hw;clear ab;refine rx @eQ1 ?_;refine rx @eQ1 ?_;refine Zb (fr (I l) (λi Q=>i<=I l->(∀j,j<i->p j=false)->Q [(0,.d (slD 2 YF.cells l)),(1,.d f),(7,.d (.i (I l))),(8,.d (.i i))] [] (sts i)) (λn t=>?_) λac=>?_);intro i hn hi r;refine rx @eQ1 ?_;refine Zd (Zj rfl trivial (λh1=>?_) (λh1=>?_));simp at h1;refine rx @eQ1 ?_;refine xA (nd2 @eQ1 @eQ8) ?_;refine cW (hf i h1) ?_;refine cd (λh2=>?_) (λh2=>?_);have e1:=Wv (p:=p) (l:=ZH5 (I l)) (i:=i) (by simpa using h1) (by rw[Ze0 h1];exact h2) (λj hj=>by rw[Ze0 ω];exact r j hj);have e2:=Zbz (p:=p) (l:=ZH5 (I l)) (i:=i) (by simpa using h1) (by rw[Ze0 h1];exact h2) (λj hj=>by rw[Ze0 ω];exact r j hj);rw[e1,e2]at o;refine rg ?_;exact o rfl φ (ZHT _) ZHU;refine gA ?_;refine Za ?_;exact t ((I l)-(i+1)) ω (i+1) rfl ω (ZV (q:=λj=>p j=false) r h2);simp at h1;obtain rfl:i=I l:=ω;have u:∀x∈ZH5 (I l),p x=false:=λx hx=>r x (by simpa using hx);rw[Wd u,JQ u,List.length_range]at o;refine rg ?_;exact o rfl φ (ZHT _) ZHU;exact ac _ 0 rfl ω (by intro j hj;omega)
def Zep(l f p)(t:Nat->St)(u:∀i,i<I l->VT ZHP f [.agg (l.getD i dE).cells] (t i) (.bool (p i)) (t (i+1))):
  ZL ZHP 338 [slD 2 YF.cells l,f] (t 0) (.bool ((ZH5 (I l)).any p)) (t (K9 p (ZH5 (I l)))):=by
 refine ZE (cR 338 f338) λr F o=>?_;clear r;refine gG ?_;refine ct (ZfU l f p t u) ?_;rw[JE]at o;exact o rfl φ (ZHT _) ZHU
def Zlj(l:List YF):Nat->List (Str×Bool)
 |0=>[]
 |i+1=>YY (l.getD i dE).field true (Zlj l i)
def ZxM{l s i}(hi:i<=I l):(Zv s (Zlj l i)).getD false=dC (s∈(l.take i).map (·.field)):=by
 induction i with
 |zero=>simp[Zlj,Zv]
 |succ i ih =>have h:=ih ω;rw[Zlj,WZ,ZQ ω,List.map_append];by_cases o:s=(l.getD i dE).field;rw[if_pos o];simp[o];rw[if_neg o,h];simp only[List.mem_append,ZIo,List.map_nil,List.mem_singleton,o,or_false]
def ZdU(l r:List YF)(k)(u:r=l.drop k)(hk:k<=I l):Ql ((l.take k).map (·.field)) r=!((ZH5 (I r)).any λi=>(dC ((l.getD (k+i) dE).field∈(l.take (k+i)).map (·.field))||!Qe (l.getD (k+i) dE))):=by
 induction r generalizing k with
 |nil=>rfl
 |cons t q ih =>
  have o:k<I l:=by have:=congrArg List.length u;simp at this;omega
  rw[Yf o]at u;injection u with h1 h2;have h3:=ih (k+1) h2 ω;rw[Ql,ZH3,List.range_succ_eq_map,List.any_cons,List.any_map];rw[show(l.take k).map (·.field)++[t.field]=(l.take (k+1)).map (·.field) by rw[ZQ o,List.map_append,<-h1];rfl,h3];simp only[Nat.add_zero,<-h1,Function.comp_def,Nat.succ_eq_add_one];rw[show(λi=>dC ((l.getD (k+(i+1)) dE).field∈(l.take (k+(i+1))).map (·.field))||!Qe (l.getD (k+(i+1)) dE))=λi=>dC ((l.getD (k+1+i) dE).field∈(l.take (k+1+i)).map (·.field))||!Qe (l.getD (k+1+i) dE) from funext λi=>by rw[show k+(i+1)=k+1+i by omega]];cases Qe t<;>cases dC (t.field∈(l.take k).map (·.field))<;>simp
def Zcm(s):Zc ZHP 320 [.agg s.cells] (.bool (ZU s)):=by
 refine ZO (cR 320 f320) λhwf F st r=>?_;refine rx (nd2 @eQ7 (nd2 @eQ5 @eQ1)) ?_;refine rg ?_;intro b hb;refine Zd ?_;refine ZgJ 3 rfl λx hx=>?_;simp only[Eqs,reduceCtorEq,ZHV,reduceIte,ZHR,ZHY,ZHS,Zax,ZcI,delL];refine rg ?_;have t:b≠x:=λe=>by rw[e,ZHW]at hx;simp at hx
 have u:∀o,(st.upd b o) x=nO:=λo=>by rw[ZH0 _ _ (Ne.symm t)]at hx⊢;exact hx
 have ab:(st.upd b (.map [])).upd x (.cells [.map b])=vst st b x (ZeN []):=rfl;rw[ab];cases hc:(Jk s.base&&dC ((I s.terms:Int)<=4)) with
 |false =>refine rx (nd2 @eQ7 (nd2 @eQ5 @eQ1)) ?_;refine clD (ZeE s.base) ?_;refine cXD @hc Zkz ?_;refine Zfg rfl rfl (e:=.d (.bool false)) (Yb ?_);simp only[Eqs,reduceCtorEq,ZHV,reduceIte,ZHR,ZHY,ZHS];refine r rfl φ (Ze9 ?_) (ZIu (ZIg _ hb) (ZIg _ (u _)));unfold ZU;rw[show dC (I s.terms<=4)=dC ((I s.terms:Int)<=4) from decide_eq_decide.2 ω,hc];rfl
 |true =>refine rx (nd2 @eQ7 (nd2 @eQ5 @eQ1)) ?_;refine clD (ZeE s.base) ?_;refine cXD @hc Zkz ?_;refine Zf9 rfl rfl rfl rfl rfl φ φ (by exact Zep s.terms (.fn (.func 336) [] [.ptr x 0]) (λi=>dC ((s.terms.getD i dE).field∈(s.terms.take i).map (·.field))||!Qe (s.terms.getD i dE)) (λi=>vst st b x (ZeN (Zlj s.terms i))) (λi hi=>(by have:=ZoF (s.terms.getD i dE) st b x t (Zlj s.terms i);rw[ZxM ω]at this;exact this.VT (first:=[]) (args:=[_]) (caps:=[_])))) (by first|trivial|exact⟨rfl,trivial⟩|simp[Wo,Qv]) (Yb ?_);simp only[Eqs,reduceCtorEq,ZHV,reduceIte,ZHR,ZHY,ZHS];refine r rfl φ (Ze9 ?_) (ZIu (ZIg _ hb) (ZIg _ (u _)));have hv:=ZdU s.terms s.terms 0 rfl ω;simp only[Nat.zero_add]at hv;rw[<-hv];unfold ZU;rw[show dC (I s.terms<=4)=dC ((I s.terms:Int)<=4) from decide_eq_decide.2 ω,hc,ZIf];rfl
def ZiD(l)(hl:I l<=1000000)(st):Zf ZHP 339 [Z4 l] st (λr s=>r=.ret (Z4 l)/\s=st):=by
 refine Zh (cR 339 f339) λF hF=>?_;by_cases h0:I l=0;have ab:l=[]:=List.eq_nil_of_length_eq_zero h0;subst ab;refine ZeK 0 rfl ?_ λb off cap=>?_
 skip
 refine rx (nd2 @eQ5 @eQ1) ?_;refine rg ?_;refine i1 ?_;refine rg ?_;exact hF.ret _ st rfl φ (K1 (Z1 λb h=>by cases h)) ZHU ⟨rfl,rfl⟩
 skip
 refine rx (nd2 @eQ5 @eQ1) ?_;refine rg ?_;refine iG ?_;refine ZeJ (s:=st) (t:=.full) (m:=0) (row2:=λ_=>[]) rfl rfl rfl rfl rfl φ φ (λg w v h=>Zgn h) trivial (by decide) (by unfold big;decide) λt1 o=>?_;refine gR0 ?_;exact hF.ret _ st rfl φ (K1 ((Zy.nil (f:=YF.cells)).le rfl)) (Yj o) ⟨rfl,rfl⟩
 skip
 refine rx (nd2 @eQ5 @eQ1) ?_;refine gA ?_;refine iG ?_;refine Y2 (st) (.full) rfl rfl rfl rfl rfl rfl φ φ rfl (by first|trivial|assumption) ω (by (unfold big;omega)) λt1 o=>Zk ?_;simp only[Eqs,reduceCtorEq,ZHV,reduceIte,ZHR,ZHY,ZHS];have u:Zy YF.cells (Yd 0 (ZI [.str [],.i 0] ([].zip [])) λi=>(l.getD i dE).cells) ([]++l):=Zy.nil.app Zy.self rfl;exact hF.ret _ st rfl φ (K1 (u.le ψ)) (Yj o) ⟨rfl,rfl⟩
def Zdn(l)(hl:I l<=big)(x):Zdy ZHP (.fn (.func 340) [] [.ptr x 0]) (I l) (λj=>[.str (l.getD j dE).field]) (ZIk x (.cells [Z4 l])):=by
 intro y go A a0 ac hA hd;have hw:=hl;unfold big at hw;refine Zf.V (first:=[]) (args:=[y]) (caps:=[.ptr x 0]) (Zh (cR 340 f340) λF hF=>?_);have hx:∀a,Z7 a (ZIk x (.cells [Z4 l]))->(a.or (ZIk x (.cells [Z4 l]))) x=sO (.cells [Z4 l]):=λa ae=>by rw[Zz (ae x _ Yt),Yt]
 generalize hT:ZIk x (.cells [Z4 l])=T at *;refine rh ?_;refine Zk ?_;simp only[Eqs,reduceCtorEq,ZHV,reduceIte,ZHR,ZHY,ZHS,hx a0 hd,Z4,slD];refine Zb (fr (I l) (λj Q=>∀a,A j a->Z7 a T->(∀i,i<j->go i=.next)->j<=I l->Q [(0,.d y),(5,.d (Z4 l)),(6,.d (.i (I l))),(7,.d (.i j))] [] (a.or T)) (λn ab=>?_) λaf=>?_)
 .clear hA hd;intro j hn a hA hd t hj;refine rx (nd2 @eQ5 @eQ1) ?_;refine Zd (Zj rfl trivial (λh1=>?_) (λh1=>?_))
  .simp at h1;generalize hg:l.getD j dE=g at *;refine xA (nd2 @eQ8 (nd2 @eQ5 (nd2 @eQ1 @hg))) ?_;refine rg ?_;have r:=(ac j h1 t a hA).frame hd;simp only[hg]at r;refine vV (r) ?_ ?_
   .rintro d S ⟨s',⟨hr,u⟩,ad,rfl⟩;cases o:go j with
    |next =>rw[o]at hr;cases hr;refine gR0 ?_;refine i0 ?_;refine gA ?_;refine Za ?_;exact ab ((I l)-(j+1)) ω (j+1) rfl s' u ad (ZV (q:=λi=>go i=.next) t o) ω
    |stop c =>rw[o]at hr;cases hr;refine gR0 ?_;refine i1 ?_;exact hF.ret (.tup []) _ rfl trivial (ZHT _) ZHU ⟨s',.stop j c h1 t o u,KK⟩
    |pan d=>rw[o]at hr;cases hr
   rintro d S ⟨s',⟨hr,u⟩,ad,rfl⟩;cases o:go j with
   |pan d' =>rw[o]at hr;cases hr;exact hF.pan _ ZHU ⟨s',.pan j d h1 t o u,KK⟩
   |next=>rw[o]at hr;cases hr
   |stop c=>rw[o]at hr;cases hr
  simp at h1;obtain rfl:j=I l:=ω;refine ZG rfl ?_;exact hF.fin (.tup []) _ rfl trivial (ZHT _) ZHU ⟨a,.all t hA,KK⟩
 exact af _ 0 rfl a0 hA hd (by intro i hi;omega) ω
def ZaQ{s}(h:ZU s=true):I s.terms<=4:=by
 unfold ZU at h;simp only[ZH1,decide_eq_true_eq]at h;exact h.1.2
def ZeD(s)(o:ZU s=true){st}:Zf ZHP 321 [.agg s.cells] st (λr S=>∃x,st x=nO/\r=.ret (.fn (.func 340) [] [.ptr x 0])/\S=st.or (ZIk x (.cells [Z4 s.terms]))):=by
 have hfew:=ZaQ o;refine Zh (cR 321 f321) λF hF=>?_;refine rx @eQ7 ?_;refine rg ?_;refine rx @eQ7 ?_;refine cX @o (Zcm s) ?_;refine i1 ?_;refine rx @eQ7 ?_;have u:=(ZiD s.terms ω st);refine cV (u) ?_ ?_;rintro d S ⟨i,rfl⟩;cases i;refine gR0 ?_;refine⟨rfl,?_⟩;refine Zd ?_;refine ZgJ 3 rfl λx t=>?_;simp only[Eqs,reduceCtorEq,ZHV,reduceIte,ZHR,ZHY,ZHS,Zax,ZcI,delL];refine rg ?_;exact hF.ret _ _ rfl φ (ZHT _) ZHU ⟨x,t,rfl,QD t⟩;rintro d S ⟨i,_⟩;cases i
def QT(r:Int×Int):D:=.agg [.i r.1,.i r.2]
abbrev Zyd:=List (Str×(Int×Int))
abbrev Zb6(l:Zyd):List (D×D):=Kc K5 QT l
def Zn{b c o}(h:(s.upd b o) c=nO):c≠b/\s c=nO:=by
 have:c≠b:=λe=>by rw[e,ZHW]at h;simp at h
 exact⟨this,by rw[ZH0 _ _ this]at h;exact h⟩
def Zky(r):Zc ZHP 386 [QT r] (.bool (!Jh r)):=by
 refine Ze (cR 386 f386) λF st i=>?_;refine rx @QT.eq_1 ?_;refine rg ?_;refine cl ZqJ ?_;refine rb i ?_;unfold Jh;rw[Bool.not_or,Bool.not_or,<-decide_not,<-decide_not,<-decide_not];simp only[Int.not_lt,Int.not_le,Bool.and_assoc]
def ckS(st:St)(b5 b6 b7 b8 b9 b:Nat)(rc:Int)(nn:Bool):St :=
 ((((st.upd b5 (.cells [.str []])).upd b6 (.cells [.map b])).upd b7 (.cells [.fn (.func 386) [] []])).upd b8 (.cells [.i rc])).upd b9 (.cells [.bool nn])
structure WI(st:St)(b5 b6 b7 b8 b9:Nat):Prop where
 n5:st b5=none
 n6:b6≠b5/\st b6=none
 n7:b7≠b6/\b7≠b5/\st b7=none
 n8:b8≠b7/\b8≠b6/\b8≠b5/\st b8=none
 n9:b9≠b8/\b9≠b7/\b9≠b6/\b9≠b5/\st b9=none
section
variable {st:St} {b5 b6 b7 b8 b9 b:Nat} {rc:Int} {nn:Bool}
def WI.g5(h:WI st b5 b6 b7 b8 b9):(ckS st b5 b6 b7 b8 b9 b rc nn) b5=sO (.cells [.str []]):=by
 simp[ckS,St.upd,h.n6.1.symm,h.n7.2.1.symm,h.n8.2.2.1.symm,h.n9.2.2.2.1.symm]
def WI.g6(h:WI st b5 b6 b7 b8 b9):(ckS st b5 b6 b7 b8 b9 b rc nn) b6=sO (.cells [.map b]):=by
 simp[ckS,St.upd,h.n7.1.symm,h.n8.2.1.symm,h.n9.2.2.1.symm]
def WI.g7(h:WI st b5 b6 b7 b8 b9):(ckS st b5 b6 b7 b8 b9 b rc nn) b7=sO (.cells [.fn (.func 386) [] []]):=by
 simp[ckS,St.upd,h.n8.1.symm,h.n9.2.1.symm]
def WI.g8(h:WI st b5 b6 b7 b8 b9):(ckS st b5 b6 b7 b8 b9 b rc nn) b8=sO (.cells [.i rc]):=by
 simp[ckS,St.upd,h.n9.1.symm]
def WI.g9:(ckS st b5 b6 b7 b8 b9 b rc nn) b9=sO (.cells [.bool nn]):=by
 simp[ckS,St.upd]
def WI.gm(h:WI st b5 b6 b7 b8 b9){o}(i:st b=sO o):(ckS st b5 b6 b7 b8 b9 b rc nn) b=sO o:=by
 have r:b≠b5:=λe=>by rw[e,h.n5]at i;simp at i
 have t:b≠b6:=λe=>by rw[e,h.n6.2]at i;simp at i
 have u:b≠b7:=λe=>by rw[e,h.n7.2.2]at i;simp at i
 have h8:b≠b8:=λe=>by rw[e,h.n8.2.2.2]at i;simp at i
 have h9:b≠b9:=λe=>by rw[e,h.n9.2.2.2.2]at i;simp at i
 simp[ckS,St.upd,r,t,u,h8,h9,i]
def WI.s8(h:WI st b5 b6 b7 b8 b9)(rc'):(ckS st b5 b6 b7 b8 b9 b rc nn).upd b8 (.cells [.i rc'])=ckS st b5 b6 b7 b8 b9 b rc' nn:=by
 unfold ckS;rw[St.upd_comm _ _ h.n9.1.symm,ZH7]
def WI.s9(nn'):(ckS st b5 b6 b7 b8 b9 b rc nn).upd b9 (.cells [.bool nn'])=ckS st b5 b6 b7 b8 b9 b rc nn':=by
 unfold ckS;rw[ZH7]
def WI.sub(h:WI st b5 b6 b7 b8 b9):st.sub (ckS st b5 b6 b7 b8 b9 b rc nn):=λc o i=>by
 have r:c≠b5:=λe=>by rw[e,h.n5]at i;simp at i
 have t:c≠b6:=λe=>by rw[e,h.n6.2]at i;simp at i
 have u:c≠b7:=λe=>by rw[e,h.n7.2.2]at i;simp at i
 have h8:c≠b8:=λe=>by rw[e,h.n8.2.2.2]at i;simp at i
 have h9:c≠b9:=λe=>by rw[e,h.n9.2.2.2.2]at i;simp at i
 simp[ckS,St.upd,r,t,u,h8,h9,i]
end
def Zk0{st t b5 b6 b7 b8 b9 b rc r nn i}(h:Z7 (ckS st b5 b6 b7 b8 b9 b rc nn) t):Z7 (ckS st b5 b6 b7 b8 b9 b r i) t:=λc o hc=>by
 have:=h c o hc;unfold ckS at this⊢;have k9:=Zn this;have u:=Zn k9.2;rw[ZH0 _ _ k9.1,ZH0 _ _ u.1];exact u.2
def Zr5{st b5 b6 b7 b8 b9 b rc nn}(h:WI st b5 b6 b7 b8 b9){H L}(hρ:Z9 H 8=sO (.d (.ptr b8 0)):=by rfl):
  YP H L (ckS st b5 b6 b7 b8 b9 b rc nn) [.cell1 8]=sO (True/\True,[.i rc]):=by
 simp[YP,K7,hρ,Kj,Yq,h.g8]
def Zhk{α:Type}[Inhabited α]{p}{l:List α}(h:∀i,i<I l->p (l.getD i dE)=false):l.any p=false:=by
 apply List.any_eq_false.2;intro x r;obtain⟨i,o,rfl⟩:=ZIc r;have:=h i o;simpa[ZH6,o]using this
def ZkM{s j}(h:ZU s=true)(hj:j<I s.terms):(s.terms.getD j dE).field≠[]:=by
 unfold ZU at h;simp only[ZH1]at h;have o:=ZdU s.terms s.terms 0 rfl ω;simp only[List.take_zero,List.map_nil,Nat.zero_add]at o;rw[o]at h;have u:((ZH5 (I s.terms)).any λi=>dC ((s.terms.getD i dE).field∈(s.terms.take i).map (·.field))||!Qe (s.terms.getD i dE))=false:=by simpa using h.2
 have r:=List.any_eq_false.1 u j (by simpa using hj);simp only[ZId,not_or,Bool.not_eq_true',Bool.not_eq_false]at r;have t:=r.2;intro e;rw[Qe,e]at t;simp[Yl]at t
def ZoH(s b l st)(hb:st b=sO (.map (Zb6 l))):
  Zf ZHP 387 [.agg s.cells,.str [],.map b,.fn (.func 386) [] []] st (λr S=>r=.ret (.i (JH s (λk=>Zv k l)))/\S=st):=by
 refine Zh (cR 387 f387) λF hF=>?_;refine rx @eQ7 ?_;refine rx @eQ7 ?_;refine cl (Zcm s) ?_;refine cd (λhv=>?_) (λhv=>?_);have ag:ZU s=false:=by simpa using hv
 refine rg ?_;refine hF.ret _ st rfl φ (Zhe ?_) ZHU ⟨rfl,rfl⟩;rw[JH,if_pos ag];have ag:ZU s=true:=by simpa using hv
 refine rg ?_;refine Zd (Zd ?_);refine xP 5 λb5 h5=>?_;refine xP 6 λb6 h6=>?_;refine xP 7 λb7 h7=>?_;refine xP 8 λb8 h8=>?_;refine xP 9 λb9 h9=>?_;refine rx @eQ7 ?_;refine cV (ZeD s ag) ?_ ?_
 .rintro d S ⟨x,hx,hd,rfl⟩;cases hd;refine gR0 ?_;refine Zb ?_;have t:WI st b5 b6 b7 b8 b9:=by have k6:=Zn h6;have k7:=Zn h7;have aw:=Zn k7.2;have k8:=Zn h8;have ar:=Zn k8.2;have ax:=Zn ar.2;have k9:=Zn h9;have au:=Zn k9.2;have av:=Zn au.2;have ay:=Zn av.2;exact⟨h5,k6,⟨k7.1,aw⟩,⟨k8.1,ar.1,ax⟩,⟨k9.1,au.1,av.1,ay⟩⟩
  have hfew:=ZaQ ag;rw[show(((((st.upd b5 (.cells [.str []])).upd b6 (.cells [.map b])).upd b7 (.cells [.fn (.func 386) [] []])).upd b8 (.cells [.i 0])).upd b9 (.cells [.bool false]))=ckS st b5 b6 b7 b8 b9 b 0 false from rfl]at hx⊢;refine Qh hF rfl trivial [5,6,7,8,9] (by show([5,6,7,8,9]:List Nat).Nodup;decide) (Ko hx) (Zdn s.terms (by unfold big;omega) x).Y (λj hj=>rfl)
   (λj=>if WP (λk=>Zv k l) (s.terms.getD j dE) then .stop .ret else .next)
   (λj a=>((∀i,i<j->WP (λk=>Zv k l) (s.terms.getD i dE)=false)/\a=ckS st b5 b6 b7 b8 b9 b 0 ((s.terms.take j).any (YO λk=>Zv k l)))\/((∃nn,a=ckS st b5 b6 b7 b8 b9 b 2 nn)/\∃i,i<j/\WP (λk=>Zv k l) (s.terms.getD i dE)=true))
   (.inl ⟨λi hi=>by omega,rfl⟩) ?_ ?_ ?_ ?_ ?_ ?_
  .intro j a hj ae hB F' ready busy hdr ao ad;have ac:∀i,i<j->WP (λk=>Zv k l) (s.terms.getD i dE)=false:=λi hi=>by have:=ae i hi;split at this;simp at this;rename_i h;simpa using h
   rcases hB with ⟨_,rfl⟩|⟨_,i,hi,ah⟩
   .skip
    simp only[Eqs,reduceCtorEq,ZHV,reduceIte,ZHR,ZHY,ZHS,KG,K0,J8,Qj,List.isEmpty_nil,List.isEmpty_cons];refine rg ?_;refine ao λal=>?_;have aq:(s.terms.getD j dE).field≠[]:=ZkM ag hj;have aj:=Zh0 (p:=YO λk=>Zv k l) hj;generalize am:s.terms.getD j dE=tm at *;have e1:=YR (vD:=QT) ZS tm.field l;have e3:=Y8 ZS tm.field;simp only[show K5 tm.field=D.str tm.field from rfl]at e1 e3;cases hg:Zv tm.field l with
    |none =>
     rw[hg]at e1;have u:WP (λk=>Zv k l) tm=false:=by simp[WP,hg]
     have af:YO (λk=>Zv k l) tm=true:=by simp[YO,hg]
     rw[af,Bool.or_true]at aj;rw[if_neg (by rw[u];simp)]at ad;refine rh ?_;refine Zk ?_;simp only[Eqs,reduceCtorEq,ZHV,reduceIte,ZHR,ZHY,ZHS,Zt (t.g6 ),Zt (t.gm hb),e1,e3];refine rh ?_;refine Zk ?_;simp only[Eqs,reduceCtorEq,ZHV,reduceIte,ZHR,ZHY,ZHS,Zt (t.g5 )];refine Zj rfl trivial (λh=>by simp at h;exact absurd h aq) (λ_=>?_);refine rg ?_;refine i1 ?_;refine rh ?_;refine Zk ?_;simp only[Eqs,reduceCtorEq,ZHV,reduceIte,ZHR,ZHY,ZHS,Zt (WI.g9 ),W5,WI.s9];refine Zi (Zi ?_);exact ad.fin ⟨rfl,.inl ⟨ZV (q:=λi=>WP (λk=>Zv k l) (s.terms.getD i dE)=false) ac (by rw[am];exact u),by rw[aj]⟩⟩ (Zk0 al) ZHU
    |some r =>
     rw[hg]at e1;have u:WP (λk=>Zv k l) tm=Jh r:=by simp[WP,hg]
     have af:YO (λk=>Zv k l) tm=false:=by simp[YO,hg]
     rw[af,Bool.or_false]at aj;refine rh ?_;refine Zk ?_;simp only[Eqs,reduceCtorEq,ZHV,reduceIte,ZHR,ZHY,ZHS,Zt (t.g6 ),Zt (t.gm hb),e1,e3,QT];refine rh ?_;refine Zk ?_;simp only[Eqs,reduceCtorEq,ZHV,reduceIte,ZHR,ZHY,ZHS,Zt (t.g5 )];refine Zj rfl trivial (λh=>by simp at h;exact absurd h aq) (λ_=>?_);refine gI ?_;refine rh ?_;refine Zk ?_;simp only[Eqs,reduceCtorEq,ZHV,reduceIte,ZHR,ZHY,ZHS,Zt (t.g7 )];refine cl (Zky r) ?_;refine cd (λhr=>?_) (λhr=>?_);have ai:Jh r=true:=by simpa using hr
     rw[if_pos (by rw[u];exact ai)]at ad;refine rh ?_;refine Zk ?_;simp only[Eqs,reduceCtorEq,ZHV,reduceIte,ZHR,ZHY,ZHS,Zt (t.g8 ),W5,t.s8];exact ad.ret ⟨rfl,.inr ⟨⟨_,rfl⟩,j,ω,by rw[am,u];exact ai⟩⟩ (Zk0 al) ZHU;have ai:Jh r=false:=by simpa using hr
     rw[if_neg (by rw[u,ai];simp)]at ad;refine Zo (Zi (Zi ?_));exact ad.fin ⟨rfl,.inl ⟨ZV (q:=λi=>WP (λk=>Zv k l) (s.terms.getD i dE)=false) ac (by rw[am,u];exact ai),by rw[aj]⟩⟩ al ZHU
   rw[ac i hi]at ah;simp at ah
  intro q a ae hB hq;have ac:∀i,i<I s.terms->WP (λk=>Zv k l) (s.terms.getD i dE)=false:=λi hi=>by have:=ae i hi;split at this;simp at this;rename_i h;simpa using h
  rcases hB with ⟨_,rfl⟩|⟨_,i,hi,ah⟩;rw[ZIb]at hq⊢;have ak:s.terms.any (WP λk=>Zv k l)=false:=Zhk ac;have hI:=JH.eq_1 s λk=>Zv k l;rw[if_neg (by rw[ag];simp),if_neg (by rw[ak];simp)]at hI;rw[QD hq];have ap:=Ko (o:=JW.dfr) hq;generalize s.terms.any (YO λk=>Zv k l)=nn at *;refine rh ?_;refine Zk ?_;simp only[Eqs,reduceCtorEq,ZHV,reduceIte,ZHR,ZHY,ZHS,Zt (WI.g9 )];refine cd (λhn=>?_) (λhn=>?_);rw[if_pos hn]at hI;refine rh ?_;refine Zk ?_;simp only[Eqs,reduceCtorEq,ZHV,reduceIte,ZHR,ZHY,ZHS,Zt (t.g8 ),W5,t.s8];exact hF.ret1 (ZjD (Zk0 ap) Yt) (.i 9) st (Zr5 t) ⟨trivial,trivial⟩ (ZHT _) t.sub ⟨by rw[hI],rfl⟩;rw[if_neg (by rw[hn];simp)]at hI;refine rh ?_;refine Zk ?_;simp only[Eqs,reduceCtorEq,ZHV,reduceIte,ZHR,ZHY,ZHS,Zt (t.g8 ),W5,t.s8];exact hF.ret1 (ZjD (Zk0 ap) Yt) (.i 0) st (Zr5 t) ⟨trivial,trivial⟩ (ZHT _) t.sub ⟨by rw[hI],rfl⟩;rw[ac i hi]at ah;simp at ah;intro q a m hm ae ab hB hq;have ac:∀i,i<m->WP (λk=>Zv k l) (s.terms.getD i dE)=false:=λi hi=>by have:=ae i hi;split at this;simp at this;rename_i h;simpa using h
  have u:WP (λk=>Zv k l) (s.terms.getD m dE)=true:=by split at ab;rename_i h;exact h;simp at ab
  rcases hB with ⟨an,_⟩|⟨⟨nn,rfl⟩,_⟩;rw[an m ω]at u;simp at u;have ak:s.terms.any (WP λk=>Zv k l)=true:=ZrW hm u;have hI:=JH.eq_1 s λk=>Zv k l;rw[if_neg (by rw[ag];simp),if_pos ak]at hI;rw[QD hq];exact hF.ret1 hq (.i 2) st (Zr5 t) ⟨trivial,trivial⟩ (ZHT _) t.sub ⟨by rw[hI],rfl⟩;intro q a m id hm ae ab;split at ab<;>simp at ab;intro q a m d hm ae ab;split at ab<;>simp at ab;intro m c ab;split at ab<;>simp at ab;exact .inl ab.symm
 rintro d S ⟨x,hx,hd,rfl⟩;cases hd
def QR(v:YF->Int):List YF->Int
 | []=>0
 |t::r=>t.factor*v t+QR v r
def ZqM{v}{l:List YF}{i}(h:i<I l):QR v (l.take (i+1))=QR v (l.take i)+(l.getD i dE).factor*v (l.getD i dE):=by
 rw[ZQ h];generalize l.getD i dE=x;induction l.take i with
 |nil=>simp[QR]
 |cons y r ih=>simp only[List.cons_append,QR,ih];omega
def ZjZ{a b}(i:-1048576<=a/\a<=1048576)(o:0<=b/\b<34359738368):-36028797018963968<=a*b/\a*b<=36028797018963968:=by
 have h1:a*b<=1048576*b:=Int.mul_le_mul_of_nonneg_right i.2 o.1;have h2:-1048576*b<=a*b:=Int.mul_le_mul_of_nonneg_right i.1 o.1;omega
def ZiP{v l}(h:∀t∈l,(-1048576<=t.factor/\t.factor<=1048576)/\0<=v t/\v t<34359738368):-36028797018963968*(I l:Int)<=QR v l/\QR v l<=36028797018963968*(I l:Int):=by
 induction l with
 |nil=>simp[QR]
 |cons t r ih =>have h1:=ih λx i=>h x (by simp[i]);have h2:=ZjZ (h t ψ).1 (h t ψ).2;simp only[QR,ZH3];generalize t.factor*v t=y at *;omega
def ZgD{s}(h:ZU s=true):(-1048576<=s.base/\s.base<=1048576)/\∀t∈s.terms,-1048576<=t.factor/\t.factor<=1048576:=by
 unfold ZU at h;simp only[ZH1]at h;refine⟨by have:=h.1.1;simpa[Jk]using this,λt ht=>?_⟩;have r:=ZdU s.terms s.terms 0 rfl ω;simp only[List.take_zero,List.map_nil,Nat.zero_add]at r;rw[r]at h;have h2:((ZH5 (I s.terms)).any λi=>dC ((s.terms.getD i dE).field∈(s.terms.take i).map (·.field))||!Qe (s.terms.getD i dE))=false:=by simpa using h.2
 obtain⟨j,hj,rfl⟩:=ZIc ht;have u:=List.any_eq_false.1 h2 j (by simpa using hj);simp only[ZId,not_or,Bool.not_eq_true',Bool.not_eq_false]at u;have o:=u.2;unfold Qe at o;simp only[ZH1]at o;have h5:=o.2;simpa[Jk,ZH6,hj]using h5
def ZhI(s)(hv:ZU s=true){f}(v){st}(hb:∀t∈s.terms,0<=v t/\v t<34359738368)(hf:∀t∈s.terms,VT ZHP f [.agg t.cells] st (.i (v t)) st):
  ZL ZHP 294 [.agg s.cells,f] st (.i (s.base+QR v s.terms)) st:=by
 refine ZE (cR 294 f294) λaf F u=>?_;clear af;have hfew:=ZaQ hv;have ab:=ZgD hv;refine rx (nd2 @eQ7 (nd2 @eQ5 @eQ1)) ?_;refine rx @eQ7 ?_;refine rx (nd2 @eQ7 (nd2 @eQ5 @eQ1)) ?_;refine Zb (fr (I s.terms) (λj Q=>j<=I s.terms->Q [(1,.d f),(5,.d (.i (s.base+QR v (s.terms.take j)))),(11,.d (Z4 s.terms)),(12,.d (.i (I s.terms))),(13,.d (.i j))] [] st) (λn r=>?_) λag=>?_);intro j hn hj;refine rg ?_;refine Zd (Zj rfl trivial (λh1=>?_) (λh1=>?_));simp at h1;have i:=Zr h1;have ad:=ZqM (v:=v) h1;have ac:=ZiP (v:=v) (l:=s.terms.take j) λt ht=>⟨ab.2 t (List.mem_of_mem_take ht),hb t (List.mem_of_mem_take ht)⟩;rw[ZIa]at ac;generalize ae:s.terms.getD j dE=tm at *;have hmb:=ZjZ (ab.2 tm i) (hb tm i);refine xA (nd2 @eQ8 (nd2 @eQ5 (nd2 @eQ1 @ae))) ?_;refine rx @eQ8 ?_;refine cWD (hf tm i) ?_;generalize hmv:tm.factor*v tm=mv at *;refine aa ?_;refine gA ?_;refine Za ?_;have o:=r ((I s.terms)-(j+1)) ω (j+1) rfl ω;rw[ad,<-Int.add_assoc]at o;exact o;simp at h1;obtain rfl:j=I s.terms:=ω;rw[ZIb];refine rg ?_;exact u rfl φ (ZHT _) ZHU;have hk:=ag _ 0 rfl ω;rw[List.take_zero,show QR v []=0 from rfl,Int.add_zero]at hk;exact hk
def Zev(look:Zbf)(least:Bool)(t:YF):Int:=if least=dC (0<t.factor) then (Jt look t).1 else (Jt look t).2
def ZAP(look l):QR (Zev look true) l=loS look l:=by
 induction l with
 |nil=>rfl
 |cons t r ih =>simp only[QR,loS,ih,loT,Zev];by_cases h:0<t.factor<;>simp[h]
def ZAO(look l):QR (Zev look false) l=hiS look l:=by
 induction l with
 |nil=>rfl
 |cons t r ih =>simp only[QR,hiS,ih,hiT,Zev];by_cases h:0<t.factor<;>simp[h]
def Zqv(o:Option (Int×Int)):WU (.agg [.i 0,.i 0]) false (o.map QT)=.agg [.i (o.getD (0,0)).1,.i (o.getD (0,0)).2]:=by cases o<;>rfl
def ZiC(t l least b x y){st}(hb:st b=sO (.map (Zb6 l)))(hx:st x=sO (.cells [.map b]))(hy:st y=sO (.cells [.bool least])):
  ZL ZHP 389 [.agg t.cells,.ptr x 0,.ptr y 0] st (.i (Zev (λk=>Zv k l) least t)) st:=by
 refine ZE (cR 389 f389) λo F i=>?_;clear o;have r:=YR (vD:=QT) ZS t.field l;have u:=Y8 ZS t.field;simp only[show K5 t.field=D.str t.field from rfl]at r u;refine rx @eQ8 ?_;refine rh ?_;refine Zk ?_;simp only[Eqs,reduceCtorEq,ZHV,reduceIte,ZHR,ZHY,ZHS,hx,hb,r,u,Zqv];refine rx @hy ?_;refine cd (λh1=>?_) (λh1=>?_);refine rg ?_;refine i rfl φ (Zhe ?_) ZHU;unfold Zev Jt;rw[if_pos (by simpa using h1)];refine rh ?_;refine Zk ?_;simp only[Eqs,reduceCtorEq,ZHV,reduceIte,ZHR,ZHY,ZHS,hx,hb,r,u,Zqv];refine i rfl φ (Zhe ?_) ZHU;unfold Zev Jt;rw[if_neg (by simpa using h1)]
def ZyV{s look}(h:JH s look=0):ZU s=true/\∀t∈s.terms,∀i,0<=Zev look i t/\Zev look i t<34359738368:=by
 unfold JH at h;split at h;· omega
 rename_i hv;split at h;· omega
 rename_i u;refine⟨by simpa using hv,λt ht i=>?_⟩;have o:WP look t=false:=by
  cases hx:WP look t with
  |false=>rfl
  |true=>exact absurd (List.any_eq_true.2 ⟨t,ht,hx⟩) u
 unfold WP at o;unfold Zev Jt;cases hl:look t.field with
 |none=>simp
 |some r =>rw[hl]at o;simp only[Jh,Bool.or_eq_false_iff,decide_eq_false_iff_not]at o;simp only[ZIr];split<;>omega
def Zeo(s l least b x y){st}(he:JH s (λk=>Zv k l)=0)(hb:st b=sO (.map (Zb6 l)))(hx:st x=sO (.cells s.cells))(hy:st y=sO (.cells [.map b])):
  ZL ZHP 388 [.bool least,.ptr x 0,.ptr y 0] st (.i (s.base+QR (Zev (λk=>Zv k l) least) s.terms)) st:=by
 refine ZE (cR 388 f388) λu F o=>?_;clear u;have i:=ZyV he;refine rg ?_;refine Zd ?_;refine xP 3 λz hz=>?_;have r:b≠z:=λe=>by rw[e,hz]at hb;simp at hb
 have ac:x≠z:=λe=>by rw[e,hz]at hx;simp at hx
 have ad:y≠z:=λe=>by rw[e,hz]at hy;simp at hy
 have ab:(st.upd z (.cells [.bool least])) x=sO (.cells s.cells):=by rw[ZH0 _ _ ac];exact hx
 refine rx (nd2 @ab @eQ7) ?_;refine ZaA rfl rfl rfl rfl rfl φ φ (by exact ZhI s i.1 (Zev (λk=>Zv k l) least) (λt ht=>i.2 t ht least) (λt ht=>(ZiC t l least b y z (by rw[ZH0 _ _ r];exact hb) (by rw[ZH0 _ _ ad];exact hy) (ZHW _ _ _)).VT (first:=[]) (args:=[_]) (caps:=[_,_]))) (Zk ?_);simp only[Eqs,reduceCtorEq,ZHV,reduceIte,ZHR,ZHY,ZHS];exact o rfl φ (ZHT _) (ZIg _ hz)
def Zm7(s b l){st}(hb:st b=sO (.map (Zb6 l))):
  Zf ZHP 382 [.agg s.cells,.map b] st (λr S=>r=.ret (.tup [QT ((YU s λk=>Zv k l).1,(YU s λk=>Zv k l).2.1),.i (YU s λk=>Zv k l).2.2])/\S=st):=by
 refine Zh (cR 382 f382) λF hF=>?_;have hI:=YU.eq_1 s λk=>Zv k l;refine rx @eQ7 ?_;refine rg ?_;refine rx @eQ7 ?_;refine cV (ZoH s b l st hb) ?_ ?_;rintro d S ⟨hd,rfl⟩;cases hd;refine gR0 ?_;refine rg ?_;refine cd (λh1=>?_) (λh1=>?_);have i:¬JH s (λk=>Zv k l)=0:=by simpa using h1
 rw[if_neg i]at hI;refine rg ?_;refine hF.ret _ S rfl φ (Zab ?_ rfl) ZHU ⟨rfl,rfl⟩;rw[hI];rfl;have i:JH s (λk=>Zv k l)=0:=by simpa using h1
 rw[if_pos i]at hI;refine Zo (Zd ?_);refine xP 2 λx hx=>?_;refine xP 3 λy hy=>?_;have ab:b≠x:=λe=>by rw[e,hx]at hb;simp at hb
 have u:=Zn hy;have ac:b≠y:=λe=>by rw[e,u.2]at hb;simp at hb
 have o:((S.upd x (.cells s.cells)).upd y (.cells [.map b])) b=sO (.map (Zb6 l)):=by rw[ZH0 _ _ ac,ZH0 _ _ ab];exact hb
 have t:((S.upd x (.cells s.cells)).upd y (.cells [.map b])) x=sO (.cells s.cells):=by rw[ZH0 _ _ u.1.symm];exact ZHW _ _ _
 refine gG ?_;refine cW ((Zeo s l true b x y i o t (ZHW _ _ _)).VT (first:=[]) (args:=[_]) (caps:=[_,_])) ?_;refine cW ((Zeo s l false b x y i o t (ZHW _ _ _)).VT (first:=[]) (args:=[_]) (caps:=[_,_])) ?_;refine hF.ret _ S rfl (by first|trivial|simp) (Zab ?_ rfl) (ZIu (ZIg _ hx) (ZIg _ hy)) ⟨rfl,rfl⟩;rw[hI,ZAP,ZAO];rfl;rintro d S ⟨hd,_⟩;cases hd
def Zfc(o:Option Int):WU (.i 0) false (o.map Y7)=.i (o.getD 0):=by cases o<;>rfl
abbrev KB(l:List (Str×Int)):List (D×D):=Kc K5 Y7 l
def inC(n:Int):List D:=[.i n]
end Go.DL
namespace Go.DL
open Go
structure Hdr where
 name:Str
 text:Str
deriving Inhabited,DecidableEq
def Hdr.cells(h:Hdr):List D:=[.str h.name,.str h.text]
def Zx(l:List Hdr):D:=slD 2 Hdr.cells l
def u8C(b:UInt8):List D:=[.int .u8 b.toNat]
def Zg(b:Str):D:=slD 1 u8C b
inductive Val where
 |mk (name:Str) (int:Int) (bytes:Str) (hdrs:List Hdr) (parts:List Val)
namespace Val
def name:Val->Str
 |mk n _ _ _ _=>n
def int:Val->Int
 |mk _ i _ _ _=>i
def bytes:Val->Str
 |mk _ _ b _ _=>b
def hdrs:Val->List Hdr
 |mk _ _ _ h _=>h
def parts:Val->List Val
 |mk _ _ _ _ p=>p
end Val
instance:Inhabited Val:=⟨.mk [] 0 [] [] []⟩
def Zzr:List D:=[.str [],.i 0,Zg [],Zx [],.nilsl]
mutual
def Val.cells:Val->List D
 |.mk n i b h p=>[.str n,.i i,Zg b,Zx h,.sl .none (I p) 5 λj=>(Val.cellsL p).getD j Zzr]
def Val.cellsL:List Val->List (List D)
 | []=>[]
 |v::r=>v.cells::Val.cellsL r
end
def Val.cellsL_get:∀(l j),j<I l->(Val.cellsL l).getD j Zzr=(l.getD j dE).cells
 | [],j,h=>absurd h (Nat.not_lt_zero _)
 |v::r,0,_=>rfl
 |v::r,j+1,h=>by have:=cellsL_get r j (by simpa using h);simpa[Val.cellsL]using this
def Za8(p:List Val)(j:Nat):List D:=(Val.cellsL p).getD j Zzr
def ZcP{p j}(h:j<I p):Za8 p j=(p.getD j dE).cells:=Val.cellsL_get p j h
def Zu(p:List Val):D:=.sl .none (I p) 5 (Za8 p)
def Val.cellsL_len:∀l:List Val,(Val.cellsL l).length=I l
 | []=>rfl
 |v::r=>by simp[Val.cellsL,cellsL_len r]
def Val.cells_eq(v:Val):v.cells=[.str v.name,.i v.int,Zg v.bytes,Zx v.hdrs,Zu v.parts]:=by
 cases v;rfl
def Val.len(v:Val):I v.cells=5:=by rw[Val.cells_eq];rfl
def Val.ind{p:Val->Prop}(h:∀v:Val,(∀x∈v.parts,p x)->p v)(v):p v:=by
 have i:∀n:Nat,∀v:Val,SizeOf.sizeOf v<n->p v:=by
  intro n;induction n with
  |zero=>intro v h;omega
  |succ n ih =>
   intro v hv;refine h v λx o=>ih x ?_;have h1:SizeOf.sizeOf x<SizeOf.sizeOf v.parts:=List.sizeOf_lt_of_mem o;have h2:SizeOf.sizeOf v.parts<SizeOf.sizeOf v:=by cases v;simp[Val.parts];omega
   omega
 exact i _ v (Nat.lt_succ_self _)
def YX{l i}(h:i<I l):Za8 l i=[.str (l.getD i dE).name,.i (l.getD i dE).int,Zg (l.getD i dE).bytes,Zx (l.getD i dE).hdrs,Zu (l.getD i dE).parts]:=by rw[ZcP h,Val.cells_eq]
def ZAH(l i):∃x y b h p,Za8 l i=[.str x,.i y,Zg b,Zx h,p]/\(i<I l->x=(l.getD i dE).name/\y=(l.getD i dE).int/\b=(l.getD i dE).bytes/\h=(l.getD i dE).hdrs/\p=Zu (l.getD i dE).parts):=by
 by_cases o:i<I l;exact⟨_,_,_,_,_,YX o,λ_=>⟨rfl,rfl,rfl,rfl,rfl⟩⟩;refine⟨[],0,[],[],.nilsl,?_,λh=>absurd h o⟩;unfold Za8;rw[List.getD_eq_getElem?_getD,ZIz (by rw[Val.cellsL_len];omega)];rfl
end Go.DL
namespace Go.DL
open Go
variable [Zo5]
variable {kp:Option (List Nat)}{L:Loc}{H:Env}{s:St}{w:World}{os:List DOp}{ds:List D}{B:List (Nat × Rd)}{dst:Option Nat}{tmps:Array Value}{g:G}{Φ:Res->St->Prop}{Z:Nat->Nat}{xs:List Opd}{side:Prop}{row:Nat->List D}
variable {P:Program}
def ZCf{k i:IntKind}{a b:Int}(h:0<=b):ZgH .shl k i a b=sO (k.wrap (QQ k a b)):=if_pos h
def ZAd{op s x y}(h:ck P op=sO (.copy s x y)):
  ∃x' y' t u t1 e,op=.call ⟨.builtin .copy,t,u⟩/\t.toList=[x',y']/\u[0]?=sO t1/\P.underlying t1=sO (.slice e)/\ZX P e=sO s/\Z6 x'=sO x/\Z6 y'=sO y/\0<s:=by
 unfold ck at h;split at h;simp at h;split at h<;>(try(simp at h;done));all_goals (try(repeat' (split at h<;>(try(simp at h;done)))))
 all_goals
  simp only[ZHQ,K.copy.injEq]at h;obtain⟨rfl,rfl,rfl⟩:=h
 rename_i c _ _ i _ _ e x' y' h1 o _ _ _ s' x1 y1 hs hx hy r;obtain⟨t1,g1,g2⟩:=Option.bind_eq_some_iff.1 h1;obtain⟨callee,t,u⟩:=c;simp only at i;subst i;exact⟨x',y',t,u,t1,e,rfl,o,g1,g2,hs,hx,hy,of_decide_eq_true r⟩
def Zux{F:Fr P}{kp dk o os H L s}(hg:Zw H o.guard=sO true){sz x y}(hk:o.k=.copy sz x y){p q b off n cap m row2 dy cs}(hx:ZH H true x=sO (p,.d (.msl b off n cap sz)))(hy:ZH H true y=sO (q,.d dy))(hp:p)(hq:q)(hcs:Yq s b=sO cs)(hlen:off+n*sz<=I cs)(hel:J6 P s sz dy m row2)(hmn:m<=n)(h:DO F kp dk os (putE H o.dst (.d (.i m))) L (s.upd b (.cells (ZF cs off ((ZH5 m).flatMap row2))))):DO F kp dk (o::os) H L s:=by
 refine WN λoo g Z w tmps ba i r k ay aj bc af hd hN M hr au=>?_;have hw:=Yo M bc hg;have ax:=Yu aj (by rw[hk];rfl);rw[hk]at aj;obtain⟨x',y',an,ao,t1,e,bg,ai,ap,a9,al,bk,bl,h0⟩:=ZAd aj;have az:Rep g w _ (.msl b off n cap sz):=Yh M bk rfl hx hp F.ds;have a0:Rep g w _ _:=Yh M bl rfl hy hq F.ds;have a7:s b=sO (.cells cs):=by unfold Yq at hcs;split at hcs<;>simp only[ZHQ,reduceCtorEq]at hcs;subst hcs;assumption
 obtain⟨ah,ad,aw⟩:=hel _ _ _ M.st a0 h0;have bb:an = #[x',y']:=by apply Array.ext';simpa using ai
 obtain⟨ie,ar,ak⟩:∃ie,P.info? e=sO ie/\ie.size=sz:=by
  unfold ZX at al;cases hi:P.info? e with
  |none=>simp[hi]at al
  |some ie=>exact⟨ie,rfl,by simpa[hi]using al⟩
 generalize bi:(Act.mk tmps F.ds).eval x'=vx at az;generalize bj:(Act.mk tmps F.ds).eval y'=vy at a0 aw;have ab:∀v' w',(Builtin.copy_ ao oo.type #[vx,vy]).run P w=.ok v' w'->(execOp (Act.mk tmps F.ds).eval oo).run P w=.ok (.value v') w':=λv' w' a6=>by unfold execOp;simp only[bg,bb,resolve,invoke,builtin,Sem.run_bind,Sem.run_pure,Result.andThen_ok,List.map_toArray,ZIo,List.map_nil,bi,bj,a6]
 subst ak;have be:=Zcq ad.rlen m (ZH9 _);obtain⟨av,ac⟩:=aw;have ac:=ac w rfl;have ag:Nat.min m n=m:=Nat.min_eq_left hmn;have aq:∀(t:Option Addr) ae w',vx=.slice t n ae->(match t with|some a=>storeCells a ah|none=>pure ()).run P w=.ok () w'->(Builtin.copy_ ao oo.type #[vx,vy]).run P w=.ok (.i m) w':=λt ae w' hv u=>by
  subst hv;cases t with
  |none=>simp at u;subst u;simp[Builtin.copy_,ap,run_underlying a9,sizeOf,typeInfo,ar,av,ac,ag,goInt]
  |some a=>simp at u;simp[Builtin.copy_,ap,run_underlying a9,sizeOf,typeInfo,ar,av,ac,ag,u,goInt]
 have u:=Zcz (P:=P) (off:=off) (QW M.st hcs) ad.flat ad.one (by rw[be];have:=ZIi ie.size hmn;omega) (M.st.kept b _ a7);obtain⟨w',a1,a2,a3,a4,a5⟩:=u;have bh:s.upd b (.cells cs)=s:=by funext c;simp only[St.upd];split<;>simp_all
 cases az with
 |msl _ _ _ _ _ hc1 hc2 =>have am:=aq _ _ w' rfl a1;have m':=M.named (o':=.cells (ZF cs off ((ZH5 m).flatMap row2))) a7 a2 a3 a4 a5;exact YS (L':=L) hN ay af hd hw ax (e:=.d (.i m)) (ab _ _ am) a2 m' (.int _ _ (by simp only[big]at hc2;exact⟨by show(-9223372036854775808:Int)<=_;omega,by show _<=(9223372036854775807:Int);omega⟩)) (h ba r k hr au)
 |mslx a =>
  obtain rfl:m=0:=ω;have bf:ah=[]:=List.eq_nil_of_length_eq_zero (by simpa using ad.len);subst bf;have am:=aq (sO a) 0 w rfl (by simp[storeCells]);have a8:ZF cs off ((ZH5 0).flatMap row2)=cs:=by simp[ZF]
  rw[a8,bh]at h;exact YS (L':=L) (s':=s) hN ay af hd hw ax (e:=.d (.i 0)) (ab _ _ am) (Ext.refl g w) M (.int _ _ ⟨by decide,by decide⟩) (h ba r k hr au)
def Zjd{F:Fr P}{kp dk o os H L s}(hg:Zw H o.guard=sO true){sz x y}(hk:o.k=.copy sz x y){p q b off n cap m row2 dy cs}(hx:ZH H true x=sO (p,.d (.msl b off n cap sz)))(hy:ZH H true y=sO (q,.d dy))(hp:p)(hq:q)(hcs:Yq s b=sO cs)(u:off+n*sz<=I cs)(hel:J6 P s sz dy m row2)(hmn:m<=n)(h:Kl F kp dk os (putE H o.dst (.d (.i m))) L (s.upd b (.cells (ZF cs off ((ZH5 m).flatMap row2))))):Kl F kp dk (o::os) H L s:=λB=>by
 refine ZcF (λe' s'=>e'=.d (.i m)/\s'=s.upd b (.cells (ZF cs off ((ZH5 m).flatMap row2)))) (by rw[hk];rfl) (λH' L' os' i r=>?_) (λe2 s2 ⟨h1,h2⟩=>by
  subst h1;subst h2;exact⟨JI,h _⟩)
 have h1:ZJ H H' (Yg x):=λt ht=>i t (by simp[ZC,hk,Yp,ht]);have h2:ZJ H H' (Yg y):=λt ht=>i t (by simp[ZC,hk,Yp,ht]);have h3:ZJ H H' (ZbZ o.guard):=λt ht=>i t (by simp[ZC,ht]);exact Zux (by rw[Wa h3];exact hg) hk (by rw[ZR h1];exact hx) (by rw[ZR h2];exact hy) hp hq hcs u hel hmn (r _ _ ⟨rfl,rfl⟩)
inductive Buf(S:St)(sz:Nat)(rows:List (List D)):D->Option Nat->Prop where
 |nil (h:rows=[]):Buf S sz rows .nilsl none
 |obj (x cap:Nat) (X:List D) (h:S x=some (.cells (rows.flatten++X))) (hX:X.length=(cap-I rows)*sz) (hc:I rows<=cap):Buf S sz rows (.msl x 0 (I rows) cap sz) (some x)
def Qg(s s':St)(ob ob':Option Nat):Prop:=(∀y o,s y=sO o->ob≠sO y->s' y=sO o/\ob'≠sO y)
def Buf.fr{s s' sz rows d ob c i}(h:Buf s sz rows d ob)(o:Qg s s' c i)(r:∀x,ob=sO x->c≠sO x):Buf s' sz rows d ob/\∀x,ob=sO x->i≠sO x:=by
 cases h with
 |nil h=>exact⟨.nil h,λx e=>by cases e⟩
 |obj x cap X h hX hc=>exact⟨.obj x cap X (o x _ h (r x rfl)).1 hX hc,λy e=>by cases e;exact(o x _ h (r x rfl)).2⟩
def Zei{sz:Nat}:∀{rows:List (List D)},(∀r∈rows,I r=sz)->I rows.flatten=I rows*sz
 | [],_=>by simp
 |r::l,h=>by rw[List.flatten_cons,ZHX,h r ψ,Zei λq i=>h q (by simp[i]),ZH3,ZIp,Nat.one_mul,Nat.add_comm]
def ZzU{P}{F:Fr P}{kp dk o os H L s}(hg:Zw H o.guard=sO true){e sz bt z x y}(hk:o.k=.append e sz bt z x y){p q row2 dy}(hx:ZH H true x=sO (p,.d .nilsl))(hy:ZH H true y=sO (q,.d dy))(hp:p)(hq:q)(hel:J6 P s sz dy 0 row2)(h:DO F kp dk os (putE H o.dst (.d .nilsl)) L s):DO F kp dk (o::os) H L s:=by
 refine WN λoo g Z w tmps a6 i r k ax u ap ae hd hN M hr aq=>?_;have hw:=Yo M ap hg;have au:=Yu u (by rw[hk];rfl);rw[hk]at u;obtain⟨x',y',ac,al,t1,t2,tu,ay,t,am,an,a0,a1,aw,az,hz,hbb,a4,a5,h0,hzl⟩:=ZcH u;have ah:Rep g w _ .nilsl:=Yh M a4 rfl hx hp F.ds;have ai:Rep g w _ _:=Yh M a5 rfl hy hq F.ds;obtain⟨zv,hz1,hz2,hz3,ie,af,hzz⟩:=JC (g:=g) (w:=w) hz;have ab:ie.size=sz:=by simpa[ZX,af]using az
 subst ab;obtain⟨ak,ar,ag⟩:=hel _ _ _ M.st ai h0;have av:ak=[]:=List.eq_nil_of_length_eq_zero (by simpa using ar.len);subst av;have ao:ac = #[x',y']:=by apply Array.ext';simpa using t
 have ad:∀vs,Builtin.append_ al oo.type vs=Builtin.append_ #[t1,t2] oo.type vs:=λvs=>by unfold Builtin.append_;simp[am,an]
 generalize a2:(Act.mk tmps F.ds).eval x'=vx at ah;generalize a3:(Act.mk tmps F.ds).eval y'=vy at ai ag;cases ah;have aj:=Zjp (ty:=oo.type) (n:=0) (cap:=0) (base:=nO) a0 a1 aw af ag ω;exact YS (L':=L) (s':=s) hN ax ae hd hw au (e:=.d .nilsl) (by
  unfold execOp;simp only[ay,ao,resolve,invoke,builtin,Sem.run_bind,Sem.run_pure,Result.andThen_ok,List.map_toArray,ZIo,List.map_nil,ad,a2,a3,aj]) (Ext.refl g w) M Rep.nilsl (h a6 r k hr aq)
def Zuc{A X c:List D}{n}(i:A.length=n):ZF (A++X) n c=A++c++X.drop (I c):=by
 subst i;unfold ZF;rw[List.take_left,<-List.drop_drop,List.drop_left]
def ZaT{P}{F:Fr P}{kp dk o os H L s}(hg:Zw H o.guard=sO true){e sz bt z x y}(hk:o.k=.append e sz bt z x y){p q rows D0 ob m row2 dy}(hB:Buf s sz rows D0 ob)(hw:∀r∈rows,I r=sz)(hx:ZH H true x=sO (p,.d D0))(hy:ZH H true y=sO (q,.d dy))(hp:p)(hq:q)(hel:J6 P s sz dy m row2)(hb:(I rows+m)*bt<=140737488355328)(hbig:I rows+m<=big){new}(hr:(ZH5 m).map row2=new)(hw2:∀r∈new,I r=sz)(h:∀s' D1 ob1,Buf s' sz (rows++new) D1 ob1->Qg s s' ob ob1->DO F kp dk os (putE H o.dst (.d D1)) L s'):DO F kp dk (o::os) H L s:=by
 have ae:(ZH5 m).flatMap row2=new.flatten:=by rw[<-hr,List.flatMap_def]
 have t:I new=m:=by rw[<-hr];simp
 cases hB with
 |nil h0 =>
  subst h0;by_cases hm:m=0;subst hm;have ah:new=[]:=List.eq_nil_of_length_eq_zero t;subst ah;exact ZzU hg hk hx hy hp hq hel <|h s _ nO (.nil rfl) λy o' i _=>⟨i,λe=>by cases e⟩;refine ZrJ hg hk hx rfl hy hel hp hq (Nat.pos_of_ne_zero hm) (by simpa using hb) (by simpa using hbig) λc cap hc ab=>?_;have ai:I new<=cap:=ω;refine h _ _ (sO c) ?_ λy o' i _=>?_;rw[show(D.msl c 0 m cap sz)=.msl c 0 ([]++new).length cap sz by rw[List.nil_append,t]];refine .obj c cap (List.replicate ((cap-m)*sz) .any) ?_ ?_ ?_;rw[ZHW,ae,List.nil_append];rw[List.length_replicate,List.nil_append,t];rw[List.nil_append];exact ai;have:y≠c:=λe=>by rw[e,hc]at i;cases i
  exact⟨by rw[ZH0 _ _ this];exact i,λe=>this (Option.some.inj e).symm⟩
 |obj x0 cap X hb0 hX hc =>
  have ad:=Zei hw;have ac:(rows.flatten++X).length=cap*sz:=by rw[ZHX,ad,hX,<-ZIp];congr 1;omega
  refine ZzV hg hk hx hy hp hq (cs:=rows.flatten++X) (by simp only[Yq,hb0]) (by rw[ac,Nat.zero_add];exact ZIi _ hc) hel (λak=>⟨rfl,by rw[ac];exact ZIi _ ak⟩) hb hbig (λab=>?_) λc u hlt ag ab=>?_;refine h _ _ (sO x0) ?_ λy o' i af=>?_;rw[show(D.msl x0 0 (I rows+m) cap sz)=.msl x0 0 (rows++new).length cap sz by rw[ZHX,t]];refine .obj x0 cap (X.drop (I new.flatten)) ?_ ?_ (by rw[ZHX,t];exact ab);rw[ZHW,ae,Zuc ad,List.flatten_append];rw[ZIq,hX,Zei hw2,t,ZHX,t,<-Nat.sub_mul];congr 1;omega;have:y≠x0:=λe=>af (by rw[e]);exact⟨by rw[ZH0 _ _ this];exact i,λe=>this (Option.some.inj e).symm⟩;refine h _ _ (sO c) ?_ λy o' i af=>?_;rw[show(D.msl c 0 (I rows+m) u sz)=.msl c 0 (rows++new).length u sz by rw[ZHX,t]];refine .obj c u (List.replicate ((u-(I rows+m))*sz) .any) ?_ (by rw[List.length_replicate,ZHX,t]) (by rw[ZHX,t];exact ab);have aj:part (rows.flatten++X) 0 (I rows*sz)=rows.flatten:=by unfold part;rw[List.drop_zero,List.take_left' ad]
  rw[ZHW,ae,aj,List.flatten_append];have:y≠c:=λe=>by rw[e,ag]at i;cases i
  exact⟨by rw[ZH0 _ _ this];exact i,λe=>this (Option.some.inj e).symm⟩
def ZrH{P}{F:Fr P}{kp dk o fl os H L s B}(hg:Zw H o.guard=sO true){e sz bt z x y}(hk:o.k=.append e sz bt z x y){p q rows D0 ob m row2 dy}(hB:Buf s sz rows D0 ob)(hw:∀r∈rows,I r=sz)(hx:ZH H true x=sO (p,.d D0))(hy:ZH H true y=sO (q,.d dy))(hp:p)(hq:q)(hel:J6 P s sz dy m row2)(hb:(I rows+m)*bt<=140737488355328)(hbig:I rows+m<=big){new}(hr:(ZH5 m).map row2=new)(hw2:∀r∈new,I r=sz)(h:∀s' D1 ob1,Buf s' sz (rows++new) D1 ob1->Qg s s' ob ob1->ZfB false fl s s' L L B/\DOA F kp dk os (putE H o.dst (.d D1)) L s' (Ziq false fl B)):DOA F kp dk ((o,fl)::os) H L s B:=by
 refine ZcF (λe' s'=>∃D1 ob1,e'=.d D1/\Buf s' sz (rows++new) D1 ob1/\Qg s s' ob ob1) (by rw[hk];rfl) (λH' L' os' i u=>?_) (λe2 s2 ⟨D1,ob1,h1,h2,h3⟩=>by
  subst h1;exact h s2 D1 ob1 h2 h3)
 have e1:ZJ H H' (Yg x):=λt ht=>i t (by simp[ZC,hk,Yp,ht]);have e2:ZJ H H' (Yg y):=λt ht=>i t (by simp[ZC,hk,Yp,ht]);have e3:ZJ H H' (ZbZ o.guard):=λt ht=>i t (by simp[ZC,ht]);exact ZaT (by rw[Wa e3];exact hg) hk hB hw (by rw[ZR e1];exact hx) (by rw[ZR e2];exact hy) hp hq hel hb hbig hr hw2 λs' D1 ob1 h1 h2=>u _ _ ⟨D1,ob1,rfl,h1,h2⟩
def Zwp{P}{F:Fr P}{kp dk o os H L s}(hg:Zw H o.guard=sO true){e sz bt z x y}(hk:o.k=.append e sz bt z x y){p q rows D0 ob m row2 dy}(hB:Buf s sz rows D0 ob)(hw:∀r∈rows,I r=sz)(hx:ZH H true x=sO (p,.d D0))(hy:ZH H true y=sO (q,.d dy))(hp:p)(hq:q)(hel:J6 P s sz dy m row2)(hb:(I rows+m)*bt<=140737488355328)(t:I rows+m<=big){i}(hr:(ZH5 m).map row2=i)(hw2:∀r∈i,I r=sz)(h:∀u D1 ob1,Buf u sz (rows++i) D1 ob1->Qg s u ob ob1->Kl F kp dk os (putE H o.dst (.d D1)) L u):Kl F kp dk (o::os) H L s :=
 λB=>ZrH hg hk hB hw hx hy hp hq hel hb t hr hw2 λu D1 ob1 h1 h2=>⟨JI,h u D1 ob1 h1 h2 _⟩
end Go.DL
namespace Go.DL
open Go Go.Proofs
variable {kp:Option (List Nat)}{L:Loc}{H:Env}{s:St}{w:World}{os:List DOp}{ds:List D}{B:List (Nat × Rd)}{dst:Option Nat}{tmps:Array Value}{g:G}{Φ:Res->St->Prop}{Z:Nat->Nat}{xs:List Opd}{side:Prop}{row:Nat->List D}
def Zby(n t:Nat):UInt8:=UInt8.ofNat (t*2 ^ (7-n % 8))
def ZbU(b:List UInt8)(n t:Nat):List UInt8:=b.set (I b-1) (b.getD (I b-1) dE |||Zby n t)
def ZbT(b:List UInt8)(n:Nat):List UInt8:=if n % 8=0 then b++[0] else b
def putS(v:Nat):Nat->List UInt8->Nat->List UInt8
 |0,b,_=>b
 |k+1,b,n=>putS v k (ZbU (ZbT b n) n (v / 2 ^ k % 2)) (n+1)
def Zgr(v b n):putS v 0 b n=b:=rfl
def ZcN(v k b n):putS v (k+1) b n=putS v k (ZbU (ZbT b n) n (v / 2 ^ k % 2)) (n+1):=rfl
def BOk(b:List UInt8)(n:Nat):Prop:=I b=(n+7) / 8
def Zit{b n}(h:BOk b n):(ZbT b n).length=n / 8+1:=by
 unfold BOk at h;unfold ZbT;split;rw[ZHX,List.length_singleton];omega;omega
def ZsY{b n t}(h:BOk b n):BOk (ZbU (ZbT b n) n t) (n+1):=by
 have:=Zit h;unfold BOk ZbU;rw[List.length_set];omega
def Ziu{v}:∀{k b n},BOk b n->BOk (putS v k b n) (n+k)
 |0,_,_,h=>h
 |k+1,b,n,h=>by have:=Ziu (v:=v) (k:=k) (ZsY (t:=v / 2 ^ k % 2) h);rw[Nat.add_assoc,Nat.add_comm 1 k]at this;exact this
def BOk.bytes{b n}(h:BOk b n)(l:List UInt8):BOk (b++l) (n+8*I l):=by
 unfold BOk at *;rw[ZHX,h];omega
def leS(v:Nat):Nat->List UInt8
 |0=>[]
 |k+1=>UInt8.ofNat v::leS (v / 256) k
def Wb(S:St)(z:Nat)(ob:Option Nat)(b:List UInt8)(n:Nat)(rest:List D):Prop:=∃bD,S z=sO (.cells (bD::.i n::rest))/\Buf S 1 (b.map u8C) bD ob/\ob≠sO z
def WbF(z:Nat)(S:St)(ob:Option Nat)(S':St)(ob':Option Nat):Prop:=∀y o,S y=sO o->y≠z->ob≠sO y->S' y=sO o/\ob'≠sO y
def WbF.trans{z S S1 S2 ob ob1 i}(h:WbF z S ob S1 ob1)(t:WbF z S1 ob1 S2 i):WbF z S ob S2 i:=λy o hy r hn=>by
 obtain⟨u,h4⟩:=h y o hy r hn;exact t y o u r h4
def WbF.refl{z S ob}:WbF z S ob S ob:=λ_ _ o _ i=>⟨o,i⟩
def Qg.wb{z S S' ob i}(h:Qg S S' ob i):WbF z S ob S' i:=λy o t _ r=>h y o t r
def WbF.upd{z S S' ob i o}(h:WbF z S ob S' i):WbF z S ob (S'.upd z o) i:=λy o u r t=>by
 rw[ZH0 _ _ r];exact h y o u r t
def WbP(S:St)(z:Nat)(ob:Option Nat)(b:List UInt8)(n:Nat)(rest:List D)(r:Res)(S':St):Prop:=r=.ret (.tup [])/\∃ob',Wb S' z ob' b n rest/\WbF z S ob S' ob'
def JA{l:List UInt8}:∀r∈l.map u8C,I r=1:=λr i=>by
 obtain⟨x,_,rfl⟩:=List.mem_map.1 i;rfl
def Buf.upd{s sz rows d ob z o}(h:Buf s sz rows d ob)(i:ob≠sO z):Buf (s.upd z o) sz rows d ob:=by
 cases h with
 |nil h=>exact .nil h
 |obj x cap X h hX hc=>exact .obj x cap X (by rw[ZH0 _ _ λe=>i (by rw[e])];exact h) hX hc
def Buf.cell{s sz rows d ob}(h:Buf s sz rows d ob):Qy d=true:=by cases h<;>rfl
def Ja(l:List UInt8):(ZH5 (I l)).map (λi=>u8C (l.getD i dE))=l.map u8C:=by
 apply List.ext_getElem?;intro i;simp only[List.getElem?_map,List.getElem?_range,ZH6];by_cases h:i<I l;simp[h];simp[h]
def ZcS(l:List UInt8):(l.map u8C).flatten=l.map λc=>D.int .u8 c.toNat:=by
 induction l with
 |nil=>rfl
 |cons a r ih=>rw[ZIo,List.flatten_cons,ih];rfl
def Zwl{b:List UInt8}{X q}(h:q<I b):((b.map u8C).flatten++X)[q*1]?=sO (.int .u8 (b.getD q dE).toNat):=by
 rw[ZcS,Nat.mul_one,ZIm (by rw[ZH4];exact h),List.getElem?_map];simp[ZH6,h]
def ZoQ{b:List UInt8}{X q}(y:UInt8)(h:q<I b):((b.map u8C).flatten++X).take q++[.int .u8 y.toNat]++((b.map u8C).flatten++X).drop (q+1)=((b.set q y).map u8C).flatten++X:=by
 rw[ZcS,ZcS];rw[List.take_append_of_le_length (by rw[ZH4];omega),<-List.map_take,List.drop_append_of_le_length (by rw[ZH4];omega),<-List.map_drop,<-ZIh]
 congr 1
 rw[List.set_eq_take_append_cons_drop,if_pos h];simp
def ZzP(x y:UInt8):Qp .or .u8 (x.toNat:Int) (y.toNat:Int)=((x |||y).toNat:Int):=by
 have t:=x.toNat_lt;have u:=y.toNat_lt;unfold Qp;simp only;have i:(BitVec.ofInt 8 (x.toNat:Int)).toNat=x.toNat:=by rw[BitVec.toNat_ofInt];omega
 have o:(BitVec.ofInt 8 (y.toNat:Int)).toNat=y.toNat:=by rw[BitVec.toNat_ofInt];omega
 show IntKind.u8.wrap ((BitVec.ofInt 8 (x.toNat:Int) |||BitVec.ofInt 8 (y.toNat:Int)).toNat:Int)=_;rw[BitVec.toNat_or,i,o,UInt8.toNat_or];have h:=Nat.or_lt_two_pow (n:=8) t u;have r:IntKind.u8.wrap ((x.toNat |||y.toNat:Nat):Int)=((x.toNat |||y.toNat:Nat):Int) % 256:=rfl;rw[r];omega
def Zyh{n:Nat}(h:n<4611686018427387904):Qp .and .i64 (n:Int) 1=((n % 2:Nat):Int):=by
 unfold Qp;simp only;have i:(BitVec.ofInt 64 (n:Int)).toNat=n:=by rw[BitVec.toNat_ofInt];omega
 show IntKind.i64.wrap ((BitVec.ofInt 64 (n:Int) &&& BitVec.ofInt 64 1).toNat:Int)=_;rw[BitVec.toNat_and,i,show(BitVec.ofInt 64 1).toNat=1 from rfl,Nat.and_one_is_mod];have o:∀m:Nat,m<2->IntKind.i64.wrap (m:Int)=(m:Int):=λm hm=>by rcases(by omega:m=0\/m=1) with rfl|rfl<;>rfl
 exact o _ (Nat.mod_lt _ (by decide))
def Zlk{v:Nat}(hv:v<4611686018427387904)(j:Nat):WL .i64 (v:Int) (j:Int)=((v / 2 ^ j:Nat):Int):=by
 unfold WL;rw[Int.toNat_natCast,Int.fdiv_eq_ediv_of_nonneg _ (by exact_mod_cast Nat.zero_le _)];have i:((v:Int) / 2 ^ (Nat.min j 64))=((v / 2 ^ (Nat.min j 64):Nat):Int):=by push_cast;rfl
 rw[show Nat.min j IntKind.i64.bits=Nat.min j 64 from rfl,i];by_cases h:j<=64;rw[show Nat.min j 64=j from Nat.min_eq_left h];rw[show Nat.min j 64=64 from Nat.min_eq_right ω,Nat.div_eq_of_lt ω,Nat.div_eq_of_lt];have:(2:Nat) ^ 64<=2 ^ j:=Nat.pow_le_pow_right (by decide) ω;omega
def Zzh{n t}(ht:t<2):(Zby n t).toNat=t*2 ^ (7-n % 8):=by
 unfold Zby
 rw[UInt8.toNat_ofNat'];have i:∀k:Nat,k<=7->2 ^ k<=128:=λk o=>Nat.pow_le_pow_right (n:=2) (by decide) o;have:=i (7-n % 8) ω;rcases(by omega:t=0\/t=1) with rfl|rfl<;>omega
def Zu8{n t:Nat}(o:t<2):QQ .u8 (t:Int) (7-((n:Int) % 8))=((Zby n t).toNat:Int):=by
 rw[Zzh o];unfold QQ;have i:(7-((n:Int) % 8)).toNat=7-n % 8:=ω;rw[i,show Nat.min (7-n % 8) IntKind.u8.bits=7-n % 8 from Nat.min_eq_left (by show _<=8;omega)]
 push_cast
 rfl
def Zla{L s}(l):qv L s .lenL [.d (Zg l)]=sO (True,.d (.i (I l))):=rfl
def KT{S z ob b n rest}(l:List UInt8)(hb:Wb S z ob b n rest)(hn:(n:Int)+8*(I b+I l)<=100000000000):Zf ZHP 107 [.ptr z 0,Zg l] S (WbP S z ob (b++l) (n+8*I l) rest):=by
 obtain⟨bD,u,hB,o⟩:=hb;refine Zh (cR 107 f107) λF hF=>?_;refine rx @u ?_;refine ZaT rfl rfl (hB) (by exact JA) rfl rfl φ φ (.elems rfl) (by rw[ZH4];omega) (by rw[ZH4];unfold big;omega) (by exact Ja l) (by exact JA) λs1 D1 ob1 r i=>?_;have t:=(i z _ u o).1;refine gQ @t ?_;refine⟨r.cell,?_⟩;refine xA (nd2 @ZHW (nd2 @Zla @ZH7)) ?_;exact hF.fin (.tup []) _ rfl trivial (ZHT _) ZHU ⟨rfl,ob1,⟨D1,by rw[ZHW];rfl,by rw[List.map_append];exact r.upd (i z _ u o).2,(i z _ u o).2⟩,i.wb.upd⟩
def ZiU{S z ob b n rest}(v k:Nat)(hv:v<4611686018427387904)(hk:k<=1000)(hb:Wb S z ob b n rest)(hbo:BOk b n)(hn:n<=100000000000):Zf ZHP 106 [.ptr z 0,.i v,.i k] S (WbP S z ob (putS v k b n) (n+k) rest):=by
 refine Zh (cR 106 f106) λF hF=>?_;refine Zb (fr (k) (λi Q=>∀b1 n1 ob1 S1,Wb S1 z ob1 b1 n1 rest->WbF z S ob S1 ob1->BOk b1 n1->n1=n+i->putS v (k-i) b1 n1=putS v k b n->i<=k->Q [(0,.d (.ptr z 0)),(1,.d (.i v)),(2,.d (.i ((k-i:Nat):Int)))] [] S1) (λn af=>?_) λba=>?_)
 .intro i hn2 b1 n1 ob1 S1 ak ai r a0 hp hi;have ap:=ak;obtain⟨bD,ab,ac,t⟩:=ap;refine rg ?_;refine cd (λhd=>?_) (λhd=>?_)
  .simp only[decide_eq_true_eq]at hd;have ae:=Zit r;refine xA @ab ?_;rw[Int.tmod_eq_emod_of_nonneg (show 0<=(n1:Int) by omega)];refine aa ?_;refine jU [0] (λQ=>∀am S2,Wb S2 z am (ZbT b1 n1) n1 rest->WbF z S ob S2 am->Q F [(0,.d (.ptr z 0)),(1,.d (.i v)),(2,.d (.i ((k-i:Nat):Int)))] [] S2) ?_ λj1=>?_
   .intro am S2 a7 ax;obtain⟨bD2,al,au,ag⟩:=a7;obtain⟨j,hj⟩:∃j,k-i=j+1:=⟨k-i-1,ω⟩;rw[hj,ZcN]at hp;rw[hj,show((j+1:Nat):Int)=(j:Int)+1 by omega];generalize ZbT b1 n1=b2 at *;cases au with
    |nil h0 =>have:=congrArg List.length h0;rw[ZH4,ae]at this;simp at this
    |obj x cap X hx hX hc =>
     have aj:(b2.map u8C).length=n1 / 8+1:=by rw[ZH4,ae]
     generalize ah:(b2.map u8C).flatten++X=cs at hx;rw[aj]at al;have hqb:n1 / 8<=100000000000:=ω;generalize hqe:n1 / 8=q at *;have a2:((q+1:Nat):Int)-1=(q:Int):=ω;have az:((j:Int)+1)-1=(j:Int):=ω;have an:q<I b2:=ω;have aw:cs[q*1]?=sO (.int .u8 (b2.getD q dE).toNat):=by rw[<-ah];exact Zwl an
     have a4:v / 2 ^ j % 2<2:=Nat.mod_lt _ (by decide);have a6:v / 2 ^ j<4611686018427387904:=Nat.lt_of_le_of_lt (Nat.div_le_self _ _) hv;have a3:WL .i64 (v:Int) (j:Int)=((v / 2 ^ j:Nat):Int):=Zlk hv j;have a8:IntKind.u8.wrap ((v / 2 ^ j % 2:Nat):Int)=((v / 2 ^ j % 2:Nat):Int):=by rcases(by omega:v / 2 ^ j % 2=0\/v / 2 ^ j % 2=1) with h|h<;>rw[h]<;>rfl
     have a5:(n1:Int).tmod 8=(n1:Int) % 8:=Int.tmod_eq_emod_of_nonneg ω;refine rh ?_;refine Ye ?_;simp(maxSteps:=1000000) only[Eqs,reduceCtorEq,ZHV,reduceIte,ZHR,ZHY,ZHS,al,hx,a2,az,aw,a3,Zyh a6,a8,a5,Zu8 a4,ZzP];have hpc:=(Zby n1 (v / 2 ^ j % 2)).toNat_lt;have hcl:q*1+1<=I cs:=by rw[<-ah,ZHX,ZcS,ZH4];omega
     generalize v / 2 ^ j=vj at *;refine aa ?_;rw[Nat.mul_one];have ao:=ZoQ (X:=X) (b2.getD q dE |||Zby n1 (vj % 2)) an;rw[ah]at ao;rw[ao];have aq:x≠z:=λe=>ag (by rw[e]);have a1:ZbU b2 n1 (vj % 2)=b2.set q (b2.getD q dE |||Zby n1 (vj % 2)):=by unfold ZbU;rw[ae,Nat.add_sub_cancel]
     rw[a1]at hp;refine rh ?_;refine Zk ?_;simp only[Eqs,reduceCtorEq,ZHV,reduceIte,ZHR,ZHY,ZHS,ZH0 _ _ aq.symm,al];refine aa ?_;refine gA ?_;rw[show(j:Int)+1-1=((k-(i+1):Nat):Int) by omega];have u:∀y,((b2.set q y).map u8C).length=q+1:=λy=>by rw[ZH4,List.length_set,ae]
     have av:∀o y,Buf ((S2.upd x (.cells (((b2.set q y).map u8C).flatten++X))).upd z o) 1 ((b2.set q y).map u8C) (.msl x 0 (q+1) cap 1) (sO x):=λo y=>by have:=Buf.obj (S:=(S2.upd x (.cells (((b2.set q y).map u8C).flatten++X))).upd z o) (sz:=1) (rows:=(b2.set q y).map u8C) x cap X (by rw[ZH0 _ _ aq,ZHW]) (by rw[hX,aj,u]) (by rw[u,<-aj];exact hc);rw[u]at this;exact this
     have ay:∀o,WbF z S2 (sO x) (S2.upd x o) (sO x):=λo y o' hy _ hn=>⟨by rw[ZH0 _ _ λe=>hn (by rw[e])];exact hy,hn⟩;refine Za ?_;exact af ((k)-(i+1)) ω (i+1) rfl (b2.set q (b2.getD q dE |||Zby n1 (vj % 2))) (n1+1) (sO x) _ ⟨_,ZHW _ _ _,av _ _,ag⟩ ((ax.trans (ay _)).upd) (by unfold BOk;rw[List.length_set];omega) ω (by rw[show k-(i+1)=j by omega];exact hp) ω
   refine cd (λh8=>?_) (λh8=>?_);refine rx @ab ?_;refine ZaT rfl rfl (ac) (by exact JA) rfl rfl φ φ (.elems rfl) (by rw[ZH4];simp only[BOk]at r;omega) (by rw[ZH4];simp only[BOk]at r;unfold big;omega) (by exact Ja [0]) (by exact JA) λs1 D1 ob1 ac ad=>?_;have a9:=(ad z _ ab t).1;refine gQ @a9 ?_;refine⟨ac.cell,?_⟩;have ar:n1 % 8=0:=by simp only[decide_eq_true_eq]at h8;omega
   exact j1 ob1 _ ⟨D1,ZHW _ _ _,by unfold ZbT;rw[if_pos ar,List.map_append];exact ac.upd (ad z _ ab t).2,(ad z _ ab t).2⟩ (ai.trans ad.wb.upd);refine Zo ?_;refine kE [0,1,2] ?_;exact j1 ob1 S1 (by unfold ZbT;rw[if_neg (by simp only[decide_eq_false_iff_not]at h8;omega)];exact ak) ai
  simp only[decide_eq_false_iff_not]at hd;obtain rfl:i=k:=ω;refine ZG rfl ?_;rw[Nat.sub_self,Zgr]at hp;exact hF.fin (.tup []) _ rfl trivial (ZHT _) ZHU ⟨rfl,ob1,by rw[<-hp,<-a0];exact ak,ai⟩
 exact ba _ 0 rfl b n ob S hb .refl hbo rfl rfl ω
def Zli(c:UInt8):Bool:=dC ((32:Int)<c.toNat)&&dC ((c.toNat:Int)<127)
def Zal(c:UInt8):Bool:=((dC ((65:Int)<=c.toNat)&&dC ((c.toNat:Int)<=90)) ||(dC ((97:Int)<=c.toNat)&&dC ((c.toNat:Int)<=122)) ||(dC ((48:Int)<=c.toNat)&&dC ((c.toNat:Int)<=57))) ||decide ((c.toNat:Int)=45)
def Zek(s:Str):Bool:=s.all Zal&&(dC (1<=(I s:Int))&&dC ((I s:Int)<=32))
def Zdq(c:UInt8):Bool:=dC ((c.toNat:Int)=32) ||Zli c
def Zhs(t:Str):Bool:=dC (t=[]) ||(!dC (((t.getD 0 0).toNat:Int)=32)&&!dC (((t.getD (I t-1) 0).toNat:Int)=32))
def ZaG(h:Hdr):Bool:=h.text.all Zdq&&(Zek h.name&&Zhs h.text)
def W0(l:List Hdr):Bool:=l.all ZaG&&dC ((I l:Int)<=100)
def ZgT(h:Hdr):Str:=h.name++[58,32]++h.text++[13,10]
def Qf(l:List Hdr):Str:=l.flatMap ZgT++[13,10]
def Zno{α:Type}[Inhabited α]{p}{l:List α}(h:∀j,j<I l->p (l.getD j dE)=true):l.all p=true:=by
 rw[List.all_eq_true];intro x o;obtain⟨j,i,rfl⟩:=ZIc o;have:=h j i;simpa[ZH6,i]using this
def ZuC{α:Type}[Inhabited α]{p}{l:List α}{j}(i:j<I l)(h:p (l.getD j dE)=false):l.all p=false:=by
 rw[List.all_eq_false];exact⟨_,Zr i,by rw[h];simp⟩
def ZrV{p}{s:Str}{j}(i:j<I s)(h:(!p (s.getD j 0))=true):s.all p=false:=ZuC i (by rw[show s.getD j dE=s.getD j 0 from rfl];simpa using h)
def Zzu(c):Zli c=(dC ((33:Int)<=c.toNat)&&dC ((c.toNat:Int)<=126)):=by
 unfold Zli;rw[show dC ((33:Int)<=c.toNat)=dC ((32:Int)<c.toNat) from decide_eq_decide.2 ω,show dC ((c.toNat:Int)<=126)=dC ((c.toNat:Int)<127) from decide_eq_decide.2 ω]
def Zt6{c}:Zc ZHP 165 [.int .u8 c.toNat] (.bool (Zli c)):=by
 refine Ze (cR 165 f165) λF st i=>?_;refine gG ?_;refine rb i ?_;rfl
def Zrd{c}:Zc ZHP 217 [.int .u8 c.toNat] (.bool (Zal c)):=by
 refine Ze (cR 217 f217) λF st i=>?_;refine gG ?_;refine rb i ?_;rfl
def ZeQ{a b c}:Zc ZHP 306 [.int .u8 a,.int .u8 b,.int .u8 c] (.bool (dC (b<=a)&&dC (a<=c))):=by
 refine Ze (cR 306 f306) λF st i=>?_;refine gG ?_;refine rb i ?_;rfl
def Zq7{c}:Zc ZHP 298 [.int .u8 c.toNat] (.bool (Zal c)):=by
 refine Ze (cR 298 f298) λF st i=>?_;refine gG ?_;refine cl ZeQ ?_;refine cG ZeQ ?_;refine cG ZeQ ?_;refine rb i ?_;unfold Zal;rfl
def ZnQ{c}:Zc ZHP 252 [.int .u8 c.toNat] (.bool (Zli c)):=by
 refine Ze (cR 252 f252) λF st i=>?_;refine gG ?_;refine cl ZeQ ?_;refine rb i ?_;rw[Zzu]
def Zt5{s}:Zc ZHP 166 [.str s] (.bool (Zek s)):=by
 refine ZO (cR 166 f166) λu F st r=>?_;have hs:=(u (.str s) ψ).str_inv;unfold big at hs;clear u;have hS:=Zek.eq_1 s;refine gG ?_;refine Zb (fr (I s) (λi Q=>i<=I s->(∀j,j<i->Zal (s.getD j 0)=true)->Q [(0,.d (.str s)),(3,.d (.i i))] [] st) (λn o=>?_) λab=>?_);intro i hn hi t;refine rg ?_;refine cd (λh1=>?_) (λh1=>?_);simp at h1;refine gA ?_;refine cl Zrd ?_;refine cd (λh2=>?_) (λh2=>?_);rw[ZrV (p:=Zal) h1 (by simpa using h2),ZIl]at hS;refine rg ?_;refine rb r ?_;exact hS.symm;refine gA ?_;refine Za ?_;exact o ((I s)-(i+1)) ω (i+1) rfl ω (ZV (q:=λj=>Zal (s.getD j 0)=true) t (by simpa using h2));simp at h1;obtain rfl:i=I s:=ω;rw[Zno (p:=Zal) t,ZIf]at hS;refine rg ?_;refine rb r ?_;exact hS.symm;exact ab _ 0 rfl ω (by intro j hj;omega)
def ZvZ{h:Hdr}:Zc ZHP 123 [.agg h.cells] (.bool (ZaG h)):=by
 refine ZO (cR 123 f123) λab F st r=>?_;have hs:=((ab (.agg h.cells) ψ).agg_inv (.str h.text) (by simp[Hdr.cells])).str_inv;unfold big at hs;clear ab;have hS:=ZaG.eq_1 h;refine rx @Hdr.cells.eq_1 ?_;refine rg ?_;generalize ht:h.text=t at *;refine rg ?_;refine Zb (fr (I t) (λi Q=>i<=I t->(∀j,j<i->Zdq (t.getD j 0)=true)->Q [(1,.loc 1 0),(3,.d (.str t)),(4,.d (.i i))] [(1,[.str h.name,.str t])] st) (λn o=>?_) λac=>?_);intro i hn hi u;refine rg ?_;refine cd (λh1=>?_) (λh1=>?_);simp at h1;refine gA ?_;refine cG Zt6 ?_;refine aa ?_;have hc:(!dC (((t.getD i 0).toNat:Int)=32)&&!Zli (t.getD i 0))=!Zdq (t.getD i 0):=by unfold Zdq;rw[Bool.not_or]
 rw[hc];refine cd (λh2=>?_) (λh2=>?_);rw[ZrV (p:=Zdq) h1 (by simpa using h2),ZIl]at hS;refine rg ?_;refine rb r ?_;exact hS.symm;refine gA ?_;refine Za ?_;exact o ((I t)-(i+1)) ω (i+1) rfl ω (ZV (q:=λj=>Zdq (t.getD j 0)=true) u (by simpa using h2));simp at h1;obtain rfl:i=I t:=ω;rw[Zno (p:=Zdq) u,ZIf]at hS;have hE:=Zhs.eq_1 t;refine rg ?_;refine cl Zt5 ?_;have hp:t≠[]->0<I t:=λh0=>List.length_pos_iff.2 h0;refine⟨λh0=>⟨ω,by have:=hp (by simp at h0;exact h0.2);omega⟩,λh0=>by have:=hp (by simp at h0;exact h0.1.2);omega,λh0=>by have:=hp (by simp at h0;exact h0.1.2);omega,?_⟩;rw[show((I t:Int)-1).toNat=I t-1 by omega];refine rb r ?_;rw[hS,hE];exact ac _ 0 rfl ω (by intro j hj;omega)
def Ztc(l):Zc ZHP 74 [Zx l] (.bool (W0 l)):=by
 refine ZO (cR 74 f74) λu F st r=>?_;have hw:=(Y4 (u (slD 2 Hdr.cells l) (by simp[Zx]))).1;unfold big at hw;clear u;have hS:=W0.eq_1 l;refine rx (nd2 @Zx.eq_1 @eQ1) ?_;refine rg ?_;refine Zb (fr (I l) (λi Q=>i<=I l->(∀j,j<i->ZaG (l.getD j dE)=true)->Q [(0,.d (Zx l)),(3,.d (.i i))] [] st) (λn o=>?_) λab=>?_);intro i hn hi t;refine rx (nd2 @Zx.eq_1 @eQ1) ?_;refine cd (λh1=>?_) (λh1=>?_);simp at h1;refine rx (nd2 @Zx.eq_1 (nd2 @eQ1 @Hdr.cells.eq_1)) ?_;rw[show D.agg [.str (l.getD i dE).name,.str (l.getD i dE).text]=.agg (l.getD i dE).cells from rfl];refine aa ?_;refine cl ZvZ ?_;refine cd (λh2=>?_) (λh2=>?_);rw[ZuC (p:=ZaG) h1 (by simpa using h2),ZIl]at hS;refine rg ?_;refine rb r ?_;exact hS.symm;refine gA ?_;refine Za ?_;exact o ((I l)-(i+1)) ω (i+1) rfl ω (ZV (q:=λj=>ZaG (l.getD j dE)=true) t (by simpa using h2));simp at h1;obtain rfl:i=I l:=ω;rw[Zno (p:=ZaG) t,ZIf]at hS;refine rx (nd2 @Zx.eq_1 @eQ1) ?_;refine rb r ?_;exact hS.symm;exact ab _ 0 rfl ω (by intro j hj;omega)
def Zpn{c}:Zc ZHP 297 [.int .u8 c.toNat] (.bool (!Zal c)):=by
 refine Ze (cR 297 f297) λF st i=>?_;refine gG ?_;refine cl Zq7 ?_;refine rb i ?_;rfl
def ZnN(s):Zc ZHP 92 [slD 1 byC s,.fn (.func 297) [] []] (.bool (s.any λc=>!Zal c)) :=
 λst=>QC s (λ_=>st) λi _=> Zpn.VT (first:=[]) (caps:=[]) st
def Zo8{α:Type}(p)(l:List α):l.all p=!(l.any λc=>!p c):=by
 induction l with
 |nil=>rfl
 |cons x r ih=>simp only[List.all_cons,List.any_cons,ih];cases p x<;>simp
def Zsq{s}:Zc ZHP 249 [.str s] (.bool (Zek s)):=by
 refine ZO (cR 249 f249) λo F st i=>?_;have r:=(o (.str s) ψ).str_inv;unfold big at r;refine gG ?_;refine cG (ZnN s) ?_;refine rb i ?_;unfold Zek;rw[Zo8];generalize (s.any λc=>!Zal c)=x;generalize dC (1<=(I s:Int))=y;generalize dC ((I s:Int)<=32)=z;cases x<;>cases y<;>cases z<;>rfl
def ZeG(l f p)(sts:Nat->St)(hf:∀i,i<I l->VT ZHP f [.agg (l.getD i dE).cells] (sts i) (.bool (p (l.getD i dE))) (sts (i+1))):
  ZL ZHP 174 [slD 2 Hdr.cells l,f] (sts 0) (.i (Zl p l)) (sts (K9 p l)):=by
 refine ZE (cR 174 f174) λab F o=>?_;have hw:=(Y4 (ab (slD 2 Hdr.cells l) ψ)).1;unfold big at hw;clear ab;refine rx @eQ1 ?_;refine rx @eQ1 ?_;refine Zb (fr (I l) (λi Q=>i<=I l->(∀j,j<i->p (l.getD j dE)=false)->Q [(0,.d (slD 2 Hdr.cells l)),(1,.d f),(7,.d (.i (I l))),(8,.d (.i i))] [] (sts i)) (λn t=>?_) λac=>?_);intro i hn hi r;refine rx @eQ1 ?_;refine Zd (Zj rfl trivial (λh1=>?_) (λh1=>?_));simp at h1;refine rx @eQ1 ?_;refine xA (nd2 @eQ1 @Hdr.cells.eq_1) ?_;refine cW (hf i h1) ?_;refine cd (λh2=>?_) (λh2=>?_);have e1:=Wv h1 h2 r;have e2:=Zbz h1 h2 r;rw[e1,e2]at o;refine rg ?_;exact o rfl φ (ZHT _) ZHU;refine gA ?_;refine Za ?_;exact t ((I l)-(i+1)) ω (i+1) rfl ω (ZV (q:=λj=>p (l.getD j dE)=false) r h2);simp at h1;obtain rfl:i=I l:=ω;have u:∀x∈l,p x=false:=λx hx=>by obtain⟨j,hj,rfl⟩:=ZIc hx;have:=r j hj;simpa[ZH6,hj]using this
 rw[Wd u,JQ u]at o;refine rg ?_;exact o rfl φ (ZHT _) ZHU;exact ac _ 0 rfl ω (by intro j hj;omega)
def J4(l){f p}(t:Nat->St)(u:∀i,i<I l->VT ZHP f [.agg (l.getD i dE).cells] (t i) (.bool (p (l.getD i dE))) (t (i+1))):
  ZL ZHP 141 [slD 2 Hdr.cells l,f] (t 0) (.bool (l.any p)) (t (K9 p l)):=by
 refine ZE (cR 141 f141) λr F o=>?_;clear r;refine gG ?_;refine ct (ZeG l f p t u) ?_;rw[JE]at o;exact o rfl φ (ZHT _) ZHU
def Zad(c:UInt8):Bool:=dC ((c.toNat:Int)=32)
def Zds(s:Str):Str:=s.dropWhile Zad
def ZbN(s:Str):Str:=(s.reverse.dropWhile Zad).reverse
def ZoO{s}(h:Zad (s.getD 0 0)=true)(i:0<I s):Zds s=Zds (s.drop 1):=by
 cases s with
 |nil=>simp at i
 |cons c r=>simp only[List.getD_cons_zero]at h;simp[Zds,List.dropWhile_cons,h]
def ZqO{s}(h:(dC (0<(I s:Int))&&Zad (s.getD 0 0))=false):Zds s=s:=by
 cases s with
 |nil=>rfl
 |cons c r =>
  simp only[List.getD_cons_zero,ZH3]at h;have o:Zad c=false:=by have i:dC (0<((I r+1:Nat):Int))=true:=decide_eq_true ω;rw[i,ZIf]at h;exact h
  simp[Zds,List.dropWhile_cons,o]
def Zqs(l)(a:UInt8):(l++[a]).getD ((l++[a]).length-1) 0=a:=by simp[ZH6]
def ZoP{s}(h:Zad (s.getD (I s-1) 0)=true)(i:0<I s):ZbN s=ZbN (s.take (I s-1)):=by
 rcases List.eq_nil_or_concat s with rfl|⟨l,a,rfl⟩;simp at i;rw[List.concat_eq_append]at h⊢;rw[Zqs]at h;simp[ZbN,List.dropWhile_cons,h]
def ZqP{s}(h:(dC (0<(I s:Int))&&Zad (s.getD (I s-1) 0))=false):ZbN s=s:=by
 rcases List.eq_nil_or_concat s with rfl|⟨l,a,rfl⟩;rfl;rw[List.concat_eq_append]at h⊢;rw[Zqs]at h;have o:Zad a=false:=by have i:dC (0<((l++[a]).length:Int))=true:=decide_eq_true (by rw[ZHX,List.length_singleton];omega);rw[i,ZIf]at h;exact h
 simp[ZbN,List.dropWhile_cons,o]
def ZxW(s):(ZbN s).length<=I s:=by
 unfold ZbN;rw[List.length_reverse];exact ZIy (List.dropWhile_sublist _).length_le ψ
def ZxX(t):dC (Zds (ZbN t)=t)=Zhs t:=by
 have i:∀s:Str,(Zds s).length<=I s:=λs=>(List.dropWhile_sublist _).length_le;by_cases r:t=[];subst r;rfl;have hp:=List.length_pos_iff.2 r;have h0:Zhs t=(!Zad (t.getD 0 0)&&!Zad (t.getD (I t-1) 0)):=by unfold Zhs;rw[decide_eq_false r,Bool.false_or];rfl
 rw[h0];cases hr:Zad (t.getD (I t-1) 0) with
 |true =>rw[Bool.not_true,Bool.and_false,decide_eq_false];intro h;have o:=congrArg List.length h;rw[ZoP hr hp]at o;have u:=i (ZbN (t.take (I t-1)));have h3:=ZxW (t.take (I t-1));rw[ZIa]at h3;omega
 |false =>
  rw[ZqP (by rw[hr,Bool.and_false]),Bool.not_false,Bool.and_true];cases hl:Zad (t.getD 0 0) with
  |true =>rw[Bool.not_true,decide_eq_false];intro h;have o:=congrArg List.length h;rw[ZoO hl hp]at o;have u:=i (t.drop 1);rw[ZIq]at u;omega
  |false=>rw[ZqO (by rw[hl,Bool.and_false])];simp
def Zf7{s}:Zc ZHP 299 [.str s,.int .u8 32] (.str (Zds s)):=by
 refine ZO (cR 299 f299) λo F st i=>?_;have hs:=(o (.str s) ψ).str_inv;unfold big at hs;clear o;refine rg ?_;refine Zd (Zb ?_);refine lpU (λQ=>∀n (t:Str),I t<=n->I t<=9223372036854775807->Zds t=Zds s->Q F [(0,.d (.str t)),(1,.d (.int .u8 32))] [] st) ?_ λr=>?_
 .intro n;induction n with
  |zero =>intro t hn hb ht;obtain rfl:t=[]:=List.length_eq_zero_iff.1 ω;refine gA ?_;refine iG ?_;refine rs i ?_;rw[<-ht];rfl
  |succ n ih =>intro t hn hb ht;refine gA ?_;refine cd (λu=>?_) (λu=>?_);simp only[ZH1,decide_eq_true_eq]at u;refine gA ?_;refine Zi (Za ?_);rw[show List.take (I t-1) (t.drop 1)=t.drop 1 from List.take_of_length_le ψ];exact ih _ (by rw[ZIq];omega) (by rw[ZIq];omega) (by rw[<-ht];exact(ZoO (decide_eq_true u.2) ω).symm);refine rg ?_;refine rs i ?_;rw[<-ht];exact(ZqO u).symm
 exact r (I s) s (ZH9 _) hs rfl
def ZfW(s):Zc ZHP 300 [.str s,.int .u8 32] (.str (ZbN s)):=by
 refine ZO (cR 300 f300) λo F st i=>?_;have hs:=(o (.str s) ψ).str_inv;unfold big at hs;clear o;refine rg ?_;refine Zd (Zb ?_);refine lpU (λQ=>∀n (t:Str),I t<=n->I t<=9223372036854775807->ZbN t=ZbN s->Q F [(0,.d (.str t)),(1,.d (.int .u8 32))] [] st) ?_ λr=>?_
 .intro n;induction n with
  |zero =>intro t hn hb ht;obtain rfl:t=[]:=List.length_eq_zero_iff.1 ω;refine gA ?_;refine iG ?_;refine rs i ?_;rw[<-ht];rfl
  |succ n ih =>
   intro t hn hb ht;refine gA ?_;refine cd (λu=>?_) (λu=>?_);simp only[ZH1,decide_eq_true_eq]at u;rw[show((I t:Int)-1).toNat=I t-1 by omega]at u;refine gA ?_;refine Zi (Za ?_);rw[show((I t:Int)-1).toNat=I t-1 by omega];exact ih _ (by rw[ZIa];omega) (by rw[ZIa];omega) (by rw[<-ht];exact(ZoP (decide_eq_true u.2) ω).symm);have h2:(dC (0<(I t:Int))&&Zad (t.getD (I t-1) 0))=false:=by rw[show((I t:Int)-1).toNat=I t-1 by omega]at u;exact u
   refine rg ?_;refine rs i ?_;rw[<-ht];exact(ZqP h2).symm
 exact r (I s) s (ZH9 _) hs rfl
def ZoK{s}:Zc ZHP 250 [.str s,.str [32]] (.str (Zds (ZbN s))):=by
 refine Ze (cR 250 f250) λF st i=>?_;refine gG ?_;refine cd (λr=>?_) (λr=>?_);refine rg ?_;have o:s=[]:=by simpa using r
 subst o;refine rs i ?_;rfl;refine gA ?_;refine i1 ?_;refine gA ?_;refine cl0 (ZfW s) ?_;refine cl0 Zf7 ?_;refine rs i ?_;rfl
def ZnP{c}:Zc ZHP 251 [.int .u8 c.toNat] (.bool (!Zdq c)):=by
 refine Ze (cR 251 f251) λF st i=>?_;refine gG ?_;refine cG ZnQ ?_;refine rb i ?_;unfold Zdq;rw[Bool.not_or]
def ZmS{s}:Zc ZHP 92 [slD 1 byC s,.fn (.func 251) [] []] (.bool (s.any λc=>!Zdq c)) :=
 λst=>QC s (λ_=>st) λi _=> ZnP.VT (first:=[]) (caps:=[]) st
def Zq8(h:Hdr):Zc ZHP 207 [.agg h.cells] (.bool (ZaG h)):=by
 refine Ze (cR 207 f207) λF st i=>?_;refine rx @Hdr.cells.eq_1 ?_;refine rg ?_;refine clD Zsq ?_;refine cGD ZoK ?_;refine cGD ZmS ?_;refine rb i ?_;rw[ZxX];unfold ZaG;rw[Zo8];generalize (h.text.any λc=>!Zdq c)=x;generalize Zek h.name=y;generalize Zhs h.text=z;cases x<;>cases y<;>cases z<;>rfl
def ZnO{h:Hdr}:Zc ZHP 206 [.agg h.cells] (.bool (!ZaG h)):=by
 refine Ze (cR 206 f206) λF st i=>?_;refine rx @Hdr.cells.eq_1 ?_;refine rg ?_;rw[show D.agg [.str h.name,.str h.text]=.agg h.cells from rfl];refine cl (Zq8 h) ?_;refine rb i ?_;rfl
def ZmR(l):Zc ZHP 141 [slD 2 Hdr.cells l,.fn (.func 206) [] []] (.bool (l.any λc=>!ZaG c)) :=
 λst=>J4 l (λ_=>st) λi _=> ZnO.VT (first:=[]) (caps:=[]) st
def Zbt{L s}(l):qv L s .lenL [.d (Zx l)]=sO (True,.d (.i (I l))):=rfl
def atH{L s}(l i):qv L s (.iaddr 2) [.d (Zx l),.d (.i i)]=sO (0<=i/\i<I l,.d (.ep (l.getD i.toNat dE).cells 0)):=rfl
def Zq6(l):Zc ZHP 150 [Zx l] (.bool (W0 l)):=by
 refine Ze (cR 150 f150) λF st i=>?_;refine rg ?_;refine rx @Zbt ?_;refine cG (ZmR l) ?_;refine rb i ?_;unfold W0;rw[Zo8];rw[Bool.and_comm]
def Zbc(l:List Hdr):Prop:=∀h∈l,I h.text<=1048576
def ZyQ{h:Hdr}(i:ZaG h=true)(ht:I h.text<=1048576):(ZgT h).length<=1048620:=by
 unfold ZaG Zek at i;simp only[ZH1,decide_eq_true_eq]at i;unfold ZgT;simp only[ZHX,ZH3,List.length_nil];omega
def ZeS(l:List Hdr):Str:=l.flatMap ZgT
def Zw8{l}(o:∀h∈l,ZaG h=true)(t:Zbc l):(ZeS l).length<=I l*1048620:=by
 induction l with
 |nil=>simp[ZeS]
 |cons a r ih =>have h1:=ZyQ (o a ψ) (t a ψ);have u:=ih (λh i=>o h (by simp[i])) (λh i=>t h (by simp[i]));unfold ZeS at u⊢;rw[List.flatMap_cons,ZHX,ZH3,ZIp];omega
def ZnV{l:List Hdr}{i}(h:i<I l):ZeS (l.take (i+1))=ZeS (l.take i)++ZgT (l.getD i dE):=by
 rw[ZQ h];simp[ZeS]
def Zst{l}(r:W0 l=true)(ht:Zbc l)(i):(ZeS (l.take i)).length<=104862000/\I l<=100:=by
 unfold W0 at r;rw[ZH1,List.all_eq_true,decide_eq_true_eq]at r;have t:=Zw8 (l:=l.take i) (λh o=>r.1 h (List.mem_of_mem_take o)) (λh o=>ht h (List.mem_of_mem_take o));rw[ZIa]at t;have u:min i (I l)<=100:=ω;have h3:=ZIi 1048620 u;omega
def ZuR{l}(o:W0 l=true)(t:Zbc l){i}(r:i<I l):(l.getD i dE).name.length<=32/\(l.getD i dE).text.length<=1048576:=by
 refine⟨?_,t _ (Zr r)⟩;unfold W0 at o;rw[ZH1,List.all_eq_true]at o;have:=o.1 _ (Zr r);unfold ZaG Zek at this;simp only[ZH1,decide_eq_true_eq]at this;omega
def ZfL{l}(hk:W0 l=true)(ht:Zbc l):Zc ZHP 75 [Zx l] (Zg (Qf l)):=by
 refine Ze (cR 75 f75) λF st r=>?_;have hl:=Zst hk ht;refine gG ?_;refine rg ?_;refine Zb (fr (I l) (λi Q=>∀s,s=ZeS (l.take i)->i<=I l->Q [(0,.d (Zx l)),(3,.d (.str s)),(4,.d (.i i))] [] st) (λn o=>?_) λt=>?_);intro i hn s hs hi;have h1:=hl i;rw[<-hs]at h1;refine rx @Zbt ?_;refine cd (λu=>?_) (λu=>?_);simp at u;have h3:=ZnV u;have h4:=hl (i+1);have h5:=ZuR hk ht u;rw[h3,<-hs]at h4;rw[<-hs]at h3;unfold ZgT at h3 h4;simp only[ZHX,ZH3,List.length_nil]at h4;generalize hg:l.getD i dE=g at *;refine rx (nd2 @atH (nd2 @hg @Hdr.cells.eq_1)) ?_;repeat(refine ZHZ (by first|omega|trivial|(intro h0;simp at h0;omega)|(((try simp only[ZHX,ZH3,List.length_nil]);unfold big;omega))) ?_)
 refine gA ?_;refine Za ?_;exact o ((I l)-(i+1)) ω (i+1) rfl _ (by rw[h3];simp only[ZIh]) ω;simp at u;obtain rfl:i=I l:=ω;rw[ZIb]at hs;subst hs;refine rg ?_;repeat(refine ZHZ (by first|omega|trivial|(intro h0;simp at h0;omega)|(((try simp only[ZHX,ZH3,List.length_nil]);unfold big;omega))) ?_)
 exact r rfl φ (ZHT _) ZHU;exact t _ 0 rfl [] rfl ω
def ZhT(l:List Hdr):D:=if W0 l then .tup [Zg (Qf l),.i 0] else .tup [.nilsl,.i 2]
def Zew{l}(ht:Zbc l):Zc ZHP 109 [Zx l] (ZhT l):=by
 refine Ze (cR 109 f109) λF st r=>?_;have hW:=ZhT.eq_1 l;refine gG ?_;refine cl (Zq6 l) ?_;cases hk:W0 l with
 |false =>rw[hk,if_neg ψ]at hW;rw[hW]at r;refine i1 ?_;refine rg ?_;exact r rfl ψ (ZHT _) ZHU
 |true =>
  rw[hk,if_pos rfl]at hW;rw[hW]at r;have hl:=Zst hk ht;refine iG ?_;refine rx @Zbt ?_;refine kl (st) [(4,.d (.sl .full 0 1 λ_=>[])),(10,.d (Zx l)),(11,.d (.i (I l))),(12,.d (.i (0:Nat)))] [] (.cons (.d (Z1 λb h=>by cases h)) Wx) Y6 ?_;refine Zb (fr (I l) (λi Q=>∀tk row o,tk.okIn st->Zy byC row o->o=ZeS (l.take i)->i<=I l->Q [(4,.d (.sl tk (I o) 1 row)),(10,.d (Zx l)),(11,.d (.i (I l))),(12,.d (.i i))] [] (st.own tk (I o*1))) (λn ab=>?_) λaf=>?_);intro i hn tk row o htk ac ho hi;have h1:=hl i;rw[<-ho]at h1;refine rg ?_;refine Zd (Zj rfl trivial (λh2=>?_) (λh2=>?_));simp at h2;have h3:=ZnV h2;have h4:=hl (i+1);have h5:=ZuR hk ht h2;rw[h3,<-ho]at h4;rw[<-ho]at h3;rw[ZHX]at h4;generalize hg:l.getD i dE=g at *;refine xA (nd2 @atH (nd2 @hg @Hdr.cells.eq_1)) ?_;refine rg ?_;repeat(refine ZHZ (by first|omega|trivial|(intro h0;simp at h0;omega)|(((try simp only[ZHX,ZH3,List.length_nil]);unfold big;omega))) ?_)
  have hB:g.name++[58,32]++g.text++[13,10]=ZgT g:=rfl;rw[hB];generalize ZgT g=b at *;refine Y2 (st) (tk) rfl rfl rfl rfl rfl rfl φ φ rfl (by first|trivial|assumption) ω (by (unfold big;omega)) λt1 ad=>Zk ?_;simp only[Eqs,reduceCtorEq,ZHV,reduceIte,ZHR,ZHY,ZHS];refine gA ?_;have t:Zy byC (Yd (I o) row λi=>[.int .u8 ((b.getD i 0).toNat:Int)]) (o++b):=ac.app Zy.self rfl;have u:=ab (I l-(i+1)) ω (i+1) rfl t1 _ _ ad t h3.symm ω;rw[ZHX]at u;refine Za ?_;exact u;simp at h2;obtain rfl:i=I l:=ω;rw[ZIb]at ho;refine rg ?_;refine Y2 (st) (tk) rfl rfl rfl rfl rfl rfl φ φ rfl (by first|trivial|assumption) (by (simp;omega)) (by (simp;unfold big;omega)) λt1 ad=>Zk ?_;simp only[Eqs,reduceCtorEq,ZHV,reduceIte,ZHR,ZHY,ZHS];have t:Zy byC (Yd (I o) row λi=>[.int .u8 ((([13,10]:Str).getD i 0).toNat:Int)]) (o++[13,10]):=ac.app Zy.self rfl;have ae:Qf l=o++[13,10]:=by rw[ho];rfl
  rw[ae]at r;exact r rfl ψ (Zdz rfl (.cons (t.le ψ) (LeC.refl _))) (Yj ad);exact af _ 0 rfl .full _ [] trivial Zy.nil rfl ω
def ZyU(f):Yy f=(dC (f.kind=1) ||decide (f.kind=2) ||decide (f.kind=3)):=by
 unfold Yy;rw[Bool.eq_iff_iff];simp only[ZH1,ZId,decide_eq_true_eq];omega
def ZfN(f):Zc ZHP 185 [.agg f.cells] (.bool (Yy f)):=by
 refine Ze (cR 185 f185) λF st i=>?_;refine rx @eQ0 ?_;refine rx @eQ0 ?_;refine rb i ?_;exact(ZyU f).symm
def Zj9(f:Fld):(Int×Int)×Int:=if Yy f then (Wq f,0) else ((0,0),2)
def Zou(f):Zc ZHP 385 [.agg f.cells] (.tup [QT (Zj9 f).1,.i (Zj9 f).2]):=by
 refine Ze (cR 385 f385) λF st i=>?_;have o:=Zj9.eq_1 f;refine rx @eQ0 ?_;refine rx @eQ0 ?_;refine cl (ZfN f) ?_;refine cd (λr=>?_) (λr=>?_);rw[if_neg (by simpa using r)]at o;refine rg ?_;refine i rfl (by first|trivial|simp) (Zab ?_ rfl) ZHU;rw[o];rfl;rw[if_pos (by simpa using r)]at o;refine rx @eQ0 ?_;refine cd (λt=>?_) (λt=>?_);refine rx @eQ0 ?_;refine i rfl (by first|trivial|simp) (Zab ?_ rfl) ZHU;rw[o,Wq,if_pos (by simpa using t)];rfl;refine rx @eQ0 ?_;refine i rfl (by first|trivial|simp) (Zab ?_ rfl) ZHU;rw[o,Wq,if_neg (by simpa using t)];rfl
def Zap(fs:List Fld):Nat->Zyd
 |0=>[]
 |i+1=>if Yy (fs.getD i dE) then YY (fs.getD i dE).name (Wq (fs.getD i dE)) (Zap fs i) else Zap fs i
def ZfO(fs st):Zf ZHP 381 [Zp fs] st λr S=>∃b,st b=nO/\r=.ret (.map b)/\S=st.upd b (.map (Zb6 (Zap fs (I fs)))):=by
 refine ZaS (cR 381 f381) λab F hF=>?_;have hw:=(ZjJ (ab (Zp fs) ψ)).1;unfold big at hw;clear ab;refine gG ?_;intro b hb;refine rx (nd2 @eQ4 @eQ1) ?_;refine Zb (fr (I fs) (λi Q=>i<=I fs->Q [(3,.d (.map b)),(9,.d (Zp fs)),(10,.d (.i (I fs))),(11,.d (.i i))] [] (st.upd b (.map (Zb6 (Zap fs i))))) (λn o=>?_) λad=>?_)
 .intro i hn hi;refine rg ?_;refine Zd (Zj rfl trivial (λh1=>?_) (λh1=>?_))
  .simp at h1;have u:Zap fs (i+1)=if Yy (fs.getD i dE) then YY (fs.getD i dE).name (Wq (fs.getD i dE)) (Zap fs i) else Zap fs i:=rfl
   generalize hf:fs.getD i dE=f at *;have hP:=Zj9.eq_1 f;refine xA (nd2 @eQ4 (nd2 @eQ1 (nd2 @eQ0 @hf))) ?_;refine rx @eQ0 ?_;refine cX @QT.eq_1 (Zou f) ?_;refine rg ?_;refine cd (λh2=>?_) (λh2=>?_)
   .have t:Yy f=true:=by
     cases hx:Yy f with
     |true=>rfl
     |false=>rw[hP,hx]at h2;simp at h2
    rw[if_pos t]at hP u;have e2:=Zay (vD:=QT) ZS f.name (Wq f) (Zap fs i);have e3:=Y8 ZS f.name;simp only[show K5 f.name=D.str f.name from rfl,show QT (Wq f)=D.agg [.i (Wq f).1,.i (Wq f).2] from rfl]at e2 e3;have ac:(Zj9 f).1=Wq f:=by rw[hP]
    refine rx (nd2 @eQ0 (nd2 @ac (nd2 @e2 (nd2 @e3 (nd2 @ZHW (nd2 @ZH7 (nd2 @Yv @Yw))))))) ?_;refine gA ?_;rw[<-u];refine Za ?_;exact o ((I fs)-(i+1)) ω (i+1) rfl ω
   have t:Yy f=false:=by
    cases hx:Yy f with
    |true=>rw[hP,hx]at h2;simp at h2
    |false=>rfl
   rw[if_neg (by rw[t];simp)]at u;refine gA ?_;rw[<-u];refine Za ?_;exact o ((I fs)-(i+1)) ω (i+1) rfl ω
  simp at h1;obtain rfl:i=I fs:=ω;refine rg ?_;exact hF.ret _ _ rfl φ (ZHT _) ZHU ⟨b,hb,rfl,rfl⟩
 exact ad _ 0 rfl ω
def Zf3(l f p)(t:Nat->St)(u:∀i,i<I l->VT ZHP f [.agg (l.getD i dE).cells] (t i) (.bool (p (l.getD i dE))) (t (i+1))):
  ZL ZHP 53 [slD 2 Msg.cells l,f] (t 0) (.tup [.i (max (Zl p l) 0),.bool (dC (0<=Zl p l))]) (t (K9 p l)):=by
 refine ZE (cR 53 f53) λr F o=>?_;clear r;refine gG ?_;refine ct (Zeq l f p t u) ?_;refine rg ?_;exact o rfl φ (Zab rfl rfl) ZHU
def ZhG(l f p)(t:Nat->St)(u:∀i,i<I l->VT ZHP f [.agg (l.getD i dE).cells] (t i) (.bool (p (l.getD i dE))) (t (i+1))):
  ZL ZHP 285 [slD 15 Fld.cells l,f] (t 0) (.tup [.i (max (Zl p l) 0),.bool (dC (0<=Zl p l))]) (t (K9 p l)):=by
 refine ZE (cR 285 f285) λr F o=>?_;clear r;refine gG ?_;refine ct (Q2 l f p t u) ?_;refine rg ?_;exact o rfl φ (Zab rfl rfl) ZHU
def ZiB(l f p)(t:Nat->St)(u:∀i,i<I l->VT ZHP f [.agg (l.getD i dE).cells] (t i) (.bool (p (l.getD i dE))) (t (i+1))):
  ZL ZHP 243 [slD 3 YE.cells l,f] (t 0) (.tup [.i (max (Zl p l) 0),.bool (dC (0<=Zl p l))]) (t (K9 p l)):=by
 refine ZE (cR 243 f243) λr F o=>?_;clear r;refine gG ?_;refine ct (ZfT l f p t u) ?_;refine rg ?_;exact o rfl φ (Zab rfl rfl) ZHU
def Zm4{x:Msg}(s b){st}(r:st b=sO (.cells [.str s])):ZL ZHP 54 [.agg x.cells,.ptr b 0] st (.bool (dC (x.name=s))) st:=by
 refine ZE (cR 54 f54) λo F i=>?_;clear o;refine rx @eQ3 ?_;refine rx @r ?_;exact i rfl φ (ZHT _) ZHU
def ZlF{x:Fld}(s b){st}(r:st b=sO (.cells [.str s])):ZL ZHP 286 [.agg x.cells,.ptr b 0] st (.bool (dC (x.name=s))) st:=by
 refine ZE (cR 286 f286) λo F i=>?_;clear o;refine rx @eQ0 ?_;refine rx @r ?_;exact i rfl φ (ZHT _) ZHU
def Zaq(d:Dfn)(s):Zc ZHP 30 [.agg d.cells,.str s] (.tup [.i (max (Zl (λx=>dC (x.name=s)) d.msgs) 0),.bool (dC (0<=Zl (λx=>dC (x.name=s)) d.msgs))]):=by
 refine Ze (cR 30 f30) λF st o=>?_;refine rx @eQ2 ?_;refine Zd ?_;refine xP 3 λb r=>?_;refine rx @eQ2 ?_;refine ct (Zf3 d.msgs (.fn (.func 54) [] [.ptr b 0]) (λx=>dC (x.name=s)) (λ_=>st.upd b (.cells [.str s])) (λi hi=>(Zm4 s b (ZHW _ _ _)).VT (first:=[]) (args:=[_]) (caps:=[_]))) ?_;exact o rfl φ (Zab rfl rfl) (ZIg _ r)
def Zdk(d:Msg)(s):Zc ZHP 233 [.agg d.cells,.str s] (.tup [.i (max (Zl (λx=>dC (x.name=s)) d.fields) 0),.bool (dC (0<=Zl (λx=>dC (x.name=s)) d.fields))]):=by
 refine Ze (cR 233 f233) λF st o=>?_;refine rx @eQ3 ?_;refine Zd ?_;refine xP 3 λb r=>?_;refine rx @eQ3 ?_;refine ct (ZhG d.fields (.fn (.func 286) [] [.ptr b 0]) (λx=>dC (x.name=s)) (λ_=>st.upd b (.cells [.str s])) (λi hi=>(ZlF s b (ZHW _ _ _)).VT (first:=[]) (args:=[_]) (caps:=[_]))) ?_;exact o rfl φ (Zab rfl rfl) (ZIg _ r)
def Zm3{c:YE}(tag b){st}(r:st b=sO (.cells [.i tag])):ZL ZHP 244 [.agg c.cells,.ptr b 0] st (.bool (dC (c.low<=tag)&&dC (tag<=c.high))) st:=by
 refine ZE (cR 244 f244) λo F i=>?_;clear o;refine rx @YE.cells.eq_1 ?_;refine rx @r ?_;exact i rfl φ (ZHT _) ZHU
def ZpE(f tag):Zc ZHP 201 [.agg f.cells,.i tag] (.tup [.i (max (Jo f tag) 0),.bool (dC (0<=Jo f tag))]):=by
 refine Ze (cR 201 f201) λF st o=>?_;refine rx @eQ0 ?_;refine Zd ?_;refine xP 3 λb r=>?_;refine rx @eQ0 ?_;refine ct (ZiB f.cases (.fn (.func 244) [] [.ptr b 0]) (λc=>dC (c.low<=tag)&&dC (tag<=c.high)) (λ_=>st.upd b (.cells [.i tag])) (λi hi=>(Zm3 tag b (ZHW _ _ _)).VT (first:=[]) (args:=[_]) (caps:=[_]))) ?_;exact o rfl φ (Zab rfl rfl) (ZIg _ r)
def ZzL:Option (Int×Int×Int)->List D
 |none=>[.i 0,.i 0,.i 0]
 |some (a,b,c)=>[.i a,.i b,.i c]
def ZzM(o:Option (Int×Int×Int)):D:=.tup [.agg (ZzL o),.bool o.isSome]
def Js(l:List Int):List D:=l.map (.int .i64)
def ZgO(l):(Js l).length=I l:=by simp[Js]
def Zh5{l i}(h:i<I l):(Js l)[i]?=sO (.i (l.getD i dE)):=by
 simp[Js,ZH6,ZIn h]
def Zvz(n):WT [.i 0] n=Js (List.replicate n 0):=by
 unfold WT Js;induction n with
 |zero=>rfl
 |succ n ih=>rw[List.replicate_succ,List.flatten_cons,ih,List.replicate_succ];rfl
def ZyA{l i v}(h:i<I l):ZF (Js l) i [.i v]=Js (l.set i v):=by
 unfold ZF Js;rw[List.map_set,List.set_eq_take_append_cons_drop,if_pos (by simpa using h)];simp
def Zsi{l i v}(h:i<I l):List.take i (Js l)++[.i v]++List.drop (i+1) (Js l)=Js (l.set i v):=ZyA h
def Zq9{l r:List Int}{i}(h:i<I l):(l++r).getD i dE=l.getD i dE:=by
 simp[ZH6,ZIm h]
def ZgS{l r}{i:Nat}{v:Int}(h:I l=i):(l++v::r).getD i dE=v:=by
 subst h;simp[ZH6]
def Zox{l r}{i:Nat}{v w:Int}(h:I l=i):(l++v::r).set i w=l++w::r:=by
 subst h;simp[List.set_append]
def Zsj{d at_ deps}(t:∀x∈deps,0<=x/\x<=16)(l){b}(i:0<=b)(o:b<=16):0<=Zbn d at_ deps b l/\Zbn d at_ deps b l<=16:=by
 induction l generalizing b with
 |nil=>exact⟨i,o⟩
 |cons s r ih =>
  have:0<=deps.getD (Zm d s at_).toNat dE/\deps.getD (Zm d s at_).toNat dE<=16:=by by_cases h:(Zm d s at_).toNat<I deps;exact t _ (Zr h);rw[ZH6,ZIz ω];decide
  exact ih (b:=max b (deps.getD (Zm d s at_).toNat dE)) ω ω
def ZtN{d at_ deps b}{l:List Str}{q}(h:q<I l):
  Zbn d at_ deps b (l.take (q+1))=max (Zbn d at_ deps b (l.take q)) (deps.getD (Zm d (l.getD q dE) at_).toNat dE):=by
 rw[ZQ h,Zbn,List.foldl_append];rfl
def Zs2(d):Zc ZHP 119 [.agg d.cells] (ZzM (ZbX d)):=by
 refine ZO (cR 119 f119) λam F st r=>?_;have hw:=(Zhp (s:=d) (am _ ψ)).nmsgs;have a3:=(Zhp (s:=d) (am _ ψ)).msgs;unfold big at hw;clear am;have hS:=ZbX.eq_1 d;refine rx @eQ2 ?_;refine rx @eQ2 ?_;refine cl (Zb4 d.name) ?_;refine cd (λh=>?_) (λh=>?_);rw[if_pos (by simpa using h)]at hS;refine rg ?_;refine rt r ?_;rw[hS];rfl;rw[if_neg (by simpa using h)]at hS;refine rx (nd2 @eQ2 (nd2 @eQ6 @eQ1)) ?_;refine cd (λh2=>?_) (λh2=>?_);have t:(dC (I d.msgs<1) ||decide (60<I d.msgs))=true:=by rw[ZId,decide_eq_true_eq,decide_eq_true_eq]at h2⊢;omega
 rw[if_pos t]at hS;refine rg ?_;refine rt r ?_;rw[hS];rfl;rw[Bool.or_eq_false_iff,decide_eq_false_iff_not,decide_eq_false_iff_not]at h2;have t:¬(dC (I d.msgs<1) ||decide (60<I d.msgs))=true:=by rw[ZId,decide_eq_true_eq,decide_eq_true_eq];omega
 rw[if_neg t]at hS;refine rx (nd2 @eQ2 (nd2 @eQ6 @eQ1)) ?_;refine⟨ω,ω,ω,by unfold big;omega,λb hb=>?_⟩;simp only[Zvz];refine rg ?_;refine Zb (fr (I d.msgs) (λa Q=>∀deps:List Int,I deps=a->a<=I d.msgs->ZbX d=Qq d a (d.msgs.drop a) deps->(∀x∈deps,0<=x/\x<=16)->(∀j,j<a->ZkX d j)->Q [(1,.loc 1 0),(2,.loc 2 0),(4,.d (.msl b 0 (I d.msgs) (I d.msgs) 1)),(5,.d (.i a))] [(1,d.cells),(2,[.i 0,.i 0,.i 0])] (st.upd b (.cells (Js (deps++List.replicate (I d.msgs-a) 0))))) (λn ah=>?_) λa7=>?_);intro a hn deps ab ha o ao av;refine rx (nd2 @eQ2 (nd2 @eQ6 @eQ1)) ?_;refine cd (λh3=>?_) (λh3=>?_);simp at h3;have ak:d.msgs.drop a=d.msgs.getD a dE::d.msgs.drop (a+1):=Yf h3;have a2:=(a3 _ (Zr h3)).nfields;unfold big at a2;have hF:=WV.eq_1 d a (d.msgs.getD a dE);rw[ak,Qq]at o;generalize hm:d.msgs.getD a dE=m at *;refine xA (nd2 @eQ2 (nd2 @eQ3 (nd2 @eQ6 (nd2 @eQ1 @hm)))) ?_;refine rx @eQ3 ?_;refine cl (Zb4 m.name) ?_;refine cd (λh4=>?_) (λh4=>?_);rw[if_pos (by simpa using h4)]at hF;rw[hF]at o;refine rg ?_;refine rt r ?_;rw[o];rfl;rw[if_neg (by simpa using h4)]at hF;refine rx (nd2 @eQ2 @eQ3) ?_;have c9:=WG d m.name a ω;refine cl (c9) ?_;refine cd (λh5=>?_) (λh5=>?_);rw[if_pos (by simpa using h5)]at hF;rw[hF]at o;refine rg ?_;refine rt r ?_;rw[o];rfl;rw[if_neg (by simpa using h5)]at hF;refine rx (nd2 @eQ3 (nd2 @eQ4 @eQ1)) ?_;refine cd (λh6=>?_) (λh6=>?_);have t:(dC (I m.fields<1) ||decide (40<I m.fields))=true:=by rw[ZId,decide_eq_true_eq,decide_eq_true_eq]at h6⊢;omega
 rw[if_pos t]at hF;rw[hF]at o;refine rg ?_;refine rt r ?_;rw[o];rfl;rw[Bool.or_eq_false_iff,decide_eq_false_iff_not,decide_eq_false_iff_not]at h6;have t:¬(dC (I m.fields<1) ||decide (40<I m.fields))=true:=by rw[ZId,decide_eq_true_eq,decide_eq_true_eq];omega
 rw[if_neg t]at hF;refine rx (nd2 @eQ3 (nd2 @eQ4 @eQ1)) ?_;refine Zb (fr (I m.fields) (λi Q=>i<=I m.fields->WV d a m=Yx d a m i (m.fields.drop i)->Q [(1,.loc 1 0),(2,.loc 2 0),(4,.d (.msl b 0 (I d.msgs) (I d.msgs) 1)),(5,.d (.i a)),(6,.loc 6 0),(7,.d (.i i))] [(1,d.cells),(2,[.i 0,.i 0,.i 0]),(6,m.cells)] (st.upd b (.cells (Js (deps++List.replicate (I d.msgs-a) 0))))) (λn ac=>?_) λax=>?_);intro i hni hi hF;refine rx (nd2 @eQ3 (nd2 @eQ4 @eQ1)) ?_;refine cd (λh7=>?_) (λh7=>?_);simp at h7;rw[Yf h7,Yx]at hF;refine rx (nd2 @eQ2 (nd2 @eQ3 (nd2 @eQ6 (nd2 @eQ4 @eQ1)))) ?_;have c9:=Zs4 d a i m (m.fields.getD i dE) h3 hm h7 rfl ω av;refine cl (c9) ?_;generalize hc:WY d a m i (m.fields.getD i dE)=c at *;refine rg ?_;refine cd (λh8=>?_) (λh8=>?_);simp only[decide_not,Bool.not_eq_true',decide_eq_false_iff_not]at h8;rw[if_neg h8]at hF;rw[hF]at o;refine rg ?_;refine rt r ?_;rw[o];rfl;simp only[decide_not,Bool.not_eq_false',decide_eq_true_eq]at h8;rw[if_pos h8]at hF;refine gA ?_;refine Za ?_;exact ac ((I m.fields)-(i+1)) ω (i+1) rfl ω hF;simp at h7;obtain rfl:i=I m.fields:=ω;rw[List.drop_length,Yx]at hF;have al:=Ztn hm hF;have aj:=al.ref;have ai:=al.few;rw[hm]at aj ai;rw[hF]at o;simp only at o;have aw:∀j,j<a+1->ZkX d j:=λj hj=>by rcases Nat.lt_or_eq_of_le (Nat.le_of_lt_succ hj) with h|rfl;exact av j h;exact al
 have au:=QS (m.fields.flatMap Ya) [];rw[show(m.fields.flatMap Ya).foldl Jr []=Y9 m from rfl]at au;simp only[List.length_nil,Nat.zero_add]at au;refine rx @eQ3 ?_;refine cl (ZiY m ai) ?_;have hD:Zeh d a deps m=Zbn d a deps 0 (Y9 m)+1:=rfl;generalize hrs:Y9 m=rs at *;have ar:List.replicate (I d.msgs-a) (0:Int)=0::List.replicate (I d.msgs-(a+1)) 0:=by rw[show (I d.msgs)-a=(I d.msgs-(a+1))+1 by omega,List.replicate_succ]
 rw[ar];generalize hz:List.replicate (I d.msgs-(a+1)) (0:Int)=z;have hzl:I z=I d.msgs-(a+1):=by rw[<-hz,List.length_replicate]
 refine rg ?_;refine Zb ?_;refine fr (I rs) (λq Q=>q<=I rs->Q [(1,.loc 1 0),(2,.loc 2 0),(4,.d (.msl b 0 (I d.msgs) (I d.msgs) 1)),(5,.d (.i a)),(9,.d (WS rs)),(10,.d (.i q))] [(1,d.cells),(2,[.i 0,.i 0,.i 0])] (st.upd b (.cells (Js (deps++Zbn d a deps 0 (rs.take q)::z))))) (λn ad=>?_) λay=>?_;intro q hnq hq;refine rx (nd2 @WS.eq_1 @eQ1) ?_;refine cd (λh9=>?_) (λh9=>?_);simp at h9;have a0:=aj _ (Zr h9);have a1:Zm d (rs.getD q dE) a<a:=by have:=YC (λm:Msg=>dC (m.name=rs.getD q dE)) (d.msgs.take a);rw[ZIa]at this;unfold Zm;omega
 have a6:=ZtN (d:=d) (at_:=a) (deps:=deps) (b:=0) h9;generalize Zbn d a deps 0 (rs.take q)=X at *;have ag:(Js (deps++X::z))[a]?=sO (.i X):=by rw[Zh5 (by simp;omega),ZgS ab]
 have af:(Js (deps++X::z)).length=I d.msgs:=by rw[ZgO];simp;omega
 have az:(Zm d (rs.getD q dE) a).toNat<I deps:=by rw[ab];generalize Zm d (rs.getD q dE) a=u at a0 a1⊢;omega
 have a4:(Js (deps++X::z))[(Zm d (rs.getD q dE) a).toNat]?=sO (.i (deps.getD (Zm d (rs.getD q dE) a).toNat dE)):=by rw[Zh5 (by rw[ZHX];omega),Zq9 az]
 refine xA (nd2 @eQ2 (nd2 @eQ6 (nd2 @WS.eq_1 (nd2 @eQ1 (nd2 @ag (nd2 @af (nd2 @ZHW (nd2 @ZH7 @Nat.mul_one)))))))) ?_;have c9:=WG d (rs.getD q dE) a ω;refine cXD (nd2 @a4 (nd2 @af (nd2 @ag (nd2 @ZHW (nd2 @ZH7 @Nat.mul_one))))) (c9) ?_;refine aa ?_;rw[Zsi (by rw[ZHX,ZH3];omega),Zox ab,<-a6];refine gA ?_;refine Za ?_;exact ad ((I rs)-(q+1)) ω (q+1) rfl ω;simp at h9;obtain rfl:q=I rs:=ω;rw[ZIb];have hbd:=Zsj (d:=d) (at_:=a) ao rs (b:=0) ω ω;rw[hD]at o;generalize Zbn d a deps 0 rs=X at *;have ag:(Js (deps++X::z))[a]?=sO (.i X):=by rw[Zh5 (by rw[ZHX,ZH3];omega),ZgS ab]
 have af:(Js (deps++X::z)).length=I d.msgs:=by rw[ZgO,ZHX,ZH3];omega
 have aq:(Js (deps++(X+1)::z))[a]?=sO (.i (X+1)):=by rw[Zh5 (by rw[ZHX,ZH3];omega),ZgS ab]
 have an:(Js (deps++(X+1)::z)).length=I d.msgs:=by rw[ZgO,ZHX,ZH3];omega
 refine xA (nd2 @ag (nd2 @af (nd2 @ZHW (nd2 @ZH7 @Nat.mul_one)))) ?_;rw[Zsi (by rw[ZHX,ZH3];omega),Zox ab];refine xA (nd2 @aq (nd2 @an (nd2 @ZHW (nd2 @ZH7 @Nat.mul_one)))) ?_;refine cd (λae=>?_) (λae=>?_);rw[if_pos (by simpa using ae)]at o;refine rg ?_;refine rt r ?_;rw[o];rfl;rw[if_neg (by simpa using ae)]at o;simp only[decide_eq_false_iff_not]at ae;refine gA ?_;have a5:deps++(X+1)::z=(deps++[X+1])++List.replicate (I d.msgs-(a+1)) 0:=by rw[hz];simp
 rw[a5];have ap:∀x∈deps++[X+1],0<=x/\x<=16:=by intro x hx;rcases List.mem_append.1 hx with h|h;exact ao x h;simp at h;omega
 refine Za ?_;exact ah ((I d.msgs)-(a+1)) ω (a+1) rfl (deps++[X+1]) (by simp;omega) ω o ap aw;exact ay _ 0 rfl ω;exact ax _ 0 rfl ω hF;simp at h3;obtain rfl:a=I d.msgs:=ω;rw[List.drop_length,Qq]at o;refine rx (nd2 @eQ2 (nd2 @eQ6 @eQ1)) ?_;have c9:=WG d d.start (I d.msgs) ω;refine cl (c9) ?_;refine cd (λh4=>?_) (λh4=>?_);rw[if_pos (by simpa using h4)]at o;refine rg ?_;refine rt r ?_;rw[o];rfl;rw[if_neg (by simpa using h4)]at o;refine rg ?_;refine rt r ?_;rw[o];rfl;exact a7 _ 0 rfl [] rfl ω hS ψ ψ
def Zl2{α:Type}[Inhabited α]{p:α->Bool}{l:List α}{n:Nat}(h:0<=Zl p (l.take n)):Zl p l=Zl p (l.take n):=by
 have o:=Q6 h;have r:=YC p (l.take n);rw[ZIa]at r;have h3:=Wv (p:=p) (l:=l) (i:=(Zl p (l.take n)).toNat) ω (by rw[<-W8 (n:=n) ω];exact o.1) (λj t=>by rw[<-W8 (n:=n) ω];exact o.2 j t);omega
def ZvA{d:Dfn}{s:Str}{n:Nat}(h:0<=Zm d s n):Zm d s (I d.msgs)=Zm d s n/\Zm d s n<n/\Zm d s n<I d.msgs:=by
 unfold Zm at *;have i:=YC (λm:Msg=>dC (m.name=s)) (d.msgs.take n);rw[ZIa]at i;refine⟨?_,ω,ω⟩;rw[ZIb];exact Zl2 h
def Zpd{d:Dfn}{at_:Nat}{l:List Msg}{deps:List Int}(h:Qq d at_ l deps=nO):(∀i,i<I l->WV d (at_+i) (l.getD i dE)=nO)/\0<=Zm d d.start (I d.msgs):=by
 induction l generalizing at_ deps with
 |nil =>simp only[Qq]at h;split at h;simp at h;exact⟨λi o=>by simp at o,ω⟩
 |cons m r ih =>
  simp only[Qq]at h;split at h;simp at h;rename_i hm;split at h;simp at h;have t:=ih h;refine⟨λi o=>?_,t.2⟩;cases i with
  |zero=>simpa using hm
  |succ i =>have:=t.1 i (by simpa using o);simpa[Nat.add_assoc,Nat.add_comm 1 i]using this
structure Qa(d:Dfn):Prop where
 many:I d.msgs<=60
 start:0<=Zm d d.start (I d.msgs)
 flaw:∀i,i<I d.msgs->WV d i (d.msgs.getD i default)=none
def ZkL{d:Dfn}(h:Zb8 d=true):Qa d:=by
 unfold Zb8 ZbX at h;split at h;simp at h;split at h;simp at h;rename_i o;simp only[ZId,decide_eq_true_eq,not_or,Nat.not_lt]at o;simp only[Option.isNone_iff_eq_none]at h;have:=Zpd h;refine⟨ω,this.2,λi r=>by simpa using this.1 i r⟩
def ZnY{s:Str}(h:Yl s=true):I s<=32:=by
 unfold Yl at h;split at h;simp;simp only[ZH1,decide_eq_true_eq]at h;exact h.1.1
structure ZdV(d:Dfn)(j:Nat)(m:Msg):Prop where
 name:I m.name<=32
 many:I m.fields<=40
 field:∀i,i<I m.fields->WY d j m i (m.fields.getD i default)=0
def ZmP{d:Dfn}{j:Nat}{m:Msg}{k:Nat}{l:List Fld}(h:Yx d j m k l=nO):∀i,i<I l->WY d j m (k+i) (l.getD i dE)=0:=by
 induction l generalizing k with
 |nil=>intro i o;simp at o
 |cons f r ih =>
  simp only[Yx]at h;split at h
  .rename_i t;intro i o;cases i with
   |zero=>simpa using t
   |succ i=>have:=ih h i (by simpa using o);simpa[Nat.add_assoc,Nat.add_comm 1 i]using this
  simp at h
def Zy5{d:Dfn}{j:Nat}{m:Msg}(h:WV d j m=nO):ZdV d j m:=by
 unfold WV at h;split at h;· simp at h
 rename_i o;split at h;· simp at h
 split at h;· simp at h
 rename_i r;simp only[ZId,decide_eq_true_eq,not_or,Nat.not_lt]at r;exact⟨ZnY (by simpa using o),ω,λi t=>by simpa using ZmP h i t⟩
structure Zvl(d:Dfn)(j:Nat)(f:Fld):Prop where
 name:I f.name<=32
 ref:∀s∈Ya f,0<=Zm d s (I d.msgs)/\Zm d s (I d.msgs)<j
 cases:f.cases≠[]->f.kind=9
def Zuv{f:Fld}(h1:1<=f.kind)(h2:f.kind<=12)(h:Zd8 f=true)(o:f.cases≠[]):f.kind=9:=by
 have hk:f.kind=1\/f.kind=2\/f.kind=3\/f.kind=4\/f.kind=5\/f.kind=6\/f.kind=7\/f.kind=8\/f.kind=9\/f.kind=10\/f.kind=11\/f.kind=12:=ω;simp only[Zd8,ZH1]at h;have i:=h.2.2;rcases hk with hk|hk|hk|hk|hk|hk|hk|hk|hk|hk|hk|hk<;>rw[hk]at i⊢<;>simp[zrC,Ze6,Zwn,Qt,o]at i<;>rfl
def ZyI{d:Dfn}{j i:Nat}{m:Msg}{f:Fld}(h:WY d j m i f=0):Zvl d j f:=by
 have o:=Zqj h;unfold WY at h;split at h;· omega
 rename_i r;split at h;· omega
 split at h;· omega
 rename_i hk;split at h;· omega
 rename_i hz;simp only[ZId,decide_eq_true_eq,not_or,Int.not_lt]at hk;refine⟨ZnY (by simpa using r),λs hs=>?_,λu=>Zuv ω ω (by simpa using hz) u⟩;have t:=o.2 s hs;have h4:=ZvA t;exact⟨ω,ω⟩
def Qa.msg{d:Dfn}(h:Qa d){j:Nat}(i:j<I d.msgs):ZdV d j (d.msgs.getD j dE):=Zy5 (h.flaw j i)
def Qa.fld{d:Dfn}(h:Qa d){j i:Nat}(r:j<I d.msgs)(o:i<(d.msgs.getD j dE).fields.length):Zvl d j ((d.msgs.getD j dE).fields.getD i dE):=ZyI ((h.msg r).field i o)
end Go.DL
namespace Go.DL
open Go
variable {kp:Option (List Nat)}{L:Loc}{H:Env}{s:St}{w:World}{os:List DOp}{ds:List D}{B:List (Nat × Rd)}{dst:Option Nat}{tmps:Array Value}{g:G}{Φ:Res->St->Prop}{Z:Nat->Nat}{xs:List Opd}{side:Prop}{row:Nat->List D}
def ixS(d:Dfn)(s:Str):Nat:=(Zm d s (I d.msgs)).toNat
open Go.Proofs
def upS(v of:Int):Int:=((v+of)-1).tdiv of*of
def ZBR{v of}(hv:-2000<=v/\v<=2000)(ho:1<=of/\of<=1000):(-4000<=((v+of)-1).tdiv of/\((v+of)-1).tdiv of<=4000)/\-5000<=upS v of/\upS v of<=5000:=by
 unfold upS;have i:=Int.mul_tdiv_add_tmod (v+of-1) of;have h2:=Int.tmod_lt_of_pos (v+of-1) (show 0<of by omega);have h3:=Int.lt_tmod_of_pos (v+of-1) (show 0<of by omega);rw[Int.mul_comm]at i;generalize (v+of-1).tmod of=r at *;generalize (v+of-1).tdiv of=q at *;have h4:-4000<=q*of/\q*of<=4000:=ω;refine⟨?_,ω⟩;rcases Int.lt_trichotomy q 0 with hq|hq|hq;have:=Int.mul_le_mul_of_nonneg_left (show(1:Int)<=of by omega) (show 0<=-q by omega);simp only[Int.neg_mul,Int.mul_one]at this;omega;omega;have:=Int.mul_le_mul_of_nonneg_left (show(1:Int)<=of by omega) (show 0<=q by omega);omega
def ZtJ{v of}(t:-2000<=v/\v<=2000)(r:1<=of/\of<=1000):Zc ZHP 152 [.i v,.i of] (.i (upS v of)):=by
 have hb:=ZBR t r;have o:((v+of)-1).tdiv of*of=upS v of:=rfl;refine Ze (cR 152 f152) λF st i=>?_;refine gG ?_;generalize ((v+of)-1).tdiv of=q at *;rw[o];generalize upS v of=u at *;refine aa ?_;refine ri i ?_;rfl
structure Zhc(f:Fld):Prop where
 num:f.kind=1\/f.kind=2->-1000<=f.bits/\f.bits<=1000
 pad:f.kind=10->1<=f.bits/\f.bits<=1000
def Jq(f:Fld)(o:Int):Int:=if f.kind=1\/f.kind=2 then (o+f.bits).tmod 8 else if f.kind=10 then (upS o f.bits).tmod 8 else 0
def YH(l:List Fld):Nat->Int
 |0=>0
 |i+1=>Jq (l.getD i dE) (YH l i)
def Zy6{f o}:-8<Jq f o/\Jq f o<8:=by
 have h:∀x:Int,-8<x.tmod 8/\x.tmod 8<8:=λx=>⟨Int.lt_tmod_of_pos x (by decide),Int.tmod_lt_of_pos x (by decide)⟩;unfold Jq;split;exact h _;split;exact h _;omega
def Zpu(l i):-8<YH l i/\YH l i<8:=by
 cases i with
 |zero=>simp[YH]
 |succ i=>exact Zy6
def ZmA(f:Fld){o}(ho:-2000<=o/\o<=2000)(hb:-1000<=f.bits/\f.bits<=1000):Zc ZHP 283 [.agg f.cells,.i o] (.i (o+f.bits)):=by
 refine Ze (cR 283 f283) λF st i=>?_;refine rx @eQ0 ?_;refine xA @eQ0 ?_;refine ri i ?_;rfl
def ZmB(f:Fld){o}(t:-2000<=o/\o<=2000)(r:1<=f.bits/\f.bits<=1000):Zc ZHP 284 [.agg f.cells,.i o] (.i (upS o f.bits)):=by
 refine Ze (cR 284 f284) λF st i=>?_;refine rx @eQ0 ?_;refine rx @eQ0 ?_;refine cl (ZtJ t r) ?_;refine ri i ?_;rfl
def ZrR:List (D×D):=[(.i 1,.fn (.func 283) [] []),(.i 2,.fn (.func 283) [] []),(.i 10,.fn (.func 284) [] [])]
def Zhi{st}:Zf ZHP 229 [] st λr S=>∃b,st b=nO/\r=.ret (.map b)/\S=st.upd b (.map ZrR):=by
 refine Zh (cR 229 f229) λF i=>?_;refine gG ?_;refine rh ?_;refine Zk ?_;simp only[Eqs,reduceCtorEq,ZHV,reduceIte,ZHR,ZHY,ZHS,ZbD,K6,YT,ZHW,ZH7,Yv,Yw,decide_false,ZIt,ite_false];intro b o;exact i.ret _ _ rfl φ (ZHT _) ZHU ⟨b,o,rfl,rfl⟩
def Zcb(k:Int):Bool:=dC (k=1) ||(dC (k=2) ||decide (k=10))
def ZeW(k:Int):D:=if k=1 then .fn (.func 283) [] [] else if k=2 then .fn (.func 283) [] [] else if k=10 then .fn (.func 284) [] [] else .nilfn
def ZnL(k):ZeO (.sc .int) (.i k) ZrR=sO (if Zcb k then sO (ZeW k) else nO):=by
 simp only[ZrR,ZeO,K6,YT,if_true,Zcb,ZeW];by_cases i:k=1;simp[i];by_cases o:k=2;simp[o];by_cases r:k=10;simp[r];simp[i,o,r]
def Zqu(k):WU .nilfn true (if Zcb k=true then sO (ZeW k) else nO)=.tup [ZeW k,.bool (Zcb k)]:=by
 unfold Zcb ZeW;by_cases i:k=1;simp[i,WU];by_cases o:k=2;simp[o,WU];by_cases r:k=10;simp[r,WU];simp[i,o,r,WU]
def Je(f:Fld):Bool:=!Zcb f.kind ||f.little
def Zo7(f){st}:ZL ZHP 231 [.agg f.cells] st (.bool (Je f)) st:=by
 refine ZE (cR 231 f231) λr F i=>?_;clear r;refine rx @eQ0 ?_;refine rx @eQ0 ?_;refine cVD Zhi ?_ ?_;rintro d S ⟨b,u,t,rfl⟩;cases t;refine⟨by simp[Wo,Qv,Wk,Zcu],?_⟩;have o:=ZnL f.kind;refine gQ (nd2 @o (nd2 @ZHW @Zqu)) ?_;refine rx @eQ0 ?_;exact i rfl φ (by unfold Je;cases Zcb f.kind<;>exact ZHT _) (ZIg _ u);rintro d S ⟨b,u,t,_⟩;cases t
def ZvS(l:List Fld)(j:Nat):List D:=[.i j,.i (YH l j)]
def Zed(l)(hl:I l<=1000)(hb:∀f∈l,Zhc f)(x):Zdy ZHP (.fn (.func 228) [] [.ptr x 0]) (I l+1) (ZvS l) (ZIk x (.cells [Zp l])):=by
 intro y go A a0 ah hA hd;refine Zf.V (first:=[]) (args:=[y]) (caps:=[.ptr x 0]) (Zh (cR 228 f228) λF hF=>?_);have hx:∀a,Z7 a (ZIk x (.cells [Zp l]))->(a.or (ZIk x (.cells [Zp l]))) x=sO (.cells [Zp l]):=λa am=>by rw[Zz (am x _ Yt),Yt]
 generalize hT:ZIk x (.cells [Zp l])=T at *;refine rg ?_;refine rh ?_;refine Zk ?_;simp only[Eqs,reduceCtorEq,ZHV,reduceIte,ZHR,ZHY,ZHS,hx a0 hd,Zp,slD];refine Zb (fr (I l) (λj Q=>∀a,A j a->Z7 a T->(∀i,i<j->go i=.next)->j<=I l->Q [(0,.d y),(1,.d (.ptr x 0)),(3,.d (.i (YH l j))),(8,.d (Zp l)),(9,.d (.i (I l))),(10,.d (.i j))] [] (a.or T)) (λn ab=>?_) λao=>?_)
 .clear hA hd;intro j hn a hA hd u hj;refine rg ?_;have ac:=(ah j ω u a hA).frame hd;unfold ZvS at ac;have ho:=Zpu l j;refine Zd (Zj rfl trivial (λh1=>?_) (λh1=>?_))
  .simp at h1;have al:=hb (l.getD j dE) (by simp[ZH6,h1]);have ak:YH l (j+1)=Jq (l.getD j dE) (YH l j):=rfl;generalize hg:l.getD j dE=g at *;refine xA (nd2 @eQ4 (nd2 @eQ1 (nd2 @hg @eQ0))) ?_;refine rg ?_;refine vV (ac) ?_ ?_
   .rintro d S ⟨s',⟨hr,r⟩,ad,rfl⟩;cases o:go j with
    |next =>
     rw[o]at hr;cases hr;refine gR0 ?_;refine i0 ?_;refine rx @eQ0 ?_;refine cVD Zhi ?_ ?_;rintro d S ⟨b,ae,ai,rfl⟩;cases ai;have an:=ZnL g.kind;refine⟨by simp[Wo,Qv,Wk,Zcu],?_⟩;refine gQ (nd2 @an (nd2 @ZHW @Zqu)) ?_;refine rg ?_;have h8:=Zpu l (j+1);refine cd (λhk=>?_) (λhk=>?_);by_cases af:g.kind=10;have aj:ZeW g.kind=.fn (.func 284) [] []:=by simp[ZeW,af]
     have t:(upS (YH l j) g.bits).tmod 8=YH l (j+1):=by rw[ak,Jq,if_neg ω,if_pos af]
     rw[<-t]at h8;rw[aj];refine rx @eQ0 ?_;refine Zvi rfl rfl rfl rfl rfl φ φ (by exact(ZmB g ω (al.pad af)).VT (first:=[]) (args:=[_,_]) (caps:=[]) _) (Zk ?_);simp only[Eqs,reduceCtorEq,ZHV,reduceIte,ZHR,ZHY,ZHS];refine aa ?_;rw[t];refine gA ?_;refine Ww (ZIg _ ae) ?_;refine Za ?_;exact ab ((I l)-(j+1)) ω (j+1) rfl s' r ad (ZV (q:=λi=>go i=.next) u o) ω;have ag:g.kind=1\/g.kind=2:=by simp only[Zcb,ZId,decide_eq_true_eq]at hk;omega
     have aj:ZeW g.kind=.fn (.func 283) [] []:=by rcases ag with h|h<;>simp[ZeW,h]
     have t:(YH l j+g.bits).tmod 8=YH l (j+1):=by rw[ak,Jq,if_pos ag]
     rw[<-t]at h8;rw[aj];refine rx @eQ0 ?_;refine Zvi rfl rfl rfl rfl rfl φ φ (by exact(ZmA g ω (al.num ag)).VT (first:=[]) (args:=[_,_]) (caps:=[]) _) (Zk ?_);simp only[Eqs,reduceCtorEq,ZHV,reduceIte,ZHR,ZHY,ZHS];refine aa ?_;rw[t];refine gA ?_;refine Ww (ZIg _ ae) ?_;refine Za ?_;exact ab ((I l)-(j+1)) ω (j+1) rfl s' r ad (ZV (q:=λi=>go i=.next) u o) ω;have t:(0:Int)=YH l (j+1):=by simp only[Zcb,Bool.or_eq_false_iff,decide_eq_false_iff_not]at hk;rw[ak,Jq,if_neg ω,if_neg ω]
     refine rg ?_;refine gA ?_;rw[show(D.int IntKind.i64 0)=.i (YH l (j+1)) by rw[<-t]];refine Ww (ZIg _ ae) ?_;refine Za ?_;exact ab ((I l)-(j+1)) ω (j+1) rfl s' r ad (ZV (q:=λi=>go i=.next) u o) ω;rintro d S ⟨b,ae,ai,_⟩;cases ai
    |stop c =>rw[o]at hr;cases hr;refine gR0 ?_;refine i1 ?_;exact hF.ret (.tup []) _ rfl trivial (ZHT _) ZHU ⟨s',.stop j c ω u o r,KK⟩
    |pan d=>rw[o]at hr;cases hr
   rintro d S ⟨s',⟨hr,r⟩,ad,rfl⟩;cases o:go j with
   |pan d' =>rw[o]at hr;cases hr;exact hF.pan _ ZHU ⟨s',.pan j d ω u o r,KK⟩
   |next=>rw[o]at hr;cases hr
   |stop c=>rw[o]at hr;cases hr
  simp at h1;obtain rfl:j=I l:=ω;refine rh ?_;refine Zk ?_;simp only[Eqs,reduceCtorEq,ZHV,reduceIte,ZHR,ZHY,ZHS,hx a hd,Zp,slD];refine vV (ac) ?_ ?_
  .rintro d S ⟨s',⟨hr,r⟩,ad,rfl⟩;cases o:go (I l) with
   |next =>rw[o]at hr;cases hr;refine gR0 ?_;exact hF.fin (.tup []) _ rfl trivial (ZHT _) ZHU ⟨s',.all (ZV (q:=λi=>go i=.next) u o) r,KK⟩
   |stop c =>rw[o]at hr;cases hr;refine gR0 ?_;exact hF.fin (.tup []) _ rfl trivial (ZHT _) ZHU ⟨s',.stop (I l) c ω u o r,KK⟩
   |pan d=>rw[o]at hr;cases hr
  rintro d S ⟨s',⟨hr,r⟩,ad,rfl⟩;cases o:go (I l) with
  |pan d' =>rw[o]at hr;cases hr;exact hF.pan _ ZHU ⟨s',.pan (I l) d ω u o r,KK⟩
  |next=>rw[o]at hr;cases hr
  |stop c=>rw[o]at hr;cases hr
 exact ao _ 0 rfl a0 hA hd (by intro i hi;omega) ω
def Zfj(l st):Zf ZHP 177 [Zp l] st λr S=>∃x,st x=nO/\r=.ret (.fn (.func 228) [] [.ptr x 0])/\S=st.or (ZIk x (.cells [Zp l])):=by
 refine Zh (cR 177 f177) λF o=>?_;refine rx (nd2 @eQ4 @eQ1) ?_;refine Zd ?_;refine xP 1 λx i=>?_;refine rg ?_;exact o.ret _ _ rfl φ (ZHT _) ZHU ⟨x,i,rfl,QD i⟩
def ZtI(l)(hl:I l<=1000)(hb:∀f∈l,Zhc f)(k:Nat)(hk:k<=I l){st:St}:ZL ZHP 234 [Zp l,.i k] st (.i (YH l k)) st:=by
 refine Zh (cR 234 f234) λF hF=>?_;refine rx (nd2 @eQ4 @eQ1) ?_;refine rg ?_;rw[show(D.sl .none (I l) 15 λi=>(l.getD i dE).cells)=Zp l from rfl];refine cV (Zfj l st) ?_ ?_
 .rintro d S ⟨x,hx,hd,rfl⟩;cases hd;refine gR0 ?_;refine Zb ?_;refine xP 3 λz3 h3=>?_;refine xP 4 λz4 h4=>?_;have an:z3≠x:=λe=>by subst e;rw[Zz hx,Yt]at h3;simp at h3
  have ak:st z3=nO:=by
   cases h:st z3 with
   |none=>rfl
   |some o=>rw[Zt h]at h3;simp at h3
  have k4:=Zn h4;have ao:z4≠x:=λe=>by subst e;have:=k4.2;rw[Zz hx,Yt]at this;simp at this
  have al:st z4=nO:=by
   cases h:st z4 with
   |none=>rfl
   |some o=>have:=k4.2;rw[Zt h]at this;simp at this
  have hA:∀v,∃A:St,A=(st.upd z3 (.cells [.i k])).upd z4 (.cells [.i v])/\A z3=sO (.cells [.i k])/\A z4=sO (.cells [.i v])/\st.sub A/\A x=nO:=λv=>by refine⟨_,rfl,by rw[ZH0 _ _ (Ne.symm k4.1)];exact ZHW _ _ _,ZHW _ _ _,ZIu (ZIg _ ak) (ZIg _ (by rw[ZH0 _ _ k4.1];exact al)),?_⟩;rw[ZH0 _ _ (Ne.symm ao),ZH0 _ _ (Ne.symm an)];exact hx
  obtain⟨A0,e0,g3,g4,hsub0,am⟩:=hA 0;obtain⟨A1,e1,g3',ai,ad,hx1⟩:=hA (YH l k);have ae:A0.upd z4 (.cells [.i (YH l k)])=A1:=by rw[e0,e1,ZH7]
  have ah:(((st.or (ZIk x (.cells [Zp l]))).upd z3 (.cells [.i k])).upd z4 (.cells [.i 0]))=A0.or (ZIk x (.cells [Zp l])):=by
   rw[e0];funext c;by_cases c4:c=z4;subst c4;rw[ZHW,Zt (ZHW _ _ _)];rw[ZH0 _ _ c4];by_cases c3:c=z3;subst c3;rw[ZHW,Zt (by rw[ZH0 _ _ c4];exact ZHW _ _ _)];rw[ZH0 _ _ c3];show(match st c with|some o=>sO o|none=>_)=match ((st.upd z3 _).upd z4 _) c with|some o=>sO o|none=>_
   rw[ZH0 _ _ c4,ZH0 _ _ c3]
  rw[ah];clear ah hA;refine Qh hF rfl trivial [3,4] (by show([3,4]:List Nat).Nodup;decide) (Ko am) (Zed l hl hb x).Y (λj hj=>rfl)
   (λj=>if j=k then .stop .ret else .next) (λj a=>(j<=k/\a=A0)\/(k<j/\a=A1)) (.inl ⟨Nat.zero_le _,rfl⟩) ?_ ?_ ?_ ?_ ?_ ?_
  intro j a hj u hB F' ready busy hdr ag t;have hjk:j<=k:=by refine Nat.le_of_not_lt λh=>?_;have:=u k h;simp at this
  rcases hB with ⟨_,rfl⟩|⟨h,_⟩
  skip
  simp only[Eqs,reduceCtorEq,ZHV,reduceIte,ZHR,ZHY,ZHS,KG,K0,J8,Qj,List.isEmpty_nil,List.isEmpty_cons,ZvS];refine gG ?_;refine ag λac=>?_;refine rh ?_;refine Zk ?_;simp only[Eqs,reduceCtorEq,ZHV,reduceIte,ZHR,ZHY,ZHS,Zt g3];refine cd (λhc=>?_) (λhc=>?_);have ab:j=k:=by simp at hc;omega
  subst ab;rw[if_pos rfl]at t;refine rh ?_;refine Zk ?_;simp only[Eqs,reduceCtorEq,ZHV,reduceIte,ZHR,ZHY,ZHS,Zt g4,W5];rw[ae];exact t.ret ⟨rfl,.inr ⟨ω,rfl⟩⟩ (λb o af=>by rw[<-ae,ZH0 _ _ (λe=>by subst e;rw[ac _ o af]at g4;simp at g4)];exact ac b o af) ZHU;have ab:j≠k:=by simp at hc;omega
  rw[if_neg ab]at t;refine Zo (Zi ?_);exact t.fin ⟨rfl,.inl ⟨ω,rfl⟩⟩ ac ZHU;omega;intro q a u hB hq;have:=u k ω;simp at this;intro q a m hm u r hB hq;have aj:m=k:=by split at r;assumption;simp at r
  subst aj;rcases hB with ⟨h,_⟩|⟨_,rfl⟩;omega;rw[QD hq];exact hF.ret1 hq (.i (YH l m)) st (by simp only[Eqs,reduceCtorEq,ZHV,reduceIte,ZHR,ZHY,ZHS,YP,K7,ai];rfl) φ (ZHT _) ad ⟨rfl,rfl⟩;intro q a m id hm u r;split at r<;>simp at r;intro q a m d hm u r;split at r<;>simp at r;intro m c r;split at r<;>simp at r;exact .inl r.symm
 rintro d S ⟨x,hx,hd,_⟩;cases hd
def W9(l:List Fld)(i:Nat):Bool:=if i=I l then !dC (YH l i=0) else !(dC (YH l i=0)||!Je (l.getD i dE))||!(!dC ((l.getD i dE).kind=11) ||decide (YH l (max (Zl (λx=>dC (x.name=(l.getD i dE).from_)) l) 0).toNat=0))
def ZmC{st a c o f}(ha:st a=sO (.cells [.i o]))(hc:st c=sO (.cells f.cells)):ZL ZHP 230 [.ptr a 0,.ptr c 0] st (.bool (dC (o=0)||!Je f)) st:=by
 refine ZE (cR 230 f230) λr F i=>?_;clear r;by_cases t:o=0;subst t;refine rg ?_;refine rx (nd2 @ha @hc) ?_;refine Jv rfl (e:=.d (.bool false)) (Zk ?_);simp only[Eqs,reduceCtorEq,ZHV,reduceIte,ZHR,ZHY,ZHS];exact i rfl ψ (ZHT _) ZHU;have u:dC (o=0)=false:=decide_eq_false t;rw[u,Bool.false_or]at i;refine rg ?_;refine rx (nd2 @ha (nd2 @hc (nd2 @u @eQ0))) ?_;refine ZaA rfl rfl rfl rfl rfl φ φ (by exact Zo7 f) (Zk ?_);simp only[Eqs,reduceCtorEq,ZHV,reduceIte,ZHR,ZHY,ZHS];exact i rfl ψ (by cases Je f<;>exact ZHT _) ZHU
def okF(l):Qb (Zp l)=true:=rfl
def ceF(l):cellsOf (Zp l)=[Zp l]:=rfl
def ZmD{st a c l}(hl:I l<=1000)(hb:∀f∈l,Zhc f){f:Fld}(u:st a=sO (.cells [Zp l]))(hc:st c=sO (.cells f.cells))(hpos:0<I l):
  ZL ZHP 232 [.ptr a 0,.ptr c 0] st (.bool (!dC (f.kind=11) ||decide (YH l (max (Zl (λx=>dC (x.name=f.from_)) l) 0).toNat=0))) st:=by
 refine ZE (cR 232 f232) λr F i=>?_;clear r;have hq1:=YC (λx=>dC (x.name=f.from_)) l;have hq0:=K4 (λx:Fld=>dC (x.name=f.from_)) l;have o:D.agg [.str [],Zp l]=.agg (Msg.mk [] l).cells:=rfl;refine rg ?_;refine rx (nd2 @u (nd2 @hc (nd2 @eQ0 (nd2 @okF @ceF)))) ?_;rw[o];refine cl (Zdk ⟨[],l⟩ f.from_) ?_;obtain⟨q,hq⟩:∃q:Nat,max (Zl (λx=>dC (x.name=f.from_)) l) 0=q:=⟨(max (Zl (λx=>dC (x.name=f.from_)) l) 0).toNat,ω⟩;simp only[hq,Int.toNat_natCast]at i⊢;by_cases h0:f.kind=11;have t:dC (f.kind=11)=true:=decide_eq_true h0;rw[t,Bool.not_true,Bool.false_or]at i;refine rx (nd2 @u (nd2 @hc (nd2 @eQ0 @t))) ?_;refine ZaA rfl rfl rfl rfl rfl φ φ (by exact ZtI l hl hb q ω) (Zk ?_);simp only[Eqs,reduceCtorEq,ZHV,reduceIte,ZHR,ZHY,ZHS];exact i rfl ψ (ZHT _) ZHU;have t:dC (f.kind=11)=false:=decide_eq_false h0;rw[t,Bool.not_false,Bool.true_or]at i;refine rx (nd2 @u (nd2 @hc (nd2 @eQ0 @t))) ?_;refine Jv rfl (e:=.d (.i 0)) (Zk ?_);simp only[Eqs,reduceCtorEq,ZHV,reduceIte,ZHR,ZHY,ZHS];exact i rfl ψ (ZHT _) ZHU
def Zfk{c v st}(h:VT ZHP c [] st (.bool v) st):ZL ZHP 236 [c] st (.bool (!v)) st:=by
 refine ZE (cR 236 f236) λo F i=>?_;clear o;refine gG ?_;refine cW (h) ?_;exact i rfl φ (ZHT _) ZHU
structure Ck where
 d:Dfn
 at_:Int
 field:Int
 m:Msg
def Ck.cells(k:Ck)(bd bs:Nat):List D:=[.str k.d.name,Z0 k.d.msgs,.str k.d.start,.map bd,.map bs,.i k.at_,.i k.field,.str k.m.name,Zp k.m.fields]
structure QI(st:St)(x bd bs:Nat)(k:Ck)(dl:List (Str×Int))(sl:List (Str×Bool)):Prop where
 x:st x=some (.cells (k.cells bd bs))
 bd:st bd=some (.map (KB dl))
 bs:st bs=some (.map (ZeN sl))
def QI.mono{st A x bd bs k dl sl}(h:QI st x bd bs k dl sl)(i:st.sub A):QI A x bd bs k dl sl:=⟨i _ _ h.x,i _ _ h.bd,i _ _ h.bs⟩
def Zeb(d:D):Prop:=∃a f c,d=.iface 136 (.agg [.i a,.i f,.i c])
def WM(ok:Bool)(st:St)(r:Res)(S:St):Prop:=S=st/\if ok then r=.ret (.tup []) else ∃d,Zeb d/\r=.panic d
def YN{ok st S d}(h:WM ok st (.ret d) S):ok=true/\d=.tup []/\S=st:=by
 obtain⟨o,i⟩:=h;cases ok with
 |true=>simp at i;exact⟨rfl,i,o⟩
 |false=>simp at i
def YM{ok st S d}(h:WM ok st (.panic d) S):ok=false/\Zeb d/\S=st:=by
 obtain⟨o,i⟩:=h;cases ok with
 |true=>simp at i
 |false=>simp at i;exact⟨rfl,i,o⟩
def ZbR{ok st}(h:ok=true):WM ok st (.ret (.tup [])) st:=by subst h;exact⟨rfl,rfl⟩
def Wt{ok st d}(h:ok=false)(i:Zeb d):WM ok st (.panic d) st:=by subst h;exact⟨rfl,d,i,rfl⟩
def Zic(a f c:Int):D:=.iface 136 (.agg [.i a,.i f,.i c])
def Zsp{a f c}:Zeb (Zic a f c):=⟨a,f,c,rfl⟩
def Zgu{x bd bs}{k:Ck}{st}(t:st x=sO (.cells (k.cells bd bs)))(fine code):Zf ZHP 281 [.ptr x 0,.bool fine,.i code] st (λr S=>S=st/\r=if fine then .ret (.tup []) else .panic (Zic k.at_ k.field code)):=by
 refine Zh (cR 281 f281) λF o=>?_;refine rg ?_;refine cd (λh=>?_) (λh=>?_);have i:fine=false:=by simpa using h
 refine rx (nd2 @t @Ck.cells.eq_1) ?_;refine Zvg rfl rfl rfl trivial ?_;exact o.pan st ZHU ⟨rfl,by rw[i];rfl⟩;have i:fine=true:=by simpa using h
 refine Zo ?_;exact o.fin (.tup []) st rfl trivial (ZHT _) ZHU ⟨rfl,by rw[i];rfl⟩
def ZZ{x bd bs}{k:Ck}{st}(t:st x=sO (.cells (k.cells bd bs)))(fine code):Zf ZHP 281 [.ptr x 0,.bool fine,.i code] st (WM fine st) :=
 (Zgu t fine code).mono λr S ⟨o,i⟩=>by
  subst o;cases fine with
  |true=>exact⟨rfl,i⟩
  |false=>exact⟨rfl,_,Zsp,i⟩
def Zm0(o:Option Int):WU (.i 0) true (o.map Y7)=.tup [.i (o.getD 0),.bool o.isSome]:=by cases o<;>rfl
def Zn4(o:Option (Int×Int)):WU (.agg [.i 0,.i 0]) true (o.map QT)=.tup [.agg [.i (o.getD (0,0)).1,.i (o.getD (0,0)).2],.bool o.isSome]:=by cases o<;>rfl
def Zdl{x bd bs k dl sl st}(r:QI st x bd bs k dl sl)(name):Zf ZHP 362 [.ptr x 0,.str name] st (WM (Zv name dl).isSome st):=by
 refine Zh (cR 362 f362) λF hF=>?_;have t:=YR (vD:=Y7) ZS name dl;have u:=Y8 ZS name;simp only[show K5 name=D.str name from rfl]at t u;refine rh ?_;refine Zk ?_;simp only[Eqs,reduceCtorEq,ZHV,reduceIte,ZHR,ZHY,ZHS,r.x,r.bd,Ck.cells,t,u,Zm0];refine rg ?_;refine cV (ZZ r.x (Zv name dl).isSome 8) ?_ ?_;rintro d S h;obtain⟨i,rfl,rfl⟩:=YN h;refine gR0 ?_;exact hF.fin (.tup []) S rfl trivial (ZHT _) ZHU (ZbR i);rintro d S h;obtain⟨i,o,rfl⟩:=YM h;exact hF.pan S ZHU (Wt i o)
def Jj{x bd bs}{k:Ck}{st}(hx:st x=sO (.cells (k.cells bd bs))){n:Nat}(u:k.field=n)(hl:n<=I k.m.fields):ZL ZHP 329 [.ptr x 0] st (Zp (k.m.fields.take n)) st:=by
 refine ZE (cR 329 f329) λt F o=>?_;clear t;refine rg ?_;refine rx (nd2 @hx (nd2 @Ck.cells.eq_1 (nd2 @eQ4 (nd2 @eQ1 @u)))) ?_;refine⟨ω,ω,ω,?_⟩;rw[ite_self];have r:Zy Fld.cells (λi=>(k.m.fields.getD i dE).cells) (k.m.fields.take n):=Zy.self.take n;exact o rfl φ (K1 (r.le (by rw[ZIa];omega))) ZHU
def YB:Int->Int->List Int->Bool
 |_,_,[]=>true
 |low,high,n::r=>dC (low<=n)&&dC (n<=high)&&YB n high r
def ZfP{x bd bs}{k:Ck}{st}(hx:st x=sO (.cells (k.cells bd bs)))(low high l):Zf ZHP 349 [.ptr x 0,.i low,.i high,slD 1 inC l] st (WM (YB low high l) st):=by
 refine ZaS (cR 349 f349) λt F hF=>?_;have hw:=(Y4 (t (slD 1 inC l) ψ)).1;unfold big at hw;clear t;refine rx @eQ1 ?_;refine Zb (fr (I l) (λi Q=>∀lo,YB low high l=YB lo high (l.drop i)->i<=I l->Q [(0,.d (.ptr x 0)),(1,.d (.i lo)),(2,.d (.i high)),(10,.d (slD 1 inC l)),(11,.d (.i (I l))),(12,.d (.i i))] [] st) (λn o=>?_) λab=>?_);intro i hn lo hS hi;refine rg ?_;refine Zd (Zj rfl trivial (λh1=>?_) (λh1=>?_));simp at h1;rw[Yf h1,YB]at hS;generalize hv:l.getD i dE=v at *;refine xA (nd2 @eQ1 (nd2 @inC.eq_1 @hv)) ?_;refine rg ?_;refine cV (ZZ hx (dC (lo<=v)&&dC (v<=high)) 7) ?_ ?_;rintro d S h;obtain⟨r,rfl,rfl⟩:=YN h;rw[r,ZIf]at hS;refine gR0 ?_;refine rg ?_;refine gA ?_;refine Za ?_;exact o ((I l)-(i+1)) ω (i+1) rfl v hS ω;rintro d S h;obtain⟨r,u,rfl⟩:=YM h;rw[r,ZIl]at hS;exact hF.pan S ZHU (Wt hS u);simp at h1;obtain rfl:i=I l:=ω;rw[List.drop_length,YB]at hS;refine ZG rfl ?_;exact hF.fin (.tup []) st rfl trivial (ZHT _) ZHU (ZbR hS);exact ab _ 0 rfl low rfl ω
def ZdW(f:Fld):Bool:=dC (1<=f.bits)&&dC (f.bits<=32)&&(!f.little ||(dC (8<f.bits)&&dC (f.bits.tmod 8=0)))
def ZhF{x bd bs}{k:Ck}{st}(t:st x=sO (.cells (k.cells bd bs)))(f):Zf ZHP 348 [.ptr x 0,.agg f.cells] st (WM (ZdW f) st):=by
 refine Zh (cR 348 f348) λF r=>?_;refine rx @eQ0 ?_;refine rx @eQ0 ?_;have ht1:=Int.tmod_lt_of_pos f.bits (by decide:(0:Int)<8);have ht2:=Int.lt_tmod_of_pos f.bits (by decide:(0:Int)<8);refine⟨λ_=>⟨by decide,ω,ω⟩,?_⟩;refine cV (ZZ t (ZdW f) 6) ?_ ?_;rintro d S h;obtain⟨i,rfl,rfl⟩:=YN h;refine gR0 ?_;exact r.fin (.tup []) S rfl trivial (ZHT _) ZHU (ZbR i);rintro d S h;obtain⟨i,o,rfl⟩:=YM h;exact r.pan S ZHU (Wt i o)
abbrev Q0(fs:List Fld):Zyd:=Zap fs (I fs)
abbrev ivP(fs:List Fld)(s:JX):Int×Int×Int:=YU s λk=>Zv k (Q0 fs)
def Zc9(fs:List Fld)(t:YF):Bool:=(Zv t.field (Q0 fs)).isSome
def ZfQ(fs:List Fld)(s:JX):Bool:=ZU s&&(s.terms.all (Zc9 fs)&&(dC ((ivP fs s).2.2=0)&&dC (0<=(ivP fs s).1)&&dC ((ivP fs s).2.1<=1048576)))
def Zdm{x bd bs}{k:Ck}{st}(hx:st x=sO (.cells (k.cells bd bs))){n:Nat}(hn:k.field=n)(hl:n<=I k.m.fields)(f:Fld):
  Zf ZHP 355 [.ptr x 0,.agg f.cells] st (WM (ZfQ (k.m.fields.take n) f.size) st):=by
 refine Zh (cR 355 f355) λF hF=>?_;have hS:=ZfQ.eq_1 (k.m.fields.take n) f.size;generalize al:k.m.fields.take n=fs at *;refine rx @eQ0 ?_;refine rx @eQ0 ?_;have af:D.agg [D.int IntKind.i64 f.size.base,Z4 f.size.terms]=.agg f.size.cells:=rfl;simp only[af];refine clD (Zcm f.size) ?_;refine cVD (ZZ hx (ZU f.size) 9) ?_ ?_
 .rintro d S h;obtain⟨hv,rfl,rfl⟩:=YN h;rw[hv,ZIf]at hS;first|refine⟨by first|trivial|exact⟨rfl,rfl,trivial⟩|exact⟨rfl,trivial⟩,?_⟩|skip
  refine gR0 ?_;refine rg ?_;refine tX @al (Jj hx hn hl) ?_;refine cV (ZfO fs S) ?_ ?_
  .rintro d S' ⟨b,hb,hd,rfl⟩;cases hd;refine gR0 ?_;refine Zd (Zd ?_);refine xP 2 λz2 h2=>?_;refine xP 4 λz4 h4=>?_;have k2:=Zn h2;have k4:=Zn h4;have ag:=Zn k4.2;have ao:x≠b:=λe=>by rw[e,hb]at hx;simp at hx
   have am:x≠z2:=λe=>by rw[e,k2.2]at hx;simp at hx
   have an:x≠z4:=λe=>by rw[e,ag.2]at hx;simp at hx
   obtain⟨A,hA⟩:∃A,A=((S.upd b (.map (Zb6 (Zap fs (I fs))))).upd z2 (.cells [.ptr x 0])).upd z4 (.cells [.map b]):=⟨_,rfl⟩;have gx:A x=sO (.cells (k.cells bd bs)):=by rw[hA,ZH0 _ _ an,ZH0 _ _ am,ZH0 _ _ ao];exact hx
   have gb:A b=sO (.map (Zb6 (Q0 fs))):=by rw[hA,ZH0 _ _ ag.1.symm,ZH0 _ _ k2.1.symm];exact ZHW _ _ _
   have g2:A z2=sO (.cells [.ptr x 0]):=by rw[hA,ZH0 _ _ k4.1.symm];exact ZHW _ _ _
   have g4:A z4=sO (.cells [.map b]):=by rw[hA];exact ZHW _ _ _
   have ac:S.sub A:=by rw[hA];exact ZIu (ZIg _ hb) (ZIu (ZIg _ h2) (ZIg _ h4))
   rw[<-hA];clear hA h2 h4 k2 k4 ag;refine rx @eQ0 ?_;simp only[af];have hfew:=ZaQ hv;refine cV (ZeD f.size hv) ?_ ?_
   .rintro d S' ⟨y,hy,hd,rfl⟩;cases hd;refine gR0 ?_;refine Zb ?_;refine Qh hF rfl trivial [2,4] (by show([2,4]:List Nat).Nodup;decide) (Ko hy) (Zdn f.size.terms (by unfold big;omega) y).Y (λj hj=>rfl)
     (λj=>if Zc9 fs (f.size.terms.getD j dE) then .next else .pan (Zic k.at_ k.field 8)) (λj a=>a=A) rfl ?_ ?_ ?_ ?_ ?_ ?_
    .intro j a hj u hB F' ready ah hdr aj ab;subst hB;simp only[Eqs,reduceCtorEq,ZHV,reduceIte,ZHR,ZHY,ZHS,KG,K0,J8,Qj,List.isEmpty_nil,List.isEmpty_cons];refine rg ?_;refine aj λak=>?_;generalize htm:f.size.terms.getD j dE=tm at *;have e1:=YR (vD:=QT) ZS tm.field (Q0 fs);have e3:=Y8 ZS tm.field;simp only[show K5 tm.field=D.str tm.field from rfl]at e1 e3;refine rh ?_;refine Zk ?_;simp only[Eqs,reduceCtorEq,ZHV,reduceIte,ZHR,ZHY,ZHS,Zt g4,Zt gb,e1,e3,Zn4];refine rh ?_;refine Zk ?_;simp only[Eqs,reduceCtorEq,ZHV,reduceIte,ZHR,ZHY,ZHS,Zt g2];refine cV (Zgu (st:=a.or ah) (Zt gx) (Zv tm.field (Q0 fs)).isSome 8) ?_ ?_
     .rintro d S' ⟨rfl,h⟩;cases hk:(Zv tm.field (Q0 fs)).isSome with
      |false=>rw[hk]at h;simp at h
      |true =>rw[hk]at h;simp at h;subst h;refine gR0 ?_;refine Zi ?_;exact ab.fin ⟨by rw[if_pos (show Zc9 fs tm=true from hk)],rfl⟩ ak ZHU
     rintro d S' ⟨rfl,h⟩;cases hk:(Zv tm.field (Q0 fs)).isSome with
     |true=>rw[hk]at h;simp at h
     |false =>rw[hk]at h;simp at h;subst h;exact ab.pan ⟨by rw[if_neg (by rw[show Zc9 fs tm=false from hk];simp)],rfl⟩ ak ZHU
    intro q a u hB hq;subst hB;have r:f.size.terms.all (Zc9 fs)=true:=by apply List.all_eq_true.2;intro t ht;obtain⟨i,hi,rfl⟩:=ZIc ht;have:=u i hi;split at this;rename_i h;simpa[ZH6,hi]using h;simp at this
    rw[r,ZIf]at hS;rw[QD hq];refine rh ?_;refine Zk ?_;simp only[Eqs,reduceCtorEq,ZHV,reduceIte,ZHR,ZHY,ZHS,Zt g4,Fld.cells];simp only[af];refine cV (Zm7 f.size b (Q0 fs) (Zt gb)) ?_ ?_;rintro d S' ⟨hd,rfl⟩;cases hd;refine gQ @QT.eq_1 ?_;refine rh ?_;refine Zk ?_;simp only[Eqs,reduceCtorEq,ZHV,reduceIte,ZHR,ZHY,ZHS,Zt g2];refine cV (ZZ (st:=a.or (ZIk q .dfr)) (Zt gx) (dC ((ivP fs f.size).2.2=0)&&dC (0<=(ivP fs f.size).1)&&dC ((ivP fs f.size).2.1<=1048576)) 9) ?_ ?_;rintro d S' h;obtain⟨ae,rfl,rfl⟩:=YN h;rw[ae]at hS;refine gR0 ?_;exact hF.fin1 hq (.tup []) S rfl trivial (ZHT _) ac (ZbR hS);rintro d S' h;obtain⟨ae,ad,rfl⟩:=YM h;rw[ae]at hS;exact hF.pan1 hq S ac (Wt hS ad);rintro d S' ⟨hd,_⟩;cases hd;intro q a m hm u o;split at o<;>simp at o;intro q a m id hm u o;split at o<;>simp at o;intro q a m d hm u o hB hq;subst hB;rw[QD hq];have ai:Zc9 fs (f.size.terms.getD m dE)=false:=by split at o;simp at o;rename_i h;simpa using h
    have r:f.size.terms.all (Zc9 fs)=false:=by apply List.all_eq_false.2;exact⟨_,Zr hm,by rw[ai];simp⟩
    rw[r,ZIl]at hS;split at o;simp at o;simp at o;subst o;exact hF.pan1 hq S ac (Wt hS Zsp);intro m c o;split at o<;>simp at o
   rintro d S' ⟨y,hy,hd,_⟩;cases hd
  rintro d S' ⟨b,hb,hd,_⟩;cases hd
 rintro d S h;obtain⟨hv,ad,rfl⟩:=YM h;rw[hv,ZIl]at hS;exact hF.pan S ZHU (Wt hS ad)
def Zc1(dl:List (Str×Int))(high:Int):Int->List YE->Bool
 |_,[]=>true
 |low,c::r=>YB low high [c.low,c.high]&&((Zv c.of dl).isSome&&Zc1 dl high (c.high+1) r)
def ZfX(fs:List Fld)(f:Fld):Bool:=fs.any λo=>dC (o.kind=9)&&dC (o.tag=f.tag)
def Zjs(fs:List Fld)(dl:List (Str×Int))(f:Fld):Bool :=
 ((Zv f.tag (Q0 fs)).isSome&&!ZfX fs f)&&((dC (1<=(I f.cases:Int))&&dC ((I f.cases:Int)<=40))&&Zc1 dl ((Zv f.tag (Q0 fs)).getD (0,0)).2 ((Zv f.tag (Q0 fs)).getD (0,0)).1 f.cases)
def ZlG{o:Fld}(f:Fld)(y st)(t:st y=sO (.cells f.cells)):ZL ZHP 384 [.agg o.cells,.ptr y 0] st (.bool (dC (o.kind=9)&&dC (o.tag=f.tag))) st:=by
 refine ZE (cR 384 f384) λr F i=>?_;clear r;refine rx @eQ0 ?_;refine rx (nd2 @t @eQ0) ?_;exact i rfl φ (ZHT _) ZHU
def Zx3(a b):Zy inC (ZI [.i 0] ([0,1].zip [.i a,.i b])) [a,b]:=λi o=>by
 match i,o with
 |0,_=>rfl
 |1,_=>rfl
def ZdP{x bd bs}{k:Ck}{st}(i:st x=sO (.cells (k.cells bd bs)))(low high a b):Zf ZHP 349 [.ptr x 0,.i low,.i high,.sl .full 2 1 (ZI [.i 0] ([0,1].zip [.i a,.i b]))] st (WM (YB low high [a,b]) st) :=
 Zf.leA (.cons (ZHT _) (.cons (ZHT _) (.cons (ZHT _) (LeC.one ((Zx3 a b).le rfl))))) (ZfP i low high [a,b])
def Jb{x bd bs}{k:Ck}{st}(i:st x=sO (.cells (k.cells bd bs)))(low high a):Zf ZHP 349 [.ptr x 0,.i low,.i high,.sl .full 1 1 (ZI [.i 0] ([0].zip [.i a]))] st (WM (YB low high [a]) st) :=
 Zf.leA (.cons (ZHT _) (.cons (ZHT _) (.cons (ZHT _) (LeC.one ((Zy.one (f:=inC) (x:=a) rfl).le rfl))))) (ZfP i low high [a])
def Zov{x bd bs k dl sl st}(hst:QI st x bd bs k dl sl){n:Nat}(hn:k.field=n)(hl:n<=I k.m.fields)(f)(hR:((Zv f.tag (Q0 (k.m.fields.take n))).getD (0,0)).2<4611686018427387904):
  Zf ZHP 366 [.ptr x 0,.agg f.cells] st (WM (Zjs (k.m.fields.take n) dl f) st):=by
 refine ZaS (cR 366 f366) λah F hF=>?_;have ai:=(ZBk (s:=f) (ah _ ψ)).cases;clear ah;have hx:=hst.x;have hS:=Zjs.eq_1 (k.m.fields.take n) dl f;generalize ag:k.m.fields.take n=fs at *;have e1:=YR (vD:=QT) ZS f.tag (Q0 fs);have e3:=Y8 ZS f.tag;simp only[show K5 f.tag=D.str f.tag from rfl]at e1 e3;refine rx @eQ0 ?_;refine rx @eQ0 ?_;refine tXD @ag (Jj hx hn hl) ?_;refine cVD (ZfO fs st) ?_ ?_;rintro d S ⟨b,hb,hd,rfl⟩;cases hd;first|refine⟨by first|trivial|exact⟨rfl,rfl,trivial⟩|exact⟨rfl,trivial⟩,?_⟩|skip
 have hxb:x≠b:=λe=>by rw[e,hb]at hx;simp at hx
 generalize hr:(Zv f.tag (Q0 fs)).getD (0,0)=r at *;refine Yb ?_;simp only[Eqs,reduceCtorEq,ZHV,reduceIte,ZHR,ZHY,ZHS,e1,e3,Zn4,hr,ZHW,ZH7,Yv,Yw];refine Zd ?_;refine xP 3 λy hy=>?_;obtain⟨A,hA⟩:∃A,A=((st.upd b (.map (Zb6 (Zap fs (I fs))))).upd y (.cells f.cells)):=⟨_,rfl⟩;have ac:st.sub A:=by rw[hA];exact ZIu (ZIg _ hb) (ZIg _ hy)
 have gy:A y=sO (.cells f.cells):=by rw[hA];exact ZHW _ _ _
 have ae:=hst.mono ac;have aj:[D.str f.name,D.int IntKind.i64 f.kind,D.int IntKind.i64 f.bits,D.bool f.little,D.bool f.loose,D.int IntKind.i64 f.low,D.int IntKind.i64 f.high,D.int IntKind.i64 f.size.base,Z4 f.size.terms,D.str f.of,D.str f.tag,D.str f.from_,Z2 f.cases,D.int IntKind.i64 f.check,D.int IntKind.i64 f.key]=f.cells:=rfl;rw[aj,<-hA];clear hA hy;refine rg ?_;refine tX @ag (Jj ae.x hn hl) ?_;refine ct (ZdQ fs (.fn (.func 384) [] [.ptr y 0]) (λo=>dC (o.kind=9)&&dC (o.tag=f.tag)) (λ_=>A) (λi hi=>(ZlG f y A gy).VT (first:=[]) (args:=[_]) (caps:=[_]))) ?_;rw[show(fs.any λo=>dC (o.kind=9)&&dC (o.tag=f.tag))=ZfX fs f from rfl];refine rg ?_;refine cV (ZZ ae.x ((Zv f.tag (Q0 fs)).isSome&&!ZfX fs f) 8) ?_ ?_;rintro d S h;obtain⟨t,rfl,rfl⟩:=YN h;rw[t,ZIf]at hS;refine gR0 ?_;refine rx (nd2 @gy (nd2 @eQ0 (nd2 @Z2.eq_1 @eQ1))) ?_;refine cV (ZZ ae.x (dC (1<=(I f.cases:Int))&&dC ((I f.cases:Int)<=40)) 3) ?_ ?_;rintro d S2 h;obtain⟨t,rfl,rfl⟩:=YN h;rw[t,ZIf]at hS;simp only[ZH1,decide_eq_true_eq]at t;refine gR0 ?_;refine rg ?_;refine rx (nd2 @gy (nd2 @eQ0 (nd2 @Z2.eq_1 @eQ1))) ?_;refine Zb (fr (I f.cases) (λi Q=>∀lo,Zc1 dl r.2 r.1 f.cases=Zc1 dl r.2 lo (f.cases.drop i)->i<=I f.cases->Q [(0,.d (.ptr x 0)),(4,.loc 4 0),(7,.d (.i lo)),(45,.d (Z2 f.cases)),(46,.d (.i (I f.cases))),(47,.d (.i i))] [(4,[.i r.1,.i r.2])] S2) (λn af=>?_) λak=>?_);intro i hni lo hL hi;refine rg ?_;refine Zd (Zj rfl trivial (λh1=>?_) (λh1=>?_));simp at h1;rw[Yf h1,Zc1]at hL;have hcb:-9223372036854775808<=(f.cases.getD i dE).high/\(f.cases.getD i dE).high<=9223372036854775807:=(ai _ (Zr h1)).high;generalize hc:f.cases.getD i dE=c at *;refine xA (nd2 @Z2.eq_1 (nd2 @eQ1 (nd2 @YE.cells.eq_1 @hc))) ?_;refine rx @YE.cells.eq_1 ?_;refine cV (ZdP ae.x lo r.2 c.low c.high) ?_ ?_;rintro d S3 h;obtain⟨ab,rfl,rfl⟩:=YN h;rw[ab,ZIf]at hL;simp only[YB,Bool.and_true,ZH1,decide_eq_true_eq]at ab;refine gR0 ?_;refine rx @YE.cells.eq_1 ?_;refine cV (Zdl ae c.of) ?_ ?_;rintro d S4 h;obtain⟨ad,rfl,rfl⟩:=YN h;rw[ad,ZIf]at hL;refine gR0 ?_;refine xA @YE.cells.eq_1 ?_;refine gA ?_;refine Za ?_;exact af ((I f.cases)-(i+1)) ω (i+1) rfl (c.high+1) hL ω;rintro d S4 h;obtain⟨ad,u,rfl⟩:=YM h;rw[ad,ZIl]at hL;exact hF.pan st ac (Wt (hS.trans hL) u);rintro d S3 h;obtain⟨ab,u,rfl⟩:=YM h;rw[ab,ZIl]at hL;exact hF.pan st ac (Wt (hS.trans hL) u);simp at h1;obtain rfl:i=I f.cases:=ω;rw[List.drop_length,Zc1]at hL;refine ZG rfl ?_;exact hF.fin (.tup []) st rfl trivial (ZHT _) ac (ZbR (hS.trans hL));exact ak _ 0 rfl r.1 rfl ω;rintro d S2 h;obtain⟨t,u,rfl⟩:=YM h;rw[t,ZIl]at hS;exact hF.pan st ac (Wt hS u);rintro d S h;obtain⟨t,u,rfl⟩:=YM h;rw[t,ZIl]at hS;exact hF.pan st ac (Wt hS u);rintro d S ⟨b,hb,hd,_⟩;cases hd
end Go.DL
