/- Lemmas: Api, DlAe, DlAf, R04a, Lst, R04b, Iv, R04d, R04e, R05a, R05b, R05c, R05d, R05e, R05f, R05g, R05h, R05i, R05j, R05k, Own, S00, S01, S02, Val, W01, W02, W03, Maps, S03, S04, S05, S06, S10, S11, R43d, U01, A01, A02, A03, S12, S13, S14, S15, S16, S17, S18, S19, S20, S21, S22, S23, A04, A05, U03, U04, U05, W04, W05, W06, W07. -/
import Derived.Test.YtjahcdhapcomnaaGreatDoorT02
set_option maxHeartbeats 16000000
set_option maxRecDepth 100000
set_option linter.all false
open Option renaming some → sO, none → nO
open Inhabited renaming default → dE
open Decidable renaming decide → dC
open Go.Proofs.Tryz
open And renaming intro → ZEC
open Bool renaming and_eq_true → ZEK, false_and → ZE8, false_eq_true → ZE3, or_eq_true → ZEY, true_and → ZE1
open Go.DL.D.Le renaming refl → ZEF
open Go.DL.St renaming single → ZEX, sub_refl → ZEB, sub_trans → ZFf, sub_upd → ZEZ, upd → ZFc, upd_ne → ZEJ, upd_same → ZEI, upd_upd → ZET
open Go.Proofs.Tryz renaming prog → ZEA
open Int renaming reduceToNat → ZEG
open List renaming append_assoc → ZE9, append_nil → ZFb, getD → ZES, getElem?_append_left → ZE7, getElem?_append_right → ZFj, getElem_of_mem → ZEV, length_append → ZEM, length_cons → ZER, length_drop → ZFh, length_take → ZEU, map_cons → ZEQ, map_nil → ZE6, mem_cons → ZFd, range → ZEO, take_length → ZFa
open Nat renaming add_mul → ZE2, le_refl → ZEP, mul_le_mul_right → ZEW, reduceAdd → ZEH, reduceEqDiff → ZED, reduceLeDiff → ZEE
open Option renaming getD_some → ZFe
namespace Go.DL
open Go
variable {kp:Option (List Nat)}{L:Loc}{ρ:Env}{s:St}{w:World}{os:List DOp}{ds:List D}{B:List (Nat × Rd)}{dst:Option Nat}{tmps:Array Value}{g:G}{Φ:Res→St→Prop}{ν:Nat→Nat}{xs:List Opd}{side:Prop}{row:Nat→List D}
abbrev Str:=List UInt8
structure Yp where
 field:Str
 factor:Int
deriving Inhabited,DecidableEq
structure Zbh where
 base:Int
 terms:List Yp
deriving Inhabited,DecidableEq
structure YX where
 low:Int
 high:Int
 of:Str
deriving Inhabited,DecidableEq
structure Fld where
 name:Str
 kind:Int
 bits:Int
 little:Bool
 loose:Bool
 low:Int
 high:Int
 size:Zbh
 of:Str
 tag:Str
 from_:Str
 cases:List YX
 check:Int
 key:Int
deriving Inhabited,DecidableEq
structure Msg where
 name:Str
 fields:List Fld
deriving Inhabited,DecidableEq
structure Dfn where
 name:Str
 msgs:List Msg
 start:Str
deriving Inhabited,DecidableEq
def slD{α:Type}[Inhabited α](n:Nat)(f:α→List D)(l:List α):D:=.sl .none l.length n (fun i=>f (l.getD i dE))
def eQ1:=@slD.eq_1
def Yp.cells(t:Yp):List D:=[.str t.field,.int .i64 t.factor]
def YX.cells(c:YX):List D:=[.int .i64 c.low,.int .i64 c.high,.str c.of]
def YC(l:List Yp):D:=slD 2 Yp.cells l
def KC(l:List YX):D:=slD 3 YX.cells l
def Zbh.cells(s:Zbh):List D:=[.int .i64 s.base,YC s.terms]
def eQ4:=@Zbh.cells.eq_1
def Fld.cells(f:Fld):List D:=[.str f.name,.int .i64 f.kind,.int .i64 f.bits,.bool f.little,.bool f.loose,.int .i64 f.low,.int .i64 f.high,.int .i64 f.size.base,YC f.size.terms,.str f.of,.str f.tag,.str f.from_,KC f.cases,.int .i64 f.check,.int .i64 f.key]
def eQ0:=@Fld.cells.eq_1
def Zr(l:List Fld):D:=slD 15 Fld.cells l
def Msg.cells(m:Msg):List D:=[.str m.name,Zr m.fields]
def eQ2:=@Msg.cells.eq_1
def Wh(l:List Msg):D:=slD 2 Msg.cells l
def Dfn.cells(d:Dfn):List D:=[.str d.name,Wh d.msgs,.str d.start]
def eQ3:=@Dfn.cells.eq_1
theorem WJ{α}[Inhabited α]{n}{f:α→List D}{l:List α}(h:DWf (slD n f l)):l.length≤big∧∀x∈l,∀c∈f x,DWf c:=by
 obtain⟨h1,h2,h3⟩:=h.sl_inv
 refine⟨h1,fun x hx c hc=>?_⟩
 obtain⟨i,hi,rfl⟩:=ZEV hx
 exact h3 i hi c (by simpa[ZES,hi]using hc)
structure Yp.Wf(t:Yp):Prop where
 field:t.field.length≤big
 factor:inR .i64 t.factor
structure YX.Wf(c:YX):Prop where
 low:inR .i64 c.low
 high:inR .i64 c.high
 of:c.of.length≤big
structure Zbh.Wf(s:Zbh):Prop where
 base:inR .i64 s.base
 nterms:s.terms.length≤big
 terms:∀t∈s.terms,t.Wf
structure Fld.Wf(f:Fld):Prop where
 name:f.name.length≤big
 kind:inR .i64 f.kind
 bits:inR .i64 f.bits
 low:inR .i64 f.low
 high:inR .i64 f.high
 size:f.size.Wf
 of:f.of.length≤big
 tag:f.tag.length≤big
 from_:f.from_.length≤big
 ncases:f.cases.length≤big
 cases:∀c∈f.cases,c.Wf
 check:inR .i64 f.check
 key:inR .i64 f.key
structure Msg.Wf(m:Msg):Prop where
 name:m.name.length≤big
 nfields:m.fields.length≤big
 fields:∀f∈m.fields,f.Wf
structure Dfn.Wf(d:Dfn):Prop where
 name:d.name.length≤big
 nmsgs:d.msgs.length≤big
 msgs:∀m∈d.msgs,m.Wf
 start:d.start.length≤big
theorem Yp.wf_of{t:Yp}(h:∀c∈t.cells,DWf c):t.Wf:=by
 simp only[Yp.cells,ZFd,List.not_mem_nil,or_false,forall_eq_or_imp,forall_eq]at h
 exact⟨h.1.str_inv,h.2.int_inv⟩
theorem YX.wf_of{t:YX}(h:∀c∈t.cells,DWf c):t.Wf:=by
 simp only[YX.cells,ZFd,List.not_mem_nil,or_false,forall_eq_or_imp,forall_eq]at h
 exact⟨h.1.int_inv,h.2.1.int_inv,h.2.2.str_inv⟩
theorem Zsg{l}(h:DWf (YC l)):l.length≤big∧∀t∈l,t.Wf:=⟨(WJ h).1,fun t ht=>Yp.wf_of ((WJ h).2 t ht)⟩
theorem ZqP{l}(h:DWf (KC l)):l.length≤big∧∀t∈l,t.Wf:=⟨(WJ h).1,fun t ht=>YX.wf_of ((WJ h).2 t ht)⟩
theorem Fld.wf_of{f:Fld}(h:∀c∈f.cells,DWf c):f.Wf:=by
 simp only[Fld.cells,ZFd,List.not_mem_nil,or_false,forall_eq_or_imp,forall_eq]at h
 obtain⟨h1,h2,h3,h4,h5,h6,h7,h8,h9,h10,h11,h12,h13,h14,h15⟩:=h
 exact⟨h1.str_inv,h2.int_inv,h3.int_inv,h6.int_inv,h7.int_inv,⟨h8.int_inv,(Zsg h9).1,(Zsg h9).2⟩,h10.str_inv,h11.str_inv,h12.str_inv,(ZqP h13).1,(ZqP h13).2,h14.int_inv,h15.int_inv⟩
theorem Ziw{l}(h:DWf (Zr l)):l.length≤big∧∀t∈l,t.Wf:=⟨(WJ h).1,fun t ht=>Fld.wf_of ((WJ h).2 t ht)⟩
theorem Msg.wf_of{m:Msg}(h:∀c∈m.cells,DWf c):m.Wf:=by
 simp only[Msg.cells,ZFd,List.not_mem_nil,or_false,forall_eq_or_imp,forall_eq]at h
 exact⟨h.1.str_inv,(Ziw h.2).1,(Ziw h.2).2⟩
theorem Ztu{l}(h:DWf (Wh l)):l.length≤big∧∀t∈l,t.Wf:=⟨(WJ h).1,fun t ht=>Msg.wf_of ((WJ h).2 t ht)⟩
theorem Dfn.wf_of{m:Dfn}(h:∀c∈m.cells,DWf c):m.Wf:=by
 simp only[Dfn.cells,ZFd,List.not_mem_nil,or_false,forall_eq_or_imp,forall_eq]at h
 exact⟨h.1.str_inv,(Ztu h.2.1).1,(Ztu h.2.1).2,h.2.2.str_inv⟩
theorem Zz2{s:Fld}(h:DWf (.agg s.cells)):s.Wf:=Fld.wf_of h.agg_inv
theorem Zwg{s:Msg}(h:DWf (.agg s.cells)):s.Wf:=Msg.wf_of h.agg_inv
theorem ZvN{s:Dfn}(h:DWf (.agg s.cells)):s.Wf:=Dfn.wf_of h.agg_inv
theorem ZA{α:Type}[Inhabited α]{l:List α}{i}(h:i<l.length):l.getD i dE∈l:=by
 simp[ZES,h]
end Go.DL
namespace Go.DL
open Go
variable [Zqy]
variable {kp:Option (List Nat)}{L:Loc}{ρ:Env}{s:St}{w:World}{os:List DOp}{ds:List D}{B:List (Nat × Rd)}{dst:Option Nat}{tmps:Array Value}{g:G}{Φ:Res→St→Prop}{ν:Nat→Nat}{xs:List Opd}{side:Prop}{row:Nat→List D}
def Ze7(P:Program)(fv:D)(n:Nat)(args:Nat→List D)(t:St):Prop :=
 ∀(l:Nat) (go:Nat→Oc) (A:Nat→St→Prop) (a0:St),ZgO P (.fn (.yield l) [] []) n args go A→A 0 a0→ZJ a0 t→WV P fv [.fn (.yield l) [] []] (a0.or t) fun r S=>∃a,Zd9 n go A a r∧a.sub S
section
variable {P:Program}
theorem Zai.Y{fv n args t}(h:Zai P fv n args t):Ze7 P fv n args t:=fun _=>h _
theorem WS{F:Fr P}{rs}{Φ}{dds}(hF:Yy F rs Φ dds){o}{ps}{da db}{dk}{ρ}{L}{p}{fv}(hf:ZC ρ true o=sO (p,.d fv))(hp:p)(ks)(hks:(Yh ρ ks).map (·.1) |>.Nodup){a0 t}(hd:ZJ a0 t){n}{args}(hit:Ze7 P fv n args t)(hlen:∀j,j<n→(args j).length=ps.length)(go:Nat→Oc)(B:Nat→St→Prop)(h0:B 0 a0)(hbody:∀j a,j<n→(∀i,i<j→go i=.next)→B j a→∀(F':Fr P) (ready busy:St),ZJ a ready →
   (∀{dk:List WL} {ρ:Env} {L:Loc},(ZJ a busy→Zs F' dk ρ L (a.or busy))→Zs F' (.beginR::dk) ρ L (a.or ready)) →
   Zk9 F' busy (fun oc a'=>oc=go j∧B (j+1) a')→Zs F' [.code da,.beginR,.code db] (YZ ps (args j) (Wc ks ρ)) [] (a.or ready))(hall:∀q a,(∀i,i<n→go i=.next)→B n a→a q=nO→Zs (F.mark q) dk ρ L (a.upd q .dfr))(hret:∀q a m,m<n→(∀i,i<m→go i=.next)→go m=.stop .ret→B (m+1) a→a q=nO→Zs (F.mark q) (.code .ret::dk) ρ L (a.upd q .dfr))(hexit:∀q a m id,m<n→(∀i,i<m→go i=.next)→go m=.stop (.exit id)→B (m+1) a→a q=nO→Zs (F.mark q) (.code (.exit id)::dk) ρ L (a.upd q .dfr))(hpan:∀q a m d,m<n→(∀i,i<m→go i=.next)→go m=.pan d→B (m+1) a→a q=nO→YN (F.mark q) ρ L d (a.upd q .dfr))(hgo:∀m c,go m=.stop c→c=.ret∨∃id,c=.exit id):
  Zs F (.code (.rangeF o ps da db)::dk) ρ L (a0.or t):=by
 refine Zh6 hF.roundOf hf hp ks hks fun q l r hq hl hql hr1 hr2 hr3 hca hcb hr4 hps=>?_
 have hq1:a0 q=nO:=by cases h:a0 q with|none=>rfl|some x=>rw[Zh h]at hq;simp at hq
 have hl1:a0 l=nO:=by cases h:a0 l with|none=>rfl|some x=>rw[Zh h]at hl;simp at hl
 have hq2:t q=nO:=by rw[Zl hq1]at hq;exact hq
 have hl2:t l=nO:=by rw[Zl hl1]at hl;exact hl
 let stOf:Nat→LSt:=fun j=>match j with
  |0=>.ready
  |j+1=>match go j with
   |.next=>.ready
   |.stop c=>.done c
   |.pan _=>.busy
 let A:Nat→St→Prop:=fun j S=>∃a,B j a∧ZJ a (lpS q l r .ready)∧S=a.or (lpS q l r (stOf j))
 have hd0:ZJ a0 (lpS q l r .ready):=fun b o hb=>by
  by_cases h1:b=q
  ·rw[h1];exact hq1
  ·by_cases h2:b=l
   ·rw[h2];exact hl1
   ·rw[JR h1 h2]at hb;simp at hb
 have hst:(((a0.or t).upd q .dfr).upd l (.loop r .ready))=(a0.or (lpS q l r .ready)).or t:=by
  funext b
  simp only[ZFc]
  by_cases h2:b=l
  ·subst h2;rw[if_pos rfl,Zh (s:=a0.or _) (by rw[Zl hl1];exact Wr hql)]
  ·rw[if_neg h2]
   by_cases h1:b=q
   ·subst h1;rw[if_pos rfl,Zh (s:=a0.or _) (by rw[Zl hq1];exact W3)]
   ·rw[if_neg h1]
    cases ha:a0 b with
    |some x=>rw[Zh ha,Zh (Zh ha)]
    |none=>rw[Zl ha,Zl (s:=a0.or _) (by rw[Zl ha];exact JR h1 h2)]
 have hd1:ZJ (a0.or (lpS q l r .ready)) t:=fun b o hb=>by
  rw[Zl (hd b o hb)]
  exact JR (fun e=>by rw[e,hq2]at hb;simp at hb) (fun e=>by rw[e,hl2]at hb;simp at hb)
 have hex:=hF.ex
 have hcons:ZgO P (.fn (.yield l) [] []) n args go A:=by
  rintro j hj hnx S ⟨a,hBj,hda,rfl⟩
  have hsj:stOf j=.ready:=by
   cases j with
   |zero=>rfl
   |succ j=>simp only[stOf,hnx j (by omega)]
  rw[hsj]
  refine ZhK (an:=F.an) (N:=F.N) (r:=r) (by rw[Zl (hda l _ (Wr hql))];exact Wr hql) (by rw[hr2];exact hlen j hj) hca hcb hr4 (by rw[hr2];exact hps) fun F' hF' hfn=>?_
  rw[hr1,hr2]
  refine hbody j a hj hnx hBj F' (lpS q l r .ready) (lpS q l r .busy) hda (fun hk=>hF'.begin (r:=r) (by rw[Zl (hda l _ (Wr hql))];exact Wr hql) ?_) ?_
  ·have e:(a.or (lpS q l r .ready)).upd l (.loop r .busy)=a.or (lpS q l r .busy):=by
    funext b
    simp only[ZFc]
    by_cases h2:b=l
    ·subst h2;rw[if_pos rfl,Zl (hda b _ (Wr hql)),Wr hql]
    ·rw[if_neg h2]
     by_cases h1:b=q
     ·subst h1;rw[Zl (hda b _ W3),Zl (hda b _ W3),W3,W3]
     ·cases ha:a b with
      |some x=>rw[Zh ha,Zh ha]
      |none=>rw[Zl ha,Zl ha,JR h1 h2,JR h1 h2]
   rw[e];exact hk (Zhi hda hql)
  ·refine ZkU hF' hql (by rw[hfn,hr3];exact hex) ?_
   rintro oc a' ⟨rfl,hB'⟩ hda'
   exact⟨rfl,a',hB',Zhi hda' hql,rfl⟩
 refine⟨_,by rw[hst];exact hit _ go A _ hcons ⟨a0,h0,hd0,rfl⟩ hd1,?_,?_⟩
 ·rintro d S ⟨S',hend,hsub⟩
  have fin:∀a,ZJ a (lpS q l r .ready)→∀st,(a.or (lpS q l r st)).sub S→S l=sO (.loop r st)∧(a.upd q .dfr).sub (S.del l)∧a q=nO:=fun a hda st hs=>by
   refine⟨hs l _ (by rw[Zl (hda l _ (Wr hql))];exact Wr hql),fun b o hb=>?_,hda q _ W3⟩
   have hbl:b≠l:=fun e=>by
    subst e
    rw[ZEJ _ _ (Ne.symm hql),hda b _ (Wr hql)]at hb;simp at hb
   simp only[St.del,hbl,if_false]
   by_cases h1:b=q
   ·subst h1;rw[ZEI]at hb;exact hs b o (by rw[Zl (hda b _ W3),W3];exact hb)
   ·rw[ZEJ _ _ h1]at hb;exact hs b o (Zh hb)
  cases hend with
  |all h ha =>
   obtain⟨a,hB,hda,rfl⟩:=ha
   have hsn:stOf n=.ready:=by
    cases n with
    |zero=>rfl
    |succ n=>simp only[stOf,h n (by omega)]
   rw[hsn]at hsub
   obtain⟨f1,f2,f3⟩:=fin a hda _ hsub
   exact .inl ⟨f1,Kk f2 (hall q a h hB f3)⟩
  |stop m c hm h hc ha =>
   obtain⟨a,hB,hda,rfl⟩:=ha
   have hsn:stOf (m+1)=.done c:=by simp only[stOf,hc]
   rw[hsn]at hsub
   obtain⟨f1,f2,f3⟩:=fin a hda _ hsub
   rcases hgo m c hc with rfl|⟨id,rfl⟩
   ·exact .inr ⟨.ret,.ret,f1,rfl,Kk f2 (hret q a m hm h hc hB f3)⟩
   ·exact .inr ⟨.exit id,.exit id,f1,rfl,Kk f2 (hexit q a m id hm h hc hB f3)⟩
 ·rintro d S ⟨S',hend,hsub⟩
  cases hend with
  |pan m d hm h hc ha =>
   obtain⟨a,hB,hda,rfl⟩:=ha
   have hs:(a.upd q .dfr).sub S:=fun b o hb=>by
    by_cases h1:b=q
    ·subst h1;rw[ZEI]at hb;exact hsub b o (by rw[Zl (hda b _ W3),W3];exact hb)
    ·rw[ZEJ _ _ h1]at hb;exact hsub b o (Zh hb)
   exact Zl2 hs (hpan q a m d hm h hc hB (hda q _ W3))
end
theorem gR0{A B:Prop}(k:B)(h:Hid B→A:=by
 intro hk
 first|refine Zj ?_|refine Y9 ?_|refine Yx ?_
 simp only[Eqs,reduceCtorEq,Int.reduceToNat,reduceIte,Nat.reduceEqDiff,Nat.reduceAdd,Nat.reduceLeDiff]
 exact hk.out):A:=h ⟨k⟩
theorem gQ{p:Prop}(e:p){A B:Prop}(k:B)(h:p→Hid B→A:=by
 intro e1 hk
 first|refine Zj ?_|refine Y9 ?_|refine Yx ?_
 simp only[Eqs,reduceCtorEq,Int.reduceToNat,reduceIte,Nat.reduceEqDiff,Nat.reduceAdd,Nat.reduceLeDiff,e1]
 exact hk.out):A:=h e ⟨k⟩
theorem kF{A B:Prop}(k:B)(h:Hid B→A:=by
 intro hk
 refine And.intro (by first|trivial|exact⟨rfl,trivial⟩|simp[Y5,KE,YP,J3]) ?_
 exact hk.out):A:=h ⟨k⟩
theorem cX{p q:Prop}(e:p)(c:q){A B:Prop}(k:B)(h:p→q→Hid B→A:=by
 intro e1 hc hk
 refine Zag rfl rfl rfl rfl rfl (by trivial) (by trivial) hc (Zj ?_)
 simp only[Eqs,reduceCtorEq,Int.reduceToNat,reduceIte,Nat.reduceEqDiff,Nat.reduceAdd,Nat.reduceLeDiff,e1]
 exact hk.out):A:=h e c ⟨k⟩
theorem tX{p q:Prop}(e:p)(c:q){A B:Prop}(k:B)(h:p→q→Hid B→A:=by
 intro e1 hc hk
 refine Zah rfl rfl rfl rfl rfl (by trivial) (by trivial) hc (Zj ?_)
 simp only[Eqs,reduceCtorEq,Int.reduceToNat,reduceIte,Nat.reduceEqDiff,Nat.reduceAdd,Nat.reduceLeDiff,e1]
 exact hk.out):A:=h e c ⟨k⟩
theorem cG{q:Prop}(c:q){A B:Prop}(k:B)(h:q→Hid B→A:=by
 intro hc hk
 refine Ze5 rfl rfl rfl rfl rfl (fun hcg=>⟨by first|trivial|(simpa[ZdW]using hcg),trivial,hc⟩) (Zj ?_)
 simp only[Eqs,reduceCtorEq,Int.reduceToNat,reduceIte,Nat.reduceEqDiff,Nat.reduceAdd,Nat.reduceLeDiff]
 exact hk.out):A:=h c ⟨k⟩
theorem cW{q:Prop}(c:q){A B:Prop}(k:B)(h:q→Hid B→A:=by
 intro hc hk
 refine ZtS rfl rfl rfl rfl rfl (by trivial) (by trivial) hc (Zj ?_)
 simp only[Eqs,reduceCtorEq,Int.reduceToNat,reduceIte,Nat.reduceEqDiff,Nat.reduceAdd,Nat.reduceLeDiff]
 exact hk.out):A:=h c ⟨k⟩
theorem cV{q:Prop}(c:q){A B C:Prop}(k:B)(k2:C)(h:q→Hid B→Hid C→A:=by
 intro hc hk hk2
 exact ZjK rfl rfl rfl rfl rfl (by trivial) (by trivial) hc hk.out hk2.out):A:=h c ⟨k⟩ ⟨k2⟩
theorem vV{q:Prop}(c:q){A B C:Prop}(k:B)(k2:C)(h:q→Hid B→Hid C→A:=by
 intro hc hk hk2
 exact Zd8 rfl rfl rfl rfl rfl (by trivial) (by trivial) hc hk.out hk2.out):A:=h c ⟨k⟩ ⟨k2⟩
theorem cV0{q:Prop}(c:q){A B C:Prop}(k:B)(k2:C)(h:q→Hid B→Hid C→A:=by
 intro hc hk hk2
 exact Zvo rfl rfl rfl rfl rfl (by trivial) (by trivial) hc hk.out hk2.out):A:=h c ⟨k⟩ ⟨k2⟩
theorem cXD{p q:Prop}(e:p)(c:q){A B:Prop}(k:B)(h:p→q→Hid B→A:=by
 intro e1 hc hk
 refine Zh4 rfl rfl rfl rfl rfl (by trivial) (by trivial) hc (Yx ?_)
 simp only[Eqs,reduceCtorEq,Int.reduceToNat,reduceIte,Nat.reduceEqDiff,Nat.reduceAdd,Nat.reduceLeDiff,e1]
 exact hk.out):A:=h e c ⟨k⟩
theorem tXD{p q:Prop}(e:p)(c:q){A B:Prop}(k:B)(h:p→q→Hid B→A:=by
 intro e1 hc hk
 refine Zh5 rfl rfl rfl rfl rfl (by trivial) (by trivial) hc (by first|trivial|exact⟨rfl,trivial⟩|simp[Y5,KE]) (Yx ?_)
 simp only[Eqs,reduceCtorEq,Int.reduceToNat,reduceIte,Nat.reduceEqDiff,Nat.reduceAdd,Nat.reduceLeDiff,e1]
 exact hk.out):A:=h e c ⟨k⟩
theorem cGD{q:Prop}(c:q){A B:Prop}(k:B)(h:q→Hid B→A:=by
 intro hc hk
 refine ZtQ rfl rfl rfl rfl rfl (fun hcg=>⟨by first|trivial|(simpa[ZdW]using hcg),trivial,hc⟩) (Yx ?_)
 simp only[Eqs,reduceCtorEq,Int.reduceToNat,reduceIte,Nat.reduceEqDiff,Nat.reduceAdd,Nat.reduceLeDiff]
 exact hk.out):A:=h c ⟨k⟩
theorem cWD{q:Prop}(c:q){A B:Prop}(k:B)(h:q→Hid B→A:=by
 intro hc hk
 refine ZzL rfl rfl rfl rfl rfl (by trivial) (by trivial) hc (by first|trivial|exact⟨rfl,trivial⟩|simp[Y5,KE]) (Yx ?_)
 simp only[Eqs,reduceCtorEq,Int.reduceToNat,reduceIte,Nat.reduceEqDiff,Nat.reduceAdd,Nat.reduceLeDiff]
 exact hk.out):A:=h c ⟨k⟩
theorem cVD{q:Prop}(c:q){A B C:Prop}(k:B)(k2:C)(h:q→Hid B→Hid C→A:=by
 intro hc hk hk2
 exact ZgP rfl rfl rfl rfl rfl (by trivial) (by trivial) hc hk.out hk2.out):A:=h c ⟨k⟩ ⟨k2⟩
theorem vVD{q:Prop}(c:q){A B C:Prop}(k:B)(k2:C)(h:q→Hid B→Hid C→A:=by
 intro hc hk hk2
 exact ZcS rfl rfl rfl rfl rfl (by trivial) (by trivial) hc hk.out hk2.out):A:=h c ⟨k⟩ ⟨k2⟩
theorem gA{A B:Prop}(k:B)(h:Hid B→A:=by
 intro hq
 repeat(first|refine Za ?_|refine Zo ?_|refine ZT ?_|refine ZD ?_|refine Yu ?_|refine Zd ?_|refine Yg ?_|refine ZR rfl ?_)
 first|refine rgR (by conv=>lhs;whnf) (by conv=>lhs;whnf) (Zj ?_)|refine Zhq (by conv=>lhs;whnf) (by conv=>lhs;whnf) (Y9 ?_)|refine rgD (by conv=>lhs;whnf) (by conv=>lhs;whnf) (Yx ?_)
 simp only[Eqs,reduceCtorEq,Int.reduceToNat,reduceIte,Nat.reduceEqDiff,Nat.reduceAdd,Nat.reduceLeDiff]
 repeat(refine And.intro (by first|omega|trivial|(intro h0;simp at h0;omega)) ?_)
 exact hq.out):A:=h ⟨k⟩
theorem xA{p:Prop}(e:p){A B:Prop}(k:B)(h:p→Hid B→A:=by
 intro e1 hq
 repeat(first|refine Za ?_|refine Zo ?_|refine ZT ?_|refine ZD ?_|refine Yu ?_|refine Zd ?_|refine Yg ?_|refine ZR rfl ?_)
 first|refine rgR (by conv=>lhs;whnf) (by conv=>lhs;whnf) (Zj ?_)|refine Zhq (by conv=>lhs;whnf) (by conv=>lhs;whnf) (Y9 ?_)|refine rgD (by conv=>lhs;whnf) (by conv=>lhs;whnf) (Yx ?_)
 simp only[Eqs,reduceCtorEq,Int.reduceToNat,reduceIte,Nat.reduceEqDiff,Nat.reduceAdd,Nat.reduceLeDiff,e1]
 repeat(refine And.intro (by first|omega|trivial|(intro h0;simp at h0;omega)) ?_)
 exact hq.out):A:=h e ⟨k⟩
theorem gG{A B:Prop}(k:B)(h:Hid B→A:=by
 intro hq
 repeat(first|refine Za ?_|refine Zo ?_|refine ZT ?_|refine ZD ?_|refine Yu ?_|refine Zd ?_|refine Yg ?_|refine ZR rfl ?_)
 first|refine rgR (by conv=>lhs;whnf) (by conv=>lhs;whnf) (Zj ?_)|refine Zhq (by conv=>lhs;whnf) (by conv=>lhs;whnf) (Y9 ?_)|refine rgD (by conv=>lhs;whnf) (by conv=>lhs;whnf) (Yx ?_)
 simp only[Eqs,reduceCtorEq,Int.reduceToNat,reduceIte,Nat.reduceEqDiff,Nat.reduceAdd,Nat.reduceLeDiff]
 repeat(first|refine Za ?_|refine Zo ?_|refine ZT ?_|refine ZD ?_|refine Yu ?_|refine Zd ?_|refine Yg ?_|refine ZR rfl ?_)
 first|refine rgR (by conv=>lhs;whnf) (by conv=>lhs;whnf) (Zj ?_)|refine Zhq (by conv=>lhs;whnf) (by conv=>lhs;whnf) (Y9 ?_)|refine rgD (by conv=>lhs;whnf) (by conv=>lhs;whnf) (Yx ?_)
 simp only[Eqs,reduceCtorEq,Int.reduceToNat,reduceIte,Nat.reduceEqDiff,Nat.reduceAdd,Nat.reduceLeDiff]
 exact hq.out):A:=h ⟨k⟩
theorem iG{A B:Prop}(k:B)(h:Hid B→A:=by
 intro hq
 repeat(first|refine Za ?_|refine Zo ?_|refine ZT ?_|refine ZD ?_|refine Yu ?_|refine Zd ?_|refine Yg ?_|refine ZR rfl ?_)
 refine Zq rfl trivial (fun h=>by first|(simp at h;done)|(rw[hk]at h;simp at h;done)) (fun _=>?_)
 repeat(first|refine Za ?_|refine Zo ?_|refine ZT ?_|refine ZD ?_|refine Yu ?_|refine Zd ?_|refine Yg ?_|refine ZR rfl ?_)
 first|refine rgR (by conv=>lhs;whnf) (by conv=>lhs;whnf) (Zj ?_)|refine Zhq (by conv=>lhs;whnf) (by conv=>lhs;whnf) (Y9 ?_)|refine rgD (by conv=>lhs;whnf) (by conv=>lhs;whnf) (Yx ?_)
 simp only[Eqs,reduceCtorEq,Int.reduceToNat,reduceIte,Nat.reduceEqDiff,Nat.reduceAdd,Nat.reduceLeDiff]
 exact hq.out):A:=h ⟨k⟩
theorem gI{A B:Prop}(k:B)(h:Hid B→A:=by
 intro hq
 repeat(first|refine Za ?_|refine Zo ?_|refine ZT ?_|refine ZD ?_|refine Yu ?_|refine Zd ?_|refine Yg ?_|refine ZR rfl ?_)
 first|refine rgR (by conv=>lhs;whnf) (by conv=>lhs;whnf) (Zj ?_)|refine Zhq (by conv=>lhs;whnf) (by conv=>lhs;whnf) (Y9 ?_)|refine rgD (by conv=>lhs;whnf) (by conv=>lhs;whnf) (Yx ?_)
 simp only[Eqs,reduceCtorEq,Int.reduceToNat,reduceIte,Nat.reduceEqDiff,Nat.reduceAdd,Nat.reduceLeDiff]
 repeat(first|refine Za ?_|refine Zo ?_|refine ZT ?_|refine ZD ?_|refine Yu ?_|refine Zd ?_|refine Yg ?_|refine ZR rfl ?_)
 refine Zq rfl trivial (fun h=>by first|(simp at h;done)|(rw[hk]at h;simp at h;done)) (fun _=>?_)
 exact hq.out):A:=h ⟨k⟩
section
variable {P:Program} {F:Fr P} {dk:List WL} {ρ:Env} {L:Loc} {s:St}
theorem xP{A:Prop}{t:St}{B:Nat→Prop}(l:Nat)(k:∀b,t b=nO→B b)(h:∀n,n=l→(∀b,t b=nO→Hid (B b))→A:=by
 intro n hn hk
 refine ZcD n (by rw[hn];rfl) fun b hb=>?_
 simp only[hn,Eqs,reduceCtorEq,Int.reduceToNat,reduceIte,Nat.reduceEqDiff,Nat.reduceAdd,Nat.reduceLeDiff,Jv,QI,delL]
 exact(hk b hb).out):A:=h l rfl fun b hb=>⟨k b hb⟩
theorem kE{A B:Prop}(l:List Nat)(k:B)(h:∀n,n=l→Hid B→A:=by
 intro n hn hk
 refine ZoM n ?_
 simp only[hn,Eqs,reduceCtorEq,Int.reduceToNat,reduceIte,Nat.reduceEqDiff,Nat.reduceAdd,Nat.reduceLeDiff]
 exact hk.out):A:=h l rfl ⟨k⟩
end
end Go.DL
namespace Go.DL
open Go Go.Proofs
variable {kp:Option (List Nat)}{L:Loc}{ρ:Env}{s:St}{w:World}{os:List DOp}{ds:List D}{B:List (Nat × Rd)}{dst:Option Nat}{tmps:Array Value}{g:G}{Φ:Res→St→Prop}{ν:Nat→Nat}{xs:List Opd}{side:Prop}{row:Nat→List D}
def ZiI(c:UInt8):Bool:=(dC ((65:Int)≤c.toNat)&&dC ((c.toNat:Int)≤90)) ||(dC ((97:Int)≤c.toNat)&&dC ((c.toNat:Int)≤122))
def Zue(c:UInt8):Bool:=dC ((48:Int)≤c.toNat)&&dC ((c.toNat:Int)≤57)
def ZdJ(c:UInt8):Bool:=ZiI c ||Zue c ||decide ((c.toNat:Int)=95)
def YE(s:Str):Bool:=match s with
 | []=>false
 |c::_=>dC (s.length≤32)&&ZiI c&&s.all ZdJ
def Zdd(v:Int):Bool:=dC (-1048576≤v)&&dC (v≤1048576)
end Go.DL
namespace Go.DL
open Go
variable {kp:Option (List Nat)}{L:Loc}{ρ:Env}{s:St}{w:World}{os:List DOp}{ds:List D}{B:List (Nat × Rd)}{dst:Option Nat}{tmps:Array Value}{g:G}{Φ:Res→St→Prop}{ν:Nat→Nat}{xs:List Opd}{side:Prop}{row:Nat→List D}
theorem QM{α:Type}[Inhabited α]{l:List α}{k}(h:k<l.length):l.drop k=l.getD k dE::l.drop (k+1):=by
 rw[List.drop_eq_getElem_cons h];simp[ZES,h]
theorem Yj{α:Type}[Inhabited α]{l:List α}{k}(h:k<l.length):l.take (k+1)=l.take k++[l.getD k dE]:=by
 rw[List.take_succ_eq_append_getElem h];simp[ZES,h]
def ZX{α:Type}[Inhabited α](f:α→List D)(row:Nat→List D)(l:List α):Prop:=∀i,i<l.length→row i=f (l.getD i dE)
section
variable {α:Type} [Inhabited α] {f:α→List D} {row row2:Nat→List D} {l a b:List α}
theorem ZX.self:ZX f (fun i=>f (l.getD i dE)) l:=fun _ _=>rfl
theorem ZX.nil:ZX f row []:=fun i h=>absurd h (Nat.not_lt_zero i)
theorem ZX.one{x}(h:row 0=f x):ZX f row [x]:=fun i hi=>by
 obtain rfl:i=0:=by simp at hi;exact hi
 exact h
theorem ZX.app{n}(h:ZX f row a)(h2:ZX f row2 b)(hn:n=a.length):ZX f (YJ n row row2) (a++b):=fun i hi=>by
 subst hn
 unfold YJ
 split
 ·rename_i h1;rw[h i h1];simp[ZES,ZE7 h1]
 ·rename_i h1
  rw[h2 (i-a.length) (by simp at hi;omega)];simp[ZES,ZFj (Nat.not_lt.1 h1)]
theorem ZX.snoc{n x}(h:ZX f row a)(h2:row2 0=f x)(hn:n=a.length):ZX f (YJ n row row2) (a++[x]):=h.app (.one h2) hn
theorem ZX.take(h:ZX f row l)(k):ZX f row (l.take k):=fun i hi=>by
 rw[ZEU]at hi
 rw[h i (by omega)];simp[ZES,List.getElem?_take_of_lt (show i<k by omega)]
theorem ZX.le{t n s}(h:ZX f row l)(hn:n=l.length):(D.sl t n s row).Le (slD s f l):=Zys hn fun i hi=>h i (by omega)
end
open Go.Proofs
def JS(t:Yp):Bool:=YE t.field&&!dC (t.factor=0)&&Zdd t.factor
def ZdV:List Str→List Yp→Bool
 |_,[]=>true
 |seen,t::r=>JS t&&!dC (t.field∈seen)&&ZdV (seen++[t.field]) r
def Z1(s:Zbh):Bool:=Zdd s.base&&dC (s.terms.length≤4)&&ZdV [] s.terms
abbrev Zeb:=Str→Option (Int×Int)
def Zbm(r:Int×Int):Bool:=dC (r.1<0) ||decide (r.2<r.1) ||decide (34359738368≤r.2)
def K7(look:Zeb)(t:Yp):Bool:=match look t.field with|some r=>Zbm r|none=>false
def Ji(look:Zeb)(t:Yp):Bool:=(look t.field).isNone
def ZbW(s:Zbh)(look:Zeb):Int:=if Z1 s=false then 2 else if s.terms.any (K7 look) then 2 else if s.terms.any (Ji look) then 9 else 0
def Zg2(look:Zeb)(t:Yp):Int×Int:=(look t.field).getD (0,0)
def loT(look:Zeb)(t:Yp):Int:=if 0<t.factor then t.factor*(Zg2 look t).1 else t.factor*(Zg2 look t).2
def hiT(look:Zeb)(t:Yp):Int:=if 0<t.factor then t.factor*(Zg2 look t).2 else t.factor*(Zg2 look t).1
def loS(look:Zeb):List Yp→Int
 | []=>0
 |t::r=>loT look t+loS look r
def hiS(look:Zeb):List Yp→Int
 | []=>0
 |t::r=>hiT look t+hiS look r
def Jy(s:Zbh)(look:Zeb):Int×Int×Int:=if ZbW s look=0 then (s.base+loS look s.terms,s.base+hiS look s.terms,0) else (0,0,ZbW s look)
theorem Zw7{α:Type}[Inhabited α]{p}{l:List α}{i}(h:i<l.length):(l.take (i+1)).any p=((l.take i).any p ||p (l.getD i dE)):=by
 rw[Yj h,List.any_append];simp
theorem ZzU{α:Type}[Inhabited α]{p}{l:List α}{i}(h:i<l.length)(hp:p (l.getD i dE)=true):l.any p=true :=
 List.any_eq_true.2 ⟨_,ZA h,hp⟩
theorem Zup{α β:Type}[Inhabited α]{f}{b:β}{l:List α}{i:Nat}(h:i<l.length):(l.take (i+1)).foldl f b=f ((l.take i).foldl f b) (l.getD i dE):=by
 rw[Yj h,List.foldl_append];rfl
def Zg{α:Type}(p:α→Bool):List α→Int
 | []=>-1
 |x::r=>if p x then 0 else if Zg p r<0 then -1 else Zg p r+1
theorem WC{α}{p:α→Bool}{l:List α}(h:∀x∈l,p x=false):Zg p l=-1:=by
 induction l with
 |nil=>rfl
 |cons x r ih=>simp[Zg,h x (by simp),ih (fun y hy=>h y (by simp[hy]))]
theorem KD{α}[Inhabited α]{p}{l:List α}{i:Nat}(hi:i<l.length)(hp:p (l.getD i dE)=true)(h:∀j,j<i→p (l.getD j dE)=false):Zg p l=i:=by
 induction l generalizing i with
 |nil=>simp at hi
 |cons x r ih =>
  cases i with
  |zero=>simp at hp;simp[Zg,hp]
  |succ i =>
   have h0:=h 0 (by omega)
   have:=ih (i:=i) (by simpa using hi) (by simpa using hp) (fun j hj=>by simpa using h (j+1) (by omega))
   simp at h0
   simp[Zg,h0,this];omega
theorem Jw{α}(p:α→Bool)(l:List α):-1≤Zg p l:=by
 induction l with
 |nil=>simp[Zg]
 |cons x r ih=>simp only[Zg];split<;>(try split)<;>omega
theorem WM{α}(p:α→Bool)(l:List α):Zg p l<l.length:=by
 induction l with
 |nil=>simp[Zg]
 |cons x r ih=>simp only[Zg,ZER];split<;>(try split)<;>omega
theorem ZbU{α}{p:α→Bool}{l:List α}(h:Zg p l<0):∀x∈l,p x=false:=by
 induction l with
 |nil=>simp
 |cons x r ih =>
  have:=Jw p r
  simp only[Zg]at h
  split at h
  ·omega
  ·rename_i hx
   split at h
   ·rename_i hr;intro y hy;rcases List.mem_cons.1 hy with rfl|hy
    ·simpa using hx
    ·exact ih hr y hy
   ·omega
theorem JX{α}[Inhabited α]{p:α→Bool}{l:List α}(h:0≤Zg p l):p (l.getD (Zg p l).toNat dE)=true∧∀j,j<(Zg p l).toNat→p (l.getD j dE)=false:=by
 induction l with
 |nil=>simp[Zg]at h
 |cons x r ih =>
  have:=Jw p r
  by_cases hx:p x=true
  ·simp[Zg,hx]
  ·simp only[Zg,hx,if_false,ZE3]at h⊢
   by_cases hr:Zg p r<0
   ·simp[hr]at h
   ·rw[if_neg hr]
    obtain⟨h1,h2⟩:=ih (by omega)
    rw[show(Zg p r+1).toNat=(Zg p r).toNat+1 by omega]
    refine⟨by simpa using h1,fun j hj=>?_⟩
    cases j with
    |zero=>simpa using hx
    |succ j=>simpa using h2 j (by omega)
theorem Q8{α:Type}[Inhabited α]{l:List α}{n j}(h:j<n):(l.take n).getD j dE=l.getD j dE:=by
 simp[ZES,List.getElem?_take_of_lt h]
def ZF(d:Dfn)(s:Str)(n:Nat):Int:=Zg (fun m=>dC (m.name=s)) (d.msgs.take n)
def Ja(m:Msg)(s:Str)(n:Nat):Int:=Zg (fun f=>dC (f.name=s)) (m.fields.take n)
def QN(f:Fld)(tag:Int):Int:=Zg (fun c=>dC (c.low≤tag)&&dC (tag≤c.high)) f.cases
def Yv(f:Fld):Bool:=dC (1≤f.kind)&&dC (f.kind≤3)
def Kr(f:Fld):Int×Int:=if f.kind=2 then (f.low,f.low) else (f.low,f.high)
def Zqj(a b:Int):Bool:=dC (0≤a)&&(dC (a≤b)&&dC (b<34359738368))
def Zvk:List Str:=[[],[98,108,120,104],[98,108,120],[111,120,104],[115],[120,104],[111,104],[102,115],[102],[116,99],[98],[114,107],[102,115,121]]
def Zny(k:Int):Str:=Zvk.getD k.toNat []
def ZbV(s:Str)(c:UInt8):Bool:=dC (c∈s)
def zrA(u:Str)(f:Fld):Bool:=(ZbV u 98 ||decide (f.bits=0))&&((ZbV u 108||!f.little)&&((ZbV u 111||!f.loose)&&((ZbV u 120 ||decide (f.low=0))&&(ZbV u 104 ||decide (f.high=0)))))
def zrB(u:Str)(f:Fld):Bool:=(ZbV u 115 ||(dC (f.size.base=0)&&dC (f.size.terms.length=0)))&&((ZbV u 102 ||decide (f.of=[]))&&((ZbV u 116 ||decide (f.tag=[]))&&(ZbV u 114 ||decide (f.from_=[]))))
def zrC(u:Str)(f:Fld):Bool:=(ZbV u 99 ||decide (f.cases.length=0))&&((ZbV u 107 ||decide (f.check=0))&&(ZbV u 121 ||decide (f.key=0)))
def Zkg(f:Fld):Bool:=zrA (Zny f.kind) f&&(zrB (Zny f.kind) f&&zrC (Zny f.kind) f)
def ZdZ(f:Fld):Bool:=dC (f.bits<1) ||(dC (32<f.bits) ||(f.little&&(!dC (f.bits=16)&&(!dC (f.bits=24)&&!dC (f.bits=32)))))
def ZlR(f:Fld):Int:=if f.kind=2 then f.low else f.high
def ZrA(f:Fld):Bool:=dC (f.low<0) ||(dC (ZlR f<f.low) ||decide (2 ^ f.bits.toNat≤ZlR f))
def ZaJ(f:Fld):Int:=if ZdZ f then 6 else if ZrA f then 7 else 0
theorem ZAE{b}(h0:0≤b)(h1:b≤32):Zhu .i64 1 b=2 ^ b.toNat:=by
 unfold Zhu
 rw[show Nat.min b.toNat IntKind.i64.bits=b.toNat from Nat.min_eq_left (show b.toNat≤IntKind.i64.bits by simp[IntKind.bits];omega)]
 simp
theorem ZfE{b:Int}(h0:0≤b)(h1:b≤32):(0:Int)<2 ^ b.toNat∧(2:Int) ^ b.toNat≤4294967296:=by
 have h:=Nat.pow_le_pow_right (n:=2) (by omega) (show b.toNat≤32 by omega)
 have h2:=Nat.two_pow_pos b.toNat
 rw[show(2:Int) ^ b.toNat=((2 ^ b.toNat:Nat):Int) from(Int.natCast_pow 2 b.toNat).symm]
 generalize 2 ^ b.toNat=x at h h2⊢
 omega
def ZtI(m:Msg)(s:Str)(n:Nat):Bool:=(m.fields.take n).any fun f=>dC (f.kind=9)&&dC (f.tag=s)
def Zeg(d:Dfn)(at_:Nat)(high:Int):Int→List YX→Int
 |_,[]=>0
 |low,c::r=>if dC (c.low<low) ||(dC (c.high<c.low) ||decide (high<c.high)) then 7 else if ZF d c.of at_<0 then 8 else Zeg d at_ high (c.high+1) r
def ZqO(d:Dfn)(at_:Nat)(f:Fld)(low high:Int):Int:=if dC (f.cases.length<1) ||decide (40<f.cases.length) then 3 else Zeg d at_ high low f.cases
def WA(fs:List Fld):Zeb:=fun s=>if Zg (fun f=>dC (f.name=s)) fs<0 then nO else if Yv (fs.getD (Zg (fun f=>dC (f.name=s)) fs).toNat dE) then sO (Kr (fs.getD (Zg (fun f=>dC (f.name=s)) fs).toNat dE)) else nO
def Zda(fs:List Fld)(s:Zbh):Int:=if Z1 s=false then 9 else if s.terms.any (Ji (WA fs)) then 8 else if !dC ((Jy s (WA fs)).2.2=0) ||(dC ((Jy s (WA fs)).1<0) ||decide (1048576<(Jy s (WA fs)).2.1)) then 9 else 0
def ZaO(l:List Str):D:=slD 1 (fun s=>[.str s]) l
def Zaz(f:Fld):List Str:=if dC (f.kind=7) ||(dC (f.kind=8) ||decide (f.kind=12)) then [f.of] else []
def Yr(f:Fld):List Str:=Zaz f++if f.kind=9 then f.cases.map (·.of) else []
def ZbM(out:List Str)(s:Str):List Str:=if s∈out then out else out++[s]
def Ke(m:Msg):List Str:=(m.fields.flatMap Yr).foldl ZbM []
theorem Zss(out s):(ZbM out s).length≤out.length+1:=by unfold ZbM;split<;>simp
theorem Zki(l out:List Str):(l.foldl ZbM out).length≤out.length+l.length:=by
 induction l generalizing out with
 |nil=>simp
 |cons x r ih=>have:=ih (ZbM out x);have:=Zss out x;simp only[List.foldl_cons,ZER];omega
theorem ZhT(l:List Fld)(i):((l.take i).flatMap Yr).length≤(l.flatMap Yr).length:=by
 conv=>rhs;rw[←List.take_append_drop i l,List.flatMap_append,ZEM]
 omega
theorem Zkh(l:List Fld)(i)(hi:i<l.length):(l.take (i+1)).flatMap Yr=(l.take i).flatMap Yr++Yr (l.getD i dE):=by
 rw[Yj hi,List.flatMap_append];simp
def ZeU(d:Dfn)(m:Msg)(prev:List Bool):Bool:=m.fields.all (fun f=>!f.loose)&&(Ke m).all fun s=>prev.getD (ZF d s prev.length).toNat dE
def Kw(d:Dfn):Nat→List Bool
 |0=>[]
 |n+1=>Kw d n++[ZeU d (d.msgs.getD n dE) (Kw d n)]
theorem Zcc(d n):(Kw d n).length=n:=by
 induction n with
 |zero=>rfl
 |succ n ih=>simp[Kw,ih]
structure ZAJ(d:Dfn)(j:Nat):Prop where
 few:((d.msgs.getD j default).fields.flatMap Yr).length≤1000000
 ref:∀s∈Ke (d.msgs.getD j default),0≤ZF d s j
theorem ZqE{α:Type}[Inhabited α]{p}{l:List α}{i}(h:i<l.length):(l.take (i+1)).all p=((l.take i).all p&&p (l.getD i dE)):=by
 rw[Yj h,List.all_append];simp
def ZmT(f:Fld):Bool:=!dC (f.bits=2)&&(!dC (f.bits=4)&&(dC (f.bits<8) ||(dC (512<f.bits)||!dC (Int.tmod f.bits 8=0))))
def Zil(m:Msg)(i:Nat)(f:Fld):Bool:=dC (Ja m f.tag i<0) ||(!Yv (m.fields.getD (Ja m f.tag i).toNat dE) ||ZtI m f.tag i)
def ZoD(d:Dfn)(at_:Nat)(f:Fld):Bool:=dC (ZF d f.of at_<0)||!(Kw d at_).getD (ZF d f.of at_).toNat dE
def Zav(d:Dfn)(at_:Nat)(m:Msg)(i:Nat)(f:Fld):Int :=
 if f.kind=1 then ZaJ f else if f.kind=2 then ZaJ f
 else if f.kind=3 then (if Zqj f.low f.high then 0 else 7)
 else if f.kind=4 then Zda (m.fields.take i) f.size
 else if f.kind=5 then (if dC (f.low<0) ||(dC (255<f.low) ||(dC (f.high<0) ||decide (1048576<f.high))) then 7 else 0)
 else if f.kind=6 then (if dC (f.high<2) ||decide (1048576<f.high) then 7 else 0)
 else if f.kind=7 then (if ZF d f.of at_<0 then 8 else Zda (m.fields.take i) f.size)
 else if f.kind=8 then (if ZF d f.of at_<0 then 8 else 0)
 else if f.kind=9 then (if Zil m i f then 8 else ZqO d at_ f (Kr (m.fields.getD (Ja m f.tag i).toNat dE)).1 (Kr (m.fields.getD (Ja m f.tag i).toNat dE)).2)
 else if f.kind=10 then (if ZmT f then 6 else 0)
 else if f.kind=11 then (if dC (f.check<1) ||decide (3<f.check) then 7 else if Ja m f.from_ i<0 then 8 else 0)
 else if f.kind=12 then (if dC (f.key<0) ||decide (4294967295<f.key) then 7 else if ZoD d at_ f then 8 else Zda (m.fields.take i) f.size)
 else 0
def K1(d:Dfn)(at_:Nat)(m:Msg)(i:Nat)(f:Fld):Int :=
 if YE f.name=false then 1 else if 0≤Ja m f.name i then 2 else if dC (f.kind<1) ||decide (12<f.kind) then 4 else if Zkg f=false then 5 else Zav d at_ m i f
def YH(d:Dfn)(at_:Nat)(m:Msg):Nat→List Fld→Option (Int×Int)
 |_,[]=>nO
 |i,f::r=>if K1 d at_ m i f=0 then YH d at_ m (i+1) r else sO (i,K1 d at_ m i f)
def WQ(d:Dfn)(at_:Nat)(m:Msg):Option (Int×Int) :=
 if YE m.name=false then sO (-1,1) else if 0≤ZF d m.name at_ then sO (-1,2) else if dC (m.fields.length<1) ||decide (40<m.fields.length) then sO (-1,3) else YH d at_ m 0 m.fields
def ZvM(d:Dfn)(at_:Nat)(deps:List Int)(b:Int)(l:List Str):Int:=l.foldl (fun a s=>max a (deps.getD (ZF d s at_).toNat dE)) b
def Zeo(d:Dfn)(at_:Nat)(deps:List Int)(m:Msg):Int:=ZvM d at_ deps 0 (Ke m)+1
def Ju(d:Dfn):Nat→List Msg→List Int→Option (Int×Int×Int)
 |_,[],_=>if ZF d d.start d.msgs.length<0 then sO (-1,-1,11) else nO
 |at_,m::r,deps=>match WQ d at_ m with
  |some (i,c)=>sO (at_,i,c)
  |none=>if 16<Zeo d at_ deps m then sO (at_,-1,10) else Ju d (at_+1) r (deps++[Zeo d at_ deps m])
def ZqT(d:Dfn):Option (Int×Int×Int) :=
 if YE d.name=false then sO (-1,-1,1) else if dC (d.msgs.length<1) ||decide (60<d.msgs.length) then sO (-1,-1,3) else Ju d 0 d.msgs []
def Ze0(d:Dfn):Bool:=(ZqT d).isNone
theorem ZvC{d at_ high low l}(h:Zeg d at_ high low l=0):∀c∈l,0≤ZF d c.of at_:=by
 induction l generalizing low with
 |nil=>simp
 |cons c r ih =>
  simp only[Zeg]at h
  split at h
  ·omega
  ·split at h
   ·omega
   ·intro x hx
    rcases List.mem_cons.1 hx with rfl|hx
    ·omega
    ·exact ih h x hx
theorem ZoX{d at_ i m f}(h:K1 d at_ m i f=0):(Yr f).length≤41∧∀s∈Yr f,0≤ZF d s at_:=by
 unfold K1 at h
 split at h;· omega
 split at h;· omega
 split at h;· omega
 rename_i hk
 split at h;· omega
 simp only[ZEY,decide_eq_true_eq,not_or,Int.not_lt]at hk
 have hk2:f.kind=1∨f.kind=2∨f.kind=3∨f.kind=4∨f.kind=5∨f.kind=6∨f.kind=7∨f.kind=8∨f.kind=9∨f.kind=10∨f.kind=11∨f.kind=12:=by omega
 unfold Zav at h
 rcases hk2 with hk|hk|hk|hk|hk|hk|hk|hk|hk|hk|hk|hk<;>simp only[hk,Int.reduceEq,if_true,if_false]at h<;>(try(simp[Yr,Zaz,hk];done))
 ·simp only[Yr,Zaz,hk];split at h
  ·omega
  ·simp;omega
 ·simp only[Yr,Zaz,hk];split at h
  ·omega
  ·simp;omega
 ·split at h
  ·omega
  ·unfold ZqO at h
   split at h
   ·omega
   ·rename_i hc
    simp only[ZEY,decide_eq_true_eq,not_or,Nat.not_lt]at hc
    have:=ZvC h
    simp[Yr,Zaz,hk]
    exact⟨by omega,this⟩
 ·split at h
  ·omega
  ·split at h
   ·omega
   ·rename_i hv
    simp only[ZoD,ZEY,decide_eq_true_eq,not_or]at hv
    simp[Yr,Zaz,hk];omega
theorem Zmn{d at_ m i l}(h:YH d at_ m i l=nO):(l.flatMap Yr).length≤41*l.length∧∀s∈l.flatMap Yr,0≤ZF d s at_:=by
 induction l generalizing i with
 |nil=>simp
 |cons f r ih =>
  simp only[YH]at h
  split at h
  ·rename_i hf
   have h1:=ZoX hf
   have h2:=ih h
   simp only[List.flatMap_cons,ZEM,ZER,List.mem_append]
   refine⟨by omega,fun s hs=>?_⟩
   rcases hs with hs|hs
   ·exact h1.2 s hs
   ·exact h2.2 s hs
  ·simp at h
theorem Zgn{s}{l out:List Str}:s∈l.foldl ZbM out↔s∈out∨s∈l:=by
 induction l generalizing out with
 |nil=>simp
 |cons x r ih =>
  simp only[List.foldl_cons,ih,ZFd]
  unfold ZbM
  split
  ·rename_i h
   constructor
   ·rintro(h1|h1)
    ·exact .inl h1
    ·exact .inr (.inr h1)
   ·rintro(h1|rfl|h1)
    ·exact .inl h1
    ·exact .inl h
    ·exact .inr h1
  ·simp only[List.mem_append,List.mem_singleton,_root_.or_assoc]
theorem ZsD{s m}:s∈Ke m↔s∈m.fields.flatMap Yr:=by
 unfold Ke;rw[Zgn];simp
theorem Zyd{d j m}(hm:d.msgs.getD j dE=m)(h:WQ d j m=nO):ZAJ d j:=by
 unfold WQ at h
 split at h;· simp at h
 split at h;· simp at h
 split at h;· simp at h
 rename_i hc
 simp only[ZEY,decide_eq_true_eq,not_or,Nat.not_lt]at hc
 have:=Zmn h
 subst hm
 exact⟨by omega,fun s hs=>this.2 s (ZsD.1 hs)⟩
end Go.DL
namespace Go.DL
open Go
variable {kp:Option (List Nat)}{L:Loc}{ρ:Env}{s:St}{w:World}{os:List DOp}{ds:List D}{B:List (Nat × Rd)}{dst:Option Nat}{tmps:Array Value}{g:G}{Φ:Res→St→Prop}{ν:Nat→Nat}{xs:List Opd}{side:Prop}{row:Nat→List D}
theorem Ye{q:Nat→Prop}{j}(h:∀i,i<j→q i)(hj:q j):∀i,i<j+1→q i:=fun i hi=>by
 rcases Nat.lt_or_eq_of_le (Nat.le_of_lt_succ hi) with h' |rfl
 ·exact h i h'
 ·exact hj
theorem Zsi{s}{t:Tok}{x:Nat}{o:W4}(h:t.okIn (s.upd x o)):t.okIn s∧∀k,(s.upd x o).own t k=(s.own t k).upd x o:=by
 cases t with
 |tip b =>
  simp only[Tok.okIn]at h
  have hb:b≠x:=fun e=>by rw[e,ZEI]at h;simp at h
  refine⟨by simp only[Tok.okIn];rw[ZEJ s o hb]at h;exact h,fun k=>?_⟩
  simp only[St.own];exact St.upd_comm s o _ hb
 |full=>exact⟨trivial,fun _=>rfl⟩
 |none=>exact h.elim
theorem ZrE{s}{t:Tok}{x k:Nat}(o:W4)(h:t.okIn s)(hx:(s.own t k) x=nO):t.okIn (s.upd x o):=by
 cases t with
 |tip b =>
  simp only[Tok.okIn,St.own]at h hx⊢
  have hb:b≠x:=fun e=>by rw[e,ZEI]at hx;simp at hx
  rw[ZEJ s o hb];exact h
 |full=>trivial
 |none=>exact h.elim
theorem Zd3{s}{t:Tok}{x k:Nat}(ht:t.okIn s){o:W4}(hx:s x=sO o):(s.own t k) x=sO o:=Y0 ht _ _ hx
theorem ZxZ{t x k}(hx:(s.own t k) x=nO):s x=nO∧∀j,(s.own t j) x=nO:=by
 cases t with
 |tip b =>
  simp only[St.own]at hx⊢
  have hb:x≠b:=fun e=>by rw[e,ZEI]at hx;simp at hx
  rw[ZEJ s _ hb]at hx
  exact⟨hx,fun j=>by rw[ZEJ s _ hb];exact hx⟩
 |_=>exact⟨hx,fun _=>hx⟩
theorem Zzj{t x o}(h:t.okIn (s.upd x o))(hx:s x=nO)(k):(s.own t k) x=nO:=by
 cases t with
 |tip b =>
  simp only[Tok.okIn,St.own]at h⊢
  have hb:x≠b:=fun e=>by rw[e,ZEI]at h;simp at h
  rw[ZEJ s _ hb];exact hx
 |_=>exact hx
def st2(st:St)(t1:Tok)(k1:Nat)(t2:Tok)(k2:Nat)(x:Nat)(c:W4):St:=((st.own t1 k1).own t2 k2).upd x c
theorem Yl{st t1 t2 x k1 k2 c}:(st2 st t1 k1 t2 k2 x c) x=sO c:=ZEI _ _ _
theorem Ym{st t1 t2 x k1 k2 c c'}:(st2 st t1 k1 t2 k2 x c).upd x c'=st2 st t1 k1 t2 k2 x c':=ZET _ _ _ _
open Go.Proofs
def Qb{α:Type}(p:α→Bool):List α→Nat
 | []=>0
 |x::r=>if p x then 1 else Qb p r+1
theorem ZaM{α}{p:α→Bool}{l:List α}(h:∀x∈l,p x=false):Qb p l=l.length:=by
 induction l with
 |nil=>rfl
 |cons x r ih=>simp only[Qb,h x (by simp),ZER];rw[ih fun y hy=>h y (by simp[hy])];simp
theorem Zcz{α}[Inhabited α]{p}{l:List α}{i:Nat}(hi:i<l.length)(hp:p (l.getD i dE)=true)(h:∀j,j<i→p (l.getD j dE)=false):Qb p l=i+1:=by
 induction l generalizing i with
 |nil=>simp at hi
 |cons x r ih =>
  cases i with
  |zero=>simp at hp;simp[Qb,hp]
  |succ i =>
   have h0:=h 0 (by omega)
   simp only[List.getD_cons_zero]at h0
   simp only[List.getD_cons_succ,ZER]at hp hi
   simp only[Qb,h0]
   rw[ih (by omega) hp fun j hj=>by have:=h (j+1) (by omega);simpa only[List.getD_cons_succ]using this]
   simp
def byC(b:UInt8):List D:=[.int .u8 (b.toNat:Int)]
theorem JF{α}(p:α→Bool)(l:List α):l.any p=dC (0≤Zg p l):=by
 induction l with
 |nil=>rfl
 |cons x r ih =>
  have:=Jw p r
  rw[List.any_cons,ih]
  simp only[Zg]
  by_cases hx:p x=true
  ·simp[hx]
  ·by_cases hr:Zg p r<0
   ·simp[hx,hr]
   ·simp[hx,hr];omega
theorem Zdc(l f p)(sts:Nat→St)(hf:∀i,i<l.length→VT ZEA f [.agg (l.getD i dE).cells] (sts i) (.bool (p (l.getD i dE))) (sts (i+1))):
  ZK ZEA 115 [slD 2 Msg.cells l,f] (sts 0) (.int .i64 (Zg p l)) (sts (Qb p l)):=by
 refine ZB (cR 115 f115) fun hwf F hret=>?_
 have hw:=(WJ (hwf (slD 2 Msg.cells l) (by simp))).1
 unfold big at hw
 clear hwf
 refine rx @eQ1 ?_
 refine rx @eQ1 ?_
 refine Zd (fr (l.length) (fun i Q=>i≤l.length→(∀j,j<i→p (l.getD j dE)=false)→Q [(0,.d (slD 2 Msg.cells l)),(1,.d f),(7,.d (.int .i64 l.length)),(8,.d (.int .i64 i))] [] (sts i)) (fun n ih_key=>?_) fun key=>?_)
 ·intro i hn hi hno
  refine rx @eQ1 ?_
  refine Za (Zq rfl trivial (fun h1=>?_) (fun h1=>?_))
  ·simp at h1
   refine rx @eQ1 ?_
   refine rx (nd2 @eQ1 @eQ2) ?_
   refine aa ?_
   refine cW (hf i h1) ?_
   refine cd (fun h2=>?_) (fun h2=>?_)
   ·have e1:=KD h1 h2 hno
    have e2:=Zcz h1 h2 hno
    rw[e1,e2]at hret
    refine rg ?_
    exact hret rfl (by trivial) (ZEF _) (ZEB _)
   ·refine rg ?_
    refine aa ?_
    refine Zi ?_
    exact ih_key ((l.length)-(i+1)) (by omega) (i+1) rfl (by omega) (Ye (q:=fun j=>p (l.getD j dE)=false) hno h2)
  ·simp at h1
   obtain rfl:i=l.length:=by omega
   have hall:∀x∈l,p x=false:=fun x hx=>by
    obtain⟨j,hj,rfl⟩:=ZEV hx
    have:=hno j hj
    simpa[ZES,hj]using this
   rw[WC hall,ZaM hall]at hret
   refine rg ?_
   exact hret rfl (by trivial) (ZEF _) (ZEB _)
 exact key _ 0 rfl (by omega) (by intro j hj;omega)
theorem ZeQ(l f p)(sts:Nat→St)(hf:∀i,i<l.length→VT ZEA f [.agg (l.getD i dE).cells] (sts i) (.bool (p (l.getD i dE))) (sts (i+1))):
  ZK ZEA 64 [slD 3 YX.cells l,f] (sts 0) (.int .i64 (Zg p l)) (sts (Qb p l)):=by
 refine ZB (cR 64 f64) fun hwf F hret=>?_
 have hw:=(WJ (hwf (slD 3 YX.cells l) (by simp))).1
 unfold big at hw
 clear hwf
 refine rx @eQ1 ?_
 refine rx @eQ1 ?_
 refine Zd (fr (l.length) (fun i Q=>i≤l.length→(∀j,j<i→p (l.getD j dE)=false)→Q [(0,.d (slD 3 YX.cells l)),(1,.d f),(7,.d (.int .i64 l.length)),(8,.d (.int .i64 i))] [] (sts i)) (fun n ih_key=>?_) fun key=>?_)
 ·intro i hn hi hno
  refine rx @eQ1 ?_
  refine Za (Zq rfl trivial (fun h1=>?_) (fun h1=>?_))
  ·simp at h1
   refine rx @eQ1 ?_
   refine rx (nd2 @eQ1 @YX.cells.eq_1) ?_
   refine aa ?_
   refine cW (hf i h1) ?_
   refine cd (fun h2=>?_) (fun h2=>?_)
   ·have e1:=KD h1 h2 hno
    have e2:=Zcz h1 h2 hno
    rw[e1,e2]at hret
    refine rg ?_
    exact hret rfl (by trivial) (ZEF _) (ZEB _)
   ·refine rg ?_
    refine aa ?_
    refine Zi ?_
    exact ih_key ((l.length)-(i+1)) (by omega) (i+1) rfl (by omega) (Ye (q:=fun j=>p (l.getD j dE)=false) hno h2)
  ·simp at h1
   obtain rfl:i=l.length:=by omega
   have hall:∀x∈l,p x=false:=fun x hx=>by
    obtain⟨j,hj,rfl⟩:=ZEV hx
    have:=hno j hj
    simpa[ZES,hj]using this
   rw[WC hall,ZaM hall]at hret
   refine rg ?_
   exact hret rfl (by trivial) (ZEF _) (ZEB _)
 exact key _ 0 rfl (by omega) (by intro j hj;omega)
theorem Qc(l f p)(sts:Nat→St)(hf:∀i,i<l.length→VT ZEA f [.agg (l.getD i dE).cells] (sts i) (.bool (p (l.getD i dE))) (sts (i+1))):
  ZK ZEA 154 [slD 15 Fld.cells l,f] (sts 0) (.int .i64 (Zg p l)) (sts (Qb p l)):=by
 refine ZB (cR 154 f154) fun hwf F hret=>?_
 have hw:=(WJ (hwf (slD 15 Fld.cells l) (by simp))).1
 unfold big at hw
 clear hwf
 refine rx @eQ1 ?_
 refine rx @eQ1 ?_
 refine Zd (fr (l.length) (fun i Q=>i≤l.length→(∀j,j<i→p (l.getD j dE)=false)→Q [(0,.d (slD 15 Fld.cells l)),(1,.d f),(7,.d (.int .i64 l.length)),(8,.d (.int .i64 i))] [] (sts i)) (fun n ih_key=>?_) fun key=>?_)
 ·intro i hn hi hno
  refine rx @eQ1 ?_
  refine Za (Zq rfl trivial (fun h1=>?_) (fun h1=>?_))
  ·simp at h1
   refine rx @eQ1 ?_
   refine rx (nd2 @eQ1 @eQ0) ?_
   refine aa ?_
   refine cW (hf i h1) ?_
   refine cd (fun h2=>?_) (fun h2=>?_)
   ·have e1:=KD h1 h2 hno
    have e2:=Zcz h1 h2 hno
    rw[e1,e2]at hret
    refine rg ?_
    exact hret rfl (by trivial) (ZEF _) (ZEB _)
   ·refine rg ?_
    refine aa ?_
    refine Zi ?_
    exact ih_key ((l.length)-(i+1)) (by omega) (i+1) rfl (by omega) (Ye (q:=fun j=>p (l.getD j dE)=false) hno h2)
  ·simp at h1
   obtain rfl:i=l.length:=by omega
   have hall:∀x∈l,p x=false:=fun x hx=>by
    obtain⟨j,hj,rfl⟩:=ZEV hx
    have:=hno j hj
    simpa[ZES,hj]using this
   rw[WC hall,ZaM hall]at hret
   refine rg ?_
   exact hret rfl (by trivial) (ZEF _) (ZEB _)
 exact key _ 0 rfl (by omega) (by intro j hj;omega)
theorem ZeS(l f p)(sts:Nat→St)(hf:∀i,i<l.length→VT ZEA f [.int .u8 ((l.getD i dE).toNat:Int)] (sts i) (.bool (p (l.getD i dE))) (sts (i+1))):
  ZK ZEA 143 [slD 1 byC l,f] (sts 0) (.int .i64 (Zg p l)) (sts (Qb p l)):=by
 refine ZB (cR 143 f143) fun hwf F hret=>?_
 have hw:=(WJ (hwf (slD 1 byC l) (by simp))).1
 unfold big at hw
 clear hwf
 refine rx @eQ1 ?_
 refine rx @eQ1 ?_
 refine Zd (fr (l.length) (fun i Q=>i≤l.length→(∀j,j<i→p (l.getD j dE)=false)→Q [(0,.d (slD 1 byC l)),(1,.d f),(7,.d (.int .i64 l.length)),(8,.d (.int .i64 i))] [] (sts i)) (fun n ih_key=>?_) fun key=>?_)
 ·intro i hn hi hno
  refine rx @eQ1 ?_
  refine Za (Zq rfl trivial (fun h1=>?_) (fun h1=>?_))
  ·simp at h1
   refine rx @eQ1 ?_
   refine rx (nd2 @eQ1 @byC.eq_1) ?_
   refine aa ?_
   refine cW (hf i h1) ?_
   refine cd (fun h2=>?_) (fun h2=>?_)
   ·have e1:=KD h1 h2 hno
    have e2:=Zcz h1 h2 hno
    rw[e1,e2]at hret
    refine rg ?_
    exact hret rfl (by trivial) (ZEF _) (ZEB _)
   ·refine rg ?_
    refine aa ?_
    refine Zi ?_
    exact ih_key ((l.length)-(i+1)) (by omega) (i+1) rfl (by omega) (Ye (q:=fun j=>p (l.getD j dE)=false) hno h2)
  ·simp at h1
   obtain rfl:i=l.length:=by omega
   have hall:∀x∈l,p x=false:=fun x hx=>by
    obtain⟨j,hj,rfl⟩:=ZEV hx
    have:=hno j hj
    simpa[ZES,hj]using this
   rw[WC hall,ZaM hall]at hret
   refine rg ?_
   exact hret rfl (by trivial) (ZEF _) (ZEB _)
 exact key _ 0 rfl (by omega) (by intro j hj;omega)
theorem ZcA(l f p)(sts:Nat→St)(hf:∀i,i<l.length→VT ZEA f [.agg (l.getD i dE).cells] (sts i) (.bool (p (l.getD i dE))) (sts (i+1))):
  ZK ZEA 282 [slD 15 Fld.cells l,f] (sts 0) (.bool (l.any p)) (sts (Qb p l)):=by
 refine ZB (cR 282 f282) fun hwf F hret=>?_
 clear hwf
 refine rg ?_
 refine rg ?_
 refine ct (Qc l f p sts hf) ?_
 rw[JF]at hret
 exact hret rfl (by trivial) (ZEF _) (ZEB _)
theorem KI(l f p)(sts:Nat→St)(hf:∀i,i<l.length→VT ZEA f [.int .u8 ((l.getD i dE).toNat:Int)] (sts i) (.bool (p (l.getD i dE))) (sts (i+1))):
  ZK ZEA 89 [slD 1 byC l,f] (sts 0) (.bool (l.any p)) (sts (Qb p l)):=by
 refine ZB (cR 89 f89) fun hwf F hret=>?_
 clear hwf
 refine rg ?_
 refine rg ?_
 refine ct (ZeS l f p sts hf) ?_
 rw[JF]at hret
 exact hret rfl (by trivial) (ZEF _) (ZEB _)
def boC(b:Bool):List D:=[.bool b]
def Zbp(s:Str):List D:=[.str s]
theorem Zl7{α:Type}[DecidableEq α](v)(l:List α):l.any (fun x=>dC (v=x))=dC (v∈l):=by
 induction l with
 |nil=>simp
 |cons x r ih=>rw[List.any_cons,ih];simp[ZFd]
theorem ZhO{α:Type}[Inhabited α]{l r:List α}(h:l.length=r.length)(h2:∀j,j<l.length→l.getD j dE=r.getD j dE):l=r:=by
 apply List.ext_getElem h
 intro i h1 h3
 have:=h2 i h1
 simpa[ZES,h1,h3]using this
theorem Zhz(l v):Ze ZEA 184 [slD 1 boC l,.bool v] (.int .i64 (Zg (fun x=>dC (v=x)) l)):=by
 refine Wj (cR 184 f184) fun hwf F st hret=>?_
 have hw:=(WJ (hwf (slD 1 boC l) (by simp))).1
 unfold big at hw
 clear hwf
 refine rx @eQ1 ?_
 refine rx @eQ1 ?_
 refine Zd (fr (l.length) (fun i Q=>i≤l.length→(∀j,j<i→dC (v=l.getD j dE)=false)→Q [(0,.d (slD 1 boC l)),(1,.d (.bool v)),(7,.d (.int .i64 l.length)),(8,.d (.int .i64 i))] [] st) (fun n ih_key=>?_) fun key=>?_)
 ·intro i hn hi hno
  refine rx @eQ1 ?_
  refine Za (Zq rfl trivial (fun h1=>?_) (fun h1=>?_))
  ·simp at h1
   refine rx @eQ1 ?_
   refine rx (nd2 @eQ1 @boC.eq_1) ?_
   refine aa ?_
   refine cd (fun h2=>?_) (fun h2=>?_)
   ·have e1:=KD (p:=fun x=>dC (v=x)) h1 h2 hno
    refine rg ?_
    refine ri hret ?_
    exact e1.symm
   ·refine rg ?_
    refine aa ?_
    refine Zi ?_
    exact ih_key ((l.length)-(i+1)) (by omega) (i+1) rfl (by omega) (Ye (q:=fun j=>dC (v=l.getD j dE)=false) hno h2)
  ·simp at h1
   obtain rfl:i=l.length:=by omega
   have hall:∀x∈l,(fun x=>dC (v=x)) x=false:=fun x hx=>by
    obtain⟨j,hj,rfl⟩:=ZEV hx
    have:=hno j hj
    simpa[ZES,hj]using this
   refine rg ?_
   refine ri hret ?_
   exact(WC hall).symm
 exact key _ 0 rfl (by omega) (by intro j hj;omega)
theorem Ze2(l v):Ze ZEA 142 [slD 1 boC l,.bool v] (.bool (dC (v∈l))):=by
 refine Zm (cR 142 f142) fun F st hret=>?_
 refine rg ?_
 refine rg ?_
 refine cl (Zhz l v) ?_
 refine rb hret ?_
 rw[←JF,Zl7];try congr
theorem Zf8(l v):Ze ZEA 279 [slD 1 Zbp l,.str v] (.int .i64 (Zg (fun x=>dC (v=x)) l)):=by
 refine Wj (cR 279 f279) fun hwf F st hret=>?_
 have hw:=(WJ (hwf (slD 1 Zbp l) (by simp))).1
 unfold big at hw
 clear hwf
 refine rx @eQ1 ?_
 refine rx @eQ1 ?_
 refine Zd (fr (l.length) (fun i Q=>i≤l.length→(∀j,j<i→dC (v=l.getD j dE)=false)→Q [(0,.d (slD 1 Zbp l)),(1,.d (.str v)),(7,.d (.int .i64 l.length)),(8,.d (.int .i64 i))] [] st) (fun n ih_key=>?_) fun key=>?_)
 ·intro i hn hi hno
  refine rx @eQ1 ?_
  refine Za (Zq rfl trivial (fun h1=>?_) (fun h1=>?_))
  ·simp at h1
   refine rx @eQ1 ?_
   refine rx (nd2 @eQ1 @Zbp.eq_1) ?_
   refine aa ?_
   refine cd (fun h2=>?_) (fun h2=>?_)
   ·have e1:=KD (p:=fun x=>dC (v=x)) h1 h2 hno
    refine rg ?_
    refine ri hret ?_
    exact e1.symm
   ·refine rg ?_
    refine aa ?_
    refine Zi ?_
    exact ih_key ((l.length)-(i+1)) (by omega) (i+1) rfl (by omega) (Ye (q:=fun j=>dC (v=l.getD j dE)=false) hno h2)
  ·simp at h1
   obtain rfl:i=l.length:=by omega
   have hall:∀x∈l,(fun x=>dC (v=x)) x=false:=fun x hx=>by
    obtain⟨j,hj,rfl⟩:=ZEV hx
    have:=hno j hj
    simpa[ZES,hj]using this
   refine rg ?_
   refine ri hret ?_
   exact(WC hall).symm
 exact key _ 0 rfl (by omega) (by intro j hj;omega)
theorem ZdP(l v):Ze ZEA 246 [slD 1 Zbp l,.str v] (.bool (dC (v∈l))):=by
 refine Zm (cR 246 f246) fun F st hret=>?_
 refine rg ?_
 refine rg ?_
 refine cl (Zf8 l v) ?_
 refine rb hret ?_
 rw[←JF,Zl7];try congr
theorem Zhy(l r):Ze ZEA 277 [slD 2 Yp.cells l,slD 2 Yp.cells r] (.bool (dC (l=r))):=by
 refine Wj (cR 277 f277) fun hwf F st hret=>?_
 have hw:=(WJ (hwf (slD 2 Yp.cells l) (by simp))).1
 unfold big at hw
 clear hwf
 refine rx @eQ1 ?_
 refine rx @eQ1 ?_
 refine cd (fun h1=>?_) (fun h1=>?_)
 ·refine rg ?_
  refine rb hret ?_
  exact(decide_eq_false (fun e=>by rw[e]at h1;simp at h1)).symm
 ·have hlen:l.length=r.length:=by simp at h1;omega
  refine rx @eQ1 ?_
  refine Zd (fr (l.length) (fun i Q=>i≤l.length→(∀j,j<i→l.getD j dE=r.getD j dE)→Q [(0,.d (slD 2 Yp.cells l)),(1,.d (slD 2 Yp.cells r)),(12,.d (.int .i64 l.length)),(13,.d (.int .i64 i))] [] st) (fun n ih_key=>?_) fun key=>?_)
  ·intro i hn hi hno
   refine rx @eQ1 ?_
   refine Za (Zq rfl trivial (fun h2=>?_) (fun h2=>?_))
   ·simp at h2
    refine rx @eQ1 ?_
    refine rx (nd2 @eQ1 @Yp.cells.eq_1) ?_
    refine aa ?_
    refine cd (fun h3=>?_) (fun h3=>?_)
    ·have hne:l.getD i dE≠r.getD i dE:=fun e=>by rw[e]at h3;simp at h3
     refine rg ?_
     refine rb hret ?_
     exact(decide_eq_false (fun e=>hne (by rw[e]))).symm
    ·have heq:l.getD i dE=r.getD i dE:=by
      generalize l.getD i dE=a at h3⊢;generalize r.getD i dE=b at h3⊢;cases a;cases b;simpa[and_assoc]using h3
     refine rg ?_
     refine aa ?_
     refine Zi ?_
     exact ih_key ((l.length)-(i+1)) (by omega) (i+1) rfl (by omega) (Ye (q:=fun j=>l.getD j dE=r.getD j dE) hno heq)
   ·simp at h2
    obtain rfl:i=l.length:=by omega
    refine rg ?_
    refine rb hret ?_
    exact(decide_eq_true (ZhO hlen hno)).symm
  exact key _ 0 rfl (by omega) (by intro j hj;omega)
theorem Zhx(l r):Ze ZEA 278 [slD 3 YX.cells l,slD 3 YX.cells r] (.bool (dC (l=r))):=by
 refine Wj (cR 278 f278) fun hwf F st hret=>?_
 have hw:=(WJ (hwf (slD 3 YX.cells l) (by simp))).1
 unfold big at hw
 clear hwf
 refine rx @eQ1 ?_
 refine rx @eQ1 ?_
 refine cd (fun h1=>?_) (fun h1=>?_)
 ·refine rg ?_
  refine rb hret ?_
  exact(decide_eq_false (fun e=>by rw[e]at h1;simp at h1)).symm
 ·have hlen:l.length=r.length:=by simp at h1;omega
  refine rx @eQ1 ?_
  refine Zd (fr (l.length) (fun i Q=>i≤l.length→(∀j,j<i→l.getD j dE=r.getD j dE)→Q [(0,.d (slD 3 YX.cells l)),(1,.d (slD 3 YX.cells r)),(12,.d (.int .i64 l.length)),(13,.d (.int .i64 i))] [] st) (fun n ih_key=>?_) fun key=>?_)
  ·intro i hn hi hno
   refine rx @eQ1 ?_
   refine Za (Zq rfl trivial (fun h2=>?_) (fun h2=>?_))
   ·simp at h2
    refine rx @eQ1 ?_
    refine rx (nd2 @eQ1 @YX.cells.eq_1) ?_
    refine aa ?_
    refine cd (fun h3=>?_) (fun h3=>?_)
    ·have hne:l.getD i dE≠r.getD i dE:=fun e=>by rw[e]at h3;simp at h3
     refine rg ?_
     refine rb hret ?_
     exact(decide_eq_false (fun e=>hne (by rw[e]))).symm
    ·have heq:l.getD i dE=r.getD i dE:=by
      generalize l.getD i dE=a at h3⊢;generalize r.getD i dE=b at h3⊢;cases a;cases b;simpa[and_assoc]using h3
     refine rg ?_
     refine aa ?_
     refine Zi ?_
     exact ih_key ((l.length)-(i+1)) (by omega) (i+1) rfl (by omega) (Ye (q:=fun j=>l.getD j dE=r.getD j dE) hno heq)
   ·simp at h2
    obtain rfl:i=l.length:=by omega
    refine rg ?_
    refine rb hret ?_
    exact(decide_eq_true (ZhO hlen hno)).symm
  exact key _ 0 rfl (by omega) (by intro j hj;omega)
theorem ZgA(c):Ze ZEA 86 [.int .u8 c.toNat] (.bool (ZiI c)):=by
 refine Zm (cR 86 f86) fun F st hret=>?_
 refine rg ?_
 refine rg ?_
 refine rb hret ?_
 rfl
theorem ZpV(c):Ze ZEA 87 [.int .u8 c.toNat] (.bool (Zue c)):=by
 refine Zm (cR 87 f87) fun F st hret=>?_
 refine rg ?_
 refine rg ?_
 refine rb hret ?_
 rfl
theorem Zdn(v):Ze ZEA 201 [.int .i64 v] (.bool (Zdd v)):=by
 refine Zm (cR 201 f201) fun F st hret=>?_
 refine rg ?_
 refine rg ?_
 refine rb hret ?_
 simp only[Zdd]
theorem ZkZ(l):Ze ZEA 88 [slD 1 boC l] (.bool (!dC (false∈l))):=by
 refine Zm (cR 88 f88) fun F st hret=>?_
 refine rg ?_
 refine rg ?_
 refine cl (Ze2 l false) ?_
 refine rb hret ?_
 rfl
theorem Zjr(a b):Ze ZEA 88 [.sl .full 2 1 (Z7 [.bool false] ([0,1].zip [.bool a,.bool b]))] (.bool (a&&b)):=by
 have h:ZX boC (Z7 [.bool false] ([0,1].zip [.bool a,.bool b])) [a,b]:=fun i hi=>by
  match i,hi with
  |0,_=>rfl
  |1,_=>rfl
 refine((ZkZ [a,b]).leA (LeC.one (h.le rfl))).le ?_
 cases a<;>cases b<;>rfl
theorem Zpu(a b c):Ze ZEA 88 [.sl .full 3 1 (Z7 [.bool false] ([0,1,2].zip [.bool a,.bool b,.bool c]))] (.bool (a&&(b&&c))):=by
 have h:ZX boC (Z7 [.bool false] ([0,1,2].zip [.bool a,.bool b,.bool c])) [a,b,c]:=fun i hi=>by
  match i,hi with
  |0,_=>rfl
  |1,_=>rfl
  |2,_=>rfl
 refine((ZkZ [a,b,c]).leA (LeC.one (h.le rfl))).le ?_
 cases a<;>cases b<;>cases c<;>rfl
theorem Zot(c):Ze ZEA 85 [.int .u8 c.toNat] (.bool (!ZdJ c)):=by
 refine Zm (cR 85 f85) fun F st hret=>?_
 refine rg ?_
 refine rg ?_
 refine cl (ZgA c) ?_
 refine cG (ZpV c) ?_
 refine rb hret ?_
 unfold ZdJ;cases ZiI c<;>cases Zue c<;>rfl
theorem Zu4(s):Ze ZEA 89 [slD 1 byC s,.fn (.func 85) [] []] (.bool (s.any fun c=>!ZdJ c)) :=
 fun st=>KI s _ _ (fun _=>st) fun i _=>(Zot _).VT (first:=[]) (caps:=[]) st
theorem Zv4(s):YE s=(((dC (1≤(s.length:Int))&&dC ((s.length:Int)≤32))&&ZiI (s.getD 0 0))&&!(s.any fun c=>!ZdJ c)):=by
 cases s with
 |nil=>rfl
 |cons c r =>
  have h:∀l:Str,l.all ZdJ=!(l.any fun c=>!ZdJ c):=fun l=>by
   induction l with
   |nil=>rfl
   |cons x r ih=>simp only[List.all_cons,List.any_cons,ih];cases ZdJ x<;>simp
  simp only[YE,h,List.getD_cons_zero,ZER]
  congr 2
  have h1:dC (1≤((r.length+1:Nat):Int))=true:=decide_eq_true (by omega)
  rw[h1,ZE1]
  exact decide_eq_decide.2 (by omega)
theorem Jr(s):Ze ZEA 46 [.str s] (.bool (YE s)):=by
 refine Wj (cR 46 f46) fun hwf F st hret=>?_
 have hs:=(hwf (.str s) (by simp)).str_inv
 unfold big at hs
 refine rg ?_
 refine rg ?_
 refine rg ?_
 refine cl (Zjr _ _) ?_
 refine aa ?_
 refine cG (ZgA _) ?_
 refine cG (Zu4 s) ?_
 rw[Zv4]at hret
 refine rb hret ?_
 trivial
end Go.DL
namespace Go.DL
open Go
structure Hdr where
 name:Str
 text:Str
deriving Inhabited,DecidableEq
def Hdr.cells(h:Hdr):List D:=[.str h.name,.str h.text]
def Z9(l:List Hdr):D:=slD 2 Hdr.cells l
def u8C(b:UInt8):List D:=[.int .u8 b.toNat]
def ZL(b:Str):D:=slD 1 u8C b
inductive Val where
 |mk (name:Str) (int:Int) (bytes:Str) (hdrs:List Hdr) (parts:List Val)
namespace Val
def name:Val→Str
 |mk n _ _ _ _=>n
def int:Val→Int
 |mk _ i _ _ _=>i
def bytes:Val→Str
 |mk _ _ b _ _=>b
def hdrs:Val→List Hdr
 |mk _ _ _ h _=>h
def parts:Val→List Val
 |mk _ _ _ _ p=>p
end Val
instance:Inhabited Val:=⟨.mk [] 0 [] [] []⟩
def Zyf:List D:=[.str [],.int .i64 0,ZL [],Z9 [],.nilsl]
mutual
def Val.cells:Val→List D
 |.mk n i b h p=>[.str n,.int .i64 i,ZL b,Z9 h,.sl .none p.length 5 fun j=>(Val.cellsL p).getD j Zyf]
def Val.cellsL:List Val→List (List D)
 | []=>[]
 |v::r=>v.cells::Val.cellsL r
end
theorem Val.cellsL_get:∀(l j),j<l.length→(Val.cellsL l).getD j Zyf=(l.getD j dE).cells
 | [],j,h=>absurd h (Nat.not_lt_zero _)
 |v::r,0,_=>rfl
 |v::r,j+1,h=>by
  have:=cellsL_get r j (by simpa using h)
  simpa[Val.cellsL]using this
def Zb5(p:List Val)(j:Nat):List D:=(Val.cellsL p).getD j Zyf
theorem Zft{p j}(h:j<p.length):Zb5 p j=(p.getD j dE).cells:=Val.cellsL_get p j h
def ZW(p:List Val):D:=.sl .none p.length 5 (Zb5 p)
theorem Val.cells_eq(v:Val):v.cells=[.str v.name,.int .i64 v.int,ZL v.bytes,Z9 v.hdrs,ZW v.parts]:=by
 cases v;rfl
theorem Val.len(v:Val):v.cells.length=5:=by rw[Val.cells_eq];rfl
theorem Val.ind{p:Val→Prop}(h:∀v:Val,(∀x∈v.parts,p x)→p v)(v):p v:=by
 have key:∀n:Nat,∀v:Val,SizeOf.sizeOf v<n→p v:=by
  intro n
  induction n with
  |zero=>intro v h;omega
  |succ n ih =>
   intro v hv
   refine h v fun x hx=>ih x ?_
   have h1:SizeOf.sizeOf x<SizeOf.sizeOf v.parts:=List.sizeOf_lt_of_mem hx
   have h2:SizeOf.sizeOf v.parts<SizeOf.sizeOf v:=by cases v;simp[Val.parts];omega
   omega
 exact key _ v (Nat.lt_succ_self _)
theorem QS{l i}(h:i<l.length):Zb5 l i=[.str (l.getD i dE).name,.int .i64 (l.getD i dE).int,ZL (l.getD i dE).bytes,Z9 (l.getD i dE).hdrs,ZW (l.getD i dE).parts]:=by rw[Zft h,Val.cells_eq]
end Go.DL
namespace Go.DL
open Go Go.Proofs
variable {kp:Option (List Nat)}{L:Loc}{ρ:Env}{s:St}{w:World}{os:List DOp}{ds:List D}{B:List (Nat × Rd)}{dst:Option Nat}{tmps:Array Value}{g:G}{Φ:Res→St→Prop}{ν:Nat→Nat}{xs:List Opd}{side:Prop}{row:Nat→List D}
def Zqi(c:UInt8):Bool:=dC ((32:Int)<c.toNat)&&dC ((c.toNat:Int)<127)
def Zd2(c:UInt8):Bool:=((dC ((65:Int)≤c.toNat)&&dC ((c.toNat:Int)≤90)) ||(dC ((97:Int)≤c.toNat)&&dC ((c.toNat:Int)≤122)) ||(dC ((48:Int)≤c.toNat)&&dC ((c.toNat:Int)≤57))) ||decide ((c.toNat:Int)=45)
def Zgp(s:Str):Bool:=s.all Zd2&&(dC (1≤(s.length:Int))&&dC ((s.length:Int)≤32))
def Znv(c:UInt8):Bool:=dC ((c.toNat:Int)=32) ||Zqi c
def Zit(t:Str):Bool:=dC (t=[]) ||(!dC (((t.getD 0 0).toNat:Int)=32)&&!dC (((t.getD (t.length-1) 0).toNat:Int)=32))
def ZdE(h:Hdr):Bool:=h.text.all Znv&&(Zgp h.name&&Zit h.text)
def K2(l:List Hdr):Bool:=l.all ZdE&&dC ((l.length:Int)≤100)
def Zha(h:Hdr):Str:=h.name++[58,32]++h.text++[13,10]
def Za7(l:List Hdr):Str:=l.flatMap Zha++[13,10]
theorem Zyi(c):Zqi c=(dC ((33:Int)≤c.toNat)&&dC ((c.toNat:Int)≤126)):=by
 unfold Zqi
 rw[show dC ((33:Int)≤c.toNat)=dC ((32:Int)<c.toNat) from decide_eq_decide.2 (by omega),show dC ((c.toNat:Int)≤126)=dC ((c.toNat:Int)<127) from decide_eq_decide.2 (by omega)]
theorem ZdB(a b c):Ze ZEA 233 [.int .u8 a,.int .u8 b,.int .u8 c] (.bool (dC (b≤a)&&dC (a≤c))):=by
 refine Zm (cR 233 f233) fun F st hret=>?_
 refine rg ?_
 refine rg ?_
 refine rb hret ?_
 rfl
theorem ZpO(c):Ze ZEA 232 [.int .u8 c.toNat] (.bool (Zd2 c)):=by
 refine Zm (cR 232 f232) fun F st hret=>?_
 refine rg ?_
 refine rg ?_
 refine cl (ZdB _ _ _) ?_
 refine cG (ZdB _ _ _) ?_
 refine cG (ZdB _ _ _) ?_
 refine rb hret ?_
 unfold Zd2;rfl
theorem Zmy(c):Ze ZEA 199 [.int .u8 c.toNat] (.bool (Zqi c)):=by
 refine Zm (cR 199 f199) fun F st hret=>?_
 refine rg ?_
 refine rg ?_
 refine cl (ZdB _ _ _) ?_
 refine rb hret ?_
 rw[Zyi]
theorem Zn3(c):Ze ZEA 231 [.int .u8 c.toNat] (.bool (!Zd2 c)):=by
 refine Zm (cR 231 f231) fun F st hret=>?_
 refine rg ?_
 refine rg ?_
 refine cl (ZpO _) ?_
 refine rb hret ?_
 rfl
theorem Zmv(s):Ze ZEA 89 [slD 1 byC s,.fn (.func 231) [] []] (.bool (s.any fun c=>!Zd2 c)) :=
 fun st=>KI s _ _ (fun _=>st) fun i _=>(Zn3 _).VT (first:=[]) (caps:=[]) st
theorem ZnS{α:Type}(p)(l:List α):l.all p=!(l.any fun c=>!p c):=by
 induction l with
 |nil=>rfl
 |cons x r ih=>simp only[List.all_cons,List.any_cons,ih];cases p x<;>simp
theorem Zrl(s):Ze ZEA 197 [.str s] (.bool (Zgp s)):=by
 refine Wj (cR 197 f197) fun hwf F st hret=>?_
 have hs:=(hwf (.str s) (by simp)).str_inv
 unfold big at hs
 refine rg ?_
 refine rg ?_
 refine cG (Zmv s) ?_
 refine rb hret ?_
 unfold Zgp;rw[ZnS];generalize (s.any fun c=>!Zd2 c)=x;generalize dC (1≤(s.length:Int))=y;generalize dC ((s.length:Int)≤32)=z;cases x<;>cases y<;>cases z<;>rfl
theorem Zdo(l f p)(sts:Nat→St)(hf:∀i,i<l.length→VT ZEA f [.agg (l.getD i dE).cells] (sts i) (.bool (p (l.getD i dE))) (sts (i+1))):
  ZK ZEA 131 [slD 2 Hdr.cells l,f] (sts 0) (.int .i64 (Zg p l)) (sts (Qb p l)):=by
 refine ZB (cR 131 f131) fun hwf F hret=>?_
 have hw:=(WJ (hwf (slD 2 Hdr.cells l) (by simp))).1
 unfold big at hw
 clear hwf
 refine rx @eQ1 ?_
 refine rx @eQ1 ?_
 refine Zd (fr (l.length) (fun i Q=>i≤l.length→(∀j,j<i→p (l.getD j dE)=false)→Q [(0,.d (slD 2 Hdr.cells l)),(1,.d f),(7,.d (.int .i64 l.length)),(8,.d (.int .i64 i))] [] (sts i)) (fun n ih_key=>?_) fun key=>?_)
 ·intro i hn hi hno
  refine rx @eQ1 ?_
  refine Za (Zq rfl trivial (fun h1=>?_) (fun h1=>?_))
  ·simp at h1
   refine rx @eQ1 ?_
   refine rx (nd2 @eQ1 @Hdr.cells.eq_1) ?_
   refine aa ?_
   refine cW (hf i h1) ?_
   refine cd (fun h2=>?_) (fun h2=>?_)
   ·have e1:=KD h1 h2 hno
    have e2:=Zcz h1 h2 hno
    rw[e1,e2]at hret
    refine rg ?_
    exact hret rfl (by trivial) (ZEF _) (ZEB _)
   ·refine rg ?_
    refine aa ?_
    refine Zi ?_
    exact ih_key ((l.length)-(i+1)) (by omega) (i+1) rfl (by omega) (Ye (q:=fun j=>p (l.getD j dE)=false) hno h2)
  ·simp at h1
   obtain rfl:i=l.length:=by omega
   have hall:∀x∈l,p x=false:=fun x hx=>by
    obtain⟨j,hj,rfl⟩:=ZEV hx
    have:=hno j hj
    simpa[ZES,hj]using this
   rw[WC hall,ZaM hall]at hret
   refine rg ?_
   exact hret rfl (by trivial) (ZEF _) (ZEB _)
 exact key _ 0 rfl (by omega) (by intro j hj;omega)
theorem Q9(l f p)(sts:Nat→St)(hf:∀i,i<l.length→VT ZEA f [.agg (l.getD i dE).cells] (sts i) (.bool (p (l.getD i dE))) (sts (i+1))):
  ZK ZEA 78 [slD 2 Hdr.cells l,f] (sts 0) (.bool (l.any p)) (sts (Qb p l)):=by
 refine ZB (cR 78 f78) fun hwf F hret=>?_
 clear hwf
 refine rg ?_
 refine rg ?_
 refine ct (Zdo l f p sts hf) ?_
 rw[JF]at hret
 exact hret rfl (by trivial) (ZEF _) (ZEB _)
def Jf(c:UInt8):Bool:=dC ((c.toNat:Int)=32)
def Zcg(s:Str):Str:=s.dropWhile Jf
def ZaQ(s:Str):Str:=(s.reverse.dropWhile Jf).reverse
theorem Znw{s}(h:Jf (s.getD 0 0)=true)(hp:0<s.length):Zcg s=Zcg (s.drop 1):=by
 cases s with
 |nil=>simp at hp
 |cons c r=>simp only[List.getD_cons_zero]at h;simp[Zcg,List.dropWhile_cons,h]
theorem Zpy{s}(h:(dC (0<(s.length:Int))&&Jf (s.getD 0 0))=false):Zcg s=s:=by
 cases s with
 |nil=>rfl
 |cons c r =>
  simp only[List.getD_cons_zero,ZER]at h
  have hb:Jf c=false:=by
   have h1:dC (0<((r.length+1:Nat):Int))=true:=decide_eq_true (by omega)
   rw[h1,ZE1]at h;exact h
  simp[Zcg,List.dropWhile_cons,hb]
theorem Zpb(l)(a:UInt8):(l++[a]).getD ((l++[a]).length-1) 0=a:=by simp[ZES]
theorem Znx{s}(h:Jf (s.getD (s.length-1) 0)=true)(hp:0<s.length):ZaQ s=ZaQ (s.take (s.length-1)):=by
 rcases List.eq_nil_or_concat s with rfl|⟨l,a,rfl⟩
 ·simp at hp
 ·rw[List.concat_eq_append]at h⊢
  rw[Zpb]at h
  simp[ZaQ,List.dropWhile_cons,h]
theorem Zpz{s}(h:(dC (0<(s.length:Int))&&Jf (s.getD (s.length-1) 0))=false):ZaQ s=s:=by
 rcases List.eq_nil_or_concat s with rfl|⟨l,a,rfl⟩
 ·rfl
 ·rw[List.concat_eq_append]at h⊢
  rw[Zpb]at h
  have hb:Jf a=false:=by
   have h1:dC (0<((l++[a]).length:Int))=true:=decide_eq_true (by rw[ZEM,List.length_singleton];omega)
   rw[h1,ZE1]at h;exact h
  simp[ZaQ,List.dropWhile_cons,hb]
theorem ZwS(s):(ZaQ s).length≤s.length:=by
 unfold ZaQ
 rw[List.length_reverse]
 exact Nat.le_trans (List.dropWhile_sublist _).length_le (by simp)
theorem ZwT(t):dC (Zcg (ZaQ t)=t)=Zit t:=by
 have hlen:∀s:Str,(Zcg s).length≤s.length:=fun s=>(List.dropWhile_sublist _).length_le
 by_cases ht:t=[]
 ·subst ht;rfl
 ·have hp:=List.length_pos_iff.2 ht
  have h0:Zit t=(!Jf (t.getD 0 0)&&!Jf (t.getD (t.length-1) 0)):=by
   unfold Zit;rw[decide_eq_false ht,Bool.false_or];rfl
  rw[h0]
  cases hr:Jf (t.getD (t.length-1) 0) with
  |true =>
   rw[Bool.not_true,Bool.and_false,decide_eq_false]
   intro h
   have h1:=congrArg List.length h
   rw[Znx hr hp]at h1
   have h2:=hlen (ZaQ (t.take (t.length-1)))
   have h3:=ZwS (t.take (t.length-1))
   rw[ZEU]at h3
   omega
  |false =>
   rw[Zpz (by rw[hr,Bool.and_false]),Bool.not_false,Bool.and_true]
   cases hl:Jf (t.getD 0 0) with
   |true =>
    rw[Bool.not_true,decide_eq_false]
    intro h
    have h1:=congrArg List.length h
    rw[Znw hl hp]at h1
    have h2:=hlen (t.drop 1)
    rw[ZFh]at h2
    omega
   |false=>rw[Zpy (by rw[hl,Bool.and_false])];simp
theorem Ze4(s):Ze ZEA 135 [.str s,.int .u8 32] (.str (Zcg s)):=by
 refine Wj (cR 135 f135) fun hwf F st hret=>?_
 have hs:=(hwf (.str s) (by simp)).str_inv
 unfold big at hs
 clear hwf
 refine rg ?_
 refine Za (Zd ?_)
 refine lpU (fun Q=>∀n (t:Str),t.length≤n→t.length≤9223372036854775807→Zcg t=Zcg s→Q F [(0,.d (.str t)),(1,.d (.int .u8 32))] [] st) ?_ fun key=>?_
 ·intro n
  induction n with
  |zero =>
   intro t hn hb ht
   obtain rfl:t=[]:=List.length_eq_zero_iff.1 (by omega)
   refine rg ?_
   refine aa ?_
   refine i0 ?_
   refine rg ?_
   refine rs hret ?_
   rw[←ht];rfl
  |succ n ih =>
   intro t hn hb ht
   refine rg ?_
   refine aa ?_
   refine cd (fun h1=>?_) (fun h1=>?_)
   ·simp only[ZEK,decide_eq_true_eq]at h1
    refine rg ?_
    refine aa ?_
    refine Zo (Zi ?_)
    rw[show List.take (t.length-1) (t.drop 1)=t.drop 1 from List.take_of_length_le (by simp)]
    exact ih _ (by rw[ZFh];omega) (by rw[ZFh];omega) (by rw[←ht];exact(Znw (decide_eq_true h1.2) (by omega)).symm)
   ·refine rg ?_
    refine rs hret ?_
    rw[←ht];exact(Zpy h1).symm
 exact key s.length s (ZEP _) hs rfl
theorem ZeV(s):Ze ZEA 136 [.str s,.int .u8 32] (.str (ZaQ s)):=by
 refine Wj (cR 136 f136) fun hwf F st hret=>?_
 have hs:=(hwf (.str s) (by simp)).str_inv
 unfold big at hs
 clear hwf
 refine rg ?_
 refine Za (Zd ?_)
 refine lpU (fun Q=>∀n (t:Str),t.length≤n→t.length≤9223372036854775807→ZaQ t=ZaQ s→Q F [(0,.d (.str t)),(1,.d (.int .u8 32))] [] st) ?_ fun key=>?_
 ·intro n
  induction n with
  |zero =>
   intro t hn hb ht
   obtain rfl:t=[]:=List.length_eq_zero_iff.1 (by omega)
   refine rg ?_
   refine aa ?_
   refine i0 ?_
   refine rg ?_
   refine rs hret ?_
   rw[←ht];rfl
  |succ n ih =>
   intro t hn hb ht
   refine rg ?_
   refine aa ?_
   refine cd (fun h1=>?_) (fun h1=>?_)
   ·simp only[ZEK,decide_eq_true_eq]at h1
    rw[show((t.length:Int)-1).toNat=t.length-1 by omega]at h1
    refine rg ?_
    refine aa ?_
    refine Zo (Zi ?_)
    rw[show((t.length:Int)-1).toNat=t.length-1 by omega]
    exact ih _ (by rw[ZEU];omega) (by rw[ZEU];omega) (by rw[←ht];exact(Znx (decide_eq_true h1.2) (by omega)).symm)
   ·have h2:(dC (0<(t.length:Int))&&Jf (t.getD (t.length-1) 0))=false:=by
     rw[show((t.length:Int)-1).toNat=t.length-1 by omega]at h1
     exact h1
    refine rg ?_
    refine rs hret ?_
    rw[←ht];exact(Zpz h2).symm
 exact key s.length s (ZEP _) hs rfl
theorem Zns(s):Ze ZEA 82 [.str s,.str [32]] (.str (Zcg (ZaQ s))):=by
 refine Zm (cR 82 f82) fun F st hret=>?_
 refine rg ?_
 refine rg ?_
 refine cd (fun h0=>?_) (fun h0=>?_)
 ·refine rg ?_
  have h0':s=[]:=by simpa using h0
  subst h0'
  refine rs hret ?_
  rfl
 ·refine rg ?_
  refine aa ?_
  refine i1 ?_
  refine rg ?_
  refine aa ?_
  refine cl0 (ZeV s) ?_
  refine cl0 (Ze4 _) ?_
  refine rs hret ?_
  rfl
theorem Zmx(c):Ze ZEA 198 [.int .u8 c.toNat] (.bool (!Znv c)):=by
 refine Zm (cR 198 f198) fun F st hret=>?_
 refine rg ?_
 refine rg ?_
 refine cG (Zmy _) ?_
 refine rb hret ?_
 unfold Znv;rw[Bool.not_or]
theorem Zlr(s):Ze ZEA 89 [slD 1 byC s,.fn (.func 198) [] []] (.bool (s.any fun c=>!Znv c)) :=
 fun st=>KI s _ _ (fun _=>st) fun i _=>(Zmx _).VT (first:=[]) (caps:=[]) st
theorem ZpP(h:Hdr):Ze ZEA 153 [.agg h.cells] (.bool (ZdE h)):=by
 refine Zm (cR 153 f153) fun F st hret=>?_
 refine rx @Hdr.cells.eq_1 ?_
 refine rg ?_
 refine clD (Zrl _) ?_
 refine cGD (Zns _) ?_
 refine cGD (Zlr _) ?_
 refine rb hret ?_
 rw[ZwT];unfold ZdE;rw[ZnS];generalize (h.text.any fun c=>!Znv c)=x;generalize Zgp h.name=y;generalize Zit h.text=z;cases x<;>cases y<;>cases z<;>rfl
theorem Zmw(h:Hdr):Ze ZEA 152 [.agg h.cells] (.bool (!ZdE h)):=by
 refine Zm (cR 152 f152) fun F st hret=>?_
 refine rx @Hdr.cells.eq_1 ?_
 refine rg ?_
 rw[show D.agg [.str h.name,.str h.text]=.agg h.cells from rfl]
 refine cl (ZpP h) ?_
 refine rb hret ?_
 rfl
theorem Zlq(l):Ze ZEA 78 [slD 2 Hdr.cells l,.fn (.func 152) [] []] (.bool (l.any fun c=>!ZdE c)) :=
 fun st=>Q9 l _ _ (fun _=>st) fun i _=>(Zmw _).VT (first:=[]) (caps:=[]) st
theorem ZiH{L s}(l):qv L s .lenL [.d (Z9 l)]=sO (True,.d (.int .i64 l.length)):=rfl
theorem atH{L s}(l i):qv L s (.iaddr 2) [.d (Z9 l),.d (.int .i64 i)]=sO (0≤i∧i<l.length,.d (.ep (l.getD i.toNat dE).cells 0)):=rfl
theorem ZpN(l):Ze ZEA 97 [Z9 l] (.bool (K2 l)):=by
 refine Zm (cR 97 f97) fun F st hret=>?_
 refine rg ?_
 refine rx @ZiH ?_
 refine cG (Zlq l) ?_
 refine rb hret ?_
 unfold K2;rw[ZnS];rw[Bool.and_comm]
def ZdU(l:List Hdr):Prop:=∀h∈l,h.text.length≤1048576
theorem ZxC{h:Hdr}(hk:ZdE h=true)(ht:h.text.length≤1048576):(Zha h).length≤1048620:=by
 unfold ZdE Zgp at hk
 simp only[ZEK,decide_eq_true_eq]at hk
 unfold Zha
 simp only[ZEM,ZER,List.length_nil]
 omega
def Zfe(l:List Hdr):Str:=l.flatMap Zha
theorem Zv2{l}(hk:∀h∈l,ZdE h=true)(ht:ZdU l):(Zfe l).length≤l.length*1048620:=by
 induction l with
 |nil=>simp[Zfe]
 |cons a r ih =>
  have h1:=ZxC (hk a (by simp)) (ht a (by simp))
  have h2:=ih (fun h hh=>hk h (by simp[hh])) (fun h hh=>ht h (by simp[hh]))
  unfold Zfe at h2⊢
  rw[List.flatMap_cons,ZEM,ZER,ZE2]
  omega
theorem Zur{l:List Hdr}{i}(h:i<l.length):Zfe (l.take (i+1))=Zfe (l.take i)++Zha (l.getD i dE):=by
 rw[Yj h];simp[Zfe]
theorem ZxE{l}(hk:K2 l=true)(ht:ZdU l)(i):(Zfe (l.take i)).length≤104862000∧l.length≤100:=by
 unfold K2 at hk
 rw[ZEK,List.all_eq_true,decide_eq_true_eq]at hk
 have h1:=Zv2 (l:=l.take i) (fun h hh=>hk.1 h (List.mem_of_mem_take hh)) (fun h hh=>ht h (List.mem_of_mem_take hh))
 rw[ZEU]at h1
 have h2:min i l.length≤100:=by omega
 have h3:=ZEW 1048620 h2
 omega
theorem Zy8{l}(hk:K2 l=true)(ht:ZdU l){i}(hi:i<l.length):(l.getD i dE).name.length≤32∧(l.getD i dE).text.length≤1048576:=by
 refine⟨?_,ht _ (ZA hi)⟩
 unfold K2 at hk
 rw[ZEK,List.all_eq_true]at hk
 have:=hk.1 _ (ZA hi)
 unfold ZdE Zgp at this
 simp only[ZEK,decide_eq_true_eq]at this
 omega
def ZjF(l:List Hdr):D:=if K2 l then .tup [ZL (Za7 l),.int .i64 0] else .tup [.nilsl,.int .i64 2]
theorem ZhN{l}(ht:ZdU l):Ze ZEA 57 [Z9 l] (ZjF l):=by
 refine Zm (cR 57 f57) fun F st hret=>?_
 have hW:=ZjF.eq_1 l
 refine rg ?_
 refine rg ?_
 refine cl (ZpN l) ?_
 cases hk:K2 l with
 |false =>
  rw[hk,if_neg (by simp)]at hW
  rw[hW]at hret
  refine i1 ?_
  refine rg ?_
  exact hret rfl (by simp) (ZEF _) (ZEB _)
 |true =>
  rw[hk,if_pos rfl]at hW
  rw[hW]at hret
  have hl:=ZxE hk ht
  refine i0 ?_
  refine rg ?_
  refine rx @ZiH ?_
  refine kl (st) [(4,.d (.sl .full 0 1 fun _=>[])),(10,.d (Z9 l)),(11,.d (.int .i64 l.length)),(12,.d (.int .i64 (0:Nat)))] [] (.cons (.d (Kl fun b h=>by cases h)) (JC _)) (Zcj _) ?_
  refine Zd (fr (l.length) (fun i Q=>∀tk row o,tk.okIn st→ZX byC row o→o=Zfe (l.take i)→i≤l.length→Q [(4,.d (.sl tk o.length 1 row)),(10,.d (Z9 l)),(11,.d (.int .i64 l.length)),(12,.d (.int .i64 i))] [] (st.own tk (o.length*1))) (fun n ih_key=>?_) fun key=>?_)
  ·intro i hn tk row o htk hrow ho hi
   have h1:=hl i
   rw[←ho]at h1
   refine rg ?_
   refine Za (Zq rfl trivial (fun h2=>?_) (fun h2=>?_))
   ·simp at h2
    have h3:=Zur h2
    have h4:=hl (i+1)
    have h5:=Zy8 hk ht h2
    rw[h3,←ho]at h4
    rw[←ho]at h3
    rw[ZEM]at h4
    generalize hg:l.getD i dE=g at *
    refine rx (nd2 @atH (nd2 @hg @Hdr.cells.eq_1)) ?_
    refine aa ?_
    refine rg ?_
    repeat(refine ZEC (by first|omega|trivial|(intro h0;simp at h0;omega)|(((try simp only[ZEM,ZER,List.length_nil]);unfold big;omega))) ?_)
    have hB:g.name++[58,32]++g.text++[13,10]=Zha g:=rfl
    rw[hB]
    generalize Zha g=b at *
    refine Zaf (st) (tk) rfl rfl rfl rfl rfl rfl (by trivial) (by trivial) rfl (by first|trivial|assumption) (by omega) (by (unfold big;omega)) fun t1 ht1=>Zj ?_
    simp only[Eqs,reduceCtorEq,ZEG,reduceIte,ZED,ZEH,ZEE]
    refine rg ?_
    refine aa ?_
    have hrow2:ZX byC (YJ o.length row fun i=>[.int .u8 ((b.getD i 0).toNat:Int)]) (o++b):=hrow.app ZX.self rfl
    have hnext:=ih_key (l.length-(i+1)) (by omega) (i+1) rfl t1 _ _ ht1 hrow2 h3.symm (by omega)
    rw[ZEM]at hnext
    refine Zi ?_
    exact hnext
   ·simp at h2
    obtain rfl:i=l.length:=by omega
    rw[ZFa]at ho
    refine rg ?_
    refine Zaf (st) (tk) rfl rfl rfl rfl rfl rfl (by trivial) (by trivial) rfl (by first|trivial|assumption) (by (simp;omega)) (by (simp;unfold big;omega)) fun t1 ht1=>Zj ?_
    simp only[Eqs,reduceCtorEq,ZEG,reduceIte,ZED,ZEH,ZEE]
    have hrow2:ZX byC (YJ o.length row fun i=>[.int .u8 ((([13,10]:Str).getD i 0).toNat:Int)]) (o++[13,10]):=hrow.app ZX.self rfl
    have hfin:Za7 l=o++[13,10]:=by rw[ho];rfl
    rw[hfin]at hret
    exact hret rfl (by simp) (Zgc rfl (.cons (hrow2.le (by simp)) (LeC.refl _))) (Y0 ht1)
  exact key _ 0 rfl .full _ [] trivial ZX.nil rfl (by omega)
end Go.DL
namespace Go.DL
open Go
variable {kp:Option (List Nat)}{L:Loc}{ρ:Env}{s:St}{w:World}{os:List DOp}{ds:List D}{B:List (Nat × Rd)}{dst:Option Nat}{tmps:Array Value}{g:G}{Φ:Res→St→Prop}{ν:Nat→Nat}{xs:List Opd}{side:Prop}{row:Nat→List D}
section
variable {K V:Type} [DecidableEq K]
def Zp(k:K):List (K×V)→Option V
 | []=>nO
 |e::r=>if k=e.1 then sO e.2 else Zp k r
def Wg(k:K)(v:V):List (K×V)→List (K×V)
 | []=>[(k,v)]
 |e::r=>if k=e.1 then (k,v)::r else e::Wg k v r
def K6(kD:K→D)(vD:V→D)(l:List (K×V)):List (D×D):=l.map fun e=>(kD e.1,vD e.2)
def ZjN(kp:KP)(kD:K→D):Prop:=∀a b,Kh kp (kD a) (kD b)=sO (dC (a=b))
theorem YO{kp}{kD}{vD:V→D}(h:ZjN kp kD)(k:K)(l:List (K×V)):Zbb kp (kD k) (K6 kD vD l)=sO ((Zp k l).map vD):=by
 induction l with
 |nil=>rfl
 |cons e r ih =>
  simp only[K6,ZEQ,Zbb,h k e.1,Zp]
  by_cases hk:k=e.1
  ·simp[hk]
  ·simp only[hk,decide_false,if_false];exact ih
theorem ZaB{kp}{kD}{vD}(h:ZjN kp kD)(k:K)(v:V)(l:List (K×V)):JP kp (kD k) (vD v) (K6 kD vD l)=sO (K6 kD vD (Wg k v l)):=by
 induction l with
 |nil=>rfl
 |cons e r ih =>
  simp only[K6,ZEQ,JP,h k e.1,Wg]
  by_cases hk:k=e.1
  ·simp[hk]
  ·simp only[hk,decide_false,if_false,ZEQ]
   rw[show JP kp (kD k) (vD v) (r.map fun e=>(kD e.1,vD e.2))=_ from ih];rfl
theorem Wb{kp}{kD:K→D}(h:ZjN kp kD)(k:K):K8 kp (kD k)=true:=by simp[K8,h k k]
theorem Ku(k j)(v:V)(l:List (K×V)):Zp j (Wg k v l)=if j=k then sO v else Zp j l:=by
 induction l with
 |nil=>simp[Wg,Zp]
 |cons e r ih =>
  simp only[Wg]
  by_cases hk:k=e.1
  ·subst hk;simp only[if_true,Zp];split<;>rfl
  ·simp only[hk,if_false,Zp,ih]
   by_cases hj:j=e.1
   ·subst hj;simp[Ne.symm hk]
   ·simp[hj]
theorem ZvZ{k}{l:List (K×V)}:Zp k l=nO↔k∉l.map (·.1):=by
 induction l with
 |nil=>simp[Zp]
 |cons x r ih =>
  simp only[Zp,ZEQ,ZFd]
  by_cases h:k=x.1
  ·simp[h]
  ·simp[h,ih]
end
def KK(s:Str):D:=.str s
theorem ZM:ZjN (.sc .str) KK:=fun a b=>rfl
def WZ(n:Int):D:=.int .i64 n
theorem Zhb:ZjN (.sc .int) WZ:=fun a b=>by simp[Kh,WZ,Yf]
open Go.Proofs
def vst(st:St)(b x:Nat)(es:List (D×D)):St:=(st.upd b (.map es)).upd x (.cells [.map b])
theorem Zyy{st b x es}:(vst st b x es) x=sO (.cells [.map b]):=ZEI _ _ _
theorem Zyx{st b x es}(h:b≠x):(vst st b x es) b=sO (.map es):=by
 unfold vst;rw[ZEJ _ _ h];exact ZEI _ _ _
theorem ZzJ{st b x es es'}(h:b≠x):(vst st b x es).upd b (.map es')=vst st b x es':=by
 unfold vst;rw[St.upd_comm _ _ _ h,ZET]
abbrev Zdy(l:List (Str×Bool)):List (D×D):=K6 KK D.bool l
theorem Zly(o:Option Bool):Y8 (.bool false) false (o.map D.bool)=.bool (o.getD false):=by cases o<;>rfl
theorem Znk(t st b x)(h:b≠x)(l):
  ZK ZEA 200 [.agg t.cells,.ptr x 0] (vst st b x (Zdy l)) (.bool ((Zp t.field l).getD false||!JS t)) (vst st b x (Zdy (Wg t.field true l))):=by
 refine ZB (cR 200 f200) fun hwf F hret=>?_
 have e1:=YO (vD:=D.bool) ZM t.field l
 have e2:=ZaB (vD:=D.bool) ZM t.field true l
 have e3:=Wb ZM t.field
 simp only[show KK t.field=D.str t.field from rfl]at e1 e2 e3
 refine rx @Yp.cells.eq_1 ?_
 refine rh ?_
 refine Zj ?_
 simp only[Eqs,reduceCtorEq,ZEG,reduceIte,ZED,ZEH,ZEE,Zyy,Zyx h,e1,Zly]
 generalize (Zp t.field l).getD false=tw at *
 refine rh ?_
 refine Zj ?_
 simp only[Eqs,reduceCtorEq,ZEG,reduceIte,ZED,ZEH,ZEE,Zyy,Zyx h,e2,ZzJ h]
 cases tw with
 |false =>
  refine rx @Yp.cells.eq_1 ?_
  refine clD (Jr t.field) ?_
  refine clD (Zdn t.factor) ?_
  refine clD (Zpu _ _ _) ?_
  refine hret rfl (by trivial) (ZdY ?_) (ZEB _)
  unfold JS
  cases YE t.field<;>cases dC (t.factor=0)<;>cases Zdd t.factor<;>rfl
 |true =>
  refine rx @Yp.cells.eq_1 ?_
  refine Zd6 rfl rfl (e:=.d (.bool false)) (Yx ?_)
  simp only[Eqs,reduceCtorEq,ZEG,reduceIte,ZED,ZEH,ZEE]
  refine Zd6 rfl rfl (e:=.d (.bool false)) (Yx ?_)
  simp only[Eqs,reduceCtorEq,ZEG,reduceIte,ZED,ZEH,ZEE]
  refine Zd6 rfl rfl (e:=.d (.bool false)) (Yx ?_)
  simp only[Eqs,reduceCtorEq,ZEG,reduceIte,ZED,ZEH,ZEE]
  exact hret rfl (by trivial) (ZdY (by simp)) (ZEB _)
theorem ZdO{n i}(h:i<n):(ZEO n).getD i dE=i:=by simp[ZES,h]
theorem ZeR(l f p)(sts:Nat→St)(hf:∀i,i<l.length→VT ZEA f [.agg (l.getD i dE).cells] (sts i) (.bool (p i)) (sts (i+1))):
  ZK ZEA 105 [slD 2 Yp.cells l,f] (sts 0) (.int .i64 (Zg p (ZEO l.length))) (sts (Qb p (ZEO l.length))):=by
 refine ZB (cR 105 f105) fun hwf F hret=>?_
 have hw:=(WJ (hwf (slD 2 Yp.cells l) (by simp))).1
 unfold big at hw
 clear hwf
 refine rx @eQ1 ?_
 refine rx @eQ1 ?_
 refine Zd (fr (l.length) (fun i Q=>i≤l.length→(∀j,j<i→p j=false)→Q [(0,.d (slD 2 Yp.cells l)),(1,.d f),(7,.d (.int .i64 l.length)),(8,.d (.int .i64 i))] [] (sts i)) (fun n ih_key=>?_) fun key=>?_)
 ·intro i hn hi hno
  refine rx @eQ1 ?_
  refine Za (Zq rfl trivial (fun h1=>?_) (fun h1=>?_))
  ·simp at h1
   refine rx @eQ1 ?_
   refine rx (nd2 @eQ1 @Yp.cells.eq_1) ?_
   refine aa ?_
   refine cW (hf i h1) ?_
   refine cd (fun h2=>?_) (fun h2=>?_)
   ·have e1:=KD (p:=p) (l:=ZEO l.length) (i:=i) (by simpa using h1) (by rw[ZdO h1];exact h2) (fun j hj=>by rw[ZdO (by omega)];exact hno j hj)
    have e2:=Zcz (p:=p) (l:=ZEO l.length) (i:=i) (by simpa using h1) (by rw[ZdO h1];exact h2) (fun j hj=>by rw[ZdO (by omega)];exact hno j hj)
    rw[e1,e2]at hret
    refine rg ?_
    exact hret rfl (by trivial) (ZEF _) (ZEB _)
   ·refine rg ?_
    refine aa ?_
    refine Zi ?_
    exact ih_key ((l.length)-(i+1)) (by omega) (i+1) rfl (by omega) (Ye (q:=fun j=>p j=false) hno h2)
  ·simp at h1
   obtain rfl:i=l.length:=by omega
   have hall:∀x∈ZEO l.length,p x=false:=fun x hx=>hno x (by simpa using hx)
   rw[WC hall,ZaM hall,List.length_range]at hret
   refine rg ?_
   exact hret rfl (by trivial) (ZEF _) (ZEB _)
 exact key _ 0 rfl (by omega) (by intro j hj;omega)
theorem Zdb(l f p)(sts:Nat→St)(hf:∀i,i<l.length→VT ZEA f [.agg (l.getD i dE).cells] (sts i) (.bool (p i)) (sts (i+1))):
  ZK ZEA 202 [slD 2 Yp.cells l,f] (sts 0) (.bool ((ZEO l.length).any p)) (sts (Qb p (ZEO l.length))):=by
 refine ZB (cR 202 f202) fun hwf F hret=>?_
 clear hwf
 refine rg ?_
 refine rg ?_
 refine ct (ZeR l f p sts hf) ?_
 rw[JF]at hret
 exact hret rfl (by trivial) (ZEF _) (ZEB _)
def Zkb(l:List Yp):Nat→List (Str×Bool)
 |0=>[]
 |i+1=>Wg (l.getD i dE).field true (Zkb l i)
theorem ZwE(l s i)(hi:i≤l.length):(Zp s (Zkb l i)).getD false=dC (s∈(l.take i).map (·.field)):=by
 induction i with
 |zero=>simp[Zkb,Zp]
 |succ i ih =>
  have h:=ih (by omega)
  rw[Zkb,Ku,Yj (by omega),List.map_append]
  by_cases hs:s=(l.getD i dE).field
  ·rw[if_pos hs];simp[hs]
  ·rw[if_neg hs,h];simp only[List.mem_append,ZEQ,ZE6,List.mem_singleton,hs,or_false]
theorem ZcC(l r:List Yp)(k)(hr:r=l.drop k)(hk:k≤l.length):ZdV ((l.take k).map (·.field)) r=!((ZEO r.length).any fun i=>(dC ((l.getD (k+i) dE).field∈(l.take (k+i)).map (·.field))||!JS (l.getD (k+i) dE))):=by
 induction r generalizing k with
 |nil=>rfl
 |cons t q ih =>
  have hlt:k<l.length:=by
   have:=congrArg List.length hr;simp at this;omega
  rw[QM hlt]at hr
  injection hr with h1 h2
  have h3:=ih (k+1) h2 (by omega)
  rw[ZdV,ZER,List.range_succ_eq_map,List.any_cons,List.any_map]
  rw[show(l.take k).map (·.field)++[t.field]=(l.take (k+1)).map (·.field) by rw[Yj hlt,List.map_append,←h1];rfl,h3]
  simp only[Nat.add_zero,←h1,Function.comp_def,Nat.succ_eq_add_one]
  rw[show(fun i=>dC ((l.getD (k+(i+1)) dE).field∈(l.take (k+(i+1))).map (·.field))||!JS (l.getD (k+(i+1)) dE))=fun i=>dC ((l.getD (k+1+i) dE).field∈(l.take (k+1+i)).map (·.field))||!JS (l.getD (k+1+i) dE) from funext fun i=>by rw[show k+(i+1)=k+1+i by omega]]
  cases JS t<;>cases dC (t.field∈(l.take k).map (·.field))<;>simp
theorem Zbe(s):Ze ZEA 155 [.agg s.cells] (.bool (Z1 s)):=by
 refine Wj (cR 155 f155) fun hwf F st hret=>?_
 refine rx (nd2 @eQ4 (nd2 @YC.eq_1 @eQ1)) ?_
 refine rg ?_
 intro b hb
 refine Za ?_
 refine ZcD 3 rfl fun x hx=>?_
 simp only[Eqs,reduceCtorEq,ZEG,reduceIte,ZED,ZEH,ZEE,Jv,QI,delL]
 refine rg ?_
 have hbx:b≠x:=fun e=>by rw[e,ZEI]at hx;simp at hx
 have hxn:∀o,(st.upd b o) x=nO:=fun o=>by rw[ZEJ _ _ (Ne.symm hbx)]at hx⊢;exact hx
 have hvs:(st.upd b (.map [])).upd x (.cells [.map b])=vst st b x (Zdy []):=rfl
 rw[hvs]
 cases hc:(Zdd s.base&&dC ((s.terms.length:Int)≤4)) with
 |false =>
  refine rx (nd2 @eQ4 (nd2 @YC.eq_1 @eQ1)) ?_
  refine clD (Zdn s.base) ?_
  refine cXD @hc (Zjr _ _) ?_
  refine Zd6 rfl rfl (e:=.d (.bool false)) (Yx ?_)
  simp only[Eqs,reduceCtorEq,ZEG,reduceIte,ZED,ZEH,ZEE]
  refine hret rfl (by trivial) (ZdY ?_) (ZFf (ZEZ _ hb) (ZEZ _ (hxn _)))
  unfold Z1
  rw[show dC (s.terms.length≤4)=dC ((s.terms.length:Int)≤4) from decide_eq_decide.2 (by omega),hc];rfl
 |true =>
  refine rx (nd2 @eQ4 (nd2 @YC.eq_1 @eQ1)) ?_
  refine clD (Zdn s.base) ?_
  refine cXD @hc (Zjr _ _) ?_
  refine Zh5 rfl rfl rfl rfl rfl (by trivial) (by trivial) (by exact Zdb s.terms (.fn (.func 200) [] [.ptr x 0]) (fun i=>dC ((s.terms.getD i dE).field∈(s.terms.take i).map (·.field))||!JS (s.terms.getD i dE)) (fun i=>vst st b x (Zdy (Zkb s.terms i))) (fun i hi=>(by have:=Znk (s.terms.getD i dE) st b x hbx (Zkb s.terms i);rw[ZwE _ _ _ (by omega)]at this;exact this.VT (first:=[]) (args:=[_]) (caps:=[_])))) (by first|trivial|exact⟨rfl,trivial⟩|simp[Y5,KE]) (Yx ?_)
  simp only[Eqs,reduceCtorEq,ZEG,reduceIte,ZED,ZEH,ZEE]
  refine hret rfl (by trivial) (ZdY ?_) (ZFf (ZEZ _ hb) (ZEZ _ (hxn _)))
  have hv:=ZcC s.terms s.terms 0 rfl (by omega)
  simp only[Nat.zero_add]at hv
  rw[←hv]
  unfold Z1
  rw[show dC (s.terms.length≤4)=dC ((s.terms.length:Int)≤4) from decide_eq_decide.2 (by omega),hc,ZE1]
  rfl
theorem Zhw(l)(hl:l.length≤1000000)(st):Zb ZEA 203 [YC l] st (fun r s=>r=.ret (YC l)∧s=st):=by
 refine Zc (cR 203 f203) fun F hF=>?_
 by_cases h0:l.length=0
 ·have hl0:l=[]:=List.eq_nil_of_length_eq_zero h0
  subst hl0
  refine Zdt 0 rfl ?_ fun b off cap=>?_
  ·skip
   refine rx (nd2 @YC.eq_1 @eQ1) ?_
   refine rg ?_
   refine i1 ?_
   refine rg ?_
   exact hF.ret _ st rfl (by trivial) (QF (Kl fun b h=>by cases h)) (ZEB _) ⟨rfl,rfl⟩
  ·skip
   refine rx (nd2 @YC.eq_1 @eQ1) ?_
   refine rg ?_
   refine i0 ?_
   refine rg ?_
   refine Zds (s:=st) (t:=.full) (m:=0) (row2:=fun _=>[]) rfl rfl rfl rfl rfl (by trivial) (by trivial) (fun g w v h=>Zfo h) trivial (by decide) (by unfold big;decide) fun t1 ht1=>?_
   refine gR0 ?_
   exact hF.ret _ st rfl (by trivial) (QF ((ZX.nil (f:=Yp.cells)).le rfl)) (Y0 ht1) ⟨rfl,rfl⟩
 ·skip
  refine rx (nd2 @YC.eq_1 @eQ1) ?_
  refine rg ?_
  refine aa ?_
  refine i0 ?_
  refine rg ?_
  refine Zaf (st) (.full) rfl rfl rfl rfl rfl rfl (by trivial) (by trivial) rfl (by first|trivial|assumption) (by omega) (by (unfold big;omega)) fun t1 ht1=>Zj ?_
  simp only[Eqs,reduceCtorEq,ZEG,reduceIte,ZED,ZEH,ZEE]
  have hrow:ZX Yp.cells (YJ 0 (Z7 [.str [],.int .i64 0] ([].zip [])) fun i=>(l.getD i dE).cells) ([]++l):=ZX.nil.app ZX.self rfl
  exact hF.ret _ st rfl (by trivial) (QF (hrow.le (by simp))) (Y0 ht1) ⟨rfl,rfl⟩
theorem Zcb(l)(hl:l.length≤big)(x):Zai ZEA (.fn (.func 204) [] [.ptr x 0]) l.length (fun j=>[.str (l.getD j dE).field]) (ZEX x (.cells [YC l])):=by
 intro y go A a0 hcons hA hd
 have hw:=hl
 unfold big at hw
 refine Zb.V (first:=[]) (args:=[y]) (caps:=[.ptr x 0]) (Zc (cR 204 f204) fun F hF=>?_)
 have hx:∀a,ZJ a (ZEX x (.cells [YC l]))→(a.or (ZEX x (.cells [YC l]))) x=sO (.cells [YC l]):=fun a hda=>by
  rw[Zl (hda x _ (Z4 _ _)),Z4]
 generalize hT:ZEX x (.cells [YC l])=T at *
 refine rh ?_
 refine Zj ?_
 simp only[Eqs,reduceCtorEq,ZEG,reduceIte,ZED,ZEH,ZEE,hx a0 hd,YC,slD]
 refine Zd (fr (l.length) (fun j Q=>∀a,A j a→ZJ a T→(∀i,i<j→go i=.next)→j≤l.length→Q [(0,.d y),(5,.d (YC l)),(6,.d (.int .i64 l.length)),(7,.d (.int .i64 j))] [] (a.or T)) (fun n ih_key=>?_) fun key=>?_)
 ·clear hA hd
  intro j hn a hA hd hno hj
  refine rx (nd2 @YC.eq_1 @eQ1) ?_
  refine Za (Zq rfl trivial (fun h1=>?_) (fun h1=>?_))
  ·simp at h1
   generalize hg:l.getD j dE=g at *
   refine rx (nd2 @Yp.cells.eq_1 (nd2 @YC.eq_1 (nd2 @eQ1 @hg))) ?_
   refine aa ?_
   refine rg ?_
   have hcall:=(hcons j h1 hno a hA).frame hd
   simp only[hg]at hcall
   refine vV (hcall) ?_ ?_
   ·rintro d S ⟨s',⟨hr,hA'⟩,hd',rfl⟩
    cases hgo:go j with
    |next =>
     rw[hgo]at hr
     cases hr
     refine gR0 ?_
     refine i0 ?_
     refine rg ?_
     refine aa ?_
     refine Zi ?_
     exact ih_key ((l.length)-(j+1)) (by omega) (j+1) rfl s' hA' hd' (Ye (q:=fun i=>go i=.next) hno hgo) (by omega)
    |stop c =>
     rw[hgo]at hr
     cases hr
     refine gR0 ?_
     refine i1 ?_
     exact hF.ret (.tup []) _ rfl trivial (ZEF _) (ZEB _) ⟨s',.stop j c h1 hno hgo hA',YQ _ _⟩
    |pan d=>rw[hgo]at hr;cases hr
   ·rintro d S ⟨s',⟨hr,hA'⟩,hd',rfl⟩
    cases hgo:go j with
    |pan d' =>
     rw[hgo]at hr
     cases hr
     exact hF.pan _ (ZEB _) ⟨s',.pan j d h1 hno hgo hA',YQ _ _⟩
    |next=>rw[hgo]at hr;cases hr
    |stop c=>rw[hgo]at hr;cases hr
  ·simp at h1
   obtain rfl:j=l.length:=by omega
   refine ZR rfl ?_
   exact hF.fin (.tup []) _ rfl trivial (ZEF _) (ZEB _) ⟨a,.all hno hA,YQ _ _⟩
 exact key _ 0 rfl a0 hA hd (by intro i hi;omega) (by omega)
theorem JT{s}(h:Z1 s=true):s.terms.length≤4:=by
 unfold Z1 at h
 simp only[ZEK,decide_eq_true_eq]at h;exact h.1.2
theorem Zdm(s)(hv:Z1 s=true)(st):Zb ZEA 156 [.agg s.cells] st (fun r S=>∃x,st x=nO∧r=.ret (.fn (.func 204) [] [.ptr x 0])∧S=st.or (ZEX x (.cells [YC s.terms]))):=by
 have hfew:=JT hv
 refine Zc (cR 156 f156) fun F hF=>?_
 refine rx @eQ4 ?_
 refine rg ?_
 refine rx @eQ4 ?_
 refine cX @hv (Zbe s) ?_
 refine i1 ?_
 refine rx @eQ4 ?_
 have c9:=(Zhw s.terms (by omega) st)
 refine cV (c9) ?_ ?_
 ·rintro d S ⟨hd,rfl⟩
  cases hd
  refine gR0 ?_
  refine⟨rfl,?_⟩
  refine Za ?_
  refine ZcD 3 rfl fun x hx=>?_
  simp only[Eqs,reduceCtorEq,ZEG,reduceIte,ZED,ZEH,ZEE,Jv,QI,delL]
  refine rg ?_
  exact hF.ret _ _ rfl (by trivial) (ZEF _) (ZEB _) ⟨x,hx,rfl,Wu hx⟩
 ·rintro d S ⟨hd,_⟩
  cases hd
def K3(r:Int×Int):D:=.agg [.int .i64 r.1,.int .i64 r.2]
abbrev Zw4:=List (Str×(Int×Int))
abbrev Za4(l:Zw4):List (D×D):=K6 KK K3 l
theorem Zn{b c o}(h:(s.upd b o) c=nO):c≠b∧s c=nO:=by
 have:c≠b:=fun e=>by rw[e,ZEI]at h;simp at h
 exact⟨this,by rw[ZEJ _ _ this]at h;exact h⟩
theorem Zjq(r):Ze ZEA 285 [K3 r] (.bool (!Zbm r)):=by
 refine Zm (cR 285 f285) fun F st hret=>?_
 refine rx @K3.eq_1 ?_
 refine rg ?_
 refine cl (Zpu _ _ _) ?_
 refine rb hret ?_
 unfold Zbm;rw[Bool.not_or,Bool.not_or,←decide_not,←decide_not,←decide_not];simp only[Int.not_lt,Int.not_le,Bool.and_assoc]
def ckS(st:St)(b5 b6 b7 b8 b9 b:Nat)(rc:Int)(nn:Bool):St :=
 ((((st.upd b5 (.cells [.str []])).upd b6 (.cells [.map b])).upd b7 (.cells [.fn (.func 285) [] []])).upd b8 (.cells [.int .i64 rc])).upd b9 (.cells [.bool nn])
structure Wl(st:St)(b5 b6 b7 b8 b9:Nat):Prop where
 n5:st b5=none
 n6:b6≠b5∧st b6=none
 n7:b7≠b6∧b7≠b5∧st b7=none
 n8:b8≠b7∧b8≠b6∧b8≠b5∧st b8=none
 n9:b9≠b8∧b9≠b7∧b9≠b6∧b9≠b5∧st b9=none
section
variable {st:St} {b5 b6 b7 b8 b9 b:Nat} {rc:Int} {nn:Bool}
theorem Wl.g5(h:Wl st b5 b6 b7 b8 b9):(ckS st b5 b6 b7 b8 b9 b rc nn) b5=sO (.cells [.str []]):=by
 simp[ckS,ZFc,h.n6.1.symm,h.n7.2.1.symm,h.n8.2.2.1.symm,h.n9.2.2.2.1.symm]
theorem Wl.g6(h:Wl st b5 b6 b7 b8 b9):(ckS st b5 b6 b7 b8 b9 b rc nn) b6=sO (.cells [.map b]):=by
 simp[ckS,ZFc,h.n7.1.symm,h.n8.2.1.symm,h.n9.2.2.1.symm]
theorem Wl.g7(h:Wl st b5 b6 b7 b8 b9):(ckS st b5 b6 b7 b8 b9 b rc nn) b7=sO (.cells [.fn (.func 285) [] []]):=by
 simp[ckS,ZFc,h.n8.1.symm,h.n9.2.1.symm]
theorem Wl.g8(h:Wl st b5 b6 b7 b8 b9):(ckS st b5 b6 b7 b8 b9 b rc nn) b8=sO (.cells [.int .i64 rc]):=by
 simp[ckS,ZFc,h.n9.1.symm]
theorem Wl.g9:(ckS st b5 b6 b7 b8 b9 b rc nn) b9=sO (.cells [.bool nn]):=by
 simp[ckS,ZFc]
theorem Wl.gm(h:Wl st b5 b6 b7 b8 b9){o}(hb:st b=sO o):(ckS st b5 b6 b7 b8 b9 b rc nn) b=sO o:=by
 have h5:b≠b5:=fun e=>by rw[e,h.n5]at hb;simp at hb
 have h6:b≠b6:=fun e=>by rw[e,h.n6.2]at hb;simp at hb
 have h7:b≠b7:=fun e=>by rw[e,h.n7.2.2]at hb;simp at hb
 have h8:b≠b8:=fun e=>by rw[e,h.n8.2.2.2]at hb;simp at hb
 have h9:b≠b9:=fun e=>by rw[e,h.n9.2.2.2.2]at hb;simp at hb
 simp[ckS,ZFc,h5,h6,h7,h8,h9,hb]
theorem Wl.s8(h:Wl st b5 b6 b7 b8 b9)(rc'):(ckS st b5 b6 b7 b8 b9 b rc nn).upd b8 (.cells [.int .i64 rc'])=ckS st b5 b6 b7 b8 b9 b rc' nn:=by
 unfold ckS;rw[St.upd_comm _ _ _ h.n9.1.symm,ZET]
theorem Wl.s9(nn'):(ckS st b5 b6 b7 b8 b9 b rc nn).upd b9 (.cells [.bool nn'])=ckS st b5 b6 b7 b8 b9 b rc nn':=by
 unfold ckS;rw[ZET]
theorem Wl.sub(h:Wl st b5 b6 b7 b8 b9):st.sub (ckS st b5 b6 b7 b8 b9 b rc nn):=fun c o hc=>by
 have h5:c≠b5:=fun e=>by rw[e,h.n5]at hc;simp at hc
 have h6:c≠b6:=fun e=>by rw[e,h.n6.2]at hc;simp at hc
 have h7:c≠b7:=fun e=>by rw[e,h.n7.2.2]at hc;simp at hc
 have h8:c≠b8:=fun e=>by rw[e,h.n8.2.2.2]at hc;simp at hc
 have h9:c≠b9:=fun e=>by rw[e,h.n9.2.2.2.2]at hc;simp at hc
 simp[ckS,ZFc,h5,h6,h7,h8,h9,hc]
end
theorem ZjQ{st t b5 b6 b7 b8 b9 b rc rc' nn nn'}(h:ZJ (ckS st b5 b6 b7 b8 b9 b rc nn) t):ZJ (ckS st b5 b6 b7 b8 b9 b rc' nn') t:=fun c o hc=>by
 have:=h c o hc
 unfold ckS at this⊢
 have k9:=Zn this
 have k8:=Zn k9.2
 rw[ZEJ _ _ k9.1,ZEJ _ _ k8.1];exact k8.2
theorem ZqV{st b5 b6 b7 b8 b9 b rc nn}(h:Wl st b5 b6 b7 b8 b9){ρ L}(hρ:ZH ρ 8=sO (.d (.ptr b8 0)):=by rfl):
  Yk ρ L (ckS st b5 b6 b7 b8 b9 b rc nn) [.cell1 8]=sO (True∧True,[.int .i64 rc]):=by
 simp[Yk,WF,hρ,YS,Z5,h.g8]
theorem ZnT{α:Type}[Inhabited α]{p}{l:List α}(h:∀i,i<l.length→p (l.getD i dE)=false):l.any p=false:=by
 apply List.any_eq_false.2
 intro x hx
 obtain⟨i,hi,rfl⟩:=ZEV hx
 have:=h i hi
 simpa[ZES,hi]using this
theorem ZjE{s j}(h:Z1 s=true)(hj:j<s.terms.length):(s.terms.getD j dE).field≠[]:=by
 unfold Z1 at h
 simp only[ZEK]at h
 have h1:=ZcC s.terms s.terms 0 rfl (by omega)
 simp only[List.take_zero,ZE6,Nat.zero_add]at h1
 rw[h1]at h
 have h2:((ZEO s.terms.length).any fun i=>dC ((s.terms.getD i dE).field∈(s.terms.take i).map (·.field))||!JS (s.terms.getD i dE))=false:=by simpa using h.2
 have h3:=List.any_eq_false.1 h2 j (by simpa using hj)
 simp only[ZEY,not_or,Bool.not_eq_true',Bool.not_eq_false]at h3
 have h4:=h3.2
 intro e
 rw[JS,e]at h4
 simp[YE]at h4
theorem Znm(s b l st)(hb:st b=sO (.map (Za4 l))):
  Zb ZEA 286 [.agg s.cells,.str [],.map b,.fn (.func 285) [] []] st (fun r S=>r=.ret (.int .i64 (ZbW s (fun k=>Zp k l)))∧S=st):=by
 refine Zc (cR 286 f286) fun F hF=>?_
 refine rx @eQ4 ?_
 refine rx @eQ4 ?_
 refine cl (Zbe s) ?_
 refine cd (fun hv=>?_) (fun hv=>?_)
 ·have hv':Z1 s=false:=by simpa using hv
  refine rg ?_
  refine hF.ret _ st rfl (by trivial) (Zgb ?_) (ZEB _) ⟨rfl,rfl⟩
  rw[ZbW,if_pos hv']
 ·have hv':Z1 s=true:=by simpa using hv
  refine rg ?_
  refine Za (Za ?_)
  refine xP 5 fun b5 h5=>?_
  refine xP 6 fun b6 h6=>?_
  refine xP 7 fun b7 h7=>?_
  refine xP 8 fun b8 h8=>?_
  refine xP 9 fun b9 h9=>?_
  refine rx @eQ4 ?_
  refine cV (Zdm s hv' _) ?_ ?_
  ·rintro d S ⟨x,hx,hd,rfl⟩
   cases hd
   refine gR0 ?_
   refine Zd ?_
   have hck:Wl st b5 b6 b7 b8 b9:=by
    have k6:=Zn h6
    have k7:=Zn h7
    have k7a:=Zn k7.2
    have k8:=Zn h8
    have k8a:=Zn k8.2
    have k8b:=Zn k8a.2
    have k9:=Zn h9
    have k9a:=Zn k9.2
    have k9b:=Zn k9a.2
    have k9c:=Zn k9b.2
    exact⟨h5,k6,⟨k7.1,k7a⟩,⟨k8.1,k8a.1,k8b⟩,⟨k9.1,k9a.1,k9b.1,k9c⟩⟩
   have hfew:=JT hv'
   rw[show(((((st.upd b5 (.cells [.str []])).upd b6 (.cells [.map b])).upd b7 (.cells [.fn (.func 285) [] []])).upd b8 (.cells [.int .i64 0])).upd b9 (.cells [.bool false]))=ckS st b5 b6 b7 b8 b9 b 0 false from rfl]at hx⊢
   refine WS hF rfl trivial [5,6,7,8,9] (by show([5,6,7,8,9]:List Nat).Nodup;decide) (WX hx) (Zcb s.terms (by unfold big;omega) x).Y (fun j hj=>rfl)
    (fun j=>if K7 (fun k=>Zp k l) (s.terms.getD j dE) then .stop .ret else .next)
    (fun j a=>((∀i,i<j→K7 (fun k=>Zp k l) (s.terms.getD i dE)=false)∧a=ckS st b5 b6 b7 b8 b9 b 0 ((s.terms.take j).any (Ji fun k=>Zp k l)))∨((∃nn,a=ckS st b5 b6 b7 b8 b9 b 2 nn)∧∃i,i<j∧K7 (fun k=>Zp k l) (s.terms.getD i dE)=true))
    (.inl ⟨fun i hi=>by omega,rfl⟩) ?_ ?_ ?_ ?_ ?_ ?_
   ·intro j a hj hno hB F' ready busy hdr hbeg hend
    have hno':∀i,i<j→K7 (fun k=>Zp k l) (s.terms.getD i dE)=false:=fun i hi=>by
     have:=hno i hi;split at this
     ·simp at this
     ·rename_i h;simpa using h
    rcases hB with ⟨_,rfl⟩|⟨_,i,hi,hib⟩
    ·skip
     simp only[Eqs,reduceCtorEq,ZEG,reduceIte,ZED,ZEH,ZEE,YZ,Wc,KO,WE,List.isEmpty_nil,List.isEmpty_cons]
     refine rg ?_
     refine hbeg fun hdb=>?_
     have hje:(s.terms.getD j dE).field≠[]:=ZjE hv' hj
     have hsn:=Zw7 (p:=Ji fun k=>Zp k l) hj
     generalize htm:s.terms.getD j dE=tm at *
     have e1:=YO (vD:=K3) ZM tm.field l
     have e3:=Wb ZM tm.field
     simp only[show KK tm.field=D.str tm.field from rfl]at e1 e3
     cases hg:Zp tm.field l with
     |none =>
      rw[hg]at e1
      have hbad:K7 (fun k=>Zp k l) tm=false:=by simp[K7,hg]
      have hnone:Ji (fun k=>Zp k l) tm=true:=by simp[Ji,hg]
      rw[hnone,Bool.or_true]at hsn
      rw[if_neg (by rw[hbad];simp)]at hend
      refine rh ?_
      refine Zj ?_
      simp only[Eqs,reduceCtorEq,ZEG,reduceIte,ZED,ZEH,ZEE,Zh (hck.g6 ),Zh (hck.gm hb),e1,e3]
      refine rh ?_
      refine Zj ?_
      simp only[Eqs,reduceCtorEq,ZEG,reduceIte,ZED,ZEH,ZEE,Zh (hck.g5 )]
      refine Zq rfl trivial (fun h=>by simp at h;exact absurd h hje) (fun _=>?_)
      refine rg ?_
      refine i1 ?_
      refine rh ?_
      refine Zj ?_
      simp only[Eqs,reduceCtorEq,ZEG,reduceIte,ZED,ZEH,ZEE,Zh (Wl.g9 ),Yq,Wl.s9]
      refine Zo (Zo ?_)
      exact hend.fin ⟨rfl,.inl ⟨Ye (q:=fun i=>K7 (fun k=>Zp k l) (s.terms.getD i dE)=false) hno' (by rw[htm];exact hbad),by rw[hsn]⟩⟩ (ZjQ hdb) (ZEB _)
     |some r =>
      rw[hg]at e1
      have hbad:K7 (fun k=>Zp k l) tm=Zbm r:=by simp[K7,hg]
      have hnone:Ji (fun k=>Zp k l) tm=false:=by simp[Ji,hg]
      rw[hnone,Bool.or_false]at hsn
      refine rh ?_
      refine Zj ?_
      simp only[Eqs,reduceCtorEq,ZEG,reduceIte,ZED,ZEH,ZEE,Zh (hck.g6 ),Zh (hck.gm hb),e1,e3,K3]
      refine rh ?_
      refine Zj ?_
      simp only[Eqs,reduceCtorEq,ZEG,reduceIte,ZED,ZEH,ZEE,Zh (hck.g5 )]
      refine Zq rfl trivial (fun h=>by simp at h;exact absurd h hje) (fun _=>?_)
      refine rg ?_
      refine i0 ?_
      refine rh ?_
      refine Zj ?_
      simp only[Eqs,reduceCtorEq,ZEG,reduceIte,ZED,ZEH,ZEE,Zh (hck.g7 )]
      refine cl (Zjq r) ?_
      refine cd (fun hr=>?_) (fun hr=>?_)
      ·have hr':Zbm r=true:=by simpa using hr
       rw[if_pos (by rw[hbad];exact hr')]at hend
       refine rh ?_
       refine Zj ?_
       simp only[Eqs,reduceCtorEq,ZEG,reduceIte,ZED,ZEH,ZEE,Zh (hck.g8 ),Yq,hck.s8]
       exact hend.ret ⟨rfl,.inr ⟨⟨_,rfl⟩,j,by omega,by rw[htm,hbad];exact hr'⟩⟩ (ZjQ hdb) (ZEB _)
      ·have hr':Zbm r=false:=by simpa using hr
       rw[if_neg (by rw[hbad,hr'];simp)]at hend
       refine ZD (Zo (Zo ?_))
       exact hend.fin ⟨rfl,.inl ⟨Ye (q:=fun i=>K7 (fun k=>Zp k l) (s.terms.getD i dE)=false) hno' (by rw[htm,hbad];exact hr'),by rw[hsn]⟩⟩ hdb (ZEB _)
    ·rw[hno' i hi]at hib;simp at hib
   ·intro q a hno hB hq
    have hno':∀i,i<s.terms.length→K7 (fun k=>Zp k l) (s.terms.getD i dE)=false:=fun i hi=>by
     have:=hno i hi;split at this
     ·simp at this
     ·rename_i h;simpa using h
    rcases hB with ⟨_,rfl⟩|⟨_,i,hi,hib⟩
    ·rw[ZFa]at hq⊢
     have hb0:s.terms.any (K7 fun k=>Zp k l)=false:=ZnT hno'
     have hI:=ZbW.eq_1 s fun k=>Zp k l
     rw[if_neg (by rw[hv'];simp),if_neg (by rw[hb0];simp)]at hI
     rw[Wu hq]
     have hdq:=WX (o:=W4.dfr) hq
     generalize s.terms.any (Ji fun k=>Zp k l)=nn at *
     refine rh ?_
     refine Zj ?_
     simp only[Eqs,reduceCtorEq,ZEG,reduceIte,ZED,ZEH,ZEE,Zh (Wl.g9 )]
     refine cd (fun hn=>?_) (fun hn=>?_)
     ·rw[if_pos hn]at hI
      refine rh ?_
      refine Zj ?_
      simp only[Eqs,reduceCtorEq,ZEG,reduceIte,ZED,ZEH,ZEE,Zh (hck.g8 ),Yq,hck.s8]
      exact hF.ret1 (Ziq (ZjQ hdq) (Z4 _ _)) (.int .i64 9) st (ZqV hck) ⟨trivial,trivial⟩ (ZEF _) hck.sub ⟨by rw[hI],rfl⟩
     ·rw[if_neg (by rw[hn];simp)]at hI
      refine rh ?_
      refine Zj ?_
      simp only[Eqs,reduceCtorEq,ZEG,reduceIte,ZED,ZEH,ZEE,Zh (hck.g8 ),Yq,hck.s8]
      exact hF.ret1 (Ziq (ZjQ hdq) (Z4 _ _)) (.int .i64 0) st (ZqV hck) ⟨trivial,trivial⟩ (ZEF _) hck.sub ⟨by rw[hI],rfl⟩
    ·rw[hno' i hi]at hib;simp at hib
   ·intro q a m hm hno hgo hB hq
    have hno':∀i,i<m→K7 (fun k=>Zp k l) (s.terms.getD i dE)=false:=fun i hi=>by
     have:=hno i hi;split at this
     ·simp at this
     ·rename_i h;simpa using h
    have hbad:K7 (fun k=>Zp k l) (s.terms.getD m dE)=true:=by
     split at hgo
     ·rename_i h;exact h
     ·simp at hgo
    rcases hB with ⟨hall,_⟩|⟨⟨nn,rfl⟩,_⟩
    ·rw[hall m (by omega)]at hbad;simp at hbad
    ·have hb0:s.terms.any (K7 fun k=>Zp k l)=true:=ZzU hm hbad
     have hI:=ZbW.eq_1 s fun k=>Zp k l
     rw[if_neg (by rw[hv'];simp),if_pos hb0]at hI
     rw[Wu hq]
     exact hF.ret1 hq (.int .i64 2) st (ZqV hck) ⟨trivial,trivial⟩ (ZEF _) hck.sub ⟨by rw[hI],rfl⟩
   ·intro q a m id hm hno hgo
    split at hgo<;>simp at hgo
   ·intro q a m d hm hno hgo
    split at hgo<;>simp at hgo
   ·intro m c hgo
    split at hgo<;>simp at hgo
    exact .inl hgo.symm
  ·rintro d S ⟨x,hx,hd,rfl⟩
   cases hd
def K0(v:Yp→Int):List Yp→Int
 | []=>0
 |t::r=>t.factor*v t+K0 v r
theorem ZwQ{v}{l:List Yp}{i}(h:i<l.length):K0 v (l.take (i+1))=K0 v (l.take i)+(l.getD i dE).factor*v (l.getD i dE):=by
 rw[Yj h]
 generalize l.getD i dE=x
 induction l.take i with
 |nil=>simp[K0]
 |cons y r ih=>simp only[List.cons_append,K0,ih];omega
theorem Zpf{a b}(ha:-1048576≤a∧a≤1048576)(hb:0≤b∧b<34359738368):-36028797018963968≤a*b∧a*b≤36028797018963968:=by
 have h1:a*b≤1048576*b:=Int.mul_le_mul_of_nonneg_right ha.2 hb.1
 have h2:-1048576*b≤a*b:=Int.mul_le_mul_of_nonneg_right ha.1 hb.1
 omega
theorem Zve{v l}(h:∀t∈l,(-1048576≤t.factor∧t.factor≤1048576)∧0≤v t∧v t<34359738368):-36028797018963968*(l.length:Int)≤K0 v l∧K0 v l≤36028797018963968*(l.length:Int):=by
 induction l with
 |nil=>simp[K0]
 |cons t r ih =>
  have h1:=ih fun x hx=>h x (by simp[hx])
  have h2:=Zpf (h t (by simp)).1 (h t (by simp)).2
  simp only[K0,ZER]
  generalize t.factor*v t=y at *
  omega
theorem ZnB{s}(h:Z1 s=true):(-1048576≤s.base∧s.base≤1048576)∧∀t∈s.terms,-1048576≤t.factor∧t.factor≤1048576:=by
 unfold Z1 at h
 simp only[ZEK]at h
 refine⟨by have:=h.1.1;simpa[Zdd]using this,fun t ht=>?_⟩
 have h1:=ZcC s.terms s.terms 0 rfl (by omega)
 simp only[List.take_zero,ZE6,Nat.zero_add]at h1
 rw[h1]at h
 have h2:((ZEO s.terms.length).any fun i=>dC ((s.terms.getD i dE).field∈(s.terms.take i).map (·.field))||!JS (s.terms.getD i dE))=false:=by simpa using h.2
 obtain⟨j,hj,rfl⟩:=ZEV ht
 have h3:=List.any_eq_false.1 h2 j (by simpa using hj)
 simp only[ZEY,not_or,Bool.not_eq_true',Bool.not_eq_false]at h3
 have h4:=h3.2
 unfold JS at h4
 simp only[ZEK]at h4
 have h5:=h4.2
 simpa[Zdd,ZES,hj]using h5
theorem ZgB(s)(hv:Z1 s=true)(f v st)(hb:∀t∈s.terms,0≤v t∧v t<34359738368)(hf:∀t∈s.terms,VT ZEA f [.agg t.cells] st (.int .i64 (v t)) st):
  ZK ZEA 107 [.agg s.cells,f] st (.int .i64 (s.base+K0 v s.terms)) st:=by
 refine ZB (cR 107 f107) fun hwf F hret=>?_
 clear hwf
 have hfew:=JT hv
 have hsm:=ZnB hv
 refine rx (nd2 @eQ4 (nd2 @YC.eq_1 @eQ1)) ?_
 refine rx @eQ4 ?_
 refine rx (nd2 @eQ4 (nd2 @YC.eq_1 @eQ1)) ?_
 refine Zd (fr (s.terms.length) (fun j Q=>j≤s.terms.length→Q [(1,.d f),(5,.d (.int .i64 (s.base+K0 v (s.terms.take j)))),(11,.d (YC s.terms)),(12,.d (.int .i64 s.terms.length)),(13,.d (.int .i64 j))] [] st) (fun n ih_key=>?_) fun key=>?_)
 ·intro j hn hj
  refine rg ?_
  refine Za (Zq rfl trivial (fun h1=>?_) (fun h1=>?_))
  ·simp at h1
   have hmem:=ZA h1
   have hsn:=ZwQ (v:=v) h1
   have hsb:=Zve (v:=v) (l:=s.terms.take j) fun t ht=>⟨hsm.2 t (List.mem_of_mem_take ht),hb t (List.mem_of_mem_take ht)⟩
   rw[ZEU]at hsb
   generalize htm:s.terms.getD j dE=tm at *
   have hmb:=Zpf (hsm.2 tm hmem) (hb tm hmem)
   refine rx (nd2 @Yp.cells.eq_1 (nd2 @YC.eq_1 (nd2 @eQ1 @htm))) ?_
   refine aa ?_
   refine rx @Yp.cells.eq_1 ?_
   refine cWD (hf tm hmem) ?_
   generalize hmv:tm.factor*v tm=mv at *
   refine aa ?_
   refine rg ?_
   refine aa ?_
   refine Zi ?_
   have hnext:=ih_key ((s.terms.length)-(j+1)) (by omega) (j+1) rfl (by omega)
   rw[hsn,←Int.add_assoc]at hnext
   exact hnext
  ·simp at h1
   obtain rfl:j=s.terms.length:=by omega
   rw[ZFa]
   refine rg ?_
   exact hret rfl (by trivial) (ZEF _) (ZEB _)
 have hk:=key _ 0 rfl (by omega)
 rw[List.take_zero,show K0 v []=0 from rfl,Int.add_zero]at hk
 exact hk
def Zdh(look:Zeb)(least:Bool)(t:Yp):Int:=if least=dC (0<t.factor) then (Zg2 look t).1 else (Zg2 look t).2
theorem ZzE(look l):K0 (Zdh look true) l=loS look l:=by
 induction l with
 |nil=>rfl
 |cons t r ih =>
  simp only[K0,loS,ih,loT,Zdh]
  by_cases h:0<t.factor<;>simp[h]
theorem ZzD(look l):K0 (Zdh look false) l=hiS look l:=by
 induction l with
 |nil=>rfl
 |cons t r ih =>
  simp only[K0,hiS,ih,hiT,Zdh]
  by_cases h:0<t.factor<;>simp[h]
theorem Zpd(o:Option (Int×Int)):Y8 (.agg [.int .i64 0,.int .i64 0]) false (o.map K3)=.agg [.int .i64 (o.getD (0,0)).1,.int .i64 (o.getD (0,0)).2]:=by cases o<;>rfl
theorem Zhv(t l least b x y st)(hb:st b=sO (.map (Za4 l)))(hx:st x=sO (.cells [.map b]))(hy:st y=sO (.cells [.bool least])):
  ZK ZEA 288 [.agg t.cells,.ptr x 0,.ptr y 0] st (.int .i64 (Zdh (fun k=>Zp k l) least t)) st:=by
 refine ZB (cR 288 f288) fun hwf F hret=>?_
 clear hwf
 have e1:=YO (vD:=K3) ZM t.field l
 have e3:=Wb ZM t.field
 simp only[show KK t.field=D.str t.field from rfl]at e1 e3
 refine rx @Yp.cells.eq_1 ?_
 refine rh ?_
 refine Zj ?_
 simp only[Eqs,reduceCtorEq,ZEG,reduceIte,ZED,ZEH,ZEE,hx,hb,e1,e3,Zpd]
 refine rx @hy ?_
 refine cd (fun h1=>?_) (fun h1=>?_)
 ·refine rg ?_
  refine hret rfl (by trivial) (Zgb ?_) (ZEB _)
  unfold Zdh Zg2
  rw[if_pos (by simpa using h1)]
 ·refine rh ?_
  refine Zj ?_
  simp only[Eqs,reduceCtorEq,ZEG,reduceIte,ZED,ZEH,ZEE,hx,hb,e1,e3,Zpd]
  refine hret rfl (by trivial) (Zgb ?_) (ZEB _)
  unfold Zdh Zg2
  rw[if_neg (by simpa using h1)]
theorem ZxJ{s look}(h:ZbW s look=0):Z1 s=true∧∀t∈s.terms,∀least,0≤Zdh look least t∧Zdh look least t<34359738368:=by
 unfold ZbW at h
 split at h;· omega
 rename_i hv
 split at h;· omega
 rename_i hb
 refine⟨by simpa using hv,fun t ht least=>?_⟩
 have h1:K7 look t=false:=by
  cases hx:K7 look t with
  |false=>rfl
  |true=>exact absurd (List.any_eq_true.2 ⟨t,ht,hx⟩) hb
 unfold K7 at h1
 unfold Zdh Zg2
 cases hl:look t.field with
 |none=>simp
 |some r =>
  rw[hl]at h1
  simp only[Zbm,Bool.or_eq_false_iff,decide_eq_false_iff_not]at h1
  simp only[ZFe]
  split<;>omega
theorem Zc9(s l least b x y st)(he:ZbW s (fun k=>Zp k l)=0)(hb:st b=sO (.map (Za4 l)))(hx:st x=sO (.cells s.cells))(hy:st y=sO (.cells [.map b])):
  ZK ZEA 287 [.bool least,.ptr x 0,.ptr y 0] st (.int .i64 (s.base+K0 (Zdh (fun k=>Zp k l) least) s.terms)) st:=by
 refine ZB (cR 287 f287) fun hwf F hret=>?_
 clear hwf
 have hok:=ZxJ he
 refine rg ?_
 refine Za ?_
 refine xP 3 fun z hz=>?_
 have hbz:b≠z:=fun e=>by rw[e,hz]at hb;simp at hb
 have hxz:x≠z:=fun e=>by rw[e,hz]at hx;simp at hx
 have hyz:y≠z:=fun e=>by rw[e,hz]at hy;simp at hy
 have hx2:(st.upd z (.cells [.bool least])) x=sO (.cells s.cells):=by rw[ZEJ _ _ hxz];exact hx
 refine rx (nd2 @hx2 @eQ4) ?_
 refine Zah rfl rfl rfl rfl rfl (by trivial) (by trivial) (by exact ZgB s hok.1 _ (Zdh (fun k=>Zp k l) least) _ (fun t ht=>hok.2 t ht least) (fun t ht=>(Zhv t l least b y z _ (by rw[ZEJ _ _ hbz];exact hb) (by rw[ZEJ _ _ hyz];exact hy) (ZEI _ _ _)).VT (first:=[]) (args:=[_]) (caps:=[_,_]))) (Zj ?_)
 simp only[Eqs,reduceCtorEq,ZEG,reduceIte,ZED,ZEH,ZEE]
 exact hret rfl (by trivial) (ZEF _) (ZEZ _ hz)
theorem ZlK(s b l st)(hb:st b=sO (.map (Za4 l))):
  Zb ZEA 281 [.agg s.cells,.map b] st (fun r S=>r=.ret (.tup [K3 ((Jy s fun k=>Zp k l).1,(Jy s fun k=>Zp k l).2.1),.int .i64 (Jy s fun k=>Zp k l).2.2])∧S=st):=by
 refine Zc (cR 281 f281) fun F hF=>?_
 have hI:=Jy.eq_1 s fun k=>Zp k l
 refine rx @eQ4 ?_
 refine rg ?_
 refine rx @eQ4 ?_
 refine cV (Znm s b l st hb) ?_ ?_
 ·rintro d S ⟨hd,rfl⟩
  cases hd
  refine gR0 ?_
  refine rg ?_
  refine cd (fun h1=>?_) (fun h1=>?_)
  ·have h1':¬ZbW s (fun k=>Zp k l)=0:=by simpa using h1
   rw[if_neg h1']at hI
   refine rg ?_
   refine hF.ret _ S rfl (by trivial) (Jd ?_ rfl) (ZEB _) ⟨rfl,rfl⟩
   rw[hI];rfl
  ·have h1':ZbW s (fun k=>Zp k l)=0:=by simpa using h1
   rw[if_pos h1']at hI
   refine ZD (Za ?_)
   refine xP 2 fun x hx=>?_
   refine xP 3 fun y hy=>?_
   have hbx:b≠x:=fun e=>by rw[e,hx]at hb;simp at hb
   have hy':=Zn hy
   have hby:b≠y:=fun e=>by rw[e,hy'.2]at hb;simp at hb
   have hb2:((S.upd x (.cells s.cells)).upd y (.cells [.map b])) b=sO (.map (Za4 l)):=by rw[ZEJ _ _ hby,ZEJ _ _ hbx];exact hb
   have hx2:((S.upd x (.cells s.cells)).upd y (.cells [.map b])) x=sO (.cells s.cells):=by rw[ZEJ _ _ hy'.1.symm];exact ZEI _ _ _
   refine rg ?_
   refine rg ?_
   refine cW ((Zc9 s l true b x y _ h1' hb2 hx2 (ZEI _ _ _)).VT (first:=[]) (args:=[_]) (caps:=[_,_])) ?_
   refine cW ((Zc9 s l false b x y _ h1' hb2 hx2 (ZEI _ _ _)).VT (first:=[]) (args:=[_]) (caps:=[_,_])) ?_
   refine hF.ret _ S rfl (by first|trivial|simp) (Jd ?_ rfl) (ZFf (ZEZ _ hx) (ZEZ _ hy)) ⟨rfl,rfl⟩
   rw[hI,ZzE,ZzD];rfl
 ·rintro d S ⟨hd,_⟩
  cases hd
theorem Zgr(o:Option Int):Y8 (.int .i64 0) false (o.map WZ)=.int .i64 (o.getD 0):=by cases o<;>rfl
abbrev Ki(l:List (Str×Int)):List (D×D):=K6 KK WZ l
def inC(n:Int):List D:=[.int .i64 n]
theorem ZxH(f):Yv f=(dC (f.kind=1) ||decide (f.kind=2) ||decide (f.kind=3)):=by
 unfold Yv
 rw[Bool.eq_iff_iff]
 simp only[ZEK,ZEY,decide_eq_true_eq]
 omega
theorem ZeJ(f):Ze ZEA 61 [.agg f.cells] (.bool (Yv f)):=by
 refine Zm (cR 61 f61) fun F st hret=>?_
 refine rx @eQ0 ?_
 refine rx @eQ0 ?_
 refine rb hret ?_
 exact(ZxH f).symm
def ZiX(f:Fld):(Int×Int)×Int:=if Yv f then (Kr f,0) else ((0,0),2)
theorem Zna(f):Ze ZEA 284 [.agg f.cells] (.tup [K3 (ZiX f).1,.int .i64 (ZiX f).2]):=by
 refine Zm (cR 284 f284) fun F st hret=>?_
 have hS:=ZiX.eq_1 f
 refine rx @eQ0 ?_
 refine rx @eQ0 ?_
 refine cl (ZeJ f) ?_
 refine cd (fun h1=>?_) (fun h1=>?_)
 ·rw[if_neg (by simpa using h1)]at hS
  refine rg ?_
  refine hret rfl (by first|trivial|simp) (Jd ?_ rfl) (ZEB _)
  rw[hS];rfl
 ·rw[if_pos (by simpa using h1)]at hS
  refine rx @eQ0 ?_
  refine cd (fun h2=>?_) (fun h2=>?_)
  ·refine rx @eQ0 ?_
   refine hret rfl (by first|trivial|simp) (Jd ?_ rfl) (ZEB _)
   rw[hS,Kr,if_pos (by simpa using h2)];rfl
  ·refine rx @eQ0 ?_
   refine hret rfl (by first|trivial|simp) (Jd ?_ rfl) (ZEB _)
   rw[hS,Kr,if_neg (by simpa using h2)];rfl
def Jp(fs:List Fld):Nat→Zw4
 |0=>[]
 |i+1=>if Yv (fs.getD i dE) then Wg (fs.getD i dE).name (Kr (fs.getD i dE)) (Jp fs i) else Jp fs i
theorem ZeK(fs st):Zb ZEA 280 [Zr fs] st fun r S=>∃b,st b=nO∧r=.ret (.map b)∧S=st.upd b (.map (Za4 (Jp fs fs.length))):=by
 refine JU (cR 280 f280) fun hwf F hF=>?_
 have hw:=(Ziw (hwf (Zr fs) (by simp))).1
 unfold big at hw
 clear hwf
 refine rg ?_
 refine rg ?_
 intro b hb
 refine rx (nd2 @Zr.eq_1 @eQ1) ?_
 refine Zd (fr (fs.length) (fun i Q=>i≤fs.length→Q [(3,.d (.map b)),(9,.d (Zr fs)),(10,.d (.int .i64 fs.length)),(11,.d (.int .i64 i))] [] (st.upd b (.map (Za4 (Jp fs i))))) (fun n ih_key=>?_) fun key=>?_)
 ·intro i hn hi
  refine rg ?_
  refine Za (Zq rfl trivial (fun h1=>?_) (fun h1=>?_))
  ·simp at h1
   have hsn:Jp fs (i+1)=if Yv (fs.getD i dE) then Wg (fs.getD i dE).name (Kr (fs.getD i dE)) (Jp fs i) else Jp fs i:=rfl
   generalize hf:fs.getD i dE=f at *
   have hP:=ZiX.eq_1 f
   refine rx (nd2 @Zr.eq_1 (nd2 @eQ1 (nd2 @eQ0 @hf))) ?_
   refine aa ?_
   refine rx @eQ0 ?_
   refine cX @K3.eq_1 (Zna f) ?_
   refine rg ?_
   refine cd (fun h2=>?_) (fun h2=>?_)
   ·have hnum:Yv f=true:=by
     cases hx:Yv f with
     |true=>rfl
     |false=>rw[hP,hx]at h2;simp at h2
    rw[if_pos hnum]at hP hsn
    have e2:=ZaB (vD:=K3) ZM f.name (Kr f) (Jp fs i)
    have e3:=Wb ZM f.name
    simp only[show KK f.name=D.str f.name from rfl,show K3 (Kr f)=D.agg [.int .i64 (Kr f).1,.int .i64 (Kr f).2] from rfl]at e2 e3
    have hP1:(ZiX f).1=Kr f:=by rw[hP]
    refine rx (nd2 @eQ0 (nd2 @hP1 (nd2 @e2 (nd2 @e3 (nd2 @ZEI (nd2 @ZET (nd2 @Yl @Ym))))))) ?_
    refine rg ?_
    refine aa ?_
    rw[←hsn]
    refine Zi ?_
    exact ih_key ((fs.length)-(i+1)) (by omega) (i+1) rfl (by omega)
   ·have hnum:Yv f=false:=by
     cases hx:Yv f with
     |true=>rw[hP,hx]at h2;simp at h2
     |false=>rfl
    rw[if_neg (by rw[hnum];simp)]at hsn
    refine rg ?_
    refine aa ?_
    rw[←hsn]
    refine Zi ?_
    exact ih_key ((fs.length)-(i+1)) (by omega) (i+1) rfl (by omega)
  ·simp at h1
   obtain rfl:i=fs.length:=by omega
   refine rg ?_
   exact hF.ret _ _ rfl (by trivial) (ZEF _) (ZEB _) ⟨b,hb,rfl,rfl⟩
 exact key _ 0 rfl (by omega)
theorem Ze1(l f p)(sts:Nat→St)(hf:∀i,i<l.length→VT ZEA f [.agg (l.getD i dE).cells] (sts i) (.bool (p (l.getD i dE))) (sts (i+1))):
  ZK ZEA 72 [slD 2 Msg.cells l,f] (sts 0) (.tup [.int .i64 (max (Zg p l) 0),.bool (dC (0≤Zg p l))]) (sts (Qb p l)):=by
 refine ZB (cR 72 f72) fun hwf F hret=>?_
 clear hwf
 refine rg ?_
 refine rg ?_
 refine ct (Zdc l f p sts hf) ?_
 refine rg ?_
 exact hret rfl (by trivial) (Jd rfl rfl) (ZEB _)
theorem Zgz(l f p)(sts:Nat→St)(hf:∀i,i<l.length→VT ZEA f [.agg (l.getD i dE).cells] (sts i) (.bool (p (l.getD i dE))) (sts (i+1))):
  ZK ZEA 210 [slD 15 Fld.cells l,f] (sts 0) (.tup [.int .i64 (max (Zg p l) 0),.bool (dC (0≤Zg p l))]) (sts (Qb p l)):=by
 refine ZB (cR 210 f210) fun hwf F hret=>?_
 clear hwf
 refine rg ?_
 refine rg ?_
 refine ct (Qc l f p sts hf) ?_
 refine rg ?_
 exact hret rfl (by trivial) (Jd rfl rfl) (ZEB _)
theorem Zht(l f p)(sts:Nat→St)(hf:∀i,i<l.length→VT ZEA f [.agg (l.getD i dE).cells] (sts i) (.bool (p (l.getD i dE))) (sts (i+1))):
  ZK ZEA 109 [slD 3 YX.cells l,f] (sts 0) (.tup [.int .i64 (max (Zg p l) 0),.bool (dC (0≤Zg p l))]) (sts (Qb p l)):=by
 refine ZB (cR 109 f109) fun hwf F hret=>?_
 clear hwf
 refine rg ?_
 refine rg ?_
 refine ct (ZeQ l f p sts hf) ?_
 refine rg ?_
 exact hret rfl (by trivial) (Jd rfl rfl) (ZEB _)
theorem ZlG(x:Msg)(s b st)(hb:st b=sO (.cells [.str s])):ZK ZEA 73 [.agg x.cells,.ptr b 0] st (.bool (dC (x.name=s))) st:=by
 refine ZB (cR 73 f73) fun hwf F hret=>?_
 clear hwf
 refine rx @eQ2 ?_
 refine rx @hb ?_
 exact hret rfl (by trivial) (ZEF _) (ZEB _)
theorem Zkk(x:Fld)(s b st)(hb:st b=sO (.cells [.str s])):ZK ZEA 211 [.agg x.cells,.ptr b 0] st (.bool (dC (x.name=s))) st:=by
 refine ZB (cR 211 f211) fun hwf F hret=>?_
 clear hwf
 refine rx @eQ0 ?_
 refine rx @hb ?_
 exact hret rfl (by trivial) (ZEF _) (ZEB _)
theorem Zgx(d:Dfn)(s):Ze ZEA 32 [.agg d.cells,.str s] (.tup [.int .i64 (max (Zg (fun x=>dC (x.name=s)) d.msgs) 0),.bool (dC (0≤Zg (fun x=>dC (x.name=s)) d.msgs))]):=by
 refine Zm (cR 32 f32) fun F st hret=>?_
 refine rx @eQ3 ?_
 refine Za ?_
 refine xP 3 fun b hb=>?_
 refine rx @eQ3 ?_
 refine ct (Ze1 d.msgs (.fn (.func 73) [] [.ptr b 0]) (fun x=>dC (x.name=s)) (fun _=>st.upd b (.cells [.str s])) (fun i hi=>(ZlG _ s b _ (ZEI _ _ _)).VT (first:=[]) (args:=[_]) (caps:=[_]))) ?_
 exact hret rfl (by trivial) (Jd rfl rfl) (ZEZ _ hb)
theorem Zb8(d:Msg)(s):Ze ZEA 164 [.agg d.cells,.str s] (.tup [.int .i64 (max (Zg (fun x=>dC (x.name=s)) d.fields) 0),.bool (dC (0≤Zg (fun x=>dC (x.name=s)) d.fields))]):=by
 refine Zm (cR 164 f164) fun F st hret=>?_
 refine rx @eQ2 ?_
 refine Za ?_
 refine xP 3 fun b hb=>?_
 refine rx @eQ2 ?_
 refine ct (Zgz d.fields (.fn (.func 211) [] [.ptr b 0]) (fun x=>dC (x.name=s)) (fun _=>st.upd b (.cells [.str s])) (fun i hi=>(Zkk _ s b _ (ZEI _ _ _)).VT (first:=[]) (args:=[_]) (caps:=[_]))) ?_
 exact hret rfl (by trivial) (Jd rfl rfl) (ZEZ _ hb)
theorem ZlF(c:YX)(tag b st)(hb:st b=sO (.cells [.int .i64 tag])):ZK ZEA 110 [.agg c.cells,.ptr b 0] st (.bool (dC (c.low≤tag)&&dC (tag≤c.high))) st:=by
 refine ZB (cR 110 f110) fun hwf F hret=>?_
 clear hwf
 refine rx @YX.cells.eq_1 ?_
 refine rx @hb ?_
 exact hret rfl (by trivial) (ZEF _) (ZEB _)
theorem Zoh(f tag):Ze ZEA 66 [.agg f.cells,.int .i64 tag] (.tup [.int .i64 (max (QN f tag) 0),.bool (dC (0≤QN f tag))]):=by
 refine Zm (cR 66 f66) fun F st hret=>?_
 refine rx @eQ0 ?_
 refine Za ?_
 refine xP 3 fun b hb=>?_
 refine rx @eQ0 ?_
 refine ct (Zht f.cases (.fn (.func 110) [] [.ptr b 0]) (fun c=>dC (c.low≤tag)&&dC (tag≤c.high)) (fun _=>st.upd b (.cells [.int .i64 tag])) (fun i hi=>(ZlF _ tag b _ (ZEI _ _ _)).VT (first:=[]) (args:=[_]) (caps:=[_]))) ?_
 exact hret rfl (by trivial) (Jd rfl rfl) (ZEZ _ hb)
theorem Zsz{α:Type}[Inhabited α]{p:α→Bool}{l:List α}{n:Nat}(h:0≤Zg p (l.take n)):Zg p l=Zg p (l.take n):=by
 have h1:=JX h
 have h2:=WM p (l.take n)
 rw[ZEU]at h2
 have h3:=KD (p:=p) (l:=l) (i:=(Zg p (l.take n)).toNat) (by omega) (by rw[←Q8 (n:=n) (by omega)];exact h1.1) (fun j hj=>by rw[←Q8 (n:=n) (by omega)];exact h1.2 j hj)
 omega
theorem Zum{d:Dfn}{s:Str}{n:Nat}(h:0≤ZF d s n):ZF d s d.msgs.length=ZF d s n∧ZF d s n<n∧ZF d s n<d.msgs.length:=by
 unfold ZF at *
 have h2:=WM (fun m:Msg=>dC (m.name=s)) (d.msgs.take n)
 rw[ZEU]at h2
 refine⟨?_,by omega,by omega⟩
 rw[ZFa];exact Zsz h
theorem ZnW{d:Dfn}{at_:Nat}{l:List Msg}{deps:List Int}(h:Ju d at_ l deps=nO):(∀i,i<l.length→WQ d (at_+i) (l.getD i dE)=nO)∧0≤ZF d d.start d.msgs.length:=by
 induction l generalizing at_ deps with
 |nil =>
  simp only[Ju]at h
  split at h
  ·simp at h
  ·exact⟨fun i hi=>by simp at hi,by omega⟩
 |cons m r ih =>
  simp only[Ju]at h
  split at h
  ·simp at h
  ·rename_i hm
   split at h
   ·simp at h
   ·have h1:=ih h
    refine⟨fun i hi=>?_,h1.2⟩
    cases i with
    |zero=>simpa using hm
    |succ i =>
     have:=h1.1 i (by simpa using hi)
     simpa[Nat.add_assoc,Nat.add_comm 1 i]using this
structure Qj(d:Dfn):Prop where
 many:d.msgs.length≤60
 start:0≤ZF d d.start d.msgs.length
 flaw:∀i,i<d.msgs.length→WQ d i (d.msgs.getD i default)=none
theorem ZpA{d:Dfn}(h:Ze0 d=true):Qj d:=by
 unfold Ze0 ZqT at h
 split at h
 ·simp at h
 ·split at h
  ·simp at h
  ·rename_i hc
   simp only[ZEY,decide_eq_true_eq,not_or,Nat.not_lt]at hc
   simp only[Option.isNone_iff_eq_none]at h
   have:=ZnW h
   refine⟨by omega,this.2,fun i hi=>by simpa using this.1 i hi⟩
theorem ZmE{s:Str}(h:YE s=true):s.length≤32:=by
 unfold YE at h
 split at h
 ·simp
 ·simp only[ZEK,decide_eq_true_eq]at h;exact h.1.1
structure ZbH(d:Dfn)(j:Nat)(m:Msg):Prop where
 name:m.name.length≤32
 many:m.fields.length≤40
 field:∀i,i<m.fields.length→K1 d j m i (m.fields.getD i default)=0
theorem Zlo{d:Dfn}{j:Nat}{m:Msg}{k:Nat}{l:List Fld}(h:YH d j m k l=nO):∀i,i<l.length→K1 d j m (k+i) (l.getD i dE)=0:=by
 induction l generalizing k with
 |nil=>intro i hi;simp at hi
 |cons f r ih =>
  simp only[YH]at h
  split at h
  ·rename_i hf
   intro i hi
   cases i with
   |zero=>simpa using hf
   |succ i=>have:=ih h i (by simpa using hi);simpa[Nat.add_assoc,Nat.add_comm 1 i]using this
  ·simp at h
theorem ZxR{d:Dfn}{j:Nat}{m:Msg}(h:WQ d j m=nO):ZbH d j m:=by
 unfold WQ at h
 split at h;· simp at h
 rename_i h1
 split at h;· simp at h
 split at h;· simp at h
 rename_i hc
 simp only[ZEY,decide_eq_true_eq,not_or,Nat.not_lt]at hc
 exact⟨ZmE (by simpa using h1),by omega,fun i hi=>by simpa using Zlo h i hi⟩
structure ZtW(d:Dfn)(j:Nat)(f:Fld):Prop where
 name:f.name.length≤32
 ref:∀s∈Yr f,0≤ZF d s d.msgs.length∧ZF d s d.msgs.length<j
 cases:f.cases≠[]→f.kind=9
theorem Zs4{f:Fld}(h1:1≤f.kind)(h2:f.kind≤12)(h:Zkg f=true)(hc:f.cases≠[]):f.kind=9:=by
 have hk:f.kind=1∨f.kind=2∨f.kind=3∨f.kind=4∨f.kind=5∨f.kind=6∨f.kind=7∨f.kind=8∨f.kind=9∨f.kind=10∨f.kind=11∨f.kind=12:=by omega
 simp only[Zkg,ZEK]at h
 have h3:=h.2.2
 rcases hk with hk|hk|hk|hk|hk|hk|hk|hk|hk|hk|hk|hk<;>rw[hk]at h3⊢<;>simp[zrC,Zny,Zvk,ZbV,hc]at h3<;>rfl
theorem Zxv{d:Dfn}{j i:Nat}{m:Msg}{f:Fld}(h:K1 d j m i f=0):ZtW d j f:=by
 have h0:=ZoX h
 unfold K1 at h
 split at h;· omega
 rename_i h1
 split at h;· omega
 split at h;· omega
 rename_i hk
 split at h;· omega
 rename_i hz
 simp only[ZEY,decide_eq_true_eq,not_or,Int.not_lt]at hk
 refine⟨ZmE (by simpa using h1),fun s hs=>?_,fun hc=>Zs4 (by omega) (by omega) (by simpa using hz) hc⟩
 have h3:=h0.2 s hs
 have h4:=Zum h3
 exact⟨by omega,by omega⟩
theorem Qj.msg{d:Dfn}(h:Qj d){j:Nat}(hj:j<d.msgs.length):ZbH d j (d.msgs.getD j dE):=ZxR (h.flaw j hj)
theorem Qj.fld{d:Dfn}(h:Qj d){j i:Nat}(hj:j<d.msgs.length)(hi:i<(d.msgs.getD j dE).fields.length):ZtW d j ((d.msgs.getD j dE).fields.getD i dE):=Zxv ((h.msg hj).field i hi)
end Go.DL
namespace Go.DL
open Go
variable {kp:Option (List Nat)}{L:Loc}{ρ:Env}{s:St}{w:World}{os:List DOp}{ds:List D}{B:List (Nat × Rd)}{dst:Option Nat}{tmps:Array Value}{g:G}{Φ:Res→St→Prop}{ν:Nat→Nat}{xs:List Opd}{side:Prop}{row:Nat→List D}
def ixS(d:Dfn)(s:Str):Nat:=(ZF d s d.msgs.length).toNat
open Go.Proofs
def upS(v of:Int):Int:=((v+of)-1).tdiv of*of
theorem ZAG{v of}(hv:-2000≤v∧v≤2000)(ho:1≤of∧of≤1000):(-4000≤((v+of)-1).tdiv of∧((v+of)-1).tdiv of≤4000)∧-5000≤upS v of∧upS v of≤5000:=by
 unfold upS
 have h1:=Int.mul_tdiv_add_tmod (v+of-1) of
 have h2:=Int.tmod_lt_of_pos (v+of-1) (show 0<of by omega)
 have h3:=Int.lt_tmod_of_pos (v+of-1) (show 0<of by omega)
 rw[Int.mul_comm]at h1
 generalize (v+of-1).tmod of=r at *
 generalize (v+of-1).tdiv of=q at *
 have h4:-4000≤q*of∧q*of≤4000:=by omega
 refine⟨?_,by omega⟩
 rcases Int.lt_trichotomy q 0 with hq|hq|hq
 ·have:=Int.mul_le_mul_of_nonneg_left (show(1:Int)≤of by omega) (show 0≤-q by omega)
  simp only[Int.neg_mul,Int.mul_one]at this
  omega
 ·omega
 ·have:=Int.mul_le_mul_of_nonneg_left (show(1:Int)≤of by omega) (show 0≤q by omega)
  omega
theorem Zsv{v of}(hv:-2000≤v∧v≤2000)(ho:1≤of∧of≤1000):Ze ZEA 94 [.int .i64 v,.int .i64 of] (.int .i64 (upS v of)):=by
 have hb:=ZAG hv ho
 have he:((v+of)-1).tdiv of*of=upS v of:=rfl
 refine Zm (cR 94 f94) fun F st hret=>?_
 refine rg ?_
 refine rg ?_
 generalize ((v+of)-1).tdiv of=q at *
 rw[he]
 generalize upS v of=u at *
 refine aa ?_
 refine ri hret ?_
 rfl
structure Zf9(f:Fld):Prop where
 num:f.kind=1∨f.kind=2→-1000≤f.bits∧f.bits≤1000
 pad:f.kind=10→1≤f.bits∧f.bits≤1000
def Zfq(f:Fld)(o:Int):Int:=if f.kind=1∨f.kind=2 then (o+f.bits).tmod 8 else if f.kind=10 then (upS o f.bits).tmod 8 else 0
def KX(l:List Fld):Nat→Int
 |0=>0
 |i+1=>Zfq (l.getD i dE) (KX l i)
theorem ZxU(f o):-8<Zfq f o∧Zfq f o<8:=by
 have h:∀x:Int,-8<x.tmod 8∧x.tmod 8<8:=fun x=>⟨Int.lt_tmod_of_pos x (by decide),Int.tmod_lt_of_pos x (by decide)⟩
 unfold Zfq
 split
 ·exact h _
 ·split
  ·exact h _
  ·omega
theorem Ztw(l i):-8<KX l i∧KX l i<8:=by
 cases i with
 |zero=>simp[KX]
 |succ i=>exact ZxU _ _
theorem Zlc(f:Fld){o}(ho:-2000≤o∧o≤2000)(hb:-1000≤f.bits∧f.bits≤1000):Ze ZEA 208 [.agg f.cells,.int .i64 o] (.int .i64 (o+f.bits)):=by
 refine Zm (cR 208 f208) fun F st hret=>?_
 refine rx @eQ0 ?_
 refine rx @eQ0 ?_
 refine aa ?_
 refine ri hret ?_
 rfl
theorem Zld(f:Fld){o}(ho:-2000≤o∧o≤2000)(hb:1≤f.bits∧f.bits≤1000):Ze ZEA 209 [.agg f.cells,.int .i64 o] (.int .i64 (upS o f.bits)):=by
 refine Zm (cR 209 f209) fun F st hret=>?_
 refine rx @eQ0 ?_
 refine rx @eQ0 ?_
 refine cl (Zsv ho hb) ?_
 refine ri hret ?_
 rfl
def ZqB:List (D×D):=[(.int .i64 1,.fn (.func 208) [] []),(.int .i64 2,.fn (.func 208) [] []),(.int .i64 10,.fn (.func 209) [] [])]
theorem Zge(st):Zb ZEA 160 [] st fun r S=>∃b,st b=nO∧r=.ret (.map b)∧S=st.upd b (.map ZqB):=by
 refine Zc (cR 160 f160) fun F hF=>?_
 refine rg ?_
 refine rg ?_
 refine rh ?_
 refine Zj ?_
 simp only[Eqs,reduceCtorEq,ZEG,reduceIte,ZED,ZEH,ZEE,JP,Kh,Yf,ZEI,ZET,Yl,Ym,decide_false,Int.reduceEq,ite_false]
 intro b hb
 exact hF.ret _ _ rfl (by trivial) (ZEF _) (ZEB _) ⟨b,hb,rfl,rfl⟩
def ZdC(k:Int):Bool:=dC (k=1) ||(dC (k=2) ||decide (k=10))
def ZdK(k:Int):D:=if k=1 then .fn (.func 208) [] [] else if k=2 then .fn (.func 208) [] [] else if k=10 then .fn (.func 209) [] [] else .nilfn
theorem Zms(k):Zbb (.sc .int) (.int .i64 k) ZqB=sO (if ZdC k then sO (ZdK k) else nO):=by
 simp only[ZqB,Zbb,Kh,Yf,if_true,ZdC,ZdK]
 by_cases h1:k=1
 ·simp[h1]
 ·by_cases h2:k=2
  ·simp[h2]
  ·by_cases h3:k=10
   ·simp[h3]
   ·simp[h1,h2,h3]
theorem Zpc(k):Y8 .nilfn true (if ZdC k=true then sO (ZdK k) else nO)=.tup [ZdK k,.bool (ZdC k)]:=by
 unfold ZdC ZdK
 by_cases h1:k=1
 ·simp[h1,Y8]
 ·by_cases h2:k=2
  ·simp[h2,Y8]
  ·by_cases h3:k=10
   ·simp[h3,Y8]
   ·simp[h1,h2,h3,Y8]
def ZiL(f:Fld):Bool:=!ZdC f.kind ||f.little
theorem ZnQ(f st):ZK ZEA 162 [.agg f.cells] st (.bool (ZiL f)) st:=by
 refine ZB (cR 162 f162) fun hwf F hret=>?_
 clear hwf
 refine rx @eQ0 ?_
 refine rx @eQ0 ?_
 refine cVD (Zge _) ?_ ?_
 ·rintro d S ⟨b,hb,hd,rfl⟩
  cases hd
  refine⟨by simp[Y5,KE,YP,J3],?_⟩
  have hfa:=Zms f.kind
  refine gQ (nd2 @hfa (nd2 @ZEI @Zpc)) ?_
  refine rx @eQ0 ?_
  exact hret rfl (by trivial) (by unfold ZiL;cases ZdC f.kind<;>exact ZEF _) (ZEZ _ hb)
 ·rintro d S ⟨b,hb,hd,_⟩
  cases hd
def ZuL(l:List Fld)(j:Nat):List D:=[.int .i64 j,.int .i64 (KX l j)]
theorem ZcV(l)(hl:l.length≤1000)(hb:∀f∈l,Zf9 f)(x):Zai ZEA (.fn (.func 159) [] [.ptr x 0]) (l.length+1) (ZuL l) (ZEX x (.cells [Zr l])):=by
 intro y go A a0 hcons hA hd
 refine Zb.V (first:=[]) (args:=[y]) (caps:=[.ptr x 0]) (Zc (cR 159 f159) fun F hF=>?_)
 have hx:∀a,ZJ a (ZEX x (.cells [Zr l]))→(a.or (ZEX x (.cells [Zr l]))) x=sO (.cells [Zr l]):=fun a hda=>by
  rw[Zl (hda x _ (Z4 _ _)),Z4]
 generalize hT:ZEX x (.cells [Zr l])=T at *
 refine rg ?_
 refine rh ?_
 refine Zj ?_
 simp only[Eqs,reduceCtorEq,ZEG,reduceIte,ZED,ZEH,ZEE,hx a0 hd,Zr,slD]
 refine Zd (fr (l.length) (fun j Q=>∀a,A j a→ZJ a T→(∀i,i<j→go i=.next)→j≤l.length→Q [(0,.d y),(1,.d (.ptr x 0)),(3,.d (.int .i64 (KX l j))),(8,.d (Zr l)),(9,.d (.int .i64 l.length)),(10,.d (.int .i64 j))] [] (a.or T)) (fun n ih_key=>?_) fun key=>?_)
 ·clear hA hd
  intro j hn a hA hd hno hj
  refine rg ?_
  have hcall:=(hcons j (by omega) hno a hA).frame hd
  unfold ZuL at hcall
  have ho:=Ztw l j
  refine Za (Zq rfl trivial (fun h1=>?_) (fun h1=>?_))
  ·simp at h1
   have hbj:=hb (l.getD j dE) (by simp[ZES,h1])
   have hnx:KX l (j+1)=Zfq (l.getD j dE) (KX l j):=rfl
   generalize hg:l.getD j dE=g at *
   refine rx (nd2 @Zr.eq_1 (nd2 @eQ1 (nd2 @hg @eQ0))) ?_
   refine aa ?_
   refine rg ?_
   refine vV (hcall) ?_ ?_
   ·rintro d S ⟨s',⟨hr,hA'⟩,hd',rfl⟩
    cases hgo:go j with
    |next =>
     rw[hgo]at hr
     cases hr
     refine gR0 ?_
     refine i0 ?_
     refine rx @eQ0 ?_
     refine cVD (Zge _) ?_ ?_
     ·rintro d S ⟨b,hb2,hd2,rfl⟩
      cases hd2
      have hfa:=Zms g.kind
      refine⟨by simp[Y5,KE,YP,J3],?_⟩
      refine gQ (nd2 @hfa (nd2 @ZEI @Zpc)) ?_
      refine rg ?_
      have h8:=Ztw l (j+1)
      refine cd (fun hk=>?_) (fun hk=>?_)
      ·by_cases h10:g.kind=10
       ·have hnf:ZdK g.kind=.fn (.func 209) [] []:=by simp[ZdK,h10]
        have hoff:(upS (KX l j) g.bits).tmod 8=KX l (j+1):=by rw[hnx,Zfq,if_neg (by omega),if_pos h10]
        rw[←hoff]at h8
        rw[hnf]
        refine rx @eQ0 ?_
        refine ZtS rfl rfl rfl rfl rfl (by trivial) (by trivial) (by exact(Zld g (by omega) (hbj.pad h10)).VT (first:=[]) (args:=[_,_]) (caps:=[]) _) (Zj ?_)
        simp only[Eqs,reduceCtorEq,ZEG,reduceIte,ZED,ZEH,ZEE]
        refine aa ?_
        rw[hoff]
        refine rg ?_
        refine aa ?_
        refine Kk (ZEZ _ hb2) ?_
        refine Zi ?_
        exact ih_key ((l.length)-(j+1)) (by omega) (j+1) rfl s' hA' hd' (Ye (q:=fun i=>go i=.next) hno hgo) (by omega)
       ·have h12:g.kind=1∨g.kind=2:=by
         simp only[ZdC,ZEY,decide_eq_true_eq]at hk;omega
        have hnf:ZdK g.kind=.fn (.func 208) [] []:=by rcases h12 with h|h<;>simp[ZdK,h]
        have hoff:(KX l j+g.bits).tmod 8=KX l (j+1):=by rw[hnx,Zfq,if_pos h12]
        rw[←hoff]at h8
        rw[hnf]
        refine rx @eQ0 ?_
        refine ZtS rfl rfl rfl rfl rfl (by trivial) (by trivial) (by exact(Zlc g (by omega) (hbj.num h12)).VT (first:=[]) (args:=[_,_]) (caps:=[]) _) (Zj ?_)
        simp only[Eqs,reduceCtorEq,ZEG,reduceIte,ZED,ZEH,ZEE]
        refine aa ?_
        rw[hoff]
        refine rg ?_
        refine aa ?_
        refine Kk (ZEZ _ hb2) ?_
        refine Zi ?_
        exact ih_key ((l.length)-(j+1)) (by omega) (j+1) rfl s' hA' hd' (Ye (q:=fun i=>go i=.next) hno hgo) (by omega)
      ·have hoff:(0:Int)=KX l (j+1):=by
        simp only[ZdC,Bool.or_eq_false_iff,decide_eq_false_iff_not]at hk
        rw[hnx,Zfq,if_neg (by omega),if_neg (by omega)]
       refine rg ?_
       refine rg ?_
       refine aa ?_
       rw[show(D.int IntKind.i64 0)=.int .i64 (KX l (j+1)) by rw[←hoff]]
       refine Kk (ZEZ _ hb2) ?_
       refine Zi ?_
       exact ih_key ((l.length)-(j+1)) (by omega) (j+1) rfl s' hA' hd' (Ye (q:=fun i=>go i=.next) hno hgo) (by omega)
     ·rintro d S ⟨b,hb2,hd2,_⟩
      cases hd2
    |stop c =>
     rw[hgo]at hr
     cases hr
     refine gR0 ?_
     refine i1 ?_
     exact hF.ret (.tup []) _ rfl trivial (ZEF _) (ZEB _) ⟨s',.stop j c (by omega) hno hgo hA',YQ _ _⟩
    |pan d=>rw[hgo]at hr;cases hr
   ·rintro d S ⟨s',⟨hr,hA'⟩,hd',rfl⟩
    cases hgo:go j with
    |pan d' =>
     rw[hgo]at hr
     cases hr
     exact hF.pan _ (ZEB _) ⟨s',.pan j d (by omega) hno hgo hA',YQ _ _⟩
    |next=>rw[hgo]at hr;cases hr
    |stop c=>rw[hgo]at hr;cases hr
  ·simp at h1
   obtain rfl:j=l.length:=by omega
   refine rh ?_
   refine Zj ?_
   simp only[Eqs,reduceCtorEq,ZEG,reduceIte,ZED,ZEH,ZEE,hx a hd,Zr,slD]
   refine vV (hcall) ?_ ?_
   ·rintro d S ⟨s',⟨hr,hA'⟩,hd',rfl⟩
    cases hgo:go l.length with
    |next =>
     rw[hgo]at hr
     cases hr
     refine gR0 ?_
     exact hF.fin (.tup []) _ rfl trivial (ZEF _) (ZEB _) ⟨s',.all (Ye (q:=fun i=>go i=.next) hno hgo) hA',YQ _ _⟩
    |stop c =>
     rw[hgo]at hr
     cases hr
     refine gR0 ?_
     exact hF.fin (.tup []) _ rfl trivial (ZEF _) (ZEB _) ⟨s',.stop l.length c (by omega) hno hgo hA',YQ _ _⟩
    |pan d=>rw[hgo]at hr;cases hr
   ·rintro d S ⟨s',⟨hr,hA'⟩,hd',rfl⟩
    cases hgo:go l.length with
    |pan d' =>
     rw[hgo]at hr
     cases hr
     exact hF.pan _ (ZEB _) ⟨s',.pan l.length d (by omega) hno hgo hA',YQ _ _⟩
    |next=>rw[hgo]at hr;cases hr
    |stop c=>rw[hgo]at hr;cases hr
 exact key _ 0 rfl a0 hA hd (by intro i hi;omega) (by omega)
theorem Zee(l st):Zb ZEA 113 [Zr l] st fun r S=>∃x,st x=nO∧r=.ret (.fn (.func 159) [] [.ptr x 0])∧S=st.or (ZEX x (.cells [Zr l])):=by
 refine Zc (cR 113 f113) fun F hF=>?_
 refine rx (nd2 @Zr.eq_1 @eQ1) ?_
 refine Za ?_
 refine xP 1 fun x hx=>?_
 refine rg ?_
 exact hF.ret _ _ rfl (by trivial) (ZEF _) (ZEB _) ⟨x,hx,rfl,Wu hx⟩
theorem Zsu(l)(hl:l.length≤1000)(hb:∀f∈l,Zf9 f)(k:Nat)(hk:k≤l.length)(st:St):ZK ZEA 165 [Zr l,.int .i64 k] st (.int .i64 (KX l k)) st:=by
 refine Zc (cR 165 f165) fun F hF=>?_
 refine rx (nd2 @Zr.eq_1 @eQ1) ?_
 refine rg ?_
 rw[show(D.sl .none l.length 15 fun i=>(l.getD i dE).cells)=Zr l from rfl]
 refine cV (Zee l st) ?_ ?_
 ·rintro d S ⟨x,hx,hd,rfl⟩
  cases hd
  refine gR0 ?_
  refine Zd ?_
  refine xP 3 fun z3 h3=>?_
  refine xP 4 fun z4 h4=>?_
  have hx3:z3≠x:=fun e=>by subst e;rw[Zl hx,Z4]at h3;simp at h3
  have hs3:st z3=nO:=by
   cases h:st z3 with
   |none=>rfl
   |some o=>rw[Zh h]at h3;simp at h3
  have k4:=Zn h4
  have hx4:z4≠x:=fun e=>by subst e;have:=k4.2;rw[Zl hx,Z4]at this;simp at this
  have hs4:st z4=nO:=by
   cases h:st z4 with
   |none=>rfl
   |some o=>have:=k4.2;rw[Zh h]at this;simp at this
  have hA:∀v,∃A:St,A=(st.upd z3 (.cells [.int .i64 k])).upd z4 (.cells [.int .i64 v])∧A z3=sO (.cells [.int .i64 k])∧A z4=sO (.cells [.int .i64 v])∧st.sub A∧A x=nO:=fun v=>by
   refine⟨_,rfl,by rw[ZEJ _ _ (Ne.symm k4.1)];exact ZEI _ _ _,ZEI _ _ _,ZFf (ZEZ _ hs3) (ZEZ _ (by rw[ZEJ _ _ k4.1];exact hs4)),?_⟩
   rw[ZEJ _ _ (Ne.symm hx4),ZEJ _ _ (Ne.symm hx3)];exact hx
  obtain⟨A0,e0,g3,g4,hsub0,hx0⟩:=hA 0
  obtain⟨A1,e1,g3',g4',hsub1,hx1⟩:=hA (KX l k)
  have e01:A0.upd z4 (.cells [.int .i64 (KX l k)])=A1:=by rw[e0,e1,ZET]
  have hst:(((st.or (ZEX x (.cells [Zr l]))).upd z3 (.cells [.int .i64 k])).upd z4 (.cells [.int .i64 0]))=A0.or (ZEX x (.cells [Zr l])):=by
   rw[e0]
   funext c
   by_cases c4:c=z4
   ·subst c4;rw[ZEI,Zh (ZEI _ _ _)]
   ·rw[ZEJ _ _ c4]
    by_cases c3:c=z3
    ·subst c3;rw[ZEI,Zh (by rw[ZEJ _ _ c4];exact ZEI _ _ _)]
    ·rw[ZEJ _ _ c3]
     show(match st c with|some o=>sO o|none=>_)=match ((st.upd z3 _).upd z4 _) c with|some o=>sO o|none=>_
     rw[ZEJ _ _ c4,ZEJ _ _ c3]
  rw[hst]
  clear hst hA
  refine WS hF rfl trivial [3,4] (by show([3,4]:List Nat).Nodup;decide) (WX hx0) (ZcV l hl hb x).Y (fun j hj=>rfl)
   (fun j=>if j=k then .stop .ret else .next) (fun j a=>(j≤k∧a=A0)∨(k<j∧a=A1)) (.inl ⟨Nat.zero_le _,rfl⟩) ?_ ?_ ?_ ?_ ?_ ?_
  ·intro j a hj hno hB F' ready busy hdr hbeg hend
   have hjk:j≤k:=by
    refine Nat.le_of_not_lt fun h=>?_
    have:=hno k h
    simp at this
   rcases hB with ⟨_,rfl⟩|⟨h,_⟩
   ·skip
    simp only[Eqs,reduceCtorEq,ZEG,reduceIte,ZED,ZEH,ZEE,YZ,Wc,KO,WE,List.isEmpty_nil,List.isEmpty_cons,ZuL]
    refine rg ?_
    refine rg ?_
    refine hbeg fun hdb=>?_
    refine rh ?_
    refine Zj ?_
    simp only[Eqs,reduceCtorEq,ZEG,reduceIte,ZED,ZEH,ZEE,Zh g3]
    refine cd (fun hc=>?_) (fun hc=>?_)
    ·have hc':j=k:=by simp at hc;omega
     subst hc'
     rw[if_pos rfl]at hend
     refine rh ?_
     refine Zj ?_
     simp only[Eqs,reduceCtorEq,ZEG,reduceIte,ZED,ZEH,ZEE,Zh g4,Yq]
     rw[e01]
     exact hend.ret ⟨rfl,.inr ⟨by omega,rfl⟩⟩ (fun b o hb2=>by rw[←e01,ZEJ _ _ (fun e=>by subst e;rw[hdb _ o hb2]at g4;simp at g4)];exact hdb b o hb2) (ZEB _)
    ·have hc':j≠k:=by simp at hc;omega
     rw[if_neg hc']at hend
     refine ZD (Zo ?_)
     exact hend.fin ⟨rfl,.inl ⟨by omega,rfl⟩⟩ hdb (ZEB _)
   ·omega
  ·intro q a hno hB hq
   have:=hno k (by omega)
   simp at this
  ·intro q a m hm hno hgo hB hq
   have hmk:m=k:=by
    split at hgo
    ·assumption
    ·simp at hgo
   subst hmk
   rcases hB with ⟨h,_⟩|⟨_,rfl⟩
   ·omega
   ·rw[Wu hq]
    exact hF.ret1 hq (.int .i64 (KX l m)) st (by simp only[Eqs,reduceCtorEq,ZEG,reduceIte,ZED,ZEH,ZEE,Yk,WF,g4'];rfl) (by trivial) (ZEF _) hsub1 ⟨rfl,rfl⟩
  ·intro q a m id hm hno hgo
   split at hgo<;>simp at hgo
  ·intro q a m d hm hno hgo
   split at hgo<;>simp at hgo
  ·intro m c hgo
   split at hgo<;>simp at hgo
   exact .inl hgo.symm
 ·rintro d S ⟨x,hx,hd,_⟩
  cases hd
def Jt(l:List Fld)(i:Nat):Bool:=if i=l.length then !dC (KX l i=0) else !(dC (KX l i=0)||!ZiL (l.getD i dE))||!(!dC ((l.getD i dE).kind=11) ||decide (KX l (max (Zg (fun x=>dC (x.name=(l.getD i dE).from_)) l) 0).toNat=0))
theorem Zle{st a c o f}(ha:st a=sO (.cells [.int .i64 o]))(hc:st c=sO (.cells f.cells)):ZK ZEA 161 [.ptr a 0,.ptr c 0] st (.bool (dC (o=0)||!ZiL f)) st:=by
 refine ZB (cR 161 f161) fun hwf F hret=>?_
 clear hwf
 by_cases h0:o=0
 ·subst h0
  refine rg ?_
  refine rx (nd2 @ha @hc) ?_
  refine Jc rfl (e:=.d (.bool false)) (Zj ?_)
  simp only[Eqs,reduceCtorEq,ZEG,reduceIte,ZED,ZEH,ZEE]
  exact hret rfl (by simp) (ZEF _) (ZEB _)
 ·have h1:dC (o=0)=false:=decide_eq_false h0
  rw[h1,Bool.false_or]at hret
  refine rg ?_
  refine rx (nd2 @ha (nd2 @hc (nd2 @h1 @eQ0))) ?_
  refine Zah rfl rfl rfl rfl rfl (by trivial) (by trivial) (by exact ZnQ f _) (Zj ?_)
  simp only[Eqs,reduceCtorEq,ZEG,reduceIte,ZED,ZEH,ZEE]
  exact hret rfl (by simp) (by cases ZiL f<;>exact ZEF _) (ZEB _)
theorem okF(l):W1 (Zr l)=true:=rfl
theorem ceF(l):cellsOf (Zr l)=[Zr l]:=rfl
theorem Zlf{st a c l}(hl:l.length≤1000)(hb:∀f∈l,Zf9 f){f:Fld}(ha:st a=sO (.cells [Zr l]))(hc:st c=sO (.cells f.cells))(hpos:0<l.length):
  ZK ZEA 163 [.ptr a 0,.ptr c 0] st (.bool (!dC (f.kind=11) ||decide (KX l (max (Zg (fun x=>dC (x.name=f.from_)) l) 0).toNat=0))) st:=by
 refine ZB (cR 163 f163) fun hwf F hret=>?_
 clear hwf
 have hq1:=WM (fun x=>dC (x.name=f.from_)) l
 have hq0:=Jw (fun x:Fld=>dC (x.name=f.from_)) l
 have hmsg:D.agg [.str [],Zr l]=.agg (Msg.mk [] l).cells:=rfl
 refine rg ?_
 refine rx (nd2 @ha (nd2 @hc (nd2 @eQ0 (nd2 @okF @ceF)))) ?_
 rw[hmsg]
 refine cl (Zb8 ⟨[],l⟩ f.from_) ?_
 obtain⟨q,hq⟩:∃q:Nat,max (Zg (fun x=>dC (x.name=f.from_)) l) 0=q:=⟨(max (Zg (fun x=>dC (x.name=f.from_)) l) 0).toNat,by omega⟩
 simp only[hq,Int.toNat_natCast]at hret⊢
 by_cases h0:f.kind=11
 ·have h1:dC (f.kind=11)=true:=decide_eq_true h0
  rw[h1,Bool.not_true,Bool.false_or]at hret
  refine rx (nd2 @ha (nd2 @hc (nd2 @eQ0 @h1))) ?_
  refine Zah rfl rfl rfl rfl rfl (by trivial) (by trivial) (by exact Zsu l hl hb q (by omega) _) (Zj ?_)
  simp only[Eqs,reduceCtorEq,ZEG,reduceIte,ZED,ZEH,ZEE]
  exact hret rfl (by simp) (ZEF _) (ZEB _)
 ·have h1:dC (f.kind=11)=false:=decide_eq_false h0
  rw[h1,Bool.not_false,Bool.true_or]at hret
  refine rx (nd2 @ha (nd2 @hc (nd2 @eQ0 @h1))) ?_
  refine Jc rfl (e:=.d (.int .i64 0)) (Zj ?_)
  simp only[Eqs,reduceCtorEq,ZEG,reduceIte,ZED,ZEH,ZEE]
  exact hret rfl (by simp) (ZEF _) (ZEB _)
theorem Zef{c v st}(h:VT ZEA c [] st (.bool v) st):ZK ZEA 167 [c] st (.bool (!v)) st:=by
 refine ZB (cR 167 f167) fun hwf F hret=>?_
 clear hwf
 refine rg ?_
 refine rg ?_
 refine cW (h) ?_
 exact hret rfl (by trivial) (ZEF _) (ZEB _)
structure Ck where
 d:Dfn
 at_:Int
 field:Int
 m:Msg
def Ck.cells(k:Ck)(bd bs:Nat):List D:=[.str k.d.name,Wh k.d.msgs,.str k.d.start,.map bd,.map bs,.int .i64 k.at_,.int .i64 k.field,.str k.m.name,Zr k.m.fields]
structure KV(st:St)(x bd bs:Nat)(k:Ck)(dl:List (Str×Int))(sl:List (Str×Bool)):Prop where
 x:st x=some (.cells (k.cells bd bs))
 bd:st bd=some (.map (Ki dl))
 bs:st bs=some (.map (Zdy sl))
theorem KV.mono{st A x bd bs k dl sl}(h:KV st x bd bs k dl sl)(hs:st.sub A):KV A x bd bs k dl sl:=⟨hs _ _ h.x,hs _ _ h.bd,hs _ _ h.bs⟩
def ZcT(d:D):Prop:=∃a f c,d=.iface 139 (.agg [.int .i64 a,.int .i64 f,.int .i64 c])
def Wp(ok:Bool)(st:St)(r:Res)(S:St):Prop:=S=st∧if ok then r=.ret (.tup []) else ∃d,ZcT d∧r=.panic d
theorem YA{ok st S d}(h:Wp ok st (.ret d) S):ok=true∧d=.tup []∧S=st:=by
 obtain⟨h1,h2⟩:=h
 cases ok with
 |true=>simp at h2;exact⟨rfl,h2,h1⟩
 |false=>simp at h2
theorem Yz{ok st S d}(h:Wp ok st (.panic d) S):ok=false∧ZcT d∧S=st:=by
 obtain⟨h1,h2⟩:=h
 cases ok with
 |true=>simp at h2
 |false=>simp at h2;exact⟨rfl,h2,h1⟩
theorem ZaU{ok st}(h:ok=true):Wp ok st (.ret (.tup [])) st:=by subst h;exact⟨rfl,rfl⟩
theorem Y2{ok st d}(h:ok=false)(hd:ZcT d):Wp ok st (.panic d) st:=by subst h;exact⟨rfl,d,hd,rfl⟩
def Zg5(a f c:Int):D:=.iface 139 (.agg [.int .i64 a,.int .i64 f,.int .i64 c])
theorem Zrk(a f c):ZcT (Zg5 a f c):=⟨a,f,c,rfl⟩
theorem Zfu{x bd bs}{k:Ck}{st}(hx:st x=sO (.cells (k.cells bd bs)))(fine code):Zb ZEA 206 [.ptr x 0,.bool fine,.int .i64 code] st (fun r S=>S=st∧r=if fine then .ret (.tup []) else .panic (Zg5 k.at_ k.field code)):=by
 refine Zc (cR 206 f206) fun F hF=>?_
 refine rg ?_
 refine cd (fun h=>?_) (fun h=>?_)
 ·have hf:fine=false:=by simpa using h
  refine rx (nd2 @hx @Ck.cells.eq_1) ?_
  refine ZtN rfl rfl rfl trivial ?_
  exact hF.pan st (ZEB _) ⟨rfl,by rw[hf];rfl⟩
 ·have hf:fine=true:=by simpa using h
  refine ZD ?_
  exact hF.fin (.tup []) st rfl trivial (ZEF _) (ZEB _) ⟨rfl,by rw[hf];rfl⟩
theorem ZO{x bd bs}{k:Ck}{st}(hx:st x=sO (.cells (k.cells bd bs)))(fine code):Zb ZEA 206 [.ptr x 0,.bool fine,.int .i64 code] st (Wp fine st) :=
 (Zfu hx fine code).mono fun r S ⟨h1,h2⟩=>by
  subst h1
  cases fine with
  |true=>exact⟨rfl,h2⟩
  |false=>exact⟨rfl,_,Zrk _ _ _,h2⟩
theorem Zlz(o:Option Int):Y8 (.int .i64 0) true (o.map WZ)=.tup [.int .i64 (o.getD 0),.bool o.isSome]:=by cases o<;>rfl
theorem ZmK(o:Option (Int×Int)):Y8 (.agg [.int .i64 0,.int .i64 0]) true (o.map K3)=.tup [.agg [.int .i64 (o.getD (0,0)).1,.int .i64 (o.getD (0,0)).2],.bool o.isSome]:=by cases o<;>rfl
theorem Zb9{x bd bs k dl sl st}(hst:KV st x bd bs k dl sl)(name):Zb ZEA 265 [.ptr x 0,.str name] st (Wp (Zp name dl).isSome st):=by
 refine Zc (cR 265 f265) fun F hF=>?_
 have e1:=YO (vD:=WZ) ZM name dl
 have e3:=Wb ZM name
 simp only[show KK name=D.str name from rfl]at e1 e3
 refine rh ?_
 refine Zj ?_
 simp only[Eqs,reduceCtorEq,ZEG,reduceIte,ZED,ZEH,ZEE,hst.x,hst.bd,Ck.cells,e1,e3,Zlz]
 refine rg ?_
 refine cV (ZO hst.x (Zp name dl).isSome 8) ?_ ?_
 ·rintro d S h
  obtain⟨hok,rfl,rfl⟩:=YA h
  refine gR0 ?_
  exact hF.fin (.tup []) S rfl trivial (ZEF _) (ZEB _) (ZaU hok)
 ·rintro d S h
  obtain⟨hok,hfl,rfl⟩:=Yz h
  exact hF.pan S (ZEB _) (Y2 hok hfl)
theorem Qr{x bd bs}{k:Ck}{st}(hx:st x=sO (.cells (k.cells bd bs))){n:Nat}(hn:k.field=n)(hl:n≤k.m.fields.length):ZK ZEA 242 [.ptr x 0] st (Zr (k.m.fields.take n)) st:=by
 refine ZB (cR 242 f242) fun hwf F hret=>?_
 clear hwf
 refine rg ?_
 refine rx (nd2 @hx (nd2 @Ck.cells.eq_1 (nd2 @Zr.eq_1 (nd2 @eQ1 @hn)))) ?_
 refine⟨by omega,by omega,by omega,?_⟩
 rw[ite_self]
 have hrow:ZX Fld.cells (fun i=>(k.m.fields.getD i dE).cells) (k.m.fields.take n):=ZX.self.take n
 exact hret rfl (by trivial) (QF (hrow.le (by rw[ZEU];omega))) (ZEB _)
def Yn:Int→Int→List Int→Bool
 |_,_,[]=>true
 |low,high,n::r=>dC (low≤n)&&dC (n≤high)&&Yn n high r
theorem ZeL{x bd bs}{k:Ck}{st}(hx:st x=sO (.cells (k.cells bd bs)))(low high l):Zb ZEA 252 [.ptr x 0,.int .i64 low,.int .i64 high,slD 1 inC l] st (Wp (Yn low high l) st):=by
 refine JU (cR 252 f252) fun hwf F hF=>?_
 have hw:=(WJ (hwf (slD 1 inC l) (by simp))).1
 unfold big at hw
 clear hwf
 refine rx @eQ1 ?_
 refine Zd (fr (l.length) (fun i Q=>∀lo,Yn low high l=Yn lo high (l.drop i)→i≤l.length→Q [(0,.d (.ptr x 0)),(1,.d (.int .i64 lo)),(2,.d (.int .i64 high)),(10,.d (slD 1 inC l)),(11,.d (.int .i64 l.length)),(12,.d (.int .i64 i))] [] st) (fun n ih_key=>?_) fun key=>?_)
 ·intro i hn lo hS hi
  refine rg ?_
  refine Za (Zq rfl trivial (fun h1=>?_) (fun h1=>?_))
  ·simp at h1
   rw[QM h1,Yn]at hS
   generalize hv:l.getD i dE=v at *
   refine rx (nd2 @eQ1 (nd2 @inC.eq_1 @hv)) ?_
   refine aa ?_
   refine rg ?_
   refine cV (ZO hx (dC (lo≤v)&&dC (v≤high)) 7) ?_ ?_
   ·rintro d S h
    obtain⟨hok,rfl,rfl⟩:=YA h
    rw[hok,ZE1]at hS
    refine gR0 ?_
    refine rg ?_
    refine rg ?_
    refine aa ?_
    refine Zi ?_
    exact ih_key ((l.length)-(i+1)) (by omega) (i+1) rfl v hS (by omega)
   ·rintro d S h
    obtain⟨hok,hfl,rfl⟩:=Yz h
    rw[hok,ZE8]at hS
    exact hF.pan S (ZEB _) (Y2 hS hfl)
  ·simp at h1
   obtain rfl:i=l.length:=by omega
   rw[List.drop_length,Yn]at hS
   refine ZR rfl ?_
   exact hF.fin (.tup []) st rfl trivial (ZEF _) (ZEB _) (ZaU hS)
 exact key _ 0 rfl low rfl (by omega)
def ZcE(f:Fld):Bool:=dC (1≤f.bits)&&dC (f.bits≤32)&&(!f.little ||(dC (8<f.bits)&&dC (f.bits.tmod 8=0)))
theorem Zgy{x bd bs}{k:Ck}{st}(hx:st x=sO (.cells (k.cells bd bs)))(f):Zb ZEA 251 [.ptr x 0,.agg f.cells] st (Wp (ZcE f) st):=by
 refine Zc (cR 251 f251) fun F hF=>?_
 refine rx @eQ0 ?_
 refine rx @eQ0 ?_
 have ht1:=Int.tmod_lt_of_pos f.bits (by decide:(0:Int)<8)
 have ht2:=Int.lt_tmod_of_pos f.bits (by decide:(0:Int)<8)
 refine⟨fun _=>⟨by decide,by omega,by omega⟩,?_⟩
 refine cV (ZO hx (ZcE f) 6) ?_ ?_
 ·rintro d S h
  obtain⟨hok,rfl,rfl⟩:=YA h
  refine gR0 ?_
  exact hF.fin (.tup []) S rfl trivial (ZEF _) (ZEB _) (ZaU hok)
 ·rintro d S h
  obtain⟨hok,hfl,rfl⟩:=Yz h
  exact hF.pan S (ZEB _) (Y2 hok hfl)
abbrev Qa(fs:List Fld):Zw4:=Jp fs fs.length
abbrev ivP(fs:List Fld)(s:Zbh):Int×Int×Int:=Jy s fun k=>Zp k (Qa fs)
def ZbY(fs:List Fld)(t:Yp):Bool:=(Zp t.field (Qa fs)).isSome
def ZeO(fs:List Fld)(s:Zbh):Bool:=Z1 s&&(s.terms.all (ZbY fs)&&(dC ((ivP fs s).2.2=0)&&dC (0≤(ivP fs s).1)&&dC ((ivP fs s).2.1≤1048576)))
theorem Zca{x bd bs}{k:Ck}{st}(hx:st x=sO (.cells (k.cells bd bs))){n:Nat}(hn:k.field=n)(hl:n≤k.m.fields.length)(f:Fld):
  Zb ZEA 258 [.ptr x 0,.agg f.cells] st (Wp (ZeO (k.m.fields.take n) f.size) st):=by
 refine Zc (cR 258 f258) fun F hF=>?_
 have hS:=ZeO.eq_1 (k.m.fields.take n) f.size
 generalize hfs:k.m.fields.take n=fs at *
 refine rx @eQ0 ?_
 refine rx @eQ0 ?_
 have hsz:D.agg [D.int IntKind.i64 f.size.base,YC f.size.terms]=.agg f.size.cells:=rfl
 simp only[hsz]
 refine clD (Zbe f.size) ?_
 refine cVD (ZO hx (Z1 f.size) 9) ?_ ?_
 ·rintro d S h
  obtain⟨hv,rfl,rfl⟩:=YA h
  rw[hv,ZE1]at hS
  first|refine⟨by first|trivial|exact⟨rfl,rfl,trivial⟩|exact⟨rfl,trivial⟩,?_⟩|skip
  refine gR0 ?_
  refine rg ?_
  refine tX @hfs (Qr hx hn hl) ?_
  refine cV (ZeK fs S) ?_ ?_
  ·rintro d S' ⟨b,hb,hd,rfl⟩
   cases hd
   refine gR0 ?_
   refine Za (Za ?_)
   refine xP 2 fun z2 h2=>?_
   refine xP 4 fun z4 h4=>?_
   have k2:=Zn h2
   have k4:=Zn h4
   have k4a:=Zn k4.2
   have hxb:x≠b:=fun e=>by rw[e,hb]at hx;simp at hx
   have hx2:x≠z2:=fun e=>by rw[e,k2.2]at hx;simp at hx
   have hx4:x≠z4:=fun e=>by rw[e,k4a.2]at hx;simp at hx
   obtain⟨A,hA⟩:∃A,A=((S.upd b (.map (Za4 (Jp fs fs.length)))).upd z2 (.cells [.ptr x 0])).upd z4 (.cells [.map b]):=⟨_,rfl⟩
   have gx:A x=sO (.cells (k.cells bd bs)):=by rw[hA,ZEJ _ _ hx4,ZEJ _ _ hx2,ZEJ _ _ hxb];exact hx
   have gb:A b=sO (.map (Za4 (Qa fs))):=by rw[hA,ZEJ _ _ k4a.1.symm,ZEJ _ _ k2.1.symm];exact ZEI _ _ _
   have g2:A z2=sO (.cells [.ptr x 0]):=by rw[hA,ZEJ _ _ k4.1.symm];exact ZEI _ _ _
   have g4:A z4=sO (.cells [.map b]):=by rw[hA];exact ZEI _ _ _
   have hSA:S.sub A:=by rw[hA];exact ZFf (ZEZ _ hb) (ZFf (ZEZ _ h2) (ZEZ _ h4))
   rw[←hA]
   clear hA h2 h4 k2 k4 k4a
   refine rx @eQ0 ?_
   simp only[hsz]
   have hfew:=JT hv
   refine cV (Zdm f.size hv _) ?_ ?_
   ·rintro d S' ⟨y,hy,hd,rfl⟩
    cases hd
    refine gR0 ?_
    refine Zd ?_
    refine WS hF rfl trivial [2,4] (by show([2,4]:List Nat).Nodup;decide) (WX hy) (Zcb f.size.terms (by unfold big;omega) y).Y (fun j hj=>rfl)
     (fun j=>if ZbY fs (f.size.terms.getD j dE) then .next else .pan (Zg5 k.at_ k.field 8)) (fun j a=>a=A) rfl ?_ ?_ ?_ ?_ ?_ ?_
    ·intro j a hj hno hB F' ready busy hdr hbeg hend
     subst hB
     simp only[Eqs,reduceCtorEq,ZEG,reduceIte,ZED,ZEH,ZEE,YZ,Wc,KO,WE,List.isEmpty_nil,List.isEmpty_cons]
     refine rg ?_
     refine hbeg fun hdb=>?_
     generalize htm:f.size.terms.getD j dE=tm at *
     have e1:=YO (vD:=K3) ZM tm.field (Qa fs)
     have e3:=Wb ZM tm.field
     simp only[show KK tm.field=D.str tm.field from rfl]at e1 e3
     refine rh ?_
     refine Zj ?_
     simp only[Eqs,reduceCtorEq,ZEG,reduceIte,ZED,ZEH,ZEE,Zh g4,Zh gb,e1,e3,ZmK]
     refine rh ?_
     refine Zj ?_
     simp only[Eqs,reduceCtorEq,ZEG,reduceIte,ZED,ZEH,ZEE,Zh g2]
     refine cV (Zfu (st:=a.or busy) (Zh gx) (Zp tm.field (Qa fs)).isSome 8) ?_ ?_
     ·rintro d S' ⟨rfl,h⟩
      cases hk:(Zp tm.field (Qa fs)).isSome with
      |false=>rw[hk]at h;simp at h
      |true =>
       rw[hk]at h
       simp at h
       subst h
       refine gR0 ?_
       refine Zo ?_
       exact hend.fin ⟨by rw[if_pos (show ZbY fs tm=true from hk)],rfl⟩ hdb (ZEB _)
     ·rintro d S' ⟨rfl,h⟩
      cases hk:(Zp tm.field (Qa fs)).isSome with
      |true=>rw[hk]at h;simp at h
      |false =>
       rw[hk]at h
       simp at h
       subst h
       exact hend.pan ⟨by rw[if_neg (by rw[show ZbY fs tm=false from hk];simp)],rfl⟩ hdb (ZEB _)
    ·intro q a hno hB hq
     subst hB
     have hall:f.size.terms.all (ZbY fs)=true:=by
      apply List.all_eq_true.2
      intro t ht
      obtain⟨i,hi,rfl⟩:=ZEV ht
      have:=hno i hi
      split at this
      ·rename_i h;simpa[ZES,hi]using h
      ·simp at this
     rw[hall,ZE1]at hS
     rw[Wu hq]
     refine rh ?_
     refine Zj ?_
     simp only[Eqs,reduceCtorEq,ZEG,reduceIte,ZED,ZEH,ZEE,Zh g4,Fld.cells]
     simp only[hsz]
     refine cV (ZlK f.size b (Qa fs) _ (Zh gb)) ?_ ?_
     ·rintro d S' ⟨hd,rfl⟩
      cases hd
      refine gQ @K3.eq_1 ?_
      refine rh ?_
      refine Zj ?_
      simp only[Eqs,reduceCtorEq,ZEG,reduceIte,ZED,ZEH,ZEE,Zh g2]
      refine cV (ZO (st:=a.or (ZEX q .dfr)) (Zh gx) (dC ((ivP fs f.size).2.2=0)&&dC (0≤(ivP fs f.size).1)&&dC ((ivP fs f.size).2.1≤1048576)) 9) ?_ ?_
      ·rintro d S' h
       obtain⟨hok,rfl,rfl⟩:=YA h
       rw[hok]at hS
       refine gR0 ?_
       exact hF.fin1 hq (.tup []) S rfl trivial (ZEF _) hSA (ZaU hS)
      ·rintro d S' h
       obtain⟨hok,hfl,rfl⟩:=Yz h
       rw[hok]at hS
       exact hF.pan1 hq S hSA (Y2 hS hfl)
     ·rintro d S' ⟨hd,_⟩
      cases hd
    ·intro q a m hm hno hgo
     split at hgo<;>simp at hgo
    ·intro q a m id hm hno hgo
     split at hgo<;>simp at hgo
    ·intro q a m d hm hno hgo hB hq
     subst hB
     rw[Wu hq]
     have hbad:ZbY fs (f.size.terms.getD m dE)=false:=by
      split at hgo
      ·simp at hgo
      ·rename_i h;simpa using h
     have hall:f.size.terms.all (ZbY fs)=false:=by
      apply List.all_eq_false.2
      exact⟨_,ZA hm,by rw[hbad];simp⟩
     rw[hall,ZE8]at hS
     split at hgo
     ·simp at hgo
     ·simp at hgo
      subst hgo
      exact hF.pan1 hq S hSA (Y2 hS (Zrk _ _ _))
    ·intro m c hgo
     split at hgo<;>simp at hgo
   ·rintro d S' ⟨y,hy,hd,_⟩
    cases hd
  ·rintro d S' ⟨b,hb,hd,_⟩
   cases hd
 ·rintro d S h
  obtain⟨hv,hfl,rfl⟩:=Yz h
  rw[hv,ZE8]at hS
  exact hF.pan S (ZEB _) (Y2 hS hfl)
def ZbR(dl:List (Str×Int))(high:Int):Int→List YX→Bool
 |_,[]=>true
 |low,c::r=>Yn low high [c.low,c.high]&&((Zp c.of dl).isSome&&ZbR dl high (c.high+1) r)
def ZeW(fs:List Fld)(f:Fld):Bool:=fs.any fun o=>dC (o.kind=9)&&dC (o.tag=f.tag)
def Zig(fs:List Fld)(dl:List (Str×Int))(f:Fld):Bool :=
 ((Zp f.tag (Qa fs)).isSome&&!ZeW fs f)&&((dC (1≤(f.cases.length:Int))&&dC ((f.cases.length:Int)≤40))&&ZbR dl ((Zp f.tag (Qa fs)).getD (0,0)).2 ((Zp f.tag (Qa fs)).getD (0,0)).1 f.cases)
theorem Zkl(o:Fld)(f:Fld)(y st)(hy:st y=sO (.cells f.cells)):ZK ZEA 283 [.agg o.cells,.ptr y 0] st (.bool (dC (o.kind=9)&&dC (o.tag=f.tag))) st:=by
 refine ZB (cR 283 f283) fun hwf F hret=>?_
 clear hwf
 refine rx @eQ0 ?_
 refine rx (nd2 @hy @eQ0) ?_
 exact hret rfl (by trivial) (ZEF _) (ZEB _)
theorem Zw0(a b):ZX inC (Z7 [.int .i64 0] ([0,1].zip [.int .i64 a,.int .i64 b])) [a,b]:=fun i hi=>by
 match i,hi with
 |0,_=>rfl
 |1,_=>rfl
theorem Zcy{x bd bs}{k:Ck}{st}(hx:st x=sO (.cells (k.cells bd bs)))(low high a b):Zb ZEA 252 [.ptr x 0,.int .i64 low,.int .i64 high,.sl .full 2 1 (Z7 [.int .i64 0] ([0,1].zip [.int .i64 a,.int .i64 b]))] st (Wp (Yn low high [a,b]) st) :=
 Zb.leA (.cons (ZEF _) (.cons (ZEF _) (.cons (ZEF _) (LeC.one ((Zw0 a b).le rfl))))) (ZeL hx low high [a,b])
theorem Qi{x bd bs}{k:Ck}{st}(hx:st x=sO (.cells (k.cells bd bs)))(low high a):Zb ZEA 252 [.ptr x 0,.int .i64 low,.int .i64 high,.sl .full 1 1 (Z7 [.int .i64 0] ([0].zip [.int .i64 a]))] st (Wp (Yn low high [a]) st) :=
 Zb.leA (.cons (ZEF _) (.cons (ZEF _) (.cons (ZEF _) (LeC.one ((ZX.one (f:=inC) (x:=a) rfl).le rfl))))) (ZeL hx low high [a])
theorem Znb{x bd bs k dl sl st}(hst:KV st x bd bs k dl sl){n:Nat}(hn:k.field=n)(hl:n≤k.m.fields.length)(f)(hR:((Zp f.tag (Qa (k.m.fields.take n))).getD (0,0)).2<4611686018427387904):
  Zb ZEA 269 [.ptr x 0,.agg f.cells] st (Wp (Zig (k.m.fields.take n) dl f) st):=by
 refine JU (cR 269 f269) fun hwf F hF=>?_
 have hcw:=(Zz2 (s:=f) (hwf _ (by simp))).cases
 clear hwf
 have hx:=hst.x
 have hS:=Zig.eq_1 (k.m.fields.take n) dl f
 generalize hfs:k.m.fields.take n=fs at *
 have e1:=YO (vD:=K3) ZM f.tag (Qa fs)
 have e3:=Wb ZM f.tag
 simp only[show KK f.tag=D.str f.tag from rfl]at e1 e3
 refine rx @eQ0 ?_
 refine rx @eQ0 ?_
 refine tXD @hfs (Qr hx hn hl) ?_
 refine cVD (ZeK fs st) ?_ ?_
 ·rintro d S ⟨b,hb,hd,rfl⟩
  cases hd
  first|refine⟨by first|trivial|exact⟨rfl,rfl,trivial⟩|exact⟨rfl,trivial⟩,?_⟩|skip
  have hxb:x≠b:=fun e=>by rw[e,hb]at hx;simp at hx
  generalize hr:(Zp f.tag (Qa fs)).getD (0,0)=r at *
  refine Yx ?_
  simp only[Eqs,reduceCtorEq,ZEG,reduceIte,ZED,ZEH,ZEE,e1,e3,ZmK,hr,ZEI,ZET,Yl,Ym]
  refine Za ?_
  refine xP 3 fun y hy=>?_
  obtain⟨A,hA⟩:∃A,A=((st.upd b (.map (Za4 (Jp fs fs.length)))).upd y (.cells f.cells)):=⟨_,rfl⟩
  have hSA:st.sub A:=by rw[hA];exact ZFf (ZEZ _ hb) (ZEZ _ hy)
  have gy:A y=sO (.cells f.cells):=by rw[hA];exact ZEI _ _ _
  have hsA:=hst.mono hSA
  have hfc:[D.str f.name,D.int IntKind.i64 f.kind,D.int IntKind.i64 f.bits,D.bool f.little,D.bool f.loose,D.int IntKind.i64 f.low,D.int IntKind.i64 f.high,D.int IntKind.i64 f.size.base,YC f.size.terms,D.str f.of,D.str f.tag,D.str f.from_,KC f.cases,D.int IntKind.i64 f.check,D.int IntKind.i64 f.key]=f.cells:=rfl
  rw[hfc,←hA]
  clear hA hy
  refine rg ?_
  refine tX @hfs (Qr hsA.x hn hl) ?_
  refine ct (ZcA fs (.fn (.func 283) [] [.ptr y 0]) (fun o=>dC (o.kind=9)&&dC (o.tag=f.tag)) (fun _=>A) (fun i hi=>(Zkl _ f y A gy).VT (first:=[]) (args:=[_]) (caps:=[_]))) ?_
  rw[show(fs.any fun o=>dC (o.kind=9)&&dC (o.tag=f.tag))=ZeW fs f from rfl]
  refine rg ?_
  refine cV (ZO hsA.x ((Zp f.tag (Qa fs)).isSome&&!ZeW fs f) 8) ?_ ?_
  ·rintro d S h
   obtain⟨hok,rfl,rfl⟩:=YA h
   rw[hok,ZE1]at hS
   refine gR0 ?_
   refine rx (nd2 @gy (nd2 @eQ0 (nd2 @KC.eq_1 @eQ1))) ?_
   refine cV (ZO hsA.x (dC (1≤(f.cases.length:Int))&&dC ((f.cases.length:Int)≤40)) 3) ?_ ?_
   ·rintro d S2 h
    obtain⟨hok,rfl,rfl⟩:=YA h
    rw[hok,ZE1]at hS
    simp only[ZEK,decide_eq_true_eq]at hok
    refine gR0 ?_
    refine rg ?_
    refine rx (nd2 @gy (nd2 @eQ0 (nd2 @KC.eq_1 @eQ1))) ?_
    refine Zd (fr (f.cases.length) (fun i Q=>∀lo,ZbR dl r.2 r.1 f.cases=ZbR dl r.2 lo (f.cases.drop i)→i≤f.cases.length→Q [(0,.d (.ptr x 0)),(4,.loc 4 0),(7,.d (.int .i64 lo)),(45,.d (KC f.cases)),(46,.d (.int .i64 f.cases.length)),(47,.d (.int .i64 i))] [(4,[.int .i64 r.1,.int .i64 r.2])] S2) (fun n ih_key=>?_) fun key=>?_)
    ·intro i hni lo hL hi
     refine rg ?_
     refine Za (Zq rfl trivial (fun h1=>?_) (fun h1=>?_))
     ·simp at h1
      rw[QM h1,ZbR]at hL
      have hcb:-9223372036854775808≤(f.cases.getD i dE).high∧(f.cases.getD i dE).high≤9223372036854775807:=(hcw _ (ZA h1)).high
      generalize hc:f.cases.getD i dE=c at *
      refine rx (nd2 @KC.eq_1 (nd2 @eQ1 (nd2 @YX.cells.eq_1 @hc))) ?_
      refine aa ?_
      refine rx @YX.cells.eq_1 ?_
      refine cV (Zcy hsA.x lo r.2 c.low c.high) ?_ ?_
      ·rintro d S3 h
       obtain⟨hok2,rfl,rfl⟩:=YA h
       rw[hok2,ZE1]at hL
       simp only[Yn,Bool.and_true,ZEK,decide_eq_true_eq]at hok2
       refine gR0 ?_
       refine rx @YX.cells.eq_1 ?_
       refine cV (Zb9 hsA c.of) ?_ ?_
       ·rintro d S4 h
        obtain⟨hok3,rfl,rfl⟩:=YA h
        rw[hok3,ZE1]at hL
        refine gR0 ?_
        refine rx @YX.cells.eq_1 ?_
        refine aa ?_
        refine rg ?_
        refine aa ?_
        refine Zi ?_
        exact ih_key ((f.cases.length)-(i+1)) (by omega) (i+1) rfl (c.high+1) hL (by omega)
       ·rintro d S4 h
        obtain⟨hok3,hfl,rfl⟩:=Yz h
        rw[hok3,ZE8]at hL
        exact hF.pan st hSA (Y2 (hS.trans hL) hfl)
      ·rintro d S3 h
       obtain⟨hok2,hfl,rfl⟩:=Yz h
       rw[hok2,ZE8]at hL
       exact hF.pan st hSA (Y2 (hS.trans hL) hfl)
     ·simp at h1
      obtain rfl:i=f.cases.length:=by omega
      rw[List.drop_length,ZbR]at hL
      refine ZR rfl ?_
      exact hF.fin (.tup []) st rfl trivial (ZEF _) hSA (ZaU (hS.trans hL))
    exact key _ 0 rfl r.1 rfl (by omega)
   ·rintro d S2 h
    obtain⟨hok,hfl,rfl⟩:=Yz h
    rw[hok,ZE8]at hS
    exact hF.pan st hSA (Y2 hS hfl)
  ·rintro d S h
   obtain⟨hok,hfl,rfl⟩:=Yz h
   rw[hok,ZE8]at hS
   exact hF.pan st hSA (Y2 hS hfl)
 ·rintro d S ⟨b,hb,hd,_⟩
  cases hd
def ZqW(f:Fld):Fld:={ f with bits:=0,little:=false,low:=0,high:=0 }
theorem Zkn(f y s)(hy:s y=sO (.cells f.cells)):ZK ZEA 249 [.ptr y 0] s (.tup []) (s.upd y (.cells (ZqW f).cells)):=by
 refine Zc (cR 249 f249) fun F hF=>?_
 refine rx (nd2 @hy (nd2 @eQ0 (nd2 @ZEI (nd2 @ZET (nd2 @Yl @Ym))))) ?_
 exact hF.fin (.tup []) _ rfl trivial (ZEF _) (ZEB _) ⟨rfl,rfl⟩
def ZqX(f:Fld):Fld:={ f with bits:=0,little:=false,low:=0 }
theorem Zkp(f y s)(hy:s y=sO (.cells f.cells)):ZK ZEA 253 [.ptr y 0] s (.tup []) (s.upd y (.cells (ZqX f).cells)):=by
 refine Zc (cR 253 f253) fun F hF=>?_
 refine rx (nd2 @hy (nd2 @eQ0 (nd2 @ZEI (nd2 @ZET (nd2 @Yl @Ym))))) ?_
 exact hF.fin (.tup []) _ rfl trivial (ZEF _) (ZEB _) ⟨rfl,rfl⟩
def ZqY(f:Fld):Fld:={ f with loose:=false,low:=0,high:=0 }
theorem Zkr(f y s)(hy:s y=sO (.cells f.cells)):ZK ZEA 255 [.ptr y 0] s (.tup []) (s.upd y (.cells (ZqY f).cells)):=by
 refine Zc (cR 255 f255) fun F hF=>?_
 refine rx (nd2 @hy (nd2 @eQ0 (nd2 @ZEI (nd2 @ZET (nd2 @Yl @Ym))))) ?_
 exact hF.fin (.tup []) _ rfl trivial (ZEF _) (ZEB _) ⟨rfl,rfl⟩
def Zmc(f:Fld):Fld:={ f with size:=⟨0,[]⟩ }
theorem Zkt(f y s)(hy:s y=sO (.cells f.cells)):ZK ZEA 257 [.ptr y 0] s (.tup []) (s.upd y (.cells (Zmc f).cells)):=by
 refine Zc (cR 257 f257) fun F hF=>?_
 refine rx (nd2 @hy (nd2 @eQ0 (nd2 @ZEI (nd2 @ZET (nd2 @Yl @Ym))))) ?_
 refine QZ (ds':=(Zmc f).cells) (ZEI _ _ _) (.cons (ZEF _) (.cons (ZEF _) (.cons (ZEF _) (.cons (ZEF _) (.cons (ZEF _) (.cons (ZEF _) (.cons (ZEF _) (.cons (ZEF _) (.cons (Kl (by simp)) (.cons (ZEF _) (.cons (ZEF _) (.cons (ZEF _) (.cons (ZEF _) (.cons (ZEF _) (.cons (ZEF _) (.nil)))))))))))))))) ?_
 rw[ZET]
 exact hF.fin (.tup []) _ rfl trivial (ZEF _) (ZEB _) ⟨rfl,rfl⟩
def ZqZ(f:Fld):Fld:={ f with low:=0,high:=0 }
theorem Zku(f y s)(hy:s y=sO (.cells f.cells)):ZK ZEA 259 [.ptr y 0] s (.tup []) (s.upd y (.cells (ZqZ f).cells)):=by
 refine Zc (cR 259 f259) fun F hF=>?_
 refine rx (nd2 @hy (nd2 @eQ0 (nd2 @ZEI (nd2 @ZET (nd2 @Yl @Ym))))) ?_
 exact hF.fin (.tup []) _ rfl trivial (ZEF _) (ZEB _) ⟨rfl,rfl⟩
def Zq0(f:Fld):Fld:={ f with loose:=false,high:=0 }
theorem Zi6(f y s)(hy:s y=sO (.cells f.cells)):ZK ZEA 261 [.ptr y 0] s (.tup []) (s.upd y (.cells (Zq0 f).cells)):=by
 refine Zc (cR 261 f261) fun F hF=>?_
 refine rx (nd2 @hy (nd2 @eQ0 (nd2 @ZEI (nd2 @ZET (nd2 @Yl @Ym))))) ?_
 exact hF.fin (.tup []) _ rfl trivial (ZEF _) (ZEB _) ⟨rfl,rfl⟩
def Zmd(f:Fld):Fld:={ f with of:=[],size:=⟨0,[]⟩ }
theorem Zi8(f y s)(hy:s y=sO (.cells f.cells)):ZK ZEA 263 [.ptr y 0] s (.tup []) (s.upd y (.cells (Zmd f).cells)):=by
 refine Zc (cR 263 f263) fun F hF=>?_
 refine rx (nd2 @hy (nd2 @eQ0 (nd2 @ZEI (nd2 @ZET (nd2 @Yl @Ym))))) ?_
 refine QZ (ds':=(Zmd f).cells) (ZEI _ _ _) (.cons (ZEF _) (.cons (ZEF _) (.cons (ZEF _) (.cons (ZEF _) (.cons (ZEF _) (.cons (ZEF _) (.cons (ZEF _) (.cons (ZEF _) (.cons (Kl (by simp)) (.cons (ZEF _) (.cons (ZEF _) (.cons (ZEF _) (.cons (ZEF _) (.cons (ZEF _) (.cons (ZEF _) (.nil)))))))))))))))) ?_
 rw[ZET]
 exact hF.fin (.tup []) _ rfl trivial (ZEF _) (ZEB _) ⟨rfl,rfl⟩
def Zq1(f:Fld):Fld:={ f with of:=[] }
theorem Zja(f y s)(hy:s y=sO (.cells f.cells)):ZK ZEA 266 [.ptr y 0] s (.tup []) (s.upd y (.cells (Zq1 f).cells)):=by
 refine Zc (cR 266 f266) fun F hF=>?_
 refine rx (nd2 @hy (nd2 @eQ0 (nd2 @ZEI (nd2 @ZET (nd2 @Yl @Ym))))) ?_
 exact hF.fin (.tup []) _ rfl trivial (ZEF _) (ZEB _) ⟨rfl,rfl⟩
def Zme(f:Fld):Fld:={ f with tag:=[],cases:=[] }
theorem Zjc(f y s)(hy:s y=sO (.cells f.cells)):ZK ZEA 268 [.ptr y 0] s (.tup []) (s.upd y (.cells (Zme f).cells)):=by
 refine Zc (cR 268 f268) fun F hF=>?_
 refine rx (nd2 @hy (nd2 @eQ0 (nd2 @ZEI (nd2 @ZET (nd2 @Yl @Ym))))) ?_
 refine QZ (ds':=(Zme f).cells) (ZEI _ _ _) (.cons (ZEF _) (.cons (ZEF _) (.cons (ZEF _) (.cons (ZEF _) (.cons (ZEF _) (.cons (ZEF _) (.cons (ZEF _) (.cons (ZEF _) (.cons (ZEF _) (.cons (ZEF _) (.cons (ZEF _) (.cons (ZEF _) (.cons (Kl (by simp)) (.cons (ZEF _) (.cons (ZEF _) (.nil)))))))))))))))) ?_
 rw[ZET]
 exact hF.fin (.tup []) _ rfl trivial (ZEF _) (ZEB _) ⟨rfl,rfl⟩
def ZnX(f:Fld):Fld:={ f with bits:=0 }
theorem Zjd(f y s)(hy:s y=sO (.cells f.cells)):ZK ZEA 270 [.ptr y 0] s (.tup []) (s.upd y (.cells (ZnX f).cells)):=by
 refine Zc (cR 270 f270) fun F hF=>?_
 refine rx (nd2 @hy (nd2 @eQ0 (nd2 @ZEI (nd2 @ZET (nd2 @Yl @Ym))))) ?_
 exact hF.fin (.tup []) _ rfl trivial (ZEF _) (ZEB _) ⟨rfl,rfl⟩
def ZnY(f:Fld):Fld:={ f with from_:=[],check:=0 }
theorem Zjf(f y s)(hy:s y=sO (.cells f.cells)):ZK ZEA 272 [.ptr y 0] s (.tup []) (s.upd y (.cells (ZnY f).cells)):=by
 refine Zc (cR 272 f272) fun F hF=>?_
 refine rx (nd2 @hy (nd2 @eQ0 (nd2 @ZEI (nd2 @ZET (nd2 @Yl @Ym))))) ?_
 exact hF.fin (.tup []) _ rfl trivial (ZEF _) (ZEB _) ⟨rfl,rfl⟩
def ZjR(f:Fld):Fld:={ f with of:=[],size:=⟨0,[]⟩,key:=0 }
theorem Zjh(f y s)(hy:s y=sO (.cells f.cells)):ZK ZEA 274 [.ptr y 0] s (.tup []) (s.upd y (.cells (ZjR f).cells)):=by
 refine Zc (cR 274 f274) fun F hF=>?_
 refine rx (nd2 @hy (nd2 @eQ0 (nd2 @ZEI (nd2 @ZET (nd2 @Yl @Ym))))) ?_
 refine QZ (ds':=(ZjR f).cells) (ZEI _ _ _) (.cons (ZEF _) (.cons (ZEF _) (.cons (ZEF _) (.cons (ZEF _) (.cons (ZEF _) (.cons (ZEF _) (.cons (ZEF _) (.cons (ZEF _) (.cons (Kl (by simp)) (.cons (ZEF _) (.cons (ZEF _) (.cons (ZEF _) (.cons (ZEF _) (.cons (ZEF _) (.cons (ZEF _) (.nil)))))))))))))))) ?_
 rw[ZET]
 exact hF.fin (.tup []) _ rfl trivial (ZEF _) (ZEB _) ⟨rfl,rfl⟩
def ck1(f:Fld):Bool:=ZcE f&&Yn 0 (2 ^ f.bits.toNat-1) [f.low,f.high]
def ck2(f:Fld):Bool:=ZcE f&&Yn 0 (2 ^ f.bits.toNat-1) [f.low]
def ck3(f:Fld):Bool:=Yn 0 34359738367 [f.low,f.high]
def ck5(f:Fld):Bool:=Yn 0 255 [f.low]&&Yn 0 1048576 [f.high]
def ck6(f:Fld):Bool:=Yn 2 1048576 [f.high]
def ck7(fs:List Fld)(dl:List (Str×Int))(f:Fld):Bool:=(Zp f.of dl).isSome&&ZeO fs f.size
def ck8(dl:List (Str×Int))(f:Fld):Bool:=(Zp f.of dl).isSome
def Zt7(f:Fld):Bool:=dC (f.bits=2) ||decide (f.bits=4) ||(dC (8≤f.bits)&&dC (f.bits≤512)&&dC (f.bits.tmod 8=0))
def Zt8(fs:List Fld)(f:Fld):Bool:=Yn 1 3 [f.check]&&dC (0≤Zg (fun x=>dC (x.name=f.from_)) fs)
def Zt9(fs:List Fld)(sl:List (Str×Bool))(f:Fld):Bool:=Yn 0 4294967295 [f.key]&&((Zp f.of sl).getD false&&ZeO fs f.size)
theorem ZcY(f:Fld):D.agg [D.str f.name,D.int IntKind.i64 f.kind,D.int IntKind.i64 f.bits,D.bool f.little,D.bool f.loose,D.int IntKind.i64 f.low,D.int IntKind.i64 f.high,D.int IntKind.i64 f.size.base,YC f.size.terms,D.str f.of,D.str f.tag,D.str f.from_,KC f.cases,D.int IntKind.i64 f.check,D.int IntKind.i64 f.key]=.agg f.cells:=rfl
theorem Zko{x bd bs k dl sl st}(hst:KV st x bd bs k dl sl){n:Nat}(hn:k.field=n)(hl:n≤k.m.fields.length)(f):
  Zb ZEA 250 [.ptr x 0,.agg f.cells] st (Wp (ck1 f) st):=by
 refine Zc (cR 250 f250) fun F hF=>?_
 have hS:=ck1.eq_1 f
 refine rx @eQ0 ?_
 refine rx @eQ0 ?_
 simp only[ZcY]
 refine cV (Zgy hst.x f) ?_ ?_
 ·rintro d S h
  obtain⟨hok,rfl,rfl⟩:=YA h
  rw[hok,ZE1]at hS
  first|refine⟨by first|trivial|exact⟨rfl,trivial⟩,?_⟩|skip
  refine gR0 ?_
  have hb1:1≤f.bits∧f.bits≤32:=by
   unfold ZcE at hok
   simp only[ZEK,decide_eq_true_eq]at hok
   exact hok.1
  have hsh:=ZAE (b:=f.bits) (by omega) (by omega)
  have h2p:=ZfE (b:=f.bits) (by omega) (by omega)
  refine rx @eQ0 ?_
  rw[hsh]
  generalize hpw:(2:Int) ^ f.bits.toNat=pw at *
  refine⟨by omega,by omega,by omega,by omega,by omega,?_⟩
  refine cV0 (Zcy hst.x 0 (pw-1) f.low f.high) ?_ ?_
  ·rintro d S h
   obtain⟨hok,rfl,rfl⟩:=YA h
   rw[hok]at hS
   refine gR0 ?_
   exact hF.fin (.tup []) _ rfl trivial (ZEF _) (ZEB _) (ZaU hS)
  ·rintro d S h
   obtain⟨hok,hfl,rfl⟩:=Yz h
   rw[hok]at hS
   exact hF.pan _ (ZEB _) (Y2 hS hfl)
 ·rintro d S h
  obtain⟨hok,hfl,rfl⟩:=Yz h
  rw[hok,ZE8]at hS
  exact hF.pan _ (ZEB _) (Y2 hS hfl)
theorem Zkq{x bd bs k dl sl st}(hst:KV st x bd bs k dl sl){n:Nat}(hn:k.field=n)(hl:n≤k.m.fields.length)(f):
  Zb ZEA 254 [.ptr x 0,.agg f.cells] st (Wp (ck2 f) st):=by
 refine Zc (cR 254 f254) fun F hF=>?_
 have hS:=ck2.eq_1 f
 refine rx @eQ0 ?_
 refine rx @eQ0 ?_
 simp only[ZcY]
 refine cV (Zgy hst.x f) ?_ ?_
 ·rintro d S h
  obtain⟨hok,rfl,rfl⟩:=YA h
  rw[hok,ZE1]at hS
  first|refine⟨by first|trivial|exact⟨rfl,trivial⟩,?_⟩|skip
  refine gR0 ?_
  have hb1:1≤f.bits∧f.bits≤32:=by
   unfold ZcE at hok
   simp only[ZEK,decide_eq_true_eq]at hok
   exact hok.1
  have hsh:=ZAE (b:=f.bits) (by omega) (by omega)
  have h2p:=ZfE (b:=f.bits) (by omega) (by omega)
  refine rx @eQ0 ?_
  rw[hsh]
  generalize hpw:(2:Int) ^ f.bits.toNat=pw at *
  refine⟨by omega,by omega,by omega,by omega,by omega,?_⟩
  refine cV0 (Qi hst.x 0 (pw-1) f.low) ?_ ?_
  ·rintro d S h
   obtain⟨hok,rfl,rfl⟩:=YA h
   rw[hok]at hS
   refine gR0 ?_
   exact hF.fin (.tup []) _ rfl trivial (ZEF _) (ZEB _) (ZaU hS)
  ·rintro d S h
   obtain⟨hok,hfl,rfl⟩:=Yz h
   rw[hok]at hS
   exact hF.pan _ (ZEB _) (Y2 hS hfl)
 ·rintro d S h
  obtain⟨hok,hfl,rfl⟩:=Yz h
  rw[hok,ZE8]at hS
  exact hF.pan _ (ZEB _) (Y2 hS hfl)
theorem Zks{x bd bs k dl sl st}(hst:KV st x bd bs k dl sl){n:Nat}(hn:k.field=n)(hl:n≤k.m.fields.length)(f):
  Zb ZEA 256 [.ptr x 0,.agg f.cells] st (Wp (ck3 f) st):=by
 refine Zc (cR 256 f256) fun F hF=>?_
 have hS:=ck3.eq_1 f
 refine rx @eQ0 ?_
 refine rx @eQ0 ?_
 refine cV (Zcy hst.x 0 34359738367 f.low f.high) ?_ ?_
 ·rintro d S h
  obtain⟨hok,rfl,rfl⟩:=YA h
  rw[hok]at hS
  refine gR0 ?_
  exact hF.fin (.tup []) _ rfl trivial (ZEF _) (ZEB _) (ZaU hS)
 ·rintro d S h
  obtain⟨hok,hfl,rfl⟩:=Yz h
  rw[hok]at hS
  exact hF.pan _ (ZEB _) (Y2 hS hfl)
theorem Zkv{x bd bs k dl sl st}(hst:KV st x bd bs k dl sl){n:Nat}(hn:k.field=n)(hl:n≤k.m.fields.length)(f):
  Zb ZEA 260 [.ptr x 0,.agg f.cells] st (Wp (ck5 f) st):=by
 refine Zc (cR 260 f260) fun F hF=>?_
 have hS:=ck5.eq_1 f
 refine rx @eQ0 ?_
 refine rx @eQ0 ?_
 refine cV (Qi hst.x 0 255 f.low) ?_ ?_
 ·rintro d S h
  obtain⟨hok,rfl,rfl⟩:=YA h
  rw[hok,ZE1]at hS
  first|refine⟨by first|trivial|exact⟨rfl,trivial⟩,?_⟩|skip
  refine gR0 ?_
  refine rx @eQ0 ?_
  refine cV (Qi hst.x 0 1048576 f.high) ?_ ?_
  ·rintro d S h
   obtain⟨hok,rfl,rfl⟩:=YA h
   rw[hok]at hS
   refine gR0 ?_
   exact hF.fin (.tup []) _ rfl trivial (ZEF _) (ZEB _) (ZaU hS)
  ·rintro d S h
   obtain⟨hok,hfl,rfl⟩:=Yz h
   rw[hok]at hS
   exact hF.pan _ (ZEB _) (Y2 hS hfl)
 ·rintro d S h
  obtain⟨hok,hfl,rfl⟩:=Yz h
  rw[hok,ZE8]at hS
  exact hF.pan _ (ZEB _) (Y2 hS hfl)
theorem Zi7{x bd bs k dl sl st}(hst:KV st x bd bs k dl sl){n:Nat}(hn:k.field=n)(hl:n≤k.m.fields.length)(f):
  Zb ZEA 262 [.ptr x 0,.agg f.cells] st (Wp (ck6 f) st):=by
 refine Zc (cR 262 f262) fun F hF=>?_
 have hS:=ck6.eq_1 f
 refine rx @eQ0 ?_
 refine rx @eQ0 ?_
 refine cV (Qi hst.x 2 1048576 f.high) ?_ ?_
 ·rintro d S h
  obtain⟨hok,rfl,rfl⟩:=YA h
  rw[hok]at hS
  refine gR0 ?_
  exact hF.fin (.tup []) _ rfl trivial (ZEF _) (ZEB _) (ZaU hS)
 ·rintro d S h
  obtain⟨hok,hfl,rfl⟩:=Yz h
  rw[hok]at hS
  exact hF.pan _ (ZEB _) (Y2 hS hfl)
theorem Zi9{x bd bs k dl sl st}(hst:KV st x bd bs k dl sl){n:Nat}(hn:k.field=n)(hl:n≤k.m.fields.length)(f):
  Zb ZEA 264 [.ptr x 0,.agg f.cells] st (Wp (ck7 (k.m.fields.take n) dl f) st):=by
 refine Zc (cR 264 f264) fun F hF=>?_
 have hS:=ck7.eq_1 (k.m.fields.take n) dl f
 refine rx @eQ0 ?_
 refine rx @eQ0 ?_
 refine cV (Zb9 hst f.of) ?_ ?_
 ·rintro d S h
  obtain⟨hok,rfl,rfl⟩:=YA h
  rw[hok,ZE1]at hS
  first|refine⟨by first|trivial|exact⟨rfl,trivial⟩,?_⟩|skip
  refine gR0 ?_
  refine rx @eQ0 ?_
  simp only[ZcY]
  refine cV (Zca hst.x hn hl f) ?_ ?_
  ·rintro d S h
   obtain⟨hok,rfl,rfl⟩:=YA h
   rw[hok]at hS
   refine gR0 ?_
   exact hF.fin (.tup []) _ rfl trivial (ZEF _) (ZEB _) (ZaU hS)
  ·rintro d S h
   obtain⟨hok,hfl,rfl⟩:=Yz h
   rw[hok]at hS
   exact hF.pan _ (ZEB _) (Y2 hS hfl)
 ·rintro d S h
  obtain⟨hok,hfl,rfl⟩:=Yz h
  rw[hok,ZE8]at hS
  exact hF.pan _ (ZEB _) (Y2 hS hfl)
theorem Zjb{x bd bs k dl sl st}(hst:KV st x bd bs k dl sl){n:Nat}(hn:k.field=n)(hl:n≤k.m.fields.length)(f):
  Zb ZEA 267 [.ptr x 0,.agg f.cells] st (Wp (ck8 dl f) st):=by
 refine Zc (cR 267 f267) fun F hF=>?_
 have hS:=ck8.eq_1 dl f
 refine rx @eQ0 ?_
 refine rx @eQ0 ?_
 refine cV (Zb9 hst f.of) ?_ ?_
 ·rintro d S h
  obtain⟨hok,rfl,rfl⟩:=YA h
  rw[hok]at hS
  refine gR0 ?_
  exact hF.fin (.tup []) _ rfl trivial (ZEF _) (ZEB _) (ZaU hS)
 ·rintro d S h
  obtain⟨hok,hfl,rfl⟩:=Yz h
  rw[hok]at hS
  exact hF.pan _ (ZEB _) (Y2 hS hfl)
theorem Zje{x bd bs k dl sl st}(hst:KV st x bd bs k dl sl){n:Nat}(hn:k.field=n)(hl:n≤k.m.fields.length)(f):
  Zb ZEA 271 [.ptr x 0,.agg f.cells] st (Wp (Zt7 f) st):=by
 refine Zc (cR 271 f271) fun F hF=>?_
 have hS:=Zt7.eq_1 f
 refine rx @eQ0 ?_
 refine rx @eQ0 ?_
 have ht1:=Int.tmod_lt_of_pos f.bits (by decide:(0:Int)<8)
 have ht2:=Int.lt_tmod_of_pos f.bits (by decide:(0:Int)<8)
 refine⟨fun _=>⟨by decide,by omega,by omega⟩,?_⟩
 refine cV (ZO hst.x (dC (f.bits=2) ||decide (f.bits=4) ||decide (8≤f.bits)&&dC (f.bits≤512)&&dC (f.bits.tmod 8=0)) 6) ?_ ?_
 ·rintro d S h
  obtain⟨hok,rfl,rfl⟩:=YA h
  rw[hok]at hS
  refine gR0 ?_
  exact hF.fin (.tup []) _ rfl trivial (ZEF _) (ZEB _) (ZaU hS)
 ·rintro d S h
  obtain⟨hok,hfl,rfl⟩:=Yz h
  rw[hok]at hS
  exact hF.pan _ (ZEB _) (Y2 hS hfl)
theorem Zjg{x bd bs k dl sl st}(hst:KV st x bd bs k dl sl){n:Nat}(hn:k.field=n)(hl:n≤k.m.fields.length)(f):
  Zb ZEA 273 [.ptr x 0,.agg f.cells] st (Wp (Zt8 (k.m.fields.take n) f) st):=by
 refine Zc (cR 273 f273) fun F hF=>?_
 have hS:=Zt8.eq_1 (k.m.fields.take n) f
 refine rx @eQ0 ?_
 refine rx @eQ0 ?_
 refine cV (Qi hst.x 1 3 f.check) ?_ ?_
 ·rintro d S h
  obtain⟨hok,rfl,rfl⟩:=YA h
  rw[hok,ZE1]at hS
  first|refine⟨by first|trivial|exact⟨rfl,trivial⟩,?_⟩|skip
  refine gR0 ?_
  refine rx @eQ0 ?_
  refine tXD (nd2 @Zr.eq_1 @eQ1) (Qr hst.x hn hl) ?_
  refine clD ((Zb8 ⟨[],k.m.fields.take n⟩ f.from_)) ?_
  refine rg ?_
  refine cV (ZO hst.x (dC (0≤Zg (fun x=>dC (x.name=f.from_)) (k.m.fields.take n))) 8) ?_ ?_
  ·rintro d S h
   obtain⟨hok,rfl,rfl⟩:=YA h
   rw[hok]at hS
   refine gR0 ?_
   exact hF.fin (.tup []) _ rfl trivial (ZEF _) (ZEB _) (ZaU hS)
  ·rintro d S h
   obtain⟨hok,hfl,rfl⟩:=Yz h
   rw[hok]at hS
   exact hF.pan _ (ZEB _) (Y2 hS hfl)
 ·rintro d S h
  obtain⟨hok,hfl,rfl⟩:=Yz h
  rw[hok,ZE8]at hS
  exact hF.pan _ (ZEB _) (Y2 hS hfl)
theorem Zji{x bd bs k dl sl st}(hst:KV st x bd bs k dl sl){n:Nat}(hn:k.field=n)(hl:n≤k.m.fields.length)(f):
  Zb ZEA 275 [.ptr x 0,.agg f.cells] st (Wp (Zt9 (k.m.fields.take n) sl f) st):=by
 refine Zc (cR 275 f275) fun F hF=>?_
 have hS:=Zt9.eq_1 (k.m.fields.take n) sl f
 refine rx @eQ0 ?_
 refine rx @eQ0 ?_
 refine cV (Qi hst.x 0 4294967295 f.key) ?_ ?_
 ·rintro d S h
  obtain⟨hok,rfl,rfl⟩:=YA h
  rw[hok,ZE1]at hS
  first|refine⟨by first|trivial|exact⟨rfl,trivial⟩,?_⟩|skip
  refine gR0 ?_
  have e1:=YO (vD:=D.bool) ZM f.of sl
  have e3:=Wb ZM f.of
  simp only[show KK f.of=D.str f.of from rfl]at e1 e3
  refine rh ?_
  refine Y9 ?_
  simp only[Eqs,reduceCtorEq,ZEG,reduceIte,ZED,ZEH,ZEE,Fld.cells,hst.x,hst.bs,Ck.cells,e1,e3,Zly]
  refine cV0 (ZO hst.x ((Zp f.of sl).getD false) 8) ?_ ?_
  ·rintro d S h
   obtain⟨hok,rfl,rfl⟩:=YA h
   rw[hok,ZE1]at hS
   first|refine⟨by first|trivial|exact⟨rfl,trivial⟩,?_⟩|skip
   refine gR0 ?_
   refine rx @eQ0 ?_
   simp only[ZcY]
   refine cV (Zca hst.x hn hl f) ?_ ?_
   ·rintro d S h
    obtain⟨hok,rfl,rfl⟩:=YA h
    rw[hok]at hS
    refine gR0 ?_
    exact hF.fin (.tup []) _ rfl trivial (ZEF _) (ZEB _) (ZaU hS)
   ·rintro d S h
    obtain⟨hok,hfl,rfl⟩:=Yz h
    rw[hok]at hS
    exact hF.pan _ (ZEB _) (Y2 hS hfl)
  ·rintro d S h
   obtain⟨hok,hfl,rfl⟩:=Yz h
   rw[hok,ZE8]at hS
   exact hF.pan _ (ZEB _) (Y2 hS hfl)
 ·rintro d S h
  obtain⟨hok,hfl,rfl⟩:=Yz h
  rw[hok,ZE8]at hS
  exact hF.pan _ (ZEB _) (Y2 hS hfl)
def Zwo(f:Fld):List D:=[.str f.name,.str f.of,.str f.tag,.str f.from_,.int .i64 f.kind,.int .i64 f.bits,.int .i64 f.low,.int .i64 f.high,.int .i64 f.size.base,.int .i64 f.check,.int .i64 f.key,.bool f.little,.bool f.loose]
theorem Zfv(f):Ze ZEA 276 [.agg f.cells] (.agg (Zwo f)):=by
 refine Zm (cR 276 f276) fun F st hret=>?_
 refine rx @eQ0 ?_
 refine rx @eQ0 ?_
 exact hret rfl (by first|trivial|simp) (ZEF _) (ZEB _)
theorem ZhU(a b:Fld):Ze ZEA 244 [.agg a.cells,.agg b.cells] (.bool (dC (a=b))):=by
 refine Zm (cR 244 f244) fun F st hret=>?_
 refine rx @eQ0 ?_
 refine rx @eQ0 ?_
 simp only[ZcY]
 refine clD (Zfv a) ?_
 refine cXD @Zwo.eq_1 (Zfv b) ?_
 refine cGD (Zhy a.size.terms b.size.terms) ?_
 refine cGD (Zhx a.cases b.cases) ?_
 refine hret rfl (by trivial) (ZdY ?_) (ZEB _)
 rw[Bool.eq_iff_iff]
 simp only[ZEK,decide_eq_true_eq]
 constructor
 ·rintro⟨⟨⟨h1,h2,h3,h4,h5,h6,h7,h8,h9,h10,h11,h12,h13⟩,h14⟩,h15⟩
  obtain⟨n1,k1,b1,l1,o1,lo1,hi1,⟨sb1,st1⟩,of1,t1,f1,c1,ch1,ke1⟩:=a
  obtain⟨n2,k2,b2,l2,o2,lo2,hi2,⟨sb2,st2⟩,of2,t2,f2,c2,ch2,ke2⟩:=b
  simp only at h1 h2 h3 h4 h5 h6 h7 h8 h9 h10 h11 h12 h13 h14 h15
  subst h1;subst h2;subst h3;subst h4;subst h5;subst h6;subst h7;subst h8;subst h9;subst h10;subst h11;subst h12;subst h13;subst h14;subst h15
  rfl
 ·rintro rfl
  simp
abbrev Zqa(x:Nat×Nat):D:=.agg [.fn (.func x.1) [] [],.fn (.func x.2) [] []]
def Zhg:List (Int×(Nat×Nat)):=[(1,(249,250)),(2,(253,254)),(3,(255,256)),(4,(257,258)),(5,(259,260)),(6,(261,262)),(7,(263,264)),(8,(266,267)),(9,(268,269)),(10,(270,271)),(11,(272,273)),(12,(274,275))]
theorem Znc(st):Zb ZEA 243 [] st fun r S=>∃b,st b=nO∧r=.ret (.map b)∧S=st.upd b (.map (K6 WZ Zqa Zhg)):=by
 refine Zc (cR 243 f243) fun F hF=>?_
 refine rg ?_
 refine rh ?_
 refine Zj ?_
 simp only[Eqs,reduceCtorEq,ZEG,reduceIte,ZED,ZEH,ZEE,JP,Int.reduceEq,decide_false,ZEI,ZET,Yl,Ym]
 intro b hb
 exact hF.ret _ _ rfl (by trivial) (ZEF _) (ZEB _) ⟨b,hb,rfl,rfl⟩
def Zd4(n:Str)(k:Int):Fld:=⟨n,k,0,false,false,0,0,⟨0,[]⟩,[],[],[],[],0,0⟩
def Zem(f:Fld):Fld :=
 if f.kind=1 then ZqW f else if f.kind=2 then ZqX f else if f.kind=3 then ZqY f else if f.kind=4 then Zmc f else if f.kind=5 then ZqZ f else if f.kind=6 then Zq0 f
 else if f.kind=7 then Zmd f else if f.kind=8 then Zq1 f else if f.kind=9 then Zme f else if f.kind=10 then ZnX f else if f.kind=11 then ZnY f else ZjR f
def Zei(fs:List Fld)(dl:List (Str×Int))(sl:List (Str×Bool))(f:Fld):Bool :=
 if f.kind=1 then ck1 f else if f.kind=2 then ck2 f else if f.kind=3 then ck3 f else if f.kind=4 then ZeO fs f.size else if f.kind=5 then ck5 f else if f.kind=6 then ck6 f
 else if f.kind=7 then ck7 fs dl f else if f.kind=8 then ck8 dl f else if f.kind=9 then Zig fs dl f else if f.kind=10 then Zt7 f else if f.kind=11 then Zt8 fs f else Zt9 fs sl f
def QP(f:Fld):Bool:=dC (1≤f.kind)&&dC (f.kind≤12)
theorem Zzd{x bd bs k dl sl st}(hst:KV st x bd bs k dl sl){n:Nat}(hn:k.field=n)(hl:n≤k.m.fields.length)(f)(hR:((Zp f.tag (Qa (k.m.fields.take n))).getD (0,0)).2<4611686018427387904)(hk:QP f=true):
  ∃c q,Zp f.kind Zhg=sO (c,q)∧(∀y s,s y=sO (.cells f.cells)→ZK ZEA c [.ptr y 0] s (.tup []) (s.upd y (.cells (Zem f).cells))) ∧
   ∀A,st.sub A→Zb ZEA q [.ptr x 0,.agg f.cells] A (Wp (Zei (k.m.fields.take n) dl sl f) A):=by
 unfold QP at hk
 simp only[ZEK,decide_eq_true_eq]at hk
 have hk2:f.kind=1∨f.kind=2∨f.kind=3∨f.kind=4∨f.kind=5∨f.kind=6∨f.kind=7∨f.kind=8∨f.kind=9∨f.kind=10∨f.kind=11∨f.kind=12:=by omega
 unfold Zem Zei
 rcases hk2 with h|h|h|h|h|h|h|h|h|h|h|h<;>simp only[h,Int.reduceEq,if_true,if_false]
 ·exact⟨_,_,rfl,fun y s hy=>Zkn f y s hy,fun A hA=>Zko (hst.mono hA) hn hl f⟩
 ·exact⟨_,_,rfl,fun y s hy=>Zkp f y s hy,fun A hA=>Zkq (hst.mono hA) hn hl f⟩
 ·exact⟨_,_,rfl,fun y s hy=>Zkr f y s hy,fun A hA=>Zks (hst.mono hA) hn hl f⟩
 ·exact⟨_,_,rfl,fun y s hy=>Zkt f y s hy,fun A hA=>Zca (hst.mono hA).x hn hl f⟩
 ·exact⟨_,_,rfl,fun y s hy=>Zku f y s hy,fun A hA=>Zkv (hst.mono hA) hn hl f⟩
 ·exact⟨_,_,rfl,fun y s hy=>Zi6 f y s hy,fun A hA=>Zi7 (hst.mono hA) hn hl f⟩
 ·exact⟨_,_,rfl,fun y s hy=>Zi8 f y s hy,fun A hA=>Zi9 (hst.mono hA) hn hl f⟩
 ·exact⟨_,_,rfl,fun y s hy=>Zja f y s hy,fun A hA=>Zjb (hst.mono hA) hn hl f⟩
 ·exact⟨_,_,rfl,fun y s hy=>Zjc f y s hy,fun A hA=>Znb (hst.mono hA) hn hl f hR⟩
 ·exact⟨_,_,rfl,fun y s hy=>Zjd f y s hy,fun A hA=>Zje (hst.mono hA) hn hl f⟩
 ·exact⟨_,_,rfl,fun y s hy=>Zjf f y s hy,fun A hA=>Zjg (hst.mono hA) hn hl f⟩
 ·exact⟨_,_,rfl,fun y s hy=>Zjh f y s hy,fun A hA=>Zji (hst.mono hA) hn hl f⟩
theorem Zwa{f}(hk:QP f=false):Zp f.kind Zhg=nO:=by
 rw[ZvZ]
 unfold QP at hk
 simp only[Bool.and_eq_false_iff,decide_eq_false_iff_not]at hk
 simp only[Zhg,ZEQ,ZE6,ZFd,List.not_mem_nil,or_false]
 omega
def Ql(fs:List Fld)(dl:List (Str×Int))(sl:List (Str×Bool))(f:Fld):Bool :=
 YE f.name&&(!dC (0≤Zg (fun x=>dC (x.name=f.name)) fs)&&(QP f&&(dC (Zem f=Zd4 f.name f.kind)&&Zei fs dl sl f)))
theorem Zkm{x bd bs k dl sl st}(hst:KV st x bd bs k dl sl){n:Nat}(hn:k.field=n)(hl:n≤k.m.fields.length)(f)(hR:((Zp f.tag (Qa (k.m.fields.take n))).getD (0,0)).2<4611686018427387904):
  Zb ZEA 234 [.ptr x 0,.agg f.cells] st (Wp (Ql (k.m.fields.take n) dl sl f) st):=by
 refine Zc (cR 234 f234) fun F hF=>?_
 have hS:=Ql.eq_1 (k.m.fields.take n) dl sl f
 refine rx @eQ0 ?_
 refine rx @eQ0 ?_
 refine cl (Jr f.name) ?_
 refine cV (ZO hst.x (YE f.name) 1) ?_ ?_
 ·rintro d S h
  obtain⟨hok,rfl,rfl⟩:=YA h
  rw[hok,ZE1]at hS
  refine gR0 ?_
  refine rx @eQ0 ?_
  refine tXD (nd2 @Zr.eq_1 @eQ1) (Qr hst.x hn hl) ?_
  refine clD ((Zb8 ⟨[],k.m.fields.take n⟩ f.name)) ?_
  refine rg ?_
  refine cV (ZO hst.x (!dC (0≤Zg (fun x=>dC (x.name=f.name)) (k.m.fields.take n))) 2) ?_ ?_
  ·rintro d S2 h
   obtain⟨hok2,rfl,rfl⟩:=YA h
   rw[hok2,ZE1]at hS
   refine gR0 ?_
   refine rx @eQ0 ?_
   refine cVD (Znc S2) ?_ ?_
   ·rintro d S3 ⟨b,hb,hd,rfl⟩
    cases hd
    refine⟨by first|trivial|exact⟨rfl,trivial⟩,?_⟩
    have e1:=YO (vD:=Zqa) Zhb f.kind Zhg
    have e3:=Wb Zhb f.kind
    simp only[show WZ f.kind=D.int .i64 f.kind from rfl]at e1 e3
    have hsb:=ZEZ (.map (K6 WZ Zqa Zhg)) hb
    cases hko:QP f with
    |false =>
     rw[hko,ZE8]at hS
     rw[Zwa hko]at e1
     refine gQ (nd2 @e1 (nd2 @e3 (nd2 @ZEI (nd2 @ZET (nd2 @Yl @Ym))))) ?_
     refine rg ?_
     refine cV (ZO (hst.mono hsb).x false 4) ?_ ?_
     ·rintro d S4 h
      exact absurd (YA h).1 (by simp)
     ·rintro d S4 h
      obtain⟨_,hfl,rfl⟩:=Yz h
      exact hF.pan S2 hsb (Y2 hS hfl)
    |true =>
     rw[hko,ZE1]at hS
     obtain⟨c,q,hg,hclear,hcheck⟩:=Zzd hst hn hl f hR hko
     rw[hg]at e1
     refine gQ (nd2 @e1 (nd2 @e3 (nd2 @ZEI (nd2 @ZET (nd2 @Yl @Ym))))) ?_
     refine rg ?_
     refine cV (ZO (hst.mono hsb).x true 4) ?_ ?_
     ·rintro d S4 h
      obtain⟨_,rfl,rfl⟩:=YA h
      refine gR0 ?_
      refine rx @eQ0 ?_
      refine Za ?_
      refine xP 7 fun y hy=>?_
      have hfc:[D.str f.name,D.int IntKind.i64 f.kind,D.int IntKind.i64 f.bits,D.bool f.little,D.bool f.loose,D.int IntKind.i64 f.low,D.int IntKind.i64 f.high,D.int IntKind.i64 f.size.base,YC f.size.terms,D.str f.of,D.str f.tag,D.str f.from_,KC f.cases,D.int IntKind.i64 f.check,D.int IntKind.i64 f.key]=f.cells:=rfl
      simp only[hfc]
      have hsy:∀o,S2.sub (((S2.upd b (.map (K6 WZ Zqa Zhg)))).upd y o):=fun o=>ZFf hsb (ZEZ _ hy)
      refine rg ?_
      refine ct (hclear y _ (ZEI _ _ _)) ?_
      simp only[ZET]
      refine rx (nd2 @eQ0 (nd2 @ZEI (nd2 @ZET (nd2 @Yl @Ym)))) ?_
      simp only[ZcY]
      refine Zag rfl rfl rfl rfl rfl (by trivial) (by trivial) (by exact(ZhU (Zem f) (Zd4 f.name f.kind)).leA (LeC.two (ZEF _) (ZzQ (cs':=(Zd4 f.name f.kind).cells) (.cons (ZEF _) (.cons (ZEF _) (.cons (ZEF _) (.cons (ZEF _) (.cons (ZEF _) (.cons (ZEF _) (.cons (ZEF _) (.cons (ZEF _) (.cons (Kl (by simp)) (.cons (ZEF _) (.cons (ZEF _) (.cons (ZEF _) (.cons (Kl (by simp)) (.cons (ZEF _) (.cons (ZEF _) .nil)))))))))))))))))) (Zj ?_)
      simp only[Eqs,reduceCtorEq,ZEG,reduceIte,ZED,ZEH,ZEE]
      refine cV (ZO (hst.mono (hsy _)).x (dC (Zem f=Zd4 f.name f.kind)) 5) ?_ ?_
      ·rintro d S5 h
       obtain⟨hok5,rfl,rfl⟩:=YA h
       rw[hok5,ZE1]at hS
       refine gR0 ?_
       refine rx @eQ0 ?_
       simp only[ZcY]
       refine cV (hcheck _ (hsy _)) ?_ ?_
       ·rintro d S6 h
        obtain⟨hok6,rfl,rfl⟩:=YA h
        rw[hok6]at hS
        refine gR0 ?_
        exact hF.fin (.tup []) S2 rfl trivial (ZEF _) (hsy _) (ZaU hS)
       ·rintro d S6 h
        obtain⟨hok6,hfl,rfl⟩:=Yz h
        rw[hok6]at hS
        exact hF.pan S2 (hsy _) (Y2 hS hfl)
      ·rintro d S5 h
       obtain⟨hok5,hfl,rfl⟩:=Yz h
       rw[hok5,ZE8]at hS
       exact hF.pan S2 (hsy _) (Y2 hS hfl)
     ·rintro d S4 h
      exact absurd (Yz h).1 (by simp)
   ·rintro d S3 ⟨b,hb,hd,_⟩
    cases hd
  ·rintro d S2 h
   obtain⟨hok2,hfl,rfl⟩:=Yz h
   rw[hok2,ZE8]at hS
   exact hF.pan _ (ZEB _) (Y2 hS hfl)
 ·rintro d S h
  obtain⟨hok,hfl,rfl⟩:=Yz h
  rw[hok,ZE8]at hS
  exact hF.pan _ (ZEB _) (Y2 hS hfl)
def ddS(l:List Str):List Str:=l.foldl ZbM []
theorem Zst(l out:List Str):∃r,l.foldl ZbM out=out++r:=by
 induction l generalizing out with
 |nil=>exact⟨[],by simp⟩
 |cons x r ih =>
  obtain⟨q,hq⟩:=ih (ZbM out x)
  rw[List.foldl_cons,hq]
  unfold ZbM
  split
  ·exact⟨q,rfl⟩
  ·exact⟨[x]++q,by simp⟩
theorem Zq5{l:List Str}{i}(h:i<l.length):ddS (l.take (i+1))=ZbM (ddS (l.take i)) (l.getD i dE):=by
 unfold ddS;rw[Yj h,List.foldl_append];rfl
theorem Zti{l s}:s∈ddS l↔s∈l:=by unfold ddS;rw[Zgn];simp
theorem ZyY(l i):∃r,ddS l=ddS (l.take i)++r:=by
 conv=>enter [1,r];lhs;rw[←List.take_append_drop i l]
 unfold ddS
 rw[List.foldl_append]
 exact Zst _ _
theorem Zz1{l i}(h:i<l.length)(hn:l.getD i dE∉l.take i):(ddS (l.take i)).length<(ddS l).length∧(ddS l).getD (ddS (l.take i)).length dE=l.getD i dE∧(ddS (l.take (i+1))).length=(ddS (l.take i)).length+1:=by
 have h1:=Zq5 h
 have hm:l.getD i dE∉ddS (l.take i):=fun hm=>hn (Zti.1 hm)
 rw[ZbM,if_neg hm]at h1
 obtain⟨r,hr⟩:=ZyY l (i+1)
 rw[h1]at hr
 refine⟨by rw[hr];simp,by rw[hr];simp[ZES],by rw[h1];simp⟩
theorem Zxn{l:List Str}{i}(h:i<l.length)(hn:l.getD i dE∈l.take i):ddS (l.take (i+1))=ddS (l.take i):=by
 rw[Zq5 h,ZbM,if_pos (Zti.2 hn)]
theorem Zin(l:List Str)(i)(h:i≤l.length)(tk s):Ze ZEA 246 [.sl tk i 1 (fun i=>[.str (l.getD i dE)]),.str s] (.bool (dC (s∈l.take i))):=by
 have hrow:ZX Zbp (fun i=>[.str (l.getD i dE)]) (l.take i):=(ZX.self (f:=Zbp) (l:=l)).take i
 exact(ZdP (l.take i) s).leA (LeC.two (hrow.le (by rw[ZEU];omega)) (ZEF _))
theorem Zi4(l)(hl:l.length≤big)(x):Zai ZEA (.fn (.func 245) [] [.ptr x 0]) (ddS l).length (fun j=>[.str ((ddS l).getD j dE)]) (ZEX x (.cells [ZaO l])):=by
 intro y go A a0 hcons hA hd
 have hw:=hl
 unfold big at hw
 refine Zb.V (first:=[]) (args:=[y]) (caps:=[.ptr x 0]) (Zc (cR 245 f245) fun F hF=>?_)
 have hx:∀a,ZJ a (ZEX x (.cells [ZaO l]))→(a.or (ZEX x (.cells [ZaO l]))) x=sO (.cells [ZaO l]):=fun a hda=>by
  rw[Zl (hda x _ (Z4 _ _)),Z4]
 generalize hT:ZEX x (.cells [ZaO l])=T at *
 refine rh ?_
 refine Zj ?_
 simp only[Eqs,reduceCtorEq,ZEG,reduceIte,ZED,ZEH,ZEE,hx a0 hd,ZaO,slD]
 refine Zd (fr (l.length) (fun i Q=>∀a,A (ddS (l.take i)).length a→ZJ a T→(∀j,j<(ddS (l.take i)).length→go j=.next)→i≤l.length→Q [(0,.d y),(1,.d (.ptr x 0)),(5,.d (ZaO l)),(6,.d (.int .i64 l.length)),(7,.d (.int .i64 i))] [] (a.or T)) (fun n ih_key=>?_) fun key=>?_)
 ·clear hA hd
  intro i hn a hA hd hno hi
  refine rg ?_
  refine Za (Zq rfl trivial (fun h1=>?_) (fun h1=>?_))
  ·simp at h1
   by_cases hm:l.getD i dE∈l.take i
   ·have hsm:=Zxn h1 hm
    refine rx (nd2 @ZaO.eq_1 @eQ1) ?_
    refine aa ?_
    refine rh ?_
    refine Zj ?_
    simp only[Eqs,reduceCtorEq,ZEG,reduceIte,ZED,ZEH,ZEE,hx a hd,ZaO,slD]
    refine aa ?_
    refine Zag rfl rfl rfl rfl rfl (by trivial) (by trivial) (by exact Zin l i (by omega) _ _) (Zj ?_)
    simp only[Eqs,reduceCtorEq,ZEG,reduceIte,ZED,ZEH,ZEE,decide_eq_true hm]
    refine Jc rfl (e:=.d (.bool false)) (Zj ?_)
    simp only[Eqs,reduceCtorEq,ZEG,reduceIte,ZED,ZEH,ZEE]
    refine i0 ?_
    refine rg ?_
    refine aa ?_
    refine Zi ?_
    exact ih_key ((l.length)-(i+1)) (by omega) (i+1) rfl a (by rw[hsm];exact hA) hd (by rw[hsm];exact hno) (by omega)
   ·have hat:=Zz1 h1 hm
    refine rx (nd2 @ZaO.eq_1 @eQ1) ?_
    refine aa ?_
    refine rh ?_
    refine Zj ?_
    simp only[Eqs,reduceCtorEq,ZEG,reduceIte,ZED,ZEH,ZEE,hx a hd,ZaO,slD]
    refine aa ?_
    refine Zag rfl rfl rfl rfl rfl (by trivial) (by trivial) (by exact Zin l i (by omega) _ _) (Zj ?_)
    simp only[Eqs,reduceCtorEq,ZEG,reduceIte,ZED,ZEH,ZEE,decide_eq_false hm]
    have hcall:=(hcons _ hat.1 hno a hA).frame hd
    simp only[hat.2.1]at hcall
    refine vV (hcall) ?_ ?_
    ·rintro d S ⟨s',⟨hr,hA'⟩,hd',rfl⟩
     cases hgo:go (ddS (l.take i)).length with
     |next =>
      rw[hgo]at hr
      cases hr
      refine gR0 ?_
      refine i0 ?_
      refine rg ?_
      refine aa ?_
      refine Zi ?_
      exact ih_key ((l.length)-(i+1)) (by omega) (i+1) rfl s' (by rw[hat.2.2];exact hA') hd' (by rw[hat.2.2];exact Ye (q:=fun i=>go i=.next) hno hgo) (by omega)
     |stop c =>
      rw[hgo]at hr
      cases hr
      refine gR0 ?_
      refine i1 ?_
      exact hF.ret (.tup []) _ rfl trivial (ZEF _) (ZEB _) ⟨s',.stop _ c hat.1 hno hgo hA',YQ _ _⟩
     |pan d=>rw[hgo]at hr;cases hr
    ·rintro d S ⟨s',⟨hr,hA'⟩,hd',rfl⟩
     cases hgo:go (ddS (l.take i)).length with
     |pan d' =>
      rw[hgo]at hr
      cases hr
      exact hF.pan _ (ZEB _) ⟨s',.pan _ d hat.1 hno hgo hA',YQ _ _⟩
     |next=>rw[hgo]at hr;cases hr
     |stop c=>rw[hgo]at hr;cases hr
  ·simp at h1
   obtain rfl:i=l.length:=by omega
   rw[ZFa]at hA hno
   refine ZR rfl ?_
   exact hF.fin (.tup []) _ rfl trivial (ZEF _) (ZEB _) ⟨a,.all hno hA,YQ _ _⟩
 exact key _ 0 rfl a0 hA hd (by intro i hi;simp[ddS]at hi) (by omega)
theorem ZlH(m:Msg)(hb:(m.fields.flatMap Yr).length≤1000000)(st):Zb ZEA 235 [.agg m.cells] st fun r S=>∃x,st x=nO∧r=.ret (.fn (.func 245) [] [.ptr x 0])∧S=st.or (ZEX x (.cells [ZaO (m.fields.flatMap Yr)])):=by
 refine JU (cR 235 f235) fun hwf F hF=>?_
 have hw:=(Zwg (s:=m) (hwf _ (by simp))).nfields
 have hfw:=(Zwg (s:=m) (hwf _ (by simp))).fields
 unfold big at hw
 clear hwf
 refine rx @eQ2 ?_
 refine rg ?_
 refine rx (nd2 @eQ2 (nd2 @Zr.eq_1 @eQ1)) ?_
 refine Zd ?_
 refine kl (st) [(3,.loc 3 0),(9,.d (Zr m.fields)),(10,.d (.int .i64 m.fields.length)),(11,.d (.int .i64 (0:Nat)))] [(3,[.sl .full 0 1 fun _=>[]])] (JC _) (.cons (.cons (Kl (by simp)) .nil) .nil) ?_
 refine fr (m.fields.length) (fun i Q=>∀tk row out,tk.okIn st→ZX (fun s=>[.str s]) row out→out=(m.fields.take i).flatMap Yr→i≤m.fields.length→Q [(3,.loc 3 0),(9,.d (Zr m.fields)),(10,.d (.int .i64 m.fields.length)),(11,.d (.int .i64 i))] [(3,[.sl tk out.length 1 row])] (st.own tk (out.length*1))) (fun n ih_key=>?_) fun key=>?_
 ·intro i hn tk row out htk hrow hout hi
  refine rg ?_
  refine Za (Zq rfl trivial (fun h1=>?_) (fun h1=>?_))
  ·simp at h1
   have hsn:=Zkh m.fields i h1
   have hlt2:=ZhT m.fields (i+1)
   rw[hsn,ZEM,←hout]at hlt2
   have hnc:=(hfw _ (ZA h1)).ncases
   unfold big at hnc
   generalize hf:m.fields.getD i dE=f at *
   refine rx (nd2 @Zr.eq_1 (nd2 @eQ1 (nd2 @eQ0 @hf))) ?_
   refine aa ?_
   refine rx @eQ0 ?_
   refine rg ?_
   refine jU [0] (fun Q=>∀bb:Bool,bb=(dC (f.kind=7) ||(dC (f.kind=8) ||decide (f.kind=12)))→Q F [(3,.loc 3 0),(5,.loc 5 0),(9,.d (Zr m.fields)),(10,.d (.int .i64 m.fields.length)),(11,.d (.int .i64 i)),(16,.d (.int .i64 f.kind)),(17,.d (.bool bb))] [(3,[.sl tk out.length 1 row]),(5,f.cells)] (st.own tk (out.length*1))) ?_ fun jn=>?_
   ·intro bb hbb
    refine cd (fun h3=>?_) (fun h3=>?_)
    ·have hrf:Yr f=[f.of]:=by
      subst h3
      have h9:¬f.kind=9:=by
       intro e;rw[e]at hbb;simp at hbb
      unfold Yr Zaz
      rw[←hbb,if_pos rfl,if_neg h9,ZFb]
     rw[hrf]at hsn hlt2
     simp only[ZER,List.length_nil]at hlt2
     refine rx @eQ0 ?_
     refine Zaf (st) (tk) rfl rfl rfl rfl rfl rfl (by trivial) (by trivial) rfl (by first|trivial|assumption) (by omega) (by (unfold big;omega)) fun t1 ht1=>Zj ?_
     simp only[Eqs,reduceCtorEq,ZEG,reduceIte,ZED,ZEH,ZEE]
     refine rg ?_
     refine aa ?_
     refine Zi ?_
     have hnext:=ih_key ((m.fields.length)-(i+1)) (by omega) (i+1) rfl t1 _ (out++[f.of]) ht1 (hrow.snoc (x:=f.of) (row2:=Z7 [.str []] ([0].zip [.str f.of])) rfl rfl) (by rw[hsn,hout]) (by omega)
     rw[ZEM]at hnext
     exact hnext
    ·have hrf:Yr f=if f.kind=9 then f.cases.map (·.of) else []:=by
      subst h3
      unfold Yr Zaz
      rw[←hbb,if_neg (by simp),List.nil_append]
     rw[hrf]at hsn hlt2
     refine rg ?_
     refine cd (fun h4=>?_) (fun h4=>?_)
     ·have h9:f.kind=9:=by simpa using h4
      rw[if_pos h9]at hsn hlt2
      simp only[List.length_map]at hlt2
      refine rx (nd2 @eQ0 (nd2 @KC.eq_1 @eQ1)) ?_
      refine Zd (fr (f.cases.length) (fun q Q=>∀tk row o,tk.okIn st→ZX (fun s=>[.str s]) row o→o=out++(f.cases.take q).map (·.of)→q≤f.cases.length→Q [(3,.loc 3 0),(9,.d (Zr m.fields)),(10,.d (.int .i64 m.fields.length)),(11,.d (.int .i64 i)),(29,.d (KC f.cases)),(30,.d (.int .i64 f.cases.length)),(31,.d (.int .i64 q))] [(3,[.sl tk o.length 1 row])] (st.own tk (o.length*1))) (fun n ih_key2=>?_) fun key2=>?_)
      ·clear hrow htk
       intro q hnq tk row o htk hrow ho hq
       have hol:o.length=out.length+q:=by rw[ho];simp;omega
       refine rg ?_
       refine Za (Zq rfl trivial (fun h5=>?_) (fun h5=>?_))
       ·simp at h5
        have hsn2:(f.cases.take (q+1)).map (·.of)=(f.cases.take q).map (·.of)++[(f.cases.getD q dE).of]:=by rw[Yj h5,List.map_append];rfl
        generalize hc:f.cases.getD q dE=c at *
        refine rx (nd2 @KC.eq_1 (nd2 @eQ1 (nd2 @YX.cells.eq_1 @hc))) ?_
        refine aa ?_
        refine rx @YX.cells.eq_1 ?_
        refine Zaf (st) (tk) rfl rfl rfl rfl rfl rfl (by trivial) (by trivial) rfl (by first|trivial|assumption) (by omega) (by (unfold big;omega)) fun t1 ht1=>Zj ?_
        simp only[Eqs,reduceCtorEq,ZEG,reduceIte,ZED,ZEH,ZEE]
        refine rg ?_
        refine aa ?_
        refine Zi ?_
        have hnext:=ih_key2 ((f.cases.length)-(q+1)) (by omega) (q+1) rfl t1 _ (o++[c.of]) ht1 (hrow.snoc (x:=c.of) (row2:=Z7 [.str []] ([0].zip [.str c.of])) rfl rfl) (by rw[hsn2,ho,ZE9]) (by omega)
        rw[ZEM]at hnext
        exact hnext
       ·simp at h5
        obtain rfl:q=f.cases.length:=by omega
        rw[ZFa]at ho
        refine rg ?_
        refine aa ?_
        refine Zi ?_
        exact ih_key ((m.fields.length)-(i+1)) (by omega) (i+1) rfl tk row o htk hrow (by rw[hsn,ho,hout]) (by omega)
      exact key2 _ 0 rfl tk row out htk hrow (by simp) (by omega)
     ·have h9:¬f.kind=9:=by simpa using h4
      rw[if_neg h9,ZFb]at hsn
      refine ZD ?_
      refine rg ?_
      refine aa ?_
      refine Zi ?_
      exact ih_key ((m.fields.length)-(i+1)) (by omega) (i+1) rfl tk row out htk hrow (by rw[hsn,hout]) (by omega)
   refine cd (fun h2=>?_) (fun h2=>?_)
   ·refine ZD ?_
    refine jn _ ?_
    rw[h2,Bool.true_or]
   ·refine rg ?_
    refine cd (fun h3=>?_) (fun h3=>?_)
    ·refine ZD ?_
     refine jn _ ?_
     rw[h2,h3];rfl
    ·refine rg ?_
     refine jn _ ?_
     rw[h2,h3];rfl
  ·simp at h1
   obtain rfl:i=m.fields.length:=by omega
   rw[ZFa]at hout
   refine ZR rfl (Za ?_)
   refine kl (st) [(3,.loc 3 0),(9,.d (Zr m.fields)),(10,.d (.int .i64 m.fields.length)),(11,.d (.int .i64 m.fields.length)),(12,.d (.bool (dC ((m.fields.length:Int)<m.fields.length))))] [(3,[ZaO out])] (JC _) (.cons (.cons (hrow.le rfl) .nil) .nil) ?_
   refine xP 3 fun x hx=>?_
   refine rg ?_
   exact hF.ret _ _ rfl (by trivial) (ZEF _) (ZEB _) ⟨x,hx,rfl,by rw[←hout];exact Wu hx⟩
 exact key _ 0 rfl .full _ [] trivial ZX.nil rfl (by omega)
def Ka(dl:List (Str×Int))(m:Msg):Int:=(Ke m).foldl (fun a s=>max a ((Zp s dl).getD 0)) 0
def Q7(sl:List (Str×Bool))(m:Msg):Bool:=(m.fields.all fun f=>!f.loose)&&(Ke m).all fun s=>(Zp s sl).getD false
def Qh(dl:List (Str×Int))(sl:List (Str×Bool))(m:Msg)(n:Nat):Bool:=(ZEO n).all fun i=>Ql (m.fields.take i) dl sl (m.fields.getD i dE)
def Zdk(dl:List (Str×Int))(sl:List (Str×Bool))(m:Msg):Bool :=
 YE m.name&&(!(Zp m.name dl).isSome&&((dC (1≤(m.fields.length:Int))&&dC ((m.fields.length:Int)≤40))&&(Qh dl sl m m.fields.length&&dC (Ka dl m<16))))
def ZnJ:Int:=4611686018427387904
theorem Zn1{fs dl sl f}(h:Ql fs dl sl f=true)(hn:Yv f=true):(Kr f).2<ZnJ:=by
 unfold Ql at h
 simp only[ZEK]at h
 have hc:=h.2.2.2.2
 unfold Yv at hn
 simp only[ZEK,decide_eq_true_eq]at hn
 have hk:f.kind=1∨f.kind=2∨f.kind=3:=by omega
 unfold Zei at hc
 unfold Kr ZnJ
 rcases hk with hk|hk|hk<;>simp only[hk,Int.reduceEq,if_true,if_false]at hc⊢
 ·unfold ck1 ZcE at hc
  simp only[Yn,ZEK,decide_eq_true_eq,Bool.and_true]at hc
  have:=ZfE (b:=f.bits) (by omega) (by omega)
  generalize (2:Int) ^ f.bits.toNat=pw at *
  omega
 ·unfold ck2 ZcE at hc
  simp only[Yn,ZEK,decide_eq_true_eq,Bool.and_true]at hc
  have:=ZfE (b:=f.bits) (by omega) (by omega)
  generalize (2:Int) ^ f.bits.toNat=pw at *
  omega
 ·unfold ck3 at hc
  simp only[Yn,ZEK,decide_eq_true_eq,Bool.and_true]at hc
  omega
theorem ZuR{fs i}(h:∀j,j<i→Yv (fs.getD j dE)=true→(Kr (fs.getD j dE)).2<ZnJ)(k):((Zp k (Jp fs i)).getD (0,0)).2<ZnJ:=by
 induction i with
 |zero=>simp[Jp,Zp,ZnJ]
 |succ i ih =>
  have h1:=ih fun j hj=>h j (by omega)
  simp only[Jp]
  split
  ·rename_i hn
   rw[Ku]
   split
   ·exact h i (by omega) hn
   ·exact h1
  ·exact h1
theorem ZpM{dl sl m i}(h:Qh dl sl m i=true)(hi:i≤m.fields.length)(k):((Zp k (Qa (m.fields.take i))).getD (0,0)).2<4611686018427387904:=by
 refine ZuR (fun j hj hn=>?_) k
 rw[ZEU]at hj
 rw[Q8 (by omega)]at hn⊢
 exact Zn1 (List.all_eq_true.1 h j (by simp;omega)) hn
theorem ZpK{fs dl sl f}(h:Ql fs dl sl f=true):(Yr f).length≤41:=by
 unfold Ql at h
 simp only[ZEK]at h
 have hc:=h.2.2.2.2
 unfold Yr
 rw[ZEM]
 have h1:(Zaz f).length≤1:=by unfold Zaz;split<;>simp
 split
 ·rename_i h9
  unfold Zei at hc
  simp only[h9,Int.reduceEq,if_true,if_false]at hc
  unfold Zig at hc
  simp only[ZEK,decide_eq_true_eq]at hc
  simp only[List.length_map]
  omega
 ·simp;omega
theorem Zre{dl sl m}(h:Qh dl sl m m.fields.length=true)(hm:m.fields.length≤40):(m.fields.flatMap Yr).length≤1000000:=by
 have key:∀l:List Fld,(∀f∈l,(Yr f).length≤41)→(l.flatMap Yr).length≤41*l.length:=by
  intro l
  induction l with
  |nil=>simp
  |cons x r ih =>
   intro hx
   have:=ih fun f hf=>hx f (by simp[hf])
   have:=hx x (by simp)
   simp only[List.flatMap_cons,ZEM,ZER];omega
 have:=key m.fields fun f hf=>by
  obtain⟨i,hi,rfl⟩:=ZEV hf
  have:=ZpK (List.all_eq_true.1 h i (by simpa using hi))
  simpa[ZES,hi]using this
 omega
theorem Ziv{dl sl m i}:Qh dl sl m (i+1)=(Qh dl sl m i&&Ql (m.fields.take i) dl sl (m.fields.getD i dE)):=by
 unfold Qh;rw[List.range_succ,List.all_append];simp
theorem ZpL{dl sl m i n}(hi:i<n)(h:Ql (m.fields.take i) dl sl (m.fields.getD i dE)=false):Qh dl sl m n=false :=
 List.all_eq_false.2 ⟨i,by simpa using hi,by rw[h];simp⟩
theorem KV.ne{st x bd bs k dl sl}(h:KV st x bd bs k dl sl):x≠bd∧x≠bs :=
 ⟨fun e=>by have:=h.x;rw[e,h.bd]at this;simp at this,fun e=>by have:=h.x;rw[e,h.bs]at this;simp at this⟩
theorem KV.updX{st x bd bs k dl sl}(h:KV st x bd bs k dl sl)(k'):KV (st.upd x (.cells (k'.cells bd bs))) x bd bs k' dl sl :=
 ⟨ZEI _ _ _,by rw[ZEJ _ _ h.ne.1.symm];exact h.bd,by rw[ZEJ _ _ h.ne.2.symm];exact h.bs⟩
def Zec(ok:Bool)(st:St)(x bd bs:Nat)(k:Ck)(dl:List (Str×Int))(sl:List (Str×Bool))(r:Res)(S:St):Prop :=
 if ok then r=.ret (.tup [])∧S=((st.upd x (.cells (k.cells bd bs))).upd bd (.map (Ki dl))).upd bs (.map (Zdy sl)) else (∃d,ZcT d∧r=.panic d)∧∀b,b≠x→b≠bd→b≠bs→S b=st b
theorem Ztv{ok st x bd bs k dl sl d c}(h:ok=false)(hd:ZcT d):Zec ok st x bd bs k dl sl (.panic d) (st.upd x (.cells c)):=by
 subst h;exact⟨⟨d,hd,rfl⟩,fun b h1 _ _=>ZEJ _ _ h1⟩
theorem ZoV{K V}[DecidableEq K]{kp kD}{vD:V→D}(h:ZjN kp kD)(k:K)(z:D)(l:List (K×V)):Zdi kp (kD k) z (K6 kD vD l)=sO ((Zp k l).elim z vD):=by
 induction l with
 |nil=>rfl
 |cons e r ih =>
  simp only[K6,ZEQ,Zdi,h k e.1,Zp]
  by_cases hk:k=e.1
  ·simp[hk]
  ·simp only[hk,decide_false,if_false];exact ih
def nxS(s1:St)(x z2 z6 z9:Nat)(sb:Bool)(dp:Int):St:=((s1.upd z2 (.cells [.ptr x 0])).upd z6 (.cells [.bool sb])).upd z9 (.cells [.int .i64 dp])
structure K4(s1:St)(z2 z6 z9:Nat):Prop where
 n2:s1 z2=none
 n6:z6≠z2∧s1 z6=none
 n9:z9≠z6∧z9≠z2∧s1 z9=none
section
variable {s1:St} {x z2 z6 z9:Nat} {sb:Bool} {dp:Int}
theorem K4.g2(h:K4 s1 z2 z6 z9):(nxS s1 x z2 z6 z9 sb dp) z2=sO (.cells [.ptr x 0]):=by
 simp[nxS,ZFc,h.n6.1.symm,h.n9.2.1.symm]
theorem K4.g6(h:K4 s1 z2 z6 z9):(nxS s1 x z2 z6 z9 sb dp) z6=sO (.cells [.bool sb]):=by
 simp[nxS,ZFc,h.n9.1.symm]
theorem K4.g9:(nxS s1 x z2 z6 z9 sb dp) z9=sO (.cells [.int .i64 dp]):=by
 simp[nxS,ZFc]
theorem K4.gs(h:K4 s1 z2 z6 z9){b o}(hb:s1 b=sO o):(nxS s1 x z2 z6 z9 sb dp) b=sO o:=by
 have h2:b≠z2:=fun e=>by rw[e,h.n2]at hb;simp at hb
 have h6:b≠z6:=fun e=>by rw[e,h.n6.2]at hb;simp at hb
 have h9:b≠z9:=fun e=>by rw[e,h.n9.2.2]at hb;simp at hb
 simp[nxS,ZFc,h2,h6,h9,hb]
theorem K4.sub(h:K4 s1 z2 z6 z9):s1.sub (nxS s1 x z2 z6 z9 sb dp):=fun b o hb=>h.gs hb
theorem K4.u9(dp'):(nxS s1 x z2 z6 z9 sb dp).upd z9 (.cells [.int .i64 dp'])=nxS s1 x z2 z6 z9 sb dp':=by
 unfold nxS;rw[ZET]
theorem K4.u6(h:K4 s1 z2 z6 z9)(sb'):(nxS s1 x z2 z6 z9 sb dp).upd z6 (.cells [.bool sb'])=nxS s1 x z2 z6 z9 sb' dp:=by
 unfold nxS;rw[St.upd_comm _ _ _ h.n9.1.symm,ZET]
theorem K4.disj{sb' dp' t}(h:ZJ (nxS s1 x z2 z6 z9 sb dp) t):ZJ (nxS s1 x z2 z6 z9 sb' dp') t:=fun c o hc=>by
 have:=h c o hc
 unfold nxS at this⊢
 have k9:=Zn this
 have k6:=Zn k9.2
 rw[ZEJ _ _ k9.1,ZEJ _ _ k6.1];exact k6.2
theorem K4.ub(h:K4 s1 z2 z6 z9){b o o'}(hb:s1 b=sO o):(nxS s1 x z2 z6 z9 sb dp).upd b o'=nxS (s1.upd b o') x z2 z6 z9 sb dp:=by
 have h2:b≠z2:=fun e=>by rw[e,h.n2]at hb;simp at hb
 have h6:b≠z6:=fun e=>by rw[e,h.n6.2]at hb;simp at hb
 have h9:b≠z9:=fun e=>by rw[e,h.n9.2.2]at hb;simp at hb
 unfold nxS;rw[St.upd_comm _ _ _ h9,St.upd_comm _ _ _ h6,St.upd_comm _ _ _ h2]
theorem K4.of(h:K4 s1 z2 z6 z9){b o o'}(hb:s1 b=sO o):K4 (s1.upd b o') z2 z6 z9:=by
 have h2:z2≠b:=fun e=>by rw[←e,h.n2]at hb;simp at hb
 have h6:z6≠b:=fun e=>by rw[←e,h.n6.2]at hb;simp at hb
 have h9:z9≠b:=fun e=>by rw[←e,h.n9.2.2]at hb;simp at hb
 exact⟨by rw[ZEJ _ _ h2];exact h.n2,⟨h.n6.1,by rw[ZEJ _ _ h6];exact h.n6.2⟩,⟨h.n9.1,h.n9.2.1,by rw[ZEJ _ _ h9];exact h.n9.2.2⟩⟩
end
theorem ZhM{dl m}(h:∀s,0≤(Zp s dl).getD 0∧(Zp s dl).getD 0≤16):0≤Ka dl m∧Ka dl m≤16:=by
 unfold Ka
 have:∀(l:List Str) (b:Int),0≤b→b≤16→0≤l.foldl (fun a s=>max a ((Zp s dl).getD 0)) b∧l.foldl (fun a s=>max a ((Zp s dl).getD 0)) b≤16:=by
  intro l
  induction l with
  |nil=>intro b h1 h2;exact⟨h1,h2⟩
  |cons s r ih =>
   intro b h1 h2
   have:=h s
   exact ih (max b ((Zp s dl).getD 0)) (by omega) (by omega)
 exact this _ 0 (by omega) (by omega)
theorem Zoi{x bd bs k dl sl st}(hst:KV st x bd bs k dl sl)(hdd:bd≠bs)(hdl:∀s,0≤(Zp s dl).getD 0∧(Zp s dl).getD 0≤16)(m):
  Zb ZEA 207 [.ptr x 0,.agg m.cells] st (Zec (Zdk dl sl m) st x bd bs { k with field:=-1,m:=m } (Wg m.name (Ka dl m+1) dl) (Wg m.name (Q7 sl m) sl)):=by
 refine Zc (cR 207 f207) fun F hF=>?_
 have hS:=Zdk.eq_1 dl sl m
 have hx:=hst.x
 have hne:=hst.ne
 refine rx @eQ2 ?_
 refine rx (nd2 @eQ2 (nd2 @hx (nd2 @Ck.cells.eq_1 (nd2 @ZEI (nd2 @ZET (nd2 @Yl @Ym)))))) ?_
 obtain⟨k1,hk1⟩:∃k1:Ck,k1={ k with field:=-1,m:=m }:=⟨_,rfl⟩
 have hst1:=hst.updX k1
 have hS1:(st.upd x (.cells [.str k.d.name,Wh k.d.msgs,.str k.d.start,.map bd,.map bs,.int .i64 k.at_,.int .i64 (-1),.str m.name,Zr m.fields]))=st.upd x (.cells (k1.cells bd bs)):=by rw[hk1];rfl
 rw[hS1]
 rw[←hk1]at hF
 generalize hS1e:st.upd x (.cells (k1.cells bd bs))=S1 at *
 have e1:=YO (vD:=WZ) ZM m.name dl
 have e3:=Wb ZM m.name
 simp only[show KK m.name=D.str m.name from rfl]at e1 e3
 have hbad:∀d,Zdk dl sl m=false→ZcT d→Zec (Zdk dl sl m) st x bd bs k1 (Wg m.name (Ka dl m+1) dl) (Wg m.name (Q7 sl m) sl) (.panic d) S1:=fun d h hd=>by rw[←hS1e];exact Ztv h hd
 clear hS1
 refine rx @eQ2 ?_
 refine clD (Jr m.name) ?_
 refine cVD (ZO hst1.x (YE m.name) 1) ?_ ?_
 ·rintro d S h
  obtain⟨hok,rfl,rfl⟩:=YA h
  rw[hok,ZE1]at hS
  first|refine⟨by first|trivial|exact⟨rfl,trivial⟩,?_⟩|skip
  refine gR0 ?_
  refine rh ?_
  refine Y9 ?_
  simp only[Eqs,reduceCtorEq,ZEG,reduceIte,ZED,ZEH,ZEE,Msg.cells,hst1.x,hst1.bd,Ck.cells,e1,e3,Zlz]
  refine rg ?_
  refine cV (ZO hst1.x (!(Zp m.name dl).isSome) 2) ?_ ?_
  ·rintro d S h
   obtain⟨hok,rfl,rfl⟩:=YA h
   rw[hok,ZE1]at hS
   refine gR0 ?_
   refine rx (nd2 @eQ2 (nd2 @Zr.eq_1 @eQ1)) ?_
   refine cV (ZO hst1.x (dC (1≤(m.fields.length:Int))&&dC ((m.fields.length:Int)≤40)) 3) ?_ ?_
   ·rintro d S h
    obtain⟨hok,rfl,rfl⟩:=YA h
    rw[hok,ZE1]at hS
    simp only[ZEK,decide_eq_true_eq]at hok
    refine gR0 ?_
    refine rg ?_
    refine rx (nd2 @eQ2 (nd2 @Zr.eq_1 @eQ1)) ?_
    subst hk1
    refine Zd (fr (m.fields.length) (fun i Q=>∀fl:Int,Qh dl sl m i=true→i≤m.fields.length→Q [(2,.loc 2 0),(3,.loc 3 0),(6,.loc 6 0),(50,.d (Zr m.fields)),(51,.d (.int .i64 m.fields.length)),(52,.d (.int .i64 i))] [(2,[.ptr x 0]),(3,m.cells),(6,[.bool ((m.fields.take i).all fun f=>!f.loose)])] (st.upd x (.cells (({ k with field:=fl,m:=m }:Ck).cells bd bs)))) (fun n ih_key=>?_) fun key=>?_)
    ·intro i hn fl hfp hi
     refine rg ?_
     refine Za (Zq rfl trivial (fun h1=>?_) (fun h1=>?_))
     ·simp at h1
      have hR:=ZpM hfp hi
      have hsn:=Ziv (dl:=dl) (sl:=sl) (m:=m) (i:=i)
      have hall:=ZqE (p:=fun f:Fld=>!f.loose) h1
      generalize hf:m.fields.getD i dE=f at *
      refine rx (nd2 @Zr.eq_1 (nd2 @eQ1 (nd2 @eQ0 @hf))) ?_
      refine aa ?_
      refine rx (nd2 @eQ0 (nd2 @Ck.cells.eq_1 (nd2 @ZEI (nd2 @ZET (nd2 @Yl @Ym))))) ?_
      have hsi:=hst.updX ({ k with field:=(i:Int),m:=m }:Ck)
      refine rx @eQ0 ?_
      simp only[ZcY]
      refine cV (Zkm hsi (n:=i) rfl hi f (hR _)) ?_ ?_
      ·rintro d S2 h
       obtain⟨hok2,rfl,rfl⟩:=YA h
       refine gR0 ?_
       refine rx @eQ0 ?_
       refine rg ?_
       refine aa ?_
       rw[show(m.fields.take i)=({ k with field:=(i:Int),m:=m }:Ck).m.fields.take i from rfl]at hsn
       rw[hok2,Bool.and_true]at hsn
       refine Zi ?_
       have hnext:=ih_key ((m.fields.length)-(i+1)) (by omega) (i+1) rfl i (hsn.trans hfp) (by omega)
       rw[hall]at hnext
       exact hnext
      ·rintro d S2 h
       obtain⟨hok2,hfl,rfl⟩:=Yz h
       rw[ZpL h1 (by rw[hf];exact hok2),ZE8]at hS
       exact hF.pan _ (ZEB _) (Ztv hS hfl)
     ·simp at h1
      obtain rfl:i=m.fields.length:=by omega
      rw[ZFa]
      rw[hfp,ZE1]at hS
      have hrefs:=Zre hfp (by omega)
      refine rx (nd2 @Ck.cells.eq_1 (nd2 @ZEI (nd2 @ZET (nd2 @Yl @Ym)))) ?_
      refine rg ?_
      refine Za (Za ?_)
      refine xP 2 fun z2 h2=>?_
      refine xP 6 fun z6 h6=>?_
      refine xP 9 fun z9 h9=>?_
      have k6:=Zn h6
      have k9:=Zn h9
      have k9a:=Zn k9.2
      have hS1f:(st.upd x (.cells [.str k.d.name,Wh k.d.msgs,.str k.d.start,.map bd,.map bs,.int .i64 k.at_,.int .i64 (-1),.str m.name,Zr m.fields]))=S:=hS1e
      rw[hS1f]at h2 k6 k9 k9a⊢
      have hnx:K4 S z2 z6 z9:=⟨h2,k6,⟨k9.1,k9a⟩⟩
      clear h6 h9 k6 k9 k9a h2
      have hlen:(Ke m).length≤1000000:=by
       have:=Zki (m.fields.flatMap Yr) []
       unfold Ke
       simp only[List.length_nil,Nat.zero_add]at this
       omega
      have hmst:S.sub (nxS S x z2 z6 z9 (m.fields.all fun f=>!f.loose) 0):=hnx.sub
      rw[show((S.upd z2 (.cells [.ptr x 0])).upd z6 (.cells [.bool (m.fields.all fun f=>!f.loose)])).upd z9 (.cells [.int .i64 0])=nxS S x z2 z6 z9 (m.fields.all fun f=>!f.loose) 0 from rfl]
      refine rx @eQ2 ?_
      refine cV (ZlH m hrefs _) ?_ ?_
      ·rintro d S2 ⟨y,hy,hd,rfl⟩
       cases hd
       refine gR0 ?_
       refine Zd ?_
       have hld:ddS (m.fields.flatMap Yr)=Ke m:=rfl
       have hit:=Zi4 (m.fields.flatMap Yr) (by unfold big;omega) y
       rw[hld]at hit
       refine WS hF rfl trivial [2,6,9] (by show([2,6,9]:List Nat).Nodup;decide) (WX hy) hit.Y (fun j hj=>rfl) (fun _=>.next)
        (fun j a=>a=nxS S x z2 z6 z9 ((m.fields.all fun f=>!f.loose)&&((Ke m).take j).all fun s=>(Zp s sl).getD false) (((Ke m).take j).foldl (fun a s=>max a ((Zp s dl).getD 0)) 0)) (by simp) ?_ ?_ ?_ ?_ ?_ ?_
       ·intro j a hj hno hB F' ready busy hdr hbeg hend
        subst hB
        simp only[Eqs,reduceCtorEq,ZEG,reduceIte,ZED,ZEH,ZEE,YZ,Wc,KO,WE,List.isEmpty_nil,List.isEmpty_cons]
        refine rg ?_
        refine hbeg fun hdb=>?_
        have hall:=ZqE (p:=fun s:Str=>(Zp s sl).getD false) hj
        have hfold:=Zup (f:=fun a s=>max a ((Zp s dl).getD 0)) (b:=(0:Int)) hj
        generalize hnm:(Ke m).getD j dE=nm at *
        have e1:=YO (vD:=WZ) ZM nm dl
        have e2:=YO (vD:=D.bool) ZM nm sl
        have e3:=Wb ZM nm
        simp only[show KK nm=D.str nm from rfl]at e1 e2 e3
        rw[hall,hfold]at hend
        generalize ((Ke m).take j).foldl (fun a s=>max a ((Zp s dl).getD 0)) 0=dp at *
        generalize ((Ke m).take j).all (fun s=>(Zp s sl).getD false)=sb at *
        generalize (m.fields.all fun f=>!f.loose)=lo at *
        refine rh ?_
        refine Y9 ?_
        simp only[Eqs,reduceCtorEq,ZEG,reduceIte,ZED,ZEH,ZEE,Zh (hnx.g2 ),Zh (K4.g9 ),Zh (hnx.gs hst1.x),Zh (hnx.gs hst1.bd),Ck.cells,e1,e3,Zgr,Yq,K4.u9]
        refine rh ?_
        refine Zj ?_
        simp only[Eqs,reduceCtorEq,ZEG,reduceIte,ZED,ZEH,ZEE,Zh (hnx.g2 ),Zh (hnx.g6 ),Zh (hnx.gs hst1.x),Zh (hnx.gs hst1.bs),Ck.cells,e2,e3,Zly,Yq,hnx.u6]
        refine Zo ?_
        exact hend.fin ⟨rfl,by rw[←Bool.and_assoc]⟩ (K4.disj hdb) (ZEB _)
       ·intro q a hno hB hq
        subst hB
        rw[ZFa]at hq⊢
        rw[Wu hq]
        rw[show((m.fields.all fun f=>!f.loose)&&(Ke m).all fun s=>(Zp s sl).getD false)=Q7 sl m from rfl,show(Ke m).foldl (fun a s=>max a ((Zp s dl).getD 0)) 0=Ka dl m from rfl]at hq⊢
        have hdp:=ZhM (m:=m) hdl
        generalize Q7 sl m=sb at *
        generalize Ka dl m=dp at *
        have gX2:=Zh (t:=ZEX q .dfr) (hnx.g2 (x:=x) (sb:=sb) (dp:=dp))
        have gX6:=Zh (t:=ZEX q .dfr) (hnx.g6 (x:=x) (sb:=sb) (dp:=dp))
        have gX9:=Zh (t:=ZEX q .dfr) (K4.g9 (s1:=S) (x:=x) (z2:=z2) (z6:=z6) (z9:=z9) (sb:=sb) (dp:=dp))
        have gXx:=Zh (t:=ZEX q .dfr) (hnx.gs (x:=x) (sb:=sb) (dp:=dp) hst1.x)
        have gXd:=Zh (t:=ZEX q .dfr) (hnx.gs (x:=x) (sb:=sb) (dp:=dp) hst1.bd)
        have gXs:=Zh (t:=ZEX q .dfr) (hnx.gs (x:=x) (sb:=sb) (dp:=dp) hst1.bs)
        generalize hX:(nxS S x z2 z6 z9 sb dp).or (ZEX q .dfr)=X at *
        have n2:∀b o,S b=sO o→z2≠b:=fun b o h e=>by rw[←e,hnx.n2]at h;simp at h
        have n6:∀b o,S b=sO o→z6≠b:=fun b o h e=>by rw[←e,hnx.n6.2]at h;simp at h
        have n9:∀b o,S b=sO o→z9≠b:=fun b o h e=>by rw[←e,hnx.n9.2.2]at h;simp at h
        have u2:∀(Y:St) o,(Y.upd bd o) z2=Y z2:=fun Y o=>ZEJ _ _ (n2 _ _ hst1.bd)
        have u6:∀(Y:St) o,(Y.upd bd o) z6=Y z6:=fun Y o=>ZEJ _ _ (n6 _ _ hst1.bd)
        have u9:∀(Y:St) o,(Y.upd bd o) z9=Y z9:=fun Y o=>ZEJ _ _ (n9 _ _ hst1.bd)
        have ux:∀(Y:St) o,(Y.upd bd o) x=Y x:=fun Y o=>ZEJ _ _ hne.1
        have us:∀(Y:St) o,(Y.upd bd o) bs=Y bs:=fun Y o=>ZEJ _ _ hdd.symm
        have v2:∀(Y:St) o,(Y.upd bs o) z2=Y z2:=fun Y o=>ZEJ _ _ (n2 _ _ hst1.bs)
        have v6:∀(Y:St) o,(Y.upd bs o) z6=Y z6:=fun Y o=>ZEJ _ _ (n6 _ _ hst1.bs)
        have v9:∀(Y:St) o,(Y.upd bs o) z9=Y z9:=fun Y o=>ZEJ _ _ (n9 _ _ hst1.bs)
        have vx:∀(Y:St) o,(Y.upd bs o) x=Y x:=fun Y o=>ZEJ _ _ hne.2
        have d1:=ZoV (vD:=WZ) ZM m.name (D.int .i64 0) dl
        have d2:=ZaB (vD:=WZ) ZM m.name (dp+1) dl
        have s1:=ZoV (vD:=D.bool) ZM m.name (D.bool false) sl
        have s2:=ZaB (vD:=D.bool) ZM m.name sb sl
        simp only[show KK m.name=D.str m.name from rfl,show WZ (dp+1)=D.int .i64 (dp+1) from rfl]at d1 d2 s1 s2
        refine rx (nd2 @eQ2 (nd2 @gX2 (nd2 @gX6 (nd2 @gX9 (nd2 @gXx (nd2 @gXd (nd2 @gXs (nd2 @u2 (nd2 @u6 (nd2 @u9 (nd2 @ux (nd2 @us (nd2 @v2 (nd2 @v6 (nd2 @v9 (nd2 @vx (nd2 @d1 (nd2 @d2 (nd2 @s1 (nd2 @s2 (nd2 @e3 (nd2 @Ck.cells.eq_1 (nd2 @ZEI (nd2 @ZET (nd2 @Yl @Ym))))))))))))))))))))))))) ?_
        refine aa ?_
        refine rx (nd2 @u2 (nd2 @v2 (nd2 @gX2 (nd2 @u9 (nd2 @v9 @gX9))))) ?_
        have hX2:(X.upd bd (.map (K6 KK WZ (Wg m.name (dp+1) dl)))).upd bs (.map (K6 KK D.bool (Wg m.name sb sl)))=(nxS ((S.upd bd (.map (Ki (Wg m.name (dp+1) dl)))).upd bs (.map (Zdy (Wg m.name sb sl)))) x z2 z6 z9 sb dp).or (ZEX q .dfr):=by
         rw[←hX,Yq,Yq,hnx.ub hst1.bd,(hnx.of hst1.bd).ub (by rw[us];exact hst1.bs)]
        have hnx2:K4 ((S.upd bd (.map (Ki (Wg m.name (dp+1) dl)))).upd bs (.map (Zdy (Wg m.name sb sl)))) z2 z6 z9:=(hnx.of hst1.bd).of (by rw[us];exact hst1.bs)
        have hq2:(nxS ((S.upd bd (.map (Ki (Wg m.name (dp+1) dl)))).upd bs (.map (Zdy (Wg m.name sb sl)))) x z2 z6 z9 sb dp) q=nO:=by
         have hqb:q≠bs:=fun e=>by have:=hnx.gs (x:=x) (sb:=sb) (dp:=dp) hst1.bs;rw[←e,hq]at this;simp at this
         have hqd:q≠bd:=fun e=>by have:=hnx.gs (x:=x) (sb:=sb) (dp:=dp) hst1.bd;rw[←e,hq]at this;simp at this
         rw[←(hnx.of hst1.bd).ub (by rw[us];exact hst1.bs),←hnx.ub hst1.bd,ZEJ _ _ hqb,ZEJ _ _ hqd];exact hq
        have hx3:((X.upd bd (.map (K6 KK WZ (Wg m.name (dp+1) dl)))).upd bs (.map (K6 KK D.bool (Wg m.name sb sl)))) x=sO (.cells (({ k with field:=-1,m:=m }:Ck).cells bd bs)):=by rw[vx,ux];exact gXx
        refine cV (ZO hx3 (dC (dp<16)) 10) ?_ ?_
        ·rintro d S3 h
         obtain⟨hok3,rfl,rfl⟩:=YA h
         rw[hok3]at hS
         refine gR0 ?_
         rw[hX2]
         exact hF.fin1 hq2 (.tup []) _ rfl trivial (ZEF _) hnx2.sub (by rw[hS];exact⟨rfl,by rw[←hS1e]⟩)
        ·rintro d S3 h
         obtain⟨hok3,hfl,rfl⟩:=Yz h
         rw[hok3]at hS
         rw[hX2]
         exact hF.pan1 hq2 _ hnx2.sub (by rw[hS];exact⟨⟨d,hfl,rfl⟩,fun b h1 h2 h3=>by rw[ZEJ _ _ h3,ZEJ _ _ h2,←hS1e,ZEJ _ _ h1]⟩)
       ·intro q a m hm hno hgo;simp at hgo
       ·intro q a m id hm hno hgo;simp at hgo
       ·intro q a m d hm hno hgo;simp at hgo
       ·intro m c hgo;simp at hgo
      ·rintro d S2 ⟨y,hy,hd,_⟩
       cases hd
    have hkk:=key _ 0 rfl (-1) (by simp[Qh]) (by omega)
    rw[hS1e]at hkk
    exact hkk
   ·rintro d S h
    obtain⟨hok,hfl,rfl⟩:=Yz h
    rw[hok,ZE8]at hS
    exact hF.pan _ (ZEB _) (hbad _ hS hfl)
  ·rintro d S h
   obtain⟨hok,hfl,rfl⟩:=Yz h
   rw[hok,ZE8]at hS
   exact hF.pan _ (ZEB _) (hbad _ hS hfl)
 ·rintro d S h
  obtain⟨hok,hfl,rfl⟩:=Yz h
  rw[hok,ZE8]at hS
  exact hF.pan _ (ZEB _) (hbad _ hS hfl)
theorem ZoN{P}{F:Fr P}{ρ L d s}(h:DWf d→YN F ρ L d s):YN F ρ L d s :=
 fun g ν w v todo tmps hN m hr=>h hr.wf g ν w v todo tmps hN m hr
theorem DWf.iface_inv{t d}(h:DWf (.iface t d)):DWf d:=by
 cases h with
 |iface _ _ h=>exact h
 |other _ h=>exact absurd h (by simp)
theorem Za8{P i args m s Ψ Ψ'}(h:JA P i args m s Ψ)(hi:∀b S,Ψ b S→Ψ' b S):JA P i args m s Ψ' :=
 ⟨h.1,fun g w vs cf cs h1 h2 h3=>by
  obtain⟨g',w',s',b,a1,a2,a3,a4⟩:=h.2 g w vs cf cs h1 h2 h3
  exact⟨g',w',s',b,a1,a2,hi _ _ a3,a4⟩⟩
theorem Zf2{z3 z4 c b st}(h3:st z3=sO c)(h4:st z4=sO (.cells [.bool b])):
  JA ZEA 205 [.ptr z3 0,.ptr z4 0] nO st fun _ S=>S=st:=by
 refine ZbF (cR 205 f205) rfl (by simp) fun F hF=>?_
 refine rg ?_
 refine ZfH hF rfl rfl ?_
 refine gR0 ?_
 refine rg ?_
 refine cd (fun h=>?_) (fun h=>?_)
 ·simp at h
 ·refine ZD ?_
  exact hF.fin (ZEB _) rfl
theorem Zf3{z3 z4 b st}(hz:z3≠z4)(x y z)(hx:inR .i64 x)(hy:inR .i64 y)(hw:inR .i64 z)(h3:st z3=sO (.cells [.int .i64 0,.int .i64 0,.int .i64 0]))(h4:st z4=sO (.cells [.bool b])):
  JA ZEA 205 [.ptr z3 0,.ptr z4 0] (sO (Zg5 x y z)) st fun b S=>b=true∧S=(st.upd z3 (.cells [.int .i64 x,.int .i64 y,.int .i64 z])).upd z4 (.cells [.bool true]):=by
 refine ZbF (cR 205 f205) rfl (by rintro d ⟨⟩;exact⟨hx,hy,hw,trivial⟩) fun F hF=>?_
 have h4b:∀o,(st.upd z3 o) z4=sO (.cells [.bool b]):=fun o=>by rw[ZEJ _ _ (Ne.symm hz)];exact h4
 refine rg ?_
 refine Zl0 hF rfl rfl fun F2 hF2=>?_
 refine gR0 ?_
 refine rx @Zg5.eq_1 ?_
 refine cd (fun h=>?_) (fun h=>?_)
 ·refine rx (nd2 @Zg5.eq_1 (nd2 @h3 (nd2 @h4 (nd2 @h4b (nd2 @ZEI (nd2 @ZET (nd2 @Yl @Ym))))))) ?_
  refine rx (nd2 @h4 (nd2 @h4b (nd2 @ZEI (nd2 @ZET (nd2 @Yl @Ym))))) ?_
  refine cd (fun h5=>?_) (fun h5=>?_)
  ·simp at h5
  ·refine ZD ?_
   exact hF2.fin (ZEB _) ⟨rfl,rfl⟩
 ·simp[Zg5]at h
def Zb6(dl:List (Str×Int))(sl:List (Str×Bool)):List Msg→Option (List (Str×Int)×List (Str×Bool))
 | []=>sO (dl,sl)
 |m::r=>if Zdk dl sl m then Zb6 (Wg m.name (Ka dl m+1) dl) (Wg m.name (Q7 sl m) sl) r else nO
def Zc5(d:Dfn):Bool :=
 YE d.name&&((dC (1≤(d.msgs.length:Int))&&dC ((d.msgs.length:Int)≤60))&&(Zb6 [] [] d.msgs).elim false fun p=>(Zp d.start p.1).isSome)
theorem ZkV(dl sl l l'):Zb6 dl sl (l++l')=(Zb6 dl sl l).elim nO fun p=>Zb6 p.1 p.2 l':=by
 induction l generalizing dl sl with
 |nil=>rfl
 |cons m r ih =>
  simp only[List.cons_append,Zb6]
  split
  ·exact ih _ _
  ·rfl
theorem Zpp{l:List Msg}{i dl sl}(h:Zb6 [] [] (l.take i)=sO (dl,sl))(hi:i<l.length):Zb6 [] [] (l.take (i+1))=if Zdk dl sl (l.getD i dE) then sO (Wg (l.getD i dE).name (Ka dl (l.getD i dE)+1) dl,Wg (l.getD i dE).name (Q7 sl (l.getD i dE)) sl) else nO:=by
 rw[Yj hi,ZkV,h];rfl
theorem Zyh{l i dl sl}(h:Zb6 [] [] (l.take i)=sO (dl,sl))(hi:i<l.length)(hb:Zdk dl sl (l.getD i dE)=false):Zb6 [] [] l=nO:=by
 have h1:=Zpp h hi
 rw[hb]at h1
 rw[←List.take_append_drop (i+1) l,ZkV,h1]
 rfl
structure ZaT(S st:St)(x bd bs z3 z4:Nat)(k:Ck)(dl:List (Str×Int))(sl:List (Str×Bool)):Prop where
 ck:KV S x bd bs k dl sl
 c3:S z3=some (.cells [.int .i64 0,.int .i64 0,.int .i64 0])
 c4:S z4=some (.cells [.bool false])
 sub:st.sub S
 fx:st x=none
 fd:st bd=none
 fs:st bs=none
 f3:st z3=none
 f4:st z4=none
 nd:bd≠bs
 n34:z3≠z4
section
variable {S st:St} {x bd bs z3 z4:Nat} {k:Ck} {dl:List (Str × Int)} {sl:List (Str × Bool)}
theorem ZaT.n3(h:ZaT S st x bd bs z3 z4 k dl sl):z3≠x∧z3≠bd∧z3≠bs:=by
 refine⟨fun e=>?_,fun e=>?_,fun e=>?_⟩
 ·have h3:=h.c3;rw[e,h.ck.x]at h3;simp[Ck.cells]at h3
 ·have h3:=h.c3;rw[e,h.ck.bd]at h3;simp at h3
 ·have h3:=h.c3;rw[e,h.ck.bs]at h3;simp at h3
theorem ZaT.n4(h:ZaT S st x bd bs z3 z4 k dl sl):z4≠x∧z4≠bd∧z4≠bs:=by
 refine⟨fun e=>?_,fun e=>?_,fun e=>?_⟩
 ·have h3:=h.c4;rw[e,h.ck.x]at h3;simp[Ck.cells]at h3
 ·have h3:=h.c4;rw[e,h.ck.bd]at h3;simp at h3
 ·have h3:=h.c4;rw[e,h.ck.bs]at h3;simp at h3
theorem ZaT.move(h:ZaT S st x bd bs z3 z4 k dl sl){S':St}{k':Ck}{dl':List (Str×Int)}{sl':List (Str×Bool)}(hc:KV S' x bd bs k' dl' sl')(ho:∀b,b≠x→b≠bd→b≠bs→S' b=S b):ZaT S' st x bd bs z3 z4 k' dl' sl':={
 ck:=hc
 c3:=by rw[ho _ h.n3.1 h.n3.2.1 h.n3.2.2];exact h.c3
 c4:=by rw[ho _ h.n4.1 h.n4.2.1 h.n4.2.2];exact h.c4
 sub b o hb:=by
  rw[ho b (fun e=>by rw[e,h.fx]at hb;simp at hb) (fun e=>by rw[e,h.fd]at hb;simp at hb) (fun e=>by rw[e,h.fs]at hb;simp at hb)];exact h.sub b o hb
 fx:=h.fx
 fd:=h.fd
 fs:=h.fs
 f3:=h.f3
 f4:=h.f4
 nd:=h.nd
 n34:=h.n34 }
theorem ZaT.updX(h:ZaT S st x bd bs z3 z4 k dl sl)(k'):ZaT (S.upd x (.cells (k'.cells bd bs))) st x bd bs z3 z4 k' dl sl :=
 h.move (h.ck.updX k') fun b h1 _ _=>ZEJ _ _ h1
theorem ZaT.bad(h:ZaT S st x bd bs z3 z4 k dl sl){S':St}(ho:∀b,b≠x→b≠bd→b≠bs→S' b=S b){F:Fr ZEA}(hF:Yy F [.tmp 2,.cellN 3 3,.cell1 4] (fun r S=>S=st∧∃a f c,r=Res.ret (.tup [.any,.agg [.int .i64 a,.int .i64 f,.int .i64 c],.bool true])) [.fn 205 [] [.ptr z3 0,.ptr z4 0]]){d:D}(hd:ZcT d)(hr:∀s' c3,s' z3=sO (.cells c3)→c3.length=3→s' z4=sO (.cells [.bool true])→∃p,Yk ρ L s' [.tmp 2,.cellN 3 3,.cell1 4]=sO (p,[.ptr x 0,.agg c3,.bool true])∧p):YN F ρ L d S':=by
 obtain⟨a,f,c,rfl⟩:=hd
 refine ZoN fun hw=>?_
 have hw2:=DWf.agg_inv (DWf.iface_inv hw)
 have h1:inR .i64 a:=(hw2 _ (by simp)).int_inv
 have h2:inR .i64 f:=(hw2 _ (by simp)).int_inv
 have h3:inR .i64 c:=(hw2 _ (by simp)).int_inv
 have z3':S' z3=sO (.cells [.int .i64 0,.int .i64 0,.int .i64 0]):=by rw[ho _ h.n3.1 h.n3.2.1 h.n3.2.2];exact h.c3
 have z4':S' z4=sO (.cells [.bool false]):=by rw[ho _ h.n4.1 h.n4.2.1 h.n4.2.2];exact h.c4
 refine hF.panU ⟨trivial,⟨rfl,rfl,trivial⟩,Za8 (Zf3 h.n34 a f c h1 h2 h3 z3' z4') ?_⟩
 rintro b S2 ⟨rfl,rfl⟩
 obtain⟨p,hp1,hp2⟩:=hr ((S'.upd z3 (.cells [.int .i64 a,.int .i64 f,.int .i64 c])).upd z4 (.cells [.bool true])) [.int .i64 a,.int .i64 f,.int .i64 c] (by rw[ZEJ _ _ h.n34,ZEI]) rfl (ZEI _ _ _)
 refine⟨p,_,_,st,hp1,hp2,?_,?_,rfl,a,f,c,rfl⟩
 ·exact Zgc rfl (.cons (fun _ _ v _=>.any v) (LeC.refl _))
 ·intro b o hb
  have e1:b≠z3:=fun e=>by rw[e,h.f3]at hb;simp at hb
  have e2:b≠z4:=fun e=>by rw[e,h.f4]at hb;simp at hb
  rw[ZEJ _ _ e2,ZEJ _ _ e1]
  rw[ho b (fun e=>by rw[e,h.fx]at hb;simp at hb) (fun e=>by rw[e,h.fd]at hb;simp at hb) (fun e=>by rw[e,h.fs]at hb;simp at hb)];exact h.sub b o hb
end
theorem ZaT.mk0{st bd bs x z3 z4 c}(hbd:st bd=nO)(hbs:st.upd bd (.map []) bs=nO)(hx:(st.upd bd (.map [])).upd bs (.map []) x=nO)(h3:((st.upd bd (.map [])).upd bs (.map [])).upd x (.cells c) z3=nO)(h4:(((st.upd bd (.map [])).upd bs (.map [])).upd x (.cells c)).upd z3 (.cells [.int .i64 0,.int .i64 0,.int .i64 0]) z4=nO)(k):
  ((((st.upd bd (.map [])).upd bs (.map [])).upd x (.cells c)).upd z3 (.cells [.int .i64 0,.int .i64 0,.int .i64 0])).upd z4 (.cells [.bool false]) x=sO (.cells c) ∧
  ZaT ((((((st.upd bd (.map [])).upd bs (.map [])).upd x (.cells c)).upd z3 (.cells [.int .i64 0,.int .i64 0,.int .i64 0])).upd z4 (.cells [.bool false])).upd x (.cells (k.cells bd bs))) st x bd bs z3 z4 k [] []:=by
 have a4:=Zn h4
 have b4:=Zn a4.2
 have c4:=Zn b4.2
 have d4:=Zn c4.2
 have a3:=Zn h3
 have b3:=Zn a3.2
 have c3:=Zn b3.2
 have ax:=Zn hx
 have bx:=Zn ax.2
 have as1:=Zn hbs
 refine⟨?_,⟨⟨?_,?_,?_⟩,?_,?_,?_,?_,?_,?_,?_,?_,?_,?_⟩⟩
 ·rw[ZEJ _ _ b4.1.symm,ZEJ _ _ a3.1.symm,ZEI]
 ·exact ZEI _ _ _
 ·rw[ZEJ _ _ bx.1.symm,ZEJ _ _ d4.1.symm,ZEJ _ _ c3.1.symm,ZEJ _ _ bx.1.symm,ZEJ _ _ as1.1.symm,ZEI];rfl
 ·rw[ZEJ _ _ ax.1.symm,ZEJ _ _ c4.1.symm,ZEJ _ _ b3.1.symm,ZEJ _ _ ax.1.symm,ZEI];rfl
 ·rw[ZEJ _ _ a3.1,ZEJ _ _ a4.1.symm,ZEI]
 ·rw[ZEJ _ _ b4.1,ZEI]
 ·intro b o hb
  have e:∀y,st y=nO→b≠y:=fun y hy e=>by rw[e,hy]at hb;simp at hb
  rw[ZEJ _ _ (e _ bx.2),ZEJ _ _ (e _ d4.2),ZEJ _ _ (e _ c3.2),ZEJ _ _ (e _ bx.2),ZEJ _ _ (e _ as1.2),ZEJ _ _ (e _ hbd)];exact hb
 ·exact bx.2
 ·exact hbd
 ·exact as1.2
 ·exact c3.2
 ·exact d4.2
 ·exact as1.1.symm
 ·exact a4.1.symm
theorem ZuD{c:List D}(h:c.length=3):∃a b d,c=[a,b,d]:=by
 match c,h with
 | [a,b,d],_=>exact⟨a,b,d,rfl⟩
theorem Zi5(d st):
  Zb ZEA 158 [.agg d.cells] st fun r S=>S=st∧∃a f c,r=.ret (.tup [.any,.agg [.int .i64 a,.int .i64 f,.int .i64 c],.bool (!Zc5 d)]):=by
 refine Zc (cR 158 f158) fun F hF=>?_
 have hS:=Zc5.eq_1 d
 refine rx @eQ3 ?_
 refine rx @eQ3 ?_
 intro bd hbd bs hbs
 refine Za ?_
 refine xP 13 fun x hx=>?_
 refine xP 3 fun z3 h3=>?_
 refine xP 4 fun z4 h4=>?_
 refine rg ?_
 refine Zk5 (by obtain⟨_,_,_,_,_,_,rfl⟩:=hF;rfl) rfl rfl rfl rfl rfl rfl trivial trivial ?_ ?_ ?_
 ·trivial
 ·exact⟨rfl,rfl,trivial⟩
 have hF':=hF.defer 205 [] [.ptr z3 0,.ptr z4 0]
 clear hF
 refine gR0 ?_
 generalize F.defer 205 [] [.ptr z3 0,.ptr z4 0]=F at hF'⊢
 obtain⟨hx0,hex⟩:=ZaT.mk0 hbd hbs hx h3 h4 ⟨d,-1,-1,⟨[],[]⟩⟩
 refine QZ hx0 (ds':=Ck.cells ⟨d,-1,-1,⟨[],[]⟩⟩ bd bs) (.cons (ZEF _) (.cons (ZEF _) (.cons (ZEF _) (.cons (ZEF _) (.cons (ZEF _) (.cons (ZEF _) (.cons (ZEF _) (.cons (ZEF _) (.cons (Kl fun b h=>by cases h) .nil))))))))) ?_
 generalize (ZFc (ZFc (ZFc (ZFc (ZFc (ZFc st _ _) _ _) _ _) _ _) _ _) _ _)=S at *
 clear hbd hbs hx h3 h4 hx0
 refine rx @eQ3 ?_
 refine cl (Jr d.name) ?_
 refine cV (ZO hex.ck.x (YE d.name) 1) ?_ ?_
 ·rintro dd S2 h
  obtain⟨hok,rfl,rfl⟩:=YA h
  rw[hok,ZE1]at hS
  refine gR0 ?_
  refine rx (nd2 @eQ3 (nd2 @Wh.eq_1 @eQ1)) ?_
  refine cV (ZO hex.ck.x (dC (1≤(d.msgs.length:Int))&&dC ((d.msgs.length:Int)≤60)) 3) ?_ ?_
  ·rintro dd S2 h
   obtain⟨hok,rfl,rfl⟩:=YA h
   rw[hok,ZE1]at hS
   simp only[ZEK,decide_eq_true_eq]at hok
   have hlen:=hok.2
   refine gR0 ?_
   refine rx (nd2 @eQ3 (nd2 @Wh.eq_1 @eQ1)) ?_
   generalize hkk:(⟨d,-1,-1,⟨[],[]⟩⟩:Ck)=k0 at *
   have hk0:k0.d=d:=by rw[←hkk]
   clear hkk
   refine Zd (fr (d.msgs.length) (fun i Q=>∀(S:St) (k:Ck) dl sl,ZaT S st x bd bs z3 z4 k dl sl→k.d=d→Zb6 [] [] (d.msgs.take i)=sO (dl,sl)→(∀s,0≤(Zp s dl).getD 0∧(Zp s dl).getD 0≤16)→i≤d.msgs.length→Q [(1,.loc 1 0),(2,.d (.ptr x 0)),(3,.d (.ptr z3 0)),(4,.d (.ptr z4 0)),(33,.d (Wh d.msgs)),(34,.d (.int .i64 d.msgs.length)),(35,.d (.int .i64 i))] [(1,d.cells)] S) (fun n ih_key=>?_) fun key=>?_)
   ·intro i hni S k dl sl hex hkd hrun hdl hi
    refine rg ?_
    refine Za (Zq rfl trivial (fun h1=>?_) (fun h1=>?_))
    ·simp at h1
     refine rx (nd2 @Wh.eq_1 (nd2 @eQ1 @eQ2)) ?_
     refine aa ?_
     refine rx (nd2 @hex.ck.x (nd2 @Ck.cells.eq_1 (nd2 @ZEI (nd2 @ZET (nd2 @Yl @Ym))))) ?_
     have hcx:(S.upd x (.cells [.str k.d.name,Wh k.d.msgs,.str k.d.start,.map bd,.map bs,.int .i64 i,.int .i64 k.field,.str k.m.name,Zr k.m.fields]))=S.upd x (.cells (({ k with at_:=i }:Ck).cells bd bs)):=rfl
     rw[hcx]
     have hex1:=hex.updX { k with at_:=i }
     generalize S.upd x (.cells (({ k with at_:=i }:Ck).cells bd bs))=S1 at *
     have hk1d:({ k with at_:=(i:Int) }:Ck).d=d:=hkd
     clear hcx hex
     generalize ({ k with at_:=i }:Ck)=k1 at *
     have hrt:=Zpp hrun h1
     have hrb:=Zyh hrun h1
     generalize hm:d.msgs.getD i dE=m at *
     refine rx @hm ?_
     rw[show(D.agg [.str m.name,Zr m.fields])=.agg m.cells from rfl]
     refine cV (Zoi hex1.ck hex1.nd hdl m) ?_ ?_
     ·rintro dd S2 h
      unfold Zec at h
      split at h
      ·rename_i hok
       rw[if_pos hok]at hrt
       obtain⟨h4,h5⟩:=h
       cases h4
       have hex2:=hex1.move (S':=S2) (k':={ k1 with field:=-1,m:=m }) (dl':=Wg m.name (Ka dl m+1) dl) (sl':=Wg m.name (Q7 sl m) sl) (by
         subst h5
         have hne:=hex1.ck.ne
         exact⟨by rw[ZEJ _ _ hne.2,ZEJ _ _ hne.1,ZEI],by rw[ZEJ _ _ hex1.nd,ZEI],ZEI _ _ _⟩) (fun b h1 h2 h3=>by rw[h5,ZEJ _ _ h3,ZEJ _ _ h2,ZEJ _ _ h1])
       have hdl2:∀s,0≤(Zp s (Wg m.name (Ka dl m+1) dl)).getD 0∧(Zp s (Wg m.name (Ka dl m+1) dl)).getD 0≤16:=fun s=>by
        rw[Ku]
        split
        ·have hd16:=ZhM (m:=m) hdl
         have:Ka dl m<16:=by
          unfold Zdk at hok
          simp only[ZEK,decide_eq_true_eq]at hok
          exact hok.2.2.2.2
         simp only[ZFe];omega
        ·exact hdl s
       clear h5
       refine gR0 ?_
       refine rg ?_
       refine aa ?_
       refine Zi ?_
       exact ih_key ((d.msgs.length)-(i+1)) (by omega) (i+1) rfl _ _ _ _ hex2 hk1d hrt hdl2 (by omega)
      ·exact absurd h.1 (by simp)
     ·rintro dd S2 h
      unfold Zec at h
      split at h
      ·exact absurd h.1 (by simp)
      ·rename_i hbad
       obtain⟨⟨d2,hfl,h4⟩,h5⟩:=h
       cases h4
       have hb:Zdk dl sl m=false:=by simpa using hbad
       rw[hrb hb]at hS
       exact hex1.bad h5 (by rw[hS]at hF';exact hF') hfl (fun s' c3 h1 h2 h3=>by obtain⟨u1,u2,u3,rfl⟩:=ZuD h2;refine⟨_,by simp only[Eqs,reduceCtorEq,ZEG,reduceIte,ZED,ZEH,ZEE,Yk,WF,h1,h3];rfl,?_⟩;trivial)
    ·simp at h1
     obtain rfl:i=d.msgs.length:=by omega
     rw[ZFa]at hrun
     rw[hrun]at hS
     simp only[Option.elim]at hS
     refine rx (nd2 @hex.ck.x (nd2 @Ck.cells.eq_1 (nd2 @ZEI (nd2 @ZET (nd2 @Yl @Ym))))) ?_
     have hcx:(S.upd x (.cells [.str k.d.name,Wh k.d.msgs,.str k.d.start,.map bd,.map bs,.int .i64 (-1),.int .i64 k.field,.str k.m.name,Zr k.m.fields]))=S.upd x (.cells (({ k with at_:=-1 }:Ck).cells bd bs)):=rfl
     rw[hcx]
     have hex1:=hex.updX { k with at_:=-1 }
     generalize S.upd x (.cells (({ k with at_:=-1 }:Ck).cells bd bs))=S1 at *
     clear hcx hex
     generalize ({ k with at_:=-1 }:Ck)=k1 at *
     have e1:=YO (vD:=WZ) ZM d.start dl
     have e3:=Wb ZM d.start
     simp only[show KK d.start=D.str d.start from rfl]at e1 e3
     refine rh ?_
     refine Y9 ?_
     simp only[Eqs,reduceCtorEq,ZEG,reduceIte,ZED,ZEH,ZEE,Dfn.cells,hex1.ck.x,hex1.ck.bd,Ck.cells,e1,e3,Zlz]
     refine rg ?_
     refine cV (ZO hex1.ck.x (Zp d.start dl).isSome 11) ?_ ?_
     ·rintro dd S2 h
      obtain⟨hok,rfl,rfl⟩:=YA h
      rw[hok]at hS
      refine gR0 ?_
      have h4b:∀o,(S2.upd z3 o) z4=sO (.cells [.bool false]):=fun o=>by rw[ZEJ _ _ hex1.n34.symm];exact hex1.c4
      refine rx (nd2 @hex1.c3 (nd2 @hex1.c4 (nd2 @h4b (nd2 @ZEI (nd2 @ZET (nd2 @Yl @Ym)))))) ?_
      refine hF'.retU ⟨trivial,⟨rfl,rfl,trivial⟩,Za8 (Zf2 (by rw[ZEJ _ _ hex1.n34,ZEI]) (ZEI _ _ _)) ?_⟩
      rintro b S3 rfl
      rw[ite_self]
      have g3:((S2.upd z3 (.cells [.int .i64 0,.int .i64 0,.int .i64 0])).upd z4 (.cells [.bool false])) z3=sO (.cells [.int .i64 0,.int .i64 0,.int .i64 0]):=by rw[ZEJ _ _ hex1.n34,ZEI]
      have g4:((S2.upd z3 (.cells [.int .i64 0,.int .i64 0,.int .i64 0])).upd z4 (.cells [.bool false])) z4=sO (.cells [.bool false]):=ZEI _ _ _
      refine⟨_,[.ptr x 0,.agg [.int .i64 0,.int .i64 0,.int .i64 0],.bool false],.tup [.any,.agg [.int .i64 0,.int .i64 0,.int .i64 0],.bool false],st,by simp only[Eqs,reduceCtorEq,ZEG,reduceIte,ZED,ZEH,ZEE,Yk,WF,g3,g4];rfl,by trivial,?_,?_,rfl,0,0,0,by rw[hS];rfl⟩
      ·exact Zgc rfl (.cons (fun _ _ v _=>.any v) (LeC.refl _))
      ·intro b o hb
       have e1:b≠z3:=fun e=>by rw[e,hex1.f3]at hb;simp at hb
       have e2:b≠z4:=fun e=>by rw[e,hex1.f4]at hb;simp at hb
       rw[ZEJ _ _ e2,ZEJ _ _ e1]
       exact hex1.sub b o hb
     ·rintro dd S2 h
      obtain⟨hok,hfl,rfl⟩:=Yz h
      rw[hok]at hS
      exact hex1.bad (fun _ _ _ _=>rfl) (by rw[hS]at hF';exact hF') hfl (fun s' c3 h1 h2 h3=>by obtain⟨u1,u2,u3,rfl⟩:=ZuD h2;refine⟨_,by simp only[Eqs,reduceCtorEq,ZEG,reduceIte,ZED,ZEH,ZEE,Yk,WF,h1,h3];rfl,?_⟩;trivial)
   exact key _ 0 rfl _ k0 [] [] hex hk0 rfl (by simp[Zp]) (by omega)
  ·rintro dd S2 h
   obtain⟨hok,hfl,rfl⟩:=Yz h
   rw[hok,ZE8]at hS
   exact hex.bad (fun _ _ _ _=>rfl) (by rw[hS]at hF';exact hF') hfl (fun s' c3 h1 h2 h3=>by obtain⟨u1,u2,u3,rfl⟩:=ZuD h2;refine⟨_,by simp only[Eqs,reduceCtorEq,ZEG,reduceIte,ZED,ZEH,ZEE,Yk,WF,h1,h3];rfl,?_⟩;trivial)
 ·rintro dd S2 h
  obtain⟨hok,hfl,rfl⟩:=Yz h
  rw[hok,ZE8]at hS
  exact hex.bad (fun _ _ _ _=>rfl) (by rw[hS]at hF';exact hF') hfl (fun s' c3 h1 h2 h3=>by obtain⟨u1,u2,u3,rfl⟩:=ZuD h2;refine⟨_,by simp only[Eqs,reduceCtorEq,ZEG,reduceIte,ZED,ZEH,ZEE,Yk,WF,h1,h3];rfl,?_⟩;trivial)
theorem Zm9(d st):
  Zb ZEA 112 [.agg d.cells] st fun r S=>S=st∧∃a f c,r=.ret (.tup [.agg [.int .i64 a,.int .i64 f,.int .i64 c],.bool (!Zc5 d)]):=by
 refine Zc (cR 112 f112) fun F hF=>?_
 refine rx @eQ3 ?_
 refine rx @eQ3 ?_
 rw[show(D.agg [.str d.name,Wh d.msgs,.str d.start])=.agg d.cells from rfl]
 refine cV (Zi5 d st) ?_ ?_
 ·rintro dd S2 ⟨rfl,a,f,c,h⟩
  cases h
  refine gR0 ?_
  refine rg ?_
  exact hF.ret _ S2 rfl (by simp) (ZEF _) (ZEB _) ⟨rfl,a,f,c,rfl⟩
 ·rintro dd S2 ⟨_,a,f,c,h⟩
  cases h
theorem Zuc{f}(hk:QP f=true):dC (Zem f=Zd4 f.name f.kind)=Zkg f:=by
 unfold QP at hk
 simp only[ZEK,decide_eq_true_eq]at hk
 have hk2:f.kind=1∨f.kind=2∨f.kind=3∨f.kind=4∨f.kind=5∨f.kind=6∨f.kind=7∨f.kind=8∨f.kind=9∨f.kind=10∨f.kind=11∨f.kind=12:=by omega
 obtain⟨name,kind,bits,little,loose,low,high,size,of,tag,from_,cases_,check,key⟩:=f
 obtain⟨base,terms⟩:=size
 simp only at hk2
 clear hk
 rw[Bool.eq_iff_iff]
 rcases hk2 with h|h|h|h|h|h|h|h|h|h|h|h<;>subst h<;>simp[Zem,ZqW,ZqX,ZqY,Zmc,ZqZ,Zq0,Zmd,Zq1,Zme,ZnX,ZnY,ZjR,Zd4,Zkg,zrA,zrB,zrC,Zny,Zvk,ZbV]<;>(try(constructor<;>(intro h;simp_all)))<;>(try(intro _;simp only[and_assoc]))
theorem ZoF(lo hi a b):Yn lo hi [a,b]=!(dC (a<lo) ||(dC (b<a) ||decide (hi<b))):=by
 rw[Bool.eq_iff_iff]
 simp[Yn]
 omega
theorem ZyL(f):ZcE f=!ZdZ f:=by
 rw[Bool.eq_iff_iff]
 unfold ZcE ZdZ
 cases f.little<;>simp
 by_cases h0:0≤f.bits
 ·rw[Int.tmod_eq_emod_of_nonneg h0];omega
 ·omega
theorem ZkD{α p}{l:List α}{x:α}:Zg p (l++[x])=if 0≤Zg p l then Zg p l else if p x then l.length else -1:=by
 induction l with
 |nil=>simp[Zg]
 |cons y r ih =>
  have h1:=Jw p r
  simp only[List.cons_append,Zg,ih,ZER]
  split
  ·simp
  ·by_cases h:0≤Zg p r
   ·simp[h,show ¬Zg p r<0 by omega,show 0≤Zg p r+1 by omega]
   ·simp only[h,if_false,show Zg p r<0 by omega,if_true]
    by_cases hx:p x=true
    ·simp[hx,show ¬((r.length:Int)<0) by omega]
    ·simp[hx]
def Zh8(fs:List Fld)(n:Nat):Prop:=∀i,i<n→Zg (fun x=>dC (x.name=(fs.getD i dE).name)) (fs.take i)<0
theorem J9{α}(p:α→Bool)(l:List α)(h:0≤Zg p l):(Zg p l).toNat<l.length:=by
 have:=WM p l;omega
theorem ZrZ{fs n}(hn:n≤fs.length)(hd:Zh8 fs n)(k):Zp k (Jp fs n)=WA (fs.take n) k:=by
 induction n with
 |zero=>simp[Jp,Zp,WA,Zg]
 |succ n ih =>
  have ih:=ih (by omega) fun i hi=>hd i (by omega)
  have hdn:=hd n (by omega)
  rw[Yj (show n<fs.length by omega)]
  have hlen:(fs.take n).length=n:=by simp;omega
  simp only[Jp]
  generalize fs.getD n dE=f at *
  unfold WA
  rw[ZkD]
  by_cases hk:f.name=k
  ·rw[hk]at hdn
   rw[if_neg (show ¬0≤Zg (fun f=>dC (f.name=k)) (fs.take n) by omega)]
   simp only[hk,decide_true,if_true,hlen,show ¬((n:Int)<0) by omega,if_false]
   have hg:(fs.take n++[f]).getD ((n:Int)).toNat dE=f:=by simp[ZES,List.getElem?_append,hlen]
   rw[hg]
   split
   ·rw[Ku,if_pos rfl]
   ·rw[ih];unfold WA;rw[if_pos hdn]
  ·have hk2:¬k=f.name:=fun h=>hk h.symm
   have h0:Zp k (if Yv f=true then Wg f.name (Kr f) (Jp fs n) else Jp fs n)=Zp k (Jp fs n):=by
    split
    ·rw[Ku,if_neg hk2]
    ·rfl
   rw[h0,ih]
   unfold WA
   simp only[hk,decide_false,ZE3,if_false]
   by_cases hp:0≤Zg (fun f=>dC (f.name=k)) (fs.take n)
   ·have hl:=J9 _ _ hp
    rw[if_pos hp]
    have hg:(fs.take n++[f]).getD (Zg (fun f=>dC (f.name=k)) (fs.take n)).toNat dE=(fs.take n).getD (Zg (fun f=>dC (f.name=k)) (fs.take n)).toNat dE:=by
     simp[ZES,ZE7 hl]
    rw[hg]
   ·rw[if_neg hp,if_pos (by omega),if_pos (by omega)]
structure ZbK(d:Dfn)(a:Nat)(deps:List Int)(dl:List (Str×Int))(sl:List (Str×Bool)):Prop where
 len:deps.length=a
 dep:∀s,Zp s dl=if ZF d s a<0 then none else some (deps.getD (ZF d s a).toNat default)
 str:∀s,Zp s sl=if ZF d s a<0 then none else some ((Kw d a).getD (ZF d s a).toNat default)
theorem ZbK.has{d a deps dl sl}(h:ZbK d a deps dl sl)(s):(Zp s dl).isSome=!dC (ZF d s a<0):=by
 rw[h.dep];split<;>simp_all
theorem ZbK.strict{d a deps dl sl}(h:ZbK d a deps dl sl)(s):(Zp s sl).getD false=(!dC (ZF d s a<0)&&(Kw d a).getD (ZF d s a).toNat dE):=by
 rw[h.str];split<;>simp_all
theorem ZAm{f}(hk:f.kind=1∨f.kind=2):(if f.kind=1 then ck1 f else ck2 f)=dC (ZaJ f=0):=by
 unfold ck1 ck2 ZaJ ZrA ZlR
 rw[ZyL,ZoF]
 cases hb:ZdZ f
 ·have hp:(0:Int)<2 ^ f.bits.toNat:=by
   have:=Nat.two_pow_pos f.bits.toNat
   rw[show(2:Int) ^ f.bits.toNat=((2 ^ f.bits.toNat:Nat):Int) from(Int.natCast_pow 2 f.bits.toNat).symm]
   omega
  generalize (2:Int) ^ f.bits.toNat=pw at *
  rcases hk with hk|hk<;>rw[Bool.eq_iff_iff]<;>simp[hk,Yn]<;>(try split)<;>(try omega)
  all_goals (try simp_all)<;>omega
 ·simp
theorem ZlM{fs}(hd:Zh8 fs fs.length)(s):ZeO fs s=dC (Zda fs s=0):=by
 have hL:(fun k=>Zp k (Qa fs))=WA fs:=by
  funext k
  have:=ZrZ (ZEP _) hd k
  rw[ZFa]at this;exact this
 unfold ZeO Zda ivP
 rw[hL]
 have hk:s.terms.all (ZbY fs)=!s.terms.any (Ji (WA fs)):=by
  rw[List.not_any_eq_all_not]
  congr 1;funext t
  have:Zp t.field (Qa fs)=WA fs t.field:=congrFun hL _
  unfold ZbY Ji;rw[this];simp
 rw[hk]
 cases Z1 s
 ·simp
 ·cases s.terms.any (Ji (WA fs))
  ·simp only[ZE1,Bool.not_false,ZE3,if_false,Bool.true_eq_false]
   rw[Bool.eq_iff_iff]
   simp
   omega
  ·simp
theorem Zxd{d a deps dl sl}(h:ZbK d a deps dl sl)(hi lo l):ZbR dl hi lo l=dC (Zeg d a hi lo l=0):=by
 induction l generalizing lo with
 |nil=>simp[ZbR,Zeg]
 |cons c r ih =>
  simp only[ZbR,Zeg,ZoF,h.has,ih]
  rcases Bool.eq_false_or_eq_true (dC (c.low<lo) ||(dC (c.high<c.low) ||decide (hi<c.high))) with hb|hb<;>simp only[hb]
  ·simp
  ·simp only[Bool.not_false,ZE1,ZE3,if_false]
   by_cases h2:ZF d c.of a<0<;>simp[h2]
theorem Zxq{fs}(hd:Zh8 fs fs.length)(k):(Zp k (Qa fs)).isSome=(!dC (Zg (fun f=>dC (f.name=k)) fs<0)&&Yv (fs.getD (Zg (fun f=>dC (f.name=k)) fs).toNat dE)) ∧
  ((Zp k (Qa fs)).isSome=true→(Zp k (Qa fs)).getD (0,0)=Kr (fs.getD (Zg (fun f=>dC (f.name=k)) fs).toNat dE)):=by
 have:=ZrZ (ZEP _) hd k
 rw[ZFa]at this
 rw[this]
 unfold WA
 split
 ·rename_i h;simp[h]
 ·rename_i h
  split
  ·rename_i h2;simp only[h,h2];simp
  ·rename_i h2;simp only[h,h2];simp
theorem ZxM{d a deps dl sl}(h:ZbK d a deps dl sl){m i}(hi:i<m.fields.length)(hd:Zh8 m.fields i){f}(hk:QP f=true):
  Zei (m.fields.take i) dl sl f=dC (Zav d a m i f=0):=by
 have hfl:(m.fields.take i).length=i:=by simp;omega
 have hd2:Zh8 (m.fields.take i) (m.fields.take i).length:=fun j hj=>by
  rw[hfl]at hj
  rw[Q8 (by omega),List.take_take,Nat.min_eq_left (by omega)];exact hd j hj
 unfold QP at hk
 simp only[ZEK,decide_eq_true_eq]at hk
 have hk2:f.kind=1∨f.kind=2∨f.kind=3∨f.kind=4∨f.kind=5∨f.kind=6∨f.kind=7∨f.kind=8∨f.kind=9∨f.kind=10∨f.kind=11∨f.kind=12:=by omega
 have hn:=ZAm (f:=f)
 unfold Zei Zav
 rcases hk2 with h1|h1|h1|h1|h1|h1|h1|h1|h1|h1|h1|h1<;>simp only[h1,Int.reduceEq,if_true,if_false,true_or,or_true,or_self,forall_const,false_implies]at hn⊢
 ·exact hn
 ·exact hn
 ·unfold ck3;rw[ZoF,Zqj]
  by_cases hA:0≤f.low∧f.low≤f.high∧f.high<34359738368
  ·simp[hA];omega
  ·rw[Bool.eq_iff_iff];simp;omega
 ·exact ZlM hd2 _
 ·unfold ck5;rw[Bool.eq_iff_iff];simp[Yn]<;>omega
 ·unfold ck6;rw[Bool.eq_iff_iff];simp[Yn]<;>omega
 ·unfold ck7;rw[h.has,ZlM hd2]
  by_cases h2:ZF d f.of a<0<;>simp[h2]
 ·unfold ck8;rw[h.has]
  by_cases h2:ZF d f.of a<0<;>simp[h2]
 ·have ht:=Zxq hd2 f.tag
  unfold Zig Zil ZqO
  rw[Zxd h]
  have hff:Ja m f.tag i=Zg (fun f'=>dC (f'.name=f.tag)) (m.fields.take i):=rfl
  rw[hff]
  have htt:ZtI m f.tag i=ZeW (m.fields.take i) f:=rfl
  rw[htt]
  generalize hz:Zg (fun f'=>dC (f'.name=f.tag)) (m.fields.take i)=z at *
  by_cases hz0:z<0
  ·simp[ht.1,hz0]
  ·have hzl:=J9 (fun f':Fld=>dC (f'.name=f.tag)) (m.fields.take i) (by omega)
   rw[hz,hfl]at hzl
   have hg:(m.fields.take i).getD z.toNat dE=m.fields.getD z.toNat dE:=Q8 hzl
   rw[hg]at ht
   by_cases hnum:Yv (m.fields.getD z.toNat dE)=true
   ·have hs:(Zp f.tag (Qa (m.fields.take i))).isSome=true:=by rw[ht.1,hnum];simp[hz0]
    rw[ht.2 hs,hs,hnum]
    cases ZeW (m.fields.take i) f
    ·simp only[hz0,decide_false,Bool.not_true,Bool.or_self,Bool.not_false,ZE1,ZE3,if_false,Bool.false_or]
     by_cases hl:1≤f.cases.length∧f.cases.length≤40
     ·have hc1:(dC (1≤(f.cases.length:Int))&&dC ((f.cases.length:Int)≤40))=true:=by simp only[ZEK,decide_eq_true_eq];omega
      have hc2:(dC (f.cases.length<1) ||decide (40<f.cases.length))=false:=by simp only[Bool.or_eq_false_iff,decide_eq_false_iff_not];omega
      rw[hc1,hc2];simp
     ·have hc1:(dC (1≤(f.cases.length:Int))&&dC ((f.cases.length:Int)≤40))=false:=by simp only[Bool.and_eq_false_iff,decide_eq_false_iff_not];omega
      have hc2:(dC (f.cases.length<1) ||decide (40<f.cases.length))=true:=by simp only[ZEY,decide_eq_true_eq];omega
      rw[hc1,hc2];simp
    ·simp
   ·have hnum2:Yv (m.fields.getD z.toNat dE)=false:=by simpa using hnum
    rw[ht.1,hnum2];simp
 ·unfold Zt7 ZmT
  rw[Bool.eq_iff_iff]
  generalize f.bits=b
  by_cases h0:0≤b
  ·rw[Int.tmod_eq_emod_of_nonneg h0];simp;omega
  ·simp;omega
 ·unfold Zt8
  have hff:Ja m f.from_ i=Zg (fun f'=>dC (f'.name=f.from_)) (m.fields.take i):=rfl
  rw[hff]
  rw[Bool.eq_iff_iff];simp[Yn]
  generalize Zg (fun f'=>dC (f'.name=f.from_)) (m.fields.take i)=z
  split
  ·simp;omega
  ·split<;>simp<;>omega
 ·unfold Zt9 ZoD
  rw[h.strict,ZlM hd2]
  by_cases hkk:f.key<0∨4294967295<f.key
  ·rw[if_pos (by simpa using hkk)];simp[Yn];omega
  ·rw[if_neg (by simpa using hkk)]
   have:Yn 0 4294967295 [f.key]=true:=by simp[Yn];omega
   rw[this]
   by_cases h2:ZF d f.of a<0
   ·simp[h2]
   ·simp only[h2,decide_false,Bool.not_false,ZE1,Bool.false_or]
    cases(Kw d a).getD (ZF d f.of a).toNat dE<;>simp
theorem Zxt{d a deps dl sl}(h:ZbK d a deps dl sl){m i}(hi:i<m.fields.length)(hd:Zh8 m.fields i)(f):
  Ql (m.fields.take i) dl sl f=dC (K1 d a m i f=0):=by
 unfold Ql K1
 rw[show Zg (fun x=>dC (x.name=f.name)) (m.fields.take i)=Ja m f.name i from rfl]
 cases YE f.name
 ·simp
 ·by_cases h1:0≤Ja m f.name i
  ·simp[h1]
  ·by_cases hk:QP f=true
   ·have hk2:(dC (f.kind<1) ||decide (12<f.kind))=false:=by
     unfold QP at hk
     simp only[ZEK,decide_eq_true_eq]at hk
     simp only[Bool.or_eq_false_iff,decide_eq_false_iff_not];omega
    rw[Zuc hk,ZxM h hi hd hk,hk,hk2]
    cases Zkg f<;>simp[h1]
   ·have hk1:QP f=false:=by simpa using hk
    have hk2:(dC (f.kind<1) ||decide (12<f.kind))=true:=by
     unfold QP at hk
     simp only[ZEK,decide_eq_true_eq]at hk
     simp only[ZEY,decide_eq_true_eq];omega
    rw[hk1,hk2]
    simp[h1]
theorem Zn2(d a m j l l')(h:YH d a m j l=nO):YH d a m j (l++l')=YH d a m (j+l.length) l':=by
 induction l generalizing j with
 |nil=>rfl
 |cons f r ih =>
  simp only[YH]at h
  split at h
  ·rename_i hf
   simp only[List.cons_append,YH,hf,if_true,ZER]
   rw[ih _ h]
   congr 1;omega
  ·simp at h
theorem ZvW{d a deps dl sl}(h:ZbK d a deps dl sl){m}(n)(hn:n≤m.fields.length):
  (Qh dl sl m n=true↔YH d a m 0 (m.fields.take n)=nO)∧(Qh dl sl m n=true→Zh8 m.fields n):=by
 induction n with
 |zero=>simp[Qh,YH,Zh8]
 |succ n ih =>
  have ih:=ih (by omega)
  rw[Ziv,Yj (show n<m.fields.length by omega),ZEK]
  have hlen:(m.fields.take n).length=n:=by simp;omega
  by_cases hp:Qh dl sl m n=true
  ·have hf:=ih.1.1 hp
   have hd:=ih.2 hp
   rw[Zn2 _ _ _ _ _ _ hf,Zxt h (show n<m.fields.length by omega) hd,hlen,Nat.zero_add]
   simp only[YH]
   refine⟨?_,fun hh=>?_⟩
   ·simp only[hp,true_and,decide_eq_true_eq]
    split<;>simp_all
   ·have hz:K1 d a m n (m.fields.getD n dE)=0:=by simpa using hh.2
    intro j hj
    by_cases hjn:j<n
    ·exact hd j hjn
    ·obtain rfl:j=n:=by omega
     unfold K1 at hz
     split at hz;· omega
     split at hz;· omega
     rename_i h2
     unfold Ja at h2;omega
  ·refine⟨?_,fun hh=>absurd hh.1 hp⟩
   constructor
   ·intro hh;exact absurd hh.1 hp
   ·intro hh
    exfalso
    apply hp
    refine ih.1.2 ?_
    have key:∀(j:Nat) (l l':List Fld),YH d a m j (l++l')=nO→YH d a m j l=nO:=by
     intro j l l'
     induction l generalizing j with
     |nil=>intro _;rfl
     |cons f r ih2 =>
      simp only[List.cons_append,YH]
      split
      ·exact ih2 _
      ·simp
    exact key _ _ _ hh
theorem Zmz{α:Type}(l:List α)(p q:α→Int)(h:∀s∈l,p s=q s)(b):l.foldl (fun a s=>max a (p s)) b=l.foldl (fun a s=>max a (q s)) b:=by
 induction l generalizing b with
 |nil=>rfl
 |cons x r ih =>
  simp only[List.foldl_cons,h x (by simp)]
  exact ih (fun s hs=>h s (by simp[hs])) _
theorem Zt3{α:Type}{p q}{l:List α}(h:∀x∈l,p x=q x):l.all p=l.all q:=by
 induction l with
 |nil=>rfl
 |cons x r ih=>simp only[List.all_cons,h x (by simp),ih fun y hy=>h y (by simp[hy])]
theorem ZAi{d a deps dl sl}(h:ZbK d a deps dl sl){m}(hm:d.msgs.getD a dE=m):
  (Zdk dl sl m=true↔WQ d a m=nO∧Zeo d a deps m≤16)∧(WQ d a m=nO→Ka dl m+1=Zeo d a deps m∧Q7 sl m=ZeU d m (Kw d a)):=by
 have hf:=ZvW h (m:=m) m.fields.length (ZEP _)
 rw[ZFa]at hf
 have h2:WQ d a m=nO→Ka dl m+1=Zeo d a deps m∧Q7 sl m=ZeU d m (Kw d a):=fun hh=>by
  have hok:=(Zyd hm hh).ref
  rw[hm]at hok
  constructor
  ·unfold Ka Zeo ZvM
   congr 1
   refine Zmz _ _ _ (fun s hs=>?_) _
   have:=hok s hs
   rw[h.dep,if_neg (by omega)];rfl
  ·unfold Q7 ZeU
   congr 1
   refine Zt3 fun s hs=>?_
   have:=hok s hs
   rw[h.strict,Zcc]
   simp[show ¬ZF d s a<0 by omega]
 refine⟨?_,h2⟩
 unfold Zdk
 rw[h.has]
 by_cases hn:YE m.name=true
 ·by_cases hd:ZF d m.name a<0
  ·by_cases hl:1≤m.fields.length∧m.fields.length≤40
   ·have hc1:(dC (1≤(m.fields.length:Int))&&dC ((m.fields.length:Int)≤40))=true:=by simp only[ZEK,decide_eq_true_eq];omega
    have hc2:(dC (m.fields.length<1) ||decide (40<m.fields.length))=false:=by simp only[Bool.or_eq_false_iff,decide_eq_false_iff_not];omega
    have hfl:WQ d a m=YH d a m 0 m.fields:=by
     unfold WQ
     rw[if_neg (by simp[hn]),if_neg (by omega),hc2];rfl
    rw[hfl]at h2⊢
    rw[hc1,hn]
    simp only[hd,decide_true,Bool.not_true,Bool.not_false,ZE1,ZEK,decide_eq_true_eq,hf.1]
    constructor
    ·rintro⟨h3,h4⟩
     have:=(h2 h3).1
     exact⟨h3,by omega⟩
    ·rintro⟨h3,h4⟩
     have:=(h2 h3).1
     exact⟨h3,by omega⟩
   ·have hc1:(dC (1≤(m.fields.length:Int))&&dC ((m.fields.length:Int)≤40))=false:=by simp only[Bool.and_eq_false_iff,decide_eq_false_iff_not];omega
    have hc2:(dC (m.fields.length<1) ||decide (40<m.fields.length))=true:=by simp only[ZEY,decide_eq_true_eq];omega
    unfold WQ
    rw[hc1,hc2,if_neg (by simp[hn]),if_neg (by omega)]
    simp
  ·unfold WQ
   rw[if_neg (by simp[hn]),if_pos (by omega)]
   simp[hd]
 ·have hn2:YE m.name=false:=by simpa using hn
  unfold WQ
  rw[hn2]
  simp
theorem Zmp{d a m}(ha:a<d.msgs.length)(hm:d.msgs.getD a dE=m)(s):ZF d s (a+1)=if 0≤ZF d s a then ZF d s a else if m.name=s then (a:Int) else -1:=by
 unfold ZF
 rw[Yj ha,hm,ZkD]
 have:(d.msgs.take a).length=a:=by simp;omega
 rw[this];simp
theorem ZiA{α:Type}[Inhabited α]{l}{a:Nat}{v:α}(h:l.length=a):(l++[v]).getD a dE=v:=by subst h;simp[ZES]
theorem ZiB{α:Type}[Inhabited α]{l}{a:Nat}{v:α}(h:a<l.length):(l++[v]).getD a dE=l.getD a dE:=by simp[ZES,ZE7 h]
theorem ZbK.step{d:Dfn}{a:Nat}{deps:List Int}{dl:List (Str×Int)}{sl:List (Str×Bool)}(h:ZbK d a deps dl sl){m:Msg}(ha:a<d.msgs.length)(hm:d.msgs.getD a dE=m)(hnew:ZF d m.name a<0)(v:Int):
  ZbK d (a+1) (deps++[v]) (Wg m.name v dl) (Wg m.name (ZeU d m (Kw d a)) sl):={
 len:=by simp[h.len]
 dep s:=by
  rw[Ku,Zmp ha hm,h.dep]
  by_cases hs:s=m.name
  ·subst hs
   rw[if_pos rfl,if_neg (show ¬0≤ZF d m.name a by omega),if_pos rfl,if_neg (by omega)]
   rw[show((a:Int)).toNat=a from rfl,ZiA h.len]
  ·rw[if_neg hs]
   by_cases hp:0≤ZF d s a
   ·have hlt:(ZF d s a).toNat<deps.length:=by
     have:=J9 _ _ hp
     rw[h.len]
     have h3:(d.msgs.take a).length≤a:=by simp;omega
     unfold ZF;omega
    rw[if_pos hp,if_neg (by omega),if_neg (by omega),ZiB hlt]
   ·rw[if_neg hp,if_neg (show ¬m.name=s from fun e=>hs e.symm),if_pos (by omega),if_pos (by omega)]
 str s:=by
  rw[Ku,Zmp ha hm,h.str]
  simp only[Kw,hm]
  by_cases hs:s=m.name
  ·subst hs
   rw[if_pos rfl,if_neg (show ¬0≤ZF d m.name a by omega),if_pos rfl,if_neg (by omega)]
   rw[show((a:Int)).toNat=a from rfl,ZiA (Zcc d a)]
  ·rw[if_neg hs]
   by_cases hp:0≤ZF d s a
   ·have hlt:(ZF d s a).toNat<(Kw d a).length:=by
     have:=J9 _ _ hp
     rw[Zcc]
     have h3:(d.msgs.take a).length≤a:=by simp;omega
     unfold ZF;omega
    rw[if_pos hp,if_neg (by omega),if_neg (by omega),ZiB hlt]
   ·rw[if_neg hp,if_neg (show ¬m.name=s from fun e=>hs e.symm),if_pos (by omega),if_pos (by omega)] }
theorem ZAz{d}(n):∀{a deps dl sl},ZbK d a deps dl sl→a+n=d.msgs.length →
  ((Zb6 dl sl (d.msgs.drop a)).elim false fun p=>(Zp d.start p.1).isSome)=(Ju d a (d.msgs.drop a) deps).isNone:=by
 induction n with
 |zero =>
  intro a deps dl sl h ha
  obtain rfl:a=d.msgs.length:=by omega
  rw[List.drop_length]
  simp only[Zb6,Ju,Option.elim,h.has]
  by_cases hs:ZF d d.start d.msgs.length<0<;>simp[hs]
 |succ n ih =>
  intro a deps dl sl h ha
  have hal:a<d.msgs.length:=by omega
  rw[QM hal]
  generalize hm:d.msgs.getD a dE=m
  have he:=ZAi h hm
  simp only[Zb6,Ju]
  by_cases hp:Zdk dl sl m=true
  ·obtain⟨h1,h2⟩:=he.1.1 hp
   obtain⟨h3,h4⟩:=he.2 h1
   rw[if_pos hp,h1]
   simp only
   rw[if_neg (by omega),h3,h4]
   refine ih (h.step hal hm ?_ _) (by omega)
   unfold WQ at h1
   split at h1;· simp at h1
   split at h1;· simp at h1
   omega
  ·rw[if_neg hp]
   cases h1:WQ d a m with
   |some x=>obtain⟨i,c⟩:=x;rfl
   |none =>
    have:¬Zeo d a deps m≤16:=fun h2=>hp (he.1.2 ⟨h1,h2⟩)
    simp only
    rw[if_pos (by omega)];rfl
theorem ZrU(d):Zc5 d=Ze0 d:=by
 unfold Zc5 Ze0 ZqT
 cases hn:YE d.name
 ·rfl
 ·by_cases hl:1≤d.msgs.length∧d.msgs.length≤60
  ·have hc1:(dC (1≤(d.msgs.length:Int))&&dC ((d.msgs.length:Int)≤60))=true:=by simp only[ZEK,decide_eq_true_eq];omega
   have hc2:(dC (d.msgs.length<1) ||decide (60<d.msgs.length))=false:=by simp only[Bool.or_eq_false_iff,decide_eq_false_iff_not];omega
   rw[hc1,hc2]
   simp only[ZE1,Bool.true_eq_false,ZE3,if_false]
   have h0:ZbK d 0 [] [] []:=⟨rfl,fun s=>by simp[Zp,ZF,Zg],fun s=>by simp[Zp,ZF,Zg]⟩
   have:=ZAz d.msgs.length h0 (by omega)
   rw[List.drop_zero]at this
   exact this
  ·have hc1:(dC (1≤(d.msgs.length:Int))&&dC ((d.msgs.length:Int)≤60))=false:=by simp only[Bool.and_eq_false_iff,decide_eq_false_iff_not];omega
   have hc2:(dC (d.msgs.length<1) ||decide (60<d.msgs.length))=true:=by simp only[ZEY,decide_eq_true_eq];omega
   rw[hc1,hc2];rfl
theorem ZqC{st b c0 c1 v0 v1}(hb:st b=sO (.cells [c0,c1]))(h0:VT ZEA c0 [] st (.bool v0) st)(h1:VT ZEA c1 [] st (.bool v1) st):
  ZK ZEA 212 [.msl b 0 2 2 1,.fn (.func 167) [] []] st (.int .i64 (if v0 then (if v1 then -1 else 1) else 0)) st:=by
 refine ZB (cR 212 f212) fun hwf F hret=>?_
 clear hwf
 have g0:=(Zef h0).VT (first:=[]) (args:=[c0]) (caps:=[])
 have g1:=(Zef h1).VT (first:=[]) (args:=[c1]) (caps:=[])
 refine rg ?_
 refine rg ?_
 refine Zd (Zbs ?_)
 refine rg ?_
 refine i1 ?_
 refine rg ?_
 refine rx @hb ?_
 refine aa ?_
 refine cW (g0) ?_
 refine cd (fun hc=>?_) (fun hc=>?_)
 ·have hv:v0=false:=by cases v0<;>simp_all
  rw[hv]at hret
  refine rg ?_
  exact hret rfl (by trivial) (ZEF _) (ZEB _)
 ·have hv:v0=true:=by cases v0<;>simp_all
  rw[hv]at hret
  refine rg ?_
  refine aa ?_
  rw[show(0:Int)+1=1 from rfl]
  refine Zi ?_
  refine rg ?_
  refine i1 ?_
  refine rg ?_
  refine rx @hb ?_
  refine aa ?_
  refine cW (g1) ?_
  refine cd (fun hd=>?_) (fun hd=>?_)
  ·have hv1:v1=false:=by cases v1<;>simp_all
   rw[hv1]at hret
   refine rg ?_
   exact hret rfl (by trivial) (ZEF _) (ZEB _)
  ·have hv1:v1=true:=by cases v1<;>simp_all
   rw[hv1]at hret
   refine rg ?_
   refine aa ?_
   rw[show(1:Int)+1=2 from rfl]
   refine Zi ?_
   refine rg ?_
   refine i0 ?_
   refine rg ?_
   exact hret rfl (by trivial) (ZEF _) (ZEB _)
theorem ZpG{st b c0 c1 v0 v1}(hb:st b=sO (.cells [c0,c1]))(h0:VT ZEA c0 [] st (.bool v0) st)(h1:VT ZEA c1 [] st (.bool v1) st):
  ZK ZEA 166 [.msl b 0 2 2 1,.fn (.func 167) [] []] st (.bool (!v0||!v1)) st:=by
 refine ZB (cR 166 f166) fun hwf F hret=>?_
 clear hwf
 refine rg ?_
 refine rg ?_
 refine ct (ZqC hb h0 h1) ?_
 exact hret rfl (by trivial) (by cases v0<;>cases v1<;>exact ZEF _) (ZEB _)
theorem Zeu{L s}(l):qv L s .lenL [.d (Zr l)]=sO (True,.d (.int .i64 l.length)):=rfl
theorem atF{L s}(l i):qv L s (.iaddr 15) [.d (Zr l),.d (.int .i64 i)]=sO (0≤i∧i<l.length,.d (.ep (l.getD i.toNat dE).cells 0)):=rfl
theorem ZaV(f:Fld):f.cells.length=15:=rfl
theorem ZeX(f:Fld):List.take 15 f.cells=f.cells:=rfl
theorem Zgf(l)(hl:l.length≤1000)(hb:∀f∈l,Zf9 f)(i:Nat)(hi:i≤l.length)(st:St):ZK ZEA 114 [Zr l,.int .i64 i,.int .i64 (KX l i)] st (.bool (Jt l i)) st:=by
 refine ZB (cR 114 f114) fun hwf F hret=>?_
 clear hwf
 have hW:=Jt.eq_1 l i
 refine rx (nd2 @okF @ceF) ?_
 refine rx @Zeu ?_
 refine cd (fun hc=>?_) (fun hc=>?_)
 ·have hc':i=l.length:=by simp at hc;omega
  rw[if_pos hc']at hW
  refine rg ?_
  exact hret rfl (by trivial) (by rw[hW];exact ZEF _) (ZEB _)
 ·have hc':i<l.length:=by simp at hc;omega
  rw[if_neg (by omega)]at hW
  generalize hg:l.getD i dE=g at *
  refine rx (nd2 @atF (nd2 @hg (nd2 @ZaV @ZeX))) ?_
  refine aa ?_
  refine Za ?_
  refine xP 3 fun z3 h3=>?_
  refine xP 5 fun z5 h5=>?_
  refine xP 7 fun z7 h7=>?_
  refine rg ?_
  refine Za ?_
  refine xP 8 fun z8 h8=>?_
  have k5:=Zn h5
  have k7:=Zn h7
  have k7a:=Zn k7.2
  have k8:=Zn h8
  have k8a:=Zn k8.2
  have k8b:=Zn k8a.2
  obtain⟨A,hA⟩:∃A,A=((((st.upd z3 (.cells [Zr l])).upd z5 (.cells [.int .i64 (KX l i)])).upd z7 (.cells g.cells)).upd z8 (.cells [.fn (.func 161) [] [.ptr z5 0,.ptr z7 0],.fn (.func 163) [] [.ptr z3 0,.ptr z7 0]])):=⟨_,rfl⟩
  have g3:A z3=sO (.cells [Zr l]):=by rw[hA,ZEJ _ _ k8b.1.symm,ZEJ _ _ k7a.1.symm,ZEJ _ _ k5.1.symm];exact ZEI _ _ _
  have g5:A z5=sO (.cells [.int .i64 (KX l i)]):=by rw[hA,ZEJ _ _ k8a.1.symm,ZEJ _ _ k7.1.symm];exact ZEI _ _ _
  have g7:A z7=sO (.cells g.cells):=by rw[hA,ZEJ _ _ k8.1.symm];exact ZEI _ _ _
  have g8:A z8=sO (.cells [.fn (.func 161) [] [.ptr z5 0,.ptr z7 0],.fn (.func 163) [] [.ptr z3 0,.ptr z7 0]]):=by rw[hA];exact ZEI _ _ _
  have hsub:st.sub A:=by rw[hA];exact ZFf (ZEZ _ h3) (ZFf (ZEZ _ h5) (ZFf (ZEZ _ h7) (ZEZ _ h8)))
  have hv1:=(Zle g5 g7).VT (first:=[]) (args:=[]) (caps:=[_,_])
  have hv2:=(Zlf hl hb g3 g7 (by omega)).VT (first:=[]) (args:=[]) (caps:=[_,_])
  have hcon:=ZpG g8 hv1 hv2
  rw[←hA]
  clear hA
  refine rg ?_
  refine⟨by decide,by decide,by decide,by decide,by unfold big;decide,?_⟩
  rw[show(if ((2:Nat):Int)=0 then 0 else 0*1)=(0:Nat) from rfl]
  refine ct (hcon) ?_
  exact hret rfl (by trivial) (by rw[hW];exact ZEF _) hsub
theorem Zwl{x z o}(hx:s x=nO)(h:(s.or (ZEX x o)) z=nO):z≠x∧s z=nO:=by
 refine⟨fun e=>by subst e;rw[Zl hx,Z4]at h;simp at h,?_⟩
 cases hs:s z with
 |none=>rfl
 |some o=>rw[Zh hs]at h;simp at h
def Mk(A:St):List Nat→St→Prop
 | [],S=>S=A
 |q::qs,S=>∃S',Mk A qs S'∧S' q=nO∧S=S'.upd q .dfr
theorem Mk.get{A z o}(h:A z=sO o):∀{qs S},Mk A qs S→S z=sO o
 | [],S,hm=>by rw[show S=A from hm];exact h
 |q::qs,S,hm=>by
  obtain⟨S',h1,h2,rfl⟩:=hm
  have:=Mk.get h h1
  rw[ZEJ _ _ (fun e=>by rw[e,h2]at this;simp at this)];exact this
theorem upd_comm{a b x y}(h:a≠b):(s.upd a x).upd b y=(s.upd b y).upd a x:=by
 funext c
 by_cases hb:c=b
 ·subst hb;rw[ZEI,ZEJ _ _ (Ne.symm h),ZEI]
 ·rw[ZEJ _ _ hb]
  by_cases ha:c=a
  ·subst ha;rw[ZEI,ZEI]
  ·rw[ZEJ _ _ ha,ZEJ _ _ ha,ZEJ _ _ hb]
theorem Mk.upd{A z o o'}(h:A z=sO o):∀{qs S},Mk A qs S→Mk (A.upd z o') qs (S.upd z o')
 | [],S,hm=>by rw[show S=A from hm];rfl
 |q::qs,S,hm=>by
  obtain⟨S',h1,h2,rfl⟩:=hm
  have:=Mk.get h h1
  have hne:q≠z:=fun e=>by rw[←e,h2]at this;simp at this
  exact⟨S'.upd z o',h1.upd h,by rw[ZEJ _ _ hne];exact h2,upd_comm hne⟩
theorem Mk.unw{P A Ψ}(h:Ψ nO A):∀{qs S},Mk A qs S→Unw P (qs.map .mark) nO S Ψ
 | [],S,hm=>by rw[show S=A from hm];exact h
 |q::qs,S,hm=>by
  obtain⟨S',h1,h2,rfl⟩:=hm
  refine⟨ZEI _ _ _,?_⟩
  have e:(S'.upd q .dfr).del q=S':=by
   funext c
   by_cases hc:c=q
   ·subst hc;simp[St.del,h2]
   ·simp[St.del,ZFc,hc]
  rw[e];exact Mk.unw h h1
theorem ZhG{s t:St}{q o}(h:s.sub t):(s.upd q o).sub (t.upd q o):=fun b x hb=>by
 by_cases hc:b=q
 ·subst hc;rw[ZEI]at hb⊢;exact hb
 ·rw[ZEJ _ _ hc]at hb⊢;exact h b x hb
theorem ZwP{s t:St}{q}(h:s.sub t)(ht:t q=nO):s q=nO:=by
 cases hs:s q with
 |none=>rfl
 |some o=>rw[h q o hs]at ht;simp at ht
theorem Zlm{a t z o o'}(h:ZJ a t)(hz:a z=sO o):ZJ (a.upd z o') t:=fun b x hb=>by
 rw[ZEJ _ _ (fun e=>by subst e;rw[h b x hb]at hz;simp at hz)];exact h b x hb
theorem St.upd_self{b o}(h:s b=sO o):s.upd b o=s:=by
 funext c
 by_cases hc:c=b
 ·subst hc;rw[ZEI,h]
 ·rw[ZEJ _ _ hc]
theorem ZvB{d j i m f}(h:K1 d j m i f=0):Zf9 f:=by
 unfold K1 at h
 split at h;· omega
 split at h;· omega
 split at h;· omega
 split at h;· omega
 unfold Zav at h
 refine⟨fun hk=>?_,fun hk=>?_⟩
 ·have hn:ZaJ f=0:=by
   rcases hk with hk|hk<;>simp only[hk,Int.reduceEq,if_true,if_false]at h<;>exact h
  unfold ZaJ at hn
  split at hn;· omega
  rename_i hb
  simp only[ZdZ,ZEY,ZEK,Bool.not_eq_true',decide_eq_true_eq,decide_eq_false_iff_not,not_or]at hb
  omega
 ·simp only[hk,Int.reduceEq,if_true,if_false]at h
  split at h;· omega
  rename_i hb
  simp only[ZmT,ZEK,ZEY,Bool.not_eq_true',decide_eq_true_eq,decide_eq_false_iff_not,not_and,not_or]at hb
  omega
theorem ZbH.bits{d j m}(h:ZbH d j m):∀f∈m.fields,Zf9 f:=by
 intro f hf
 obtain⟨i,hi,rfl⟩:=ZEV hf
 have:=ZvB (h.field i hi)
 simpa[ZES,hi]using this
def ZcL(m:Msg):Bool:=(ZEO (m.fields.length+1)).all fun i=>!Jt m.fields i
def Qk(d:Dfn):Bool:=Ze0 d&&d.msgs.all ZcL
theorem ZuF{m}(h:∀i,i<m.fields.length+1→Jt m.fields i=false):ZcL m=true:=by
 unfold ZcL
 rw[List.all_eq_true]
 intro i hi
 rw[h i (List.mem_range.1 hi)];rfl
theorem ZsF{m i}(hi:i<m.fields.length+1)(h:Jt m.fields i=true):ZcL m=false:=by
 unfold ZcL
 rw[List.all_eq_false]
 exact⟨i,List.mem_range.2 hi,by rw[h];simp⟩
theorem atM{L s}(l i):qv L s (.iaddr 2) [.d (Wh l),.d (.int .i64 i)]=sO (0≤i∧i<l.length,.d (.ep (l.getD i.toNat dE).cells 0)):=rfl
theorem Zqc{L s}(l):qv L s .lenL [.d (Wh l)]=sO (True,.d (.int .i64 l.length)):=rfl
theorem ZnP(d st):Zb ZEA 71 [.agg d.cells] st fun r S=>S=st∧∃a f c,r=.ret (.tup [.agg [.int .i64 a,.int .i64 f,.int .i64 c],.bool (!Qk d)]):=by
 refine Zc (cR 71 f71) fun F hF=>?_
 have hAl:=Qk.eq_1 d
 refine rx @eQ3 ?_
 refine rx @eQ3 ?_
 rw[show(D.agg [.str d.name,Wh d.msgs,.str d.start])=.agg d.cells from rfl]
 refine cV (Zm9 d st) ?_ ?_
 ·rintro dd S ⟨rfl,fa,ff,fc,h⟩
  cases h
  refine gR0 ?_
  rw[ZrU]
  refine rg ?_
  refine cd (fun hc=>?_) (fun hc=>?_)
  ·have hv:Ze0 d=false:=by simpa using hc
   rw[hv,ZE8]at hAl
   refine rg ?_
   refine hF.ret _ S rfl (by simp) (ZEF _) (ZEB _) ⟨rfl,fa,ff,fc,?_⟩
   rw[hAl];simp[hv];rfl
  ·have hv:Ze0 d=true:=by simpa using hc
   rw[hv,ZE1]at hAl
   have hV:=ZpA hv
   have hmany:=hV.many
   refine rx (nd2 @Zqc @eQ3) ?_
   refine Zd ?_
   refine xP 2 fun z2 h2=>?_
   refine xP 3 fun z3 h3=>?_
   have k3:=Zn h3
   have hs2:=h2
   have hs3:=k3.2
   simp only[hv,Bool.not_true]at h3⊢
   obtain⟨A,hA⟩:∃A,A=(S.upd z2 (.cells [.int .i64 fa,.int .i64 ff,.int .i64 fc])).upd z3 (.cells [.bool false]):=⟨_,rfl⟩
   have g2:A z2=sO (.cells [.int .i64 fa,.int .i64 ff,.int .i64 fc]):=by rw[hA,ZEJ _ _ k3.1.symm];exact ZEI _ _ _
   have g3:A z3=sO (.cells [.bool false]):=by rw[hA];exact ZEI _ _ _
   have hsub:S.sub A:=by rw[hA];exact ZFf (ZEZ _ h2) (ZEZ _ h3)
   rw[←hA]
   clear hA
   obtain⟨A0,e0⟩:∃A0,A0=A:=⟨_,rfl⟩
   rw[←e0]at g2 g3 hsub⊢
   clear e0
   refine lpU (fun Q=>∀(n k:Nat),(d.msgs.length)-k=n→∀(F:Fr ZEA) (qs:List Nat) (A:St),Yy F [.cellN 2 3,.cell1 3] (fun r S'=>S'=S∧∃a f c,r=.ret (.tup [.agg [.int .i64 a,.int .i64 f,.int .i64 c],.bool (!Qk d)])) (qs.map .mark)→Mk A0 qs A→k≤d.msgs.length→(∀q,q<k→ZcL (d.msgs.getD q dE)=true)→Q F [(2,.d (.ptr z2 0)),(3,.d (.ptr z3 0)),(17,.d (Wh d.msgs)),(18,.d (.int .i64 d.msgs.length)),(19,.d (.int .i64 k))] [] A) ?_ fun key=>?_
   ·intro n
    induction n using Nat.strongRecOn with
    |ind n ih_key =>
    intro k hn F qs A hF hMk hk hall
    have g20:=g2
    have g30:=g3
    have g2:=Mk.get g2 hMk
    have g3:=Mk.get g3 hMk
    refine rg ?_
    refine Za (Zq rfl trivial (fun h1=>?_) (fun h1=>?_))
    ·simp at h1
     have hM:=hV.msg h1
     have hbits:=hM.bits
     have hmf:=hM.many
     have hsucc:=fun h=>Ye (q:=fun j=>ZcL (d.msgs.getD j dE)=true) hall h
     have hbad:ZcL (d.msgs.getD k dE)=false→d.msgs.all ZcL=false:=fun h=>by
      rw[List.all_eq_false]
      exact⟨_,ZA h1,by rw[h];simp⟩
     generalize hm:d.msgs.getD k dE=m at *
     refine rx (nd2 @atM (nd2 @hm @eQ2)) ?_
     refine aa ?_
     refine rg ?_
     refine cV (Zee m.fields A) ?_ ?_
     ·rintro dd S2 ⟨x,hx,hd,rfl⟩
      cases hd
      refine gR0 ?_
      refine Zd ?_
      refine xP 4 fun z4 h4=>?_
      refine xP 5 fun z5 h5=>?_
      have k5:=Zn h5
      have o4:=Zwl hx h4
      have o5:=Zwl hx k5.2
      rw[Yq,Yq]
      obtain⟨B,hB⟩:∃B,B=(A.upd z4 (.cells [.int .i64 k])).upd z5 (.cells [.str m.name,Zr m.fields]):=⟨_,rfl⟩
      have b5:B z5=sO (.cells [.str m.name,Zr m.fields]):=by rw[hB];exact ZEI _ _ _
      have b4:B z4=sO (.cells [.int .i64 k]):=by rw[hB,ZEJ _ _ k5.1.symm];exact ZEI _ _ _
      have n24:z2≠z4:=fun e=>by rw[e,o4.2]at g2;simp at g2
      have n25:z2≠z5:=fun e=>by rw[e,o5.2]at g2;simp at g2
      have n34:z3≠z4:=fun e=>by rw[e,o4.2]at g3;simp at g3
      have n35:z3≠z5:=fun e=>by rw[e,o5.2]at g3;simp at g3
      have n23:z2≠z3:=fun e=>by rw[e,g3]at g2;simp at g2
      have b2:B z2=sO (.cells [.int .i64 fa,.int .i64 ff,.int .i64 fc]):=by rw[hB,ZEJ _ _ n25,ZEJ _ _ n24];exact g2
      have b3:B z3=sO (.cells [.bool false]):=by rw[hB,ZEJ _ _ n35,ZEJ _ _ n34];exact g3
      have bx:B x=nO:=by rw[hB,ZEJ _ _ o5.1.symm,ZEJ _ _ o4.1.symm];exact hx
      have hAB:A.sub B:=by rw[hB];exact ZFf (ZEZ _ o4.2) (ZEZ _ (by rw[ZEJ _ _ k5.1];exact o5.2))
      rw[←hB]
      clear hB
      refine WS hF rfl trivial [2,3,4,5,17,18,19] (by show([2,3,4,5,17,18,19]:List Nat).Nodup;decide) (WX bx) (ZcV m.fields (by omega) hbits x).Y (fun j hj=>rfl)
       (fun j=>if Jt m.fields j then .stop (.exit 0) else .next) (fun j a=>((∀i,i<j→Jt m.fields i=false)∧a=B)∨((∃i,i<j∧Jt m.fields i=true)∧∃a1 a2 a3,a=(B.upd z3 (.cells [.bool true])).upd z2 (.cells [.int .i64 a1,.int .i64 a2,.int .i64 a3])))
       (.inl ⟨fun i hi=>by omega,rfl⟩) ?_ ?_ ?_ ?_ ?_ ?_
      ·intro j a hj hno hB F' ready busy hdr hbeg hend
       have hno':∀i,i<j→Jt m.fields i=false:=fun i hi=>by
        have:=hno i hi;split at this
        ·simp at this
        ·rename_i h;simpa using h
       rcases hB with ⟨_,rfl⟩|⟨⟨i,hi,hib⟩,_⟩
       ·skip
        simp only[Eqs,reduceCtorEq,ZEG,reduceIte,ZED,ZEH,ZEE,YZ,Wc,KO,WE,List.isEmpty_nil,List.isEmpty_cons,ZuL]
        refine rg ?_
        refine rg ?_
        refine hbeg fun hdb=>?_
        refine rh ?_
        refine Zj ?_
        simp only[Eqs,reduceCtorEq,ZEG,reduceIte,ZED,ZEH,ZEE,Zh b5]
        cases hw:Jt m.fields j with
        |false =>
         rw[if_neg (by rw[hw];simp)]at hend
         refine Zah rfl rfl rfl rfl rfl (by trivial) (by trivial) (by exact Zgf m.fields (by omega) hbits j (by omega) _) (Zj ?_)
         simp only[Eqs,reduceCtorEq,ZEG,reduceIte,ZED,ZEH,ZEE,hw,Zh b3,Yq,St.upd_self b3]
         refine rh ?_
         refine Zj ?_
         simp only[Eqs,reduceCtorEq,ZEG,reduceIte,ZED,ZEH,ZEE,Zh b3]
         refine i0 ?_
         refine ZD (Zo ?_)
         exact hend.fin ⟨rfl,.inl ⟨Ye (q:=fun i=>Jt m.fields i=false) hno' hw,rfl⟩⟩ hdb (ZEB _)
        |true =>
         rw[if_pos hw]at hend
         refine Zah rfl rfl rfl rfl rfl (by trivial) (by trivial) (by exact Zgf m.fields (by omega) hbits j (by omega) _) (Zj ?_)
         simp only[Eqs,reduceCtorEq,ZEG,reduceIte,ZED,ZEH,ZEE,hw,Zh b3,Yq]
         obtain⟨C,hC⟩:∃C,C=a.upd z3 (.cells [.bool true]):=⟨_,rfl⟩
         have c3:C z3=sO (.cells [.bool true]):=by rw[hC];exact ZEI _ _ _
         have c2:C z2=sO (.cells [.int .i64 fa,.int .i64 ff,.int .i64 fc]):=by rw[hC,ZEJ _ _ n23];exact b2
         have c4:C z4=sO (.cells [.int .i64 k]):=by rw[hC,ZEJ _ _ n34.symm];exact b4
         have c5:C z5=sO (.cells [.str m.name,Zr m.fields]):=by rw[hC,ZEJ _ _ n35.symm];exact b5
         have hdC:ZJ C busy:=by rw[hC];exact Zlm hdb b3
         rw[←hC]
         refine rh ?_
         refine Zj ?_
         simp only[Eqs,reduceCtorEq,ZEG,reduceIte,ZED,ZEH,ZEE,Zh c3]
         refine i1 ?_
         refine rh ?_
         refine Zj ?_
         simp only[Eqs,reduceCtorEq,ZEG,reduceIte,ZED,ZEH,ZEE,Zh c4,Zh c2,Yq]
         have c5':(C.upd z2 (.cells [.int .i64 k,.int .i64 j,.int .i64 12])) z5=sO (.cells [.str m.name,Zr m.fields]):=by rw[ZEJ _ _ n25.symm];exact c5
         have c2':=ZEI C z2 (.cells [.int .i64 k,.int .i64 j,.int .i64 12])
         have hdC2:ZJ (C.upd z2 (.cells [.int .i64 k,.int .i64 j,.int .i64 12])) busy:=Zlm hdC c2
         refine rh ?_
         refine Zj ?_
         simp only[Eqs,reduceCtorEq,ZEG,reduceIte,ZED,ZEH,ZEE,Zh c5',Zeu]
         refine cd (fun he=>?_) (fun he=>?_)
         ·refine rh ?_
          refine Zj ?_
          simp only[Eqs,reduceCtorEq,ZEG,reduceIte,ZED,ZEH,ZEE,Zh c2',Yq,ZET]
          exact hend.exit rfl ⟨rfl,.inr ⟨⟨j,by omega,hw⟩,k,-1,12,by rw[hC]⟩⟩ (Zlm hdC c2) (ZEB _)
         ·refine ZD ?_
          exact hend.exit rfl ⟨rfl,.inr ⟨⟨j,by omega,hw⟩,k,j,12,by rw[hC]⟩⟩ hdC2 (ZEB _)
       ·rw[hno' i hi]at hib;simp at hib
      ·intro q a hno hB hq
       have hno':∀i,i<m.fields.length+1→Jt m.fields i=false:=fun i hi=>by
        have:=hno i hi;split at this
        ·simp at this
        ·rename_i h;simpa using h
       rcases hB with ⟨_,rfl⟩|⟨⟨i,hi,hib⟩,_⟩
       ·refine Kk (ZhG hAB) ?_
        refine rg ?_
        refine aa ?_
        refine Zi ?_
        exact ih_key ((d.msgs.length)-(k+1)) (by omega) (k+1) rfl _ (q::qs) _ (hF.mark q) ⟨A,hMk,ZwP hAB hq,rfl⟩ (by omega) (hsucc (ZuF hno'))
       ·rw[hno' i hi]at hib;simp at hib
      ·intro q a i hi hno hgo
       split at hgo<;>simp at hgo
      ·intro q a i id hi hno hgo hB hq
       have hid:id=0:=by
        split at hgo
        ·simp at hgo;exact hgo.symm
        ·simp at hgo
       subst hid
       have hwi:Jt m.fields i=true:=by
        split at hgo
        ·assumption
        ·simp at hgo
       rcases hB with ⟨h,_⟩|⟨_,a1,a2,a3,rfl⟩
       ·rw[h i (by omega)]at hwi;simp at hwi
       ·have hAf:=hbad (ZsF hi hwi)
        rw[hAf]at hAl
        have q2:q≠z2:=fun e=>by rw[e,ZEI]at hq;simp at hq
        have q3:q≠z3:=fun e=>by rw[ZEJ _ _ q2,e,ZEI]at hq;simp at hq
        have hBq:B q=nO:=by rw[ZEJ _ _ q2,ZEJ _ _ q3]at hq;exact hq
        refine Kk (ZhG (ZhG (ZhG hAB))) ?_
        obtain⟨X,hX⟩:∃X,X=((A.upd z3 (.cells [.bool true])).upd z2 (.cells [.int .i64 a1,.int .i64 a2,.int .i64 a3])).upd q .dfr:=⟨_,rfl⟩
        have hMX:Mk ((A0.upd z3 (.cells [.bool true])).upd z2 (.cells [.int .i64 a1,.int .i64 a2,.int .i64 a3])) (q::qs) X:=⟨_,Mk.upd (o:=.cells [.int .i64 fa,.int .i64 ff,.int .i64 fc]) (by rw[ZEJ _ _ n23];exact g20) (Mk.upd g30 hMk),by rw[ZEJ _ _ q2,ZEJ _ _ q3];exact ZwP hAB hBq,hX⟩
        have a2':=ZEI (A0.upd z3 (.cells [.bool true])) z2 (.cells [.int .i64 a1,.int .i64 a2,.int .i64 a3])
        have a3':((A0.upd z3 (.cells [.bool true])).upd z2 (.cells [.int .i64 a1,.int .i64 a2,.int .i64 a3])) z3=sO (.cells [.bool true]):=by rw[ZEJ _ _ n23.symm];exact ZEI _ _ _
        have x2:=Mk.get a2' hMX
        have x3:=Mk.get a3' hMX
        rw[←hX]
        refine ZR rfl ?_
        refine rh ?_
        refine Yx ?_
        simp only[Eqs,reduceCtorEq,ZEG,reduceIte,ZED,ZEH,ZEE,x2,x3,St.upd_self x2,St.upd_self x3]
        refine(hF.mark q).retU (hMX.unw ⟨_,_,.tup [.agg [.int .i64 a1,.int .i64 a2,.int .i64 a3],.bool true],S,by simp only[Eqs,reduceCtorEq,ZEG,reduceIte,ZED,ZEH,ZEE,Yk,WF,a2',a3'];rfl,by simp,ZEF _,?_,rfl,a1,a2,a3,by rw[hAl];rfl⟩)
        intro c o hc
        have e2:c≠z2:=fun e=>by rw[e,hs2]at hc;simp at hc
        have e3:c≠z3:=fun e=>by rw[e,hs3]at hc;simp at hc
        rw[ZEJ _ _ e2,ZEJ _ _ e3]
        exact hsub c o hc
      ·intro q a i d hi hno hgo
       split at hgo<;>simp at hgo
      ·intro i c hgo
       split at hgo<;>simp at hgo
       exact .inr ⟨0,hgo.symm⟩
     ·rintro dd S2 ⟨x,hx,hd,_⟩
      cases hd
    ·simp at h1
     obtain rfl:k=d.msgs.length:=by omega
     have hAt:d.msgs.all ZcL=true:=by
      rw[List.all_eq_true]
      intro x hx
      obtain⟨q,hq,rfl⟩:=ZEV hx
      have:=hall q hq
      simpa[ZES,hq]using this
     rw[hAt]at hAl
     refine ZR rfl (Za ?_)
     refine rh ?_
     refine Yx ?_
     simp only[Eqs,reduceCtorEq,ZEG,reduceIte,ZED,ZEH,ZEE,g2,g3,St.upd_self g2,St.upd_self g3]
     exact hF.retU (hMk.unw ⟨_,_,.tup [.agg [.int .i64 fa,.int .i64 ff,.int .i64 fc],.bool false],S,by simp only[Eqs,reduceCtorEq,ZEG,reduceIte,ZED,ZEH,ZEE,Yk,WF,g20,g30];rfl,by simp,ZEF _,hsub,rfl,fa,ff,fc,by rw[hAl];rfl⟩)
   exact key _ 0 rfl F [] A0 hF rfl (by omega) (by intro q hq;omega)
 ·rintro dd S ⟨_,a,f,c,h⟩
  cases h
theorem Zla(d):Ze ZEA 31 [.agg d.cells] (.bool (Qk d)):=by
 refine Zm (cR 31 f31) fun F st hret=>?_
 refine rx @eQ3 ?_
 refine rx @eQ3 ?_
 rw[show(D.agg [.str d.name,Wh d.msgs,.str d.start])=.agg d.cells from rfl]
 refine cV (ZnP d st) ?_ ?_
 ·rintro dd S ⟨rfl,a,f,c,h⟩
  cases h
  refine gR0 ?_
  refine rg ?_
  exact hret rfl (by trivial) (by cases Qk d<;>exact ZEF _) (ZEB _)
 ·rintro dd S ⟨_,a,f,c,h⟩
  cases h
theorem ZyO{L s}(l i):qv L s (.iaddr 3) [.d (KC l),.d (.int .i64 i)]=sO (0≤i∧i<l.length,.d (.ep (l.getD i.toNat dE).cells 0)):=rfl
theorem Zxc{L s}(l):qv L s .lenL [.d (KC l)]=sO (True,.d (.int .i64 l.length)):=rfl
theorem Zyn{L s}(l):qv L s .lenL [.d (YC l)]=sO (True,.d (.int .i64 l.length)):=rfl
theorem Zzx(cs o):KF (.d (.ep cs o))=[]:=rfl
theorem Zc1{d s}(h:0≤ZF d s d.msgs.length):ZF d s d.msgs.length=ixS d s∧ixS d s<d.msgs.length:=by
 have:=WM (fun m=>dC (m.name=s)) (d.msgs.take d.msgs.length)
 rw[ZEU]at this
 unfold ixS
 unfold ZF at *
 omega
theorem Zey{α:Type}[Inhabited α]{l:List α}{x}(h:x∈l):∃i,i<l.length∧l.getD i dE=x:=by
 obtain⟨i,hi,rfl⟩:=ZEV h
 exact⟨i,hi,by simp[ZES,hi]⟩
theorem ZhL{d}(h:Qk d=true):Qj d:=by
 unfold Qk at h
 rw[ZEK]at h
 exact ZpA h.1
def W7(f:Fld):Bool:=(!dC (f.kind=2)&&!dC (f.kind=10))&&!dC (f.kind=11)
def vfs(l:List Fld):List Fld:=l.filter W7
theorem Zsl{l:List Fld}{i}(h:i<l.length):vfs (l.take (i+1))=vfs (l.take i)++if W7 (l.getD i dE) then [l.getD i dE] else []:=by
 rw[Yj h];unfold vfs;rw[List.filter_append];congr 1;simp only[List.filter_cons,List.filter_nil]
theorem ZwZ{l i}(h:i<l.length):vfs l=vfs (l.take i)++((if W7 (l.getD i dE) then [l.getD i dE] else [])++vfs (l.drop (i+1))):=by
 have h1:l=l.take (i+1)++l.drop (i+1):=(List.take_append_drop _ _).symm
 conv=>lhs;rw[h1];unfold vfs;rw[List.filter_append]
 rw[show List.filter W7 (l.take (i+1))=vfs (l.take (i+1)) from rfl,Zsl h,ZE9];rfl
def ZaA(m:Msg)(ps:List Val):Bool:=dC ((vfs m.fields).map (·.name)=ps.map Val.name)
theorem Zct{L s}(l):qv L s .lenL [.d (ZW l)]=sO (True,.d (.int .i64 l.length)):=rfl
theorem atV{L s}(l i):qv L s (.iaddr 5) [.d (ZW l),.d (.int .i64 i)]=sO (0≤i∧i<l.length,.d (.ep (Zb5 l i.toNat) 0)):=rfl
theorem ZaI{L s}(l):qv L s .lenL [.d (ZL l)]=sO (True,.d (.int .i64 l.length)):=rfl
theorem ZlW{l}(h:DWf (ZW l)):l.length≤big:=h.sl_inv.1
theorem Zc8(f):Ze ZEA 51 [.agg f.cells] (.bool (W7 f)):=by
 refine Zm (cR 51 f51) fun F st hret=>?_
 refine rx @eQ0 ?_
 refine rg ?_
 refine rb hret ?_
 rfl
def Zob(k:Int):Bool:=dC (k=1) ||decide (k=3)
def ZnV(k:Int):Bool:=dC (k=4) ||decide (k=5)
def Y1(k:Int)(x:Val):Bool:=(((!Zob k&&!dC (x.int=0)) ||(!ZnV k&&dC (0<(x.bytes.length:Int)))) ||(!dC (k=6)&&dC (0<(x.hdrs.length:Int)))) ||(!dC (7≤k)&&dC (0<(x.parts.length:Int)))
def Kg(have_ want:Int):Int:=if dC (have_<want) then 4 else if dC (want<have_) then 5 else 0
def WG(s:Str):List (Str×Int)→Int
 | []=>-1
 |x::r=>if x.1=s then x.2 else WG s r
def ZcO:List Fld→List Val→List (Str×Int)
 | [],_=>[]
 |f::r,ps=>(if f.kind=2 then [(f.name,f.low)] else [])++(if W7 f then (if (dC (0<(ps.length:Int))&&Yv f) then [(f.name,(ps.getD 0 dE).int)] else [])++ZcO r (ps.drop 1) else ZcO r ps)
def Qz(m:Msg)(ps:List Val):List (Str×Int):=ZcO m.fields ps
theorem Zzi{l:List Fld}{i}:(vfs (l.take i)).length≤i:=by
 unfold vfs
 exact Nat.le_trans (List.length_filter_le _ _) (by simp;omega)
def ZaN(s:Zbh)(l:List (Str×Int)):Int:=s.base+K0 (fun t=>WG t.field l) s.terms
def Wz(n:Nat):Str:=if n<10 then [UInt8.ofNat (48+n)] else Wz (n / 10)++[UInt8.ofNat (48+n % 10)]
termination_by n
decreasing_by omega
theorem Kx{n}(h:n<10):Wz n=[UInt8.ofNat (48+n)]:=by rw[Wz,if_pos h]
theorem Zen{n}(h:¬n<10):Wz n=Wz (n / 10)++Wz (n % 10):=by
 rw[Wz,if_neg h,Kx (n:=n % 10) (by omega)]
theorem ZgX(n):(Wz n).length≤n+1:=by
 induction n using Nat.strongRecOn with
 |ind n ih =>
  by_cases h:n<10
  ·rw[Kx h];simp
  ·rw[Zen h,ZEM,Kx (n:=n % 10) (by omega)]
   have:=ih (n / 10) (by omega)
   simp;omega
def Wn(ps:List Val)(k:Nat):Nat:=((ps.take k).filter (fun x=>dC (x.name=(ps.getD k dE).name))).length
def ZY(ps:List Val)(k:Nat):Str:=if Wn ps k=0 then (ps.getD k dE).name else (ps.getD k dE).name++[58]++Wz (Wn ps k)
def ZV(path s:Str):Str:=if path=[] then s else path++[46]++s
theorem Zgk(ps k):Wn ps k≤k:=by
 unfold Wn
 exact Nat.le_trans (List.length_filter_le _ _) (by simp;omega)
def QC(ps:List Val)(k i:Nat):Nat:=((ps.take i).filter (fun x=>dC (x.name=(ps.getD k dE).name))).length
theorem Zis{ps k i}(h:i<ps.length):QC ps k (i+1)=QC ps k i+if (ps.getD i dE).name=(ps.getD k dE).name then 1 else 0:=by
 unfold QC
 rw[Yj h,List.filter_append,ZEM]
 congr 1
 simp only[List.filter_cons,List.filter_nil]
 split<;>rename_i h1<;>simp at h1<;>simp[h1]
theorem Ztm(ps k i):QC ps k i≤i:=by
 unfold QC
 exact Nat.le_trans (List.length_filter_le _ _) (by simp;omega)
end Go.DL
