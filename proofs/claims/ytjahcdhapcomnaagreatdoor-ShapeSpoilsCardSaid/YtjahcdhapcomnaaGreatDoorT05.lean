/- Lemmas: Q07, X17, Y01, Q08, Q09, Q10, EvA, EvB, EvC, EvD, EvE, EvF, EvG, EvH, EvI, EvJ, EvK, EvL, EvM, EvN, EvO, EvP, EvQ, EvS, EvT, EvU, EvV, EvW, EvR, EvY. -/
import Derived.Test.YtjahcdhapcomnaaGreatDoorT04
set_option maxHeartbeats 16000000
set_option maxRecDepth 100000
set_option linter.all false
open Option renaming some → sO, none → nO
open Inhabited renaming default → dE
open Decidable renaming decide → dC
open Go.Proofs.Tryz
open And renaming intro → ZEC
open Bool renaming and_eq_true → ZEK, false_and → ZE8, false_eq_true → ZE3, or_eq_true → ZEY, true_and → ZE1
open Go.DL.D.Le renaming refl → ZEF
open Go.DL.St renaming single → ZEX, sub_refl → ZEB, sub_trans → ZFf, sub_upd → ZEZ, upd → ZFc, upd_ne → ZEJ, upd_same → ZEI, upd_upd → ZET
open Go.DL.Val renaming cells_eq → ZE0
open Go.Proofs.Tryz renaming prog → ZEA
open Int renaming reduceToNat → ZEG
open List renaming append_assoc → ZE9, append_nil → ZFb, getD → ZES, getElem?_append_left → ZE7, getElem?_take → ZFg, length_append → ZEM, length_cons → ZER, length_drop → ZFh, length_take → ZEU, map_cons → ZEQ, map_nil → ZE6, mem_cons → ZFd, range → ZEO, take_length → ZFa
open Nat renaming add_mul → ZE2, le_refl → ZEP, mul_le_mul_right → ZEW, reduceAdd → ZEH, reduceEqDiff → ZED, reduceLeDiff → ZEE
open Option renaming getD_some → ZFe, map_eq_some_iff → ZEN, map_some → ZE4
open Option.some renaming injEq → ZEz
open Prod.mk renaming injEq → ZEL
namespace Go.DL
open Go Go.Proofs
variable {kp:Option (List Nat)}{L:Loc}{ρ:Env}{s:St}{w:World}{os:List DOp}{ds:List D}{B:List (Nat × Rd)}{dst:Option Nat}{tmps:Array Value}{g:G}{Φ:Res→St→Prop}{ν:Nat→Nat}{xs:List Opd}{side:Prop}{row:Nat→List D}
theorem ZhY(l:List Val)(f)(sts:Nat→St){k:Nat}(hkl:k<l.length)(hw:l.length≤1000000)(hf:∀i,i≤k→VT ZEA f [.agg (l.getD i dE).cells] (sts i) (.bool (dC (i=k))) (sts (i+1))):
  ZK ZEA 83 [ZW l,f] (sts 0) (.int .i64 k) (sts (k+1)):=by
 refine ZB (cR 83 f83) fun hwf F hret=>?_
 clear hwf
 refine rg ?_
 refine rx @Zct ?_
 refine Zd (fr (l.length) (fun i Q=>i≤k→Q [(0,.d (ZW l)),(1,.d f),(7,.d (.int .i64 l.length)),(8,.d (.int .i64 i))] [] (sts i)) (fun n ih_key=>?_) fun key=>?_)
 ·intro i hn hi
  refine rg ?_
  refine Za (Zq rfl trivial (fun _=>?_) (fun h=>by simp at h;omega))
  have h1:i<l.length:=by omega
  have hrow:=QS (l:=l) (i:=i) h1
  have hfi:=hf i hi
  rw[ZE0]at hfi
  refine rg ?_
  refine rx (nd2 @atV @hrow) ?_
  refine aa ?_
  refine cW (hfi) ?_
  refine cd (fun h2=>?_) (fun h2=>?_)
  ·have h2:i=k:=by simpa using h2
   subst h2
   refine rg ?_
   exact hret rfl (by trivial) (ZEF _) (ZEB _)
  ·have h2:¬i=k:=by simpa using h2
   refine rg ?_
   refine aa ?_
   refine Zi ?_
   exact ih_key ((l.length)-(i+1)) (by omega) (i+1) rfl (by omega)
 exact key _ 0 rfl (by omega)
theorem ZnD(x:Val){T:St}{zs zn:Nat}{nm:Str}{n0 c:Int}(hs:T zs=sO (.cells [.str nm,.int .i64 n0]))(hn:T zn=sO (.cells [.int .i64 c]))(hc:-1000000≤c∧c≤1000000):
  ZK ZEA 84 [.agg x.cells,.ptr zs 0,.ptr zn 0] T (.bool (dC (x.name=nm)&&dC (c-1<0))) (if x.name=nm then T.upd zn (.cells [.int .i64 (c-1)]) else T):=by
 refine ZB (cR 84 f84) fun hwf F hret=>?_
 clear hwf
 rw[x.cells_eq]
 refine rg ?_
 refine rx @hs ?_
 refine cd (fun hq=>?_) (fun hq=>?_)
 ·have hne:¬x.name=nm:=by simpa using hq
  rw[if_neg hne,decide_eq_false hne]at hret
  refine rg ?_
  exact hret rfl (by trivial) (ZEF _) (ZEB _)
 ·have he:x.name=nm:=by simpa using hq
  rw[if_pos he,decide_eq_true he]at hret
  refine rx @hn ?_
  refine aa ?_
  refine rx @ZEI ?_
  exact hret rfl (by trivial) (ZEF _) (ZEB _)
theorem Zp1(v:Val){k:Nat}(hk:k<v.parts.length)(hl:v.parts.length≤1000000):Ze ZEA 43 [.agg v.cells,.agg (spC ((v.parts.getD k dE).name,Wn v.parts k))] (.int .i64 k):=by
 refine Zm (cR 43 f43) fun F st hret=>?_
 have hdl:=Zgk v.parts k
 generalize hnm:(v.parts.getD k dE).name=nm at *
 rw[v.cells_eq]
 refine rg ?_
 refine rg ?_
 refine Za ?_
 refine xP 3 fun zs hzs=>?_
 refine xP 5 fun zn hzn=>?_
 obtain⟨hne,hzn0⟩:=Zn hzn
 obtain⟨sts,hsts⟩:∃sts:Nat→St,sts=fun i=>((st.upd zs (.cells [.str nm,.int .i64 (Wn v.parts k)])).upd zn (.cells [.int .i64 ((Wn v.parts k:Int)-QC v.parts k i)])):=⟨_,rfl⟩
 have h0:((st.upd zs (.cells [.str nm,.int .i64 (Wn v.parts k)])).upd zn (.cells [.int .i64 (Wn v.parts k)]))=sts 0:=by rw[hsts];simp[QC]
 have hcl:∀i,i≤k→ZK ZEA 84 [.agg (v.parts.getD i dE).cells,.ptr zs 0,.ptr zn 0] (sts i) (.bool (dC (i=k))) (sts (i+1)):=fun i hi=>by
  have hdi:=Ztm v.parts k i
  have hcn:=Zis (ps:=v.parts) (k:=k) (i:=i) (by omega)
  have h1:=ZnD (v.parts.getD i dE) (T:=sts i) (zs:=zs) (zn:=zn) (nm:=nm) (n0:=Wn v.parts k) (c:=(Wn v.parts k:Int)-QC v.parts k i) (by rw[hsts];simp only;rw[ZEJ _ _ hne.symm,ZEI]) (by rw[hsts];simp only;rw[ZEI]) ⟨by omega,by omega⟩
  have h2:(if (v.parts.getD i dE).name=nm then (sts i).upd zn (.cells [.int .i64 ((Wn v.parts k:Int)-QC v.parts k i-1)]) else sts i)=sts (i+1):=by
   rw[hsts]
   simp only
   rw[hcn,hnm]
   split
   ·rw[ZET];congr 3;push_cast;congr 1;omega
   ·rfl
  have h3:(dC ((v.parts.getD i dE).name=nm)&&dC ((Wn v.parts k:Int)-QC v.parts k i-1<0))=dC (i=k):=by
   by_cases e:i=k
   ·subst e
    rw[decide_eq_true hnm,decide_eq_true (rfl:i=i)]
    have:Wn v.parts i=QC v.parts i i:=rfl
    simp;omega
   ·have h4:=Zxr hk i (by omega)
    rw[hnm]at h4
    rw[decide_eq_false e]
    cases hd:dC ((v.parts.getD i dE).name=nm) with
    |false=>rfl
    |true =>
     rw[hd,ZE1,decide_eq_false_iff_not]at h4
     rw[ZE1,decide_eq_false_iff_not]
     omega
  rw[h2,h3]at h1
  exact h1
 have hix:=ZhY v.parts (.fn (.func 84) [] [.ptr zs 0,.ptr zn 0]) sts hk hl fun i hi=>(hcl i hi).VT (first:=[]) (args:=[_]) (caps:=[_,_])
 rw[h0]
 refine rg ?_
 refine ct (hix) ?_
 refine hret rfl (by trivial) (ZEF _) ?_
 rw[hsts]
 exact fun y o hy=>by
  have e1:y≠zn:=fun e=>by rw[e,hzn0]at hy;cases hy
  have e2:y≠zs:=fun e=>by rw[e,hzs]at hy;cases hy
  simp only
  rw[ZEJ _ _ e1,ZEJ _ _ e2];exact hy
theorem ZnE{T v c fp}(hm:MT T v c fp){k:Nat}(hk:k<v.parts.length)(hl:v.parts.length≤1000000):Zb ZEA 43 [.agg c,.agg (spC ((v.parts.getD k dE).name,Wn v.parts k))] T fun r S=>r=.ret (.int .i64 k)∧S=T :=
 Zyt hm.live (.cons (Ys.agg (hm.ld fun _ h=>h)) (.cons (Ys.refl _) .nil)) (Zp1 v hk hl) (.int _ _)
structure AtR(T:St)(z:Nat)(v:Val)(fp:List Nat)(r:List Nat)(y o:Nat):Prop where
 ex:∃c1 f1 L1,AtM T y o (Yi v r) c1 f1 L1∧Zt1 T z 0 v fp y o r f1 L1∧∀b∈f1,b∈fp
 own:y=z∨y∈fp
theorem ZrF:∀{r v} (j:Nat),okP v r→j<r.length→r.getD j 0<(Yi v (r.take j)).parts.length
 | [],_,_,_,h=>by simp at h
 |i::r,v,0,h,_=>by simpa[Yi]using h.1
 |i::r,v,j+1,h,hj=>by
  have:=ZrF (r:=r) (v:=v.parts.getD i dE) j h.2 (by simpa using hj)
  simpa[Yi]using this
theorem ZhF:∀{r v},(Wt v r).length=r.length
 | [],_=>rfl
 |_::r,v=>by simp[Wt,ZhF]
theorem Znq:∀{r v} (j:Nat),j<r.length→(Wt v r).getD j dE=(((Yi v (r.take j)).parts.getD (r.getD j 0) dE).name,Wn (Yi v (r.take j)).parts (r.getD j 0))
 | [],_,_,h=>by simp at h
 |i::r,v,0,_=>rfl
 |i::r,v,j+1,h=>by
  have:=Znq (r:=r) (v:=v.parts.getD i dE) j (by simpa using h)
  simpa[Wt,Yi]using this
theorem Ztx:∀{r v} (j:Nat),okP v r→okP v (r.take j)
 | [],_,j,_=>by simp[okP]
 |_::_,_,0,_=>by simp[okP]
 |i::r,v,j+1,h=>⟨h.1,Ztx j h.2⟩
theorem Zhk:∀{r v},okP v r→VOk v→VOk (Yi v r)
 | [],_,_,hv=>hv
 |i::r,v,h,hv=>Zhk (r:=r) (v:=v.parts.getD i dE) h.2 (hv.part (ZA h.1))
theorem Zvg{r:List Nat}{j}(h:j<r.length):r.take (j+1)=r.take j++[r.getD j 0]:=by
 rw[List.take_succ];simp[ZES,h]
theorem Zs2(hX:Zea)(hA:Zh1){v:Val}(hv:VOk v){r}(hok:okP v r){T:St}{z c fp}(hz:T z=sO (.cells c))(hm:MT T v c fp)(hn:z∉fp)(hr:r.length≤1000):
  Zb ZEA 23 [.ptr z 0,.str (Wq (Wt v r))] T fun x S=>∃y o,AtR T z v fp r y o∧x=.ret (.tup [.ptr y o,.int .i64 0])∧S=T:=by
 refine Zc (cR 23 f23) fun F hF=>?_
 have hst:=ZoC hX hA (Wt v r) (ZlO hok hv) (by rw[ZhF];exact hr)
 have hsl:=ZhF (r:=r) (v:=v)
 have hget:=fun j=>Znq (r:=r) (v:=v) j
 have lenP:∀L s l,qv L s .lenL [.d (ZlN l)]=sO (True,.d (.int .i64 l.length)):=fun _ _ _=>rfl
 have atP:∀L s l i,qv L s (.iaddr 2) [.d (ZlN l),.d (.int .i64 i)]=sO (0≤i∧i<l.length,.d (.ep (spC (l.getD i.toNat dE)) 0)):=fun _ _ _ _=>rfl
 generalize Wt v r=l at *
 obtain⟨rA,rU⟩:=AtM.root hz hm hn
 refine rg ?_
 refine rg ?_
 refine cl (hst) ?_
 refine rg ?_
 refine i0 ?_
 refine rx @lenP ?_
 refine Zd (fr (r.length) (fun j Q=>∀y o,AtR T z v fp (r.take j) y o→j≤r.length→Q [(0,.d (.ptr y o)),(18,.d (ZlN l)),(19,.d (.int .i64 l.length)),(20,.d (.int .i64 j))] [] T) (fun n ih_key=>?_) fun key=>?_)
 ·intro j hn y o hy hj
  refine rg ?_
  refine Za (Zq rfl trivial (fun h1=>?_) (fun h1=>?_))
  ·have h1:j<r.length:=by rw[←hsl];simpa using h1
   obtain⟨c1,f1,L1,hM,hU,hff⟩:=hy.ex
   have hk:=ZrF j hok h1
   have hvo:=Zhk (Ztx j hok) hv
   obtain⟨x,cap,ci,fi,Li,hc1,hcap,hLi,hM2,hU2,hxf,hif⟩:=hM.step hU rfl hk
   have hfind:=ZnE hM.mt hk (by have:=hvo.few;omega)
   have hg:=hget j h1
   have hMb:=hM.b
   have hMl:=hM.le
   have hMc:=hM.cc
   have hnx:AtR T z v fp (r.take (j+1)) x (r.getD j 0*5):=by
    rw[Zvg h1]
    exact⟨⟨_,_,_,by rw[ZmO];exact hM2,hU2,fun b hb=>hff b (hif b hb)⟩,.inr (hff x hxf)⟩
   generalize hu:Yi v (r.take j)=u at *
   generalize hkk:r.getD j 0=k at *
   refine rx (nd2 @atP @hg) ?_
   refine aa ?_
   unfold part at hMc
   have h4:L1[o+4]?=sO (.msl x 0 u.parts.length cap 5):=by
    have:((L1.drop o).take 5)[4]?=sO (.msl x 0 u.parts.length cap 5):=by rw[hMc,hc1];rfl
    rwa [ZFg,if_pos (by omega),List.getElem?_drop]at this
   refine rx (nd2 @hMb @hMc) ?_
   refine⟨hMl,?_⟩
   refine cV0 (hfind) ?_ ?_
   ·rintro d S ⟨hr,rfl⟩
    cases hr
    refine gR0 ?_
    refine rg ?_
    refine Zq rfl trivial (fun h=>by simp at h;omega) (fun _=>?_)
    refine rx (nd2 @hMb @h4) ?_
    refine aa ?_
    refine rg ?_
    refine aa ?_
    refine Zi ?_
    exact ih_key ((r.length)-(j+1)) (by omega) (j+1) rfl _ _ hnx (by omega)
   ·rintro d S ⟨hr,_⟩
    cases hr
  ·have h1:j=r.length:=by rw[hsl]at h1;simp at h1;omega
   subst h1
   rw[ZFa]at hy
   refine rg ?_
   exact hF.ret _ T rfl (by trivial) (ZEF _) (ZEB _) ⟨y,o,hy,rfl,rfl⟩
 exact key _ 0 rfl z 0 ⟨⟨_,_,_,rA,rU,fun _ h=>h⟩,.inl rfl⟩ (by omega)
theorem ZkS(v):Kb (Y6 v)=Kb v:=by
 induction v using Val.ind with
 |h v ih =>
  rw[Zc3,WN,WN v]
  show 1+nodesL (v.parts.map Y6)=_
  have:∀l:List Val,(∀x∈l,Kb (Y6 x)=Kb x)→nodesL (l.map Y6)=nodesL l:=fun l hl=>by
   induction l with
   |nil=>rfl
   |cons a r ih2=>rw[ZEQ,nodesL,nodesL,hl a (by simp),ih2 fun x hx=>hl x (by simp[hx])]
  rw[this _ ih]
theorem Zz3{g w t Ln}(hs:Yb g t w)(hL:∀b∈Ln,∃ds,t b=sO (.cells ds)):Yb (QD g t Ln) (t.delL Ln) w:=by
 have hx:=Zas hs hL
 have hpe:∀c,c∉Ln→(QD g t Ln).prot c=g.prot c:=fun c hc=>by simp only[QD,if_neg hc]
 refine⟨fun c x hx'=>?_,fun c x hx'=>?_,fun c hc=>?_,fun n cs hc=>(hs.tabs n cs hc).mono hx⟩
 ·simp only[St.delL]at hx'
  by_cases hc:c∈Ln
  ·simp[hc]at hx'
  ·simp only[hc,if_false]at hx';exact(hs.obj c x hx').mono hx rfl (hpe c hc)
 ·simp only[St.delL]at hx'
  by_cases hc:c∈Ln
  ·simp[hc]at hx'
  ·simp only[hc,if_false]at hx';exact hs.kept c x hx'
 ·have h1:=hs.fresh c hc
  refine⟨(hpe c fun h=>?_).trans h1.1,h1.2⟩
  obtain⟨ds,hd⟩:=hL c h
  have:=(hs.obj c _ hd).lt
  omega
theorem Zb.freeze{f args T Φ Ψ}(h:Zb ZEA f args T Φ)(hΦ:∀r S,Φ r S→∃Ln d d',r=.ret d∧(∀b∈Ln,∃ds,S b=sO (.cells ds))∧Ys S Ln d d'∧Ψ (.ret d') (S.delL Ln)):Zb ZEA f args T Ψ :=
 ⟨h.1,fun g w vs hs ha=>(h.2 g w vs hs ha).mono fun e w' ⟨g',S',r,he,hS,hr,hq⟩=>by
  obtain⟨Ln,d,d',rfl,hL,hl,hΨ⟩:=hΦ _ _ hq
  have hx:=Zas hS hL
  refine⟨QD g' S' Ln,S'.delL Ln,.ret d',he.trans hx,Zz3 hS hL,?_,hΨ⟩
  cases e<;>simp only[Zp5]at hr⊢
  exact hl _ w' _ (ZjU hS hL) (Rep.mono hr hx)⟩
theorem Ys.tupQ{t Ln l l'}(h:LdC t Ln l l'):Ys t Ln (.tup l) (.tup l'):=by
 intro g w v hf hr
 cases hr with
 |tup vs _ hn hr=>exact .tup vs _ (hn.trans h.len) (fun i v d' hv hd=>by obtain⟨d,h1,h2⟩:=h.get hd;exact h2 _ _ _ hf (hr i v d hv h1))
theorem Zs1(hX:Zea)(hA:Zh1){v:Val}(hv:VOk v)(hV:Y7 v=true){r}(hok:okP v r)(hr:r.length≤1000){w}(hw:VOk w)(hW:Y7 w=true)(hP:Y7 (Kp v r w)=true)(T:St):
  Zb ZEA 9 [.agg v.cells,.str (Wq (Wt v r)),.agg w.cells] T fun x S=>∃c fp,x=.ret (.tup [.agg c,.int .i64 0])∧MT S (Kp v r w) c fp∧(∀y∈fp,T y=nO)∧∀y,y∉fp→S y=T y:=by
 refine Zc (cR 9 f9) fun F hF=>?_
 have hv1:=Js v
 have hw1:=Js w
 rw[hV]at hv1
 rw[hW]at hw1
 have hcv:=Zdr v hv
 have hcw:=Zdr w hw
 rw[ZE0 v,ZE0 w]at *
 refine rg ?_
 refine rg ?_
 refine cl (hv1) ?_
 refine cG (hw1) ?_
 refine i0 ?_
 refine rg ?_
 refine cV (hcv T) ?_ ?_
 ·rintro d S ⟨c,fp,hr,hm,hf,ho⟩
  cases hr
  refine gR0 ?_
  refine⟨hm.len,?_⟩
  rw[show c++List.drop c.length [D.str [],.int .i64 0,.nilsl,.nilsl,.nilsl]=c by rw[hm.len];simp]
  refine Za ?_
  refine xP 8 fun z hz=>?_
  have hzf:z∉fp:=fun h=>by obtain⟨ds,hd⟩:=hm.live z h;rw[hz]at hd;simp at hd
  have hm2:MT (S.upd z (.cells c)) v c fp:=hm.mono fun y hy=>ZEJ _ _ fun e=>hzf (e▸hy)
  have hat:=Zs2 hX hA hv hok (ZEI S z (.cells c)) hm2 hzf hr
  have hTS:∀b,¬T b=nO→S b=T b∧(S.upd z (.cells c)) b=T b:=fun b hb=>by
   have h1:S b=T b:=ho b fun h=>hb (hf b h)
   exact⟨h1,by rw[ZEJ _ _ (fun e=>by rw[e,]at h1;rw[hz]at h1;exact hb (e▸h1.symm))];exact h1⟩
  have hST:∀b,(S.upd z (.cells c)) b=nO∨b∈fp→T b=nO:=fun b hb=>by
   rcases hb with hb|hb
   ·by_cases e:T b=nO
    ·exact e
    ·rw[(hTS b e).2]at hb;exact hb
   ·exact hf b hb
  have hzT:T z=nO:=by
   by_cases e:T z=nO
   ·exact e
   ·have:=(hTS z e).1;rw[hz]at this;exact this.symm
  generalize hT2:S.upd z (.cells c)=T2 at *
  refine rg ?_
  refine cV (hat) ?_ ?_
  ·rintro d S1 ⟨y,o,hR,hr1,rfl⟩
   cases hr1
   obtain⟨⟨c1,f1,L1,hM,hU,hff⟩,hyo⟩:=hR
   have hMb:=hM.b
   have hMl:=hM.le
   have hyT:T y=nO:=by
    rcases hyo with e|e
    ·rw[e];exact hzT
    ·exact hf y e
   refine gR0 ?_
   refine rg ?_
   refine i0 ?_
   refine rg ?_
   refine cV (hcw S1) ?_ ?_
   ·rintro d S2 ⟨c2,fp2,hr2,hm2',hf2,ho2⟩
    cases hr2
    have hy2:y∉fp2:=fun h=>by have:=hf2 y h;rw[hMb]at this;simp at this
    have hSy:S2 y=sO (.cells L1):=by rw[ho2 y hy2];exact hMb
    have hcl:=hm2'.len
    refine gQ @hSy ?_
    refine⟨hMl,hcl,?_⟩
    have hS3:∀b,b≠y→(S2.upd y (.cells (Zu L1 o c2))) b=S2 b:=fun b hb=>ZEJ _ _ hb
    obtain⟨c',fp',L',hA',hfp'⟩:=hU (S2.upd y (.cells (Zu L1 o c2))) w c2 fp2 (hm2'.mono fun b hb=>hS3 b fun e=>hy2 (e▸hb)) (fun b hb=>.inl (hf2 b hb))
     (fun b h1 h2 h3=>by rw[hS3 b h2,ho2 b fun h=>h1 (hf2 b h)]) (ZEI _ _ _) hy2
    have hfr:∀b∈fp',T b=nO:=fun b hb=>hST b (hfp' b hb)
    have hout:∀b,¬T b=nO→(S2.upd y (.cells (Zu L1 o c2))) b=T b:=fun b hb=>by
     have h1:=(hTS b hb).2
     rw[hS3 b fun e=>hb (e▸hyT),ho2 b fun h=>by have:=hf2 b h;rw[h1]at this;exact hb this]
     exact h1
    rw[show S2.upd y (.cells (List.take o L1++c2++List.drop (o+c2.length) L1))=S2.upd y (.cells (Zu L1 o c2)) from rfl]
    generalize S2.upd y (.cells (Zu L1 o c2))=S3 at *
    have hAb:=hA'.b
    have hAl:=hA'.le
    have hAc:=hA'.cc
    have hmt:=hA'.mt
    have hVl:=Zyt hmt.live (.cons (Ys.agg (hmt.ld fun _ h=>h)) .nil) (Js (Kp v r w)) (.bool _)
    rw[hP]at hVl
    unfold part at hAc
    rw[List.drop_zero]at hAc
    refine rx (nd2 @hAb @hAc) ?_
    refine⟨by omega,?_⟩
    refine cV (hVl) ?_ ?_
    ·rintro d S4 ⟨hr3,rfl⟩
     cases hr3
     refine gR0 ?_
     refine i0 ?_
     obtain⟨p5,hce⟩:=hmt.head
     subst hce
     refine rx (nd2 @hAb @hAc) ?_
     refine⟨by omega,?_⟩
     exact hF.ret _ (fun b=>if b∈fp' then S4 b else T b) rfl (by simp) (ZEF _) (fun b o hb=>by
      dsimp only at hb
      split at hb
      ·exact hb
      ·rw[hout b (by rw[hb];simp)];exact hb) ⟨_,fp',rfl,hmt.mono fun b hb=>if_pos hb,hfr,fun b hb=>if_neg hb⟩
    ·rintro d S4 ⟨hr3,_⟩
     cases hr3
   ·rintro d S2 ⟨_,_,hr2,_⟩
    cases hr2
  ·rintro d S1 ⟨_,_,_,hr1,_⟩
   cases hr1
 ·rintro d S ⟨_,_,hr,_⟩
  cases hr
theorem Zsk(hX:Zea)(hA:Zh1){v:Val}(hv:VOk v)(hV:Y7 v=true){r}(hok:okP v r)(hr:r.length≤1000){w}(hw:VOk w)(hW:Y7 w=true)(hP:Y7 (Kp v r w)=true):
  Ze ZEA 9 [.agg v.cells,.str (Wq (Wt v r)),.agg w.cells] (.tup [.agg (Kp v r w).cells,.int .i64 0]):=fun T=>by
 refine Zb.freeze (Zs1 hX hA hv hV hok hr hw hW hP T) fun x S ⟨c,fp,hr,hm,hf,ho⟩=>⟨fp,_,_,hr,fun b hb=>hm.live b hb,Ys.tupQ (.cons (Ys.agg (hm.ld fun y h=>h)) (.cons (.refl _) .nil)),rfl,?_⟩
 funext y
 simp only[St.delL]
 by_cases e:y∈fp
 ·rw[if_pos e,hf y e]
 ·rw[if_neg e,ho y e]
theorem Zk3(v)(hv:VOk v):Ze ZEA 22 [.agg v.cells] (.agg v.cells):=fun T=>by
 refine Zb.freeze (Zdr v hv T) fun r S ⟨c,fp,hr,hm,hf,ho⟩=>⟨fp,_,_,hr,fun b hb=>hm.live b hb,Ys.agg (hm.ld fun y h=>h),rfl,?_⟩
 funext y
 simp only[St.delL]
 by_cases e:y∈fp
 ·rw[if_pos e,hf y e]
 ·rw[if_neg e,ho y e]
def Zbg(v:Val)(q:Str)(zv zq:Nat):St:=(ZEX zv (.cells v.cells)).or (ZEX zq (.cells [.str q]))
theorem ZhS(v:Val)(q:Str)(st):Zb ZEA 21 [.agg v.cells,.str q] st fun r S=>∃zv zq,ZJ st (Zbg v q zv zq)∧zq≠zv∧r=.ret (.fn (.func 37) [] [.ptr zq 0,.ptr zv 0])∧S=st.or (Zbg v q zv zq):=by
 refine Zc (cR 21 f21) fun F hF=>?_
 have hE:∀zv zq,Zbg v q zv zq=(ZEX zv (.cells v.cells)).or (ZEX zq (.cells [.str q])):=fun _ _=>rfl
 rw[v.cells_eq]at hE⊢
 refine rg ?_
 refine Za ?_
 refine xP 2 fun zv hv=>?_
 refine xP 3 fun zq hq=>?_
 have kq:=Zn hq
 refine rg ?_
 refine hF.ret _ _ rfl (by trivial) (ZEF _) (ZEB _) ⟨zv,zq,?_,kq.1,rfl,?_⟩
 ·intro b o hb
  rw[hE]at hb
  by_cases e:b=zv
  ·rw[e];exact hv
  ·rw[Zl (WO _ e)]at hb
   by_cases e:b=zq
   ·rw[e];exact kq.2
   ·rw[WO _ e]at hb;simp at hb
 ·rw[Wu hq,Wu hv,or_assoc,hE]
def QU(P:List Val):Nat→List (Str×Int)
 |0=>[]
 |i+1=>Wg (P.getD i dE).name ((Wn P i:Int)+1) (QU P i)
theorem Zr3{P:List Val}{s}:∀{i},i≤P.length→(Zp s (QU P i)).getD 0=(((P.take i).filter fun x=>dC (x.name=s)).length:Int)
 |0,_=>rfl
 |i+1,h=>by
  have ih:=Zr3 (P:=P) (s:=s) (i:=i) (by omega)
  rw[QU,Ku,Yj (show i<P.length by omega),List.filter_append,ZEM]
  by_cases e:s=(P.getD i dE).name
  ·subst e
   rw[if_pos rfl,List.filter_cons,if_pos (by simp)]
   simp only[ZFe,List.filter_nil,ZER,List.length_nil]
   unfold Wn
   omega
  ·rw[if_neg e,ih,List.filter_cons,if_neg (by simpa using fun h=>e h.symm)]
   simp
def pvA(L:List (Str×Val))(j:Nat):List D:=[.str (L.getD j dE).1,.agg (L.getD j dE).2.cells]
theorem ZnG(hI:Zaj)(v):VOk v→∀(q:Str) (zv zq),q.length+10200*Z6 v≤1000000→zq≠zv→Ze7 ZEA (.fn (.func 37) [] [.ptr zq 0,.ptr zv 0]) (Zad v q).length (pvA (Zad v q)) (Zbg v q zv zq):=by
 induction v using Val.ind with
 |h v ih =>
 intro hv q zv zq hqb hne l go A a0 hcons hA hd
 have hL:=Zsm v q
 have hcp:=Zk3 v hv
 have hfew:=hv.few
 generalize Zad v q=LL at *
 have hlen:0<LL.length:=by rw[hL];simp
 have hx0:pvA LL 0=[.str q,.agg [.str v.name,.int .i64 v.int,ZL v.bytes,Z9 v.hdrs,ZW v.parts]]:=by unfold pvA;rw[hL,←ZE0];rfl
 refine Zb.V (first:=[]) (args:=[.fn (.yield l) [] []]) (caps:=[.ptr zq 0,.ptr zv 0]) (Zc (cR 37 f37) fun F hF=>?_)
 have gv:(Zbg v q zv zq) zv=sO (.cells v.cells):=Zh (Z4 _ _)
 have gq:(Zbg v q zv zq) zq=sO (.cells [.str q]):=by unfold Zbg;rw[Zl (WO _ hne)];exact Z4 _ _
 rw[ZE0]at gv hcp
 generalize Zbg v q zv zq=T at *
 refine rg ?_
 refine Yg (Za (Za ?_))
 refine xP 3 fun z3 h3=>?_
 obtain⟨h3a,h3t⟩:=YY h3
 have hst:((a0.or T).upd z3 (.cells [.fn (.yield l) [] []]))=a0.or (T.upd z3 (.cells [.fn (.yield l) [] []])):=Jn h3a
 rw[hst]
 clear hst
 have hd3:=Qd (o:=.cells [.fn (.yield l) [] []]) hd h3a
 have g3:(T.upd z3 (.cells [.fn (.yield l) [] []])) z3=sO (.cells [.fn (.yield l) [] []]):=ZEI _ _ _
 have gq3:(T.upd z3 (.cells [.fn (.yield l) [] []])) zq=sO (.cells [.str q]):=by rw[ZEJ _ _ (fun e=>by rw[←e,gq]at h3t;simp at h3t)];exact gq
 have gv3:(T.upd z3 (.cells [.fn (.yield l) [] []])) zv=sO (.cells [.str v.name,.int .i64 v.int,ZL v.bytes,Z9 v.hdrs,ZW v.parts]):=by rw[ZEJ _ _ (fun e=>by rw[←e,gv]at h3t;simp at h3t)];exact gv
 clear h3 h3a h3t gq gv hd
 generalize (T.upd z3 (.cells [.fn (.yield l) [] []]))=T3 at *
 have rd:∀{a Tq:St} {b:Nat} {o:W4},ZJ a Tq→Tq b=sO o→(a.or Tq) b=sO o:=fun hda hb=>by rw[Zl (hda _ _ hb)];exact hb
 have hcall:=(hcons 0 hlen (fun i hi=>absurd hi (Nat.not_lt_zero _)) a0 hA).frame hd3
 rw[hx0]at hcall
 refine rh ?_
 refine Yx ?_
 simp only[Eqs,reduceCtorEq,ZEG,reduceIte,ZED,ZEH,ZEE,rd hd3 g3,rd hd3 gq3,rd hd3 gv3]
 refine clD (hcp) ?_
 refine vVD (hcall) ?_ ?_
 ·rintro d S ⟨s',⟨hr,hA'⟩,hd',rfl⟩
  cases hgo:go 0 with
  |next =>
   rw[hgo]at hr
   cases hr
   refine kF ?_
   refine gR0 ?_
   refine i0 ?_
   refine rg ?_
   intro b hb
   obtain⟨hb1,hb2⟩:=YY hb
   rw[Jn hb1]
   have hT0:=Qd (o:=.map (Ki (QU v.parts 0))) hd' hb1
   have g3b:∀E,(T3.upd b (.map E)) z3=sO (.cells [.fn (.yield l) [] []]):=fun E=>by rw[ZEJ _ _ (fun e=>by rw[←e,g3]at hb2;simp at hb2)];exact g3
   have gqb:∀E,(T3.upd b (.map E)) zq=sO (.cells [.str q]):=fun E=>by rw[ZEJ _ _ (fun e=>by rw[←e,gq3]at hb2;simp at hb2)];exact gq3
   have gvb:∀E,(T3.upd b (.map E)) zv=sO (.cells [.str v.name,.int .i64 v.int,ZL v.bytes,Z9 v.hdrs,ZW v.parts]):=fun E=>by rw[ZEJ _ _ (fun e=>by rw[←e,gv3]at hb2;simp at hb2)];exact gv3
   rw[show([]:List (D×D))=Ki (QU v.parts 0) from rfl]
   refine rh ?_
   refine Zj ?_
   simp only[Eqs,reduceCtorEq,ZEG,reduceIte,ZED,ZEH,ZEE,rd hT0 (gvb _),Zct]
   refine Zta 19 rfl fun hwf=>?_
   have hw:=ZlW hwf
   unfold big at hw
   clear hwf hcall hd3 hA hb g3 gq3 gv3 hcp
   refine Zd ?_
   refine lpU (fun Q=>∀(n i:Nat),(v.parts.length)-i=n→∀(F:Fr ZEA) (qs:List Nat) (Tq a:St),Yy F [] (fun r S=>∃a,Zd9 LL.length go A a r∧a.sub S) (qs.map .mark)→Mk (T3.upd b (.map (Ki (QU v.parts i)))) qs Tq→ZJ a Tq→A (1+(QW v q i).length) a→(∀j,j<1+(QW v q i).length→go j=.next)→i≤v.parts.length→Q F [(1,.d (.ptr zq 0)),(3,.d (.ptr z3 0)),(4,.d (.map b)),(19,.d (ZW v.parts)),(20,.d (.int .i64 v.parts.length)),(21,.d (.int .i64 i))] [] (a.or Tq)) ?_ fun key=>?_
   ·intro n
    induction n using Nat.strongRecOn with
    |ind n ih_key =>
    clear hd' hA' hgo hF s' hT0 hb1
    intro i hn F qs Tq a hF hMk hda hA hno hi
    refine rg ?_
    refine Za (Zq rfl trivial (fun hc=>?_) (fun hc=>?_))
    ·simp at hc
     have hr5:=QS hc
     have hmem:=ZA hc
     have hP:=ZhI v q i
     have hS:=Zs3 (v:=v) (q:=q) hc
     have hxo:=hv.part hmem
     have hxh:=ZfR hmem
     have ihx:=ih _ hmem hxo
     have hsg:=Zr3 (P:=v.parts) (s:=(v.parts.getD i dE).name) (i:=i) hi
     rw[show((v.parts.take i).filter fun x=>dC (x.name=(v.parts.getD i dE).name)).length=Wn v.parts i from rfl]at hsg
     have hdl:=Zgk v.parts i
     have hsO:=ZY.eq_1 v.parts i
     have hsM:=QU.eq_2 v.parts i
     have hit:=hI (Wn v.parts i) (by have:=hv.parts510;omega)
     have hdec:=ZgX (Wn v.parts i)
     have hnl:=hxo.node.1
     have hwI:=ZhH.eq_1 v q i
     have hjl:=Zc2 q (ZY v.parts i)
     have hsl:=ZfA hv.few hv.name hc
     have hjP:=ZV.eq_1 q (ZY v.parts i)
     generalize hk:1+(QW v q i).length=k at *
     generalize hx:v.parts.getD i dE=x at *
     generalize Wn v.parts i=dn at *
     have e1:=YO (vD:=WZ) ZM x.name (QU v.parts i)
     have e2:=ZaB (vD:=WZ) ZM x.name ((dn:Int)+1) (QU v.parts i)
     have e3:=Wb ZM x.name
     simp only[show KK x.name=D.str x.name from rfl,show WZ ((dn:Int)+1)=D.int .i64 ((dn:Int)+1) from rfl]at e1 e2 e3
     refine rx (nd2 @atV @hr5) ?_
     refine aa ?_
     refine rg ?_
     refine rh ?_
     refine Zj ?_
     simp only[Eqs,reduceCtorEq,ZEG,reduceIte,ZED,ZEH,ZEE,rd hda (hMk.get (ZEI _ _ _)),e1,e3,Zgr,hsg]
     refine rg ?_
     refine jU [0] (fun Q=>∀s,s=ZY v.parts i→Q F [(1,.d (.ptr zq 0)),(3,.d (.ptr z3 0)),(4,.d (.map b)),(6,.loc 6 0),(7,.d (.str s)),(19,.d (ZW v.parts)),(20,.d (.int .i64 v.parts.length)),(21,.d (.int .i64 i))] [(6,[.str x.name,.int .i64 x.int,ZL x.bytes,Z9 x.hdrs,ZW x.parts])] (a.or Tq)) ?_ fun jn=>?_
     ·intro s hs
      have hgb:=hMk.get (ZEI _ _ _)
      have ga:=hda b _ hgb
      refine rh ?_
      refine Zj ?_
      simp only[Eqs,reduceCtorEq,ZEG,reduceIte,ZED,ZEH,ZEE,rd hda hgb,e1,e2,e3,Zgr,hsg]
      refine aa ?_
      rw[Jn ga,←hsM]
      have hMk2:Mk (T3.upd b (.map (Ki (QU v.parts (i+1))))) qs (Tq.upd b (.map (Ki (QU v.parts (i+1))))):=by
       have:=hMk.upd (o':=.map (Ki (QU v.parts (i+1)))) (ZEI _ _ _)
       rwa [ZET]at this
      have hda2:=Qd (o:=.map (Ki (QU v.parts (i+1)))) hda ga
      generalize (Tq.upd b (.map (Ki (QU v.parts (i+1)))))=Tr at *
      refine rh ?_
      refine Zj ?_
      simp only[Eqs,reduceCtorEq,ZEG,reduceIte,ZED,ZEH,ZEE,rd hda2 (hMk2.get (gqb _))]
      refine jU [0] (fun Q=>∀t,t=ZV q (ZY v.parts i)→Q F [(1,.d (.ptr zq 0)),(3,.d (.ptr z3 0)),(4,.d (.map b)),(6,.loc 6 0),(7,.d (.str t)),(19,.d (ZW v.parts)),(20,.d (.int .i64 v.parts.length)),(21,.d (.int .i64 i))] [(6,[.str x.name,.int .i64 x.int,ZL x.bytes,Z9 x.hdrs,ZW x.parts])] (a.or Tr)) ?_ fun jn2=>?_
      ·intro t ht
       have hev:=ZhS x t (a.or Tr)
       have htl:t.length+10200*Z6 x≤1000000:=by rw[ht];omega
       rw[ZE0]at hev
       rw[←ht]at hwI
       refine rg ?_
       refine cV (hev) ?_ ?_
       ·rintro dd S ⟨zx,zy,hdj,ne,hr,rfl⟩
        cases hr
        refine gR0 ?_
        refine Zd ?_
        refine WS hF rfl trivial [1,3,4,19,20,21] (by show([1,3,4,19,20,21]:List Nat).Nodup;decide) hdj (ihx t zx zy htl ne) (fun j hj=>rfl) (goE go k) (fun j s=>∃a,s=a.or Tr∧A (k+j) a∧ZJ a Tr) ⟨a,rfl,hA,hda2⟩ ?_ ?_ ?_ ?_ ?_ ?_
        ·rintro j _ hj hno2 ⟨a1,rfl,hA1,hd1⟩ F' ready busy hdr hbeg hend
         obtain⟨tl,htl2⟩:=hS
         rw[hwI]at htl2
         have hidx:LL.getD (k+j) dE=(Zad x t).getD j dE:=by
          rw[hL,htl2,←hk,←List.cons_append]
          exact Zro (by simp;omega) hj
         have hlt:k+j<LL.length:=by
          rw[hL,htl2]
          simp only[ZER,ZEM]
          omega
         have hcall:=hcons (k+j) hlt (fun i hi=>ZbA hno hno2 i hi) a1 hA1
         unfold pvA at hcall
         rw[hidx]at hcall
         simp only[Eqs,reduceCtorEq,ZEG,reduceIte,ZED,ZEH,ZEE,YZ,Wc,KO,WE,List.isEmpty_nil,List.isEmpty_cons,pvA]
         generalize (Zad x t).getD j dE=g at *
         obtain⟨gh,gx⟩:=g
         simp only[ZE0]at hcall⊢
         refine rg ?_
         refine rg ?_
         refine hbeg fun hdb=>?_
         have hcall2:=hcall.frame (Ztl hd1 hdb)
         rw[←or_assoc]at hcall2
         refine rh ?_
         refine Zj ?_
         simp only[Eqs,reduceCtorEq,ZEG,reduceIte,ZED,ZEH,ZEE,Zh (rd hd1 (hMk2.get (g3b _)))]
         refine vV (hcall2) ?_ ?_
         ·rintro d S ⟨s',⟨hr,hA'⟩,hd',rfl⟩
          have hdd:=ZgZ hd' hdb
          rw[←or_assoc]
          cases hgo:go (k+j) with
          |next =>
           rw[hgo]at hr
           cases hr
           refine gR0 ?_
           refine i0 ?_
           refine ZD (Zo ?_)
           exact hend.fin ⟨by unfold goE;rw[hgo],s',rfl,hA',hdd.1⟩ hdd.2 (ZEB _)
          |stop c =>
           rw[hgo]at hr
           cases hr
           refine gR0 ?_
           refine i1 ?_
           exact hend.exit rfl ⟨by unfold goE;rw[hgo],s',rfl,hA',hdd.1⟩ hdd.2 (ZEB _)
          |pan d=>rw[hgo]at hr;cases hr
         ·rintro d S ⟨s',⟨hr,hA'⟩,hd',rfl⟩
          have hdd:=ZgZ hd' hdb
          cases hgo:go (k+j) with
          |pan d' =>
           rw[hgo]at hr
           cases hr
           rw[←or_assoc]
           exact hend.pan ⟨by unfold goE;rw[hgo],s',rfl,hA',hdd.1⟩ hdd.2 (ZEB _)
          |next=>rw[hgo]at hr;cases hr
          |stop c=>rw[hgo]at hr;cases hr
        ·rintro z _ hno2 ⟨a1,rfl,hA1,hd1⟩ hz
         obtain⟨q1,q2⟩:=YY hz
         rw[Jn q1]
         have hoff:1+(QW v q (i+1)).length=k+(Zad x t).length:=by rw[hP,hwI,ZEM];omega
         refine rg ?_
         refine aa ?_
         refine Zi ?_
         exact ih_key (v.parts.length-(i+1)) (by omega) (i+1) rfl (F.mark z) (z::qs) (Tr.upd z .dfr) a1 (hF.mark z) ⟨Tr,hMk2,q2,rfl⟩ (Qd hd1 q1) (by rw[hoff];exact hA1) (by rw[hoff];exact ZbA hno hno2) (by omega)
        ·rintro z _ m hm hno2 hgo
         unfold goE at hgo
         split at hgo<;>simp at hgo
        ·rintro z _ m id hm hno2 hgo ⟨a1,rfl,hA1,hd1⟩ hz
         obtain⟨q1,q2⟩:=YY hz
         rw[Jn q1]
         obtain⟨tl,htl2⟩:=hS
         rw[hwI]at htl2
         have hlt:k+m<LL.length:=by
          rw[hL,htl2]
          simp only[ZER,ZEM]
          omega
         unfold goE at hgo
         split at hgo
         ·simp at hgo
         ·rename_i c hc2
          simp only[Oc.stop.injEq,Code.exit.injEq]at hgo
          subst hgo
          refine ZR rfl ?_
          refine ZT ?_
          exact(hF.mark z).finU (Mk.unwS (m:=nO) (qs:=z::qs) (A:=a1.or (T3.upd b (.map (Ki (QU v.parts (i+1)))))) ⟨_,_,.tup [],_,rfl,trivial,ZEF _,ZEB _,a1,.stop (k+m) c hlt (ZbA hno hno2) hc2 hA1,YQ _ _⟩ (Mk.or (qs:=z::qs) (S:=Tr.upd z .dfr) ⟨Tr,hMk2,q2,rfl⟩ (Qd hd1 q1)))
         ·simp at hgo
        ·rintro z _ m d hm hno2 hgo ⟨a1,rfl,hA1,hd1⟩ hz
         obtain⟨q1,q2⟩:=YY hz
         rw[Jn q1]
         obtain⟨tl,htl2⟩:=hS
         rw[hwI]at htl2
         have hlt:k+m<LL.length:=by
          rw[hL,htl2]
          simp only[ZER,ZEM]
          omega
         unfold goE at hgo
         split at hgo
         ·simp at hgo
         ·simp at hgo
         ·rename_i d' hc2
          simp only[Oc.pan.injEq]at hgo
          subst hgo
          exact(hF.mark z).panU (Mk.unwS (m:=sO _) (qs:=z::qs) (A:=a1.or (T3.upd b (.map (Ki (QU v.parts (i+1)))))) ⟨_,_,ZEF _,ZEB _,a1,.pan (k+m) _ hlt (ZbA hno hno2) hc2 hA1,YQ _ _⟩ (Mk.or (qs:=z::qs) (S:=Tr.upd z .dfr) ⟨Tr,hMk2,q2,rfl⟩ (Qd hd1 q1)))
        ·intro m c hgo
         unfold goE at hgo
         split at hgo<;>simp at hgo
         exact .inr ⟨0,hgo.symm⟩
       ·rintro dd S ⟨zx,zy,_,_,hr,_⟩
        cases hr
      refine cd (fun hq=>?_) (fun hq=>?_)
      ·have hq:¬q=[]:=by simpa using hq
       rw[if_neg hq]at hjP
       refine rh ?_
       refine Zj ?_
       simp only[Eqs,reduceCtorEq,ZEG,reduceIte,ZED,ZEH,ZEE,rd hda2 (hMk2.get (gqb _))]
       have hsl2:s.length≤5040:=by rw[hs];exact hsl
       refine⟨by unfold big;omega,by unfold big;rw[ZEM];simp only[ZER,List.length_nil];omega,?_⟩
       refine kE [1,3,4,6,7,19,20,21] ?_
       refine jn2 _ ?_
       rw[hjP,hs]
      ·have hq:q=[]:=by simpa using hq
       rw[if_pos hq]at hjP
       refine ZD ?_
       refine kE [1,3,4,6,7,19,20,21] ?_
       refine jn2 _ ?_
       rw[hjP,hs]
     refine cd (fun h0=>?_) (fun h0=>?_)
     ·have h0:¬dn=0:=by simp at h0;omega
      rw[if_neg h0]at hsO
      refine rg ?_
      refine cl (hit) ?_
      refine⟨by unfold big;omega,by unfold big;omega,?_⟩
      refine kE [1,3,4,6,7,19,20,21] ?_
      refine jn _ ?_
      rw[hsO];simp
     ·have h0:dn=0:=by simp at h0;omega
      rw[if_pos h0]at hsO
      refine ZD ?_
      refine kE [1,3,4,6,7,19,20,21] ?_
      refine jn _ ?_
      rw[hsO]
    ·simp at hc
     obtain rfl:i=v.parts.length:=by omega
     have hall:LL.length=1+(QW v q v.parts.length).length:=by rw[hL,ZER];omega
     rw[←hall]at hA hno
     refine ZR rfl (ZT ?_)
     exact hF.finU (Mk.unwS (m:=nO) (A:=a.or (T3.upd b (.map (Ki (QU v.parts v.parts.length))))) ⟨_,_,.tup [],_,rfl,trivial,ZEF _,ZEB _,a,.all hno hA,YQ _ _⟩ (Mk.or hMk hda))
   exact key _ 0 rfl F [] _ s' hF rfl hT0 (by simpa[QW]using hA') (fun j hj=>by
    obtain rfl:j=0:=by simp[QW]at hj;omega
    exact hgo) (by omega)
  |stop c =>
   rw[hgo]at hr
   cases hr
   refine kF ?_
   refine gR0 ?_
   refine i1 ?_
   exact hF.ret (.tup []) _ rfl trivial (ZEF _) (ZEB _) ⟨s',.stop 0 c hlen (fun i hi=>absurd hi (Nat.not_lt_zero _)) hgo hA',YQ _ _⟩
  |pan d=>rw[hgo]at hr;cases hr
 ·rintro d S ⟨s',⟨hr,hA'⟩,hd',rfl⟩
  cases hgo:go 0 with
  |pan d' =>
   rw[hgo]at hr
   cases hr
   exact hF.pan _ (ZEB _) ⟨s',.pan 0 d hlen (fun i hi=>absurd hi (Nat.not_lt_zero _)) hgo hA',YQ _ _⟩
  |next=>rw[hgo]at hr;cases hr
  |stop c=>rw[hgo]at hr;cases hr
theorem ZmP:∀{r v},okP v r→Kb (Yi v r)≤Kb v
 | [],_,_=>ZEP _
 |i::r,v,h=>by
  have h1:=ZmP (r:=r) h.2
  have h2:=ZuK (ZA h.1)
  have h3:=WN v
  show Kb (Yi (v.parts.getD i dE) r)≤_
  omega
theorem ZkP:∀{r v},okP v r→Z6 (Yi v r)≤Z6 v
 | [],_,_=>ZEP _
 |i::r,v,h=>by
  have h1:=ZkP (r:=r) h.2
  have h2:=ZfR (ZA h.1)
  show Z6 (Yi (v.parts.getD i dE) r)≤_
  omega
theorem ZrQ:∀{r v},okP v r→r.length<Z6 v
 | [],v,_=>by rw[Ky];simp
 |i::r,v,h=>by
  have h1:=ZrQ (r:=r) h.2
  have h2:=ZfR (ZA h.1)
  simp only[ZER]
  omega
theorem ZpC{v r}(h:okP v r)(hv:Y7 v=true):Y7 (Kp v r (Q2 (Yi v r)))=true:=by
 unfold Y7 at hv⊢
 rw[←Zay (Kp v r (Q2 (Yi v r))),←ZkS (Kp v r (Q2 (Yi v r))),Zfs h,Zay,ZkS]
 simp only[ZEK]at hv⊢
 exact⟨hv.1,Zph h hv.2⟩
theorem ZwX{v r}(h:okP v r)(hv:Y7 v=true)(ho:VOk v):Y7 (Q2 (Yi v r))=true:=by
 have h1:=ZmP h
 have h2:=ZkP h
 unfold Y7 at hv⊢
 simp only[ZEK,decide_eq_true_eq]at hv⊢
 rw[show Kb (Q2 (Yi v r))=Kb (Yi v r) by rw[WN,WN (Yi v r)];rfl,show Z6 (Q2 (Yi v r))=Z6 (Yi v r) by rw[Ky,Ky (Yi v r)];rfl]
 exact⟨⟨by omega,by omega⟩,Zhm (Zhk h ho).ok (by decide) (by decide)⟩
theorem VOk.big{v}(h:VOk v):VOk (Q2 v):=⟨Zhm h.ok (by decide) (by decide),by rw[←ZeD,ZmY,ZeD];exact h.wt⟩
theorem ZwH{d s v}(hs:Y3 v=true→wtN v≤5100∧Z6 v≤51)(h:(ZfO d s v).2=0)(hh:∀m∈d.msgs,∀f∈m.fields,f.high<34359738367):
  Y7 v=true∧VOk v∧Z6 v≤51∧∀r,okP v r→∃c,c36 c∧ZfO d s (Kp v r (Q2 (Yi v r)))=((QR v [] r,c),c):=by
 unfold ZfO at h
 split at h
 ·rename_i ha
  simp only[ZEK]at ha
  obtain⟨ho,hv51⟩:=ZpB ha.2 hs
  refine⟨ha.2,ho,hv51,fun r hr=>?_⟩
  split at h
  ·simp at h
  ·rename_i hf
   obtain⟨c,hc,hm⟩:=Zyv (ZhL ha.1) hh 51 (ixS d s) v [] r (Zc1 (by omega)).2 hr h
   refine⟨c,hc,?_⟩
   unfold ZfO
   rw[if_pos (by rw[ZEK];exact⟨ha.1,ZpC hr ha.2⟩),if_neg hf]
   rw[show ZQ d s=d.msgs.getD (ixS d s) dE from rfl,hm]
   simp only
   rw[if_neg hc.ne]
 ·simp at h
theorem Zp0(hI:Zaj){v:Val}(hv:VOk v)(hV:Y7 v=true)(st):Zb ZEA 8 [.agg v.cells] st fun r S=>∃zv zq,ZJ st (Zbg v [] zv zq)∧zq≠zv∧r=.ret (.fn (.func 37) [] [.ptr zq 0,.ptr zv 0])∧S=st.or (Zbg v [] zv zq):=by
 refine Zc (cR 8 f8) fun F hF=>?_
 have h1:=Js v
 rw[hV]at h1
 have h2:=Zk3 v hv
 have h3:=ZhS v [] st
 rw[ZE0]at *
 refine rg ?_
 refine rg ?_
 refine cl (h1) ?_
 refine i0 ?_
 refine rg ?_
 refine cl (h2) ?_
 refine cV (h3) ?_ ?_
 ·rintro d S ⟨zv,zq,a1,a2,hr,rfl⟩
  cases hr
  refine gR0 ?_
  exact hF.ret _ _ rfl (by trivial) (ZEF _) (ZEB _) ⟨zv,zq,a1,a2,rfl,rfl⟩
 ·rintro d S ⟨_,_,_,_,hr,_⟩
  cases hr
theorem Zfi{S:St}{x z:Nat}{o c:W4}(hx:S x=sO o)(hz:S z=nO):(S.upd z c) x=sO o:=by
 rw[ZEJ _ _ (fun e=>by rw[e,hz]at hx;simp at hx)];exact hx
theorem Zbw{S W:St}{z:Nat}{c:W4}(hd:ZJ S W)(hz:W z=nO):ZJ (S.upd z c) W:=fun b o hb=>by
 rw[ZEJ _ _ (fun e=>by rw[e,hz]at hb;simp at hb)];exact hd b o hb
theorem Zhh(hI:Zaj)(hX:Zea)(hA:Zh1)(hk:Ze ZEA 5 [] (.bool true))(d:Dfn)(s:Str)(v:Val)(node:Int):
  Ze ZEA 3 [.agg d.cells,.str s,.agg v.cells,.int .i64 node] (.bool true):=fun st=>by
 refine JU (cR 3 f3) fun hwf F hF=>?_
 have hw:=ZvN (s:=d) (hwf _ (by simp))
 clear hwf
 have hsm:=Zn7 d v st
 have hnum:=fun e=>Zrr e
 have hFit:=ZpS hI d s
 have hsp:=ZwH (d:=d) (s:=s) (v:=v)
 have hFv:=hFit v
 rw[ZE0]at hsm hFv⊢
 refine rx @eQ3 ?_
 refine rg ?_
 refine cV (hsm) ?_ ?_
 ·rintro dd S ⟨hS,b,hr,hs⟩
  obtain rfl:=hS.symm
  cases hr
  refine gR0 ?_
  refine cd (fun h1=>?_) (fun h1=>?_)
  ·refine rg ?_
   refine cl (hk) ?_
   exact hF.ret _ _ rfl (by trivial) (ZEF _) (ZEB _) ⟨rfl,rfl⟩
  ·have hb:b=true:=by simp at h1;exact h1.1
   have hs2:=hs hb
   have hFv2:=hFv hs2
   have hsp2:=hsp hs2
   clear hFv hsp hs hsm
   refine rg ?_
   refine Zd (fr (d.msgs.length) (fun i Q=>(∀a,a<i→∀f∈(d.msgs.getD a dE).fields,f.high<34359738367)→i≤d.msgs.length→Q [(4,.loc 4 0),(5,.loc 5 0),(6,.loc 6 0),(7,.loc 7 0),(8,.loc 8 0),(9,.d (.int .i64 i))] [(4,[.str d.name,Wh d.msgs,.str d.start]),(5,[.str s]),(6,[.str v.name,.int .i64 v.int,ZL v.bytes,Z9 v.hdrs,ZW v.parts]),(7,[.int .i64 node]),(8,[.bool false])] st) (fun n ih_key=>?_) fun key=>?_)
   ·intro i hn hhi hi
    refine rx @Zqc ?_
    refine cd (fun h2=>?_) (fun h2=>?_)
    ·have h2':i<d.msgs.length:=by simp at h2;omega
     have hmw:=hw.msgs _ (ZA h2')
     have hmn:=hmw.nfields
     unfold big at hmn
     have hwn:=hw.nmsgs
     unfold big at hwn
     generalize hm:d.msgs.getD i dE=m at *
     refine rg ?_
     refine Zd (fr (m.fields.length) (fun k Q=>(∀a,a<k→(m.fields.getD a dE).high<34359738367)→k≤m.fields.length→Q [(4,.loc 4 0),(5,.loc 5 0),(6,.loc 6 0),(7,.loc 7 0),(8,.loc 8 0),(9,.d (.int .i64 i)),(10,.d (.int .i64 k))] [(4,[.str d.name,Wh d.msgs,.str d.start]),(5,[.str s]),(6,[.str v.name,.int .i64 v.int,ZL v.bytes,Z9 v.hdrs,ZW v.parts]),(7,[.int .i64 node]),(8,[.bool false])] st) (fun n ih_key2=>?_) fun key2=>?_)
     ·intro k hn2 hhk hk2
      refine rx (nd2 @atM (nd2 @hm (nd2 @eQ2 @Zeu))) ?_
      refine aa ?_
      refine cd (fun h3=>?_) (fun h3=>?_)
      ·have h3':k<m.fields.length:=by simp at h3;omega
       generalize hf:m.fields.getD k dE=f at *
       refine rx (nd2 @atM (nd2 @hm (nd2 @eQ2 (nd2 @atF (nd2 @hf @eQ0))))) ?_
       refine aa ?_
       refine cd (fun h4=>?_) (fun h4=>?_)
       ·refine rg ?_
        refine cl (hk) ?_
        exact hF.ret _ _ rfl (by trivial) (ZEF _) (ZEB _) ⟨rfl,rfl⟩
       ·have h4':f.high<34359738367:=by simp at h4;omega
        refine rg ?_
        refine aa ?_
        refine Zi ?_
        exact ih_key2 ((m.fields.length)-(k+1)) (by omega) (k+1) rfl (fun a ha=>by
         by_cases e:a=k
         ·rw[e,hf];exact h4'
         ·exact hhk a (by omega)) (by omega)
      ·have h3':k=m.fields.length:=by simp at h3;omega
       subst h3'
       refine rg ?_
       refine aa ?_
       refine Zi ?_
       exact ih_key ((d.msgs.length)-(i+1)) (by omega) (i+1) rfl (fun a ha f hf=>by
        by_cases e:a=i
        ·subst e
         rw[hm]at hf
         obtain⟨b,hb,rfl⟩:=Zey hf
         exact hhk b hb
        ·exact hhi a (by omega) f hf) (by omega)
     exact key2 _ 0 rfl (fun a ha=>absurd ha (Nat.not_lt_zero _)) (by omega)
    ·have h2':i=d.msgs.length:=by simp at h2;omega
     subst h2'
     have hhigh:∀m∈d.msgs,∀f∈m.fields,f.high<34359738367:=fun m hm f hf=>by
      obtain⟨a,ha,rfl⟩:=Zey hm
      exact hhi a ha f hf
     refine rx @eQ3 ?_
     refine cl (hFv2) ?_
     refine rg ?_
     refine cl (hnum _) ?_
     refine cd (fun h5=>?_) (fun h5=>?_)
     ·refine rg ?_
      refine cl (hk) ?_
      exact hF.ret _ _ rfl (by trivial) (ZEF _) (ZEB _) ⟨rfl,rfl⟩
     ·have h5':(ZfO d s v).2=0:=by simpa using h5
      obtain⟨hV,hvo,hvh,hnode⟩:=hsp2 h5' hhigh
      have hWk:=Zp0 hI hvo hV st
      have hvo2:=hvo
      rw[ZE0]at hWk
      refine rg ?_
      refine cV (hWk) ?_ ?_
      ·rintro dd S ⟨zv,zq,hdW,hneW,hr,rfl⟩
       cases hr
       refine gR0 ?_
       refine rg ?_
       refine i0 ?_
       refine rg ?_
       refine Za (Za ?_)
       refine xP 4 fun z4 h4=>?_
       obtain⟨h4a,h4b⟩:=YY h4
       rw[Yq]
       refine xP 5 fun z5 h5=>?_
       obtain⟨h5a,h5b⟩:=YY h5
       rw[Yq]
       refine xP 6 fun z6 h6=>?_
       obtain⟨h6a,h6b⟩:=YY h6
       rw[Yq]
       refine xP 7 fun z7 h7=>?_
       obtain⟨h7a,h7b⟩:=YY h7
       rw[Yq]
       refine xP 8 fun z8 h8=>?_
       obtain⟨h8a,h8b⟩:=YY h8
       rw[Yq]
       refine xP 14 fun z14 h14=>?_
       obtain⟨h14a,h14b⟩:=YY h14
       rw[Yq]
       refine rg ?_
       refine Zd ?_
       have k14:=Zn h14a
       obtain⟨base,hbase⟩:∃base,base=(((st.upd z4 (.cells [.str d.name,Wh d.msgs,.str d.start])).upd z5 (.cells [.str s])).upd z6 (.cells [.str v.name,.int .i64 v.int,ZL v.bytes,Z9 v.hdrs,ZW v.parts])).upd z7 (.cells [.int .i64 node]):=⟨_,rfl⟩
       have b4:base z4=sO (.cells [.str d.name,Wh d.msgs,.str d.start]):=by rw[hbase];exact Zfi (Zfi (Zfi (ZEI _ _ _) h5a) h6a) h7a
       have b5:base z5=sO (.cells [.str s]):=by rw[hbase];exact Zfi (Zfi (ZEI _ _ _) h6a) h7a
       have b6:base z6=sO (.cells [.str v.name,.int .i64 v.int,ZL v.bytes,Z9 v.hdrs,ZW v.parts]):=by rw[hbase];exact Zfi (ZEI _ _ _) h7a
       have b7:base z7=sO (.cells [.int .i64 node]):=by rw[hbase];exact ZEI _ _ _
       have hsub:st.sub base:=by rw[hbase];exact ZFf (ZFf (ZFf (ZEZ _ h4a) (ZEZ _ h5a)) (ZEZ _ h6a)) (ZEZ _ h7a)
       have hdB:ZJ base (Zbg v [] zv zq):=by rw[hbase];exact Zbw (Zbw (Zbw (Zbw hdW h4b) h5b) h6b) h7b
       rw[←hbase]at h8a h14a k14⊢
       clear hbase h4a h5a h6a h7a
       have gU:∀{x o},base x=sO o→∀n b,((base.upd z8 (.cells [.bool b])).upd z14 (.cells [.int .i64 n])) x=sO o:=fun hx n b=>Zfi (Zfi hx h8a) (by rw[ZEJ _ _ k14.1];exact k14.2)
       have g8:∀n b,((base.upd z8 (.cells [.bool b])).upd z14 (.cells [.int .i64 n])) z8=sO (.cells [.bool b]):=fun n b=>by rw[ZEJ _ _ k14.1.symm];exact ZEI _ _ _
       have g14:∀n b,((base.upd z8 (.cells [.bool b])).upd z14 (.cells [.int .i64 n])) z14=sO (.cells [.int .i64 n]):=fun n b=>ZEI _ _ _
       have u14:∀(n n':Int) b,((base.upd z8 (.cells [.bool b])).upd z14 (.cells [.int .i64 n])).upd z14 (.cells [.int .i64 n'])=(base.upd z8 (.cells [.bool b])).upd z14 (.cells [.int .i64 n']):=fun n n' b=>ZET _ _ _ _
       have u8:∀(n:Int) b b',((base.upd z8 (.cells [.bool b])).upd z14 (.cells [.int .i64 n])).upd z8 (.cells [.bool b'])=(base.upd z8 (.cells [.bool b'])).upd z14 (.cells [.int .i64 n]):=fun n b b'=>by rw[St.upd_comm _ _ _ k14.1,ZET];exact St.upd_comm _ _ _ k14.1.symm
       have hdSP:∀(n:Int) b,ZJ ((base.upd z8 (.cells [.bool b])).upd z14 (.cells [.int .i64 n])) (Zbg v [] zv zq):=fun n b=>Zbw (Zbw hdB h8b) h14b
       have hsubSP:∀(n:Int) b,st.sub ((base.upd z8 (.cells [.bool b])).upd z14 (.cells [.int .i64 n])):=fun n b y o hy=>gU (hsub y o hy) n b
       have hdom:∀(n:Int) b (n':Int) b' y,((base.upd z8 (.cells [.bool b])).upd z14 (.cells [.int .i64 n])) y=nO→((base.upd z8 (.cells [.bool b'])).upd z14 (.cells [.int .i64 n'])) y=nO:=fun n b n' b' y hy=>by
        have h1:=Zn hy
        have h2:=Zn h1.2
        rw[ZEJ _ _ h1.1,ZEJ _ _ h2.1];exact h2.2
       obtain⟨SP,hSP⟩:∃SP:Int→Bool→St,SP=fun n b=>(base.upd z8 (.cells [.bool b])).upd z14 (.cells [.int .i64 n]):=⟨_,rfl⟩
       have hSPe:∀n b,(base.upd z8 (.cells [.bool b])).upd z14 (.cells [.int .i64 n])=SP n b:=fun n b=>by rw[hSP]
       simp only[hSPe]at gU g8 g14 u14 u8 hdSP hsubSP hdom
       rw[hSPe]
       clear hSP hSPe
       have hwl:=Zsn v []
       have hwn:=Zj1 v
       have hwt:=hvo.wt
       have hwm:=fun j (hj:j<(Zad v []).length)=>Zyr v [] _ (ZA hj)
       have hit:=ZnG hI v hvo [] zv zq (by simp only[List.length_nil];omega) hneW
       generalize Zad v []=LL at *
       refine WS hF rfl trivial [4,5,6,7,8,14] (by show([4,5,6,7,8,14]:List Nat).Nodup;decide) (hdSP _ _) hit (fun j hj=>rfl) (fun j=>if (j:Int)=node then .stop .ret else .next)
        (fun j a=>(a=SP (j:Int) false∧∀i:Nat,i<j→¬(i:Int)=node)∨∃m:Nat,j=m+1∧(m:Int)=node∧a=SP (m:Int) true) (.inl ⟨rfl,fun i hi=>absurd hi (Nat.not_lt_zero _)⟩) ?_ ?_ ?_ ?_ ?_ ?_
       ·intro j a hj hno hB F ready busy hdr hbeg hend
        have hnj:∀i,i<j→¬(i:Int)=node:=fun i hi e=>by have:=hno i hi;rw[if_pos e]at this;simp at this
        have hB':a=SP (j:Int) false:=by
         rcases hB with h|⟨m,rfl,hm,_⟩
         ·exact h.1
         ·exact absurd hm (hnj m (by omega))
        subst hB'
        obtain⟨r,hr,hx⟩:=hwm j hj
        simp only[Eqs,reduceCtorEq,ZEG,reduceIte,ZED,ZEH,ZEE,YZ,Wc,KO,WE,List.isEmpty_nil,List.isEmpty_cons,pvA]
        rw[hx]
        have hxo:=Zhk hr hvo
        have hrl:=ZrQ hr
        have hset:=Zsk hX hA hvo hV hr (by omega) hxo.big (ZwX hr hV hvo) (ZpC hr hV)
        rw[←ZuO hr hvo]at hset
        obtain⟨c,hc36,hfw⟩:=hnode r hr
        have hFw:=hFit (Kp v r (Q2 (Yi v r))) (fun _=>by rw[←ZeD,Zfs hr,ZeD,←Zay (Kp v r _),Zfs hr,Zay];exact⟨hvo.wt,hvh⟩)
        rw[hfw]at hFw
        clear hfw hxo hx hrl hwm
        generalize Kp v r (Q2 (Yi v r))=w at *
        generalize Yi v r=x at *
        generalize QR v [] r=q at *
        have hbx:(Q2 x).cells=[.str x.name,.int .i64 34359738367,ZL x.bytes,Z9 x.hdrs,ZW x.parts]:=by rw[ZE0];rfl
        rw[hbx]at hset
        simp only[ZE0]at hset hFw⊢
        refine rg ?_
        refine rg ?_
        refine hbeg fun hdb=>?_
        refine rh ?_
        refine Zj ?_
        simp only[Eqs,reduceCtorEq,ZEG,reduceIte,ZED,ZEH,ZEE,Zh (g14 _ _),Zh (gU b7 _ _)]
        refine cd (fun hnd=>?_) (fun hnd=>?_)
        ·have hnd':(j:Int)=node:=by simpa using hnd
         refine rg ?_
         refine rh ?_
         refine Zj ?_
         simp only[Eqs,reduceCtorEq,ZEG,reduceIte,ZED,ZEH,ZEE,Zh (gU b6 _ _)]
         refine cl (hset) ?_
         refine rh ?_
         refine Zj ?_
         simp only[Eqs,reduceCtorEq,ZEG,reduceIte,ZED,ZEH,ZEE,Zh (gU b4 _ _),Zh (gU b5 _ _)]
         refine cl (hFw) ?_
         refine rg ?_
         refine cl (hnum 0) ?_
         have hend2:∀{ρ L dk},Zs F (.code .ret::dk) ρ L ((SP (j:Int) true).or busy):=hend.ret ⟨by rw[if_pos hnd'],.inr ⟨j,rfl,hnd',rfl⟩⟩ (fun b o hb=>hdom _ _ _ _ _ (hdb b o hb)) (ZEB _)
         rcases hc36 with rfl|rfl
         ·skip
          refine cG (hnum 3) ?_
          refine Jc rfl (e:=.d (.int .i64 0)) (Zj ?_)
          simp only[Eqs,reduceCtorEq,ZEG,reduceIte,ZED,ZEH,ZEE]
          refine Ze5 rfl rfl rfl rfl rfl (fun hcg=>⟨by first|trivial|(simpa[ZdW]using hcg),trivial,hk⟩) (Zj ?_)
          simp only[Eqs,reduceCtorEq,ZEG,reduceIte,ZED,ZEH,ZEE,Zh (g8 _ _),Yq,u8]
          exact hend2
         ·skip
          refine cG (hnum 6) ?_
          refine cG (hnum 6) ?_
          refine Ze5 rfl rfl rfl rfl rfl (fun hcg=>⟨by first|trivial|(simpa[ZdW]using hcg),trivial,hk⟩) (Zj ?_)
          simp only[Eqs,reduceCtorEq,ZEG,reduceIte,ZED,ZEH,ZEE,Zh (g8 _ _),Yq,u8]
          exact hend2
        ·have hnd':¬(j:Int)=node:=by simpa using hnd
         refine rh ?_
         refine Zj ?_
         simp only[Eqs,reduceCtorEq,ZEG,reduceIte,ZED,ZEH,ZEE,Zh (g14 _ _)]
         refine aa ?_
         rw[Yq,u14]
         refine Zo ?_
         exact hend.fin ⟨by rw[if_neg hnd'],.inl ⟨rfl,fun i hi=>by
          by_cases e:i=j
          ·rw[e];exact hnd'
          ·exact hnj i (by omega)⟩⟩ (fun b o hb=>hdom _ _ _ _ _ (hdb b o hb)) (ZEB _)
       ·intro q a hno hB hq
        have hB':a=SP (LL.length:Int) false:=by
         rcases hB with h|⟨m,hm,hm2,_⟩
         ·exact h.1
         ·have:=hno m (by omega)
          rw[if_pos hm2]at this;simp at this
        subst hB'
        rw[Wu hq]
        refine rg ?_
        refine Zag rfl rfl rfl rfl rfl (by trivial) (by trivial) (by exact hk) (Zj ?_)
        simp only[Eqs,reduceCtorEq,ZEG,reduceIte,ZED,ZEH,ZEE,Zh (g8 _ _),Yq,u8]
        exact hF.ret1 (hdom _ _ _ _ _ hq) (.bool true) st (ds:=[.bool true]) (p:=True∧True) (by simp[Yk,WF,ZH,YS,Z5,g8]) ⟨trivial,trivial⟩ (ZEF _) (hsubSP _ _) ⟨rfl,rfl⟩
       ·intro q a m hm hno hgo hB hq
        have hgn:(m:Int)=node:=by
         by_cases e:(m:Int)=node
         ·exact e
         ·rw[if_neg e]at hgo;simp at hgo
        have hB':a=SP (m:Int) true:=by
         rcases hB with h|⟨m',hm',hm2,h⟩
         ·exact absurd hgn (h.2 m (by omega))
         ·obtain rfl:m=m':=by omega
          exact h
        subst hB'
        rw[Wu hq]
        exact hF.ret1 hq (.bool true) st (ds:=[.bool true]) (p:=True∧True) (by simp[Yk,WF,ZH,YS,Z5,g8]) ⟨trivial,trivial⟩ (ZEF _) (hsubSP _ _) ⟨rfl,rfl⟩
       ·intro q a m id hm hno hgo
        split at hgo<;>simp at hgo
       ·intro q a m d hm hno hgo
        split at hgo<;>simp at hgo
       ·intro m c hgo
        split at hgo
        ·simp at hgo;exact .inl hgo.symm
        ·simp at hgo
      ·rintro dd S ⟨_,_,_,_,hr,_⟩
       cases hr
   exact key _ 0 rfl (fun a ha=>absurd ha (Nat.not_lt_zero _)) (by omega)
 ·rintro dd S ⟨_,b,hr,_⟩
  cases hr
end Go.DL
namespace Go.DL
open Go
variable [Zqy]
variable {kp:Option (List Nat)}{L:Loc}{ρ:Env}{s:St}{w:World}{os:List DOp}{ds:List D}{B:List (Nat × Rd)}{dst:Option Nat}{tmps:Array Value}{g:G}{Φ:Res→St→Prop}{ν:Nat→Nat}{xs:List Opd}{side:Prop}{row:Nat→List D}
inductive V where
 |int (k:IntKind) (n:Int)
 |bool (b:Bool)
 |str (s:List Nat)
 |agg (cs:List V)
 |tup (vs:List V)
 |nilsl
 |sl (t n s:Nat) (rows:List V)
 |ep (cs:List V) (off:Nat)
 |nilptr
 |ptr (b off:Nat)
 |msl (b off n:Nat) (cap:Option Nat) (s:Nat)
 |map (b:Nat)
 |nilmap
 |fn (f:FuncId) (first caps:List V)
 |yield (l:Nat)
 |nilfn
 |iface (t:TypeId) (v:V)
 |niliface
 |stamp (n:Nat)
def JG{α:Type}(a:α):Option (List α)→Option (List α)
 |some l=>sO (a::l)
 |none=>nO
theorem Kt{α a}{x:Option (List α)}{r:List α}(h:JG a x=sO r):∃q,x=sO q∧r=a::q:=by
 cases x with
 |none=>cases h
 |some q=>simp[JG]at h;exact⟨q,rfl,h.symm⟩
def ZnU{α:Type}(n:Nat)(x y:List α):List α :=
 Nat.rec (motive:=fun _=>List α→List α) (fun _=>y) (fun _ ih l=>match l with
  | []=>y
  |a::t=>a::ih t) n x
theorem Zgg{α}:∀{n} {x y:List α},x.length=n→ZnU n x y=x++y
 |0,[],y,_=>rfl
 |0,a::x,y,h=>by grind
 |n+1,[],y,h=>by grind
 |n+1,a::x,y,h=>congrArg (a::·) (Zgg (n:=n) (x:=x) (y:=y) (by grind))
def Zg9{α:Type}(n:Nat):List α→Option α :=
 Nat.rec (motive:=fun _=>List α→Option α) (fun l=>match l with
  | []=>nO
  |a::_=>sO a) (fun _ ih l=>match l with
  | []=>nO
  |_::t=>ih t) n
theorem ZjW{α}:∀(n) (l:List α),Zg9 n l=l[n]?
 |0,[]=>rfl
 |0,a::l=>rfl
 |n+1,[]=>rfl
 |n+1,a::l=>(ZjW n l).trans (by simp)
def Za9{α:Type}(n:Nat):List α→List α :=
 Nat.rec (motive:=fun _=>List α→List α) (fun l=>l) (fun _ ih l=>match l with
  | []=>[]
  |_::t=>ih t) n
theorem Q4{α}:∀(n) (l:List α),Za9 n l=l.drop n
 |0,l=>rfl
 |n+1,[]=>rfl
 |n+1,a::l=>(Q4 n l).trans (by simp)
def ZaP{α:Type}(n:Nat):List α→Option (List α) :=
 Nat.rec (motive:=fun _=>List α→Option (List α)) (fun _=>sO []) (fun _ ih l=>match l with
  | []=>nO
  |a::t=>JG a (ih t)) n
theorem JO{α}:∀{n} {l r:List α},ZaP n l=sO r→n≤l.length∧r=l.take n
 |0,l,r,h=>by
  have h':sO []=sO r:=h
  grind
 |n+1,[],r,h=>by
  have h':(nO:Option (List α))=sO r:=h
  simp at h'
 |n+1,a::l,r,h=>by
  obtain⟨q,hx,rfl⟩:=Kt (show JG a (ZaP n l)=sO r from h)
  obtain⟨h1,h2⟩:=JO hx
  grind
def Zqf{α:Type}(o n:Nat)(l:List α):Option (List α):=match Nat.ble 1 n with
 |true=>ZaP n (Za9 o l)
 |false=>nO
theorem Zx0{α o n}{l r:List α}(h:Zqf o n l=sO r):o+n≤l.length∧r=(l.drop o).take n:=by
 unfold Zqf at h
 split at h
 ·rename_i hn
  rw[Nat.ble_eq]at hn
  rw[Q4]at h
  obtain⟨h1,h2⟩:=JO h
  grind
 ·grind
def ZuN{α:Type}(n:Nat):List α→List α→Option (List α) :=
 Nat.rec (motive:=fun _=>List α→List α→Option (List α)) (fun xs l=>match xs with
  | []=>sO l
  |_::_=>nO) (fun _ ih xs l=>match xs with
  | []=>nO
  |x::xs=>match l with
   | []=>nO
   |_::t=>JG x (ih xs t)) n
def Zjk{α:Type}(o n:Nat)(xs:List α):List α→Option (List α) :=
 Nat.rec (motive:=fun _=>List α→Option (List α)) (fun l=>ZuN n xs l) (fun _ ih l=>match l with
  | []=>nO
  |a::t=>JG a (ih t)) o
theorem ZrJ{α}:∀{n} {xs l r:List α},ZuN n xs l=sO r→xs.length=n∧n≤l.length∧r=xs++l.drop n
 |0,[],l,r,h=>by
  have h':sO l=sO r:=h
  simp_all
 |0,x::xs,l,r,h=>by
  have h':(nO:Option (List α))=sO r:=h
  simp at h'
 |n+1,[],l,r,h=>by
  have h':(nO:Option (List α))=sO r:=h
  simp at h'
 |n+1,x::xs,[],r,h=>by
  have h':(nO:Option (List α))=sO r:=h
  simp at h'
 |n+1,x::xs,a::l,r,h=>by
  obtain⟨q,hx,rfl⟩:=Kt (show JG x (ZuN n xs l)=sO r from h)
  obtain⟨h1,h2,h3⟩:=ZrJ hx
  subst h3
  simp[h1,h2]
theorem Zok{α}:∀{o n} {xs l r:List α},Zjk o n xs l=sO r→xs.length=n∧o+n≤l.length∧r=l.take o++xs++l.drop (o+n)
 |0,n,xs,l,r,h=>by
  obtain⟨h1,h2,h3⟩:=ZrJ (n:=n) (xs:=xs) (l:=l) (r:=r) h
  grind
 |o+1,n,xs,[],r,h=>by
  have h':(nO:Option (List α))=sO r:=h
  simp at h'
 |o+1,n,xs,a::l,r,h=>by
  obtain⟨q,hx,rfl⟩:=Kt (show JG a (Zjk o n xs l)=sO r from h)
  obtain⟨h1,h2,h3⟩:=Zok hx
  grind
structure Bx(α:Type) where
 run:α
structure N8(α:Type) where
 a:α
 b:α
 c:α
 d:α
 e:α
 f:α
 g:α
 h:α
def N8.all{α:Type}(x:α):N8 α:=⟨x,x,x,x,x,x,x,x⟩
def Zbi{α:Type}:Nat→Bx (N8 α→α)
 |0=>⟨fun t=>t.a⟩
 |1=>⟨fun t=>t.b⟩
 |2=>⟨fun t=>t.c⟩
 |3=>⟨fun t=>t.d⟩
 |4=>⟨fun t=>t.e⟩
 |5=>⟨fun t=>t.f⟩
 |6=>⟨fun t=>t.g⟩
 |_=>⟨fun t=>t.h⟩
def ZiT{α:Type}:Nat→Bx ((α→α)→N8 α→N8 α)
 |0=>⟨fun u t=>N8.casesOn t fun a b c d e f g h=>⟨u a,b,c,d,e,f,g,h⟩⟩
 |1=>⟨fun u t=>N8.casesOn t fun a b c d e f g h=>⟨a,u b,c,d,e,f,g,h⟩⟩
 |2=>⟨fun u t=>N8.casesOn t fun a b c d e f g h=>⟨a,b,u c,d,e,f,g,h⟩⟩
 |3=>⟨fun u t=>N8.casesOn t fun a b c d e f g h=>⟨a,b,c,u d,e,f,g,h⟩⟩
 |4=>⟨fun u t=>N8.casesOn t fun a b c d e f g h=>⟨a,b,c,d,u e,f,g,h⟩⟩
 |5=>⟨fun u t=>N8.casesOn t fun a b c d e f g h=>⟨a,b,c,d,e,u f,g,h⟩⟩
 |6=>⟨fun u t=>N8.casesOn t fun a b c d e f g h=>⟨a,b,c,d,e,f,u g,h⟩⟩
 |_=>⟨fun u t=>N8.casesOn t fun a b c d e f g h=>⟨a,b,c,d,e,f,g,u h⟩⟩
abbrev T(α:Type):=N8 (N8 (N8 (N8 (N8 (Option α)))))
def T.nil{α:Type}:T α:=N8.all (N8.all (N8.all (N8.all (N8.all nO))))
def T.getF{α:Type}(k:Nat):Bx (T α→Option α) :=
 match Nat.blt k 32768 with
 |true=>⟨fun t=>(Zbi (Nat.mod k 8)).run ((Zbi (Nat.mod (Nat.div k 8) 8)).run ((Zbi (Nat.mod (Nat.div k 64) 8)).run ((Zbi (Nat.mod (Nat.div k 512) 8)).run ((Zbi (Nat.mod (Nat.div k 4096) 8)).run t))))⟩
 |false=>⟨fun _=>nO⟩
def T.setF{α:Type}(k:Nat):Bx (Option α→T α→T α) :=
 match Nat.blt k 32768 with
 |true=>⟨fun x=>(ZiT (Nat.mod (Nat.div k 4096) 8)).run ((ZiT (Nat.mod (Nat.div k 512) 8)).run ((ZiT (Nat.mod (Nat.div k 64) 8)).run ((ZiT (Nat.mod (Nat.div k 8) 8)).run ((ZiT (Nat.mod k 8)).run fun _=>x))))⟩
 |false=>⟨fun _ t=>t⟩
def T.get{α:Type}(t:T α)(k:Nat):Option α:=(T.getF k).run t
def T.set{α:Type}(x:Option α)(t:T α)(k:Nat):T α:=(T.setF k).run x t
theorem Zy1{α u}{t:N8 α}:∀{i j:Nat},i<8→j<8→(Zbi i).run ((ZiT j).run u t)=if i=j then u ((Zbi i).run t) else (Zbi i).run t:=by
 intro i j hi hj
 have key:∀i:Fin 8,∀j:Fin 8,(Zbi i.val).run ((ZiT j.val).run u t)=if i.val=j.val then u ((Zbi i.val).run t) else (Zbi i.val).run t:=by
  intro i j
  rcases i with _|_|_|_|_|_|_|_|i<;>(try omega)<;>rcases j with _|_|_|_|_|_|_|_|j<;>(try omega)<;>rfl
 exact key ⟨i,hi⟩ ⟨j,hj⟩
theorem T.get_set{α}{x}{a}{t:T α}{k k'}(h:(t.set x k).get k'=sO a):(k'=k∧x=sO a)∨(k'≠k∧t.get k'=sO a):=by
 unfold T.get at h⊢
 cases hb:Nat.blt k' 32768 with
 |false=>simp[T.getF,hb]at h
 |true =>
 have hk':=hb
 simp at hk'
 unfold T.set T.setF at h
 split at h
 ·rename_i hk
  simp at hk
  have m (n:Nat):Nat.mod n 8<8:=Nat.mod_lt _ (by omega)
  have dp:∀{β:Type} {u:β→β} {t:N8 β} (n n':Nat),(Zbi (Nat.mod n 8)).run ((ZiT (Nat.mod n' 8)).run u t)=if Nat.mod n 8=Nat.mod n' 8 then u ((Zbi (Nat.mod n 8)).run t) else (Zbi (Nat.mod n 8)).run t:=fun n n'=>Zy1 (m n) (m n')
  simp[T.getF,hb]at h⊢
  rw[dp]at h
  by_cases h5:Nat.mod (Nat.div k' 4096) 8=Nat.mod (Nat.div k 4096) 8
  ·rw[if_pos h5,dp]at h
   by_cases h4:Nat.mod (Nat.div k' 512) 8=Nat.mod (Nat.div k 512) 8
   ·rw[if_pos h4,dp]at h
    by_cases h3:Nat.mod (Nat.div k' 64) 8=Nat.mod (Nat.div k 64) 8
    ·rw[if_pos h3,dp]at h
     by_cases h2:Nat.mod (Nat.div k' 8) 8=Nat.mod (Nat.div k 8) 8
     ·rw[if_pos h2,dp]at h
      by_cases h1:Nat.mod k' 8=Nat.mod k 8
      ·rw[if_pos h1]at h
       refine .inl ⟨?_,h⟩
       have e1 (a b:Nat):Nat.mod a b=a % b:=rfl
       have e2 (a b:Nat):Nat.div a b=a / b:=rfl
       simp[e1,e2]at h1 h2 h3 h4 h5
       omega
      ·rw[if_neg h1]at h;exact .inr ⟨fun e=>h1 (by rw[e]),h⟩
     ·rw[if_neg h2]at h;exact .inr ⟨fun e=>h2 (by rw[e]),h⟩
    ·rw[if_neg h3]at h;exact .inr ⟨fun e=>h3 (by rw[e]),h⟩
   ·rw[if_neg h4]at h;exact .inr ⟨fun e=>h4 (by rw[e]),h⟩
  ·rw[if_neg h5]at h;exact .inr ⟨fun e=>h5 (by rw[e]),h⟩
 ·by_cases e:k'=k
  ·simp_all
  ·exact .inr ⟨e,h⟩
theorem T.get_nil{α k}:(T.nil:T α).get k=nO:=by
 have this:∀{β:Type} (x:β) (n:Nat),(Zbi n).run (N8.all x)=x:=fun x n=>by
  rcases n with _|_|_|_|_|_|_|n<;>rfl
 unfold T.get T.getF
 split
 ·simp[T.nil,this]
 ·rfl
mutual
def ofD:D→Option V
 |.int k n=>sO (.int k n)
 |.bool b=>sO (.bool b)
 |.str s=>sO (.str (s.map UInt8.toNat))
 |.agg cs=>(ofDs cs).map .agg
 |.nilsl=>sO .nilsl
 |.nilptr=>sO .nilptr
 |.nilmap=>sO .nilmap
 |.fn (.func f) [] []=>sO (.fn f [] [])
 |.nilfn=>sO .nilfn
 |.niliface=>sO .niliface
 |.ep cs o=>(ofDs cs).map (.ep · o)
 |_=>nO
def ofDs:List D→Option (List V)
 | []=>sO []
 |d::r=>match ofD d,ofDs r with
  |some v,sO vs=>sO (v::vs)
  |_,_=>nO
end
def leI:Int→Int→Bool
 |.ofNat a,b=>match b with
  |.ofNat b=>Nat.ble a b
  |.negSucc _=>false
 |.negSucc a,b=>match b with
  |.ofNat _=>true
  |.negSucc b=>Nat.ble b a
def eqI:Int→Int→Bool
 |.ofNat a,b=>match b with
  |.ofNat b=>Nat.beq a b
  |.negSucc _=>false
 |.negSucc a,b=>match b with
  |.ofNat _=>false
  |.negSucc b=>Nat.beq a b
theorem Zgq(a b):leI a b=dC (a≤b):=by
 rw[Bool.eq_iff_iff,decide_eq_true_eq]
 cases a<;>cases b<;>simp[leI]<;>omega
theorem Ziu(a b):eqI a b=dC (a=b):=by
 rw[Bool.eq_iff_iff,decide_eq_true_eq]
 cases a<;>cases b<;>simp[eqI]<;>omega
def Zyo:IntKind→Nat
 |.i8=>127|.i16=>32767|.i32=>2147483647|.i64=>9223372036854775807
 |.u8=>255|.u16=>65535|.u32=>4294967295|.u64=>18446744073709551615
def Zuv(k:IntKind):Int→Bool
 |.ofNat n=>Nat.ble n (Zyo k)
 |.negSucc n=>k.signed&&Nat.ble n (Zyo k)
theorem Zts{k n}(h:Zuv k n=true):inR k n:=by
 cases n<;>cases k<;>simp only[Zuv,Zyo,Nat.ble_eq,IntKind.signed,ZE8,ZE1,ZE3]at h <;>
  simp[inR,IntKind.min,IntKind.max,IntKind.signed,IntKind.bits]<;>omega
def ZfS(k:IntKind)(n:Int):Option V:=match Zuv k n with
 |true=>sO (.int k n)
 |false=>nO
def ZuC:IntKind→Nat
 |.i8=>0|.i16=>1|.i32=>2|.i64=>3|.u8=>4|.u16=>5|.u32=>6|.u64=>7
def Zfl(k k':IntKind):Bool:=Nat.beq (ZuC k) (ZuC k')
theorem Zet{k k'}(h:Zfl k k'=true):k=k':=by
 cases k<;>cases k'<;>first|rfl|(simp[Zfl,ZuC]at h)
def Zx6(op:BinOp):IntKind→Int→Int→Option V :=
 match op with
 |.add=>fun k a b=>ZfS k (Int.add a b)
 |.sub=>fun k a b=>ZfS k (Int.sub a b)
 |.mul=>fun k a b=>ZfS k (Int.mul a b)
 |.quo=>fun k a b=>match eqI b 0 with
  |true=>nO
  |false=>ZfS k (a.tdiv b)
 |.rem=>fun k a b=>match eqI b 0 with
  |true=>nO
  |false=>ZfS k (a.tmod b)
 |.and=>fun k a b=>sO (.int k (Zli .and k a b))
 |.or=>fun k a b=>sO (.int k (Zli .or k a b))
 |.xor=>fun k a b=>sO (.int k (Zli .xor k a b))
 |.andNot=>fun k a b=>sO (.int k (Zli .andNot k a b))
 |.eql=>fun _ a b=>sO (.bool (eqI a b))
 |.neq=>fun _ a b=>sO (.bool (!eqI a b))
 |.lss=>fun _ a b=>sO (.bool (!leI b a))
 |.leq=>fun _ a b=>sO (.bool (leI a b))
 |.gtr=>fun _ a b=>sO (.bool (!leI a b))
 |.geq=>fun _ a b=>sO (.bool (leI b a))
 |.shl=>fun k a b=>match leI 0 b with
  |true=>ZfS k (Zhu k a b)
  |false=>nO
 |.shr=>fun k a b=>match leI 0 b with
  |true=>ZfS k (Zor k a b)
  |false=>nO
def eqS:List Nat→List Nat→Bool
 | [],[]=>true
 |a::x,b::y=>if Nat.beq (a % 256) (b % 256) then eqS x y else false
 |_,_=>false
def ZcK:List Nat→List Nat→Bool
 |_,[]=>false
 | [],_::_=>true
 |a::x,b::y=>if Nat.blt (a % 256) (b % 256) then true else if Nat.beq (a % 256) (b % 256) then ZcK x y else false
def Zx7(op:BinOp):List Nat→List Nat→Option V :=
 match op with
 |.add=>fun a b=>match Nat.ble (a.length+b.length) big with
  |true=>sO (.str (a++b))
  |false=>nO
 |.eql=>fun a b=>sO (.bool (eqS a b))
 |.neq=>fun a b=>sO (.bool (!eqS a b))
 |.lss=>fun a b=>sO (.bool (ZcK a b))
 |.leq=>fun a b=>sO (.bool (ZcK a b ||eqS a b))
 |.gtr=>fun a b=>sO (.bool (!(ZcK a b ||eqS a b)))
 |.geq=>fun a b=>sO (.bool (!ZcK a b))
 |_=>fun _ _=>nO
def Zka:SK→V→V→Option Bool
 |.int,.int k a,.int k' b=>if Zfl k k' then sO (eqI a b) else nO
 |.str,.str a,.str b=>sO (eqS a b)
 |.bool,.bool a,.bool b=>sO (dC (a=b))
 |_,_,_=>nO
def Zgi(xs ys:List V):List (Nat×SK)→Option Bool
 | []=>sO true
 | (o,k)::r=>match xs[o]?,ys[o]? with
  |some x,sO y=>match Zka k x y,Zgi xs ys r with
   |some b,sO c=>sO (b&&c)
   |_,_=>nO
  |_,_=>nO
def Zdj:KP→V→V→Option Bool
 |.sc k,x,y=>Zka k x y
 |.st l,.agg xs,.agg ys=>if xs.length=l.length∧ys.length=l.length then Zgi xs ys l else nO
 |_,_,_=>nO
def Zqg:Zed→V→V→Option Bool
 |.bool,.bool a,.bool b=>sO (dC (a=b))
 |.sl,.nilsl,.nilsl=>sO true
 |.sl,.sl _ n _ _,.nilsl=>if 0<n then sO false else nO
 |.sl,.msl _ _ _ _ _,.nilsl=>sO false
 |.map,.nilmap,.nilmap=>sO true
 |.map,.map _,.nilmap=>sO false
 |.fn,.nilfn,.nilfn=>sO true
 |.fn,.fn _ _ _,.nilfn=>sO false
 |.fn,.yield _,.nilfn=>sO false
 |.ifc,.niliface,.niliface=>sO true
 |.ifc,.iface _ _,.niliface=>sO false
 |.ptr,.nilptr,.nilptr=>sO true
 |.ptr,.ptr _ _,.nilptr=>sO false
 |.ptr,.ep _ _,.nilptr=>sO false
 |.cells l,.agg xs,.agg ys=>Zgi xs ys l
 |_,_,_=>nO
def Zr6:BinOp→Bool
 |.shl|.shr=>true
 |_=>false
def ZrX(op:BinOp)(p:Option Zed):V→V→Option V :=
 match p with
 |none=>fun _ _=>nO
 |some p=>match op with
  |.eql=>fun x y=>match Zqg p x y with
   |some b=>sO (.bool b)
   |none=>nO
  |.neq=>fun x y=>match Zqg p x y with
   |some b=>sO (.bool (!b))
   |none=>nO
  |_=>fun _ _=>nO
def ZrW(op:BinOp)(p:Option Zed)(x y:V):Option V :=
 match x with
 |.int k a=>match y with
  |.int k' b=>match Zr6 op ||Zfl k k' with
   |true=>Zx6 op k a b
   |false=>nO
  |_=>nO
 |.str a=>match y with
  |.str b=>Zx7 op a b
  |_=>nO
 |x=>ZrX op p x y
inductive W where
 |v (x:V)
 |loc (l off:Nat)
 |skip
inductive O where
 |cells (vs:List V)
 |buf (vs:List V)
 |map (es:List (V×V))
 |tok (k:Nat)
 |mapE (kp:KP) (es:List (V×V)) (k:V) (n:Nat)
 |loop (f:FuncId) (n:Nat) (ps:List Nat) (a b:DC) (ρ:T W) (st:Option DC) (busy:Bool)
 |dfr
 |ro (o:O)
abbrev S:=T O
def cellsO:O→Option (List V)
 |.cells vs=>sO vs
 |.buf vs=>sO vs
 |.ro o=>match o with
  |.cells vs=>sO vs
  |.buf vs=>sO vs
  |_=>nO
 |_=>nO
def JM:Option O→Option (List V)
 |some o=>cellsO o
 |none=>nO
def mapO:Option O→Option (List (V×V))
 |some o=>match o with
  |.map es=>sO es
  |.ro o=>match o with
   |.map es=>sO es
   |_=>nO
  |_=>nO
 |none=>nO
def Zbk:O→Bool
 |.ro _=>true
 |_=>false
def Zmr(kp:KP)(k:V):List (V×V)→Option (Option V)
 | []=>sO nO
 |e::r=>match Zdj kp k e.1 with
  |some true=>sO (sO e.2)
  |some false=>Zmr kp k r
  |none=>nO
def Zoy(kp:KP)(k v:V):List (V×V)→Option (List (V×V))
 | []=>sO [(k,v)]
 |e::r=>match Zdj kp k e.1 with
  |some true=>sO ((k,v)::r)
  |some false=>(Zoy kp k v r).map (e::·)
  |none=>nO
def Zq7(kp:KP)(k:V):List (V×V)→Option (List (V×V))
 | []=>sO []
 |e::r=>match Zdj kp k e.1 with
  |some true=>sO r
  |some false=>(Zq7 kp k r).map (e::·)
  |none=>nO
def Zrd(kp:KP)(k z:V):List (V×V)→Option V
 | []=>sO z
 |e::r=>match Zdj kp k e.1 with
  |some true=>sO e.2
  |some false=>Zrd kp k z r
  |none=>nO
def Zqd(z:V)(ok:Bool):Option V→V
 |some v=>if ok then .tup [v,.bool true] else v
 |none=>if ok then .tup [z,.bool false] else z
def ZeZ:V→List V
 |.agg cs=>cs
 |v=>[v]
def ZnA:V→Bool
 |.tup _=>false
 |_=>true
def Zvl:V→Bool
 |.tup _|.agg _=>false
 |_=>true
def Zp8(cells:List V):List (Nat×Nat)→List V→Option (List V)
 | [],[]=>sO cells
 | (o,n)::ps,d::ds=>if ZnA d then match Zjk o n (ZeZ d) cells with
  |some cs=>Zp8 cs ps ds
  |none=>nO
  else nO
 |_,_=>nO
def Zu2(s n:Nat):List V→Option (List V) :=
 Nat.rec (motive:=fun _=>List V→Option (List V)) (fun _=>sO []) (fun _ ih l=>match ZaP s l with
  |some r=>JG (.agg r) (ih (Za9 s l))
  |none=>nO) n
def Zmu(s:Nat)(n:Nat):List V→Option (List V) :=
 Nat.rec (motive:=fun _=>List V→Option (List V)) (fun _=>sO []) (fun _ ih l=>match l with
  |.agg cs::t=>match ih t with
   |some r=>sO (ZnU s cs r)
   |none=>nO
  |_=>nO) n
def Zl8:List V→Option (List Nat)
 | []=>sO []
 |.int .u8 n::r=>JG n.toNat (Zl8 r)
 |_::_=>nO
def ZqM:List V→Option (List Nat)
 | []=>sO []
 |.agg [.int .u8 n]::r=>JG n.toNat (ZqM r)
 |_::_=>nO
def JJ:List Bool→List V→Option (List (Option Int))
 | [],[]=>sO []
 |true::bs,.int _ n::r=>(JJ bs r).map (sO n::·)
 |false::bs,r=>(JJ bs r).map (nO::·)
 |_,_=>nO
def Zvh(t n:Nat)(l h:Int):Option Int→Nat
 |some m=>if eqI m h then 1 else 0
 |none=>if eqI h n then (if Nat.beq t 1 then 1 else if eqI l 0 then t else 0) else 0
def ZAj(h:Int)(n:Nat):Option Int→Bool
 |some m=>leI h m&&leI m n
 |none=>true
def Zr8(s:Nat)(lo hi mx:Option Int):V→Option V
 |.sl t n s' rs =>
  if Nat.beq s' s&&leI 0 (lo.getD 0)&&leI (lo.getD 0) (hi.getD n)&&leI (hi.getD n) n&&ZAj (hi.getD n) n mx then
   match ZaP (Int.sub (hi.getD n) (lo.getD 0)).toNat (Za9 (lo.getD 0).toNat rs) with
   |some r=>sO (.sl (Zvh t n (lo.getD 0) (hi.getD n) mx) (Int.sub (hi.getD n) (lo.getD 0)).toNat s r)
   |none=>nO
  else nO
 |.nilsl=>if eqI (lo.getD 0) 0&&eqI (hi.getD 0) 0&&eqI (mx.getD 0) 0 then sO .nilsl else nO
 |.msl b o n cap s' =>
  if Nat.beq s' s&&leI 0 (lo.getD 0)&&leI (lo.getD 0) (hi.getD n) then match cap with
   |some cap=>if leI (hi.getD n) (mx.getD cap)&&leI (mx.getD cap) cap then
     sO (.msl b (if eqI (mx.getD cap) (lo.getD 0) then o else o+(lo.getD 0).toNat*s) (Int.sub (hi.getD n) (lo.getD 0)).toNat (sO (Int.sub (mx.getD cap) (lo.getD 0)).toNat) s) else nO
   |none=>if leI (hi.getD n) n&&(eqI (lo.getD 0) 0||!leI n (lo.getD 0)) then match mx with
    |none=>sO (.msl b (o+(lo.getD 0).toNat*s) (Int.sub (hi.getD n) (lo.getD 0)).toNat nO s)
    |some m=>if leI (hi.getD n) m&&leI m n then sO (.msl b (if eqI m (lo.getD 0) then o else o+(lo.getD 0).toNat*s) (Int.sub (hi.getD n) (lo.getD 0)).toNat (sO (Int.sub m (lo.getD 0)).toNat) s) else nO
    else nO
  else nO
 |_=>nO
def a1(vs:List V)(f:V→Option V):Option V:=match vs with
 | [x]=>f x
 |_=>nO
def a2(vs:List V)(f:V→V→Option V):Option V:=match vs with
 | [x,y]=>f x y
 |_=>nO
def Zjz(cs:List V)(o n:Nat):Option V:=match Zqf o n cs with
 |some r=>sO (.agg r)
 |none=>nO
def Zih(σ:S)(b:Nat)(f:List V→Option V):Option V:=match JM (σ.get b) with
 |some cs=>f cs
 |none=>nO
def Zff(i:Int)(n:Nat)(r:Option V):Option V:=if leI 0 i&&!leI n i then r else nO
def noV{α:Type}(b:Bool)(r:Option α):Option α:=if b then r else nO
def qV:Q→S→List V→Option V
 |.mv=>fun _ vs=>a1 vs sO
 |.nilck=>fun _ vs=>a1 vs fun x=>match x with
  |.ep _ _=>sO x
  |.ptr _ _=>sO x
  |.fn _ _ _=>sO x
  |.yield _=>sO x
  |_=>nO
 |.load1=>fun σ vs=>a1 vs fun a=>match a with
  |.ep cs o=>Zg9 o cs
  |.ptr b o=>Zih σ b fun cs=>Zg9 o cs
  |_=>nO
 |.loadN n=>fun σ vs=>a1 vs fun a=>match a with
  |.ep cs o=>Zjz cs o n
  |.ptr b o=>Zih σ b fun cs=>Zjz cs o n
  |_=>nO
 |.bin op p=>fun _ vs=>a2 vs (ZrW op p)
 |.not=>fun _ vs=>a1 vs fun x=>match x with
  |.bool b=>sO (.bool !b)
  |_=>nO
 |.neg=>fun _ vs=>a1 vs fun x=>match x with
  |.int k n=>ZfS k (Int.neg n)
  |_=>nO
 |.xorm=>fun _ vs=>a1 vs fun x=>match x with
  |.int k n=>sO (.int k (Zli .xor k (if k.signed then -1 else k.max) n))
  |_=>nO
 |.conv c=>match c with
  |.int k=>fun _ vs=>a1 vs fun x=>match x with
   |.int k' n=>sO (if k=k' then .int k n else .int k (k.wrap n))
   |_=>nO
  |.str=>fun _ vs=>a1 vs fun x=>match x with
   |.str s=>sO (.str s)
   |_=>nO
  |.i2s=>fun _ vs=>a1 vs fun x=>match x with
   |.int _ n=>noV (Nat.ble (Utf8.encode n).data.toList.length big) (sO (.str ((Utf8.encode n).data.toList.map UInt8.toNat)))
   |_=>nO
  |.b2s=>fun σ vs=>a1 vs fun x=>match x with
   |.nilsl=>sO (.str [])
   |.sl _ _ s rs=>noV (Nat.beq s 1) ((ZqM rs).map .str)
   |.msl b o n _ s=>noV (Nat.beq s 1) (Zih σ b fun cs=>noV (Nat.ble (o+n) cs.length) (match ZaP n (Za9 o cs) with
    |some r=>(Zl8 r).map .str
    |none=>nO))
   |_=>nO
 |.faddr off=>fun _ vs=>a1 vs fun x=>match x with
  |.ep cs o=>sO (.ep cs (o+off))
  |.ptr b o=>sO (.ptr b (o+off))
  |_=>nO
 |.fld1 off=>fun _ vs=>a1 vs fun x=>match x with
  |.agg cs=>Zg9 off cs
  |_=>nO
 |.fldN off n=>fun _ vs=>a1 vs fun x=>match x with
  |.agg cs=>Zjz cs off n
  |_=>nO
 |.iaddr z=>fun _ vs=>a2 vs fun x y=>match y with
  |.int _ i=>match x with
   |.sl _ n z' rs=>noV (Nat.beq z' z) (Zff i n (match Zg9 i.toNat rs with
    |some (.agg cs)=>sO (.ep cs 0)
    |_=>nO))
   |.msl b o n _ z'=>noV (Nat.beq z' z) (Zff i n (sO (.ptr b (o+i.toNat*z))))
   |_=>nO
  |_=>nO
 |.iaddrA m z=>fun _ vs=>a2 vs fun x y=>match y with
  |.int _ i=>match x with
   |.ptr b o=>Zff i m (sO (.ptr b (o+i.toNat*z)))
   |.ep cs o=>Zff i m (sO (.ep cs (o+i.toNat*z)))
   |_=>nO
  |_=>nO
 |.idxA m z one=>fun _ vs=>a2 vs fun x y=>match y with
  |.int _ i=>match x with
   |.agg cs=>Zff i m (if one then Zg9 (i.toNat*z) cs else Zjz cs (i.toNat*z) z)
   |_=>nO
  |_=>nO
 |.sliceA m z lo hi mx=>fun _ vs=>match vs with
  |.ptr b o::r=>match JJ [lo,hi,mx] r with
   |some [l,h,x]=>noV (leI 0 (l.getD 0)&&leI (l.getD 0) (h.getD m)&&leI (h.getD m) (x.getD m)&&leI (x.getD m) m&&Nat.ble m big)
     (sO (.msl b (if eqI (x.getD m) (l.getD 0) then o else o+(l.getD 0).toNat*z) (Int.sub (h.getD m) (l.getD 0)).toNat (sO (Int.sub (x.getD m) (l.getD 0)).toNat) z))
   |_=>nO
  |_=>nO
 |.idxS=>fun _ vs=>a2 vs fun x y=>match y with
  |.int _ i=>match x with
   |.str s=>Zff i s.length (sO (.int .u8 (Int.ofNat (s.getD i.toNat 0 % 256))))
   |_=>nO
  |_=>nO
 |.lenS=>fun _ vs=>a1 vs fun x=>match x with
  |.str s=>sO (.int .i64 (Int.ofNat s.length))
  |_=>nO
 |.lenL=>fun _ vs=>a1 vs fun x=>match x with
  |.sl _ n _ _=>sO (.int .i64 (Int.ofNat n))
  |.msl _ _ n _ _=>sO (.int .i64 (Int.ofNat n))
  |.nilsl=>sO (.int .i64 (Int.ofNat 0))
  |_=>nO
 |.lenA n=>fun _ vs=>a1 vs fun _=>noV (Nat.ble n big) (sO (.int .i64 (Int.ofNat n)))
 |.ext k=>fun _ vs=>a1 vs fun x=>match x with
  |.tup vs=>Zg9 k vs
  |_=>nO
 |.build zero parts=>match ofDs zero with
  |some z=>fun _ es=>(Zp8 z parts es).map .agg
  |none=>fun _ _=>nO
 |.mkfn f k=>match f with
  |.func f=>fun _ es=>sO (.fn f (es.take k) (es.drop k))
  |_=>fun _ _=>nO
 |.mkif t=>fun _ vs=>a1 vs fun x=>sO (.iface t x)
 |.sliceS lo hi=>fun _ vs=>match vs with
  |.str s::r=>match JJ [lo,hi,false] r with
   |some [l,h,_]=>noV (leI 0 (l.getD 0)&&leI (l.getD 0) (h.getD s.length)&&leI (h.getD s.length) s.length)
     (sO (.str ((s.drop (l.getD 0).toNat).take ((h.getD s.length).toNat-(l.getD 0).toNat))))
   |_=>nO
  |_=>nO
 |.slice s lo hi mx=>fun _ vs=>match vs with
  |x::r=>match JJ [lo,hi,mx] r with
   |some [l,h,m]=>Zr8 s l h m x
   |_=>nO
  |_=>nO
 |.min=>fun _ vs=>a2 vs fun x y=>match x with
  |.int k a=>match y with
   |.int k' b=>noV (Zfl k k') (sO (.int k (if leI a b then a else b)))
   |_=>nO
  |_=>nO
 |.max=>fun _ vs=>a2 vs fun x y=>match x with
  |.int k a=>match y with
   |.int k' b=>noV (Zfl k k') (sO (.int k (if leI a b then b else a)))
   |_=>nO
  |_=>nO
 |.tassert t ok zero=>match ok with
  |true=>fun _ vs=>a1 vs fun x=>match x with
   |.iface t' v=>noV (Nat.beq t' t) (sO (.tup [v,.bool true]))
   |.niliface=>(ofD zero).map fun z=>.tup [z,.bool false]
   |_=>nO
  |false=>fun _ vs=>a1 vs fun x=>match x with
   |.iface t' v=>noV (Nat.beq t' t) (sO v)
   |_=>nO
 |.lookup kp z ok=>match ofD z with
  |some z=>fun σ vs=>a2 vs fun m k=>noV (Zdj kp k k).isSome (match m with
   |.map b=>match mapO (σ.get b) with
    |some es=>(Zmr kp k es).map (Zqd z ok)
    |none=>nO
   |.nilmap=>sO (Zqd z ok nO)
   |_=>nO)
  |none=>fun _ _=>nO
 |.lenM=>fun σ vs=>a1 vs fun x=>match x with
  |.map b=>match mapO (σ.get b) with
   |some es=>noV (Nat.ble es.length big) (sO (.int .i64 (Int.ofNat es.length)))
   |_=>nO
  |.nilmap=>sO (.int .i64 (Int.ofNat 0))
  |_=>nO
abbrev Nm:=Nat→Option Tok
def Nm.Sub(η η':Nm):Prop:=∀k t,η k=sO t→η' k=sO t
theorem Nm.Sub.refl(η:Nm):η.Sub η:=fun _ _ h=>h
theorem Nm.Sub.trans{a b c:Nm}(h:a.Sub b)(h':b.Sub c):a.Sub c:=fun k t x=>h' k t (h k t x)
mutual
inductive VR(η:Nm):V→D→Prop where
 |int (k:IntKind) (n:Int):VR η (.int k n) (.int k n)
 |bool (b:Bool):VR η (.bool b) (.bool b)
 |str (s:List Nat):VR η (.str s) (.str (s.map UInt8.ofNat))
 |agg (cs:List V) (ds:List D) (h:VRs η cs ds):VR η (.agg cs) (.agg ds)
 |tup (cs:List V) (ds:List D) (h:VRs η cs ds):VR η (.tup cs) (.tup ds)
 |nilsl:VR η .nilsl .nilsl
 |sl (t n s:Nat) (rs:List V) (τ:Tok) (row:Nat→List D) (h:VRr η s rs row) (hn:rs.length=n) (ht:t=0∨η t=sO τ):VR η (.sl t n s rs) (.sl τ n s row)
 |ep (cs:List V) (o:Nat) (ds:List D) (h:VRs η cs ds):VR η (.ep cs o) (.ep ds o)
 |nilptr:VR η .nilptr .nilptr
 |ptr (k b o:Nat) (h:η k=sO (.tip b)):VR η (.ptr k o) (.ptr b o)
 |msl (k b o n cap s:Nat) (h:η k=sO (.tip b)):VR η (.msl k o n (sO cap) s) (.msl b o n cap s)
 |gsl (k b o n cap s c:Nat) (h:η k=sO (.tip b)) (h2:η (k+1)=sO (.tip c)) (hc:n≤cap) (hl:o+cap*s≤c):VR η (.msl k o n nO s) (.msl b o n cap s)
 |map (k b:Nat) (h:η k=sO (.tip b)):VR η (.map k) (.map b)
 |nilmap:VR η .nilmap .nilmap
 |fn (f:FuncId) (a c:List V) (da dc:List D) (ha:VRs η a da) (hc:VRs η c dc):VR η (.fn f a c) (.fn (.func f) da dc)
 |yield (k b:Nat) (h:η k=sO (.tip b)):VR η (.yield k) (.fn (.yield b) [] [])
 |nilfn:VR η .nilfn .nilfn
 |iface (t:TypeId) (v:V) (d:D) (h:VR η v d):VR η (.iface t v) (.iface t d)
 |niliface:VR η .niliface .niliface
 |stamp (k b:Nat) (h:η k=sO (.tip b)):VR η (.stamp k) (.stamp b)
inductive VRs(η:Nm):List V→List D→Prop where
 |nil:VRs η [] []
 |cons (v:V) (d:D) (vs:List V) (ds:List D) (h:VR η v d) (t:VRs η vs ds):VRs η (v::vs) (d::ds)
inductive VRr(η:Nm):Nat→List V→(Nat→List D)→Prop where
 |nil (s:Nat) (row:Nat→List D):VRr η s [] row
 |cons (s:Nat) (cs:List V) (rs:List V) (row:Nat→List D) (h:VRs η cs (row 0)) (hl:cs.length=s) (t:VRr η s rs (fun i=>row (i+1))):VRr η s (.agg cs::rs) row
end
mutual
theorem VR.mono{η η':Nm}(e:η.Sub η'):∀{v:V} {d:D},VR η v d→VR η' v d
 |_,_,.int k n=>.int k n
 |_,_,.bool b=>.bool b
 |_,_,.str s=>.str s
 |_,_,.agg cs ds h=>.agg cs ds (h.mono e)
 |_,_,.tup cs ds h=>.tup cs ds (h.mono e)
 |_,_,.nilsl=>.nilsl
 |_,_,.sl t n s rs τ row h hn ht=>.sl t n s rs τ row (h.mono e) hn (ht.imp id (e _ _))
 |_,_,.ep cs o ds h=>.ep cs o ds (h.mono e)
 |_,_,.nilptr=>.nilptr
 |_,_,.ptr k b o h=>.ptr k b o (e _ _ h)
 |_,_,.msl k b o n cap s h=>.msl k b o n cap s (e _ _ h)
 |_,_,.gsl k b o n cap s c h h2 hc hl=>.gsl k b o n cap s c (e _ _ h) (e _ _ h2) hc hl
 |_,_,.map k b h=>.map k b (e _ _ h)
 |_,_,.nilmap=>.nilmap
 |_,_,.fn f a c da dc ha hc=>.fn f a c da dc (ha.mono e) (hc.mono e)
 |_,_,.yield k b h=>.yield k b (e _ _ h)
 |_,_,.nilfn=>.nilfn
 |_,_,.iface t v d h=>.iface t v d (h.mono e)
 |_,_,.niliface=>.niliface
 |_,_,.stamp k b h=>.stamp k b (e _ _ h)
theorem VRs.mono{η η':Nm}(e:η.Sub η'):∀{v:List V} {d:List D},VRs η v d→VRs η' v d
 |_,_,.nil=>.nil
 |_,_,.cons v d vs ds h t=>.cons v d vs ds (h.mono e) (t.mono e)
theorem VRr.mono{η η':Nm}(e:η.Sub η'):∀{s:Nat} {v:List V} {r:Nat→List D},VRr η s v r→VRr η' s v r
 |_,_,_,.nil s row=>.nil s row
 |_,_,_,.cons s cs rs row h hl t=>.cons s cs rs row (h.mono e) hl (t.mono e)
end
section
variable {η:Nm}
theorem VRs.len:∀{vs ds},VRs η vs ds→vs.length=ds.length
 |_,_,.nil=>rfl
 |_,_,.cons _ _ _ _ _ t=>by simp[t.len]
theorem VRs.get:∀{vs ds},VRs η vs ds→∀{i:Nat} {v},vs[i]?=sO v→∃d,ds[i]?=sO d∧VR η v d
 |_,_,.nil,i,v,h=>by grind
 |_,_,.cons v d vs ds h t,0,v',h'=>by grind
 |_,_,.cons v d vs ds h t,i+1,v',h'=>by simp at h';simpa using t.get h'
theorem VRs.take:∀{vs ds},VRs η vs ds→∀n,VRs η (vs.take n) (ds.take n)
 |_,_,.nil,n=>by simp;exact .nil
 |_,_,.cons v d vs ds h t,0=>.nil
 |_,_,.cons v d vs ds h t,n+1=>.cons _ _ _ _ h (t.take n)
theorem VRs.drop:∀{vs ds},VRs η vs ds→∀n,VRs η (vs.drop n) (ds.drop n)
 |_,_,.nil,n=>by simp;exact .nil
 |_,_,.cons v d vs ds h t,0=>.cons _ _ _ _ h t
 |_,_,.cons v d vs ds h t,n+1=>t.drop n
theorem VRs.append:∀{vs vs' ds ds'},VRs η vs ds→VRs η vs' ds'→VRs η (vs++vs') (ds++ds')
 |_,_,_,_,.nil,h=>h
 |_,_,_,_,.cons v d vs ds h t,h'=>.cons _ _ _ _ h (t.append h')
theorem VRs.one{v d}(h:VR η v d):VRs η [v] [d]:=.cons _ _ _ _ h .nil
theorem VRs.inv{v vs ds}(h:VRs η (v::vs) ds):∃d ds',ds=d::ds'∧VR η v d∧VRs η vs ds':=by
 cases h with
 |cons _ d _ ds h t=>exact⟨d,ds,rfl,h,t⟩
theorem VRs.inv0{ds}(h:VRs η [] ds):ds=[]:=by cases h;rfl
theorem VRs.inv1{v ds}(h:VRs η [v] ds):∃d,ds=[d]∧VR η v d:=by
 obtain⟨d,ds',rfl,h1,h2⟩:=h.inv
 obtain rfl:=h2.inv0
 grind
theorem VRs.inv2{v v' ds}(h:VRs η [v,v'] ds):∃d d',ds=[d,d']∧VR η v d∧VR η v' d':=by
 obtain⟨d,ds',rfl,h1,h2⟩:=h.inv
 obtain⟨d',rfl,h'⟩:=h2.inv1
 grind
theorem VRs.partv{vs r ds}(h:VRs η vs ds){o n}(hp:Zqf o n vs=sO r):o+n≤ds.length∧VRs η r (part ds o n):=by
 obtain⟨h1,rfl⟩:=Zx0 hp
 exact⟨by rw[←h.len];exact h1,(h.drop o).take n⟩
theorem VRs.over{vs xs r ds ys}(h:VRs η vs ds)(hx:VRs η xs ys){o n}(hs:Zjk o n xs vs=sO r):xs.length=n∧o+n≤ds.length∧VRs η r (Zu ds o ys):=by
 obtain⟨h0,h1,rfl⟩:=Zok hs
 refine⟨h0,by rw[←h.len];exact h1,?_⟩
 unfold Zu
 have e:ys.length=n:=by rw[←hx.len,h0]
 rw[e]
 exact((h.take o).append hx).append (h.drop _)
theorem VRr.inv{s v rs row}(h:VRr η s (v::rs) row):∃cs,v=.agg cs∧VRs η cs (row 0)∧cs.length=s∧VRr η s rs (fun i=>row (i+1)):=by
 cases h with
 |cons s cs rs row h hl t=>exact⟨cs,rfl,h,hl,t⟩
theorem VRr.get{s}:∀{rs row},VRr η s rs row→∀{i v},rs[i]?=sO v→∃cs,v=.agg cs∧VRs η cs (row i)∧cs.length=s
 | [],row,h,i,v,hv=>by grind
 |r::rs,row,h,0,v,hv=>by
  obtain⟨cs,rfl,h1,h2,_⟩:=h.inv
  grind
 |r::rs,row,h,i+1,v,hv=>by
  obtain⟨cs,rfl,h1,h2,h3⟩:=h.inv
  exact h3.get (by grind)
theorem VRr.congr{s}:∀{rs row row'},VRr η s rs row→(∀i,i<rs.length→row' i=row i)→VRr η s rs row'
 | [],row,row',h,e=>.nil s row'
 |r::rs,row,row',h,e=>by
  obtain⟨cs,rfl,h1,h2,h3⟩:=h.inv
  exact .cons s cs rs row' (by grind) h2 (h3.congr fun i hi=>e (i+1) (by grind))
theorem VRr.drop{s}:∀{rs row},VRr η s rs row→∀k,VRr η s (rs.drop k) (fun i=>row (k+i))
 |rs,row,h,0=>by grind
 | [],row,h,k+1=>by simp;exact .nil s _
 |r::rs,row,h,k+1=>by
  obtain⟨cs,rfl,h1,h2,h3⟩:=h.inv
  have:=h3.drop k
  grind
theorem VRr.take{s}:∀{rs row},VRr η s rs row→∀k,VRr η s (rs.take k) row
 |rs,row,h,0=>by simp;exact .nil s _
 | [],row,h,k+1=>by grind
 |r::rs,row,h,k+1=>by
  obtain⟨cs,rfl,h1,h2,h3⟩:=h.inv
  exact .cons s cs _ row h1 h2 (h3.take k)
theorem VRr.append{s}:∀{rs rs' row row'},VRr η s rs row→VRr η s rs' row'→VRr η s (rs++rs') (YJ rs.length row row')
 | [],rs',row,row',h,h'=>h'.congr fun i _=>by simp[YJ]
 |r::rs,rs',row,row',h,h'=>by
  obtain⟨cs,rfl,h1,h2,h3⟩:=h.inv
  refine .cons s cs _ _ (by simpa[YJ]using h1) h2 ((h3.append h').congr fun i _=>?_)
  grind [YJ]
theorem VRr.bytes:∀{rs row l},VRr η 1 rs row→ZqM rs=sO l→(∀i,i<rs.length→Zn5 (row i))∧l.map UInt8.ofNat=(ZEO rs.length).map fun i=>Zch (row i)
 | [],row,l,h,hb=>by cases hb;simp
 |r::rs,row,l,h,hb=>by
  obtain⟨cs,rfl,h1,h2,h3⟩:=h.inv
  match cs,h1,h2,hb with
  | [.int .u8 n],h1,h2,hb =>
   obtain⟨q,hq,rfl⟩:=Kt hb
   obtain⟨i1,i2⟩:=h3.bytes hq
   obtain⟨d,hd,hv⟩:=h1.inv1
   cases hv
   refine⟨fun i hi=>?_,?_⟩
   ·cases i with
    |zero=>exact⟨n,hd⟩
    |succ i=>exact i1 i (by grind)
   ·simp only[ZEQ,ZER,List.range_succ_eq_map,List.map_map,i2]
    refine _root_.congr (congrArg _ ?_) rfl
    rw[hd];rfl
theorem VRs.bytes:∀{vs ds l},VRs η vs ds→Zl8 vs=sO l→(∀i,i<vs.length→Zn5 (part ds i 1))∧l.map UInt8.ofNat=(ZEO vs.length).map fun i=>Zch (part ds i 1)
 | [],ds,l,h,hb=>by cases hb;simp
 |v::vs,ds,l,h,hb=>by
  obtain⟨d,ds',rfl,h1,h2⟩:=h.inv
  match v,h1,hb with
  |.int .u8 n,h1,hb =>
   obtain⟨q,hq,rfl⟩:=Kt hb
   obtain⟨i1,i2⟩:=h2.bytes hq
   cases h1
   refine⟨fun i hi=>?_,?_⟩
   ·cases i with
    |zero=>exact⟨n,by simp[part]⟩
    |succ i=>simpa[part]using i1 i (by grind)
   ·simp only[ZEQ,ZER,List.range_succ_eq_map,List.map_map,i2]
    refine _root_.congr (congrArg _ ?_) ?_
    ·simp[part,Zch]
    ·apply List.map_congr_left;intro i _;simp[part]
theorem ZkQ(s:List UInt8):(s.map UInt8.toNat).map UInt8.ofNat=s:=by
 rw[List.map_map]
 conv=>rhs;rw[←List.map_id s]
 congr 1
 funext x;simp
mutual
theorem Zgs:∀{d:D} {v:V},ofD d=sO v→VR η v d
 |.int k n,v,h=>by cases h;exact .int k n
 |.bool b,v,h=>by cases h;exact .bool b
 |.str s,v,h=>by
  cases h
  have:=VR.str (η:=η) (s.map UInt8.toNat)
  rwa [ZkQ]at this
 |.agg cs,v,h=>by
  simp[ofD]at h
  obtain⟨vs,h1,rfl⟩:=h
  exact .agg _ _ (ofDs_ok h1)
 |.nilsl,v,h=>by cases h;exact .nilsl
 |.nilptr,v,h=>by cases h;exact .nilptr
 |.nilmap,v,h=>by cases h;exact .nilmap
 |.fn (.func f) [] [],v,h=>by cases h;exact .fn f [] [] [] [] .nil .nil
 |.nilfn,v,h=>by cases h;exact .nilfn
 |.niliface,v,h=>by cases h;exact .niliface
 |.ep cs o,v,h=>by
  simp[ofD]at h
  obtain⟨vs,h1,rfl⟩:=h
  exact .ep _ _ _ (ofDs_ok h1)
 |.fn (.func f) (_::_) _,v,h=>by cases h
 |.fn (.func f) [] (_::_),v,h=>by cases h
 |.tup _,v,h|.sl _ _ _ _,v,h|.ptr _ _,v,h|.msl _ _ _ _ _,v,h|.map _,v,h|.fn (.yield _) _ _,v,h|.iface _ _,v,h|.stamp _,v,h|.undef,v,h|.any,v,h=>by cases h
 |.fn (.method ..) _ _,v,h|.fn (.methodOf ..) _ _,v,h|.fn (.via ..) _ _,v,h=>by cases h
theorem ofDs_ok:∀{ds:List D} {vs:List V},ofDs ds=sO vs→VRs η vs ds
 | [],vs,h=>by cases h;exact .nil
 |d::r,vs,h=>by
  simp[ofDs]at h
  split at h<;>simp at h
  rename_i v vs' h1 h2
  subst h
  exact .cons _ _ _ _ (Zgs h1) (ofDs_ok h2)
end
end
def ZnR:List Nat:=ZEO 32768
def ZA2(P:Program)(N id:Nat)(ops:Array Oper):Ann :=
 match Q3 P N ops (ZEO ops.size) with
 |some l =>
  let ds:=ops.toList.map Jm
  match ZrI (l.zip ds) (Zfm ds []) ops.size (ZEO ops.size) []with
  | (od,fl,fk)=>(id+1000000,od)::(id,ZnR)::(fl.map (fun x=>(id+1000000*(x.1+4),x.2))++(match fk with
   | []=>[]
   |_::_=>[(id+3000000,fk)]))
 |none=>[]
def ZfJ(P:Program)(N:Nat):Code→Ann
 |.region id ops true=>ZA2 P N id ops
 |.seq a b=>ZfJ P N a++ZfJ P N b
 |.cond _ a b=>ZfJ P N a++ZfJ P N b
 |.block _ a=>ZfJ P N a
 |.loop a=>ZfJ P N a
 |.scope a=>ZfJ P N a
 |.rangeFunc _ _ a b=>ZfJ P N a++ZfJ P N b
 |_=>[]
def ZA1(P:Program)(f:FuncId):Ann :=
 match P.funcs[f]? with
 |some fn=>match fn.body with
  |some c=>ZfJ P fn.ntmps c
  |none=>[]
 |none=>[]
structure Cx where
 P:Program
 lib:FuncId→Option (S→List V→Option V)
 mu:FuncId→Option Nat→Bool
def Cx.an(C:Cx)(f:FuncId):Ann:=ZA1 C.P f
def Cx.df(C:Cx)(f:FuncId):Option DF:=cf C.P (C.an f) f
inductive Dd where
 |mark (q:Nat)
 |fn (i:FuncId) (args caps:List V)
inductive Fk where
 |fn (res:List RV)
 |rnd (l:Nat)
 |dfd (pd:Option V) (rec:Bool)
structure Fm where
 f:FuncId
 n:Nat
 k:Fk
 ds:List Dd
structure Out where
 pan:Bool
 v:V
 σ:S
 nx:Nat
abbrev Ih:=Fm→List WL→T W→S→Nat→Option Out
def wV:Option W→Option V
 |some w=>match w with
  |.v x=>sO x
  |_=>nO
 |none=>nO
def YI:Opd→Bx (T W→Option V)
 |.cst d=>match ofD d with
  |some v=>⟨fun _=>sO v⟩
  |none=>⟨fun _=>nO⟩
 |.tmp t=>⟨fun ρ=>wV ((T.getF t).run ρ)⟩
def ZbP:List Opd→Bx (T W→Option (List V))
 | []=>⟨fun _=>sO []⟩
 |x::xs=>⟨fun ρ=>match (YI x).run ρ with
  |some v=>match (ZbP xs).run ρ with
   |some vs=>sO (v::vs)
   |none=>nO
  |none=>nO⟩
def ZiD:Option (Nat×Bool)→Bx (T W→Option Bool)
 |none=>⟨fun _=>sO true⟩
 |some (t,want)=>⟨fun ρ=>match (T.getF t).run ρ with
  |some w=>match w with
   |.v x=>match x with
    |.bool b=>sO (ZdW b want)
    |_=>nO
   |.skip=>sO false
   |_=>nO
  |none=>nO⟩
def Zb3:Option Nat→Bx (T W→W→T W)
 |some t=>⟨fun ρ w=>(T.setF t).run (sO w) ρ⟩
 |none=>⟨fun ρ _=>ρ⟩
def ZiP:Opd→Bx (T W→Bool)
 |.cst d=>match d with
  |.bool _=>⟨fun _=>true⟩
  |_=>⟨fun _=>false⟩
 |.tmp t=>⟨fun ρ=>match (T.getF t).run ρ with
  |some w=>match w with
   |.v x=>match x with
    |.bool _=>true
    |_=>false
   |.skip=>true
   |_=>false
  |none=>false⟩
def ZmD:Nat→List V→T W→T W
 |_,[],ρ=>ρ
 |i,v::vs,ρ=>ZmD (i+1) vs (ρ.set (sO (.v v)) i)
def ZeF:List Nat→List V→T W→T W
 |t::ts,a::as9,ρ=>ZeF ts as9 (ρ.set (sO (.v a)) t)
 |_,_,ρ=>ρ
def ZfV(zero:List V)(ps:List (Nat×V))(i:Nat):List V :=
 match ps with
 | []=>zero
 | (k,d)::r=>if Nat.beq k i then ZeZ d else ZfV zero r i
def ZjY(zero:List V)(ps:List (Nat×V)):Nat→Nat→List V
 |0,_=>[]
 |n+1,i=>.agg (ZfV zero ps i)::ZjY zero ps n (i+1)
def ZeC(s:Nat):List V→Bool
 | []=>true
 |d::r=>ZnA d&&Nat.beq (ZeZ d).length s&&ZeC s r
def ZgN(z:List V):Nat→List V
 |0=>[]
 |n+1=>z++ZgN z n
def u8V(l:List Nat):List V:=l.map fun m=>.agg [.int .u8 (Int.ofNat (m % 256))]
def Zyl(σ:S)(s:Nat):V→Option (Nat×List V)
 |.nilsl=>sO (0,[])
 |.sl _ m s' rs=>noV (Nat.beq s' s) (sO (m,rs))
 |.str l=>noV (Nat.beq s 1) (sO (l.length,u8V l))
 |.msl b o n _ s'=>match JM (σ.get b) with
  |some cs=>noV (Nat.beq s' s&&Nat.ble (o+n*s) cs.length) (match Zu2 s n (Za9 o cs) with
   |some rs=>sO (n,rs)
   |none=>nO)
  |none=>nO
 |_=>nO
def Zox(σ:S)(t k:Nat):Option S :=
 if Nat.beq t 1 then sO σ else match σ.get t with
  |some (.tok m)=>noV (Nat.beq m k) (sO (σ.set nO t))
  |_=>nO
def ZgG(σ:S)(a:V)(n:Nat)(xs:List V):Option S :=
 match a with
 |.ptr b o=>match σ.get b with
  |some (.cells cs)=>match Zjk o n xs cs with
   |some cs'=>sO (σ.set (sO (.cells cs')) b)
   |none=>nO
  |some (.buf cs)=>match Zjk o n xs cs with
   |some cs'=>sO (σ.set (sO (.buf cs')) b)
   |none=>nO
  |_=>nO
 |_=>nO
structure R3 where
 v:V
 σ:S
 nx:Nat
def Zif(s:Nat)(σ:S)(nx m:Nat)(cs:List V):Option R3:=sO ⟨.msl nx 0 m nO s,σ.set (sO (.buf cs)) nx,nx+2⟩
def ZqF(s bytes:Nat)(σ:S)(nx m:Nat)(rs:List V):Option R3 :=
 noV (Nat.ble (m*bytes) 140737488355328&&Nat.ble m big) <|match Zmu s m rs with
  |some cs=>Zif s σ nx m cs
  |none=>nO
def ZqG(s bytes:Nat)(σ:S)(nx t n m:Nat)(rs rs2:List V):Option R3 :=
 noV (Nat.ble ((n+m)*bytes) 140737488355328&&Nat.ble (n+m) big) <|match Zox σ t (n*s) with
  |some σ'=>sO ⟨.sl nx (n+m) s (ZnU n rs rs2),σ'.set (sO (.tok ((n+m)*s))) nx,nx+1⟩
  |none=>nO
def Zw8(mu:Bool)(s bytes:Nat)(σ:S)(nx:Nat)(x:V)(m:Nat)(rs2:List V):Option R3 :=
 match x with
 |.nilsl=>if mu&&Nat.ble 1 m then ZqF s bytes σ nx m rs2 else ZqG s bytes σ nx 1 0 m [] rs2
 |.sl t n s' rs=>noV (Nat.beq s' s) <|if mu&&Nat.ble 1 m&&Nat.beq t 1&&Nat.beq n 0 then ZqF s bytes σ nx m rs2 else ZqG s bytes σ nx t n m rs rs2
 |.msl b o n cap s'=>noV (Nat.beq s' s&&Nat.ble ((n+m)*bytes) 140737488355328&&Nat.ble (n+m) big) <|match Zmu s m rs2 with
  |some cs2=>match cap with
   |none=>match σ.get b with
    |some (.buf cs)=>noV (Nat.beq o 0) <|match ZaP (n*s) cs with
     |some c1=>Zif s (σ.set nO b) nx (n+m) (ZnU (n*s) c1 cs2)
     |none=>nO
    |_=>nO
   |some cap=>match σ.get b with
    |some (.cells cs)=>if Nat.ble (n+m) cap then noV (Nat.beq o 0) <|match Zjk (n*s) (m*s) cs2 cs with
      |some cs'=>sO ⟨.msl b 0 (n+m) (sO cap) s,σ.set (sO (.cells cs')) b,nx⟩
      |none=>nO
     else noV (Nat.ble (o+n*s) cs.length) <|match ZaP (n*s) (Za9 o cs) with
      |some c1=>Zif s σ nx (n+m) (ZnU (n*s) c1 cs2)
      |none=>nO
    |_=>nO
  |none=>nO
 |_=>nO
def gk:K→Bool
 |.q _ _=>true
 |.pick _ _ _=>true
 |.bsl _ _ _ _ _=>true
 |.s2b _=>true
 |.append ..=>true
 |.clear ..=>true
 |_=>false
def mp2(x:Option V)(f:V→Option R3):Option R3:=match x with
 |some v=>f v
 |none=>nO
def up(x:Option S)(v:V)(nx:Nat):Option R3:=match x with
 |some σ=>sO ⟨v,σ,nx⟩
 |none=>nO
def ZAL:K→Bool
 |.store1 _ _=>true
 |.storeN _ _ _=>true
 |.mkmap=>true
 |_=>false
def opF(mu dst:Bool):K→Bx (T W→S→Nat→Option R3)
 |.q q xs=>⟨fun ρ σ nx=>match (ZbP xs).run ρ with
  |some vs=>match (Bx.mk (qV q)).run σ vs with
   |some v=>sO ⟨v,σ,nx⟩
   |none=>nO
  |none=>nO⟩
 |.pick c a b=>⟨fun ρ σ nx=>mp2 ((YI c).run ρ) fun x=>match x with
  |.bool v=>match v with
   |true=>noV ((ZiP b).run ρ) (mp2 ((YI a).run ρ) fun y=>match y with
    |.bool y=>sO ⟨.bool y,σ,nx⟩
    |_=>nO)
   |false=>noV ((ZiP a).run ρ) (mp2 ((YI b).run ρ) fun y=>match y with
    |.bool y=>sO ⟨.bool y,σ,nx⟩
    |_=>nO)
  |_=>nO⟩
 |.alloc z=>match ofDs z with
  |some z=>⟨fun _ σ nx=>noV dst (sO ⟨.ptr nx 0,σ.set (sO (.cells z)) nx,nx+1⟩)⟩
  |none=>⟨fun _ _ _=>nO⟩
 |.box x=>⟨fun ρ σ nx=>noV dst (mp2 ((YI x).run ρ) fun v=>noV (ZnA v) (sO ⟨.ptr nx 0,σ.set (sO (.cells (ZeZ v))) nx,nx+1⟩))⟩
 |.bsl len n z is xs=>match ofDs z with
  |some z=>⟨fun ρ σ nx=>match (ZbP xs).run ρ with
   |some vs=>noV (ZeC n vs&&Nat.beq z.length n) (if mu&&dst&&Nat.ble 1 len then match Zmu n len (ZjY z (is.zip vs) len 0) with
     |some cs=>sO ⟨.msl nx 0 len (sO len) n,σ.set (sO (.cells cs)) nx,nx+1⟩
     |none=>nO
    else sO ⟨.sl 1 len n (ZjY z (is.zip vs) len 0),σ,nx⟩)
   |none=>nO⟩
  |none=>⟨fun _ _ _=>nO⟩
 |.s2b x=>⟨fun ρ σ nx=>mp2 ((YI x).run ρ) fun v=>match v with
  |.str l=>sO ⟨.sl 0 l.length 1 (u8V l),σ,nx⟩
  |_=>nO⟩
 |.store1 a v=>⟨fun ρ σ nx=>noV (!dst) (mp2 ((YI a).run ρ) fun a=>mp2 ((YI v).run ρ) fun x=>noV (Zvl x) (up (ZgG σ a 1 [x]) .nilsl nx))⟩
 |.storeN n a v=>⟨fun ρ σ nx=>noV (!dst) (mp2 ((YI a).run ρ) fun a=>mp2 ((YI v).run ρ) fun x=>match x with
  |.agg xs=>up (ZgG σ a n xs) .nilsl nx
  |_=>nO)⟩
 |.mkmap=>⟨fun _ σ nx=>noV dst (sO ⟨.map nx,σ.set (sO (.map [])) nx,nx+1⟩)⟩
 |.mkslice _ n bytes z l h=>match ofDs z with
  |some z=>⟨fun ρ σ nx=>noV dst (mp2 ((YI l).run ρ) fun l=>mp2 ((YI h).run ρ) fun h=>match l with
   |.int _ l=>match h with
    |.int _ h=>noV (leI 0 l&&leI l h&&leI (Int.mul bytes h) 140737488355328&&leI h big) (sO ⟨.msl nx 0 l.toNat (sO h.toNat) n,σ.set (sO (.cells (ZgN z h.toNat))) nx,nx+1⟩)
    |_=>nO
   |_=>nO)⟩
  |none=>⟨fun _ _ _=>nO⟩
 |.mapupd kp m k v=>⟨fun ρ σ nx=>noV (!dst) (mp2 ((YI m).run ρ) fun m=>mp2 ((YI k).run ρ) fun k=>mp2 ((YI v).run ρ) fun v=>match m with
  |.map b=>match σ.get b with
   |some (.map es)=>noV (Zdj kp k k).isSome (match Zoy kp k v es with
    |some es'=>sO ⟨.nilsl,σ.set (sO (.map es')) b,nx⟩
    |none=>nO)
   |_=>nO
  |_=>nO)⟩
 |.delete kp m k=>⟨fun ρ σ nx=>noV (!dst) (mp2 ((YI m).run ρ) fun m=>mp2 ((YI k).run ρ) fun k=>match m with
  |.map b=>match σ.get b with
   |some (.map es)=>noV (Zdj kp k k).isSome (match Zq7 kp k es with
    |some es'=>sO ⟨.nilsl,σ.set (sO (.map es')) b,nx⟩
    |none=>nO)
   |_=>nO
  |_=>nO)⟩
 |.mapent kp z m k=>match ofD z with
  |some z=>⟨fun ρ σ nx=>noV dst (mp2 ((YI m).run ρ) fun m=>mp2 ((YI k).run ρ) fun k=>match m with
   |.map b=>match σ.get b with
    |some (.map es)=>noV (Zdj kp k k).isSome (match Zrd kp k z es with
     |some v=>sO ⟨.tup [v,.stamp nx],σ.set (sO (.mapE kp es k nx)) b,nx+1⟩
     |none=>nO)
    |_=>nO
   |_=>nO)⟩
  |none=>⟨fun _ _ _=>nO⟩
 |.entst m st v=>⟨fun ρ σ nx=>noV (!dst) (mp2 ((YI m).run ρ) fun m=>mp2 ((YI st).run ρ) fun st=>mp2 ((YI v).run ρ) fun v=>match m with
  |.map b=>match st with
   |.stamp n=>match σ.get b with
    |some (.mapE kp es k n')=>noV (Nat.beq n n') (match Zoy kp k v es with
     |some es'=>sO ⟨.nilsl,σ.set (sO (.map es')) b,nx⟩
     |none=>nO)
    |_=>nO
   |_=>nO
  |_=>nO)⟩
 |.clear s z x=>match ofDs z with
  |some z=>⟨fun ρ σ nx=>mp2 ((YI x).run ρ) fun x=>match x with
   |.msl b o n _ s'=>noV (Nat.beq s' s) (up (ZgG σ (.ptr b o) (n*s) (ZgN z n)) (.tup []) nx)
   |_=>nO⟩
  |none=>⟨fun _ _ _=>nO⟩
 |.fork k=>match ZAL k with
  |true=>opF mu dst k
  |false=>⟨fun _ _ _=>nO⟩
 |.append _ s bytes _ x y=>⟨fun ρ σ nx=>mp2 ((YI x).run ρ) fun x=>mp2 ((YI y).run ρ) fun y=>match Zyl σ s y with
  |some (m,rs2)=>Zw8 mu s bytes σ nx x m rs2
  |none=>nO⟩
 |_=>⟨fun _ _ _=>nO⟩
def rvV(ρ:T W)(σ:S):RV→Option V
 |.tmp t=>(YI (.tmp t)).run ρ
 |.cell1 t=>match (YI (.tmp t)).run ρ with
  |some a=>qV .load1 σ [a]
  |none=>nO
 |.cellN t n=>match (YI (.tmp t)).run ρ with
  |some a=>qV (.loadN n) σ [a]
  |none=>nO
def Zr2(ρ:T W)(σ:S):List RV→Option (List V)
 | []=>sO []
 |r::rs=>match rvV ρ σ r with
  |some v=>match Zr2 ρ σ rs with
   |some vs=>sO (v::vs)
   |none=>nO
  |none=>nO
def mkV:List V→V
 | [v]=>v
 |vs=>.tup vs
def Zp6(C:Cx)(f:FuncId):Bx (Ih→List V→S→Nat→Option Out) :=
 match C.df f with
 |some df=>⟨fun ih args σ nx=>ih ⟨f,df.n,.fn df.res,[]⟩ [.code df.body] (ZmD 0 args T.nil) σ nx⟩
 |none=>⟨fun _ _ _ _=>nO⟩
def Zfa(C:Cx)(f:FuncId):Bx (Ih→List V→S→Nat→Option Out) :=
 match C.lib f with
 |some g=>⟨fun ih args σ nx=>match g σ args with
  |some v=>sO ⟨false,v,σ,nx⟩
  |none=>(Zp6 C f).run ih args σ nx⟩
 |none=>Zp6 C f
def Zl9(C:Cx)(ih:Ih)(f:V)(args:List V)(σ:S)(nx:Nat):Option Out :=
 match f with
 |.fn f first caps=>(Zfa C f).run ih (first++(args++caps)) σ nx
 |.yield l=>match σ.get l with
  |some (.loop f n ps a b ρ nO false)=>noV (Nat.beq args.length ps.length) (ih ⟨f,n,.rnd l,[]⟩ [.code a,.beginR,.code b] (ZeF ps args ρ) σ nx)
  |_=>nO
 |_=>nO
def Zu0:V→Bool
 |.int k n=>Zuv k n
 |.bool _=>true
 |.str l=>Nat.ble l.length big
 |.nilsl=>true
 |.nilptr=>true
 |.ptr _ _=>true
 |.map _=>true
 |.nilmap=>true
 |.nilfn=>true
 |.niliface=>true
 |_=>false
def Zj9:List V→Bool
 | []=>true
 |v::r=>Zu0 v&&Zj9 r
def ZuZ:Option V→Bool
 |some x=>match x with
  |.iface _ v=>match v with
   |.agg cs=>Zj9 cs
   |v=>Zu0 v
  |_=>false
 |none=>true
def ZlS(C:Cx)(ih:Ih):List Dd→Option V→S→Nat→Option (Option V×S×Nat)
 | [],m,σ,nx=>sO (m,σ,nx)
 |.mark q::r,m,σ,nx=>match σ.get q with
  |some .dfr=>ZlS C ih r m (σ.set nO q) nx
  |_=>nO
 |.fn i args caps::r,m,σ,nx=>match C.df i with
  |some ⟨n,[],body⟩=>noV (ZuZ m) <|match ih ⟨i,n,.dfd m false,[]⟩ [.code body] (ZmD 0 (args++caps) T.nil) σ nx with
   |some ⟨false,.bool b,σ',nx'⟩=>ZlS C ih r (if b then nO else m) σ' nx'
   |_=>nO
  |_=>nO
def loopTo(σ:S)(l:Nat)(st:Option DC)(now busy:Bool):Option S :=
 match σ.get l with
 |some (.loop f n ps a b ρ nO bs)=>noV (bs==now) (sO (σ.set (sO (.loop f n ps a b ρ st busy)) l))
 |_=>nO
def ZuY(C:Cx)(ih:Ih)(fm:Fm)(ρ:T W)(σ:S)(nx:Nat)(fell:Bool):Option Out :=
 match fm.k with
 |.fn res=>match ZlS C ih fm.ds nO σ nx with
  |some (nO,σ',nx')=>match Zr2 ρ σ' res with
   |some vs=>sO ⟨false,mkV vs,σ',nx'⟩
   |none=>nO
  |_=>nO
 |.rnd l=>match loopTo σ l (if fell then nO else sO .ret) true false with
  |some σ'=>sO ⟨false,.bool fell,σ',nx⟩
  |none=>nO
 |.dfd pd rec=>match fm.ds with
  | []=>sO ⟨false,.bool (pd.isNone ||rec),σ,nx⟩
  |_=>nO
def ZlB(C:Cx)(ih:Ih)(fm:Fm)(ρ:T W)(v:V)(σ:S)(nx:Nat):Option Out :=
 match fm.k with
 |.fn res=>match ZlS C ih fm.ds (sO v) σ nx with
  |some (nO,σ',nx')=>match Zr2 ρ σ' res with
   |some vs=>sO ⟨false,mkV vs,σ',nx'⟩
   |none=>nO
  |some (sO v,σ',nx')=>sO ⟨true,v,σ',nx'⟩
  |none=>nO
 |.rnd _=>match C.P.funcs[fm.f]? with
  |some _=>sO ⟨true,v,σ,nx⟩
  |none=>nO
 |.dfd _ _=>nO
abbrev Rg:=Ih→List WL→Fm→T W→S→Nat→Option Out
def goF(C:Cx)(f:FuncId)(rest:Bx Rg)(dst:Option Nat)(g:Option (Nat×Bool))(k:K):Bx Rg :=
 match k with
 |.call fx xs=>⟨fun ih dk fm ρ σ nx=>match (YI fx).run ρ with
  |some fv=>match (ZbP xs).run ρ with
   |some vs=>match Zl9 C ih fv vs σ nx with
    |some ⟨pan,v,σ',nx'⟩=>match pan with
     |false=>rest.run ih dk fm ((Zb3 dst).run ρ (.v v)) σ' nx'
     |true=>ZlB C ih fm ρ v σ' nx'
    |none=>nO
   |none=>nO
  |none=>nO⟩
 |.panic x=>⟨fun ih _ fm ρ σ nx=>match (YI x).run ρ with
  |some (.iface t v)=>ZlB C ih fm ρ (.iface t v) σ nx
  |_=>nO⟩
 |.defer fx xs=>match g,dst with
  |none,nO=>⟨fun ih dk fm ρ σ nx=>match (YI fx).run ρ,(ZbP xs).run ρ with
   |some (.fn j first caps),sO vs=>match fm.k with
    |.fn _=>noV (Zj9 (first++vs)&&Zj9 caps) (rest.run ih dk { fm with ds:=.fn j (first++vs) caps::fm.ds } ρ σ nx)
    |_=>nO
   |_,_=>nO⟩
  |_,_=>⟨fun _ _ _ _ _ _=>nO⟩
 |.recover=>match g with
  |none=>⟨fun ih dk fm ρ σ nx=>match fm.k with
   |.dfd (sO v) false=>rest.run ih dk { fm with k:=.dfd (sO v) true } ((Zb3 dst).run ρ (.v v)) σ nx
   |.dfd nO _=>rest.run ih dk fm ((Zb3 dst).run ρ (.v .niliface)) σ nx
   |_=>nO⟩
  |_=>⟨fun _ _ _ _ _ _=>nO⟩
 |k=>match gk k ||g.isNone with
  |true=>⟨fun ih dk fm ρ σ nx=>match (opF (C.mu f dst) dst.isSome k).run ρ σ nx with
   |some ⟨v,σ',nx'⟩=>rest.run ih dk fm ((Zb3 dst).run ρ (.v v)) σ' nx'
   |none=>nO⟩
  |false=>⟨fun _ _ _ _ _ _=>nO⟩
def Zof(C:Cx)(f:FuncId):List DOp→Bx Rg
 | []=>⟨fun ih dk fm ρ σ nx=>ih fm dk ρ σ nx⟩
 |⟨dst,g,k⟩::os=>match g with
  |none=>goF C f (Zof C f os) dst g k
  |some _=>⟨fun ih dk fm ρ σ nx=>match (ZiD g).run ρ with
   |some b=>match b with
    |true=>(goF C f (Zof C f os) dst g k).run ih dk fm ρ σ nx
    |false=>(Zof C f os).run ih dk fm ((Zb3 dst).run ρ .skip) σ nx
   |none=>nO⟩
def ZiN:K→Bool
 |.fork _=>false
 |_=>true
structure Rl where
 cs:List (Nat×List V)
 ad:List (Nat×Nat×Nat)
 bn:List (Nat×Nat)
 bl:List (Nat×Nat)
def Rl.nil:Rl:=⟨[],[],[],[]⟩
def Ziz(u:Nat):List (Nat×Nat×Nat)→Option (Nat×Nat)
 | []=>nO
 | (t,a)::r=>if Nat.beq t u then sO a else Ziz u r
def Kn(l:Nat):List (Nat×List V)→Option (List V)
 | []=>nO
 | (t,c)::r=>if Nat.beq t l then sO c else Kn l r
def Zjj(l:Nat)(vs:List V):List (Nat×List V)→List (Nat×List V)
 | []=>[]
 | (t,c)::r=>if Nat.beq t l then (t,vs)::r else (t,c)::Zjj l vs r
def ZfW(n:Nat):List Nat→Bool
 | []=>false
 |a::r=>if Nat.beq a n then true else ZfW n r
def Zw6(n:Nat)(l:List Nat):List Nat:=if ZfW n l then l else n::l
def ZlI(fl:List Nat):List (Nat×Nat)→List Nat
 | []=>[]
 | (t,n)::r=>if ZfW t fl then Zw6 n (ZlI fl r) else ZlI fl r
def Zfg(fl:List Nat):List (Nat×Nat)→List (Nat×Nat)
 | []=>[]
 | (t,n)::r=>if ZfW t fl then (t,n)::Zfg fl r else Zfg fl r
def noA(u:Nat)(r:Rl):Bool:=match Ziz u r.ad with
 |none=>Nat.blt u 32768
 |some _=>false
def ZdM(dst:Option Nat)(r:Rl):Bool:=match dst with
 |none=>true
 |some t=>noA t r
def ZuJ(t:Nat)(r:Rl):Bool:=(match Kn t r.cs with
 |none=>true
 |some _=>false)&&noA t r
def Zj0(fl:List Nat)(r:Rl):Rl:=match fl with
 | []=>⟨r.cs,r.ad,[],[]⟩
 |fl=>⟨r.cs,r.ad,Zfg fl r.bn,Zfg fl r.bl⟩
def Zi2:O→Bool
 |.cells _=>true
 |.buf _=>true
 |.map _=>true
 |_=>false
def ZiQ:List Nat→S→Option (S×List (Nat×O))
 | [],σ=>sO (σ,[])
 |k::r,σ=>match σ.get k with
  |some o=>match Zi2 o with
   |true=>match ZiQ r (σ.set (sO (.ro o)) k) with
    |some (σ',l)=>sO (σ',(k,o)::l)
    |none=>nO
   |false=>match Zbk o with
    |true=>ZiQ r σ
    |false=>nO
  |none=>nO
def ZjP:List (Nat×O)→S→Option S
 | [],σ=>sO σ
 | (k,o)::r,σ=>match σ.get k with
  |some (.ro _)=>match ZjP r σ with
   |some σ'=>sO (σ'.set (sO o) k)
   |none=>nO
  |_=>nO
def ZxY(fl:List Nat)(r:Rl)(σ:S):Option (S×List (Nat×O)):=match fl with
 | []=>sO (σ,[])
 |fl=>ZiQ (ZlI fl r.bn) σ
def Zqz:Opd→Rl→Option (Nat×Nat)
 |.tmp t,r=>Ziz t r.ad
 |.cst _,_=>nO
def Zyu(t:Nat)(v:V)(r:Rl):Rl:=match v with
 |.ptr k _=>⟨r.cs,r.ad,(t,k)::r.bn,r.bl⟩
 |.msl k _ _ _ _=>⟨r.cs,r.ad,(t,k)::r.bn,r.bl⟩
 |.map k=>⟨r.cs,r.ad,(t,k)::r.bn,r.bl⟩
 |_=>r
def rdR(t:Nat)(k:K):Bx (T W→Rl→Rl):=match k with
 |.q q xs=>match YL (.q q xs) with
  |true=>match xs with
   |x::_=>⟨fun ρ r=>match (YI x).run ρ with
    |some v=>Zyu t v r
    |none=>r⟩
   | []=>⟨fun _ r=>r⟩
  |false=>⟨fun _ r=>r⟩
 |_=>⟨fun _ r=>r⟩
abbrev RgD:=Rl→Rg
def ZiV(rest:Bx RgD)(dst:Option Nat)(k:K):Bx RgD :=
 ⟨fun r ih dk fm ρ σ nx=>match (opF false dst.isSome k).run ρ σ nx with
  |some ⟨v,_,_⟩=>noV (ZdM dst r) (rest.run ((rdR (dst.getD 0) k).run ρ r) ih dk fm ((Zb3 dst).run ρ (.v v)) σ nx)
  |none=>nO⟩
def Zq9(C:Cx)(f:FuncId)(rest:Bx RgD)(dst:Option Nat)(g:Option (Nat×Bool))(fl:List Nat)(k:K):Bx RgD :=
 match gk k ||g.isNone with
 |true=>⟨fun r ih dk fm ρ σ nx=>match ZxY fl r σ with
  |some (σ0,l)=>match (opF (C.mu f dst) dst.isSome k).run ρ σ0 nx with
   |some ⟨v,σ',nx'⟩=>match ZjP l σ' with
    |some σ2=>noV (ZdM dst r) (rest.run (Zj0 fl r) ih dk fm ((Zb3 dst).run ρ (.v v)) σ2 nx')
    |none=>nO
   |none=>nO
  |none=>nO⟩
 |false=>⟨fun _ _ _ _ _ _ _=>nO⟩
def adD(rest:Bx RgD)(dst:Option Nat)(l o:Nat):Bx RgD :=
 match dst with
 |some u=>⟨fun r ih dk fm ρ σ nx=>noV (noA u r) (rest.run ⟨r.cs,(u,l,o)::r.ad,r.bn,r.bl⟩ ih dk fm ((T.setF u).run nO ρ) σ nx)⟩
 |none=>⟨fun _ _ _ _ _ _ _=>nO⟩
def ZxO(rest:Bx RgD)(dst:Option Nat)(q:Q)(xs:List Opd):Bx (Nat→Nat→RgD) :=
 match q with
 |.mv=>match xs with
  | []=>⟨fun l o=>(adD rest dst l o).run⟩
  |_=>⟨fun _ _ _ _ _ _ _ _ _=>nO⟩
 |.nilck=>match xs with
  | []=>⟨fun l o=>(adD rest dst l o).run⟩
  |_=>⟨fun _ _ _ _ _ _ _ _ _=>nO⟩
 |.faddr off=>match xs with
  | []=>⟨fun l o=>(adD rest dst l (o+off)).run⟩
  |_=>⟨fun _ _ _ _ _ _ _ _ _=>nO⟩
 |.iaddrA m z=>match xs with
  | [x]=>⟨fun l o r ih dk fm ρ σ nx=>match (YI x).run ρ with
   |some (.int _ i)=>noV (leI 0 i&&!leI m i) ((adD rest dst l (o+i.toNat*z)).run r ih dk fm ρ σ nx)
   |_=>nO⟩
  |_=>⟨fun _ _ _ _ _ _ _ _ _=>nO⟩
 |.load1=>match xs with
  | []=>⟨fun l o r ih dk fm ρ σ nx=>match Kn l r.cs with
   |some cs=>match Zg9 o cs with
    |some v=>noV (ZdM dst r) (rest.run ⟨r.cs,r.ad,r.bn,(dst.getD 0,l)::r.bl⟩ ih dk fm ((Zb3 dst).run ρ (.v v)) σ nx)
    |none=>nO
   |none=>nO⟩
  |_=>⟨fun _ _ _ _ _ _ _ _ _=>nO⟩
 |.loadN n=>match xs with
  | []=>⟨fun l o r ih dk fm ρ σ nx=>match Kn l r.cs with
   |some cs=>match Zjz cs o n with
    |some v=>noV (ZdM dst r) (rest.run ⟨r.cs,r.ad,r.bn,(dst.getD 0,l)::r.bl⟩ ih dk fm ((Zb3 dst).run ρ (.v v)) σ nx)
    |none=>nO
   |none=>nO⟩
  |_=>⟨fun _ _ _ _ _ _ _ _ _=>nO⟩
 |_=>⟨fun _ _ _ _ _ _ _ _ _=>nO⟩
def Zse(rest:Bx RgD)(fl:List Nat)(l o n:Nat)(xs:List V):RgD:=fun r ih dk fm ρ σ nx=>match Kn l r.cs with
 |some cs=>match Zjk o n xs cs with
  |some cs'=>noV (!ZfW l (ZlI fl r.bl)) (rest.run (Zj0 fl ⟨Zjj l cs' r.cs,r.ad,r.bn,r.bl⟩) ih dk fm ρ σ nx)
  |none=>nO
 |none=>nO
def goD(C:Cx)(f:FuncId)(rest:Bx RgD)(dst:Option Nat)(g:Option (Nat×Bool))(fl:List Nat)(k:K):Bx RgD :=
 match k with
 |.call fx xs=>⟨fun r ih dk fm ρ σ nx=>match (YI fx).run ρ with
  |some fv=>match (ZbP xs).run ρ with
   |some vs=>match ZxY fl r σ with
    |some (σ0,l)=>match Zl9 C ih fv vs σ0 nx with
     |some ⟨pan,v,σ',nx'⟩=>match ZjP l σ' with
      |some σ2=>match pan with
       |false=>noV (ZdM dst r) (rest.run (Zj0 fl r) ih dk fm ((Zb3 dst).run ρ (.v v)) σ2 nx')
       |true=>ZlB C ih fm T.nil v σ2 nx'
      |none=>nO
     |none=>nO
    |none=>nO
   |none=>nO
  |none=>nO⟩
 |.panic x=>⟨fun _ ih _ fm ρ σ nx=>match (YI x).run ρ with
  |some (.iface t v)=>ZlB C ih fm T.nil (.iface t v) σ nx
  |_=>nO⟩
 |.defer _ _=>⟨fun _ _ _ _ _ _ _=>nO⟩
 |.recover=>⟨fun _ _ _ _ _ _ _=>nO⟩
 |.fork _=>⟨fun _ _ _ _ _ _ _=>nO⟩
 |.alloc z=>match g,dst,ofDs z with
  |none,sO t,sO z=>⟨fun r ih dk fm ρ σ nx=>noV (ZuJ t r) (rest.run ⟨(t,z)::r.cs,(t,t,0)::r.ad,r.bn,r.bl⟩ ih dk fm ((T.setF t).run nO ρ) σ nx)⟩
  |_,_,_=>⟨fun _ _ _ _ _ _ _=>nO⟩
 |.box x=>match g,dst with
  |none,sO t=>⟨fun r ih dk fm ρ σ nx=>match (YI x).run ρ with
   |some v=>noV (ZnA v&&ZuJ t r&&!ZfW t (ZlI fl r.bl)) (rest.run (Zj0 fl ⟨(t,ZeZ v)::r.cs,(t,t,0)::r.ad,r.bn,r.bl⟩) ih dk fm ((T.setF t).run nO ρ) σ nx)
   |none=>nO⟩
  |_,_=>⟨fun _ _ _ _ _ _ _=>nO⟩
 |.store1 a v=>match g,dst with
  |none,nO=>⟨fun r ih dk fm ρ σ nx=>match Zqz a r with
   |some (l,o)=>match (YI v).run ρ with
    |some x=>noV (Zvl x) (Zse rest fl l o 1 [x] r ih dk fm ρ σ nx)
    |none=>nO
   |none=>(Zq9 C f rest dst g fl (.store1 a v)).run r ih dk fm ρ σ nx⟩
  |_,_=>⟨fun _ _ _ _ _ _ _=>nO⟩
 |.storeN n a v=>match g,dst with
  |none,nO=>⟨fun r ih dk fm ρ σ nx=>match Zqz a r with
   |some (l,o)=>match (YI v).run ρ with
    |some (.agg xs)=>Zse rest fl l o n xs r ih dk fm ρ σ nx
    |_=>nO
   |none=>(Zq9 C f rest dst g fl (.storeN n a v)).run r ih dk fm ρ σ nx⟩
  |_,_=>⟨fun _ _ _ _ _ _ _=>nO⟩
 |.q q xs=>match xs with
  |x::ys=>⟨fun r ih dk fm ρ σ nx=>match Zqz x r with
   |some (l,o)=>(ZxO rest dst q ys).run l o r ih dk fm ρ σ nx
   |none=>(ZiV rest dst (.q q xs)).run r ih dk fm ρ σ nx⟩
  | []=>ZiV rest dst (.q q xs)
 |k=>match YB k with
  |true=>ZiV rest dst k
  |false=>Zq9 C f rest dst g fl k
def Zm0:List (Nat×Nat×Nat)→Nat→Nat→T W→T W
 | [],_,_,ρ=>ρ
 | (u,l,o)::r,t,nx,ρ=>if Nat.beq l t then (Zm0 r t nx ρ).set (sO (.v (.ptr nx o))) u else Zm0 r t nx ρ
def Zrg:List (Nat×List V)→List (Nat×Nat×Nat)→Rg
 | [],_=>fun ih dk fm ρ σ nx=>ih fm dk ρ σ nx
 | (t,vs)::r,ad=>fun ih dk fm ρ σ nx=>match Ziz t ad with
  |some (l,_)=>noV (Nat.beq l t) (Zrg r ad ih dk fm (Zm0 ad t nx ρ) (σ.set (sO (.cells vs)) nx) (nx+1))
  |none=>nO
def Zj4(C:Cx)(f:FuncId):List (DOp×List Nat)→Bx RgD
 | []=>⟨fun r ih dk fm ρ σ nx=>Zrg r.cs r.ad ih dk fm ρ σ nx⟩
 | (⟨dst,g,k⟩,fl)::os=>match k with
  |.fork _=>⟨fun _ _ _ _ _ _ _=>nO⟩
  |k=>match g with
   |none=>goD C f (Zj4 C f os) dst g fl k
   |some _=>⟨fun r ih dk fm ρ σ nx=>match (ZiD g).run ρ with
    |some b=>match b with
     |true=>(goD C f (Zj4 C f os) dst g fl k).run r ih dk fm ρ σ nx
     |false=>match k with
      |.alloc _=>nO
      |k=>noV (ZdM dst r) ((Zj4 C f os).run (if YB k then r else Zj0 fl r) ih dk fm ((Zb3 dst).run ρ .skip) σ nx)
    |none=>nO⟩
abbrev Cd:=Ih→Fm→List WL→T W→S→Nat→Option Out
def J7(C:Cx)(f:FuncId):DC→Bx Cd
 |.skip=>⟨fun ih fm k ρ σ nx=>ih fm k ρ σ nx⟩
 |.label _=>⟨fun ih fm k ρ σ nx=>ih fm k ρ σ nx⟩
 |.seq a b=>⟨fun ih fm k ρ σ nx=>(J7 C f a).run ih fm (.code b::k) ρ σ nx⟩
 |.cond c a b=>⟨fun ih fm k ρ σ nx=>match (YI c).run ρ with
  |some v=>match v with
   |.bool t=>match t with
    |true=>(J7 C f a).run ih fm k ρ σ nx
    |false=>(J7 C f b).run ih fm k ρ σ nx
   |_=>nO
  |none=>nO⟩
 |.block id a=>⟨fun ih fm k ρ σ nx=>(J7 C f a).run ih fm (.inBlock id::k) ρ σ nx⟩
 |.loop a=>⟨fun ih fm k ρ σ nx=>(J7 C f a).run ih fm (.inLoop a::k) ρ σ nx⟩
 |.scope a=>⟨fun ih fm k ρ σ nx=>(J7 C f a).run ih fm (.inScope a::k) ρ σ nx⟩
 |.exit id=>⟨fun ih fm k ρ σ nx=>match Qw id k with
  |some k'=>ih fm k' ρ σ nx
  |none=>match fm.k with
   |.rnd l=>match loopTo σ l (sO (.exit id)) true false with
    |some σ'=>sO ⟨false,.bool false,σ',nx⟩
    |none=>nO
   |_=>nO⟩
 |.goto l=>⟨fun ih fm k ρ σ nx=>match ZcI l k with
  |some k'=>ih fm k' ρ σ nx
  |none=>nO⟩
 |.ret=>⟨fun ih fm _ ρ σ nx=>ZuY C ih fm ρ σ nx false⟩
 |.reg ops kp=>match kp with
  |none=>match ops.all fun o=>ZiN o.k with
   |true=>⟨fun ih fm k ρ σ nx=>(Zof C f ops).run ih k fm ρ σ nx⟩
   |false=>⟨fun _ _ _ _ _ _=>nO⟩
  |some _=>⟨fun _ _ _ _ _ _=>nO⟩
 |.regD _ ops _=>⟨fun ih fm k ρ σ nx=>(Zj4 C f ops).run Rl.nil ih k fm ρ σ nx⟩
 |.rangeF g ps a b=>⟨fun ih fm k ρ σ nx=>match fm.k with
  |.fn _=>match (YI g).run ρ with
   |some fv=>match Zl9 C ih fv [.yield (nx+1)] ((σ.set (sO .dfr) nx).set (sO (.loop fm.f fm.n ps a b ρ nO false)) (nx+1)) (nx+2) with
    |some ⟨pan,v,σ',nx'⟩=>match pan with
     |false=>match σ'.get (nx+1) with
      |some (.loop _ _ _ _ _ _ nO false)=>ih { fm with ds:=.mark nx::fm.ds } k ρ (σ'.set nO (nx+1)) nx'
      |some (.loop f' n' _ _ _ _ (sO j) false)=>noV (Nat.beq f' fm.f&&Nat.beq n' fm.n) (ih { fm with ds:=.mark nx::fm.ds } (.code j::k) ρ (σ'.set nO (nx+1)) nx')
      |_=>nO
     |true=>ZlB C ih { fm with ds:=.mark nx::fm.ds } ρ v σ' nx'
    |none=>nO
   |none=>nO
  |_=>nO⟩
def step(C:Cx)(ih:Ih)(fm:Fm)(dk:List WL)(ρ:T W)(σ:S)(nx:Nat):Option Out :=
 match dk with
 | []=>ZuY C ih fm ρ σ nx true
 |it::k=>match it with
  |.inBlock _=>ih fm k ρ σ nx
  |.inScope _=>ih fm k ρ σ nx
  |.inLoop c=>(J7 C fm.f c).run ih fm (.inLoop c::k) ρ σ nx
  |.beginR=>match fm.k with
   |.rnd l=>match loopTo σ l nO false true with
    |some σ'=>ih fm k ρ σ' nx
    |none=>nO
   |_=>nO
  |.code c=>(J7 C fm.f c).run ih fm k ρ σ nx
def run(C:Cx)(n:Nat):Ih:=Nat.rec (motive:=fun _=>Ih) (fun _ _ _ _ _=>nO) (fun _ ih=>step C ih) n
theorem Zyw(a b):UInt8.ofNat a=UInt8.ofNat b↔a % 256=b % 256:=by
 rw[←UInt8.toNat_inj];simp
theorem Zml:∀(a b),eqS a b=dC (a.map UInt8.ofNat=b.map UInt8.ofNat)
 | [],[]=>by simp[eqS]
 | [],b::y=>by simp[eqS]
 |a::x,[]=>by simp[eqS]
 |a::x,b::y=>by
  simp only[eqS,ZEQ,List.cons.injEq,Zyw,Zml x y]
  by_cases h:a % 256=b % 256<;>simp
theorem Zrt:∀(a b),ZcK a b=Op.bytesLess (a.map UInt8.ofNat) (b.map UInt8.ofNat)
 | [],[]=>by simp[ZcK,Op.bytesLess]
 | [],b::y=>by simp[ZcK,Op.bytesLess]
 |a::x,[]=>by simp[ZcK,Op.bytesLess]
 |a::x,b::y=>by
  have e1:(UInt8.ofNat a<UInt8.ofNat b)↔a % 256<b % 256:=by
   rw[UInt8.lt_iff_toNat_lt];simp
  have e2:=Zyw a b
  simp[ZcK,Op.bytesLess,Zrt x y]
  by_cases h1:a % 256<b % 256
  ·simp[h1,e1]
  ·by_cases h2:a % 256=b % 256
   ·simp[h2,e1,e2]
   ·simp[h2,e1,e2]
section
variable {η:Nm}
theorem Zm8{k x y dx dy}(hx:VR η x dx)(hy:VR η y dy){b}(h:Zka k x y=sO b):Yf k dx dy=sO b:=by
 cases k<;>cases hx<;>cases hy<;>simp only[Zka,reduceCtorEq]at h
 ·split at h<;>simp only[ZEz,reduceCtorEq]at h
  rename_i hk
  obtain rfl:=Zet hk
  simp only[Yf,if_true,ZEz]
  rw[←Ziu];exact h
 ·simp only[ZEz]at h
  simp only[Yf,ZEz]
  rw[←Zml];exact h
 ·simpa only[Yf]using h
theorem Zii{xs ys ds es}(hx:VRs η xs ds)(hy:VRs η ys es):∀{l b},Zgi xs ys l=sO b→Wk ds es l=sO b
 | [],b,h=>by simpa only[Zgi,Wk]using h
 | (o,k)::r,b,h=>by
  simp only[Zgi]at h
  split at h<;>(try(simp at h;done))
  rename_i x y h1 h2
  split at h<;>simp only[ZEz,reduceCtorEq]at h
  rename_i b1 b2 h3 h4
  obtain⟨dx,hdx,hvx⟩:=hx.get h1
  obtain⟨dy,hdy,hvy⟩:=hy.get h2
  simp only[Wk,hdx,hdy,Zm8 hvx hvy h3,Zii hx hy h4,h]
theorem ZaH{kp x y dx dy}(hx:VR η x dx)(hy:VR η y dy){b}(h:Zdj kp x y=sO b):Kh kp dx dy=sO b:=by
 cases kp with
 |sc k=>exact Zm8 hx hy h
 |st l =>
  cases hx<;>cases hy<;>simp only[Zdj,reduceCtorEq]at h
  rename_i cs ds h1 cs' ds' h2
  split at h<;>(try(simp at h;done))
  rename_i hl
  simp only[Kh]
  rw[if_pos ⟨by rw[←h1.len];exact hl.1,by rw[←h2.len];exact hl.2⟩]
  exact Zii h1 h2 h
theorem Zfk{kp x dx}(hx:VR η x dx)(h:(Zdj kp x x).isSome=true):K8 kp dx=true:=by
 cases hk:Zdj kp x x with
 |none=>rw[hk]at h;grind
 |some b=>simp[K8,ZaH hx hx hk]
theorem ZrR{p x y dx dy}(hx:VR η x dx)(hy:VR η y dy){b}(h:Zqg p x y=sO b):∃side,YF p dx dy=sO (side,b)∧side:=by
 cases p<;>cases hx<;>cases hy<;>simp only[Zqg,reduceCtorEq,ZEz]at h
 case cells.agg.agg l cs ds h1 cs' ds' h2=>exact⟨True,by simp[YF,Zii h1 h2 h],trivial⟩
 case sl.sl.nilsl t n s rs τ row h1 h2 h3 =>
  split at h<;>simp only[ZEz,reduceCtorEq]at h
  subst h
  exact⟨_,rfl,‹_›⟩
 all_goals (subst h;exact⟨True,rfl,trivial⟩)
theorem Zbz{k n v}(h:ZfS k n=sO v):v=.int k n∧inR k n:=by
 unfold ZfS at h
 split at h<;>simp at h
 exact⟨h.symm,Zts ‹_›⟩
theorem Zzn{op k k' a b v}(hk:Zr6 op=true∨k=k')(h:Zx6 op k a b=sO v):∃side d,J1 op nO (.int k a) (.int k' b)=sO (side,d)∧side∧VR η v d:=by
 have hsh:Zr6 op=false→k=k':=fun h=>hk.resolve_left (by rw[h];simp)
 cases op<;>simp only[Zx6]at h
 case shl =>
  split at h<;>(try(simp at h;done))
  rename_i h0
  obtain⟨rfl,hr⟩:=Zbz h
  rw[Zgq,decide_eq_true_eq]at h0
  exact⟨_,_,rfl,⟨h0,hr⟩,.int _ _⟩
 case shr =>
  split at h<;>(try(simp at h;done))
  rename_i h0
  obtain⟨rfl,hr⟩:=Zbz h
  rw[Zgq,decide_eq_true_eq]at h0
  exact⟨_,_,rfl,⟨h0,hr⟩,.int _ _⟩
 all_goals
  obtain rfl:=hsh rfl
  simp only[J1,if_true,QB]
 case add=>obtain⟨rfl,hr⟩:=Zbz h;exact⟨_,_,rfl,hr,.int _ _⟩
 case sub=>obtain⟨rfl,hr⟩:=Zbz h;exact⟨_,_,rfl,hr,.int _ _⟩
 case mul=>obtain⟨rfl,hr⟩:=Zbz h;exact⟨_,_,rfl,hr,.int _ _⟩
 case quo =>
  split at h<;>(try(simp at h;done))
  rename_i h0
  obtain⟨rfl,hr⟩:=Zbz h
  rw[Ziu,decide_eq_false_iff_not]at h0
  exact⟨_,_,rfl,⟨h0,hr⟩,.int _ _⟩
 case rem =>
  split at h<;>(try(simp at h;done))
  rename_i h0
  obtain⟨rfl,hr⟩:=Zbz h
  rw[Ziu,decide_eq_false_iff_not]at h0
  exact⟨_,_,rfl,⟨h0,hr⟩,.int _ _⟩
 all_goals
  simp only[ZEz]at h
  subst h
  refine⟨_,_,rfl,trivial,?_⟩
  try simp only[Ziu,Zgq]
 case lss=>rw[show(!dC (b≤a))=dC (a<b) by by_cases hh:a<b<;>simp[hh]<;>omega];exact .bool _
 case gtr=>rw[show(!dC (a≤b))=dC (b<a) by by_cases hh:b<a<;>simp[hh]<;>omega];exact .bool _
 case geq=>exact .bool _
 all_goals first|exact .bool _|exact .int _ _
theorem Zzp{op a b v}(h:Zx7 op a b=sO v):∃side d,Zdg op (a.map UInt8.ofNat) (b.map UInt8.ofNat)=sO (side,d)∧side∧VR η v d:=by
 cases op<;>simp only[Zx7,reduceCtorEq]at h
 case add =>
  split at h<;>simp at h
  rename_i hb
  subst h
  refine⟨_,_,rfl,by simpa using hb,?_⟩
  rw[←List.map_append];exact .str _
 all_goals
  cases h
  refine⟨_,_,rfl,trivial,?_⟩
  simp[Zml,Zrt]
  exact .bool _
theorem Zzo{op p x y dx dy}(hx:VR η x dx)(hy:VR η y dy){v}(h:ZrX op p x y=sO v):∃side d,eqO op p dx dy=sO (side,d)∧side∧VR η v d:=by
 cases p with
 |none=>simp[ZrX]at h
 |some p =>
  cases op<;>simp only[ZrX,reduceCtorEq]at h
  case eql =>
   split at h<;>simp only[ZEz,reduceCtorEq]at h
   subst h
   obtain⟨side,h1,h2⟩:=ZrR hx hy ‹_›
   exact⟨side,_,by simp only[eqO,h1,ZE4],h2,.bool _⟩
  case neq =>
   split at h<;>simp only[ZEz,reduceCtorEq]at h
   subst h
   obtain⟨side,h1,h2⟩:=ZrR hx hy ‹_›
   exact⟨side,_,by simp only[eqO,h1,ZE4],h2,.bool _⟩
theorem Zzm{op p x y dx dy}(hx:VR η x dx)(hy:VR η y dy){v}(h:ZrW op p x y=sO v):∃side d,J1 op p dx dy=sO (side,d)∧side∧VR η v d:=by
 have oth:(∀k a,dx≠.int k a)→(∀l,dx≠.str l)→ZrX op p x y=sO v→∃side d,J1 op p dx dy=sO (side,d)∧side∧VR η v d:=fun h1 h2 h3=>by
  obtain⟨side,d,e1,e2,e3⟩:=Zzo hx hy h3
  refine⟨side,d,?_,e2,e3⟩
  rw[←e1]
  cases dx<;>first|rfl|exact absurd rfl (h1 _ _)|exact absurd rfl (h2 _)
 cases hx
 case int k a =>
  cases hy<;>simp only[ZrW,reduceCtorEq]at h
  rename_i k' b
  split at h<;>(try(simp at h;done))
  rename_i hb
  rw[ZEY]at hb
  obtain⟨side,d,e1,e2,e3⟩:=Zzn (η:=η) (k':=k') (hb.imp id Zet) h
  refine⟨side,d,?_,e2,e3⟩
  rw[←e1]
  rfl
 case str s =>
  cases hy<;>simp only[ZrW,reduceCtorEq]at h
  exact Zzp h
 all_goals exact oth (fun _ _=>by simp) (fun _=>by simp) (by simpa only[ZrW]using h)
def MR(η:Nm)(e:V×V)(d:D×D):Prop:=VR η e.1 d.1∧VR η e.2 d.2
theorem MR.mono{η'}(h:η.Sub η'){e d}(m:MR η e d):MR η' e d:=⟨m.1.mono h,m.2.mono h⟩
theorem Zri{kp k dk}(hk:VR η k dk):∀{es ds r},ZG (MR η) es ds→Zmr kp k es=sO r →
  ∃r',Zbb kp dk ds=sO r'∧(match r,r' with|some v,sO d=>VR η v d|none,nO=>True|_,_=>False)
 | [],ds,r,h,hf=>by
  cases h
  simp only[Zmr,ZEz]at hf
  subst hf
  exact⟨nO,rfl,trivial⟩
 |e::es,ds,r,h,hf=>by
  cases h with
  |cons h1 h2 =>
  simp only[Zmr]at hf
  split at hf<;>(try(simp at hf;done))
  ·rename_i hb
   simp only[ZEz]at hf
   subst hf
   exact⟨sO _,by simp only[Zbb,ZaH hk h1.1 hb],h1.2⟩
  ·rename_i hb
   obtain⟨r',e1,e2⟩:=Zri hk h2 hf
   exact⟨r',by simp only[Zbb,ZaH hk h1.1 hb,e1],e2⟩
theorem Zoz{kp k v dk dv}(hk:VR η k dk)(hv:VR η v dv):∀{es r ds},ZG (MR η) es ds→Zoy kp k v es=sO r →
  ∃r',JP kp dk dv ds=sO r'∧ZG (MR η) r r'
 | [],r,ds,h,hf=>by
  cases h
  simp only[Zoy,ZEz]at hf
  subst hf
  exact⟨_,rfl,.cons ⟨hk,hv⟩ .nil⟩
 |e::es,r,ds,h,hf=>by
  cases h with
  |cons h1 h2 =>
  simp only[Zoy]at hf
  split at hf<;>(try(simp at hf;done))
  ·rename_i hb
   simp only[ZEz]at hf
   subst hf
   exact⟨(dk,dv)::_,by simp only[JP,ZaH hk h1.1 hb],.cons ⟨hk,hv⟩ h2⟩
  ·rename_i hb
   simp only[ZEN]at hf
   obtain⟨r0,hr,rfl⟩:=hf
   obtain⟨r',e1,e2⟩:=Zoz hk hv h2 hr
   exact⟨_,by simp only[JP,ZaH hk h1.1 hb,e1,ZE4],.cons h1 e2⟩
theorem Ztk{kp k dk}(hk:VR η k dk):∀{es r ds},ZG (MR η) es ds→Zq7 kp k es=sO r →
  ∃r',ZfM kp dk ds=sO r'∧ZG (MR η) r r'
 | [],r,ds,h,hf=>by
  cases h
  simp only[Zq7,ZEz]at hf
  subst hf
  exact⟨_,rfl,.nil⟩
 |e::es,r,ds,h,hf=>by
  cases h with
  |cons h1 h2 =>
  simp only[Zq7]at hf
  split at hf<;>(try(simp at hf;done))
  ·rename_i hb
   simp only[ZEz]at hf
   subst hf
   exact⟨_,by simp only[ZfM,ZaH hk h1.1 hb],h2⟩
  ·rename_i hb
   simp only[ZEN]at hf
   obtain⟨r0,hr,rfl⟩:=hf
   obtain⟨r',e1,e2⟩:=Ztk hk h2 hr
   exact⟨_,by simp only[ZfM,ZaH hk h1.1 hb,e1,ZE4],.cons h1 e2⟩
theorem Ztn{kp k z dk dz}(hk:VR η k dk)(hz:VR η z dz):∀{es ds v},ZG (MR η) es ds→Zrd kp k z es=sO v →
  ∃d,Zdi kp dk dz ds=sO d∧VR η v d
 | [],ds,v,h,hf=>by
  cases h
  simp only[Zrd,ZEz]at hf
  subst hf
  exact⟨_,rfl,hz⟩
 |e::es,ds,v,h,hf=>by
  cases h with
  |cons h1 h2 =>
  simp only[Zrd]at hf
  split at hf<;>(try(simp at hf;done))
  ·rename_i hb
   simp only[ZEz]at hf
   subst hf
   exact⟨_,by simp only[Zdi,ZaH hk h1.1 hb],h1.2⟩
  ·rename_i hb
   obtain⟨d,e1,e2⟩:=Ztn hk hz h2 hf
   exact⟨d,by simp only[Zdi,ZaH hk h1.1 hb,e1],e2⟩
theorem Zrv{z}{dz}(hz:VR η z dz){ok}{r}{r'}(h:match r,r' with|some v,sO d=>VR η v d|none,nO=>True|_,_=>False):VR η (Zqd z ok r) (Y8 dz ok r'):=by
 cases r<;>cases r'<;>simp only at h<;>cases ok<;>simp only[Zqd,Y8,if_true,if_false,ZE3]
 ·exact hz
 ·exact .tup _ _ (.cons _ _ _ _ hz (.one (.bool _)))
 ·exact h
 ·exact .tup _ _ (.cons _ _ _ _ h (.one (.bool _)))
end
def WR(η:Nm)(L:Loc):W→E→Prop
 |.v x,e=>∃d,VR η x d∧(e=.d d∨e=.when true (.d d))
 |.loc l o,e=>e=.loc l o∨e=.when true (.loc l o)
 |.skip,e=>e=.when false (.d (.bool false))
def live(_:Loc):W→Bool
 |.loc _ _=>false
 |_=>true
def Z0(η:Nm)(L:Loc)(ρ:T W)(ρd:Env):Prop:=∀t w,ρ.get t=sO w→live L w=true→∃e,ZH ρd t=sO e∧WR η L w e
theorem Z0.anyL{η L L' ρ ρd}(h:Z0 η L ρ ρd):Z0 η L' ρ ρd:=fun t w hw hl=>by
 cases w with
 |v x=>exact h t _ hw rfl
 |loc l o=>cases hl
 |skip=>exact h t _ hw rfl
structure Px extends Cx where
 t:St
instance:Coe Px Cx:=⟨Px.toCx⟩
inductive OR(C:Cx)(η:Nm)(k0:Nat):O→W4→Prop where
 |cells (vs:List V) (ds ex:List D) (h:VRs η vs ds):OR C η k0 (.cells vs) (.cells (ds++ex))
 |buf (vs:List V) (ds ex:List D) (h:VRs η vs ds) (hc:η (k0+1)=some (.tip (ds++ex).length)):OR C η k0 (.buf vs) (.cells (ds++ex))
 |map (es:List (V×V)) (ds:List (D×D)) (h:ZG (MR η) es ds):OR C η k0 (.map es) (.map ds)
 |tok (n:Nat):OR C η k0 (.tok n) (.tip n)
 |mapE (kp:KP) (es:List (V×V)) (ds:List (D×D)) (k:V) (dk:D) (n m:Nat) (h:ZG (MR η) es ds) (hk:VR η k dk) (hn:η n=some (.tip m)):OR C η k0 (.mapE kp es k n) (.mapE kp ds dk m)
 |dfr:OR C η k0 .dfr .dfr
 |ro (o:O) (d:W4) (h:OR C η k0 o d) (hr:Zbk o=false) (hk:∀n,o≠.tok n):OR C η k0 (.ro o) d
 |loop (f:FuncId) (n:Nat) (ps:List Nat) (a b:DC) (ρ:T W) (st:Option DC) (busy:Bool) (r:Zbt) (lst:LSt) (hf:r.fn=f) (hn:r.N=n) (hps:r.params=ps) (hlt:∀t∈ps,t<n)
   (ha:cc C.P (C.an f) n r.assign=some a) (hb:cc C.P (C.an f) n r.body=some b) (hρ:Z0 η [] ρ r.ρ)
   (hst:match st,busy,lst with
    |none,false,.ready=>True
    |none,true,.busy=>True
    |some dj,false,.done j=>cc C.P (C.an f) n j=some dj
    |_,_,_=>False):OR C η k0 (.loop f n ps a b ρ st busy) (.loop r lst)
structure Sim(C:Px)(η:Nm)(σ:S)(s:St):Prop where
 obj:∀k o,σ.get k=some o→∃t,η k=some t∧((∃b d,t=.tip b∧s b=some d∧OR C η k o d)∨(∃n,o=.tok n∧t=.full))
 inj:∀k k' o o' b,σ.get k=some o→σ.get k'=some o'→η k=some (.tip b)→η k'=some (.tip b)→k=k'
 kp:∀b d,C.t b=some d→s b=some d∧∀k o,σ.get k=some o→Zbk o=false→η k≠some (.tip b)
 ro:∀k o b,σ.get k=some (.ro o)→η k=some (.tip b)→∃d,C.t b=some d
theorem WR.mono{η η' L}(h:η.Sub η'){w e}(x:WR η L w e):WR η' L w e:=by
 cases w with
 |v v=>obtain⟨d,h1,h2⟩:=x;exact⟨d,h1.mono h,h2⟩
 |_=>exact x
theorem Z0.mono{η η' L}(h:η.Sub η'){ρ ρd}(x:Z0 η L ρ ρd):Z0 η' L ρ ρd:=fun t w hw hl=>by
 obtain⟨e,h1,h2⟩:=x t w hw hl
 exact⟨e,h1,h2.mono h⟩
theorem OR.mono{C η η'}(h:η.Sub η'){k0 o d}(x:OR C η k0 o d):OR C η' k0 o d:=by
 induction x with
 |cells vs ds ex h1=>exact .cells vs ds ex (h1.mono h)
 |buf vs ds ex h1 hc=>exact .buf vs ds ex (h1.mono h) (h _ _ hc)
 |map es ds h1=>exact .map es ds (h1.imp fun _ _ m=>m.mono h)
 |tok n=>exact .tok n
 |mapE kp es ds k dk n m h1 hk hn=>exact .mapE kp es ds k dk n m (h1.imp fun _ _ m=>m.mono h) (hk.mono h) (h _ _ hn)
 |dfr=>exact .dfr
 |ro o d h1 hr hk ih=>exact .ro o d ih hr hk
 |loop f n ps a b ρ st busy r lst hf hn hps hlt ha hb hρ hst=>exact .loop f n ps a b ρ st busy r lst hf hn hps hlt ha hb (hρ.mono h) hst
theorem Sim.name{C η η' σ s}(x:Sim C η σ s)(hs:η.Sub η'){k o}(h:σ.get k=sO o){t}(e:η' k=sO t):η k=sO t:=by
 obtain⟨t0,h0,_⟩:=x.obj k o h
 rw[hs _ _ h0]at e
 rw[h0,e]
theorem Sim.mono{C:Px}{η η':Nm}(h:η.Sub η'){σ:S}(x:Sim C η σ s):Sim C η' σ s:={
 obj k o hk:=by
  obtain⟨t,h1,h2⟩:=x.obj k o hk
  refine⟨t,h _ _ h1,h2.imp (fun⟨b,d,a1,a2,a3⟩=>⟨b,d,a1,a2,a3.mono h⟩) id⟩
 inj k k' o o' b hk hk' e e':=x.inj k k' o o' b hk hk' (x.name h hk e) (x.name h hk' e')
 kp b d hb:=⟨(x.kp b d hb).1,fun k o hk hr e=>(x.kp b d hb).2 k o hk hr (x.name h hk e)⟩
 ro k o b hk e:=x.ro k o b hk (x.name h hk e) }
section
variable {C:Px} {η:Nm} {σ:S} {s:St}
theorem Sim.get(x:Sim C η σ s){k o}(h:σ.get k=sO o)(ho:∀n,o≠.tok n):∃b d,η k=sO (.tip b)∧s b=sO d∧OR C η k o d:=by
 obtain⟨t,h1,⟨b,d,rfl,a1,a2⟩|⟨n,rfl,_⟩⟩:=x.obj k o h
 ·exact⟨b,d,h1,a1,a2⟩
 ·exact absurd rfl (ho n)
theorem OR.cellsO{C k0 o d vs}(h:OR C η k0 o d)(hc:cellsO o=sO vs):∃ds ex,d=.cells (ds++ex)∧VRs η vs ds:=by
 have key:∀{o:O} {d:W4},OR C η k0 o d→(o=.cells vs∨o=.buf vs)→∃ds ex,d=.cells (ds++ex)∧VRs η vs ds:=fun{o d} h ho=>by
  rcases ho with rfl|rfl
  ·cases h with
   |cells vs ds ex h=>exact⟨ds,ex,rfl,h⟩
  ·cases h with
   |buf vs ds ex h=>exact⟨ds,ex,rfl,h⟩
 cases o<;>simp[Go.DL.cellsO]at hc
 ·subst hc;exact key h (.inl rfl)
 ·subst hc;exact key h (.inr rfl)
 ·rename_i o
  cases h with
  |ro _ _ h _ _ =>
   cases o<;>simp at hc
   ·subst hc;exact key h (.inl rfl)
   ·subst hc;exact key h (.inr rfl)
theorem Zt6{o vs}(h:cellsO o=sO vs)(n):o≠.tok n:=fun e=>by subst e;cases h
theorem Sim.cells(x:Sim C η σ s){k b vs}(h:JM (σ.get k)=sO vs)(hb:η k=sO (.tip b)):∃ds ex,s b=sO (.cells (ds++ex))∧VRs η vs ds:=by
 cases hk:σ.get k with
 |none=>rw[hk]at h;cases h
 |some o =>
  rw[hk]at h
  obtain⟨b',d,h1,h2,h3⟩:=x.get hk (Zt6 h)
  rw[hb]at h1
  cases h1
  obtain⟨ds,ex,rfl,h4⟩:=h3.cellsO h
  exact⟨ds,ex,h2,h4⟩
theorem Sim.map(x:Sim C η σ s){k b es}(h:σ.get k=sO (.map es))(hb:η k=sO (.tip b)):∃ds,s b=sO (.map ds)∧ZG (MR η) es ds:=by
 obtain⟨b',d,h1,h2,h3⟩:=x.get h (fun n=>by simp)
 rw[hb]at h1
 cases h1
 cases h3 with
 |map es ds h=>exact⟨ds,h2,h⟩
theorem Sim.mapO(x:Sim C η σ s){k b es}(h:mapO (σ.get k)=sO es)(hb:η k=sO (.tip b)):∃ds,s b=sO (.map ds)∧ZG (MR η) es ds:=by
 cases hk:σ.get k with
 |none=>rw[hk]at h;cases h
 |some o =>
  rw[hk]at h
  cases o<;>simp[Go.DL.mapO]at h
  ·subst h;exact x.map hk hb
  ·rename_i o
   cases o<;>cases h
   obtain⟨b',d,h1,h2,h3⟩:=x.get hk (fun n=>by simp)
   rw[hb]at h1
   cases h1
   cases h3 with
   |ro _ _ h3 _ _=>cases h3 with
    |map es ds h=>exact⟨ds,h2,h⟩
theorem Ztq{σ:S}{k k' o}(h:(σ.set nO k).get k'=sO o):k'≠k∧σ.get k'=sO o:=by
 rcases T.get_set h with ⟨_,h'⟩|⟨h0,h'⟩
 ·simp at h'
 ·exact⟨h0,h'⟩
theorem Sim.subT{σ':S}(x:Sim C η σ s)(h:∀k o,σ'.get k=sO o→σ.get k=sO o):Sim C η σ' s:={
 obj k o hk:=x.obj k o (h k o hk)
 inj k k' o o' b hk hk':=x.inj k k' o o' b (h _ _ hk) (h _ _ hk')
 kp b d hb:=⟨(x.kp b d hb).1,fun k o hk=>(x.kp b d hb).2 k o (h _ _ hk)⟩
 ro k o b hk:=x.ro k o b (h _ _ hk) }
theorem Sim.forget(x:Sim C η σ s)(k):Sim C η (σ.set nO k) s:=x.subT fun _ _ h=>(Ztq h).2
theorem Sim.upd(x:Sim C η σ s){k b:Nat}{o o':O}{d:W4}(h:σ.get k=sO o)(hb:η k=sO (.tip b))(ho:OR C η k o' d)(hr:Zbk o=false:=by rfl)(hr':Zbk o'=false:=by rfl):Sim C η (σ.set (sO o') k) (s.upd b d) where
 obj k' o1 h':=by
  rcases T.get_set h' with ⟨rfl,h1⟩|⟨hne,h1⟩
  ·cases h1
   exact⟨_,hb,.inl ⟨b,d,rfl,ZEI s b d,ho⟩⟩
  ·obtain⟨t,e1,⟨b',d',rfl,e2,e3⟩|e2⟩:=x.obj k' o1 h1
   ·refine⟨_,e1,.inl ⟨b',d',rfl,?_,e3⟩⟩
    have:b'≠b:=fun hbb=>hne (x.inj k' k _ _ b h1 h (by rw[←hbb];exact e1) hb)
    rw[ZEJ s d this];exact e2
   ·exact⟨t,e1,.inr e2⟩
 inj k1 k2 o1 o2 b' h1 h2 e1 e2:=by
  have:∀k' o1,(σ.set (sO o') k).get k'=sO o1→∃o,σ.get k'=sO o:=fun k' o1 h'=>by
   rcases T.get_set h' with ⟨rfl,_⟩|⟨_,h'⟩
   ·exact⟨_,h⟩
   ·exact⟨_,h'⟩
  obtain⟨p1,q1⟩:=this _ _ h1
  obtain⟨p2,q2⟩:=this _ _ h2
  exact x.inj k1 k2 p1 p2 b' q1 q2 e1 e2
 kp c e hc:=by
  obtain⟨h1,h2⟩:=x.kp c e hc
  have:c≠b:=fun ec=>h2 k o h hr (by rw[ec];exact hb)
  refine⟨by rw[ZEJ s d this];exact h1,fun k' o1 h' hr1=>?_⟩
  rcases T.get_set h' with ⟨rfl,_⟩|⟨_,h'⟩
  ·exact h2 _ o h hr
  ·exact h2 k' o1 h' hr1
 ro k' o1 b' h' e:=by
  rcases T.get_set h' with ⟨rfl,h1⟩|⟨_,h'⟩
  ·cases h1;simp[Zbk]at hr'
  ·exact x.ro k' o1 b' h' e
end
def Nm.put(η:Nm)(k:Nat)(t:Tok):Nm:=fun k'=>if k'=k then sO t else η k'
theorem Nm.put_sub{η:Nm}{k}(h:η k=nO)(t):η.Sub (η.put k t):=fun k' t' hk=>by
 have:k'≠k:=fun e=>by rw[e,h]at hk;grind
 simp[Nm.put,this,hk]
theorem Nm.put_same(η:Nm)(k t):(η.put k t) k=sO t:=by simp[Nm.put]
structure Yo(η:Nm)(nx:Nat):Prop where
 z:η 0=some .none
 o:η 1=some .full
 two:2≤nx
 free:∀k,nx≤k→η k=none
theorem Yo.put{η:Nm}{nx:Nat}(h:Yo η nx)(t:Tok):Yo (η.put nx t) (nx+1):={
 z:=by have:=h.two;simp[Nm.put];rw[if_neg (by omega)];exact h.z
 o:=by have:=h.two;simp[Nm.put];rw[if_neg (by omega)];exact h.o
 two:=by have:=h.two;omega
 free k hk:=by simp[Nm.put];rw[if_neg (by omega)];exact h.free k (by omega) }
section
variable {C:Px} {η:Nm} {σ:S} {s:St}
theorem Sim.fresh(x:Sim C η σ s){b}(hb:s b=nO){k o}(h:σ.get k=sO o):η k≠sO (.tip b):=fun e=>by
 obtain⟨t,h1,⟨b',d,rfl,h2,_⟩|⟨n,_,rfl⟩⟩:=x.obj k o h
 ·rw[e]at h1
  cases h1
  rw[hb]at h2;grind
 ·rw[e]at h1;grind
theorem Sim.new(x:Sim C η σ s){nx}(hn:η nx=nO){b}(hb:s b=nO){o d}(ho:OR C (η.put nx (.tip b)) nx o d)(hr:Zbk o=false:=by rfl):Sim C (η.put nx (.tip b)) (σ.set (sO o) nx) (s.upd b d):=by
 have hsub:=Nm.put_sub hn (.tip b)
 have x':=x.mono hsub
 refine⟨fun k o1 h=>?_,fun k1 k2 o1 o2 b' h1 h2 e1 e2=>?_,fun c e hc=>?_,fun k o1 c h e=>?_⟩
 ·rcases T.get_set h with ⟨rfl,h1⟩|⟨hne,h1⟩
  ·cases h1
   exact⟨_,Nm.put_same _ _ _,.inl ⟨b,d,rfl,ZEI s b d,ho⟩⟩
  ·obtain⟨t,e1,⟨b',d',rfl,e2,e3⟩|e2⟩:=x'.obj k o1 h1
   ·refine⟨_,e1,.inl ⟨b',d',rfl,?_,e3⟩⟩
    have:b'≠b:=fun hbb=>by rw[hbb,hb]at e2;grind
    rw[ZEJ s d this];exact e2
   ·exact⟨t,e1,.inr e2⟩
 ·have key:∀k o1 b',(σ.set (sO o) nx).get k=sO o1→(η.put nx (.tip b)) k=sO (.tip b')→k≠nx→σ.get k=sO o1∧η k=sO (.tip b'):=fun k o1 b' h e hne=>by
   rcases T.get_set h with ⟨rfl,_⟩|⟨_,h⟩
   ·exact absurd rfl hne
   ·exact⟨h,by simpa[Nm.put,hne]using e⟩
  by_cases c1:k1=nx<;>by_cases c2:k2=nx
  ·simp_all
  ·exfalso
   obtain⟨q1,q2⟩:=key k2 o2 b' h2 e2 c2
   rw[c1,Nm.put_same]at e1
   cases e1
   exact x.fresh hb q1 q2
  ·exfalso
   obtain⟨q1,q2⟩:=key k1 o1 b' h1 e1 c1
   rw[c2,Nm.put_same]at e2
   cases e2
   exact x.fresh hb q1 q2
  ·obtain⟨q1,q2⟩:=key k1 o1 b' h1 e1 c1
   obtain⟨q3,q4⟩:=key k2 o2 b' h2 e2 c2
   exact x.inj k1 k2 o1 o2 b' q1 q3 q2 q4
 ·obtain⟨h1,h2⟩:=x'.kp c e hc
  have hcb:c≠b:=fun ec=>by rw[ec,hb]at h1;grind
  refine⟨by rw[ZEJ s d hcb];exact h1,fun k o1 h hr1 e1=>?_⟩
  rcases T.get_set h with ⟨rfl,_⟩|⟨_,h⟩
  ·rw[Nm.put_same]at e1
   simp at e1
   exact hcb e1.symm
  ·exact h2 k o1 h hr1 e1
 ·rcases T.get_set h with ⟨rfl,h1⟩|⟨_,h⟩
  ·cases h1;cases hr
  ·exact x'.ro k o1 c h e
end
section
variable {η:Nm} {L:Loc} {ρ:T W} {ρd:Env}
theorem Zyz{x v}(h:wV x=sO v):x=sO (.v v):=by
 unfold wV at h
 split at h
 ·split at h<;>cases h;rfl
 ·grind
theorem Ko(hρ:Z0 η L ρ ρd){x v}(h:(YI x).run ρ=sO v):∃p d,ZC ρd true x=sO (p,.d d)∧p∧VR η v d:=by
 cases x with
 |cst d =>
  simp[YI]at h
  split at h<;>cases h
  exact⟨True,d,rfl,trivial,Zgs ‹_›⟩
 |tmp t =>
  obtain⟨e,h1,d,h2,rfl|rfl⟩:=hρ t _ (Zyz h) rfl
  ·exact⟨True,d,by simp[ZC,h1],trivial,h2⟩
  ·exact⟨True→True,d,by simp[ZC,h1],fun _=>trivial,h2⟩
theorem Zal(hρ:Z0 η L ρ ρd):∀{xs vs},(ZbP xs).run ρ=sO vs→∃p ds,Z2 ρd true xs=sO (p,ds.map .d)∧p∧VRs η vs ds
 | [],vs,h=>by
  cases h
  exact⟨True,[],rfl,trivial,.nil⟩
 |x::xs,vs,h=>by
  simp[ZbP]at h
  split at h<;>(try(grind;done))
  rename_i v h1
  split at h<;>simp at h
  rename_i vs' h2
  subst h
  obtain⟨p,d,a1,a2,a3⟩:=Ko hρ h1
  obtain⟨q,ds,b1,b2,b3⟩:=Zal hρ h2
  exact⟨p∧q,d::ds,by simp[Z2,a1,b1],⟨a2,b2⟩,.cons _ _ _ _ a3 b3⟩
theorem Zap:∀(ds),W6 (ds.map .d)=sO ds
 | []=>rfl
 |d::ds=>by simp[W6,Zap ds]
theorem Zo5(hρ:Z0 η L ρ ρd){g b}(h:(ZiD g).run ρ=sO b):Zk ρd g=sO b:=by
 cases g with
 |none=>simpa[ZiD,Zk]using h
 |some x =>
  obtain⟨t,want⟩:=x
  simp[ZiD]at h
  split at h<;>(try(grind;done))
  rename_i w hw
  cases w with
  |v x =>
   obtain⟨e,h1,h2⟩:=hρ t _ hw rfl
   cases x<;>cases h
   obtain⟨d,h3,rfl|rfl⟩:=h2<;>cases h3
   ·simp[Zk,h1]
   ·simp[Zk,h1]
  |loc l o=>grind
  |skip =>
   obtain⟨e,h1,h2⟩:=hρ t _ hw rfl
   cases h
   have h2':e=.when false (.d (.bool false)):=h2
   subst h2'
   simp[Zk,h1]
theorem Jo(hρ:Z0 η L ρ ρd){w e}(hw:WR η L w e)(dst):Z0 η L ((Zb3 dst).run ρ w) (Zv ρd dst e):=by
 cases dst with
 |none=>exact hρ
 |some t =>
  intro t' w' h hl
  rcases T.get_set (t:=ρ) (x:=sO w) (k:=t) h with ⟨rfl,h1⟩|⟨hne,h1⟩
  ·cases h1
   exact⟨e,by simp[Zv,ZH],hw⟩
  ·obtain⟨e',h2,h3⟩:=hρ t' w' h1 hl
   exact⟨e',by simp[Zv,ZH];rw[if_neg (Ne.symm hne)];exact h2,h3⟩
theorem Zwk(hρ:Z0 η L ρ ρd){x c}(h:(ZiP x).run ρ=true)(hc:c=false):∃p z,ZC ρd c x=sO (p,.d (.bool z))∧p:=by
 subst hc
 cases x with
 |cst d =>
  cases d<;>cases h
  exact⟨True,_,rfl,trivial⟩
 |tmp t =>
  simp[ZiP]at h
  split at h<;>(try(grind;done))
  rename_i w hw
  cases w with
  |v x =>
   obtain⟨e,h1,h2⟩:=hρ t _ hw rfl
   cases x<;>cases h
   obtain⟨d,h3,rfl|rfl⟩:=h2<;>cases h3
   ·exact⟨True,_,by simp[ZC,h1];rfl,trivial⟩
   ·exact⟨_,_,by simp only[ZC,h1];rfl,fun h=>by simp at h⟩
  |loc l o=>grind
  |skip =>
   obtain⟨e,h1,h2⟩:=hρ t _ hw rfl
   have h2':e=.when false (.d (.bool false)):=h2
   subst h2'
   exact⟨_,_,by simp only[ZC,h1];rfl,fun h=>by simp at h⟩
end
theorem WH{vs f v}(h:a1 vs f=sO v):∃x,vs=[x]∧f x=sO v:=by
 unfold a1 at h
 split at h
 ·exact⟨_,rfl,h⟩
 ·grind
theorem ZcU{vs f v}(h:a2 vs f=sO v):∃x y,vs=[x,y]∧f x y=sO v:=by
 unfold a2 at h
 split at h
 ·exact⟨_,_,rfl,h⟩
 ·grind
theorem Zw{α b}{r:Option α}{v:α}(h:noV b r=sO v):b=true∧r=sO v:=by
 cases b<;>simp[noV]at h
 exact⟨rfl,h⟩
theorem Zby{i n r v}(h:Zff i n r=sO v):0≤i∧i<n∧r=sO v:=by
 unfold Zff at h
 split at h<;>(try(grind;done))
 rename_i hb
 simp[Zgq]at hb
 exact⟨hb.1,by omega,h⟩
theorem JW{a b}:Nat.ble a b=true↔a≤b:=by rw[Nat.ble_eq]
theorem ZZ{a b}:Nat.beq a b=true↔a=b:=by rw[Nat.beq_eq]
theorem Jk{a b}:leI a b=true↔a≤b:=by rw[Zgq,decide_eq_true_eq]
theorem QH{a b}:eqI a b=true↔a=b:=by rw[Ziu,decide_eq_true_eq]
theorem isub(a b):Int.sub a b=a-b:=rfl
section
variable {C:Px} {η:Nm} {σ:S} {s:St} {L:Loc}
theorem Zdz{b f v}(h:Zih σ b f=sO v):∃cs,JM (σ.get b)=sO cs∧f cs=sO v:=by
 unfold Zih at h
 split at h
 ·rename_i hg;exact⟨_,hg,h⟩
 ·grind
theorem ZgV(hS:Sim C η σ s){k b cs}(h:JM (σ.get k)=sO cs)(hb:η k=sO (.tip b)):∃ds ex,Z5 s b=sO (ds++ex)∧VRs η cs ds:=by
 obtain⟨ds,ex,h1,h2⟩:=hS.cells h hb
 exact⟨ds,ex,by simp[Z5,h1],h2⟩
theorem Zgo{cs ds}(ex)(h:VRs η cs ds){o v}(hv:Zg9 o cs=sO v):∃d,(ds++ex)[o]?=sO d∧VR η v d:=by
 rw[ZjW]at hv
 obtain⟨d,h1,h2⟩:=h.get hv
 refine⟨d,?_,h2⟩
 rw[ZE7 (List.getElem?_eq_some_iff.1 h1).1];exact h1
theorem ZrO{ds ex o n}(h:o+n≤ds.length):part (ds++ex) o n=part ds o n:=by
 unfold part
 rw[List.drop_append_of_le_length (by omega),List.take_append_of_le_length (by simp;omega)]
theorem ZkY{ds ex ys o}(h:o+ys.length≤ds.length):Zu (ds++ex) o ys=Zu ds o ys++ex:=by
 unfold Zu
 rw[List.take_append_of_le_length (by omega),List.drop_append_of_le_length (by omega),ZE9,ZE9,ZE9]
theorem Zkc{cs ds}(ex)(h:VRs η cs ds){o n v}(hv:Zjz cs o n=sO v):o+n≤(ds++ex).length∧VR η v (.agg (part (ds++ex) o n)):=by
 unfold Zjz at hv
 split at hv<;>simp at hv
 rename_i r hr
 subst hv
 obtain⟨h1,h2⟩:=h.partv hr
 exact⟨by simp;omega,by rw[ZrO h1];exact .agg _ _ h2⟩
theorem Za1:∀{bs vs ds r},VRs η vs ds→JJ bs vs=sO r→Wx bs (ds.map .d)=sO r
 | [],vs,ds,r,hv,h=>by
  cases vs with
  |nil=>obtain rfl:=hv.inv0;simpa[JJ,Wx]using h
  |cons v vs=>cases h
 |true::bs,vs,ds,r,hv,h=>by
  cases vs with
  |nil=>cases h
  |cons v vs =>
   obtain⟨d,ds',rfl,h1,h2⟩:=hv.inv
   cases h1<;>simp[JJ]at h
   obtain⟨q,hq,rfl⟩:=h
   simp[Wx,Za1 h2 hq]
 |false::bs,vs,ds,r,hv,h=>by
  simp[JJ]at h
  obtain⟨q,hq,rfl⟩:=h
  simp[Wx,Za1 hv hq]
theorem ZzG{t n τ}(h1:η 1=sO .full)(ht:t=0∨η t=sO τ){l h mx}:Zvh t n l h mx=0∨η (Zvh t n l h mx)=sO (Zbf τ n l h mx):=by
 unfold Zvh Zbf
 cases mx with
 |some m =>
  simp only[QH]
  split
  ·exact .inr h1
  ·exact .inl rfl
 |none =>
  simp only[QH,ZZ]
  split
  ·split
   ·rename_i ht1
    subst ht1
    rcases ht with h|h
    ·simp at h
    ·rw[h1]at h
     cases h;exact .inr h1
   ·split
    ·rcases ht with h|h
     ·exact .inl h
     ·refine .inr ?_
      cases τ<;>simp_all
    ·exact .inl rfl
  ·exact .inl rfl
theorem ZwG(h1:η 1=sO .full){z lo hi mx x v d}(hx:VR η x d)(h:Zr8 z lo hi mx x=sO v):∃side r,ZaC z lo hi mx d=sO (side,r)∧side∧VR η v r:=by
 cases hx<;>simp only[Zr8,reduceCtorEq]at h
 case nilsl =>
  split at h<;>simp only[ZEz,reduceCtorEq]at h
  rename_i hc
  subst h
  simp only[ZEK,QH]at hc
  exact⟨_,_,rfl,⟨hc.1.1,hc.1.2,hc.2⟩,.nilsl⟩
 case sl t n s rs τ row hr hn ht =>
  split at h<;>(try(simp at h;done))
  rename_i hc
  split at h<;>simp only[ZEz,reduceCtorEq]at h
  rename_i r hr'
  subst h
  simp only[ZEK,ZZ,Jk]at hc
  obtain⟨⟨⟨⟨rfl,c1⟩,c2⟩,c3⟩,c4⟩:=hc
  rw[Q4]at hr'
  obtain⟨l1,rfl⟩:=JO hr'
  simp only[ZaC,if_true]
  refine⟨_,_,rfl,⟨c1,c2,c3,fun m hm=>?_⟩,?_⟩
  ·subst hm
   simp only[ZAj,ZEK,Jk]at c4
   exact c4
  ·refine .sl _ _ _ _ _ _ ((hr.drop (lo.getD 0).toNat).take _) ?_ (ZzG h1 ht)
   rw[ZEU]
   exact Nat.min_eq_left l1
 case msl k b o n cap s hb =>
  split at h<;>(try(simp at h;done))
  rename_i hc
  split at h<;>simp only[ZEz,reduceCtorEq]at h
  rename_i hc2
  subst h
  simp only[ZEK,ZZ,Jk]at hc hc2
  obtain⟨⟨rfl,c1⟩,c2⟩:=hc
  simp only[ZaC,if_true]
  refine⟨_,_,rfl,⟨c1,c2,hc2.1,hc2.2⟩,?_⟩
  by_cases he:mx.getD (cap:Int)=lo.getD 0
  ·rw[if_pos he,if_pos (QH.2 he)];exact .msl _ _ _ _ _ _ hb
  ·rw[if_neg he,if_neg (fun h=>he (QH.1 h))];exact .msl _ _ _ _ _ _ hb
 case gsl k b o n cap s c hb hb2 hcap hl =>
  split at h<;>(try(simp at h;done))
  rename_i hc
  split at h<;>(try(simp at h;done))
  rename_i hc2
  simp[Jk,QH,Zgq]at hc hc2
  obtain⟨⟨rfl,c1⟩,c2⟩:=hc
  obtain⟨c3,c4⟩:=hc2
  simp only[ZaC,if_true]
  cases mx with
  |none =>
   cases h
   refine⟨_,_,rfl,⟨c1,c2,by simp only[Option.getD_none];omega,by simp⟩,?_⟩
   simp only[Option.getD_none]
   by_cases he:(cap:Int)=lo.getD 0
   ·rw[if_pos he]
    rcases c4 with c4|c4
    ·rw[c4]at he⊢
     simp only[Int.toNat_zero,Nat.zero_mul,Nat.add_zero]
     exact .gsl _ _ _ _ _ _ c hb hb2 (by rw[isub];omega) (by have:=Nat.le_trans (Nat.le_add_right o (cap*s)) hl;rw[he];simpa using this)
    ·omega
   ·rw[if_neg he]
    refine .gsl _ _ _ _ _ _ c hb hb2 (by rw[isub];omega) ?_
    have e:(lo.getD 0).toNat+((cap:Int)-lo.getD 0).toNat=cap:=by omega
    calc o+(lo.getD 0).toNat*s+((cap:Int)-lo.getD 0).toNat*s=o+((lo.getD 0).toNat+((cap:Int)-lo.getD 0).toNat)*s:=by rw[ZE2];omega
     _=o+cap*s:=by rw[e]
     _≤c:=hl
  |some m =>
   simp only at h
   split at h<;>simp at h
   rename_i hc3
   simp only[ZEK,Jk]at hc3
   subst h
   refine⟨_,_,rfl,⟨c1,c2,by simpa using hc3.1,by simp only[ZFe];omega⟩,?_⟩
   simp only[ZFe]
   by_cases he:m=lo.getD 0
   ·rw[if_pos he,if_pos (QH.2 he)];exact .msl _ _ _ _ _ _ hb
   ·rw[if_neg he,if_neg (fun h=>he (QH.1 h))];exact .msl _ _ _ _ _ _ hb
theorem Zrf:∀{cells ps vs r cds ds},VRs η cells cds→VRs η vs ds→Zp8 cells ps vs=sO r→∃rd,Zba cds ps ds=sO rd∧VRs η r rd
 |cells,[],vs,r,cds,ds,hc,hv,h=>by
  cases vs with
  |nil =>
   obtain rfl:=hv.inv0
   cases h
   exact⟨_,rfl,hc⟩
  |cons v vs=>cases h
 |cells,(o,n)::ps,vs,r,cds,ds,hc,hv,h=>by
  cases vs with
  |nil=>cases h
  |cons v vs =>
   obtain⟨d,ds',rfl,h1,h2⟩:=hv.inv
   simp only[Zp8]at h
   split at h<;>(try(grind;done))
   rename_i hp
   split at h<;>(try(grind;done))
   rename_i cs hcs
   have hcell:VRs η (ZeZ v) (cellsOf d):=by
    cases h1<;>first|exact .one (by constructor<;>assumption)|assumption
   have hpart:W1 d=true:=by
    cases h1<;>first|rfl|cases hp
   obtain⟨e0,e1,e2⟩:=hc.over hcell hcs
   obtain⟨rd,e3,e4⟩:=Zrf e2 h2 h
   refine⟨rd,?_,e4⟩
   simp only[Zba]
   rw[if_pos ⟨hpart,by rw[←hcell.len,e0],e1⟩]
   exact e3
theorem Zpe{b o n cap cs r ds ex l}(e0:Z5 s b=sO (ds++ex))(e1:VRs η cs ds)(hle:o+n≤cs.length)(hr:ZaP n (Za9 o cs)=sO r)(hl:Zl8 r=sO l):
  ∃side d,qv L s (.conv .b2s) ([D.msl b o n cap 1].map .d)=sO (side,.d d)∧side∧VR η (.str l) d:=by
 rw[Q4]at hr
 obtain⟨l1,rfl⟩:=JO hr
 have hlen:o+n≤ds.length:=by rw[←e1.len];exact hle
 obtain⟨i1,i2⟩:=((e1.drop o).take n).bytes hl
 have hn:((cs.drop o).take n).length=n:=by rw[ZEU];exact Nat.min_eq_left l1
 rw[hn]at i1 i2
 have hp:∀i,i<n→part (ds++ex) (o+i) 1=part ((ds.drop o).take n) i 1:=fun i hi=>by
  rw[ZrO (by omega)]
  unfold part
  rw[List.drop_take,List.take_take,List.drop_drop]
  congr 1;omega
 refine⟨o+n≤(ds++ex).length∧∀i,i<n→Zn5 (part (ds++ex) (o+i) 1),.str ((ZEO n).map fun i=>Zch (part (ds++ex) (o+i) 1)),by simp[qv,e0],⟨by simp;omega,fun i hi=>by rw[hp i hi];exact i1 i hi⟩,?_⟩
 have:((ZEO n).map fun i=>Zch (part (ds++ex) (o+i) 1))=l.map UInt8.ofNat:=by
  rw[i2]
  exact List.map_congr_left fun i hi=>by simp_all
 rw[this]
 exact .str _
theorem ZA7(a b):(if leI a b=true then a else b)=Min.min a b:=by simp[Jk];exact(Int.min_def a b).symm
theorem ZA6(a b):(if leI a b=true then b else a)=Max.max a b:=by simp[Jk];exact(Int.max_def a b).symm
theorem ZuQ(hS:Sim C η σ s)(h1:η 1=sO .full){q vs ds}(hv:VRs η vs ds){v}(h:qV q σ vs=sO v):∃side d,qv L s q (ds.map .d)=sO (side,.d d)∧side∧VR η v d:=by
 cases q<;>(try simp only[qV]at h)
 case mv =>
  obtain⟨x,rfl,hh⟩:=WH h;replace h:=hh;clear hh
  obtain⟨d,rfl,hx⟩:=hv.inv1
  simp only[ZEz]at h
  subst h
  exact⟨True,d,rfl,trivial,hx⟩
 case nilck =>
  obtain⟨x,rfl,hh⟩:=WH h;replace h:=hh;clear hh
  obtain⟨d,rfl,hx⟩:=hv.inv1
  cases hx<;>simp only[reduceCtorEq,ZEz]at h<;>subst h
  ·exact⟨True,_,rfl,trivial,by constructor;assumption⟩
  ·exact⟨True,_,rfl,trivial,by constructor;assumption⟩
  ·exact⟨True,_,rfl,trivial,by constructor<;>assumption⟩
  ·exact⟨True,_,rfl,trivial,by constructor;assumption⟩
 case load1 =>
  obtain⟨x,rfl,hh⟩:=WH h;replace h:=hh;clear hh
  obtain⟨d,rfl,hx⟩:=hv.inv1
  cases hx<;>simp only[reduceCtorEq]at h
  case ep cs o ds hc =>
   obtain⟨d,e1,e2⟩:=Zgo [] hc h
   rw[ZFb]at e1
   exact⟨True,d,by simp only[ZEQ,ZE6,qv,YS,e1,ZE4],trivial,e2⟩
  case ptr k b o hb =>
   obtain⟨cs,hg,hh⟩:=Zdz h;replace h:=hh;clear hh
   obtain⟨ds,ex,e0,e1⟩:=ZgV hS hg hb
   obtain⟨d,e2,e3⟩:=Zgo ex e1 h
   exact⟨True,d,by simp only[ZEQ,ZE6,qv,YS,e0,e2,ZE4],trivial,e3⟩
 case loadN n =>
  obtain⟨x,rfl,hh⟩:=WH h;replace h:=hh;clear hh
  obtain⟨d,rfl,hx⟩:=hv.inv1
  cases hx<;>simp only[reduceCtorEq]at h
  case ep cs o ds hc =>
   obtain⟨e1,e2⟩:=Zkc [] hc h
   rw[ZFb]at e1 e2
   exact⟨_,_,by simp only[ZEQ,ZE6,qv,Kc,ZE4]<;>rfl,e1,e2⟩
  case ptr k b o hb =>
   obtain⟨cs,hg,hh⟩:=Zdz h;replace h:=hh;clear hh
   obtain⟨ds,ex,e0,e1⟩:=ZgV hS hg hb
   obtain⟨e2,e3⟩:=Zkc ex e1 h
   exact⟨_,_,by simp only[ZEQ,ZE6,qv,Kc,e0,ZE4]<;>rfl,e2,e3⟩
 case bin op p =>
  obtain⟨x,y,rfl,hh⟩:=ZcU h;replace h:=hh;clear hh
  obtain⟨d,d',rfl,hx,hy⟩:=hv.inv2
  obtain⟨side,r,e1,e2,e3⟩:=Zzm hx hy h
  exact⟨side,r,by simp only[ZEQ,ZE6,qv,e1,ZE4],e2,e3⟩
 case not =>
  obtain⟨x,rfl,hh⟩:=WH h;replace h:=hh;clear hh
  obtain⟨d,rfl,hx⟩:=hv.inv1
  cases hx<;>simp only[reduceCtorEq,ZEz]at h
  subst h
  exact⟨True,_,rfl,trivial,.bool _⟩
 case neg =>
  obtain⟨x,rfl,hh⟩:=WH h;replace h:=hh;clear hh
  obtain⟨d,rfl,hx⟩:=hv.inv1
  cases hx<;>simp only[reduceCtorEq]at h
  obtain⟨rfl,hr⟩:=Zbz h
  exact⟨_,_,rfl,hr,.int _ _⟩
 case xorm =>
  obtain⟨x,rfl,hh⟩:=WH h;replace h:=hh;clear hh
  obtain⟨d,rfl,hx⟩:=hv.inv1
  cases hx<;>simp only[reduceCtorEq,ZEz]at h
  subst h
  exact⟨True,_,rfl,trivial,.int _ _⟩
 case conv c =>
  cases c<;>simp only at h
  case int k =>
   obtain⟨x,rfl,hh⟩:=WH h;replace h:=hh;clear hh
   obtain⟨d,rfl,hx⟩:=hv.inv1
   cases hx<;>simp only[reduceCtorEq,ZEz]at h
   subst h
   simp only[ZEQ,ZE6,qv]
   split
   ·exact⟨True,_,rfl,trivial,.int _ _⟩
   ·exact⟨True,_,rfl,trivial,.int _ _⟩
  case str =>
   obtain⟨x,rfl,hh⟩:=WH h;replace h:=hh;clear hh
   obtain⟨d,rfl,hx⟩:=hv.inv1
   cases hx<;>simp only[reduceCtorEq,ZEz]at h
   subst h
   exact⟨True,_,rfl,trivial,.str _⟩
  case i2s =>
   obtain⟨x,rfl,hh⟩:=WH h;replace h:=hh;clear hh
   obtain⟨d,rfl,hx⟩:=hv.inv1
   cases hx<;>simp only[reduceCtorEq]at h
   obtain⟨hb,hh⟩:=Zw h;replace h:=hh;clear hh
   rw[JW]at hb
   simp only[ZEz]at h
   subst h
   refine⟨_,_,rfl,hb,?_⟩
   have:=VR.str (η:=η) ((Utf8.encode ‹Int›).data.toList.map UInt8.toNat)
   rwa [ZkQ]at this
  case b2s =>
   obtain⟨x,rfl,hh⟩:=WH h;replace h:=hh;clear hh
   obtain⟨d,rfl,hx⟩:=hv.inv1
   cases hx<;>simp only[reduceCtorEq]at h
   case nilsl =>
    simp only[ZEz]at h
    subst h
    exact⟨True,_,rfl,trivial,.str []⟩
   case sl t n z rs τ row hr hn ht =>
    obtain⟨hb,hh⟩:=Zw h;replace h:=hh;clear hh
    rw[ZZ]at hb
    subst hb
    simp only[ZEN]at h
    obtain⟨l,hl,rfl⟩:=h
    obtain⟨e1,e2⟩:=hr.bytes hl
    subst hn
    refine⟨_,_,by simp only[ZEQ,ZE6,qv,if_true]<;>rfl,e1,?_⟩
    rw[←e2];exact .str _
   case msl k b o n cap z hb =>
    obtain⟨hz,hh⟩:=Zw h;replace h:=hh;clear hh
    rw[ZZ]at hz
    subst hz
    obtain⟨cs,hg,hh⟩:=Zdz h;replace h:=hh;clear hh
    obtain⟨ds,ex,e0,e1⟩:=ZgV hS hg hb
    obtain⟨hle,hh⟩:=Zw h;replace h:=hh;clear hh
    rw[JW]at hle
    split at h<;>simp only[reduceCtorEq,ZEN]at h
    rename_i r hr
    obtain⟨l,hl,rfl⟩:=h
    exact Zpe e0 e1 hle hr hl
   case gsl k b o n cap z c hb hb2 hcap hl =>
    obtain⟨hz,hh⟩:=Zw h;replace h:=hh;clear hh
    rw[ZZ]at hz
    subst hz
    obtain⟨cs,hg,hh⟩:=Zdz h;replace h:=hh;clear hh
    obtain⟨ds,ex,e0,e1⟩:=ZgV hS hg hb
    obtain⟨hle,hh⟩:=Zw h;replace h:=hh;clear hh
    rw[JW]at hle
    split at h<;>simp only[reduceCtorEq,ZEN]at h
    rename_i r hr
    obtain⟨l,hl,rfl⟩:=h
    exact Zpe e0 e1 hle hr hl
 case faddr off =>
  obtain⟨x,rfl,hh⟩:=WH h;replace h:=hh;clear hh
  obtain⟨d,rfl,hx⟩:=hv.inv1
  cases hx<;>simp only[reduceCtorEq,ZEz]at h<;>subst h
  ·exact⟨True,_,rfl,trivial,by constructor;assumption⟩
  ·exact⟨True,_,rfl,trivial,by constructor;assumption⟩
 case fld1 off =>
  obtain⟨x,rfl,hh⟩:=WH h;replace h:=hh;clear hh
  obtain⟨d,rfl,hx⟩:=hv.inv1
  cases hx<;>simp only[reduceCtorEq]at h
  rename_i cs ds hc
  obtain⟨d,e1,e2⟩:=Zgo [] hc h
  rw[ZFb]at e1
  exact⟨True,d,by simp only[ZEQ,ZE6,qv,e1,ZE4],trivial,e2⟩
 case fldN off n =>
  obtain⟨x,rfl,hh⟩:=WH h;replace h:=hh;clear hh
  obtain⟨d,rfl,hx⟩:=hv.inv1
  cases hx<;>simp only[reduceCtorEq]at h
  rename_i cs ds hc
  obtain⟨e1,e2⟩:=Zkc [] hc h
  rw[ZFb]at e1 e2
  exact⟨_,_,rfl,e1,e2⟩
 case iaddr z =>
  obtain⟨x,y,rfl,hh⟩:=ZcU h;replace h:=hh;clear hh
  obtain⟨d,d',rfl,hx,hy⟩:=hv.inv2
  cases hy<;>simp only[reduceCtorEq]at h
  cases hx<;>simp only[reduceCtorEq]at h
  case int.sl k i t n z' rs τ row hr hn ht =>
   obtain⟨hz,hh⟩:=Zw h;replace h:=hh;clear hh
   rw[ZZ]at hz
   obtain⟨i0,i1,hh⟩:=Zby h;replace h:=hh;clear hh
   split at h<;>simp only[reduceCtorEq,ZEz]at h
   rename_i cs hcs
   rw[ZjW]at hcs
   obtain⟨cs',e1,e2,_⟩:=hr.get hcs
   simp only[V.agg.injEq]at e1
   subst e1;subst h
   exact⟨_,_,by simp only[ZEQ,ZE6,qv,hz,if_true]<;>rfl,ZEC i0 i1,.ep _ _ _ e2⟩
  case int.msl k i kb b o n cap z' hb =>
   obtain⟨hz,hh⟩:=Zw h;replace h:=hh;clear hh
   rw[ZZ]at hz
   obtain⟨i0,i1,hh⟩:=Zby h;replace h:=hh;clear hh
   simp only[ZEz]at h
   subst h
   exact⟨_,_,by simp only[ZEQ,ZE6,qv,hz,if_true]<;>rfl,ZEC i0 i1,.ptr _ _ _ hb⟩
  case int.gsl k i kb b o n cap z' c hb hb2 hcap hl =>
   obtain⟨hz,hh⟩:=Zw h;replace h:=hh;clear hh
   rw[ZZ]at hz
   obtain⟨i0,i1,hh⟩:=Zby h;replace h:=hh;clear hh
   simp only[ZEz]at h
   subst h
   exact⟨_,_,by simp only[ZEQ,ZE6,qv,hz,if_true]<;>rfl,ZEC i0 i1,.ptr _ _ _ hb⟩
 case iaddrA m z =>
  obtain⟨x,y,rfl,hh⟩:=ZcU h;replace h:=hh;clear hh
  obtain⟨d,d',rfl,hx,hy⟩:=hv.inv2
  cases hy<;>simp only[reduceCtorEq]at h
  cases hx<;>simp only[reduceCtorEq]at h<;>obtain⟨i0,i1,h⟩:=Zby h<;>simp only[ZEz]at h<;>subst h
  ·exact⟨_,_,rfl,ZEC i0 i1,by constructor;assumption⟩
  ·exact⟨_,_,rfl,ZEC i0 i1,by constructor;assumption⟩
 case idxA m z one =>
  obtain⟨x,y,rfl,hh⟩:=ZcU h;replace h:=hh;clear hh
  obtain⟨d,d',rfl,hx,hy⟩:=hv.inv2
  cases hy<;>simp only[reduceCtorEq]at h
  cases hx<;>simp only[reduceCtorEq]at h
  rename_i k i cs ds hc
  obtain⟨i0,i1,hh⟩:=Zby h;replace h:=hh;clear hh
  cases one
  ·simp only[ZE3,if_false]at h
   obtain⟨e1,e2⟩:=Zkc [] hc h
   rw[ZFb]at e1 e2
   exact⟨_,_,rfl,⟨i0,i1,e1⟩,e2⟩
  ·simp only[if_true]at h
   obtain⟨d,e1,e2⟩:=Zgo [] hc h
   rw[ZFb]at e1
   exact⟨_,d,by simp only[ZEQ,ZE6,qv,e1,ZE4]<;>rfl,ZEC i0 i1,e2⟩
 case sliceA m z lo hi mx =>
  cases vs with
  |nil=>simp at h
  |cons x r =>
  obtain⟨d,ds',rfl,hx,hr⟩:=hv.inv
  cases hx<;>simp only[reduceCtorEq]at h
  rename_i k b o hb
  split at h<;>(try(simp at h;done))
  rename_i l hh mm hi'
  obtain⟨hc,hh⟩:=Zw h;replace h:=hh;clear hh
  simp only[ZEz]at h
  subst h
  simp only[ZEK,Jk,JW]at hc
  have e:=Za1 hr hi'
  simp only[ZEQ,qv,e]
  refine⟨_,_,rfl,⟨hc.1.1.1.1,hc.1.1.1.2,hc.1.1.2,hc.1.2,hc.2⟩,?_⟩
  by_cases he:mm.getD (m:Int)=l.getD 0
  ·rw[if_pos he,if_pos (QH.2 he)];exact .msl _ _ _ _ _ _ hb
  ·rw[if_neg he,if_neg (fun h=>he (QH.1 h))];exact .msl _ _ _ _ _ _ hb
 case idxS =>
  obtain⟨x,y,rfl,hh⟩:=ZcU h;replace h:=hh;clear hh
  obtain⟨d,d',rfl,hx,hy⟩:=hv.inv2
  cases hy<;>simp only[reduceCtorEq]at h
  cases hx<;>simp only[reduceCtorEq]at h
  rename_i k i l
  obtain⟨i0,i1,hh⟩:=Zby h;replace h:=hh;clear hh
  simp only[ZEz]at h
  subst h
  refine⟨_,_,rfl,⟨i0,by simpa using i1⟩,?_⟩
  have:(((l.map UInt8.ofNat).getD i.toNat 0).toNat:Int)=Int.ofNat (l.getD i.toNat 0 % 256):=by
   simp only[ZES,List.getElem?_map]
   cases l[i.toNat]?<;>simp
  rw[this]
  exact .int _ _
 case lenS =>
  obtain⟨x,rfl,hh⟩:=WH h;replace h:=hh;clear hh
  obtain⟨d,rfl,hx⟩:=hv.inv1
  cases hx<;>simp only[reduceCtorEq,ZEz]at h
  subst h
  refine⟨True,_,rfl,trivial,?_⟩
  rw[List.length_map];exact .int _ _
 case lenL =>
  obtain⟨x,rfl,hh⟩:=WH h;replace h:=hh;clear hh
  obtain⟨d,rfl,hx⟩:=hv.inv1
  cases hx<;>simp only[reduceCtorEq,ZEz]at h<;>subst h<;>exact⟨True,_,rfl,trivial,.int _ _⟩
 case lenA n =>
  obtain⟨x,rfl,hh⟩:=WH h;replace h:=hh;clear hh
  obtain⟨d,rfl,hx⟩:=hv.inv1
  obtain⟨hb,hh⟩:=Zw h;replace h:=hh;clear hh
  rw[JW]at hb
  simp only[ZEz]at h
  subst h
  exact⟨_,_,rfl,Kz hb,.int _ _⟩
 case ext k =>
  obtain⟨x,rfl,hh⟩:=WH h;replace h:=hh;clear hh
  obtain⟨d,rfl,hx⟩:=hv.inv1
  cases hx<;>simp only[reduceCtorEq]at h
  rename_i cs ds hc
  obtain⟨d,e1,e2⟩:=Zgo [] hc h
  rw[ZFb]at e1
  exact⟨True,d,by simp only[ZEQ,ZE6,qv,e1,ZE4],trivial,e2⟩
 case build zero parts =>
  cases hz:ofDs zero<;>simp only[hz,reduceCtorEq,ZEN]at h
  rename_i z
  obtain⟨r,hr,rfl⟩:=h
  obtain⟨rd,e1,e2⟩:=Zrf (ofDs_ok hz) hv hr
  exact⟨True,_,by simp only[qv,Zap,e1,ZE4]<;>rfl,trivial,.agg _ _ e2⟩
 case mkfn f k =>
  cases f<;>simp only[reduceCtorEq,ZEz]at h
  subst h
  exact⟨True,_,by simp only[qv,Zap,ZE4]<;>rfl,trivial,.fn _ _ _ _ _ (hv.take k) (hv.drop k)⟩
 case mkif t =>
  obtain⟨x,rfl,hh⟩:=WH h;replace h:=hh;clear hh
  obtain⟨d,rfl,hx⟩:=hv.inv1
  simp only[ZEz]at h
  subst h
  exact⟨True,_,rfl,trivial,.iface _ _ _ hx⟩
 case sliceS lo hi =>
  cases vs with
  |nil=>simp at h
  |cons x r =>
  obtain⟨d,ds',rfl,hx,hr⟩:=hv.inv
  cases hx<;>simp only[reduceCtorEq]at h
  rename_i l
  split at h<;>(try(simp at h;done))
  rename_i a b c hi'
  obtain⟨hc,hh⟩:=Zw h;replace h:=hh;clear hh
  simp only[ZEz]at h
  subst h
  simp only[ZEK,Jk]at hc
  have e:=Za1 hr hi'
  simp only[ZEQ,qv,e,List.length_map]
  refine⟨_,_,rfl,⟨hc.1.1,hc.1.2,hc.2⟩,?_⟩
  rw[←List.map_drop,←List.map_take]
  exact .str _
 case slice z lo hi mx =>
  cases vs with
  |nil=>simp at h
  |cons x r =>
  obtain⟨d,ds',rfl,hx,hr⟩:=hv.inv
  simp only at h
  split at h<;>(try(simp at h;done))
  rename_i l hh m hi'
  have e:=Za1 hr hi'
  obtain⟨side,r',e1,e2,e3⟩:=ZwG h1 hx h
  exact⟨side,r',by simp only[ZEQ,qv,e,e1,ZE4],e2,e3⟩
 case min =>
  obtain⟨x,y,rfl,hh⟩:=ZcU h;replace h:=hh;clear hh
  obtain⟨d,d',rfl,hx,hy⟩:=hv.inv2
  cases hx<;>simp only[reduceCtorEq]at h
  cases hy<;>simp only[reduceCtorEq]at h
  obtain⟨hk,hh⟩:=Zw h;replace h:=hh;clear hh
  obtain rfl:=Zet hk
  simp only[ZEz]at h
  subst h
  refine⟨True,_,by simp only[ZEQ,ZE6,qv,if_true]<;>rfl,trivial,?_⟩
  rw[ZA7];exact .int _ _
 case max =>
  obtain⟨x,y,rfl,hh⟩:=ZcU h;replace h:=hh;clear hh
  obtain⟨d,d',rfl,hx,hy⟩:=hv.inv2
  cases hx<;>simp only[reduceCtorEq]at h
  cases hy<;>simp only[reduceCtorEq]at h
  obtain⟨hk,hh⟩:=Zw h;replace h:=hh;clear hh
  obtain rfl:=Zet hk
  simp only[ZEz]at h
  subst h
  refine⟨True,_,by simp only[ZEQ,ZE6,qv,if_true]<;>rfl,trivial,?_⟩
  rw[ZA6];exact .int _ _
 case tassert t ok zero =>
  cases ok<;>simp only at h
  ·obtain⟨x,rfl,hh⟩:=WH h;replace h:=hh;clear hh
   obtain⟨d,rfl,hx⟩:=hv.inv1
   cases hx<;>simp only[reduceCtorEq]at h
   obtain⟨ht,hh⟩:=Zw h;replace h:=hh;clear hh
   rw[ZZ]at ht
   simp only[ZEz]at h
   subst h
   exact⟨True,_,by simp only[ZEQ,ZE6,qv,ht,if_true]<;>rfl,trivial,by assumption⟩
  ·obtain⟨x,rfl,hh⟩:=WH h;replace h:=hh;clear hh
   obtain⟨d,rfl,hx⟩:=hv.inv1
   cases hx<;>simp only[reduceCtorEq]at h
   ·obtain⟨ht,hh⟩:=Zw h;replace h:=hh;clear hh
    rw[ZZ]at ht
    simp only[ZEz]at h
    subst h
    exact⟨True,_,by simp only[ZEQ,ZE6,qv,ht,if_true]<;>rfl,trivial,.tup _ _ (.cons _ _ _ _ ‹_› (.one (.bool _)))⟩
   ·simp only[ZEN]at h
    obtain⟨z,hz,rfl⟩:=h
    exact⟨True,_,rfl,trivial,.tup _ _ (.cons _ _ _ _ (Zgs hz) (.one (.bool _)))⟩
 case lookup kp zero ok =>
  cases hz:ofD zero<;>simp only[hz,reduceCtorEq]at h
  rename_i z
  obtain⟨x,y,rfl,hh⟩:=ZcU h;replace h:=hh;clear hh
  obtain⟨d,d',rfl,hx,hy⟩:=hv.inv2
  obtain⟨hk,hh⟩:=Zw h;replace h:=hh;clear hh
  have hko:=Zfk hy hk
  cases hx<;>simp only[reduceCtorEq]at h
  ·rename_i k b hb
   split at h<;>simp only[reduceCtorEq,ZEN]at h
   rename_i es hes
   obtain⟨r,hr,rfl⟩:=h
   obtain⟨es',e1,e2⟩:=hS.mapO hes hb
   obtain⟨r',e3,e4⟩:=Zri hy e2 hr
   exact⟨_,_,by simp only[ZEQ,ZE6,qv,KA,e1,e3,ZE4]<;>rfl,hko,Zrv (Zgs hz) e4⟩
  ·simp only[ZEz]at h
   subst h
   exact⟨_,_,rfl,hko,Zrv (r':=nO) (Zgs hz) trivial⟩
 case lenM =>
  obtain⟨x,rfl,hh⟩:=WH h;replace h:=hh;clear hh
  obtain⟨d,rfl,hx⟩:=hv.inv1
  cases hx<;>simp only[reduceCtorEq]at h
  ·rename_i k b hb
   split at h<;>(try(simp at h;done))
   rename_i es hes
   obtain⟨hl,hh⟩:=Zw h;replace h:=hh;clear hh
   rw[JW]at hl
   simp only[ZEz]at h
   subst h
   obtain⟨es',e1,e2⟩:=hS.mapO hes hb
   refine⟨_,_,by simp only[ZEQ,ZE6,qv,KA,e1]<;>rfl,by rw[←e2.len];exact hl,?_⟩
   rw[←e2.len];exact .int _ _
  ·simp only[ZEz]at h
   subst h
   exact⟨True,_,rfl,trivial,.int _ _⟩
end
section
variable {C:Px} {η:Nm} {σ:S} {s:St} {L:Loc} {ρ:T W} {ρd:Env} {nx:Nat}
theorem ZwV:∀(l:List Nat) (k),VRr η 1 (u8V (l.drop k)) (fun i=>[D.int .u8 (((l.map UInt8.ofNat).getD (k+i) 0).toNat:Int)])
 |l,k=>by
  have key:∀(m:List Nat) (k:Nat),l.drop k=m→VRr η 1 (u8V m) (fun i=>[D.int .u8 (((l.map UInt8.ofNat).getD (k+i) 0).toNat:Int)]):=by
   intro m
   induction m with
   |nil=>intro k _;exact .nil _ _
   |cons a m ih =>
    intro k hk
    have h1:l[k]?=sO a:=by
     have:=congrArg (fun x=>x[0]?) hk
     simpa using this
    have h2:l.drop (k+1)=m:=by
     have:=congrArg List.tail hk
     simpa using this
    refine .cons 1 _ _ _ ?_ rfl ((ih (k+1) h2).congr fun i _=>by rw[show k+1+i=k+(i+1) by omega])
    have:(((l.map UInt8.ofNat).getD (k+0) 0).toNat:Int)=Int.ofNat (a % 256):=by
     simp[h1]
    rw[this]
    exact .one (.int _ _)
  exact key _ k rfl
theorem Ztt{z zd}(hz:VRs η z zd){i}:∀{is:List Nat} {vs ds},VRs η vs ds→VRs η (ZfV z (is.zip vs) i) (Z7 zd (is.zip ds) i)
 | [],vs,ds,h=>by simpa[ZfV,Z7]using hz
 |k::is,vs,ds,h=>by
  cases vs with
  |nil=>obtain rfl:=h.inv0;simpa[ZfV,Z7]using hz
  |cons v vs =>
   obtain⟨d,ds',rfl,h1,h2⟩:=h.inv
   simp[ZfV,Z7]
   by_cases hk:k=i
   ·simp_all
    cases h1<;>first|exact .one (by constructor<;>assumption)|assumption
   ·simp_all
    exact Ztt hz h2
theorem ZjC{v}{d}(h:VR η v d):VRs η (ZeZ v) (cellsOf d):=by
 cases h<;>first|exact .one (by constructor<;>assumption)|assumption
theorem ZlU{v d}(h:VR η v d)(hp:ZnA v=true):W1 d=true:=by
 cases h<;>first|rfl|cases hp
theorem Zsj{v d}(h:VR η v d)(hp:Zvl v=true):QQ d=true:=by
 cases h<;>first|rfl|cases hp
theorem ZiR{n}:∀{vs ds},VRs η vs ds→ZeC n vs=true→KQ n ds=true
 | [],ds,h,hp=>by obtain rfl:=h.inv0;rfl
 |v::vs,ds,h,hp=>by
  obtain⟨d,ds',rfl,h1,h2⟩:=h.inv
  simp[ZeC]at hp
  simp[KQ]
  exact⟨⟨ZlU h1 hp.1.1,by rw[←(ZjC h1).len];exact hp.1.2⟩,ZiR h2 hp.2⟩
theorem Zru{n z}(hz:z.length=n){i}:∀{is:List Nat} {vs},ZeC n vs=true→(ZfV z (is.zip vs) i).length=n
 | [],vs,_=>by simpa[ZfV]using hz
 |k::is,[],_=>by simpa[ZfV]using hz
 |k::is,v::vs,hp=>by
  simp[ZeC]at hp
  simp[ZfV]
  split
  ·exact hp.1.2
  ·exact Zru hz hp.2
theorem Zlx{n z zd}(hz:VRs η z zd)(hzl:z.length=n){is:List Nat}{vs ds}(hv:VRs η vs ds)(hp:ZeC n vs=true):∀(len i),VRr η n (ZjY z (is.zip vs) len i) (fun j=>Z7 zd (is.zip ds) (i+j))∧(ZjY z (is.zip vs) len i).length=len
 |0,i=>⟨.nil _ _,rfl⟩
 |len+1,i=>by
  obtain⟨h1,h2⟩:=Zlx hz hzl hv hp len (i+1)
  refine⟨.cons _ _ _ _ (Ztt hz hv) (Zru hzl hp) (h1.congr fun j _=>by rw[show i+1+j=i+(j+1) by omega]),by simp[ZjY,h2]⟩
theorem Zpi(hS:Sim C η σ s)(h1:η 1=sO .full)(hρ:Z0 η L ρ ρd){dst g}(hg:Zk ρd g=sO true){k r}(hk:YB k=true){db}(h:(opF false db k).run ρ σ nx=sO r):
  r.σ=σ∧r.nx=nx∧∃side e,side∧Zx ⟨dst,g,k⟩ ρd L s=.ok side (Zv ρd dst e) L s∧WR η L (.v r.v) e:=by
 have fin:∀{side:Prop} {d:D} {v:V},side→VR η v d→Zx ⟨dst,g,k⟩ ρd L s=(match g with
   |none=>.ok side (Zv ρd dst (.d d)) L s
   |some _=>.ok (true=true→side) (Zv ρd dst (.when true (.d d))) L s)→∃side e,side∧Zx ⟨dst,g,k⟩ ρd L s=.ok side (Zv ρd dst e) L s∧WR η L (.v v) e:=by
  intro side d v hs hv hst
  cases g with
  |none=>exact⟨side,.d d,hs,hst,d,hv,.inl rfl⟩
  |some x=>exact⟨_,.when true (.d d),fun _=>hs,hst,d,hv,.inr rfl⟩
 cases k<;>simp only[YB,ZE3]at hk
 case q q xs =>
  simp only[opF]at h
  split at h<;>(try(simp at h;done))
  rename_i vs hvs
  split at h<;>simp only[ZEz,reduceCtorEq]at h
  rename_i v hv
  subst h
  obtain⟨p,ds,a1,a2,a3⟩:=Zal hρ hvs
  obtain⟨side,d,b1,b2,b3⟩:=ZuQ (L:=L) hS h1 a3 hv
  refine⟨rfl,rfl,fin (side:=p∧side) ⟨a2,b2⟩ b3 ?_⟩
  unfold Zx
  simp only[hg,a1,b1]
  cases g<;>rfl
 case pick c a b =>
  simp only[opF]at h
  unfold mp2 at h
  split at h<;>(try(simp at h;done))
  rename_i cv hc
  obtain⟨pc,dc,c1,c2,c3⟩:=Ko hρ hc
  cases c3<;>simp only[reduceCtorEq]at h
  rename_i cb
  have key:∀{x y:Opd} {yb:Bool},(ZiP x).run ρ=true→(YI y).run ρ=sO (.bool yb)→(∃p z,ZC ρd false x=sO (p,.d (.bool z))∧p)∧∃p,ZC ρd true y=sO (p,.d (.bool yb))∧p:=by
   intro x y yb hx hy
   obtain⟨p,d,e1,e2,e3⟩:=Ko hρ hy
   cases e3
   exact⟨Zwk hρ hx rfl,p,e1,e2⟩
  cases cb
  ·simp only at h
   obtain⟨hb,h⟩:=Zw h
   split at h<;>(try(simp at h;done))
   rename_i yv hy
   split at h<;>cases h
   obtain⟨⟨p1,z,e1,e2⟩,p2,e3,e4⟩:=key hb hy
   refine⟨rfl,rfl,fin (side:=pc∧p1∧p2) ⟨c2,e2,e4⟩ (.bool _) ?_⟩
   unfold Zx ZcP
   simp[hg,c1,e1,e3]
   cases g<;>rfl
  ·simp only at h
   obtain⟨hb,h⟩:=Zw h
   split at h<;>(try(simp at h;done))
   rename_i yv hy
   split at h<;>cases h
   obtain⟨⟨p1,z,e1,e2⟩,p2,e3,e4⟩:=key hb hy
   refine⟨rfl,rfl,fin (side:=pc∧p2∧p1) ⟨c2,e4,e2⟩ (.bool _) ?_⟩
   unfold Zx ZcP
   simp[hg,c1,e1,e3]
   cases g<;>rfl
 case bsl len n z is xs =>
  simp only[opF]at h
  cases hz:ofDs z<;>simp only[hz,reduceCtorEq]at h
  rename_i zv
  split at h<;>(try(simp at h;done))
  rename_i vs hvs
  obtain⟨hb,h⟩:=Zw h
  cases h
  simp only[ZEK,ZZ]at hb
  obtain⟨p,ds,a1,a2,a3⟩:=Zal hρ hvs
  obtain⟨l1,l2⟩:=Zlx (is:=is) (ofDs_ok hz) hb.2 a3 hb.1 len 0
  refine⟨rfl,rfl,fin (side:=p∧KQ n ds=true) ⟨a2,ZiR a3 hb.1⟩ (.sl 1 len n _ .full (Z7 z (is.zip ds)) (l1.congr fun i _=>by rw[Nat.zero_add]) l2 (.inr h1)) ?_⟩
  unfold Zx
  simp only[hg,a1,Zap]
  cases g<;>rfl
 case s2b x =>
  simp only[opF]at h
  unfold mp2 at h
  split at h<;>(try(simp at h;done))
  rename_i xv hx
  obtain⟨p,d,a1,a2,a3⟩:=Ko hρ hx
  cases a3<;>simp only[reduceCtorEq,ZEz]at h
  rename_i l
  subst h
  refine⟨rfl,rfl,fin (side:=p) a2 (.sl 0 l.length 1 (u8V l) .none _ (ZwV l 0) (by simp[u8V]) (.inl rfl)) ?_⟩
  unfold Zx
  simp only[hg,a1,List.length_map,Nat.zero_add]
  cases g<;>rfl
end
def YR(C:Px)(η:Nm)(r:R3)(e:E)(s2:St):Prop:=∃η',η.Sub η'∧Yo η' r.nx∧Sim C η' r.σ s2∧∃d,VR η' r.v d∧e=.d d
theorem OR.cells0{C η k vs ds}(h:VRs η vs ds):OR C η k (.cells vs) (.cells ds):=by
 simpa using OR.cells (C:=C) (k0:=k) vs ds [] h
theorem ZsL{cs ys o}(h:o+ys.length≤cs.length):(Zu cs o ys).length=cs.length:=by
 simp[Zu];omega
theorem Jh{s b cs}(h:s b=sO (.cells cs)):Z5 s b=sO cs:=by simp[Z5,h]
section
variable {C:Px} {η:Nm} {σ:S} {s:St} {L:Loc} {ρ:T W} {ρd:Env} {nx:Nat}
theorem Wy{x f r}(h:mp2 x f=sO r):∃v,x=sO v∧f v=sO r:=by
 cases x with
 |none=>cases h
 |some v=>exact⟨v,rfl,h⟩
theorem Zsh{x v r}(h:up x v nx=sO r):∃σ',x=sO σ'∧r=⟨v,σ',nx⟩:=by
 cases x with
 |none=>cases h
 |some σ'=>simp[up]at h;exact⟨σ',rfl,h.symm⟩
theorem YR.new(hS:Sim C η σ s)(hN:Yo η nx){b}(hb:s b=nO){o d}(ho:OR C (η.put nx (.tip b)) nx o d){v e}(hv:VR (η.put nx (.tip b)) v e)(hr:Zbk o=false:=by rfl):YR C η ⟨v,σ.set (sO o) nx,nx+1⟩ (.d e) (s.upd b d) :=
 ⟨_,Nm.put_sub (hN.free nx (ZEP _)) _,hN.put _,hS.new (hN.free nx (ZEP _)) hb ho hr,e,hv,rfl⟩
theorem YR.turn(hS:Sim C η σ s)(hN:Yo η nx){k b o o' d}(h:σ.get k=sO o)(hb:η k=sO (.tip b))(ho:OR C η k o' d){v e}(hv:VR η v e)(hr:Zbk o=false:=by rfl)(hr':Zbk o'=false:=by rfl):YR C η ⟨v,σ.set (sO o') k,nx⟩ (.d e) (s.upd b d) :=
 ⟨η,Nm.Sub.refl _,hN,hS.upd h hb ho hr hr',e,hv,rfl⟩
theorem Zjw(hS:Sim C η σ s){a n xs σ'}(h:ZgG σ a n xs=sO σ'){da}(ha:VR η a da){ys}(hx:VRs η xs ys):
  ∃b off cs,da=.ptr b off∧Z5 s b=sO cs∧off+ys.length≤cs.length∧ys.length=n∧Sim C η σ' (s.upd b (.cells (Zu cs off ys))):=by
 cases ha<;>simp only[ZgG,reduceCtorEq]at h
 rename_i k b o hb
 split at h<;>(try(simp at h;done))
 all_goals
  rename_i cs hcs
  split at h<;>simp at h
  rename_i cs' hset
  subst h
  obtain⟨ds,ex,e1,e2⟩:=hS.cells (vs:=cs) (by rw[hcs];rfl) hb
  obtain⟨f0,f1,f2⟩:=e2.over hx hset
  have hl:ys.length=n:=by rw[←hx.len,f0]
  have hset':Zu (ds++ex) o ys=Zu ds o ys++ex:=ZkY (by omega)
  refine⟨b,o,_,rfl,Jh e1,by simp;omega,hl,?_⟩
  rw[hset']
 ·exact hS.upd hcs hb (.cells _ _ _ f2)
 ·refine hS.upd hcs hb (.buf _ _ _ f2 ?_)
  obtain⟨b',d,g1,g2,g3⟩:=hS.get hcs (fun n=>by simp)
  rw[hb]at g1
  cases g1
  rw[e1]at g2
  cases g2
  generalize hde:(W4.cells (ds++ex))=dd at g3
  cases g3 with
  |buf _ ds2 ex2 _ hc =>
   simp only[W4.cells.injEq]at hde
   rw[hc]
   have:(Zu ds o ys++ex).length=(ds2++ex2).length:=by
    rw[←hde,ZEM,ZEM,ZsL (by omega)]
   rw[this]
variable {P:Program} {F:Fr P} {kp:Option (List Nat)} {dk:List WL} {os:List DOp} {ρ':Env} {L':Loc}
theorem Ww(hρ:Z0 η L ρ ρd){x v}(h:(YI x).run ρ=sO v)(hag:Zy ρd ρ' (ZN x)):∃p d,ZC ρ' true x=sO (p,.d d)∧p∧VR η v d:=by
 obtain⟨p,d,h1,h2,h3⟩:=Ko hρ h
 exact⟨p,d,by rw[ZP hag];exact h1,h2,h3⟩
theorem ZvO(hS:Sim C η σ s)(hN:Yo η nx){dst z mu r}(h:(opF mu dst.isSome (.alloc z)).run ρ σ nx=sO r)(hc:∀e s2,YR C η r e s2→DO F kp dk os (Zv ρ' dst e) L' s2):DO F kp dk (⟨dst,nO,.alloc z⟩::os) ρ' L' s:=by
 simp[opF]at h
 cases hz:ofDs z<;>simp[hz]at h
 obtain⟨hd,hh⟩:=Zw h;replace h:=hh;clear hh
 cases h
 cases dst with
 |none=>grind
 |some t=>exact Zvr rfl rfl rfl fun b hb=>hc (.d (.ptr b 0)) _ (YR.new hS hN hb (OR.cells0 (ofDs_ok hz)) (.ptr _ _ _ (Nm.put_same _ _ _)))
theorem Zy4(hS:Sim C η σ s)(hN:Yo η nx)(hρ:Z0 η L ρ ρd){dst x mu r}(h:(opF mu dst.isSome (.box x)).run ρ σ nx=sO r)(hag:Zy ρd ρ' (ZN x))(hc:∀e s2,YR C η r e s2→DO F kp dk os (Zv ρ' dst e) L' s2):DO F kp dk (⟨dst,nO,.box x⟩::os) ρ' L' s:=by
 obtain⟨hd,hh⟩:=Zw h;replace h:=hh;clear hh
 obtain⟨v,hv,hh⟩:=Wy h;replace h:=hh;clear hh
 obtain⟨hp,hh⟩:=Zw h;replace h:=hh;clear hh
 cases h
 obtain⟨p,d,a1,a2,a3⟩:=Ww hρ hv hag
 cases dst with
 |none=>grind
 |some t=>exact ZyA rfl rfl rfl a1 a2 (ZlU a3 hp) fun b hb=>hc (.d (.ptr b 0)) _ (YR.new hS hN hb (OR.cells0 ((ZjC a3).mono (Nm.put_sub (hN.free nx (ZEP _)) _))) (.ptr _ _ _ (Nm.put_same _ _ _)))
theorem Zuk(hS:Sim C η σ s)(hN:Yo η nx)(hρ:Z0 η L ρ ρd){dst a v mu r}(h:(opF mu dst.isSome (.store1 a v)).run ρ σ nx=sO r)(hag:Zy ρd ρ' (ZN a++ZN v))(hc:∀e s2,YR C η r e s2→DO F kp dk os (Zv ρ' dst e) L' s2):DO F kp dk (⟨dst,nO,.store1 a v⟩::os) ρ' L' s:=by
 obtain⟨hd,hh⟩:=Zw h;replace h:=hh;clear hh
 obtain⟨av,ha,hh⟩:=Wy h;replace h:=hh;clear hh
 obtain⟨xv,hx,hh⟩:=Wy h;replace h:=hh;clear hh
 obtain⟨hcl,hh⟩:=Zw h;replace h:=hh;clear hh
 obtain⟨σ',hst,rfl⟩:=Zsh h
 obtain⟨p,da,a1,a2,a3⟩:=Ww hρ ha (fun t ht=>hag t (by simp[ht]))
 obtain⟨q,dx,b1,b2,b3⟩:=Ww hρ hx (fun t ht=>hag t (by simp[ht]))
 have hok:=Zsj b3 hcl
 have hcx:cellsOf dx=[dx]:=by cases dx<;>first|rfl|cases hok
 obtain⟨b,off,cs,rfl,c1,c2,c3,c4⟩:=Zjw hS hst a3 (.one b3)
 cases dst with
 |some t=>grind
 |none =>
  refine Ze6 rfl (.inl ⟨rfl,trivial⟩) a1 b1 a2 b2 c1 (fun _=>hok) (fun n hn=>by grind) (by rw[hcx];exact c2) rfl ?_
  rw[hcx]
  exact hc (.d .nilsl) _ ⟨η,Nm.Sub.refl _,hN,c4,.nilsl,.nilsl,rfl⟩
theorem Zul(hS:Sim C η σ s)(hN:Yo η nx)(hρ:Z0 η L ρ ρd){dst a v n mu r}(h:(opF mu dst.isSome (.storeN n a v)).run ρ σ nx=sO r)(hag:Zy ρd ρ' (ZN a++ZN v))(hc:∀e s2,YR C η r e s2→DO F kp dk os (Zv ρ' dst e) L' s2):DO F kp dk (⟨dst,nO,.storeN n a v⟩::os) ρ' L' s:=by
 obtain⟨hd,hh⟩:=Zw h;replace h:=hh;clear hh
 obtain⟨av,ha,hh⟩:=Wy h;replace h:=hh;clear hh
 obtain⟨xv,hx,hh⟩:=Wy h;replace h:=hh;clear hh
 obtain⟨p,da,a1,a2,a3⟩:=Ww hρ ha (fun t ht=>hag t (by simp[ht]))
 obtain⟨q,dx,b1,b2,b3⟩:=Ww hρ hx (fun t ht=>hag t (by simp[ht]))
 cases b3<;>simp at h
 rename_i xs ys hxs
 obtain⟨σ',hst,rfl⟩:=Zsh h
 obtain⟨b,off,cs,rfl,c1,c2,c3,c4⟩:=Zjw hS hst a3 hxs
 cases dst with
 |some t=>grind
 |none =>
  refine Ze6 rfl (.inr ⟨n,rfl⟩) a1 b1 a2 b2 c1 (fun hn=>by grind) (fun m hm=>?_) c2 rfl ?_
  ·simp only[K.storeN.injEq]at hm
   exact⟨⟨_,rfl⟩,by rw[←hm.1];exact c3⟩
  ·exact hc (.d .nilsl) _ ⟨η,Nm.Sub.refl _,hN,c4,.nilsl,.nilsl,rfl⟩
theorem ZvR(hS:Sim C η σ s)(hN:Yo η nx){dst mu r}(h:(opF mu dst.isSome .mkmap).run ρ σ nx=sO r)(hc:∀e s2,YR C η r e s2→DO F kp dk os (Zv ρ' dst e) L' s2):DO F kp dk (⟨dst,nO,.mkmap⟩::os) ρ' L' s:=by
 obtain⟨hd,hh⟩:=Zw h;replace h:=hh;clear hh
 cases h
 cases dst with
 |none=>grind
 |some t=>exact Zqq rfl rfl rfl fun b hb=>hc (.d (.map b)) _ (YR.new hS hN hb (.map [] [] .nil) (.map _ _ (Nm.put_same _ _ _)))
theorem ZjH{z}{zd}(hz:VRs η z zd):∀n,VRs η (ZgN z n) (KU zd n)
 |0=>by simp[ZgN];exact .nil
 |n+1=>by
  exact hz.append (ZjH hz n)
theorem Zsy(hS:Sim C η σ s)(hN:Yo η nx)(hρ:Z0 η L ρ ρd){dst e n bytes z l hx mu r}(h:(opF mu dst.isSome (.mkslice e n bytes z l hx)).run ρ σ nx=sO r)(hag:Zy ρd ρ' (ZN l++ZN hx))(hc:∀e s2,YR C η r e s2→DO F kp dk os (Zv ρ' dst e) L' s2):DO F kp dk (⟨dst,nO,.mkslice e n bytes z l hx⟩::os) ρ' L' s:=by
 simp[opF]at h
 cases hz:ofDs z<;>simp[hz]at h
 obtain⟨hd,hh⟩:=Zw h;replace h:=hh;clear hh
 obtain⟨lv,hl,hh⟩:=Wy h;replace h:=hh;clear hh
 obtain⟨hv,hh,hh⟩:=Wy h;replace h:=hh;clear hh
 obtain⟨p,dl,a1,a2,a3⟩:=Ww hρ hl (fun t ht=>hag t (by simp[ht]))
 obtain⟨q,dh,b1,b2,b3⟩:=Ww hρ hh (fun t ht=>hag t (by simp[ht]))
 cases a3<;>simp at h
 cases b3<;>simp at h
 obtain⟨hb,hh⟩:=Zw h;replace h:=hh;clear hh
 cases h
 simp[Jk]at hb
 cases dst with
 |none=>grind
 |some t =>
  refine ZlZ rfl rfl rfl a1 b1 a2 b2 hb.1.1.1 hb.1.1.2 hb.1.2 hb.2 fun b hb'=>hc (.d (.msl b 0 _ _ n)) _ (YR.new hS hN hb' (OR.cells0 (ZjH (ofDs_ok hz) _)) (.msl _ _ _ _ _ _ (Nm.put_same _ _ _)))
theorem Zuj(hS:Sim C η σ s)(hN:Yo η nx)(hρ:Z0 η L ρ ρd){dst mk m k v mu r}(h:(opF mu dst.isSome (.mapupd mk m k v)).run ρ σ nx=sO r)(hag:Zy ρd ρ' (ZN m++ZN k++ZN v))(hc:∀e s2,YR C η r e s2→DO F kp dk os (Zv ρ' dst e) L' s2):DO F kp dk (⟨dst,nO,.mapupd mk m k v⟩::os) ρ' L' s:=by
 simp only[opF]at h
 obtain⟨hd,hh⟩:=Zw h;replace h:=hh;clear hh
 obtain⟨mv,hm,hh⟩:=Wy h;replace h:=hh;clear hh
 obtain⟨kv,hk,hh⟩:=Wy h;replace h:=hh;clear hh
 obtain⟨vv,hv,hh⟩:=Wy h;replace h:=hh;clear hh
 obtain⟨p,dm,a1,a2,a3⟩:=Ww hρ hm (fun t ht=>hag t (by simp[ht]))
 obtain⟨q,dk',b1,b2,b3⟩:=Ww hρ hk (fun t ht=>hag t (by simp[ht]))
 obtain⟨q',dv,c1,c2,c3⟩:=Ww hρ hv (fun t ht=>hag t (by simp[ht]))
 cases a3<;>simp only[reduceCtorEq]at h
 rename_i kb b hb
 split at h<;>(try(simp at h;done))
 rename_i es hes
 obtain⟨hko,hh⟩:=Zw h;replace h:=hh;clear hh
 split at h<;>simp only[ZEz,reduceCtorEq]at h
 rename_i es' hes'
 subst h
 obtain⟨ds,e1,e2⟩:=hS.map hes hb
 obtain⟨ds',e3,e4⟩:=Zoz b3 c3 e2 hes'
 cases dst with
 |some t=>simp at hd
 |none=>exact ZoK rfl rfl rfl a1 b1 c1 a2 b2 c2 (by simp only[KA,e1]) e3 (Zfk b3 hko) (hc (.d .nilsl) _ (YR.turn hS hN hes hb (.map _ _ e4) .nilsl))
theorem Zuh(hS:Sim C η σ s)(hN:Yo η nx)(hρ:Z0 η L ρ ρd){dst mk m k mu r}(h:(opF mu dst.isSome (.delete mk m k)).run ρ σ nx=sO r)(hag:Zy ρd ρ' (ZN m++ZN k))(hc:∀e s2,YR C η r e s2→DO F kp dk os (Zv ρ' dst e) L' s2):DO F kp dk (⟨dst,nO,.delete mk m k⟩::os) ρ' L' s:=by
 obtain⟨hd,hh⟩:=Zw h;replace h:=hh;clear hh
 obtain⟨mv,hm,hh⟩:=Wy h;replace h:=hh;clear hh
 obtain⟨kv,hk,hh⟩:=Wy h;replace h:=hh;clear hh
 obtain⟨p,dm,a1,a2,a3⟩:=Ww hρ hm (fun t ht=>hag t (by simp[ht]))
 obtain⟨q,dk',b1,b2,b3⟩:=Ww hρ hk (fun t ht=>hag t (by simp[ht]))
 cases a3<;>simp only[reduceCtorEq]at h
 rename_i kb b hb
 split at h<;>(try(simp at h;done))
 rename_i es hes
 obtain⟨hko,hh⟩:=Zw h;replace h:=hh;clear hh
 split at h<;>simp only[ZEz,reduceCtorEq]at h
 rename_i es' hes'
 subst h
 obtain⟨ds,e1,e2⟩:=hS.map hes hb
 obtain⟨ds',e3,e4⟩:=Ztk b3 e2 hes'
 cases dst with
 |some t=>simp at hd
 |none=>exact ZoI rfl rfl rfl a1 b1 a2 b2 (by simp only[KA,e1]) e3 (Zfk b3 hko) (hc (.d .nilsl) _ (YR.turn hS hN hes hb (.map _ _ e4) .nilsl))
theorem Zui(hS:Sim C η σ s)(hN:Yo η nx)(hρ:Z0 η L ρ ρd){dst mk z m k mu r}(h:(opF mu dst.isSome (.mapent mk z m k)).run ρ σ nx=sO r)(hag:Zy ρd ρ' (ZN m++ZN k))(hc:∀e s2,YR C η r e s2→DO F kp dk os (Zv ρ' dst e) L' s2):DO F kp dk (⟨dst,nO,.mapent mk z m k⟩::os) ρ' L' s:=by
 simp[opF]at h
 cases hz:ofD z<;>simp[hz]at h
 obtain⟨hd,hh⟩:=Zw h;replace h:=hh;clear hh
 obtain⟨mv,hm,hh⟩:=Wy h;replace h:=hh;clear hh
 obtain⟨kv,hk,hh⟩:=Wy h;replace h:=hh;clear hh
 obtain⟨p,dm,a1,a2,a3⟩:=Ww hρ hm (fun t ht=>hag t (by simp[ht]))
 obtain⟨q,dk',b1,b2,b3⟩:=Ww hρ hk (fun t ht=>hag t (by simp[ht]))
 cases a3<;>simp at h
 rename_i kb b hb
 split at h<;>(try(grind;done))
 rename_i es hes
 obtain⟨hko,hh⟩:=Zw h;replace h:=hh;clear hh
 split at h<;>simp at h
 rename_i v hv
 subst h
 obtain⟨ds,e1,e2⟩:=hS.map hes hb
 obtain⟨d,e3,e4⟩:=Ztn b3 (Zgs hz) e2 hv
 cases dst with
 |none=>grind
 |some t =>
  refine ZoJ rfl rfl rfl a1 b1 a2 b2 (by simp[KA,e1]) e3 (Zfk b3 hko) fun n=>hc (.d (.tup [d,.stamp n])) _ ?_
  have hsub:=Nm.put_sub (hN.free nx (ZEP _)) (.tip n)
  exact⟨_,hsub,hN.put _,(hS.mono hsub).upd hes (hsub _ _ hb) (.mapE _ _ _ _ _ _ _ (e2.imp fun _ _ m=>m.mono hsub) (b3.mono hsub) (Nm.put_same _ _ _)),_,.tup _ _ (.cons _ _ _ _ (e4.mono hsub) (.one (.stamp _ _ (Nm.put_same _ _ _)))),rfl⟩
theorem ZvQ(hS:Sim C η σ s)(hN:Yo η nx)(hρ:Z0 η L ρ ρd){dst m st v mu r}(h:(opF mu dst.isSome (.entst m st v)).run ρ σ nx=sO r)(hag:Zy ρd ρ' (ZN m++ZN st++ZN v))(hc:∀e s2,YR C η r e s2→DO F kp dk os (Zv ρ' dst e) L' s2):DO F kp dk (⟨dst,nO,.entst m st v⟩::os) ρ' L' s:=by
 simp only[opF]at h
 obtain⟨hd,hh⟩:=Zw h;replace h:=hh;clear hh
 obtain⟨mv,hm,hh⟩:=Wy h;replace h:=hh;clear hh
 obtain⟨kv,hk,hh⟩:=Wy h;replace h:=hh;clear hh
 obtain⟨vv,hv,hh⟩:=Wy h;replace h:=hh;clear hh
 obtain⟨p,dm,a1,a2,a3⟩:=Ww hρ hm (fun t ht=>hag t (by simp[ht]))
 obtain⟨q,dk',b1,b2,b3⟩:=Ww hρ hk (fun t ht=>hag t (by simp[ht]))
 obtain⟨q',dv,c1,c2,c3⟩:=Ww hρ hv (fun t ht=>hag t (by simp[ht]))
 cases a3<;>simp only[reduceCtorEq]at h
 rename_i kb b hb
 cases b3<;>simp only[reduceCtorEq]at h
 rename_i kn n hn
 split at h<;>(try(simp at h;done))
 rename_i mk es key n' hes
 obtain⟨hnn,hh⟩:=Zw h;replace h:=hh;clear hh
 rw[ZZ]at hnn
 subst hnn
 split at h<;>simp only[ZEz,reduceCtorEq]at h
 rename_i es' hes'
 subst h
 obtain⟨b',d,e0,e1,e2⟩:=hS.get hes (fun n=>by simp)
 rw[hb]at e0
 simp only[ZEz,Tok.tip.injEq]at e0
 subst e0
 cases e2 with
 |mapE _ _ ds _ dkey _ m' g1 g2 g3 =>
  rw[hn]at g3
  simp only[ZEz,Tok.tip.injEq]at g3
  subst g3
  obtain⟨ds',e3,e4⟩:=Zoz g2 c3 g1 hes'
  cases dst with
  |some t=>simp at hd
  |none=>exact Zqp rfl rfl rfl a1 b1 c1 a2 b2 c2 e1 e3 (hc (.d .nilsl) _ (YR.turn hS hN hes hb (.map _ _ e4) .nilsl))
end
theorem St.del_upd(s:St)(b d):(s.del b).upd b d=s.upd b d:=by
 funext c;simp[ZFc,St.del];split<;>rfl
theorem St.upd_del{b d}(h:s b=sO d):(s.del b).upd b d=s:=by
 funext c;simp[ZFc,St.del];split
 ·rename_i hc;rw[hc,h]
 ·rfl
section
variable {C:Px} {η:Nm} {σ:S} {s:St}
theorem Sim.take(x:Sim C η σ s){k b:Nat}{o:O}(h:σ.get k=sO o)(hb:η k=sO (.tip b))(hr:Zbk o=false:=by rfl):Sim C η (σ.set nO k) (s.del b) where
 obj k' o' h':=by
  obtain⟨hne,h1⟩:=Ztq h'
  obtain⟨t,e1,⟨b',d',rfl,e2,e3⟩|e2⟩:=x.obj k' o' h1
  ·refine⟨_,e1,.inl ⟨b',d',rfl,?_,e3⟩⟩
   have:b'≠b:=fun hbb=>hne (x.inj k' k _ _ b h1 h (by rw[←hbb];exact e1) hb)
   simp[St.del,this];exact e2
  ·exact⟨t,e1,.inr e2⟩
 inj:=(x.forget k).inj
 kp c e hc:=by
  obtain⟨h1,h2⟩:=(x.forget k).kp c e hc
  have:c≠b:=fun ec=>(x.kp c e hc).2 k o h hr (by rw[ec];exact hb)
  exact⟨by simp[St.del,this];exact h1,h2⟩
 ro:=(x.forget k).ro
theorem Sim.newFull(x:Sim C η σ s){nx}(hn:η nx=nO)(m):Sim C (η.put nx .full) (σ.set (sO (.tok m)) nx) s:=by
 have x':=x.mono (Nm.put_sub hn .full)
 have key:∀k o1 b,(σ.set (sO (O.tok m)) nx).get k=sO o1→(η.put nx .full) k=sO (.tip b)→σ.get k=sO o1:=fun k o1 b h e=>by
  have hne:k≠nx:=fun hk=>by rw[hk,Nm.put_same]at e;grind
  rcases T.get_set h with ⟨rfl,_⟩|⟨_,h⟩
  ·exact absurd rfl hne
  ·exact h
 refine⟨fun k o h=>?_,fun k1 k2 o1 o2 b h1 h2 e1 e2=>x'.inj k1 k2 o1 o2 b (key _ _ _ h1 e1) (key _ _ _ h2 e2) e1 e2,fun c e hc=>⟨(x'.kp c e hc).1,fun k o1 h hr e1=>(x'.kp c e hc).2 k o1 (key _ _ _ h e1) hr e1⟩,fun k o1 c h e=>x'.ro k o1 c (key _ _ _ h e) e⟩
 rcases T.get_set h with ⟨rfl,h1⟩|⟨_,h1⟩
 ·cases h1
  exact⟨_,Nm.put_same _ _ _,.inr ⟨m,rfl,rfl⟩⟩
 ·exact x'.obj k o h1
theorem ZuS(row:Nat→List D)(m):(ZEO (m+1)).flatMap row=row 0++(ZEO m).flatMap fun i=>row (i+1):=by
 rw[List.range_succ_eq_map,List.flatMap_cons,List.flatMap_map]
theorem VRr.flat{z}:∀{m rs cs row},VRr η z rs row→Zmu z m rs=sO cs→VRs η cs ((ZEO m).flatMap row)∧cs.length=m*z
 |0,rs,cs,row,_,h=>by
  have:sO []=sO cs:=h
  cases this
  exact⟨.nil,by simp⟩
 |m+1,rs,cs,row,hr,h=>by
  cases hr with
  |nil=>cases h
  |cons _ c rs row h1 hl t =>
   have h':(match Zmu z m rs with
    |some r=>sO (ZnU z c r)
    |none=>nO)=sO cs:=h
   split at h'<;>simp at h'
   rename_i r hr
   subst h'
   obtain⟨g1,g2⟩:=t.flat hr
   rw[Zgg hl,ZuS]
   exact⟨h1.append g1,by rw[ZEM,g2,hl,ZE2];omega⟩
theorem ZlE{z}:∀{n vs rs ds},VRs η vs ds→Zu2 z n vs=sO rs→VRr η z rs (fun i=>part ds (i*z) z)∧rs.length=n∧n*z≤ds.length
 |0,vs,rs,ds,_,h=>by
  have:sO []=sO rs:=h
  cases this
  exact⟨.nil _ _,rfl,by omega⟩
 |n+1,vs,rs,ds,hv,h=>by
  have h':(match ZaP z vs with
   |some r=>JG (.agg r) (Zu2 z n (Za9 z vs))
   |none=>nO)=sO rs:=h
  split at h'<;>(try(simp at h';done))
  rename_i r hr
  obtain⟨q,hq,rfl⟩:=Kt h'
  obtain⟨t1,rfl⟩:=JO hr
  rw[Q4]at hq
  obtain⟨g1,g2,g3⟩:=ZlE (hv.drop z) hq
  have hlen:=hv.len
  rw[ZFh]at g3
  refine⟨.cons _ _ _ _ ?_ (by rw[ZEU];omega) (g1.congr fun i _=>?_),by simp[g2],by rw[ZE2];omega⟩
  ·simpa[part]using hv.take z
  ·simp[part]
   congr 2
   rw[ZE2];omega
theorem ZzA{P}(hS:Sim C η σ s){z v d}(hv:VR η v d){m rs}(h:Zyl σ z v=sO (m,rs)):∃row,QK P s z d m row∧VRr η z rs row∧rs.length=m:=by
 cases hv<;>simp only[Zyl,reduceCtorEq]at h
 case nilsl =>
  cases h
  exact⟨fun _=>[],QK.elems rfl,.nil _ _,rfl⟩
 case sl t n z' rs' τ row h1 h2 h3 =>
  obtain⟨hz,hh⟩:=Zw h
  rw[ZZ]at hz
  subst hz
  cases hh
  exact⟨row,QK.elems (by simp[Zaq]),h1,h2⟩
 case str l =>
  obtain⟨hz,hh⟩:=Zw h
  rw[ZZ]at hz
  subst hz
  cases hh
  refine⟨fun i=>[D.int .u8 (((l.map UInt8.ofNat).getD i 0).toNat:Int)],QK.elems (m:=l.length) (by simp[Zaq]),?_,by simp[u8V]⟩
  have:=ZwV (η:=η) l 0
  simpa using this
 case msl k b o n cap z' hb =>
  split at h<;>(try(grind;done))
  rename_i cs hcs
  obtain⟨hc,hh⟩:=Zw h
  simp at hc
  obtain⟨rfl,hc⟩:=hc
  split at hh<;>simp at hh
  rename_i r hr
  obtain⟨rfl,rfl⟩:=hh
  obtain⟨ds,ex,e1,e2⟩:=hS.cells hcs hb
  rw[Q4]at hr
  obtain⟨g1,g2,g3⟩:=ZlE (e2.drop o) hr
  have hl:=e2.len
  refine⟨_,QK.msl (Jh e1) (by rw[ZEM];omega),g1.congr fun i hi=>?_,g2⟩
  have h1:i*z'+z'≤n*z':=by
   rw[←Nat.succ_mul];exact ZEW _ (by omega)
  simp[part]
  rw[List.drop_append_of_le_length (by omega),List.take_append_of_le_length (by rw[ZFh];omega)]
 case gsl k b o n cap z' c hb h2 hcap hl0 =>
  split at h<;>(try(grind;done))
  rename_i cs hcs
  obtain⟨hc,hh⟩:=Zw h
  simp at hc
  obtain⟨rfl,hc⟩:=hc
  split at hh<;>simp at hh
  rename_i r hr
  obtain⟨rfl,rfl⟩:=hh
  obtain⟨ds,ex,e1,e2⟩:=hS.cells hcs hb
  rw[Q4]at hr
  obtain⟨g1,g2,g3⟩:=ZlE (e2.drop o) hr
  have hl:=e2.len
  refine⟨_,QK.msl (Jh e1) (by rw[ZEM];omega),g1.congr fun i hi=>?_,g2⟩
  have h1:i*z'+z'≤n*z':=by
   rw[←Nat.succ_mul];exact ZEW _ (by omega)
  simp[part]
  rw[List.drop_append_of_le_length (by omega),List.take_append_of_le_length (by rw[ZFh];omega)]
end
section
variable {C:Px} {η:Nm} {σ:S} {s:St} {L:Loc} {ρ:T W} {ρd:Env} {nx:Nat}
variable {P:Program} {F:Fr P} {kp:Option (List Nat)} {dk:List WL} {os:List DOp} {ρ':Env} {L':Loc}
theorem ZvP(hS:Sim C η σ s)(hN:Yo η nx)(hρ:Z0 η L ρ ρd){dst g}(hg:Zk ρ' g=sO true){n0 z x mu r db}(h:(opF mu db (.clear n0 z x)).run ρ σ nx=sO r)(hag:Zy ρd ρ' (ZN x))(hc:∀e s2,YR C η r e s2→DO F kp dk os (Zv ρ' dst e) L' s2):DO F kp dk (⟨dst,g,.clear n0 z x⟩::os) ρ' L' s:=by
 simp[opF]at h
 cases hz:ofDs z<;>simp[hz]at h
 rename_i zv
 obtain⟨v,hv,hh⟩:=Wy h;replace h:=hh;clear hh
 obtain⟨p,d,a1,a2,a3⟩:=Ww hρ hv hag
 have fin:∀{k b o n cap:Nat} {z':Nat} ,VR η (.ptr k o) (.ptr b o)→d=.msl b o n cap z'→noV (Nat.beq z' n0) (up (ZgG σ (.ptr k o) (n*n0) (ZgN zv n)) (.tup []) nx)=sO r→DO F kp dk (⟨dst,g,.clear n0 z x⟩::os) ρ' L' s:=by
  intro k b o n cap z' hp hd h
  obtain⟨hz',hh⟩:=Zw h;replace h:=hh;clear hh
  rw[ZZ]at hz'
  subst hz'
  obtain⟨σ',hst,rfl⟩:=Zsh h
  obtain⟨b',off,cs,e1,c1,c2,c3,c4⟩:=Zjw hS hst hp (ZjH (ofDs_ok hz) n)
  cases e1
  subst hd
  exact Zk4 hg rfl a1 a2 c1 (by omega) (hc (.d (.tup [])) _ ⟨η,Nm.Sub.refl _,hN,c4,_,.tup _ _ .nil,rfl⟩)
 cases a3<;>simp at h
 case msl k b o n cap z' hb=>exact fin (.ptr _ _ _ hb) rfl h
 case gsl k b o n cap z' c hb h2 hcap hl0=>exact fin (.ptr _ _ _ hb) rfl h
theorem YR.buf(hS:Sim C η σ s)(hN:Yo η nx){b}(hb:s b=nO){z m cap cs ds ex}(hv:VRs η cs ds)(hm:m≤cap)(hl:(ds++ex).length=cap*z){r}(h:Zif z σ nx m cs=sO r):YR C η r (.d (.msl b 0 m cap z)) (s.upd b (.cells (ds++ex))):=by
 cases h
 have f0:=hN.free nx (ZEP _)
 have f1:=hN.free (nx+1) (by omega)
 have s1:η.Sub (η.put (nx+1) (.tip (ds++ex).length)):=Nm.put_sub f1 _
 have f2:(η.put (nx+1) (.tip (ds++ex).length)) nx=nO:=by simp only[Nm.put];rw[if_neg (by omega)];exact f0
 have s2:=Nm.put_sub f2 (.tip b)
 have hx:((η.put (nx+1) (.tip (ds++ex).length)).put nx (.tip b)) (nx+1)=sO (.tip (ds++ex).length):=by simp[Nm.put]
 refine⟨_,s1.trans s2,⟨?_,?_,?_,?_⟩,(hS.mono s1).new f2 hb (.buf _ _ _ ((hv.mono s1).mono s2) hx),_,.gsl _ _ _ _ _ _ _ (Nm.put_same _ _ _) hx hm (by omega),rfl⟩
 ·exact s2 _ _ (s1 _ _ hN.z)
 ·exact s2 _ _ (s1 _ _ hN.o)
 ·have:=hN.two;show 2≤nx+2;omega
 ·intro k hk
  have hk:nx+2≤k:=hk
  simp[Nm.put]
  rw[if_neg (by omega),if_neg (by omega)]
  exact hN.free k (by omega)
theorem YR.bufMove(hS:Sim C η σ s)(hN:Yo η nx){k b o}(hk:σ.get k=sO o)(hb:η k=sO (.tip b))(hr:Zbk o=false){z m cap cs ds ex}(hv:VRs η cs ds)(hm:m≤cap)(hl:cap*z≤(ds++ex).length){r}(h:Zif z (σ.set nO k) nx m cs=sO r):YR C η r (.d (.msl b 0 m cap z)) (s.upd b (.cells (ds++ex))):=by
 rw[←St.del_upd s b]
 cases h
 have f0:=hN.free nx (ZEP _)
 have f1:=hN.free (nx+1) (by omega)
 have s1:η.Sub (η.put (nx+1) (.tip (ds++ex).length)):=Nm.put_sub f1 _
 have f2:(η.put (nx+1) (.tip (ds++ex).length)) nx=nO:=by simp only[Nm.put];rw[if_neg (by omega)];exact f0
 have s2:=Nm.put_sub f2 (.tip b)
 have hx:((η.put (nx+1) (.tip (ds++ex).length)).put nx (.tip b)) (nx+1)=sO (.tip (ds++ex).length):=by simp[Nm.put]
 refine⟨_,s1.trans s2,⟨?_,?_,?_,?_⟩,((hS.take hk hb hr).mono s1).new f2 (by simp[St.del]) (.buf _ _ _ ((hv.mono s1).mono s2) hx),_,.gsl _ _ _ _ _ _ _ (Nm.put_same _ _ _) hx hm (by omega),rfl⟩
 ·exact s2 _ _ (s1 _ _ hN.z)
 ·exact s2 _ _ (s1 _ _ hN.o)
 ·have:=hN.two;show 2≤nx+2;omega
 ·intro k hk
  have hk:nx+2≤k:=hk
  simp[Nm.put]
  rw[if_neg (by omega),if_neg (by omega)]
  exact hN.free k (by omega)
end
section
variable {C:Px} {η:Nm} {σ:S} {s:St} {L:Loc} {ρ:T W} {ρd:Env} {nx:Nat}
variable {P:Program} {F:Fr P} {kp:Option (List Nat)} {dk:List WL} {os:List DOp} {ρ':Env} {L':Loc}
theorem Zvf(hS:Sim C η σ s)(hN:Yo η nx){t k τ σ'}(ht:t=0∨η t=sO τ)(h:Zox σ t k=sO σ'):
  ∃s0,s=s0.own τ k∧τ.okIn s0∧Sim C η σ' s0:=by
 unfold Zox at h
 split at h
 ·rename_i h1
  rw[ZZ]at h1
  subst h1
  cases h
  have:=ht.resolve_left (by omega)
  rw[hN.o]at this
  cases this
  exact⟨s,rfl,trivial,hS⟩
 ·split at h<;>(try(grind;done))
  rename_i m hm
  obtain⟨hk,hh⟩:=Zw h
  rw[ZZ]at hk
  subst hk
  cases hh
  obtain⟨t0,e0,e1⟩:=hS.obj t _ hm
  have hτ:τ=t0:=by
   rcases ht with rfl|ht
   ·rw[hN.z]at e0
    cases e0
    obtain⟨_,_,h,_⟩|⟨_,_,h⟩:=e1<;>grind
   ·rw[e0]at ht
    simpa using ht.symm
  subst hτ
  obtain⟨b,d,rfl,g1,g2⟩|⟨n,g1,rfl⟩:=e1
  ·cases g2
   refine⟨s.del b,?_,by simp[Tok.okIn,St.del],hS.take hm e0⟩
   exact(St.upd_del g1).symm
  ·exact⟨s,rfl,trivial,hS.forget t⟩
theorem YR.tok{s0 σ'}(hS:Sim C η σ' s0)(hN:Yo η nx){t'}(ht:t'.okIn s0){n z rs row}(hr:VRr η z rs row)(hl:rs.length=n):
  YR C η ⟨.sl nx n z rs,σ'.set (sO (.tok (n*z))) nx,nx+1⟩ (.d (.sl t' n z row)) (s0.own t' (n*z)):=by
 have f0:=hN.free nx (ZEP _)
 have hsub:=Nm.put_sub f0 t'
 refine⟨_,hsub,hN.put _,?_,_,.sl _ _ _ _ _ _ (hr.mono hsub) hl (.inr (Nm.put_same _ _ _)),rfl⟩
 cases t' with
 |tip b=>exact hS.new f0 ht (.tok _)
 |full=>exact hS.newFull f0 _
 |none=>exact ht.elim
theorem Zmj(hS:Sim C η σ s)(hN:Yo η nx){dst g}(hg:Zk ρ' g=sO true){e z b zd x y p q dx dy}(hx:ZC ρ' true x=sO (p,.d dx))(hy:ZC ρ' true y=sO (q,.d dy))(hp:p)(hq:q){t n m τ row row2 rs rs2}(hsl:Zdf z dx=sO (τ,n,row))(ht:t=0∨η t=sO τ)(hr:VRr η z rs row)(hl:rs.length=n)(hel:QK P s z dy m row2)(hr2:VRr η z rs2 row2)(hl2:rs2.length=m){r}(h:ZqG z b σ nx t n m rs rs2=sO r)(hc:∀e s2,YR C η r e s2→DO F kp dk os (Zv ρ' dst e) L' s2):DO F kp dk (⟨dst,g,.append e z b zd x y⟩::os) ρ' L' s:=by
 obtain⟨hb,hh⟩:=Zw h;replace h:=hh;clear hh
 simp at hb
 split at h<;>simp at h
 rename_i σ' hσ
 subst h
 obtain⟨s0,rfl,hok,hS'⟩:=Zvf hS hN ht hσ
 refine ZtR hg rfl hx hsl hy hp hq hel hok hb.1 hb.2 fun t' ht'=>hc _ _ ?_
 have:=hr.append hr2
 rw[hl]at this
 rw[Zgg hl]
 exact YR.tok hS' hN ht' this (by simp[hl,hl2])
theorem Zmi(hS:Sim C η σ s)(hN:Yo η nx){dst g}(hg:Zk ρ' g=sO true){e z b zd x y p q dx dy}(hx:ZC ρ' true x=sO (p,.d dx))(hy:ZC ρ' true y=sO (q,.d dy))(hp:p)(hq:q){m row row2 rs2}(hsl:Zdf z dx=sO (.full,0,row))(hm:0<m)(hel:QK P s z dy m row2)(hr2:VRr η z rs2 row2){r}(h:ZqF z b σ nx m rs2=sO r)(hc:∀e s2,YR C η r e s2→DO F kp dk os (Zv ρ' dst e) L' s2):DO F kp dk (⟨dst,g,.append e z b zd x y⟩::os) ρ' L' s:=by
 obtain⟨hb,hh⟩:=Zw h;replace h:=hh;clear hh
 simp at hb
 split at h<;>(try(grind;done))
 rename_i cs hcs
 obtain⟨g1,g2⟩:=hr2.flat hcs
 refine Zw2 hg rfl hx hsl hy hel hp hq hm hb.1 hb.2 fun c cap hc0 hcap=>hc _ _ (YR.buf hS hN hc0 g1 hcap ?_ h)
 have:=g1.len
 have e1:m*z+(cap-m)*z=cap*z:=by rw[←ZE2];congr 1;omega
 simp_all
theorem Zu3{cs o xs}:Zu cs o xs=cs.take o++xs++cs.drop (o+xs.length):=rfl
theorem Zra(hS:Sim C η σ s)(hN:Yo η nx){dst g}(hg:Zk ρ' g=sO true){e z bt zd x y p q dx dy}(hx:ZC ρ' true x=sO (p,.d dx))(hy:ZC ρ' true y=sO (q,.d dy))(hp:p)(hq:q){k o n m cap z' row2 rs2}(hv:VR η (.msl k o n cap z') dx)(hel:QK P s z dy m row2)(hr2:VRr η z rs2 row2){mu}{r}(h:Zw8 mu z bt σ nx (.msl k o n cap z') m rs2=sO r)(hc:∀e s2,YR C η r e s2→DO F kp dk os (Zv ρ' dst e) L' s2):DO F kp dk (⟨dst,g,.append e z bt zd x y⟩::os) ρ' L' s:=by
 obtain⟨hb,hh⟩:=Zw h;replace h:=hh;clear hh
 simp at hb
 obtain⟨⟨rfl,hb1⟩,hb2⟩:=hb
 split at h<;>(try(simp at h;done))
 rename_i cs2 hcs2
 obtain⟨g1,g2⟩:=hr2.flat hcs2
 have hfl:((ZEO m).flatMap row2).length=m*z':=by rw[←g1.len,g2]
 cases hv with
 |gsl _ b _ _ cap' _ c hb h2 hcap hlc =>
  simp only at h
  split at h<;>(try(simp at h;done))
  rename_i cs hcs
  obtain⟨ho,hh⟩:=Zw h;replace h:=hh;clear hh
  rw[ZZ]at ho
  subst ho
  split at h<;>(try(simp at h;done))
  rename_i c1 hc1
  obtain⟨t1,rfl⟩:=JO hc1
  obtain⟨b',d,e0,e1,e2⟩:=hS.get hcs (fun n=>by simp)
  rw[hb]at e0
  cases e0
  cases e2 with
  |buf _ ds ex hds hce =>
   rw[h2]at hce
   cases hce
   have hl:=hds.len
   have htl:(cs.take (n*z')).length=n*z':=by rw[ZEU];omega
   rw[Zgg htl]at h
   have hnc:n*z'≤cap'*z':=ZEW _ hcap
   have hadd:(n+m)*z'=n*z'+m*z':=ZE2 _ _ _
   have hvs:VRs η (cs.take (n*z')++cs2) ((ds++ex).take (n*z')++(ZEO m).flatMap row2):=by
    rw[List.take_append_of_le_length (by omega)]
    exact(hds.take _).append g1
   refine ZnM hg rfl hx hy hp hq (Jh e1) (by omega) hel (fun hle=>⟨rfl,?_⟩) hb1 hb2 (fun hle=>?_) (fun c cap2 _ hc0 hcap2=>?_)
   ·have:=ZEW z' hle;omega
   ·rw[Zu3]
    refine hc _ _ (YR.bufMove hS hN hcs hb rfl hvs hle ?_ h)
    simp at hlc⊢
    omega
   ·have hp0:part (ds++ex) 0 (n*z')=(ds++ex).take (n*z'):=by simp[part]
    refine hc _ _ (YR.buf (hS.forget k) hN hc0 hvs hcap2 ?_ h)
    have e1:(n+m)*z'+(cap2-(n+m))*z'=cap2*z':=by rw[←ZE2];congr 1;omega
    simp[hfl]at hlc⊢
    omega
 |msl _ b _ _ cap _ hb =>
  simp only at h
  split at h<;>(try(simp at h;done))
  rename_i cs hcs
  obtain⟨ds,ex,e1,e2⟩:=hS.cells (vs:=cs) (by rw[hcs];rfl) hb
  have hl:=e2.len
  have hadd:(n+m)*z'=n*z'+m*z':=ZE2 _ _ _
  split at h
  ·rename_i hle
   rw[JW]at hle
   obtain⟨ho,hh⟩:=Zw h;replace h:=hh;clear hh
   rw[ZZ]at ho
   subst ho
   split at h<;>simp at h
   rename_i cs' hset
   subst h
   obtain⟨f0,f1,f2⟩:=e2.over g1 hset
   refine ZnM hg rfl hx hy hp hq (Jh e1) (by simp;omega) hel (fun _=>⟨rfl,by simp;omega⟩) hb1 hb2 (fun _=>?_) (fun c cap2 hlt _ _=>by omega)
   rw[ZkY (by rw[hfl];omega)]
   exact hc _ _ (YR.turn hS hN hcs hb (.cells _ _ _ f2) (.msl _ _ _ _ _ _ hb))
  ·rename_i hle
   have hle:cap<n+m:=by
    have:¬n+m≤cap:=fun h=>hle (JW.2 h)
    omega
   obtain⟨ho,hh⟩:=Zw h;replace h:=hh;clear hh
   rw[JW]at ho
   split at h<;>(try(simp at h;done))
   rename_i c1 hc1
   obtain⟨t1,rfl⟩:=JO hc1
   rw[Q4]at h t1
   have htl:((cs.drop o).take (n*z')).length=n*z':=by rw[ZEU];omega
   rw[Zgg htl]at h
   have hp0:part (ds++ex) o (n*z')=(ds.drop o).take (n*z'):=by
    simp only[part]
    rw[List.drop_append_of_le_length (by omega),List.take_append_of_le_length (by rw[ZFh];omega)]
   refine ZnM hg rfl hx hy hp hq (Jh e1) (by simp;omega) hel (fun h=>by omega) hb1 hb2 (fun h=>by omega) (fun c cap2 _ hc0 hcap2=>?_)
   rw[hp0]
   refine hc _ _ (YR.buf hS hN hc0 (((e2.drop o).take _).append g1) hcap2 ?_ h)
   have e1:(n+m)*z'+(cap2-(n+m))*z'=cap2*z':=by rw[←ZE2];congr 1;omega
   have:((ds.drop o).take (n*z')).length=n*z':=by rw[ZEU,ZFh];omega
   simp[hfl]
   omega
theorem Zug(hS:Sim C η σ s)(hN:Yo η nx)(hρ:Z0 η L ρ ρd){dst g}(hg:Zk ρ' g=sO true){e z b zd x y mu db r}(h:(opF mu db (.append e z b zd x y)).run ρ σ nx=sO r)(hag:Zy ρd ρ' (ZN x++ZN y))(hc:∀e s2,YR C η r e s2→DO F kp dk os (Zv ρ' dst e) L' s2):DO F kp dk (⟨dst,g,.append e z b zd x y⟩::os) ρ' L' s:=by
 obtain⟨xv,hx,hh⟩:=Wy h;replace h:=hh;clear hh
 obtain⟨yv,hy,hh⟩:=Wy h;replace h:=hh;clear hh
 split at h<;>(try(grind;done))
 rename_i m rs2 hsrc
 obtain⟨p,dx,a1,a2,a3⟩:=Ww hρ hx (fun t ht=>hag t (by simp[ht]))
 obtain⟨q,dy,b1,b2,b3⟩:=Ww hρ hy (fun t ht=>hag t (by simp[ht]))
 obtain⟨row2,hel,hr2,hl2⟩:=ZzA (P:=P) hS b3 hsrc
 cases a3<;>(try(cases h;done))
 case nilsl =>
  simp only[Zw8]at h
  split at h
  ·rename_i hm
   simp at hm
   exact Zmi hS hN hg a1 b1 a2 b2 rfl (by omega) hel hr2 h hc
  ·exact Zmj hS hN hg a1 b1 a2 b2 rfl (.inr hN.o) (.nil _ _) rfl hel hr2 hl2 h hc
 case sl t n z' rs τ row h1 h2 h3 =>
  obtain⟨hz,hh⟩:=Zw h;replace h:=hh;clear hh
  rw[ZZ]at hz
  subst hz
  split at h
  ·rename_i hm
   simp at hm
   obtain⟨⟨⟨_,hm⟩,rfl⟩,rfl⟩:=hm
   have hτ:=h3.resolve_left (by omega)
   rw[hN.o]at hτ
   cases hτ
   exact Zmi (row:=row) hS hN hg a1 b1 a2 b2 (by simp[Zdf]) (by omega) hel hr2 h hc
  ·exact Zmj hS hN hg a1 b1 a2 b2 (by simp[Zdf]) h3 h1 h2 hel hr2 hl2 h hc
 case msl k b' o n cap z' hb=>exact Zra hS hN hg a1 b1 a2 b2 (.msl _ _ _ _ _ _ hb) hel hr2 h hc
 case gsl k b' o n cap z' c hb h2 hcap hl0=>exact Zra hS hN hg a1 b1 a2 b2 (.gsl _ _ _ _ _ _ _ hb h2 hcap hl0) hel hr2 h hc
theorem Zxs(hS:Sim C η σ s)(hN:Yo η nx)(hρ:Z0 η L ρ ρd){dst g}(hg:Zk ρ' g=sO true){len n z is xs mu db r}(h:(opF mu db (.bsl len n z is xs)).run ρ σ nx=sO r)(hag:Zy ρd ρ' (ZaK xs))(hmu:(mu&&db&&Nat.ble 1 len)=true)(hc:∀e s2,YR C η r e s2→DO F kp dk os (Zv ρ' dst e) L' s2):DO F kp dk (⟨dst,g,.bsl len n z is xs⟩::os) ρ' L' s:=by
 simp only[opF]at h
 cases hz:ofDs z<;>simp only[hz,reduceCtorEq]at h
 split at h<;>(try(grind;done))
 rename_i vs hvs
 obtain⟨hp,hh⟩:=Zw h;replace h:=hh;clear hh
 rw[hmu,if_pos rfl]at h
 split at h<;>simp at h
 rename_i cs hcs
 subst h
 simp at hp hmu
 obtain⟨p,ds,a1,a2,a3⟩:=Zal hρ hvs
 rw[←WW hag]at a1
 obtain⟨g1,g2⟩:=Zlx (is:=is) (ofDs_ok hz) hp.2 a3 hp.1 len 0
 obtain⟨g3,g4⟩:=g1.flat hcs
 simp at g3
 exact Zs6 hg rfl a1 (Zap ds) a2 (ZiR a3 hp.1) hmu.2 fun b hb=>hc _ _ (YR.new hS hN hb (OR.cells0 (g3.mono (Nm.put_sub (hN.free nx (ZEP _)) _))) (.msl _ _ _ _ _ _ (Nm.put_same _ _ _)))
end
section
variable {C:Px} {η:Nm} {σ:S} {s:St} {L:Loc} {ρ:T W} {ρd:Env} {nx:Nat}
variable {P:Program} {F:Fr P} {kp:Option (List Nat)} {dk:List WL} {os:List DOp} {ρ':Env} {L':Loc}
theorem ZvS(hS:Sim C η σ s)(hN:Yo η nx)(hρ:Z0 η L ρ ρd){dst g k}(hg:Zk ρ' g=sO true)(hgk:(gk k ||g.isNone)=true)(hk:YB k=false)(hf:ZiN k=true){mu r}(h:(opF mu dst.isSome k).run ρ σ nx=sO r)(hag:Zy ρd ρ' (Zz ⟨dst,g,k⟩))(hc:∀e s2,YR C η r e s2→DO F kp dk os (Zv ρ' dst e) L' s2):DO F kp dk (⟨dst,g,k⟩::os) ρ' L' s:=by
 have hag:Zy ρd ρ' (Yw k):=fun t ht=>hag t (by simp[Zz,ht])
 have hng:gk k=false→g=nO:=fun hh=>by
  rw[hh,Bool.false_or]at hgk
  cases g<;>simp_all
 cases k<;>simp only[YB,Bool.true_eq_false]at hk
 case alloc z=>obtain rfl:=hng rfl;exact ZvO hS hN h hc
 case box x=>obtain rfl:=hng rfl;exact Zy4 hS hN hρ h hag hc
 case store1 a v=>obtain rfl:=hng rfl;exact Zuk hS hN hρ h hag hc
 case storeN n a v=>obtain rfl:=hng rfl;exact Zul hS hN hρ h hag hc
 case append e z b zd x y=>exact Zug hS hN hρ hg h hag hc
 case mkmap=>obtain rfl:=hng rfl;exact ZvR hS hN h hc
 case mapupd kp' m k v=>obtain rfl:=hng rfl;exact Zuj hS hN hρ h hag hc
 case mapent kp' z m k=>obtain rfl:=hng rfl;exact Zui hS hN hρ h hag hc
 case entst m st v=>obtain rfl:=hng rfl;exact ZvQ hS hN hρ h hag hc
 case mkslice e n b z l c=>obtain rfl:=hng rfl;exact Zsy hS hN hρ h hag hc
 case delete kp' m k=>obtain rfl:=hng rfl;exact Zuh hS hN hρ h hag hc
 case clear n z x=>exact ZvP hS hN hρ hg h hag hc
 case fork k=>simp[ZiN]at hf
 all_goals simp[opF]at h
theorem ZAp{mu db k}(hk:YB k=true)(hb:(∃len n z is xs,k=.bsl len n z is xs∧(mu&&db&&Nat.ble 1 len)=true)→False){r}(h:(opF mu db k).run ρ σ nx=sO r):(opF false db k).run ρ σ nx=sO r:=by
 cases k<;>simp only[YB,ZE3]at hk
 case bsl len n z is xs =>
  have hm:(mu&&db&&Nat.ble 1 len)=false:=by
   cases hh:(mu&&db&&Nat.ble 1 len)
   ·rfl
   ·exact(hb ⟨_,_,_,_,_,rfl,hh⟩).elim
  simp only[opF]at h⊢
  cases hz:ofDs z<;>simp only[hz,reduceCtorEq]at h⊢
  simp only[hm,ZE3,if_false]at h
  simpa only[ZE8,ZE3,if_false]using h
 all_goals exact h
theorem Zl6(ρ l):Zy ρ ρ l:=fun _ _=>rfl
theorem ZAY(hS:Sim C η σ s)(hN:Yo η nx)(hρ:Z0 η L ρ ρd){dst g k}(hg:Zk ρd g=sO true)(hgk:(gk k ||g.isNone)=true)(hf:ZiN k=true){mu r}(h:(opF mu dst.isSome k).run ρ σ nx=sO r)(hc:∀η' e s2,η.Sub η'→Yo η' r.nx→Sim C η' r.σ s2→WR η' L (.v r.v) e→DO F kp dk os (Zv ρd dst e) L s2):DO F kp dk (⟨dst,g,k⟩::os) ρd L s:=by
 have hc':∀e s2,YR C η r e s2→DO F kp dk os (Zv ρd dst e) L s2:=fun e s2 hr=>by
  obtain⟨η',h1,h2,h3,d,h4,rfl⟩:=hr
  exact hc η' _ s2 h1 h2 h3 ⟨d,h4,.inl rfl⟩
 cases hk:YB k with
 |false=>exact ZvS hS hN hρ hg hgk hk hf h (Zl6 _ _) hc'
 |true =>
  by_cases hb:∃len n z is xs,k=.bsl len n z is xs∧(mu&&dst.isSome&&Nat.ble 1 len)=true
  ·obtain⟨len,n,z,is,xs,rfl,hm⟩:=hb
   exact Zxs hS hN hρ hg h (Zl6 _ _) hm hc'
  ·obtain⟨e1,e2,side,e,e3,e4,e5⟩:=Zpi (L:=L) hS hN.o hρ hg hk (ZAp hk hb h)
   exact Qg e4 e3 (hc η e s (Nm.Sub.refl _) (by rw[e2];exact hN) (by rw[e1];exact hS) e5)
end
theorem T.get_lt{α}{t:T α}{k a}(h:t.get k=sO a):k<32768:=by
 unfold T.get T.getF at h
 cases hb:Nat.blt k 32768 with
 |false=>rw[hb]at h;grind
 |true=>simpa using hb
theorem Q5{ρ t e}(he:ZH ρ t=sO e):∀{ks},t∈ks→ZH (Yh ρ ks) t=sO e
 | [],h=>by grind
 |k::ks,h=>by
  simp[Yh]
  by_cases hk:k=t
  ·subst hk
   simp[he,ZH]
  ·have ht:t∈ks:=by simpa[Ne.symm hk]using h
   split
   ·simp[ZH,hk];exact Q5 he ht
   ·exact Q5 he ht
theorem Zeq{t e}(hl:WE e=[]):∀{ρ},ZH ρ t=sO e→ZH (KO ρ) t=sO e
 | [],h=>by cases h
 | (k,x)::r,h=>by
  simp[ZH]at h
  simp[KO]
  by_cases hk:k=t
  ·simp[hk]at h
   subst h
   simp[hl,ZH,hk]
  ·simp[hk]at h
   split
   ·simp[ZH,hk];exact Zeq hl h
   ·exact Zeq hl h
section
variable {η:Nm} {L:Loc} {ρ:T W} {ρd:Env}
theorem WR.locs{w e}(h:WR η [] w e)(hl:live [] w=true):WE e=[]:=by
 cases w with
 |v x =>
  obtain⟨d,_,rfl|rfl⟩:=h<;>rfl
 |loc l o=>cases hl
 |skip =>
  have h':e=.when false (.d (.bool false)):=h
  subst h';rfl
theorem Z0.keep(h:Z0 η L ρ ρd):Z0 η L ρ (Yh ρd ZnR):=fun t w hw hl=>by
 obtain⟨e,h1,h2⟩:=h t w hw hl
 exact⟨e,Q5 h1 (List.mem_range.2 (T.get_lt hw)),h2⟩
theorem Z0.round(h:Z0 η [] ρ ρd):Z0 η [] ρ (Wc ZnR ρd):=fun t w hw hl=>by
 obtain⟨e,h1,h2⟩:=h.keep t w hw hl
 exact⟨e,Zeq (h2.locs hl) h1,h2⟩
theorem Z0.nil:Z0 η L T.nil ρd:=fun t w hw=>by simp[T.get_nil]at hw
theorem Z0.set(h:Z0 η L ρ ρd){v d}(hv:VR η v d)(t):Z0 η L (ρ.set (sO (.v v)) t) ((t,.d d)::ρd):=fun t' w hw hl=>by
 rcases T.get_set hw with ⟨rfl,h1⟩|⟨hne,h1⟩
 ·cases h1
  exact⟨.d d,by simp[ZH],d,hv,.inl rfl⟩
 ·obtain⟨e,h2,h3⟩:=h t' w h1 hl
  exact⟨e,by simp[ZH];rw[if_neg (Ne.symm hne)];exact h2,h3⟩
theorem Zpl:∀{ts} {vs} {ds} {ρ} {ρd},Z0 η L ρ ρd→VRs η vs ds→Z0 η L (ZeF ts vs ρ) (YZ ts ds ρd)
 | [],_,_,_,_,h,_=>by simpa[ZeF,YZ]using h
 |_::_,[],_,_,_,h,hv=>by cases hv;simpa[ZeF,YZ]using h
 |t::ts,v::vs,_,_,_,h,hv=>by
  obtain⟨d,ds,rfl,h1,h2⟩:=hv.inv
  exact Zpl (ts:=ts) (h.set h1 t) h2
theorem Zo7:∀{vs i ρ t w},(ZmD i vs ρ).get t=sO w→(∃j v,t=i+j∧vs[j]?=sO v∧w=.v v)∨ρ.get t=sO w
 | [],i,ρ,t,w,h=>.inr h
 |v::vs,i,ρ,t,w,h=>by
  rcases Zo7 (vs:=vs) (i:=i+1) h with ⟨j,v',rfl,h1,h2⟩|h1
  ·exact .inl ⟨j+1,v',by omega,by simpa using h1,h2⟩
  ·rcases T.get_set h1 with ⟨rfl,h2⟩|⟨_,h2⟩
   ·simp at h2
    exact .inl ⟨0,v,rfl,rfl,h2.symm⟩
   ·exact .inr h2
theorem ZkH:∀{ds i j d},ds[j]?=sO d→ZH (KM i ds) (i+j)=sO (.d d)
 | [],i,j,d,h=>by grind
 |x::ds,i,0,d,h=>by
  cases h
  simp[KM,ZH]
 |x::ds,i,j+1,d,h=>by
  have:=ZkH (ds:=ds) (i:=i+1) (j:=j) (by simpa using h)
  simp only[KM,ZH]
  rw[if_neg (by omega),show i+(j+1)=i+1+j by omega]
  exact this
theorem Zv3{vs ds}(hv:VRs η vs ds):Z0 η L (ZmD 0 vs T.nil) (KM 0 ds):=fun t w hw _=>by
 rcases Zo7 hw with ⟨j,v,rfl,h1,rfl⟩|h
 ·obtain⟨d,h2,h3⟩:=hv.get h1
  exact⟨.d d,ZkH h2,d,h3,.inl rfl⟩
 ·simp[T.get_nil]at h
end
def ZAl:E→E
 |.when c e=>match c,e with
  |true,.d d=>.d d
  |c,e=>.when c e
 |e=>e
def nrm:Env→Env
 | []=>[]
 | (t,e)::r=>(t,ZAl e)::nrm r
theorem Zg8:∀(ρ t),ZH (nrm ρ) t=(ZH ρ t).map ZAl
 | [],t=>rfl
 | (k,e)::r,t=>by
  simp[nrm,ZH]
  split
  ·rfl
  ·exact Zg8 r t
theorem Zt.nrm(m:Zt g ν w tmps ρ L s):Zt g ν w tmps (nrm ρ) L s:={
 st:=m.st
 loc:=m.loc
 locKept:=m.locKept
 locSt:=m.locSt
 inj:=m.inj
 env t e h:=by
  rw[Zg8]at h
  simp at h
  obtain⟨e0,h1,rfl⟩:=h
  have h2:=m.env t e0 h1
  cases e0 with
  |d d=>exact h2
  |loc l o=>exact h2
  |when c e =>
   cases c with
   |false=>exact h2
   |true =>
    cases e with
    |d d=>exact h2.1 rfl
    |loc l o=>exact h2
    |when c e=>exact h2 }
theorem Zqu{P}{F:Fr P}{dk ρ L s}(h:Zs F dk (nrm ρ) L s):Zs F dk ρ L s :=
 fun k hk g ν w tmps hN m=>h k hk g ν w tmps hN m.nrm
theorem ZtZ{P}{F:Fr P}{ρ L d s}(h:YN F (nrm ρ) L d s):YN F ρ L d s :=
 fun g ν w v todo tmps hN m hr=>h g ν w v todo tmps hN m.nrm hr
def ZnN(η:Nm)(ρ:T W)(ρd:Env):Prop:=∀t x,ρ.get t=sO (.v x)→∃d,ZH ρd t=sO (.d d)∧VR η x d
section
variable {C:Px} {η:Nm} {σ:S} {s:St} {L:Loc} {ρ:T W} {ρd:Env} {nx:Nat}
theorem Z0.nrm(h:Z0 η L ρ ρd):ZnN η ρ (nrm ρd):=fun t x hx=>by
 obtain⟨e,h1,d,h2,rfl|rfl⟩:=h t _ hx rfl
 ·exact⟨d,by rw[Zg8,h1];rfl,h2⟩
 ·exact⟨d,by rw[Zg8,h1];rfl,h2⟩
theorem ZnN.mono{η'}(h:ZnN η ρ ρd)(hs:η.Sub η'):ZnN η' ρ ρd:=fun t x hx=>by
 obtain⟨d,h1,h2⟩:=h t x hx
 exact⟨d,h1,h2.mono hs⟩
theorem ZAA(hS:Sim C η σ s)(h1:η 1=sO .full)(hρ:ZnN η ρ ρd){r v}(h:rvV ρ σ r=sO v):∃p d,WF ρd [] s r=sO (p,d)∧p∧VR η v d:=by
 have key:∀{t:Nat} {a:V},(YI (.tmp t)).run ρ=sO a→∃d,ZH ρd t=sO (.d d)∧VR η a d:=fun{t a} ha=>hρ t a (Zyz (x:=ρ.get t) ha)
 cases r with
 |tmp t =>
  obtain⟨d,a1,a2⟩:=key h
  exact⟨True,d,by simp[WF,a1],trivial,a2⟩
 |cell1 t =>
  simp[rvV]at h
  split at h<;>(try(grind;done))
  rename_i a ha
  obtain⟨d,a1,a2⟩:=key ha
  obtain⟨side,e,b1,b2,b3⟩:=ZuQ (L:=[]) hS h1 (.one a2) h
  simp only[ZEQ,ZE6,qv,ZEN,ZEL,E.d.injEq]at b1
  obtain⟨x,c1,c2,rfl⟩:=b1
  exact⟨True,x,by simp[WF,a1,c1],trivial,b3⟩
 |cellN t n =>
  simp[rvV]at h
  split at h<;>(try(grind;done))
  rename_i a ha
  obtain⟨d,a1,a2⟩:=key ha
  obtain⟨side,e,b1,b2,b3⟩:=ZuQ (L:=[]) hS h1 (.one a2) h
  simp only[ZEQ,ZE6,qv,ZEN]at b1
  obtain⟨x,c1,rfl,rfl⟩:=b1
  exact⟨x.1,.agg x.2,by simp[WF,a1,c1],b2,b3⟩
theorem Zog(hS:Sim C η σ s)(h1:η 1=sO .full)(hρ:ZnN η ρ ρd):∀{rs vs},Zr2 ρ σ rs=sO vs→∃p ds,Yk ρd [] s rs=sO (p,ds)∧p∧VRs η vs ds
 | [],vs,h=>by
  cases h
  exact⟨True,[],rfl,trivial,.nil⟩
 |r::rs,vs,h=>by
  simp[Zr2]at h
  split at h<;>(try(grind;done))
  rename_i v hv
  split at h<;>simp at h
  rename_i vs' hvs
  subst h
  obtain⟨p,d,a1,a2,a3⟩:=ZAA hS h1 hρ hv
  obtain⟨q,ds,b1,b2,b3⟩:=Zog hS h1 hρ hvs
  exact⟨p∧q,d::ds,by simp[Yk,a1,b1],⟨a2,b2⟩,.cons _ _ _ _ a3 b3⟩
theorem Zwf{vs}{ds}(h:VRs η vs ds):VR η (mkV vs) (KN ds):=by
 cases h with
 |nil=>exact .tup _ _ .nil
 |cons v d vs ds h t =>
  cases t with
  |nil=>exact h
  |cons v' d' vs ds h' t=>exact .tup _ _ (.cons _ _ _ _ h (.cons _ _ _ _ h' t))
theorem ZtF{v d}(h:VR η v d)(hr:Zu0 v=true):ZeI d:=by
 cases h<;>simp only[Zu0,ZE3]at hr<;>simp[ZeI,J5]
 ·exact Zts hr
 ·rw[JW]at hr;simpa using hr
theorem Zhr:∀{vs ds},VRs η vs ds→Zj9 vs=true→Za5 ds
 | [],_,h,_=>by cases h;trivial
 |v::vs,_,h,hr=>by
  obtain⟨d,ds,rfl,h1,h2⟩:=h.inv
  simp[Zj9]at hr
  exact⟨ZtF h1 hr.1,Zhr h2 hr.2⟩
def ZfI(C:Px)(η:Nm)(o:Out)(r:Res)(s:St):Prop :=
 ∃η' d,η.Sub η'∧Yo η' o.nx∧Sim C η' o.σ s∧VR η' o.v d∧r=if o.pan then .panic d else .ret d
theorem ZfI.mono{η' o r}(h:ZfI C η' o r s)(hs:η.Sub η'):ZfI C η o r s:=by
 obtain⟨η2,d,h1,h2⟩:=h
 exact⟨η2,d,hs.trans h1,h2⟩
inductive DdR(η:Nm):List Dd→List DD→Prop where
 |nil:DdR η [] []
 |mark (q b:Nat) (r:List Dd) (r':List DD) (h:η q=some (.tip b)) (t:DdR η r r'):DdR η (.mark q::r) (.mark b::r')
 |fn (i:FuncId) (a c:List V) (da dc:List D) (r:List Dd) (r':List DD) (ha:VRs η a da) (hc:VRs η c dc) (h1:Za5 da) (h2:Za5 dc) (t:DdR η r r'):DdR η (.fn i a c::r) (.fn i da dc::r')
theorem DdR.mono{η'}(hs:η.Sub η'):∀{r r'},DdR η r r'→DdR η' r r'
 |_,_,.nil=>.nil
 |_,_,.mark q b r r' h t=>.mark q b r r' (hs _ _ h) (t.mono hs)
 |_,_,.fn i a c da dc r r' ha hc h1 h2 t=>.fn i a c da dc r r' (ha.mono hs) (hc.mono hs) h1 h2 (t.mono hs)
def FmR(C:Px)(η:Nm)(fm:Fm)(o:Out)(F:Fr C.P):Prop :=
 F.b.fn=fm.f∧F.N=fm.n∧F.an=C.an fm.f∧match fm.k with
  |.fn res=>∃Φ dds,Yy F res Φ dds∧DdR η fm.ds dds∧∀r s,ZfI C η o r s→Φ r s
  |.rnd l=>∃b Φ,η l=sO (.tip b)∧KL F b Φ∧∀r s,ZfI C η o r s→Φ r s
  |.dfd pd rec=>∃m Ψ,J6 F m Ψ rec∧(match pd,m with
    |some v,sO d=>VR η v d
    |none,nO=>True
    |_,_=>False)∧∀s b,o.pan=false→o.v=.bool b→ZfI C η o (.ret (.bool b)) s→Ψ b s
end
section
variable {P:Program}
theorem ZpF{an l N r s da db args Φ}(hs:s l=sO (.loop r .ready))(hlen:args.length=r.params.length)(ha:cc P an N r.assign=sO da)(hb:cc P an N r.body=sO db)(hN:r.N=N)(hp:∀t∈r.params,t<N)(h:∀F:Fr P,KL F l Φ→F.b.fn=r.fn→F.N=N→F.an=an→Zs F [.code da,.beginR,.code db] (YZ r.params args r.ρ) [] s):WV P (.fn (.yield l) [] []) args s Φ:=by
 intro g w fv vs hst hf hargs
 cases hf with
 |fn _ fs cs' _ _ hn1 hn2 h1 h2 =>
 obtain rfl:fs=[]:=by simpa using hn1
 obtain⟨hp0,l0,a1,a2,a3,a4,a5,a6,a7,a8,a9,a10⟩:=hst.obj l _ hs
 have hsize:vs.toArray.size=l0.params.size:=by
  have e1:=hargs.len
  have e2:l0.params.toList.length=r.params.length:=by rw[a3]
  simp at e2⊢;omega
 refine⟨_,_,_,by simp[Deferred.ofValue];rfl,by simp[invoke,Instr.yield,Instr.getLoop,QT a1,hsize];rfl,rfl,fun c cs=>?_⟩
 have M:Zt g (fun _=>0) w l0.tmps r.ρ [] s:=⟨hst,fun l cs h=>by simp[Zf]at h,fun l cs h=>by simp[Zf]at h,fun l cs h=>by simp[Zf]at h,fun l l' cs cs' h=>by simp[Zf]at h,a8⟩
 obtain⟨hN',M'⟩:=Zho M hargs hlen (by rw[hN]at *;exact hp) (by rw[←hN];exact a7)
 have:=h (ZaL P an r.fn N l c cs Φ) ⟨an,r.fn,N,c,cs,rfl⟩ rfl rfl rfl [.code r.assign,.beginRound,.code r.body] (.code ha (.beginR (.code hb .nil))) g (fun _=>0) w _ hN' M'
 have hfr:(ZaL P an r.fn N l c cs Φ).b.atR { tmps:=(r.params.zip vs).foldl (fun tmps (x:Nat×Value)=>tmps.setIfInBounds x.1 x.2) l0.tmps,defers:=[] } [.code r.assign,.beginRound,.code r.body] =
   Frame.round l l0.fn ((l0.params.zip vs.toArray).foldl (fun tmps (x:Nat×Value)=>tmps.setIfInBounds x.1 x.2) l0.tmps) l0.assign l0.body .normal:=by
  simp only[Frame.atR,a2,a4,a5,←a3]
  congr 1
  rw[←Array.foldl_toList]
  simp
 have e:(ZaL P an r.fn N l c cs Φ).ds=[]:=rfl
 rw[e,hfr]at this
 have e2:(l0.params.zip vs.toArray).size=l0.params.size:=by simp at hsize⊢;omega
 rw[e2]at this
 exact this
theorem ZpE{an i df}(hf:cf P an i=sO df)(hres:df.res=[]){args m s Ψ}(hm:∀d,m=sO d→Zi1 d)(h:∀F:Fr P,J6 F m Ψ false→F.b.fn=i→F.N=df.n→F.an=an→Zs F [.code df.body] (KM 0 args) [] s):JA P i args m s Ψ:=by
 have hf0:=hf
 unfold cf at hf
 split at hf<;>(try(grind;done))
 rename_i fn hfn
 split at hf<;>(try(grind;done))
 rename_i c hc
 split at hf<;>(try(grind;done))
 rename_i hname
 split at hf<;>simp at hf
 rename_i rs d hrs hd
 subst hf
 refine⟨⟨fn,hfn,by simp[hc],by simpa using hname⟩,fun g w vs cfr cs hs ha hmode=>?_⟩
 obtain⟨v,hv1,hv2⟩:∃v,cfr.mode=QG m v false∧∀d,m=sO d→∀g w,Rep g w v d:=by
  cases m with
  |none=>exact⟨undef,hmode,fun d hd=>by simp at hd⟩
  |some d =>
   obtain⟨v,h1,h2⟩:=hmode
   obtain⟨v',r1,r2⟩:=Zpo (hm d rfl)
   have:=r2 g w v h2
   subst this
   exact⟨v,h1,fun d' hd'=>by simp at hd';subst hd';exact r1⟩
 have hcf:({ cfr with mode:=QG m v false }:Frame)=cfr:=by rw[←hv1]
 have henter:Frame.enter P i vs.toArray .deferred=(YW P an i fn.ntmps cfr cs Ψ m v false).b.atR { tmps:=vs.toArray++Array.replicate (fn.ntmps-vs.length) undef,defers:=[] } [.code c]:=by
  simp[Frame.enter,Frame.atR,hfn,hc,YW]
 have:=h _ ⟨an,i,_,cfr,cs,v,hf0,hres,hv1,hv2,rfl⟩ rfl rfl rfl [.code c] (.code hd .nil) g (fun _=>0) w (vs.toArray++Array.replicate (fn.ntmps-vs.length) undef) (by simp[YW];omega) (ZfY hs ha _)
 obtain⟨g',w',s',b,a1,a2,a3,a4⟩:=this
 refine⟨g',w',s',b,a1,a2,a3,?_⟩
 rw[henter]
 have hcs:(YW P an i fn.ntmps cfr cs Ψ m v false).cs=cfr::cs:=by simp[YW,hcf]
 rw[hcs]at a4
 exact a4
theorem Zsq{an f df}(hf:cf P an f=sO df){args s Φ}(h:∀F:Fr P,Yy F df.res Φ []→F.b.fn=f→F.N=df.n→F.an=an→Zs F [.code df.body] (KM 0 args) [] s):Zb P f args s Φ :=
 Zh2 hf fun cs=>h _ ⟨an,f,df,cs,hf,rfl,rfl⟩ rfl rfl rfl
end
def Zw3(C:Px)(ih:Ih):Prop:=∀fm dk ρ σ nx o,ih fm dk ρ σ nx=sO o→∀(F:Fr C.P) η ρd s,FmR C η fm o F→Z0 η [] ρ ρd→Yo η nx→Sim C η σ s→Zs F dk ρd [] s
def Q1(C:Px)(ih:Ih):Prop:=∀t,Zw3 ⟨C.toCx,t⟩ ih
theorem Q1.at{C ih}(h:Q1 C ih):Zw3 C ih:=h C.t
def Zk8(η:Nm):Option V→Option D→Prop
 |some v,sO d=>VR η v d
 |none,nO=>True
 |_,_=>False
section
variable {C:Px} {ih:Ih}
theorem Zye{η m md}(h:Zk8 η m md)(hr:ZuZ m=true):∀d,md=sO d→Zi1 d:=fun d hd=>by
 subst hd
 cases m with
 |none=>exact h.elim
 |some v =>
  have hv:VR η v d:=h
  cases hv<;>simp[ZuZ]at hr
  rename_i t v d hv
  have hv':=hv
  cases hv<;>first|exact Zhr (by assumption) hr|exact ZtF hv' hr
theorem ZgK(hih:Q1 C ih):∀{ds m σ nx m' σ' nx'},ZlS C ih ds m σ nx=sO (m',σ',nx')→∀{η dds md s},DdR η ds dds→Yo η nx→Sim C η σ s→Zk8 η m md →
  ∀{Ψ},(∀η' md' s',η.Sub η'→Yo η' nx'→Sim C η' σ' s'→Zk8 η' m' md'→Ψ md' s')→Unw C.P dds md s Ψ
 | [],m,σ,nx,m',σ',nx',h,η,dds,md,s,hd,hN,hS,hm,Ψ,hΨ=>by
  cases h
  cases hd
  exact hΨ η md s (Nm.Sub.refl _) hN hS hm
 |.mark q::r,m,σ,nx,m',σ',nx',h,η,dds,md,s,hd,hN,hS,hm,Ψ,hΨ=>by
  simp only[ZlS]at h
  split at h<;>(try(simp at h;done))
  rename_i hq
  cases hd with
  |mark _ b _ r' hb t =>
   obtain⟨b',d,e0,e1,e2⟩:=hS.get hq (fun n=>by simp)
   rw[hb]at e0
   cases e0
   cases e2
   exact⟨e1,ZgK hih h t hN (hS.take hq hb) hm hΨ⟩
 |.fn i args caps::r,m,σ,nx,m',σ',nx',h,η,dds,md,s,hd,hN,hS,hm,Ψ,hΨ=>by
  simp only[ZlS]at h
  split at h<;>(try(simp at h;done))
  rename_i n body hdf
  obtain⟨hr,hh⟩:=Zw h;replace h:=hh;clear hh
  split at h<;>(try(simp at h;done))
  rename_i b σ1 nx1 hrun
  cases hd with
  |fn _ _ _ da dc _ r' ha hc h1 h2 t =>
   refine⟨h1,h2,ZpE (an:=C.an i) hdf rfl (Zye hm hr) fun F hF e1 e2 e3=>?_⟩
   refine hih.at _ _ _ _ _ _ hrun F η _ s ⟨e1,e2,e3,md,_,hF,hm,?_⟩ (Zv3 (ha.append hc)) hN hS
   intro s1 b1 _ hb1 hp
   obtain⟨η1,d,g1,g2,g3,g4,g5⟩:=hp
   simp only[V.bool.injEq]at hb1
   subst hb1
   exact ZgK hih h (t.mono g1) g2 g3 (by
    cases b with
    |true=>trivial
    |false =>
     cases m<;>cases md<;>first|trivial|exact hm.elim|exact VR.mono g1 hm) fun η2 md2 s2 k1 k2 k3 k4=>hΨ η2 md2 s2 (g1.trans k1) k2 k3 k4
end
def ZA0(C:Cx)(r:Zbt)(st:Option DC)(busy:Bool)(lst:LSt):Prop:=match st,busy,lst with
 |none,false,.ready=>True
 |none,true,.busy=>True
 |some dj,false,.done j=>cc C.P (C.an r.fn) r.N j=sO dj
 |_,_,_=>False
section
variable {C:Px} {ih:Ih} {η:Nm} {σ:S} {s:St} {ρ:T W} {ρd:Env} {nx:Nat}
theorem ZiJ(hS:Sim C η σ s){l b}(hb:η l=sO (.tip b)){st now busy σ'}(h:loopTo σ l st now busy=sO σ'):
  ∃r lst,s b=sO (.loop r lst)∧(now=false→lst=.ready)∧(now=true→lst=.busy)∧∀lst',ZA0 C r st busy lst'→Sim C η σ' (s.upd b (.loop r lst')):=by
 unfold loopTo at h
 split at h<;>(try(grind;done))
 rename_i f n ps a b0 ρ0 bs hl
 obtain⟨hbs,hh⟩:=Zw h;replace h:=hh;clear hh
 cases h
 obtain⟨b',d,e0,e1,e2⟩:=hS.get hl (fun n=>by simp)
 rw[hb]at e0
 cases e0
 have hbs':bs=now:=by simpa using hbs
 subst hbs'
 cases e2 with
 |loop _ _ _ _ _ _ _ _ r lst hf hn hps hlt ha hbb hρ hst =>
  subst hf;subst hn
  refine⟨r,lst,e1,fun hb0=>?_,fun hb0=>?_,fun lst' hst'=>hS.upd hl hb (.loop _ _ _ _ _ _ _ _ r lst' rfl rfl hps hlt ha hbb hρ ?_)⟩
  ·subst hb0;cases lst<;>first|rfl|exact hst.elim
  ·subst hb0;cases lst<;>first|rfl|exact hst.elim
  ·cases st<;>cases busy<;>cases lst'<;>exact hst'
theorem ZtE(hih:Q1 C ih){fm fell o}(h:ZuY C ih fm ρ σ nx fell=sO o){F}(hF:FmR C η fm o F)(hρ:Z0 η [] ρ ρd)(hN:Yo η nx)(hS:Sim C η σ s):
  (fell=true→Zs F [] ρd [] s)∧(fell=false→∀dk,Zs F (.code .ret::dk) ρd [] s):=by
 obtain⟨_,_,_,hk⟩:=hF
 unfold ZuY at h
 split at h
 ·rename_i res hfk
  rw[hfk]at hk
  obtain⟨Φ,dds,hI,hdd,hΦ⟩:=hk
  split at h<;>(try(grind;done))
  rename_i σ1 nx1 hu
  split at h<;>simp at h
  rename_i vs hvs
  subst h
  have hU:Unw C.P dds nO s (ZjM (nrm ρd) [] res Φ):=ZgK hih hu hdd hN hS (md:=nO) trivial fun η1 md1 s1 k1 k2 k3 k4=>by
   cases md1 with
   |some d=>exact k4.elim
   |none =>
    obtain⟨p,ds,g1,g2,g3⟩:=Zog k3 k2.o (hρ.nrm.mono k1) hvs
    exact⟨p,ds,_,s1,g1,g2,ZEF _,ZEB _,hΦ _ _ ⟨η1,_,k1,k2,k3,Zwf g3,rfl⟩⟩
  exact⟨fun _=>Zqu (hI.finU hU),fun _ dk=>Zqu (hI.retU hU)⟩
 ·rename_i l hfk
  rw[hfk]at hk
  obtain⟨b,Φ,hb,hI,hΦ⟩:=hk
  split at h<;>simp at h
  rename_i σ1 hl
  subst h
  obtain⟨r,lst,e1,_,e2,e3⟩:=ZiJ hS hb hl
  obtain rfl:=e2 rfl
  refine⟨fun hf=>?_,fun hf dk=>?_⟩
  ·subst hf
   exact hI.fin e1 (ZEB _) (hΦ _ _ ⟨η,_,Nm.Sub.refl _,hN,e3 .ready trivial,.bool true,rfl⟩)
  ·subst hf
   exact hI.ret e1 (ZEB _) (hΦ _ _ ⟨η,_,Nm.Sub.refl _,hN,e3 (.done .ret) rfl,.bool false,rfl⟩)
 ·rename_i pd rec hfk
  rw[hfk]at hk
  obtain⟨m,Ψ,hI,hm,hΨ⟩:=hk
  split at h<;>cases h
  have hpm:pd.isNone=m.isNone:=by cases pd<;>cases m<;>first|rfl|exact hm.elim
  have hq:Ψ (m.isNone ||rec) s:=hΨ s _ rfl (by simp[hpm]) ⟨η,_,Nm.Sub.refl _,hN,hS,by rw[hpm];exact .bool _,rfl⟩
  exact⟨fun _=>hI.fin (ZEB _) hq,fun _ dk=>hI.ret (ZEB _) hq⟩
theorem Zgt(hih:Q1 C ih){fm v d o}(h:ZlB C ih fm ρ v σ nx=sO o){F}(hF:FmR C η fm o F)(hρ:Z0 η [] ρ ρd)(hN:Yo η nx)(hS:Sim C η σ s)(hv:VR η v d):YN F ρd [] d s:=by
 obtain⟨hf1,_,_,hk⟩:=hF
 unfold ZlB at h
 split at h
 ·rename_i res hfk
  rw[hfk]at hk
  obtain⟨Φ,dds,hI,hdd,hΦ⟩:=hk
  refine ZtZ (hI.panU ?_)
  split at h<;>(try(grind;done))
  ·rename_i σ1 nx1 hu
   split at h<;>simp at h
   rename_i vs hvs
   subst h
   exact ZgK hih hu hdd hN hS (md:=sO d) hv fun η1 md1 s1 k1 k2 k3 k4=>by
    cases md1 with
    |some d=>exact k4.elim
    |none =>
     obtain⟨p,ds,g1,g2,g3⟩:=Zog k3 k2.o (hρ.nrm.mono k1) hvs
     exact⟨p,ds,_,s1,g1,g2,ZEF _,ZEB _,hΦ _ _ ⟨η1,_,k1,k2,k3,Zwf g3,rfl⟩⟩
  ·rename_i v1 σ1 nx1 hu
   cases h
   exact ZgK hih hu hdd hN hS (md:=sO d) hv fun η1 md1 s1 k1 k2 k3 k4=>by
    cases md1 with
    |none=>exact k4.elim
    |some d1=>exact⟨d1,s1,ZEF _,ZEB _,hΦ _ _ ⟨η1,d1,k1,k2,k3,k4,rfl⟩⟩
 ·rename_i l hfk
  rw[hfk]at hk
  obtain⟨b,Φ,hb,hI,hΦ⟩:=hk
  split at h<;>simp at h
  rename_i fn0 hfn0
  subst h
  refine hI.pan (ZEB _) (hΦ _ _ ⟨η,d,Nm.Sub.refl _,hN,hS,hv,rfl⟩) fun an fn N c cs hFe=>?_
  subst hFe
  have:fn=fm.f:=hf1
  rw[this];exact⟨fn0,hfn0⟩
 ·grind
end
section
variable {P:Program}
theorem Zsr{F:Fr P}{d Ψ}(hF:J6 F (sO d) Ψ false){kp dk o os ρ L s}(hg:o.guard=nO)(hk:o.k=.recover)(h:∀F':Fr P,J6 F' (sO d) Ψ true→F'.b=F.b→F'.N=F.N→F'.an=F.an→DO F' kp dk os (Zv ρ o.dst (.d d)) L s):DO F kp dk (o::os) ρ L s:=by
 obtain⟨an,f,df,cfr,cs,v,hf,hres,hmode,hrep,rfl⟩:=hF
 refine Wa fun oo g ν w tmps ops j r k hoo hck hcg hdst hd hN m hr hkk=>?_
 have hw:=Z8 m hcg (c:=true) (by rw[hg];rfl)
 have hnd:=Yc hck (by rw[hk];rfl)
 rw[hk]at hck
 obtain⟨args,ats,hop⟩:=ZgW hck
 have hrun:(execOp (Act.mk tmps []).eval oo).run P w=.ok .recover w:=by
  simp[execOp,hop,resolve,invoke,builtin]
 have hstep:_root_.Go.step P (lone ((YW P an f df.n cfr cs Ψ (sO d) v false).b.atR ⟨tmps,[]⟩ (.inRegion ops (j::r)::k)) (YW P an f df.n cfr cs Ψ (sO d) v false).cs w) =
   .next (lone ((YW P an f df.n cfr cs Ψ (sO d) v true).b.atR ((Act.mk tmps []).put oo.dst v) (.inRegion ops r::k)) (YW P an f df.n cfr cs Ψ (sO d) v true).cs w):=by
  refine step_lone_go ?_
  rw[stepGR_op hoo hw,Oper.semAt_eq _ _ _ hnd]
  have hfin:((YW P an f df.n cfr cs Ψ (sO d) v false).b.atR ⟨tmps,[]⟩ (.inRegion ops (j::r)::k)).finish v=(YW P an f df.n cfr cs Ψ (sO d) v true).b.atR ((Act.mk tmps []).put oo.dst v) (.inRegion ops r::k):=by
   rw[Frame.finish_atR,hoo];rfl
  rw[←hfin]
  simp[stepG.apply,hrun,Frame.atR,YW,tryRecover,QG]
 refine(Zd0 P cfr cs Ψ).back _ _ _ _ (.one hstep) ?_
 obtain⟨tmps',e1,e2,m'⟩:=ZeG m hN hd (v:=v) (e:=.d d) (hrep d rfl g w) []
 rw[hdst,e1]
 exact h _ ⟨an,f,df,cfr,cs,v,hf,hres,hmode,hrep,rfl⟩ rfl rfl rfl ops r k hr hkk g ν w tmps' e2 m'
end
theorem WR.val{η L v d}(h:VR η v d):WR η L (.v v) (.d d):=⟨d,h,.inl rfl⟩
theorem WR.skp{η L}:WR η L .skip (.when false (.d (.bool false))):=rfl
def Zql(η:Nm)(σ:S)(s:St):Prop:=∀(k b:Nat) (vs:List V),JM (σ.get k)=sO vs→η k=sO (.tip b)→∃ds ex,s b=sO (.cells (ds++ex))∧VRs η vs ds
def Qt(C:Px):Prop:=∀f g σ vs v,C.lib f=sO g→g σ vs=sO v→∀(η:Nm) ds s,VRs η vs ds→Zql η σ s→∃d,VR η v d∧Zb C.P f ds s fun r s'=>r=.ret d∧s'=s
section
variable {C:Px} {ih:Ih} {η:Nm} {σ:S} {s:St} {ρ:T W} {ρd:Env} {nx:Nat}
theorem Zk8.mono{η'}(hs:η.Sub η'){a b}(h:Zk8 η a b):Zk8 η' a b:=by
 cases a<;>cases b<;>first|trivial|exact h.elim|exact VR.mono hs h
theorem FmR.mono{η'}(hs:η.Sub η'){fm o F}(h:FmR C η fm o F):FmR C η' fm o F:=by
 obtain⟨h1,h2,h3,h4⟩:=h
 refine⟨h1,h2,h3,?_⟩
 split at h4
 ·obtain⟨Φ,dds,a,b,c⟩:=h4
  exact⟨Φ,dds,a,b.mono hs,fun r s hp=>c r s (hp.mono hs)⟩
 ·obtain⟨b,Φ,a,c,d⟩:=h4
  exact⟨b,Φ,hs _ _ a,c,fun r s hp=>d r s (hp.mono hs)⟩
 ·obtain⟨m,Ψ,a,c,d⟩:=h4
  exact⟨m,Ψ,a,Zk8.mono hs c,fun s b e1 e2 hp=>d s b e1 e2 (hp.mono hs)⟩
theorem ZqN(hih:Q1 C ih){f args ds o}(h:(Zp6 C f).run ih args σ nx=sO o)(ha:VRs η args ds)(hN:Yo η nx)(hS:Sim C η σ s):Zb C.P f ds s (ZfI C η o):=by
 unfold Zp6 at h
 split at h
 ·rename_i df hdf
  exact Zsq (an:=C.an f) hdf fun F hI e1 e2 e3=>hih.at _ _ _ _ _ _ h F η _ s ⟨e1,e2,e3,_,[],hI,.nil,fun _ _ h=>h⟩ (Zv3 ha) hN hS
 ·grind
theorem Zlj(hlib:Qt C)(hih:Q1 C ih){f args ds o}(h:(Zfa C f).run ih args σ nx=sO o)(ha:VRs η args ds)(hN:Yo η nx)(hS:Sim C η σ s):Zb C.P f ds s (ZfI C η o):=by
 unfold Zfa at h
 split at h
 ·rename_i g hg
  simp only at h
  split at h
  ·simp at h
   rename_i v hv
   subst h
   obtain⟨d,h1,h2⟩:=hlib f g σ args v hg hv η ds s ha fun _ _ _ h hb=>hS.cells h hb
   exact h2.mono fun r s' ⟨e1,e2⟩=>by subst e1;subst e2;exact⟨η,d,Nm.Sub.refl _,hN,hS,h1,rfl⟩
  ·exact ZqN hih h ha hN hS
 ·exact ZqN hih h ha hN hS
theorem Zlk(hlib:Qt C)(hih:Q1 C ih){fv args fd ds o}(h:Zl9 C ih fv args σ nx=sO o)(hf:VR η fv fd)(ha:VRs η args ds)(hN:Yo η nx)(hS:Sim C η σ s):WV C.P fd ds s (ZfI C η o):=by
 cases hf<;>simp only[Zl9,reduceCtorEq]at h
 case fn f a c da dc h1 h2 =>
  refine Zb.V (Zlj hlib hih h ?_ hN hS)
  rw[ZE9]
  exact h1.append (ha.append h2)
 case yield l b hb =>
  split at h<;>(try(simp at h;done))
  rename_i f n ps a b0 ρ0 hl
  obtain⟨hlen,hh⟩:=Zw h;replace h:=hh;clear hh
  rw[ZZ]at hlen
  obtain⟨b',d,e0,e1,e2⟩:=hS.get hl (fun n=>by simp)
  rw[hb]at e0
  cases e0
  cases e2 with
  |loop _ _ _ _ _ _ _ _ r lst hf hn hps hlt hca hcb hρ hst =>
   subst hf;subst hn;subst hps
   have hr:lst=.ready:=by cases lst<;>first|rfl|exact hst.elim
   subst hr
   refine ZpF (an:=C.an r.fn) e1 (by rw[←ha.len];exact hlen) hca hcb rfl hlt fun F hI e2 e3 e4=>?_
   exact hih.at _ _ _ _ _ _ h F η _ s ⟨e2,e3,e4,b,_,hb,hI,fun _ _ h=>h⟩ (Zpl hρ ha) hN hS
def Zvy(C:Px)(ih:Ih)(rest:Bx Rg)(dk:List WL)(os:List DOp):Prop :=
 ∀fm ρ σ nx o,rest.run ih dk fm ρ σ nx=sO o→∀(F:Fr C.P) η ρd s,FmR C η fm o F→Z0 η [] ρ ρd→Yo η nx→Sim C η σ s→DO F nO dk os ρd [] s
theorem Zv1(hlib:Qt C)(hih:Q1 C ih){rest dk os}(hrest:Zvy C ih rest dk os){fm f dst g k}(hfk:ZiN k=true){o}(h:(goF C f rest dst g k).run ih dk fm ρ σ nx=sO o){F}(hg:Zk ρd g=sO true)(hF:FmR C η fm o F)(hρ:Z0 η [] ρ ρd)(hN:Yo η nx)(hS:Sim C η σ s):DO F nO dk (⟨dst,g,k⟩::os) ρd [] s:=by
 have gen:∀{k:K},ZiN k=true→(gk k ||g.isNone)=true→(match (opF (C.mu f dst) dst.isSome k).run ρ σ nx with
   |some ⟨v,σ',nx'⟩=>rest.run ih dk fm ((Zb3 dst).run ρ (.v v)) σ' nx'
   |none=>nO)=sO o→DO F nO dk (⟨dst,g,k⟩::os) ρd [] s:=by
  intro k hfk hgk h
  split at h<;>(try(simp at h;done))
  rename_i v σ' nx' hop
  exact ZAY hS hN hρ hg hgk hfk hop fun η' e s2 k1 k2 k3 k4=>hrest _ _ _ _ _ h F η' _ s2 (hF.mono k1) (Jo (hρ.mono k1) k4 dst) k2 k3
 cases k
 case call fx xs =>
  simp only[goF]at h
  split at h<;>(try(simp at h;done))
  rename_i fv hfv
  split at h<;>(try(simp at h;done))
  rename_i vs hvs
  split at h<;>(try(simp at h;done))
  rename_i pan v σ' nx' hcall
  obtain⟨p,fd,a1,a2,a3⟩:=Ko hρ hfv
  obtain⟨q,ds,b1,b2,b3⟩:=Zal hρ hvs
  have hV:=Zlk hlib hih hcall a3 b3 hN hS
  refine Zd8 hg rfl a1 b1 (Zap ds) b2 a2 hV (fun d s' hp=>?_) (fun d s' hp=>?_)
  ·obtain⟨η1,d1,k1,k2,k3,k4,k5⟩:=hp
   cases pan with
   |true=>simp at k5
   |false =>
    cases k5
    exact hrest _ _ _ _ _ h F η1 _ s' (hF.mono k1) (Jo (hρ.mono k1) (WR.val k4) dst) k2 k3
  ·obtain⟨η1,d1,k1,k2,k3,k4,k5⟩:=hp
   cases pan with
   |false=>simp at k5
   |true =>
    cases k5
    exact Zgt hih h (hF.mono k1) (hρ.mono k1) k2 k3 k4
 case panic x =>
  simp only[goF]at h
  split at h<;>(try(simp at h;done))
  rename_i t v hv
  obtain⟨p,d,a1,a2,a3⟩:=Ko hρ hv
  cases a3 with
  |iface _ _ d hd=>exact Zk6 hg rfl a1 a2 (Zgt hih h hF hρ hN hS (.iface _ _ _ hd))
 case defer fx xs =>
  simp only[goF]at h
  split at h
  ·simp only at h
   split at h<;>(try(simp at h;done))
   rename_i j first caps vs hfv hvs
   split at h<;>(try(simp at h;done))
   rename_i res hk
   obtain⟨hr,hh⟩:=Zw h;replace h:=hh;clear hh
   simp only[ZEK]at hr
   obtain⟨p,fd,a1,a2,a3⟩:=Ko hρ hfv
   obtain⟨q,ds,b1,b2,b3⟩:=Zal hρ hvs
   cases a3 with
   |fn _ _ _ da dc h1 h2 =>
    obtain⟨f1,f2,f3,f4⟩:=hF
    rw[hk]at f4
    obtain⟨Φ,dds,hI,hd,hΦ⟩:=f4
    have r1:=Zhr (h1.append b3) hr.1
    have r2:=Zhr h2 hr.2
    refine Zk5 hI.roundOf rfl rfl rfl a1 b1 (Zap ds) b2 a2 r1 r2 (hrest _ _ _ _ _ h _ η _ s ⟨f1,f2,f3,?_⟩ hρ hN hS)
    simp only[hk]
    exact⟨Φ,_,hI.defer j (da++ds) dc,.fn _ _ _ _ _ _ _ (h1.append b3) h2 r1 r2 hd,hΦ⟩
  ·simp at h
 case recover =>
  simp only[goF]at h
  split at h
  ·simp only at h
   obtain⟨f1,f2,f3,f4⟩:=hF
   split at h
   ·rename_i v hk
    rw[hk]at f4
    obtain⟨m,Ψ,hI,hm,hΨ⟩:=f4
    cases m with
    |none=>exact hm.elim
    |some d =>
     refine Zsr hI rfl rfl fun F' hI' e1 e2 e3=>hrest _ _ _ _ _ h F' η _ s ⟨by rw[e1];exact f1,by rw[e2];exact f2,by rw[e3];exact f3,?_⟩ (Jo hρ (WR.val hm) dst) hN hS
     exact⟨sO d,Ψ,hI',hm,hΨ⟩
   ·rename_i rec hk
    have f4':=f4
    rw[hk]at f4
    obtain⟨m,Ψ,hI,hm,hΨ⟩:=f4
    cases m with
    |some d=>exact hm.elim
    |none=>exact ZfH hI rfl rfl (hrest _ _ _ _ _ h F η _ s ⟨f1,f2,f3,f4'⟩ (Jo hρ (WR.val .niliface) dst) hN hS)
   ·simp at h
  ·simp at h
 all_goals
  simp only[goF]at h
  split at h
  ·rename_i hgk
   exact gen hfk hgk h
  ·simp at h
theorem ZtD(hlib:Qt C)(hih:Q1 C ih){dk f}:∀{os},(os.all fun o=>ZiN o.k)=true→Zvy C ih (Zof C f os) dk os
 | [],_=>fun fm ρ σ nx o h F η ρd s hF hρ hN hS=>Zd7 (hih.at _ _ _ _ _ _ h F η ρd s hF hρ hN hS)
 |⟨dst,g,k⟩::os,hfk=>fun fm ρ σ nx o h F η ρd s hF hρ hN hS=>by
  simp only[List.all_cons,ZEK]at hfk
  have IH:=ZtD hlib hih (dk:=dk) (f:=f) hfk.2
  simp[Zof]at h
  split at h
  ·exact Zv1 hlib hih IH hfk.1 h rfl hF hρ hN hS
  ·simp only at h
   split at h<;>(try(grind;done))
   rename_i b hb
   have hg:=Zo5 hρ hb
   split at h
   ·exact Zv1 hlib hih IH hfk.1 h hg hF hρ hN hS
   ·exact Jc (e:=.d (.bool false)) hg (IH _ _ _ _ _ h F η _ s hF (Jo hρ WR.skp dst) hN hS)
end
section
variable {P:Program}
theorem Zqv{F:Fr P}(hr:F.b.roundOf=nO){o ps da db dk ρ L s p fv}(hf:ZC ρ true o=sO (p,.d fv))(hp:p)(ks)(hks:(Yh ρ ks).map (·.1) |>.Nodup)(h:∀q l r,s q=nO→s l=nO→q≠l→r.ρ=Wc ks ρ→r.params=ps→r.fn=F.b.fn→cc P F.an F.N r.assign=sO da→cc P F.an F.N r.body=sO db→r.N=F.N→(∀t∈ps,t<F.N) →
   ∃Ψ,WV P fv [.fn (.yield l) [] []] ((s.upd q .dfr).upd l (.loop r .ready)) Ψ∧(∀d s',Ψ (.ret d) s'→∃r',Zib (F.mark q) l r' dk ρ L s')∧(∀d s',Ψ (.panic d) s'→YN (F.mark q) ρ L d s')):
  Zs F (.code (.rangeF o ps da db)::dk) ρ L s:=by
 intro k hk
 cases hk with
 | @code _ _ kt _ hc ht =>
 obtain⟨f',ps',a',b',rfl,hf',hps,ha,hb,hlt⟩:=ZoP hc
 intro g ν w tmps hN m
 have hfr:Rep g w _ fv:=Z3 m hf' rfl hf hp F.ds
 have hg1:=JH (g:=g) (w:=w) (.deferred (sO [])) m.st.fresh
 have he1:=hg1.ext m.st.fresh
 obtain⟨hq,m1⟩:=m.newObj hg1 (o:=.dfr) ⟨(m.st.fresh _ (ZEP _)).1,W9 w _⟩
 let w1:=w.alloc (.deferred (sO []))
 let lp:Go.Loop:={ state:=.ready,pending:=nO,fn:=F.b.fn,tmps:=tmps,params:=ps',assign:=a',body:=b',defers:=w.heap.size }
 let r:Zbt:={ fn:=F.b.fn,params:=ps,assign:=a',body:=b',defers:=w.heap.size,ρ:=Wc ks ρ,N:=F.N }
 have hg2:=JH (g:=g) (w:=w1) (.loop lp) m1.st.fresh
 have he2:=hg2.ext m1.st.fresh
 obtain⟨hl,m2⟩:=m1.newObj hg2 (o:=.loop r .ready) ⟨(m1.st.fresh _ (ZEP _)).1,lp,W9 w1 _,rfl,hps,rfl,rfl,rfl,hN,fun t e het=>by
  obtain⟨h1,h2⟩:=ZdD hks het
  exact Zm3 (((m1.env t e (ZcZ ρ ks t e h1))).mono he2) h2,rfl,rfl⟩
 have hqsz:w1.heap.size=w.heap.size+1:=by simp[w1]
 have hl':s w1.heap.size=nO:=by
  have hne:¬w1.heap.size=w.heap.size:=by omega
  have h0:(s.upd w.heap.size .dfr) w1.heap.size=nO:=hl
  simp[ZFc,hne]at h0
  exact h0
 obtain⟨Ψ,hV,hret,hpan⟩:=h w.heap.size w1.heap.size r hq hl' (by omega) rfl rfl rfl ha hb rfl hlt
 have hrep2:Rep g (w1.alloc (.loop lp)) _ fv:=(hfr.mono he1).mono he2
 obtain⟨d,nx,fr,hd1,hd2,hd3,hC⟩:=hV (Zfb g ν L) (w1.alloc (.loop lp)) _ [.func (.yield w1.heap.size) #[] #[]] m2.callSt (Wo hrep2 rfl) (.cons (.fn (.yield w1.heap.size) [] [] [] [] rfl rfl (by simp) (by simp)) .nil)
 have henter:(Instr.enterLoop F.b.fn tmps ps' a' b' F.b.roundOf).run P w=.ok (w1.heap.size,[{ target:=.collected w.heap.size,args:=#[] }]) (w1.alloc (.loop lp)):=by
  rw[hr];simp[Instr.enterLoop,w1,lp]
 have hstep:=ZgF (P:=P) (b:=F.b) (a:=⟨tmps,F.ds⟩) (k:=kt) (cs:=F.cs) henter hd1 hd2 hd3
 obtain⟨e,w',⟨g',s',res,x1,x2,x3,x4⟩,hback⟩:=hC (F.b.atR { tmps:=tmps,defers:=[{ target:=.collected w.heap.size,args:=#[] }]++F.ds } (.inRangeFunc w1.heap.size::kt)) F.cs
 obtain⟨hext,hm⟩:=m2.afterCall x1 x2
 have hext':=(he1.trans he2).trans hext
 cases e with
 |returned v =>
  cases res with
  |panic d=>exact x3.elim
  |ret d =>
   refine F.T.back _ _ _ _ (.head hstep hback) ?_
   exact F.T.ext _ _ _ _ _ hext' ((hret d s' x4).elim fun _ hrn=>Zm1 (F:=F.mark w.heap.size) ht hN hm hrn)
 |panicked ch =>
  cases res with
  |ret d=>exact x3.elim
  |panic d =>
   obtain⟨v,rfl,hv⟩:=x3
   refine F.T.back _ _ _ _ (.head hstep hback) ?_
   exact F.T.ext _ _ _ _ _ hext' (hpan d s' x4 _ _ _ v _ _ hN hm (Wo hv rfl))
 |outgrown=>exact hback.elim
end
theorem Zhc{ρ}:∀{ks t},t∈(Yh ρ ks).map (·.1)→t∈ks
 | [],t,h=>by cases h
 |k::ks,t,h=>by
  simp only[Yh]at h
  split at h
  ·simp only[ZEQ,ZFd]at h
   rcases h with rfl|h
   ·simp
   ·exact List.mem_cons_of_mem _ (Zhc h)
  ·exact List.mem_cons_of_mem _ (Zhc h)
theorem ZfT{ρ}:∀{ks},ks.Nodup→((Yh ρ ks).map (·.1)).Nodup
 | [],_=>by simp[Yh]
 |k::ks,h=>by
  simp at h
  simp[Yh]
  split
  ·simp only[ZEQ,List.nodup_cons]
   exact⟨fun hk=>h.1 (Zhc hk),ZfT h.2⟩
  ·exact ZfT h.2
section
variable {C:Px} {ih:Ih}
def Zqm(C:Px)(ih:Ih)(f:FuncId)(c:DC):Prop :=
 ∀fm k ρ σ nx o,(J7 C f c).run ih fm k ρ σ nx=sO o→fm.f=f→∀(F:Fr C.P) η ρd s,FmR C η fm o F→Z0 η [] ρ ρd→Yo η nx→Sim C η σ s→Zs F (.code c::k) ρd [] s
def Zl3(C:Px)(ih:Ih):Prop:=∀f order ops kp,Zqm C ih f (.regD order ops kp)
theorem Zwt(hlib:Qt C)(hih:Q1 C ih){f g ps a b}:Zqm C ih f (.rangeF g ps a b):=by
 intro fm k ρ σ nx o h hf F η ρd s hF hρ hN hS
 simp[J7]at h
 split at h<;>(try(grind;done))
 rename_i res hk
 split at h<;>(try(grind;done))
 rename_i fv hfv
 split at h<;>(try(grind;done))
 rename_i pan v σ' nx' hcall
 obtain⟨p,fd,a1,a2,a3⟩:=Ko hρ hfv
 obtain⟨f1,f2,f3,f4⟩:=hF
 rw[hk]at f4
 obtain⟨Φ,dds,hI,hdd,hΦ⟩:=f4
 refine Zqv hI.roundOf a1 a2 ZnR (ZfT List.nodup_range) fun q l r hq hl hql hr hps hfn hca hcb hrN hlt=>?_
 have f0:=hN.free nx (ZEP _)
 have n1:η.Sub (η.put nx (.tip q)):=Nm.put_sub f0 _
 have hN1:=hN.put (.tip q)
 have S1:Sim C (η.put nx (.tip q)) (σ.set (sO .dfr) nx) (s.upd q .dfr):=hS.new f0 hq .dfr
 have f0':=hN1.free (nx+1) (ZEP _)
 have n2:(η.put nx (.tip q)).Sub ((η.put nx (.tip q)).put (nx+1) (.tip l)):=Nm.put_sub f0' _
 have hN2:=hN1.put (.tip l)
 have hl':(s.upd q .dfr) l=nO:=by rw[ZEJ s _ (Ne.symm hql)];exact hl
 have S2:=S1.new f0' hl' (o:=.loop fm.f fm.n ps a b ρ nO false) (d:=.loop r .ready)
  (.loop _ _ _ _ _ _ _ _ r .ready (by simp_all) (by simp_all) hps (by rw[←f2];exact hlt) (by rw[←f3,←f2];exact hca) (by rw[←f3,←f2];exact hcb) (by rw[hr];exact(hρ.round.mono n1).mono n2) trivial)
 have hV:=Zlk hlib hih hcall ((a3.mono n1).mono n2) (.one (.yield _ _ (Nm.put_same _ _ _))) hN2 S2
 have fm':∀{η':Nm},((η.put nx (.tip q)).put (nx+1) (.tip l)).Sub η'→FmR C η' { fm with ds:=.mark nx::fm.ds } o (F.mark q):=fun{η'} hs=>by
  refine⟨f1,f2,f3,?_⟩
  simp[hk]
  exact⟨Φ,_,hI.mark q,.mark _ _ _ _ (hs _ _ (n2 _ _ (Nm.put_same _ _ _))) (hdd.mono (n1.trans (n2.trans hs))),fun r s hp=>hΦ r s (hp.mono (n1.trans (n2.trans hs)))⟩
 refine⟨_,hV,fun d s' hp=>?_,fun d s' hp=>?_⟩
 ·obtain⟨η1,d1,k1,k2,k3,k4,k5⟩:=hp
  cases pan with
  |true=>grind
  |false =>
   simp only at h
   have hlη:η1 (nx+1)=sO (.tip l):=k1 _ _ (Nm.put_same _ _ _)
   have hρ1:Z0 η1 [] ρ ρd:=hρ.mono (n1.trans (n2.trans k1))
   split at h<;>(try(grind;done))
   ·rename_i hlo
    obtain⟨b',dd,e0,e1,e2⟩:=k3.get hlo (fun n=>by simp)
    rw[hlη]at e0
    cases e0
    cases e2 with
    |loop _ _ _ _ _ _ _ _ r' lst hf' hn' hps' hlt' ha' hb' hρ' hst =>
     have hr':lst=.ready:=by cases lst<;>first|rfl|exact hst.elim
     subst hr'
     exact⟨r',.inl ⟨e1,hih.at _ _ _ _ _ _ h (F.mark q) η1 ρd _ (fm' k1) hρ1 k2 (k3.take hlo hlη)⟩⟩
   ·rename_i f' n' _ _ _ _ j hlo
    obtain⟨hc,hh⟩:=Zw h;replace h:=hh;clear hh
    simp at hc
    obtain⟨rfl,rfl⟩:=hc
    obtain⟨b',dd,e0,e1,e2⟩:=k3.get hlo (fun n=>by simp)
    rw[hlη]at e0
    cases e0
    cases e2 with
    |loop _ _ _ _ _ _ _ _ r' lst hf' hn' hps' hlt' ha' hb' hρ' hst =>
     cases lst with
     |done j'=>exact⟨r',.inr ⟨j',j,e1,by show cc C.P F.an F.N j'=_;rw[f3,f2];exact hst,hih.at _ _ _ _ _ _ h (F.mark q) η1 ρd _ (fm' k1) hρ1 k2 (k3.take hlo hlη)⟩⟩
     |_=>exact hst.elim
 ·obtain⟨η1,d1,k1,k2,k3,k4,k5⟩:=hp
  cases pan with
  |false=>grind
  |true =>
   cases k5
   exact Zgt hih h (fm' k1) (hρ.mono (n1.trans (n2.trans k1))) k2 k3 k4
theorem Zao(hlib:Qt C)(hih:Q1 C ih)(hD:Zl3 C ih){f}:∀c,Zqm C ih f c
 |.skip=>fun fm k ρ σ nx o h hf F η ρd s hF hρ hN hS=>ZD (hih.at _ _ _ _ _ _ h F η ρd s hF hρ hN hS)
 |.label _=>fun fm k ρ σ nx o h hf F η ρd s hF hρ hN hS=>Yu (hih.at _ _ _ _ _ _ h F η ρd s hF hρ hN hS)
 |.seq a b=>fun fm k ρ σ nx o h hf F η ρd s hF hρ hN hS=>Za (Zao hlib hih hD a _ _ _ _ _ _ h hf F η ρd s hF hρ hN hS)
 |.block id a=>fun fm k ρ σ nx o h hf F η ρd s hF hρ hN hS=>Zd (Zao hlib hih hD a _ _ _ _ _ _ h hf F η ρd s hF hρ hN hS)
 |.loop a=>fun fm k ρ σ nx o h hf F η ρd s hF hρ hN hS=>Zbs (Zao hlib hih hD a _ _ _ _ _ _ h hf F η ρd s hF hρ hN hS)
 |.scope a=>fun fm k ρ σ nx o h hf F η ρd s hF hρ hN hS=>Yg (Zao hlib hih hD a _ _ _ _ _ _ h hf F η ρd s hF hρ hN hS)
 |.cond c a b=>fun fm k ρ σ nx o h hf F η ρd s hF hρ hN hS=>by
  simp[J7]at h
  split at h<;>(try(grind;done))
  rename_i v hv
  obtain⟨p,d,a1,a2,a3⟩:=Ko hρ hv
  cases a3<;>simp at h
  rename_i t
  cases t with
  |true=>exact Zq a1 a2 (fun _=>Zao hlib hih hD a _ _ _ _ _ _ h hf F η ρd s hF hρ hN hS) (fun h=>by grind)
  |false=>exact Zq a1 a2 (fun h=>by grind) (fun _=>Zao hlib hih hD b _ _ _ _ _ _ h hf F η ρd s hF hρ hN hS)
 |.goto l=>fun fm k ρ σ nx o h hf F η ρd s hF hρ hN hS=>by
  simp[J7]at h
  split at h<;>(try(grind;done))
  rename_i k' hk'
  exact Zvx hk' (hih.at _ _ _ _ _ _ h F η ρd s hF hρ hN hS)
 |.ret=>fun fm k ρ σ nx o h hf F η ρd s hF hρ hN hS=>(ZtE hih h hF hρ hN hS).2 rfl k
 |.exit id=>fun fm k ρ σ nx o h hf F η ρd s hF hρ hN hS=>by
  simp[J7]at h
  split at h
  ·rename_i k' hk'
   exact ZR hk' (hih.at _ _ _ _ _ _ h F η ρd s hF hρ hN hS)
  ·rename_i hx
   split at h<;>(try(grind;done))
   rename_i l hk
   split at h<;>simp at h
   rename_i σ1 hl
   subst h
   obtain⟨f1,f2,f3,f4⟩:=hF
   rw[hk]at f4
   obtain⟨b,Φ,hb,hI,hΦ⟩:=f4
   obtain⟨r,lst,e1,_,e2,e3⟩:=ZiJ hS hb hl
   obtain rfl:=e2 rfl
   exact hI.exit hx e1 (ZEB _) (hΦ _ _ ⟨η,_,Nm.Sub.refl _,hN,e3 (.done (.exit id)) rfl,.bool false,rfl⟩)
 |.reg ops kp=>fun fm k ρ σ nx o h hf F η ρd s hF hρ hN hS=>by
  simp[J7]at h
  split at h<;>(try(grind;done))
  split at h<;>(try(grind;done))
  rename_i hall
  exact ZgQ (ZtD hlib hih hall _ _ _ _ _ h F η ρd s hF hρ hN hS)
 |.regD order ops kp=>hD f order ops kp
 |.rangeF g ps a b=>Zwt hlib hih
theorem ZzC(hlib:Qt C)(hih:Q1 C ih)(hD:Zl3 C ih):Zw3 C (step C ih):=by
 intro fm dk ρ σ nx o h F η ρd s hF hρ hN hS
 unfold step at h
 split at h
 ·exact(ZtE hih h hF hρ hN hS).1 rfl
 ·split at h
  ·exact Zo (hih.at _ _ _ _ _ _ h F η ρd s hF hρ hN hS)
  ·exact ZT (hih.at _ _ _ _ _ _ h F η ρd s hF hρ hN hS)
  ·exact Zi (Zao hlib hih hD _ _ _ _ _ _ _ h rfl F η ρd s hF hρ hN hS)
  ·split at h<;>(try(grind;done))
   rename_i l hk
   split at h<;>(try(grind;done))
   rename_i σ1 hl
   have hF0:=hF
   obtain⟨f1,f2,f3,f4⟩:=hF
   rw[hk]at f4
   obtain⟨b,Φ,hb,hI,hΦ⟩:=f4
   obtain⟨r,lst,e1,e2,_,e3⟩:=ZiJ hS hb hl
   obtain rfl:=e2 rfl
   exact hI.begin e1 (hih.at _ _ _ _ _ _ h F η ρd _ hF0 hρ hN (e3 .busy trivial))
  ·exact Zao hlib hih hD _ _ _ _ _ _ _ h rfl F η ρd s hF hρ hN hS
theorem Zm6{C}(hlib:∀t,Qt ⟨C,t⟩)(hD:∀(C':Px) ih,C'.toCx=C→Q1 C' ih→Zl3 C' ih):∀n t,Q1 ⟨C,t⟩ (run C n)
 |0,_=>fun _ fm dk ρ σ nx o h=>by cases h
 |n+1,_=>fun t=>ZzC (hlib t) (Zm6 hlib hD n t) (hD ⟨C,t⟩ _ rfl (Zm6 hlib hD n t))
end
theorem ZiF{s s' L L'}:∀{B},(∀n b,(n,.blk b)∈B→s' b=s b)→(∀n l,(n,.loc l)∈B→Zf L' l=Zf L l)→KE s s' L L' B
 | [],_,_=>trivial
 | (n,.blk b)::B,h1,h2=>⟨h1 n b (by simp),ZiF (fun m b hb=>h1 m b (by simp[hb])) (fun m l hl=>h2 m l (by simp[hl]))⟩
 | (n,.loc l)::B,h1,h2=>⟨h2 n l (by simp),ZiF (fun m b hb=>h1 m b (by simp[hb])) (fun m l hl=>h2 m l (by simp[hl]))⟩
theorem Zex{n}:∀{l},J3 n l=true↔n∈l
 | []=>by simp[J3]
 |a::r=>by
  simp[J3,Zex (l:=r)]
  constructor
  ·rintro(h|h)
   ·exact .inl h.symm
   ·exact .inr h
  ·rintro(h|h)
   ·exact .inl h.symm
   ·exact .inr h
theorem Zfj{fl s s' L L' B}(h1:∀n b,n∈fl→(n,.blk b)∈B→s' b=s b)(h2:∀n l,n∈fl→(n,.loc l)∈B→Zf L' l=Zf L l):Y5 fl s s' L L' B :=
 ZiF (fun n b hb=>h1 n b (Zex.1 (Qe.1 hb).1) (Qe.1 hb).2) (fun n b hb=>h2 n b (Zex.1 (Qe.1 hb).1) (Qe.1 hb).2)
theorem Zcu{n}:∀{l},ZfW n l=true↔n∈l
 | []=>by simp[ZfW]
 |a::r=>by
  simp only[ZfW]
  split
  ·rename_i h;rw[ZZ]at h;simp[h]
  ·rename_i h
   have:¬n=a:=fun e=>h (by simp_all)
   rw[Zcu];simp[this]
theorem ZqA{n m l}(h:m=n∨m∈l):m∈Zw6 n l:=by
 unfold Zw6
 split
 ·rename_i hm;rcases h with rfl|h
  ·exact Zcu.1 hm
  ·exact h
 ·rcases h with rfl|h<;>simp[*]
theorem ZeN{fl n k}(hn:n∈fl):∀{l},(n,k)∈l→k∈ZlI fl l
 | [],h=>by grind
 | (t,m)::r,h=>by
  simp[ZlI]
  rcases List.mem_cons.1 h with h|h
  ·cases h
   rw[if_pos (Zcu.2 hn)]
   exact ZqA (.inl rfl)
  ·split
   ·exact ZqA (.inr (ZeN hn h))
   ·exact ZeN hn h
theorem Zfh{fl n k}(hn:n∈fl):∀{l},(n,k)∈l→(n,k)∈Zfg fl l
 | [],h=>by grind
 | (t,m)::r,h=>by
  simp[Zfg]
  rcases List.mem_cons.1 h with h|h
  ·cases h
   rw[if_pos (Zcu.2 hn)]
   simp
  ·split
   ·exact List.mem_cons_of_mem _ (Zfh hn h)
   ·exact Zfh hn h
theorem Zo2{u}:∀{r},Ziz u r=nO→∀x∈r,x.1≠u
 | [],_,x,h=>by grind
 | (t,a)::r,hn,x,h=>by
  simp only[Ziz]at hn
  split at hn
  ·grind
  ·rename_i ht
   rcases List.mem_cons.1 h with rfl|h
   ·exact fun e=>ht (ZZ.2 e)
   ·exact Zo2 hn x h
theorem Zls{u a}:∀{r},Ziz u r=sO a→(u,a)∈r
 | [],h=>by cases h
 | (t,b)::r,h=>by
  simp only[Ziz]at h
  split at h
  ·rename_i ht
   rw[ZZ]at ht
   cases h;subst ht;simp
  ·exact List.mem_cons_of_mem _ (Zls h)
theorem Zlt{l vs x}:∀{r},Kn x (Zjj l vs r)=if x=l then (match Kn l r with
  |some _=>sO vs
  |none=>nO) else Kn x r
 | []=>by simp[Zjj,Kn]
 | (t,c)::r=>by
  simp[Zjj]
  by_cases ht:t=l
  ·subst ht
   simp_all
   simp[Kn]
   by_cases hx:x=t
   ·subst hx;simp
   ·simp_all
    have:¬Nat.beq t x=true:=fun h=>hx (ZZ.1 h).symm
    simp_all
  ·simp_all
   simp[Kn]
   rw[Zlt (r:=r)]
   by_cases hx:x=l
   ·subst hx
    simp_all
   ·simp[hx]
theorem Zpr{l vs}:∀{r},(Zjj l vs r).map (·.1)=r.map (·.1)
 | []=>rfl
 | (t,c)::r=>by
  simp[Zjj]
  split
  ·simp
  ·simp[Zpr (r:=r)]
theorem Zo3{l}:∀{r},Kn l r=nO→l∉r.map (·.1)
 | [],_=>by simp
 | (t,c)::r,h=>by
  simp only[Kn]at h
  split at h
  ·grind
  ·rename_i ht
   simp only[ZEQ,ZFd,not_or]
   exact⟨fun e=>ht (ZZ.2 e.symm),Zo3 h⟩
theorem ZbD{o}(h:Zi2 o=true):Zbk o=false∧∀n,o≠.tok n:=by
 cases o<;>simp[Zi2]at h<;>exact⟨rfl,fun n=>by simp⟩
theorem Zj2:∀{ks σ σ0 l},ZiQ ks σ=sO (σ0,l) →
  (∀k o,σ0.get k=sO o→(σ.get k=sO o∧∀o',(k,o')∉l)∨∃o',o=.ro o'∧(k,o')∈l)∧(∀k o,(k,o)∈l→σ.get k=sO o∧Zi2 o=true)∧∀k∈ks,(∃o,(k,o)∈l)∨∃o,σ.get k=sO (.ro o)
 | [],σ,σ0,l,h=>by
  cases h
  exact⟨fun k o h=>.inl ⟨h,fun _ h=>by simp at h⟩,fun k o h=>by simp at h,fun k h=>by simp at h⟩
 |k::ks,σ,σ0,l,h=>by
  simp[ZiQ]at h
  split at h<;>(try(grind;done))
  rename_i o ho
  split at h
  ·rename_i hro
   split at h<;>simp at h
   rename_i σ' l' hr
   obtain⟨rfl,rfl⟩:=h
   obtain⟨h1,h2,h3⟩:=Zj2 hr
   refine⟨fun k' o' h=>?_,fun k' o' h=>?_,fun k' h=>?_⟩
   ·rcases h1 k' o' h with ⟨h4,h5⟩|⟨o2,rfl,h4⟩
    ·rcases T.get_set h4 with ⟨rfl,h6⟩|⟨h0,h6⟩
     ·simp at h6
      exact .inr ⟨o,h6.symm,by simp⟩
     ·refine .inl ⟨h6,fun o2 hm=>?_⟩
      rcases List.mem_cons.1 hm with hm|hm
      ·simp at hm;exact h0 hm.1
      ·exact h5 o2 hm
    ·exact .inr ⟨o2,rfl,by simp[h4]⟩
   ·rcases List.mem_cons.1 h with h|h
    ·cases h
     exact⟨ho,hro⟩
    ·obtain⟨h4,h5⟩:=h2 k' o' h
     rcases T.get_set h4 with ⟨rfl,h6⟩|⟨_,h6⟩
     ·cases h6;cases h5
     ·exact⟨h6,h5⟩
   ·rcases List.mem_cons.1 h with rfl|h
    ·exact .inl ⟨o,by simp⟩
    ·rcases h3 k' h with ⟨o',h⟩|⟨o',h⟩
     ·exact .inl ⟨o',by simp[h]⟩
     ·rcases T.get_set h with ⟨rfl,_⟩|⟨_,h⟩
      ·exact .inl ⟨o,by simp⟩
      ·exact .inr ⟨o',h⟩
  ·split at h<;>(try(grind;done))
   rename_i hro
   obtain⟨h1,h2,h3⟩:=Zj2 h
   refine⟨h1,h2,fun k' hk=>?_⟩
   rcases List.mem_cons.1 hk with rfl|hk
   ·cases o<;>cases hro
    exact .inr ⟨_,ho⟩
   ·exact h3 k' hk
theorem ZqL:∀{l σ σ2},ZjP l σ=sO σ2→(∀k o,σ2.get k=sO o→(k,o)∈l∨(σ.get k=sO o∧∀o',(k,o')∉l))∧∀k o,(k,o)∈l→∃o',σ.get k=sO (.ro o')
 | [],σ,σ2,h=>by
  cases h
  exact⟨fun k o h=>.inr ⟨h,fun _ h=>by simp at h⟩,fun k o h=>by simp at h⟩
 | (k',o')::l,σ,σ2,h=>by
  simp[ZjP]at h
  split at h<;>(try(grind;done))
  rename_i o1 ho
  split at h<;>simp at h
  rename_i σ' hb
  subst h
  obtain⟨h1,h2⟩:=ZqL hb
  refine⟨fun k o h=>?_,fun k o h=>?_⟩
  ·rcases T.get_set h with ⟨rfl,h3⟩|⟨h0,h3⟩
   ·cases h3;exact .inl (by simp)
   ·rcases h1 k o h3 with h4|⟨h4,h5⟩
    ·exact .inl (by simp[h4])
    ·refine .inr ⟨h4,fun o2 hm=>?_⟩
     rcases List.mem_cons.1 hm with hm|hm
     ·simp at hm;exact h0 hm.1
     ·exact h5 o2 hm
  ·rcases List.mem_cons.1 h with h|h
   ·cases h
    exact⟨o1,ho⟩
   ·exact h2 k o h
section
variable {C:Px} {η η':Nm} {σ σ0 σ' σ2:S} {s s':St}
def Zqx(C:Px)(η:Nm)(l:List (Nat×O))(s t:St):Prop :=
 (∀b d,C.t b=sO d→t b=sO d)∧(∀k o b,(k,o)∈l→η k=sO (.tip b)→t b=s b)∧∀b d,t b=sO d→C.t b=sO d∨∃k o,(k,o)∈l∧η k=sO (.tip b)
open Classical in
theorem Sim.lend(hS:Sim C η σ s){ks l}(h:ZiQ ks σ=sO (σ0,l)):∃t,Sim ⟨C.toCx,t⟩ η σ0 s∧Zqx C η l s t:=by
 obtain⟨h1,h2,_⟩:=Zj2 h
 have hM:∀b k o,(k,o)∈l→η k=sO (.tip b)→∃d,s b=sO d∧OR C η k o d:=fun b k o hm hb=>by
  obtain⟨g1,g2⟩:=h2 k o hm
  obtain⟨b',d,e1,e2,e3⟩:=hS.get g1 (ZbD g2).2
  rw[hb]at e1
  simp only[ZEz,Tok.tip.injEq]at e1
  subst e1
  exact⟨d,e2,e3⟩
 have hin:∀k o,σ0.get k=sO o→∃o',σ.get k=sO o':=fun k o hk=>by
  rcases h1 k o hk with ⟨g,_⟩|⟨o',_,g⟩
  ·exact⟨o,g⟩
  ·exact⟨o',(h2 k o' g).1⟩
 let t:St:=fun b=>if ∃k o,(k,o)∈l∧η k=sO (.tip b) then s b else C.t b
 have ht1:∀b,(∃k o,(k,o)∈l∧η k=sO (.tip b))→t b=s b:=fun b hb=>by simp only[t];rw[if_pos hb]
 have ht2:∀b,¬(∃k o,(k,o)∈l∧η k=sO (.tip b))→t b=C.t b:=fun b hb=>by simp only[t];rw[if_neg hb]
 have hL:Zqx C η l s t:=by
  refine⟨fun b d hb=>?_,fun k o b hm hb=>ht1 b ⟨k,o,hm,hb⟩,fun b d hb=>?_⟩
  ·by_cases hm:∃k o,(k,o)∈l∧η k=sO (.tip b)
   ·rw[ht1 b hm];exact(hS.kp b d hb).1
   ·rw[ht2 b hm];exact hb
  ·by_cases hm:∃k o,(k,o)∈l∧η k=sO (.tip b)
   ·exact .inr hm
   ·rw[ht2 b hm]at hb;exact .inl hb
 refine⟨t,⟨fun k o hk=>?_,fun k k' o o' b hk hk' e e'=>?_,fun b d hb=>?_,fun k o b hk e=>?_⟩,hL⟩
 ·rcases h1 k o hk with ⟨g,_⟩|⟨o',rfl,g⟩
  ·exact hS.obj k o g
  ·obtain⟨g1,g2⟩:=h2 k o' g
   obtain⟨b,d,e1,e2,e3⟩:=hS.get g1 (ZbD g2).2
   exact⟨_,e1,.inl ⟨b,d,rfl,e2,.ro o' d e3 (ZbD g2).1 (ZbD g2).2⟩⟩
 ·obtain⟨o1,g1⟩:=hin _ _ hk
  obtain⟨o2,g2⟩:=hin _ _ hk'
  exact hS.inj k k' o1 o2 b g1 g2 e e'
 ·have hb:t b=sO d:=hb
  by_cases hm:∃k o,(k,o)∈l∧η k=sO (.tip b)
  ·refine⟨by rw[←ht1 b hm];exact hb,fun k' o' hk hr e=>?_⟩
   obtain⟨k,o,hm,hb⟩:=hm
   rcases h1 k' o' hk with ⟨g,g'⟩|⟨o2,rfl,_⟩
   ·have:=hS.inj k k' o o' b (h2 k o hm).1 g hb e
    subst this
    exact g' o hm
   ·simp[Zbk]at hr
  ·rw[ht2 b hm]at hb
   refine⟨(hS.kp b d hb).1,fun k' o' hk hr e=>?_⟩
   rcases h1 k' o' hk with ⟨g,_⟩|⟨o2,rfl,_⟩
   ·exact(hS.kp b d hb).2 k' o' g hr e
   ·simp[Zbk]at hr
 ·show ∃d,t b=sO d
  rcases h1 k _ hk with ⟨g,_⟩|⟨o',e0,g⟩
  ·obtain⟨d,hd⟩:=hS.ro k o b g e
   exact⟨d,hL.1 b d hd⟩
  ·simp only[O.ro.injEq]at e0
   subst e0
   obtain⟨d,hd,_⟩:=hM b k o g e
   exact⟨d,by rw[hL.2.1 k o b g e];exact hd⟩
theorem Sim.unlend(hS:Sim C η σ s){ks l}(h:ZiQ ks σ=sO (σ0,l)){t}(hL:Zqx C η l s t)(hs:η.Sub η')(hS':Sim ⟨C.toCx,t⟩ η' σ' s')(hb:ZjP l σ'=sO σ2):
  Sim C η' σ2 s'∧∀k b,k∈ks→η k=sO (.tip b)→s' b=s b:=by
 obtain⟨h1,h2,h3⟩:=Zj2 h
 obtain⟨b1,b2⟩:=ZqL hb
 obtain⟨l1,l2,l3⟩:=hL
 have hM:∀k o b,(k,o)∈l→η k=sO (.tip b)→∃d,s b=sO d∧s' b=sO d∧OR C η k o d:=fun k o b hm hb=>by
  obtain⟨g1,g2⟩:=h2 k o hm
  obtain⟨b',d,e1,e2,e3⟩:=hS.get g1 (ZbD g2).2
  rw[hb]at e1
  cases e1
  exact⟨d,e2,(hS'.kp b d (by show t b=_;rw[l2 k o b hm hb];exact e2)).1,e3⟩
 have hin:∀k o,σ2.get k=sO o→∃o',σ'.get k=sO o':=fun k o hk=>by
  rcases b1 k o hk with g|⟨g,_⟩
  ·obtain⟨o',g⟩:=b2 k o g;exact⟨_,g⟩
  ·exact⟨o,g⟩
 refine⟨⟨fun k o hk=>?_,fun k k' o o' b hk hk' e e'=>?_,fun b d hb=>?_,fun k o b hk e=>?_⟩,fun k b hk hb=>?_⟩
 ·rcases b1 k o hk with g|⟨g,_⟩
  ·obtain⟨g1,g2⟩:=h2 k o g
   obtain⟨b,d,e1,e2,e3⟩:=hS.get g1 (ZbD g2).2
   obtain⟨d',f1,f2,f3⟩:=hM k o b g e1
   exact⟨_,hs _ _ e1,.inl ⟨b,d',rfl,f2,f3.mono hs⟩⟩
  ·exact hS'.obj k o g
 ·obtain⟨o1,g1⟩:=hin _ _ hk
  obtain⟨o2,g2⟩:=hin _ _ hk'
  exact hS'.inj k k' o1 o2 b g1 g2 e e'
 ·obtain⟨e1,e2⟩:=hS'.kp b d (l1 b d hb)
  refine⟨e1,fun k o hk hr e=>?_⟩
  rcases b1 k o hk with g|⟨g,_⟩
  ·exact(hS.kp b d hb).2 k o (h2 k o g).1 hr (hS.name hs (h2 k o g).1 e)
  ·exact e2 k o g hr e
 ·rcases b1 k _ hk with g|⟨g,g'⟩
  ·have:=(h2 k _ g).2;simp[Zi2]at this
  ·obtain⟨d,hd⟩:=hS'.ro k o b g e
   rcases l3 b d hd with hd|⟨k0,o0,hm,hb0⟩
   ·exact⟨d,hd⟩
   ·obtain⟨o1,g1⟩:=b2 k0 o0 hm
    have:=hS'.inj k k0 _ _ b g g1 e (hs _ _ hb0)
    subst this
    exact absurd hm (g' o0)
 ·rcases h3 k hk with ⟨o,hm⟩|⟨o,ho⟩
  ·obtain⟨d,f1,f2,_⟩:=hM k o b hm hb
   rw[f1,f2]
  ·obtain⟨d,hd⟩:=hS.ro k o b ho hb
   rw[(hS.kp b d hd).1,(hS'.kp b d (l1 b d hd)).1]
end
def Zdu(ρd:Env)(u l o:Nat):Prop:=ZH ρd u=sO (.loc l o)∨ZH ρd u=sO (.when true (.loc l o))
structure Y4(η:Nm)(r:Rl)(ρd:Env)(L:Loc)(B:List (Nat×Rd)):Prop where
 cs:∀l vs,Kn l r.cs=some vs→∃ds,Zf L l=some ds∧VRs η vs ds
 no:∀l,Kn l r.cs=none→Zf L l=none
 nd:(r.cs.map (·.1)).Nodup
 ad:∀u l o,(u,l,o)∈r.ad→Zdu ρd u l o
 lt:∀u l o,(u,l,o)∈r.ad→u<32768
 bn:∀n b,(n,.blk b)∈B→∃k,(n,k)∈r.bn∧η k=some (.tip b)
 bl:∀n l,(n,.loc l)∈B→(n,l)∈r.bl
theorem Y4.nil{η:Nm}{ρd:Env}:Y4 η Rl.nil ρd [] []:={
 cs l vs h:=by cases h
 no l _:=rfl
 nd:=by simp[Rl.nil]
 ad u l o h:=by cases h
 lt u l o h:=by cases h
 bn n b h:=by grind
 bl n l h:=by grind }
section
variable {η η':Nm} {r:Rl} {ρd:Env} {L:Loc} {B:List (Nat × Rd)}
theorem Y4.mono(h:Y4 η r ρd L B)(hs:η.Sub η'):Y4 η' r ρd L B:={
 cs l vs hl:=by
  obtain⟨ds,a,b⟩:=h.cs l vs hl
  exact⟨ds,a,b.mono hs⟩
 no:=h.no
 nd:=h.nd
 ad:=h.ad
 lt:=h.lt
 bn n b hb:=by
  obtain⟨k,a,c⟩:=h.bn n b hb
  exact⟨k,a,hs _ _ c⟩
 bl:=h.bl }
theorem Zdu.put{u l o}(h:Zdu ρd u l o){dst}(hd:dst≠sO u){e}:Zdu (Zv ρd dst e) u l o:=by
 unfold Zdu
 rw[WB,if_neg hd]
 exact h
theorem Zwj{t}(h:noA t r=true):∀u l o,(u,l,o)∈r.ad→t≠u:=fun u l o hm e=>by
 unfold noA at h
 split at h
 ·exact Zo2 ‹_› _ hm e.symm
 ·grind
theorem ZAk{t}(h:noA t r=true):t<32768:=by
 unfold noA at h
 split at h
 ·simpa using h
 ·grind
theorem ZxV{dst}(h:ZdM dst r=true):∀u l o,(u,l,o)∈r.ad→dst≠sO u:=fun u l o hm e=>by
 subst e
 exact Zwj h u l o hm rfl
theorem Y4.put(h:Y4 η r ρd L B){dst}(hd:ZdM dst r=true)(e):Y4 η r (Zv ρd dst e) L B :=
 { h with ad:=fun u l o hm=>(h.ad u l o hm).put (ZxV hd u l o hm) }
theorem Y4.next(h:Y4 η r ρd L B)(fl):Y4 η (Zj0 fl r) ρd L (YP fl B):=by
 have h1:∀{fl:List Nat} n b,(n,.blk b)∈YP fl B→∃k,(n,k)∈Zfg fl r.bn∧η k=sO (.tip b):=fun{fl} n b hb=>by
  obtain⟨e1,e2⟩:=Qe.1 hb
  obtain⟨k,a,c⟩:=h.bn n b e2
  exact⟨k,Zfh (Zex.1 e1) a,c⟩
 have h2:∀{fl:List Nat} n l,(n,.loc l)∈YP fl B→(n,l)∈Zfg fl r.bl:=fun{fl} n l hb=>by
  obtain⟨e1,e2⟩:=Qe.1 hb
  exact Zfh (Zex.1 e1) (h.bl n l e2)
 cases fl with
 |nil=>rw[ZiM];exact{ cs:=h.cs,no:=h.no,nd:=h.nd,ad:=h.ad,lt:=h.lt,bn:=fun n b hb=>by simp at hb,bl:=fun n b hb=>by simp at hb }
 |cons a fl=>exact{ cs:=h.cs,no:=h.no,nd:=h.nd,ad:=h.ad,lt:=h.lt,bn:=h1,bl:=h2 }
theorem ZnO(h:Y4 η r ρd L B){x l o}(ha:Zqz x r=sO (l,o)):∃p,ZC ρd true x=sO (p,.loc l o)∧p:=by
 cases x with
 |cst d=>cases ha
 |tmp t =>
  rcases h.ad t l o (Zls ha) with h|h
  ·exact⟨True,by simp[ZC,h],trivial⟩
  ·exact⟨True→True,by simp[ZC,h],fun _=>trivial⟩
theorem Y4.addr(h:Y4 η r ρd L B){u l o}(hn:noA u r=true){e}(he:e=.loc l o∨e=.when true (.loc l o)):Y4 η ⟨r.cs,(u,l,o)::r.ad,r.bn,r.bl⟩ (Zv ρd (sO u) e) L B :=
 { h with
  ad:=fun u' l' o' hm=>by
   rcases List.mem_cons.1 hm with hm|hm
   ·cases hm
    unfold Zdu
    rw[WB,if_pos rfl]
    exact he.imp (by rintro rfl;rfl) (by rintro rfl;rfl)
   ·exact(h.ad u' l' o' hm).put (fun hu=>Zwj hn u' l' o' hm (by simpa using hu))
  lt:=fun u' l' o' hm=>by
   rcases List.mem_cons.1 hm with hm|hm
   ·simp at hm
    rw[hm.1];exact ZAk hn
   ·exact h.lt u' l' o' hm }
theorem Z0.off{ρ}(h:Z0 η [] ρ ρd)(u e):Z0 η [] (ρ.set nO u) (Zv ρd (sO u) e):=fun t w hw hl=>by
 rcases T.get_set hw with ⟨_,h1⟩|⟨hne,h1⟩
 ·grind
 ·obtain⟨e',h2,h3⟩:=h t w h1 hl
  exact⟨e',by rw[WB,if_neg (by simpa using Ne.symm hne)];exact h2,h3⟩
theorem Y4.reads(h:Y4 η r ρd L B){R bn bl}(h1:∀k,k∈r.bn→k∈bn)(h2:∀k,k∈r.bl→k∈bl)(h3:∀n b,(n,.blk b)∈R→∃k,(n,k)∈bn∧η k=sO (.tip b))(h4:∀n l,(n,.loc l)∈R→(n,l)∈bl):Y4 η ⟨r.cs,r.ad,bn,bl⟩ ρd L (R++B) :=
 { h with
  bn:=fun n b hb=>by
   rcases List.mem_append.1 hb with hb|hb
   ·exact h3 n b hb
   ·obtain⟨k,a,c⟩:=h.bn n b hb
    exact⟨k,h1 _ a,c⟩
  bl:=fun n l hb=>by
   rcases List.mem_append.1 hb with hb|hb
   ·exact h4 n l hb
   ·exact h2 _ (h.bl n l hb) }
end
section
variable {C:Px} {ih:Ih} {dk:List WL} {os:List (DOp × List Nat)} {rest:Bx RgD}
def ZbJ(C:Px)(ih:Ih)(rest:Bx RgD)(dk:List WL)(os:List (DOp×List Nat)):Prop :=
 ∀r fm ρ σ nx o,rest.run r ih dk fm ρ σ nx=sO o→∀(F:Fr C.P) η ρd L s B,FmR C η fm o F→Z0 η [] ρ ρd→Yo η nx→Sim C η σ s→Y4 η r ρd L B→DOA F nO dk os ρd L s B
variable {r:Rl} {fm:Fm} {ρ:T W} {σ:S} {nx:Nat} {o:Out} {F:Fr C.P} {η:Nm} {ρd:Env} {L:Loc} {s:St} {B:List (Nat × Rd)}
theorem ZxT{t v d}(hv:VR η v d)(h:Y4 η r ρd L B):Y4 η (Zyu t v r) ρd L ((KF (.d d)).map (fun b=>(t,b))++B):=by
 have key:∀{k b:Nat},η k=sO (.tip b)→Y4 η ⟨r.cs,r.ad,(t,k)::r.bn,r.bl⟩ ρd L ([(t,.blk b)]++B):=fun{k b} hb =>
  h.reads (fun _ hm=>List.mem_cons_of_mem _ hm) (fun _ hm=>hm) (fun n b' hb'=>⟨k,by
   simp at hb'
   rw[hb'.1,hb'.2]
   exact⟨by simp,hb⟩⟩) (fun n l hl=>by grind)
 cases hv<;>first|exact h|exact key ‹_›
theorem ZvA{x xs vs}(h:(ZbP (x::xs)).run ρ=sO vs):∃v vs',(YI x).run ρ=sO v∧(ZbP xs).run ρ=sO vs'∧vs=v::vs':=by
 simp[ZbP]at h
 split at h<;>(try(simp at h;done))
 rename_i v hv
 split at h<;>simp at h
 rename_i vs' hvs
 exact⟨v,vs',hv,hvs,h.symm⟩
theorem ZAu(hρ:Z0 η [] ρ ρd){dst g k}(hg:Zk ρd g=sO true){db r3}(h:(opF false db k).run ρ σ nx=sO r3){ρd'}(hR:Y4 η r ρd' L B):
  Y4 η ((rdR (dst.getD 0) k).run ρ r) ρd' L (Kd ⟨dst,g,k⟩ ρd++B):=by
 cases k
 case q q xs =>
  cases hr:YL (.q q xs) with
  |false=>simpa[rdR,Kd,YV,hr]using hR
  |true =>
   simp[rdR,Kd,YV,hr,hg]
   cases xs with
   |nil=>exact hR
   |cons x ys =>
    simp[opF]at h
    split at h<;>(try(grind;done))
    rename_i vs hvs
    obtain⟨p,ds,a1,a2,a3⟩:=Zal hρ hvs
    obtain⟨v,vs',hv,_,rfl⟩:=ZvA hvs
    obtain⟨d,ds',rfl,b1,b2⟩:=a3.inv
    simp[a1,hv]
    exact ZxT b1 hR
 all_goals exact hR
theorem ZiW(hrest:ZbJ C ih rest dk os){dst g fl k}(hk:YB k=true)(h:(ZiV rest dst k).run r ih dk fm ρ σ nx=sO o)(hg:Zk ρd g=sO true)(hF:FmR C η fm o F)(hρ:Z0 η [] ρ ρd)(hN:Yo η nx)(hS:Sim C η σ s)(hR:Y4 η r ρd L B):DOA F nO dk ((⟨dst,g,k⟩,fl)::os) ρd L s B:=by
 simp[ZiV]at h
 split at h<;>(try(grind;done))
 rename_i v σ1 nx1 hop
 obtain⟨hd,hh⟩:=Zw h
 obtain⟨e1,e2,side,e,e3,e4,e5⟩:=Zpi (L:=L) (dst:=dst) hS hN.o hρ.anyL hg hk hop
 have hpk:YU k=true:=by cases k<;>simp[YB]at hk<;>rfl
 refine QY e4 e3 ?_
 simp[hpk]
 exact hrest _ _ _ _ _ _ hh F η _ L s _ hF (Jo hρ (show WR η [] (.v v) e from e5) dst) hN hS (ZAu hρ hg hop (hR.put hd e))
theorem Zty{fl σ0 l}(h:ZxY fl r σ=sO (σ0,l)):∃ks,ZiQ ks σ=sO (σ0,l)∧∀n k,n∈fl→(n,k)∈r.bn→k∈ks:=by
 cases fl with
 |nil=>exact⟨[],h,fun _ _ h=>by simp at h⟩
 |cons a fl=>exact⟨_,h,fun n k hn hk=>ZeN hn hk⟩
theorem Zn0(hrest:ZbJ C ih rest dk os){f dst g fl k}(hk:YB k=false)(hp:YU k=false)(hnf:ZiN k=true)(h:(Zq9 C f rest dst g fl k).run r ih dk fm ρ σ nx=sO o)(hg:Zk ρd g=sO true)(hF:FmR C η fm o F)(hρ:Z0 η [] ρ ρd)(hN:Yo η nx)(hS:Sim C η σ s)(hR:Y4 η r ρd L B):DOA F nO dk ((⟨dst,g,k⟩,fl)::os) ρd L s B:=by
 unfold Zq9 at h
 split at h<;>(try(grind;done))
 rename_i hgk
 simp only at h
 split at h<;>(try(grind;done))
 rename_i σ0 l hout
 split at h<;>(try(grind;done))
 rename_i v σ1 nx1 hop
 split at h<;>(try(grind;done))
 rename_i σ2 hback
 obtain⟨hd,hh⟩:=Zw h
 obtain⟨ks,o1,o2⟩:=Zty hout
 obtain⟨t,hS0,hL⟩:=hS.lend o1
 refine ZdX (YR ⟨C.toCx,t⟩ η ⟨v,σ1,nx1⟩) hp (fun ρ' L' os' hag hc=>?_) (fun e s2 hr=>?_)
 ·exact ZvS hS0 hN hρ (by rw[We (fun t ht=>hag t (by simp[Zz,ht]))];exact hg) hgk hk hnf hop hag hc
 ·obtain⟨η',k1,k2,k3,d,k4,rfl⟩:=hr
  obtain⟨u1,u2⟩:=hS.unlend o1 hL k1 k3 hback
  refine⟨Zfj (fun n b hf hb=>?_) (fun _ _ _ _=>rfl),hrest _ _ _ _ _ _ hh F η' _ L s2 _ (hF.mono k1) (Jo (hρ.mono k1) (WR.val k4) dst) k2 u1 (((hR.put hd _).next fl).mono k1)⟩
  obtain⟨kn,n1,n2⟩:=hR.bn n b hb
  exact u2 kn b (o2 n kn hf n1) n2
theorem Zxb(hlib:Qt C)(hih:Q1 C ih)(hrest:ZbJ C ih rest dk os){f dst g fl fx xs}(h:(goD C f rest dst g fl (.call fx xs)).run r ih dk fm ρ σ nx=sO o)(hg:Zk ρd g=sO true)(hF:FmR C η fm o F)(hρ:Z0 η [] ρ ρd)(hN:Yo η nx)(hS:Sim C η σ s)(hR:Y4 η r ρd L B):DOA F nO dk ((⟨dst,g,.call fx xs⟩,fl)::os) ρd L s B:=by
 simp[goD]at h
 split at h<;>(try(grind;done))
 rename_i fv hfv
 split at h<;>(try(grind;done))
 rename_i vs hvs
 split at h<;>(try(grind;done))
 rename_i σ0 l hout
 split at h<;>(try(grind;done))
 rename_i pan v σ' nx' hcall
 split at h<;>(try(grind;done))
 rename_i σ2 hback
 obtain⟨ks,o1,o2⟩:=Zty hout
 obtain⟨t,hS0,hL⟩:=hS.lend o1
 obtain⟨p,fd,a1,a2,a3⟩:=Ko hρ hfv
 obtain⟨q,ds,b1,b2,b3⟩:=Zal hρ hvs
 have hV:WV C.P fd ds s (ZfI ⟨C.toCx,t⟩ η ⟨pan,v,σ',nx'⟩):=Zlk (C:=⟨C.toCx,t⟩) hlib hih hcall a3 b3 hN hS0
 refine ZcS hg rfl a1 b1 (Zap ds) b2 a2 hV (fun d S1 hp=>?_) (fun d S1 hp=>?_)
 ·obtain⟨η1,d1,k1,k2,k3,k4,k5⟩:=hp
  cases pan with
  |true=>grind
  |false =>
   cases k5
   obtain⟨hd,hh⟩:=Zw h
   obtain⟨u1,u2⟩:=hS.unlend o1 hL k1 k3 hback
   refine⟨Zfj (fun n b hf hb=>?_) (fun _ _ _ _=>rfl),hrest _ _ _ _ _ _ hh F η1 _ L S1 _ (hF.mono k1) (Jo (hρ.mono k1) (WR.val k4) dst) k2 u1 (((hR.put hd _).next fl).mono k1)⟩
   obtain⟨kn,n1,n2⟩:=hR.bn n b hb
   exact u2 kn b (o2 n kn hf n1) n2
 ·obtain⟨η1,d1,k1,k2,k3,k4,k5⟩:=hp
  cases pan with
  |false=>grind
  |true =>
   cases k5
   exact Zgt hih h (hF.mono k1) Z0.nil k2 (hS.unlend o1 hL k1 k3 hback).1 k4
end
section
variable {C:Px} {ih:Ih} {dk:List WL} {os:List (DOp × List Nat)} {rest:Bx RgD}
variable {r:Rl} {fm:Fm} {ρ:T W} {σ:S} {nx:Nat} {o:Out} {F:Fr C.P} {η:Nm} {ρd:Env} {L:Loc} {s:St} {B:List (Nat × Rd)}
theorem ZiU{dst g}(hg:Zk ρd g=sO true){xs es p}(ha:Z2 ρd true xs=sO (p,es))(hp:p){q side e}(hq:qv L s q es=sO (side,e))(hs:side):
  ∃side' e',side'∧Zx ⟨dst,g,.q q xs⟩ ρd L s=.ok side' (Zv ρd dst e') L s∧(e'=e∨e'=.when true e):=by
 cases g with
 |none=>exact⟨p∧side,e,ZEC hp hs,by unfold Zx;simp[hg,ha,hq],.inl rfl⟩
 |some x=>exact⟨true=true→p∧side,.when true e,fun _=>ZEC hp hs,by unfold Zx;simp[hg,ha,hq],.inr rfl⟩
theorem Zl5(hrest:ZbJ C ih rest dk os){dst g fl l off}(h:(adD rest dst l off).run r ih dk fm ρ σ nx=sO o){q xs}(hrd:YL (.q q xs)=false){side e'}(hside:side)(hst:Zx ⟨dst,g,.q q xs⟩ ρd L s=.ok side (Zv ρd dst e') L s)(he:e'=.loc l off∨e'=.when true (.loc l off))(hF:FmR C η fm o F)(hρ:Z0 η [] ρ ρd)(hN:Yo η nx)(hS:Sim C η σ s)(hR:Y4 η r ρd L B):DOA F nO dk ((⟨dst,g,.q q xs⟩,fl)::os) ρd L s B:=by
 unfold adD at h
 split at h<;>(try(grind;done))
 rename_i u
 obtain⟨hn,hh⟩:=Zw h
 refine QY hst hside ?_
 have hr0:Kd ⟨sO u,g,.q q xs⟩ ρd=[]:=by simp[Kd,YV,hrd]
 simp[hr0]
 exact hrest _ _ _ _ _ _ hh F η _ L s _ hF (hρ.off u e') hN hS (hR.addr hn he)
theorem Zwy{dst g q xs es p l off}(hrd:YL (.q q xs)=true)(hg:Zk ρd g=sO true)(ha:Z2 ρd true xs=sO (p,.loc l off::es)):Kd ⟨dst,g,.q q xs⟩ ρd=[(dst.getD 0,.loc l)]:=by
 simp[Kd,YV,hrd,hg,ha,KF,Zbq]
theorem Zzg(hrest:ZbJ C ih rest dk os){dst g fl q x ys l off}(hx:Zqz x r=sO (l,off))(h:(ZxO rest dst q ys).run l off r ih dk fm ρ σ nx=sO o)(hg:Zk ρd g=sO true)(hF:FmR C η fm o F)(hρ:Z0 η [] ρ ρd)(hN:Yo η nx)(hS:Sim C η σ s)(hR:Y4 η r ρd L B):DOA F nO dk ((⟨dst,g,.q q (x::ys)⟩,fl)::os) ρd L s B:=by
 obtain⟨p,a1,a2⟩:=ZnO hR hx
 have ha1:Z2 ρd true [x]=sO (p∧True,[.loc l off]):=by simp[Z2,a1]
 have ld:∀{q:Q} {v:V} {d:D} {side:Prop},YL (.q q [x])=true→VR η v d→side→qv L s q [.loc l off]=sO (side,.d d)→noV (ZdM dst r) (rest.run ⟨r.cs,r.ad,r.bn,(dst.getD 0,l)::r.bl⟩ ih dk fm ((Zb3 dst).run ρ (.v v)) σ nx)=sO o→DOA F nO dk ((⟨dst,g,.q q [x]⟩,fl)::os) ρd L s B:=by
  intro q v d side hrd hv hs hq h
  obtain⟨hd,hh⟩:=Zw h
  obtain⟨side',e',h1,h2,h3⟩:=ZiU (dst:=dst) hg ha1 ⟨a2,trivial⟩ hq hs
  refine QY h2 h1 ?_
  simp only[YU,Zwy (dst:=dst) hrd hg ha1]
  refine hrest _ _ _ _ _ _ hh F η _ L s _ hF (Jo hρ (show WR η [] (.v v) e' from⟨d,hv,h3⟩) dst) hN hS ((hR.put hd e').reads (fun _ h=>h) (fun _ hm=>List.mem_cons_of_mem _ hm) (fun n b hb=>by grind) (fun n l' hl=>?_))
  simp at hl
  rw[hl.1,hl.2];simp
 unfold ZxO at h
 split at h
 ·split at h<;>(try(grind;done))
  obtain⟨side',e',h1,h2,h3⟩:=ZiU (L:=L) (s:=s) (dst:=dst) hg ha1 ⟨a2,trivial⟩ (q:=.mv) rfl trivial
  exact Zl5 hrest h rfl h1 h2 h3 hF hρ hN hS hR
 ·split at h<;>(try(grind;done))
  obtain⟨side',e',h1,h2,h3⟩:=ZiU (L:=L) (s:=s) (dst:=dst) hg ha1 ⟨a2,trivial⟩ (q:=.nilck) rfl trivial
  exact Zl5 hrest h rfl h1 h2 h3 hF hρ hN hS hR
 ·rename_i o1
  split at h<;>(try(grind;done))
  obtain⟨side',e',h1,h2,h3⟩:=ZiU (L:=L) (s:=s) (dst:=dst) hg ha1 ⟨a2,trivial⟩ (q:=.faddr o1) rfl trivial
  exact Zl5 hrest h rfl h1 h2 h3 hF hρ hN hS hR
 ·rename_i m z
  split at h<;>(try(grind;done))
  rename_i y
  simp only at h
  split at h<;>(try(grind;done))
  rename_i kk i hy
  obtain⟨hb,hh⟩:=Zw h
  simp[Jk,←Bool.not_eq_true]at hb
  obtain⟨p2,d,b1,b2,b3⟩:=Ko hρ hy
  cases b3
  have ha2:Z2 ρd true [x,y]=sO (p∧p2∧True,[.loc l off,.d (.int kk i)]):=by simp[Z2,a1,b1]
  obtain⟨side',e',h1,h2,h3⟩:=ZiU (L:=L) (s:=s) (dst:=dst) hg ha2 ⟨a2,b2,trivial⟩ (q:=.iaddrA m z) rfl ⟨hb.1,by omega⟩
  exact Zl5 hrest hh rfl h1 h2 h3 hF hρ hN hS hR
 ·split at h<;>(try(grind;done))
  simp only at h
  split at h<;>(try(grind;done))
  rename_i cs hcs
  split at h<;>(try(grind;done))
  rename_i v hv
  obtain⟨ds,c1,c2⟩:=hR.cs l cs hcs
  rw[ZjW]at hv
  obtain⟨d,d1,d2⟩:=c2.get hv
  exact ld rfl d2 trivial (by simp[qv,YS,c1,d1]) h
 ·rename_i n
  split at h<;>(try(grind;done))
  simp only at h
  split at h<;>(try(grind;done))
  rename_i cs hcs
  split at h<;>(try(grind;done))
  rename_i v hv
  obtain⟨ds,c1,c2⟩:=hR.cs l cs hcs
  unfold Zjz at hv
  split at hv<;>simp at hv
  rename_i rr hrr
  subst hv
  obtain⟨d1,d2⟩:=c2.partv hrr
  exact ld rfl (.agg _ _ d2) d1 (by simp[qv,Kc,c1]) h
 ·grind
theorem Y4.cell(hR:Y4 η r ρd L B){l vs0 vs}(hl:Kn l r.cs=sO vs0){ds}(hv:VRs η vs ds):Y4 η ⟨Zjj l vs r.cs,r.ad,r.bn,r.bl⟩ ρd ((l,ds)::L) B :=
 { hR with
  cs:=fun l' vs' h'=>by
   rw[Zlt]at h'
   by_cases he:l'=l
   ·subst he
    simp[hl]at h'
    subst h'
    exact⟨ds,by simp[Zf],hv⟩
   ·rw[if_neg he]at h'
    obtain⟨d,d1,d2⟩:=hR.cs l' vs' h'
    exact⟨d,by simp[Zf];rw[if_neg (Ne.symm he)];exact d1,d2⟩
  no:=fun l' h'=>by
   rw[Zlt]at h'
   by_cases he:l'=l
   ·subst he;simp[hl]at h'
   ·rw[if_neg he]at h'
    simp[Zf]
    rw[if_neg (Ne.symm he)]
    exact hR.no l' h'
  nd:=by rw[Zpr];exact hR.nd }
theorem ZtH(hrest:ZbJ C ih rest dk os){fl l off n xs k}(h:Zse rest fl l off n xs r ih dk fm ρ σ nx=sO o)(hpk:YU k=false)(hrk:Kd ⟨nO,nO,k⟩ ρd=[]){ys}(hx:VRs η xs ys){p q ok}(hp:p)(hq:q)(hok:ok)(hst:Zx ⟨nO,nO,k⟩ ρd L s=KJ ρd L s p q ok (.loc l off) n ys)(hF:FmR C η fm o F)(hρ:Z0 η [] ρ ρd)(hN:Yo η nx)(hS:Sim C η σ s)(hR:Y4 η r ρd L B):DOA F nO dk ((⟨nO,nO,k⟩,fl)::os) ρd L s B:=by
 unfold Zse at h
 split at h<;>(try(grind;done))
 rename_i cs hcs
 split at h<;>(try(grind;done))
 rename_i cs' hset
 obtain⟨hb,hh⟩:=Zw h
 obtain⟨ds,c1,c2⟩:=hR.cs l cs hcs
 obtain⟨f0,f1,f2⟩:=c2.over hx hset
 have hst':Zx ⟨nO,nO,k⟩ ρd L s=.ok (p∧q∧off+n≤ds.length∧ok) ρd ((l,Zu ds off ys)::L) s:=by rw[hst];simp[KJ,c1]
 refine QY hst' ⟨hp,hq,f1,hok⟩ ?_
 simp[hpk,hrk]
 refine⟨Zfj (fun _ _ _ _=>rfl) (fun n l' hf hl'=>?_),hrest _ _ _ _ _ _ hh F η ρd _ s _ hF hρ hN hS ((hR.cell hcs f2).next fl)⟩
 have hm:=hR.bl n l' hl'
 have:¬l=l':=fun e=>by
  subst e
  rw[Zcu.2 (ZeN hf hm)]at hb
  grind
 simp[Zf,this]
theorem Y4.more(hR:Y4 η r ρd L B){t}(ht:ZuJ t r=true){vs ds}(hv:VRs η vs ds):Zf L t=nO∧Y4 η ⟨(t,vs)::r.cs,(t,t,0)::r.ad,r.bn,r.bl⟩ ((t,.loc t 0)::ρd) ((t,ds)::L) B:=by
 unfold ZuJ at ht
 simp at ht
 obtain⟨h1,h2⟩:=ht
 split at h1<;>(try(grind;done))
 rename_i hc
 have hA:=hR.addr (e:=.loc t 0) h2 (.inl rfl)
 refine⟨hR.no t hc,{ hA with
  cs:=fun l vs' h'=>?_
  no:=fun l h'=>?_
  nd:=?_ }⟩
 ·simp only[Kn]at h'
  by_cases he:t=l
  ·subst he
   simp at h'
   subst h'
   exact⟨ds,by simp[Zf],hv⟩
  ·rw[if_neg (fun h=>he (ZZ.1 h))]at h'
   obtain⟨d,d1,d2⟩:=hR.cs l vs' h'
   exact⟨d,by simp[Zf];rw[if_neg he];exact d1,d2⟩
 ·simp only[Kn]at h'
  by_cases he:t=l
  ·subst he;rw[if_pos (ZZ.2 rfl)]at h';simp at h'
  ·rw[if_neg (fun h=>he (ZZ.1 h))]at h'
   simp[Zf]
   simp_all
   exact hR.no l h'
 ·simp only[ZEQ,List.nodup_cons]
  exact⟨Zo3 hc,hR.nd⟩
theorem Zvz(hrest:ZbJ C ih rest dk os){f dst g fl z}(h:(goD C f rest dst g fl (.alloc z)).run r ih dk fm ρ σ nx=sO o)(hF:FmR C η fm o F)(hρ:Z0 η [] ρ ρd)(hN:Yo η nx)(hS:Sim C η σ s)(hR:Y4 η r ρd L B):DOA F nO dk ((⟨dst,g,.alloc z⟩,fl)::os) ρd L s B:=by
 simp[goD]at h
 split at h<;>(try(grind;done))
 rename_i t zv hz
 obtain⟨hn,hh⟩:=Zw h
 obtain⟨hl,hR'⟩:=hR.more hn (ofDs_ok hz)
 refine QY (side:=J2 L t=false) (ρ1:=(t,.loc t 0)::ρd) (L1:=(t,z)::L) (s1:=s) (by unfold Zx;simp[Zk]) (by simp[J2,hl]) ?_
 exact hrest _ _ _ _ _ _ hh F η _ _ s _ hF (hρ.off t (.loc t 0)) hN hS hR'
theorem ZyM(hrest:ZbJ C ih rest dk os){f dst g fl x}(h:(goD C f rest dst g fl (.box x)).run r ih dk fm ρ σ nx=sO o)(hF:FmR C η fm o F)(hρ:Z0 η [] ρ ρd)(hN:Yo η nx)(hS:Sim C η σ s)(hR:Y4 η r ρd L B):DOA F nO dk ((⟨dst,g,.box x⟩,fl)::os) ρd L s B:=by
 simp[goD]at h
 split at h<;>(try(grind;done))
 rename_i t
 simp only at h
 split at h<;>(try(grind;done))
 rename_i v hv
 obtain⟨hb,hh⟩:=Zw h
 simp at hb
 obtain⟨⟨hp,hn⟩,hm⟩:=hb
 obtain⟨p,d,a1,a2,a3⟩:=Ko hρ hv
 obtain⟨hl,hR'⟩:=hR.more hn (ZjC a3)
 refine QY (side:=p∧J2 L t=false∧W1 d=true) (ρ1:=(t,.loc t 0)::ρd) (L1:=(t,cellsOf d)::L) (s1:=s) (by unfold Zx;simp[Zk,a1]) ⟨a2,by simp[J2,hl],ZlU a3 hp⟩ ?_
 refine⟨Zfj (fun _ _ _ _=>rfl) (fun n l' hf hl'=>?_),hrest _ _ _ _ _ _ hh F η _ _ s _ hF (hρ.off t (.loc t 0)) hN hS (hR'.next fl)⟩
 have:¬t=l':=fun e=>by
  subst e
  rw[Zcu.2 (ZeN hf (hR.bl _ _ hl'))]at hm
  grind
 simp[Zf,this]
theorem Zv0(hlib:Qt C)(hih:Q1 C ih)(hrest:ZbJ C ih rest dk os){f dst g fl k}(h:(goD C f rest dst g fl k).run r ih dk fm ρ σ nx=sO o)(hg:Zk ρd g=sO true)(hF:FmR C η fm o F)(hρ:Z0 η [] ρ ρd)(hN:Yo η nx)(hS:Sim C η σ s)(hR:Y4 η r ρd L B):DOA F nO dk ((⟨dst,g,k⟩,fl)::os) ρd L s B:=by
 cases k
 case call fx xs=>exact Zxb hlib hih hrest h hg hF hρ hN hS hR
 case alloc z=>exact Zvz hrest h hF hρ hN hS hR
 case box x=>exact ZyM hrest h hF hρ hN hS hR
 case panic x =>
  simp[goD]at h
  split at h<;>(try(grind;done))
  rename_i t v hv
  obtain⟨p,d,a1,a2,a3⟩:=Ko hρ hv
  cases a3 with
  |iface _ _ d hd=>exact ZoH hg rfl a1 a2 (Zgt hih h hF Z0.nil hN hS (.iface _ _ _ hd))
 case defer fx xs=>cases h
 case recover=>cases h
 case fork k=>cases h
 case store1 a v =>
  simp[goD]at h
  split at h<;>(try(grind;done))
  simp only at h
  split at h
  ·rename_i l off ha
   split at h<;>(try(grind;done))
   rename_i x hx
   obtain⟨hc,hh⟩:=Zw h
   obtain⟨p,a1,a2⟩:=ZnO hR ha
   obtain⟨q,d,b1,b2,b3⟩:=Ko hρ hx
   exact ZtH hrest hh rfl rfl (.one b3) a2 b2 (Zsj b3 hc) (by unfold Zx;simp[Zk,a1,b1]) hF hρ hN hS hR
  ·exact Zn0 hrest rfl rfl rfl h hg hF hρ hN hS hR
 case storeN n a v =>
  simp[goD]at h
  split at h<;>(try(grind;done))
  simp only at h
  split at h
  ·rename_i l off ha
   split at h<;>(try(grind;done))
   rename_i xs hx
   obtain⟨p,a1,a2⟩:=ZnO hR ha
   obtain⟨q,d,b1,b2,b3⟩:=Ko hρ hx
   cases b3 with
   |agg _ ys hxs =>
   have hlen:ys.length=n:=by
    unfold Zse at h
    split at h<;>(try(grind;done))
    split at h<;>(try(grind;done))
    rename_i hset
    rw[←hxs.len];exact(Zok hset).1
   exact ZtH hrest h rfl rfl hxs a2 b2 hlen (by unfold Zx;simp[Zk,a1,b1]) hF hρ hN hS hR
  ·exact Zn0 hrest rfl rfl rfl h hg hF hρ hN hS hR
 case q q xs =>
  simp[goD]at h
  split at h
  ·rename_i x ys
   simp only at h
   split at h
   ·rename_i l off hx
    exact Zzg hrest hx h hg hF hρ hN hS hR
   ·exact ZiW hrest rfl h hg hF hρ hN hS hR
  ·exact ZiW hrest rfl h hg hF hρ hN hS hR
 all_goals
  simp[goD]at h
  first
   |exact ZiW hrest rfl h hg hF hρ hN hS hR
   |exact Zn0 hrest rfl rfl rfl h hg hF hρ hN hS hR
end
theorem Zlu:∀{ρ t e},ZH ρ t=sO e→(t,e)∈ρ
 | [],t,e,h=>by cases h
 | (k,x)::r,t,e,h=>by
  simp[ZH]at h
  split at h
  ·rename_i hk
   cases h;subst hk;simp
  ·exact List.mem_cons_of_mem _ (Zlu h)
theorem Zxx:∀{L},(∀l,Zf L l=nO)→L=[]
 | [],_=>rfl
 | (k,c)::r,h=>by have:=h k;simp[Zf]at this
theorem ZiS{t nx}:∀{ad ρ u w},(Zm0 ad t nx ρ).get u=sO w→(∃o,(u,t,o)∈ad∧w=.v (.ptr nx o))∨ρ.get u=sO w
 | [],ρ,u,w,h=>.inr h
 | (u',l,o)::r,ρ,u,w,h=>by
  simp only[Zm0]at h
  split at h
  ·rename_i hl
   rw[ZZ]at hl
   subst hl
   rcases T.get_set h with ⟨rfl,h3⟩|⟨_,h3⟩
   ·simp at h3
    exact .inl ⟨o,by simp,h3.symm⟩
   ·rcases ZiS h3 with ⟨o',h1,h2⟩|h3
    ·exact .inl ⟨o',by simp[h1],h2⟩
    ·exact .inr h3
  ·rcases ZiS h with ⟨o',h1,h2⟩|h
   ·exact .inl ⟨o',by simp[h1],h2⟩
   ·exact .inr h
section
variable {C:Px} {ih:Ih} {dk:List WL}
theorem Zto(hih:Q1 C ih):∀{cs ad fm ρ σ nx o},Zrg cs ad ih dk fm ρ σ nx=sO o →
  ∀{F η ρd L s},FmR C η fm o F→Z0 η [] ρ ρd→Yo η nx→Sim C η σ s→(∀l vs,Kn l cs=sO vs→(∃u o,(u,l,o)∈ad)→∃ds,Zf L l=sO ds∧VRs η vs ds) →
   (∀l,Kn l cs=nO→Zf L l=nO)→(cs.map (·.1)).Nodup→(∀u l o,(u,l,o)∈ad→(Kn l cs).isSome=true→Zdu ρd u l o)→Zs F dk ρd L s
 | [],ad,fm,ρ,σ,nx,o,h,F,η,ρd,L,s,hF,hρ,hN,hS,hc,hn,hd,ha=>by
  obtain rfl:=Zxx fun l=>hn l rfl
  exact hih.at _ _ _ _ _ _ h F η ρd s hF hρ hN hS
 | (t,vs)::cs,ad,fm,ρ,σ,nx,o,h,F,η,ρd,L,s,hF,hρ,hN,hS,hc,hn,hd,ha=>by
  simp[Zrg]at h
  split at h<;>(try(grind;done))
  rename_i l' o' hget
  obtain⟨hl,hh⟩:=Zw h
  rw[ZZ]at hl
  subst hl
  have hsome:Kn l' ((l',vs)::cs)=sO vs:=by simp[Kn]
  obtain⟨ds,d1,d2⟩:=hc l' vs hsome ⟨_,_,Zls hget⟩
  simp only[ZEQ,List.nodup_cons]at hd
  have hcons:∀{l:Nat},l≠l'→Kn l ((l',vs)::cs)=Kn l cs:=fun{l} hne=>by
   simp only[Kn]
   rw[if_neg (fun h=>hne (ZZ.1 h).symm)]
  have hkey:∀{l:Nat} {x:List V},Kn l cs=sO x→l≠l':=fun{l x} hx e=>by
   subst e
   have:∀{r:List (Nat×List V)} {x:List V},Kn l r=sO x→l∈r.map (·.1):=fun{r}=>by
    induction r with
    |nil=>intro x h;cases h
    |cons a r ih =>
     intro x h
     simp only[Kn]at h
     split at h
     ·rename_i ht;rw[ZZ]at ht;simp[ht]
     ·simp only[ZEQ,ZFd];exact .inr (ih h)
   exact hd.1 (this hx)
  refine ZcD l' d1 fun b hb=>?_
  have f0:=hN.free nx (ZEP _)
  have n1:η.Sub (η.put nx (.tip b)):=Nm.put_sub f0 _
  refine Zto hih hh (η:=η.put nx (.tip b)) (hF.mono n1) ?_ (hN.put _) (hS.new f0 hb (OR.cells0 (d2.mono n1))) ?_ ?_ hd.2 ?_
  ·intro u w hw hlv
   rw[ZcH]
   rcases ZiS hw with ⟨o2,h1,rfl⟩|h1
   ·rcases ha u l' o2 h1 (by rw[hsome];rfl) with h2|h2
    ·exact⟨.d (.ptr b o2),by rw[h2];simp[QI],.ptr b o2,.ptr _ _ _ (Nm.put_same _ _ _),.inl rfl⟩
    ·exact⟨.when true (.d (.ptr b o2)),by rw[h2];simp[QI],.ptr b o2,.ptr _ _ _ (Nm.put_same _ _ _),.inr rfl⟩
   ·obtain⟨e,h2,h3⟩:=hρ u w h1 hlv
    cases w with
    |v x =>
     obtain⟨d,h4,rfl|rfl⟩:=h3
     ·exact⟨_,by rw[h2];rfl,d,h4.mono n1,.inl rfl⟩
     ·exact⟨_,by rw[h2];rfl,d,h4.mono n1,.inr rfl⟩
    |loc l o=>cases hlv
    |skip =>
     have h3':e=.when false (.d (.bool false)):=h3
     subst h3'
     exact⟨_,by rw[h2];rfl,rfl⟩
  ·intro l vs2 hl hx
   have hne:=hkey hl
   obtain⟨ds2,g1,g2⟩:=hc l vs2 (by rw[hcons hne];exact hl) hx
   exact⟨ds2,by rw[Zcp,if_neg hne];exact g1,g2.mono n1⟩
  ·intro l hl
   rw[Zcp]
   by_cases hne:l=l'
   ·simp_all
   ·rw[if_neg hne]
    exact hn l (by rw[hcons hne];exact hl)
  ·intro u l o2 hm hs
   obtain⟨x,hx⟩:=Option.isSome_iff_exists.1 hs
   have hne:=hkey hx
   unfold Zdu
   rw[ZcH]
   rcases ha u l o2 hm (by rw[hcons hne];exact hs) with h2|h2
   ·exact .inl (by rw[h2];simp[QI,hne])
   ·exact .inr (by rw[h2];simp[QI,hne])
theorem Zy5(hih:Q1 C ih):ZbJ C ih ⟨fun r ih dk fm ρ σ nx=>Zrg r.cs r.ad ih dk fm ρ σ nx⟩ dk []:=by
 intro r fm ρ σ nx o h F η ρd L s B hF hρ hN hS hR
 refine ZnL (Zto hih h hF hρ.keep hN hS (fun l vs hl hx=>?_) (fun l hl=>?_) hR.nd (fun u l o hm _=>?_))
 ·obtain⟨u,o',hm⟩:=hx
  obtain⟨ds,d1,d2⟩:=hR.cs l vs hl
  refine⟨ds,?_,d2⟩
  have hat:Zdu (Yh ρd ZnR) u l o':=(hR.ad u l o' hm).imp (fun h=>Q5 h (List.mem_range.2 (hR.lt u l o' hm))) (fun h=>Q5 h (List.mem_range.2 (hR.lt u l o' hm)))
  refine ZfC L _ l ds ?_ d1
  rw[List.mem_flatMap]
  rcases hat with h|h
  ·exact⟨_,Zlu h,by simp[WE]⟩
  ·exact⟨_,Zlu h,by simp[WE]⟩
 ·cases hg:Zf (ZaF (Yh ρd ZnR) L) l with
  |none=>rfl
  |some cs =>
   have:=Jx L _ l cs hg
   rw[hR.no l hl]at this;grind
 ·exact(hR.ad u l o hm).imp (fun h=>Q5 h (List.mem_range.2 (hR.lt u l o hm))) (fun h=>Q5 h (List.mem_range.2 (hR.lt u l o hm)))
end
section
variable {C:Px} {ih:Ih} {dk:List WL} {os:List (DOp × List Nat)} {rest:Bx RgD}
variable {r:Rl} {fm:Fm} {ρ:T W} {σ:S} {nx:Nat} {o:Out} {F:Fr C.P} {η:Nm} {ρd:Env} {L:Loc} {s:St} {B:List (Nat × Rd)}
end
section
variable {C:Px} {ih:Ih} {dk:List WL} {os:List (DOp × List Nat)} {rest:Bx RgD}
variable {r:Rl} {fm:Fm} {ρ:T W} {σ:S} {nx:Nat} {o:Out} {F:Fr C.P} {η:Nm} {ρd:Env} {L:Loc} {s:St} {B:List (Nat × Rd)}
theorem Zr1(hlib:Qt C)(hih:Q1 C ih){f}:∀{os},ZbJ C ih (Zj4 C f os) dk os
 | []=>Zy5 hih
 | (⟨dst,g,k⟩,fl)::os=>fun r fm ρ σ nx o h F η ρd L s B hF hρ hN hS hR=>by
  unfold Zj4 at h
  split at h
  ·grind
  ·rename_i hnf
   have IH:=Zr1 hlib hih (f:=f) (os:=os)
   split at h
   ·exact Zv0 hlib hih IH h rfl hF hρ hN hS hR
   ·rename_i g0
    simp only at h
    split at h<;>(try(grind;done))
    rename_i b hb
    have hg:=Zo5 hρ hb
    split at h
    ·exact Zv0 hlib hih IH h hg hF hρ hN hS hR
    ·split at h<;>(try(grind;done))
     rename_i hna
     obtain⟨hd,hh⟩:=Zw h
     cases hq:YB k with
     |true =>
      rw[hq,if_pos rfl]at hh
      exact Zvq hg hq (.d (.bool false)) (IH _ _ _ _ _ _ hh F η _ L s _ hF (Jo hρ WR.skp dst) hN hS (hR.put hd _))
     |false =>
      rw[hq]at hh
      have hp:YU k=false:=by
       cases k<;>simp[YB]at hq<;>first|rfl|exact absurd rfl (hna _)|exact absurd rfl (hnf _)
      exact Zd6 (e:=.d (.bool false)) hg hp (IH _ _ _ _ _ _ hh F η _ L s _ hF (Jo hρ WR.skp dst) hN hS ((hR.put hd _).next fl))
theorem ZtC(hlib:Qt C)(hih:Q1 C ih):Zl3 C ih:=by
 intro f order ops kp fm k ρ σ nx o h hf F η ρd s hF hρ hN hS
 exact Zh7 (show DOA F nO k ops ρd [] s [] from Zr1 hlib hih _ _ _ _ _ _ h F η ρd [] s [] hF hρ hN hS Y4.nil)
end
section
variable {P:Program}
theorem Zb.subM{f args s Φ Φ'}(h:Zb P f args s Φ)(hp:∀r s',Φ r s'→∃s2,St.sub s2 s'∧Φ' r s2):Zb P f args s Φ' :=
 ⟨h.1,fun g w vs hs ha=>(h.2 g w vs hs ha).mono fun _ _ ⟨g',s',r,a,b,c,d⟩=>let ⟨s2,e1,e2⟩:=hp r s' d;⟨g',s2,r,a,b.sub e1,c,e2⟩⟩
def St.emp:St:=fun _=>nO
theorem ZvT(s):St.emp.or s=s:=by funext b;simp[St.or,St.emp]
theorem ZgS{f args d}(h:Zb P f args St.emp fun r _=>r=.ret d):Ze P f args d:=fun s=>by
 have h1:Zb P f args St.emp fun r s'=>r=.ret d∧s'=St.emp:=h.subM fun r s' hr=>⟨St.emp,fun b o hb=>by simp[St.emp]at hb,hr,rfl⟩
 have hdj:ZJ St.emp s:=fun b o _=>rfl
 have h2:=h1.frame hdj
 rw[ZvT]at h2
 refine h2.mono fun r S ⟨s',⟨e1,e2⟩,_,e3⟩=>⟨e1,?_⟩
 rw[e3,e2,ZvT]
end
def nm0:Nm:=fun k=>if k=0 then sO .none else if k=1 then sO .full else nO
theorem Zwi:Yo nm0 2:={
 z:=rfl
 o:=rfl
 two:=ZEP _
 free k hk:=by simp only[nm0];rw[if_neg (by omega),if_neg (by omega)] }
theorem Zyj(C:Cx)(η:Nm)(s:St):Sim ⟨C,St.emp⟩ η T.nil s:={
 obj k o h:=by simp[T.get_nil]at h
 inj k k' o o' b h:=by simp[T.get_nil]at h
 kp b d h:=by simp[St.emp]at h
 ro k o b h:=by simp[T.get_nil]at h }
section
variable {P:Program}
theorem Zvu{F:Fr P}{kp dk o os ρ L s}(hg:Zk ρ o.guard=sO true){n xs}(hk:o.k=.call (.cst (.fn (.func n) [] [])) xs){p es ds}(ha:Z2 ρ true xs=sO (p,es))(hds:W6 es=sO ds)(hp:p){fn}(h0:P.funcs[n]?=sO fn)(h1:fn.body=nO)(h2:(fn.name == "runtime.NumGoroutine")=false)(h3:Extern.findNext fn=nO){e}(h4:Extern.find fn=sO e){d}(he:∀g w vs,ZG (Rep g w) vs ds→∃v,(e vs.toArray).run P w=.ok v w∧Rep g w v d)(h:DO F kp dk os (Zv ρ o.dst (.d d)) L s):DO F kp dk (o::os) ρ L s:=by
 refine Wa fun oo g ν w tmps ops i r k hoo hck hcg hdst hd hN m hr hkk=>?_
 have hw:=Z8 m hcg hg
 have hnd:=Yc hck (by rw[hk];rfl)
 rw[hk]at hck
 obtain⟨f',args,ats,hop,hf',hxs⟩:=Ztf hck
 have hfr:Rep g w _ _:=Z3 (ρ:=ρ) m hf' rfl rfl trivial F.ds
 have hargs:=KH (ZbB m rfl F.ds hxs ha hp) hds
 obtain⟨v,hv1,hv2⟩:=he g w _ hargs
 generalize hfv:(Act.mk tmps F.ds).eval f'=fv at hfr
 have hfv':fv=.func (.func n) #[] #[]:=by
  cases hfr with
  |fn _ fs cs _ _ e1 e2 _ _ =>
   obtain rfl:fs=[]:=by simpa using e1
   obtain rfl:cs=[]:=by simpa using e2
   rfl
 subst hfv'
 have hmap:(Array.map (Act.mk tmps F.ds).eval args)=(args.toList.map (Act.mk tmps F.ds).eval).toArray:=by apply Array.ext';simp
 refine ZmB (e:=.d d) hN m hoo hdst hd hw hnd ⟨v,?_,hv2⟩ (h ops r k hr hkk)
 have hcall:(callFunc n ((args.toList.map (Act.mk tmps F.ds).eval).toArray++#[])).run P w=.ok (.value v) w:=by
  have h2':¬fn.name = "runtime.NumGoroutine":=by simpa using h2
  simp[callFunc,h0,h2',h1,h3,h4,hv1]
 simp[execOp,hop,resolve,hfv,hmap,Deferred.ofValue,invoke]
 simpa using hcall
def Zlw(c:Nat):List Nat→Int
 | []=>-1
 |b::l=>if Nat.beq (b % 256) (c % 256) then 0 else match Zlw c l with
  |.ofNat n=>.ofNat (n+1)
  |.negSucc _=>-1
theorem Ztr(c):∀(l),Zlw c l=Lib.indexByte (l.map UInt8.ofNat) (UInt8.ofNat c)
 | []=>rfl
 |b::l=>by
  have ih:=Ztr c l
  simp only[Zlw,ZEQ,Lib.indexByte]
  have hbc:Nat.beq (b % 256) (c % 256)=(UInt8.ofNat b==UInt8.ofNat c):=by
   rw[Bool.eq_iff_iff,Nat.beq_eq,beq_iff_eq]
   constructor
   ·intro h
    apply UInt8.toNat_inj.1
    simpa using h
   ·intro h
    have:=congrArg UInt8.toNat h
    simpa using this
  rw[hbc]
  split
  ·rfl
  ·have hge:=Lib.indexByte_ge (l.map UInt8.ofNat) (UInt8.ofNat c)
   rw[←ih]at hge⊢
   cases hx:Zlw c l with
   |ofNat n =>
    have:(Int.ofNat n==-1)=false:=by rw[beq_eq_false_iff_ne];simp only[Int.ofNat_eq_natCast,ne_eq];omega
    rw[this];rfl
   |negSucc n =>
    rw[hx]at hge
    have:n=0:=by have e:=Int.negSucc_eq n;omega
    subst this;rfl
theorem ZiE:∀(l c),Lib.indexByte l c<l.length∨Lib.indexByte l c=-1
 | [],c=>.inr rfl
 |b::l,c=>by
  simp only[Lib.indexByte]
  split
  ·left;simp
  ·split
   ·exact .inr rfl
   ·rename_i h
    rcases ZiE l c with h1|h1
    ·left;simp;omega
    ·rw[h1]at h;simp at h
def ZAb(n:FuncId):DF:=⟨8,[.tmp 4],.seq (.reg [⟨sO 4,nO,.q .mv [.cst (.int .i64 0)]⟩] nO) (.seq (.reg [⟨sO 5,nO,.q .mv [.tmp 0]⟩,⟨sO 6,nO,.q .mv [.tmp 1]⟩,⟨sO 7,nO,.call (.cst (.fn (.func n) [] [])) [.tmp 5,.tmp 6]⟩,⟨sO 4,nO,.q .mv [.tmp 7]⟩] nO) .ret)⟩
theorem Zrq{an f n}(hf:cf P an f=sO (ZAb n)){fn}(h0:P.funcs[n]?=sO fn)(h1:fn.body=nO)(h2:(fn.name == "runtime.NumGoroutine")=false)(h3:Extern.findNext fn=nO)(h4:Extern.find fn=sO Extern.BytealgIndexByte.indexByte)(l c):
  Ze P f [.str l,.int .u8 c] (.int .i64 (Lib.indexByte l c.toNat.toUInt8)):=by
 refine Zm hf fun F s hret=>?_
 refine Za (ZgQ (Qg rfl (by repeat(first|trivial|constructor)) (Zd7 (Za (ZgQ (Qg rfl (by repeat(first|trivial|constructor)) (Qg rfl (by repeat(first|trivial|constructor)) (Zvu rfl rfl rfl rfl (by repeat(first|trivial|constructor)) h0 h1 h2 h3 h4 (d:=.int .i64 (Lib.indexByte l c.toNat.toUInt8)) (fun g w vs ha=>?_)
  (Qg rfl (by repeat(first|trivial|constructor)) (Zd7 (hret rfl (by repeat(first|trivial|constructor)) (ZEF _) (ZEB _))))))))))))
 cases ha with
 |cons a1 ha =>
 cases ha with
 |cons a2 ha =>
 cases ha
 cases a1 with
 |str s _ hs hb =>
 cases a2 with
 |int _ _ hc =>
 subst hs
 refine⟨_,Lib.run_indexByteString s c w,.int _ _ ?_⟩
 have h1:=Lib.indexByte_ge s.data.toList c.toNat.toUInt8
 have h2:=ZiE s.data.toList c.toNat.toUInt8
 simp only[big]at hb
 simp only[inR,IntKind.min,IntKind.max,IntKind.signed,IntKind.bits]
 generalize Lib.indexByte s.data.toList c.toNat.toUInt8=z at h1 h2⊢
 rcases h2 with h2|h2<;>simp<;>omega
end
end Go.DL
