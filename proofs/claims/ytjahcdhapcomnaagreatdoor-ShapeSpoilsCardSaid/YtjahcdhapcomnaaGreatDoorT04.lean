/- Lemmas: Q00, Q03, W08, Q05, One, Q06, W09, W10, W11, W12, X03, W13, SLay3, W14, W15, W16, W17, W18, W19, W20, W21, W22, W23, W24, W25, W26, W27, W28, W29, W30, W31, W33, W34, W35, W36, W37, X04, X05, W38, W39, W40, W41, W42, W43, W44, W45, W46, W47, W48, W49, X07, X10, X11, X12, X13, Q01, Q02, Q04. -/
import Derived.Test.YtjahcdhapcomnaaGreatDoorT03
set_option maxHeartbeats 16000000
set_option maxRecDepth 100000
set_option linter.all false
open Option renaming some → sO, none → nO
open Inhabited renaming default → dE
open Decidable renaming decide → dC
open Go.Proofs.Tryz
open And renaming intro → ZEC
open Bool renaming and_eq_true → ZEK, false_and → ZE8, or_eq_true → ZEY, true_and → ZE1
open Go.DL.D.Le renaming refl → ZEF
open Go.DL.St renaming single → ZEX, sub_refl → ZEB, sub_trans → ZFf, sub_upd → ZEZ, upd → ZFc, upd_ne → ZEJ, upd_same → ZEI, upd_upd → ZET
open Go.DL.Val renaming cells_eq → ZE0
open Go.Proofs.Tryz renaming prog → ZEA
open Int renaming reduceToNat → ZEG
open List renaming append_assoc → ZE9, append_nil → ZFb, getD → ZES, getElem?_append_left → ZE7, getElem?_append_right → ZFj, getElem?_eq_getElem → ZE5, getElem?_eq_none → ZFi, getElem_of_mem → ZEV, length_append → ZEM, length_cons → ZER, length_drop → ZFh, length_take → ZEU, mem_cons → ZFd, range → ZEO, take_length → ZFa
open Nat renaming le_refl → ZEP, reduceAdd → ZEH, reduceEqDiff → ZED, reduceLeDiff → ZEE
open Option renaming getD_some → ZFe
open Option.some renaming injEq → ZEz
namespace Go.DL
open Go Go.Proofs
variable {kp:Option (List Nat)}{L:Loc}{ρ:Env}{s:St}{w:World}{os:List DOp}{ds:List D}{B:List (Nat × Rd)}{dst:Option Nat}{tmps:Array Value}{g:G}{Φ:Res→St→Prop}{ν:Nat→Nat}{xs:List Opd}{side:Prop}{row:Nat→List D}
def QA(x:Str×Nat):Str:=if x.2=0 then x.1 else x.1++[58]++Wz x.2
def Wq:List (Str×Nat)→Str
 | []=>[]
 | [x]=>QA x
 |x::y::r=>QA x++46::Wq (y::r)
theorem ZdG{x r}(h:r≠[]):Wq (x::r)=QA x++46::Wq r:=by cases r<;>simp_all[Wq]
def ZbL(x:Str×Nat):Prop:=YE x.1=true∧x.2<510
theorem ZwM{x}(h:ZbL x):(QA x).length≤600:=by
 have h1:x.1.length≤32:=by
  have:=h.1
  unfold YE at this
  split at this
  ·simp at this
  ·simp only[ZEK,decide_eq_true_eq]at this;exact this.1.1
 have h2:=ZgX x.2
 have h3:=h.2
 unfold QA
 split
 ·omega
 ·simp only[ZEM,ZER,List.length_nil];omega
theorem Zsd{x}(h:ZbL x):QA x≠[]:=by
 have:=h.1
 unfold QA YE at *
 split
 ·intro e;rw[e]at this;simp at this
 ·simp
theorem ZxK{x r}(h:ZbL x):Wq (x::r)≠[]:=by
 cases r with
 |nil=>exact Zsd h
 |cons y r=>simp[Wq]
theorem ZxS{c}(h:ZdJ c=true):c≠46∧c≠58:=by
 refine⟨fun e=>?_,fun e=>?_⟩<;>· subst e;exact absurd h (by decide)
theorem ZlA{s}(h:YE s=true):∀c∈s,c≠46∧c≠58:=fun c hc=>by
 unfold YE at h
 split at h
 ·simp at h
 ·simp only[ZEK,List.all_eq_true]at h
  exact ZxS (h.2 c hc)
theorem Zy0:∀n,∀c∈Wz n,c≠46∧c≠58:=fun n=>by
 induction n using Nat.strongRecOn with
 |_ n ih =>
  have dig:∀k,k<10→∀c∈[UInt8.ofNat (48+k)],c≠46∧c≠58:=by
   intro k hk c hc
   rw[List.mem_singleton]at hc
   subst hc
   have:∀k:Fin 10,UInt8.ofNat (48+k.val)≠46∧UInt8.ofNat (48+k.val)≠58:=by decide
   exact this ⟨k,hk⟩
  rw[Wz]
  split
  ·rename_i h;exact dig n h
  ·rename_i h
   intro c hc
   rcases List.mem_append.1 hc with hc|hc
   ·exact ih (n / 10) (by omega) c hc
   ·exact dig (n % 10) (Nat.mod_lt _ (by omega)) c hc
theorem ZwL{x}(h:ZbL x):∀c∈QA x,c≠46:=fun c hc=>by
 unfold QA at hc
 split at hc
 ·exact(ZlA h.1 c hc).1
 ·simp only[ZE9,List.mem_append,List.mem_singleton]at hc
  rcases hc with hc|rfl|hc
  ·exact(ZlA h.1 c hc).1
  ·decide
  ·exact(Zy0 _ c hc).1
def Zea:Prop:=∀(s:Str) (c:UInt8),Ze ZEA 149 [.str s,.int .u8 c.toNat] (.int .i64 (Zg (fun b=>dC (b=c)) s))
theorem Zce(hX:Zea)(s c):Ze ZEA 180 [.str s,.str [c]] (.int .i64 (Zg (fun b=>dC (b=c)) s)):=by
 refine Zm (cR 180 f180) fun F st hret=>?_
 have hx:=hX s c
 refine rg ?_
 refine rg ?_
 refine rg ?_
 refine cd (fun h1=>?_) (fun h1=>?_)
 ·have e:s=[c]:=by simpa[eq_comm]using h1
  subst e
  refine rg ?_
  refine ri hret ?_
  simp[Zg]
 ·refine rg ?_
  refine i1 ?_
  refine rg ?_
  refine aa ?_
  refine cl (hx) ?_
  refine ri hret ?_
  rfl
theorem ZlP(hX:Zea)(s c):Ze ZEA 179 [.str s,.str [c]] (.int .i64 (Zg (fun b=>dC (b=c)) s)):=by
 refine Zm (cR 179 f179) fun F st hret=>?_
 refine rg ?_
 refine rg ?_
 refine cl (Zce hX s c) ?_
 refine ri hret ?_
 rfl
def Zip(s:Str)(c:UInt8):D:=if Zg (fun b=>dC (b=c)) s<0 then .tup [.str s,.str [],.bool false] else .tup [.str (s.take (Zg (fun b=>dC (b=c)) s).toNat),.str (s.drop ((Zg (fun b=>dC (b=c)) s).toNat+1)),.bool true]
theorem Zjy(hX:Zea)(s c):Ze ZEA 134 [.str s,.str [c]] (Zip s c):=by
 refine Wj (cR 134 f134) fun hwf F st hret=>?_
 have hb:=(hwf (.str s) (by simp)).str_inv
 unfold big at hb
 clear hwf
 have hx:=Zce hX s c
 have hR:=Zip.eq_1 s c
 have hlt:=WM (fun b=>dC (b=c)) s
 generalize Zip s c=R at *
 generalize Zg (fun b=>dC (b=c)) s=n at *
 refine rg ?_
 refine rg ?_
 refine cl (hx) ?_
 refine rg ?_
 refine cd (fun h1=>?_) (fun h1=>?_)
 ·have h0:0≤n:=by simpa using h1
  rw[if_neg (by omega)]at hR
  refine rg ?_
  refine aa ?_
  refine rt hret ?_
  rw[show(n+((1:Nat):Int)).toNat=n.toNat+1 by omega,Nat.sub_zero,List.take_of_length_le (l:=List.drop _ _) (by simp)];exact hR.symm
 ·have h0:n<0:=by simpa using h1
  rw[if_pos h0]at hR
  refine rg ?_
  refine rt hret ?_
  exact hR.symm
theorem Zov(hX:Zea)(s c):Ze ZEA 81 [.str s,.str [c]] (Zip s c):=by
 refine Zm (cR 81 f81) fun F st hret=>?_
 have hx:=Zjy hX s c
 have hR:=Zip.eq_1 s c
 generalize Zip s c=R at *
 refine rg ?_
 refine rg ?_
 split at hR
 ·subst hR
  refine cl (hx) ?_
  refine rt hret ?_
  rfl
 ·subst hR
  refine cl (hx) ?_
  refine rt hret ?_
  rfl
theorem ZvX{x r}(h:ZbL x):Zg (fun b=>dC (b=46)) (Wq (x::r))=if r=[] then -1 else ((QA x).length:Int):=by
 have hn:=ZwL h
 have key:∀(a t:Str),(∀c∈a,c≠46)→Zg (fun b=>dC (b=46)) (a++46::t)=a.length:=fun a t=>by
  induction a with
  |nil=>intro _;simp[Zg]
  |cons c a ih =>
   intro h1
   have h2:=ih fun c hc=>h1 c (by simp[hc])
   have h3:dC (c=46)=false:=decide_eq_false (h1 c (by simp))
   rw[List.cons_append,Zg,h3,h2]
   simp;omega
 by_cases hr:r=[]
 ·subst hr
  rw[if_pos rfl]
  exact WC fun c hc=>decide_eq_false (hn c hc)
 ·rw[if_neg hr,ZdG hr]
  exact key _ _ hn
def Zdp(za zb zc:Nat)(s:Str):St:=(ZEX za (.cells [.str s])).or ((ZEX zb (.cells [.str [46]])).or (ZEX zc (.cells [.int .i64 0])))
theorem ZxX{s t:St}{b o}(h:s b=nO):(s.or t).upd b o=s.or (t.upd b o):=by
 funext c
 by_cases hc:c=b
 ·subst hc;rw[ZEI,Zl h,ZEI]
 ·rw[ZEJ _ _ hc]
  cases hs:s c with
  |some x=>rw[Zh hs,Zh hs]
  |none=>rw[Zl hs,Zl hs,ZEJ _ _ hc]
theorem Zuf{s t b o}(hd:ZJ s t)(h:s b=nO):ZJ s (t.upd b o):=fun c x hc=>by
 by_cases hcb:c=b
 ·subst hcb;exact h
 ·rw[ZEJ _ _ hcb]at hc;exact hd c x hc
theorem Zh0(s:Str)(st):Zb ZEA 133 [.str s,.str [46],.int .i64 0] st fun r S=>∃za zb zc,ZJ st (Zdp za zb zc s)∧zb≠za∧zc≠za∧zc≠zb∧r=.ret (.fn (.func 177) [] [.ptr zb 0,.ptr za 0,.ptr zc 0])∧S=st.or (Zdp za zb zc s):=by
 refine Zc (cR 133 f133) fun F hF=>?_
 have hE:∀za zb zc,Zdp za zb zc s=(ZEX za (.cells [.str s])).or ((ZEX zb (.cells [.str [46]])).or (ZEX zc (.cells [.int .i64 0]))):=fun _ _ _=>rfl
 refine rg ?_
 refine Za ?_
 refine xP 3 fun za ha=>?_
 refine xP 4 fun zb hb=>?_
 refine xP 5 fun zc hc=>?_
 have kb:=Zn hb
 have kc:=Zn hc
 have kc2:=Zn kc.2
 refine rg ?_
 refine hF.ret _ _ rfl (by trivial) (ZEF _) (ZEB _) ⟨za,zb,zc,?_,kb.1,kc2.1,kc.1,rfl,?_⟩
 ·intro b o hb'
  rw[hE]at hb'
  by_cases e:b=za
  ·rw[e];exact ha
  ·rw[Zl (WO _ e)]at hb'
   by_cases e:b=zb
   ·rw[e];exact kb.2
   ·rw[Zl (WO _ e)]at hb'
    by_cases e:b=zc
    ·rw[e];exact kc2.2
    ·rw[WO _ e]at hb';simp at hb'
 ·rw[Wu hc,Wu hb,Wu ha,or_assoc,or_assoc,hE]
theorem ZhZ(s:Str)(st):Zb ZEA 80 [.str s,.str [46]] st fun r S=>∃za zb zc,ZJ st (Zdp za zb zc s)∧zb≠za∧zc≠za∧zc≠zb∧r=.ret (.fn (.func 177) [] [.ptr zb 0,.ptr za 0,.ptr zc 0])∧S=st.or (Zdp za zb zc s):=by
 refine Zc (cR 80 f80) fun F hF=>?_
 refine rg ?_
 refine rg ?_
 refine cV ((Zh0 s st)) ?_ ?_
 ·rintro d S ⟨za,zb,zc,h1,h2,h3,h4,hr,rfl⟩
  cases hr
  refine gR0 ?_
  exact hF.ret _ _ rfl (by trivial) (ZEF _) (ZEB _) ⟨za,zb,zc,h1,h2,h3,h4,rfl,rfl⟩
 ·rintro d S ⟨_,_,_,_,_,_,_,hr,_⟩
  cases hr
theorem ZgH(hX:Zea){l:List (Str×Nat)}(hl:∀x∈l,ZbL x)(hne:l≠[]){za zb zc}(h1:zb≠za)(h2:zc≠za)(h3:zc≠zb):
  Zai ZEA (.fn (.func 177) [] [.ptr zb 0,.ptr za 0,.ptr zc 0]) l.length (fun j=>[.str (QA (l.getD j dE))]) (Zdp za zb zc (Wq l)):=by
 intro y go A a0 hcons hA hd
 refine Zb.V (first:=[]) (args:=[y]) (caps:=[.ptr zb 0,.ptr za 0,.ptr zc 0]) (Zc (cR 177 f177) fun F hF=>?_)
 have rd:∀{a Tq:St} {b:Nat} {o:W4},ZJ a Tq→Tq b=sO o→(a.or Tq) b=sO o:=fun hda hb=>by rw[Zl (hda _ _ hb)];exact hb
 have ga:(Zdp za zb zc (Wq l)) za=sO (.cells [.str (Wq l)]):=Zh (Z4 _ _)
 have gb:(Zdp za zb zc (Wq l)) zb=sO (.cells [.str [46]]):=by unfold Zdp;rw[Zl (WO _ h1)];exact Zh (Z4 _ _)
 have gc:(Zdp za zb zc (Wq l)) zc=sO (.cells [.int .i64 0]):=by unfold Zdp;rw[Zl (WO _ h2),Zl (WO _ h3)];exact Z4 _ _
 have hlen:0<l.length:=List.length_pos_iff.2 hne
 generalize Zdp za zb zc (Wq l)=T at *
 refine rh ?_
 refine Zj ?_
 simp only[Eqs,reduceCtorEq,ZEG,reduceIte,ZED,ZEH,ZEE,rd hd gb]
 refine i0 ?_
 refine ZD ?_
 refine kE [0,1,2,3] ?_
 refine Za (Zd (fr (l.length) (fun j Q=>∀(s T:St),ZJ s T→T za=sO (.cells [.str (Wq (l.drop j))])→T zb=sO (.cells [.str [46]])→T zc=sO (.cells [.int .i64 0])→A j s→(∀k,k<j→go k=.next)→j<l.length→Q [(0,.d y),(1,.d (.ptr zb 0)),(2,.d (.ptr za 0)),(3,.d (.ptr zc 0))] [] (s.or T)) (fun n ih_key=>?_) fun key=>?_))
 ·clear hA hd ga gb gc T
  intro j hn s T hd ga gb gc hA hno hj
  have hdj:=QM hj
  have hst:=hl _ (ZA hj)
  have hsl:=ZwM hst
  have hix:=ZvX (r:=l.drop (j+1)) hst
  rw[←hdj]at hix
  have hcall:=(hcons j hj hno s hA).frame hd
  have hc:=ZlP hX (Wq (l.drop j)) 46
  rw[hix]at hc
  clear hix
  refine rh ?_
  refine Zj ?_
  simp only[Eqs,reduceCtorEq,ZEG,reduceIte,ZED,ZEH,ZEE,rd hd ga,rd hd gb]
  by_cases hlast:l.drop (j+1)=[]
  ·rw[if_pos hlast]at hc
   rw[hdj,hlast,show Wq [l.getD j dE]=QA (l.getD j dE) from rfl]at ga
   have hj1:j+1=l.length:=by have:=congrArg List.length hlast;simp at this;omega
   refine cl (hc) ?_
   refine rg ?_
   refine i1 ?_
   refine rh ?_
   refine Zj ?_
   simp only[Eqs,reduceCtorEq,ZEG,reduceIte,ZED,ZEH,ZEE,rd hd ga]
   refine vV (hcall) ?_ ?_
   ·rintro d S ⟨s',⟨hr,hA'⟩,hd',rfl⟩
    cases hgo:go j with
    |next =>
     rw[hgo]at hr
     cases hr
     refine gR0 ?_
     exact hF.fin (.tup []) _ rfl trivial (ZEF _) (ZEB _) ⟨s',.all (fun k hk=>by
      by_cases e:k=j
      ·rw[e];exact hgo
      ·exact hno k (by omega)) (by rw[←hj1];exact hA'),YQ _ _⟩
    |stop c =>
     rw[hgo]at hr
     cases hr
     refine gR0 ?_
     exact hF.fin (.tup []) _ rfl trivial (ZEF _) (ZEB _) ⟨s',.stop j c hj hno hgo hA',YQ _ _⟩
    |pan d=>rw[hgo]at hr;cases hr
   ·rintro d S ⟨s',⟨hr,hA'⟩,hd',rfl⟩
    cases hgo:go j with
    |pan d' =>
     rw[hgo]at hr
     cases hr
     exact hF.pan _ (ZEB _) ⟨s',.pan j d hj hno hgo hA',YQ _ _⟩
    |next=>rw[hgo]at hr;cases hr
    |stop c=>rw[hgo]at hr;cases hr
  ·skip
   rw[if_neg hlast]at hc
   have hT:Wq (l.drop j)=QA (l.getD j dE)++46::Wq (l.drop (j+1)):=by rw[hdj,ZdG hlast]
   have hj1:j+1<l.length:=by
    refine Nat.lt_of_not_le fun h=>hlast (List.drop_eq_nil_of_le h)
   rw[hT]at ga
   have hdl:=congrArg List.length hT
   dsimp only at hcall
   generalize hs1:QA (l.getD j dE)=s1 at *
   generalize hs2:Wq (l.drop (j+1))=s2 at *
   have hla:(s1++46::s2).length=s1.length+s2.length+1:=by simp;omega
   refine cl (hc) ?_
   refine rg ?_
   refine Zq rfl trivial (fun h=>by simp at h;omega) (fun _=>?_)
   refine rh ?_
   refine Zj ?_
   simp only[Eqs,reduceCtorEq,ZEG,reduceIte,ZED,ZEH,ZEE,rd hd ga,rd hd gc]
   refine aa ?_
   refine rg ?_
   rw[show List.take (((s1.length:Int)+0).toNat-0) (s1++46::s2)=s1 by rw[show((s1.length:Int)+0).toNat-0=s1.length by omega];exact List.take_left' rfl]
   refine vV (hcall) ?_ ?_
   ·rintro d S ⟨s',⟨hr,hA'⟩,hd',rfl⟩
    cases hgo:go j with
    |next =>
     rw[hgo]at hr
     cases hr
     refine gR0 ?_
     refine i0 ?_
     refine rh ?_
     refine Zj ?_
     simp only[Eqs,reduceCtorEq,ZEG,reduceIte,ZED,ZEH,ZEE,rd hd' ga,rd hd' gb]
     refine aa ?_
     have hza:=hd' za _ ga
     rw[show List.take ((s1++46::s2).length-((s1.length:Int)+((1:Nat):Int)).toNat) (List.drop ((s1.length:Int)+((1:Nat):Int)).toNat (s1++46::s2))=s2 by
      rw[show((s1.length:Int)+((1:Nat):Int)).toNat=s1.length+1 by omega,List.take_of_length_le (by simp;omega),show s1++46::s2=(s1++[46])++s2 by simp]
      exact List.drop_left' (by simp),ZxX hza]
     refine Zo (Zi ?_)
     exact ih_key ((l.length)-(j+1)) (by omega) (j+1) rfl s' _ (Zuf hd' hza) (by rw[ZEI,hs2]) (by rw[ZEJ _ _ h1];exact gb) (by rw[ZEJ _ _ h2];exact gc) hA' (fun k hk=>by
      by_cases e:k=j
      ·rw[e];exact hgo
      ·exact hno k (by omega)) hj1
    |stop c =>
     rw[hgo]at hr
     cases hr
     refine gR0 ?_
     refine i1 ?_
     exact hF.ret (.tup []) _ rfl trivial (ZEF _) (ZEB _) ⟨s',.stop j c hj hno hgo hA',YQ _ _⟩
    |pan d=>rw[hgo]at hr;cases hr
   ·rintro d S ⟨s',⟨hr,hA'⟩,hd',rfl⟩
    cases hgo:go j with
    |pan d' =>
     rw[hgo]at hr
     cases hr
     exact hF.pan _ (ZEB _) ⟨s',.pan j d hj hno hgo hA',YQ _ _⟩
    |next=>rw[hgo]at hr;cases hr
    |stop c=>rw[hgo]at hr;cases hr
 exact key _ 0 rfl a0 T hd ga gb gc hA (fun k hk=>absurd hk (Nat.not_lt_zero _)) hlen
mutual
def Kb:Val→Nat
 |.mk _ _ _ _ p=>1+nodesL p
def nodesL:List Val→Nat
 | []=>0
 |v::r=>Kb v+nodesL r
end
mutual
def Z6:Val→Nat
 |.mk _ _ _ _ p=>heightL p+1
def heightL:List Val→Nat
 | []=>0
 |v::r=>max (Z6 v) (heightL r)
end
def Zc0(h:Hdr):Bool:=dC ((1048576:Int)<h.name.length) ||decide ((1048576:Int)<h.text.length)
def Qo(v:Val):Bool:=(((((YE v.name&&dC (0≤v.int))&&dC (v.int<34359738368))&&dC ((v.bytes.length:Int)≤1048576))&&dC ((v.hdrs.length:Int)≤100))&&!v.hdrs.any Zc0)
mutual
def Y3:Val→Bool
 |.mk n i b h p=>okAllL p&&Qo (.mk n i b h p)
def okAllL:List Val→Bool
 | []=>true
 |v::r=>Y3 v&&okAllL r
end
theorem WN(v):Kb v=1+nodesL v.parts:=by cases v;rfl
theorem Ky(v):Z6 v=heightL v.parts+1:=by cases v;rfl
theorem ZeA(v):Y3 v=(okAllL v.parts&&Qo v):=by cases v;rfl
theorem ZdL{l}:okAllL l=l.all Y3:=by
 induction l with
 |nil=>rfl
 |cons v r ih=>rw[okAllL,ih,List.all_cons]
theorem ZuK{l x}(h:x∈l):Kb x≤nodesL l:=by
 induction l with
 |nil=>simp at h
 |cons v r ih =>
  rcases List.mem_cons.1 h with rfl|h
  ·simp only[nodesL];omega
  ·have:=ih h;simp only[nodesL];omega
theorem ZfQ{l x}(h:x∈l):Z6 x≤heightL l:=by
 induction l with
 |nil=>simp at h
 |cons v r ih =>
  rcases List.mem_cons.1 h with rfl|h
  ·simp only[heightL];omega
  ·have:=ih h;simp only[heightL];omega
theorem JI{n}(h:-9223372036854775808≤n∧n≤9223372036854775807):IntKind.i64.wrap n=n :=
 ZaS _ _ (by have h1:IntKind.i64.min=-9223372036854775808:=rfl;have h2:IntKind.i64.max=9223372036854775807:=rfl;unfold inR;omega)
def Y7(v:Val):Bool:=(dC ((Kb v:Int)≤65536)&&dC ((Z6 v:Int)≤40))&&Y3 v
def Zud:Str:=[48,49,50,51,52,53,54,55,56,57]
def ZgY:List D:=List.replicate 48 (.bool false)++List.replicate 10 (.bool true)++List.replicate 198 (.bool false)
def Zh1:Prop:=Ze ZEA 137 [.str Zud] (.tup [.agg ZgY,.bool true])
def Zk7(s:Str):Prop:=∀c∈s,48≤c.toNat∧c.toNat≤57
theorem Zq8:ZgY.length=256:=rfl
theorem Zxp{n:Nat}(h:48≤n∧n≤57):ZgY[n]?=sO (.bool true):=by
 have:∀k:Fin 10,ZgY[48+k.val]?=sO (.bool true):=fun k=>by
  match k with
  |0|1|2|3|4|5|6|7|8|9=>rfl
 have:=this ⟨n-48,by omega⟩
 rwa [show 48+(n-48)=n by omega]at this
theorem ZgT{c:UInt8}(hc:48≤c.toNat∧c.toNat≤57){T:St}{z}(hz:T z=sO (.cells ZgY)):ZK ZEA 181 [.ptr z 0,.int .u8 c.toNat] T (.bool true) T:=by
 refine ZB (cR 181 f181) fun hwf F hret=>?_
 clear hwf
 have hg:ZgY[c.toNat*1]?=sO (.bool true):=by rw[Nat.mul_one];exact Zxp hc
 have hl:=Zq8
 generalize ZgY=C at *
 refine rg ?_
 refine rx (nd2 @hz @hg) ?_
 refine aa ?_
 exact hret rfl (by trivial) (ZEF _) (ZEB _)
theorem ZdT{s:Str}(hs:Zk7 s){T:St}{z}(hz:T z=sO (.cells ZgY)):ZK ZEA 139 [.str s,.ptr z 0] T (.str []) T:=by
 refine ZB (cR 139 f139) fun hwf F hret=>?_
 have hb:=(hwf (.str s) (by simp)).str_inv
 unfold big at hb
 clear hwf
 refine rg ?_
 refine Za (Zd ?_)
 refine lpU (fun Q=>∀n (t:Str),t.length≤n→t.length≤9223372036854775807→Zk7 t→Q F [(0,.d (.str t)),(1,.d (.ptr z 0))] [] T) ?_ fun key=>?_
 ·intro n
  induction n with
  |zero =>
   intro t hn hb ht
   obtain rfl:t=[]:=List.length_eq_zero_iff.1 (by omega)
   refine rg ?_
   refine i0 ?_
   refine rg ?_
   exact hret rfl (by trivial) (ZEF _) (ZEB _)
  |succ n ih =>
   intro t hn hb ht
   refine rg ?_
   refine cd (fun h1=>?_) (fun h1=>?_)
   ·have h1:0<t.length:=by simpa using h1
    have hlast:=ht (t.getD (t.length-1) 0) (ZA (by omega))
    have hg:t.getD ((t.length:Int)-1).toNat 0=t.getD (t.length-1) 0:=by rw[show((t.length:Int)-1).toNat=t.length-1 by omega]
    refine rx @hg ?_
    refine aa ?_
    refine ct (ZgT hlast hz) ?_
    refine i0 ?_
    refine rg ?_
    refine aa ?_
    refine Zo (Zi ?_)
    rw[show((t.length:Int)-1).toNat=t.length-1 by omega]
    exact ih _ (by rw[ZEU];omega) (by rw[ZEU];omega) fun c hc=>ht c (List.mem_of_mem_take hc)
   ·obtain rfl:t=[]:=List.length_eq_zero_iff.1 (by simp at h1;simp[h1])
    refine rg ?_
    exact hret rfl (by trivial) (ZEF _) (ZEB _)
 exact key s.length s (ZEP _) hb hs
theorem ZdS{T:St}{z}:ZK ZEA 138 [.str [],.ptr z 0] T (.str []) T:=by
 refine ZB (cR 138 f138) fun hwf F hret=>?_
 clear hwf
 refine rg ?_
 refine Za (Zd (Zbs ?_))
 refine rg ?_
 refine i0 ?_
 refine rg ?_
 exact hret rfl (by trivial) (ZEF _) (ZEB _)
theorem ZlQ(hA:Zh1){s:Str}(hs:Zk7 s):Ze ZEA 82 [.str s,.str Zud] (.str []):=by
 refine Zm (cR 82 f82) fun F st hret=>?_
 have hl:=Zq8
 have hR:=fun T z hz=>ZdT hs (T:=T) (z:=z) hz
 unfold Zh1 at hA
 generalize ZgY=C at *
 have e:∀l:List D,l.length=256→C++List.drop C.length l=C:=fun l h=>by rw[hl,List.drop_eq_nil_of_le (by omega),ZFb]
 unfold Zud at *
 refine rg ?_
 refine rg ?_
 refine cd (fun h0=>?_) (fun h0=>?_)
 ·have h0':s=[]:=by simpa using h0
  subst h0'
  refine rg ?_
  refine ro hret ?_
  rfl
 ·refine rg ?_
  refine⟨fun _=>by omega,?_⟩
  refine i0 ?_
  refine rg ?_
  refine cl (hA) ?_
  refine⟨hl,?_⟩
  rw[e _ rfl]
  refine rg ?_
  refine i1 ?_
  refine xP 5 fun z hz=>?_
  refine rg ?_
  refine ct (hR _ z (ZEI _ _ _)) ?_
  refine ct (ZdS) ?_
  exact hret rfl (by trivial) (ZEF _) (ZEZ _ hz)
theorem Ztj:∀n,Zk7 (Wz n):=fun n=>by
 induction n using Nat.strongRecOn with
 |_ n ih =>
  have dig:∀k,k<10→Zk7 [UInt8.ofNat (48+k)]:=by
   intro k hk c hc
   rw[List.mem_singleton]at hc
   subst hc
   have:∀k:Fin 10,48≤(UInt8.ofNat (48+k.val)).toNat∧(UInt8.ofNat (48+k.val)).toNat≤57:=by decide
   exact this ⟨k,hk⟩
  rw[Wz]
  split
  ·rename_i h;exact dig n h
  ·rename_i h
   intro c hc
   rcases List.mem_append.1 hc with hc|hc
   ·exact ih (n / 10) (by omega) c hc
   ·exact dig (n % 10) (Nat.mod_lt _ (by omega)) c hc
theorem ZoT:∀n,0<n→Wz n≠[]∧(Wz n).getD 0 0≠48:=fun n=>by
 induction n using Nat.strongRecOn with
 |_ n ih =>
  intro hn
  rw[Wz]
  split
  ·rename_i h
   refine⟨by simp,?_⟩
   have:∀k:Fin 9,(UInt8.ofNat (48+(k.val+1)))≠48:=by decide
   have:=this ⟨n-1,by omega⟩
   simp only[show n-1+1=n by omega]at this
   simpa using this
  ·rename_i h
   obtain⟨h1,h2⟩:=ih (n / 10) (by omega) (by omega)
   refine⟨by simp,?_⟩
   cases hd:Wz (n / 10) with
   |nil=>exact absurd hd h1
   |cons c t=>rw[hd]at h2;simpa using h2
theorem Zxo{n:Nat}(h:n<1000):(Wz n).length≤3:=by
 have s1:∀{k},k<10→(Wz k).length=1:=fun h=>by rw[Kx h];rfl
 by_cases h1:n<10
 ·rw[s1 h1];omega
 ·rw[Zen h1,ZEM,s1 (Nat.mod_lt _ (by omega))]
  by_cases h2:n / 10<10
  ·rw[s1 h2];omega
  ·rw[Zen h2,ZEM,s1 (Nat.mod_lt _ (by omega)),s1 (show n / 10 / 10<10 by omega)];omega
def Zdq(s:Str):Nat:=s.foldl (fun a c=>a*10+(c.toNat-48)) 0
theorem ZjD(a:Str)(c):Zdq (a++[c])=Zdq a*10+(c.toNat-48):=by unfold Zdq;rw[List.foldl_append];rfl
theorem Zyq:∀n,Zdq (Wz n)=n:=fun n=>by
 have dig:∀k,k<10→(UInt8.ofNat (48+k)).toNat-48=k:=fun k hk=>by
  have:∀k:Fin 10,(UInt8.ofNat (48+k.val)).toNat-48=k.val:=by decide
  exact this ⟨k,hk⟩
 induction n using Nat.strongRecOn with
 |_ n ih =>
  rw[Wz]
  split
  ·rename_i h
   show 0*10+((UInt8.ofNat (48+n)).toNat-48)=n
   rw[dig n h];omega
  ·rename_i h
   rw[ZjD,ih (n / 10) (by omega),dig _ (Nat.mod_lt _ (by omega))]
   omega
theorem ZtL{s:Str}(hs:Zk7 s):∀i,i≤s.length→Zdq (s.take i)<10 ^ i
 |0,_=>by simp[Zdq]
 |i+1,h=>by
  have ih:=ZtL hs i (by omega)
  have hc:=hs (s.getD i 0) (ZA (by omega))
  have ht:s.take (i+1)=s.take i++[s.getD i 0]:=Yj (show i<s.length by omega)
  rw[ht,ZjD,Nat.pow_succ]
  omega
theorem Zjx{s:Str}(hs:Zk7 s)(h0:s≠[])(hl:s.length≤10):Ze ZEA 90 [.str s] (.tup [.int .i64 (Zdq s),.niliface]):=by
 refine Zm (cR 90 f90) fun F st hret=>?_
 have hlen:0<s.length:=List.length_pos_iff.2 h0
 have hg0:=hs (s.getD 0 0) (ZA (by omega))
 have hv:=fun i hi=>ZtL hs i hi
 have hall:=fun i (hi:i<s.length)=>hs (s.getD i 0) (ZA hi)
 have hsn:=fun i (hi:i<s.length)=>(congrArg Zdq (show s.take (i+1)=s.take i++[s.getD i 0] from Yj hi)).trans (ZjD (s.take i) (s.getD i 0))
 generalize hc0:s.getD 0 0=c0 at *
 refine rg ?_
 refine rg ?_
 refine rg ?_
 refine Zq rfl trivial (fun _=>?_) (fun h=>by simp at h;omega)
 refine rg ?_
 refine rx @hc0 ?_
 refine aa ?_
 refine Zq rfl trivial (fun h=>by simp at h;omega) (fun _=>?_)
 refine rg ?_
 refine rg ?_
 rw[show(0:Int)=((Zdq (s.take 0):Nat):Int) from rfl]
 refine Zd (fr (s.length) (fun i Q=>i≤s.length→Q [(5,.d (.str s)),(6,.d (.int .i64 (Zdq (s.take i):Nat))),(47,.d (slD 1 byC s)),(48,.d (.int .i64 s.length)),(49,.d (.int .i64 i))] [] st) (fun n ih_key=>?_) fun key=>?_)
 ·intro i hn hi
  refine rg ?_
  refine Za (Zq rfl trivial (fun h1=>?_) (fun h1=>?_))
  ·have h1:i<s.length:=by simpa using h1
   have hb:=hv i hi
   have hp:10 ^ i≤1000000000:=Nat.pow_le_pow_right (n:=10) (by omega) (show i≤9 by omega)
   have hci:=hall i h1
   have hsi:=hsn i h1
   generalize hc:s.getD i 0=c at *
   refine rx (nd2 @eQ1 @byC.eq_1) ?_
   refine aa ?_
   rw[show ZES s i dE=c from hc]
   refine rg ?_
   refine aa ?_
   refine rg ?_
   refine Zq rfl trivial (fun h=>by simp at h;omega) (fun _=>?_)
   refine rg ?_
   rw[show IntKind.i64.wrap ((c.toNat:Int)-48)=(c.toNat:Int)-48 from JI (by omega)]
   refine aa ?_
   rw[show((Zdq (s.take i):Nat):Int)*10+((c.toNat:Int)-48)=((Zdq (s.take (i+1)):Nat):Int) by rw[hsi];push_cast;omega]
   refine rg ?_
   refine aa ?_
   refine Zi ?_
   exact ih_key ((s.length)-(i+1)) (by omega) (i+1) rfl (by omega)
  ·have h1:i=s.length:=by simp at h1;omega
   subst h1
   rw[ZFa]
   refine rx @hc0 ?_
   refine aa ?_
   refine Zq rfl trivial (fun h=>by simp at h;omega) (fun _=>?_)
   refine rg ?_
   refine rt hret ?_
   rfl
 exact key _ 0 rfl (by omega)
theorem Znr{n:Nat}(hn:n<510):Ze ZEA 48 [.str (Wz n)] (.tup [.int .i64 n,.niliface]):=by
 refine Zm (cR 48 f48) fun F st hret=>?_
 have h1:=Zjx (Ztj n) (by
  by_cases e:n=0
  ·subst e;rw[Kx (by omega)];simp
  ·exact(ZoT n (by omega)).1) (by have:=Zxo (n:=n) (by omega);omega)
 rw[Zyq]at h1
 refine rg ?_
 refine rg ?_
 refine cl (h1) ?_
 refine rg ?_
 refine i0 ?_
 refine rg ?_
 refine rt hret ?_
 rfl
def Kq(s0:St)(x:Nat)(t:Tok)(k:Nat)(c:W4):St:=(s0.own t k).upd x c
structure Zdv(s0:St)(x:Nat)(t:Tok):Prop where
 ox:s0 x=none
 ot:t.okIn s0
 xt:∀k,(s0.own t k) x=none
theorem ZrK{s u:St}{t:Tok}{k:Nat}:(s.or u).own t k=(s.own t k).or u:=by
 cases t with
 |tip b=>exact Yq _ _ _ _
 |_=>rfl
theorem Zzk{s u:St}{t:Tok}(h:t.okIn (s.or u)):t.okIn s:=by
 cases t with
 |tip b =>
  simp only[Tok.okIn]at h⊢
  cases hs:s b with
  |none=>rfl
  |some o=>rw[Zh hs]at h;simp at h
 |full=>trivial
 |none=>exact h.elim
theorem ZxW{s u:St}{t:Tok}(h:t.okIn (s.or u)):∀k,t.okIn s→ZJ s u→ZJ (s.own t k) u:=fun k hs hd=>by
 cases t with
 |tip b =>
  simp only[Tok.okIn]at h hs
  intro c o hc
  have hcb:c≠b:=fun e=>by rw[e]at hc;rw[Zl hs,hc]at h;simp at h
  simp only[St.own];rw[ZEJ _ _ hcb];exact hd c o hc
 |full=>exact hd
 |none=>exact h.elim
theorem Zdv.form{s0:St}{x:Nat}{t:Tok}(h:Zdv s0 x t){k:Nat}{c:W4}{u:St}:(Kq s0 x t k c).or u=((s0.upd x c).or u).own t k:=by
 have h1:t.okIn (s0.upd x c):=ZrE (k:=k) c h.ot (h.xt k)
 unfold Kq
 rw[ZrK,(Zsi h1).2]
theorem Zdv.okf{s0:St}{x:Nat}{t:Tok}(h:Zdv s0 x t){k:Nat}{c:W4}{u:St}(hd:ZJ (Kq s0 x t k c) u):t.okIn ((s0.upd x c).or u):=by
 have h1:t.okIn (s0.upd x c):=ZrE (k:=k) c h.ot (h.xt k)
 cases t with
 |tip b =>
  simp only[Tok.okIn]at h1⊢
  rw[Zl h1]
  cases hu:u b with
  |none=>rfl
  |some o =>
   have:=hd b o hu
   unfold Kq at this
   have h2:=Zn this
   simp only[St.own,ZEI]at h2
   simp at h2
 |full=>trivial
 |none=>exact h1.elim
theorem Zdv.next{s0:St}{x:Nat}{t:Tok}(h:Zdv s0 x t){t1:Tok}{k:Nat}{c:W4}{u:St}(hd:ZJ (Kq s0 x t k c) u)(h1:t1.okIn ((s0.upd x c).or u)):
  Zdv s0 x t1∧(∀k',(((s0.upd x c).or u).own t1 k') x=sO c)∧(∀k' c',(((s0.upd x c).or u).own t1 k').upd x c'=(Kq s0 x t1 k' c').or u)∧∀k' c',ZJ (Kq s0 x t1 k' c') u:=by
 have h2:=Zzk h1
 have h3:=Zsi h2
 have hux:ZJ (s0.upd x c) u:=fun b o hb=>by
  have:=hd b o hb
  unfold Kq at this
  have e:=Zn this
  rw[ZEJ _ _ e.1];exact(ZxZ e.2).1
 refine⟨⟨h.ox,h3.1,fun k'=>Zzj h2 h.ox k'⟩,fun k'=>?_,fun k' c'=>?_,fun k' c'=>?_⟩
 ·rw[ZrK,h3.2];exact Zh (ZEI _ _ _)
 ·rw[ZrK,Yq,h3.2,ZET];rfl
 ·have hdd:=ZxW h1 k' h2 hux
  intro b o hb
  have e:=hdd b o hb
  rw[h3.2]at e
  have e2:=Zn e
  unfold Kq
  rw[ZEJ _ _ e2.1];exact e2.2
abbrev spC(x:Str×Nat):List D:=[.str x.1,.int .i64 x.2]
def ZlN(l:List (Str×Nat)):D:=slD 2 spC l
theorem Zxm{x}(h:ZbL x):Zip (QA x) 58=if x.2=0 then .tup [.str x.1,.str [],.bool false] else .tup [.str x.1,.str (Wz x.2),.bool true]:=by
 have hn:=ZlA h.1
 unfold Zip QA
 by_cases e:x.2=0
 ·rw[if_pos e,if_pos e,WC fun c hc=>decide_eq_false (hn c hc).2,if_pos (by decide)]
 ·rw[if_neg e,if_neg e]
  have key:∀(a t:Str),(∀c∈a,c≠58)→Zg (fun b=>dC (b=58)) (a++58::t)=a.length:=fun a t=>by
   induction a with
   |nil=>intro _;simp[Zg]
   |cons c a ih =>
    intro h1
    have h2:=ih fun c hc=>h1 c (by simp[hc])
    have h3:dC (c=58)=false:=decide_eq_false (h1 c (by simp))
    rw[List.cons_append,Zg,h3,h2]
    simp;omega
  rw[show x.1++[58]++Wz x.2=x.1++58::Wz x.2 by simp,key _ _ fun c hc=>(hn c hc).2,if_neg (by omega),Int.toNat_natCast]
  have h1:(x.1++58::Wz x.2).take x.1.length=x.1:=List.take_left' rfl
  have h2:(x.1++58::Wz x.2).drop (x.1.length+1)=Wz x.2:=by rw[show x.1++58::Wz x.2=(x.1++[58])++Wz x.2 by simp];exact List.drop_left' (by simp)
  rw[h1,h2]
theorem ZoC(hX:Zea)(hA:Zh1)(l)(hl:∀x∈l,ZbL x)(hlen:l.length≤1000):Ze ZEA 42 [.str (Wq l)] (.tup [ZlN l,.bool true]):=fun st=>by
 refine Zc (cR 42 f42) fun F hF=>?_
 have hsp:∀l,ZlN l=slD 2 spC l:=fun _=>rfl
 by_cases hne:l=[]
 ·subst hne
  rw[show Wq []=[] from rfl]
  refine rg ?_
  refine rg ?_
  refine i1 ?_
  refine rg ?_
  exact hF.ret (.tup [ZlN [],.bool true]) st rfl (by trivial) (Zgc rfl (.cons (Kl fun b h=>by cases h) (.cons (ZEF _) .nil))) (ZEB _) ⟨rfl,rfl⟩
 ·skip
  have hJ:Wq l≠[]:=by
   cases l with
   |nil=>exact absurd rfl hne
   |cons x r=>exact ZxK (hl x (by simp))
  have hit:=fun{za zb zc} a b c=>ZgH hX hl hne (za:=za) (zb:=zb) (zc:=zc) a b c
  refine rg ?_
  refine Za (Za ?_)
  refine xP 2 fun z2 h2=>?_
  refine xP 3 fun z3 h3=>?_
  have k3:=Zn h3
  refine rg ?_
  have hd0:dC (Wq l=[])=false:=decide_eq_false hJ
  rw[hd0]
  refine i0 ?_
  refine rg ?_
  refine Za (Za ?_)
  refine xP 4 fun z4 h4=>?_
  have k4:=Zn h4
  have k42:=Zn k4.2
  obtain⟨base,hbase⟩:∃base,base=(st.upd z2 (.cells [.nilsl])).upd z3 (.cells [.bool false]):=⟨_,rfl⟩
  rw[←hbase]at h4⊢
  have b2:base z2=sO (.cells [.nilsl]):=by rw[hbase,ZEJ _ _ k3.1.symm,ZEI]
  have b3:base z3=sO (.cells [.bool false]):=by rw[hbase,ZEI]
  have hsub:st.sub base:=by rw[hbase];exact ZFf (ZEZ _ h2) (ZEZ _ h3)
  clear hbase
  refine QZ (b:=z4) (ZEI _ _ _) (.cons (Kl (t:=.full) (s:=2) (row:=fun _=>[]) (fun b h=>by cases h)) .nil) ?_
  rw[ZET]
  have hok0:Zdv base z4 .full:=⟨h4,trivial,fun _=>h4⟩
  rw[show base.upd z4 (.cells [.sl .full 0 2 fun _=>[]])=Kq base z4 .full (0*2) (.cells [.sl .full 0 2 fun _=>[]]) from rfl]
  refine rg ?_
  refine cV (ZhZ (Wq l) _) ?_ ?_
  ·rintro d S ⟨za,zb,zc,hdj,n1,n2,n3,hr,rfl⟩
   cases hr
   refine gR0 ?_
   refine Zd ?_
   refine ZtU hF rfl trivial [2,3,4] (by show([2,3,4]:List Nat).Nodup;decide) hdj (hit n1 n2 n3) (fun j hj=>rfl) (fun _=>.next)
    (fun j a=>∃tk row,Zdv base z4 tk∧ZX spC row (l.take j)∧a=Kq base z4 tk (j*2) (.cells [.sl tk j 2 row])) ⟨.full,_,hok0,ZX.nil,rfl⟩ ?_ ?_ ?_ ?_ ?_ ?_
   ·rintro j a hj hno ⟨tk,row,hok,hrow,rfl⟩ F ready busy hdr hbeg hend
    have hso:=hl _ (ZA hj)
    have hcut:=Zov hX (QA (l.getD j dE)) 58
    rw[Zxm hso]at hcut
    have htk:=Yj hj
    have hnm:=Jr (l.getD j dE).1
    rw[hso.1]at hnm
    generalize l.getD j dE=x at *
    obtain⟨xs,n⟩:=x
    simp only at hcut hnm
    simp only[Eqs,reduceCtorEq,ZEG,reduceIte,ZED,ZEH,ZEE,YZ,Wc,KO,WE,List.isEmpty_nil,List.isEmpty_cons]
    refine rg ?_
    refine hbeg fun hdb=>?_
    have gx:((Kq base z4 tk (j*2) (.cells [.sl tk j 2 row])).or busy) z4=sO (.cells [.sl tk j 2 row]):=Zh (ZEI _ _ _)
    refine rg ?_
    have hT:=ZlQ hA (Ztj n)
    have hAt:=Znr hso.2
    have hdf:=ZoT n
    generalize Wz n=ds at *
    refine jU [1,0,1,0,1,1] (fun Q =>  Q F [(2,.d (.ptr z2 0)),(3,.d (.ptr z3 0)),(4,.d (.ptr z4 0)),(6,.d (.str xs)),(9,.loc 9 0)] [(9,[.str xs,.int .i64 n])] ((Kq base z4 tk (j*2) (.cells [.sl tk j 2 row])).or busy)) ?_ fun fin=>?_
    ·refine rg ?_
     refine cl (hnm) ?_
     refine i0 ?_
     refine rx @gx ?_
     refine Zaf (_) (tk) rfl rfl rfl rfl rfl rfl (by trivial) (by trivial) hok.form (hok.okf hdb) (by omega) (by (unfold big;omega)) fun t1 ht1=>Zj ?_
     simp only[Eqs,reduceCtorEq,ZEG,reduceIte,ZED,ZEH,ZEE,(hok.next hdb ht1).2.1,(hok.next hdb ht1).2.2.1]
     refine Zo ?_
     have hnx:=hok.next hdb ht1
     exact hend.fin (a:=Kq base z4 t1 ((j+1)*2) (.cells [.sl t1 (j+1) 2 (YJ j row (Z7 [.str [],.int .i64 0] ([0].zip [.agg [.str xs,.int .i64 n]])))])) ⟨rfl,t1,_,hnx.1,by rw[htk];exact hrow.snoc (x:=(xs,n)) rfl (by simp;omega),rfl⟩ (hnx.2.2.2 _ _) (ZEB _)
    by_cases hn0:n=0
    ·rw[if_pos hn0]at hcut
     subst hn0
     refine cl (hcut) ?_
     refine rg ?_
     refine rg ?_
     refine i0 ?_
     refine ZD ?_
     refine kE [2,3,4,6,9] ?_
     refine Za (Za ?_)
     exact fin
    ·skip
     rw[if_neg hn0]at hcut
     obtain⟨hd1,hd2⟩:=hdf (by omega)
     have hd3:0<ds.length:=List.length_pos_iff.2 hd1
     have hd4:¬((ds.getD 0 0).toNat:Int)=48:=fun e=>hd2 (UInt8.toNat_inj.1 (by show(ds.getD 0 0).toNat=48;omega))
     refine cl (hcut) ?_
     refine rg ?_
     refine rg ?_
     refine i1 ?_
     refine rg ?_
     refine cl (hT) ?_
     refine⟨fun _=>by omega,?_⟩
     refine Zq rfl trivial (fun h=>by (rw[decide_eq_false hd1,decide_eq_false hd4]at h;simp at h)) (fun _=>?_)
     refine rg ?_
     refine rg ?_
     refine cl (hAt) ?_
     refine rg ?_
     refine i1 ?_
     refine rg ?_
     refine kE [2,3,4,6,9] ?_
     refine Za (Za ?_)
     exact fin
   ·rintro q a hno ⟨tk,row,hok,hrow,rfl⟩ hq
    rw[ZFa]at hrow
    rw[Wu hq]
    have gx:((Kq base z4 tk (l.length*2) (.cells [.sl tk l.length 2 row])).or (ZEX q .dfr)) z4=sO (.cells [.sl tk l.length 2 row]):=Zh (ZEI _ _ _)
    have n4:∀{y o},base y=sO o→y≠z4:=fun hy e=>by rw[e,h4]at hy;simp at hy
    have o2:(Kq base z4 tk (l.length*2) (.cells [.sl tk l.length 2 row])) z2=sO (.cells [.nilsl]):=by unfold Kq;rw[ZEJ _ _ (n4 b2)];exact Zd3 hok.ot b2
    have o3:(Kq base z4 tk (l.length*2) (.cells [.sl tk l.length 2 row])) z3=sO (.cells [.bool false]):=by unfold Kq;rw[ZEJ _ _ (n4 b3)];exact Zd3 hok.ot b3
    have hsb:∀y o,st y=sO o→(Kq base z4 tk (l.length*2) (.cells [.sl tk l.length 2 row])) y=sO o:=fun y o hy=>by unfold Kq;rw[ZEJ _ _ (n4 (hsub y o hy))];exact Zd3 hok.ot (hsub y o hy)
    generalize Kq base z4 tk (l.length*2) (.cells [.sl tk l.length 2 row])=a at *
    have k2q:q≠z2:=fun e=>by rw[e,o2]at hq;simp at hq
    have k3q:q≠z3:=fun e=>by rw[e,o3]at hq;simp at hq
    refine rh ?_
    refine Zj ?_
    simp only[Eqs,reduceCtorEq,ZEG,reduceIte,ZED,ZEH,ZEE,gx,Zh o2,Zh o3,ZEJ _ _ k3.1]
    rw[Yq,Yq]
    exact hF.ret1 (by rw[ZEJ _ _ k3q,ZEJ _ _ k2q];exact hq) (.tup [ZlN l,.bool true]) st (ds:=[.sl tk l.length 2 row,.bool true]) (p:=True∧True∧True) (by simp[Yk,WF,ZH,YS,Z5,ZEI,ZEJ _ _ k3.1.symm]) ⟨trivial,trivial,trivial⟩ (Zgc rfl (.cons (hrow.le rfl) (.cons (ZEF _) .nil))) (fun y o hy=>by
     have e2:y≠z2:=fun e=>by rw[e,h2]at hy;simp at hy
     have e3:y≠z3:=fun e=>by rw[e,k3.2]at hy;simp at hy
     rw[ZEJ _ _ e3,ZEJ _ _ e2];exact hsb y o hy) ⟨rfl,rfl⟩
   ·intro q a m hm hno hgo;simp at hgo
   ·intro q a m id hm hno hgo;simp at hgo
   ·intro q a m d hm hno hgo;simp at hgo
   ·intro m c hgo;simp at hgo
  ·rintro d S ⟨_,_,_,_,_,_,_,hr,_⟩
   cases hr
def Qy:List Hdr→Nat
 | []=>0
 |h::r=>h.name.length+h.text.length+Qy r
mutual
def wtN:Val→Nat
 |.mk n _ b h p=>10+n.length+b.length+Qy h+wtL p
def wtL:List Val→Nat
 | []=>0
 |v::r=>wtN v+wtL r
end
theorem ZcQ(v):wtN v=10+v.name.length+v.bytes.length+Qy v.hdrs+wtL v.parts:=by cases v;rfl
theorem Zj1(v):10*Kb v≤wtN v:=by
 induction v using Val.ind with
 |h v ih =>
  rw[ZcQ,WN]
  have:∀l:List Val,(∀x∈l,10*Kb x≤wtN x)→10*nodesL l≤wtL l:=fun l hl=>by
   induction l with
   |nil=>simp[nodesL]
   |cons a r ih2 =>
    have h1:=hl a (by simp)
    have h2:=ih2 fun x hx=>hl x (by simp[hx])
    simp only[nodesL,wtL];omega
  have:=this v.parts ih
  omega
theorem ZtM{l x}(h:x∈l):wtN x≤wtL l:=by
 induction l with
 |nil=>simp at h
 |cons v r ih =>
  rcases List.mem_cons.1 h with rfl|h
  ·simp only[wtL];omega
  ·have:=ih h;simp only[wtL];omega
def hsW(n:Int)(l:List Hdr):Int:=l.foldl (fun a h=>IntKind.i64.wrap (IntKind.i64.wrap (a+h.name.length)+h.text.length)) n
theorem ZxF{n}{l:List Hdr}{i}(h:i<l.length):IntKind.i64.wrap (IntKind.i64.wrap (hsW n (l.take i)+(l.getD i dE).name.length)+(l.getD i dE).text.length)=hsW n (l.take (i+1)):=by
 rw[Yj h];simp[hsW]
def Zcx(f:Val→Int):Int→List Val→Int
 |n,[]=>n
 |n,x::r=>if n≤5000 then Zcx f (IntKind.i64.wrap (n+f x)) r else n
theorem Zpq{f n}{l:List Val}{i}(h:i<l.length):Zcx f n (l.drop i)=if n≤5000 then Zcx f (IntKind.i64.wrap (n+f (l.getD i dE))) (l.drop (i+1)) else n:=by
 rw[QM h];rfl
def ZoE(f:Val→Int)(v:Val)(depth:Int):Int :=
 if (dC (50<depth) ||decide ((500:Int)<v.parts.length)) ||decide ((50:Int)<v.hdrs.length) then 5001
 else Zcx f (hsW (IntKind.i64.wrap (IntKind.i64.wrap (10+v.name.length)+v.bytes.length)) v.hdrs) v.parts
theorem Zkj(v depth)(hd:0≤depth∧depth≤51)(f)(hf:depth≤50→∀x∈v.parts,Ze ZEA 10 [.agg x.cells,.int .i64 (depth+1)] (.int .i64 (f x))):Ze ZEA 10 [.agg v.cells,.int .i64 depth] (.int .i64 (ZoE f v depth)):=by
 refine Wj (cR 10 f10) fun hwf F st hret=>?_
 have hw:=((hwf (D.agg v.cells) (by simp)).agg_inv (ZW v.parts) (by rw[ZE0];simp)).sl_inv.1
 have hw2:=(WJ ((hwf (.agg v.cells) (by simp)).agg_inv (slD 2 Hdr.cells v.hdrs) (by rw[v.cells_eq];simp[Z9]))).1
 unfold big at hw hw2
 clear hwf
 have hS:=ZoE.eq_1 f v depth
 rw[v.cells_eq]
 refine rg ?_
 refine rh ?_
 refine Jb ?_
 simp only[Eqs,reduceCtorEq,ZEG,reduceIte,ZED,ZEH,ZEE,Qv,JN,ZaI]
 refine Zga rfl rfl rfl (by trivial) (Jb ?_)
 simp only[Eqs,reduceCtorEq,ZEG,reduceIte,ZED,ZEH,ZEE,Qv,JN,ZaI]
 refine Zga rfl rfl rfl (by trivial) (Jb ?_)
 simp only[Eqs,reduceCtorEq,ZEG,reduceIte,ZED,ZEH,ZEE,Qv,JN]
 generalize IntKind.i64.wrap (IntKind.i64.wrap (10+v.name.length)+v.bytes.length)=n1 at *
 refine rx (nd2 @Zct @ZiH) ?_
 refine cd (fun h1=>?_) (fun h1=>?_)
 ·rw[if_pos h1]at hS
  refine rg ?_
  refine ri hret ?_
  exact hS.symm
 ·rw[if_neg (by simp[h1])]at hS
  have hd2:depth≤50:=by simp at h1;omega
  refine rg ?_
  refine Zd (fr (v.hdrs.length) (fun i Q=>i≤v.hdrs.length→Q [(1,.d (.int .i64 depth)),(2,.loc 2 0),(5,.d (.int .i64 (hsW n1 (v.hdrs.take i)))),(6,.d (.int .i64 i))] [(2,[.str v.name,.int .i64 v.int,ZL v.bytes,Z9 v.hdrs,ZW v.parts])] st) (fun n ih_key=>?_) fun key=>?_)
  ·intro i hn hi
   refine rx @ZiH ?_
   refine cd (fun h2=>?_) (fun h2=>?_)
   ·simp at h2
    have hst:=ZxF (n:=n1) h2
    generalize hg:v.hdrs.getD i dE=g at *
    generalize hsW n1 (v.hdrs.take i)=a at *
    refine rh ?_
    refine Zbr ?_
    simp only[Eqs,reduceCtorEq,ZEG,reduceIte,ZED,ZEH,ZEE,Qv,JN,atH,hg,Hdr.cells]
    refine aa ?_
    refine ZoG rfl rfl rfl (by trivial) (Zbr ?_)
    simp only[Eqs,reduceCtorEq,ZEG,reduceIte,ZED,ZEH,ZEE,Qv,JN,atH,hg,Hdr.cells]
    refine aa ?_
    refine ZoG rfl rfl rfl (by trivial) (Zbr ?_)
    simp only[Eqs,reduceCtorEq,ZEG,reduceIte,ZED,ZEH,ZEE,Qv,JN]
    rw[hst]
    refine rg ?_
    refine aa ?_
    refine Zi ?_
    exact ih_key ((v.hdrs.length)-(i+1)) (by omega) (i+1) rfl (by omega)
   ·simp at h2
    obtain rfl:i=v.hdrs.length:=by omega
    rw[ZFa]
    generalize hsW n1 v.hdrs=n2 at *
    refine rg ?_
    refine Zd (fr (v.parts.length) (fun i Q=>∀n,Zcx f n (v.parts.drop i)=Zcx f n2 v.parts→i≤v.parts.length→Q [(1,.d (.int .i64 depth)),(2,.loc 2 0),(5,.d (.int .i64 n)),(7,.d (.int .i64 i))] [(2,[.str v.name,.int .i64 v.int,ZL v.bytes,Z9 v.hdrs,ZW v.parts])] st) (fun n ih_key2=>?_) fun key2=>?_)
    ·intro i hn n hr hi
     refine rx @Zct ?_
     refine cd (fun h3=>?_) (fun h3=>?_)
     ·simp only[ZEK,decide_eq_true_eq]at h3
      have h4:i<v.parts.length:=by omega
      have hr5:=QS h4
      have hst:=Zpq (f:=f) (n:=n) h4
      rw[if_pos h3.2,hr]at hst
      have hfx:=hf hd2 _ (ZA h4)
      rw[ZE0]at hfx
      generalize v.parts.getD i dE=x at *
      refine rh ?_
      refine Jb ?_
      simp only[Eqs,reduceCtorEq,ZEG,reduceIte,ZED,ZEH,ZEE,Qv,JN,atV,hr5]
      refine aa ?_
      refine Zga rfl rfl rfl (by trivial) (Jb ?_)
      simp only[Eqs,reduceCtorEq,ZEG,reduceIte,ZED,ZEH,ZEE,Qv,JN]
      rw[JI (n:=depth+1) (by omega)]
      refine Zag rfl rfl rfl rfl rfl (by trivial) (by trivial) (by exact hfx) (Jb ?_)
      simp only[Eqs,reduceCtorEq,ZEG,reduceIte,ZED,ZEH,ZEE,Qv,JN]
      refine Zga rfl rfl rfl (by trivial) (Jb ?_)
      simp only[Eqs,reduceCtorEq,ZEG,reduceIte,ZED,ZEH,ZEE,Qv,JN]
      refine rg ?_
      refine aa ?_
      refine Zi ?_
      exact ih_key2 ((v.parts.length)-(i+1)) (by omega) (i+1) rfl _ hst.symm (by omega)
     ·have hfin:n=Zcx f n2 v.parts:=by
       rw[←hr]
       rcases Nat.lt_or_eq_of_le hi with h4|h4
       ·rw[Zpq h4,if_neg]
        intro h5
        simp[h4,h5]at h3
       ·rw[h4,List.drop_length];rfl
      refine rg ?_
      refine ri hret ?_
      rw[hS,hfin]
    exact key2 _ 0 rfl n2 rfl (by omega)
  exact key _ 0 rfl (by omega)
theorem Zo6:∀(l) (n:Int),0≤n→n+Qy l≤1000000000000→hsW n l=n+Qy l
 | [],n,_,_=>by simp[hsW,Qy]
 |h::r,n,h0,h1=>by
  simp only[Qy]at h1⊢
  have e:hsW n (h::r)=hsW (IntKind.i64.wrap (IntKind.i64.wrap (n+h.name.length)+h.text.length)) r:=rfl
  rw[e,JI (n:=n+h.name.length) (by omega),JI (by omega),Zo6 r _ (by omega) (by omega)]
  omega
def Zow(f:Val→Int):List Val→Int
 | []=>0
 |x::r=>f x+Zow f r
theorem ZtG{f M}(hM:0≤M∧M≤900000000000):∀(l n),0≤n→n≤1000000000000→(∀x∈l,0≤f x∧f x≤M)→n≤Zcx f n l∧Zcx f n l≤max n (5000+M)∧(Zcx f n l≤5000→Zcx f n l=n+Zow f l∧∀x∈l,f x≤5000)
 | [],n,h0,h1,_=>by simp only[Zcx,Zow];exact⟨by omega,by omega,fun _=>⟨by omega,fun x hx=>by simp at hx⟩⟩
 |x::r,n,h0,h1,hf=>by
  have hx:=hf x (by simp)
  simp only[Zcx,Zow]
  by_cases h5:n≤5000
  ·rw[if_pos h5,JI (by omega)]
   obtain⟨a,b,c⟩:=ZtG hM r (n+f x) (by omega) (by omega) fun y hy=>hf y (by simp[hy])
   refine⟨by omega,by omega,fun hr=>?_⟩
   obtain⟨c1,c2⟩:=c hr
   refine⟨by omega,fun y hy=>?_⟩
   rcases List.mem_cons.1 hy with rfl|hy
   ·omega
   ·exact c2 y hy
  ·rw[if_neg h5]
   exact⟨by omega,by omega,fun h=>by omega⟩
theorem Zut{l k}(h:∀x∈l,Z6 x≤k):heightL l≤k:=by
 induction l with
 |nil=>simp[heightL]
 |cons v r ih =>
  have h1:=h v (by simp)
  have h2:=ih fun x hx=>h x (by simp[hx])
  simp only[heightL];omega
theorem ZAF{f:Val→Int}{l}(h:∀x∈l,f x=wtN x):Zow f l=wtL l:=by
 induction l with
 |nil=>rfl
 |cons v r ih =>
  have h1:=h v (by simp)
  have h2:=ih fun x hx=>h x (by simp[hx])
  simp only[Zow,wtL];omega
theorem ZkJ{s}(h:YE s=true):1≤s.length∧s.length≤32:=by
 cases s with
 |nil=>simp[YE]at h
 |cons c r =>
  simp only[YE,ZEK,decide_eq_true_eq]at h
  exact⟨by simp,h.1.1⟩
theorem ZxD{l}(h:l.any Zc0=false):Qy l≤2097152*l.length:=by
 induction l with
 |nil=>simp[Qy]
 |cons a r ih =>
  rw[List.any_cons,Bool.or_eq_false_iff]at h
  have h2:=ih h.2
  have h1:=h.1
  unfold Zc0 at h1
  simp only[Bool.or_eq_false_iff,decide_eq_false_iff_not]at h1
  simp only[Qy,ZER];omega
theorem JL{v}(h:Qo v=true):(1≤v.name.length∧v.name.length≤32)∧(0≤v.int∧v.int<34359738368)∧v.bytes.length≤1048576∧v.hdrs.length≤100∧Qy v.hdrs≤2097152*v.hdrs.length∧YE v.name=true:=by
 unfold Qo at h
 simp only[ZEK,decide_eq_true_eq,Bool.not_eq_true']at h
 obtain⟨⟨⟨⟨⟨h1,h2⟩,h3⟩,h4⟩,h5⟩,h6⟩:=h
 exact⟨ZkJ h1,⟨h2,h3⟩,by omega,by omega,ZxD h6,h1⟩
theorem ZmH(v):∀depth:Int,0≤depth→depth≤51→∃n,Ze ZEA 10 [.agg v.cells,.int .i64 depth] (.int .i64 n)∧(Y3 v=true→0≤n∧n≤110000000*(52-depth)+6000∧(n≤5000→n=wtN v∧(Z6 v:Int)+depth≤51)):=by
 induction v using Val.ind with
 |h v ih =>
  intro depth h0 h51
  have hc:∀x:Val,∃n,depth≤50→x∈v.parts→Ze ZEA 10 [.agg x.cells,.int .i64 (depth+1)] (.int .i64 n)∧(Y3 x=true→0≤n∧n≤110000000*(52-(depth+1))+6000∧(n≤5000→n=wtN x∧(Z6 x:Int)+(depth+1)≤51)):=fun x=>by
   by_cases hx:x∈v.parts∧depth≤50
   ·obtain⟨n,hn⟩:=ih x hx.1 (depth+1) (by omega) (by omega)
    exact⟨n,fun _ _=>hn⟩
   ·exact⟨0,fun h1 h2=>absurd ⟨h2,h1⟩ hx⟩
  refine⟨_,Zkj v depth ⟨h0,h51⟩ (fun x=>(hc x).choose) fun h50 x hx=>((hc x).choose_spec h50 hx).1,fun hok=>?_⟩
  rw[ZeA,ZEK,ZdL,List.all_eq_true]at hok
  obtain⟨hn,hi,hb,hh,hw,_⟩:=JL hok.2
  unfold ZoE
  split
  ·exact⟨by omega,by omega,fun h=>by omega⟩
  ·rename_i h1
   simp only[ZEY,decide_eq_true_eq,not_or]at h1
   rw[JI (n:=10+v.name.length) (by omega),JI (by omega),Zo6 _ _ (by omega) (by omega)]
   have hf:∀x∈v.parts,0≤(hc x).choose∧(hc x).choose≤110000000*(52-(depth+1))+6000:=fun x hx=>by
    have:=((hc x).choose_spec (by omega) hx).2 (hok.1 x hx)
    exact⟨this.1,this.2.1⟩
   obtain⟨a,b,c⟩:=ZtG (f:=fun x=>(hc x).choose) (M:=110000000*(52-(depth+1))+6000) ⟨by omega,by omega⟩ v.parts (10+v.name.length+v.bytes.length+Qy v.hdrs) (by omega) (by omega) hf
   refine⟨by omega,by omega,fun h5=>?_⟩
   obtain⟨c1,c2⟩:=c h5
   have hx:∀x∈v.parts,(hc x).choose=wtN x∧(Z6 x:Int)+(depth+1)≤51:=fun x hx=>(((hc x).choose_spec (by omega) hx).2 (hok.1 x hx)).2.2 (c2 x hx)
   refine⟨?_,?_⟩
   ·rw[c1,ZAF fun x h=>(hx x h).1,ZcQ];omega
   ·have:=Zut (l:=v.parts) (k:=(50-depth).toNat) fun x h=>by have:=(hx x h).2;omega
    rw[Ky];omega
theorem Zn7(d:Dfn)(v st):Zb ZEA 4 [.agg d.cells,.agg v.cells] st fun r S=>S=st∧∃b,r=.ret (.bool b)∧(b=true→Y3 v=true→wtN v≤5100∧Z6 v≤51):=by
 obtain⟨wt,hwt,hn2⟩:=ZmH v 0 (by omega) (by omega)
 refine JU (cR 4 f4) fun hwf F hF=>?_
 have hw:=ZvN (s:=d) (hwf _ (by simp))
 have hwn:=hw.nmsgs
 unfold big at hwn
 clear hwf
 rw[v.cells_eq]at hwt⊢
 refine rx @eQ3 ?_
 refine rx @Zqc ?_
 refine cd (fun h0=>?_) (fun h0=>?_)
 ·refine rg ?_
  exact hF.ret _ _ rfl (by trivial) (ZEF _) (ZEB _) ⟨rfl,false,rfl,fun h=>by simp at h⟩
 ·refine rg ?_
  refine Zd (fr (d.msgs.length) (fun i Q=>i≤d.msgs.length→Q [(2,.loc 2 0),(3,.loc 3 0),(5,.d (.int .i64 i))] [(2,[.str d.name,Wh d.msgs,.str d.start]),(3,[.str v.name,.int .i64 v.int,ZL v.bytes,Z9 v.hdrs,ZW v.parts])] st) (fun n ih_key=>?_) fun key=>?_)
  ·intro i hn hi
   refine rx @Zqc ?_
   refine cd (fun h1=>?_) (fun h1=>?_)
   ·have h1':i<d.msgs.length:=by simp at h1;omega
    have hmw:=hw.msgs _ (ZA h1')
    have hmn:=hmw.nfields
    unfold big at hmn
    generalize hm:d.msgs.getD i dE=m at *
    refine rx (nd2 @atM (nd2 @hm @eQ2)) ?_
    refine aa ?_
    refine rx @Zeu ?_
    refine cd (fun h2=>?_) (fun h2=>?_)
    ·refine rg ?_
     exact hF.ret _ _ rfl (by trivial) (ZEF _) (ZEB _) ⟨rfl,false,rfl,fun h=>by simp at h⟩
    ·refine rg ?_
     refine Zd (fr (m.fields.length) (fun k Q=>k≤m.fields.length→Q [(2,.loc 2 0),(3,.loc 3 0),(5,.d (.int .i64 i)),(6,.loc 6 0),(7,.d (.int .i64 k))] [(2,[.str d.name,Wh d.msgs,.str d.start]),(3,[.str v.name,.int .i64 v.int,ZL v.bytes,Z9 v.hdrs,ZW v.parts]),(6,[.str m.name,Zr m.fields])] st) (fun n ih_key2=>?_) fun key2=>?_)
     ·intro k hn2 hk
      refine rx @Zeu ?_
      refine cd (fun h3=>?_) (fun h3=>?_)
      ·have h3':k<m.fields.length:=by simp at h3;omega
       generalize hf:m.fields.getD k dE=f at *
       refine rx (nd2 @atF (nd2 @hf (nd2 @eQ0 (nd2 @Zxc @Zyn)))) ?_
       refine aa ?_
       refine cd (fun h4=>?_) (fun h4=>?_)
       ·refine rg ?_
        exact hF.ret _ _ rfl (by trivial) (ZEF _) (ZEB _) ⟨rfl,false,rfl,fun h=>by simp at h⟩
       ·refine rg ?_
        refine aa ?_
        refine Zi ?_
        exact ih_key2 ((m.fields.length)-(k+1)) (by omega) (k+1) rfl (by omega)
      ·have h3':k=m.fields.length:=by simp at h3;omega
       subst h3'
       refine rg ?_
       refine aa ?_
       refine Zi ?_
       exact ih_key ((d.msgs.length)-(i+1)) (by omega) (i+1) rfl (by omega)
     exact key2 _ 0 rfl (by omega)
   ·refine rg ?_
    refine cl (hwt) ?_
    exact hF.ret _ _ rfl (by trivial) (ZEF _) (ZEB _) ⟨rfl,dC (wt≤5000),rfl,fun h hok=>by
     have h1:=(hn2 hok).2.2 (of_decide_eq_true h)
     have h2:wt≤5000:=of_decide_eq_true h
     exact⟨by omega,by omega⟩⟩
  exact key _ 0 rfl (by omega)
theorem ZnF(h:Hdr):Ze ZEA 77 [.agg h.cells] (.bool (Zc0 h)):=by
 refine Zm (cR 77 f77) fun F st hret=>?_
 have hB:dC ((1048576:Int)<max (h.name.length:Int) (h.text.length:Int))=Zc0 h:=by
  unfold Zc0
  rw[←Bool.decide_or]
  exact decide_eq_decide.2 (by omega)
 refine rx @Hdr.cells.eq_1 ?_
 refine rg ?_
 refine rb hret ?_
 exact hB
theorem ZoB(l):Ze ZEA 78 [slD 2 Hdr.cells l,.fn (.func 77) [] []] (.bool (l.any Zc0)) :=
 fun st=>Q9 l _ _ (fun _=>st) fun i _=>(ZnF _).VT (first:=[]) (caps:=[]) st
theorem Zp2(v):Ze ZEA 36 [.agg v.cells] (.bool (Qo v)):=by
 refine Zm (cR 36 f36) fun F st hret=>?_
 rw[v.cells_eq]
 refine rg ?_
 refine rg ?_
 refine rx (nd2 @ZaI @ZiH) ?_
 refine cX (nd2 @ZaI @ZiH) (Jr _) ?_
 refine cG (ZoB v.hdrs) ?_
 refine rb hret ?_
 unfold Qo;rfl
mutual
def KY:Val→Int→List (Int×Val)
 |.mk n i b hd p,h=>(h,.mk n i b hd p)::preWL p (IntKind.i64.wrap (h+1))
def preWL:List Val→Int→List (Int×Val)
 | [],_=>[]
 |v::r,h=>KY v h++preWL r h
end
theorem Zgu(v)(h:Int):KY v h=(h,v)::preWL v.parts (IntKind.i64.wrap (h+1)):=by cases v;rfl
theorem ZmZ{l:List Val}{i}(h:i<l.length)(k):preWL (l.take (i+1)) k=preWL (l.take i) k++KY (l.getD i dE) k:=by
 rw[Yj h]
 generalize l.getD i dE=x
 induction l.take i with
 |nil=>simp[preWL]
 |cons y r ih=>simp only[List.cons_append,preWL,ih,ZE9]
theorem ZsJ{l i}(h:i<l.length)(k):preWL l k=preWL (l.take i) k++(KY (l.getD i dE) k++preWL (l.drop (i+1)) k):=by
 have key:∀a b:List Val,preWL (a++b) k=preWL a k++preWL b k:=fun a b=>by
  induction a with
  |nil=>rfl
  |cons x r ih=>simp only[List.cons_append,preWL,ih,ZE9]
 conv=>lhs;rw[←List.take_append_drop (i+1) l]
 rw[key,ZmZ h,ZE9]
def hvA(L:List (Int×Val))(j:Nat):List D:=[.int .i64 (L.getD j dE).1,.agg (L.getD j dE).2.cells]
def ZcF(v:Val)(h:Int)(za zv:Nat):St:=(ZEX za (.cells [.int .i64 h])).or (ZEX zv (.cells v.cells))
theorem Zy2{v}{h:Int}{za zv}:(ZcF v h za zv) za=sO (.cells [.int .i64 h]):=Zh (Z4 _ _)
theorem Zy3{v}{h:Int}{za zv}(hn:zv≠za):(ZcF v h za zv) zv=sO (.cells v.cells):=by
 unfold ZcF;rw[Zl (WO _ hn)];exact Z4 _ _
theorem ZoU{st v}{h:Int}{za zv}(h2:st za=nO)(h3:st zv=nO):ZJ st (ZcF v h za zv):=fun b o hb=>by
 unfold ZcF at hb
 cases hc:(ZEX za (.cells [.int .i64 h])) b with
 |some x=>exact WX h2 _ _ hc
 |none=>rw[Zl hc]at hb;exact WX h3 _ _ hb
theorem ZhR(v)(h:Int)(st):Zb ZEA 35 [.agg v.cells,.int .i64 h] st fun r S=>∃za zv,st za=nO∧st zv=nO∧zv≠za∧r=.ret (.fn (.func 76) [] [.ptr za 0,.ptr zv 0])∧S=st.or (ZcF v h za zv):=by
 refine Zc (cR 35 f35) fun F hF=>?_
 have hE:∀za zv,ZcF v h za zv=(ZEX za (.cells [.int .i64 h])).or (ZEX zv (.cells v.cells)):=fun _ _=>rfl
 rw[v.cells_eq]at hE⊢
 refine rg ?_
 refine Za ?_
 refine xP 3 fun za ha=>?_
 refine xP 2 fun zv hv=>?_
 have hv2:=Zn hv
 refine rg ?_
 refine hF.ret _ _ rfl (by trivial) (ZEF _) (ZEB _) ⟨za,zv,ha,hv2.2,hv2.1,rfl,?_⟩
 rw[Wu hv,Wu ha,or_assoc,hE]
theorem Mk.or{T a}:∀{qs S},Mk T qs S→ZJ a S→Mk (a.or T) qs (a.or S)
 | [],S,hm,_=>by rw[show S=T from hm];rfl
 |q::qs,S,hm,hd=>by
  obtain⟨S',h1,h2,rfl⟩:=hm
  have hq:a q=nO:=hd q _ (ZEI _ _ _)
  have hd':ZJ a S':=fun b o hb=>hd b o (by rw[ZEJ _ _ (fun e=>by rw[e,h2]at hb;simp at hb)];exact hb)
  refine⟨a.or S',h1.or hd',by rw[Zl hq];exact h2,?_⟩
  funext c
  by_cases hc:c=q
  ·subst hc;rw[ZEI,Zl hq,ZEI]
  ·rw[ZEJ _ _ hc]
   cases ha:a c with
   |some x=>rw[Zh ha,Zh ha]
   |none=>rw[Zl ha,Zl ha,ZEJ _ _ hc]
theorem Mk.unwS{P A m Ψ}(h:Ψ m A):∀{qs S},Mk A qs S→Unw P (qs.map .mark) m S Ψ
 | [],S,hm=>by rw[show S=A from hm];exact h
 |q::qs,S,hm=>by
  obtain⟨S',h1,h2,rfl⟩:=hm
  refine⟨ZEI _ _ _,?_⟩
  have e:(S'.upd q .dfr).del q=S':=by
   funext c
   by_cases hc:c=q
   ·subst hc;simp[St.del,h2]
   ·simp[St.del,ZFc,hc]
  rw[e];exact Mk.unwS h h1
theorem YY{s t:St}{b}(h:(s.or t) b=nO):s b=nO∧t b=nO:=by
 cases hs:s b with
 |none=>rw[Zl hs]at h;exact⟨rfl,h⟩
 |some o=>rw[Zh hs]at h;simp at h
theorem Ztl{a s t}(h1:ZJ a s)(h2:ZJ (a.or s) t):ZJ a (s.or t):=fun b o hb=>by
 cases hs:s b with
 |some x=>exact h1 b x hs
 |none =>
  rw[Zl hs]at hb
  exact(YY (h2 b o hb)).1
theorem Jn{s t:St}{b o}(h:s b=nO):(s.or t).upd b o=s.or (t.upd b o):=by
 funext c
 by_cases hc:c=b
 ·subst hc;rw[ZEI,Zl h,ZEI]
 ·rw[ZEJ _ _ hc]
  cases hs:s c with
  |some x=>rw[Zh hs,Zh hs]
  |none=>rw[Zl hs,Zl hs,ZEJ _ _ hc]
theorem Qd{s t b o}(hd:ZJ s t)(h:s b=nO):ZJ s (t.upd b o):=fun c x hc=>by
 by_cases hcb:c=b
 ·subst hcb;exact h
 ·rw[ZEJ _ _ hcb]at hc;exact hd c x hc
theorem ZgZ{s a t u:St}(h1:ZJ s (t.or u))(h2:ZJ (a.or t) u):ZJ s t∧ZJ (s.or t) u:=by
 refine⟨fun b o hb=>h1 b o (Zh hb),fun b o hb=>?_⟩
 have h3:=(YY (h2 b o hb)).2
 have h4:=h1 b o (by rw[Zl h3];exact hb)
 rw[Zl h4];exact h3
def goE(go:Nat→Oc)(k j:Nat):Oc:=match go (k+j) with
 |.next=>.next
 |.stop _=>.stop (.exit 0)
 |.pan d=>.pan d
theorem Zxz{go k j}(h:goE go k j=.next):go (k+j)=.next:=by
 unfold goE at h
 split at h<;>first|assumption|simp at h
theorem ZbA{go k n}(h1:∀j,j<k→go j=.next)(h2:∀j,j<n→goE go k j=.next):∀j,j<k+n→go j=.next:=fun j hj=>by
 by_cases h:j<k
 ·exact h1 j h
 ·have:=Zxz (h2 (j-k) (by omega))
  rwa [show k+(j-k)=j by omega]at this
theorem Zro{α:Type}[Inhabited α]{a b c:List α}{k j}(hk:k=a.length)(hj:j<b.length):(a++(b++c)).getD (k+j) dE=b.getD j dE:=by
 subst hk
 simp[ZES,ZFj,ZE7 hj]
theorem ZnC(v):∀(h:Int) (za zv),zv≠za→Ze7 ZEA (.fn (.func 76) [] [.ptr za 0,.ptr zv 0]) (KY v h).length (hvA (KY v h)) (ZcF v h za zv):=by
 induction v using Val.ind with
 |h v ih =>
 intro h za zv hne l go A a0 hcons hA hd
 have hL:=Zgu v h
 obtain⟨h1,hh1⟩:∃h1,h1=IntKind.i64.wrap (h+1):=⟨_,rfl⟩
 rw[←hh1]at hL
 generalize KY v h=LL at *
 have hlen:0<LL.length:=by rw[hL];simp
 have hx0:hvA LL 0=[.int .i64 h,.agg [.str v.name,.int .i64 v.int,ZL v.bytes,Z9 v.hdrs,ZW v.parts]]:=by unfold hvA;rw[hL,←ZE0];rfl
 refine Zb.V (first:=[]) (args:=[.fn (.yield l) [] []]) (caps:=[.ptr za 0,.ptr zv 0]) (Zc (cR 76 f76) fun F hF=>?_)
 have ga:=Zy2 (v:=v) (h:=h) (za:=za) (zv:=zv)
 have gv:=Zy3 (v:=v) (h:=h) hne
 rw[ZE0]at gv
 generalize ZcF v h za zv=T at *
 refine rg ?_
 refine Yg (Za (Za ?_))
 refine xP 3 fun z3 h3=>?_
 obtain⟨h3a,h3t⟩:=YY h3
 have hst:((a0.or T).upd z3 (.cells [.fn (.yield l) [] []]))=a0.or (T.upd z3 (.cells [.fn (.yield l) [] []])):=Jn h3a
 rw[hst]
 clear hst
 have hd3:=Qd (o:=.cells [.fn (.yield l) [] []]) hd h3a
 have g3:(T.upd z3 (.cells [.fn (.yield l) [] []])) z3=sO (.cells [.fn (.yield l) [] []]):=ZEI _ _ _
 have ga3:(T.upd z3 (.cells [.fn (.yield l) [] []])) za=sO (.cells [.int .i64 h]):=by rw[ZEJ _ _ (fun e=>by rw[←e,ga]at h3t;simp at h3t)];exact ga
 have gv3:(T.upd z3 (.cells [.fn (.yield l) [] []])) zv=sO (.cells [.str v.name,.int .i64 v.int,ZL v.bytes,Z9 v.hdrs,ZW v.parts]):=by rw[ZEJ _ _ (fun e=>by rw[←e,gv]at h3t;simp at h3t)];exact gv
 clear h3 h3a h3t ga gv hd
 generalize (T.upd z3 (.cells [.fn (.yield l) [] []]))=T3 at *
 have rd:∀{a Tq:St} {b:Nat} {o:W4},ZJ a Tq→Tq b=sO o→(a.or Tq) b=sO o:=fun hda hb=>by rw[Zl (hda _ _ hb)];exact hb
 have hcall:=(hcons 0 hlen (fun i hi=>absurd hi (Nat.not_lt_zero _)) a0 hA).frame hd3
 rw[hx0]at hcall
 refine rh ?_
 refine Zj ?_
 simp only[Eqs,reduceCtorEq,ZEG,reduceIte,ZED,ZEH,ZEE,rd hd3 g3,rd hd3 ga3,rd hd3 gv3]
 refine vV (hcall) ?_ ?_
 ·rintro d S ⟨s',⟨hr,hA'⟩,hd',rfl⟩
  cases hgo:go 0 with
  |next =>
   rw[hgo]at hr
   cases hr
   refine gR0 ?_
   refine i0 ?_
   refine rh ?_
   refine Zj ?_
   simp only[Eqs,reduceCtorEq,ZEG,reduceIte,ZED,ZEH,ZEE,rd hd' gv3,Zct]
   refine Zta 14 rfl fun hwf=>?_
   have hw:=ZlW hwf
   unfold big at hw
   clear hwf hcall hd3 hA
   refine Zd ?_
   refine lpU (fun Q=>∀(n i:Nat),(v.parts.length)-i=n→∀(F:Fr ZEA) (qs:List Nat) (Tq a:St),Yy F [] (fun r S=>∃a,Zd9 LL.length go A a r∧a.sub S) (qs.map .mark)→Mk T3 qs Tq→ZJ a Tq→A (1+(preWL (v.parts.take i) h1).length) a→(∀j,j<1+(preWL (v.parts.take i) h1).length→go j=.next)→i≤v.parts.length→Q F [(1,.d (.ptr za 0)),(3,.d (.ptr z3 0)),(14,.d (ZW v.parts)),(15,.d (.int .i64 v.parts.length)),(16,.d (.int .i64 i))] [] (a.or Tq)) ?_ fun key=>?_
   ·intro n
    induction n using Nat.strongRecOn with
    |ind n ih_key =>
    clear hd' hA' hgo hF s'
    intro i hn F qs Tq a hF hMk hda hA hno hi
    refine rg ?_
    refine Za (Zq rfl trivial (fun hc=>?_) (fun hc=>?_))
    ·simp at hc
     have hr5:=QS hc
     have hmem:=ZA hc
     have hT:=ZmZ hc h1
     have hS:=ZsJ hc h1
     have ihx:=ih _ hmem
     generalize hk:1+(preWL (v.parts.take i) h1).length=k at *
     generalize hx:v.parts.getD i dE=x at *
     refine rx (nd2 @atV @hr5) ?_
     refine aa ?_
     refine rh ?_
     refine Jb ?_
     simp only[Eqs,reduceCtorEq,ZEG,reduceIte,ZED,ZEH,ZEE,Qv,JN,rd hda (hMk.get ga3)]
     refine Zga rfl rfl rfl (by trivial) (Jb ?_)
     simp only[Eqs,reduceCtorEq,ZEG,reduceIte,ZED,ZEH,ZEE,Qv,JN]
     rw[←hh1]
     have hev:=ZhR x h1 (a.or Tq)
     rw[ZE0]at hev
     refine cV (hev) ?_ ?_
     ·rintro dd S ⟨zx,zy,n1,n2,ne,hr,rfl⟩
      cases hr
      refine gR0 ?_
      refine Zd ?_
      refine WS hF rfl trivial [1,3,14,15,16] (by show([1,3,14,15,16]:List Nat).Nodup;decide) (ZoU n1 n2) (ihx h1 zx zy ne) (fun j hj=>rfl) (goE go k) (fun j s=>∃a,s=a.or Tq∧A (k+j) a∧ZJ a Tq) ⟨a,rfl,hA,hda⟩ ?_ ?_ ?_ ?_ ?_ ?_
      ·rintro j _ hj hno2 ⟨a1,rfl,hA1,hd1⟩ F' ready busy hdr hbeg hend
       have hidx:LL.getD (k+j) dE=(KY x h1).getD j dE:=by
        rw[hL,hS,←hk,←List.cons_append]
        exact Zro (by simp;omega) hj
       have hlt:k+j<LL.length:=by
        rw[hL,hS]
        simp only[ZER,ZEM]
        omega
       have hcall:=hcons (k+j) hlt (fun i hi=>ZbA hno hno2 i hi) a1 hA1
       unfold hvA at hcall
       rw[hidx]at hcall
       simp only[Eqs,reduceCtorEq,ZEG,reduceIte,ZED,ZEH,ZEE,YZ,Wc,KO,WE,List.isEmpty_nil,List.isEmpty_cons,hvA]
       generalize (KY x h1).getD j dE=g at *
       obtain⟨gh,gx⟩:=g
       simp only[ZE0]at hcall⊢
       refine rg ?_
       refine rg ?_
       refine hbeg fun hdb=>?_
       have hcall2:=hcall.frame (Ztl hd1 hdb)
       rw[←or_assoc]at hcall2
       refine rh ?_
       refine Zj ?_
       simp only[Eqs,reduceCtorEq,ZEG,reduceIte,ZED,ZEH,ZEE,Zh (rd hd1 (hMk.get g3))]
       refine vV (hcall2) ?_ ?_
       ·rintro d S ⟨s',⟨hr,hA'⟩,hd',rfl⟩
        have hdd:=ZgZ hd' hdb
        rw[←or_assoc]
        cases hgo:go (k+j) with
        |next =>
         rw[hgo]at hr
         cases hr
         refine gR0 ?_
         refine i0 ?_
         refine ZD (Zo ?_)
         exact hend.fin ⟨by unfold goE;rw[hgo],s',rfl,hA',hdd.1⟩ hdd.2 (ZEB _)
        |stop c =>
         rw[hgo]at hr
         cases hr
         refine gR0 ?_
         refine i1 ?_
         exact hend.exit rfl ⟨by unfold goE;rw[hgo],s',rfl,hA',hdd.1⟩ hdd.2 (ZEB _)
        |pan d=>rw[hgo]at hr;cases hr
       ·rintro d S ⟨s',⟨hr,hA'⟩,hd',rfl⟩
        have hdd:=ZgZ hd' hdb
        cases hgo:go (k+j) with
        |pan d' =>
         rw[hgo]at hr
         cases hr
         rw[←or_assoc]
         exact hend.pan ⟨by unfold goE;rw[hgo],s',rfl,hA',hdd.1⟩ hdd.2 (ZEB _)
        |next=>rw[hgo]at hr;cases hr
        |stop c=>rw[hgo]at hr;cases hr
      ·rintro q _ hno2 ⟨a1,rfl,hA1,hd1⟩ hq
       obtain⟨q1,q2⟩:=YY hq
       rw[Jn q1]
       have hoff:1+(preWL (v.parts.take (i+1)) h1).length=k+(KY x h1).length:=by rw[hT,ZEM];omega
       refine rg ?_
       refine aa ?_
       refine Zi ?_
       exact ih_key (v.parts.length-(i+1)) (by omega) (i+1) rfl (F.mark q) (q::qs) (Tq.upd q .dfr) a1 (hF.mark q) ⟨Tq,hMk,q2,rfl⟩ (Qd hd1 q1) (by rw[hoff];exact hA1) (by rw[hoff];exact ZbA hno hno2) (by omega)
      ·rintro q _ m hm hno2 hgo
       unfold goE at hgo
       split at hgo<;>simp at hgo
      ·rintro q _ m id hm hno2 hgo ⟨a1,rfl,hA1,hd1⟩ hq
       obtain⟨q1,q2⟩:=YY hq
       rw[Jn q1]
       have hlt:k+m<LL.length:=by
        rw[hL,hS]
        simp only[ZER,ZEM]
        omega
       unfold goE at hgo
       split at hgo
       ·simp at hgo
       ·rename_i c hc2
        simp only[Oc.stop.injEq,Code.exit.injEq]at hgo
        subst hgo
        refine ZR rfl ?_
        refine ZT ?_
        exact(hF.mark q).finU (Mk.unwS (m:=nO) (qs:=q::qs) (A:=a1.or T3) ⟨_,_,.tup [],_,rfl,trivial,ZEF _,ZEB _,a1,.stop (k+m) c hlt (ZbA hno hno2) hc2 hA1,YQ _ _⟩ (Mk.or (qs:=q::qs) (S:=Tq.upd q .dfr) ⟨Tq,hMk,q2,rfl⟩ (Qd hd1 q1)))
       ·simp at hgo
      ·rintro q _ m d hm hno2 hgo ⟨a1,rfl,hA1,hd1⟩ hq
       obtain⟨q1,q2⟩:=YY hq
       rw[Jn q1]
       have hlt:k+m<LL.length:=by
        rw[hL,hS]
        simp only[ZER,ZEM]
        omega
       unfold goE at hgo
       split at hgo
       ·simp at hgo
       ·simp at hgo
       ·rename_i d' hc2
        simp only[Oc.pan.injEq]at hgo
        subst hgo
        exact(hF.mark q).panU (Mk.unwS (m:=sO _) (qs:=q::qs) (A:=a1.or T3) ⟨_,_,ZEF _,ZEB _,a1,.pan (k+m) _ hlt (ZbA hno hno2) hc2 hA1,YQ _ _⟩ (Mk.or (qs:=q::qs) (S:=Tq.upd q .dfr) ⟨Tq,hMk,q2,rfl⟩ (Qd hd1 q1)))
      ·intro m c hgo
       unfold goE at hgo
       split at hgo<;>simp at hgo
       exact .inr ⟨0,hgo.symm⟩
     ·rintro dd S ⟨zx,zy,n1,n2,ne,hr,_⟩
      cases hr
    ·simp at hc
     obtain rfl:i=v.parts.length:=by omega
     rw[ZFa]at hA hno
     have hall:LL.length=1+(preWL v.parts h1).length:=by rw[hL,ZER];omega
     rw[←hall]at hA hno
     refine ZR rfl (ZT ?_)
     exact hF.finU (Mk.unwS (m:=nO) (A:=a.or T3) ⟨_,_,.tup [],_,rfl,trivial,ZEF _,ZEB _,a,.all hno hA,YQ _ _⟩ (Mk.or hMk hda))
   exact key _ 0 rfl F [] T3 s' hF rfl hd' (by simpa[preWL]using hA') (fun j hj=>by
    obtain rfl:j=0:=by simp[preWL]at hj;omega
    exact hgo) (by omega)
  |stop c =>
   rw[hgo]at hr
   cases hr
   refine gR0 ?_
   refine i1 ?_
   exact hF.ret (.tup []) _ rfl trivial (ZEF _) (ZEB _) ⟨s',.stop 0 c hlen (fun i hi=>absurd hi (Nat.not_lt_zero _)) hgo hA',YQ _ _⟩
  |pan d=>rw[hgo]at hr;cases hr
 ·rintro d S ⟨s',⟨hr,hA'⟩,hd',rfl⟩
  cases hgo:go 0 with
  |pan d' =>
   rw[hgo]at hr
   cases hr
   exact hF.pan _ (ZEB _) ⟨s',.pan 0 d hlen (fun i hi=>absurd hi (Nat.not_lt_zero _)) hgo hA',YQ _ _⟩
  |next=>rw[hgo]at hr;cases hr
  |stop c=>rw[hgo]at hr;cases hr
theorem Zfn{l}{h:Int}{p}:p∈preWL l h↔∃x∈l,p∈KY x h:=by
 induction l with
 |nil=>simp[preWL]
 |cons v r ih=>simp only[preWL,List.mem_append,ih,ZFd,exists_eq_or_imp]
theorem ZrT(v):∀h,(KY v h).length=Kb v:=by
 induction v using Val.ind with
 |h v ih =>
  intro h
  rw[Zgu,WN,ZER]
  have:∀(l:List Val) (k:Int),(∀x∈l,∀k,(KY x k).length=Kb x)→(preWL l k).length=nodesL l:=fun l k hl=>by
   induction l with
   |nil=>simp[preWL,nodesL]
   |cons a r ih2=>rw[preWL,ZEM,hl a (by simp),ih2 fun x hx=>hl x (by simp[hx]),nodesL]
  rw[this v.parts _ ih];omega
theorem Ztz(v):∀h,Y3 v=true↔∀p∈KY v h,Qo p.2=true:=by
 induction v using Val.ind with
 |h v ih =>
  intro h
  rw[Zgu,ZeA,ZEK,ZdL,List.all_eq_true]
  constructor
  ·rintro⟨h1,h2⟩ p hp
   rcases List.mem_cons.1 hp with rfl|hp
   ·exact h2
   ·obtain⟨x,hx,hp⟩:=Zfn.1 hp
    exact(ih x hx _).1 (h1 x hx) p hp
  ·intro hall
   refine⟨fun x hx=>(ih x hx _).2 fun p hp=>hall p (List.mem_cons_of_mem _ (Zfn.2 ⟨x,hx,hp⟩)),hall (h,v) (by simp)⟩
theorem Zx4(v):∀h:Int,0≤h→h+Z6 v≤4611686018427387904→∀p∈KY v h,p.1<h+Z6 v:=by
 induction v using Val.ind with
 |h v ih =>
  intro h h0 hb p hp
  rw[Zgu]at hp
  rw[Ky]at hb⊢
  rcases List.mem_cons.1 hp with rfl|hp
  ·show h<_;omega
  ·obtain⟨x,hx,hp⟩:=Zfn.1 hp
   have h1:=ZfQ hx
   rw[JI (by omega)]at hp
   have:=ih x hx (h+1) (by omega) (by omega) p hp
   omega
theorem Zus{l k}(h:k<heightL l):∃x∈l,k<Z6 x:=by
 induction l with
 |nil=>simp[heightL]at h
 |cons v r ih =>
  simp only[heightL]at h
  by_cases h1:k<Z6 v
  ·exact⟨v,by simp,h1⟩
  ·obtain⟨x,hx,hk⟩:=ih (by omega)
   exact⟨x,by simp[hx],hk⟩
theorem ZuP(v):∀(k:Nat) (h:Int),0≤h→h+k≤4611686018427387904→k<Z6 v→∃p∈KY v h,p.1=h+k:=by
 induction v using Val.ind with
 |h v ih =>
  intro k h h0 hb hk
  rw[Zgu]
  cases k with
  |zero=>exact⟨(h,v),by simp,by simp⟩
  |succ k =>
   rw[Ky]at hk
   obtain⟨x,hx,hxk⟩:=Zus (show k<heightL v.parts by omega)
   rw[JI (by omega)]
   obtain⟨p,hp,he⟩:=ih x hx k (h+1) (by omega) (by omega) hxk
   exact⟨p,List.mem_cons_of_mem _ (Zfn.2 ⟨x,hx,hp⟩),by rw[he];omega⟩
def ZfK(L:List (Int×Val))(j:Nat):Bool:=(dC ((65536:Int)<(j:Int)+1) ||decide ((40:Int)<(L.getD j dE).1))||!Qo (L.getD j dE).2
theorem ZwY{v}(h:∀j,j<(KY v 1).length→ZfK (KY v 1) j=false):Y7 v=true:=by
 have hl:=ZrT v 1
 have hp:∀p∈KY v 1,p.1≤40∧Qo p.2=true:=fun p hp=>by
  obtain⟨j,hj,rfl⟩:=ZEV hp
  have:=h j hj
  unfold ZfK at this
  simp only[Bool.or_eq_false_iff,decide_eq_false_iff_not,Bool.not_eq_false',List.getD_eq_getElem?_getD,ZE5 hj,ZFe]at this
  exact⟨by omega,this.2⟩
 have h0:0<Kb v:=by rw[WN];omega
 have h1:=h ((KY v 1).length-1) (by omega)
 unfold ZfK at h1
 simp only[Bool.or_eq_false_iff,decide_eq_false_iff_not]at h1
 unfold Y7
 rw[(Ztz v 1).2 fun p hp'=>(hp p hp').2,Bool.and_true,ZEK,decide_eq_true_eq,decide_eq_true_eq]
 refine⟨by omega,?_⟩
 by_cases hh:Z6 v≤40
 ·omega
 ·obtain⟨p,hp',he⟩:=ZuP v 40 1 (by omega) (by omega) (by omega)
  have:=(hp p hp').1
  omega
theorem ZwW{v j}(hj:j<(KY v 1).length)(h:ZfK (KY v 1) j=true):Y7 v=false:=by
 cases hv:Y7 v with
 |false=>rfl
 |true =>
  exfalso
  unfold Y7 at hv
  simp only[ZEK,decide_eq_true_eq]at hv
  obtain⟨⟨h1,h2⟩,h3⟩:=hv
  have hl:=ZrT v 1
  have hm:(KY v 1).getD j dE∈KY v 1:=ZA hj
  have h4:=Zx4 v 1 (by omega) (by omega) _ hm
  have h5:=(Ztz v 1).1 h3 _ hm
  unfold ZfK at h
  rw[h5]at h
  simp only[Bool.not_true,Bool.or_false,ZEY,decide_eq_true_eq]at h
  omega
theorem Js(v):Ze ZEA 19 [.agg v.cells] (.bool (Y7 v)):=by
 refine fun st=>Zc (cR 19 f19) fun F hF=>?_
 have hev:=ZhR v 1 st
 have hit:=ZnC v 1
 have hgood:=ZwY (v:=v)
 have hbad:=fun j=>ZwW (v:=v) (j:=j)
 rw[ZE0]at hev⊢
 generalize KY v 1=L at *
 refine rg ?_
 refine rg ?_
 refine rg ?_
 refine cV (hev) ?_ ?_
 ·rintro dd S ⟨za,zv,n1,n2,ne,hr,rfl⟩
  cases hr
  refine gR0 ?_
  refine Zd ?_
  refine xP 2 fun z2 h2=>?_
  obtain⟨h2a,h2b⟩:=YY h2
  rw[Yq]
  refine xP 3 fun z3 h3=>?_
  obtain⟨h3a,h3b⟩:=YY h3
  rw[Yq]
  have k3:=Zn h3a
  have g2:∀c,((st.upd z2 (.cells [.bool false])).upd z3 c) z2=sO (.cells [.bool false]):=fun c=>by rw[ZEJ _ _ (Ne.symm k3.1)];exact ZEI _ _ _
  have g3:∀c,((st.upd z2 (.cells [.bool false])).upd z3 c) z3=sO c:=fun c=>ZEI _ _ _
  have hsub:∀c o,st.sub (((st.upd z2 (.cells [.bool false])).upd z3 c).upd z2 o):=fun c o b x hb=>by
   have e2:b≠z2:=fun e=>by rw[e,h2a]at hb;simp at hb
   have e3:b≠z3:=fun e=>by rw[e,k3.2]at hb;simp at hb
   rw[ZEJ _ _ e2,ZEJ _ _ e3,ZEJ _ _ e2];exact hb
  have hdj:∀c,ZJ ((st.upd z2 (.cells [.bool false])).upd z3 c) (ZcF v 1 za zv):=fun c b o hb=>by
   have e2:b≠z2:=fun e=>by rw[e,h2b]at hb;simp at hb
   have e3:b≠z3:=fun e=>by rw[e,h3b]at hb;simp at hb
   rw[ZEJ _ _ e3,ZEJ _ _ e2]
   exact ZoU n1 n2 b o hb
  refine WS hF rfl trivial [2,3] (by show([2,3]:List Nat).Nodup;decide) (hdj _) (hit za zv ne) (fun j hj=>rfl) (fun j=>if ZfK L j then .stop .ret else .next) (fun j a=>a=(st.upd z2 (.cells [.bool false])).upd z3 (.cells [.int .i64 j])) rfl ?_ ?_ ?_ ?_ ?_ ?_
  ·intro j a hj hno hB F' ready busy hdr hbeg hend
   subst hB
   have hj2:j≤65536:=by
    refine Nat.le_of_not_lt fun hlt=>?_
    have:=hno 65536 hlt
    rw[if_pos (by unfold ZfK;simp)]at this
    simp at this
   have hN:=Zp2 (L.getD j dE).2
   have hbd:=ZfK.eq_1 L j
   simp only[Eqs,reduceCtorEq,ZEG,reduceIte,ZED,ZEH,ZEE,YZ,Wc,KO,WE,List.isEmpty_nil,List.isEmpty_cons,hvA]
   generalize L.getD j dE=g at *
   obtain⟨gh,gx⟩:=g
   simp only[ZE0]at hN hbd⊢
   refine rg ?_
   refine rg ?_
   refine hbeg fun hdb=>?_
   have hdb2:ZJ ((st.upd z2 (.cells [.bool false])).upd z3 (.cells [.int .i64 ((j+1:Nat):Int)])) busy:=fun b o hb=>by
    have h1:=Zn (hdb b o hb)
    rw[ZEJ _ _ h1.1];exact h1.2
   refine rh ?_
   refine Zj ?_
   simp only[Eqs,reduceCtorEq,ZEG,reduceIte,ZED,ZEH,ZEE,Zh (g3 _),Yq]
   refine aa ?_
   rw[ZET,show(j:Int)+1=((j+1:Nat):Int) by omega]
   refine rh ?_
   refine Zj ?_
   simp only[Eqs,reduceCtorEq,ZEG,reduceIte,ZED,ZEH,ZEE,Zh (g3 _)]
   refine cG (hN) ?_
   rw[show((j+1:Nat):Int)=(j:Int)+1 by omega,←hbd]
   cases hb:ZfK L j with
   |true =>
    rw[hb]at hend
    refine i1 ?_
    refine rh ?_
    refine Zj ?_
    simp only[Eqs,reduceCtorEq,ZEG,reduceIte,ZED,ZEH,ZEE,Zh (g2 _),Yq]
    rw[show(j:Int)+1=((j+1:Nat):Int) by omega,St.upd_self (g2 _)]
    exact hend.ret ⟨rfl,rfl⟩ hdb2 (ZEB _)
   |false =>
    rw[hb]at hend
    refine i0 ?_
    refine ZD (Zo ?_)
    rw[show(j:Int)+1=((j+1:Nat):Int) by omega]
    exact hend.fin ⟨rfl,rfl⟩ hdb2 (ZEB _)
  ·intro q a hno hB hq
   subst hB
   have hv:Y7 v=true:=hgood fun j hj=>by
    have:=hno j hj
    split at this
    ·simp at this
    ·rename_i h;simpa using h
   rw[Wu hq]
   have hq2:(((st.upd z2 (.cells [.bool false])).upd z3 (.cells [.int .i64 L.length])).upd z2 (.cells [.bool true])) q=nO:=by rw[ZEJ _ _ (fun e=>by rw[e,g2]at hq;simp at hq)];exact hq
   have gg:(((st.upd z2 (.cells [.bool false])).upd z3 (.cells [.int .i64 L.length])).upd z2 (.cells [.bool true])) z2=sO (.cells [.bool true]):=ZEI _ _ _
   refine rh ?_
   refine Zj ?_
   simp only[Eqs,reduceCtorEq,ZEG,reduceIte,ZED,ZEH,ZEE,Zh (g2 _),Yq]
   exact hF.ret1 hq2 (.bool true) st (by simp only[Eqs,reduceCtorEq,ZEG,reduceIte,ZED,ZEH,ZEE,Yk,WF,gg];rfl) (by trivial) (ZEF _) (hsub _ _) ⟨by rw[hv],rfl⟩
  ·intro q a m hm hno hgo hB hq
   subst hB
   have hb:ZfK L m=true:=by
    split at hgo
    ·assumption
    ·simp at hgo
   rw[Wu hq]
   have hs:st.sub ((st.upd z2 (.cells [.bool false])).upd z3 (.cells [.int .i64 ((m+1:Nat):Int)])):=by
    have:=hsub (.cells [.int .i64 ((m+1:Nat):Int)]) (.cells [.bool false])
    rwa [St.upd_self (g2 _)]at this
   exact hF.ret1 hq (.bool false) st (by simp only[Eqs,reduceCtorEq,ZEG,reduceIte,ZED,ZEH,ZEE,Yk,WF,g2];rfl) (by trivial) (ZEF _) hs ⟨by rw[hbad m hm hb],rfl⟩
  ·intro q a m id hm hno hgo
   split at hgo<;>simp at hgo
  ·intro q a m d hm hno hgo
   split at hgo<;>simp at hgo
  ·intro m c hgo
   split at hgo<;>simp at hgo
   exact .inl hgo.symm
 ·rintro dd S ⟨za,zv,n1,n2,ne,hr,_⟩
  cases hr
def YT(row:Nat→List D):Nat→List D
 |0=>[]
 |n+1=>YT row n++row n
theorem Zbx{row}:∀{n},(∀j,j<n→(row j).length=5)→(YT row n).length=n*5
 |0,_=>rfl
 |n+1,h=>by
  rw[YT,ZEM,Zbx fun j hj=>h j (by omega),h n (by omega)];omega
theorem ZkG{row row'}:∀{n},(∀j,j<n→row j=row' j)→YT row n=YT row' n
 |0,_=>rfl
 |n+1,h=>by rw[YT,YT,ZkG fun j hj=>h j (by omega),h n (by omega)]
theorem ZdA{row}(X):∀{n j},(∀j,j<n→(row j).length=5)→j<n→part (YT row n++X) (j*5) 5=row j
 |0,j,_,hj=>absurd hj (Nat.not_lt_zero _)
 |n+1,j,h,hj=>by
  rcases Nat.lt_or_eq_of_le (Nat.le_of_lt_succ hj) with h1|rfl
  ·have:=ZdA (row n++X) (n:=n) (j:=j) (fun k hk=>h k (by omega)) h1
   rw[YT,ZE9];exact this
  ·unfold part
   rw[YT,ZE9,List.drop_left' (Zbx fun k hk=>h k (by omega)),List.take_left' (h j (by omega))]
theorem Ziy{row}(X k ds)(hk:k+ds.length≤5):∀{n j},(∀j,j<n→(row j).length=5)→j<n →
  Zu (YT row n++X) (j*5+k) ds=YT (fun i=>if i=j then Zu (row j) k ds else row i) n++X
 |0,j,_,hj=>absurd hj (Nat.not_lt_zero _)
 |n+1,j,h,hj=>by
  have hl:(YT row n).length=n*5:=Zbx fun k hk=>h k (by omega)
  rcases Nat.lt_or_eq_of_le (Nat.le_of_lt_succ hj) with h1|rfl
  ·have ih:=Ziy (row n++X) k ds hk (n:=n) (j:=j) (fun k hk=>h k (by omega)) h1
   rw[YT,ZE9,ih,YT,if_neg (by omega),ZE9]
  ·have hr:=h j (by omega)
   have h2:YT (fun i=>if i=j then Zu (row j) k ds else row i) j=YT row j:=ZkG fun i hi=>by rw[if_neg (by omega)]
   have e1:j*5+k-j*5=k:=by omega
   have e2:j*5+k+ds.length-j*5=k+ds.length:=by omega
   have t1:(YT row j).take (j*5+k)=YT row j:=List.take_of_length_le (by omega)
   have t2:(YT row j).drop (j*5+k+ds.length)=[]:=List.drop_eq_nil_of_le (by omega)
   rw[YT,YT,h2,if_pos rfl]
   unfold Zu
   rw[ZE9 (YT row j),List.take_append,List.take_append,List.drop_append,List.drop_append,hl,hr,e1,e2,t1,t2,show k-5=0 by omega,show k+ds.length-5=0 by omega]
   simp
inductive MT(T:St):Val→List D→List Nat→Prop where
 |leaf (n:Str) (i:Int) (b:Str) (h:List Hdr):MT T (.mk n i b h []) [.str n,.int .i64 i,ZL b,Z9 h,ZW []] []
 |node (n:Str) (i:Int) (b:Str) (h:List Hdr) (ps:List Val) (x cap:Nat) (row:Nat→List D) (fp:Nat→List Nat) (X:List D) (hp:0<ps.length) (hb:T x=some (.cells (YT row ps.length++X))) (hc:ps.length≤cap)
   (hx:∀j,j<ps.length→MT T (ps.getD j default) (row j) (fp j)) (hn:∀j,j<ps.length→x∉fp j) (hd:∀j k,j<ps.length→k<ps.length→j≠k→∀y∈fp j,y∉fp k) :
   MT T (.mk n i b h ps) [.str n,.int .i64 i,ZL b,Z9 h,.msl x 0 ps.length cap 5] (x::(ZEO ps.length).flatMap fp)
theorem MT.len{T v c fp}(h:MT T v c fp):c.length=5:=by cases h<;>rfl
theorem MT.head{T v c fp}(h:MT T v c fp):∃p,c=[.str v.name,.int .i64 v.int,ZL v.bytes,Z9 v.hdrs,p]:=by cases h<;>exact⟨_,rfl⟩
theorem MT.mono{T T' v c fp}(h:MT T v c fp)(hT:∀y∈fp,T' y=T y):MT T' v c fp:=by
 induction h with
 |leaf n i b h=>exact .leaf n i b h
 |node n i b h ps x cap row fp X hp hb hc hx hn hd ih =>
  refine .node n i b h ps x cap row fp X hp (by rw[hT x (by simp)];exact hb) hc (fun j hj=>ih j hj fun y hy=>hT y ?_) hn hd
  simp only[ZFd,List.mem_flatMap,List.mem_range]
  exact .inr ⟨j,hj,hy⟩
theorem MT.live{T v c fp}(h:MT T v c fp):∀y∈fp,∃ds,T y=sO (.cells ds):=by
 induction h with
 |leaf=>intro y hy;simp at hy
 |node n i b h ps x cap row fp X hp hb hc hx hn hd ih =>
  intro y hy
  simp only[ZFd,List.mem_flatMap,List.mem_range]at hy
  rcases hy with rfl|⟨j,hj,hy⟩
  ·exact⟨_,hb⟩
  ·exact ih j hj y hy
theorem MT.ld{T v c fp}(h:MT T v c fp):∀{Ln},(∀y∈fp,y∈Ln)→LdC T Ln c v.cells:=by
 induction h with
 |leaf n i b h=>intro Ln _;rw[ZE0];exact LdC.refl _
 |node n i b h ps x cap row fp X hp hb hc hx hn hd ih =>
  intro Ln hL
  rw[ZE0]
  have h5:∀j,j<ps.length→(row j).length=5:=fun j hj=>(hx j hj).len
  refine .cons (.refl _) (.cons (.refl _) (.cons (.refl _) (.cons (.refl _) (.cons ?_ .nil))))
  refine Ys.msl (hL x (by simp)) hb (by rw[ZEM,Zbx h5];exact Nat.le_add_right _ _) fun j hj=>?_
  rw[show((YT row ps.length++X).drop (j*5)).take 5=row j from ZdA X h5 hj]
  show LdC T Ln (row j) (Zb5 ps j)
  rw[Zft hj]
  refine ih j hj fun y hy=>hL y ?_
  simp only[ZFd,List.mem_flatMap,List.mem_range]
  exact .inr ⟨j,hj,hy⟩
structure MN(T:St)(v:Val)(c:List D)(fp:List Nat)(x cap:Nat)(row:Nat→List D)(f:Nat→List Nat)(X:List D):Prop where
 c:c=[.str v.name,.int .i64 v.int,ZL v.bytes,Z9 v.hdrs,.msl x 0 v.parts.length cap 5]
 b:T x=some (.cells (YT row v.parts.length++X))
 le:v.parts.length≤cap
 kid:∀j,j<v.parts.length→MT T (v.parts.getD j default) (row j) (f j)
 n:∀j,j<v.parts.length→x∉f j
 d:∀j k,j<v.parts.length→k<v.parts.length→j≠k→∀y∈f j,y∉f k
 fp:fp=x::(ZEO v.parts.length).flatMap f
theorem MT.inv{T v c fp}(h:MT T v c fp)(hp:0<v.parts.length):∃x cap row f X,MN T v c fp x cap row f X:=by
 cases h with
 |leaf n i b h=>simp[Val.parts]at hp
 |node n i b h ps x cap row f X hp hb hc hx hn hd=>exact⟨x,cap,row,f,X,rfl,hb,hc,hx,hn,hd,rfl⟩
theorem MN.mt{T v c fp x cap row f X}(h:MN T v c fp x cap row f X)(hp:0<v.parts.length):MT T v c fp:=by
 obtain⟨h1,h2,h3,h4,h5,h6,h7⟩:=h
 subst h1 h7
 cases v
 exact .node _ _ _ _ _ _ _ _ _ _ hp h2 h3 h4 h5 h6
def Val.setP(v:Val)(j:Nat)(w:Val):Val:=.mk v.name v.int v.bytes v.hdrs (v.parts.set j w)
def Val.setI(v:Val)(i:Int):Val:=.mk v.name i v.bytes v.hdrs v.parts
theorem Zxy{l:List Val}{j k w}(hj:j<l.length):(l.set j w).getD k dE=if k=j then w else l.getD k dE:=by
 simp only[ZES,List.getElem?_set]
 by_cases h:k=j
 ·subst h;simp[hj]
 ·simp[h,Ne.symm h]
theorem Zsf{E:List Str}{i}(h:i<E.length):(E.map D.str)[i]?=sO (.str (E.getD i [])):=by simp[ZES,h]
theorem Zym{E:List Str}{i s}(h:i<E.length):List.take (i*1) (E.map D.str)++[.str s]++List.drop (i*1+1) (E.map D.str)=(E.set i s).map D.str:=by
 rw[Nat.mul_one,List.map_set,List.set_eq_take_append_cons_drop,if_pos (by simpa using h)]
 simp
theorem Zvn(n):KU [.str []] n=(List.replicate n []).map D.str:=by
 induction n with
 |zero=>rfl
 |succ n ih=>simp_all[KU,List.replicate_succ]
theorem ZgE{b c l S}(hb:S b=sO (.cells (l.map .str)))(hl:l.length≤1000000)(f p)(hf:∀x,VT ZEA f [.str x] S (.bool (p x)) S):
  ZK ZEA 216 [.msl b 0 l.length c 1,f] S (.int .i64 (Zg p l)) S:=by
 refine ZB (cR 216 f216) fun hwf F hret=>?_
 refine rg ?_
 refine rg ?_
 refine Zd (fr (l.length) (fun i Q=>i≤l.length→(∀j,j<i→p (l.getD j dE)=false)→Q [(0,.d (.msl b 0 l.length c 1)),(1,.d f),(7,.d (.int .i64 l.length)),(8,.d (.int .i64 i))] [] S) (fun n ih_key=>?_) fun key=>?_)
 ·intro i hn hi hno
  refine rg ?_
  refine Za (Zq rfl trivial (fun h1=>?_) (fun h1=>?_))
  ·simp at h1
   have hg:=Zsf h1
   have hg':(l.map D.str)[i*1]?=sO (.str (l.getD i [])):=by rw[Nat.mul_one];exact hg
   refine rg ?_
   refine rx (nd2 @hb (nd2 @hg @hg')) ?_
   refine aa ?_
   refine cW (hf _) ?_
   refine cd (fun h2=>?_) (fun h2=>?_)
   ·have e1:=KD h1 h2 hno
    rw[e1]at hret
    refine rg ?_
    exact hret rfl (by trivial) (ZEF _) (ZEB _)
   ·refine rg ?_
    refine aa ?_
    refine Zi ?_
    exact ih_key ((l.length)-(i+1)) (by omega) (i+1) rfl (by omega) (Ye (q:=fun j=>p (l.getD j dE)=false) hno h2)
  ·simp at h1
   obtain rfl:i=l.length:=by omega
   have hall:∀x∈l,p x=false:=fun x hx=>by
    obtain⟨j,hj,rfl⟩:=ZEV hx
    have:=hno j hj
    simpa[ZES,hj]using this
   rw[WC hall]at hret
   refine rg ?_
   exact hret rfl (by trivial) (ZEF _) (ZEB _)
 exact key _ 0 rfl (by omega) (by intro j hj;omega)
def QO(p:Str→Bool)(l:List Str):List Str:=l.filter fun x=>!p x
theorem Zv8(p l):(QO p l).length≤l.length:=List.length_filter_le ..
theorem Zhf{p}{l:List Str}{j}(h:j<l.length):QO p (l.take (j+1))=QO p (l.take j)++if p (l.getD j []) then [] else [l.getD j []]:=by
 rw[show l.getD j []=l.getD j dE from rfl,Yj h];unfold QO;rw[List.filter_append];congr 1
 simp only[List.filter_cons,List.filter_nil];cases p (l.getD j dE)<;>rfl
theorem ZkM{p}{l:List Str}{i}(h:∀j,j<i→p (l.getD j dE)=false)(hi:i≤l.length):QO p (l.take i)=l.take i:=by
 unfold QO
 rw[List.filter_eq_self]
 intro x hx
 obtain⟨j,hj,rfl⟩:=ZEV hx
 have h1:=h j (by rw[ZEU]at hj;omega)
 rw[ZEU]at hj
 simpa[ZES,show j<l.length by omega]using h1
theorem Zpa{p l}(h:∀x∈l,p x=false):QO p l=l:=by
 unfold QO;rw[List.filter_eq_self];intro x hx;rw[h x hx];rfl
theorem ZpZ{E:List Str}{k x}(h:k<E.length):(E.set k x).take (k+1)=E.take k++[x]:=by
 rw[List.set_eq_take_append_cons_drop,if_pos h,show E.take k++x::E.drop (k+1)=(E.take k++[x])++E.drop (k+1) by simp,List.take_left' (by simp;omega)]
theorem Zub{E:List Str}{k}(h:k≤E.length):Zu (E.map D.str) (k*1) (KU [.str []] (E.length-k))=((E.take k++List.replicate (E.length-k) []).map .str):=by
 unfold Zu
 rw[Nat.mul_one,Zvn,List.drop_eq_nil_of_le (by simp;omega)]
 simp
theorem Zf7{b c l S}(hb:S b=sO (.cells (l.map .str)))(hl:l.length≤1000000)(hc:l.length≤c)(f p)(hf:∀x T,VT ZEA f [.str x] T (.bool (p x)) T):
  Zb ZEA 169 [.msl b 0 l.length c 1,f] S fun r T=>r=.ret (.msl b 0 (QO p l).length c 1)∧T=S.upd b (.cells ((QO p l++List.replicate (l.length-(QO p l).length) []).map .str)):=by
 refine Zc (cR 169 f169) fun F hF=>?_
 have hix:=ZgE (c:=c) hb hl f p (fun x=>hf x S)
 refine rg ?_
 refine rg ?_
 refine ct (hix) ?_
 refine aa ?_
 refine rg ?_
 by_cases hneg:Zg p l<0
 ·have hm1:Zg p l=-1:=by have:=Jw p l;omega
  rw[hm1]
  refine i1 ?_
  refine rg ?_
  exact hF.ret _ _ rfl (by trivial) (ZEF _) (ZEB _) ⟨by rw[Zpa (ZbU hneg)];rfl,by rw[Zpa (ZbU hneg),Nat.sub_self,List.replicate_zero,ZFb];exact(St.upd_self hb).symm⟩
 ·obtain⟨q0,hq0⟩:∃q0:Nat,Zg p l=q0:=⟨(Zg p l).toNat,by omega⟩
  have hlt:=WM p l
  have hsp:=JX (p:=p) (l:=l) (by omega)
  rw[hq0]at hlt hsp⊢
  have hfst:=fun j hj=>hsp.2 j hj
  have hp0:=hsp.1
  simp only[Int.toNat_natCast]at hfst hp0
  have hq0l:q0<l.length:=by omega
  refine i0 ?_
  refine rg ?_
  refine aa ?_
  refine Zd (fr (l.length) (fun j Q=>j≤l.length→∀(k:Nat) (E:List Str),E.length=l.length→k<j→k=(QO p (l.take j)).length→E.take k=QO p (l.take j)→E.drop j=l.drop j→Q [(0,.d (.msl b 0 l.length c 1)),(1,.d f),(5,.d (.int .i64 k)),(6,.d (.int .i64 j))] [] (S.upd b (.cells (E.map .str)))) (fun n ih_key=>?_) fun key=>?_)
  ·intro j hn hj k E hE hkj hk htk hdr
   refine rg ?_
   refine cd (fun h1=>?_) (fun h1=>?_)
   ·have h1':j<l.length:=by simp at h1;omega
    have hx:E.getD j []=l.getD j []:=by
     have h2:(E.drop j)[0]?=(l.drop j)[0]?:=by rw[hdr]
     simpa[ZES]using congrArg (fun o=>o.getD []) h2
    have hg:(E.map D.str)[j*1]?=sO (.str (l.getD j [])):=by rw[Nat.mul_one,Zsf (by omega),hx]
    have hkn:=Zhf (p:=p) h1'
    have hdn:E.drop (j+1)=l.drop (j+1):=by rw[←List.drop_drop,hdr,List.drop_drop]
    generalize l.getD j []=x at *
    refine rx (nd2 @ZEI @hg) ?_
    refine aa ?_
    refine rg ?_
    refine cW (hf x _) ?_
    cases hpx:p x with
    |true =>
     rw[hpx,if_pos rfl,ZFb]at hkn
     refine i0 ?_
     refine rg ?_
     refine aa ?_
     refine Zi ?_
     exact ih_key ((l.length)-(j+1)) (by omega) (j+1) rfl (by omega) k E hE (by omega) (by rw[hkn];exact hk) (by rw[hkn];exact htk) hdn
    |false =>
     rw[hpx,if_neg (by simp)]at hkn
     have hset:=Zym (E:=E) (i:=k) (s:=x) (by omega)
     refine i1 ?_
     have hlE:(E.map D.str).length=l.length:=by rw[List.length_map];exact hE
     refine rx (nd2 @ZEI (nd2 @ZET (nd2 @hset @hlE))) ?_
     refine aa ?_
     refine rg ?_
     refine aa ?_
     refine rg ?_
     refine aa ?_
     rw[show(k:Int)+1=((k+1:Nat):Int) by omega]
     refine Zi ?_
     exact ih_key ((l.length)-(j+1)) (by omega) (j+1) rfl (by omega) (k+1) (E.set k x) (by rw[List.length_set];exact hE) (by omega) (by rw[hkn,ZEM,←hk];rfl) (by rw[hkn,←htk,ZpZ (by omega)]) (by rw[List.drop_set_of_lt (by omega)];exact hdn)
   ·have h1':j=l.length:=by simp at h1;omega
    subst h1'
    rw[ZFa]at hk htk
    have hcl:=Zub (E:=E) (k:=k) (by omega)
    have hlE:(E.map D.str).length=l.length:=by rw[List.length_map];exact hE
    rw[hE,htk]at hcl
    have hck:¬c=k:=by omega
    refine rg ?_
    refine⟨by omega,by omega,by omega,by omega,?_⟩
    rw[if_neg (by omega),show((l.length:Int)-k).toNat=l.length-k by omega,show((c:Int)-k).toNat=c-k by omega]
    refine Zk4 rfl rfl rfl trivial (cs:=E.map .str) (by simp[Z5,ZEI]) (by rw[hlE];omega) ?_
    rw[hcl,ZET]
    refine gR0 ?_
    refine rg ?_
    refine⟨by omega,by omega,by omega,by omega,?_⟩
    simp only[ite_self,if_pos]
    exact hF.ret _ _ rfl (by trivial) (ZEF _) (ZEB _) ⟨by rw[←hk];rfl,by rw[←hk]⟩
  have h0:=key _ (q0+1) rfl (by omega) q0 l rfl (by omega) (by rw[Zhf hq0l,show l.getD q0 []=l.getD q0 dE from rfl,hp0,if_pos rfl,ZFb,ZkM hfst (by omega),ZEU];omega) (by rw[Zhf hq0l,show l.getD q0 []=l.getD q0 dE from rfl,hp0,if_pos rfl,ZFb,ZkM hfst (by omega)]) rfl
  rw[St.upd_self hb]at h0
  exact h0
end Go.DL
namespace Go.Proofs
open Go.Shelf Go.RowKit
def Tryz.joinL_ren:Go.Shelf.Ren:=⟨fun|156=>168|165=>213|166=>214|169=>215|240=>236|241=>237|276=>247|277=>248|n=>n,fun|31=>242|9=>9|3=>3|4=>4|0=>0|20=>20|72=>277|76=>115|70=>275|37=>25|75=>114|127=>289|164=>315|5=>5|80=>279|n=>n,fun|n=>n⟩
theorem Tryz.joinL:Go.Proofs.Lays.n156 ZEA Tryz.joinL_ren:={
 mixed:=by kernel_rfl
 f156:=Tryz.func168.trans (congrArg sO (by kernel_rfl))
 f165:=Tryz.func213.trans (congrArg sO (by kernel_rfl))
 f166:=Tryz.func214.trans (congrArg sO (by kernel_rfl))
 f169:=Tryz.func215.trans (congrArg sO (by kernel_rfl))
 f240:=Tryz.func236.trans (congrArg sO (by kernel_rfl))
 f241:=Tryz.func237.trans (congrArg sO (by kernel_rfl))
 f276:=Tryz.func247.trans (congrArg sO (by kernel_rfl))
 f277:=Tryz.func248.trans (congrArg sO (by kernel_rfl))
 t0:=Tryz.underlying0
 a0:=Tryz.isAgg0
 z0:=Tryz.sizeOf0
 v0:=Tryz.zeroValue0
 t3:=Tryz.underlying3
 a3:=Tryz.isAgg3
 z3:=Tryz.sizeOf3
 v3:=Tryz.zeroValue3
 t4:=Tryz.underlying4
 a4:=Tryz.isAgg4
 z4:=Tryz.sizeOf4
 v4:=Tryz.zeroValue4
 t9:=Tryz.underlying9
 a9:=Tryz.isAgg9
 z9:=Tryz.sizeOf9
 v9:=Tryz.zeroValue9
 t20:=Tryz.underlying20
 a20:=Tryz.isAgg20
 z20:=Tryz.sizeOf20
 v20:=Tryz.zeroValue20
 t31:=Tryz.underlying242
 a31:=Tryz.isAgg242
 z31:=Tryz.sizeOf242
 v31:=Tryz.zeroValue242
 t37:=Tryz.underlying25
 a37:=Tryz.isAgg25
 z37:=Tryz.sizeOf25
 v37:=Tryz.zeroValue25
 t70:=Tryz.underlying275
 a70:=Tryz.isAgg275
 z70:=Tryz.sizeOf275
 v70:=Tryz.zeroValue275
 t72:=Tryz.underlying277
 a72:=Tryz.isAgg277
 z72:=Tryz.sizeOf277
 v72:=Tryz.zeroValue277
 t75:=Tryz.underlying114
 a75:=Tryz.isAgg114
 z75:=Tryz.sizeOf114
 v75:=Tryz.zeroValue114
 t76:=Tryz.underlying115
 a76:=Tryz.isAgg115
 z76:=Tryz.sizeOf115
 v76:=Tryz.zeroValue115
 t127:=Tryz.underlying289
 a127:=Tryz.isAgg289
 z127:=Tryz.sizeOf289
 v127:=Tryz.zeroValue289
 t164:=Tryz.underlying315
 a164:=Tryz.isAgg315
 z164:=Tryz.sizeOf315
 v164:=Tryz.zeroValue315 }
theorem Tryz.joinX:Builder.Extra ZEA Tryz.joinL_ren:={
 sizeBuilder:=by kernel_rfl
 liesBuilder:=by kernel_rfl
 t5:=Tryz.underlying5
 a5:=Tryz.isAgg5
 z5:=Tryz.sizeOf5
 v5:=Tryz.zeroValue5
 infoByte:=by kernel_rfl
 cellsByte:=by kernel_rfl
 sizeByte:=by kernel_rfl
 neB5:=by decide }
end Go.Proofs
namespace Go.DL
open Go Go.Proofs Go.Lib Go.RowKit
theorem ZyU{w:World}{b o v}(h:w.cell? ⟨b,o,nO⟩=sO v):b<w.heap.size:=by
 refine Nat.lt_of_not_le fun hle=>?_
 have hn:w.heap[b]?=nO:=Array.getElem?_eq_none hle
 simp[World.cell?,hn]at h
def joinL(l:List Str)(sep:Str):Str:=sep.intercalate l
theorem Zcd(l:List Str)(hn:l.length≤100000)(hj:(joinL l [46]).length≤100000000):Ze ZEA 168 [slD 1 Zbp l,.str [46]] (.str (joinL l [46])):=fun st=>by
 refine⟨⟨_,Tryz.func168,by kernel_rfl,by kernel_rfl⟩,fun g w vs hs ha=>?_⟩
 cases ha with
 |cons h1 ha =>
 cases ha with
 |cons h2 ha =>
 cases ha
 cases h2 with
 |str sep _ hsep hsb =>
 have hsep2:sep=⟨#[46]⟩:=by
  obtain⟨a⟩:=sep
  have:a.toList=[46]:=hsep
  have h2:a = #[46]:=by apply Array.ext';simpa using this
  rw[h2]
 subst hsep2
 unfold slD at h1
 have hgrow:∀w':World,Below w.heap.size w w'→JB g w g w':=fun w' hbel=>⟨hbel.size,fun c hc=>hbel.block c hc,fun _ _=>rfl,fun c hc=>(hs.fresh c (Nat.le_trans hbel.size hc)).1,rfl,hbel.os,hbel.output,hbel.tape⟩
 generalize hrow:(fun i=>Zbp (l.getD i dE))=row at h1
 generalize hln:l.length=n at h1
 cases h1 with
 |sl0 av _ _ _ ht =>
  obtain rfl:l=[]:=List.eq_nil_of_length_eq_zero hln
  refine(Any.strings_Join_none Tryz.joinL Tryz.joinX av 0 ⟨#[46]⟩ w).mono ?_
  rintro e w' ⟨rfl,rfl⟩
  exact⟨g,st,.ret (.str []),Ext.refl g _,hs,.str _ _ rfl (by simp[big]),rfl,rfl⟩
 |sl b o _ cap _ _ _ f hl hc hp hr one ht hcap hb =>
  subst hln
  subst hrow
  have hx:∀i (hi:i<l.length),∃x:ByteArray,f i 0=.string x∧x.data.toList=l[i]:=fun i hi=>by
   have:=hr i 0 (.str (l.getD i dE)) hi rfl
   generalize f i 0=v at this
   cases this with
   |str x _ h1 h2=>exact⟨x,rfl,by rw[h1];simp[ZES,hi]⟩
  have hxs:∃xs:List ByteArray,xs.length=l.length∧xs.map (·.data.toList)=l∧∀(j:Nat) x,xs[j]?=sO x→f j 0=.string x:=by
   refine⟨List.ofFn fun i:Fin l.length=>Classical.choose (hx i.1 i.2),by simp,?_,fun j x hj=>?_⟩
   ·apply List.ext_getElem
    ·simp
    ·intro i h1 h2
     simp at h1
     simp only[List.getElem_map,List.getElem_ofFn]
     exact(Classical.choose_spec (hx i h1)).2
   ·obtain⟨hj1,hj2⟩:=List.getElem?_eq_some_iff.1 hj
    simp only[List.length_ofFn]at hj1
    simp only[List.getElem_ofFn]at hj2
    rw[←hj2]
    exact(Classical.choose_spec (hx j hj1)).1
  obtain⟨xs,hx1,hx2,hx3⟩:=hxs
  have hbk:0<l.length→b<w.heap.size:=fun h0=>by
   have:=hc 0 0 h0 (by omega)
   exact ZyU this
  have hJ:(Lib.join (xs.map (·.data.toList)) (⟨#[46]⟩:ByteArray).data.toList)=joinL l [46]:=by rw[hx2];rfl
  have hfin:∀w',Below w.heap.size w w'→∃g' s' res,Ext g w g' w'∧Yb g' s' w'∧Rep g' w' (.string ⟨(joinL l [46]).toArray⟩) (.str (joinL l [46]))∧res=Res.ret (.str (joinL l [46]))∧s'=st:=fun w' hbel =>
   ⟨g,st,.ret (.str (joinL l [46])),(hgrow w' hbel).ext hs.fresh,hs.grow (hgrow w' hbel),.str _ _ (by simp) (by unfold big;omega),rfl,rfl⟩
  by_cases h0:l.length=0
  ·obtain rfl:l=[]:=List.eq_nil_of_length_eq_zero h0
   refine(Any.strings_Join_none Tryz.joinL Tryz.joinX (sO ⟨b,o,nO⟩) cap ⟨#[46]⟩ w).mono ?_
   rintro e w' ⟨rfl,rfl⟩
   exact⟨g,st,.ret (.str []),Ext.refl g _,hs,.str _ _ rfl (by simp[big]),rfl,rfl⟩
  ·have hcall:=Any.strings_Join Tryz.joinL Tryz.joinX b o cap xs ⟨#[46]⟩ w (fun j x hj=>by
     have hjl:j<l.length:=by rw[←hx1];exact(List.getElem?_eq_some_iff.1 hj).1
     have:=hc j 0 hjl (by omega)
     rw[hx3 j x hj]at this
     simpa using this) (hbk (by omega)) (by omega) (by omega) (by rw[hJ];omega)
   rw[hJ,hx1]at hcall
   refine hcall.mono ?_
   rintro e w' ⟨rfl,hbel⟩
   obtain⟨g',s',res,a1,a2,a3,a4,a5⟩:=hfin w' hbel
   exact⟨g',s',res,a1,a2,by rw[a4];exact a3,a4,a5⟩
end Go.DL
namespace Go.DL
open Go Go.Proofs
variable {kp:Option (List Nat)}{L:Loc}{ρ:Env}{s:St}{w:World}{os:List DOp}{ds:List D}{B:List (Nat × Rd)}{dst:Option Nat}{tmps:Array Value}{g:G}{Φ:Res→St→Prop}{ν:Nat→Nat}{xs:List Opd}{side:Prop}{row:Nat→List D}
theorem Zfw(s):Ze ZEA 170 [.str s] (.bool (dC (s=[]))):=by
 refine Zm (cR 170 f170) fun F st hret=>?_
 refine rg ?_
 refine rg ?_
 refine rb hret ?_
 rfl
theorem Zv9(a s)(hs:s≠[]):joinL (QO (fun x=>dC (x=[])) [a,s]) [46]=ZV a s:=by
 unfold QO joinL ZV
 by_cases ha:a=[]
 ·simp[ha,hs,List.intercalate]
 ·simp[ha,hs,List.intercalate]
theorem ZfZ(T):St.or (fun _=>nO) T=T:=by funext b;exact Zl rfl
theorem Zv7{b c}{C:List Str}{T}(hb:T b=sO (.cells (C.map .str)))(K)(hl:K.length≤2)(hC:K.length≤C.length)(hK:∀i,i<K.length→C.getD i []=K.getD i [])(hj:(joinL K [46]).length≤100000000):
  Zb ZEA 168 [.msl b 0 K.length c 1,.str [46]] T fun r S=>r=.ret (.str (joinL K [46]))∧S=T:=by
 have h:=Zb.lend (P:=ZEA) (Ln:=[b]) (t:=T) (fun x hx=>⟨C.map .str,by rw[List.mem_singleton.1 hx];exact hb⟩) (.cons (Ys.msl (row:=fun i=>Zbp (K.getD i dE)) (cap:=c) (sz:=1) (n:=K.length) (List.mem_singleton.2 rfl) hb (by simp;omega) ?_) (.cons (.refl (.str [46])) .nil)) (Zcd K (by omega) hj (fun _=>nO)) (fun r S hr=>?_)
 ·refine h.mono fun r S hS=>?_
  obtain⟨S',⟨hr,rfl⟩,_,rfl⟩:=hS
  exact⟨hr,ZfZ T⟩
 ·intro i hi
  have h1:((C.map D.str).drop (i*1)).take 1=Zbp (K.getD i dE):=by
   rw[Nat.mul_one,show K.getD i dE=C.getD i [] from(hK i hi).symm]
   rw[List.drop_eq_getElem_cons (by simp;omega)]
   simp[Zbp,ZES,show i<C.length by omega]
  rw[h1];exact .refl _
 ·obtain⟨rfl,rfl⟩:=hr
  exact⟨.str _,fun b o h=>by simp at h⟩
theorem ZpT{b a s S}(hb:S b=sO (.cells [.str a,.str s]))(hs:s≠[])(hl:a.length≤10000000)(hl2:s.length≤10000000):
  Zb ZEA 116 [.msl b 0 2 2 1] S fun r T=>r=.ret (.str (ZV a s))∧∃o,T=S.upd b o:=by
 refine Zc (cR 116 f116) fun F hF=>?_
 have hd:=Zf7 (c:=2) (l:=[a,s]) hb (by simp) (by simp) (.fn (.func 170) [] []) (fun x=>dC (x=[])) (fun x T=>(Zfw x).VT (first:=[]) (caps:=[]) T)
 have hkj:=Zv9 a s hs
 have hKl:(QO (fun x=>dC (x=[])) [a,s]).length≤2:=Zv8 _ _
 generalize QO (fun x=>dC (x=[])) [a,s]=K at *
 have hjl:(joinL K [46]).length≤100000000:=by
  rw[hkj];unfold ZV
  split
  ·omega
  ·simp only[ZEM,ZER,List.length_nil];omega
 refine rg ?_
 refine rg ?_
 refine cV (hd) ?_ ?_
 ·rintro dd T ⟨hr,rfl⟩
  cases hr
  refine gR0 ?_
  generalize hC:(K++List.replicate (2-K.length) [])=C at *
  have hKC:∀i,i<K.length→C.getD i []=K.getD i []:=fun i hi=>by rw[←hC];simp[ZES,ZE7 hi]
  have hCl:K.length≤C.length:=by rw[←hC];simp
  refine cV ((Zv7 (S.upd_same b _) K hKl hCl hKC hjl)) ?_ ?_
  ·rintro dv T hT
   obtain⟨hr,rfl⟩:=hT
   cases hr
   refine gR0 ?_
   rw[hkj]
   exact hF.ret _ _ rfl (by trivial) (ZEF _) (ZEB _) ⟨rfl,_,rfl⟩
  ·rintro v T ⟨hr,_⟩
   cases hr
 ·rintro v T ⟨hr,_⟩
  cases hr
def YK(l:List Fld):List D:=l.flatMap Fld.cells
theorem Zar(l):(YK l).length=l.length*15:=by
 unfold YK
 induction l with
 |nil=>rfl
 |cons f r ih=>rw[List.flatMap_cons,ZEM,ih,ZaV,ZER];omega
theorem Zg6{l i}(h:i<l.length)(X):part (YK l++X) (i*15) 15=(l.getD i dE).cells:=by
 have h1:l=l.take i++(l.getD i dE::l.drop (i+1)):=by
  conv=>lhs;rw[←List.take_append_drop i l]
  rw[List.drop_eq_getElem_cons h];simp[ZES,h]
 have h2:YK l++X=YK (l.take i)++((l.getD i dE).cells++(YK (l.drop (i+1))++X)):=by
  conv=>lhs;rw[h1]
  unfold YK;simp
 unfold part
 rw[h2,List.drop_left' (by rw[Zar,ZEU,Nat.min_eq_left (by omega)]),List.take_left' (ZaV _)]
theorem ZvY{l i}(h:i<l.length)(f X):Zu (YK l++X) (i*15) f.cells=YK (l.set i f)++X:=by
 have h1:l=l.take i++(l.getD i dE::l.drop (i+1)):=by
  conv=>lhs;rw[←List.take_append_drop i l]
  rw[List.drop_eq_getElem_cons h];simp[ZES,h]
 have h2:YK l++X=YK (l.take i)++((l.getD i dE).cells++(YK (l.drop (i+1))++X)):=by
  conv=>lhs;rw[h1]
  unfold YK;simp
 have hl:(YK (l.take i)).length=i*15:=by rw[Zar,ZEU,Nat.min_eq_left (by omega)]
 unfold Zu
 rw[h2,List.take_left' hl,←List.drop_drop,List.drop_left' hl,ZaV,List.drop_left' (ZaV _),List.set_eq_take_append_cons_drop,if_pos h]
 unfold YK;simp
theorem ZsB{l k m}(h:k≤l.length)(z X):∃Y,Zu (YK l++X) (k*15) (KU z m)=YK (l.take k)++Y:=by
 have h2:YK l++X=YK (l.take k)++(YK (l.drop k)++X):=by
  unfold YK;rw[←ZE9,←List.flatMap_append,List.take_append_drop]
 have hl:(YK (l.take k)).length=k*15:=by rw[Zar,ZEU,Nat.min_eq_left (by omega)]
 unfold Zu
 rw[h2,List.take_left' hl,ZE9]
 exact⟨_,rfl⟩
theorem Zuo(l):(ZEO l.length).flatMap (fun k=>(l.getD k dE).cells)=YK l:=by
 unfold YK
 have h:l.flatMap Fld.cells=((ZEO l.length).map fun k=>l.getD k dE).flatMap Fld.cells:=by
  congr 1
  refine List.ext_getElem (by simp) fun i h1 h2=>?_
  simp[ZES,h1]
 rw[h,List.flatMap_map]
theorem ZhV(l)(hl:l.length≤1000000)(hp:0<l.length)(st):Zb ZEA 99 [Zr l] st fun r S=>∃b c X,st b=nO∧l.length≤c∧r=.ret (.msl b 0 l.length c 15)∧S=st.upd b (.cells (YK l++X)):=by
 refine Zc (cR 99 f99) fun F hF=>?_
 have hfl:=Zuo l
 refine rx (nd2 @Zr.eq_1 @eQ1) ?_
 refine rg ?_
 refine aa ?_
 refine i0 ?_
 refine rg ?_
 refine Zs5 rfl rfl rfl rfl rfl rfl (by trivial) (by trivial) (by exact hp) (by omega) (by unfold big;omega) fun b bc hb hcb=>Zj ?_
 simp only[Eqs,reduceCtorEq,ZEG,reduceIte,ZED,ZEH,ZEE]
 rw[hfl]
 exact hF.ret _ _ rfl (by trivial) (ZEF _) (ZEB _) ⟨b,bc,_,hb,hcb,rfl,rfl⟩
def ZaG(p:Fld→Bool)(l:List Fld):List Fld:=l.filter fun x=>!p x
theorem Zhe{p}{l:List Fld}{j}(h:j<l.length):ZaG p (l.take (j+1))=ZaG p (l.take j)++if p (l.getD j dE) then [] else [l.getD j dE]:=by
 rw[Yj h];unfold ZaG;rw[List.filter_append];congr 1
 simp only[List.filter_cons,List.filter_nil];cases p (l.getD j dE)<;>rfl
theorem ZkL{p}{l:List Fld}{i}(h:∀j,j<i→p (l.getD j dE)=false)(hi:i≤l.length):ZaG p (l.take i)=l.take i:=by
 unfold ZaG
 rw[List.filter_eq_self]
 intro x hx
 obtain⟨j,hj,rfl⟩:=ZEV hx
 have h1:=h j (by rw[ZEU]at hj;omega)
 rw[ZEU]at hj
 simpa[ZES,show j<l.length by omega]using h1
theorem Zo9{p l}(h:∀x∈l,p x=false):ZaG p l=l:=by
 unfold ZaG;rw[List.filter_eq_self];intro x hx;rw[h x hx];rfl
theorem ZwR{E:List Fld}{k x}(h:k<E.length):(E.set k x).take (k+1)=E.take k++[x]:=by
 rw[List.set_eq_take_append_cons_drop,if_pos h,show E.take k++x::E.drop (k+1)=(E.take k++[x])++E.drop (k+1) by simp,List.take_left' (by simp;omega)]
theorem ZxG{b c l X T}(hb:T b=sO (.cells (YK l++X)))(hc:l.length≤c)(fid p)(hf:∀x,Ze ZEA fid [.agg x.cells] (.bool (p x))):
  Zb ZEA 154 [.msl b 0 l.length c 15,.fn (.func fid) [] []] T fun r S=>r=.ret (.int .i64 (Zg p l))∧S=T:=by
 have h:=Zb.lend (P:=ZEA) (Ln:=[b]) (t:=T) (fun x hx=>⟨YK l++X,by rw[List.mem_singleton.1 hx];exact hb⟩) (.cons (Ys.msl (row:=fun i=>(l.getD i dE).cells) (cap:=c) (sz:=15) (n:=l.length) (List.mem_singleton.2 rfl) hb (by rw[ZEM,Zar];omega) ?_) (.cons (.refl (.fn (.func fid) [] [])) .nil))
  (Qc l (.fn (.func fid) [] []) p (fun _ _=>nO) (fun i _=>(hf _).VT (first:=[]) (caps:=[]) _)) (fun r S hr=>?_)
 ·refine h.mono fun r S hS=>?_
  obtain⟨S',⟨hr,rfl⟩,_,rfl⟩:=hS
  exact⟨hr,ZfZ T⟩
 ·intro i hi
  rw[show((YK l++X).drop (i*15)).take 15=(l.getD i dE).cells from Zg6 hi X];exact .refl _
 ·obtain⟨rfl,rfl⟩:=hr
  exact⟨.int _ _,fun b o h=>by simp at h⟩
theorem ZeP{b c l X S}(hb:S b=sO (.cells (YK l++X)))(hl:l.length≤1000000)(hc:l.length≤c)(fid p)(hf:∀x,Ze ZEA fid [.agg x.cells] (.bool (p x))):
  Zb ZEA 98 [.msl b 0 l.length c 15,.fn (.func fid) [] []] S fun r T=>r=.ret (.msl b 0 (ZaG p l).length c 15)∧∃Y,T=S.upd b (.cells (YK (ZaG p l)++Y)):=by
 refine Zc (cR 98 f98) fun F hF=>?_
 have hix:=ZxG hb hc fid p hf
 refine rg ?_
 refine rg ?_
 refine cV (hix) ?_ ?_
 ·rintro dd T ⟨hr,hT⟩
  obtain rfl:=hT.symm
  cases hr
  refine gR0 ?_
  refine rg ?_
  by_cases hneg:Zg p l<0
  ·have hm1:Zg p l=-1:=by have:=Jw p l;omega
   rw[hm1]
   refine i1 ?_
   refine rg ?_
   exact hF.ret _ _ rfl (by trivial) (ZEF _) (ZEB _) ⟨by rw[Zo9 (ZbU hneg)];rfl,X,by rw[Zo9 (ZbU hneg)];exact(St.upd_self hb).symm⟩
  ·obtain⟨q0,hq0⟩:∃q0:Nat,Zg p l=q0:=⟨(Zg p l).toNat,by omega⟩
   have hlt:=WM p l
   have hsp:=JX (p:=p) (l:=l) (by omega)
   rw[hq0]at hlt hsp⊢
   have hfst:=fun j hj=>hsp.2 j hj
   have hp0:=hsp.1
   simp only[Int.toNat_natCast]at hfst hp0
   have hq0l:q0<l.length:=by omega
   refine i0 ?_
   refine rg ?_
   refine aa ?_
   refine Zd (fr (l.length) (fun j Q=>j≤l.length→∀(k:Nat) (E:List Fld),E.length=l.length→k<j→k=(ZaG p (l.take j)).length→E.take k=ZaG p (l.take j)→E.drop j=l.drop j→Q [(0,.d (.msl b 0 l.length c 15)),(1,.d (.fn (.func fid) [] [])),(5,.d (.int .i64 k)),(6,.d (.int .i64 j))] [] (S.upd b (.cells (YK E++X)))) (fun n ih_key=>?_) fun key=>?_)
   ·intro j hn hj k E hE hkj hk htk hdr
    refine rg ?_
    refine cd (fun h1=>?_) (fun h1=>?_)
    ·have h1':j<l.length:=by simp at h1;omega
     have hx:E.getD j dE=l.getD j dE:=by
      have h2:(E.drop j)[0]?=(l.drop j)[0]?:=by rw[hdr]
      simpa[ZES]using congrArg (fun o=>o.getD dE) h2
     have hlE:(YK E++X).length=l.length*15+X.length:=by rw[ZEM,Zar,hE]
     have hg:=Zg6 (l:=E) (i:=j) (by omega) X
     rw[hx]at hg
     unfold part at hg
     have hkn:=Zhe (p:=p) h1'
     have hdn:E.drop (j+1)=l.drop (j+1):=by rw[←List.drop_drop,hdr,List.drop_drop]
     generalize l.getD j dE=x at *
     refine rx (nd2 @ZEI (nd2 @hg (nd2 @hlE (nd2 @ZaV @ZeX)))) ?_
     refine aa ?_
     refine rx (nd2 @ZaV @ZeX) ?_
     refine aa ?_
     refine cl (hf x) ?_
     cases hpx:p x with
     |true =>
      rw[hpx,if_pos rfl,ZFb]at hkn
      refine i0 ?_
      refine rg ?_
      refine aa ?_
      refine Zi ?_
      exact ih_key ((l.length)-(j+1)) (by omega) (j+1) rfl (by omega) k E hE (by omega) (by rw[hkn];exact hk) (by rw[hkn];exact htk) hdn
     |false =>
      rw[hpx,if_neg (by simp)]at hkn
      have hset:=ZvY (l:=E) (i:=k) (by omega) x X
      unfold Zu at hset
      rw[ZaV]at hset
      refine i1 ?_
      refine rx (nd2 @ZEI (nd2 @ZET (nd2 @hlE (nd2 @ZaV @ZeX)))) ?_
      refine aa ?_
      rw[hset]
      refine rg ?_
      refine aa ?_
      refine rg ?_
      refine aa ?_
      rw[show(k:Int)+1=((k+1:Nat):Int) by omega]
      refine Zi ?_
      exact ih_key ((l.length)-(j+1)) (by omega) (j+1) rfl (by omega) (k+1) (E.set k x) (by rw[List.length_set];exact hE) (by omega) (by rw[hkn,ZEM,←hk];rfl) (by rw[hkn,←htk,ZwR (by omega)]) (by rw[List.drop_set_of_lt (by omega)];exact hdn)
    ·have h1':j=l.length:=by simp at h1;omega
     subst h1'
     rw[ZFa]at hk htk
     have hlE:(YK E++X).length=l.length*15+X.length:=by rw[ZEM,Zar,hE]
     refine rg ?_
     refine⟨by omega,by omega,by omega,by omega,?_⟩
     rw[if_neg (by omega),show((l.length:Int)-k).toNat=l.length-k by omega,show((c:Int)-k).toNat=c-k by omega]
     refine Zk4 rfl rfl rfl trivial (cs:=YK E++X) (by simp[Z5,ZEI]) (by rw[hlE];omega) ?_
     obtain⟨Y,hY⟩:=ZsB (l:=E) (k:=k) (m:=l.length-k) (by omega) [.str [],.int .i64 0,.int .i64 0,.bool false,.bool false,.int .i64 0,.int .i64 0,.int .i64 0,.nilsl,.str [],.str [],.str [],.nilsl,.int .i64 0,.int .i64 0] X
     rw[htk]at hY
     rw[hY,ZET]
     refine gR0 ?_
     refine rg ?_
     refine⟨by omega,by omega,by omega,by omega,?_⟩
     simp only[ite_self,if_pos]
     exact hF.ret _ _ rfl (by trivial) (ZEF _) (ZEB _) ⟨by rw[←hk];rfl,Y,rfl⟩
   have h0:=key _ (q0+1) rfl (by omega) q0 l rfl (by omega) (by rw[Zhe hq0l,hp0,if_pos rfl,ZFb,ZkL hfst (by omega),ZEU];omega) (by rw[Zhe hq0l,hp0,if_pos rfl,ZFb,ZkL hfst (by omega)]) rfl
   rw[St.upd_self hb]at h0
   exact h0
 ·rintro v T ⟨hr,_⟩
  cases hr
theorem Zky(f):Ze ZEA 100 [.agg f.cells] (.bool (!W7 f)):=by
 refine Zm (cR 100 f100) fun F st hret=>?_
 refine rx @eQ0 ?_
 refine rg ?_
 refine cl (Zc8 f) ?_
 refine rb hret ?_
 rfl
theorem ZxL(l):ZaG (fun f=>!W7 f) l=vfs l:=by unfold ZaG vfs;simp
theorem Zfz(m:Msg)(hp:0<m.fields.length)(hl:m.fields.length≤1000000):Ze ZEA 58 [.agg m.cells] (Zr (vfs m.fields)):=by
 refine Zm (cR 58 f58) fun F st hret=>?_
 refine rx @eQ2 ?_
 refine rg ?_
 refine cV ((ZhV m.fields hl hp st)) ?_ ?_
 ·rintro dd T ⟨b,c,X,hb,hc,hr,rfl⟩
  cases hr
  refine gR0 ?_
  refine cV ((ZeP (ZEI _ _ _) hl hc 100 (fun f=>!W7 f) Zky)) ?_ ?_
  ·rintro dd2 T2 ⟨hr,Y,rfl⟩
   cases hr
   refine gR0 ?_
   rw[ZxL,ZET]
   refine Zqt [b] (fun x hx=>⟨YK (vfs m.fields)++Y,by rw[List.mem_singleton.1 hx];exact ZEI _ _ _⟩) (ρ':=[(2,.d (Zr (vfs m.fields)))]) (L':=[]) (.cons (Ys.msl (row:=fun i=>((vfs m.fields).getD i dE).cells) (List.mem_singleton.2 rfl) (ZEI _ _ _) (by rw[ZEM,Zar];omega) fun i hi=>?_) .nil) .nil ?_
   ·rw[show((YK (vfs m.fields)++Y).drop (i*15)).take 15=((vfs m.fields).getD i dE).cells from Zg6 hi Y];exact .refl _
   refine hret rfl (by trivial) (ZEF _) (fun x o hx=>?_)
   have hxb:x≠b:=fun e=>by rw[e,hb]at hx;simp at hx
   simp only[St.delL,List.mem_singleton,hxb,if_false]
   rw[ZEJ _ _ hxb];exact hx
  ·rintro v T2 ⟨hr,_⟩
   cases hr
 ·rintro v T ⟨b,c,X,_,_,hr,_⟩
  cases hr
theorem ZlJ(f:Fld)(x:Val):Ze ZEA 102 [.agg f.cells,.agg x.cells] (.bool (dC (f.name=x.name))):=by
 refine Zm (cR 102 f102) fun F st hret=>?_
 rw[ZE0]
 refine rx @eQ0 ?_
 refine rg ?_
 refine rb hret ?_
 rfl
def Qn(l:List Fld)(ps:List Val):Bool:=dC (l.map (·.name)=ps.map Val.name)
theorem Zwh{l ps}(h:l.length≠ps.length):Qn l ps=false:=by
 unfold Qn
 rw[decide_eq_false_iff_not]
 intro he
 exact h (by simpa using congrArg List.length he)
theorem ZuH{l ps}(h:l.length=ps.length)(hn:∀j,j<l.length→(l.getD j dE).name=(ps.getD j dE).name):Qn l ps=true:=by
 unfold Qn
 rw[decide_eq_true_eq]
 refine List.ext_getElem (by simpa using h) fun i h1 h2=>?_
 have h3:=hn i (by simpa using h1)
 simp at h1 h2
 simpa[ZES,h1,h2]using h3
theorem ZuI{l ps j}(h:l.length=ps.length)(hj:j<l.length)(hn:dC ((l.getD j dE).name=(ps.getD j dE).name)=false):Qn l ps=false:=by
 unfold Qn
 rw[decide_eq_false_iff_not]at hn⊢
 intro he
 have h1:(l.map (·.name))[j]?=(ps.map Val.name)[j]?:=by rw[he]
 refine hn ?_
 simpa[ZES,hj,show j<ps.length by omega]using h1
theorem ZdQ(l ps):Ze ZEA 101 [Zr l,ZW ps,.fn (.func 102) [] []] (.bool (Qn l ps)):=by
 refine Wj (cR 101 f101) fun hwf F st hret=>?_
 have hw1:=(WJ (hwf (Zr l) (by simp))).1
 have hw2:=ZlW (hwf (ZW ps) (by simp))
 unfold big at hw1 hw2
 clear hwf
 refine rg ?_
 refine rx (nd2 @Zeu @Zct) ?_
 refine cd (fun hc=>?_) (fun hc=>?_)
 ·refine rg ?_
  refine rb hret ?_
  exact(Zwh (l:=l) (ps:=ps) (by simp at hc;omega)).symm
 ·have hlen:l.length=ps.length:=by simp at hc;omega
  refine rx (nd2 @Zeu @Zct) ?_
  refine Zd (fr (l.length) (fun i Q=>i≤l.length→(∀j,j<i→dC ((l.getD j dE).name=(ps.getD j dE).name)=true)→Q [(1,.d (ZW ps)),(2,.d (.fn (.func 102) [] [])),(15,.d (Zr l)),(16,.d (.int .i64 l.length)),(17,.d (.int .i64 i))] [] st) (fun n ih_key=>?_) fun key=>?_)
  ·intro i hn hi hno
   refine rg ?_
   refine Za (Zq rfl trivial (fun h1=>?_) (fun h1=>?_))
   ·simp at h1
    have hnm:=ZlJ (l.getD i dE) (ps.getD i dE)
    have hr:=QS (l:=ps) (i:=i) (by omega)
    rw[ZE0]at hnm
    refine rx (nd2 @atF (nd2 @ZaV @ZeX)) ?_
    refine aa ?_
    refine rx (nd2 @atV @hr) ?_
    refine aa ?_
    refine rx (nd2 @ZaV @ZeX) ?_
    refine cl (hnm) ?_
    cases hb:dC ((l.getD i dE).name=(ps.getD i dE).name) with
    |true =>
     refine i0 ?_
     refine rg ?_
     refine aa ?_
     refine Zi ?_
     exact ih_key ((l.length)-(i+1)) (by omega) (i+1) rfl (by omega) (Ye (q:=fun j=>dC ((l.getD j dE).name=(ps.getD j dE).name)=true) hno hb)
    |false =>
     refine i1 ?_
     refine rg ?_
     refine rb hret ?_
     exact(ZuI hlen h1 hb).symm
   ·simp at h1
    obtain rfl:i=l.length:=by omega
    refine rg ?_
    refine rb hret ?_
    exact(ZuH hlen fun j hj=>by simpa using hno j hj).symm
  exact key _ 0 rfl (by omega) (by intro j hj;omega)
theorem Zop(l ps):Ze ZEA 59 [Zr l,ZW ps] (.bool (Qn l ps)):=by
 refine Zm (cR 59 f59) fun F st hret=>?_
 refine rg ?_
 refine rg ?_
 refine cl (ZdQ l ps) ?_
 refine rb hret ?_
 rfl
theorem QV(d s)(h:0≤ZF d s d.msgs.length):Ze ZEA 28 [.agg d.cells,.str s] (.agg (d.msgs.getD (ixS d s) dE).cells):=by
 refine Zm (cR 28 f28) fun F st hret=>?_
 have hix:=Zc1 h
 generalize hm:d.msgs.getD (ixS d s) dE=m at *
 have hfi:Zg (fun x:Msg=>dC (x.name=s)) d.msgs=(ixS d s:Int):=by rw[←hix.1];unfold ZF;rw[ZFa]
 have hmx:max (ixS d s:Int) 0=ixS d s:=by omega
 refine rx @eQ3 ?_
 refine rg ?_
 refine cX (nd2 @hfi @hmx) (Zgx d s) ?_
 refine rx (nd2 @atM (nd2 @hm @eQ2)) ?_
 refine aa ?_
 refine ro hret ?_
 rfl
def Zb2(l:List Fld):Nat→List (Str×Int)
 |0=>[]
 |i+1=>if (l.getD i dE).kind=2 then Wg (l.getD i dE).name (l.getD i dE).low (Zb2 l i) else Zb2 l i
def ZcN(l:List Fld)(ps:List Val)(E:List (Str×Int)):Nat→List (Str×Int)
 |0=>E
 |i+1=>if Yv (l.getD i dE) then Wg (l.getD i dE).name (ps.getD i dE).int (ZcN l ps E i) else ZcN l ps E i
def ZcM(m:Msg)(ps:List Val):List (Str×Int):=ZcN (vfs m.fields) ps (Zb2 m.fields m.fields.length) (vfs m.fields).length
theorem Zjp(m)(hp:0<m.fields.length)(hl:m.fields.length≤1000)(ps)(hn:(vfs m.fields).length=ps.length)(st):
  Zb ZEA 67 [.agg m.cells,ZW ps] st fun r S=>∃b,st b=nO∧r=.ret (.map b)∧S=st.upd b (.map (Ki (ZcM m ps))):=by
 refine Zc (cR 67 f67) fun F hF=>?_
 have hvl:(vfs m.fields).length≤m.fields.length:=List.length_filter_le ..
 have hsh:=Zfz m hp (by omega)
 have hM:=ZcM.eq_1 m ps
 generalize vfs m.fields=vl at *
 refine rx @eQ2 ?_
 refine rg ?_
 intro b hb
 rw[show([]:List (D×D))=Ki (Zb2 m.fields 0) from rfl]
 refine rx @Zeu ?_
 refine Zd (fr (m.fields.length) (fun i Q=>i≤m.fields.length→Q [(1,.d (ZW ps)),(2,.loc 2 0),(5,.d (.map b)),(12,.d (Zr m.fields)),(13,.d (.int .i64 m.fields.length)),(14,.d (.int .i64 i))] [(2,[.str m.name,Zr m.fields])] (st.upd b (.map (Ki (Zb2 m.fields i))))) (fun n ih_key=>?_) fun key=>?_)
 ·intro i hn2 hi
  refine rg ?_
  refine Za (Zq rfl trivial (fun h1=>?_) (fun h1=>?_))
  ·simp at h1
   have hsn:=Zb2.eq_2 m.fields i
   generalize hf:m.fields.getD i dE=f at *
   refine rx (nd2 @atF (nd2 @hf @eQ0)) ?_
   refine aa ?_
   refine rg ?_
   refine cd (fun h2=>?_) (fun h2=>?_)
   ·rw[if_pos (by simpa using h2)]at hsn
    have e2:=ZaB (vD:=WZ) ZM f.name f.low (Zb2 m.fields i)
    have e3:=Wb ZM f.name
    simp only[show KK f.name=D.str f.name from rfl,show WZ f.low=.int .i64 f.low from rfl]at e2 e3
    refine rx (nd2 @ZEI (nd2 @ZET (nd2 @e2 @e3))) ?_
    refine aa ?_
    refine rg ?_
    refine aa ?_
    rw[←hsn]
    refine Zi ?_
    exact ih_key ((m.fields.length)-(i+1)) (by omega) (i+1) rfl (by omega)
   ·rw[if_neg (by simpa using h2)]at hsn
    refine rg ?_
    refine aa ?_
    rw[←hsn]
    refine Zi ?_
    exact ih_key ((m.fields.length)-(i+1)) (by omega) (i+1) rfl (by omega)
  ·simp at h1
   obtain rfl:i=m.fields.length:=by omega
   generalize Zb2 m.fields m.fields.length=E0 at *
   refine rg ?_
   refine cX @Zeu (hsh) ?_
   refine Zd (fr (vl.length) (fun k Q=>k≤vl.length→Q [(1,.d (ZW ps)),(5,.d (.map b)),(28,.d (Zr vl)),(29,.d (.int .i64 vl.length)),(30,.d (.int .i64 k))] [] (st.upd b (.map (Ki (ZcN vl ps E0 k))))) (fun n ih_key2=>?_) fun key2=>?_)
   ·intro k hn3 hk
    refine rg ?_
    refine Za (Zq rfl trivial (fun h3=>?_) (fun h3=>?_))
    ·simp at h3
     have hsn:=ZcN.eq_2 vl ps E0 k
     have hrow:=QS (l:=ps) (i:=k) (by omega)
     generalize hf:vl.getD k dE=f at *
     generalize hg:ps.getD k dE=g at *
     refine rx (nd2 @atF (nd2 @hf (nd2 @ZaV @ZeX))) ?_
     refine aa ?_
     refine rx (nd2 @ZaV @ZeX) ?_
     refine cl (ZeJ f) ?_
     refine cd (fun h4=>?_) (fun h4=>?_)
     ·rw[if_pos h4]at hsn
      have e2:=ZaB (vD:=WZ) ZM f.name g.int (ZcN vl ps E0 k)
      have e3:=Wb ZM f.name
      simp only[show KK f.name=D.str f.name from rfl,show WZ g.int=.int .i64 g.int from rfl]at e2 e3
      refine rx (nd2 @eQ0 (nd2 @atV (nd2 @hrow (nd2 @ZEI (nd2 @ZET (nd2 @e2 @e3)))))) ?_
      refine aa ?_
      refine rg ?_
      refine aa ?_
      rw[←hsn]
      refine Zi ?_
      exact ih_key2 ((vl.length)-(k+1)) (by omega) (k+1) rfl (by omega)
     ·rw[if_neg (by simpa using h4)]at hsn
      refine rg ?_
      refine aa ?_
      rw[←hsn]
      refine Zi ?_
      exact ih_key2 ((vl.length)-(k+1)) (by omega) (k+1) rfl (by omega)
    ·simp at h3
     obtain rfl:k=vl.length:=by omega
     rw[←hM]
     refine rg ?_
     exact hF.ret _ _ rfl (by trivial) (ZEF _) (ZEB _) ⟨b,hb,rfl,rfl⟩
   exact key2 _ 0 rfl (by omega)
 exact key _ 0 rfl (by omega)
theorem Znl(n):Ze ZEA 104 [.int .i64 n] (.bool (dC (0≤n)&&dC (n<34359738368))):=by
 refine Zm (cR 104 f104) fun F st hret=>?_
 refine rg ?_
 refine rg ?_
 refine rb hret ?_
 rfl
def ckI(st:St)(b5 b6 b7 b8 b9 b:Nat):St :=
 ((((st.upd b5 (.cells [.str []])).upd b6 (.cells [.map b])).upd b7 (.cells [.fn (.func 104) [] []])).upd b8 (.cells [.int .i64 0])).upd b9 (.cells [.bool false])
section
variable {st:St} {b5 b6 b7 b8 b9 b:Nat}
theorem Wl.i5(h:Wl st b5 b6 b7 b8 b9):(ckI st b5 b6 b7 b8 b9 b) b5=sO (.cells [.str []]):=by
 simp[ckI,ZFc,h.n6.1.symm,h.n7.2.1.symm,h.n8.2.2.1.symm,h.n9.2.2.2.1.symm]
theorem Wl.i6(h:Wl st b5 b6 b7 b8 b9):(ckI st b5 b6 b7 b8 b9 b) b6=sO (.cells [.map b]):=by
 simp[ckI,ZFc,h.n7.1.symm,h.n8.2.1.symm,h.n9.2.2.1.symm]
theorem Wl.i7(h:Wl st b5 b6 b7 b8 b9):(ckI st b5 b6 b7 b8 b9 b) b7=sO (.cells [.fn (.func 104) [] []]):=by
 simp[ckI,ZFc,h.n8.1.symm,h.n9.2.1.symm]
theorem Wl.i8(h:Wl st b5 b6 b7 b8 b9):(ckI st b5 b6 b7 b8 b9 b) b8=sO (.cells [.int .i64 0]):=by
 simp[ckI,ZFc,h.n9.1.symm]
theorem Wl.i9:(ckI st b5 b6 b7 b8 b9 b) b9=sO (.cells [.bool false]):=by
 simp[ckI,ZFc]
theorem Wl.im(h:Wl st b5 b6 b7 b8 b9){o}(hb:st b=sO o):(ckI st b5 b6 b7 b8 b9 b) b=sO o:=by
 have h5:b≠b5:=fun e=>by rw[e,h.n5]at hb;simp at hb
 have h6:b≠b6:=fun e=>by rw[e,h.n6.2]at hb;simp at hb
 have h7:b≠b7:=fun e=>by rw[e,h.n7.2.2]at hb;simp at hb
 have h8:b≠b8:=fun e=>by rw[e,h.n8.2.2.2]at hb;simp at hb
 have h9:b≠b9:=fun e=>by rw[e,h.n9.2.2.2.2]at hb;simp at hb
 simp[ckI,ZFc,h5,h6,h7,h8,h9,hb]
theorem Wl.isub(h:Wl st b5 b6 b7 b8 b9):st.sub (ckI st b5 b6 b7 b8 b9 b):=fun c o hc=>by
 have h5:c≠b5:=fun e=>by rw[e,h.n5]at hc;simp at hc
 have h6:c≠b6:=fun e=>by rw[e,h.n6.2]at hc;simp at hc
 have h7:c≠b7:=fun e=>by rw[e,h.n7.2.2]at hc;simp at hc
 have h8:c≠b8:=fun e=>by rw[e,h.n8.2.2.2]at hc;simp at hc
 have h9:c≠b9:=fun e=>by rw[e,h.n9.2.2.2.2]at hc;simp at hc
 simp[ckI,ZFc,h5,h6,h7,h8,h9,hc]
theorem ZyX(h:Wl st b5 b6 b7 b8 b9){ρ L}(hρ:ZH ρ 8=sO (.d (.ptr b8 0)):=by rfl):
  Yk ρ L (ckI st b5 b6 b7 b8 b9 b) [.cell1 8]=sO (True∧True,[.int .i64 0]):=by
 simp[Yk,WF,hρ,YS,Z5,h.i8]
end
theorem ZlL(s)(hv:Z1 s=true)(b l st)(hb:st b=sO (.map (Ki l)))(hk:∀t∈s.terms,∃v,Zp t.field l=sO v∧0≤v∧v<34359738368):
  Zb ZEA 103 [.agg s.cells,.str [],.map b,.fn (.func 104) [] []] st (fun r S=>r=.ret (.int .i64 0)∧S=st):=by
 refine Zc (cR 103 f103) fun F hF=>?_
 refine rx @eQ4 ?_
 refine rx @eQ4 ?_
 refine cl (Zbe s) ?_
 rw[hv]
 refine i0 ?_
 refine rg ?_
 refine Za (Za ?_)
 refine xP 5 fun b5 h5=>?_
 refine xP 6 fun b6 h6=>?_
 refine xP 7 fun b7 h7=>?_
 refine xP 8 fun b8 h8=>?_
 refine xP 9 fun b9 h9=>?_
 refine rx @eQ4 ?_
 refine cV (Zdm s hv _) ?_ ?_
 ·rintro d S ⟨x,hx,hd,rfl⟩
  cases hd
  refine gR0 ?_
  refine Zd ?_
  have hck:Wl st b5 b6 b7 b8 b9:=by
   have k6:=Zn h6
   have k7:=Zn h7
   have k7a:=Zn k7.2
   have k8:=Zn h8
   have k8a:=Zn k8.2
   have k8b:=Zn k8a.2
   have k9:=Zn h9
   have k9a:=Zn k9.2
   have k9b:=Zn k9a.2
   have k9c:=Zn k9b.2
   exact⟨h5,k6,⟨k7.1,k7a⟩,⟨k8.1,k8a.1,k8b⟩,⟨k9.1,k9a.1,k9b.1,k9c⟩⟩
  have hfew:=JT hv
  rw[show(((((st.upd b5 (.cells [.str []])).upd b6 (.cells [.map b])).upd b7 (.cells [.fn (.func 104) [] []])).upd b8 (.cells [.int .i64 0])).upd b9 (.cells [.bool false]))=ckI st b5 b6 b7 b8 b9 b from rfl]at hx⊢
  refine WS hF rfl trivial [5,6,7,8,9] (by show([5,6,7,8,9]:List Nat).Nodup;decide) (WX hx) (Zcb s.terms (by unfold big;omega) x).Y (fun j hj=>rfl)
   (fun j=>.next) (fun j a=>a=ckI st b5 b6 b7 b8 b9 b) rfl ?_ ?_ ?_ ?_ ?_ ?_
  ·intro j a hj hno hB F' ready busy hdr hbeg hend
   subst hB
   simp only[Eqs,reduceCtorEq,ZEG,reduceIte,ZED,ZEH,ZEE,YZ,Wc,KO,WE,List.isEmpty_nil,List.isEmpty_cons]
   refine rg ?_
   refine hbeg fun hdb=>?_
   have hje:(s.terms.getD j dE).field≠[]:=ZjE hv hj
   obtain⟨v,hg,h0,h1⟩:=hk _ (ZA hj)
   generalize htm:s.terms.getD j dE=tm at *
   have e1:=YO (vD:=WZ) ZM tm.field l
   have e3:=Wb ZM tm.field
   simp only[show KK tm.field=D.str tm.field from rfl]at e1 e3
   rw[hg]at e1
   have hi8:(ckI st b5 b6 b7 b8 b9 b).upd b8 (.cells [.int .i64 0])=ckI st b5 b6 b7 b8 b9 b:=St.upd_self hck.i8
   refine rh ?_
   refine Zj ?_
   simp only[Eqs,reduceCtorEq,ZEG,reduceIte,ZED,ZEH,ZEE,Zh (hck.i6 ),Zh (hck.im hb),e1,e3]
   refine rh ?_
   refine Zj ?_
   simp only[Eqs,reduceCtorEq,ZEG,reduceIte,ZED,ZEH,ZEE,Zh (hck.i5 )]
   refine Zq rfl trivial (fun h=>by simp at h;exact absurd h hje) (fun _=>?_)
   refine rg ?_
   refine i0 ?_
   rw[show WZ v=.int .i64 v from rfl]
   refine rh ?_
   refine Zj ?_
   simp only[Eqs,reduceCtorEq,ZEG,reduceIte,ZED,ZEH,ZEE,Zh (hck.i7 )]
   refine cl (Znl v) ?_
   refine Zq rfl trivial (fun h=>by simp at h;omega) (fun _=>?_)
   refine ZD (Zo (Zo ?_))
   exact hend.fin ⟨rfl,rfl⟩ hdb (ZEB _)
  ·intro q a hno hB hq
   subst hB
   rw[Wu hq]
   have hdq:=WX (o:=W4.dfr) hq
   have hi8:(ckI st b5 b6 b7 b8 b9 b).upd b8 (.cells [.int .i64 0])=ckI st b5 b6 b7 b8 b9 b:=St.upd_self hck.i8
   refine rh ?_
   refine Zj ?_
   simp only[Eqs,reduceCtorEq,ZEG,reduceIte,ZED,ZEH,ZEE,Zh (Wl.i9 )]
   refine i0 ?_
   refine rh ?_
   refine Zj ?_
   simp only[Eqs,reduceCtorEq,ZEG,reduceIte,ZED,ZEH,ZEE,Zh (hck.i8 ),Yq,hi8]
   exact hF.ret1 (Ziq hdq (Z4 _ _)) (.int .i64 0) st (ZyX hck) ⟨trivial,trivial⟩ (ZEF _) hck.isub ⟨rfl,rfl⟩
  ·intro q a m hm hno hgo
   simp at hgo
  ·intro q a m id hm hno hgo
   simp at hgo
  ·intro q a m d hm hno hgo
   simp at hgo
  ·intro m c hgo
   simp at hgo
 ·rintro d S ⟨x,hx,hd,rfl⟩
  cases hd
theorem Zos(t:Yp){b z l st}(hb:st b=sO (.map (Ki l)))(hz:st z=sO (.cells [.map b])):
  ZK ZEA 217 [.agg t.cells,.ptr z 0] st (.int .i64 ((Zp t.field l).getD 0)) st:=by
 refine ZB (cR 217 f217) fun hwf F hret=>?_
 clear hwf
 have e1:=YO (vD:=WZ) ZM t.field l
 have e3:=Wb ZM t.field
 simp only[show KK t.field=D.str t.field from rfl]at e1 e3
 refine rx @Yp.cells.eq_1 ?_
 refine rx (nd2 @hb (nd2 @hz (nd2 @e1 (nd2 @e3 @Zgr)))) ?_
 exact hret rfl (by trivial) (ZEF _) (ZEB _)
def J8(s:Zbh)(l:List (Str×Int)):Int:=s.base+K0 (fun t=>(Zp t.field l).getD 0) s.terms
theorem Zr7(s)(hv:Z1 s=true)(b l st)(hb:st b=sO (.map (Ki l)))(hk:∀t∈s.terms,∃v,Zp t.field l=sO v∧0≤v∧v<34359738368):
  Zb ZEA 171 [.agg s.cells,.map b] st (fun r S=>r=.ret (.tup [.int .i64 (J8 s l),.int .i64 0])∧S=st):=by
 refine Zc (cR 171 f171) fun F hF=>?_
 have hE:=J8.eq_1 s l
 have hbd:∀t∈s.terms,0≤(Zp t.field l).getD 0∧(Zp t.field l).getD 0<34359738368:=fun t ht=>by
  obtain⟨v,h1,h2,h3⟩:=hk t ht
  rw[h1];exact⟨h2,h3⟩
 refine rx @eQ4 ?_
 refine rx @eQ4 ?_
 refine cV (ZlL s hv b l st hb hk) ?_ ?_
 ·rintro d S ⟨hd,hS⟩
  obtain rfl:=hS.symm
  cases hd
  refine gR0 ?_
  refine rg ?_
  refine i0 ?_
  refine ZD (Za ?_)
  refine xP 3 fun z hz=>?_
  have hbz:b≠z:=fun e=>by rw[e,hz]at hb;simp at hb
  refine rx @eQ4 ?_
  refine Zah rfl rfl rfl rfl rfl (by trivial) (by trivial) (by exact ZgB s hv _ (fun t=>(Zp t.field l).getD 0) _ hbd (fun t ht=>(Zos t (by rw[ZEJ _ _ hbz];exact hb) (ZEI _ _ _)).VT (first:=[]) (args:=[_]) (caps:=[_]))) (Zj ?_)
  simp only[Eqs,reduceCtorEq,ZEG,reduceIte,ZED,ZEH,ZEE]
  exact hF.ret _ _ rfl (by trivial) (Jd (by rw[hE]) rfl) (ZEZ _ hz) ⟨rfl,rfl⟩
 ·rintro d S ⟨hd,_⟩
  cases hd
def WI(m:Msg)(d:Dfn)(path:Str)(b:Nat):List D:=[.str m.name,Zr m.fields,.str d.name,Wh d.msgs,.str d.start,.str path,.map b]
theorem J4(m d path)(f:Fld)(hv:Z1 f.size=true)(b l st)(hb:st b=sO (.map (Ki l)))(hk:∀t∈f.size.terms,∃v,Zp t.field l=sO v∧0≤v∧v<34359738368):
  Zb ZEA 121 [.agg (WI m d path b),.agg f.cells] st (fun r S=>r=.ret (.int .i64 (J8 f.size l))∧S=st):=by
 refine Zc (cR 121 f121) fun F hF=>?_
 have hE:=Zr7 f.size hv b l st hb hk
 refine rx (nd2 @eQ0 @WI.eq_1) ?_
 refine rg ?_
 refine cV (hE) ?_ ?_
 ·rintro dd S ⟨hd,hS⟩
  obtain rfl:=hS.symm
  cases hd
  refine gR0 ?_
  refine rg ?_
  exact hF.ret _ _ rfl (by trivial) (ZEF _) (ZEB _) ⟨rfl,rfl⟩
 ·rintro dd S ⟨hd,_⟩
  cases hd
theorem Zke{v of}(hv:0≤v)(ho:1≤of):(v≤upS v of∧upS v of<v+of)∧upS v of % of=0∧((v+of)-1).tdiv of≤upS v of∧0≤((v+of)-1).tdiv of:=by
 unfold upS
 have e:((v+of)-1).tdiv of=(v+of-1) / of:=Int.tdiv_eq_ediv_of_nonneg (by omega)
 rw[e]
 have h1:=Int.emod_add_mul_ediv (v+of-1) of
 have h2:=Int.emod_nonneg (v+of-1) (show of≠0 by omega)
 have h3:=Int.emod_lt_of_pos (v+of-1) (show 0<of by omega)
 have h5:0≤(v+of-1) / of:=Int.ediv_nonneg (by omega) (by omega)
 have h4:(v+of-1) / of≤(v+of-1) / of*of:=by have:=Int.mul_le_mul_of_nonneg_left ho h5;rwa [Int.mul_one]at this
 have h6:(v+of-1) / of*of % of=0:=Int.mul_emod_left _ _
 rw[Int.mul_comm]at h1
 generalize (v+of-1) / of*of=x at *
 exact⟨by omega,h6,h4,h5⟩
theorem ZqD{v of}(hv:0≤v∧v≤400000000)(ho:1≤of∧of≤1000):Ze ZEA 94 [.int .i64 v,.int .i64 of] (.int .i64 (upS v of)):=by
 obtain⟨hb,_,hb2,hb3⟩:=Zke hv.1 ho.1
 have he:((v+of)-1).tdiv of*of=upS v of:=rfl
 refine Zm (cR 94 f94) fun F st hret=>?_
 refine rg ?_
 refine rg ?_
 generalize ((v+of)-1).tdiv of=q at *
 rw[he]
 generalize upS v of=u at *
 refine aa ?_
 refine ri hret ?_
 rfl
def Zhn(n:Int):Bool:=(dC (n=2) ||decide (n=4)) ||(dC (8≤n)&&dC (n≤512)&&dC (n.tmod 8=0))
theorem Zlb{n v}(hn:Zhn n=true)(hv:0≤v∧v≤335544320):Ze ZEA 54 [.int .i64 n,.int .i64 v] (.tup [.int .i64 (upS v n-v),.int .i64 0]):=by
 have hb:1≤n∧n≤1000:=by
  unfold Zhn at hn
  simp only[ZEY,ZEK,decide_eq_true_eq]at hn
  omega
 have hU:=Zke hv.1 hb.1
 have hup:=ZqD (v:=v) (of:=n) ⟨by omega,by omega⟩ hb
 have hP:=Zhn.eq_1 n
 have ht:n.tmod 8=n % 8:=Int.tmod_eq_emod_of_nonneg (by omega)
 rw[hn]at hP
 refine Zm (cR 54 f54) fun F st hret=>?_
 refine rg ?_
 refine rg ?_
 refine⟨fun _=>⟨by decide,by rw[ht];omega,by rw[ht];omega⟩,?_⟩
 rw[←hP]
 refine rg ?_
 have hd:(dC (v<0) ||decide (335544320<v))=false:=by simp;omega
 refine Zq rfl trivial (fun h=>by simp at h;omega) (fun _=>?_)
 refine rg ?_
 refine cl (hup) ?_
 generalize upS v n=u at *
 refine aa ?_
 refine rt hret ?_
 rfl
def Zqe:List D:=[.int .i64 16,.int .i64 0,.int .i64 0,.int .i64 0,.fn (.func 189) [] [],.fn (.func 190) [] [],.int .i64 16,.int .i64 65535,.int .i64 0,.int .i64 0,.fn (.func 191) [] [],.fn (.func 192) [] [],.int .i64 32,.int .i64 1,.int .i64 0,.int .i64 0,.fn (.func 193) [] [],.fn (.func 194) [] []]
theorem Zej:Ze ZEA 150 [] (.agg Zqe):=by
 refine Zm (cR 150 f150) fun F st hret=>?_
 refine rg ?_
 refine rg ?_
 exact hret rfl (by trivial) (ZEF _) (ZEB _)
def JQ(n:Int):Int:=if n=3 then 32 else 16
theorem ZxQ{n}(h:n=1∨n=2∨n=3):∃a b c f g,part Zqe ((n-1).toNat*6) 6=[.int .i64 (JQ n),a,b,c,f,g]:=by
 rcases h with rfl|rfl|rfl<;>exact⟨_,_,_,_,_,rfl⟩
theorem Zsx{n}(h:n=1∨n=2∨n=3){a b c f g}(hp:part Zqe ((n-1).toNat*6) 6=[.int .i64 (JQ n),a,b,c,f,g]):Ze ZEA 95 [.int .i64 n] (.tup [.agg [.int .i64 (JQ n),a,b,c,f,g],.bool true]):=by
 refine Zm (cR 95 f95) fun F st hret=>?_
 unfold part at hp
 have hl:Zqe.length=18:=rfl
 refine rg ?_
 refine rg ?_
 refine cG (Zej) ?_
 refine Zq rfl trivial (fun h=>by simp at h;omega) (fun _=>?_)
 refine rg ?_
 refine cX (nd2 @hp @hl) (Zej) ?_
 refine aa ?_
 refine rt hret ?_
 rfl
theorem ZpI{n}(h:n=1∨n=2∨n=3):Ze ZEA 55 [.int .i64 n] (.tup [.int .i64 (JQ n),.int .i64 0]):=by
 obtain⟨a,b,c,f,g,hp⟩:=ZxQ h
 have hc:=Zsx h hp
 refine Zm (cR 55 f55) fun F st hret=>?_
 refine rg ?_
 refine rg ?_
 refine cl (hc) ?_
 refine rg ?_
 refine i0 ?_
 refine rg ?_
 refine rt hret ?_
 rfl
def Wi(v i:Nat):Nat:=v / 128 ^ i
theorem Zb4(v i):Wi v (i+1)=Wi v i / 128:=by unfold Wi;rw[Nat.pow_succ,Nat.div_div_eq_div_mul]
def ZjZ(v k:Nat):UInt8:=UInt8.ofNat (Wi v k % 128+128)
def ZmG(v k:Nat):UInt8:=UInt8.ofNat (Wi v k % 128)
def ZlC(v i:Nat):Str:=(ZEO i).map (ZjZ v)
theorem Zws(v i):ZlC v (i+1)=ZlC v i++[ZjZ v i]:=by unfold ZlC;rw[List.range_succ,List.map_append];rfl
theorem ZeE(v i):(ZlC v i).length=i:=by simp[ZlC]
def Qm(v i:Nat):Str:=ZlC v i++[ZmG v i]
def Yt(v:Nat):Nat:=if Wi v 0<128 then 0 else if Wi v 1<128 then 1 else if Wi v 2<128 then 2 else if Wi v 3<128 then 3 else 4
theorem Zn4{v}(hv:v<34359738368):Yt v≤4∧(Wi v 0<128↔Yt v≤0)∧(Wi v 1<128↔Yt v≤1)∧(Wi v 2<128↔Yt v≤2)∧(Wi v 3<128↔Yt v≤3)∧Wi v 4<128:=by
 have e0:Wi v 0=v:=by simp[Wi]
 have e1:=Zb4 v 0
 have e2:=Zb4 v 1
 have e3:=Zb4 v 2
 have e4:=Zb4 v 3
 have hg:=Yt.eq_1 v
 generalize Yt v=g at *
 generalize Wi v 0=r0 at *
 generalize Wi v 1=r1 at *
 generalize Wi v 2=r2 at *
 generalize Wi v 3=r3 at *
 generalize hr4:Wi v 4=r4 at *
 have key:g≤4∧(r0<128↔g≤0)∧(r1<128↔g≤1)∧(r2<128↔g≤2)∧(r3<128↔g≤3)∧r4<128:=by
  repeat' (split at hg)
  all_goals omega
 exact key
theorem ZxB{v}(hv:v<34359738368){i}(hi:i<5):Wi v i<128↔Yt v≤i:=by
 obtain⟨h,h0,h1,h2,h3,h4⟩:=Zn4 hv
 have h5:i=0∨i=1∨i=2∨i=3∨i=4:=by omega
 rcases h5 with rfl|rfl|rfl|rfl|rfl
 ·exact h0
 ·exact h1
 ·exact h2
 ·exact h3
 ·exact⟨fun _=>h,fun _=>h4⟩
theorem ZkA(n):Ze ZEA 196 [.int .i64 n] (.bool (dC (0≤n)&&dC (n<34359738368))):=by
 refine Zm (cR 196 f196) fun F st hret=>?_
 refine rg ?_
 refine rg ?_
 refine rb hret ?_
 rfl
theorem Zod{a T:St}{tk k}(h:∀b,tk=.tip b→a b=nO):(a.or T).own tk k=a.or (T.own tk k):=by
 cases tk with
 |tip b=>exact Jn (h b rfl)
 |_=>rfl
theorem ZnH{v}(st):Zb ZEA 151 [.int .i64 v] st fun r S=>∃x,st x=nO∧r=.ret (.fn (.func 195) [] [.ptr x 0])∧S=st.or (ZEX x (.cells [.int .i64 v])):=by
 refine Zc (cR 151 f151) fun F hF=>?_
 refine rg ?_
 refine Za ?_
 refine xP 1 fun x hx=>?_
 refine rg ?_
 exact hF.ret _ _ rfl (by trivial) (ZEF _) (ZEB _) ⟨x,hx,rfl,Wu hx⟩
theorem u8n{n}(h:n<256):(UInt8.ofNat n).toNat=n:=by rw[UInt8.toNat_ofNat'];omega
theorem ZtK{n}(h:0≤n∧n≤255):IntKind.u8.wrap n=n:=by
 unfold IntKind.wrap
 simp[IntKind.bits,IntKind.signed]
 omega
theorem Zkz{v}(hv:v<34359738368)(x):Zai ZEA (.fn (.func 195) [] [.ptr x 0]) (5-Yt v) (fun j=>[ZL (Qm v (Yt v+j))]) (ZEX x (.cells [.int .i64 v])):=by
 intro y go A a0 hcons hA hd
 obtain⟨hg4,-⟩:=Zn4 hv
 refine Zb.V (first:=[]) (args:=[y]) (caps:=[.ptr x 0]) (Zc (cR 195 f195) fun F hF=>?_)
 have hx:∀a T,ZJ a T→T x=sO (.cells [.int .i64 (v:Int)])→(a.or T) x=sO (.cells [.int .i64 (v:Int)]):=fun a T hda hT=>by rw[Zl (hda x _ hT)];exact hT
 have hTx:(ZEX x (.cells [.int .i64 (v:Int)])) x=sO (.cells [.int .i64 (v:Int)]):=Z4 _ _
 generalize hT:ZEX x (.cells [.int .i64 (v:Int)])=T at *
 refine rg ?_
 refine rh ?_
 refine Zj ?_
 simp only[Eqs,reduceCtorEq,ZEG,reduceIte,ZED,ZEH,ZEE,hx a0 T hd hTx]
 rw[show(v:Int)=((Wi v 0:Nat):Int) by simp[Wi]]
 refine kl ((a0.or T)) [(0,.d y),(1,.d (.ptr x 0)),(3,.d (.sl .full 0 1 fun _=>[])),(4,.d (.int .i64 ((Wi v 0:Nat):Int)))] [] (.skip (.skip (.cons (.d (Kl fun b h=>by cases h)) (JC _)))) (Zcj _) ?_
 refine Zd (fr (5) (fun i Q=>∀a tk row,ZJ a (T.own tk i)→tk.okIn (a.or T)→A (i-Yt v) a→(∀j,j<i-Yt v→go j=.next)→ZX byC row (ZlC v i)→i≤5→Q [(0,.d y),(1,.d (.ptr x 0)),(3,.d (.sl tk i 1 row)),(4,.d (.int .i64 ((Wi v i:Nat):Int)))] [] (a.or (T.own tk i))) (fun n ih_key=>?_) fun key=>?_)
 ·clear hA hd
  intro i hn a tk row hd htk hA hno hrow hi
  have hox:=Zod (a:=a) (T:=T) (tk:=tk) (k:=i) (fun b hb=>by subst hb;exact hd b (.tip i) (ZEI _ _ _))
  have hoT:(T.own tk i) x=sO (.cells [.int .i64 (v:Int)]):=by
   cases tk with
   |tip b =>
    have hb:x≠b:=fun e=>by have:=(YY htk).2;rw[←e,hTx]at this;simp at this
    show(T.upd b _) x=_
    rw[ZEJ _ _ hb];exact hTx
   |full=>exact hTx
   |none=>exact hTx
  refine rh ?_
  refine Zj ?_
  simp only[Eqs,reduceCtorEq,ZEG,reduceIte,ZED,ZEH,ZEE,hx a _ hd hoT]
  refine cl (ZkA (v:Int)) ?_
  refine cd (fun h1=>?_) (fun h1=>?_)
  ·have h1':i<5:=by simp at h1;omega
   have hlt:i=5∨i<5:=by omega
   obtain⟨r,hr⟩:∃r:Nat,r=Wi v i:=⟨_,rfl⟩
   have hrb:((r:Nat):Int).tmod 128=((r % 128:Nat):Int):=by rw[Int.tmod_eq_emod_of_nonneg (by omega)];omega
   have hc1:IntKind.u8.wrap (((r:Nat):Int).tmod 128)=((ZmG v i).toNat:Int):=by
    rw[hrb,ZtK (by omega)];unfold ZmG;rw[←hr,u8n (by omega)]
   have hc2:IntKind.u8.wrap (((r:Nat):Int).tmod 128+128)=((ZjZ v i).toNat:Int):=by
    rw[hrb,show((r % 128:Nat):Int)+128=((r % 128+128:Nat):Int) by omega,ZtK (by omega)];unfold ZjZ;rw[←hr,u8n (by omega)]
   rw[←hr]
   refine rx @hc1 ?_
   refine⟨by omega,by omega,by omega,by decide,by rw[hrb];omega,by rw[hrb];omega,?_⟩
   refine Zaf ((a.or (T.own tk i))) (.full) rfl rfl rfl rfl rfl rfl (by trivial) (by trivial) rfl (by first|trivial|assumption) (by omega) (by (unfold big;omega)) fun t1 ht1=>Zj ?_
   simp only[Eqs,reduceCtorEq,ZEG,reduceIte,ZED,ZEH,ZEE]
   have hrowL:ZX byC (YJ i (fun i=>row i) (Z7 [D.int IntKind.u8 0] ([0].zip [D.int IntKind.u8 ((ZmG v i).toNat:Int)]))) (Qm v i):=hrow.snoc (x:=ZmG v i) rfl (ZeE v i).symm
   have hfl:i+1=(Qm v i).length:=by unfold Qm;rw[ZEM,ZeE];rfl
   refine Kk (s':=a.or (T.own tk i)) (Y0 ht1) ?_
   refine kl ((a.or (T.own tk i))) [(0,.d y),(1,.d (.ptr x 0)),(3,.d (.sl tk i 1 row)),(4,.d (.int .i64 (r:Int))),(5,.d (ZL (Qm v i)))] [] (.skip (.skip (.skip (.skip (.cons (.d (hrowL.le hfl)) (JC _)))))) (Zcj _) ?_
   clear ht1
   refine jU [1,0] (fun Q=>∀a,ZJ a (T.own tk i)→tk.okIn (a.or T)→A (i+1-Yt v) a→(∀j,j<i+1-Yt v→go j=.next)→Q F [(0,.d y),(1,.d (.ptr x 0)),(3,.d (.sl tk i 1 row)),(4,.d (.int .i64 (r:Int))),(34,.d (.bool false))] [] (a.or (T.own tk i))) ?_ fun fin=>?_
   ·intro a hd htk hA hno
    have htT:tk.okIn T:=by
     cases tk with
     |tip b=>exact(YY htk).2
     |full=>trivial
     |none=>exact htk.elim
    have hdT:ZJ a T:=fun c o hc=>hd c o (Y0 htT c o hc)
    have hox:=Zod (a:=a) (T:=T) (tk:=tk) (k:=i) (fun b hb=>by subst hb;exact hd b (.tip i) (ZEI _ _ _))
    rw[←hox,show(a.or T).own tk i=(a.or T).own tk (i*1) by rw[Nat.mul_one]]
    refine rx @hc2 ?_
    refine⟨by decide,by rw[hrb];omega,by rw[hrb];omega,by rw[hrb];omega,by rw[hrb];omega,?_⟩
    refine Zaf ((a.or T)) (tk) rfl rfl rfl rfl rfl rfl (by trivial) (by trivial) (by rw[Nat.mul_one]) htk (by omega) (by (unfold big;omega)) fun t2 ht2=>Zj ?_
    simp only[Eqs,reduceCtorEq,ZEG,reduceIte,ZED,ZEH,ZEE]
    have hrow2:=hrow.snoc (x:=ZjZ v i) (row2:=Z7 [D.int IntKind.u8 0] ([0].zip [D.int IntKind.u8 ((ZjZ v i).toNat:Int)])) rfl (ZeE v i).symm
    rw[←Zws]at hrow2
    have hd2:ZJ a (T.own t2 (i+1)):=by
     cases t2 with
     |tip b =>
      intro c o hc
      by_cases hcb:c=b
      ·rw[hcb];exact(YY ht2).1
      ·rw[show(T.own (.tip b) (i+1)) c=T c from ZEJ _ _ hcb]at hc;exact hdT c o hc
     |full=>exact hdT
     |none=>exact hdT
    have hox2:=Zod (a:=a) (T:=T) (tk:=t2) (k:=i+1) (fun b hb=>by subst hb;exact hd2 b (.tip (i+1)) (ZEI _ _ _))
    rw[Nat.mul_one,hox2]
    have hsh:Zor .i64 (r:Int) 7=((Wi v (i+1):Nat):Int):=by
     rw[Zb4,←hr]
     unfold Zor
     rw[show((2:Int) ^ (Nat.min (7:Int).toNat IntKind.i64.bits))=128 from rfl,Int.fdiv_eq_ediv_of_nonneg _ (by decide)]
     omega
    have hvb:Wi v (i+1)≤v:=by unfold Wi;exact Nat.div_le_self _ _
    refine rx @hsh ?_
    refine⟨by decide,by omega,by omega,?_⟩
    refine Zi ?_
    exact ih_key ((5)-(i+1)) (by omega) (i+1) rfl a t2 _ hd2 ht2 hA hno hrow2 (by omega)
   have hgi:=ZxB hv h1'
   rw[←hr]at hgi
   by_cases hq:r<128
   ·have hq':dC ((r:Int)<128)=true:=by simpa using(show(r:Int)<128 by omega)
    have hi2:i=Yt v+(i-Yt v):=by omega
    have hcall:=(hcons (i-Yt v) (by omega) hno a hA).frame hd
    simp only[show Yt v+(i-Yt v)=i from hi2.symm]at hcall
    refine rx @hq' ?_
    refine vV (hcall) ?_ ?_
    ·rintro d S ⟨s',⟨hr2,hA'⟩,hd',rfl⟩
     have hok':tk.okIn (s'.or T):=by
      cases tk with
      |tip b=>show(s'.or T) b=nO;rw[Zl (hd' b (.tip i) (ZEI _ _ _))];exact(YY htk).2
      |full=>trivial
      |none=>exact htk.elim
     rw[show i-Yt v+1=i+1-Yt v by omega]at hA'
     cases hgo:go (i-Yt v) with
     |next =>
      rw[hgo]at hr2
      cases hr2
      refine gR0 ?_
      refine i0 ?_
      refine ZD ?_
      refine fin s' hd' hok' hA' fun j hj=>?_
      by_cases hji:j=i-Yt v
      ·rw[hji];exact hgo
      ·exact hno j (by omega)
     |stop c =>
      rw[hgo]at hr2
      cases hr2
      refine gR0 ?_
      refine i1 ?_
      exact hF.ret (.tup []) _ rfl trivial (ZEF _) (ZEB _) ⟨s',.stop (i-Yt v) c (by omega) hno hgo (by rw[show i-Yt v+1=i+1-Yt v by omega];exact hA'),YQ _ _⟩
     |pan d=>rw[hgo]at hr2;cases hr2
    ·rintro d S ⟨s',⟨hr2,hA'⟩,hd',rfl⟩
     cases hgo:go (i-Yt v) with
     |pan d' =>
      rw[hgo]at hr2
      cases hr2
      exact hF.pan _ (ZEB _) ⟨s',.pan (i-Yt v) d (by omega) hno hgo hA',YQ _ _⟩
     |next=>rw[hgo]at hr2;cases hr2
     |stop c=>rw[hgo]at hr2;cases hr2
   ·have hq':dC ((r:Int)<128)=false:=by simpa using(show ¬(r:Int)<128 by omega)
    refine rx @hq' ?_
    refine Jc rfl (e:=.d (.bool false)) (Zj ?_)
    simp only[Eqs,reduceCtorEq,ZEG,reduceIte,ZED,ZEH,ZEE]
    refine i0 ?_
    refine ZD ?_
    exact fin a hd htk (by rw[show i+1-Yt v=i-Yt v by omega];exact hA) (fun j hj=>hno j (by omega))
  ·have h5:i=5:=by simp at h1;omega
   subst h5
   refine ZR rfl ?_
   exact hF.fin (.tup []) _ rfl trivial (ZEF _) (ZEB _) ⟨a,.all hno hA,YQ _ _⟩
 exact key _ 0 rfl a0 .full _ hd trivial (by rw[Nat.zero_sub];exact hA) (by intro j hj;omega) ZX.nil (by omega)
def apV(st:St)(b2 b4 b5:Nat)(d:D):St:=((st.upd b2 (.cells [.nilsl])).upd b4 (.cells [d])).upd b5 (.cells [.int .i64 0])
theorem ZlV{v:Nat}(hv:v<34359738368)(st):Zb ZEA 96 [.nilsl,.int .i64 v] st fun r S=>r=.ret (.tup [ZL (Qm v (Yt v)),.int .i64 0])∧S=st:=by
 refine Zc (cR 96 f96) fun F hF=>?_
 obtain⟨hg4,-⟩:=Zn4 hv
 have hfl:(Qm v (Yt v)).length=Yt v+1:=by unfold Qm;rw[ZEM,ZeE];rfl
 refine rg ?_
 refine Za (Za ?_)
 refine xP 2 fun b2 h2=>?_
 refine xP 4 fun b4 h4=>?_
 refine xP 5 fun b5 h5=>?_
 refine rg ?_
 refine cV (ZnH (v:=(v:Int)) _) ?_ ?_
 ·rintro d S ⟨x,hx,hd,rfl⟩
  cases hd
  refine gR0 ?_
  refine Zd ?_
  have k4:=Zn h4
  have k5:=Zn h5
  have k5a:=Zn k5.2
  rw[show((st.upd b2 (.cells [.nilsl])).upd b4 (.cells [.nilsl])).upd b5 (.cells [.int .i64 0])=apV st b2 b4 b5 .nilsl from rfl]at hx⊢
  have g2:∀d,(apV st b2 b4 b5 d) b2=sO (.cells [.nilsl]):=fun d=>by unfold apV;rw[ZEJ _ _ k5a.1.symm,ZEJ _ _ k4.1.symm,ZEI]
  have g4:∀d,(apV st b2 b4 b5 d) b4=sO (.cells [d]):=fun d=>by unfold apV;rw[ZEJ _ _ k5.1.symm,ZEI]
  have g5:∀d,(apV st b2 b4 b5 d) b5=sO (.cells [.int .i64 0]):=fun d=>by unfold apV;rw[ZEI]
  have u4:∀d d',(apV st b2 b4 b5 d).upd b4 (.cells [d'])=apV st b2 b4 b5 d':=fun d d'=>by unfold apV;rw[St.upd_comm _ _ _ k5.1.symm,ZET]
  have u5:∀d,(apV st b2 b4 b5 d).upd b5 (.cells [.int .i64 0])=apV st b2 b4 b5 d:=fun d=>by unfold apV;rw[ZET]
  have sb:∀d,st.sub (apV st b2 b4 b5 d):=fun d=>by unfold apV;exact ZFf (ZFf (ZEZ _ h2) (ZEZ _ h4)) (ZEZ _ (by rw[ZEJ _ _ k5.1];exact k5.2))
  refine WS hF rfl trivial [2,4,5] (by show([2,4,5]:List Nat).Nodup;decide) (WX hx) (Zkz hv x).Y (fun j hj=>rfl)
   (fun j=>.stop .ret) (fun j a=>(j=0∧a=apV st b2 b4 b5 .nilsl)∨(0<j∧a=apV st b2 b4 b5 (ZL (Qm v (Yt v))))) (.inl ⟨rfl,rfl⟩) ?_ ?_ ?_ ?_ ?_ ?_
  ·intro j a hj hno hB F' ready busy hdr hbeg hend
   have hj0:j=0:=by
    refine Nat.eq_zero_of_not_pos fun h=>?_
    have:=hno 0 h
    simp at this
   subst hj0
   rcases hB with ⟨_,rfl⟩|⟨h,_⟩
   ·skip
    simp only[Eqs,reduceCtorEq,ZEG,reduceIte,ZED,ZEH,ZEE,YZ,Wc,KO,WE,List.isEmpty_nil,List.isEmpty_cons]
    refine rg ?_
    refine hbeg fun hdb=>?_
    have hdb2:ZJ (apV st b2 b4 b5 (ZL (Qm v (Yt v)))) busy:=fun c o hc=>by
     have h1:=hdb c o hc
     unfold apV at h1⊢
     have a1:=Zn h1
     have a2:=Zn a1.2
     rw[ZEJ _ _ a1.1,ZEJ _ _ a2.1];exact a2.2
    refine rh ?_
    refine Zj ?_
    simp only[Eqs,reduceCtorEq,ZEG,reduceIte,ZED,ZEH,ZEE,Zh (g2 _)]
    refine Zaf (((apV st b2 b4 b5 .nilsl).or busy)) (.full) rfl rfl rfl rfl rfl rfl (by trivial) (by trivial) rfl (by first|trivial|assumption) (by (rw[hfl];omega)) (by (rw[hfl];unfold big;omega)) fun t1 ht1=>Zj ?_
    simp only[Eqs,reduceCtorEq,ZEG,reduceIte,ZED,ZEH,ZEE,Zd3 ht1 (Zh (g4 _)),Zd3 ht1 (Zh (g5 _)),ZEJ _ _ k5.1]
    have hrow:ZX u8C (YJ 0 (fun _=>[]) fun i=>u8C (ZES (Qm v (Yt v)) i dE)) ([]++Qm v (Yt v)):=ZX.nil.app ZX.self rfl
    have hsub:((apV st b2 b4 b5 (ZL (Qm v (Yt v)))).or busy).sub (((((((apV st b2 b4 b5 .nilsl).or busy).own t1 (List.length (Qm v (Yt v))*1)).upd b4 (.cells [.sl t1 (List.length (Qm v (Yt v))) 1 (YJ 0 (fun _=>[]) fun i=>u8C (ZES (Qm v (Yt v)) i dE))])).upd b5 (.cells [.int .i64 0])).upd b4 (.cells [ZL (Qm v (Yt v))]))):=fun c o hc=>by
     by_cases c4:c=b4
     ·subst c4;rw[ZEI];rw[Zh (g4 _)]at hc;exact hc
     rw[ZEJ _ _ c4]
     by_cases c5:c=b5
     ·subst c5;rw[ZEI];rw[Zh (g5 _)]at hc;exact hc
     rw[ZEJ _ _ c5,ZEJ _ _ c4]
     refine Zd3 ht1 ?_
     have he:(apV st b2 b4 b5 (ZL (Qm v (Yt v)))) c=(apV st b2 b4 b5 .nilsl) c:=by unfold apV;rw[ZEJ _ _ c5,ZEJ _ _ c4,ZEJ _ _ c5,ZEJ _ _ c4]
     unfold St.or at hc⊢
     rw[he]at hc;exact hc
    refine QZ (b:=b4) (by rw[ZEJ _ _ k5.1.symm,ZEI]) (.cons (hrow.le (by simp)) .nil) ?_
    refine Kk (s':=(apV st b2 b4 b5 (ZL (Qm v (Yt v)))).or busy) hsub ?_
    exact hend.ret ⟨rfl,.inr ⟨by omega,rfl⟩⟩ hdb2 (ZEB _)
   ·omega
  ·intro q a hno hB hq
   have:=hno 0 (by omega)
   simp at this
  ·intro q a m hm hno hgo hB hq
   rcases hB with ⟨h,_⟩|⟨_,rfl⟩
   ·omega
   ·rw[Wu hq]
    exact hF.ret1 hq (.tup [ZL (Qm v (Yt v)),.int .i64 0]) st (ds:=[ZL (Qm v (Yt v)),.int .i64 0]) (p:=True∧True∧True) (by simp[Yk,WF,ZH,YS,Z5,g4,g5]) ⟨trivial,trivial,trivial⟩ (ZEF _) (sb _) ⟨rfl,rfl⟩
  ·intro q a m id hm hno hgo
   simp at hgo
  ·intro q a m d hm hno hgo
   simp at hgo
  ·intro m c hgo
   simp at hgo
   exact .inl hgo.symm
 ·rintro d S ⟨x,hx,hd,rfl⟩
  cases hd
theorem Zp3{v:Nat}(hv:v<34359738368):Ze ZEA 56 [.int .i64 v] (.tup [.int .i64 ((Yt v:Int)+1),.int .i64 0]):=by
 refine Zm (cR 56 f56) fun F st hret=>?_
 have hfl:(Qm v (Yt v)).length=Yt v+1:=by unfold Qm;rw[ZEM,ZeE];rfl
 refine rg ?_
 refine rg ?_
 refine cV (ZlV hv _) ?_ ?_
 ·rintro d S ⟨hd,hS⟩
  obtain rfl:=hS.symm
  cases hd
  refine gR0 ?_
  refine rx @ZaI ?_
  refine rt hret ?_
  rw[hfl];rfl
 ·rintro d S ⟨hd,_⟩
  cases hd
def ZQ(d:Dfn)(s:Str):Msg:=d.msgs.getD (ixS d s) dE
def Je(f:Fld)(x:Val)(b:Int):Int :=
 if f.kind=1∨f.kind=2 then b+f.bits
 else if f.kind=3 then b+8*(Yt x.int.toNat+1:Nat)
 else if f.kind=4 then b+8*x.bytes.length
 else if f.kind=5 then b+8*x.bytes.length+8
 else if f.kind=6 then b+8*(Za7 x.hdrs).length
 else if f.kind=10 then upS b f.bits
 else if f.kind=11 then b+JQ f.check
 else b
def Qq(rec:Val→Int):List Val→Int→Int
 | [],b=>b
 |y::r,b=>Qq rec r (b+8*rec y)
def Qu(rec:Val→Int):List Fld→List Val→Int→Int
 | [],_,b=>b
 |f::r,ps,b=>if W7 f then Qu rec r (ps.drop 1) (Qq rec (ps.getD 0 dE).parts (Je f (ps.getD 0 dE) b)) else Qu rec r ps (Je f dE b)
def lenS(d:Dfn):Nat→Msg→Val→Int
 |0,_,_=>0
 |n+1,m,v=>(Qu (fun y=>lenS d n (ZQ d y.name) y) m.fields v.parts 0).tdiv 8
structure FOk(f:Fld):Prop where
 num:f.kind=1∨f.kind=2→0≤f.bits∧f.bits≤600
 pad:f.kind=10→Zhn f.bits=true
 chk:f.kind=11→f.check=1∨f.check=2∨f.check=3
structure MOk(m:Msg):Prop where
 few:m.fields.length≤40
 fld:∀f∈m.fields,FOk f
theorem ZrL{n}(h:Zhn n=true):2≤n∧n≤512:=by
 unfold Zhn at h
 simp only[ZEY,ZEK,decide_eq_true_eq]at h
 omega
theorem Zvm(l):(Za7 l).length=Qy l+4*l.length+2:=by
 unfold Za7
 rw[ZEM]
 have:(l.flatMap Zha).length=Qy l+4*l.length:=by
  induction l with
  |nil=>rfl
  |cons h r ih=>rw[List.flatMap_cons,ZEM,ih];simp only[Zha,Qy,ZEM,ZER,List.length_nil];omega
 rw[this];rfl
theorem Zy7(v):Yt v≤4:=by
 unfold Yt
 repeat' split
 all_goals omega
theorem Zdw{f x b}(hf:FOk f)(hb:0≤b)(hh:x.hdrs.length≤100):b≤Je f x b∧Je f x b≤b+600+8*(x.bytes.length+Qy x.hdrs:Nat)+3300:=by
 have h3:=Zy7 x.int.toNat
 have h6:=Zvm x.hdrs
 have hck:JQ f.check=32∨JQ f.check=16:=by unfold JQ;split<;>simp
 unfold Je
 by_cases c1:f.kind=1∨f.kind=2
 ·have:=hf.num c1;rw[if_pos c1];omega
 rw[if_neg c1]
 by_cases c3:f.kind=3
 ·rw[if_pos c3];omega
 rw[if_neg c3]
 by_cases c4:f.kind=4
 ·rw[if_pos c4];omega
 rw[if_neg c4]
 by_cases c5:f.kind=5
 ·rw[if_pos c5];omega
 rw[if_neg c5]
 by_cases c6:f.kind=6
 ·rw[if_pos c6];omega
 rw[if_neg c6]
 by_cases c10:f.kind=10
 ·rw[if_pos c10]
  have h1:=ZrL (hf.pad c10)
  have h2:=(Zke hb (show 1≤f.bits by omega)).1
  omega
 rw[if_neg c10]
 by_cases c11:f.kind=11
 ·rw[if_pos c11];omega
 rw[if_neg c11];omega
theorem Zax{rec}:∀{l b},(∀y∈l,0≤rec y∧8*rec y≤20000*(wtN y:Int))→b≤Qq rec l b∧Qq rec l b≤b+20000*(wtL l:Int)
 | [],b,_=>by simp[Qq,wtL]
 |y::r,b,h=>by
  have h1:=h y (by simp)
  have h2:=Zax (rec:=rec) (l:=r) (b:=b+8*rec y) fun z hz=>h z (by simp[hz])
  simp only[Qq,wtL]
  omega
theorem JV{rec}:∀{l ps b},(∀f∈l,FOk f)→0≤b→(∀x∈ps,x.hdrs.length≤100∧∀y∈x.parts,0≤rec y∧8*rec y≤20000*(wtN y:Int)) →
  b≤Qu rec l ps b∧Qu rec l ps b≤b+600*(l.length:Int)+3300*(l.length:Int)+20000*(wtL ps:Int)
 | [],ps,b,_,hb,_=>by simp only[Qu,List.length_nil];omega
 |f::r,ps,b,hf,hb,hp=>by
  have hf1:=hf f (by simp)
  have hfr:∀g∈r,FOk g:=fun g hg=>hf g (by simp[hg])
  simp only[Qu,ZER]
  split
  ·cases ps with
   |nil =>
    have h1:=Zdw (x:=dE) hf1 hb (by simp[show(dE:Val).hdrs=[] from rfl])
    have e1:(dE:Val).bytes.length=0:=rfl
    have e2:Qy (dE:Val).hdrs=0:=rfl
    have h2:=JV (rec:=rec) (l:=r) (ps:=[]) (b:=Je f dE b) hfr (by omega) (fun x hx=>by simp at hx)
    rw[show Qu rec r (List.drop 1 []) (Qq rec (([]:List Val).getD 0 dE).parts (Je f (([]:List Val).getD 0 dE) b))=Qu rec r [] (Je f dE b) from rfl]
    rw[e1,e2]at h1
    simp only[wtL]at h2⊢
    omega
   |cons x q =>
    have hx:=hp x (by simp)
    have h1:=Zdw hf1 hb hx.1
    have h3:=Zax (b:=Je f x b) hx.2
    have h2:=JV (rec:=rec) (l:=r) (ps:=q) (b:=Qq rec x.parts (Je f x b)) hfr (by omega) (fun z hz=>hp z (by simp[hz]))
    have hw:=ZcQ x
    rw[show Qu rec r ((x::q).drop 1) (Qq rec ((x::q).getD 0 dE).parts (Je f ((x::q).getD 0 dE) b))=Qu rec r q (Qq rec x.parts (Je f x b)) from rfl]
    simp only[wtL]
    omega
  ·have h1:=Zdw (x:=dE) hf1 hb (by simp[show(dE:Val).hdrs=[] from rfl])
   have e1:(dE:Val).bytes.length=0:=rfl
   have e2:Qy (dE:Val).hdrs=0:=rfl
   rw[e1,e2]at h1
   have h2:=JV (rec:=rec) (l:=r) (ps:=ps) (b:=Je f dE b) hfr (by omega) hp
   omega
def DOk(d:Dfn):Prop:=∀m∈d.msgs,MOk m
theorem DOk.of{d}(h:DOk d)(s):MOk (ZQ d s):=by
 unfold ZQ
 by_cases hi:ixS d s<d.msgs.length
 ·exact h _ (ZA hi)
 ·rw[show d.msgs.getD (ixS d s) dE=dE by simp[ZES,ZFi (Nat.le_of_not_lt hi)]]
  exact⟨by decide,fun f hf=>by simp[show(dE:Msg).fields=[] from rfl]at hf⟩
theorem W0{v x}(h:Y3 v=true)(hx:x∈v.parts):Y3 x=true:=by
 rw[ZeA,ZEK,ZdL]at h
 exact List.all_eq_true.1 h.1 x hx
theorem K9{v}(h:Y3 v=true):Qo v=true:=by
 rw[ZeA,ZEK]at h;exact h.2
theorem ZmI{d}(hd:DOk d):∀(n m v),MOk m→Y3 v=true→0≤lenS d n m v∧8*lenS d n m v≤20000*(wtN v:Int)
 |0,m,v,_,_=>by simp only[lenS];omega
 |n+1,m,v,hm,hv=>by
  have h1:=JV (rec:=fun y=>lenS d n (ZQ d y.name) y) (l:=m.fields) (ps:=v.parts) (b:=0) hm.fld (by omega) fun x hx=>by
   have hxo:=W0 hv hx
   exact⟨(JL (K9 hxo)).2.2.2.1,fun y hy=>ZmI hd n (ZQ d y.name) y (hd.of _) (W0 hxo hy)⟩
  have h2:=ZcQ v
  have h3:=hm.few
  simp only[lenS]
  generalize Qu (fun y=>lenS d n (ZQ d y.name) y) m.fields v.parts 0=t at *
  rw[Int.tdiv_eq_ediv_of_nonneg (by omega)]
  omega
structure XOk(f:Fld)(x:Val):Prop where
 unused:Y1 f.kind x=false
 vint:f.kind=3→0≤x.int∧x.int<34359738368
 hdrs:f.kind=6→K2 x.hdrs=true∧ZdU x.hdrs
def Zp4(d:Dfn):Nat→Msg→Val→Prop
 |0,_,_=>False
 |n+1,m,v=>(vfs m.fields).length=v.parts.length∧∀k,k<v.parts.length→XOk ((vfs m.fields).getD k dE) (v.parts.getD k dE)∧∀y∈(v.parts.getD k dE).parts,0≤ZF d y.name d.msgs.length∧Zp4 d n (ZQ d y.name) y
theorem ZnI{l i k}(hk:k=(vfs (l.take i)).length)(hi:i<l.length)(hv:W7 (l.getD i dE)=true):k<(vfs l).length∧(vfs l).getD k dE=l.getD i dE:=by
 have h1:=ZwZ hi
 rw[if_pos hv]at h1
 refine⟨by rw[h1];simp;omega,?_⟩
 rw[h1,hk]
 simp[ZES]
theorem Zso{v x}(h:x∈v.parts):wtN x≤wtN v:=by
 have h1:=ZtM h
 have h2:=ZcQ v
 omega
def ZeY(rec:Val→Int):List Val→Int
 | []=>0
 |y::r=>rec y+ZeY rec r
theorem ZdN{rec}:∀(l b),Qq rec l b=b+8*ZeY rec l
 | [],b=>by simp[Qq,ZeY]
 |y::r,b=>by simp only[Qq,ZeY];rw[ZdN r];omega
theorem Zoq(l f rec st)(hl:l.length≤5000)(hr:∀y∈l,0≤rec y∧8*rec y≤20000*(wtN y:Int))(hw:wtL l≤5100)(hf:∀y∈l,VT ZEA f [.agg y.cells] st (.int .i64 (rec y)) st):
  ZK ZEA 52 [ZW l,f] st (.int .i64 (ZeY rec l)) st:=by
 refine ZB (cR 52 f52) fun hwf F hret=>?_
 clear hwf
 have hT:=Zax (b:=0) hr
 have hTe:=ZdN (rec:=rec) l 0
 generalize hTT:ZeY rec l=T at *
 refine rg ?_
 refine rx @Zct ?_
 refine Zd (fr (l.length) (fun i Q=>∀b:Int,0≤b→b≤T→b+ZeY rec (l.drop i)=T→i≤l.length→Q [(1,.d f),(4,.d (.int .i64 b)),(7,.d (ZW l)),(8,.d (.int .i64 l.length)),(9,.d (.int .i64 i))] [] st) (fun n ih_key=>?_) fun key=>?_)
 ·intro i hn b hb0 hbT hinv hi
  refine rg ?_
  refine Za (Zq rfl trivial (fun h1=>?_) (fun h1=>?_))
  ·simp at h1
   have hym:l.getD i dE∈l:=ZA h1
   have hyr:=hr _ hym
   have hyf:=hf _ hym
   have hyv:=QS (l:=l) (i:=i) h1
   rw[QM h1]at hinv
   simp only[ZeY]at hinv
   have hP:=Zax (rec:=rec) (l:=l.drop (i+1)) (b:=0) fun z hz=>hr z (List.mem_of_mem_drop hz)
   rw[ZdN]at hP
   rw[ZE0]at hyf
   generalize l.getD i dE=y at *
   generalize rec y=ry at *
   refine rx (nd2 @atV @hyv) ?_
   refine aa ?_
   refine rg ?_
   refine cW (hyf) ?_
   refine aa ?_
   refine rg ?_
   refine aa ?_
   refine Zi ?_
   exact ih_key ((l.length)-(i+1)) (by omega) (i+1) rfl (b+ry) (by omega) (by omega) (by omega) (by omega)
  ·simp at h1
   obtain rfl:i=l.length:=by omega
   rw[List.drop_eq_nil_of_le (ZEP _)]at hinv
   simp only[ZeY]at hinv
   refine rg ?_
   exact hret rfl (by trivial) (Zgb (by omega)) (ZEB _)
 exact key _ 0 rfl 0 (by omega) (by omega) (by rw[List.drop_zero,hTT];omega) (by omega)
theorem Zkw(d)(y:Val)(ry zd st)(hz:st zd=sO (.cells [.str d.name,Wh d.msgs,.str d.start]))(h0:0≤ZF d y.name d.msgs.length)(hl:Ze ZEA 27 [.agg d.cells,.agg (ZQ d y.name).cells,.agg y.cells] (.int .i64 ry)):ZK ZEA 53 [.agg y.cells,.ptr zd 0] st (.int .i64 ry) st:=by
 refine ZB (cR 53 f53) fun hwf F hret=>?_
 clear hwf
 have hm:=QV d y.name h0
 rw[show d.msgs.getD (ixS d y.name) dE=ZQ d y.name from rfl]at hm
 rw[ZE0]at hl⊢
 refine rg ?_
 refine rx @hz ?_
 refine aa ?_
 refine clD (hm) ?_
 refine clD (hl) ?_
 exact hret rfl (by trivial) (ZEF _) (ZEB _)
theorem Zkx(d)(hd:DOk d)(n m)(hm:MOk m)(v)(hv:Y3 v=true)(hw:wtN v≤5100)(hL:Zp4 d (n+1) m v)(ih:∀x∈v.parts,∀y∈x.parts,0≤ZF d y.name d.msgs.length∧Ze ZEA 27 [.agg d.cells,.agg (ZQ d y.name).cells,.agg y.cells] (.int .i64 (lenS d n (ZQ d y.name) y))):
  Ze ZEA 27 [.agg d.cells,.agg m.cells,.agg v.cells] (.int .i64 (lenS d (n+1) m v)):=by
 refine Zm (cR 27 f27) fun F st hret=>?_
 obtain⟨hlen,hX⟩:=hL
 have hrec:∀x∈v.parts,x.hdrs.length≤100∧∀y∈x.parts,0≤lenS d n (ZQ d y.name) y∧8*lenS d n (ZQ d y.name) y≤20000*(wtN y:Int):=fun x hx =>
  ⟨(JL (K9 (W0 hv hx))).2.2.2.1,fun y hy=>ZmI hd n _ y (hd.of _) (W0 (W0 hv hx) hy)⟩
 obtain⟨rec,hrc⟩:∃rec:Val→Int,rec=fun y=>lenS d n (ZQ d y.name) y:=⟨_,rfl⟩
 have hS:lenS d (n+1) m v=(Qu rec m.fields v.parts 0).tdiv 8:=by rw[hrc];rfl
 have hrec2:∀x∈v.parts,x.hdrs.length≤100∧∀y∈x.parts,0≤rec y∧8*rec y≤20000*(wtN y:Int):=by rw[hrc];exact hrec
 have ih2:∀x∈v.parts,∀y∈x.parts,0≤ZF d y.name d.msgs.length∧Ze ZEA 27 [.agg d.cells,.agg (ZQ d y.name).cells,.agg y.cells] (.int .i64 (rec y)):=by rw[hrc];exact ih
 have hT:=JV (rec:=rec) (l:=m.fields) (ps:=v.parts) (b:=0) hm.fld (by omega) hrec2
 have hwn:=ZcQ v
 have hfew:=hm.few
 generalize hTT:Qu rec m.fields v.parts 0=T at *
 clear hrec ih hrc
 generalize lenS d (n+1) m v=LV at *
 rw[ZE0]
 refine rx (nd2 @eQ3 @eQ2) ?_
 refine rg ?_
 refine Za (Za ?_)
 refine xP 3 fun zd hz=>?_
 have hgz:(st.upd zd (.cells [.str d.name,Wh d.msgs,.str d.start])) zd=sO (.cells [.str d.name,Wh d.msgs,.str d.start]):=ZEI _ _ _
 have hsub:=ZEZ (s:=st) (.cells [.str d.name,Wh d.msgs,.str d.start]) hz
 generalize st.upd zd (.cells [.str d.name,Wh d.msgs,.str d.start])=S at *
 refine rx @Zeu ?_
 refine Zd (fr (m.fields.length) (fun i Q=>∀(b:Int) (k:Nat),i≤m.fields.length→k=(vfs (m.fields.take i)).length→0≤b→b≤T→Qu rec (m.fields.drop i) (v.parts.drop k) b=T→Q [(3,.d (.ptr zd 0)),(5,.loc 5 0),(7,.d (.int .i64 b)),(8,.d (.int .i64 k)),(20,.d (Zr m.fields)),(21,.d (.int .i64 m.fields.length)),(22,.d (.int .i64 i))] [(5,[.str v.name,.int .i64 v.int,ZL v.bytes,Z9 v.hdrs,ZW v.parts])] S) (fun n ih_key=>?_) fun key=>?_)
 ·intro i hn b k hi hk hb0 hbT hinv
  refine rg ?_
  refine Za (Zq rfl trivial (fun h1=>?_) (fun h1=>?_))
  ·simp at h1
   have hfm:m.fields.getD i dE∈m.fields:=ZA h1
   have hfo:=hm.fld _ hfm
   have hkl:=fun hh=>ZnI hk h1 hh
   have hvt:=Zsl h1
   rw[QM h1]at hinv
   simp only[Qu]at hinv
   generalize hf:m.fields.getD i dE=f at *
   refine rx (nd2 @atF (nd2 @hf @eQ0)) ?_
   refine aa ?_
   refine rg ?_
   refine rg ?_
   refine cl (Zc8 f) ?_
   refine jU [0,1] (fun Q=>∀(x:Val) (k:Nat),k=(vfs (m.fields.take (i+1))).length→Qu rec (m.fields.drop (i+1)) (v.parts.drop k) (Qq rec x.parts (Je f x b))=T→(f.kind=3→0≤x.int∧x.int<34359738368)→(f.kind=6→K2 x.hdrs=true∧ZdU x.hdrs)→x.hdrs.length≤100→x.bytes.length≤1048576→x.parts.length≤5000→wtL x.parts≤5100→(∀y∈x.parts,0≤rec y∧8*rec y≤20000*(wtN y:Int))→(∀y∈x.parts,0≤ZF d y.name d.msgs.length∧Ze ZEA 27 [.agg d.cells,.agg (ZQ d y.name).cells,.agg y.cells] (.int .i64 (rec y)))→(¬f.kind=4→¬f.kind=5→x.bytes.length=0)→(f.kind<7∨f.kind=10∨f.kind=11→x.parts=[])→Q F [(3,.d (.ptr zd 0)),(5,.loc 5 0),(7,.d (.int .i64 b)),(8,.d (.int .i64 k)),(10,.loc 10 0),(11,.loc 11 0),(20,.d (Zr m.fields)),(21,.d (.int .i64 m.fields.length)),(22,.d (.int .i64 i))] [(5,[.str v.name,.int .i64 v.int,ZL v.bytes,Z9 v.hdrs,ZW v.parts]),(10,[.str f.name,.int .i64 f.kind,.int .i64 f.bits,.bool f.little,.bool f.loose,.int .i64 f.low,.int .i64 f.high,.int .i64 f.size.base,YC f.size.terms,.str f.of,.str f.tag,.str f.from_,KC f.cases,.int .i64 f.check,.int .i64 f.key]),(11,[.str x.name,.int .i64 x.int,ZL x.bytes,Z9 x.hdrs,ZW x.parts])] S) ?_ fun body=>?_
   ·clear hinv hk hkl hvt
    intro x k hk hinv hx3 hx6 hxh hxb hxp hxw hxr hxc hx0 hx7
    have hA:=Zdw (x:=x) hfo hb0 hxh
    have hP:=Zax (rec:=rec) (l:=x.parts) (b:=Je f x b) hxr
    have hPt:=ZdN (rec:=rec) x.parts (Je f x b)
    have hB:=JV (rec:=rec) (l:=m.fields.drop (i+1)) (ps:=v.parts.drop k) (b:=Qq rec x.parts (Je f x b)) (fun g hg=>hm.fld g (List.mem_of_mem_drop hg)) (by omega) (fun z hz=>hrec2 z (List.mem_of_mem_drop hz))
    have hX2:=Je.eq_1 f x b
    have ht:=Zoq x.parts (.fn (.func 53) [] [.ptr zd 0]) rec S hxp hxr hxw fun y hy=>(Zkw d y (rec y) zd S hgz (hxc y hy).1 (hxc y hy).2).VT (first:=[]) (args:=[_]) (caps:=[_])
    have ht0:x.parts=[]→ZeY rec x.parts=0:=fun h=>by rw[h];rfl
    generalize ZeY rec x.parts=tot at *
    refine rx @ZaI ?_
    refine ctD (ht) ?_
    refine aa ?_
    refine jU [1,0] (fun Q=>∀(c n':Int),c+8*n'=Je f x b+8*tot→0≤c→0≤n'→Q F [(3,.d (.ptr zd 0)),(5,.loc 5 0),(7,.d (.int .i64 c)),(8,.d (.int .i64 k)),(12,.d (.int .i64 n')),(20,.d (Zr m.fields)),(21,.d (.int .i64 m.fields.length)),(22,.d (.int .i64 i))] [(5,[.str v.name,.int .i64 v.int,ZL v.bytes,Z9 v.hdrs,ZW v.parts])] S) ?_ fun fin=>?_
    ·clear hX2
     intro c n' hc hc0 hn0
     refine rg ?_
     refine aa ?_
     refine rg ?_
     refine aa ?_
     refine Zi ?_
     exact ih_key ((m.fields.length)-(i+1)) (by omega) (i+1) rfl (c+8*n') k (by omega) hk (by omega) (by omega) (by rw[hc,←hPt];exact hinv)
    refine rx @eQ0 ?_
    refine rg ?_
    refine cd (fun c1=>?_) (fun c1=>?_)
    ·have hk1:f.kind=1:=by simpa using c1
     rw[if_pos (by omega)]at hX2
     have:=hx0 (by omega) (by omega)
     have:=ht0 (hx7 (by omega))
     refine ZD (Zq rfl trivial (fun _=>?_) (fun h=>by rw[c1]at h;simp at h))
     refine rx @eQ0 ?_
     refine aa ?_
     refine Zo ?_
     exact fin _ _ (by rw[hX2];omega) (by omega) (by omega)
    ·refine rg ?_
     refine cd (fun c2=>?_) (fun c2=>?_)
     ·have hk2:f.kind=2:=by simpa using c2
      rw[if_pos (by omega)]at hX2
      have:=hx0 (by omega) (by omega)
      have:=ht0 (hx7 (by omega))
      refine rx @eQ0 ?_
      refine aa ?_
      refine Zo ?_
      exact fin _ _ (by rw[hX2];omega) (by omega) (by omega)
     ·have hk1:¬f.kind=1:=by simpa using c1
      have hk2:¬f.kind=2:=by simpa using c2
      rw[if_neg (by omega)]at hX2
      refine rg ?_
      refine cd (fun c10=>?_) (fun c10=>?_)
      ·have hk10:f.kind=10:=by simpa using c10
       rw[if_neg (by omega),if_neg (by omega),if_neg (by omega),if_neg (by omega),if_pos hk10]at hX2
       have:=hx0 (by omega) (by omega)
       have:=ht0 (hx7 (by omega))
       have hpd:=ZrL (hfo.pad hk10)
       have hup:=Zke hb0 (show 1≤f.bits by omega)
       have hpc:=Zlb (v:=b) (hfo.pad hk10) ⟨by omega,by omega⟩
       generalize upS b f.bits=u at *
       refine rx @eQ0 ?_
       refine cl (hpc) ?_
       refine rg ?_
       refine aa ?_
       refine Zo ?_
       exact fin _ _ (by rw[hX2];omega) (by omega) (by omega)
      ·have hk10:¬f.kind=10:=by simpa using c10
       refine rg ?_
       refine cd (fun c11=>?_) (fun c11=>?_)
       ·have hk11:f.kind=11:=by simpa using c11
        rw[if_neg (by omega),if_neg (by omega),if_neg (by omega),if_neg (by omega),if_neg (by omega),if_pos hk11]at hX2
        have:=hx0 (by omega) (by omega)
        have:=ht0 (hx7 (by omega))
        have hcb:JQ f.check=32∨JQ f.check=16:=by unfold JQ;split<;>simp
        have hpc:=ZpI (hfo.chk hk11)
        generalize JQ f.check=u at *
        refine rx @eQ0 ?_
        refine cl (hpc) ?_
        refine rg ?_
        refine aa ?_
        refine Zo ?_
        exact fin _ _ (by rw[hX2];omega) (by omega) (by omega)
       ·have hk11:¬f.kind=11:=by simpa using c11
        refine rg ?_
        refine cd (fun c3=>?_) (fun c3=>?_)
        ·have hk3:f.kind=3:=by simpa using c3
         rw[if_pos hk3]at hX2
         have:=ht0 (hx7 (by omega))
         obtain⟨hv0,hv1⟩:=hx3 hk3
         obtain⟨vn,hvn⟩:∃vn:Nat,x.int=vn:=⟨x.int.toNat,by omega⟩
         rw[hvn,Int.toNat_natCast]at hX2
         have hvl:=Zp3 (v:=vn) (by omega)
         rw[←hvn]at hvl
         refine rg ?_
         refine cl (hvl) ?_
         refine Zo ?_
         refine kE [3,5,7,8,12,20,21,22] ?_
         exact fin _ _ (by rw[hX2];omega) (by omega) (by omega)
        ·have hk3:¬f.kind=3:=by simpa using c3
         rw[if_neg hk3]at hX2
         refine rg ?_
         refine cd (fun c5=>?_) (fun c5=>?_)
         ·have hk5:f.kind=5:=by simpa using c5
          rw[if_neg (by omega),if_pos hk5]at hX2
          have:=ht0 (hx7 (by omega))
          refine rg ?_
          refine aa ?_
          refine Zo ?_
          refine kE [3,5,7,8,12,20,21,22] ?_
          exact fin _ _ (by rw[hX2];omega) (by omega) (by omega)
         ·have hk5:¬f.kind=5:=by simpa using c5
          refine rg ?_
          refine cd (fun c6=>?_) (fun c6=>?_)
          ·have hk6:f.kind=6:=by simpa using c6
           rw[if_neg (by omega),if_neg hk5,if_pos hk6]at hX2
           have:=ht0 (hx7 (by omega))
           obtain⟨hh1,hh2⟩:=hx6 hk6
           have hfw:=ZhN hh2
           unfold ZjF at hfw
           rw[if_pos hh1]at hfw
           refine rg ?_
           refine cl (hfw) ?_
           refine rx @ZaI ?_
           refine Zo ?_
           exact fin _ _ (by rw[hX2];omega) (by omega) (by omega)
          ·have hk6:¬f.kind=6:=by simpa using c6
           have hX3:Je f x b=b+8*(x.bytes.length:Int):=by
            by_cases hk4:f.kind=4
            ·rw[hX2,if_pos hk4]
            ·have:=hx0 hk4 hk5
             rw[hX2,if_neg hk4,if_neg hk5,if_neg hk6,if_neg hk10,if_neg hk11];omega
           refine ZD (Zo ?_)
           refine kE [3,5,7,8,12,20,21,22] ?_
           exact fin _ _ (by rw[hX3];omega) (by omega) (by omega)
   refine cd (fun hh=>?_) (fun hh=>?_)
   ·rw[if_pos hh]at hinv
    obtain⟨hk1,hk2⟩:=hkl hh
    rw[hlen]at hk1
    have hxm:v.parts.getD k dE∈v.parts:=ZA hk1
    obtain⟨⟨hun,hx3,hx6⟩,hxp⟩:=hX k hk1
    have hrow:=QS (l:=v.parts) (i:=k) hk1
    have hxr:=hrec2 _ hxm
    have hxc:=ih2 _ hxm
    have hxo:=W0 hv hxm
    have hxn:=JL (K9 hxo)
    have hxw:=ZtM hxm
    have hk40:k≤i:=by rw[hk];exact Zzi
    rw[show(v.parts.drop k).getD 0 dE=v.parts.getD k dE by simp[ZES],List.drop_drop]at hinv
    rw[hk2]at hx3 hx6 hun
    rw[if_pos hh]at hvt
    generalize v.parts.getD k dE=x at *
    have hwx:=ZcQ x
    have hxl:x.parts.length≤5000:=by
     have h2:10*x.parts.length≤wtL x.parts:=by
      have h3:∀l:List Val,10*l.length≤wtL l:=fun l=>by
       induction l with
       |nil=>simp
       |cons a r ih3=>have:=ZcQ a;simp only[wtL,ZER];omega
      exact h3 _
     omega
    unfold Y1 ZnV at hun
    simp only[Bool.or_eq_false_iff,Bool.and_eq_false_iff,Bool.not_eq_false',ZEY,decide_eq_true_eq,decide_eq_false_iff_not]at hun
    obtain⟨⟨⟨_,hu1⟩,_⟩,hu2⟩:=hun
    have hno:¬f.kind=10∧¬f.kind=11:=by unfold W7 at hh;simp at hh;omega
    refine rx (nd2 @atV (nd2 @hrow (nd2 @ZaV @ZeX))) ?_
    refine aa ?_
    refine rg ?_
    refine aa ?_
    refine Za ?_
    rw[show(k:Int)+1=((k+1:Nat):Int) by omega]
    exact body x (k+1) (by rw[hvt,ZEM,←hk];rfl) hinv hx3 hx6 hxr.1 hxn.2.2.1 hxl (by omega) hxr.2 hxc (fun h4 h5=>by omega) (fun h=>List.eq_nil_of_length_eq_zero (by omega))
   ·rw[if_neg (by rw[hh];simp)]at hinv hvt
    rw[ZFb]at hvt
    refine ZD (Za ?_)
    refine kE [3,5,7,8,10,11,20,21,22] ?_
    refine kl (S) [(3,.d (.ptr zd 0)),(5,.loc 5 0),(7,.d (.int .i64 b)),(8,.d (.int .i64 k)),(10,.loc 10 0),(11,.loc 11 0),(20,.d (Zr m.fields)),(21,.d (.int .i64 m.fields.length)),(22,.d (.int .i64 i))] [(5,[.str v.name,.int .i64 v.int,ZL v.bytes,Z9 v.hdrs,ZW v.parts]),(10,[.str f.name,.int .i64 f.kind,.int .i64 f.bits,.bool f.little,.bool f.loose,.int .i64 f.low,.int .i64 f.high,.int .i64 f.size.base,YC f.size.terms,.str f.of,.str f.tag,.str f.from_,KC f.cases,.int .i64 f.check,.int .i64 f.key]),(11,[.str (dE:Val).name,.int .i64 (dE:Val).int,ZL (dE:Val).bytes,Z9 (dE:Val).hdrs,ZW (dE:Val).parts])] (JC _) (.skip (.skip (.cons (.cons (ZEF _) (.cons (ZEF _) (.cons (Kl fun b h=>by cases h) (.cons (Kl fun b h=>by cases h) (.cons (Kl fun b h=>by cases h) .nil))))) .nil))) ?_
    have hkd:¬f.kind=3∧¬f.kind=6:=by unfold W7 at hh;simp at hh;omega
    exact body dE k (by rw[hvt];exact hk) hinv (fun h=>absurd h hkd.1) (fun h=>absurd h hkd.2) (by simp[show(dE:Val).hdrs=[] from rfl]) (by simp[show(dE:Val).bytes=[] from rfl]) (by simp[show(dE:Val).parts=[] from rfl]) (by simp[show(dE:Val).parts=[] from rfl,wtL]) (fun y hy=>by simp[show(dE:Val).parts=[] from rfl]at hy) (fun y hy=>by simp[show(dE:Val).parts=[] from rfl]at hy) (fun _ _=>rfl) (fun _=>rfl)
  ·simp at h1
   obtain rfl:i=m.fields.length:=by omega
   rw[List.drop_eq_nil_of_le (ZEP _)]at hinv
   simp only[Qu]at hinv
   have hq8:b.tdiv 8=b / 8:=Int.tdiv_eq_ediv_of_nonneg (by omega)
   subst hinv
   refine rg ?_
   refine⟨by decide,by rw[hq8];omega,by rw[hq8];omega,?_⟩
   exact hret rfl (by trivial) (Zgb hS.symm) hsub
 exact key _ 0 rfl 0 0 (by omega) rfl (by omega) (by omega) hTT
theorem Zfx(d)(hd:DOk d):∀(n m v),MOk m→Y3 v=true→wtN v≤5100→Zp4 d n m v →
  Ze ZEA 27 [.agg d.cells,.agg m.cells,.agg v.cells] (.int .i64 (lenS d n m v))
 |0,_,_,_,_,_,hL=>hL.elim
 |n+1,m,v,hm,hv,hw,hL=>by
  refine Zkx d hd n m hm v hv hw hL fun x hx y hy=>?_
  obtain⟨k,hk,rfl⟩:=ZEV hx
  have h1:=(hL.2 k hk).2 y (by simpa[ZES,hk]using hy)
  exact⟨h1.1,Zfx d hd n (ZQ d y.name) y (hd.of _) (W0 (W0 hv hx) hy) (Nat.le_trans (Nat.le_trans (Zso hy) (Zso hx)) hw) h1.2⟩
def atR(d:Dfn)(s:Str)(v:Val):D:=if Qk d&&Y7 v then (if ZF d s d.msgs.length<0 then .tup [.agg [.str [],.nilsl],.int .i64 9] else .tup [.agg (ZQ d s).cells,.int .i64 0]) else .tup [.agg [.str [],.nilsl],.int .i64 2]
theorem ZsN(d s v):Ze ZEA 17 [.agg d.cells,.str s,.agg v.cells] (atR d s v):=by
 refine Zm (cR 17 f17) fun F st hret=>?_
 have hV:=Js v
 have hA:=Zla d
 have hS:=atR.eq_1 d s v
 have hfi:Zg (fun x:Msg=>dC (x.name=s)) d.msgs=ZF d s d.msgs.length:=by unfold ZF;rw[ZFa]
 rw[ZE0]at hV⊢
 cases ha:Qk d with
 |false =>
  rw[ha]at hA hS
  simp only[ZE8]at hS
  rw[if_neg (by simp)]at hS
  rw[hS]at hret
  refine rx @eQ3 ?_
  refine rg ?_
  refine cl (hA) ?_
  refine Jc rfl (e:=.d (.bool false)) (Zj ?_)
  simp only[Eqs,reduceCtorEq,ZEG,reduceIte,ZED,ZEH,ZEE]
  refine i1 ?_
  refine rg ?_
  refine rt hret ?_
  rfl
 |true =>
  rw[ha]at hA hS
  simp only[ZE1]at hS
  refine rx @eQ3 ?_
  refine rg ?_
  refine cl (hA) ?_
  refine cG (hV) ?_
  refine cd (fun hv=>?_) (fun hv=>?_)
  ·rw[if_neg (by simpa using hv)]at hS
   rw[hS]at hret
   refine rg ?_
   refine rt hret ?_
   rfl
  ·rw[if_pos (by simpa using hv)]at hS
   refine rg ?_
   refine cX @hfi (Zgx d s) ?_
   refine rg ?_
   refine cd (fun hf=>?_) (fun hf=>?_)
   ·rw[if_pos (by simpa using hf)]at hS
    rw[hS]at hret
    refine rg ?_
    refine rt hret ?_
    rfl
   ·have hf0:0≤ZF d s d.msgs.length:=by simpa using hf
    rw[if_neg (by omega)]at hS
    rw[hS]at hret
    have hix:=Zc1 hf0
    have hmx:max (ZF d s d.msgs.length) 0=ixS d s:=by omega
    unfold ZQ at hret
    generalize hm:d.msgs.getD (ixS d s) dE=m at *
    rw[hmx]
    refine rx (nd2 @atM (nd2 @hm @eQ2)) ?_
    refine aa ?_
    refine rt hret ?_
    rfl
def mfD(q:Str)(no:Int):D:=.iface 44 (.agg [.str q,.int .i64 no])
def mfR(q:Str)(no:Int):Res:=if no=0 then .ret (.tup []) else .panic (mfD q no)
theorem Zdl(fine q no st):Zb ZEA 74 [.bool fine,.str q,.int .i64 no] st fun r S=>S=st∧r=if fine then .ret (.tup []) else .panic (mfD q no):=by
 refine Zc (cR 74 f74) fun F hF=>?_
 refine rg ?_
 refine cd (fun h=>?_) (fun h=>?_)
 ·have hf:fine=false:=by simpa using h
  refine rg ?_
  refine Zk6 rfl rfl rfl trivial ?_
  exact hF.pan st (ZEB _) ⟨rfl,by rw[hf];rfl⟩
 ·have hf:fine=true:=by simpa using h
  refine ZD ?_
  exact hF.fin (.tup []) st rfl trivial (ZEF _) (ZEB _) ⟨rfl,by rw[hf];rfl⟩
theorem ZsM(a b q st):Zb ZEA 120 [.int .i64 a,.int .i64 b,.str q] st fun r S=>S=st∧r=mfR q (Kg a b):=by
 refine Zc (cR 120 f120) fun F hF=>?_
 have hE:=Kg.eq_1 a b
 refine rg ?_
 refine cV (Zdl (dC (b≤a)) q 4 st) ?_ ?_
 ·rintro d S ⟨hS,hr⟩
  obtain rfl:=hS.symm
  by_cases h1:b≤a
  ·rw[decide_eq_true h1,if_pos rfl]at hr
   cases hr
   rw[if_neg (by simp;omega)]at hE
   refine gR0 ?_
   refine rg ?_
   refine cV (Zdl (dC (a≤b)) q 5 st) ?_ ?_
   ·rintro d S ⟨hS,hr⟩
    obtain rfl:=hS.symm
    by_cases h2:a≤b
    ·rw[decide_eq_true h2,if_pos rfl]at hr
     cases hr
     rw[if_neg (by simp;omega)]at hE
     refine gR0 ?_
     exact hF.fin (.tup []) st rfl trivial (ZEF _) (ZEB _) ⟨rfl,by rw[hE];rfl⟩
    ·rw[decide_eq_false h2,if_neg (by simp)]at hr
     cases hr
   ·rintro d S ⟨hS,hr⟩
    obtain rfl:=hS.symm
    by_cases h2:a≤b
    ·rw[decide_eq_true h2,if_pos rfl]at hr
     cases hr
    ·rw[decide_eq_false h2,if_neg (by simp)]at hr
     cases hr
     rw[if_pos (by simp;omega)]at hE
     exact hF.pan st (ZEB _) ⟨rfl,by rw[hE];rfl⟩
  ·rw[decide_eq_false h1,if_neg (by simp)]at hr
   cases hr
 ·rintro d S ⟨hS,hr⟩
  obtain rfl:=hS.symm
  by_cases h1:b≤a
  ·rw[decide_eq_true h1,if_pos rfl]at hr
   cases hr
  ·rw[decide_eq_false h1,if_neg (by simp)]at hr
   cases hr
   rw[if_pos (by simp;omega)]at hE
   exact hF.pan st (ZEB _) ⟨rfl,by rw[hE];rfl⟩
def WY(g:Nat→Str×Int):List Nat→Option (Str×Int)
 | []=>nO
 |i::r=>if (g i).2=0 then WY g r else sO (g i)
theorem ZkE{g}:∀{l},WY g l=nO→∀i∈l,(g i).2=0
 | [],_,i,hi=>by simp at hi
 |a::r,h,i,hi=>by
  simp only[WY]at h
  split at h
  ·rename_i h0
   rcases List.mem_cons.1 hi with rfl|hi
   ·exact h0
   ·exact ZkE h i hi
  ·simp at h
def Q6(mis:Msg→Val→Str→Str×Int)(d:Dfn)(of:Str)(x:Val)(q:Str):Str×Int :=
 if x.parts.length=1 then mis (ZQ d of) (x.parts.getD 0 dE) (ZV q (ZY x.parts 0)) else (q,6)
def Ws(mis:Msg→Val→Str→Str×Int)(len:Msg→Val→Int)(d:Dfn)(f:Fld)(x:Val)(q:Str)(l:List (Str×Int)):Str×Int :=
 if f.kind=1∨f.kind=3 then (if x.int<f.low∨f.high<x.int then (q,3) else (q,0))
 else if f.kind=4 then (q,Kg x.bytes.length (ZaN f.size l))
 else if f.kind=5 then (if f.high<x.bytes.length then (q,5) else if x.bytes.any (fun c=>dC ((c.toNat:Int)=f.low)) then (q,6) else (q,0))
 else if f.kind=6 then (if K2 x.hdrs=false then (q,6) else if f.high<(Za7 x.hdrs).length then (q,5) else (q,0))
 else if f.kind=7 then (if Kg x.parts.length (ZaN f.size l)=0 then (WY (fun i=>mis (ZQ d f.of) (x.parts.getD i dE) (ZV q (ZY x.parts i))) (ZEO x.parts.length)).getD (q,0) else (q,Kg x.parts.length (ZaN f.size l)))
 else if f.kind=8 then Q6 mis d f.of x q
 else if f.kind=9 then (if QN f (WG f.tag l)<0 then (q,9) else Q6 mis d (f.cases.getD (QN f (WG f.tag l)).toNat dE).of x q)
 else if f.kind=12 then (if (Q6 mis d f.of x q).2=0 then (q,Kg (len (ZQ d f.of) (x.parts.getD 0 dE)) (ZaN f.size l)) else Q6 mis d f.of x q)
 else (q,0)
def Yd(d:Dfn):Nat→Msg→Val→Str→Str×Int
 |0,_,_,p=>(p,6)
 |n+1,m,v,p =>
  if dC (v.name=m.name)&&(dC (v.int=0)&&(dC (v.bytes.length=0)&&(dC (v.hdrs.length=0)&&ZaA m v.parts))) then
   (WY (fun k=>if Y1 ((vfs m.fields).getD k dE).kind (v.parts.getD k dE) then (ZV p (ZY v.parts k),6)
    else Ws (Yd d n) (lenS d n) d ((vfs m.fields).getD k dE) (v.parts.getD k dE) (ZV p (ZY v.parts k)) (Qz m v.parts)) (ZEO v.parts.length)).getD ([],0)
  else (p,6)
theorem ZuG{d s}(h:0≤ZF d s d.msgs.length):(ZQ d s).name=s:=by
 have h1:=Zc1 h
 unfold ZF at h h1
 have h2:=(JX h).1
 rw[h1.1]at h2
 rw[ZFa]at h2
 simpa[ZQ]using h2
theorem ZsE{d}:∀{n m v p},(Yd d n m v p).2=0→v.name=m.name
 |0,_,_,_,h=>by simp[Yd]at h
 |n+1,m,v,p,h=>by
  simp only[Yd]at h
  split at h
  ·rename_i hc
   simp only[ZEK,decide_eq_true_eq]at hc
   exact hc.1
  ·simp at h
structure Zh9(d:Dfn)(f:Fld):Prop where
 kind:1≤f.kind∧f.kind≤12
 ref:f.kind=7∨f.kind=8∨f.kind=12→0≤ZF d f.of d.msgs.length
 cas:f.kind=9→∀c∈f.cases,0≤ZF d c.of d.msgs.length
def ZtT(d:Dfn):Prop:=∀m∈d.msgs,∀f∈m.fields,Zh9 d f
theorem ZtT.of{d}(h:ZtT d)(s):∀f∈(ZQ d s).fields,Zh9 d f:=by
 unfold ZQ
 by_cases hi:ixS d s<d.msgs.length
 ·exact h _ (ZA hi)
 ·rw[show d.msgs.getD (ixS d s) dE=dE by simp[ZES,ZFi (Nat.le_of_not_lt hi)]]
  intro f hf;simp[show(dE:Msg).fields=[] from rfl]at hf
theorem ZkF{g r}:∀{l},WY g l=sO r→¬r.2=0
 | [],h=>by simp[WY]at h
 |a::t,h=>by
  simp only[WY]at h
  split at h
  ·exact ZkF h
  ·rename_i h0
   simp only[ZEz]at h
   rw[←h];exact h0
theorem Zfd{g n q}(h:((WY g (ZEO n)).getD q).2=0):∀i,i<n→(g i).2=0:=by
 cases hf:WY g (ZEO n) with
 |none=>exact fun i hi=>ZkE hf i (List.mem_range.2 hi)
 |some r=>rw[hf]at h;exact absurd h (ZkF hf)
theorem ZwU{v}(h:Qo v=true):ZdU v.hdrs:=by
 unfold Qo at h
 simp only[ZEK,Bool.not_eq_true']at h
 intro x hx
 have h1:=h.2
 have h2:=List.any_eq_false.1 h1 x hx
 unfold Zc0 at h2
 simp only[ZEY,decide_eq_true_eq,not_or]at h2
 omega
theorem Zoc{mis d of x q}(h:(Q6 mis d of x q).2=0):x.parts.length=1∧(mis (ZQ d of) (x.parts.getD 0 dE) (ZV q (ZY x.parts 0))).2=0:=by
 unfold Q6 at h
 split at h
 ·rename_i h1;exact⟨h1,h⟩
 ·simp at h
theorem Zwn{mis len d f x q l}(hf:Zh9 d f)(hv:W7 f=true)(hu:Y1 f.kind x=false)(h:(Ws mis len d f x q l).2=0):
  ∀y∈x.parts,∃of q',0≤ZF d of d.msgs.length∧(mis (ZQ d of) y q').2=0:=by
 intro y hy
 have hpos:0<x.parts.length:=List.length_pos_iff.2 fun e=>by rw[e]at hy;simp at hy
 have h7:7≤f.kind:=by
  unfold Y1 at hu
  simp only[Bool.or_eq_false_iff,Bool.and_eq_false_iff,Bool.not_eq_false',decide_eq_true_eq,decide_eq_false_iff_not]at hu
  have:=hu.2
  omega
 have hk:f.kind=7∨f.kind=8∨f.kind=9∨f.kind=12:=by
  have:=hf.kind
  unfold W7 at hv
  simp only[ZEK,Bool.not_eq_true',decide_eq_false_iff_not]at hv
  omega
 have one:∀of,0≤ZF d of d.msgs.length→(Q6 mis d of x q).2=0→∃of q',0≤ZF d of d.msgs.length∧(mis (ZQ d of) y q').2=0:=fun of h0 h1=>by
  obtain⟨hl,h2⟩:=Zoc h1
  refine⟨of,ZV q (ZY x.parts 0),h0,?_⟩
  rw[show y=x.parts.getD 0 dE by
   obtain⟨i,hi,rfl⟩:=ZEV hy
   have:i=0:=by omega
   subst this;simp[ZES,hi]]
  exact h2
 unfold Ws at h
 rw[if_neg (by omega),if_neg (by omega),if_neg (by omega),if_neg (by omega)]at h
 rcases hk with hk|hk|hk|hk
 ·rw[if_pos hk]at h
  split at h
  ·obtain⟨i,hi,rfl⟩:=ZEV hy
   have h1:=Zfd h i hi
   exact⟨f.of,_,hf.ref (by omega),by simpa[ZES,hi]using h1⟩
  ·rename_i hne;exact absurd h hne
 ·rw[if_neg (by omega),if_pos hk]at h
  exact one _ (hf.ref (by omega)) h
 ·rw[if_neg (by omega),if_neg (by omega),if_pos hk]at h
  split at h
  ·simp at h
  ·rename_i hc
   have hlt:=WM (fun c:YX=>dC (c.low≤WG f.tag l)&&dC (WG f.tag l≤c.high)) f.cases
   exact one _ (hf.cas hk _ (ZA (by unfold QN at hc⊢;omega))) h
 ·rw[if_neg (by omega),if_neg (by omega),if_neg (by omega),if_pos hk]at h
  split at h
  ·rename_i h1;exact one _ (hf.ref (by omega)) h1
  ·rename_i h1;exact absurd h h1
theorem Zrj{d}(hd:ZtT d):∀(n m v p),(∀f∈m.fields,Zh9 d f)→Y3 v=true→(Yd d n m v p).2=0→Zp4 d n m v
 |0,_,_,_,_,_,h=>by simp[Yd]at h
 |n+1,m,v,p,hm,hv,h=>by
  simp only[Yd]at h
  split at h
  ·rename_i hc
   simp only[ZEK,decide_eq_true_eq]at hc
   have hr:=hc.2.2.2.2
   unfold ZaA at hr
   rw[decide_eq_true_eq]at hr
   have hlen:(vfs m.fields).length=v.parts.length:=by simpa using congrArg List.length hr
   refine⟨hlen,fun k hk=>?_⟩
   have hg:=Zfd h k hk
   have hxm:v.parts.getD k dE∈v.parts:=ZA hk
   have hfm:(vfs m.fields).getD k dE∈vfs m.fields:=ZA (by omega)
   have hfm2:=List.mem_filter.1 hfm
   have hxo:=W0 hv hxm
   have hxn:=JL (K9 hxo)
   have hxt:=ZwU (K9 hxo)
   generalize v.parts.getD k dE=x at *
   generalize (vfs m.fields).getD k dE=f at *
   cases hu:Y1 f.kind x with
   |true=>rw[hu,if_pos rfl]at hg;simp at hg
   |false =>
    rw[hu,if_neg (by simp)]at hg
    refine⟨⟨hu,fun _=>hxn.2.1,fun h6=>⟨?_,hxt⟩⟩,fun y hy=>?_⟩
    ·unfold Ws at hg
     rw[if_neg (by omega),if_neg (by omega),if_neg (by omega),if_pos h6]at hg
     cases hh:K2 x.hdrs with
     |true=>rfl
     |false=>rw[hh,if_pos rfl]at hg;simp at hg
    ·obtain⟨of,q',h0,h1⟩:=Zwn (hm f hfm2.1) hfm2.2 hu hg y hy
     have hn:y.name=of:=by rw[ZsE h1,ZuG h0]
     rw[hn]
     exact⟨h0,Zrj hd n _ y q' (hd.of _) (W0 hxo hy) h1⟩
  ·simp at h
theorem ZfN{g}:∀{a b},(∀i∈a,(g i).2=0)→WY g (a++b)=WY g b
 | [],_,_=>rfl
 |i::a,b,h=>by rw[List.cons_append,WY,if_pos (h i (by simp))];exact ZfN fun k hk=>h k (by simp[hk])
theorem Zmt{g n}(h:∀i,i<n→(g i).2=0):WY g (ZEO n)=nO:=by
 rw[←ZFb (ZEO n),ZfN fun i hi=>h i (List.mem_range.1 hi)];rfl
theorem Zfc{g n j}(hj:j<n)(h:∀i,i<j→(g i).2=0)(h2:¬(g j).2=0):WY g (ZEO n)=sO (g j):=by
 rw[show ZEO n=ZEO j++(j::(List.range' (j+1) (n-(j+1)))) by rw[List.range_eq_range',List.range_eq_range',show n=j+(n-(j+1)+1) by omega,←List.range'_append_1,List.range'_succ];simp;omega,ZfN fun i hi=>h i (List.mem_range.1 hi),WY,if_neg h2]
theorem ZA3{L s}(l i):qv L s (.iaddr 1) [.d (ZL l),.d (.int .i64 i)]=sO (0≤i∧i<l.length,.d (.ep (u8C (l.getD i.toNat dE)) 0)):=rfl
def ZaW(d:Dfn)(n:Nat)(m:Msg)(v:Val)(p:Str)(k:Nat):Str×Int :=
 if Y1 ((vfs m.fields).getD k dE).kind (v.parts.getD k dE) then (ZV p (ZY v.parts k),6)
 else Ws (Yd d n) (lenS d n) d ((vfs m.fields).getD k dE) (v.parts.getD k dE) (ZV p (ZY v.parts k)) (Qz m v.parts)
theorem Zez(d n m v p):Yd d (n+1) m v p =
  if dC (v.name=m.name)&&(dC (v.int=0)&&(dC (v.bytes.length=0)&&(dC (v.hdrs.length=0)&&ZaA m v.parts))) then (WY (ZaW d n m v p) (ZEO v.parts.length)).getD ([],0) else (p,6):=rfl
structure ZbE(d:Dfn)(j i:Nat)(m:Msg)(f:Fld):Prop where
 nm:YE f.name=true
 fresh:Ja m f.name i<0
 kind:1≤f.kind∧f.kind≤12
 ks:Zav d j m i f=0
theorem ZyE{d j i m f}(h:K1 d j m i f=0):ZbE d j i m f:=by
 unfold K1 at h
 split at h;· omega
 rename_i h1
 split at h;· omega
 rename_i h2
 split at h;· omega
 rename_i hk
 split at h;· omega
 simp only[ZEY,decide_eq_true_eq,not_or,Int.not_lt]at hk
 exact⟨by simpa using h1,by omega,by omega,h⟩
theorem ZbH.at_{d j m}(h:ZbH d j m){i}(hi:i<m.fields.length):ZbE d j i m (m.fields.getD i dE):=ZyE (h.field i hi)
def NmU(l:List Fld):Prop:=∀a b,a<b→b<l.length→(l.getD a dE).name≠(l.getD b dE).name
theorem ZbH.nmU{d j m}(h:ZbH d j m):NmU m.fields:=fun a b ha hb=>by
 have h1:=ZbU (h.at_ hb).fresh ((m.fields.take b).getD a dE) (ZA (by simp;omega))
 rw[Q8 ha]at h1
 simpa using h1
theorem ZsO{fs s}(h:Zda fs s=0):Z1 s=true∧∀t∈s.terms,∃j,j<fs.length∧(fs.getD j dE).name=t.field∧Yv (fs.getD j dE)=true:=by
 unfold Zda at h
 split at h;· omega
 rename_i hv
 split at h;· omega
 rename_i ha
 refine⟨by simpa using hv,fun t ht=>?_⟩
 have h1:=List.any_eq_false.1 (Bool.eq_false_iff.2 ha) t ht
 unfold Ji WA at h1
 split at h1
 ·simp at h1
 ·rename_i h2
  split at h1
  ·rename_i h3
   have h4:=JX (show 0≤Zg (fun f=>dC (f.name=t.field)) fs by omega)
   have h5:=WM (fun f:Fld=>dC (f.name=t.field)) fs
   exact⟨_,by omega,by simpa using h4.1,h3⟩
  ·simp at h1
theorem Zx3{n:Int}(h:n≤32):(2:Int) ^ n.toNat≤4294967296:=by
 have h1:2 ^ n.toNat≤2 ^ 32:=Nat.pow_le_pow_right (by omega) (by omega)
 have h2:(2:Int) ^ n.toNat=((2 ^ n.toNat:Nat):Int):=(Int.natCast_pow 2 n.toNat).symm
 generalize 2 ^ n.toNat=p at *
 omega
theorem ZiO{f}(h:ZaJ f=0):(1≤f.bits∧f.bits≤32)∧0≤f.low∧f.low≤ZlR f∧ZlR f<4294967296:=by
 unfold ZaJ ZdZ ZrA at h
 split at h;· omega
 rename_i h1
 split at h;· omega
 rename_i h2
 simp only[ZEY,decide_eq_true_eq,not_or]at h1 h2
 have:=Zx3 (n:=f.bits) (by omega)
 omega
theorem ZbE.num{d j i m f}(h:ZbE d j i m f)(hn:Yv f=true):0≤f.low∧(f.kind=2→f.low<34359738368)∧(f.kind≠2→f.high<34359738368):=by
 have hk:=h.ks
 unfold Yv at hn
 simp only[ZEK,decide_eq_true_eq]at hn
 unfold Zav at hk
 rcases(by omega:f.kind=1∨f.kind=2∨f.kind=3) with h1|h1|h1<;>simp only[h1,Int.reduceEq,if_true,if_false]at hk
 ·have:=ZiO hk
  unfold ZlR at this
  rw[if_neg (by omega)]at this
  omega
 ·have:=ZiO hk
  unfold ZlR at this
  rw[if_pos h1]at this
  omega
 ·by_cases hw:Zqj f.low f.high=true
  ·unfold Zqj at hw
   simp only[ZEK,decide_eq_true_eq]at hw
   omega
  ·rw[if_neg hw]at hk;omega
theorem ZbE.size{d j i m f}(h:ZbE d j i m f)(hi:i<m.fields.length)(hz:f.kind=4∨f.kind=7∨f.kind=12):Z1 f.size=true∧∀t∈f.size.terms,∃k,k<i∧(m.fields.getD k dE).name=t.field∧Yv (m.fields.getD k dE)=true:=by
 have hs:Zda (m.fields.take i) f.size=0:=by
  have hk:=h.ks
  unfold Zav at hk
  rcases hz with hz|hz|hz<;>simp only[hz,Int.reduceEq,if_true,if_false]at hk
  ·exact hk
  ·split at hk
   ·omega
   ·exact hk
  ·split at hk
   ·omega
   ·split at hk
    ·omega
    ·exact hk
 obtain⟨hv,ht⟩:=ZsO hs
 refine⟨hv,fun t h1=>?_⟩
 obtain⟨k,h2,h3,h4⟩:=ht t h1
 have hk:k<i:=by rw[ZEU]at h2;omega
 rw[Q8 hk]at h3 h4
 exact⟨k,hk,h3,h4⟩
theorem ZbE.tag{d j i m f}(h:ZbE d j i m f)(hi:i<m.fields.length)(h9:f.kind=9):∃k,k<i∧(m.fields.getD k dE).name=f.tag∧Yv (m.fields.getD k dE)=true:=by
 have hk:=h.ks
 unfold Zav at hk
 simp only[h9,Int.reduceEq,if_true,if_false]at hk
 split at hk
 ·omega
 ·rename_i hb
  unfold Zil at hb
  simp only[ZEY,decide_eq_true_eq,Bool.not_eq_true',not_or]at hb
  have h4:=JX (show 0≤Ja m f.tag i by omega)
  have h5:=WM (fun g:Fld=>dC (g.name=f.tag)) (m.fields.take i)
  rw[ZEU,show Zg (fun g:Fld=>dC (g.name=f.tag)) (m.fields.take i)=Ja m f.tag i from rfl]at h5
  have h6:=h4.1
  rw[show(Zg (fun g=>dC (g.name=f.tag)) (m.fields.take i))=Ja m f.tag i from rfl,Q8 (by omega)]at h6
  exact⟨(Ja m f.tag i).toNat,by omega,by simpa using h6,by simpa using hb.2.1⟩
theorem ZbE.fok{d j i m f}(h:ZbE d j i m f):FOk f:=by
 have hk:=h.ks
 unfold Zav at hk
 refine⟨fun h1=>?_,fun h1=>?_,fun h1=>?_⟩
 ·have:ZaJ f=0:=by rcases h1 with h1|h1<;>simp only[h1,Int.reduceEq,if_true,if_false]at hk<;>exact hk
  have:=(ZiO this).1
  omega
 ·simp only[h1,Int.reduceEq,if_true,if_false]at hk
  split at hk
  ·omega
  ·rename_i hp
   unfold ZmT at hp
   unfold Zhn
   simp only[ZEK,ZEY,decide_eq_true_eq,Bool.not_eq_true',decide_eq_false_iff_not]at hp⊢
   omega
 ·simp only[h1,Int.reduceEq,if_true,if_false]at hk
  split at hk
  ·omega
  ·rename_i hp
   simp only[ZEY,decide_eq_true_eq]at hp
   omega
theorem ZbE.fref{d j i m f}(h:ZbE d j i m f)(hf:ZtW d j f):Zh9 d f:=by
 refine⟨h.kind,fun h1=>(hf.ref f.of ?_).1,fun h1 c hc=>(hf.ref c.of ?_).1⟩
 ·unfold Yr Zaz
  rw[if_pos (by simp;omega)]
  simp
 ·unfold Yr
  rw[if_pos h1,List.mem_append]
  exact .inr (List.mem_map_of_mem hc)
theorem Qj.dok{d}(h:Qj d):DOk d:=fun m hm=>by
 obtain⟨j,hj,rfl⟩:=Zey hm
 refine⟨(h.msg hj).many,fun f hf=>?_⟩
 obtain⟨i,hi,rfl⟩:=Zey hf
 exact((h.msg hj).at_ hi).fok
theorem Qj.dref{d}(h:Qj d):ZtT d:=fun m hm f hf=>by
 obtain⟨j,hj,rfl⟩:=Zey hm
 obtain⟨i,hi,rfl⟩:=Zey hf
 exact((h.msg hj).at_ hi).fref (h.fld hj hi)
theorem ZaR:∀{l k},k<(vfs l).length→∃a,a<l.length∧W7 (l.getD a dE)=true∧k=(vfs (l.take a)).length∧(vfs l).getD k dE=l.getD a dE
 | [],k,h=>by simp[vfs]at h
 |f::r,k,h=>by
  by_cases hv:W7 f=true
  ·have e:vfs (f::r)=f::vfs r:=by unfold vfs;rw[List.filter_cons,if_pos hv]
   cases k with
   |zero=>exact⟨0,by simp,by simpa using hv,rfl,by rw[e];rfl⟩
   |succ k =>
    rw[e]at h
    obtain⟨a,h1,h2,h3,h4⟩:=ZaR (l:=r) (k:=k) (by simpa using h)
    refine⟨a+1,by simpa using h1,by simpa using h2,?_,by rw[e];simpa using h4⟩
    rw[List.take_succ_cons,show vfs (f::r.take a)=f::vfs (r.take a) by unfold vfs;rw[List.filter_cons,if_pos hv],ZER,h3]
  ·have e:∀t,vfs (f::t)=vfs t:=fun t=>by unfold vfs;rw[List.filter_cons,if_neg hv]
   rw[e]at h
   obtain⟨a,h1,h2,h3,h4⟩:=ZaR (l:=r) (k:=k) h
   exact⟨a+1,by simpa using h1,by simpa using h2,by rw[List.take_succ_cons,e];exact h3,by rw[e];simpa using h4⟩
theorem Zkf{l:List Fld}{a b}(h:a<b)(hb:b<l.length)(hv:W7 (l.getD a dE)=true):(vfs (l.take a)).length<(vfs (l.take b)).length:=by
 have h1:=(ZnI (l:=l.take b) (i:=a) (k:=(vfs (l.take a)).length) (by rw[List.take_take,Nat.min_eq_left (by omega)]) (by simp;omega) (by rw[Q8 h];exact hv)).1
 exact h1
def Zaa(l:List Fld)(ps:List Val)(i:Nat):Int:=if (l.getD i dE).kind=2 then (l.getD i dE).low else (ps.getD (vfs (l.take i)).length dE).int
theorem ZdF{f}(h:Yv f=true)(h2:¬f.kind=2):W7 f=true:=by
 unfold Yv at h
 unfold W7
 simp only[ZEK,decide_eq_true_eq,Bool.not_eq_true',decide_eq_false_iff_not]at h⊢
 omega
theorem NmU.tail{f r}(h:NmU (f::r)):NmU r:=fun a b ha hb=>by
 have:=h (a+1) (b+1) (by omega) (by simpa using hb)
 simpa using this
theorem ZgI:∀{l ps i},i<l.length→NmU l→Yv (l.getD i dE)=true→(W7 (l.getD i dE)=true→(vfs (l.take i)).length<ps.length)→WG (l.getD i dE).name (ZcO l ps)=Zaa l ps i
 | [],_,_,h,_,_,_=>by simp at h
 |f::r,ps,0,_,_,hn,hp=>by
  simp only[List.getD_cons_zero]at hn hp⊢
  unfold Zaa ZcO
  simp only[List.getD_cons_zero]
  by_cases h2:f.kind=2
  ·rw[if_pos h2,if_pos h2]
   simp[WG]
  ·have hv:=ZdF hn h2
   have h0:0<ps.length:=by simpa[vfs]using hp hv
   rw[if_neg h2,if_neg h2,if_pos hv,hn,if_pos (by simp;omega)]
   simp[WG,vfs]
 |f::r,ps,i+1,hi,hu,hn,hp=>by
  have hne:=hu 0 (i+1) (by omega) hi
  simp only[List.getD_cons_zero,List.getD_cons_succ]at hn hp hne⊢
  have hu2:=hu.tail
  unfold ZcO
  have e1:WG (r.getD i dE).name ((if f.kind=2 then [(f.name,f.low)] else [])++(if W7 f then (if (dC (0<(ps.length:Int))&&Yv f) then [(f.name,(ps.getD 0 dE).int)] else [])++ZcO r (ps.drop 1) else ZcO r ps))=WG (r.getD i dE).name (if W7 f then ZcO r (ps.drop 1) else ZcO r ps):=by
   have sk:∀{c:Prop} [Decidable c] (x:Int) (t:List (Str×Int)),WG (r.getD i dE).name ((if c then [(f.name,x)] else [])++t)=WG (r.getD i dE).name t:=fun x t=>by
    split
    ·exact if_neg hne
    ·rfl
   rw[sk]
   split
   ·rw[sk]
   ·rfl
  rw[e1]
  by_cases hv:W7 f=true
  ·have e:vfs (f::r.take i)=f::vfs (r.take i):=by unfold vfs;rw[List.filter_cons,if_pos hv]
   rw[List.take_succ_cons,e,ZER]at hp
   rw[if_pos hv,ZgI (by simpa using hi) hu2 hn (fun h=>by have:=hp h;rw[ZFh];omega)]
   unfold Zaa
   simp only[List.getD_cons_succ]
   rw[List.take_succ_cons,e,ZER]
   simp[ZES,List.getElem?_drop,Nat.add_comm]
  ·have e:vfs (f::r.take i)=vfs (r.take i):=by unfold vfs;rw[List.filter_cons,if_neg hv]
   rw[List.take_succ_cons,e]at hp
   rw[if_neg hv,ZgI (by simpa using hi) hu2 hn hp]
   unfold Zaa
   simp only[List.getD_cons_succ]
   rw[List.take_succ_cons,e]
theorem Zhl{l ps E s}:∀{n},(∀k,k<n→Yv (l.getD k dE)=true→(l.getD k dE).name≠s)→Zp s (ZcN l ps E n)=Zp s E
 |0,_=>rfl
 |n+1,h=>by
  rw[ZcN]
  split
  ·rename_i hn
   rw[Ku,if_neg (fun e=>h n (by omega) hn e.symm)]
   exact Zhl fun k hk=>h k (by omega)
  ·exact Zhl fun k hk=>h k (by omega)
theorem ZrC{l ps E k}:∀{n},k<n→Yv (l.getD k dE)=true→(∀j,k<j→j<n→(l.getD j dE).name≠(l.getD k dE).name)→Zp (l.getD k dE).name (ZcN l ps E n)=sO (ps.getD k dE).int
 |0,h,_,_=>by omega
 |n+1,h,hn,hu=>by
  rw[ZcN]
  by_cases hk:k=n
  ·subst hk
   rw[if_pos hn,Ku,if_pos rfl]
  ·have ih:=ZrC (E:=E) (ps:=ps) (show k<n by omega) hn (fun j h1 h2=>hu j h1 (by omega))
   split
   ·rw[Ku,if_neg (fun e=>hu n (by omega) (by omega) e.symm)];exact ih
   ·exact ih
theorem ZrB{l k}:∀{n},k<n→(l.getD k dE).kind=2→(∀j,k<j→j<n→(l.getD j dE).name≠(l.getD k dE).name)→Zp (l.getD k dE).name (Zb2 l n)=sO (l.getD k dE).low
 |0,h,_,_=>by omega
 |n+1,h,hn,hu=>by
  rw[Zb2]
  by_cases hk:k=n
  ·subst hk
   rw[if_pos hn,Ku,if_pos rfl]
  ·have ih:=ZrB (show k<n by omega) hn (fun j h1 h2=>hu j h1 (by omega))
   split
   ·rw[Ku,if_neg (fun e=>hu n (by omega) (by omega) e.symm)];exact ih
   ·exact ih
theorem NmU.ne{l}(h:NmU l){a b}(hab:a≠b)(ha:a<l.length)(hb:b<l.length):(l.getD a dE).name≠(l.getD b dE).name:=by
 rcases Nat.lt_or_gt_of_ne hab with h1|h1
 ·exact h a b h1 hb
 ·exact(h b a h1 ha).symm
theorem Zy6{m}(hu:NmU m.fields)(ps){i}(hi:i<m.fields.length)(hn:Yv (m.fields.getD i dE)=true):Zp (m.fields.getD i dE).name (ZcM m ps)=sO (Zaa m.fields ps i):=by
 unfold ZcM Zaa
 by_cases h2:(m.fields.getD i dE).kind=2
 ·rw[if_pos h2,Zhl fun k hk _=>?_]
  ·exact ZrB hi h2 fun j h1 h3=>hu.ne (by omega) h3 hi
  ·obtain⟨a,h3,h4,_,h6⟩:=ZaR hk
   rw[h6]
   refine hu.ne (fun e=>?_) h3 hi
   rw[e]at h4
   unfold W7 at h4
   rw[h2]at h4;simp at h4
 ·have hv:=ZdF hn h2
  obtain⟨h3,h4⟩:=ZnI rfl hi hv
  rw[if_neg h2]
  have h5:=ZrC (l:=vfs m.fields) (ps:=ps) (E:=Zb2 m.fields m.fields.length) h3 (by rw[h4];exact hn) (fun j h6 h7=>by
   obtain⟨a,h8,h9,h10,h11⟩:=ZaR h7
   rw[h11,h4]
   exact hu.ne (fun e=>by rw[e]at h10;omega) h8 hi)
  rw[h4]at h5
  exact h5
theorem ZAn{d j m}(hm:ZbH d j m){n v p k a i}(hi:i<m.fields.length)(hk:k=(vfs (m.fields.take i)).length)(hall:∀j,j<k→(ZaW d n m v p j).2=0)(ha:a<i)(hn:Yv (m.fields.getD a dE)=true):
  0≤Zaa m.fields v.parts a∧Zaa m.fields v.parts a<34359738368:=by
 have h1:=(hm.at_ (show a<m.fields.length by omega)).num hn
 unfold Zaa
 split
 ·rename_i h2
  exact⟨h1.1,h1.2.1 h2⟩
 ·rename_i h2
  have hv:=ZdF hn h2
  obtain⟨h3,h4⟩:=ZnI rfl (show a<m.fields.length by omega) hv
  have h5:=hall _ (by rw[hk];exact Zkf ha hi hv)
  unfold ZaW at h5
  rw[h4]at h5
  generalize v.parts.getD (vfs (m.fields.take a)).length dE=x at *
  generalize m.fields.getD a dE=f at *
  split at h5
  ·simp at h5
  ·unfold Yv at hn
   simp only[ZEK,decide_eq_true_eq]at hn
   unfold Ws at h5
   rw[if_pos (by omega)]at h5
   split at h5
   ·simp at h5
   ·have:=h1.2.2 h2
    omega
theorem Zu1{m}(hu:NmU m.fields){ps}(hr:ZaA m ps=true){k}(hk:k<ps.length):ZY ps k=(ps.getD k dE).name∧(ps.getD k dE).name=((vfs m.fields).getD k dE).name:=by
 unfold ZaA at hr
 rw[decide_eq_true_eq]at hr
 have hlen:(vfs m.fields).length=ps.length:=by simpa using congrArg List.length hr
 have hnm:∀i,i<ps.length→(ps.getD i dE).name=((vfs m.fields).getD i dE).name:=fun i hi=>by
  have h1:((vfs m.fields).map (·.name))[i]?=(ps.map Val.name)[i]?:=by rw[hr]
  simp[hi,hlen]at h1
  simp[ZES,hi,hlen,h1]
 refine⟨?_,hnm k hk⟩
 have h0:Wn ps k=0:=by
  unfold Wn
  rw[List.length_eq_zero_iff,List.filter_eq_nil_iff]
  intro x hx
  obtain⟨i,hi,rfl⟩:=Zey hx
  rw[ZEU]at hi
  rw[Q8 (by omega),hnm i (by omega),hnm k hk]
  obtain⟨a,h1,_,h3,h4⟩:=ZaR (l:=m.fields) (k:=i) (by omega)
  obtain⟨b,h5,_,h7,h8⟩:=ZaR (l:=m.fields) (k:=k) (by omega)
  rw[h4,h8,decide_eq_true_eq]
  exact hu.ne (fun e=>by rw[e]at h3;omega) h1 h5
 unfold ZY
 rw[if_pos h0]
theorem Zc2(a s):(ZV a s).length≤a.length+1+s.length:=by
 unfold ZV;split
 ·omega
 ·simp;omega
theorem ZfA{ps}(hp:ps.length≤5000)(hn:∀y∈ps,y.name.length≤32){k}(hk:k<ps.length):(ZY ps k).length≤5040:=by
 have h1:=hn _ (ZA hk)
 have h2:=Zgk ps k
 have h3:=ZgX (Wn ps k)
 unfold ZY;split
 ·omega
 ·simp only[ZEM,ZER,List.length_nil];omega
structure VOk(v:Val):Prop where
 ok:Y3 v=true
 wt:wtN v≤5100
theorem VOk.part{v x}(h:VOk v)(hx:x∈v.parts):VOk x:=⟨W0 h.ok hx,Nat.le_trans (Zso hx) h.wt⟩
theorem VOk.few{v}(h:VOk v):v.parts.length≤5000:=by
 have h1:=Zj1 v
 have h2:=h.wt
 have h3:v.parts.length≤nodesL v.parts:=by
  induction v.parts with
  |nil=>simp
  |cons x r ih=>have:=WN x;simp only[ZER,nodesL];omega
 have h4:=WN v
 omega
theorem VOk.node{v}(h:VOk v):(1≤v.name.length∧v.name.length≤32)∧(0≤v.int∧v.int<34359738368)∧v.bytes.length≤1048576∧ZdU v.hdrs:=by
 have h1:=JL (K9 h.ok)
 exact⟨h1.1,h1.2.1,h1.2.2.1,ZwU (K9 h.ok)⟩
theorem VOk.name{v}(h:VOk v):∀y∈v.parts,y.name.length≤32:=fun y hy=>(h.part hy).node.1.2
theorem ZgC(l)(hl:l.length≤140737488351232)(st):Zb ZEA 39 [ZL l] st (fun r s=>r=.ret (ZL l)∧s=st):=by
 refine Zc (cR 39 f39) fun F hF=>?_
 by_cases h0:l.length=0
 ·have hl0:l=[]:=List.eq_nil_of_length_eq_zero h0
  subst hl0
  refine Zdt 0 rfl ?_ fun b off cap=>?_
  ·skip
   refine rx (nd2 @ZL.eq_1 @eQ1) ?_
   refine rg ?_
   refine i1 ?_
   refine rg ?_
   exact hF.ret _ st rfl (by trivial) (QF (Kl fun b h=>by cases h)) (ZEB _) ⟨rfl,rfl⟩
  ·skip
   refine rx (nd2 @ZL.eq_1 @eQ1) ?_
   refine rg ?_
   refine i0 ?_
   refine rg ?_
   refine Zds (s:=st) (t:=.full) (m:=0) (row2:=fun _=>[]) rfl rfl rfl rfl rfl (by trivial) (by trivial) (fun g w v h=>Zfo h) trivial (by decide) (by unfold big;decide) fun t1 ht1=>?_
   refine gR0 ?_
   exact hF.ret _ st rfl (by trivial) (QF ((ZX.nil (f:=u8C)).le rfl)) (Y0 ht1) ⟨rfl,rfl⟩
 ·skip
  refine rx (nd2 @ZL.eq_1 @eQ1) ?_
  refine rg ?_
  refine aa ?_
  refine i0 ?_
  refine rg ?_
  refine Zaf (st) (.full) rfl rfl rfl rfl rfl rfl (by trivial) (by trivial) rfl (by first|trivial|assumption) (by omega) (by (unfold big;omega)) fun t1 ht1=>Zj ?_
  simp only[Eqs,reduceCtorEq,ZEG,reduceIte,ZED,ZEH,ZEE]
  have hrow:ZX u8C (YJ 0 (Z7 [.int .u8 0] ([].zip [])) fun i=>u8C (l.getD i dE)) ([]++l):=ZX.nil.app ZX.self rfl
  exact hF.ret _ st rfl (by trivial) (QF (hrow.le (by simp))) (Y0 ht1) ⟨rfl,rfl⟩
theorem Zf5(l)(hl:l.length*32≤140737488351232)(st):Zb ZEA 40 [Z9 l] st (fun r s=>r=.ret (Z9 l)∧s=st):=by
 refine Zc (cR 40 f40) fun F hF=>?_
 by_cases h0:l.length=0
 ·have hl0:l=[]:=List.eq_nil_of_length_eq_zero h0
  subst hl0
  refine Zdt 0 rfl ?_ fun b off cap=>?_
  ·skip
   refine rx (nd2 @Z9.eq_1 @eQ1) ?_
   refine rg ?_
   refine i1 ?_
   refine rg ?_
   exact hF.ret _ st rfl (by trivial) (QF (Kl fun b h=>by cases h)) (ZEB _) ⟨rfl,rfl⟩
  ·skip
   refine rx (nd2 @Z9.eq_1 @eQ1) ?_
   refine rg ?_
   refine i0 ?_
   refine rg ?_
   refine Zds (s:=st) (t:=.full) (m:=0) (row2:=fun _=>[]) rfl rfl rfl rfl rfl (by trivial) (by trivial) (fun g w v h=>Zfo h) trivial (by decide) (by unfold big;decide) fun t1 ht1=>?_
   refine gR0 ?_
   exact hF.ret _ st rfl (by trivial) (QF ((ZX.nil (f:=Hdr.cells)).le rfl)) (Y0 ht1) ⟨rfl,rfl⟩
 ·skip
  refine rx (nd2 @Z9.eq_1 @eQ1) ?_
  refine rg ?_
  refine aa ?_
  refine i0 ?_
  refine rg ?_
  refine Zaf (st) (.full) rfl rfl rfl rfl rfl rfl (by trivial) (by trivial) rfl (by first|trivial|assumption) (by omega) (by (unfold big;omega)) fun t1 ht1=>Zj ?_
  simp only[Eqs,reduceCtorEq,ZEG,reduceIte,ZED,ZEH,ZEE]
  have hrow:ZX Hdr.cells (YJ 0 (Z7 [.str [],.str []] ([].zip [])) fun i=>Hdr.cells (l.getD i dE)) ([]++l):=ZX.nil.app ZX.self rfl
  exact hF.ret _ st rfl (by trivial) (QF (hrow.le (by simp))) (Y0 ht1) ⟨rfl,rfl⟩
theorem ZsA(row n):(ZEO n).flatMap row=YT row n:=by
 induction n with
 |zero=>rfl
 |succ n ih=>rw[List.range_succ,List.flatMap_append,ih,YT];simp
theorem ZhW(st):Zb ZEA 41 [ZW []] st (fun r s=>r=.ret (ZW [])∧s=st):=by
 refine Zc (cR 41 f41) fun F hF=>?_
 have hz:∀(tk:Tok) (row:Nat→List D),(D.sl tk 0 5 row).Le (ZW []):=fun tk row g w v hv=>by
  cases hv with
  |sl0 a _ _ _ ht=>exact .sl0 _ _ _ _ (by simp)
  |sl b o n cap s row t f hl hc hp hr one ht hcap hb=>exact .sl _ _ _ _ _ _ _ f (fun i hi=>by omega) hc hp (fun i j d hi=>by omega) one trivial hcap hb
 refine Zdt 0 rfl ?_ fun b off cap=>?_
 ·skip
  refine rg ?_
  refine rg ?_
  refine i1 ?_
  refine rg ?_
  exact hF.ret _ st rfl (by trivial) (QF (Kl fun b h=>by cases h)) (ZEB _) ⟨rfl,rfl⟩
 ·skip
  refine rg ?_
  refine rg ?_
  refine i0 ?_
  refine rg ?_
  refine Zds (s:=st) (t:=.full) (m:=0) (row2:=fun _=>[]) rfl rfl rfl rfl rfl (by trivial) (by trivial) (fun g w v h=>Zfo h) trivial (by decide) (by unfold big;decide) fun t1 ht1=>?_
  refine gR0 ?_
  exact hF.ret _ st rfl (by trivial) (QF (hz _ _)) (Y0 ht1) ⟨rfl,rfl⟩
theorem ZhX(l)(hl:l.length*96≤140737488351232)(hp:0<l.length)(st):Zb ZEA 41 [ZW l] st fun r S=>∃b c X,st b=nO∧l.length≤c∧r=.ret (.msl b 0 l.length c 5)∧S=st.upd b (.cells (YT (Zb5 l) l.length++X)):=by
 refine Zc (cR 41 f41) fun F hF=>?_
 have hfl:=ZsA (Zb5 l) l.length
 refine rx @ZW.eq_1 ?_
 refine rg ?_
 refine aa ?_
 refine i0 ?_
 refine rg ?_
 refine Zs5 rfl rfl rfl rfl rfl rfl (by trivial) (by trivial) (by exact hp) (by omega) (by unfold big;omega) fun b bc hb hcb=>Zj ?_
 simp only[Eqs,reduceCtorEq,ZEG,reduceIte,ZED,ZEH,ZEE]
 rw[hfl]
 exact hF.ret _ _ rfl (by trivial) (ZEF _) (ZEB _) ⟨b,bc,_,hb,hcb,rfl,rfl⟩
structure CpI(T A:St)(v:Val)(x:Nat)(row:Nat→List D)(f:Nat→List Nat)(X:List D)(i:Nat):Prop where
 b:A x=some (.cells (YT row v.parts.length++X))
 x0:T x=none
 done:∀j,j<i→j<v.parts.length→MT A (v.parts.getD j default) (row j) (f j)
 rest:∀j,i≤j→j<v.parts.length→row j=(v.parts.getD j default).cells
 n:∀j,j<i→x∉f j
 fr:∀j,j<i→∀y∈f j,T y=none
 d:∀j k,j<i→k<i→j≠k→∀y∈f j,y∉f k
 out:∀y,y≠x→(∀j,j<i→y∉f j)→A y=T y
theorem CpI.len{T A v x row f X i}(h:CpI T A v x row f X i):∀j,j<v.parts.length→(row j).length=5:=fun j hj=>by
 by_cases hi:j<i
 ·exact(h.done j hi hj).len
 ·rw[h.rest j (by omega) hj];exact Val.len _
theorem Zf4{c d}(h:c.length=d.length):Zu c 0 d=d:=by
 unfold Zu;rw[List.take_zero,Nat.zero_add,List.drop_eq_nil_of_le (by omega)];simp
theorem CpI.step{T A v x row f X i}(h:CpI T A v x row f X i)(hi:i<v.parts.length){S c fp}(hm:MT S (v.parts.getD i dE) c fp)(hf:∀y∈fp,A y=nO)(ho:∀y,y∉fp→S y=A y):CpI T (S.upd x (.cells (Zu (YT row v.parts.length++X) (i*5) c))) v x (fun j=>if j=i then c else row j) (fun j=>if j=i then fp else f j) X (i+1):=by
 have hx:x∉fp:=fun hx=>by have:=hf x hx;rw[h.b]at this;simp at this
 have hj:∀j,j<i→∀y∈f j,y∉fp:=fun j hj y hy hyf=>by
  obtain⟨ds,hds⟩:=(h.done j hj (by omega)).live y hy
  have:=hf y hyf;rw[hds]at this;simp at this
 have hne:∀{y:Nat},y≠x→(S.upd x (.cells (Zu (YT row v.parts.length++X) (i*5) c))) y=S y:=fun hy=>ZEJ _ _ hy
 refine⟨?_,h.x0,fun j hj1 hj2=>?_,fun j hj1 hj2=>?_,fun j hj1=>?_,fun j hj1 y hy=>?_,fun j k hj1 hk1 hjk y hy=>?_,fun y hy hyf=>?_⟩
 ·rw[ZEI]
  have:=Ziy X 0 c (by rw[hm.len];decide) (fun j hj=>h.len j hj) hi
  rw[Nat.add_zero]at this
  rw[this,Zf4 (by rw[h.len i hi,hm.len])]
 ·by_cases e:j=i
  ·subst e;rw[if_pos rfl,if_pos rfl]
   exact hm.mono fun y hy=>hne fun e=>hx (e▸hy)
  ·rw[if_neg e,if_neg e]
   refine(h.done j (by omega) hj2).mono fun y hy=>?_
   rw[hne (fun e2=>h.n j (by omega) (e2▸hy))]
   exact ho y (hj j (by omega) y hy)
 ·rw[if_neg (by omega)];exact h.rest j (by omega) hj2
 ·by_cases e:j=i
  ·rw[if_pos e];exact hx
  ·rw[if_neg e];exact h.n j (by omega)
 ·by_cases e:j=i
  ·rw[if_pos e]at hy
   have h1:=hf y hy
   rw[h.out y (fun e2=>hx (e2▸hy)) (fun k hk hyk=>hj k hk y hyk hy)]at h1
   exact h1
  ·rw[if_neg e]at hy;exact h.fr j (by omega) y hy
 ·by_cases e:j=i
  ·rw[if_pos e]at hy
   rw[if_neg (by omega)]
   exact fun hyk=>hj k (by omega) y hyk hy
  ·rw[if_neg e]at hy
   by_cases e2:k=i
   ·rw[if_pos e2];exact hj j (by omega) y hy
   ·rw[if_neg e2];exact h.d j k (by omega) (by omega) hjk y hy
 ·have h1:=hyf i (by omega)
  rw[if_pos rfl]at h1
  rw[hne hy,ho y h1]
  refine h.out y hy fun j hj=>?_
  have:=hyf j (by omega)
  rwa [if_neg (by omega)]at this
theorem CpI.fin{T A v x cap row f X}(h:CpI T A v x row f X v.parts.length)(hp:0<v.parts.length)(hc:v.parts.length≤cap):
  ∃fp,MT A v [.str v.name,.int .i64 v.int,ZL v.bytes,Z9 v.hdrs,.msl x 0 v.parts.length cap 5] fp∧(∀y∈fp,T y=nO)∧∀y,y∉fp→A y=T y:=by
 refine⟨x::(ZEO v.parts.length).flatMap f,MN.mt ⟨rfl,h.b,hc,fun j hj=>h.done j hj hj,fun j hj=>h.n j hj,fun j k hj hk=>h.d j k hj hk,rfl⟩ hp,fun y hy=>?_,fun y hy=>?_⟩
 ·simp only[ZFd,List.mem_flatMap,List.mem_range]at hy
  rcases hy with rfl|⟨j,hj,hy⟩
  ·exact h.x0
  ·exact h.fr j hj y hy
 ·simp only[ZFd,List.mem_flatMap,List.mem_range,not_or,not_exists,not_and]at hy
  exact h.out y hy.1 fun j hj=>hy.2 j hj
structure SmV(v:Val):Prop where
 b:v.bytes.length≤2000000
 h:v.hdrs.length≤2000000
 p:v.parts.length≤1000000
theorem VOk.sm{v}(h:VOk v):SmV v:=by
 have h1:=JL (K9 h.ok)
 have h2:=h.wt
 have h3:∀l:List Val,10*l.length≤wtL l:=fun l=>by
  induction l with
  |nil=>simp
  |cons x r ih=>have:=ZcQ x;simp only[wtL,ZER];omega
 have h4:=h3 v.parts
 rw[ZcQ]at h2
 exact⟨by omega,by omega,by omega⟩
def ZAt(v:Val):Prop:=v.bytes.length≤140737488351232∧v.hdrs.length*32≤140737488351232∧v.parts.length*96≤140737488351232
mutual
def ZlD:Val→Prop
 |.mk n i b h p=>ZAt (.mk n i b h p)∧rchL p
def rchL:List Val→Prop
 | []=>True
 |v::r=>ZlD v∧rchL r
end
theorem Zx9{l}:rchL l↔∀x∈l,ZlD x:=by
 induction l with
 |nil=>simp[rchL]
 |cons v r ih=>simp[rchL,ih]
theorem Zr0{v}:ZlD v↔ZAt v∧∀x∈v.parts,ZlD x:=by
 cases v;simp only[ZlD,Zx9];rfl
theorem VOk.rch{v}:VOk v→ZlD v:=by
 induction v using Val.ind with
 |h v ih =>
  intro hv
  have hs:=hv.sm
  have hsb:=hs.b
  have hsh:=hs.h
  have hsp:=hs.p
  exact Zr0.2 ⟨⟨by omega,by omega,by omega⟩,fun x hx=>ih x hx (hv.part hx)⟩
theorem ZoA(v):ZlD v→∀T:St,Zb ZEA 22 [.agg v.cells] T fun r S=>∃c fp,r=.ret (.agg c)∧MT S v c fp∧(∀y∈fp,T y=nO)∧∀y,y∉fp→S y=T y:=by
 induction v using Val.ind with
 |h v ih =>
  intro hv T
  obtain⟨⟨hsb,hsh,hsp⟩,hrp⟩:=Zr0.1 hv
  refine Zc (cR 22 f22) fun F hF=>?_
  rw[v.cells_eq]
  refine rg ?_
  refine rg ?_
  have c9:=(ZgC v.bytes (by omega) T)
  refine cVD (c9) ?_ ?_
  ·rintro dd S ⟨hr,hS⟩
   obtain rfl:=hS.symm
   cases hr
   refine kF ?_
   refine gR0 ?_
   have c9:=(Zf5 v.hdrs (by omega) T)
   refine cVD (c9) ?_ ?_
   ·rintro dd S ⟨hr,hS⟩
    obtain rfl:=hS.symm
    cases hr
    refine kF ?_
    refine gR0 ?_
    by_cases h0:v.parts.length=0
    ·have hnil:v.parts=[]:=List.eq_nil_of_length_eq_zero h0
     rw[hnil]
     refine cVD ((ZhW T)) ?_ ?_
     ·rintro dd S ⟨hr,hS⟩
      obtain rfl:=hS.symm
      cases hr
      refine kF ?_
      refine gR0 ?_
      refine aa ?_
      refine rx @Zct ?_
      refine Zd (Zbs ?_)
      refine rg ?_
      refine i0 ?_
      refine rg ?_
      exact hF.ret _ T rfl (by simp) (ZEF _) (ZEB _) ⟨_,[],rfl,by cases v;simp only[Val.parts]at hnil;subst hnil;exact .leaf _ _ _ _,by simp,fun _ _=>rfl⟩
     ·rintro d S ⟨hr,_⟩
      cases hr
    ·skip
     have c9:=(ZhX v.parts hsp (by omega) T)
     refine cVD (c9) ?_ ?_
     ·rintro dd S ⟨x,c,X,hx,hc,hr,hS⟩
      subst hS
      cases hr
      refine kF ?_
      refine gR0 ?_
      refine aa ?_
      refine rg ?_
      refine Zd (fr (v.parts.length) (fun i Q=>∀row f A,CpI T A v x row f X i→i≤v.parts.length→Q [(1,.loc 1 0),(2,.loc 2 0),(18,.d (.int .i64 v.parts.length)),(19,.d (.int .i64 i))] [(1,[.str v.name,.int .i64 v.int,ZL v.bytes,Z9 v.hdrs,.msl x 0 v.parts.length c 5]),(2,[.str [],.int .i64 0,.nilsl,.nilsl,.nilsl])] A) (fun n ih_key=>?_) fun key=>?_)
      ·intro i hn row f A hA hi
       refine rg ?_
       refine Za (Zq rfl trivial (fun hd=>?_) (fun hd=>?_))
       ·simp only[decide_eq_true_eq]at hd
        have hi':i<v.parts.length:=by omega
        have hpart:=ZdA X hA.len hi'
        unfold part at hpart
        rw[hA.rest i (ZEP _) hi']at hpart
        have hlen:=Zbx hA.len
        have hb:=hA.b
        refine rg ?_
        refine rx (nd2 @hb @hpart) ?_
        refine⟨by omega,by omega,by rw[ZEM,hlen];omega,?_⟩
        refine cVD (ih _ (ZA hi') (hrp _ (ZA hi')) A) ?_ ?_
        ·rintro dd S ⟨cc,fp,hr,hm,hf,ho⟩
         cases hr
         have hSx:S x=A x:=ho x fun hx=>by have:=hf x hx;rw[hb]at this;simp at this
         rw[hb]at hSx
         have hst:=hA.step hi' hm hf ho
         have hcl:=hm.len
         unfold Zu at hst
         rw[hcl]at hst
         refine kF ?_
         refine gQ (nd2 @hSx @hcl) ?_
         refine⟨by omega,by omega,by rw[ZEM,hlen];omega,?_⟩
         refine rg ?_
         refine aa ?_
         refine Zi ?_
         exact ih_key ((v.parts.length)-(i+1)) (by omega) (i+1) rfl _ _ _ hst (by omega)
        ·rintro d S ⟨_,_,hr,_⟩
         cases hr
       ·simp only[decide_eq_false_iff_not]at hd
        obtain rfl:i=v.parts.length:=by omega
        obtain⟨fp,h1,h2,h3⟩:=hA.fin (by omega) hc
        refine rg ?_
        exact hF.ret _ A rfl (by simp) (ZEF _) (ZEB _) ⟨_,fp,rfl,h1,h2,h3⟩
      exact key _ 0 rfl (Zb5 v.parts) (fun _=>[]) _ ⟨ZEI _ _ _,hx,fun j hj=>by omega,fun j _ hj=>Zft hj,fun j hj=>by omega,fun j hj=>by omega,fun j k hj=>by omega,fun y hy _=>ZEJ _ _ hy⟩ (by omega)
     ·rintro d S ⟨_,_,_,_,_,hr,_⟩
      cases hr
   ·rintro d S ⟨hr,_⟩
    cases hr
  ·rintro d S ⟨hr,_⟩
   cases hr
theorem Zdr(v)(hv:VOk v)(T:St):Zb ZEA 22 [.agg v.cells] T fun r S=>∃c fp,r=.ret (.agg c)∧MT S v c fp∧(∀y∈fp,T y=nO)∧∀y,y∉fp→S y=T y:=ZoA v hv.rch T
abbrev Znt(l:List Str):D:=slD 1 Zbp l
theorem ZgD(l)(hl:l.length≤1000000)(f st)(hf:∀x∈l,VT ZEA f [.str x] st (.bool false) st):ZK ZEA 216 [Znt l,f] st (.int .i64 (-1)) st:=by
 refine ZB (cR 216 f216) fun _ F hret=>?_
 refine rg ?_
 refine rx @eQ1 ?_
 refine Zd (fr (l.length) (fun i Q=>i≤l.length→Q [(0,.d (Znt l)),(1,.d f),(7,.d (.int .i64 l.length)),(8,.d (.int .i64 i))] [] st) (fun n ih_key=>?_) fun key=>?_)
 ·intro i hn hi
  refine rg ?_
  refine Za (Zq rfl trivial (fun h1=>?_) (fun h1=>?_))
  ·simp at h1
   have hfi:=hf _ (ZA h1)
   refine rg ?_
   refine rx (nd2 @eQ1 @Zbp.eq_1) ?_
   refine aa ?_
   refine cW (hfi) ?_
   refine i0 ?_
   refine rg ?_
   refine aa ?_
   refine Zi ?_
   exact ih_key ((l.length)-(i+1)) (by omega) (i+1) rfl (by omega)
  ·refine rg ?_
   exact hret rfl (by trivial) (ZEF _) (ZEB _)
 exact key _ 0 rfl (by omega)
theorem Zf6(l)(hl:l.length≤1000000)(f st)(hf:∀x∈l,VT ZEA f [.str x] st (.bool false) st):ZK ZEA 169 [Znt l,f] st (Znt l) st:=by
 refine ZB (cR 169 f169) fun _ F hret=>?_
 have hix:=ZgD l hl f st hf
 refine rg ?_
 refine rg ?_
 refine ct (hix) ?_
 refine aa ?_
 refine rg ?_
 refine i1 ?_
 refine rg ?_
 exact hret rfl (by trivial) (ZEF _) (ZEB _)
theorem Zoo{a s}(ha:a≠[])(hs:s≠[])(hl:a.length≤10000000)(hl2:s.length≤10000000):Ze ZEA 116 [Znt [a,s]] (.str (ZV a s)):=by
 refine Zm (cR 116 f116) fun F st hret=>?_
 have hd:=Zf6 [a,s] (by simp) (.fn (.func 170) [] []) st (fun x hx=>by
  have h:=(Zfw x).VT (first:=[]) (args:=[_]) (caps:=[]) st
  rw[decide_eq_false (fun e=>by rw[e]at hx;simp at hx;rcases hx with hx|hx<;>simp_all)]at h
  exact h)
 have hkj:joinL [a,s] [46]=ZV a s:=by simp[joinL,ZV,ha,List.intercalate]
 have hJ:=Zcd [a,s] (by simp) (by rw[hkj];have:=Zc2 a s;omega)
 rw[hkj]at hJ
 refine rg ?_
 refine rg ?_
 refine ct (hd) ?_
 refine cl (hJ) ?_
 refine rs hret ?_
 rfl
theorem Zo8{a s}(ha:a≠[])(hs:s≠[])(hl:a.length≤10000000)(hl2:s.length≤10000000):Ze ZEA 116 [.sl .full 2 1 (Z7 [.str []] ([0,1].zip [.str a,.str s]))] (.str (ZV a s)) :=
 Ze.leA (LeC.one (Zys rfl fun i hi=>by rcases(by omega:i=0∨i=1) with rfl|rfl<;>rfl)) (Zoo ha hs hl hl2)
def ZE(r:Str×Int)(st:St)(x:Res)(S:St):Prop:=S=st∧x=mfR r.1 r.2
def Wd(a b:Str×Int):Str×Int:=if a.2=0 then b else a
theorem mfK{r st}{A:D→St→Prop}(h:r.2=0→A (.tup []) st):∀d S,ZE r st (.ret d) S→A d S:=fun d S ⟨h1,h2⟩=>by
 subst h1
 unfold mfR at h2
 split at h2
 ·rename_i h0;cases h2;exact h h0
 ·cases h2
theorem mfP{r st}{A:D→St→Prop}(h:¬r.2=0→A (mfD r.1 r.2) st):∀d S,ZE r st (.panic d) S→A d S:=fun d S ⟨h1,h2⟩=>by
 subst h1
 unfold mfR at h2
 split at h2
 ·cases h2
 ·rename_i h0;cases h2;exact h h0
theorem ZE.ok{r st}(h:r.2=0):ZE r st (.ret (.tup [])) st:=⟨rfl,by unfold mfR;rw[if_pos h]⟩
theorem ZE.bad{r R st}(h:¬r.2=0)(he:R=r):ZE R st (.panic (mfD r.1 r.2)) st:=by
 subst he
 exact⟨rfl,by unfold mfR;rw[if_neg h]⟩
theorem Ks{a b}(h:a.2=0):Wd a b=b:=if_pos h
theorem Kf{a b}(h:¬a.2=0):Wd a b=a:=if_neg h
theorem Kj(fine q no)(hno:¬no=0)(st):Zb ZEA 74 [.bool fine,.str q,.int .i64 no] st (ZE (q,if fine then 0 else no) st) :=
 (Zdl fine q no st).mono fun r S ⟨h1,h2⟩=>⟨h1,by rw[h2];cases fine<;>simp[mfR,hno]⟩
theorem Zjl(a b q st):Zb ZEA 120 [.int .i64 a,.int .i64 b,.str q] st (ZE (q,Kg a b) st) :=
 (ZsM a b q st).mono fun r S ⟨h1,h2⟩=>⟨h1,h2⟩
def Znz(n b h p:Bool)(x:Val):Bool:=(((n ||decide (x.int=0))&&(b ||decide ((x.bytes.length:Int)=0)))&&(h ||decide ((x.hdrs.length:Int)=0)))&&(p ||decide ((x.parts.length:Int)=0))
def Zci(n b h p:Bool)(x:Val)(q:Str):Str×Int:=(q,if Znz n b h p x then 0 else 6)
structure ZbI(st:St)(b3 b4 b5 b6 b7 b:Nat)(d:Dfn)(m:Msg)(pth:Str)(l:List (Str×Int))(f:Fld)(x:Val)(q:Str):Prop where
 p:st b3=some (.cells (WI m d pth b))
 f:st b4=some (.cells f.cells)
 x:st b5=some (.cells [.str x.name,.int .i64 x.int,ZL x.bytes,Z9 x.hdrs,ZW x.parts])
 q:st b6=some (.cells [.str q])
 u:st b7=some (.cells [.fn (.func 117) [] [.ptr b5 0,.ptr b6 0]])
 m:st b=some (.map (Ki l))
section
variable {st:St} {b3 b4 b5 b6 b7 bm:Nat} {d:Dfn} {m:Msg} {pth:Str} {l:List (Str × Int)} {f:Fld} {x:Val} {q:Str}
theorem KZ(hs:ZbI st b3 b4 b5 b6 b7 bm d m pth l f x q)(n b h p):WV ZEA (.fn (.func 117) [] [.ptr b5 0,.ptr b6 0]) [.bool n,.bool b,.bool h,.bool p] st (ZE (Zci n b h p x q) st):=by
 refine Zb.V (first:=[]) (args:=[_,_,_,_]) (caps:=[_,_]) ?_
 refine Zc (cR 117 f117) fun F hF=>?_
 have h5:=hs.x
 have h6:=hs.q
 have hU:=Znz.eq_1 n b h p x
 refine rx (nd2 @h5 (nd2 @h6 (nd2 @ZaI (nd2 @ZiH @Zct)))) ?_
 rw[←hU]
 have c9:=Kj (Znz n b h p x) q 6 (by decide) st
 refine cV (c9) ?_ ?_
 ·refine mfK fun h0=>?_
  refine gR0 ?_
  exact hF.fin (.tup []) st rfl trivial (ZEF _) (ZEB _) (ZE.ok h0)
 ·exact mfP fun h0=>hF.pan st (ZEB _) (ZE.bad h0 rfl)
theorem Zfy(hs:ZbI st b3 b4 b5 b6 b7 bm d m pth l f x q):
  Zb ZEA 118 [.ptr b7 0,.ptr b5 0,.ptr b4 0,.ptr b6 0] st (ZE (Wd (Zci true false false false x q) (q,if dC (f.low≤x.int)&&dC (x.int≤f.high) then 0 else 3)) st):=by
 refine Zc (cR 118 f118) fun F hF=>?_
 have hu:=KZ hs true false false false
 refine rx @hs.u ?_
 refine vV (hu) ?_ ?_
 ·refine mfK fun h0=>?_
  rw[Ks h0]at hF
  refine gR0 ?_
  refine rx (nd2 @hs.x (nd2 @hs.f (nd2 @hs.q @eQ0))) ?_
  have c9:=Kj (dC (f.low≤x.int)&&dC (x.int≤f.high)) q 3 (by decide) st
  refine cV (c9) ?_ ?_
  ·refine mfK fun h1=>?_
   refine gR0 ?_
   exact hF.fin (.tup []) st rfl trivial (ZEF _) (ZEB _) (ZE.ok h1)
  ·exact mfP fun h1=>hF.pan st (ZEB _) (ZE.bad h1 rfl)
 ·exact mfP fun h0=>hF.pan st (ZEB _) (ZE.bad h0 (Kf h0))
theorem Znd(hs:ZbI st b3 b4 b5 b6 b7 bm d m pth l f x q)(hv:Z1 f.size=true)(hk:∀t∈f.size.terms,∃v,Zp t.field l=sO v∧0≤v∧v<34359738368):
  Zb ZEA 119 [.ptr b7 0,.ptr b5 0,.ptr b3 0,.ptr b4 0,.ptr b6 0] st (ZE (Wd (Zci false true false false x q) (q,Kg x.bytes.length (J8 f.size l))) st):=by
 refine Zc (cR 119 f119) fun F hF=>?_
 have hu:=KZ hs false true false false
 have hz:=J4 m d pth f hv bm l st hs.m hk
 refine rx @hs.u ?_
 refine vV (hu) ?_ ?_
 ·refine mfK fun h0=>?_
  rw[Ks h0]at hF
  refine gR0 ?_
  have hp:=hs.p
  have hf:=hs.f
  refine rx (nd2 @hs.x (nd2 @hp (nd2 @hf (nd2 @hs.q (nd2 @ZaI (nd2 @WI.eq_1 @eQ0)))))) ?_
  refine cVD (hz) ?_ ?_
  ·rintro dd S ⟨hd,rfl⟩
   cases hd
   refine kF ?_
   refine gR0 ?_
   refine cVD (Zjl x.bytes.length (J8 f.size l) q S) ?_ ?_
   ·refine mfK fun h1=>?_
    refine kF ?_
    refine gR0 ?_
    exact hF.fin (.tup []) S rfl trivial (ZEF _) (ZEB _) (ZE.ok h1)
   ·exact mfP fun h1=>hF.pan S (ZEB _) (ZE.bad h1 rfl)
  ·rintro dd S ⟨hd,_⟩
   cases hd
 ·exact mfP fun h0=>hF.pan st (ZEB _) (ZE.bad h0 (Kf h0))
end
theorem ZhA(l v):Ze ZEA 172 [ZL l,.int .u8 v] (.int .i64 (Zg (fun x=>dC (v=x.toNat)) l)):=by
 refine Wj (cR 172 f172) fun hwf F st hret=>?_
 have hw:=(WJ (hwf (ZL l) (by simp))).1
 unfold big at hw
 clear hwf
 refine rg ?_
 refine rx @ZaI ?_
 refine Zd (fr (l.length) (fun i Q=>i≤l.length→(∀j,j<i→dC (v=(l.getD j dE).toNat)=false)→Q [(0,.d (ZL l)),(1,.d (.int .u8 v)),(7,.d (.int .i64 l.length)),(8,.d (.int .i64 i))] [] st) (fun n ih_key=>?_) fun key=>?_)
 ·intro i hn hi hno
  refine rg ?_
  refine Za (Zq rfl trivial (fun h1=>?_) (fun h1=>?_))
  ·simp at h1
   refine rg ?_
   refine rx (nd2 @ZA3 @u8C.eq_1) ?_
   refine aa ?_
   refine cd (fun h2=>?_) (fun h2=>?_)
   ·have e1:=KD (p:=fun x:UInt8=>dC (v=x.toNat)) h1 h2 hno
    refine rg ?_
    refine ri hret ?_
    exact e1.symm
   ·refine rg ?_
    refine aa ?_
    refine Zi ?_
    exact ih_key ((l.length)-(i+1)) (by omega) (i+1) rfl (by omega) (Ye (q:=fun j=>dC (v=(l.getD j dE).toNat)=false) hno h2)
  ·simp at h1
   obtain rfl:i=l.length:=by omega
   have hall:∀x∈l,(fun x:UInt8=>dC (v=x.toNat)) x=false:=fun x hx=>by
    obtain⟨j,hj,rfl⟩:=ZEV hx
    have:=hno j hj
    simpa[ZES,hj]using this
   refine rg ?_
   refine ri hret ?_
   exact(WC hall).symm
 exact key _ 0 rfl (by omega) (by intro j hj;omega)
theorem Ze3(l v):Ze ZEA 123 [ZL l,.int .u8 v] (.bool (l.any fun x=>dC (v=x.toNat))):=by
 refine Zm (cR 123 f123) fun F st hret=>?_
 refine rg ?_
 refine rg ?_
 refine cl (ZhA l v) ?_
 refine rb hret ?_
 rw[←JF]
section
variable {st:St} {b3 b4 b5 b6 b7 bm:Nat} {d:Dfn} {m:Msg} {pth:Str} {l:List (Str × Int)} {f:Fld} {x:Val} {q:Str}
theorem Zne(hs:ZbI st b3 b4 b5 b6 b7 bm d m pth l f x q)(hl:0≤f.low∧f.low≤255):
  Zb ZEA 122 [.ptr b7 0,.ptr b5 0,.ptr b4 0,.ptr b6 0] st (ZE (Wd (Zci false true false false x q) (Wd (q,if dC ((x.bytes.length:Int)≤f.high) then 0 else 5) (q,if !x.bytes.any (fun c=>dC (f.low=c.toNat)) then 0 else 6))) st):=by
 refine Zc (cR 122 f122) fun F hF=>?_
 have hu:=KZ hs false true false false
 have hw:IntKind.u8.wrap f.low=f.low:=ZaS .u8 f.low (by have h1:IntKind.u8.min=0:=rfl;have h2:IntKind.u8.max=255:=rfl;unfold inR;omega)
 refine rx @hs.u ?_
 refine vV (hu) ?_ ?_
 ·refine mfK fun h0=>?_
  rw[Ks h0]at hF
  refine gR0 ?_
  refine rx (nd2 @hs.x (nd2 @hs.f (nd2 @hs.q (nd2 @ZaI @eQ0)))) ?_
  have c9:=Kj (dC ((x.bytes.length:Int)≤f.high)) q 5 (by decide) st
  refine cV (c9) ?_ ?_
  ·refine mfK fun h1=>?_
   rw[Ks h1]at hF
   refine gR0 ?_
   refine rx (nd2 @hs.x (nd2 @hs.f (nd2 @hs.q (nd2 @eQ0 @hw)))) ?_
   refine clD (Ze3 x.bytes f.low) ?_
   refine ZgP rfl rfl rfl rfl rfl (by trivial) (by trivial) (by exact Kj (!x.bytes.any fun c=>dC (f.low=c.toNat)) q 6 (by decide) st) ?_ ?_
   ·refine mfK fun h2=>?_
    refine kF ?_
    refine gR0 ?_
    exact hF.fin (.tup []) st rfl trivial (ZEF _) (ZEB _) (ZE.ok h2)
   ·exact mfP fun h2=>hF.pan st (ZEB _) (ZE.bad h2 rfl)
  ·exact mfP fun h1=>hF.pan st (ZEB _) (ZE.bad h1 (Kf h1))
 ·exact mfP fun h0=>hF.pan st (ZEB _) (ZE.bad h0 (Kf h0))
theorem Znf(hs:ZbI st b3 b4 b5 b6 b7 bm d m pth l f x q)(ht:ZdU x.hdrs):
  Zb ZEA 124 [.ptr b7 0,.ptr b5 0,.ptr b6 0,.ptr b4 0] st (ZE (Wd (Zci false false true false x q) (Wd (q,if K2 x.hdrs then 0 else 6) (q,if dC (((Za7 x.hdrs).length:Int)≤f.high) then 0 else 5))) st):=by
 refine Zc (cR 124 f124) fun F hF=>?_
 have hu:=KZ hs false false true false
 have hW:=ZhN ht
 have hR:=ZjF.eq_1 x.hdrs
 generalize ZjF x.hdrs=w at *
 refine rx @hs.u ?_
 refine vV (hu) ?_ ?_
 ·refine mfK fun h0=>?_
  rw[Ks h0]at hF
  refine gR0 ?_
  refine rx @hs.x ?_
  cases hk:K2 x.hdrs with
  |false =>
   rw[hk,if_neg (by simp)]at hR
   subst hR
   refine cl (hW) ?_
   refine rx @hs.q ?_
   have c9:=Kj false q 6 (by decide) st
   refine cV (c9) ?_ ?_
   ·exact mfK fun h1=>absurd h1 (by simp)
   ·exact mfP fun h1=>hF.pan st (ZEB _) (ZE.bad h1 (by rw[hk,Kf (by simp)]))
  |true =>
   rw[hk,if_pos rfl]at hR
   rw[hk,Ks (by simp)]at hF
   subst hR
   refine cl (hW) ?_
   refine rx @hs.q ?_
   have c9:=Kj true q 6 (by decide) st
   refine cV (c9) ?_ ?_
   ·refine mfK fun h1=>?_
    refine gR0 ?_
    refine rx (nd2 @hs.f (nd2 @hs.q (nd2 @ZaI @eQ0))) ?_
    have c9:=Kj (dC (((Za7 x.hdrs).length:Int)≤f.high)) q 5 (by decide) st
    refine cV (c9) ?_ ?_
    ·refine mfK fun h2=>?_
     refine gR0 ?_
     exact hF.fin (.tup []) st rfl trivial (ZEF _) (ZEB _) (ZE.ok h2)
    ·exact mfP fun h2=>hF.pan st (ZEB _) (ZE.bad h2 rfl)
   ·exact mfP fun h1=>absurd rfl h1
 ·exact mfP fun h0=>hF.pan st (ZEB _) (ZE.bad h0 (Kf h0))
end
def Zaj:Prop:=∀n:Nat,n<510→Ze ZEA 38 [.int .i64 n] (.str (Wz n))
theorem ZhP(hI:Zaj)(ps)(k:Nat)(hk:k<ps.length)(hps:ps.length≤510)(hn:∀x∈ps,x.name.length≤32):Ze ZEA 126 [ZW ps,.int .i64 k] (.str (ZY ps k)):=by
 refine Zm (cR 126 f126) fun F st hret=>?_
 have hrk:=QS hk
 have hnk:=hn _ (ZA hk)
 have hsucc:=fun i=>Zis (ps:=ps) (k:=k) (i:=i)
 have hO:=ZY.eq_1 ps k
 have hdk:Wn ps k=QC ps k k:=rfl
 have hdl:=Zgk ps k
 have hdec:=ZgX (Wn ps k)
 have hD:=hI (Wn ps k) (by omega)
 generalize hx:ps.getD k dE=x at *
 refine rg ?_
 refine rg ?_
 refine rx @ZW.eq_1 ?_
 simp only[ite_self]
 refine⟨by omega,by omega,by omega,?_⟩
 refine kl (st) [(0,.d (ZW ps)),(1,.d (.int .i64 k)),(5,.d (.int .i64 (0:Nat))),(10,.d (.sl .none k 5 (Zb5 ps))),(11,.d (.int .i64 k)),(12,.d (.int .i64 (0:Nat)))] [] (JC _) (Zcj _) ?_
 refine Zd (fr (k) (fun i Q=>i≤k→Q [(0,.d (ZW ps)),(1,.d (.int .i64 k)),(5,.d (.int .i64 (QC ps k i))),(10,.d (.sl .none k 5 (Zb5 ps))),(11,.d (.int .i64 k)),(12,.d (.int .i64 i))] [] st) (fun n ih_key=>?_) fun key=>?_)
 ·intro i hn2 hi
  refine rg ?_
  refine Za (Zq rfl trivial (fun h1=>?_) (fun h1=>?_))
  ·simp at h1
   have hri:=QS (show i<ps.length by omega)
   have hs:=hsucc i (by omega)
   have hdi:=Ztm ps k i
   generalize hy:ps.getD i dE=y at *
   refine rx @hri ?_
   refine aa ?_
   refine rx (nd2 @atV @hrk) ?_
   refine aa ?_
   refine cd (fun h2=>?_) (fun h2=>?_)
   ·rw[if_pos (by simpa using h2)]at hs
    refine rg ?_
    refine aa ?_
    refine rg ?_
    refine aa ?_
    rw[show((QC ps k i:Nat):Int)+1=((QC ps k (i+1):Nat):Int) by rw[hs];rfl]
    refine Zi ?_
    exact ih_key ((k)-(i+1)) (by omega) (i+1) rfl (by omega)
   ·rw[if_neg (by simpa using h2)]at hs
    refine rg ?_
    refine aa ?_
    rw[show((QC ps k i:Nat):Int)=((QC ps k (i+1):Nat):Int) by rw[hs];rfl]
    refine Zi ?_
    exact ih_key ((k)-(i+1)) (by omega) (i+1) rfl (by omega)
  ·simp at h1
   obtain rfl:i=k:=by omega
   rw[←hdk]
   refine rg ?_
   refine cd (fun h3=>?_) (fun h3=>?_)
   ·simp at h3
    rw[if_pos h3]at hO
    refine rx (nd2 @atV @hrk) ?_
    refine aa ?_
    refine rs hret ?_
    exact hO.symm
   ·simp at h3
    rw[if_neg h3]at hO
    refine rx (nd2 @atV @hrk) ?_
    refine aa ?_
    refine⟨by unfold big;omega,?_⟩
    refine cXD @Zzx (hD) ?_
    repeat(refine ZEC (by first|omega|trivial|(intro h0;simp at h0;omega)|(((try simp only[ZEM,ZER,List.length_nil]);unfold big;omega))) ?_)
    refine rs hret ?_
    exact hO.symm
 exact key _ 0 rfl (by omega)
section
variable {d:Dfn} {m:Msg} {pth:Str} {bm:Nat} {x:Val} {q:Str} {st:St}
def ZrG(mis:Msg→Val→Str→Str×Int)(d:Dfn)(of:Str)(x:Val)(q:Str):Str×Int :=
 Wd (Zci false false false true x q) (Wd (q,if dC ((x.parts.length:Int)=1) then 0 else 6) (mis (ZQ d of) (x.parts.getD 0 dE) (ZV q (ZY x.parts 0))))
theorem Zr5(hI:Zaj)(of)(hof:0≤ZF d of d.msgs.length)(hx:VOk x)(hq:q≠[]∧q.length≤1000000)(fu)(hu:WV ZEA fu [.bool false,.bool false,.bool false,.bool true] st (ZE (Zci false false false true x q) st))(mis)(hmis:x.parts.length=1→Zb ZEA 34 [.agg d.cells,.agg (ZQ d of).cells,.agg (x.parts.getD 0 dE).cells,.str (ZV q (ZY x.parts 0))] st (ZE (mis (ZQ d of) (x.parts.getD 0 dE) (ZV q (ZY x.parts 0))) st)):
  Zb ZEA 128 [.agg (WI m d pth bm),.str of,.agg x.cells,.str q,fu] st (ZE (ZrG mis d of x q) st):=by
 refine Zc (cR 128 f128) fun F hF=>?_
 have hmo:=QV d of hof
 rw[show d.msgs.getD (ixS d of) dE=ZQ d of from rfl]at hmo
 unfold ZrG at hF
 rw[ZE0]
 refine rx @WI.eq_1 ?_
 refine rg ?_
 refine vV (hu) ?_ ?_
 ·refine mfK fun h0=>?_
  rw[Ks h0]at hF
  refine gR0 ?_
  refine rx @Zct ?_
  have c9:=Kj (dC ((x.parts.length:Int)=1)) q 6 (by decide) st
  refine cV (c9) ?_ ?_
  ·refine mfK fun h1=>?_
   rw[Ks h1]at hF
   have hl:x.parts.length=1:=by simp at h1;omega
   have hst:=ZhP hI x.parts 0 (by omega) (by omega) hx.name
   have hsn:=ZfA hx.few hx.name (k:=0) (by omega)
   have hs0:ZY x.parts 0≠[]:=by
    have h2:=(hx.part (ZA (show 0<x.parts.length by omega))).node.1.1
    unfold ZY
    rw[if_pos (by have:=Zgk x.parts 0;omega)]
    exact fun e=>by rw[e]at h2;simp at h2
   have hj:=Zo8 hq.1 hs0 (by omega) (by omega)
   have hr:=QS (l:=x.parts) (i:=0) (by omega)
   have hm:=hmis hl
   generalize ZV q (ZY x.parts 0)=q2 at *
   rw[ZE0]at hm
   generalize mis (ZQ d of) (x.parts.getD 0 dE) q2=R at *
   generalize x.parts.getD 0 dE=y at *
   refine gR0 ?_
   refine rx (nd2 @atV @hr) ?_
   refine aa ?_
   refine clD (hmo) ?_
   refine clD (hst) ?_
   refine clD (hj) ?_
   refine cVD (hm) ?_ ?_
   ·refine mfK fun h2=>?_
    refine kF ?_
    refine gR0 ?_
    exact hF.fin (.tup []) st rfl trivial (ZEF _) (ZEB _) (ZE.ok h2)
   ·exact mfP fun h2=>hF.pan st (ZEB _) (ZE.bad h2 rfl)
  ·exact mfP fun h1=>hF.pan st (ZEB _) (ZE.bad h1 (Kf h1))
 ·exact mfP fun h0=>hF.pan st (ZEB _) (ZE.bad h0 (Kf h0))
end
theorem VOk.few2{v}(h:VOk v):v.parts.length≤510:=by
 have h1:=Zj1 v
 have h2:=h.wt
 have h3:v.parts.length≤nodesL v.parts:=by
  induction v.parts with
  |nil=>simp
  |cons x r ih=>have:=WN x;simp only[ZER,nodesL];omega
 have h4:=WN v
 omega
theorem ZzB{ps k}(h:1≤(ps.getD k dE).name.length):ZY ps k≠[]:=by
 unfold ZY
 split
 ·exact fun e=>by rw[e]at h;simp at h
 ·simp
abbrev ZdI(mis:Msg→Val→Str→Str×Int)(d:Dfn)(of:Str)(x:Val)(q:Str)(i:Nat):Str×Int:=mis (ZQ d of) (x.parts.getD i dE) (ZV q (ZY x.parts i))
section
variable {st:St} {b3 b4 b5 b6 b7 bm:Nat} {d:Dfn} {m:Msg} {pth:Str} {l:List (Str × Int)} {f:Fld} {x:Val} {q:Str}
theorem Zng(hI:Zaj)(hs:ZbI st b3 b4 b5 b6 b7 bm d m pth l f x q)(hx:VOk x)(hq:q≠[]∧q.length≤1000000)(hv:Z1 f.size=true)(hk:∀t∈f.size.terms,∃v,Zp t.field l=sO v∧0≤v∧v<34359738368)(hof:0≤ZF d f.of d.msgs.length)(mis)(hmis:∀i,i<x.parts.length→Zb ZEA 34 [.agg d.cells,.agg (ZQ d f.of).cells,.agg (x.parts.getD i dE).cells,.str (ZV q (ZY x.parts i))] st (ZE (ZdI mis d f.of x q i) st)):
  Zb ZEA 125 [.ptr b7 0,.ptr b5 0,.ptr b3 0,.ptr b4 0,.ptr b6 0] st (ZE (Wd (Zci false false false true x q) (Wd (q,Kg x.parts.length (J8 f.size l)) ((WY (ZdI mis d f.of x q) (ZEO x.parts.length)).getD (q,0)))) st):=by
 refine Zc (cR 125 f125) fun F hF=>?_
 have hu:=KZ hs false false false true
 have hz:=J4 m d pth f hv bm l st hs.m hk
 have hmo:=QV d f.of hof
 rw[show d.msgs.getD (ixS d f.of) dE=ZQ d f.of from rfl]at hmo
 have hx5:=hs.x
 have hp3:=hs.p
 have hf4:=hs.f
 have hq6:=hs.q
 have hfew:=hx.few2
 refine rx @hs.u ?_
 refine vV (hu) ?_ ?_
 ·refine mfK fun h0=>?_
  rw[Ks h0]at hF
  refine gR0 ?_
  refine rx (nd2 @hx5 (nd2 @hp3 (nd2 @hf4 (nd2 @hq6 (nd2 @Zct (nd2 @WI.eq_1 @eQ0)))))) ?_
  refine cVD (hz) ?_ ?_
  ·rintro dd S ⟨hd,hS⟩
   obtain rfl:=hS.symm
   cases hd
   refine kF ?_
   refine gR0 ?_
   refine cVD (Zjl x.parts.length (J8 f.size l) q st) ?_ ?_
   ·refine mfK fun h1=>?_
    rw[Ks h1]at hF
    refine kF ?_
    refine gR0 ?_
    refine rx (nd2 @hx5 @Zct) ?_
    refine Zd (fr (x.parts.length) (fun i Q=>i≤x.parts.length→(∀j,j<i→(ZdI mis d f.of x q j).2=0)→Q [(1,.d (.ptr b5 0)),(2,.d (.ptr b3 0)),(3,.d (.ptr b4 0)),(4,.d (.ptr b6 0)),(18,.d (ZW x.parts)),(19,.d (.int .i64 x.parts.length)),(20,.d (.int .i64 i))] [] st) (fun n ih_key=>?_) fun key=>?_)
    ·intro i hn hi hall
     refine rg ?_
     refine Za (Zq rfl trivial (fun g1=>?_) (fun g1=>?_))
     ·simp at g1
      have hym:x.parts.getD i dE∈x.parts:=ZA g1
      have hst:=ZhP hI x.parts i g1 hfew hx.name
      have hsl:=ZfA hx.few hx.name g1
      have hj:=Zo8 hq.1 (ZzB (hx.part hym).node.1.1) (by omega) (by omega)
      have hr:=QS (l:=x.parts) (i:=i) g1
      have hm:=hmis i g1
      have hat:=Zfc (g:=ZdI mis d f.of x q) g1 hall
      have hup:=fun h=>Ye (q:=fun j=>(ZdI mis d f.of x q j).2=0) hall h
      generalize hR:ZdI mis d f.of x q i=R at *
      generalize ZV q (ZY x.parts i)=q2 at *
      rw[ZE0]at hm
      generalize x.parts.getD i dE=y at *
      refine rx (nd2 @atV @hr) ?_
      refine aa ?_
      refine rx (nd2 @hx5 (nd2 @hp3 (nd2 @hf4 (nd2 @hq6 (nd2 @WI.eq_1 @eQ0))))) ?_
      refine clD (hmo) ?_
      refine clD (hst) ?_
      refine clD (hj) ?_
      refine cVD (hm) ?_ ?_
      ·refine mfK fun h2=>?_
       refine kF ?_
       refine gR0 ?_
       refine rg ?_
       refine aa ?_
       refine Zi ?_
       exact ih_key ((x.parts.length)-(i+1)) (by omega) (i+1) rfl (by omega) (hup h2)
      ·exact mfP fun h2=>hF.pan st (ZEB _) (ZE.bad h2 (by rw[hat h2];rfl))
     ·simp at g1
      obtain rfl:i=x.parts.length:=by omega
      rw[Zmt hall]at hF
      refine ZR rfl ?_
      exact hF.fin (.tup []) st rfl trivial (ZEF _) (ZEB _) (ZE.ok rfl)
    exact key _ 0 rfl (by omega) (by intro j hj;omega)
   ·exact mfP fun h1=>hF.pan st (ZEB _) (ZE.bad h1 (Kf h1))
  ·rintro dd S ⟨hd,_⟩
   cases hd
 ·exact mfP fun h0=>hF.pan st (ZEB _) (ZE.bad h0 (Kf h0))
theorem Znh(hs:ZbI st b3 b4 b5 b6 b7 bm d m pth l f x q)(R)(hone:Zb ZEA 128 [.agg (WI m d pth bm),.str f.of,.agg x.cells,.str q,.fn (.func 117) [] [.ptr b5 0,.ptr b6 0]] st (ZE R st)):
  Zb ZEA 127 [.ptr b3 0,.ptr b4 0,.ptr b5 0,.ptr b6 0,.ptr b7 0] st (ZE R st):=by
 refine Zc (cR 127 f127) fun F hF=>?_
 rw[ZE0]at hone
 refine rx (nd2 @hs.p (nd2 @hs.f (nd2 @hs.x (nd2 @hs.q (nd2 @hs.u (nd2 @WI.eq_1 @eQ0)))))) ?_
 refine cV (hone) ?_ ?_
 ·refine mfK fun h0=>?_
  refine gR0 ?_
  exact hF.fin (.tup []) st rfl trivial (ZEF _) (ZEB _) (ZE.ok h0)
 ·exact mfP fun h0=>hF.pan st (ZEB _) (ZE.bad h0 rfl)
theorem Zni(hs:ZbI st b3 b4 b5 b6 b7 bm d m pth l f x q)(tag)(ht:(Zp f.tag l).getD 0=tag)(R)(hone:0≤QN f tag→Zb ZEA 128 [.agg (WI m d pth bm),.str (f.cases.getD (QN f tag).toNat dE).of,.agg x.cells,.str q,.fn (.func 117) [] [.ptr b5 0,.ptr b6 0]] st (ZE R st)):
  Zb ZEA 129 [.ptr b7 0,.ptr b4 0,.ptr b3 0,.ptr b6 0,.ptr b5 0] st (ZE (Wd (Zci false false false true x q) (Wd (q,if dC (0≤QN f tag) then 0 else 9) R)) st):=by
 refine Zc (cR 129 f129) fun F hF=>?_
 have hu:=KZ hs false false false true
 have e1:=YO (vD:=WZ) ZM f.tag l
 have e3:=Wb ZM f.tag
 simp only[show KK f.tag=D.str f.tag from rfl]at e1 e3
 have hC:=Zoh f tag
 have hlt:=WM (fun c:YX=>dC (c.low≤tag)&&dC (tag≤c.high)) f.cases
 rw[show Zg (fun c:YX=>dC (c.low≤tag)&&dC (tag≤c.high)) f.cases=QN f tag from rfl]at hlt
 rw[ZE0]at hone
 generalize QN f tag=ci at *
 refine rx @hs.u ?_
 refine vV (hu) ?_ ?_
 ·refine mfK fun h0=>?_
  rw[Ks h0]at hF
  refine gR0 ?_
  refine rx (nd2 @hs.f (nd2 @hs.p (nd2 @hs.m (nd2 @WI.eq_1 (nd2 @eQ0 (nd2 @e1 (nd2 @e3 (nd2 @Zgr @ht)))))))) ?_
  refine cl (hC) ?_
  refine rx @hs.q ?_
  have c9:=Kj (dC (0≤ci)) q 9 (by decide) st
  refine cV (c9) ?_ ?_
  ·refine mfK fun h1=>?_
   rw[Ks h1]at hF
   have hc0:0≤ci:=by
    by_cases h:0≤ci
    ·exact h
    ·rw[decide_eq_false h]at h1;simp at h1
   have ho:=hone hc0
   have hmx:max ci 0=ci:=by omega
   generalize hcc:f.cases.getD ci.toNat dE=cc at *
   rw[hmx]
   refine gR0 ?_
   refine rx (nd2 @hs.p (nd2 @hs.f (nd2 @hs.x (nd2 @hs.q (nd2 @hs.u (nd2 @WI.eq_1 (nd2 @eQ0 (nd2 @ZyO (nd2 @hcc @YX.cells.eq_1))))))))) ?_
   refine aa ?_
   refine cV0 (ho) ?_ ?_
   ·refine mfK fun h2=>?_
    refine gR0 ?_
    exact hF.fin (.tup []) st rfl trivial (ZEF _) (ZEB _) (ZE.ok h2)
   ·exact mfP fun h2=>hF.pan st (ZEB _) (ZE.bad h2 rfl)
  ·exact mfP fun h1=>hF.pan st (ZEB _) (ZE.bad h1 (Kf h1))
 ·exact mfP fun h0=>hF.pan st (ZEB _) (ZE.bad h0 (Kf h0))
theorem Znj(hs:ZbI st b3 b4 b5 b6 b7 bm d m pth l f x q)(hv:Z1 f.size=true)(hk:∀t∈f.size.terms,∃v,Zp t.field l=sO v∧0≤v∧v<34359738368)(hof:0≤ZF d f.of d.msgs.length)(R len)(hone:Zb ZEA 128 [.agg (WI m d pth bm),.str f.of,.agg x.cells,.str q,.fn (.func 117) [] [.ptr b5 0,.ptr b6 0]] st (ZE R st))(hlen:R.2=0→x.parts.length=1∧Ze ZEA 27 [.agg d.cells,.agg (ZQ d f.of).cells,.agg (x.parts.getD 0 dE).cells] (.int .i64 len)):
  Zb ZEA 130 [.ptr b3 0,.ptr b4 0,.ptr b5 0,.ptr b6 0,.ptr b7 0] st (ZE (Wd R (q,Kg len (J8 f.size l))) st):=by
 refine Zc (cR 130 f130) fun F hF=>?_
 have hz:=J4 m d pth f hv bm l st hs.m hk
 have hmo:=QV d f.of hof
 rw[show d.msgs.getD (ixS d f.of) dE=ZQ d f.of from rfl]at hmo
 rw[ZE0]at hone
 have hp3:=hs.p
 have hf4:=hs.f
 have hq6:=hs.q
 refine rx (nd2 @hp3 (nd2 @hf4 (nd2 @hs.x (nd2 @hq6 (nd2 @hs.u (nd2 @WI.eq_1 @eQ0)))))) ?_
 refine cV (hone) ?_ ?_
 ·refine mfK fun h0=>?_
  rw[Ks h0]at hF
  obtain⟨hl,hL⟩:=hlen h0
  have hr:=QS (l:=x.parts) (i:=0) (by omega)
  rw[ZE0]at hL
  generalize x.parts.getD 0 dE=y at *
  refine gR0 ?_
  refine rx (nd2 @hp3 (nd2 @hf4 (nd2 @hs.x (nd2 @hq6 (nd2 @WI.eq_1 (nd2 @eQ0 (nd2 @atV @hr))))))) ?_
  refine aa ?_
  refine clD (hmo) ?_
  refine clD (hL) ?_
  refine cVD (hz) ?_ ?_
  ·rintro dd S ⟨hd,hS⟩
   obtain rfl:=hS.symm
   cases hd
   refine kF ?_
   refine gR0 ?_
   refine cVD (Zjl len (J8 f.size l) q st) ?_ ?_
   ·refine mfK fun h1=>?_
    refine kF ?_
    refine gR0 ?_
    exact hF.fin (.tup []) st rfl trivial (ZEF _) (ZEB _) (ZE.ok h1)
   ·exact mfP fun h1=>hF.pan st (ZEB _) (ZE.bad h1 rfl)
  ·rintro dd S ⟨hd,_⟩
   cases hd
 ·exact mfP fun h0=>hF.pan st (ZEB _) (ZE.bad h0 (Kf h0))
end
theorem Znu{v w}:∀{l},(∀t∈l,v t=w t)→K0 v l=K0 w l
 | [],_=>rfl
 |t::r,h=>by simp only[K0];rw[h t (by simp),Znu fun s hs=>h s (by simp[hs])]
theorem ZAH(k)(x):Znz (Zob k) (ZnV k) (dC (k=6)) (dC (7≤k)) x=!Y1 k x:=by
 have e:∀n:Nat,dC ((n:Int)=0)=!dC (0<(n:Int)):=fun n=>by by_cases h:n=0<;>simp[h];omega
 unfold Znz Y1
 rw[e,e,e]
 generalize dC (x.int=0)=a1;generalize dC (0<(x.bytes.length:Int))=a2;generalize dC (0<(x.hdrs.length:Int))=a3;generalize dC (0<(x.parts.length:Int))=a4
 generalize Zob k=c1;generalize ZnV k=c2;generalize dC (k=6)=c3;generalize dC (7≤k)=c4
 revert a1 a2 a3 a4 c1 c2 c3 c4
 decide
theorem Zzz{k x q n b h p}(R)(h1:Zob k=n)(h2:ZnV k=b)(h3:dC (k=6)=h)(h4:dC (7≤k)=p):Wd (Zci n b h p x q) R=if Y1 k x then (q,6) else R:=by
 subst h1;subst h2;subst h3;subst h4
 unfold Wd Zci
 rw[ZAH]
 cases Y1 k x<;>rfl
theorem ZwF(a b c):Wd (Wd a b) c=Wd a (Wd b c):=by
 unfold Wd
 by_cases h:a.2=0<;>simp[h]
theorem Zzy(a b c):Wd a (Wd b (Wd a c))=Wd a (Wd b c):=by
 unfold Wd
 by_cases h:a.2=0<;>simp[h]
theorem ZmS(mis)(d)(of)(x)(q):ZrG mis d of x q=Wd (Zci false false false true x q) (Q6 mis d of x q):=by
 unfold ZrG Q6
 congr 1
 by_cases h:x.parts.length=1
 ·rw[if_pos h,Ks (by simp[h])]
 ·rw[if_neg h,Kf (by simp;omega),if_neg (by simp;omega)]
def Zqb(b3 b4 b5 b6 b7:Nat):List (Int×D):=[
 (1,.fn (.func 118) [] [.ptr b7 0,.ptr b5 0,.ptr b4 0,.ptr b6 0]),
 (3,.fn (.func 118) [] [.ptr b7 0,.ptr b5 0,.ptr b4 0,.ptr b6 0]),
 (4,.fn (.func 119) [] [.ptr b7 0,.ptr b5 0,.ptr b3 0,.ptr b4 0,.ptr b6 0]),
 (5,.fn (.func 122) [] [.ptr b7 0,.ptr b5 0,.ptr b4 0,.ptr b6 0]),
 (6,.fn (.func 124) [] [.ptr b7 0,.ptr b5 0,.ptr b6 0,.ptr b4 0]),
 (7,.fn (.func 125) [] [.ptr b7 0,.ptr b5 0,.ptr b3 0,.ptr b4 0,.ptr b6 0]),
 (8,.fn (.func 127) [] [.ptr b3 0,.ptr b4 0,.ptr b5 0,.ptr b6 0,.ptr b7 0]),
 (9,.fn (.func 129) [] [.ptr b7 0,.ptr b4 0,.ptr b3 0,.ptr b6 0,.ptr b5 0]),
 (12,.fn (.func 130) [] [.ptr b3 0,.ptr b4 0,.ptr b5 0,.ptr b6 0,.ptr b7 0])]
structure ZgR(f:Fld)(l nv:List (Str×Int)):Prop where
 size:f.kind=4∨f.kind=7∨f.kind=12→Z1 f.size=true∧∀t∈f.size.terms,∃v,Zp t.field l=some v∧0≤v∧v<34359738368∧WG t.field nv=v
 tag:f.kind=9→(Zp f.tag l).getD 0=WG f.tag nv
 low:f.kind=5→0≤f.low∧f.low≤255
theorem ZgR.eval{f l nv}(h:ZgR f l nv)(hk:f.kind=4∨f.kind=7∨f.kind=12):J8 f.size l=ZaN f.size nv:=by
 unfold J8 ZaN
 congr 1
 refine Znu fun t ht=>?_
 obtain⟨v,h1,_,_,h2⟩:=(h.size hk).2 t ht
 rw[h1,h2];rfl
theorem ZgR.sz{f l nv}(h:ZgR f l nv)(hk:f.kind=4∨f.kind=7∨f.kind=12):Z1 f.size=true∧∀t∈f.size.terms,∃v,Zp t.field l=sO v∧0≤v∧v<34359738368 :=
 ⟨(h.size hk).1,fun t ht=>by obtain⟨v,h1,h2,h3,_⟩:=(h.size hk).2 t ht;exact⟨v,h1,h2,h3⟩⟩
section
variable {st:St} {b3 b4 b5 b6 b7 bm:Nat} {d:Dfn} {m:Msg} {pth:Str} {l nv:List (Str × Int)} {f:Fld} {x:Val} {q:Str}
theorem Zzc(hI:Zaj)(hs:ZbI st b3 b4 b5 b6 b7 bm d m pth l f x q)(hfr:Zh9 d f)(hv:W7 f=true)(hx:VOk x)(hq:q≠[]∧q.length≤1000000)(hn:ZgR f l nv)(mis len)(hmis:∀s,0≤ZF d s d.msgs.length→∀i,i<x.parts.length→Zb ZEA 34 [.agg d.cells,.agg (ZQ d s).cells,.agg (x.parts.getD i dE).cells,.str (ZV q (ZY x.parts i))] st (ZE (ZdI mis d s x q i) st))(hlen:f.kind=12→(Q6 mis d f.of x q).2=0→x.parts.length=1∧Ze ZEA 27 [.agg d.cells,.agg (ZQ d f.of).cells,.agg (x.parts.getD 0 dE).cells] (.int .i64 (len (ZQ d f.of) (x.parts.getD 0 dE)))):
  ∃fn,Zp f.kind (Zqb b3 b4 b5 b6 b7)=sO fn∧WV ZEA fn [] st (ZE (if Y1 f.kind x then (q,6) else Ws mis len d f x q nv) st):=by
 have hk:f.kind=1∨f.kind=3∨f.kind=4∨f.kind=5∨f.kind=6∨f.kind=7∨f.kind=8∨f.kind=9∨f.kind=12:=by
  have:=hfr.kind
  unfold W7 at hv
  simp only[ZEK,Bool.not_eq_true',decide_eq_false_iff_not]at hv
  omega
 have hone:∀of,0≤ZF d of d.msgs.length→Zb ZEA 128 [.agg (WI m d pth bm),.str of,.agg x.cells,.str q,.fn (.func 117) [] [.ptr b5 0,.ptr b6 0]] st (ZE (ZrG mis d of x q) st):=fun of ho =>
  Zr5 hI of ho hx hq _ (KZ hs false false false true) mis fun h1=>hmis of ho 0 (by omega)
 have hP:=Ws.eq_1 mis len d f x q nv
 generalize Ws mis len d f x q nv=R at *
 have use:∀{Q:Str×Int} {n b h p:Bool},Zob f.kind=n→ZnV f.kind=b→dC (f.kind=6)=h→dC (7≤f.kind)=p→R=Q→(if Y1 f.kind x then (q,6) else R)=Wd (Zci n b h p x q) Q:=fun h1 h2 h3 h4 h5=>by rw[Zzz _ h1 h2 h3 h4,h5]
 have num:f.kind=1∨f.kind=3→(if Y1 f.kind x then (q,6) else R)=Wd (Zci true false false false x q) (q,if dC (f.low≤x.int)&&dC (x.int≤f.high) then 0 else 3):=fun h=>by
  refine use (by rcases h with h|h<;>rw[h]<;>rfl) (by rcases h with h|h<;>rw[h]<;>rfl) (by rcases h with h|h<;>rw[h]<;>rfl) (by rcases h with h|h<;>rw[h]<;>rfl) ?_
  rw[hP,if_pos h]
  by_cases h1:x.int<f.low∨f.high<x.int
  ·rw[if_pos h1,if_neg (by simp;omega)]
  ·rw[if_neg h1,if_pos (by simp;omega)]
 rcases hk with h|h|h|h|h|h|h|h|h
 ·refine⟨_,by rw[h];rfl,?_⟩
  rw[num (by omega)]
  exact Zb.V (first:=[]) (args:=[]) (caps:=[_,_,_,_]) (Zfy hs)
 ·refine⟨_,by rw[h];rfl,?_⟩
  rw[num (by omega)]
  exact Zb.V (first:=[]) (args:=[]) (caps:=[_,_,_,_]) (Zfy hs)
 ·refine⟨_,by rw[h];rfl,?_⟩
  obtain⟨h1,h2⟩:=hn.sz (by omega)
  rw[use (Q:=(q,Kg x.bytes.length (J8 f.size l))) (by rw[h]<;>rfl) (by rw[h]<;>rfl) (by rw[h]<;>rfl) (by rw[h]<;>rfl) (by rw[hP,if_neg (by omega),if_pos h,hn.eval (by omega)])]
  exact Zb.V (first:=[]) (args:=[]) (caps:=[_,_,_,_,_]) (Znd hs h1 h2)
 ·refine⟨_,by rw[h];rfl,?_⟩
  rw[use (by rw[h]<;>rfl) (by rw[h]<;>rfl) (by rw[h]<;>rfl) (by rw[h]<;>rfl) (Q:=Wd (q,if dC ((x.bytes.length:Int)≤f.high) then 0 else 5) (q,if !x.bytes.any (fun c=>dC (f.low=c.toNat)) then 0 else 6)) (by
   rw[hP,if_neg (by omega),if_neg (by omega),if_pos h]
   rw[show(fun c:UInt8=>dC ((c.toNat:Int)=f.low))=fun c=>dC (f.low=c.toNat) from funext fun c=>by rw[decide_eq_decide];exact eq_comm]
   by_cases h1:f.high<x.bytes.length
   ·rw[if_pos h1,Kf (by simp;omega),if_neg (by simp;omega)]
   ·rw[if_neg h1,Ks (by simp;omega)]
    cases x.bytes.any fun c=>dC (f.low=c.toNat)<;>rfl)]
  exact Zb.V (first:=[]) (args:=[]) (caps:=[_,_,_,_]) (Zne hs (hn.low h))
 ·refine⟨_,by rw[h];rfl,?_⟩
  rw[use (by rw[h]<;>rfl) (by rw[h]<;>rfl) (by rw[h]<;>rfl) (by rw[h]<;>rfl) (Q:=Wd (q,if K2 x.hdrs then 0 else 6) (q,if dC (((Za7 x.hdrs).length:Int)≤f.high) then 0 else 5)) (by
   rw[hP,if_neg (by omega),if_neg (by omega),if_neg (by omega),if_pos h]
   cases K2 x.hdrs with
   |false=>rfl
   |true =>
    rw[if_neg (by simp),Ks (by simp)]
    by_cases h1:f.high<(Za7 x.hdrs).length
    ·rw[if_pos h1,if_neg (by simp;omega)]
    ·rw[if_neg h1,if_pos (by simp;omega)])]
  exact Zb.V (first:=[]) (args:=[]) (caps:=[_,_,_,_]) (Znf hs hx.node.2.2.2)
 ·refine⟨_,by rw[h];rfl,?_⟩
  obtain⟨h1,h2⟩:=hn.sz (by omega)
  have ho:=hfr.ref (by omega)
  rw[use (by rw[h]<;>rfl) (by rw[h]<;>rfl) (by rw[h]<;>rfl) (by rw[h]<;>rfl) (Q:=Wd (q,Kg x.parts.length (J8 f.size l)) ((WY (ZdI mis d f.of x q) (ZEO x.parts.length)).getD (q,0))) (by
   rw[hP,if_neg (by omega),if_neg (by omega),if_neg (by omega),if_neg (by omega),if_pos h,hn.eval (by omega)];rfl)]
  exact Zb.V (first:=[]) (args:=[]) (caps:=[_,_,_,_,_]) (Zng hI hs hx hq h1 h2 ho mis fun i hi=>hmis _ ho i hi)
 ·refine⟨_,by rw[h];rfl,?_⟩
  rw[use (n:=false) (b:=false) (h:=false) (p:=true) (by rw[h]<;>rfl) (by rw[h]<;>rfl) (by rw[h]<;>rfl) (by rw[h]<;>rfl) (Q:=Q6 mis d f.of x q) (by
   rw[hP,if_neg (by omega),if_neg (by omega),if_neg (by omega),if_neg (by omega),if_neg (by omega),if_pos h]),←ZmS]
  exact Zb.V (first:=[]) (args:=[]) (caps:=[_,_,_,_,_]) (Znh hs _ (hone _ (hfr.ref (by omega))))
 ·refine⟨_,by rw[h];rfl,?_⟩
  have hlt:=WM (fun c:YX=>dC (c.low≤WG f.tag nv)&&dC (WG f.tag nv≤c.high)) f.cases
  rw[show Zg (fun c:YX=>dC (c.low≤WG f.tag nv)&&dC (WG f.tag nv≤c.high)) f.cases=QN f (WG f.tag nv) from rfl]at hlt
  rw[use (n:=false) (b:=false) (h:=false) (p:=true) (by rw[h]<;>rfl) (by rw[h]<;>rfl) (by rw[h]<;>rfl) (by rw[h]<;>rfl) (Q:=Wd (q,if dC (0≤QN f (WG f.tag nv)) then 0 else 9) (Q6 mis d (f.cases.getD (QN f (WG f.tag nv)).toNat dE).of x q)) (by
   rw[hP,if_neg (by omega),if_neg (by omega),if_neg (by omega),if_neg (by omega),if_neg (by omega),if_neg (by omega),if_pos h]
   by_cases h1:QN f (WG f.tag nv)<0
   ·rw[if_pos h1,Kf (by simp;omega),if_neg (by simp;omega)]
   ·rw[if_neg h1,Ks (by simp;omega)]),←Zzy,←ZmS]
  exact Zb.V (first:=[]) (args:=[]) (caps:=[_,_,_,_,_]) (Zni hs _ (hn.tag h) _ fun h0=>hone _ (hfr.cas h _ (ZA (by omega))))
 ·refine⟨_,by rw[h];rfl,?_⟩
  obtain⟨h1,h2⟩:=hn.sz (by omega)
  have ho:=hfr.ref (by omega)
  rw[use (n:=false) (b:=false) (h:=false) (p:=true) (by rw[h]<;>rfl) (by rw[h]<;>rfl) (by rw[h]<;>rfl) (by rw[h]<;>rfl) (Q:=Wd (Q6 mis d f.of x q) (q,Kg (len (ZQ d f.of) (x.parts.getD 0 dE)) (J8 f.size l))) (by
   rw[hP,if_neg (by omega),if_neg (by omega),if_neg (by omega),if_neg (by omega),if_neg (by omega),if_neg (by omega),if_neg (by omega),if_pos h,hn.eval (by omega)];rfl),←ZwF,←ZmS]
  refine Zb.V (first:=[]) (args:=[]) (caps:=[_,_,_,_,_]) (Znj hs h1 h2 ho _ _ (hone _ ho) fun h0=>hlen h ?_)
  rw[ZmS]at h0
  unfold Wd at h0
  split at h0
  ·exact h0
  ·rename_i hne;exact absurd h0 hne
end
theorem ex3{st:St}{a b c p q r}(ha:st a=nO)(hb:(st.upd a p) b=nO)(hc:((st.upd a p).upd b q) c=nO):
  (((st.upd a p).upd b q).upd c r) a=sO p∧(((st.upd a p).upd b q).upd c r) b=sO q∧(((st.upd a p).upd b q).upd c r) c=sO r∧st.sub (((st.upd a p).upd b q).upd c r):=by
 have k1:=Zn hb
 have k2:=Zn hc
 have k3:=Zn k2.2
 refine⟨by rw[ZEJ _ _ (Ne.symm k3.1),ZEJ _ _ (Ne.symm k1.1),ZEI],by rw[ZEJ _ _ (Ne.symm k2.1),ZEI],ZEI _ _ _,ZFf (ZFf (ZEZ _ ha) (ZEZ _ hb)) (ZEZ _ hc)⟩
theorem ZbI.mono{st A b3 b4 b5 b6 b7 bm d m pth l f x q}(h:ZbI st b3 b4 b5 b6 b7 bm d m pth l f x q)(hs:st.sub A):ZbI A b3 b4 b5 b6 b7 bm d m pth l f x q :=
 ⟨hs _ _ h.p,hs _ _ h.f,hs _ _ h.x,hs _ _ h.q,hs _ _ h.u,hs _ _ h.m⟩
section
variable {st:St} {bm:Nat} {d:Dfn} {m:Msg} {pth:Str} {l nv:List (Str × Int)} {f:Fld} {x:Val}
theorem ZpU(hI:Zaj)(hm:st bm=sO (.map (Ki l)))(hnm:f.name≠[]∧f.name.length≤1000)(hp:pth.length≤900000)(hfr:Zh9 d f)(hv:W7 f=true)(hx:VOk x)(hn:ZgR f l nv)(mis len)(hmis:∀S s,0≤ZF d s d.msgs.length→∀i,i<x.parts.length→Zb ZEA 34 [.agg d.cells,.agg (ZQ d s).cells,.agg (x.parts.getD i dE).cells,.str (ZV (ZV pth f.name) (ZY x.parts i))] S (ZE (ZdI mis d s x (ZV pth f.name) i) S))(hlen:f.kind=12→(Q6 mis d f.of x (ZV pth f.name)).2=0→x.parts.length=1∧Ze ZEA 27 [.agg d.cells,.agg (ZQ d f.of).cells,.agg (x.parts.getD 0 dE).cells] (.int .i64 (len (ZQ d f.of) (x.parts.getD 0 dE)))):
  Zb ZEA 75 [.agg (WI m d pth bm),.agg f.cells,.agg x.cells] st (ZE (if Y1 f.kind x then (ZV pth f.name,6) else Ws mis len d f x (ZV pth f.name) nv) st):=by
 refine Zc (cR 75 f75) fun F hF=>?_
 have hjl:=Zc2 pth f.name
 have hj0:ZV pth f.name≠[]:=by
  unfold ZV
  split
  ·exact hnm.1
  ·simp
 generalize hR:(if Y1 f.kind x then (ZV pth f.name,6) else Ws mis len d f x (ZV pth f.name) nv)=R at *
 rw[ZE0]
 refine rx (nd2 @WI.eq_1 @eQ0) ?_
 refine Za ?_
 refine xP 3 fun b3 h3=>?_
 refine xP 4 fun b4 h4=>?_
 refine xP 5 fun b5 h5=>?_
 obtain⟨g3,g4,g5,hsub⟩:=ex3 (r:=.cells [.str x.name,.int .i64 x.int,ZL x.bytes,Z9 x.hdrs,ZW x.parts]) h3 h4 h5
 generalize ((st.upd b3 _).upd b4 _).upd b5 _=S at *
 have gm:=hsub _ _ hm
 refine rh ?_
 refine ZjL ?_
 simp only[Eqs,reduceCtorEq,ZEG,reduceIte,ZED,ZEH,ZEE,ZjT,Zno,g3,g4]
 refine Zs6 rfl rfl rfl rfl (by trivial) (by rfl) (by decide) fun bj hbj=>ZjL ?_
 simp only[Eqs,reduceCtorEq,ZEG,reduceIte,ZED,ZEH,ZEE,ZjT,Zno]
 refine ZjK rfl rfl rfl rfl rfl (by trivial) (by trivial) (by exact(ZpT (ZEI _ _ _) hnm.1 (by omega) (by omega))) ?_ ?_
 ·rintro dd T ⟨hr,o,rfl⟩
  cases hr
  rw[ZET]
  have hsj:=ZEZ o hbj
  refine gR0 ?_
  refine kl (S) [(3,.d (.ptr b3 0)),(4,.d (.ptr b4 0)),(5,.d (.ptr b5 0)),(6,.loc 6 0)] [(6,[.str (ZV pth f.name)])] (JC _) (Zcj _) ?_
  refine Za ?_
  refine xP 6 fun b6 h6=>?_
  refine rg ?_
  refine Za ?_
  refine xP 7 fun b7 h7=>?_
  have hs6:=ZEZ (.cells [.str (ZV pth f.name)]) h6
  have hs7:=ZEZ (.cells [.fn (.func 117) [] [.ptr b5 0,.ptr b6 0]]) h7
  have k7:=Zn h7
  have hs:ZbI ((S.upd b6 (.cells [.str (ZV pth f.name)])).upd b7 (.cells [.fn (.func 117) [] [.ptr b5 0,.ptr b6 0]])) b3 b4 b5 b6 b7 bm d m pth l f x (ZV pth f.name) :=
   ⟨hs7 _ _ (hs6 _ _ g3),hs7 _ _ (hs6 _ _ g4),hs7 _ _ (hs6 _ _ g5),hs7 _ _ (ZEI _ _ _),ZEI _ _ _,hs7 _ _ (hs6 _ _ gm)⟩
  have hst:=ZFf hsub (ZFf hs6 hs7)
  refine rg ?_
  generalize ((S.upd b6 _).upd b7 _)=T at *
  refine rh ?_
  refine Zj ?_
  simp only[Eqs,reduceCtorEq,ZEG,reduceIte,ZED,ZEH,ZEE,JP,Int.reduceEq,decide_false,ZEI,ZET,Yl,Ym]
  intro b hb
  have hsb:=ZEZ (.map (K6 WZ id (Zqb b3 b4 b5 b6 b7))) hb
  have hs2:=hs.mono hsb
  obtain⟨fn,hfn,hcall⟩:=Zzc hI hs2 hfr hv hx ⟨hj0,by omega⟩ hn mis len (hmis _) hlen
  rw[hR]at hcall
  have e1:=YO (vD:=id) Zhb f.kind (Zqb b3 b4 b5 b6 b7)
  have e3:=Wb Zhb f.kind
  simp only[show WZ f.kind=D.int .i64 f.kind from rfl]at e1 e3
  rw[hfn]at e1
  refine kl ((T.upd b (.map (K6 WZ id (Zqb b3 b4 b5 b6 b7))))) [(4,.d (.ptr b4 0)),(9,.d (.map b))] [] (JC _) (Zcj _) ?_
  refine rx (nd2 @hs2.f (nd2 @eQ0 (nd2 @ZEI (nd2 @e1 (nd2 @e3 (nd2 @ZEI (nd2 @ZET (nd2 @Yl @Ym)))))))) ?_
  rw[show id fn=fn from rfl]
  refine vV (hcall) ?_ ?_
  ·refine mfK fun h0=>?_
   refine gR0 ?_
   exact hF.fin (.tup []) st rfl trivial (ZEF _) (ZFf hst hsb) (ZE.ok h0)
  ·exact mfP fun h0=>hF.pan st (ZFf hst hsb) (ZE.bad h0 rfl)
 ·rintro dd T ⟨hr,_⟩
  cases hr
end
theorem ZuE(d n m v p):Yd d (n+1) m v p =
  Wd (p,if (((dC (v.name=m.name)&&dC (v.int=0))&&dC ((v.bytes.length:Int)=0))&&dC ((v.hdrs.length:Int)=0))&&Qn (vfs m.fields) v.parts then 0 else 6) ((WY (ZaW d n m v p) (ZEO v.parts.length)).getD ([],0)):=by
 rw[Zez,show ZaA m v.parts=Qn (vfs m.fields) v.parts from rfl]
 have e:∀n:Nat,dC ((n:Int)=0)=dC (n=0):=fun n=>by simp
 rw[e,e]
 unfold Wd
 generalize dC (v.name=m.name)=a1;generalize dC (v.int=0)=a2;generalize dC (v.bytes.length=0)=a3;generalize dC (v.hdrs.length=0)=a4;generalize Qn (vfs m.fields) v.parts=a5
 cases a1<;>cases a2<;>cases a3<;>cases a4<;>cases a5<;>rfl
theorem Zon(d fu m)(hm0:0<m.fields.length)(hm:m.fields.length≤1000)(v p st)(hpart:ZaA m v.parts=true→∀S b,S b=sO (.map (Ki (ZcM m v.parts)))→∀k,k<v.parts.length→(∀j,j<k→(ZaW d fu m v p j).2=0) →
   Zb ZEA 75 [.agg (WI m d p b),.agg ((vfs m.fields).getD k dE).cells,.agg (v.parts.getD k dE).cells] S (ZE (ZaW d fu m v p k) S)):
  Zb ZEA 34 [.agg d.cells,.agg m.cells,.agg v.cells,.str p] st (ZE (Yd d (fu+1) m v p) st):=by
 refine Zc (cR 34 f34) fun F hF=>?_
 have hva:=Zfz m hm0 (by omega)
 have hna:=Zop (vfs m.fields) v.parts
 have hnu:=fun hr=>Zjp m hm0 hm v.parts hr st
 have hvl:(vfs m.fields).length≤m.fields.length:=List.length_filter_le ..
 rw[ZuE,show ZaA m v.parts=Qn (vfs m.fields) v.parts from rfl]at *
 rw[ZE0]
 refine rx (nd2 @eQ3 @eQ2) ?_
 refine rg ?_
 refine clD (hva) ?_
 refine rx (nd2 @ZaI @ZiH) ?_
 refine cG (hna) ?_
 generalize hc:((((dC (v.name=m.name)&&dC (v.int=0))&&dC ((v.bytes.length:Int)=0))&&dC ((v.hdrs.length:Int)=0))&&Qn (vfs m.fields) v.parts)=cnd at *
 have c9:=Kj cnd p 6 (by decide) st
 refine cV (c9) ?_ ?_
 ·refine mfK fun h0=>?_
  rw[Ks h0]at hF
  have hr:Qn (vfs m.fields) v.parts=true:=by
   cases cnd with
   |false=>simp at h0
   |true=>simp only[ZEK]at hc;exact hc.2
  have hpt:=hpart hr
  have hlen:(vfs m.fields).length=v.parts.length:=by
   unfold Qn at hr
   rw[decide_eq_true_eq]at hr
   simpa using congrArg List.length hr
  refine gR0 ?_
  refine rg ?_
  refine cV (hnu hlen) ?_ ?_
  ·rintro dd S ⟨b,hb,hd,rfl⟩
   cases hd
   refine gR0 ?_
   refine rx @Zeu ?_
   have hsb:=ZEZ (.map (Ki (ZcM m v.parts))) hb
   have hgb:=ZEI st b (.map (Ki (ZcM m v.parts)))
   generalize st.upd b (.map (Ki (ZcM m v.parts)))=S at *
   refine Zd (fr ((vfs m.fields).length) (fun i Q=>i≤(vfs m.fields).length→(∀j,j<i→(ZaW d fu m v p j).2=0)→Q [(6,.loc 6 0),(8,.loc 8 0),(54,.d (Zr (vfs m.fields))),(55,.d (.int .i64 (vfs m.fields).length)),(56,.d (.int .i64 i))] [(6,[.str v.name,.int .i64 v.int,ZL v.bytes,Z9 v.hdrs,ZW v.parts]),(8,WI m d p b)] S) (fun n ih_key=>?_) fun key=>?_)
   ·intro i hn hi hall
    refine rg ?_
    refine Za (Zq rfl trivial (fun g1=>?_) (fun g1=>?_))
    ·simp at g1
     have hp:=hpt S b hgb i (by omega) hall
     have hat:=Zfc (g:=ZaW d fu m v p) (show i<v.parts.length by omega) hall
     have hup:=fun h=>Ye (q:=fun j=>(ZaW d fu m v p j).2=0) hall h
     have hr2:=QS (l:=v.parts) (i:=i) (by omega)
     generalize ZaW d fu m v p i=R at *
     rw[ZE0]at hp
     generalize v.parts.getD i dE=y at *
     generalize hf:(vfs m.fields).getD i dE=f at *
     refine rx (nd2 @atF (nd2 @hf (nd2 @ZaV @ZeX))) ?_
     refine aa ?_
     refine rx (nd2 @WI.eq_1 (nd2 @ZaV (nd2 @ZeX (nd2 @atV @hr2)))) ?_
     refine aa ?_
     refine cV0 (hp) ?_ ?_
     ·refine mfK fun h2=>?_
      refine gR0 ?_
      refine rg ?_
      refine aa ?_
      refine Zi ?_
      exact ih_key (((vfs m.fields).length)-(i+1)) (by omega) (i+1) rfl (by omega) (hup h2)
     ·exact mfP fun h2=>hF.pan st hsb (ZE.bad h2 (by rw[hat h2];rfl))
    ·simp at g1
     obtain rfl:i=(vfs m.fields).length:=by omega
     rw[hlen]at hall
     rw[Zmt hall]at hF
     refine ZR rfl ?_
     exact hF.fin (.tup []) st rfl trivial (ZEF _) hsb (ZE.ok rfl)
   exact key _ 0 rfl (by omega) (by intro j hj;omega)
  ·rintro dd S ⟨b,_,hd,_⟩
   cases hd
 ·exact mfP fun h0=>hF.pan st (ZEB _) (ZE.bad h0 (Kf h0))
theorem Qj.pos{d}(h:Qj d){j}(hj:j<d.msgs.length):0<(d.msgs.getD j dE).fields.length:=by
 have h1:=h.flaw j hj
 unfold WQ at h1
 split at h1;· simp at h1
 split at h1;· simp at h1
 split at h1;· simp at h1
 rename_i hc
 simp only[ZEY,decide_eq_true_eq,not_or,Nat.not_lt]at hc
 omega
theorem ZbE.low{d j i m f}(h:ZbE d j i m f)(h5:f.kind=5):0≤f.low∧f.low≤255:=by
 have hk:=h.ks
 unfold Zav at hk
 simp only[h5,Int.reduceEq,if_true,if_false]at hk
 split at hk
 ·omega
 ·rename_i hp
  simp only[ZEY,decide_eq_true_eq]at hp
  omega
theorem Zx5{d}(hd:Qj d){n s y q}(hy:VOk y)(h:(Yd d n (ZQ d s) y q).2=0):
  Ze ZEA 27 [.agg d.cells,.agg (ZQ d s).cells,.agg y.cells] (.int .i64 (lenS d n (ZQ d s) y)) :=
 Zfx d hd.dok n _ y (hd.dok.of s) hy.ok hy.wt (Zrj hd.dref n _ y q (hd.dref.of s) hy.ok h)
theorem Zjo(hI:Zaj){d}(hd:Qj d):∀(n im v p st),im<d.msgs.length→VOk v→Z6 v≤n→p.length+10200*n≤900000 →
  Zb ZEA 34 [.agg d.cells,.agg (d.msgs.getD im dE).cells,.agg v.cells,.str p] st (ZE (Yd d n (d.msgs.getD im dE) v p) st)
 |0,_,v,_,_,_,_,hh,_=>by have:=Ky v;omega
 |n+1,im,v,p,st,him,hv,hh,hp=>by
  have hmo:=hd.msg him
  have hm40:=hmo.many
  refine Zon d n _ (hd.pos him) (by omega) v p st fun hr S b hb k hk hall=>?_
  have hlen:(vfs (d.msgs.getD im dE).fields).length=v.parts.length:=by
   unfold ZaA at hr
   rw[decide_eq_true_eq]at hr
   simpa using congrArg List.length hr
  obtain⟨i,hi,hvv,hki,hfi⟩:=ZaR (l:=(d.msgs.getD im dE).fields) (k:=k) (by omega)
  have haf:=hmo.at_ hi
  have hfr:=haf.fref (hd.fld him hi)
  have hxm:v.parts.getD k dE∈v.parts:=ZA hk
  have hxo:=hv.part hxm
  have hnl:=ZkJ haf.nm
  obtain⟨hs1,hs2⟩:=Zu1 hmo.nmU hr hk
  rw[hs2,hfi]at hs1
  have hxh:Z6 (v.parts.getD k dE)≤n:=by
   have h1:=ZfQ hxm
   have h2:=Ky v
   omega
  have hG:=ZaW.eq_1 d n (d.msgs.getD im dE) v p k
  rw[hs1,hfi]at hG
  have hnum:=fun a ha hn=>ZAn hmo (n:=n) (v:=v) (p:=p) hi hki hall (a:=a) ha hn
  have htag:∀a,a<i→Yv ((d.msgs.getD im dE).fields.getD a dE)=true→WG ((d.msgs.getD im dE).fields.getD a dE).name (Qz (d.msgs.getD im dE) v.parts)=Zaa (d.msgs.getD im dE).fields v.parts a:=fun a ha hn =>
   ZgI (by omega) hmo.nmU hn fun hva=>by have:=Zkf ha hi hva;omega
  have hget:∀a,a<i→Yv ((d.msgs.getD im dE).fields.getD a dE)=true→Zp ((d.msgs.getD im dE).fields.getD a dE).name (ZcM (d.msgs.getD im dE) v.parts)=sO (Zaa (d.msgs.getD im dE).fields v.parts a):=fun a ha hn =>
   Zy6 hmo.nmU v.parts (by omega) hn
  have hno:ZgR ((d.msgs.getD im dE).fields.getD i dE) (ZcM (d.msgs.getD im dE) v.parts) (Qz (d.msgs.getD im dE) v.parts):=by
   refine⟨fun hz=>?_,fun h9=>?_,haf.low⟩
   ·obtain⟨h1,h2⟩:=haf.size hi hz
    refine⟨h1,fun t ht=>?_⟩
    obtain⟨a,ha,hna,hn⟩:=h2 t ht
    exact⟨_,by rw[←hna];exact hget a ha hn,(hnum a ha hn).1,(hnum a ha hn).2,by rw[←hna];exact htag a ha hn⟩
   ·obtain⟨a,ha,hna,hn⟩:=haf.tag hi h9
    rw[←hna,hget a ha hn,htag a ha hn];rfl
  have hq:=Zc2 p ((d.msgs.getD im dE).fields.getD i dE).name
  rw[hfi,hG]
  generalize v.parts.getD k dE=x at *
  refine ZpU hI hb ⟨fun e=>by rw[e]at hnl;simp at hnl,by omega⟩ (by omega) hfr hvv hxo hno (Yd d n) (lenS d n) (fun T s hs j hj=>?_) (fun h12 h0=>?_)
  ·have hix:=Zc1 hs
   have hym:x.parts.getD j dE∈x.parts:=ZA hj
   have h1:=Zc2 (ZV p ((d.msgs.getD im dE).fields.getD i dE).name) (ZY x.parts j)
   have h2:=ZfA hxo.few hxo.name hj
   have h3:=ZfQ hym
   have h4:=Ky x
   exact Zjo hI hd n (ixS d s) _ _ T hix.2 (hxo.part hym) (by omega) (by omega)
  ·obtain⟨h1,h2⟩:=Zoc h0
   exact⟨h1,Zx5 hd (hxo.part (ZA (by omega))) h2⟩
theorem Zjm{z st}:JA ZEA 33 [.ptr z 0] nO st fun _ S=>S=st:=by
 refine ZbF (cR 33 f33) rfl (by simp) fun F hF=>?_
 refine rg ?_
 refine ZfH hF rfl rfl ?_
 refine gR0 ?_
 refine rg ?_
 refine cd (fun h=>?_) (fun h=>?_)
 ·simp at h
 ·refine ZD ?_
  exact hF.fin (ZEB _) rfl
theorem Zjn{z st c}(hc:c.length=2)(q no)(hn:inR .i64 no)(hq:q.length≤big)(hz:st z=sO (.cells c)):
  JA ZEA 33 [.ptr z 0] (sO (mfD q no)) st fun b S=>b=true∧S=st.upd z (.cells [.str q,.int .i64 no]):=by
 obtain⟨c1,c2,rfl⟩:∃c1 c2,c=[c1,c2]:=by
  match c,hc with
  | [c1,c2],_=>exact⟨c1,c2,rfl⟩
 refine ZbF (cR 33 f33) rfl (by rintro d ⟨⟩;exact⟨hq,hn,trivial⟩) fun F hF=>?_
 refine rg ?_
 refine Zl0 hF rfl rfl fun F2 hF2=>?_
 refine gR0 ?_
 refine rx @mfD.eq_1 ?_
 refine cd (fun h=>?_) (fun h=>?_)
 ·refine rx @mfD.eq_1 ?_
  refine rg ?_
  refine cd (fun h5=>?_) (fun h5=>?_)
  ·simp at h5
  ·refine rx @hz ?_
   exact hF2.fin (ZEB _) ⟨rfl,rfl⟩
 ·simp[mfD]at h
def Zrn(r:Str×Int):D:=.agg [.str (if r.2=0 then [] else r.1),.int .i64 r.2]
theorem Zom(d:Dfn)(m:Msg)(v:Val)(R st)(hfit:∀S,Zb ZEA 34 [.agg d.cells,.agg m.cells,.agg v.cells,.str []] S (ZE R S)):
  Zb ZEA 18 [.agg d.cells,.agg m.cells,.agg v.cells] st fun r S=>S=st∧r=.ret (Zrn R):=by
 refine Zc (cR 18 f18) fun F hF=>?_
 rw[ZE0]at hfit⊢
 have hfs:=Zrn.eq_1 R
 generalize Zrn R=W at *
 refine rx (nd2 @eQ3 @eQ2) ?_
 refine Za ?_
 refine xP 6 fun z hz=>?_
 refine rg ?_
 refine Zk5 (by obtain⟨_,_,_,_,_,_,rfl⟩:=hF;rfl) rfl rfl rfl rfl rfl rfl trivial trivial ?_ ?_ ?_
 ·trivial
 ·exact⟨rfl,trivial⟩
 have hF':=hF.defer 33 [] [.ptr z 0]
 clear hF
 refine gR0 ?_
 generalize F.defer 33 [] [.ptr z 0]=F at hF'⊢
 refine rg ?_
 refine cV (hfit _) ?_ ?_
 ·refine mfK fun h0=>?_
  rw[if_pos h0,h0]at hfs
  refine gR0 ?_
  refine rx (nd2 @ZEI @ZET) ?_
  refine hF'.retU ⟨trivial,⟨rfl,trivial⟩,Za8 Zjm ?_⟩
  rintro b S3 rfl
  rw[ite_self]
  have g3:=ZEI st z (.cells [.str [],.int .i64 0])
  refine⟨_,[.agg [.str [],.int .i64 0]],_,st,by simp only[Eqs,reduceCtorEq,ZEG,reduceIte,ZED,ZEH,ZEE,Yk,WF,g3];rfl,by trivial,ZEF _,ZEZ _ hz,rfl,by rw[hfs];rfl⟩
 ·refine mfP fun h0=>?_
  rw[if_neg h0]at hfs
  refine ZoN fun hw=>?_
  have hw2:=DWf.agg_inv (DWf.iface_inv hw)
  have h1:inR .i64 R.2:=(hw2 _ (by simp)).int_inv
  have h2:=(hw2 (.str R.1) (by simp)).str_inv
  refine hF'.panU ⟨trivial,⟨rfl,trivial⟩,Za8 (Zjn rfl R.1 R.2 h1 h2 (ZEI _ _ _)) ?_⟩
  rintro b S2 ⟨rfl,rfl⟩
  have g3:=ZEI (st.upd z (.cells [.str [],.int .i64 0])) z (.cells [.str R.1,.int .i64 R.2])
  refine⟨_,[.agg [.str R.1,.int .i64 R.2]],_,st,by simp only[Eqs,reduceCtorEq,ZEG,reduceIte,ZED,ZEH,ZEE,Yk,WF,g3];rfl,by trivial,ZEF _,?_,rfl,by rw[hfs];rfl⟩
  rw[ZET]
  exact ZEZ _ hz
def ZfO(d:Dfn)(s:Str)(v:Val):(Str×Int)×Int:=if Qk d&&Y7 v then (if ZF d s d.msgs.length<0 then (([],0),9) else ((if (Yd d 51 (ZQ d s) v []).2=0 then [] else (Yd d 51 (ZQ d s) v []).1,(Yd d 51 (ZQ d s) v []).2),(Yd d 51 (ZQ d s) v []).2)) else (([],0),2)
theorem ZpB{v}(h:Y7 v=true)(hs:Y3 v=true→wtN v≤5100∧Z6 v≤51):VOk v∧Z6 v≤51:=by
 have h1:Y3 v=true:=by
  unfold Y7 at h
  simp only[ZEK]at h
  simp_all
 exact⟨⟨h1,(hs h1).1⟩,(hs h1).2⟩
theorem ZpS(hI:Zaj)(d s v)(hs:Y3 v=true→wtN v≤5100∧Z6 v≤51):
  Ze ZEA 6 [.agg d.cells,.str s,.agg v.cells] (.tup [.agg [.str (ZfO d s v).1.1,.int .i64 (ZfO d s v).1.2],.int .i64 (ZfO d s v).2]):=by
 refine Zm (cR 6 f6) fun F st hret=>?_
 have hA:=ZsN d s v
 have hS:=ZfO.eq_1 d s v
 have hT:=atR.eq_1 d s v
 generalize ZfO d s v=W at *
 generalize atR d s v=X at *
 cases ha:Qk d&&Y7 v with
 |false =>
  rw[ha,if_neg (by simp)]at hS hT
  subst hS;subst hT
  rw[ZE0]at *
  refine rx @eQ3 ?_
  refine rg ?_
  refine cl (hA) ?_
  refine rg ?_
  refine i1 ?_
  refine rg ?_
  refine rt hret ?_
  rfl
 |true =>
  rw[ha,if_pos rfl]at hS hT
  by_cases hf:ZF d s d.msgs.length<0
  ·rw[if_pos hf]at hS hT
   subst hS;subst hT
   rw[ZE0]at *
   refine rx @eQ3 ?_
   refine rg ?_
   refine cl (hA) ?_
   refine rg ?_
   refine i1 ?_
   refine rg ?_
   refine rt hret ?_
   rfl
  ·rw[if_neg hf]at hS hT
   subst hT
   simp only[ZEK]at ha
   have hix:=Zc1 (d:=d) (s:=s) (by omega)
   obtain⟨hv,hh⟩:=ZpB ha.2 hs
   have hF:Ze ZEA 18 [.agg d.cells,.agg (ZQ d s).cells,.agg v.cells] (Zrn (Yd d 51 (ZQ d s) v [])):=fun st =>
    (Zom d (ZQ d s) v (Yd d 51 (ZQ d s) v []) st fun S=>Zjo hI (ZhL ha.1) 51 (ixS d s) v [] S hix.2 hv hh (by simp)).mono fun r S ⟨h1,h2⟩=>⟨h2,h1⟩
   generalize Yd d 51 (ZQ d s) v []=R at *
   unfold Zrn at hF
   generalize (if R.2=0 then [] else R.1)=q at *
   subst hS
   generalize ZQ d s=m at *
   rw[ZE0]at *
   refine rx @eQ3 ?_
   refine rg ?_
   refine cX @eQ2 (hA) ?_
   refine rg ?_
   refine i0 ?_
   refine rg ?_
   refine cl (hF) ?_
   refine rg ?_
   refine rt hret ?_
   rfl
theorem Zrr(e):Ze ZEA 7 [.int .i64 e] (.int .i64 e):=by
 refine Zm (cR 7 f7) fun F st hret=>?_
 refine rg ?_
 refine rg ?_
 refine ro hret ?_
 rfl
def Val.setPs(v:Val)(P:List Val):Val:=.mk v.name v.int v.bytes v.hdrs P
theorem Zuu{l x}(h:x∈l):Z6 x≤heightL l:=by
 induction l with
 |nil=>simp at h
 |cons v r ih =>
  simp only[heightL]
  rcases List.mem_cons.1 h with rfl|h
  ·omega
  ·have:=ih h;omega
theorem ZfR{v x}(h:x∈v.parts):Z6 x+1≤Z6 v:=by
 have:=Zuu h;rw[Ky v];omega
section
variable {mis:Msg→Val→Str→Str × Int} {len:Msg→Val→Int} {d:Dfn} {f:Fld} {x:Val} {q:Str} {l:List (Str × Int)}
theorem Zwm(h:f.kind=4):Ws mis len d f x q l=(q,Kg x.bytes.length (ZaN f.size l)):=by unfold Ws;rw[if_neg (by omega),if_pos h]
theorem ZrM(h:f.kind=7):Ws mis len d f x q l=if Kg x.parts.length (ZaN f.size l)=0 then (WY (fun i=>mis (ZQ d f.of) (x.parts.getD i dE) (ZV q (ZY x.parts i))) (ZEO x.parts.length)).getD (q,0) else (q,Kg x.parts.length (ZaN f.size l)):=by
 unfold Ws;rw[if_neg (by omega),if_neg (by omega),if_neg (by omega),if_neg (by omega),if_pos h]
theorem ZAr(h:f.kind=8):Ws mis len d f x q l=Q6 mis d f.of x q:=by
 unfold Ws;rw[if_neg (by omega),if_neg (by omega),if_neg (by omega),if_neg (by omega),if_neg (by omega),if_pos h]
theorem ZrN(h:f.kind=9):Ws mis len d f x q l=if QN f (WG f.tag l)<0 then (q,9) else Q6 mis d (f.cases.getD (QN f (WG f.tag l)).toNat dE).of x q:=by
 unfold Ws;rw[if_neg (by omega),if_neg (by omega),if_neg (by omega),if_neg (by omega),if_neg (by omega),if_neg (by omega),if_pos h]
theorem Zoe(h:f.kind=12):Ws mis len d f x q l=if (Q6 mis d f.of x q).2=0 then (q,Kg (len (ZQ d f.of) (x.parts.getD 0 dE)) (ZaN f.size l)) else Q6 mis d f.of x q:=by
 unfold Ws;rw[if_neg (by omega),if_neg (by omega),if_neg (by omega),if_neg (by omega),if_neg (by omega),if_neg (by omega),if_neg (by omega),if_pos h]
end
mutual
def Y6:Val→Val
 |.mk n _ b h p=>.mk n 0 b h (plainL p)
def plainL:List Val→List Val
 | []=>[]
 |v::r=>Y6 v::plainL r
end
theorem ZmX:∀l:List Val,plainL l=l.map Y6
 | []=>rfl
 |v::r=>by simp[plainL,ZmX r]
theorem Zc3(v):Y6 v=.mk v.name 0 v.bytes v.hdrs (v.parts.map Y6):=by
 cases v;simp only[Y6,ZmX];rfl
theorem ZmY(v i):Y6 (v.setI i)=Y6 v:=by rw[Zc3,Zc3 v];rfl
theorem ZsI{v P}(h:P.map Y6=v.parts.map Y6):Y6 (v.setPs P)=Y6 v:=by
 rw[Zc3,Zc3 v]
 show Val.mk v.name 0 v.bytes v.hdrs (P.map Y6)=_
 rw[h]
theorem Zwr{P:List Val}{i x}(h:Y6 x=Y6 (P.getD i dE)):(P.set i x).map Y6=P.map Y6:=by
 rw[List.map_set,h]
 refine List.ext_getElem (by simp) fun j h1 h2=>?_
 rw[List.getElem_set]
 split
 ·rename_i e;subst e
  have hj:i<P.length:=by simpa using h2
  simp[ZES,hj]
 ·rfl
section
variable {d:Dfn} {m:Msg} {rec:Msg→Val→Val} (hrec:∀ s y,Y6 (rec (ZQ d s) y)=Y6 y)
include hrec
end
theorem Zfr{v}:Y3 v=true↔(∀x∈v.parts,Y3 x=true)∧Qo v=true:=by
 rw[ZeA,ZEK,ZdL,List.all_eq_true]
theorem Zhm{v i}(h:Y3 v=true)(h0:0≤i)(h1:i<34359738368):Y3 (v.setI i)=true:=by
 rw[Zfr]at h⊢
 refine⟨h.1,?_⟩
 have h2:=h.2
 unfold Qo at h2⊢
 simp only[ZEK,decide_eq_true_eq]at h2⊢
 exact⟨⟨⟨⟨⟨h2.1.1.1.1.1,h0⟩,h1⟩,h2.1.1.2⟩,h2.1.2⟩,h2.2⟩
theorem ZsH{v P}(h:Y3 v=true)(hP:∀x∈P,Y3 x=true):Y3 (v.setPs P)=true:=by
 rw[Zfr]at h⊢
 exact⟨hP,h.2⟩
def ZBb(m:Msg):Prop:=∀f∈vfs m.fields,Yv f=true→0≤f.low∧f.high<34359738368
theorem ZAo{P:List Val}{i x}(h:∀x∈P,Y3 x=true)(hx:Y3 x=true):∀y∈P.set i x,Y3 y=true:=fun y hy=>by
 rcases List.mem_or_eq_of_mem_set hy with h1|rfl
 ·exact h y h1
 ·exact hx
section
variable {d:Dfn} {m:Msg} {rec:Msg→Val→Val} (hrec:∀ s y,Y3 y=true→Y3 (rec (ZQ d s) y)=true) (hm:ZBb m)
include hrec
end
mutual
theorem ZeD:∀v:Val,wtN (Y6 v)=wtN v
 |.mk n i b h p=>by simp only[Y6,wtN,plain_wtL p]
theorem plain_wtL:∀l:List Val,wtL (plainL l)=wtL l
 | []=>rfl
 |v::r=>by simp only[plainL,wtL,ZeD v,plain_wtL r]
end
mutual
theorem Zay:∀v:Val,Z6 (Y6 v)=Z6 v
 |.mk n i b h p=>by simp only[Y6,Z6,plain_heightL p]
theorem plain_heightL:∀l:List Val,heightL (plainL l)=heightL l
 | []=>rfl
 |v::r=>by simp only[plainL,heightL,Zay v,plain_heightL r]
end
theorem MN.fmem{T v c fp x cap row f X}(h:MN T v c fp x cap row f X){i y}(hi:i<v.parts.length)(hy:y∈f i):y∈fp:=by
 rw[h.fp];simp only[ZFd,List.mem_flatMap,List.mem_range];exact .inr ⟨i,hi,hy⟩
theorem MN.xmem{T v c fp x cap row f X}(h:MN T v c fp x cap row f X):x∈fp:=by rw[h.fp];simp
theorem MN.len5{T v c fp x cap row f X}(h:MN T v c fp x cap row f X):∀j,j<v.parts.length→(row j).length=5:=fun j hj=>(h.kid j hj).len
section
variable {T A S:St} {v:Val} {l:List Fld} {P:List Val} {c:List D} {fp:List Nat} {x cap:Nat} {row row':Nat→List D} {f:Nat→List Nat} {X:List D} {z5 z6 z7:Nat}
end
theorem Zyt{f args args' T Ln d}(hL:∀b∈Ln,∃ds,T b=sO (.cells ds))(hl:LdC T Ln args args')(hc:Ze ZEA f args' d)(hd:SC (fun b=>((fun _=>nO:St) b).isSome=true) d):Zb ZEA f args T fun r S=>r=.ret d∧S=T:=by
 have h:=Zb.lend hL hl (hc fun _=>nO) (fun r S hr=>by
  obtain⟨rfl,rfl⟩:=hr
  exact⟨hd,fun b o h=>by simp at h⟩)
 refine h.mono fun r S hS=>?_
 obtain⟨S',⟨hr,rfl⟩,_,rfl⟩:=hS
 exact⟨hr,ZfZ T⟩
section
variable {T A S:St} {v:Val} {l:List Fld} {P:List Val} {c:List D} {fp:List Nat} {x cap:Nat} {row row':Nat→List D} {f:Nat→List Nat} {X:List D} {z5 z6 z7:Nat}
end
def okP:Val→List Nat→Prop
 |_,[]=>True
 |v,i::r=>i<v.parts.length∧okP (v.parts.getD i dE) r
def Yi:Val→List Nat→Val
 |v,[]=>v
 |v,i::r=>Yi (v.parts.getD i dE) r
def Wt:Val→List Nat→List (Str×Nat)
 |_,[]=>[]
 |v,i::r=>((v.parts.getD i dE).name,Wn v.parts i)::Wt (v.parts.getD i dE) r
def QR:Val→Str→List Nat→Str
 |_,p,[]=>p
 |v,p,i::r=>QR (v.parts.getD i dE) (ZV p (ZY v.parts i)) r
def Kp:Val→List Nat→Val→Val
 |_,[],y=>y
 |v,i::r,y=>v.setPs (v.parts.set i (Kp (v.parts.getD i dE) r y))
abbrev Q2(x:Val):Val:=x.setI 34359738367
theorem Zat{P:List Val}{i j x}(h:i<P.length):(P.set i x).getD j dE=if j=i then x else P.getD j dE:=by
 by_cases e:j=i
 ·subst e;simp[ZES,h]
 ·rw[if_neg e];simp[ZES,List.getElem?_set,Ne.symm e]
theorem ZrV:∀{r v},(Kp v r (Q2 (Yi v r))).name=v.name
 | [],_=>rfl
 |_::_,_=>rfl
theorem Zfs:∀{r v},okP v r→Y6 (Kp v r (Q2 (Yi v r)))=Y6 v
 | [],_,_=>ZmY _ _
 |_::_,_,h=>ZsI (Zwr (Zfs h.2))
theorem Zph:∀{r v},okP v r→Y3 v=true→Y3 (Kp v r (Q2 (Yi v r)))=true
 | [],_,_,hv=>Zhm hv (by decide) (by decide)
 |i::r,v,h,hv=>ZsH hv (ZAo (Zfr.1 hv).1 (Zph h.2 ((Zfr.1 hv).1 _ (ZA h.1))))
theorem Zpt{P:List Val}{i x}(h:x.name=(P.getD i dE).name):(P.set i x).map Val.name=P.map Val.name:=by
 rw[List.map_set,h]
 refine List.ext_getElem (by simp) fun j h1 h2=>?_
 rw[List.getElem_set]
 split
 ·rename_i e;subst e
  have hj:i<P.length:=by simpa using h2
  simp[ZES,hj]
 ·rfl
theorem Zpg{P Q:List Val}(h:P.map Val.name=Q.map Val.name)(k):(P.getD k dE).name=(Q.getD k dE).name:=by
 have hl:P.length=Q.length:=by simpa using congrArg List.length h
 have h1:(P.map Val.name)[k]?=(Q.map Val.name)[k]?:=by rw[h]
 by_cases hk:k<P.length
 ·have hk2:k<Q.length:=by omega
  simp[hk,hk2]at h1
  simp[ZES,hk,hk2,h1]
 ·simp[ZES,ZFi (Nat.le_of_not_lt hk),ZFi (show Q.length≤k by omega)]
theorem Znp{P Q:List Val}(h:P.map Val.name=Q.map Val.name)(k):ZY P k=ZY Q k:=by
 have hd:Wn P k=Wn Q k:=by
  unfold Wn
  rw[Zpg h k]
  have e:∀(l:List Val) (s:Str),(l.filter fun x=>dC (x.name=s)).length=((l.map Val.name).filter fun x=>dC (x=s)).length:=fun l s=>by
   rw[List.filter_map,List.length_map];rfl
  rw[e,e,List.map_take,List.map_take,h]
 unfold ZY
 rw[hd,Zpg h k]
theorem ZsG{m:Msg}{P Q:List Val}{i a:Nat}(ha:a<i)(hi:i<m.fields.length)(hn:Yv (m.fields.getD a dE)=true)(h:∀j,j<(vfs (m.fields.take i)).length→(P.getD j dE).int=(Q.getD j dE).int):Zaa m.fields P a=Zaa m.fields Q a:=by
 unfold Zaa
 split
 ·rfl
 ·rename_i h2
  exact h _ (Zkf ha hi (ZdF hn h2))
theorem Zpx{d j m}(hm:ZbH d j m){P Q:List Val}(hP:(vfs m.fields).length=P.length)(hQ:(vfs m.fields).length=Q.length){i a:Nat}(ha:a<i)(hi:i<m.fields.length)(hn:Yv (m.fields.getD a dE)=true)(h:∀j,j<(vfs (m.fields.take i)).length→(P.getD j dE).int=(Q.getD j dE).int):WG (m.fields.getD a dE).name (Qz m P)=WG (m.fields.getD a dE).name (Qz m Q):=by
 have hl:W7 (m.fields.getD a dE)=true→(vfs (m.fields.take a)).length<(vfs m.fields).length:=fun hh=>by
  have:=Zkf (l:=m.fields) ha hi hh
  have h2:(vfs (m.fields.take i)).length≤(vfs m.fields).length:=by unfold vfs;exact(List.Sublist.filter _ (List.take_sublist _ _)).length_le
  omega
 unfold Qz
 rw[ZgI (by omega) hm.nmU hn (fun hh=>by have:=hl hh;omega),ZgI (by omega) hm.nmU hn (fun hh=>by have:=hl hh;omega)]
 exact ZsG ha hi hn h
theorem ZmV{d j m}(hm:ZbH d j m){P Q:List Val}(hP:(vfs m.fields).length=P.length)(hQ:(vfs m.fields).length=Q.length){i}(hi:i<m.fields.length)(h:∀j,j<(vfs (m.fields.take i)).length→(P.getD j dE).int=(Q.getD j dE).int)(mis len x q):Ws mis len d (m.fields.getD i dE) x q (Qz m P)=Ws mis len d (m.fields.getD i dE) x q (Qz m Q):=by
 have hsz:(m.fields.getD i dE).kind=4∨(m.fields.getD i dE).kind=7∨(m.fields.getD i dE).kind=12→ZaN (m.fields.getD i dE).size (Qz m P)=ZaN (m.fields.getD i dE).size (Qz m Q):=fun hz=>by
  obtain⟨_,ht⟩:=(hm.at_ hi).size hi hz
  have key:∀l:List Yp,(∀t∈l,∃k,k<i∧(m.fields.getD k dE).name=t.field∧Yv (m.fields.getD k dE)=true)→K0 (fun t=>WG t.field (Qz m P)) l=K0 (fun t=>WG t.field (Qz m Q)) l:=fun l=>by
   induction l with
   |nil=>intro _;rfl
   |cons t r ih =>
    intro h1
    obtain⟨k,h2,h3,h4⟩:=h1 t (by simp)
    have h5:=Zpx hm hP hQ h2 hi h4 h
    rw[h3]at h5
    unfold K0
    rw[h5,ih fun t ht=>h1 t (by simp[ht])]
  unfold ZaN
  rw[key _ ht]
 have htg:(m.fields.getD i dE).kind=9→WG (m.fields.getD i dE).tag (Qz m P)=WG (m.fields.getD i dE).tag (Qz m Q):=fun h9=>by
  obtain⟨k,h2,h3,h4⟩:=(hm.at_ hi).tag hi h9
  have h5:=Zpx hm hP hQ h2 hi h4 h
  rwa [h3]at h5
 generalize m.fields.getD i dE=f at *
 by_cases h4:f.kind=4
 ·rw[Zwm h4,Zwm h4,hsz (.inl h4)]
 ·by_cases h7:f.kind=7
  ·rw[ZrM h7,ZrM h7,hsz (.inr (.inl h7))]
  ·by_cases h9:f.kind=9
   ·rw[ZrN h9,ZrN h9,htg h9]
   ·by_cases h12:f.kind=12
    ·rw[Zoe h12,Zoe h12,hsz (.inr (.inr h12))]
    ·unfold Ws
     simp only[if_neg h4,if_neg h7,if_neg h9,if_neg h12]
def c36(c:Int):Prop:=c=3∨c=6
theorem c36.ne{c}(h:c36 c):¬c=0:=by rcases h with rfl|rfl<;>decide
theorem Zvj{k x i y}(hi:i<x.parts.length):Y1 k (x.setPs (x.parts.set i y))=Y1 k x:=by
 unfold Y1
 rw[show(x.setPs (x.parts.set i y)).parts.length=x.parts.length from List.length_set ..]
 rfl
theorem Zx1{d n f x q l i r}(hf:Zh9 d f)(hv:W7 f=true)(hu:Y1 f.kind x=false)(h0:(Ws (Yd d n) (lenS d n) d f x q l).2=0)(hi:i<x.parts.length){y'}(hy:y'.name=(x.parts.getD i dE).name)(ih:∀im q,im<d.msgs.length→(Yd d n (d.msgs.getD im dE) (x.parts.getD i dE) q).2=0→∃c,c36 c∧Yd d n (d.msgs.getD im dE) y' q=(QR (x.parts.getD i dE) q r,c)):
  ∃c,c36 c∧Ws (Yd d n) (lenS d n) d f (x.setPs (x.parts.set i y')) q l=(QR (x.parts.getD i dE) (ZV q (ZY x.parts i)) r,c):=by
 have hk:f.kind=7∨f.kind=8∨f.kind=9∨f.kind=12:=by
  unfold Y1 at hu
  simp only[Bool.or_eq_false_iff,Bool.and_eq_false_iff,Bool.not_eq_false',decide_eq_true_eq,decide_eq_false_iff_not]at hu
  have h1:=hu.2
  have:=hf.kind
  unfold W7 at hv
  simp only[ZEK,Bool.not_eq_true',decide_eq_false_iff_not]at hv
  omega
 have hps:(x.setPs (x.parts.set i y')).parts=x.parts.set i y':=rfl
 have hst:∀k,ZY (x.parts.set i y') k=ZY x.parts k:=fun k=>Znp (Zpt hy) k
 have one:∀of,0≤ZF d of d.msgs.length→(Q6 (Yd d n) d of x q).2=0→∃c,c36 c∧Q6 (Yd d n) d of (x.setPs (x.parts.set i y')) q=(QR (x.parts.getD i dE) (ZV q (ZY x.parts i)) r,c):=fun of hof h1=>by
  obtain⟨hl,h2⟩:=Zoc h1
  obtain rfl:i=0:=by omega
  obtain⟨c,hc,h3⟩:=ih _ _ (Zc1 hof).2 h2
  refine⟨c,hc,?_⟩
  unfold Q6
  rw[hps,List.length_set,if_pos hl,Zat hi,if_pos rfl,hst]
  exact h3
 rcases hk with hk|hk|hk|hk
 ·have hof:=hf.ref (.inl hk)
  rw[ZrM hk]at h0⊢
  rw[hps,List.length_set]
  split at h0
  case isFalse hs=>exact absurd h0 hs
  case isTrue hs =>
   rw[if_pos hs]
   have hall:=Zfd h0
   obtain⟨c,hc,h3⟩:=ih _ _ (Zc1 hof).2 (hall i hi)
   refine⟨c,hc,?_⟩
   have hgi:Yd d n (ZQ d f.of) ((x.parts.set i y').getD i dE) (ZV q (ZY (x.parts.set i y') i))=(QR (x.parts.getD i dE) (ZV q (ZY x.parts i)) r,c):=by
    rw[Zat hi,if_pos rfl,hst];exact h3
   rw[Zfc hi (fun j hj=>?_) (by rw[hgi];exact hc.ne),hgi]
   ·rfl
   ·rw[Zat hi,if_neg (by omega),hst];exact hall j (by omega)
 ·rw[ZAr hk]at h0⊢
  exact one _ (hf.ref (.inr (.inl hk))) h0
 ·rw[ZrN hk]at h0⊢
  split at h0
  ·simp at h0
  ·rename_i hge
   rw[if_neg hge]
   refine one _ (hf.cas hk _ (ZA ?_)) h0
   have:=WM (fun c=>dC (c.low≤WG f.tag l)&&dC (WG f.tag l≤c.high)) f.cases
   unfold QN at hge⊢
   omega
 ·rw[Zoe hk]at h0⊢
  split at h0
  case isFalse hs=>exact absurd h0 hs
  case isTrue hs =>
   obtain⟨c,hc,h3⟩:=one _ (hf.ref (.inr (.inr hk))) hs
   refine⟨c,hc,?_⟩
   rw[h3,if_neg hc.ne]
theorem Zyv{d}(hd:Qj d)(hh:∀m∈d.msgs,∀f∈m.fields,f.high<34359738367):∀n im v p r,im<d.msgs.length→okP v r→(Yd d n (d.msgs.getD im dE) v p).2=0 →
  ∃c,c36 c∧Yd d n (d.msgs.getD im dE) (Kp v r (Q2 (Yi v r))) p=(QR v p r,c)
 |0,im,v,p,_,_,_,h=>by simp[Yd]at h
 |n+1,im,v,p,[],him,_,h=>by
  refine⟨6,.inr rfl,?_⟩
  rw[Zez,if_neg]
  ·rfl
  ·simp only[ZEK,decide_eq_true_eq]
   exact fun hc=>absurd hc.2.1 (by show ¬(34359738367:Int)=0;decide)
 |n+1,im,v,p,k::r,him,hok,h=>by
  have hm:=hd.msg him
  have href:=hd.dref _ (ZA him)
  have hhm:=hh _ (ZA him)
  have ih:=Zyv hd hh n
  generalize d.msgs.getD im dE=m at *
  obtain⟨hk,hok⟩:=hok
  rw[Zez]at h⊢
  split at h
  case isFalse=>simp at h
  case isTrue hc =>
   simp only[ZEK,decide_eq_true_eq]at hc
   have hr:=hc.2.2.2.2
   have hlen:(vfs m.fields).length=v.parts.length:=by
    unfold ZaA at hr;rw[decide_eq_true_eq]at hr;simpa using congrArg List.length hr
   have hall:=Zfd h
   have hgk:=hall k hk
   obtain⟨a,ha,hav,hka,hfa⟩:=ZaR (l:=m.fields) (k:=k) (by omega)
   have hfr:=href _ (ZA ha)
   have hfh:=hhm _ (ZA ha)
   have hnm:(Kp (v.parts.getD k dE) r (Q2 (Yi (v.parts.getD k dE) r))).name=(v.parts.getD k dE).name:=ZrV
   have hnn:=Zpt (i:=k) (P:=v.parts) hnm
   rw[show Kp v (k::r) (Q2 (Yi v (k::r)))=v.setPs (v.parts.set k (Kp (v.parts.getD k dE) r (Q2 (Yi (v.parts.getD k dE) r)))) from rfl]
   generalize hxe':Kp (v.parts.getD k dE) r (Q2 (Yi (v.parts.getD k dE) r))=x' at *
   have hps:(v.setPs (v.parts.set k x')).parts=v.parts.set k x':=rfl
   rw[hps,List.length_set]
   have hstep:∀j,ZY (v.parts.set k x') j=ZY v.parts j:=fun j=>Znp hnn j
   have hlen2:(vfs m.fields).length=(v.parts.set k x').length:=by rw[List.length_set];exact hlen
   rw[if_pos (by
    simp only[ZEK,decide_eq_true_eq]
    refine⟨hc.1,hc.2.1,hc.2.2.1,hc.2.2.2.1,?_⟩
    unfold ZaA at hr⊢
    rw[hnn];exact hr)]
   have hsame:∀j,j<k→ZaW d n m (v.setPs (v.parts.set k x')) p j=ZaW d n m v p j:=fun j hj=>by
    obtain⟨b,hb,_,hjb,hfb⟩:=ZaR (l:=m.fields) (k:=j) (by omega)
    have hpa:=fun mis len x q=>ZmV hm hlen2 hlen hb (fun y hy=>by rw[Zat hk,if_neg (show ¬y=k by omega)]) mis len x q
    unfold ZaW
    rw[hps,hstep,Zat hk,if_neg (show ¬j=k by omega),hfb,hpa]
   have hmisk:∃c,c36 c∧ZaW d n m (v.setPs (v.parts.set k x')) p k=(QR v p (k::r),c):=by
    unfold ZaW at hgk⊢
    rw[hps,hstep,Zat hk,if_pos rfl]
    rw[hfa]at hgk⊢
    have hpa:Ws (Yd d n) (lenS d n) d (m.fields.getD a dE) x' (ZV p (ZY v.parts k)) (Qz m (v.parts.set k x'))=Ws (Yd d n) (lenS d n) d (m.fields.getD a dE) x' (ZV p (ZY v.parts k)) (Qz m v.parts) :=
     ZmV hm hlen2 hlen ha (fun j hj=>by rw[Zat hk,if_neg (by omega)]) _ _ _ _
    rw[hpa]
    split at hgk
    ·simp at hgk
    ·rename_i hu
     have hu':Y1 (m.fields.getD a dE).kind (v.parts.getD k dE)=false:=by simpa using hu
     generalize m.fields.getD a dE=f at *
     generalize hx:v.parts.getD k dE=x at *
     generalize Qz m v.parts=L at *
     cases r with
     |nil =>
      subst hxe'
      split
      ·exact⟨6,.inr rfl,by simp only[QR,hx]⟩
      ·rename_i hun
       refine⟨3,.inl rfl,?_⟩
       have hnk:f.kind=1∨f.kind=3:=by
        unfold Y1 Zob at hun
        simp only[ZEY,not_or,ZEK,Bool.not_eq_true',not_and,decide_eq_true_eq,Bool.or_eq_false_iff,decide_eq_false_iff_not]at hun
        by_cases h1:f.kind=1
        ·exact .inl h1
        ·by_cases h3:f.kind=3
         ·exact .inr h3
         ·exact absurd (show ¬(34359738367:Int)=0 by decide) (hun.1.1.1 ⟨h1,h3⟩)
       unfold Ws
       rw[if_pos hnk,if_pos (.inr hfh)]
       simp only[QR,hx]
     |cons i r2 =>
      have hi:i<x.parts.length:=hok.1
      subst hxe'
      rw[show Kp x (i::r2) (Q2 (Yi x (i::r2)))=x.setPs (x.parts.set i (Kp (x.parts.getD i dE) r2 (Q2 (Yi (x.parts.getD i dE) r2)))) from rfl]
      rw[Zvj hi,if_neg hu]
      have h1:=Zx1 (r:=r2) hfr hav hu' hgk hi (ZrV (r:=r2) (v:=x.parts.getD i dE)) (fun im q him h=>ih im _ q r2 him hok.2 h)
      simpa only[QR,hx]using h1
   obtain⟨c,hc36,hmk⟩:=hmisk
   refine⟨c,hc36,?_⟩
   rw[Zfc hk (fun j hj=>by rw[hsame j hj];exact hall j (by omega)) (by rw[hmk];exact hc36.ne),hmk]
   rfl
mutual
def Zad:Val→Str→List (Str×Val)
 |.mk n i b h p,q=>(q,.mk n i b h p)::walkVL p p 0 q
def walkVL(all:List Val):List Val→Nat→Str→List (Str×Val)
 | [],_,_=>[]
 |v::r,k,q=>Zad v (ZV q (ZY all k))++walkVL all r (k+1) q
end
def ZhH(v:Val)(q:Str)(k:Nat):List (Str×Val):=Zad (v.parts.getD k dE) (ZV q (ZY v.parts k))
def QW(v:Val)(q:Str)(i:Nat):List (Str×Val):=(ZEO i).flatMap (ZhH v q)
theorem ZpD{v q}:∀(l:List Val) (k:Nat),v.parts.drop k=l→walkVL v.parts l k q=(List.range' k l.length).flatMap (ZhH v q)
 | [],_,_=>by simp[walkVL]
 |x::r,k,h=>by
  have hk:k<v.parts.length:=by
   have:=congrArg List.length h
   simp at this;omega
  have h2:=QM hk
  rw[h]at h2
  simp only[List.cons.injEq]at h2
  rw[walkVL,ZER,List.range'_succ,List.flatMap_cons,ZpD r (k+1) h2.2.symm,h2.1]
  rfl
theorem Zsm(v q):Zad v q=(q,v)::QW v q v.parts.length:=by
 have h:=ZpD (v:=v) (q:=q) v.parts 0 (by simp)
 unfold QW
 rw[List.range_eq_range',←h]
 cases v;rfl
theorem ZhI(v q i):QW v q (i+1)=QW v q i++ZhH v q i:=by
 unfold QW;rw[List.range_succ,List.flatMap_append];simp
theorem Zs3{v q i}(h:i<v.parts.length):∃t,QW v q v.parts.length=QW v q i++(ZhH v q i++t):=by
 have key:∀n,∃t,QW v q (i+1+n)=QW v q (i+1)++t:=fun n=>by
  induction n with
  |zero=>exact⟨[],by simp⟩
  |succ n ih=>obtain⟨t,ht⟩:=ih;exact⟨t++ZhH v q (i+1+n),by rw[show i+1+(n+1)=(i+1+n)+1 by omega,ZhI,ht,ZE9]⟩
 obtain⟨t,ht⟩:=key (v.parts.length-(i+1))
 rw[show i+1+(v.parts.length-(i+1))=v.parts.length by omega,ZhI,ZE9]at ht
 exact⟨t,ht⟩
mutual
theorem Zsn:∀(v:Val) (q),(Zad v q).length=Kb v
 |.mk n i b h p,q=>by rw[Zad,Kb,ZER,walk_lenL p p 0 q];omega
theorem walk_lenL:∀(all l:List Val) (k q),(walkVL all l k q).length=nodesL l
 |_,[],_,_=>by rw[walkVL,nodesL];rfl
 |all,v::r,k,q=>by rw[walkVL,nodesL,ZEM,Zsn v,walk_lenL all r]
end
theorem Zyr(v:Val):∀q x,x∈Zad v q→∃r,okP v r∧x=(QR v q r,Yi v r):=by
 induction v using Val.ind with
 |h v ih =>
  intro q x hx
  rw[Zsm]at hx
  rcases List.mem_cons.1 hx with rfl|hx
  ·exact⟨[],trivial,rfl⟩
  ·unfold QW ZhH at hx
   simp only[List.mem_flatMap,List.mem_range]at hx
   obtain⟨k,hk,hx⟩:=hx
   obtain⟨r,h1,rfl⟩:=ih _ (ZA hk) _ _ hx
   exact⟨k::r,⟨hk,h1⟩,rfl⟩
theorem Zou{P k}:ZY P k=QA ((P.getD k dE).name,Wn P k):=rfl
theorem VOk.parts510{v}(h:VOk v):v.parts.length<510:=by
 have h3:=Zj1 v
 have h4:=h.wt
 have h6:v.parts.length≤nodesL v.parts:=by
  induction v.parts with
  |nil=>simp
  |cons x r ih=>have:=WN x;simp only[ZER,nodesL];omega
 have h7:=WN v
 omega
theorem ZlO{v r}(h:okP v r)(hv:VOk v):∀x∈Wt v r,ZbL x:=by
 induction r generalizing v with
 |nil=>simp[Wt]
 |cons k r ih =>
  intro x hx
  simp only[Wt,ZFd]at hx
  have hm:=ZA h.1
  rcases hx with rfl|hx
  ·refine⟨by
    have h1:=K9 (hv.part hm).ok
    unfold Qo at h1
    simp only[ZEK]at h1
    exact h1.1.1.1.1.1,?_⟩
   have h1:=Zgk v.parts k
   have h2:=hv.parts510
   have h5:=h.1
   simp only
   omega
  ·exact ih h.2 (hv.part hm) x hx
theorem Zwp:∀{r v p},okP v r→VOk v→p≠[]→QR v p r=if r=[] then p else p++46::Wq (Wt v r)
 | [],_,_,_,_,_=>rfl
 |k::r,v,p,h,hv,hp=>by
  have hm:=ZA h.1
  have hs:=ZlO h hv
  rw[if_neg (by simp)]
  unfold QR
  have hj:ZV p (ZY v.parts k)=p++46::ZY v.parts k:=by unfold ZV;rw[if_neg hp];simp
  rw[hj,Zwp h.2 (hv.part hm) (by simp)]
  by_cases hr:r=[]
  ·subst hr;rw[if_pos rfl];rfl
  ·rw[if_neg hr]
   have hne:Wt (v.parts.getD k dE) r≠[]:=by cases r<;>simp_all[Wt]
   rw[show Wt v (k::r)=((v.parts.getD k dE).name,Wn v.parts k)::Wt (v.parts.getD k dE) r from rfl,ZdG hne,Zou]
   simp
theorem ZuO{r v}(h:okP v r)(hv:VOk v):QR v [] r=Wq (Wt v r):=by
 cases r with
 |nil=>rfl
 |cons k r =>
  have hm:=ZA h.1
  have hs:=ZlO h hv
  have h0:ZY v.parts k≠[]:=by rw[Zou];exact Zsd (hs _ (by simp[Wt]))
  unfold QR
  have hj:ZV [] (ZY v.parts k)=ZY v.parts k:=by unfold ZV;rw[if_pos rfl]
  rw[hj,Zwp h.2 (hv.part hm) h0]
  by_cases hr:r=[]
  ·subst hr;rw[if_pos rfl];rfl
  ·rw[if_neg hr]
   have hne:Wt (v.parts.getD k dE) r≠[]:=by cases r<;>simp_all[Wt]
   rw[show Wt v (k::r)=((v.parts.getD k dE).name,Wn v.parts k)::Wt (v.parts.getD k dE) r from rfl,ZdG hne,Zou]
theorem Zxr{P:List Val}{k}(hk:k<P.length):∀j,j<k→(dC ((P.getD j dE).name=(P.getD k dE).name)&&dC (Wn P k≤QC P k j))=false:=fun j hj=>by
 by_cases e:(P.getD j dE).name=(P.getD k dE).name
 ·have h1:=Zis (ps:=P) (k:=k) (i:=j) (by omega)
  rw[if_pos e]at h1
  have h2:QC P k (j+1)≤QC P k k:=by
   unfold QC
   have:P.take (j+1)=(P.take k).take (j+1):=by rw[List.take_take,Nat.min_eq_left (by omega)]
   rw[this]
   exact(List.Sublist.filter _ (List.take_sublist _ _)).length_le
  have h3:Wn P k=QC P k k:=rfl
  rw[Bool.and_eq_false_iff]
  right
  simp only[decide_eq_false_iff_not]
  omega
 ·rw[decide_eq_false e];rfl
structure AtM(T:St)(z off:Nat)(v:Val)(c:List D)(fp:List Nat)(L:List D):Prop where
 b:T z=some (.cells L)
 le:off+5≤L.length
 cc:part L off 5=c
 mt:MT T v c fp
 z:z∉fp
def Zt1(T:St)(z off:Nat)(v:Val)(fp:List Nat)(y o:Nat)(r:List Nat)(f1:List Nat)(L1:List D):Prop :=
 ∀(S:St) w c2 f2,MT S w c2 f2→(∀b∈f2,T b=nO∨b∈f1)→(∀b,¬T b=nO→b≠y→b∉f1→S b=T b)→S y=sO (.cells (Zu L1 o c2))→y∉f2 →
  ∃c' fp' L',AtM S z off (Kp v r w) c' fp' L'∧∀b∈fp',T b=nO∨b∈fp
theorem Zr4{L:List D}{o}{c:List D}(h:o+5≤L.length)(hc:part L o 5=c):Zu L o c=L:=by
 have hl:c.length=5:=by rw[←hc];unfold part;simp;omega
 unfold Zu
 rw[hl]
 unfold part at hc
 have h1:c++L.drop (o+5)=L.drop o:=by rw[←hc,←List.drop_drop];exact List.take_append_drop 5 _
 rw[ZE9,h1,List.take_append_drop]
theorem AtM.root{T:St}{z v c fp}(hz:T z=sO (.cells c))(hm:MT T v c fp)(hn:z∉fp):AtM T z 0 v c fp c∧Zt1 T z 0 v fp z 0 [] fp c:=by
 have hl:=hm.len
 refine⟨⟨hz,by omega,by unfold part;rw[List.drop_zero,List.take_of_length_le (by omega)],hm,hn⟩,fun S w c2 f2 h1 h2 h3 h4 h5=>⟨c2,f2,c2,⟨?_,?_,?_,h1,h5⟩,h2⟩⟩
 ·rw[h4,Zf4 (by rw[hl,h1.len])]
 ·have:=h1.len;omega
 ·unfold part;rw[List.drop_zero,List.take_of_length_le (by rw[h1.len];omega)]
theorem Zpm:∀{r v i w},Kp v (r++[i]) w=Kp v r ((Yi v r).setP i w)
 | [],_,_,_=>rfl
 |k::r,v,i,w=>by
  show v.setPs (v.parts.set k (Kp (v.parts.getD k dE) (r++[i]) w))=v.setPs (v.parts.set k (Kp (v.parts.getD k dE) r ((Yi (v.parts.getD k dE) r).setP i w)))
  rw[Zpm]
theorem ZmO:∀{r v i},Yi v (r++[i])=(Yi v r).parts.getD i dE
 | [],_,_=>rfl
 |k::r,v,i=>ZmO (r:=r) (v:=v.parts.getD k dE)
theorem AtM.step{T:St}{z off v fp y o r u c1 f1 L1}(hA:AtM T y o u c1 f1 L1)(hU:Zt1 T z off v fp y o r f1 L1)(hu:u=Yi v r){i}(hi:i<u.parts.length):
  ∃x cap ci fi Li,c1=[.str u.name,.int .i64 u.int,ZL u.bytes,Z9 u.hdrs,.msl x 0 u.parts.length cap 5]∧u.parts.length≤cap∧u.parts.length*5≤Li.length∧AtM T x (i*5) (u.parts.getD i dE) ci fi Li∧Zt1 T z off v fp x (i*5) (r++[i]) fi Li∧x∈f1∧∀b∈fi,b∈f1:=by
 obtain⟨x,cap,row,f,X,hM⟩:=hA.mt.inv (by omega)
 have h5:=hM.len5
 have hll:u.parts.length*5≤(YT row u.parts.length++X).length:=by rw[ZEM,Zbx h5];omega
 refine⟨x,cap,row i,f i,YT row u.parts.length++X,hM.c,hM.le,hll,⟨hM.b,by omega,ZdA X h5 hi,hM.kid i hi,hM.n i hi⟩,?_,hM.xmem,fun b hb=>hM.fmem hi hb⟩
 intro S w c2 f2 hm hf2 hS hSx hx2
 have hset:=Ziy X 0 c2 (by rw[hm.len];decide) h5 hi
 rw[Nat.add_zero,Zf4 (by rw[h5 i hi,hm.len])]at hset
 rw[hset]at hSx
 have hlive:∀b∈f1,¬T b=nO:=fun b hb e=>by obtain⟨ds,hd⟩:=hA.mt.live b hb;rw[e]at hd;simp at hd
 have hl:(u.setP i w).parts.length=u.parts.length:=by simp[Val.setP,Val.parts]
 have hg:∀k,(u.setP i w).parts.getD k dE=if k=i then w else u.parts.getD k dE:=fun k=>Zxy hi
 have hMN:MN S (u.setP i w) c1 (x::(ZEO u.parts.length).flatMap fun k=>if k=i then f2 else f k) x cap (fun k=>if k=i then c2 else row k) (fun k=>if k=i then f2 else f k) X:=by
  refine⟨?_,by rw[hl];exact hSx,by rw[hl];exact hM.le,fun k hk=>?_,fun k hk=>?_,fun k j hk hj hkj=>?_,by rw[hl]⟩
  ·rw[hl];exact hM.c
  ·rw[hl]at hk
   rw[hg k]
   by_cases e:k=i
   ·rw[if_pos e,if_pos e,if_pos e];exact hm
   ·rw[if_neg e,if_neg e,if_neg e]
    exact(hM.kid k hk).mono fun b hb=>hS b (hlive b (hM.fmem hk hb)) (fun e2=>hM.n k hk (e2▸hb)) (hM.d k i hk hi e b hb)
  ·rw[hl]at hk
   by_cases e:k=i
   ·rw[if_pos e];exact hx2
   ·rw[if_neg e];exact hM.n k hk
  ·rw[hl]at hk hj
   intro b hb
   have two:∀m,m<u.parts.length→m≠i→b∈f m→b∉f2:=fun m hm1 hm2 hbm hb2=>by
    rcases hf2 b hb2 with h1|h1
    ·exact hlive b (hM.fmem hm1 hbm) h1
    ·exact hM.d m i hm1 hi hm2 b hbm h1
   by_cases e:k=i
   ·have e2:¬j=i:=fun e2=>hkj (e.trans e2.symm)
    rw[if_pos e]at hb
    rw[if_neg e2]
    exact fun hbj=>two j hj e2 hbj hb
   ·rw[if_neg e]at hb
    by_cases e2:j=i
    ·rw[if_pos e2];exact two k hk e hb
    ·rw[if_neg e2];exact hM.d k j hk hj hkj b hb
 have hy:S y=T y:=hS y (by rw[hA.b];simp) (fun e=>hA.z (e▸hM.xmem)) (fun hb=>hA.z (hM.fmem hi hb))
 have:=hU S (u.setP i w) c1 _ (hMN.mt (by rw[hl];omega)) (fun b hb=>?_) (fun b h1 h2 h3=>hS b h1 (fun e=>h3 (e▸hM.xmem)) (fun hb=>h3 (hM.fmem hi hb))) (by rw[hy,hA.b,Zr4 hA.le hA.cc]) ?_
 ·rw[Zpm,←hu];exact this
 ·simp only[ZFd,List.mem_flatMap,List.mem_range]at hb
  rcases hb with rfl|⟨k,hk,hb⟩
  ·exact .inr hM.xmem
  ·by_cases e:k=i
   ·rw[if_pos e]at hb
    rcases hf2 b hb with h1|h1
    ·exact .inl h1
    ·exact .inr (hM.fmem hi h1)
   ·rw[if_neg e]at hb;exact .inr (hM.fmem hk hb)
 ·intro hb
  simp only[ZFd,List.mem_flatMap,List.mem_range]at hb
  rcases hb with e|⟨k,hk,hb⟩
  ·exact hA.z (e▸hM.xmem)
  ·by_cases e:k=i
   ·rw[if_pos e]at hb
    rcases hf2 y hb with h1|h1
    ·rw[hA.b]at h1;simp at h1
    ·exact hA.z (hM.fmem hi h1)
   ·rw[if_neg e]at hb;exact hA.z (hM.fmem hk hb)
end Go.DL
