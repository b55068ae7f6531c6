/- Lemmas: A05, V01, U01, U02, U03, U04, U05, V02, U06, U07, V03, V04, V05, U08, V06, K22a, K22b, K22c, SLay3, K22j. -/
import Derived.Test.YtaaaefcmpgpkgaaGreatDoorT05
set_option maxHeartbeats 16000000
set_option linter.all false
open Option renaming some → sO, none → nO
open Inhabited renaming default → dE
open Decidable renaming decide → dC
open Bool renaming and_eq_true → Zyk, false_and → ZyH, false_eq_true → Zyt, or_eq_true → Zyu, true_and → Zyy
open Go.DL.D.Le renaming refl → Zyj
open Go.DL.St renaming single → ZyG, sub_refl → Zyi, sub_trans → ZyT, sub_upd → ZyJ, upd_ne → Zyn, upd_same → Zyo, upd_upd → Zyz
open Go.Proofs.Tryz renaming prog → Zyg
open Int renaming reduceEq → ZyN
open List renaming append_nil → ZyR, getD → Zyx, getElem_of_mem → ZyC, length_append → Zyr, length_cons → ZyE, length_take → Zyw, map_cons → Zyp, map_nil → ZyF, mem_cons → ZyP, range → Zyl, take_length → ZyA
open Nat renaming le_refl → Zys, reduceAdd → ZyB, reduceEqDiff → Zye, reduceLeDiff → Zyq
open Option renaming getD_some → ZyL
namespace Go.DL
open Go Go.Proofs
variable {kp:Option (List Nat)}{L:Loc}{ρ:Env}{s:St}{w:World}{os:List DOp}{ds:List D}{B:List (Nat × Rd)}{dst:Option Nat}{tmps:Array Value}{g:G}{Φ:Res→St→Prop}{ν:Nat→Nat}{xs:List Opd}{side:Prop}{row:Nat→List D}{vs:List V}
theorem Zut{x z:Nat}{o:Wt}(hx:s x=nO)(h:(s.or (ZyG x o)) z=nO):z≠x∧s z=nO:=by
 refine⟨fun e=>by subst e;rw[Yj hx,KA]at h;simp at h,?_⟩
 cases hs:s z with
 |none=>rfl
 |some o=>rw[ZU hs]at h;simp at h
def Mk(A:St):List Nat→St→Prop
 | [],S=>S=A
 |q::qs,S=>∃S',Mk A qs S'∧S' q=nO∧S=S'.upd q .dfr
theorem Mk.get{A:St}{z:Nat}{o:Wt}(h:A z=sO o):∀{qs:List Nat} {S:St},Mk A qs S→S z=sO o
 | [],S,hm=>by rw[show S=A from hm];exact h
 |q::qs,S,hm=>by
  obtain⟨S',h1,h2,rfl⟩:=hm
  have:=Mk.get h h1
  rw[Zyn _ _ (fun e=>by rw[e,h2]at this;simp at this)];exact this
theorem upd_comm{a b:Nat}{x y:Wt}(h:a≠b):(s.upd a x).upd b y=(s.upd b y).upd a x:=by
 funext c
 by_cases hb:c=b
 ·subst hb;rw[Zyo,Zyn _ _ (Ne.symm h),Zyo]
 ·rw[Zyn _ _ hb]
  by_cases ha:c=a
  ·subst ha;rw[Zyo,Zyo]
  ·rw[Zyn _ _ ha,Zyn _ _ ha,Zyn _ _ hb]
theorem Mk.upd{A:St}{z:Nat}{o o':Wt}(h:A z=sO o):∀{qs:List Nat} {S:St},Mk A qs S→Mk (A.upd z o') qs (S.upd z o')
 | [],S,hm=>by rw[show S=A from hm];rfl
 |q::qs,S,hm=>by
  obtain⟨S',h1,h2,rfl⟩:=hm
  have:=Mk.get h h1
  have hne:q≠z:=fun e=>by rw[←e,h2]at this;simp at this
  exact⟨S'.upd z o',h1.upd h,by rw[Zyn _ _ hne];exact h2,upd_comm hne⟩
theorem Mk.unw{P:Program}{A:St}{Ψ:Option D→St→Prop}(h:Ψ nO A):∀{qs:List Nat} {S:St},Mk A qs S→Unw P (qs.map .mark) nO S Ψ
 | [],S,hm=>by rw[show S=A from hm];exact h
 |q::qs,S,hm=>by
  obtain⟨S',h1,h2,rfl⟩:=hm
  refine⟨Zyo _ _ _,?_⟩
  have e:(S'.upd q .dfr).del q=S':=by
   funext c
   by_cases hc:c=q
   ·subst hc;simp[St.del,h2]
   ·simp[St.del,St.upd,hc]
  rw[e];exact Mk.unw h h1
theorem Zf1{s t:St}{q:Nat}{o:Wt}(h:s.sub t):(s.upd q o).sub (t.upd q o):=fun b x hb=>by
 by_cases hc:b=q
 ·subst hc;rw[Zyo]at hb⊢;exact hb
 ·rw[Zyn _ _ hc]at hb⊢;exact h b x hb
theorem ZqU{s t:St}{q:Nat}(h:s.sub t)(ht:t q=nO):s q=nO:=by
 cases hs:s q with
 |none=>rfl
 |some o=>rw[h q o hs]at ht;simp at ht
theorem Zk8{a t:St}{z:Nat}{o o':Wt}(h:Kz a t)(hz:a z=sO o):Kz (a.upd z o') t:=fun b x hb=>by
 rw[Zyn _ _ (fun e=>by subst e;rw[h b x hb]at hz;simp at hz)];exact h b x hb
theorem St.upd_self{b:Nat}{o:Wt}(h:s b=sO o):s.upd b o=s:=by
 funext c
 by_cases hc:c=b
 ·subst hc;rw[Zyo,h]
 ·rw[Zyn _ _ hc]
theorem ZtJ{d:Dfn}{j i:Nat}{m:Msg}{f:Fld}(h:QF d j m i f=0):ZgM f:=by
 unfold QF at h
 split at h;· omega
 split at h;· omega
 split at h;· omega
 split at h;· omega
 unfold W7 at h
 refine⟨fun hk=>?_,fun hk=>?_⟩
 ·have hn:JF f=0:=by
   rcases hk with hk|hk<;>simp only[hk,ZyN,if_true,if_false]at h<;>exact h
  unfold JF at hn
  split at hn;· omega
  rename_i hb
  simp only[ZaC,Zyu,Zyk,Bool.not_eq_true',decide_eq_true_eq,decide_eq_false_iff_not,not_or]at hb
  omega
 ·simp only[hk,ZyN,if_true,if_false]at h
  split at h;· omega
  rename_i hb
  simp only[Zha,Zyk,Zyu,Bool.not_eq_true',decide_eq_true_eq,decide_eq_false_iff_not,not_and,not_or]at hb
  omega
theorem Zeb.bits{d:Dfn}{j:Nat}{m:Msg}(h:Zeb d j m):∀f∈m.fields,ZgM f:=by
 intro f hf
 obtain⟨i,hi,rfl⟩:=ZyC hf
 have:=ZtJ (h.field i hi)
 simpa[Zyx,hi]using this
def ZbQ(m:Msg):Bool:=(Zyl (m.fields.length+1)).all fun i=>!Js m.fields i
def KK(d:Dfn):Bool:=ZcK d&&d.msgs.all ZbQ
theorem Zmq{m:Msg}(h:∀i,i<m.fields.length+1→Js m.fields i=false):ZbQ m=true:=by
 unfold ZbQ
 rw[List.all_eq_true]
 intro i hi
 rw[h i (List.mem_range.1 hi)];rfl
theorem ZgE{m:Msg}{i:Nat}(hi:i<m.fields.length+1)(h:Js m.fields i=true):ZbQ m=false:=by
 unfold ZbQ
 rw[List.all_eq_false]
 exact⟨i,List.mem_range.2 hi,by rw[h];simp⟩
theorem atM{L:DL.Loc}(l:List Msg)(i:Int):qv L s (.iaddr 2) [.d (Ka l),.d (.int .i64 i)]=sO (0≤i∧i<l.length,.d (.ep (l.getD i.toNat dE).cells 0)):=rfl
theorem Zcn{L:DL.Loc}(l:List Msg):qv L s .lenL [.d (Ka l)]=sO (True,.d (.int .i64 l.length)):=rfl
theorem ZmZ(d:Dfn)(st:St):ZN Zyg Zl.id [.agg d.cells] st fun r S=>S=st∧∃a f c,r=.ret (.tup [.agg [.int .i64 a,.int .i64 f,.int .i64 c],.bool (!KK d)]):=by
 refine ZM Zl.ok fun F hF=>?_
 have hAl:=KK.eq_1 d
 refine rx @eQ3 ?_
 refine rx @eQ3 ?_
 rw[show(D.agg [.str d.name,Ka d.msgs,.str d.start])=.agg d.cells from rfl]
 refine Ye rfl rfl rfl rfl rfl (by trivial) (by trivial) (by exact ZmH d st) ?_ ?_
 ·rintro dd S ⟨rfl,fa,ff,fc,h⟩
  cases h
  refine Za ?_
  simp only[Eqs,reduceIte,Zye,ZyB,Zyq]
  rw[Zqu]
  refine rg ?_
  refine cd (fun hc=>?_) (fun hc=>?_)
  ·have hv:ZcK d=false:=by simpa using hc
   rw[hv,ZyH]at hAl
   refine rg ?_
   refine hF.ret _ S rfl (by simp) (Zyj _) (Zyi _) ⟨rfl,fa,ff,fc,?_⟩
   rw[hAl];simp[hv];rfl
  ·have hv:ZcK d=true:=by simpa using hc
   rw[hv,Zyy]at hAl
   have hV:=ZjO hv
   have hmany:=hV.many
   refine rx (nd2 @Zcn @eQ3) ?_
   refine Zh ?_
   refine Z1 2 rfl fun z2 h2=>?_
   simp only[reduceIte,Zye,Yd,Yz,delL]
   refine Z1 3 rfl fun z3 h3=>?_
   simp only[reduceIte,Yd,Yz,delL]
   have k3:=Ya h3
   have hs2:=h2
   have hs3:=k3.2
   simp only[hv,Bool.not_true]at h3⊢
   obtain⟨A,hA⟩:∃A,A=(S.upd z2 (.cells [.int .i64 fa,.int .i64 ff,.int .i64 fc])).upd z3 (.cells [.bool false]):=⟨_,rfl⟩
   have g2:A z2=sO (.cells [.int .i64 fa,.int .i64 ff,.int .i64 fc]):=by rw[hA,Zyn _ _ k3.1.symm];exact Zyo _ _ _
   have g3:A z3=sO (.cells [.bool false]):=by rw[hA];exact Zyo _ _ _
   have hsub:S.sub A:=by rw[hA];exact ZyT (ZyJ _ h2) (ZyJ _ h3)
   rw[←hA]
   clear hA
   obtain⟨A0,e0⟩:∃A0,A0=A:=⟨_,rfl⟩
   rw[←e0]at g2 g3 hsub⊢
   clear e0
   refine ZaG ?_
   have key:∀(n k:Nat),(d.msgs.length)-k=n→∀(F:Fr Zyg) (qs:List Nat) (A:St),KJ F Zl.df.res (fun r S'=>S'=S∧∃a f c,r=.ret (.tup [.agg [.int .i64 a,.int .i64 f,.int .i64 c],.bool (!KK d)])) (qs.map .mark)→Mk A0 qs A→k≤d.msgs.length→(∀q,q<k→ZbQ (d.msgs.getD q dE)=true)→ZS F [.code (Zl.l0),.inLoop Zl.l0,.inBlock 0,.code (.seq (.regD [0,1,2,3] Zl.r16 (sO [2,3])) .ret),.inScope (.seq (.seq (qR Zl.r1 [1,2,3,27,28]) (.seq (qR Zl.r2 [1,2,3,13,27,28]) (qC 13 (.seq (.regD [0,1,2,3] Zl.r3 (sO [2,3])) .ret) .skip))) (.seq (.label 0) (.seq (.seq (qR Zl.r4 [2,3,17,18,19,27,28]) (.block 0 (.loop Zl.l0))) (.seq (.regD [0,1,2,3] Zl.r16 (sO [2,3])) .ret))))] [(2,.d (.ptr z2 0)),(3,.d (.ptr z3 0)),(17,.d (Ka d.msgs)),(18,.d (.int .i64 d.msgs.length)),(19,.d (.int .i64 k))] [] A:=by
    intro n
    induction n using Nat.strongRecOn with
    |ind n ih_key =>
    intro k hn F qs A hF hMk hk hall
    have g20:=g2
    have g30:=g3
    have g2:=Mk.get g2 hMk
    have g3:=Mk.get g3 hMk
    refine rg ?_
    refine Zi (YC rfl trivial (fun h1=>?_) (fun h1=>?_))
    ·simp at h1
     have hM:=hV.msg h1
     have hbits:=hM.bits
     have hmf:=hM.many
     have hsucc:=fun h=>Ke (q:=fun j=>ZbQ (d.msgs.getD j dE)=true) hall h
     have hbad:ZbQ (d.msgs.getD k dE)=false→d.msgs.all ZbQ=false:=fun h=>by
      rw[List.all_eq_false]
      exact⟨_,W4 h1,by rw[h];simp⟩
     generalize hm:d.msgs.getD k dE=m at *
     refine rx (nd2 @atM (nd2 @hm @eQ2)) ?_
     refine aa ?_
     refine rg ?_
     refine Ye rfl rfl rfl rfl rfl (by trivial) (by trivial) (by exact Zfo m.fields A) ?_ ?_
     ·rintro dd S2 ⟨x,hx,hd,rfl⟩
      cases hd
      refine Za ?_
      simp only[Eqs,reduceIte,Zye]
      refine Zh ?_
      refine Z1 4 rfl fun z4 h4=>?_
      simp only[reduceIte,Zye,Yd,Yz,delL]
      refine Z1 5 rfl fun z5 h5=>?_
      simp only[reduceIte,Yd,Yz,delL]
      have k5:=Ya h5
      have o4:=Zut hx h4
      have o5:=Zut hx k5.2
      rw[JB,JB]
      obtain⟨B,hB⟩:∃B,B=(A.upd z4 (.cells [.int .i64 k])).upd z5 (.cells [.str m.name,Z0 m.fields]):=⟨_,rfl⟩
      have b5:B z5=sO (.cells [.str m.name,Z0 m.fields]):=by rw[hB];exact Zyo _ _ _
      have b4:B z4=sO (.cells [.int .i64 k]):=by rw[hB,Zyn _ _ k5.1.symm];exact Zyo _ _ _
      have n24:z2≠z4:=fun e=>by rw[e,o4.2]at g2;simp at g2
      have n25:z2≠z5:=fun e=>by rw[e,o5.2]at g2;simp at g2
      have n34:z3≠z4:=fun e=>by rw[e,o4.2]at g3;simp at g3
      have n35:z3≠z5:=fun e=>by rw[e,o5.2]at g3;simp at g3
      have n23:z2≠z3:=fun e=>by rw[e,g3]at g2;simp at g2
      have b2:B z2=sO (.cells [.int .i64 fa,.int .i64 ff,.int .i64 fc]):=by rw[hB,Zyn _ _ n25,Zyn _ _ n24];exact g2
      have b3:B z3=sO (.cells [.bool false]):=by rw[hB,Zyn _ _ n35,Zyn _ _ n34];exact g3
      have bx:B x=nO:=by rw[hB,Zyn _ _ o5.1.symm,Zyn _ _ o4.1.symm];exact hx
      have hAB:A.sub B:=by rw[hB];exact ZyT (ZyJ _ o4.2) (ZyJ _ (by rw[Zyn _ _ k5.1];exact o5.2))
      rw[←hB]
      clear hB
      refine Zdi hF rfl trivial [2,3,4,5,17,18,19] (by show([2,3,4,5,17,18,19]:List Nat).Nodup;decide) (ZbC bx) (Zes m.fields (by omega) hbits x) (fun j hj=>rfl)
       (fun j=>if Js m.fields j then .stop (.exit 0) else .next) (fun j a=>((∀i,i<j→Js m.fields i=false)∧a=B)∨((∃i,i<j∧Js m.fields i=true)∧∃a1 a2 a3,a=(B.upd z3 (.cells [.bool true])).upd z2 (.cells [.int .i64 a1,.int .i64 a2,.int .i64 a3])))
       (.inl ⟨fun i hi=>by omega,rfl⟩) ?_ ?_ ?_ ?_ ?_ ?_
      ·intro j a hj hno hB F' ready busy hdr hbeg hend
       have hno':∀i,i<j→Js m.fields i=false:=fun i hi=>by
        have:=hno i hi;split at this
        ·simp at this
        ·rename_i h;simpa using h
       rcases hB with ⟨_,rfl⟩|⟨⟨i,hi,hib⟩,_⟩
       ·skip
        simp only[Eqs,reduceIte,Zye,Ja,JC,Zbs,JK,List.isEmpty_nil,Zs1]
        refine rg ?_
        refine rg ?_
        refine hbeg fun hdb=>?_
        refine Zh (Zi (Ys (Za ?_)))
        simp only[Eqs,reduceIte,Zye,Zl.r10,ZU b5]
        cases hw:Js m.fields j with
        |false =>
         rw[if_neg (by rw[hw];simp)]at hend
         refine JN rfl rfl rfl rfl rfl (by trivial) (by trivial) (by exact ZgR m.fields (by omega) hbits j (by omega) _) (Za ?_)
         simp only[Eqs,reduceIte,Zye,Zyq,hw,ZU b3,JB,St.upd_self b3]
         refine Zi (Ys (Za ?_))
         simp only[Eqs,reduceIte,Zye,Zl.r11,ZU b3]
         refine i0 ?_
         refine Yw (ZW ?_)
         exact hend.fin ⟨rfl,.inl ⟨Ke (q:=fun i=>Js m.fields i=false) hno' hw,rfl⟩⟩ hdb (Zyi _)
        |true =>
         rw[if_pos hw]at hend
         refine JN rfl rfl rfl rfl rfl (by trivial) (by trivial) (by exact ZgR m.fields (by omega) hbits j (by omega) _) (Za ?_)
         simp only[Eqs,reduceIte,Zye,Zyq,hw,ZU b3,JB]
         obtain⟨C,hC⟩:∃C,C=a.upd z3 (.cells [.bool true]):=⟨_,rfl⟩
         have c3:C z3=sO (.cells [.bool true]):=by rw[hC];exact Zyo _ _ _
         have c2:C z2=sO (.cells [.int .i64 fa,.int .i64 ff,.int .i64 fc]):=by rw[hC,Zyn _ _ n23];exact b2
         have c4:C z4=sO (.cells [.int .i64 k]):=by rw[hC,Zyn _ _ n34.symm];exact b4
         have c5:C z5=sO (.cells [.str m.name,Z0 m.fields]):=by rw[hC,Zyn _ _ n35.symm];exact b5
         have hdC:Kz C busy:=by rw[hC];exact Zk8 hdb b3
         rw[←hC]
         refine Zi (Ys (Za ?_))
         simp only[Eqs,reduceIte,Zye,Zl.r11,ZU c3]
         refine i1 ?_
         refine Zi (Ys (Za ?_))
         simp only[Eqs,reduceIte,Zye,ZyB,Zyq,Zl.r12,ZU c4,ZU c2,JB]
         have c5':(C.upd z2 (.cells [.int .i64 k,.int .i64 j,.int .i64 12])) z5=sO (.cells [.str m.name,Z0 m.fields]):=by rw[Zyn _ _ n25.symm];exact c5
         have c2':=Zyo C z2 (.cells [.int .i64 k,.int .i64 j,.int .i64 12])
         have hdC2:Kz (C.upd z2 (.cells [.int .i64 k,.int .i64 j,.int .i64 12])) busy:=Zk8 hdC c2
         refine Zi (Zi (Ys (Za ?_)))
         simp only[Eqs,reduceIte,Zye,Zl.r13,ZU c5',ZeT]
         refine cd (fun he=>?_) (fun he=>?_)
         ·refine Ys (Za ?_)
          simp only[Eqs,reduceIte,Zye,ZyB,Zyq,Zl.r14,ZU c2',JB,Zyz]
          exact hend.exit rfl ⟨rfl,.inr ⟨⟨j,by omega,hw⟩,k,-1,12,by rw[hC]⟩⟩ (Zk8 hdC c2) (Zyi _)
         ·refine Yw ?_
          exact hend.exit rfl ⟨rfl,.inr ⟨⟨j,by omega,hw⟩,k,j,12,by rw[hC]⟩⟩ hdC2 (Zyi _)
       ·rw[hno' i hi]at hib;simp at hib
      ·intro q a hno hB hq
       have hno':∀i,i<m.fields.length+1→Js m.fields i=false:=fun i hi=>by
        have:=hno i hi;split at this
        ·simp at this
        ·rename_i h;simpa using h
       rcases hB with ⟨_,rfl⟩|⟨⟨i,hi,hib⟩,_⟩
       ·refine J9 (Zf1 hAB) ?_
        refine rg ?_
        refine aa ?_
        refine Zf ?_
        exact ih_key ((d.msgs.length)-(k+1)) (by omega) (k+1) rfl _ (q::qs) _ (hF.mark q) ⟨A,hMk,ZqU hAB hq,rfl⟩ (by omega) (hsucc (Zmq hno'))
       ·rw[hno' i hi]at hib;simp at hib
      ·intro q a i hi hno hgo
       split at hgo<;>simp at hgo
      ·intro q a i id hi hno hgo hB hq
       have hid:id=0:=by
        split at hgo
        ·simp at hgo;exact hgo.symm
        ·simp at hgo
       subst hid
       have hwi:Js m.fields i=true:=by
        split at hgo
        ·assumption
        ·simp at hgo
       rcases hB with ⟨h,_⟩|⟨_,a1,a2,a3,rfl⟩
       ·rw[h i (by omega)]at hwi;simp at hwi
       ·have hAf:=hbad (ZgE hi hwi)
        rw[hAf]at hAl
        have q2:q≠z2:=fun e=>by rw[e,Zyo]at hq;simp at hq
        have q3:q≠z3:=fun e=>by rw[Zyn _ _ q2,e,Zyo]at hq;simp at hq
        have hBq:B q=nO:=by rw[Zyn _ _ q2,Zyn _ _ q3]at hq;exact hq
        refine J9 (Zf1 (Zf1 (Zf1 hAB))) ?_
        obtain⟨X,hX⟩:∃X,X=((A.upd z3 (.cells [.bool true])).upd z2 (.cells [.int .i64 a1,.int .i64 a2,.int .i64 a3])).upd q .dfr:=⟨_,rfl⟩
        have hMX:Mk ((A0.upd z3 (.cells [.bool true])).upd z2 (.cells [.int .i64 a1,.int .i64 a2,.int .i64 a3])) (q::qs) X:=⟨_,Mk.upd (o:=.cells [.int .i64 fa,.int .i64 ff,.int .i64 fc]) (by rw[Zyn _ _ n23];exact g20) (Mk.upd g30 hMk),by rw[Zyn _ _ q2,Zyn _ _ q3];exact ZqU hAB hBq,hX⟩
        have a2':=Zyo (A0.upd z3 (.cells [.bool true])) z2 (.cells [.int .i64 a1,.int .i64 a2,.int .i64 a3])
        have a3':((A0.upd z3 (.cells [.bool true])).upd z2 (.cells [.int .i64 a1,.int .i64 a2,.int .i64 a3])) z3=sO (.cells [.bool true]):=by rw[Zyn _ _ n23.symm];exact Zyo _ _ _
        have x2:=Mk.get a2' hMX
        have x3:=Mk.get a3' hMX
        rw[←hX]
        refine Wr rfl ?_
        refine Zi (Zep (Y6 ?_))
        simp only[Eqs,reduceIte,Zye,ZyB,Zyq,Zl.r16,x2,x3,St.upd_self x2,St.upd_self x3]
        refine(hF.mark q).retU (hMX.unw ⟨_,_,.tup [.agg [.int .i64 a1,.int .i64 a2,.int .i64 a3],.bool true],S,by simp only[Eqs,reduceIte,Zye,ZyB,Zyq,Zl.df,K5,JU,a2',a3'];rfl,by simp,Zyj _,?_,rfl,a1,a2,a3,by rw[hAl];rfl⟩)
        intro c o hc
        have e2:c≠z2:=fun e=>by rw[e,hs2]at hc;simp at hc
        have e3:c≠z3:=fun e=>by rw[e,hs3]at hc;simp at hc
        rw[Zyn _ _ e2,Zyn _ _ e3]
        exact hsub c o hc
      ·intro q a i d hi hno hgo
       split at hgo<;>simp at hgo
      ·intro i c hgo
       split at hgo<;>simp at hgo
       exact .inr ⟨0,hgo.symm⟩
     ·rintro dd S2 ⟨x,hx,hd,_⟩
      cases hd
    ·simp at h1
     obtain rfl:k=d.msgs.length:=by omega
     have hAt:d.msgs.all ZbQ=true:=by
      rw[List.all_eq_true]
      intro x hx
      obtain⟨q,hq,rfl⟩:=ZyC hx
      have:=hall q hq
      simpa[Zyx,hq]using this
     rw[hAt]at hAl
     refine Wr rfl (Zi ?_)
     refine Zep (Y6 ?_)
     simp only[Eqs,reduceIte,Zye,ZyB,Zyq,Zl.r16,g2,g3,St.upd_self g2,St.upd_self g3]
     exact hF.retU (hMk.unw ⟨_,_,.tup [.agg [.int .i64 fa,.int .i64 ff,.int .i64 fc],.bool false],S,by simp only[Eqs,reduceIte,Zye,ZyB,Zyq,Zl.df,K5,JU,g20,g30];rfl,by simp,Zyj _,hsub,rfl,fa,ff,fc,by rw[hAl];rfl⟩)
   exact key _ 0 rfl F [] A0 hF rfl (by omega) (by intro q hq;omega)
 ·rintro dd S ⟨_,a,f,c,h⟩
  cases h
theorem ZcZ(d:Dfn):ZA Zyg WM.id [.agg d.cells] (.bool (KK d)):=by
 refine ZP WM.ok fun F st hret=>?_
 refine rx @eQ3 ?_
 refine rx @eQ3 ?_
 rw[show(D.agg [.str d.name,Ka d.msgs,.str d.start])=.agg d.cells from rfl]
 refine Ye rfl rfl rfl rfl rfl (by trivial) (by trivial) (by exact ZmZ d st) ?_ ?_
 ·rintro dd S ⟨rfl,a,f,c,h⟩
  cases h
  refine Za ?_
  simp only[Eqs,reduceIte,Zye,ZyB,Zyq]
  refine rg ?_
  exact hret rfl (by trivial) (by cases KK d<;>exact Zyj _) (Zyi _)
 ·rintro dd S ⟨_,a,f,c,h⟩
  cases h
theorem ZqH(f:Fld):ZA Zyg QU.id [.agg f.cells] (.bool (Zcb f)):=by
 refine ZP QU.ok fun F st hret=>?_
 have hN:=Zcb.eq_1 f
 refine rx @eQ0 ?_
 refine rx @eQ0 ?_
 refine rb hret ?_
 rw[hN];unfold Zeg;cases f.little<;>cases dC (f.kind=1)<;>cases dC (f.kind=2)<;>cases dC (f.kind=10)<;>rfl
structure ZgO(f:Fld):Prop where
 num:f.kind=1∨f.kind=2→1≤f.bits∧f.bits≤32
 pad:f.kind=10→f.bits=2∨f.bits=4∨(8≤f.bits∧f.bits≤512∧f.bits.tmod 8=0)
theorem Zun{d:Dfn}{j i:Nat}{m:Msg}{f:Fld}(h:QF d j m i f=0):ZgO f:=by
 unfold QF at h
 split at h;· omega
 split at h;· omega
 split at h;· omega
 split at h;· omega
 unfold W7 at h
 refine⟨fun hk=>?_,fun hk=>?_⟩
 ·have hn:JF f=0:=by
   rcases hk with hk|hk<;>simp only[hk,ZyN,if_true,if_false]at h<;>exact h
  unfold JF at hn
  split at hn;· omega
  rename_i hb
  simp only[ZaC,Zyu,Zyk,Bool.not_eq_true',decide_eq_true_eq,decide_eq_false_iff_not,not_or]at hb
  omega
 ·simp only[hk,ZyN,if_true,if_false]at h
  split at h;· omega
  rename_i hb
  simp only[Zha,Zyk,Zyu,Bool.not_eq_true',decide_eq_true_eq,decide_eq_false_iff_not,not_and,not_or]at hb
  omega
theorem Zsb{o b:Int}(h0:0≤o)(hb:0<b):upS o b=(o+b-1) / b*b:=by
 unfold upS
 rw[Int.tdiv_eq_ediv_of_nonneg (by omega)]
theorem ZvD{f:Fld}(hf:ZgO f){o:Int}(h0:0≤o):0≤Zbr f o:=by
 unfold Zbr
 split
 ·rename_i h
  have:=hf.num h
  exact Int.tmod_nonneg 8 (by omega)
 ·split
  ·rename_i h
   have hb:0<f.bits:=by have:=hf.pad h;omega
   rw[Zsb h0 hb]
   exact Int.tmod_nonneg 8 (Int.mul_nonneg (Int.ediv_nonneg (by omega) (by omega)) (by omega))
  ·omega
theorem Zr0{l:List Fld}(hl:∀f∈l,ZgO f):∀i,i≤l.length→0≤KG l i
 |0,_=>by simp[KG]
 |i+1,h=>ZvD (hl _ (W4 (by omega))) (Zr0 hl i (by omega))
theorem Zts(x:Int):-8<x.tmod 8∧x.tmod 8<8:=⟨Int.lt_tmod_of_pos x (by decide),Int.tmod_lt_of_pos x (by decide)⟩
theorem Zyb{f:Fld}(h10:f.kind=10)(h8:f.bits.tmod 8=0)(o:Int):Zbr f o=0:=by
 unfold Zbr
 rw[if_neg (by omega),if_pos h10]
 unfold upS
 generalize ((o+f.bits)-1).tdiv f.bits=q
 have h1:=Int.mul_tdiv_add_tmod f.bits 8
 rw[h8,Int.add_zero]at h1
 rw[←h1,←Int.mul_assoc,Int.mul_comm q 8,Int.mul_assoc]
 exact Int.mul_tmod_right 8 _
theorem Zrm{f:Fld}(hf:ZgO f){o:Int}(h0:0≤o)(h8:o<8):ZA Zyg Y8.id [.agg f.cells,.int .i64 o] (.int .i64 (Zbr f o)):=by
 refine ZP Y8.ok fun F st hret=>?_
 have hN:=Zbr.eq_1 f o
 have hnum:=hf.num
 have hpad:=hf.pad
 refine rx @eQ0 ?_
 refine rx @eQ0 ?_
 by_cases h1:f.kind=1
 ·have e1:=decide_eq_true h1
  rw[if_pos (.inl h1)]at hN
  have hb:=hnum (.inl h1)
  refine rx @e1 ?_
  refine i1 ?_
  refine i1 ?_
  have hr:=Zts (o+f.bits)
  refine rx @eQ0 ?_
  generalize (o+f.bits).tmod 8=r at *
  refine aa ?_
  refine ri hret ?_
  exact hN.symm
 ·have e1:=decide_eq_false h1
  refine rx @e1 ?_
  refine i0 ?_
  by_cases h2:f.kind=2
  ·have e2:=decide_eq_true h2
   rw[if_pos (.inr h2)]at hN
   have hb:=hnum (.inr h2)
   refine rx @e2 ?_
   refine i1 ?_
   have hr:=Zts (o+f.bits)
   refine rx @eQ0 ?_
   generalize (o+f.bits).tmod 8=r at *
   refine aa ?_
   refine ri hret ?_
   exact hN.symm
  ·have e2:=decide_eq_false h2
   rw[if_neg (by omega)]at hN
   refine rx @e2 ?_
   refine i0 ?_
   by_cases h10:f.kind=10
   ·have e10:=decide_eq_true h10
    have hp:=hpad h10
    rw[if_pos h10]at hN
    refine rx @e10 ?_
    refine i1 ?_
    by_cases hs:f.bits=2∨f.bits=4
    ·have hu:upS o f.bits=(o+f.bits-1) / f.bits*f.bits:=Zsb h0 (by omega)
     have hu2:∃u:Nat,upS o f.bits=u∧o≤u∧u<o+f.bits∧u≤16∧((u:Int) % f.bits=0):=by
      rw[hu]
      rcases hs with hs|hs<;>rw[hs]
      ·exact⟨((o+2-1) / 2*2).toNat,by omega,by omega,by omega,by omega,by omega⟩
      ·exact⟨((o+4-1) / 4*4).toNat,by omega,by omega,by omega,by omega,by omega⟩
     obtain⟨u,hu1,hu3,hu4,hu5,hu6⟩:=hu2
     obtain⟨i0,hi0⟩:∃i0:Nat,(i0:Int)=o:=⟨o.toNat,by omega⟩
     have hmod:∀i:Nat,i0≤i→i≤u→(dC ((i:Int).tmod f.bits=0)=dC (i=u)):=fun i hi1 hi2=>by
      rw[Int.tmod_eq_emod_of_nonneg (by omega),Bool.eq_iff_iff,decide_eq_true_eq,decide_eq_true_eq]
      rcases hs with hs|hs<;>rw[hs]at hu4 hu6⊢<;>omega
     rw[←hi0]
     refine rx @eQ0 ?_
     refine YC rfl trivial (fun _=>?_) (fun h=>by rcases hs with hs|hs<;>simp[hs]at h)
     refine Zi (Zh (JH [1,2] ?_))
     simp only[Eqs,reduceIte,Zye]
     refine fr (u) (fun i Q=>i0≤i→i≤u→Q [(1,.d (.int .i64 i)),(2,.loc 2 0)] [(2,f.cells)] st) (fun n ih_key=>?_) fun key=>?_
     ·intro i hn hi1 hi2
      have hm:=hmod i hi1 hi2
      have hb0:f.bits≠0:=by omega
      have hq:0≤(i:Int).tmod f.bits∧(i:Int).tmod f.bits<5:=by
       rw[Int.tmod_eq_emod_of_nonneg (by omega)]
       rcases hs with hs|hs<;>rw[hs]<;>omega
      refine rx (nd2 @eQ0 @hm) ?_
      generalize (i:Int).tmod f.bits=tm at *
      refine aa ?_
      refine cd (fun hc=>?_) (fun hc=>?_)
      ·have hc':i≠u:=by simpa using hc
       refine rg ?_
       refine aa ?_
       refine ZW (Zf ?_)
       exact ih_key ((u)-(i+1)) (by omega) (i+1) rfl (by omega) (by omega)
      ·have hc':i=u:=by simpa using hc
       subst hc'
       have hr:=Zts (i:Int)
       rw[hu1]at hN
       refine rg ?_
       generalize (i:Int).tmod 8=r at *
       refine aa ?_
       refine ri hret ?_
       exact hN.symm
     exact key _ i0 rfl (Zys _) (by omega)
    ·have h88:f.bits.tmod 8=0:=by omega
     have hz:=Zyb h10 h88 o
     refine rx @eQ0 ?_
     refine YC rfl trivial (fun h=>by simp at h;omega) (fun _=>?_)
     refine rg ?_
     refine ri hret ?_
     exact hz.symm
   ·have e10:=decide_eq_false h10
    rw[if_neg h10]at hN
    refine rx @e10 ?_
    refine i0 ?_
    refine rg ?_
    refine ri hret ?_
    exact hN.symm
def Zmh(l:List Int):D:=slD 1 (fun x:Int=>[.int .i64 x]) l
def Ze6(l:List Fld):List Int:=(Zyl l.length).map (KG l)
theorem Zns{m:Msg}(hm:m.fields.length≤1000)(hb:∀f∈m.fields,ZgO f):ZA Zyg YG.id [.agg m.cells] (.tup [Zmh (Ze6 m.fields),.int .i64 (KG m.fields m.fields.length)]):=by
 refine ZP YG.ok fun F st hret=>?_
 refine rx @eQ2 ?_
 refine rg ?_
 refine rg ?_
 refine rg ?_
 refine kl (st) [(1,.loc 1 0),(4,.d (.sl .full 0 1 fun _=>[])),(5,.d (.int .i64 (KG m.fields 0))),(6,.d (.int .i64 (0:Nat)))] [(1,[.str m.name,Z0 m.fields])] (.skip (.cons (.d (JL fun b h=>by cases h)) (.skip (.skip .nil)))) (ZaV _) ?_
 refine Zh (fr (m.fields.length) (fun i Q=>∀tk row out,tk.okIn st→We (fun x:Int=>[.int .i64 x]) row out→out=(Zyl i).map (KG m.fields)→i≤m.fields.length→Q [(1,.loc 1 0),(4,.d (.sl tk out.length 1 row)),(5,.d (.int .i64 (KG m.fields i))),(6,.d (.int .i64 i))] [(1,[.str m.name,Z0 m.fields])] (st.own tk (out.length*1))) (fun n ih_key=>?_) fun key=>?_)
 ·intro i hn tk row out htk hrow hout hi
  have hol:out.length=i:=by rw[hout];simp
  refine rx @ZeT ?_
  refine cd (fun hd=>?_) (fun hd=>?_)
  ·have hd':i<m.fields.length:=by simp at hd;omega
   have hfm:=hb _ (W4 hd')
   have hof:=Zr0 hb i (by omega)
   have hof2:=(Znm m.fields i).2
   have hoff:KG m.fields (i+1)=Zbr (m.fields.getD i dE) (KG m.fields i):=rfl
   generalize hf:m.fields.getD i dE=f at *
   refine rg ?_
   refine ZbX (st) (tk) rfl rfl rfl rfl rfl rfl (by trivial) (by trivial) rfl (by first|trivial|assumption) (by omega) (by (unfold big;omega)) fun t1 ht1=>Za ?_
   simp only[Eqs,reduceIte,Zye]
   refine rx (nd2 @atF (nd2 @hf (nd2 @Znj @ZnG))) ?_
   refine aa ?_
   refine cl (Zrm hfm hof hof2) ?_
   rw[←hoff]
   refine rg ?_
   refine aa ?_
   have hnext:=ih_key (m.fields.length-(i+1)) (by omega) (i+1) rfl t1 _ (out++[KG m.fields i]) ht1 (hrow.snoc (x:=KG m.fields i) (row2:=Wd [.int .i64 0] ([0].zip [.int .i64 (KG m.fields i)])) rfl rfl) (by rw[hout,List.range_succ];simp) (by omega)
   rw[Zyr]at hnext
   refine Zf ?_
   exact hnext
  ·have hd':i=m.fields.length:=by simp at hd;omega
   subst hd'
   refine rg ?_
   have hos:Ze6 m.fields=out:=hout.symm
   rw[hos]at hret
   exact hret rfl (by simp) (ZmX rfl (LeC.two (hrow.le rfl) (Zyj _))) (Qz htk)
 exact key _ 0 rfl .full _ [] trivial We.nil rfl (by omega)
end Go.DL
namespace Go.DL
open Go
variable {kp:Option (List Nat)}{L:Loc}{ρ:Env}{s:St}{w:World}{os:List DOp}{ds:List D}{B:List (Nat × Rd)}{dst:Option Nat}{tmps:Array Value}{g:G}{Φ:Res→St→Prop}{ν:Nat→Nat}{xs:List Opd}{side:Prop}{row:Nat→List D}{vs:List V}
def Jp(l:List QB):Int×Int:=((l.getD 0 dE).low,(l.getD (l.length-1) dE).high)
def JG(f g:Fld):Bool:=dC (g.kind=9)&&dC (g.tag=f.name)
def W3(m:Msg)(f:Fld):Int×Int:=match m.fields.find? (JG f) with
 |some g=>Jp g.cases
 |none=>Wz f
def JS(m:Msg):QQ:=fun s=>if Yr m s m.fields.length<0 then nO else if KV (m.fields.getD (Yr m s m.fields.length).toNat dE) then sO (W3 m (m.fields.getD (Yr m s m.fields.length).toNat dE)) else nO
def Zi0(m:Msg)(s:Qr):Int:=s.base+hiS (JS m) s.terms
def Q7(m:Msg)(f:Fld):Bool:=dC (f.kind=8) ||(dC (f.kind=12) ||(dC (f.kind=7)&&dC (0<Zi0 m f.size)))
def KL(m:Msg)(f:Fld):List Str:=f.cases.map (·.of)++if Q7 m f then [f.of] else []
def ixS(d:Dfn)(s:Str):Nat:=(Z5 d s d.msgs.length).toNat
def Zdt(d:Dfn)(i:Nat):List Nat:=((d.msgs.getD i dE).fields.flatMap (KL (d.msgs.getD i dE))).map (ixS d)
inductive Rch(d:Dfn):Nat→Prop where
 |start:Rch d (ixS d d.start)
 |step {i j:Nat} (h:Rch d i) (hi:i<d.msgs.length) (hj:j∈Zdt d i):Rch d j
def Zco(d:Dfn)(m:Msg)(out:List Bool)(f:Fld):List Bool :=
 let o:=f.cases.foldl (fun o c=>o.set (ixS d c.of) true) out
 if Q7 m f then o.set (ixS d f.of) true else o
def Zh4(d:Dfn)(i:Nat)(out:List Bool):List Bool:=if out.getD i false then (d.msgs.getD i dE).fields.foldl (Zco d (d.msgs.getD i dE)) out else out
def ZcI(d:Dfn):Nat→List Bool→List Bool
 |0,out=>out
 |i+1,out=>ZcI d i (Zh4 d i out)
def Zch(d:Dfn):List Bool:=(List.replicate d.msgs.length false).set (ixS d d.start) true
def ZaZ(d:Dfn):List Bool:=ZcI d d.msgs.length (Zch d)
theorem Zlt{l:List Bool}{i j:Nat}(hi:i<l.length):(l.set i true).getD j false=(l.getD j false ||decide (j=i)):=by
 simp only[List.getD_eq_getElem?_getD,List.getElem?_set]
 by_cases h:i=j
 ·subst h;simp[hi]
 ·simp[h,Ne.symm h]
theorem ZhJ{α:Type}(ix:α→Nat):∀(l:List α) (o:List Bool),(∀a∈l,ix a<o.length)→(l.foldl (fun o a=>o.set (ix a) true) o).length=o.length∧∀j,(l.foldl (fun o a=>o.set (ix a) true) o).getD j false=(o.getD j false ||decide (j∈l.map ix))
 | [],o,_=>by simp
 |a::l,o,h=>by
  have ha:=h a (by simp)
  obtain⟨h1,h2⟩:=ZhJ ix l (o.set (ix a) true) fun x hx=>by simpa using h x (by simp[hx])
  refine⟨by simpa using h1,fun j=>?_⟩
  rw[List.foldl_cons,h2,Zlt ha]
  simp only[Zyp,ZyP,Bool.or_assoc]
  congr 1
  by_cases hj:j=ix a<;>simp[hj]
theorem Zql{d:Dfn}{m:Msg}{f:Fld}{o:List Bool}(h:∀s∈KL m f,ixS d s<o.length):(Zco d m o f).length=o.length∧∀j,(Zco d m o f).getD j false=(o.getD j false ||decide (j∈(KL m f).map (ixS d))):=by
 have h0:=ZhJ (fun c:QB=>ixS d c.of) f.cases o fun c hc=>h c.of (by simp only[KL,List.mem_append,List.mem_map];exact .inl ⟨c,hc,rfl⟩)
 unfold Zco
 by_cases hg:Q7 m f=true
 ·have hof:=h f.of (by simp[KL,hg])
  simp only[hg,if_true]
  have hlt:ixS d f.of<(f.cases.foldl (fun o c=>o.set (ixS d c.of) true) o).length:=by rw[h0.1];exact hof
  refine⟨by simpa using h0.1,fun j=>?_⟩
  rw[Zlt hlt,h0.2]
  simp only[KL,hg,if_true,List.map_append,List.mem_append,List.map_map,Function.comp_def,Zyp,ZyF,List.mem_singleton,Bool.or_assoc,Bool.decide_or]
 ·simp only[Bool.not_eq_true]at hg
  simp only[hg,Zyt,if_false]
  refine⟨h0.1,fun j=>?_⟩
  rw[h0.2]
  simp[KL,hg,Function.comp_def]
theorem Zmb{d:Dfn}{m:Msg}:∀(l:List Fld) (o:List Bool),(∀f∈l,∀s∈KL m f,ixS d s<o.length)→(l.foldl (Zco d m) o).length=o.length∧∀j,(l.foldl (Zco d m) o).getD j false=(o.getD j false ||decide (j∈(l.flatMap (KL m)).map (ixS d)))
 | [],o,_=>by simp
 |f::l,o,h=>by
  obtain⟨h1,h2⟩:=Zql (h f (by simp))
  obtain⟨h3,h4⟩:=Zmb l (Zco d m o f) fun g hg s hs=>by rw[h1];exact h g (by simp[hg]) s hs
  refine⟨by rw[List.foldl_cons,h3,h1],fun j=>?_⟩
  rw[List.foldl_cons,h4,h2]
  simp only[List.flatMap_cons,List.map_append,List.mem_append,Bool.or_assoc,Bool.decide_or]
def Zgp(d:Dfn):Prop:=∀i,i<d.msgs.length→∀j∈Zdt d i,j<i
theorem Zgp.of{d:Dfn}(h:Jd d):Zgp d:=by
 intro i hi j hj
 simp only[Zdt,List.mem_map,List.mem_flatMap]at hj
 obtain⟨s,⟨f,hf,hs⟩,rfl⟩:=hj
 obtain⟨k,hk,rfl⟩:=ZyC hf
 have hfo:=h.fld hi hk
 generalize d.msgs.getD i dE=m at *
 have e:m.fields.getD k dE=m.fields[k]:=by simp[Zyx,hk]
 rw[e]at hfo
 generalize m.fields[k]=g at *
 have hr:s∈YW g:=by
  simp only[KL,List.mem_append,List.mem_map]at hs
  simp only[YW,JM,List.mem_append]
  rcases hs with ⟨c,hc,rfl⟩|hs
  ·have h9:=hfo.cases (List.ne_nil_of_mem hc)
   exact .inr (by rw[if_pos h9];exact List.mem_map.2 ⟨c,hc,rfl⟩)
  ·split at hs
   ·rename_i hg
    simp only[List.mem_singleton]at hs
    subst hs
    refine .inl ?_
    rw[if_pos]
    ·simp
    ·simp only[Q7,Zyu,Zyk,decide_eq_true_eq]at hg⊢
     rcases hg with hg|hg|⟨hg,_⟩<;>simp[hg]
   ·simp at hs
 obtain⟨h1,h2⟩:=hfo.ref s hr
 unfold ixS
 omega
theorem ZpR{d:Dfn}{i:Nat}{f:Fld}{s:Str}(hf:f∈(d.msgs.getD i dE).fields)(hs:s∈KL (d.msgs.getD i dE) f):ixS d s∈Zdt d i:=List.mem_map.2 ⟨s,List.mem_flatMap.2 ⟨f,hf,hs⟩,rfl⟩
theorem Zr6{d:Dfn}(h:Zgp d){i:Nat}(hi:i<d.msgs.length){o:List Bool}(hl:o.length=d.msgs.length):(Zh4 d i o).length=o.length∧∀j,(Zh4 d i o).getD j false=(o.getD j false ||(o.getD i false&&dC (j∈Zdt d i))):=by
 unfold Zh4
 by_cases ho:o.getD i false=true
 ·rw[if_pos ho,ho]
  have:=Zmb (d:=d) (m:=d.msgs.getD i dE) (d.msgs.getD i dE).fields o fun f hf s hs=>by
   have:=h i hi _ (ZpR hf hs)
   omega
  refine⟨this.1,fun j=>?_⟩
  rw[this.2];rfl
 ·simp only[Bool.not_eq_true]at ho
  rw[ho];simp
theorem Zow{d:Dfn}(h:Jd d):(Zch d).length=d.msgs.length∧∀j,(Zch d).getD j false=dC (j=ixS d d.start):=by
 have hs:=h.start
 have hlt:ixS d d.start<d.msgs.length:=by
  have:=QA (fun m=>dC (m.name=d.start)) (d.msgs.take d.msgs.length)
  unfold ixS Z5 at *
  rw[Zyw]at this
  omega
 refine⟨by simp[Zch],fun j=>?_⟩
 unfold Zch
 rw[Zlt (by simpa using hlt)]
 have:(List.replicate d.msgs.length false).getD j false=false:=by
  simp only[List.getD_eq_getElem?_getD,List.getElem?_replicate]
  split<;>rfl
 rw[this,Bool.false_or]
theorem ZqV{d:Dfn}(h:Zgp d):∀(n:Nat) (o:List Bool),n≤d.msgs.length→o.length=d.msgs.length →
  (∀j,o.getD j false=true→Rch d j)→o.getD (ixS d d.start) false=true→(∀k,n≤k→k<d.msgs.length→o.getD k false=true→∀j∈Zdt d k,o.getD j false=true) →
  (ZcI d n o).length=d.msgs.length∧(∀j,(ZcI d n o).getD j false=true→Rch d j)∧(ZcI d n o).getD (ixS d d.start) false=true ∧
   ∀k,k<d.msgs.length→(ZcI d n o).getD k false=true→∀j∈Zdt d k,(ZcI d n o).getD j false=true
 |0,o,_,hl,h1,h2,h3=>⟨hl,h1,h2,fun k hk=>h3 k (Nat.zero_le _) hk⟩
 |n+1,o,hn,hl,h1,h2,h3=>by
  obtain⟨r1,r2⟩:=Zr6 h (show n<d.msgs.length by omega) hl
  refine ZqV h n (Zh4 d n o) (by omega) (by omega) (fun j hj=>?_) (by rw[r2,h2];rfl) (fun k hk hk2 ho j hj=>?_)
  ·rw[r2,Zyu,Zyk,decide_eq_true_eq]at hj
   rcases hj with hj|⟨hj,hj2⟩
   ·exact h1 j hj
   ·exact .step (h1 n hj) (by omega) hj2
  ·have hlt:=h k hk2 j hj
   rw[r2]at ho⊢
   have hnn:¬k∈Zdt d n:=fun hm=>by have:=h n (by omega) k hm;omega
   simp only[hnn,decide_false,Bool.and_false,Bool.or_false]at ho
   by_cases hkn:k=n
   ·subst hkn;rw[ho,decide_eq_true hj];simp
   ·rw[h3 k (by omega) hk2 ho j hj];rfl
theorem ZvE{d:Dfn}(hv:Jd d){j:Nat}:(ZaZ d).getD j false=true↔Rch d j:=by
 obtain⟨s1,s2⟩:=Zow hv
 obtain⟨_,q1,q2,q3⟩:=ZqV (Zgp.of hv) d.msgs.length (Zch d) (Zys _) s1 (fun j hj=>by rw[s2,decide_eq_true_eq]at hj;subst hj;exact .start) (by rw[s2];simp) (fun k h1 h2=>by omega)
 refine⟨q1 j,fun hr=>?_⟩
 show(ZcI d d.msgs.length (Zch d)).getD j false=true
 induction hr with
 |start=>exact q2
 |step _ hi hj ih=>exact q3 _ hi ih _ hj
theorem Zuq{d:Dfn}(hv:Jd d){V:List Str}(h1:d.start∈V)(h2:∀s∈V,0≤Z5 d s d.msgs.length∧Rch d (ixS d s))(h3:∀s∈V,∀t∈(d.msgs.getD (ixS d s) dE).fields.flatMap (KL (d.msgs.getD (ixS d s) dE)),t∈V){s:Str}(hs:0≤Z5 d s d.msgs.length):(ZaZ d).getD (ixS d s) false=dC (s∈V):=by
 have inj:∀a b:Str,0≤Z5 d a d.msgs.length→0≤Z5 d b d.msgs.length→ixS d a=ixS d b→a=b:=fun a b ha hb he=>by
  have ga:=(Zef ha).1
  have gb:=(Zef hb).1
  unfold ixS at he
  rw[show(ZB (fun m=>dC (m.name=a)) (d.msgs.take d.msgs.length)).toNat=(ZB (fun m=>dC (m.name=b)) (d.msgs.take d.msgs.length)).toNat from he]at ga
  simp only[decide_eq_true_eq]at ga gb
  exact ga.symm.trans gb
 have key:∀j,Rch d j→∃t∈V,ixS d t=j:=fun j hr=>by
  induction hr with
  |start=>exact⟨d.start,h1,rfl⟩
  |step _ hi hj ih =>
   obtain⟨t,ht,rfl⟩:=ih
   obtain⟨u,hu,rfl⟩:=List.mem_map.1 hj
   exact⟨u,h3 t ht u hu,rfl⟩
 rw[Bool.eq_iff_iff,ZvE hv,decide_eq_true_eq]
 constructor
 ·intro hr
  obtain⟨t,ht,he⟩:=key _ hr
  rw[←inj t s (h2 t ht).1 hs he];exact ht
 ·intro h
  exact(h2 s h).2
open Go.Proofs
structure Ziz(l:List QB):Prop where
 pos:0<l.length
 ord:∀i,i+1<l.length→(l.getD i default).high<(l.getD (i+1) default).low
 ne:∀i,i<l.length→(l.getD i default).low≤(l.getD i default).high
theorem Ziz.lo{l:List QB}(h:Ziz l):∀i,i<l.length→(l.getD 0 dE).low≤(l.getD i dE).low
 |0,_=>Int.le_refl _
 |i+1,hi=>by
  have h1:=h.lo i (by omega)
  have h2:=h.ord i hi
  have h3:=h.ne i (by omega)
  omega
theorem Zix(c:QB):ZA Zyg Wl.id [.agg c.cells] (.tup [.int .i64 c.low,.int .i64 c.high]):=by
 refine ZP Wl.ok fun F st hret=>?_
 refine rx @eQ9 ?_
 refine rx @eQ9 ?_
 refine rt hret ?_
 rfl
theorem ZnI{l:List QB}(h:Ziz l)(hl:l.length≤1000):ZA Zyg ZZ.id [K3 l,.fn (.func Wl.id) [] []] (.tup [.int .i64 (Jp l).1,.int .i64 (Jp l).2]):=by
 refine ZP ZZ.ok fun F st hret=>?_
 have hE:=Jp.eq_1 l
 have hpos:=h.pos
 refine rg ?_
 refine rx (nd2 @K3.eq_1 @eQ1) ?_
 refine Zh (fr (l.length) (fun i Q=>i≤l.length→∀a b:Int,(0<i→a=(l.getD 0 dE).low∧b=(l.getD (i-1) dE).high)→Q [(1,.d (.fn (.func Wl.id) [] [])),(4,.d (.int .i64 a)),(5,.d (.int .i64 b)),(10,.d (K3 l)),(11,.d (.int .i64 l.length)),(12,.d (.int .i64 i))] [] st) (fun n ih_key=>?_) fun key=>?_)
 ·intro i hn hi a b hab
  refine rg ?_
  refine Zi (YC rfl trivial (fun h1=>?_) (fun h1=>?_))
  ·simp at h1
   have hlo:=h.lo i h1
   have hne:=h.ne i h1
   have hor:0<i→(l.getD (i-1) dE).high<(l.getD i dE).low:=fun h0=>by
    have:=h.ord (i-1) (by omega)
    rwa [show i-1+1=i by omega]at this
   have h00:i=0→(l.getD 0 dE)=l.getD i dE:=fun e=>by rw[e]
   have hnext:(l.getD (i+1-1) dE).high=(l.getD i dE).high:=by rw[Nat.add_sub_cancel]
   generalize hc:l.getD i dE=c at *
   refine rx (nd2 @K3.eq_1 (nd2 @eQ1 (nd2 @hc @eQ9))) ?_
   refine aa ?_
   refine rx @eQ9 ?_
   refine ZcL rfl rfl rfl rfl rfl (by trivial) (by trivial) (by exact(Zix c).VT (first:=[]) (args:=[_]) (caps:=[]) _) (Za ?_)
   simp only[Eqs,reduceIte,Zye]
   refine rg ?_
   refine cd (fun h2=>?_) (fun h2=>?_)
   ·simp at h2
    have h00':=h00 (by omega)
    refine rg ?_
    refine rg ?_
    refine rg ?_
    refine aa ?_
    refine Zf ?_
    exact ih_key ((l.length)-(i+1)) (by omega) (i+1) rfl (by omega) _ _ (fun _=>⟨by rw[h00'];exact Int.min_self _,by rw[hnext];exact Int.max_self _⟩)
   ·simp at h2
    obtain⟨ha,hb⟩:=hab (by omega)
    have hor':=hor (by omega)
    refine rg ?_
    refine rg ?_
    refine aa ?_
    refine Zf ?_
    exact ih_key ((l.length)-(i+1)) (by omega) (i+1) rfl (by omega) _ _ (fun _=>⟨by rw[Int.min_eq_left (by omega)];exact ha,by rw[hnext,Int.max_eq_right (by omega)]⟩)
  ·simp at h1
   obtain rfl:i=l.length:=by omega
   obtain⟨rfl,rfl⟩:=hab hpos
   refine rg ?_
   refine hret rfl (by first|trivial|simp) (Za4 ?_ rfl) (Zyi _)
   rw[hE]
 exact key _ 0 rfl (by omega) 0 0 (by omega)
theorem ZrQ{α:Type}[Inhabited α]{p:α→Bool}{l:List α}{i:Nat}(hi:i<l.length)(hp:p (l.getD i dE)=true)(h:∀j,j<i→p (l.getD j dE)=false):l.find? p=sO (l.getD i dE):=by
 induction l generalizing i with
 |nil=>simp at hi
 |cons x r ih =>
  cases i with
  |zero=>simp only[List.getD_cons_zero]at hp⊢;simp[hp]
  |succ i =>
   have h0:=h 0 (by omega)
   simp only[List.getD_cons_zero]at h0
   simp only[List.getD_cons_succ]at hp⊢
   rw[List.find?_cons_of_neg (by simp[h0])]
   exact ih (by simpa using hi) hp fun j hj=>by simpa using h (j+1) (by omega)
theorem ZrR{α:Type}[Inhabited α]{p:α→Bool}{l:List α}(h:∀j,j<l.length→p (l.getD j dE)=false):l.find? p=nO:=by
 rw[List.find?_eq_none]
 intro x hx
 obtain⟨j,hj,rfl⟩:=ZyC hx
 have:=h j hj
 simpa[Zyx,hj]using this
def Zfd(m:Msg):Prop:=m.fields.length≤1000∧∀g∈m.fields,g.kind=9→Ziz g.cases∧g.cases.length≤1000
theorem ZeY{m:Msg}(hm:Zfd m)(f:Fld)(hf:KV f=true):ZA Zyg Z2.id [.agg m.cells,.agg f.cells] (QJ (W3 m f)):=by
 refine ZP Z2.ok fun F st hret=>?_
 have hA:=W3.eq_1 m f
 have hlen:=hm.1
 refine rx (nd2 @eQ2 @eQ0) ?_
 refine rx (nd2 @eQ4 @eQ1) ?_
 refine Zh (fr (m.fields.length) (fun i Q=>i≤m.fields.length→(∀j,j<i→JG f (m.fields.getD j dE)=false)→Q [(3,.loc 3 0),(4,.loc 4 0),(12,.d (Z0 m.fields)),(13,.d (.int .i64 m.fields.length)),(14,.d (.int .i64 i))] [(3,f.cells),(4,[.int .i64 0,.int .i64 0])] st) (fun n ih_key=>?_) fun key=>?_)
 ·intro i hn hi hno
  refine rg ?_
  refine Zi (YC rfl trivial (fun h1=>?_) (fun h1=>?_))
  ·simp at h1
   have hmem:m.fields.getD i dE∈m.fields:=by simp[Zyx,h1]
   have hg9:=hm.2 _ hmem
   have hat:=ZrQ (p:=JG f) h1
   have hsucc:=fun h=>Ke (q:=fun j=>JG f (m.fields.getD j dE)=false) hno h
   have hT:=JG.eq_1 f (m.fields.getD i dE)
   generalize hg:m.fields.getD i dE=g at *
   refine rx (nd2 @eQ4 (nd2 @eQ1 (nd2 @hg @eQ0))) ?_
   refine aa ?_
   refine rx @eQ0 ?_
   have hpk:(if dC (g.kind=9)=true then dC (g.tag=f.name) else false)=JG f g:=by
    rw[hT];cases dC (g.kind=9)<;>simp
   try rw[hpk]
   refine cd (fun h2=>?_) (fun h2=>?_)
   ·have h2':JG f g=true:=by rw[hT];simpa using h2
    rw[hat h2' hno]at hA
    have hk9:g.kind=9:=by rw[hT]at h2';simp at h2';exact h2'.1
    obtain⟨hcs,hcl⟩:=hg9 hk9
    refine rx @eQ0 ?_
    refine cl (ZnI hcs hcl) ?_
    refine rg ?_
    exact hret rfl (by simp) (by rw[hA];exact Zyj _) (Zyi _)
   ·have h2':JG f g=false:=by rw[hT];simpa using h2
    refine rg ?_
    refine aa ?_
    refine Zf ?_
    exact ih_key ((m.fields.length)-(i+1)) (by omega) (i+1) rfl (by omega) (hsucc h2')
  ·simp at h1
   obtain rfl:i=m.fields.length:=by omega
   rw[ZrR hno]at hA
   have hR:ZfO f=(Wz f,0):=by rw[ZfO,if_pos hf]
   refine rx @eQ0 ?_
   refine YF rfl rfl rfl rfl rfl (by trivial) (by trivial) (by exact Zgh f) (Za ?_)
   simp only[Eqs,reduceIte,Zye,ZyB,Zyq,hR,QJ]
   refine rg ?_
   exact hret rfl (by simp) (by rw[hA];exact Zyj _) (Zyi _)
 exact key _ 0 rfl (by omega) (by intro j hj;omega)
def ZdE(m:Msg):Nat→Zhq
 |0=>ZaA m.fields m.fields.length
 |i+1=>if KV (m.fields.getD i dE) then KI (m.fields.getD i dE).name (W3 m (m.fields.getD i dE)) (ZdE m i) else ZdE m i
abbrev ZsY(m:Msg):Zhq:=ZdE m m.fields.length
theorem ZnJ{m:Msg}(hm:Zfd m)(s:Qr)(st:St):Wi Zyg YB.id [.agg m.cells,.agg s.cells] st (.bool (dC (0<(WU s fun k=>ZQ k (ZsY m)).2.1))) st:=by
 refine Wb YB.ok fun hwf F hret=>?_
 clear hwf
 have hlen:=hm.1
 refine rx (nd2 @eQ2 @eQ7) ?_
 refine rx @eQ2 ?_
 rw[show(D.agg [.str m.name,Z0 m.fields])=.agg m.cells from rfl]
 refine Ye rfl rfl rfl rfl rfl (by trivial) (by trivial) (by exact Zlq m st) ?_ ?_
 ·rintro d S ⟨b,hb,hd,rfl⟩
  cases hd
  refine Za ?_
  simp only[Eqs,reduceIte,Zye]
  refine rx (nd2 @eQ4 @eQ1) ?_
  have hsub:∀e,st.sub (st.upd b (.map e)):=fun e=>ZyJ _ hb
  refine Zh (fr (m.fields.length) (fun i Q=>i≤m.fields.length→Q [(2,.loc 2 0),(3,.loc 3 0),(5,.d (.map b)),(13,.d (Z0 m.fields)),(14,.d (.int .i64 m.fields.length)),(15,.d (.int .i64 i))] [(2,m.cells),(3,s.cells)] (st.upd b (.map (Zby (ZdE m i))))) (fun n ih_key=>?_) fun key=>?_)
  ·intro i hn hi
   refine rg ?_
   refine Zi (YC rfl trivial (fun h1=>?_) (fun h1=>?_))
   ·simp at h1
    have hsn:ZdE m (i+1)=if KV (m.fields.getD i dE) then KI (m.fields.getD i dE).name (W3 m (m.fields.getD i dE)) (ZdE m i) else ZdE m i:=rfl
    generalize hf:m.fields.getD i dE=f at *
    refine rx (nd2 @eQ4 (nd2 @eQ1 (nd2 @hf @eQ0))) ?_
    refine aa ?_
    rw[show[.str f.name,.int .i64 f.kind,.int .i64 f.bits,.bool f.little,.bool f.loose,.int .i64 f.low,.int .i64 f.high,.int .i64 f.size.base,Qk f.size.terms,.str f.of,.str f.tag,.str f.from_,K3 f.cases,.int .i64 f.check,.int .i64 f.key]=f.cells from rfl]
    refine rx @eQ0 ?_
    refine cl (ZfS f) ?_
    refine cd (fun h2=>?_) (fun h2=>?_)
    ·rw[if_pos h2]at hsn
     have e2:=Zdf (vD:=QJ) Wa f.name (W3 m f) (ZdE m i)
     have e3:=Jl Wa f.name
     simp only[show Zar f.name=D.str f.name from rfl,show QJ (W3 m f)=.agg [.int .i64 (W3 m f).1,.int .i64 (W3 m f).2] from rfl]at e2 e3
     refine rx (nd2 @eQ0 @eQ2) ?_
     refine ZaF rfl rfl rfl rfl rfl (by trivial) (by trivial) (by exact ZeY hm f h2) (Y6 ?_)
     simp only[Eqs,reduceIte,Zye,QJ,e2,Zyo,Zyz]
     refine rg ?_
     refine aa ?_
     rw[←hsn]
     refine Zf ?_
     exact ih_key ((m.fields.length)-(i+1)) (by omega) (i+1) rfl (by omega)
    ·rw[if_neg (by rw[h2];simp)]at hsn
     refine rg ?_
     refine aa ?_
     rw[←hsn]
     refine Zf ?_
     exact ih_key ((m.fields.length)-(i+1)) (by omega) (i+1) rfl (by omega)
   ·simp at h1
    obtain rfl:i=m.fields.length:=by omega
    refine rx @eQ7 ?_
    refine Ye rfl rfl rfl rfl rfl (by trivial) (by trivial) (by exact ZfW s b (ZsY m) _ (Zyo _ _ _)) ?_ ?_
    ·rintro d S ⟨hd,rfl⟩
     cases hd
     refine Za ?_
     simp only[Eqs,reduceIte,Zye,ZyB,Zyq,QJ]
     refine rg ?_
     exact hret rfl (by trivial) (Zyj _) (hsub _)
    ·rintro d S ⟨hd,_⟩
     cases hd
  exact key _ 0 rfl (by omega)
 ·rintro d S ⟨b,hb,hd,_⟩
  cases hd
theorem Zm7{L:DL.Loc}(l:List QB)(i:Int):qv L s (.iaddr 3) [.d (K3 l),.d (.int .i64 i)]=sO (0≤i∧i<l.length,.d (.ep (l.getD i.toNat dE).cells 0)):=rfl
theorem Zhx{L:DL.Loc}(l:List QB):qv L s .lenL [.d (K3 l)]=sO (True,.d (.int .i64 l.length)):=rfl
theorem Zhc{m:Msg}(hm:Zfd m)(f:Fld):ZA Zyg YS.id [.agg m.cells,.agg f.cells] (.tup [.int .i64 (W3 m f).1,.int .i64 (W3 m f).2]):=by
 refine ZP YS.ok fun F st hret=>?_
 have hA:=W3.eq_1 m f
 have hlen:=hm.1
 refine rx (nd2 @eQ2 @eQ0) ?_
 refine rg ?_
 refine Zh (fr (m.fields.length) (fun i Q=>i≤m.fields.length→(∀j,j<i→JG f (m.fields.getD j dE)=false)→Q [(2,.loc 2 0),(3,.loc 3 0),(6,.d (.int .i64 i))] [(2,[.str m.name,Z0 m.fields]),(3,f.cells)] st) (fun n ih_key=>?_) fun key=>?_)
 ·intro i hn hi hno
  refine rx @ZeT ?_
  refine cd (fun h1=>?_) (fun h1=>?_)
  ·simp at h1
   have hmem:m.fields.getD i dE∈m.fields:=by simp[Zyx,h1]
   have hg9:=hm.2 _ hmem
   have hat:=ZrQ (p:=JG f) h1
   have hsucc:=fun h=>Ke (q:=fun j=>JG f (m.fields.getD j dE)=false) hno h
   have hT:=JG.eq_1 f (m.fields.getD i dE)
   generalize hg:m.fields.getD i dE=g at *
   refine Yw ?_
   refine rx (nd2 @atF (nd2 @hg (nd2 @Znj @ZnG))) ?_
   refine aa ?_
   refine rx @eQ0 ?_
   refine cd (fun h2=>?_) (fun h2=>?_)
   ·have h2':JG f g=true:=by rw[hT];simpa using h2
    rw[hat h2' hno]at hA
    have hk9:g.kind=9:=by rw[hT]at h2';simp at h2';exact h2'.1
    obtain⟨hcs,hcl⟩:=hg9 hk9
    have hpos:=hcs.pos
    have hE:=Jp.eq_1 g.cases
    have hix:((g.cases.length:Int)-1).toNat=g.cases.length-1:=by omega
    refine rx (nd2 @eQ0 (nd2 @Zm7 (nd2 @Zhx (nd2 @eQ9 @hix)))) ?_
    refine aa ?_
    refine hret rfl (by simp) (Za4 ?_ rfl) (Zyi _)
    rw[hA];simp only[hE]
   ·have h2':JG f g=false:=by rw[hT];simpa using h2
    refine Yw ?_
    refine rg ?_
    refine aa ?_
    refine Zf ?_
    exact ih_key ((m.fields.length)-(i+1)) (by omega) (i+1) rfl (by omega) (hsucc h2')
  ·simp at h1
   obtain rfl:i=m.fields.length:=by omega
   rw[ZrR hno]at hA
   refine rx @eQ0 ?_
   refine cl (ZfN f) ?_
   refine hret rfl (by simp) (Za4 ?_ rfl) (Zyi _)
   rw[hA]
 exact key _ 0 rfl (by omega) (by intro j hj;omega)
structure ZuY(m:Msg)(s:Qr):Prop where
 few:s.terms.length≤4
 base:-1048576≤s.base∧s.base≤1048576
 fld:∀t∈s.terms,0≤Yr m t.field m.fields.length∧KV (m.fields.getD (Yr m t.field m.fields.length).toNat default)=true
 fine:∀t∈s.terms,ZdP (JS m) t
theorem ZdP.hiT_max{look:QQ}{t:YN}(h:ZdP look t):hiT look t=max (t.factor*(Q4 look t).1) (t.factor*(Q4 look t).2):=by
 have a:=h.le
 unfold hiT
 by_cases hf:0<t.factor
 ·have:=Int.mul_le_mul_of_nonneg_left a (show 0≤t.factor by omega)
  rw[if_pos hf,Int.max_eq_right this]
 ·have:=Int.mul_le_mul_of_nonpos_left (show t.factor≤0 by omega) a
  rw[if_neg hf,Int.max_eq_left this]
theorem ZdP.bounds{look:QQ}{t:YN}(h:ZdP look t):(-36028797018963968≤t.factor*(Q4 look t).1∧t.factor*(Q4 look t).1≤36028797018963968)∧-36028797018963968≤t.factor*(Q4 look t).2∧t.factor*(Q4 look t).2≤36028797018963968:=by
 have a:=h.le;have b:=h.lo;have c:=h.hi
 exact⟨ZsZ h.f1 h.f2 b (by omega),ZsZ h.f1 h.f2 (by omega) c⟩
theorem Zvq{look:QQ}{l:List YN}{i:Nat}(hi:i<l.length):hiS look (l.take (i+1))=hiS look (l.take i)+hiT look (l.getD i dE):=by
 induction l generalizing i with
 |nil=>simp at hi
 |cons t r ih =>
  cases i with
  |zero=>simp[hiS]
  |succ i =>
   simp only[List.take_succ_cons,hiS,List.getD_cons_succ]
   rw[ih (by simpa using hi)];omega
theorem Zt7{look:QQ}{l:List YN}(h:∀t∈l,ZdP look t):-36028797018963968*(l.length:Int)≤hiS look l∧hiS look l≤36028797018963968*(l.length:Int):=by
 induction l with
 |nil=>simp[hiS]
 |cons t r ih =>
  have h1:=ih fun t ht=>h t (by simp[ht])
  have h2:=(h t (by simp)).hiT_max
  have h3:=(h t (by simp)).bounds
  simp only[hiS,ZyE]
  omega
theorem Zkh{L:DL.Loc}(l:List YN)(i:Int):qv L s (.iaddr 2) [.d (Qk l),.d (.int .i64 i)]=sO (0≤i∧i<l.length,.d (.ep (l.getD i.toNat dE).cells 0)):=rfl
theorem Zlv{L:DL.Loc}(l:List YN):qv L s .lenL [.d (Qk l)]=sO (True,.d (.int .i64 l.length)):=rfl
theorem Znt(cs:List D)(o:Nat):JZ (.d (.ep cs o))=[]:=rfl
theorem Zmz{m:Msg}(hm:Zfd m){s:Qr}(hs:ZuY m s):ZA Zyg YI.id [.agg m.cells,.agg s.cells] (.int .i64 (Zi0 m s)):=by
 refine ZP YI.ok fun F st hret=>?_
 have hfew:=hs.few
 have hbase:=hs.base
 have hG:=Zi0.eq_1 m s
 have hlen:=hm.1
 refine rx (nd2 @eQ2 @eQ7) ?_
 refine rg ?_
 refine rg ?_
 refine Zh (fr (s.terms.length) (fun i Q=>i≤s.terms.length→Q [(2,.loc 2 0),(3,.loc 3 0),(5,.d (.int .i64 (s.base+hiS (JS m) (s.terms.take i)))),(6,.d (.int .i64 i))] [(2,m.cells),(3,s.cells)] st) (fun n ih_key=>?_) fun key=>?_)
 ·intro i hn hi
  refine rx (nd2 @eQ7 @Zlv) ?_
  refine cd (fun h1=>?_) (fun h1=>?_)
  ·simp at h1
   have hmem:s.terms.getD i dE∈s.terms:=W4 h1
   have hfl:=hs.fld _ hmem
   have hfi:=hs.fine _ hmem
   have htk:=Zvq (look:=JS m) h1
   have hbd:=Zt7 (look:=JS m) (l:=s.terms.take i) fun t ht=>hs.fine t (List.mem_of_mem_take ht)
   rw[Zyw]at hbd
   have hmx:=hfi.hiT_max
   have hbb:=hfi.bounds
   generalize ht:s.terms.getD i dE=t at *
   have hlt:=QA (fun f=>dC (f.name=t.field)) (m.fields.take m.fields.length)
   rw[Zyw]at hlt
   have hends:Q4 (JS m) t=W3 m (m.fields.getD (Yr m t.field m.fields.length).toNat dE):=by
    unfold Q4 JS
    rw[if_neg (by omega),if_pos hfl.2];rfl
   rw[show ZB (fun f=>dC (f.name=t.field)) (m.fields.take m.fields.length)=Yr m t.field m.fields.length from rfl]at hlt
   rw[hends]at hmx hbb
   obtain⟨q,hq⟩:∃q,Yr m t.field m.fields.length=q:=⟨_,rfl⟩
   simp only[hq]at hfl hlt hends hmx hbb
   have hTb:-36028797018963968≤hiT (JS m) t∧hiT (JS m) t≤36028797018963968:=by rw[hmx];omega
   refine Yw ?_
   refine rx (nd2 @eQ2 (nd2 @eQ7 (nd2 @eQ8 (nd2 @Zkh (nd2 @ZeT (nd2 @ht @Znt)))))) ?_
   refine aa ?_
   refine ZaF rfl rfl rfl rfl rfl (by trivial) (by trivial) (by exact Zbc m t.field m.fields.length (Zys _)) (Y6 ?_)
   simp only[Eqs,reduceIte,Zye,Zyq,hq,atF,Znj,ZnG]
   refine aa ?_
   refine clD (Zhc hm (m.fields.getD q.toNat dE)) ?_
   generalize hal:W3 m (m.fields.getD q.toNat dE)=al at *
   refine rx (nd2 @eQ7 (nd2 @eQ8 (nd2 @Zkh @ht))) ?_
   refine aa ?_
   rw[←hmx]
   refine aa ?_
   rw[show s.base+hiS (JS m) (s.terms.take i)+hiT (JS m) t=s.base+hiS (JS m) (s.terms.take (i+1)) by rw[htk];omega]
   refine rg ?_
   refine aa ?_
   refine Zf ?_
   exact ih_key ((s.terms.length)-(i+1)) (by omega) (i+1) rfl (by omega)
  ·simp at h1
   obtain rfl:i=s.terms.length:=by omega
   rw[ZyA]
   refine rg ?_
   exact hret rfl (by trivial) (by rw[hG];exact Zyj _) (Zyi _)
 have h0:=key _ 0 rfl (by omega)
 rw[List.take_zero,show hiS (JS m) []=0 from rfl,Int.add_zero]at h0
 exact h0
def Je(l:List Bool):List D:=l.map .bool
theorem Zdo(l:List Bool):(Je l).length=l.length:=by simp[Je]
theorem Zhv{l:List Bool}{i:Nat}(h:i<l.length):(Je l)[i]?=sO (.bool (l.getD i false)):=by simp[Je,Zyx,h]
theorem Zdp{l:List Bool}{i:Nat}(h:i<l.length):List.take (i*1) (Je l)++[.bool true]++List.drop (i*1+1) (Je l)=Je (l.set i true):=by
 unfold Je
 rw[Nat.mul_one]
 rw[List.map_set,List.set_eq_take_append_cons_drop,if_pos (by simpa using h)]
 simp
theorem ZrD(n:Nat):Ju [.bool false] n=Je (List.replicate n false):=by
 induction n with
 |zero=>rfl
 |succ n ih=>simp_all[Ju,Je,List.replicate_succ]
structure Zv0(d:Dfn):Prop where
 many:d.msgs.length≤60
 start:0≤Z5 d d.start d.msgs.length
 cases:∀m∈d.msgs,Zfd m
 edge:∀m∈d.msgs,∀f∈m.fields,∀s∈KL m f,0≤Z5 d s d.msgs.length
 size:∀m∈d.msgs,∀f∈m.fields,f.kind=7→ZuY m f.size
 few:∀m∈d.msgs,∀f∈m.fields,f.cases.length≤1000
theorem Zg3{d:Dfn}{s:Str}(h:0≤Z5 d s d.msgs.length):Z5 d s d.msgs.length=ixS d s∧ixS d s<d.msgs.length:=by
 have:=QA (fun m=>dC (m.name=s)) (d.msgs.take d.msgs.length)
 rw[Zyw]at this
 unfold ixS
 unfold Z5 at *
 omega
def ZbL(d:Dfn):Nat→List Bool
 |0=>Zch d
 |c+1=>Zh4 d (d.msgs.length-1-c) (ZbL d c)
theorem ZhY(d:Dfn):∀c,c≤d.msgs.length→ZcI d (d.msgs.length-c) (ZbL d c)=ZaZ d
 |0,_=>rfl
 |c+1,h=>by
  rw[←ZhY d c (by omega),show d.msgs.length-c=(d.msgs.length-(c+1))+1 by omega]
  show _=ZcI d (d.msgs.length-(c+1)) (Zh4 d (d.msgs.length-(c+1)) (ZbL d c))
  rw[ZbL,show d.msgs.length-1-c=d.msgs.length-(c+1) by omega]
theorem Zlj{d:Dfn}(hv:Zgp d)(hs:(Zch d).length=d.msgs.length):∀c,c≤d.msgs.length→(ZbL d c).length=d.msgs.length
 |0,_=>hs
 |c+1,h=>by
  have h1:=Zlj hv hs c (by omega)
  rw[ZbL,(Zr6 hv (by omega) h1).1,h1]
theorem ZqI{d:Dfn}(hd:Zv0 d)(hv:Zgp d)(st:St):ZN Zyg ZV.id [.agg d.cells] st fun r S=>∃b,st b=nO∧r=.ret (.msl b 0 d.msgs.length d.msgs.length 1)∧S=st.upd b (.cells (Je (ZaZ d))):=by
 refine ZM ZV.ok fun F hF=>?_
 have hmany:=hd.many
 have hst:=Zg3 hd.start
 have hsl:(Zch d).length=d.msgs.length:=by simp[Zch]
 refine rx @eQ3 ?_
 refine rx @Zcn ?_
 refine⟨by omega,by omega,by omega,by simp only[big];omega,?_⟩
 intro b hb
 rw[ZrD]
 have hset:=Zdp (l:=List.replicate d.msgs.length false) (i:=ixS d d.start) (by simpa using hst.2)
 refine rx @Zcn ?_
 refine YF rfl rfl rfl rfl rfl (by trivial) (by trivial) (by exact Qy d d.start d.msgs.length (Zys _)) (Za ?_)
 simp only[Eqs,reduceIte,Zye,hst.1,hset,Zdo,List.length_replicate,Zyo,Zyz]
 refine aa ?_
 rw[show(List.replicate d.msgs.length false).set (ixS d d.start) true=ZbL d 0 from rfl]
 refine rx @Zcn ?_
 refine aa ?_
 clear hset
 refine Zh (fr (d.msgs.length) (fun c Q=>c≤d.msgs.length→Q [(1,.loc 1 0),(3,.d (.msl b 0 d.msgs.length d.msgs.length 1)),(4,.d (.int .i64 ((d.msgs.length:Int)-1-c)))] [(1,[.str d.name,Ka d.msgs,.str d.start])] (st.upd b (.cells (Je (ZbL d c))))) (fun n ih_key=>?_) fun key=>?_)
 ·intro c hn hc
  have hol:=Zlj hv hsl c hc
  refine rg ?_
  refine cd (fun h1=>?_) (fun h1=>?_)
  ·have h1':c<d.msgs.length:=by simp at h1;omega
   refine Yw ?_
   obtain⟨i,hi⟩:∃i:Nat,i=d.msgs.length-1-c:=⟨_,rfl⟩
   have hil:i<d.msgs.length:=by omega
   have hii:(d.msgs.length:Int)-1-c=i:=by omega
   have hrow:ZbL d (c+1)=Zh4 d i (ZbL d c):=by rw[ZbL,hi]
   have hmem:d.msgs.getD i dE∈d.msgs:=W4 hil
   have hdown:=hv i hil
   have hedge:=fun f hf=>hd.edge _ hmem f hf
   have hcs:=hd.cases _ hmem
   have hsz:=fun f hf=>hd.size _ hmem f hf
   have hfw:=fun f hf=>hd.few _ hmem f hf
   unfold Zh4 at hrow
   unfold Zdt at hdown
   generalize hm:d.msgs.getD i dE=m at *
   rw[hii]
   have hmf:=hcs.1
   refine rx (nd2 @atM (nd2 @hm @eQ2)) ?_
   refine aa ?_
   refine rg ?_
   cases ho:(ZbL d c).getD i false with
   |false =>
    rw[ho]at hrow
    have hg:(Je (ZbL d c))[i*1]?=sO (.bool false):=by rw[Nat.mul_one,Zhv (by omega),ho]
    have hsame:ZbL d (c+1)=ZbL d c:=by rw[hrow];simp
    have hn1:(i:Int)-1=(d.msgs.length:Int)-1-((c+1:Nat):Int):=by omega
    refine Zh (ZaG ?_)
    refine rx (nd2 @Zyo (nd2 @hg @ZeT)) ?_
    refine aa ?_
    refine i0 ?_
    refine rg ?_
    refine aa ?_
    rw[hn1,←hsame]
    refine Zf ?_
    exact ih_key ((d.msgs.length)-(c+1)) (by omega) (c+1) rfl (by omega)
   |true =>
    rw[ho,if_pos rfl]at hrow
    have hn1:(i:Int)-1=(d.msgs.length:Int)-1-((c+1:Nat):Int):=by omega
    refine Zh (fr (m.fields.length) (fun k Q=>k≤m.fields.length→∀out:List Bool,out.length=d.msgs.length→out.getD i false=true→out=(m.fields.take k).foldl (Zco d m) (ZbL d c)→Q [(1,.loc 1 0),(3,.d (.msl b 0 d.msgs.length d.msgs.length 1)),(4,.d (.int .i64 i)),(5,.loc 5 0),(6,.d (.int .i64 k))] [(1,[.str d.name,Ka d.msgs,.str d.start]),(5,[.str m.name,Z0 m.fields])] (st.upd b (.cells (Je out)))) (fun n ih_key2=>?_) fun key2=>?_)
    ·intro k hn2 hk out hlo hoi hout
     have hg:(Je out)[i*1]?=sO (.bool true):=by rw[Nat.mul_one,Zhv (by omega),hoi]
     refine rx (nd2 @Zyo (nd2 @hg @ZeT)) ?_
     refine aa ?_
     refine cd (fun h2=>?_) (fun h2=>?_)
     ·have h2':k<m.fields.length:=by simp at h2;omega
      have hfm:m.fields.getD k dE∈m.fields:=W4 h2'
      have hefk:=hedge _ hfm
      have hszk:=hsz _ hfm
      have hfwk:=hfw _ hfm
      have hmk:=Zql (d:=d) (m:=m) (f:=m.fields.getD k dE) (o:=out) fun s hs=>by rw[hlo];exact(Zg3 (hefk s hs)).2
      have htk:(m.fields.take (k+1)).foldl (Zco d m) (ZbL d c)=Zco d m out (m.fields.getD k dE):=by
       rw[WF h2',List.foldl_append,←hout];rfl
      have hdk:∀s∈KL m (m.fields.getD k dE),ixS d s<i:=fun s hs=>hdown _ (List.mem_map.2 ⟨s,List.mem_flatMap.2 ⟨_,hfm,hs⟩,rfl⟩)
      generalize hf:m.fields.getD k dE=f at *
      have hMF:=Zco.eq_1 d m out f
      refine Yw ?_
      refine rx (nd2 @atF (nd2 @hf (nd2 @Znj @ZnG))) ?_
      refine aa ?_
      refine rg ?_
      refine Zh (fr (f.cases.length) (fun q Q=>q≤f.cases.length→Q [(1,.loc 1 0),(3,.d (.msl b 0 d.msgs.length d.msgs.length 1)),(4,.d (.int .i64 i)),(5,.loc 5 0),(6,.d (.int .i64 k)),(7,.loc 7 0),(8,.d (.int .i64 q))] [(1,[.str d.name,Ka d.msgs,.str d.start]),(5,[.str m.name,Z0 m.fields]),(7,f.cells)] (st.upd b (.cells (Je ((f.cases.take q).foldl (fun o c=>o.set (ixS d c.of) true) out))))) (fun n ih_key3=>?_) fun key3=>?_)
      ·intro q hn3 hq
       refine rx (nd2 @eQ0 @Zhx) ?_
       obtain⟨o,hO⟩:∃o,o=(f.cases.take q).foldl (fun o c=>o.set (ixS d c.of) true) out:=⟨_,rfl⟩
       have hol2:o.length=d.msgs.length:=by
        rw[hO,(ZhJ (fun c:QB=>ixS d c.of) (f.cases.take q) out fun c hc=>by rw[hlo];exact(Zg3 (hefk c.of (List.mem_append_left _ (List.mem_map.2 ⟨c,List.mem_of_mem_take hc,rfl⟩)))).2).1,hlo]
       rw[←hO]
       refine cd (fun h3=>?_) (fun h3=>?_)
       ·have h3':q<f.cases.length:=by simp at h3;omega
        have hcm:f.cases.getD q dE∈f.cases:=W4 h3'
        have hix:=Zg3 (hefk (f.cases.getD q dE).of (List.mem_append_left _ (List.mem_map.2 ⟨_,hcm,rfl⟩)))
        have hsn:(f.cases.take (q+1)).foldl (fun o c=>o.set (ixS d c.of) true) out=o.set (ixS d (f.cases.getD q dE).of) true:=by
         rw[WF h3',List.foldl_append,←hO];rfl
        generalize hcq:f.cases.getD q dE=cs at *
        have hset:=Zdp (l:=o) (i:=ixS d cs.of) (by omega)
        refine Yw ?_
        refine rx (nd2 @eQ0 (nd2 @Zm7 (nd2 @hcq (nd2 @eQ9 @Zcn)))) ?_
        refine aa ?_
        refine Zdh rfl rfl rfl rfl rfl (by trivial) (by trivial) (by exact Qy d cs.of d.msgs.length (Zys _)) (Ql ?_)
        simp only[Eqs,reduceIte,Zye,hix.1,hset,Zdo,hol2,Zyo,Zyz]
        refine aa ?_
        rw[←hsn]
        refine rg ?_
        refine aa ?_
        refine Zf ?_
        exact ih_key3 ((f.cases.length)-(q+1)) (by omega) (q+1) rfl (by omega)
       ·have h3':q=f.cases.length:=by simp at h3;omega
        subst h3'
        rw[ZyA]at hO
        have fin :  ZS F [.code (qR ZV.r9 [1,3,4,5,6]),.inLoop ZV.l1,.inBlock 2,.inBlock 1,.code (qR ZV.r5 [1,3,4]),.inLoop ZV.l0,.inBlock 0,.code (.seq (qR ZV.r17 [2]) .ret)] [(1,.loc 1 0),(3,.d (.msl b 0 d.msgs.length d.msgs.length 1)),(4,.d (.int .i64 i)),(5,.loc 5 0),(6,.d (.int .i64 k))] [(1,[.str d.name,Ka d.msgs,.str d.start]),(5,[.str m.name,Z0 m.fields])] (st.upd b (.cells (Je (Zco d m out f)))):=by
         refine rg ?_
         refine aa ?_
         refine Zf ?_
         exact ih_key2 ((m.fields.length)-(k+1)) (by omega) (k+1) rfl (by omega) _ (by rw[hmk.1,hlo]) (by rw[hmk.2,hoi];rfl) htk.symm
        refine Wr rfl (Zi ?_)
        have hmark:Zco d m out f=if Q7 m f then o.set (ixS d f.of) true else o:=by rw[hMF,hO]
        have hixof:Q7 m f=true→Z5 d f.of d.msgs.length=ixS d f.of∧ixS d f.of<d.msgs.length:=fun h=>Zg3 (hefk f.of (by unfold KL;rw[if_pos h];simp))
        by_cases h8:f.kind=8
        ·have hg:Q7 m f=true:=by simp[Q7,h8]
         have e8:=decide_eq_true h8
         refine rx (nd2 @e8 @eQ0) ?_
         refine ZaB rfl (e:=.d (.int .i64 0)) (Za ?_)
         simp only[Eqs,reduceIte,Zye]
         refine⟨by simp,?_⟩
         refine i1 ?_
         rw[hg,if_pos rfl]at hmark
         have hix:=hixof hg
         have hset:=Zdp (l:=o) (i:=ixS d f.of) (by omega)
         refine rx (nd2 @eQ0 @Zcn) ?_
         refine YF rfl rfl rfl rfl rfl (by trivial) (by trivial) (by exact Qy d f.of d.msgs.length (Zys _)) (Za ?_)
         simp only[Eqs,reduceIte,Zye,hix.1,hset,Zdo,hol2,Zyo,Zyz]
         refine aa ?_
         rw[←hmark]
         refine ZW ?_
         exact fin
        ·have e8:=decide_eq_false h8
         by_cases h12:f.kind=12
         ·have hg:Q7 m f=true:=by simp[Q7,h12]
          have e12:=decide_eq_true h12
          refine rx (nd2 @e8 (nd2 @e12 @eQ0)) ?_
          refine ZaB rfl (e:=.d (.int .i64 0)) (Za ?_)
          simp only[Eqs,reduceIte,Zye]
          refine⟨by simp,?_⟩
          refine i1 ?_
          rw[hg,if_pos rfl]at hmark
          have hix:=hixof hg
          have hset:=Zdp (l:=o) (i:=ixS d f.of) (by omega)
          refine rx (nd2 @eQ0 @Zcn) ?_
          refine YF rfl rfl rfl rfl rfl (by trivial) (by trivial) (by exact Qy d f.of d.msgs.length (Zys _)) (Za ?_)
          simp only[Eqs,reduceIte,Zye,hix.1,hset,Zdo,hol2,Zyo,Zyz]
          refine aa ?_
          rw[←hmark]
          refine ZW ?_
          exact fin
         ·have e12:=decide_eq_false h12
          by_cases h7:f.kind=7
          ·have e7:=decide_eq_true h7
           have hgd:Q7 m f=dC (0<Zi0 m f.size):=by simp[Q7,h7]
           refine rx (nd2 @e8 (nd2 @e12 (nd2 @e7 @eQ0))) ?_
           refine Kt rfl rfl rfl rfl rfl (fun hcg=>⟨by first|trivial|(simpa[Qa]using hcg),trivial,Zmz hcs (hszk h7)⟩) (Za ?_)
           simp only[Eqs,reduceIte,Zye]
           refine cd (fun h4=>?_) (fun h4=>?_)
           ·have hg:Q7 m f=true:=by rw[hgd];simpa using h4
            rw[hg,if_pos rfl]at hmark
            have hix:=hixof hg
            have hset:=Zdp (l:=o) (i:=ixS d f.of) (by omega)
            refine rx (nd2 @eQ0 @Zcn) ?_
            refine YF rfl rfl rfl rfl rfl (by trivial) (by trivial) (by exact Qy d f.of d.msgs.length (Zys _)) (Za ?_)
            simp only[Eqs,reduceIte,Zye,hix.1,hset,Zdo,hol2,Zyo,Zyz]
            refine aa ?_
            rw[←hmark]
            refine ZW ?_
            exact fin
           ·have hg:Q7 m f=false:=by rw[hgd];simpa using h4
            rw[hg,if_neg (by simp)]at hmark
            rw[←hmark]
            refine Yw (ZW (JH [1,3,4,5,6] ?_))
            simp only[Eqs,reduceIte,Zye]
            exact fin
          ·have e7:=decide_eq_false h7
           have hg:Q7 m f=false:=by simp[Q7,h8,h12,h7]
           refine rx (nd2 @e8 (nd2 @e12 (nd2 @e7 @eQ0))) ?_
           refine ZaB rfl (e:=.d (.int .i64 0)) (Za ?_)
           simp only[Eqs,reduceIte,Zye]
           refine i0 ?_
           rw[hg,if_neg (by simp)]at hmark
           rw[←hmark]
           refine Yw (ZW (JH [1,3,4,5,6] ?_))
           simp only[Eqs,reduceIte,Zye]
           exact fin
      exact key3 _ 0 rfl (by omega)
     ·have h2':k=m.fields.length:=by simp at h2;omega
      subst h2'
      rw[ZyA]at hout
      refine rg ?_
      refine aa ?_
      rw[hn1,show out=ZbL d (c+1) by rw[hout,hrow]]
      refine Zf ?_
      exact ih_key ((d.msgs.length)-(c+1)) (by omega) (c+1) rfl (by omega)
    exact key2 _ 0 rfl (by omega) _ hol ho rfl
  ·have h1':c=d.msgs.length:=by simp at h1;omega
   subst h1'
   have he:=ZhY d d.msgs.length (Zys _)
   rw[Nat.sub_self]at he
   refine rg ?_
   exact hF.ret _ _ rfl (by trivial) (Zyj _) (Zyi _) ⟨b,hb,rfl,by rw[←he];rfl⟩
 have h0:=key _ 0 rfl (by omega)
 rw[show(d.msgs.length:Int)-1-((0:Nat):Int)=(d.msgs.length:Int)-1 by omega]at h0
 exact h0
theorem ZfD{d:Dfn}{a i:Nat}{m:Msg}{f:Fld}(h:QF d a m i f=0):W7 d a m i f=0∧Yr m f.name i<0∧1≤f.kind∧f.kind≤12:=by
 unfold QF at h
 split at h;· omega
 split at h;· omega
 rename_i hnf
 split at h;· omega
 rename_i hkk
 split at h;· omega
 simp only[Zyu,decide_eq_true_eq,not_or]at hkk
 exact⟨h,by omega,by omega,by omega⟩
theorem Zqe{d:Dfn}{a i:Nat}{m:Msg}{f:Fld}(h:QF d a m i f=0)(hk:f.kind=7):Zbz (m.fields.take i) f.size=0:=by
 have h1:=(ZfD h).1
 unfold W7 at h1
 simp only[hk,ZyN,if_true,if_false]at h1
 split at h1;· omega
 exact h1
theorem Zup{d:Dfn}{a i:Nat}{m:Msg}{f:Fld}(h:QF d a m i f=0)(hn:KV f=true):0≤(Wz f).1∧(Wz f).1≤(Wz f).2∧(Wz f).2<34359738368:=by
 have h1:=(ZfD h).1
 have hk:f.kind=1∨f.kind=2∨f.kind=3:=by
  simp only[KV,Zyk,decide_eq_true_eq]at hn;omega
 have key:f.kind=1∨f.kind=2→JF f=0→0≤(Wz f).1∧(Wz f).1≤(Wz f).2∧(Wz f).2<34359738368:=fun hk hs=>by
  unfold JF at hs
  split at hs;· omega
  rename_i hb
  split at hs;· omega
  rename_i hm
  have hbb:0≤f.bits∧f.bits≤32:=by
   simp only[ZaC,Zyu,Zyk,Bool.not_eq_true',decide_eq_true_eq,decide_eq_false_iff_not,not_or]at hb
   omega
  have h2:=(Zdg hbb.1 hbb.2).2
  simp only[Zcc,Zyu,decide_eq_true_eq,not_or]at hm
  generalize (2:Int) ^ f.bits.toNat=pw at *
  unfold ZjJ at hm
  unfold Wz
  rcases hk with hk|hk
  ·simp only[hk,ZyN,if_false]at hm⊢;omega
  ·simp only[hk,if_true]at hm⊢;omega
 unfold W7 at h1
 rcases hk with hk|hk|hk
 ·simp only[hk,if_true]at h1;exact key (.inl hk) h1
 ·simp only[hk,ZyN,if_true,if_false]at h1;exact key (.inr hk) h1
 ·simp only[hk,ZyN,if_true,if_false]at h1
  split at h1
  ·rename_i hw
   simp only[Zij,Zyk,decide_eq_true_eq]at hw
   unfold Wz
   simp only[hk,ZyN,if_false]
   omega
  ·omega
theorem ZnX{d:Dfn}{a:Nat}{high:Int}:∀{l:List QB} {low:Int},Za5 d a high low l=0→l≠[]→Ziz l∧low≤(l.getD 0 dE).low∧(l.getD (l.length-1) dE).high≤high
 | [],_,_,hne=>absurd rfl hne
 |c::r,low,h,_=>by
  simp only[Za5]at h
  split at h;· omega
  rename_i hc
  split at h;· omega
  simp only[Zyu,decide_eq_true_eq,not_or,Int.not_lt]at hc
  by_cases hr:r=[]
  ·subst hr
   refine⟨⟨by simp,fun i hi=>by simp at hi,fun i hi=>?_⟩,by simpa using hc.1,by simpa using hc.2.2⟩
   have:i=0:=by simp at hi;omega
   subst this
   simpa using hc.2.1
  ·obtain⟨h1,h2,h3⟩:=ZnX h hr
   have hl:0<r.length:=List.length_pos_iff.2 hr
   refine⟨⟨by simp,fun i hi=>?_,fun i hi=>?_⟩,by simpa using hc.1,?_⟩
   ·cases i with
    |zero=>simp only[List.getD_cons_zero,List.getD_cons_succ];omega
    |succ i =>
     simp only[List.getD_cons_succ]
     exact h1.ord i (by simpa using hi)
   ·cases i with
    |zero=>simpa using hc.2.1
    |succ i=>simp only[List.getD_cons_succ];exact h1.ne i (by simpa using hi)
   ·rw[show(c::r).length-1=(r.length-1)+1 by simp;omega,List.getD_cons_succ]
    exact h3
theorem Ziz.ends_le{l:List QB}(h:Ziz l):(l.getD 0 dE).low≤(l.getD (l.length-1) dE).high:=by
 have:=h.pos
 have h1:=h.lo (l.length-1) (by omega)
 have h2:=h.ne (l.length-1) (by omega)
 omega
theorem ZnZ{d:Dfn}{a i:Nat}{m:Msg}{f:Fld}(h:QF d a m i f=0)(hk:f.kind=9):0≤Yr m f.tag i∧KV (m.fields.getD (Yr m f.tag i).toNat dE)=true∧Ziz f.cases∧f.cases.length≤40 ∧
  (Wz (m.fields.getD (Yr m f.tag i).toNat dE)).1≤(Jp f.cases).1∧(Jp f.cases).2≤(Wz (m.fields.getD (Yr m f.tag i).toNat dE)).2:=by
 have h1:=(ZfD h).1
 unfold W7 at h1
 simp only[hk,ZyN,if_true,if_false]at h1
 split at h1;· omega
 rename_i hb
 simp only[Zga,Zyu,decide_eq_true_eq,not_or,Bool.not_eq_true',Bool.not_eq_false,Bool.not_eq_true]at hb
 unfold Zdq at h1
 split at h1;· omega
 rename_i hc
 simp only[Zyu,decide_eq_true_eq,not_or,Nat.not_lt]at hc
 obtain⟨q1,q2,q3⟩:=ZnX h1 (fun e=>by rw[e]at hc;simp at hc)
 exact⟨by omega,hb.2.1,q1,by omega,q2,q3⟩
theorem Zso{d:Dfn}{a:Nat}{m:Msg}(hm:Zeb d a m){k:Nat}(hk:k<m.fields.length)(hn:KV (m.fields.getD k dE)=true):
  0≤(W3 m (m.fields.getD k dE)).1∧(W3 m (m.fields.getD k dE)).1≤(W3 m (m.fields.getD k dE)).2∧(W3 m (m.fields.getD k dE)).2<34359738368:=by
 unfold W3
 cases hf:m.fields.find? (JG (m.fields.getD k dE)) with
 |none=>exact Zup (hm.field k hk) hn
 |some g =>
  have hg:=List.mem_of_find?_eq_some hf
  have ht:=List.find?_some hf
  obtain⟨q,hq,rfl⟩:=ZyC hg
  have hfo:=hm.field q hq
  rw[show m.fields.getD q dE=m.fields[q] by simp[Zyx,hq]]at hfo
  have hk9:m.fields[q].kind=9:=by simp only[JG,Zyk,decide_eq_true_eq]at ht;exact ht.1
  obtain⟨c1,c2,c3,_,c4,c5⟩:=ZnZ hfo hk9
  have hlt:=QA (fun x=>dC (x.name=m.fields[q].tag)) (m.fields.take q)
  rw[Zyw]at hlt
  have hlt2:(Yr m m.fields[q].tag q).toNat<m.fields.length:=by unfold Yr at c1⊢;omega
  have hb:=Zup (hm.field _ hlt2) c2
  have hE:=c3.ends_le
  show 0≤(Jp m.fields[q].cases).1∧(Jp m.fields[q].cases).1≤(Jp m.fields[q].cases).2∧(Jp m.fields[q].cases).2<34359738368
  have hE2:(Jp m.fields[q].cases).1≤(Jp m.fields[q].cases).2:=hE
  omega
theorem Ze1{d:Dfn}{a:Nat}{m:Msg}(hm:Zeb d a m):Zfd m:=by
 refine⟨by have:=hm.many;omega,fun g hg hk=>?_⟩
 obtain⟨q,hq,rfl⟩:=ZyC hg
 have hfo:=hm.field q hq
 rw[show m.fields.getD q dE=m.fields[q] by simp[Zyx,hq]]at hfo
 obtain⟨_,_,c3,c4,_⟩:=ZnZ hfo hk
 exact⟨c3,by omega⟩
theorem Zhm:∀{l:List YN} {seen:List Str},Jh seen l=true→∀t∈l,-1048576≤t.factor∧t.factor≤1048576
 | [],_,_,t,ht=>by simp at ht
 |x::r,seen,h,t,ht=>by
  simp only[Jh,JD,J1,Zyk,decide_eq_true_eq]at h
  rcases List.mem_cons.1 ht with rfl|ht
  ·exact h.1.1.2
  ·exact Zhm h.2 t ht
theorem Zdv{m:Msg}{s:Str}{n:Nat}(h:0≤Yr m s n):Yr m s m.fields.length=Yr m s n∧(Yr m s n).toNat<n∧(Yr m s n).toNat<m.fields.length:=by
 unfold Yr at *
 have h2:=QA (fun f:Fld=>dC (f.name=s)) (m.fields.take n)
 rw[Zyw]at h2
 refine⟨?_,by omega,by omega⟩
 rw[ZyA];exact ZkC h
theorem Zr9{d:Dfn}{a i:Nat}{m:Msg}(hm:Zeb d a m)(hi:i<m.fields.length)(hk:(m.fields.getD i dE).kind=7):ZuY m (m.fields.getD i dE).size∧Wm (m.fields.getD i dE).size=true:=by
 have hs:=Zqe (hm.field i hi) hk
 generalize (m.fields.getD i dE).size=s at *
 unfold Zbz at hs
 split at hs;· omega
 rename_i hv
 split at hs;· omega
 rename_i hno
 have hv':Wm s=true:=by simpa using hv
 have hvv:=hv'
 simp only[Wm,J1,Zyk,decide_eq_true_eq]at hvv
 have hfl:∀t∈s.terms,0≤Yr m t.field i∧KV (m.fields.getD (Yr m t.field i).toNat dE)=true:=fun t ht=>by
  have h1:W6 (YH (m.fields.take i)) t=false:=by
   cases h:W6 (YH (m.fields.take i)) t with
   |false=>rfl
   |true=>exact absurd (List.any_eq_true.2 ⟨t,ht,h⟩) hno
  unfold W6 YH at h1
  have e:ZB (fun f=>dC (f.name=t.field)) (m.fields.take i)=Yr m t.field i:=rfl
  rw[e]at h1
  split at h1;· simp at h1
  rename_i h0
  split at h1
  ·rename_i h2
   have hlt:=QA (fun f:Fld=>dC (f.name=t.field)) (m.fields.take i)
   rw[e,Zyw]at hlt
   rw[Zau (by omega)]at h2
   exact⟨by omega,h2⟩
  ·simp at h1
 refine⟨⟨hvv.1.2,hvv.1.1,fun t ht=>?_,fun t ht=>?_⟩,hv'⟩
 ·obtain⟨f1,f2⟩:=hfl t ht
  have:=Zdv f1
  rw[this.1]
  exact⟨f1,f2⟩
 ·obtain⟨f1,f2⟩:=hfl t ht
  have h3:=Zdv f1
  have hb:=Zso hm h3.2.2 f2
  have hen:Q4 (JS m) t=W3 m (m.fields.getD (Yr m t.field i).toNat dE):=by
   unfold Q4 JS
   rw[h3.1,if_neg (by omega),if_pos f2];rfl
  have hvt:=Zhm hvv.2 t ht
  exact⟨by rw[hen];exact hb.2.1,by rw[hen];exact hb.1,by rw[hen];exact hb.2.2,hvt.1,hvt.2⟩
theorem ZxR{d:Dfn}{a:Nat}{m:Msg}(hm:Zeb d a m):Zfl m.fields m.fields.length:=fun i hi=>(ZfD (hm.field i hi)).2.1
theorem Zoo{m:Msg}(hd:Zfl m.fields m.fields.length)(k:Str):∀n,n≤m.fields.length→ZQ k (ZdE m n)=if 0≤Yr m k n∧KV (m.fields.getD (Yr m k n).toNat dE)=true then sO (W3 m (m.fields.getD (Yr m k n).toNat dE)) else YH m.fields k
 |0,_=>by
  have:Yr m k 0=-1:=by simp[Yr,ZB]
  rw[this,if_neg (by simp)]
  have:=Zlm (Zys _) hd k
  rw[ZyA]at this
  exact this
 |n+1,hn=>by
  have ih:=Zoo hd k n (by omega)
  have hdn:=hd n (by omega)
  have hlen:(m.fields.take n).length=n:=by simp;omega
  have hF:Yr m k (n+1)=if 0≤Yr m k n then Yr m k n else if (m.fields.getD n dE).name=k then (n:Int) else -1:=by
   unfold Yr
   rw[WF (show n<m.fields.length by omega),Zgu,hlen]
   simp only[decide_eq_true_eq]
  have hname:∀q:Nat,Yr m k n=q→(m.fields.getD q dE).name=k:=fun q hq=>by
   have hs:=Zef (p:=fun f:Fld=>dC (f.name=k)) (l:=m.fields.take n) (by unfold Yr at hq;omega)
   have hq2:=Zdv (m:=m) (s:=k) (n:=n) (by omega)
   unfold Yr at hq hq2
   rw[hq,Int.toNat_natCast]at hs hq2
   rw[Zau hq2.2.1]at hs
   simpa using hs.1
  simp only[ZdE]
  by_cases hk:(m.fields.getD n dE).name=k
  ·have h0:Yr m k n<0:=by rw[hk]at hdn;exact hdn
   rw[hF,if_neg (show ¬0≤Yr m k n by omega),if_pos hk,Int.toNat_natCast]
   by_cases h2:KV (m.fields.getD n dE)=true
   ·rw[if_pos h2,Zbn,if_pos hk.symm,if_pos ⟨by omega,h2⟩]
   ·rw[if_neg h2,if_neg (fun h=>h2 h.2),ih,if_neg (fun h=>by omega)]
  ·have h0:ZQ k (if KV (m.fields.getD n dE)=true then KI (m.fields.getD n dE).name (W3 m (m.fields.getD n dE)) (ZdE m n) else ZdE m n)=ZQ k (ZdE m n):=by
    split
    ·rw[Zbn,if_neg fun h=>hk h.symm]
    ·rfl
   rw[h0,ih,hF,if_neg hk]
   by_cases hp:0≤Yr m k n
   ·rw[if_pos hp]
   ·rw[if_neg hp,if_neg (fun h=>hp h.1),if_neg (fun h=>by omega)]
theorem Zug{m:Msg}(hd:Zfl m.fields m.fields.length):(fun k=>ZQ k (ZsY m))=JS m:=by
 funext k
 show ZQ k (ZdE m m.fields.length)=_
 rw[Zoo hd k _ (Zys _)]
 unfold JS
 by_cases h:Yr m k m.fields.length<0
 ·rw[if_neg (fun h2=>by omega),if_pos h]
  unfold YH
  have e:Yr m k m.fields.length=ZB (fun f=>dC (f.name=k)) m.fields:=by unfold Yr;rw[ZyA]
  rw[if_pos (by omega)]
 ·rw[if_neg h]
  by_cases h2:KV (m.fields.getD (Yr m k m.fields.length).toNat dE)=true
  ·rw[if_pos ⟨by omega,h2⟩,if_pos h2]
  ·rw[if_neg (fun h3=>h2 h3.2),if_neg h2]
   unfold YH
   have e:Yr m k m.fields.length=ZB (fun f=>dC (f.name=k)) m.fields:=by unfold Yr;rw[ZyA]
   rw[←e,if_neg h,if_neg h2]
theorem Zrp{d:Dfn}{a i:Nat}{m:Msg}(hm:Zeb d a m)(hi:i<m.fields.length)(hk:(m.fields.getD i dE).kind=7):(WU (m.fields.getD i dE).size fun k=>ZQ k (ZsY m)).2.1=Zi0 m (m.fields.getD i dE).size:=by
 rw[Zug (ZxR hm)]
 obtain⟨hs,hv⟩:=Zr9 hm hi hk
 generalize (m.fields.getD i dE).size=s at *
 have hno:∀t∈s.terms,∃r,JS m t.field=sO r∧JP r=false:=fun t ht=>by
  obtain⟨f1,f2⟩:=hs.fld t ht
  have hf:=hs.fine t ht
  have hl:JS m t.field=sO (W3 m (m.fields.getD (Yr m t.field m.fields.length).toNat dE)):=by
   unfold JS;rw[if_neg (by omega),if_pos f2]
  refine⟨_,hl,?_⟩
  have h1:=hf.le;have h2:=hf.lo;have h3:=hf.hi
  unfold Q4 at h1 h2 h3
  rw[hl]at h1 h2 h3
  simp only[ZyL]at h1 h2 h3
  unfold JP
  simp only[Bool.or_eq_false_iff,decide_eq_false_iff_not]
  omega
 have he:Zah s (JS m)=0:=by
  unfold Zah
  rw[if_neg (by rw[hv];simp),if_neg,if_neg]
  ·simp only[List.any_eq_true,not_exists,not_and]
   intro t ht h
   obtain⟨r,h1,_⟩:=hno t ht
   unfold W6 at h;rw[h1]at h;simp at h
  ·simp only[List.any_eq_true,not_exists,not_and]
   intro t ht h
   obtain⟨r,h1,h2⟩:=hno t ht
   unfold Qv at h;rw[h1]at h;simp only[h2]at h;simp at h
 unfold WU
 rw[if_pos he]
 rfl
theorem Zsx{m:Msg}{f:Fld}(hc:f.cases≠[]→f.kind=9){s:Str}(hs:s∈KL m f):s∈YW f:=by
 simp only[KL,List.mem_append,List.mem_map]at hs
 simp only[YW,JM,List.mem_append]
 rcases hs with ⟨c,hc2,rfl⟩|hs
 ·exact .inr (by rw[if_pos (hc (List.ne_nil_of_mem hc2))];exact List.mem_map.2 ⟨c,hc2,rfl⟩)
 ·split at hs
  ·rename_i hg
   simp only[List.mem_singleton]at hs
   subst hs
   refine .inl ?_
   rw[if_pos]
   ·simp
   ·simp only[Q7,Zyu,Zyk,decide_eq_true_eq]at hg⊢
    rcases hg with hg|hg|⟨hg,_⟩<;>simp[hg]
  ·simp at hs
theorem ZdB{α:Type}[Inhabited α]{l:List α}{x:α}(h:x∈l):∃i,i<l.length∧l.getD i dE=x:=by
 obtain⟨i,hi,rfl⟩:=ZyC h
 exact⟨i,hi,by simp[Zyx,hi]⟩
theorem Jd.occ{d:Dfn}(h:Jd d):Zv0 d:={
 many:=h.many
 start:=h.start
 cases m hm:=by
  obtain⟨i,hi,rfl⟩:=ZdB hm
  exact Ze1 (h.msg hi)
 edge m hm f hf s hs:=by
  obtain⟨i,hi,rfl⟩:=ZdB hm
  obtain⟨k,hk,rfl⟩:=ZdB hf
  have hfo:=h.fld hi hk
  exact(hfo.ref s (Zsx hfo.cases hs)).1
 size m hm f hf h7:=by
  obtain⟨i,hi,rfl⟩:=ZdB hm
  obtain⟨k,hk,rfl⟩:=ZdB hf
  exact(Zr9 (h.msg hi) hk h7).1
 few m hm f hf:=by
  obtain⟨i,hi,rfl⟩:=ZdB hm
  obtain⟨k,hk,rfl⟩:=ZdB hf
  have:=h.ncases hi hk
  omega }
theorem ZeL{d:Dfn}(h:KK d=true):Jd d:=by
 unfold KK at h
 rw[Zyk]at h
 exact ZjO h.1
theorem Zur(l:List Fld):(Ze6 l).length=l.length:=by simp[Ze6]
theorem Zoj{l:List Fld}{i:Nat}(h:i<l.length):(Ze6 l).getD i 0=KG l i:=by simp[Ze6,Zyx,h]
theorem atI{L:DL.Loc}(l:List Int)(i:Int):qv L s (.iaddr 1) [.d (Zmh l),.d (.int .i64 i)]=sO (0≤i∧i<l.length,.d (.ep [.int .i64 (l.getD i.toNat 0)] 0)):=rfl
theorem ZvZ{d:Dfn}{a:Nat}{m:Msg}(hm:Zeb d a m){i:Nat}(hi:i<m.fields.length):
  Js m.fields i=(Zcb (m.fields.getD i dE)&&!dC (KG m.fields i=0) ||(dC ((m.fields.getD i dE).kind=11)&&!dC (KG m.fields (Yr m (m.fields.getD i dE).from_ i).toNat=0))) ∧
   ((m.fields.getD i dE).kind=11→0≤Yr m (m.fields.getD i dE).from_ i):=by
 have hk:=(ZfD (hm.field i hi)).1
 generalize hf:m.fields.getD i dE=f at *
 have h11:f.kind=11→0≤Yr m f.from_ i:=fun h=>by
  unfold W7 at hk
  simp only[h,ZyN,if_true,if_false]at hk
  split at hk;· omega
  split at hk;· omega
  omega
 refine⟨?_,h11⟩
 unfold Js
 rw[if_neg (by omega),hf]
 by_cases h:f.kind=11
 ·have h1:=Zdv (h11 h)
  have h2:max (ZB (fun x=>dC (x.name=f.from_)) m.fields) 0=Yr m f.from_ i:=by
   have e:ZB (fun x=>dC (x.name=f.from_)) m.fields=Yr m f.from_ m.fields.length:=by unfold Yr;rw[ZyA]
   rw[e,h1.1]
   have:=h11 h
   omega
  rw[h2]
  simp only[h,decide_true,Bool.not_true,Bool.false_or,Zyy]
  generalize dC (KG m.fields (Yr m f.from_ i).toNat=0)=x
  generalize dC (KG m.fields i=0)=y
  generalize Zcb f=z
  cases x<;>cases y<;>cases z<;>rfl
 ·simp only[h,decide_false,Bool.not_false,Bool.true_or,Bool.not_true,Bool.or_false,ZyH]
  generalize dC (KG m.fields i=0)=y
  generalize Zcb f=z
  cases y<;>cases z<;>rfl
theorem ZqG(d:Dfn)(st:St):ZN Zyg Zw.id [.agg d.cells] st fun r S=>S=st∧∃a f c,r=.ret (.tup [.agg [.int .i64 a,.int .i64 f,.int .i64 c],.bool (!KK d)]):=by
 refine ZM Zw.ok fun F hF=>?_
 have hAl:=KK.eq_1 d
 obtain⟨fa,ff,fc,hfc⟩:∃a f c,Zv1 (Zcz d)=[.int .i64 a,.int .i64 f,.int .i64 c]:=by
  cases Zcz d with
  |none=>exact⟨_,_,_,rfl⟩
  |some x=>exact⟨_,_,_,rfl⟩
 have hvs:ZcK d=!(Zcz d).isSome:=by unfold ZcK;cases Zcz d<;>rfl
 refine rx @eQ3 ?_
 refine rx @eQ3 ?_
 refine YF rfl rfl rfl rfl rfl (by trivial) (by trivial) (by exact Zqz d) (Za ?_)
 simp only[Eqs,reduceIte,Zye,ZyB,Zyq,Zv2,hfc]
 refine rg ?_
 refine cd (fun h=>?_) (fun h=>?_)
 ·have hA:KK d=false:=by rw[hAl,hvs,h];rfl
  refine rg ?_
  exact hF.ret _ st rfl (by simp) (Zyj _) (Zyi _) ⟨rfl,_,_,_,by rw[hA];rfl⟩
 ·have hv:ZcK d=true:=by rw[hvs,h];rfl
  have hV:=ZjO hv
  have hmany:=hV.many
  rw[hv,Zyy]at hAl
  refine rg ?_
  refine Zh (fr (d.msgs.length) (fun k Q=>k≤d.msgs.length→(∀q,q<k→ZbQ (d.msgs.getD q dE)=true)→Q [(1,.loc 1 0),(2,.loc 2 0),(6,.d (.int .i64 k))] [(1,[.str d.name,Ka d.msgs,.str d.start]),(2,[.int .i64 0,.int .i64 0,.int .i64 0])] st) (fun n ih_key=>?_) fun key=>?_)
  ·intro k hn hk hall
   refine rx @Zcn ?_
   refine cd (fun h1=>?_) (fun h1=>?_)
   ·have h1':k<d.msgs.length:=by simp at h1;omega
    have hmo:=hV.msg h1'
    have hmf:=hmo.many
    have hmem:d.msgs.getD k dE∈d.msgs:=W4 h1'
    have hnx:∀f∈(d.msgs.getD k dE).fields,ZgO f:=fun f hf=>by
     obtain⟨i,hi,rfl⟩:=ZdB hf
     exact Zun (hmo.field i hi)
    have hbad:ZbQ (d.msgs.getD k dE)=false→KK d=false:=fun h=>by
     rw[hAl,List.all_eq_false]
     exact⟨_,hmem,by rw[h];simp⟩
    generalize hm:d.msgs.getD k dE=m at *
    refine rx (nd2 @atM (nd2 @hm @eQ2)) ?_
    refine aa ?_
    refine rx @eQ2 ?_
    refine YF rfl rfl rfl rfl rfl (by trivial) (by trivial) (by exact Zns (m:=m) (by omega) hnx) (Za ?_)
    simp only[Eqs,reduceIte,Zye]
    refine rg ?_
    refine Zh (fr (m.fields.length) (fun i Q=>i≤m.fields.length→(∀q,q<i→Js m.fields q=false)→Q [(1,.loc 1 0),(2,.loc 2 0),(6,.d (.int .i64 k)),(7,.loc 7 0),(8,.d (Zmh (Ze6 m.fields))),(9,.d (.int .i64 (KG m.fields m.fields.length))),(10,.d (.int .i64 i))] [(1,[.str d.name,Ka d.msgs,.str d.start]),(2,[.int .i64 0,.int .i64 0,.int .i64 0]),(7,[.str m.name,Z0 m.fields])] st) (fun n ih_key2=>?_) fun key2=>?_)
    ·intro i hn2 hi hno
     refine rx @ZeT ?_
     refine cd (fun h2=>?_) (fun h2=>?_)
     ·have h2':i<m.fields.length:=by simp at h2;omega
      obtain⟨hw,hfr⟩:=ZvZ hmo h2'
      have hlo:=Zur m.fields
      have hgo:=Zoj h2'
      generalize hf:m.fields.getD i dE=f at *
      have fin:∀w:Bool,Js m.fields i=w→ZS F [.code (qR Zw.r15 [1,2,6,7,8,9,10,79]),.code (qC 79 (.seq (qR Zw.r16 [2,3]) .ret) .skip),.inBlock 3,.code (qR Zw.r11 [1,2,6,7,8,9,10]),.inLoop Zw.l1,.inBlock 2,.code (.seq (qR Zw.r17 [1,2,6,84]) (qC 84 (.seq (qR Zw.r18 [2,3]) .ret) .skip)),.inBlock 1,.code (qR Zw.r6 [1,2,6]),.inLoop Zw.l0,.inBlock 0,.code (.seq (qR Zw.r19 [2,3]) .ret)] [(1,.loc 1 0),(2,.loc 2 0),(6,.d (.int .i64 k)),(7,.loc 7 0),(8,.d (Zmh (Ze6 m.fields))),(9,.d (.int .i64 (KG m.fields m.fields.length))),(10,.d (.int .i64 i)),(11,.d (.bool w))] [(1,[.str d.name,Ka d.msgs,.str d.start]),(2,[.int .i64 0,.int .i64 0,.int .i64 0]),(7,[.str m.name,Z0 m.fields])] st:=by
       intro w hwr
       refine rg ?_
       refine cd (fun h5=>?_) (fun h5=>?_)
       ·have hA:=hbad (ZgE (i:=i) (by omega) (by rw[hwr];exact h5))
        refine rg ?_
        exact hF.ret _ st rfl (by simp) (Zyj _) (Zyi _) ⟨rfl,_,_,_,by rw[hA];rfl⟩
       ·refine rg ?_
        refine aa ?_
        refine Zf ?_
        exact ih_key2 ((m.fields.length)-(i+1)) (by omega) (i+1) rfl (by omega) (Ke (q:=fun q=>Js m.fields q=false) hno (by rw[hwr];exact h5))
      have mid:∀w1:Bool,w1=(Zcb f&&!dC (KG m.fields i=0))→ZS F [.code (qR Zw.r13 [1,2,6,7,8,9,10,11,62]),.code (qC 62 (.regD [0,1,2,3,4,5,6,7,8,9,10,11,12,13,14,15,16] (Jo Zw.r14) (sO [1,2,6,7,8,9,10,11])) .skip),.code (.seq (qR Zw.r15 [1,2,6,7,8,9,10,79]) (qC 79 (.seq (qR Zw.r16 [2,3]) .ret) .skip)),.inBlock 3,.code (qR Zw.r11 [1,2,6,7,8,9,10]),.inLoop Zw.l1,.inBlock 2,.code (.seq (qR Zw.r17 [1,2,6,84]) (qC 84 (.seq (qR Zw.r18 [2,3]) .ret) .skip)),.inBlock 1,.code (qR Zw.r6 [1,2,6]),.inLoop Zw.l0,.inBlock 0,.code (.seq (qR Zw.r19 [2,3]) .ret)] [(1,.loc 1 0),(2,.loc 2 0),(6,.d (.int .i64 k)),(7,.loc 7 0),(8,.d (Zmh (Ze6 m.fields))),(9,.d (.int .i64 (KG m.fields m.fields.length))),(10,.d (.int .i64 i)),(11,.d (.bool w1))] [(1,[.str d.name,Ka d.msgs,.str d.start]),(2,[.int .i64 0,.int .i64 0,.int .i64 0]),(7,[.str m.name,Z0 m.fields])] st:=by
       intro w1 hw1
       rw[←hw1]at hw
       refine rx (nd2 @atF (nd2 @hf @eQ0)) ?_
       refine aa ?_
       by_cases h11:f.kind=11
       ·have hfr:=hfr h11
        have hft:=Zdv hfr
        obtain⟨p,hp⟩:∃p:Nat,Yr m f.from_ i=p:=⟨(Yr m f.from_ i).toNat,by omega⟩
        rw[hp,Int.toNat_natCast,h11]at hw
        rw[hp]at hft
        have hgp:=Zoj (l:=m.fields) (i:=p) (by omega)
        refine YC rfl trivial (fun _=>?_) (fun h=>by simp[h11]at h)
        refine rx (nd2 @atF (nd2 @hf (nd2 @eQ0 @Znt))) ?_
        refine aa ?_
        refine Zkw rfl rfl rfl rfl rfl (fun hcg=>⟨by first|trivial|(simpa[Qa]using hcg),trivial,Zbc m f.from_ i (by omega)⟩) (Ql ?_)
        simp only[Eqs,reduceIte,Zye,hp,atI,hlo,hgp]
        refine aa ?_
        refine Zi ?_
        exact fin _ (by rw[hw];rfl)
       ·rw[decide_eq_false h11,ZyH,Bool.or_false]at hw
        refine YC rfl trivial (fun h=>by simp at h;exact absurd h h11) (fun _=>?_)
        refine Yw (Zi (JH [1,2,6,7,8,9,10,11] ?_))
        simp only[Eqs,reduceIte,Zye]
        exact fin w1 hw
      refine rx (nd2 @atF (nd2 @hf (nd2 @Znj @ZnG))) ?_
      refine aa ?_
      refine YF rfl rfl rfl rfl rfl (by trivial) (by trivial) (by exact ZqH f) (Za ?_)
      simp only[Eqs,reduceIte,Zye,atI,hlo,hgo]
      refine aa ?_
      refine Zi (Zi ?_)
      exact mid _ rfl
     ·have h2':i=m.fields.length:=by simp at h2;omega
      subst h2'
      have hwe:Js m.fields m.fields.length=!dC (KG m.fields m.fields.length=0):=by unfold Js;rw[if_pos rfl]
      refine rg ?_
      refine cd (fun h6=>?_) (fun h6=>?_)
      ·have hA:=hbad (ZgE (Nat.lt_succ_self _) (by rw[hwe];exact h6))
       refine rg ?_
       exact hF.ret _ st rfl (by simp) (Zyj _) (Zyi _) ⟨rfl,_,_,_,by rw[hA];rfl⟩
      ·have hmal:ZbQ m=true:=Zmq fun q hq=>by
        by_cases hqn:q=m.fields.length
        ·subst hqn;rw[hwe];exact h6
        ·exact hno q (by omega)
       refine rg ?_
       refine aa ?_
       refine Zf ?_
       exact ih_key ((d.msgs.length)-(k+1)) (by omega) (k+1) rfl (by omega) (Ke (q:=fun q=>ZbQ (d.msgs.getD q dE)=true) hall (by rw[hm];exact hmal))
    exact key2 _ 0 rfl (by omega) (by intro q hq;omega)
   ·have h1':k=d.msgs.length:=by simp at h1;omega
    subst h1'
    have hA:KK d=true:=by
     rw[hAl,List.all_eq_true]
     intro x hx
     obtain⟨q,hq,rfl⟩:=ZdB hx
     exact hall q hq
    refine rg ?_
    exact hF.ret _ st rfl (by simp) (Zyj _) (Zyi _) ⟨rfl,_,_,_,by rw[hA];rfl⟩
  exact key _ 0 rfl (by omega) (by intro q hq;omega)
theorem Znr(d:Dfn):ZA Zyg KE.id [.agg d.cells] (.bool (KK d)):=by
 refine ZP KE.ok fun F st hret=>?_
 refine rx @eQ3 ?_
 refine rg ?_
 rw[show(D.agg [.str d.name,Ka d.msgs,.str d.start])=.agg d.cells from rfl]
 refine Ye rfl rfl rfl rfl rfl (by trivial) (by trivial) (by exact ZqG d st) ?_ ?_
 ·rintro dd S ⟨rfl,a,f,c,h⟩
  cases h
  refine Za ?_
  simp only[Eqs,reduceIte,Zye,ZyB,Zyq]
  refine rg ?_
  exact hret rfl (by trivial) (by cases KK d<;>exact Zyj _) (Zyi _)
 ·rintro dd S ⟨_,a,f,c,h⟩
  cases h
abbrev Kw(E:List (Str×Bool)):List Str:=E.map (·.1)
abbrev Znn(s:Str):D:=.sl .full 1 1 (Wd [.str []] ([0].zip [.str s]))
def ZmP(d:Dfn)(s:Str):List Str:=(d.msgs.getD (ixS d s) dE).fields.flatMap (KL (d.msgs.getD (ixS d s) dE))
def ZeZ(d:Dfn)(E:List (Str×Bool)):Prop:=∀e∈E,e.2=true∧0≤Z5 d e.1 d.msgs.length∧Rch d (ixS d e.1)
structure GrE(d:Dfn)(E E':List (Str×Bool)):Prop where
 sub:∀t∈Kw E,t∈Kw E'
 closed:∀t∈Kw E',t∉Kw E→∀u∈ZmP d t,u∈Kw E'
 good:ZeZ d E'
theorem GrE.refl{d:Dfn}{E:List (Str×Bool)}(h:ZeZ d E):GrE d E E:=⟨fun _ h=>h,fun t h h2=>absurd h h2,h⟩
theorem GrE.trans{d:Dfn}{E E1 E2:List (Str×Bool)}(h:GrE d E E1)(h':GrE d E1 E2):GrE d E E2:={
 sub t ht:=h'.sub t (h.sub t ht)
 closed t ht hn u hu:=by
  by_cases h1:t∈Kw E1
  ·exact h'.sub u (h.closed t h1 hn u hu)
  ·exact h'.closed t ht h1 u hu
 good:=h'.good }
theorem Zin{s:Str}:∀{E:List (Str×Bool)},ZQ s E=nO→s∉Kw E
 | [],_=>by simp
 |e::r,h=>by
  simp only[ZQ]at h
  split at h
  ·simp at h
  ·rename_i he
   simp only[Kw,Zyp,ZyP,not_or]
   exact⟨he,Zin h⟩
theorem Zlf{s:Str}{E:List (Str×Bool)}(t:Str):t∈Kw (KI s true E)↔t=s∨t∈Kw E:=by
 induction E with
 |nil=>simp[KI,Kw]
 |cons e r ih =>
  simp only[KI]
  split
  ·rename_i he
   subst he
   simp only[Kw,Zyp,ZyP]
   constructor
   ·rintro(h|h)
    ·exact .inl h
    ·exact .inr (.inr h)
   ·rintro(h|h|h)
    ·exact .inl h
    ·exact .inl h
    ·exact .inr h
  ·simp only[Kw,Zyp,ZyP]at ih⊢
   rw[ih]
   constructor
   ·rintro(h|h|h)
    ·exact .inr (.inl h)
    ·exact .inl h
    ·exact .inr (.inr h)
   ·rintro(h|h|h)
    ·exact .inr (.inl h)
    ·exact .inl h
    ·exact .inr (.inr h)
theorem ZeZ.set{d:Dfn}{E:List (Str×Bool)}{s:Str}(h:ZeZ d E)(hs:0≤Z5 d s d.msgs.length)(hr:Rch d (ixS d s)):ZeZ d (KI s true E):=fun e he=>by
 rcases ZwI he with rfl|he
 ·exact⟨rfl,hs,hr⟩
 ·exact h e he
theorem GrE.visit{d:Dfn}{E E':List (Str×Bool)}{s:Str}(h:GrE d (KI s true E) E')(hs:∀u∈ZmP d s,u∈Kw E'):GrE d E E'∧s∈Kw E':=by
 refine⟨⟨fun t ht=>h.sub t ((Zlf t).2 (.inr ht)),fun t ht hn u hu=>?_,h.good⟩,h.sub s ((Zlf s).2 (.inl rfl))⟩
 by_cases hts:t=s
 ·subst hts;exact hs u hu
 ·exact h.closed t ht (fun hm=>by rcases(Zlf t).1 hm with h1|h1;exact hts h1;exact hn h1) u hu
structure ZlJ(st:St)(zo zd zv b:Nat)(d:Dfn)(E:List (Str×Bool)):Prop where
 o:st zo=some (.cells [.map b])
 d:st zd=some (.cells [.str d.name,Ka d.msgs,.str d.start])
 v:st zv=some (.cells [.fn (.func Zb.id) [] [.ptr zo 0,.ptr zd 0,.ptr zv 0]])
 b:st b=some (.map (Jz E))
theorem ZlJ.upd{st:St}{zo zd zv b:Nat}{d:Dfn}{E:List (Str×Bool)}(h:ZlJ st zo zd zv b d E)(E':List (Str×Bool)):ZlJ (st.upd b (.map (Jz E'))) zo zd zv b d E':={
 o:=by rw[Zyn _ _ (fun e=>by have h1:=h.o;rw[e,h.b]at h1;simp at h1)];exact h.o
 d:=by rw[Zyn _ _ (fun e=>by have h1:=h.d;rw[e,h.b]at h1;simp at h1)];exact h.d
 v:=by rw[Zyn _ _ (fun e=>by have h1:=h.v;rw[e,h.b]at h1;simp at h1)];exact h.v
 b:=Zyo _ _ _ }
theorem Zx0{L:DL.Loc}(l:List Fld):qv L s .lenL [.d (Z0 l)]=sO (True,.d (.int .i64 l.length)):=rfl
theorem ZmQ{d:Dfn}(hv:Jd d):∀(n:Nat) (s:Str),ixS d s<n→0≤Z5 d s d.msgs.length→Rch d (ixS d s)→∀(st:St) (zo zd zv b:Nat) (E:List (Str×Bool)),ZlJ st zo zd zv b d E→ZeZ d E →
  ZN Zyg Zb.id [Znn s,.ptr zo 0,.ptr zd 0,.ptr zv 0] st fun r S=>∃E',r=.ret (.tup [])∧S=st.upd b (.map (Jz E'))∧GrE d E E'∧s∈Kw E':=by
 intro n
 induction n with
 |zero=>intro s h;omega
 |succ n ih =>
 intro s hsn hs hr st zo zd zv b E hst hE
 refine ZM Zb.ok fun F hF=>?_
 have hrow:Wd [.str []] ([0].zip [.str s]) 0=[.str s]:=rfl
 have e1:=QG (vD:=D.bool) Wa s E
 have e2:=Zdf (vD:=D.bool) Wa s true E
 have e3:=Jl Wa s
 simp only[show Zar s=D.str s from rfl]at e1 e2 e3
 have ho:=hst.o
 have hd:=hst.d
 have hvv:=hst.v
 have hb:=hst.b
 have hix:=Zg3 hs
 have hF0:ZB (fun x=>dC (x.name=s)) d.msgs=ixS d s:=by
  have:=hix.1
  unfold Z5 at this
  rwa [ZyA]at this
 have hmx:max (ZB (fun x=>dC (x.name=s)) d.msgs) 0=(ixS d s:Int):=by rw[hF0];omega
 have hdown:=Zgp.of hv (ixS d s) hix.2
 have hstep:=fun j hj=>Rch.step (j:=j) hr hix.2 hj
 have hmo:=hv.msg hix.2
 have hfo:=fun(k:Nat) hk=>hv.fld (j:=ixS d s) (i:=k) hix.2 hk
 have hnc:=fun(k:Nat) hk=>hv.ncases (j:=ixS d s) (i:=k) hix.2 hk
 have hsu:=ZmP.eq_1 d s
 have hEx:∀f∈(d.msgs.getD (ixS d s) dE).fields,∀u∈KL (d.msgs.getD (ixS d s) dE) f,0≤Z5 d u d.msgs.length∧ixS d u<ixS d s∧Rch d (ixS d u):=fun f hf u hu=>by
  have hm:=ZpR hf hu
  have hmm:d.msgs.getD (ixS d s) dE∈d.msgs:=W4 hix.2
  exact⟨hv.occ.edge _ hmm f hf u hu,hdown _ hm,hstep _ hm⟩
 generalize hm:d.msgs.getD (ixS d s) dE=m at *
 have hmf:=hmo.many
 have hcs:=Ze1 hmo
 clear hdown hstep
 refine rg ?_
 refine Zh (ZaG ?_)
 refine rg ?_
 refine i1 ?_
 refine rx @hrow ?_
 refine aa ?_
 cases hg:ZQ s E with
 |some v =>
  obtain rfl:v=true:=(hE _ (ZhM hg)).1
  have hkey:s∈Kw E:=List.mem_map.2 ⟨_,ZhM hg,rfl⟩
  rw[hg]at e1
  refine rx (nd2 @ho (nd2 @hb (nd2 @e1 @e3))) ?_
  refine i1 ?_
  refine rg ?_
  refine aa ?_
  refine Zf ?_
  refine rg ?_
  refine i0 ?_
  refine Wr rfl ?_
  exact hF.fin (.tup []) _ rfl trivial (Zyj _) (Zyi _) ⟨E,rfl,(St.upd_self hb).symm,GrE.refl hE,hkey⟩
 |none =>
  rw[hg]at e1
  refine rx (nd2 @ho (nd2 @hb (nd2 @e1 @e3))) ?_
  refine i0 ?_
  refine rx (nd2 @ho (nd2 @hb (nd2 @e2 (nd2 @e3 (nd2 @Zyo (nd2 @Zyz (nd2 @KZ @K0))))))) ?_
  obtain⟨E1,hE1⟩:∃E1,E1=KI s true E:=⟨_,rfl⟩
  have hG1:ZeZ d E1:=by rw[hE1];exact hE.set hs hr
  rw[←hE1]
  have hst1:=hst.upd E1
  refine rx @hst1.d ?_
  refine YF rfl rfl rfl rfl rfl (by trivial) (by trivial) (by exact Znx d s) (Za ?_)
  simp only[Eqs,reduceIte,Zye,hmx]
  have hvis:∀(E3:List (Str×Bool)) (u:Str),GrE d E1 E3→(0≤Z5 d u d.msgs.length∧ixS d u<ixS d s∧Rch d (ixS d u)) →
    Jc Zyg (.fn (.func Zb.id) [] [.ptr zo 0,.ptr zd 0,.ptr zv 0]) [Znn u] (st.upd b (.map (Jz E3))) fun r S=>∃E',r=.ret (.tup [])∧S=st.upd b (.map (Jz E'))∧GrE d E1 E'∧(∀t∈Kw E3,t∈Kw E')∧u∈Kw E':=fun E3 u hg3 hu =>
   ZN.V (first:=[]) (args:=[_]) (caps:=[_,_,_]) (ZN.mono (ih u (by omega) hu.1 hu.2.2 _ zo zd zv b E3 (hst.upd E3) hg3.good) fun r S hq=>by
    obtain⟨E',rfl,rfl,q1,q2⟩:=hq
    exact⟨E',rfl,Zyz _ _ _ _,hg3.trans q1,q1.sub,q2⟩)
  refine rx (nd2 @hst1.d (nd2 @atM (nd2 @hm @eQ2))) ?_
  refine aa ?_
  refine rx @Zx0 ?_
  refine Zh (fr (m.fields.length) (fun k Q=>k≤m.fields.length→∀E2,GrE d E1 E2→(∀u∈(m.fields.take k).flatMap (KL m),u∈Kw E2)→Q [(1,.d (.ptr zo 0)),(2,.d (.ptr zd 0)),(3,.d (.ptr zv 0)),(9,.loc 9 0),(14,.d (Znn s)),(15,.d (.int .i64 ((1:Nat):Int))),(16,.d (.int .i64 0)),(37,.d (Z0 m.fields)),(38,.d (.int .i64 m.fields.length)),(39,.d (.int .i64 k))] [(9,m.cells)] (st.upd b (.map (Jz E2)))) (fun n ih_key=>?_) fun key=>?_)
  ·intro k hn hk E2 hg2 hin2
   have hst2:=hst.upd E2
   refine rg ?_
   refine Zi (YC rfl trivial (fun h1=>?_) (fun h1=>?_))
   ·simp at h1
    have hfm:m.fields.getD k dE∈m.fields:=W4 h1
    have hEf:=hEx _ hfm
    have hfok:=hfo k h1
    have hncf:=hnc k h1
    have hsome:=fun h7=>Zrp hmo h1 h7
    have htk:(m.fields.take (k+1)).flatMap (KL m)=(m.fields.take k).flatMap (KL m)++KL m (m.fields.getD k dE):=by rw[WF h1,List.flatMap_append];simp
    have hadd:∀E3,(∀t∈Kw E2,t∈Kw E3)→(∀u∈KL m (m.fields.getD k dE),u∈Kw E3)→∀u∈(m.fields.take (k+1)).flatMap (KL m),u∈Kw E3:=fun E3 q1 q2 u hu=>by
     rw[htk,List.mem_append]at hu
     rcases hu with hu|hu
     ·exact q1 u (hin2 u hu)
     ·exact q2 u hu
    generalize hf:m.fields.getD k dE=f at *
    have hED:=KL.eq_1 m f
    have hGO:=Q7.eq_1 m f
    have hone:Q7 m f=true→f.of∈KL m f:=fun h=>by rw[hED,if_pos h];simp
    have hnoc:f.kind≠9→f.cases=[]:=fun h=>by
     by_cases hc:f.cases=[]
     ·exact hc
     ·exact absurd (hfok.cases hc) h
    have hall:f.kind≠9→Q7 m f=true→∀E3,f.of∈Kw E3→∀u∈KL m f,u∈Kw E3:=fun h h2 E3 h3 u hu=>by
     rw[hED,hnoc h,if_pos h2]at hu
     simp only[ZyF,List.nil_append,List.mem_singleton]at hu
     rw[hu];exact h3
    have hnon:f.kind≠9→Q7 m f=false→∀E3,∀u∈KL m f,u∈Kw E3:=fun h h2 E3 u hu=>by
     rw[hED,hnoc h,h2]at hu
     simp at hu
    refine rx (nd2 @eQ4 (nd2 @eQ1 (nd2 @hf @eQ0))) ?_
    refine aa ?_
    refine rx @eQ0 ?_
    have fin:∀E3,GrE d E1 E3→(∀u∈(m.fields.take (k+1)).flatMap (KL m),u∈Kw E3)→ZS F [.code (qR Zb.r23 [1,2,3,9,14,15,16,37,38,39]),.inLoop Zb.l1,.inBlock 2,.inBlock 1,.code (qR Zb.r24 [1,2,3,14,15,16]),.inLoop Zb.l0,.inBlock 0] [(1,.d (.ptr zo 0)),(2,.d (.ptr zd 0)),(3,.d (.ptr zv 0)),(9,.loc 9 0),(14,.d (Znn s)),(15,.d (.int .i64 ((1:Nat):Int))),(16,.d (.int .i64 0)),(37,.d (Z0 m.fields)),(38,.d (.int .i64 m.fields.length)),(39,.d (.int .i64 k))] [(9,m.cells)] (st.upd b (.map (Jz E3))):=by
     intro E3 hg3 hin3
     refine rg ?_
     refine aa ?_
     refine Zf ?_
     exact ih_key ((m.fields.length)-(k+1)) (by omega) (k+1) rfl (by omega) E3 hg3 hin3
    refine rg ?_
    refine cd (fun h7=>?_) (fun h7=>?_)
    ·have k7:f.kind=7:=by simpa using h7
     have hsm:=hsome k7
     refine rx (nd2 @eQ2 @eQ0) ?_
     refine JN rfl rfl rfl rfl rfl (by trivial) (by trivial) (by exact ZnJ hcs f.size _) (Za ?_)
     simp only[Eqs,reduceIte,Zye,hsm]
     refine cd (fun h8=>?_) (fun h8=>?_)
     ·have hgo:Q7 m f=true:=by rw[hGO];simp only[k7,decide_true,Zyy];rw[h8];simp
      refine rx (nd2 @hst2.v @eQ0) ?_
      refine Jw rfl rfl rfl rfl rfl (by trivial) (by trivial) (by exact hvis E2 f.of hg2 (hEf _ (hone hgo))) ?_ ?_
      ·rintro dv S ⟨E3,hr3,rfl,q1,q2,q3⟩
       cases hr3
       refine Za ?_
       simp only[Eqs,reduceIte,Zye]
       refine ZW (ZW ?_)
       exact fin E3 q1 (hadd E3 q2 (hall (by omega) hgo E3 q3))
      ·rintro dv S ⟨E3,hr3,_⟩
       cases hr3
     ·have hgo:Q7 m f=false:=by rw[hGO];simp only[k7,decide_true,Zyy];rw[h8];simp
      refine Yw (ZW (ZW (JH [1,2,3,9,14,15,16,37,38,39] ?_)))
      simp only[Eqs,reduceIte,Zye]
      exact fin E2 hg2 (hadd E2 (fun _ h=>h) (hnon (by omega) hgo E2))
    ·have k7:f.kind≠7:=by simpa using h7
     by_cases h8:f.kind=8
     ·have e8:=decide_eq_true h8
      have hgo:Q7 m f=true:=by rw[hGO,e8];rfl
      refine rx @e8 ?_
      refine i1 ?_
      refine i1 ?_
      refine rx (nd2 @hst2.v @eQ0) ?_
      refine Jw rfl rfl rfl rfl rfl (by trivial) (by trivial) (by exact hvis E2 f.of hg2 (hEf _ (hone hgo))) ?_ ?_
      ·rintro dv S ⟨E3,hr3,rfl,q1,q2,q3⟩
       cases hr3
       refine Za ?_
       simp only[Eqs,reduceIte,Zye]
       refine ZW (ZW ?_)
       exact fin E3 q1 (hadd E3 q2 (hall (by omega) hgo E3 q3))
      ·rintro dv S ⟨E3,hr3,_⟩
       cases hr3
     ·have e8:=decide_eq_false h8
      refine rx @e8 ?_
      refine i0 ?_
      by_cases h12:f.kind=12
      ·have e12:=decide_eq_true h12
       have hgo:Q7 m f=true:=by rw[hGO,e8,e12];rfl
       refine rx @e12 ?_
       refine i1 ?_
       refine rx (nd2 @hst2.v @eQ0) ?_
       refine Jw rfl rfl rfl rfl rfl (by trivial) (by trivial) (by exact hvis E2 f.of hg2 (hEf _ (hone hgo))) ?_ ?_
       ·rintro dv S ⟨E3,hr3,rfl,q1,q2,q3⟩
        cases hr3
        refine Za ?_
        simp only[Eqs,reduceIte,Zye]
        refine ZW (ZW ?_)
        exact fin E3 q1 (hadd E3 q2 (hall (by omega) hgo E3 q3))
       ·rintro dv S ⟨E3,hr3,_⟩
        cases hr3
      ·have e12:=decide_eq_false h12
       refine rx @e12 ?_
       refine i0 ?_
       have hgo:Q7 m f=false:=by rw[hGO,e8,e12,decide_eq_false k7];rfl
       by_cases h9:f.kind=9
       ·have e9:=decide_eq_true h9
        refine rx @e9 ?_
        refine i1 ?_
        refine rx (nd2 @eQ0 @Zhx) ?_
        refine Zh (fr (f.cases.length) (fun q Q=>q≤f.cases.length→∀E3,GrE d E1 E3→(∀t∈Kw E2,t∈Kw E3)→(∀c∈f.cases.take q,c.of∈Kw E3)→Q [(1,.d (.ptr zo 0)),(2,.d (.ptr zd 0)),(3,.d (.ptr zv 0)),(9,.loc 9 0),(14,.d (Znn s)),(15,.d (.int .i64 ((1:Nat):Int))),(16,.d (.int .i64 0)),(37,.d (Z0 m.fields)),(38,.d (.int .i64 m.fields.length)),(39,.d (.int .i64 k)),(67,.d (K3 f.cases)),(68,.d (.int .i64 f.cases.length)),(69,.d (.int .i64 q))] [(9,m.cells)] (st.upd b (.map (Jz E3)))) (fun n ih_key2=>?_) fun key2=>?_)
        ·intro q hn2 hq E3 hg3 hs3 hin3
         have hst3:=hst.upd E3
         refine rg ?_
         refine Zi (YC rfl trivial (fun hh=>?_) (fun hh=>?_))
         ·simp at hh
          have hcm:f.cases.getD q dE∈f.cases:=W4 hh
          have hoe:(f.cases.getD q dE).of∈KL m f:=by rw[hED];exact List.mem_append_left _ (List.mem_map.2 ⟨_,hcm,rfl⟩)
          have htq:f.cases.take (q+1)=f.cases.take q++[f.cases.getD q dE]:=WF hh
          generalize hcq:f.cases.getD q dE=cs at *
          refine rx (nd2 @Zm7 (nd2 @hcq @eQ9)) ?_
          refine aa ?_
          refine rx (nd2 @hst3.v @eQ9) ?_
          refine Jw rfl rfl rfl rfl rfl (by trivial) (by trivial) (by exact hvis E3 cs.of hg3 (hEf _ hoe)) ?_ ?_
          ·rintro dv S ⟨E4,hr4,rfl,q1,q2,q3⟩
           cases hr4
           refine Za ?_
           simp only[Eqs,reduceIte,Zye]
           have hin4:∀c∈f.cases.take (q+1),c.of∈Kw E4:=fun c hc=>by
            rw[htq,List.mem_append,List.mem_singleton]at hc
            rcases hc with hc|rfl
            ·exact q2 _ (hin3 c hc)
            ·exact q3
           refine rg ?_
           refine aa ?_
           refine Zf ?_
           exact ih_key2 ((f.cases.length)-(q+1)) (by omega) (q+1) rfl (by omega) E4 q1 (fun t ht=>q2 t (hs3 t ht)) hin4
          ·rintro dv S ⟨E4,hr4,_⟩
           cases hr4
         ·simp at hh
          obtain rfl:q=f.cases.length:=by omega
          rw[ZyA]at hin3
          refine Wr rfl (ZW (ZW (JH [1,2,3,9,14,15,16,37,38,39] ?_)))
          simp only[Eqs,reduceIte,Zye]
          exact fin E3 hg3 (hadd E3 hs3 (fun u hu=>by
           rw[hED,hgo]at hu
           simp only[Zyt,if_false,ZyR,List.mem_map]at hu
           obtain⟨c,hc,rfl⟩:=hu
           exact hin3 c hc))
        exact key2 _ 0 rfl (by omega) E2 hg2 (fun _ h=>h) (by simp)
       ·have e9:=decide_eq_false h9
        refine rx @e9 ?_
        refine i0 ?_
        refine Yw (ZW (ZW (JH [1,2,3,9,14,15,16,37,38,39] ?_)))
        simp only[Eqs,reduceIte,Zye]
        exact fin E2 hg2 (hadd E2 (fun _ h=>h) (hnon h9 hgo E2))
   ·simp at h1
    obtain rfl:k=m.fields.length:=by omega
    rw[ZyA,←hsu]at hin2
    have hfin:=(hE1▸hg2:GrE d (KI s true E) E2).visit hin2
    refine rg ?_
    refine aa ?_
    refine Zf ?_
    refine rg ?_
    refine i0 ?_
    refine Wr rfl ?_
    exact hF.fin (.tup []) _ rfl trivial (Zyj _) (Zyi _) ⟨E2,rfl,rfl,hfin.1,hfin.2⟩
  exact key _ 0 rfl (by omega) E1 (GrE.refl hG1) (by simp)
structure Zxf(d:Dfn)(E:List (Str×Bool)):Prop where
 good:ZeZ d E
 start:d.start∈Kw E
 closed:∀t∈Kw E,∀u∈ZmP d t,u∈Kw E
theorem Ziy{d:Dfn}(hv:Jd d)(st:St):ZN Zyg Yu.id [.agg d.cells] st fun r S=>∃b E,st b=nO∧Zxf d E∧r=.ret (.map b)∧S=st.upd b (.map (Jz E)):=by
 refine ZM Yu.ok fun F hF=>?_
 refine rx @eQ3 ?_
 refine rg ?_
 intro b hb
 refine rg ?_
 refine Zi ?_
 refine Z1 3 rfl fun zo h3=>?_
 simp only[reduceIte,Zye,Yd,Yz,delL]
 refine Z1 1 rfl fun zd h1=>?_
 simp only[reduceIte,Zye,Yd,Yz,delL]
 refine Z1 4 rfl fun zv h4=>?_
 simp only[reduceIte,Yd,Yz,delL]
 have k3:=Ya h3
 have k1:=Ya h1
 have k1a:=Ya k1.2
 have k4:=Ya h4
 have k4a:=Ya k4.2
 have k4b:=Ya k4a.2
 obtain⟨A,hA⟩:∃A,A=(((st.upd b (.map [])).upd zo (.cells [.map b])).upd zd (.cells [.str d.name,Ka d.msgs,.str d.start])).upd zv (.cells [.fn (.func Zb.id) [] [.ptr zo 0,.ptr zd 0,.ptr zv 0]]):=⟨_,rfl⟩
 have hVis:ZlJ A zo zd zv b d []:=by
  subst hA
  refine⟨?_,?_,?_,?_⟩
  ·rw[Zyn _ _ (Ne.symm k4a.1),Zyn _ _ (Ne.symm k1.1)];exact Zyo _ _ _
  ·rw[Zyn _ _ (Ne.symm k4.1)];exact Zyo _ _ _
  ·exact Zyo _ _ _
  ·rw[Zyn _ _ (Ne.symm k4b.1),Zyn _ _ (Ne.symm k1a.1),Zyn _ _ (Ne.symm k3.1)];exact Zyo _ _ _
 have hsub:∀x,(st.upd b x).sub (A.upd b x):=fun x c o hc=>by
  by_cases hcb:c=b
  ·subst hcb;rw[Zyo]at hc⊢;exact hc
  ·rw[Zyn _ _ hcb]at hc⊢
   have n3:c≠zo:=fun e=>by rw[e,k3.2]at hc;simp at hc
   have n1:c≠zd:=fun e=>by rw[e,k1a.2]at hc;simp at hc
   have n4:c≠zv:=fun e=>by rw[e,k4b.2]at hc;simp at hc
   rw[hA,Zyn _ _ n4,Zyn _ _ n1,Zyn _ _ n3,Zyn _ _ hcb];exact hc
 have hst:=hv.start
 have hcall:Jc Zyg (.fn (.func Zb.id) [] [.ptr zo 0,.ptr zd 0,.ptr zv 0]) [Znn d.start] A fun r S=>∃E',r=.ret (.tup [])∧S=A.upd b (.map (Jz E'))∧GrE d [] E'∧d.start∈Kw E' :=
  ZN.V (first:=[]) (args:=[_]) (caps:=[_,_,_]) (ZmQ hv _ d.start (Nat.lt_succ_self _) hst .start A zo zd zv b [] hVis (fun e he=>by simp at he))
 have hV1:=hVis.v
 have hV2:=hVis.d
 refine rx (nd2 @Zyo (nd2 @Zyz (nd2 @KZ @K0))) ?_
 rw[←hA]
 refine rx (nd2 @hV1 @hV2) ?_
 refine Jw rfl rfl rfl rfl rfl (by trivial) (by trivial) (by exact hcall) ?_ ?_
 ·rintro dv S ⟨E',hr,rfl,hg,hs⟩
  cases hr
  refine Za ?_
  simp only[Eqs,reduceIte,Zye]
  have hV3:=(hVis.upd E').o
  refine rx @hV3 ?_
  exact hF.ret _ (st.upd b (.map (Jz E'))) rfl (by trivial) (Zyj _) (hsub _) ⟨b,E',hb,⟨hg.good,hs,fun t ht=>hg.closed t ht (by simp)⟩,rfl,rfl⟩
 ·rintro dv S ⟨E',hr,_⟩
  cases hr
theorem ZvF{d:Dfn}(hv:Jd d):(ZaZ d).length=d.msgs.length:=by
 have h:=ZhY d d.msgs.length (Zys _)
 rw[Nat.sub_self]at h
 rw[←h]
 exact Zlj (Zgp.of hv) (Zow hv).1 _ (Zys _)
abbrev Zgg(p:Int×Int):List D:=[.int .i64 p.1,.int .i64 p.2]
def QI(l:List (Int×Int)):D:=slD 2 Zgg l
def Zk1(m:Msg)(f:Fld):Bool:=f.loose&&(dC (f.kind=3)&&dC ((W3 m f).1<268435456) ||decide (f.kind=6)&&dC (7≤f.high))
def ZeM(d:Dfn)(i n:Nat):List (Int×Int):=List.map (fun k:Nat=>((i:Int),(k:Int))) (List.filter (fun k:Nat=>Zk1 (d.msgs.getD i dE) ((d.msgs.getD i dE).fields.getD k dE)) (Zyl n))
def Zm1(d:Dfn)(i:Nat):List (Int×Int):=if (ZaZ d).getD i false then ZeM d i (d.msgs.getD i dE).fields.length else []
def Zhs(d:Dfn)(n:Nat):List (Int×Int):=(Zyl n).flatMap (Zm1 d)
def Zfq(d:Dfn):List (Int×Int):=if KK d then Zhs d d.msgs.length else []
theorem ZnU(d:Dfn)(i k:Nat):ZeM d i (k+1)=ZeM d i k++if Zk1 (d.msgs.getD i dE) ((d.msgs.getD i dE).fields.getD k dE) then [((i:Int),(k:Int))] else []:=by
 unfold ZeM
 rw[List.range_succ,List.filter_append,List.map_append]
 congr 1
 simp only[List.filter_cons,List.filter_nil]
 split<;>rfl
theorem Zk2(d:Dfn)(i k:Nat):(ZeM d i k).length≤k:=by
 unfold ZeM
 rw[List.length_map]
 exact Nat.le_trans (List.length_filter_le _ _) (by simp)
theorem ZiJ(d:Dfn)(n:Nat):Zhs d (n+1)=Zhs d n++Zm1 d n:=by
 unfold Zhs
 rw[List.range_succ,List.flatMap_append]
 simp
theorem Zu1{d:Dfn}(hv:Jd d){i:Nat}(hi:i<d.msgs.length):(Zm1 d i).length≤40:=by
 unfold Zm1
 split
 ·exact Nat.le_trans (Zk2 _ _ _) (hv.msg hi).many
 ·simp
theorem Zht{d:Dfn}(hv:Jd d):∀n,n≤d.msgs.length→(Zhs d n).length≤40*n
 |0,_=>by simp[Zhs]
 |n+1,h=>by
  rw[ZiJ,Zyr]
  have:=Zht hv n (by omega)
  have:=Zu1 hv (i:=n) (by omega)
  omega
theorem ZsX{L:DL.Loc}(l:List (Int×Int)):qv L s .lenL [.d (QI l)]=sO (True,.d (.int .i64 l.length)):=rfl
theorem atP{L:DL.Loc}(l:List (Int×Int))(i:Int):qv L s (.iaddr 2) [.d (QI l),.d (.int .i64 i)]=sO (0≤i∧i<l.length,.d (.ep (Zgg (l.getD i.toNat dE)) 0)):=rfl
theorem ZcJ(l:List (Int×Int))(hl:l.length≤1000000)(x:Nat){a0:St}(hx0:a0 x=sO (.cells [QI l])):∀(y:D) (go:Nat→Oc) (A:Nat→St→Prop) (a':St),a0.sub a'→Zfj Zyg y l.length (fun j=>Zgg (l.getD j dE)) go A→A 0 a' →
  Jc Zyg (.fn (.func Z4.id) [] [.ptr x 0]) [y] a' fun r S=>∃a,ZgN l.length go A a r∧a.sub S:=by
 intro y go A a' hsub hcons hA
 have hx:=hsub x _ hx0
 refine ZN.V (first:=[]) (args:=[y]) (caps:=[.ptr x 0]) (ZM Z4.ok fun F hF=>?_)
 refine rx (nd2 @hx @ZsX) ?_
 refine Zh (fr (l.length) (fun j Q=>∀a,A j a→(∀i,i<j→go i=.next)→j≤l.length→Q [(0,.d y),(5,.d (QI l)),(6,.d (.int .i64 l.length)),(7,.d (.int .i64 j))] [] a) (fun n ih_key=>?_) fun key=>?_)
 ·clear hA hsub hx
  intro j hn a hA hno hj
  refine rg ?_
  refine Zi (YC rfl trivial (fun h1=>?_) (fun h1=>?_))
  ·simp at h1
   have hcall:=hcons j h1 hno a hA
   simp only at hcall
   generalize hg:l.getD j dE=g at *
   refine rx (nd2 @atP @hg) ?_
   refine aa ?_
   refine rg ?_
   refine aa ?_
   refine Jw rfl rfl rfl rfl rfl (by trivial) (by trivial) (by exact hcall) ?_ ?_
   ·rintro d S ⟨hr,hA'⟩
    cases hgo:go j with
    |next =>
     rw[hgo]at hr
     cases hr
     refine Za ?_
     simp only[Eqs,reduceCtorEq,Int.reduceToNat,reduceIte,Zye]
     refine i0 ?_
     refine rg ?_
     refine aa ?_
     refine Zf ?_
     exact ih_key ((l.length)-(j+1)) (by omega) (j+1) rfl S hA' (Ke (q:=fun i=>go i=.next) hno hgo) (by omega)
    |stop c =>
     rw[hgo]at hr
     cases hr
     refine Za ?_
     simp only[Eqs,reduceCtorEq,Int.reduceToNat,reduceIte,Zye]
     refine i1 ?_
     refine Wr rfl (Qf ?_)
     exact hF.fin (.tup []) _ rfl trivial (Zyj _) (Zyi _) ⟨S,.stop j c (by omega) hno hgo hA',Zyi _⟩
    |pan d=>rw[hgo]at hr;cases hr
   ·rintro d S ⟨hr,hA'⟩
    cases hgo:go j with
    |pan d' =>
     rw[hgo]at hr
     cases hr
     exact hF.pan _ (Zyi _) ⟨S,.pan j d (by omega) hno hgo hA',Zyi _⟩
    |next=>rw[hgo]at hr;cases hr
    |stop c=>rw[hgo]at hr;cases hr
  ·have hj':j=l.length:=by simp at h1;omega
   subst hj'
   refine Wr rfl (Qf ?_)
   exact hF.fin (.tup []) _ rfl trivial (Zyj _) (Zyi _) ⟨a,.all hno hA,Zyi _⟩
 exact key _ 0 rfl a' hA (by intro i hi;omega) (by omega)
theorem Zll(d:Dfn):ZA Zyg ZE.id [.agg d.cells] (QI (Zfq d)):=by
 refine ZP ZE.ok fun F st hret=>?_
 have hS:=Zfq.eq_1 d
 refine rx @eQ3 ?_
 refine rg ?_
 refine cl (Znr d) ?_
 cases hal:KK d with
 |false =>
  rw[hal,if_neg (by simp)]at hS
  refine i1 ?_
  refine rg ?_
  exact hret rfl (by trivial) (by rw[hS];exact JL (by simp)) (Zyi _)
 |true =>
  rw[hal,if_pos rfl]at hS
  refine i0 ?_
  have hV:=ZeL hal
  have hol:=ZvF hV
  have hmany:=hV.many
  refine rg ?_
  refine rx @eQ3 ?_
  rw[show(D.agg [.str d.name,Ka d.msgs,.str d.start])=.agg d.cells from rfl]
  refine Ye rfl rfl rfl rfl rfl (by trivial) (by trivial) (by exact ZqI hV.occ (Zgp.of hV) st) ?_ ?_
  ·rintro dd S ⟨b,hb,hr,rfl⟩
   cases hr
   refine Za ?_
   simp only[Eqs,reduceIte,Zye]
   obtain⟨T,hT⟩:∃T,T=st.upd b (.cells (Je (ZaZ d))):=⟨_,rfl⟩
   have gT:T b=sO (.cells (Je (ZaZ d))):=by rw[hT];exact Zyo _ _ _
   have hTs:st.sub T:=by rw[hT];exact ZyJ _ hb
   rw[←hT]
   clear hT
   refine rg ?_
   refine kl (T) [(1,.loc 1 0),(3,.d (.sl .full 0 2 fun _=>[])),(4,.d (.msl b 0 d.msgs.length d.msgs.length 1)),(5,.d (.int .i64 (0:Nat)))] [(1,[.str d.name,Ka d.msgs,.str d.start])] (.skip (.cons (.d (JL fun b h=>by cases h)) (.skip (.skip .nil)))) (ZaV _) ?_
   refine Zh (fr (d.msgs.length) (fun i Q=>∀tk row out,tk.okIn T→We Zgg row out→out=Zhs d i→i≤d.msgs.length→Q [(1,.loc 1 0),(3,.d (.sl tk out.length 2 row)),(4,.d (.msl b 0 d.msgs.length d.msgs.length 1)),(5,.d (.int .i64 i))] [(1,[.str d.name,Ka d.msgs,.str d.start])] (T.own tk (out.length*2))) (fun n ih_key=>?_) fun key=>?_)
   ·intro i hn tk row out htk hrow hout hi
    have hil:=Zht hV i hi
    rw[←hout]at hil
    refine rx @Zcn ?_
    refine cd (fun h1=>?_) (fun h1=>?_)
    ·have h1':i<d.msgs.length:=by simp at h1;omega
     have hmo:=hV.msg h1'
     have hmf:=hmo.many
     have hcs:=Ze1 hmo
     have hI:=ZiJ d i
     have hM:=Zm1.eq_1 d i
     have hKs:=ZnU d i
     have hKl:=Zk2 d i
     generalize hm:d.msgs.getD i dE=m at *
     rw[←hout]at hI
     have hg:(Je (ZaZ d))[i*1]?=sO (.bool ((ZaZ d).getD i false)):=by rw[Nat.mul_one,Zhv (by omega)]
     refine rg ?_
     refine Zh (fr (m.fields.length) (fun k Q=>∀tk row o,tk.okIn T→We Zgg row o→((ZaZ d).getD i false=true∨k=0)→o=out++ZeM d i k→k≤m.fields.length→Q [(1,.loc 1 0),(3,.d (.sl tk o.length 2 row)),(4,.d (.msl b 0 d.msgs.length d.msgs.length 1)),(5,.d (.int .i64 i)),(6,.d (.int .i64 k))] [(1,[.str d.name,Ka d.msgs,.str d.start])] (T.own tk (o.length*2))) (fun n ih_key2=>?_) fun key2=>?_)
     ·clear hrow htk row tk
      intro k hn2 tk row o htk hrow hocc ho2 hk
      have gb:(T.own tk (o.length*2)) b=sO (.cells (Je (ZaZ d))):=Qz htk b _ gT
      have hKl:=hKl k
      have hKs:=hKs k
      have hol2:o.length≤40*i+k:=by rw[ho2,Zyr];omega
      refine rx (nd2 @gb (nd2 @hg (nd2 @atM (nd2 @hm (nd2 @ZeT @eQ2))))) ?_
      refine aa ?_
      refine cd (fun h2=>?_) (fun h2=>?_)
      ·simp at h2
       obtain⟨hoc,h2'⟩:=h2
       generalize hf:m.fields.getD k dE=f at *
       have hA:=Zk1.eq_1 m f
       refine rx (nd2 @atM (nd2 @hm (nd2 @eQ2 (nd2 @atF (nd2 @hf @eQ0))))) ?_
       refine aa ?_
       refine rx (nd2 @atM (nd2 @hm (nd2 @eQ2 @eQ0))) ?_
       refine aa ?_
       refine cl0 (Zhc hcs f) ?_
       refine rx @eQ0 ?_
       refine cd (fun h3=>?_) (fun h3=>?_)
       ·have hamb:Zk1 m f=true:=by rw[hA];exact h3
        rw[hamb,if_pos rfl]at hKs
        refine rg ?_
        refine ZbX (T) (tk) rfl rfl rfl rfl rfl rfl (by trivial) (by trivial) rfl (by first|trivial|assumption) (by omega) (by (unfold big;omega)) fun t1 ht1=>Za ?_
        simp only[Eqs,reduceIte,Zye]
        refine rg ?_
        refine aa ?_
        have hnext:=ih_key2 (m.fields.length-(k+1)) (by omega) (k+1) rfl t1 _ (o++[((i:Int),(k:Int))]) ht1 (hrow.snoc (x:=((i:Int),(k:Int))) (row2:=Wd [.int .i64 0,.int .i64 0] ([0].zip [.agg [.int .i64 i,.int .i64 k]])) rfl rfl) (.inl hoc) (by rw[ho2,hKs,List.append_assoc]) (by omega)
        rw[Zyr]at hnext
        refine Zf ?_
        exact hnext
       ·have hamb:Zk1 m f=false:=by rw[hA];exact h3
        rw[hamb,if_neg (by simp),ZyR]at hKs
        refine rg ?_
        refine aa ?_
        refine Zf ?_
        exact ih_key2 ((m.fields.length)-(k+1)) (by omega) (k+1) rfl tk row o htk hrow (.inl hoc) (by rw[ho2,hKs]) (by omega)
      ·have hfin:o=Zhs d (i+1):=by
        rw[hI,hM,ho2]
        cases hoc:(ZaZ d).getD i false with
        |true =>
         have hke:k=m.fields.length:=by rw[hoc,Zyy,decide_eq_false_iff_not]at h2;omega
         rw[if_pos rfl,hke]
        |false =>
         have hke:k=0:=by rcases hocc with h|h;rw[hoc]at h;simp at h;exact h
         rw[if_neg (by simp),hke];rfl
       refine rg ?_
       refine aa ?_
       refine Zf ?_
       exact ih_key (d.msgs.length-(i+1)) (by omega) (i+1) rfl tk row o htk hrow hfin (by omega)
     exact key2 _ 0 rfl tk row out htk hrow (.inr rfl) (by simp[ZeM]) (by omega)
    ·have h1':i=d.msgs.length:=by simp at h1;omega
     subst h1'
     refine rg ?_
     have hos:Zfq d=out:=by rw[hS,hout]
     rw[hos]at hret
     exact hret rfl (by trivial) (hrow.le rfl) (ZyT hTs (Qz htk))
   exact key _ 0 rfl .full _ [] trivial We.nil rfl (by omega)
  ·rintro dd S ⟨b,hb,hr,_⟩
   cases hr
theorem ZwJ{d:Dfn}(hv:Jd d){i:Nat}(hi:i<d.msgs.length):Z5 d (d.msgs.getD i dE).name d.msgs.length=i:=by
 have hf:=hv.flaw i hi
 unfold QP at hf
 split at hf;· simp at hf
 split at hf;· simp at hf
 rename_i hn
 unfold Z5 at hn⊢
 rw[ZyA]
 refine ZaM hi (by simp) fun j hj=>?_
 have hno:=ZsF (p:=fun m:Msg=>dC (m.name=(d.msgs.getD i dE).name)) (l:=d.msgs.take i) (by omega) (d.msgs.getD j dE) (by rw[←Zau hj];exact W4 (by rw[Zyw];omega))
 simpa using hno
theorem ZwK{d:Dfn}(hv:Jd d){E:List (Str×Bool)}(hE:Zxf d E){i:Nat}(hi:i<d.msgs.length):dC ((d.msgs.getD i dE).name∈Kw E)=(ZaZ d).getD i false:=by
 have hn:=ZwJ hv hi
 have hg:∀t∈Kw E,0≤Z5 d t d.msgs.length∧Rch d (ixS d t):=fun t ht=>by
  obtain⟨e,he,rfl⟩:=List.mem_map.1 ht
  exact(hE.good e he).2
 have h:=Zuq hv hE.start hg hE.closed (s:=(d.msgs.getD i dE).name) (by omega)
 have hx:ixS d (d.msgs.getD i dE).name=i:=by unfold ixS;omega
 rw[hx]at h
 exact h.symm
theorem Zvx{d:Dfn}{E:List (Str×Bool)}(hE:ZeZ d E)(s:Str):Qg (.bool false) false ((ZQ s E).map D.bool)=.bool (dC (s∈Kw E)):=by
 cases h:ZQ s E with
 |none=>rw[decide_eq_false (Zin h)];rfl
 |some v =>
  obtain rfl:v=true:=(hE _ (ZhM h)).1
  rw[decide_eq_true (List.mem_map.2 ⟨_,ZhM h,rfl⟩)];rfl
theorem ZdN(d:Dfn)(st:St):ZN Zyg Zk.id [.agg d.cells] st fun r S=>∃z,st z=nO∧r=.ret (.fn (.func Z4.id) [] [.ptr z 0])∧S=st.or (ZyG z (.cells [QI (Zfq d)])):=by
 refine ZM Zk.ok fun F hF=>?_
 have hS:=Zfq.eq_1 d
 refine rx @eQ3 ?_
 refine rg ?_
 have fin:∀(T:St) tk row out,tk.okIn T→We Zgg row out→st.sub T→out=Zfq d→ZS F [.code (qR Zk.r15 [2]),.code .ret] [(3,.loc 3 0)] [(3,[.sl tk out.length 2 row])] (T.own tk (out.length*2)):=by
  intro T tk row out htk hrow hTs hout
  refine Z1 3 rfl fun z hz=>?_
  simp only[reduceIte,Yd,Yz,delL]
  have hsT:=ZyT hTs (Qz (k:=out.length*2) htk)
  have hstz:=ZqU hsT hz
  refine ZbB (Zyo _ _ _) (LeC.one (hrow.le rfl)) ?_
  rw[Zyz]
  refine rg ?_
  exact hF.ret _ (st.upd z (.cells [QI out])) rfl (by trivial) (Zyj _) (Zf1 hsT) ⟨z,hstz,rfl,by rw[←hout];exact Zbg hstz⟩
 refine rx @eQ3 ?_
 refine cl (ZcZ d) ?_
 cases hal:KK d with
 |false =>
  rw[hal,if_neg (by simp)]at hS
  refine i0 ?_
  refine Yw (Zi (JH [3] ?_))
  simp only[Eqs,reduceIte,Zye]
  refine kl (st) [(3,.loc 3 0)] [(3,[.sl .full 0 2 fun _=>[]])] (ZdQ _) (.cons (.cons (JL (by simp)) .nil) .nil) ?_
  exact fin st .full _ [] trivial We.nil (Zyi _) hS.symm
 |true =>
  rw[hal,if_pos rfl]at hS
  refine i1 ?_
  have hV:=ZeL hal
  have hmany:=hV.many
  refine rx @eQ3 ?_
  rw[show(D.agg [.str d.name,Ka d.msgs,.str d.start])=.agg d.cells from rfl]
  refine Ye rfl rfl rfl rfl rfl (by trivial) (by trivial) (by exact Ziy hV st) ?_ ?_
  ·rintro dd S ⟨b,E,hb,hE,hr,rfl⟩
   cases hr
   refine Za ?_
   simp only[Eqs,reduceIte,Zye]
   obtain⟨T,hT⟩:∃T,T=st.upd b (.map (Jz E)):=⟨_,rfl⟩
   have gT:T b=sO (.map (Jz E)):=by rw[hT];exact Zyo _ _ _
   have hTs:st.sub T:=by rw[hT];exact ZyJ _ hb
   rw[←hT]
   clear hT
   refine rx (nd2 @eQ3 @Zcn) ?_
   refine kl (T) [(3,.loc 3 0),(4,.d (.map b)),(15,.d (Ka d.msgs)),(16,.d (.int .i64 d.msgs.length)),(17,.d (.int .i64 (0:Nat)))] [(3,[.sl .full 0 2 fun _=>[]])] (ZdQ _) (.cons (.cons (JL (by simp)) .nil) .nil) ?_
   refine Zh (fr (d.msgs.length) (fun i Q=>∀tk row out,tk.okIn T→We Zgg row out→out=Zhs d i→i≤d.msgs.length→Q [(3,.loc 3 0),(4,.d (.map b)),(15,.d (Ka d.msgs)),(16,.d (.int .i64 d.msgs.length)),(17,.d (.int .i64 i))] [(3,[.sl tk out.length 2 row])] (T.own tk (out.length*2))) (fun n ih_key=>?_) fun key=>?_)
   ·intro i hn tk row out htk hrow hout hi
    have hil:=Zht hV i hi
    rw[←hout]at hil
    refine rg ?_
    refine Zi (YC rfl trivial (fun h1=>?_) (fun h1=>?_))
    ·have h1':i<d.msgs.length:=by simp at h1;omega
     have hmo:=hV.msg h1'
     have hmf:=hmo.many
     have hcs:=Ze1 hmo
     have hI:=ZiJ d i
     have hM:=Zm1.eq_1 d i
     have hKs:=ZnU d i
     have hKl:=Zk2 d i
     have hocc:=ZwK hV hE h1'
     generalize hm:d.msgs.getD i dE=m at *
     rw[←hout]at hI
     have e1:=QG (vD:=D.bool) Wa m.name E
     have e3:=Jl Wa m.name
     simp only[show Zar m.name=D.str m.name from rfl]at e1 e3
     have hlk:=Zvx hE.good m.name
     rw[hocc]at hlk
     refine rx (nd2 @atM (nd2 @hm @eQ2)) ?_
     refine aa ?_
     refine rx @ZeT ?_
     refine Zh (fr (m.fields.length) (fun k Q=>∀tk row o,tk.okIn T→We Zgg row o→o=out++(if (ZaZ d).getD i false then ZeM d i k else [])→k≤m.fields.length→Q [(3,.loc 3 0),(4,.d (.map b)),(5,.d (.int .i64 i)),(6,.loc 6 0),(15,.d (Ka d.msgs)),(16,.d (.int .i64 d.msgs.length)),(17,.d (.int .i64 i)),(23,.d (Z0 m.fields)),(24,.d (.int .i64 m.fields.length)),(25,.d (.int .i64 k))] [(3,[.sl tk o.length 2 row]),(6,[.str m.name,Z0 m.fields])] (T.own tk (o.length*2))) (fun n ih_key2=>?_) fun key2=>?_)
     ·clear hrow htk row tk
      intro k hn2 tk row o htk hrow ho2 hk
      have gb:(T.own tk (o.length*2)) b=sO (.map (Jz E)):=Qz htk b _ gT
      have hKl:=hKl k
      have hKs:=hKs k
      have hol2:o.length≤40*i+k:=by
       rw[ho2,Zyr]
       split
       ·omega
       ·simp;omega
      refine rg ?_
      refine Zi (YC rfl trivial (fun h2=>?_) (fun h2=>?_))
      ·have h2':k<m.fields.length:=by simp at h2;omega
       generalize hf:m.fields.getD k dE=f at *
       have hA:=Zk1.eq_1 m f
       have hall:f.kind=3→ZA Zyg Z2.id [.agg m.cells,.agg f.cells] (QJ (W3 m f)):=fun h=>ZeY hcs f (by simp[KV,h])
       refine rx (nd2 @atF (nd2 @hf @eQ0)) ?_
       refine aa ?_
       refine rx (nd2 @eQ0 @eQ2) ?_
       refine Kt rfl rfl rfl rfl rfl (fun hcg=>⟨by first|trivial|(simpa[Qa]using hcg),trivial,hall (by revert hcg;simp[Qa])⟩) (Za ?_)
       simp only[Eqs,reduceIte,Zye,QJ]
       refine Zi (Ys (Za ?_))
       simp only[Eqs,reduceIte,Zye,Zk.r11,gb,e1,hlk]
       have hcond:((ZaZ d).getD i false&&f.loose&&(dC (f.kind=6)&&dC (7≤f.high) ||decide (f.kind=3)&&dC ((W3 m f).1<268435456)))=((ZaZ d).getD i false&&Zk1 m f):=by
        rw[hA]
        generalize (dC (f.kind=6)&&dC (7≤f.high))=x
        generalize (dC (f.kind=3)&&dC ((W3 m f).1<268435456))=y
        cases(ZaZ d).getD i false<;>cases f.loose<;>cases x<;>cases y<;>rfl
       rw[hcond]
       refine cd (fun h3=>?_) (fun h3=>?_)
       ·rw[Zyk]at h3
        rw[h3.2,if_pos rfl]at hKs
        rw[h3.1,if_pos rfl]at ho2
        refine rg ?_
        refine ZbX (T) (tk) rfl rfl rfl rfl rfl rfl (by trivial) (by trivial) rfl (by first|trivial|assumption) (by omega) (by (unfold big;omega)) fun t1 ht1=>Za ?_
        simp only[Eqs,reduceIte,Zye,Zyq]
        refine rg ?_
        refine aa ?_
        have hnext:=ih_key2 (m.fields.length-(k+1)) (by omega) (k+1) rfl t1 _ (o++[((i:Int),(k:Int))]) ht1 (hrow.snoc (x:=((i:Int),(k:Int))) (row2:=Wd [.int .i64 0,.int .i64 0] ([0].zip [.agg [.int .i64 i,.int .i64 k]])) rfl rfl) (by rw[h3.1,if_pos rfl,ho2,hKs,List.append_assoc]) (by omega)
        rw[Zyr]at hnext
        refine Zf ?_
        exact hnext
       ·have hsame:(if (ZaZ d).getD i false=true then ZeM d i (k+1) else [])=if (ZaZ d).getD i false=true then ZeM d i k else []:=by
         cases ho:(ZaZ d).getD i false with
         |false=>rfl
         |true =>
          rw[ho,Zyy]at h3
          rw[h3,if_neg (by simp),ZyR]at hKs
          rw[if_pos rfl,if_pos rfl,hKs]
        refine rg ?_
        refine aa ?_
        refine Zf ?_
        exact ih_key2 ((m.fields.length)-(k+1)) (by omega) (k+1) rfl tk row o htk hrow (by rw[hsame];exact ho2) (by omega)
      ·have h2':k=m.fields.length:=by simp at h2;omega
       subst h2'
       refine rg ?_
       refine aa ?_
       refine Zf ?_
       exact ih_key (d.msgs.length-(i+1)) (by omega) (i+1) rfl tk row o htk hrow (by rw[hI,hM,ho2]) (by omega)
     exact key2 _ 0 rfl tk row out htk hrow (by simp[ZeM]) (by omega)
    ·have h1':i=d.msgs.length:=by simp at h1;omega
     subst h1'
     refine Wr rfl (Zi (JH [3] ?_))
     simp only[Eqs,reduceIte,Zye]
     exact fin T tk row out htk hrow hTs (by rw[hS,hout])
   exact key _ 0 rfl .full _ [] trivial We.nil rfl (by omega)
  ·rintro dd S ⟨b,E,hb,hE,hr,_⟩
   cases hr
theorem Zni(d:Dfn)(st:St):ZN Zyg Zx.id [.agg d.cells] st fun r S=>S=st∧∃v,r=.ret (.bool v):=by
 refine Zcw Zx.ok fun hwf F hF=>?_
 have hw:=ZgW (s:=d) (hwf _ (by simp))
 have hwn:=hw.nmsgs
 unfold big at hwn
 clear hwf
 refine rx @eQ3 ?_
 refine rx @Zcn ?_
 refine cd (fun h0=>?_) (fun h0=>?_)
 ·refine rg ?_
  exact hF.ret _ _ rfl (by trivial) (Zyj _) (Zyi _) ⟨rfl,_,rfl⟩
 ·refine rg ?_
  refine Zh (fr (d.msgs.length) (fun i Q=>i≤d.msgs.length→Q [(1,.loc 1 0),(3,.d (.int .i64 i))] [(1,[.str d.name,Ka d.msgs,.str d.start])] st) (fun n ih_key=>?_) fun key=>?_)
  ·intro i hn hi
   refine rx @Zcn ?_
   refine cd (fun h1=>?_) (fun h1=>?_)
   ·have h1':i<d.msgs.length:=by simp at h1;omega
    have hmw:=hw.msgs _ (W4 h1')
    have hmn:=hmw.nfields
    unfold big at hmn
    generalize hm:d.msgs.getD i dE=m at *
    refine rx (nd2 @atM (nd2 @hm @eQ2)) ?_
    refine aa ?_
    refine rx @ZeT ?_
    refine cd (fun h2=>?_) (fun h2=>?_)
    ·refine rg ?_
     exact hF.ret _ _ rfl (by trivial) (Zyj _) (Zyi _) ⟨rfl,_,rfl⟩
    ·refine rg ?_
     refine Zh (fr (m.fields.length) (fun k Q=>k≤m.fields.length→Q [(1,.loc 1 0),(3,.d (.int .i64 i)),(4,.loc 4 0),(5,.d (.int .i64 k))] [(1,[.str d.name,Ka d.msgs,.str d.start]),(4,[.str m.name,Z0 m.fields])] st) (fun n ih_key2=>?_) fun key2=>?_)
     ·intro k hn2 hk
      refine rx @ZeT ?_
      refine cd (fun h3=>?_) (fun h3=>?_)
      ·have h3':k<m.fields.length:=by simp at h3;omega
       have hfw:=hmw.fields _ (W4 h3')
       have hfn:=hfw.size.nterms
       unfold big at hfn
       generalize hf:m.fields.getD k dE=f at *
       refine rx (nd2 @atF (nd2 @hf @eQ0)) ?_
       refine aa ?_
       refine rx (nd2 @Zhx @Zlv) ?_
       refine cd (fun h4=>?_) (fun h4=>?_)
       ·refine rg ?_
        exact hF.ret _ _ rfl (by trivial) (Zyj _) (Zyi _) ⟨rfl,_,rfl⟩
       ·refine rg ?_
        refine Zh (fr (f.size.terms.length) (fun q Q=>q≤f.size.terms.length→Q [(1,.loc 1 0),(3,.d (.int .i64 i)),(4,.loc 4 0),(5,.d (.int .i64 k)),(6,.loc 6 0),(7,.d (.int .i64 q))] [(1,[.str d.name,Ka d.msgs,.str d.start]),(4,[.str m.name,Z0 m.fields]),(6,f.cells)] st) (fun n ih_key3=>?_) fun key3=>?_)
        ·intro q hn3 hq
         refine rx (nd2 @eQ0 @Zlv) ?_
         refine cd (fun h5=>?_) (fun h5=>?_)
         ·have h5':q<f.size.terms.length:=by simp at h5;omega
          generalize ht:f.size.terms.getD q dE=t at *
          obtain⟨p,hp⟩:∃p,ZB (fun x=>dC (x.name=t.field)) m.fields=p:=⟨_,rfl⟩
          have hlt:=QA (fun x=>dC (x.name=t.field)) m.fields
          rw[hp]at hlt
          refine rx (nd2 @eQ0 (nd2 @Zkh (nd2 @ht (nd2 @eQ8 @Znt)))) ?_
          refine aa ?_
          refine Zdh rfl rfl rfl rfl rfl (by trivial) (by trivial) (by exact ZbR m t.field) (Ql ?_)
          simp only[Eqs,reduceIte,Zye,hp]
          generalize hg:m.fields.getD (max p 0).toNat dE=g at *
          refine rx (nd2 @eQ0 (nd2 @Zkh (nd2 @ht (nd2 @eQ8 (nd2 @atF @hg))))) ?_
          refine aa ?_
          refine cd (fun h6=>?_) (fun h6=>?_)
          ·refine rg ?_
           exact hF.ret _ _ rfl (by trivial) (Zyj _) (Zyi _) ⟨rfl,_,rfl⟩
          ·refine rg ?_
           refine aa ?_
           refine Zf ?_
           exact ih_key3 ((f.size.terms.length)-(q+1)) (by omega) (q+1) rfl (by omega)
         ·have h5':q=f.size.terms.length:=by simp at h5;omega
          subst h5'
          refine rg ?_
          refine aa ?_
          refine Zf ?_
          exact ih_key2 ((m.fields.length)-(k+1)) (by omega) (k+1) rfl (by omega)
        exact key3 _ 0 rfl (by omega)
      ·have h3':k=m.fields.length:=by simp at h3;omega
       subst h3'
       refine rg ?_
       refine aa ?_
       refine Zf ?_
       exact ih_key ((d.msgs.length)-(i+1)) (by omega) (i+1) rfl (by omega)
     exact key2 _ 0 rfl (by omega)
   ·have h1':i=d.msgs.length:=by simp at h1;omega
    subst h1'
    refine rg ?_
    exact hF.ret _ _ rfl (by trivial) (Zyj _) (Zyi _) ⟨rfl,_,rfl⟩
  exact key _ 0 rfl (by omega)
theorem Zpo(d:Dfn):(Zfq d).length≤1000000:=by
 unfold Zfq
 cases h:KK d with
 |false=>simp
 |true =>
  rw[if_pos rfl]
  have hV:=ZeL h
  have h1:=Zht hV d.msgs.length (Zys _)
  have h2:=hV.many
  omega
theorem ZxC{s t:St}{b:Nat}(h:(s.or t) b=nO):s b=nO∧t b=nO:=by
 cases hs:s b with
 |none=>rw[Yj hs]at h;exact⟨rfl,h⟩
 |some o=>rw[ZU hs]at h;simp at h
theorem upd_self{b:Nat}{o:Wt}(h:s b=sO o):s.upd b o=s:=by
 funext c
 by_cases hc:c=b
 ·subst hc;rw[Zyo,h]
 ·rw[Zyn _ _ hc]
theorem Zlw(d:Dfn):ZA Zyg YA.id [.agg d.cells] (.bool (KK d&&dC (Zfq d=[]))):=by
 refine fun st=>ZM YA.ok fun F hF=>?_
 have hlen:=Zpo d
 refine rx @eQ3 ?_
 refine rg ?_
 rw[show(D.agg [.str d.name,Ka d.msgs,.str d.start])=.agg d.cells from rfl]
 refine Ye rfl rfl rfl rfl rfl (by trivial) (by trivial) (by exact ZdN d st) ?_ ?_
 ·rintro dd S ⟨z,hz,hr,rfl⟩
  cases hr
  generalize Zfq d=l at *
  refine Za ?_
  simp only[Eqs,reduceIte,Zye]
  refine Zh ?_
  refine Z1 2 rfl fun z2 h2=>?_
  simp only[reduceIte,Zye,Yd,Yz,delL]
  obtain⟨h2a,h2b⟩:=ZxC h2
  have gx:((st.or (ZyG z (.cells [QI l]))).upd z2 (.cells [.bool false])) z=sO (.cells [QI l]):=by
   rw[Zyn _ _ (fun e=>by rw[←e,KA]at h2b;simp at h2b),Yj hz];exact KA _ _
  have g2:((st.or (ZyG z (.cells [QI l]))).upd z2 (.cells [.bool false])) z2=sO (.cells [.bool false]):=Zyo _ _ _
  have hs:∀o,st.sub (((st.or (ZyG z (.cells [QI l]))).upd z2 (.cells [.bool false])).upd z2 o):=fun o=>by
   rw[Zyz];exact ZyT (Zat _ _) (ZyJ _ h2)
  have hs0:st.sub ((st.or (ZyG z (.cells [QI l]))).upd z2 (.cells [.bool false])):=ZyT (Zat _ _) (ZyJ _ h2)
  generalize ((st.or (ZyG z (.cells [QI l]))).upd z2 (.cells [.bool false]))=A at *
  refine Zky hF rfl trivial [2] (by show([2]:List Nat).Nodup;decide) (ZcJ l hlen z gx) (fun j hj=>rfl) (fun _=>.stop .ret) (fun j a=>a=A) rfl ?_ ?_ ?_ ?_ ?_ ?_
  ·intro j a hj hno hB F' ready busy hdr hbeg hend
   subst hB
   simp only[Eqs,reduceIte,Zye,Ja,JC,Zbs,JK,List.isEmpty_nil]
   refine Yw (hbeg fun hdb=>?_)
   refine Zh (Zi (Ys (Za ?_)))
   simp only[Eqs,reduceIte,Zye,Zyq,YA.r2,ZU g2,JB]
   rw[upd_self g2]
   exact hend.ret ⟨rfl,rfl⟩ hdb (Zyi _)
  ·intro q a hno hB hq
   subst hB
   have hl0:l=[]:=by
    cases l with
    |nil=>rfl
    |cons x r=>have h:=hno 0 (by simp);simp at h
   subst hl0
   rw[Zbg hq]
   refine ZW (Zi (Ys (Za ?_)))
   simp only[Eqs,reduceIte,Zye,ZyB,Zyq,YA.r3]
   rw[show(D.agg [.str d.name,Ka d.msgs,.str d.start])=.agg d.cells from rfl]
   refine YF rfl rfl rfl rfl rfl (by trivial) (by trivial) (by exact ZcZ d) (Za ?_)
   simp only[Eqs,reduceIte,Zye,Zyq,ZU g2,JB]
   have hq2:(a.upd z2 (.cells [.bool (KK d)])) q=nO:=by rw[Zyn _ _ (fun e=>by rw[e,g2]at hq;simp at hq)];exact hq
   have gg:(a.upd z2 (.cells [.bool (KK d)])) z2=sO (.cells [.bool (KK d)]):=Zyo _ _ _
   exact hF.ret1 hq2 (.bool (KK d)) st (by simp only[Eqs,reduceIte,YA.df,K5,JU,gg];rfl) (by trivial) (Zyj _) (hs _) ⟨by simp,rfl⟩
  ·intro q a m hm hno hgo hB hq
   subst hB
   have hne:l≠[]:=fun e=>by rw[e]at hm;simp at hm
   rw[Zbg hq]
   exact hF.ret1 hq (.bool false) st (by simp only[Eqs,reduceIte,Zye,YA.df,K5,JU,g2];rfl) (by trivial) (Zyj _) hs0 ⟨by simp[hne],rfl⟩
  ·intro q a m id hm hno hgo;simp at hgo
  ·intro q a m d hm hno hgo;simp at hgo
  ·intro m c hgo;simp at hgo;exact .inl hgo.symm
 ·rintro dd S ⟨z,hz,hr,_⟩
  cases hr
theorem Zih{q b:Nat}{o c:Wt}(hq:s q=nO)(hb:s b=sO c):(s.upd q o) b=sO c:=by
 rw[Zyn _ _ (fun e=>by rw[e,hq]at hb;simp at hb)];exact hb
theorem Zya(l:List (Int×Int)):Q3 (QI l)=true:=rfl
theorem Zwu(l:List (Int×Int)):cellsOf (QI l)=[QI l]:=rfl
theorem Zio(l:List (Int×Int))(hlen:l.length≤1000000)(many:Int)(z:Nat){st:St}(hz:st z=sO (.cells [QI l])):Wi Zyg Z6.id [.fn (.func Z4.id) [] [.ptr z 0],QI l,.int .i64 many] st (.bool true) st:=by
 refine ZM Z6.ok fun F hF=>?_
 refine rx (nd2 @Zya @Zwu) ?_
 refine rg ?_
 refine i0 ?_
 refine rg ?_
 refine rg ?_
 refine Zh ?_
 refine Z1 4 rfl fun z4 h4=>?_
 simp only[reduceIte,Zye,Yd,Yz,delL]
 refine Z1 5 rfl fun z5 h5=>?_
 simp only[reduceIte,Zye,Yd,Yz,delL]
 refine Z1 6 rfl fun z6 h6=>?_
 simp only[reduceIte,Zye,Yd,Yz,delL]
 refine Z1 7 rfl fun z7 h7=>?_
 simp only[reduceIte,Yd,Yz,delL]
 have k5:=Ya h5
 have k6:=Ya h6
 have k6a:=Ya k6.2
 have k7:=Ya h7
 have k7a:=Ya k7.2
 have k7b:=Ya k7a.2
 obtain⟨B,hB⟩:∃B,B=((st.upd z4 (.cells [QI l])).upd z5 (.cells [.int .i64 many])).upd z6 (.cells [.bool false]):=⟨_,rfl⟩
 have g4:B z4=sO (.cells [QI l]):=by rw[hB,Zyn _ _ (Ne.symm k6a.1),Zyn _ _ (Ne.symm k5.1)];exact Zyo _ _ _
 have g5:B z5=sO (.cells [.int .i64 many]):=by rw[hB,Zyn _ _ (Ne.symm k6.1)];exact Zyo _ _ _
 have g6:B z6=sO (.cells [.bool false]):=by rw[hB];exact Zyo _ _ _
 have gs:st.sub B:=by rw[hB];exact ZyT (ZyJ _ h4) (ZyT (ZyJ _ h5) (ZyJ _ h6))
 have n7:B z7=nO:=by rw[hB];exact h7
 have gz:B z=sO (.cells [QI l]):=gs _ _ hz
 rw[←hB]
 have hs6:∀k o,st.sub ((B.upd z7 k).upd z6 o):=fun k o b x hb=>by
  have e6:b≠z6:=fun e=>by rw[e,k6a.2]at hb;simp at hb
  have e7:b≠z7:=fun e=>by rw[e,k7b.2]at hb;simp at hb
  rw[Zyn _ _ e6,Zyn _ _ e7];exact gs _ _ hb
 clear hB h5 h6 h7 k5 k6 k7 k7a
 have o4:∀c,(B.upd z7 c) z4=sO (.cells [QI l]):=fun c=>Zih n7 g4
 have o5:∀c,(B.upd z7 c) z5=sO (.cells [.int .i64 many]):=fun c=>Zih n7 g5
 have o6:∀c,(B.upd z7 c) z6=sO (.cells [.bool false]):=fun c=>Zih n7 g6
 have o7:∀c,(B.upd z7 c) z7=sO c:=fun c=>Zyo _ _ _
 have n76:z6≠z7:=fun e=>by rw[e,n7]at g6;simp at g6
 obtain⟨F0,hF0⟩:∃F0,F0=F:=⟨_,rfl⟩
 have cont:∀(F:Fr Zyg) (q k:Nat),F=F0.mark q→(B.upd z7 (.cells [.int .i64 k])) q=nO→(k:Int)=min (l.length:Int) (max 1 many)→ZS F [.code (qR Z6.r11 [6]),.code .ret] [(4,.d (.ptr z4 0)),(5,.d (.ptr z5 0)),(6,.d (.ptr z6 0)),(7,.d (.ptr z7 0)),(12,.d (.fn (.func Z4.id) [] [.ptr z 0]))] [] ((B.upd z7 (.cells [.int .i64 k])).upd q .dfr):=by
  intro F q k hFq hq hk
  subst hFq hF0
  have hq6:((B.upd z7 (.cells [.int .i64 k])).upd z6 (.cells [.bool true])) q=nO:=by rw[Zyn _ _ (fun e=>by rw[e,o6]at hq;simp at hq)];exact hq
  have hd:dC ((k:Int)=min (l.length:Int) (max 1 many))=true:=decide_eq_true hk
  have gg:((B.upd z7 (.cells [.int .i64 k])).upd z6 (.cells [.bool true])) z6=sO (.cells [.bool true]):=Zyo _ _ _
  rw[Zbg hq]
  refine Ys (Za ?_)
  simp only[Eqs,reduceIte,Zye,Zyq,Z6.r11,ZU (o7 _),ZU (o4 _),ZU (o5 _),ZU (o6 _),ZsX,JB,hd]
  exact hF.ret1 hq6 (.bool true) st (by simp only[Eqs,reduceIte,Z6.df,K5,JU,gg];rfl) (by trivial) (Zyj _) (hs6 _ _) ⟨rfl,rfl⟩
 refine Zky hF rfl trivial [4,5,6,7] (by show([4,5,6,7]:List Nat).Nodup;decide) (ZcJ l hlen z (Zih n7 gz)) (fun j hj=>rfl) (fun j:Nat=>if many≤((j:Int)+1) then Oc.stop (.exit 0) else Oc.next) (fun j a=>a=B.upd z7 (.cells [.int .i64 j])) rfl ?_ ?_ ?_ ?_ ?_ ?_
 ·intro j a hj hno hB F' ready busy hdr hbeg hend
  subst hB
  simp only[Eqs,reduceIte,Zye,Ja,JC,Zbs,JK,List.isEmpty_nil]
  generalize hg:l.getD j dE=g at *
  refine rg ?_
  refine rg ?_
  refine hbeg fun hdb=>?_
  have d1:dC ((l.length:Int)≤j)=false:=decide_eq_false (by omega)
  refine Zh (Zi (Zi (Ys (Za ?_))))
  simp only[Eqs,reduceIte,Zye,ZyB,Zyq,Z6.r7,ZU (o7 _),ZU (o4 _),ZsX,atP,hg,d1,eq_self]
  refine aa ?_
  refine i0 ?_
  refine Yw (Zi (Ys (Za ?_)))
  simp only[Eqs,reduceIte,Zye,Zyq,Z6.r9,ZU (o7 _),JB]
  refine aa ?_
  rw[Zyz,show(j:Int)+1=((j+1:Nat):Int) by omega]
  have hdb2:Kz (B.upd z7 (.cells [.int .i64 ((j+1:Nat):Int)])) busy:=fun b o hb=>by
   have h1:=Ya (hdb b o hb)
   rw[Zyn _ _ h1.1];exact h1.2
  refine Zi (Ys (Za ?_))
  simp only[Eqs,reduceIte,Zye,Z6.r10,ZU (o7 _),ZU (o5 _)]
  refine cd (fun h1=>?_) (fun h1=>?_)
  ·exact hend.exit rfl ⟨by rw[if_pos (by simp at h1;omega)],rfl⟩ hdb2 (Zyi _)
  ·refine Yw ?_
   refine ZW ?_
   exact hend.fin ⟨by rw[if_neg (fun h=>by simp at h1;omega)],rfl⟩ hdb2 (Zyi _)
 ·intro q a hno hB hq
  subst hB
  refine ZW (Zi ?_)
  refine cont _ q l.length (by rw[hF0]) hq ?_
  rcases Nat.eq_zero_or_pos l.length with h0|h0
  ·omega
  ·have h:=hno (l.length-1) (by omega)
   split at h
   ·simp at h
   ·omega
 ·intro q a m hm hno hgo;split at hgo<;>simp at hgo
 ·intro q a m id hm hno hgo hB hq
  subst hB
  split at hgo
  ·rename_i hs
   cases hgo
   refine Wr rfl ?_
   refine Zi ?_
   refine cont _ q (m+1) (by rw[hF0]) hq ?_
   rcases Nat.eq_zero_or_pos m with h0|h0
   ·omega
   ·have h:=hno (m-1) (by omega)
    split at h
    ·simp at h
    ·omega
  ·simp at hgo
 ·intro q a m d hm hno hgo;split at hgo<;>simp at hgo
 ·intro m c hgo;split at hgo<;>simp at hgo;exact .inr ⟨0,hgo.symm⟩
theorem Zg4(hk:ZA Zyg 6 [] (.bool true))(d:Dfn)(many:Int):ZA Zyg Yl.id [.agg d.cells,.int .i64 many] (.bool true):=by
 refine ZP Yl.ok fun F st hret=>?_
 have hlen:=Zpo d
 refine rx @eQ3 ?_
 refine rg ?_
 rw[show(D.agg [.str d.name,Ka d.msgs,.str d.start])=.agg d.cells from rfl]
 refine Ye rfl rfl rfl rfl rfl (by trivial) (by trivial) (by exact Zni d st) ?_ ?_
 ·rintro dd S ⟨rfl,v,hr⟩
  cases hr
  refine Za ?_
  simp only[Eqs,reduceIte,Zye]
  refine cd (fun h1=>?_) (fun h1=>?_)
  ·refine rg ?_
   refine cl (hk) ?_
   refine rb hret ?_
   rfl
  ·refine rx @eQ3 ?_
   refine cl (Zll d) ?_
   refine rx @eQ3 ?_
   rw[show(D.agg [.str d.name,Ka d.msgs,.str d.start])=.agg d.cells from rfl]
   refine Ye rfl rfl rfl rfl rfl (by trivial) (by trivial) (by exact ZdN d S) ?_ ?_
   ·rintro dd S' ⟨z,hz,hr,rfl⟩
    cases hr
    have hU:=Zlw d
    generalize Zfq d=l at *
    have gx:(S.or (ZyG z (.cells [QI l]))) z=sO (.cells [QI l]):=by rw[Yj hz];exact KA _ _
    refine Za ?_
    simp only[Eqs,reduceIte,Zye]
    refine rx @eQ3 ?_
    refine ctD (Zio l hlen many z gx) ?_
    refine Zc5 rfl rfl rfl rfl rfl (by trivial) (by trivial) (by exact Zio l hlen 9999 z gx) (by first|trivial|exact⟨rfl,trivial⟩|simp[KB,JA]) (Y6 ?_)
    simp only[Eqs,reduceIte,Zye,ZyB,Zyq]
    rw[show(D.agg [.str d.name,Ka d.msgs,.str d.start])=.agg d.cells from rfl]
    refine Zcj rfl rfl rfl rfl rfl (fun hcg=>⟨by first|trivial|(simpa[Qa]using hcg),trivial,hU⟩) (Y6 ?_)
    simp only[Eqs,reduceIte,Zye]
    refine Zcj rfl rfl rfl rfl rfl (fun hcg=>⟨by first|trivial|(simpa[Qa]using hcg),trivial,ZcZ d⟩) (Y6 ?_)
    simp only[Eqs,reduceIte,Zye,ZsX]
    have he:dC ((l.length:Int)=0)=dC (l=[]):=by cases l<;>simp;omega
    rw[he]
    simp only[Eqs]
    refine Zcj rfl rfl rfl rfl rfl (fun hcg=>⟨by first|trivial|(simpa[Qa]using hcg),trivial,hk⟩) (Y6 ?_)
    simp only[Eqs,reduceIte,Zye]
    exact hret rfl (by trivial) (Zyj _) (Zat _ _)
   ·rintro dd S' ⟨z,hz,hr,_⟩
    cases hr
 ·rintro dd S ⟨_,v,hr⟩
  cases hr
def Zd1(f:FuncId)(_:Option Nat):Bool:=ZgB f [16,61,62,92,93,95,125,126,129,130,131,132,134,154,155,156,157,158,161,162,163,165,187,202,203,206,207,208,209,210,211,212,213,215,216,217,218,219,220,221,223,224,276,281,282]
theorem Zab(t:St):Zav ⟨⟨Zyg,Zgz 120,Zd1⟩,t⟩ :=
 ZwE (n:=151) (by kernel_rfl) Tryz.func151 (by kernel_rfl) (by kernel_rfl) (by kernel_rfl) (by kernel_rfl) t
def ZsK:V:=.agg [.str [100],.sl 0 2 2 [.agg [.str [109],.sl 0 2 15 [.agg [.str [97],.int .i64 3,.int .i64 0,.bool false,.bool true,.int .i64 0,.int .i64 300,.int .i64 0,.nilsl,.str [],.str [],.str [],.nilsl,.int .i64 0,.int .i64 0],.agg [.str [104],.int .i64 6,.int .i64 0,.bool false,.bool true,.int .i64 0,.int .i64 8,.int .i64 0,.nilsl,.str [],.str [],.str [],.nilsl,.int .i64 0,.int .i64 0]]],.agg [.str [115],.sl 0 2 15 [.agg [.str [110],.int .i64 1,.int .i64 8,.bool false,.bool false,.int .i64 0,.int .i64 3,.int .i64 0,.nilsl,.str [],.str [],.str [],.nilsl,.int .i64 0,.int .i64 0],.agg [.str [108],.int .i64 7,.int .i64 0,.bool false,.bool false,.int .i64 0,.int .i64 0,.int .i64 0,.sl 0 1 2 [.agg [.str [110],.int .i64 1]],.str [109],.str [],.str [],.nilsl,.int .i64 0,.int .i64 0]]]],.str [115]]
def Zxo:V:=.agg [.str [100],.sl 0 2 2 [.agg [.str [109],.sl 0 2 15 [.agg [.str [97],.int .i64 3,.int .i64 0,.bool false,.bool true,.int .i64 268435456,.int .i64 268435456,.int .i64 0,.nilsl,.str [],.str [],.str [],.nilsl,.int .i64 0,.int .i64 0],.agg [.str [104],.int .i64 6,.int .i64 0,.bool false,.bool true,.int .i64 0,.int .i64 6,.int .i64 0,.nilsl,.str [],.str [],.str [],.nilsl,.int .i64 0,.int .i64 0]]],.agg [.str [115],.sl 0 2 15 [.agg [.str [110],.int .i64 1,.int .i64 8,.bool false,.bool false,.int .i64 0,.int .i64 3,.int .i64 0,.nilsl,.str [],.str [],.str [],.nilsl,.int .i64 0,.int .i64 0],.agg [.str [108],.int .i64 7,.int .i64 0,.bool false,.bool false,.int .i64 0,.int .i64 0,.int .i64 0,.sl 0 1 2 [.agg [.str [110],.int .i64 1]],.str [109],.str [],.str [],.nilsl,.int .i64 0,.int .i64 0]]]],.str [109]]
def kq0:QX:=⟨11,40,40,[ZsK],.bool true⟩
def kq1:QX:=⟨11,40,40,[Zxo],.bool true⟩
def kq2:QX:=⟨17,40,40,[.str [115,40,110,32,108,41]],.tup [.agg [.str [115],.int .i64 0,.nilsl,.nilsl,.sl 0 2 5 [.agg [.str [110],.int .i64 0,.nilsl,.nilsl,.nilsl],.agg [.str [108],.int .i64 0,.nilsl,.nilsl,.nilsl]]],.int .i64 0]⟩
def kq3:QX:=⟨17,40,40,[.str [109,40,97,61,53,32,104,41]],.tup [.agg [.str [109],.int .i64 0,.nilsl,.nilsl,.sl 0 2 5 [.agg [.str [97],.int .i64 5,.nilsl,.nilsl,.nilsl],.agg [.str [104],.int .i64 0,.nilsl,.nilsl,.nilsl]]],.int .i64 0]⟩
def kq4:QX:=⟨17,40,40,[.str [115,40,110,61,49,32,108,40,109,40,97,61,51,48,48,32,104,41,41,41]],.tup [.agg [.str [115],.int .i64 0,.nilsl,.nilsl,.sl 0 2 5 [.agg [.str [110],.int .i64 1,.nilsl,.nilsl,.nilsl],.agg [.str [108],.int .i64 0,.nilsl,.nilsl,.sl 0 1 5 [.agg [.str [109],.int .i64 0,.nilsl,.nilsl,.sl 0 2 5 [.agg [.str [97],.int .i64 300,.nilsl,.nilsl,.nilsl],.agg [.str [104],.int .i64 0,.nilsl,.nilsl,.nilsl]]]]]]],.int .i64 0]⟩
def kq5:QX:=⟨274,40,40,[.sl 0 1 1 [.agg [.str [110]]],.str [46]],.str [110]⟩
def kq6:QX:=⟨274,40,40,[.sl 0 1 1 [.agg [.str [108]]],.str [46]],.str [108]⟩
def kq7:QX:=⟨274,40,40,[.sl 0 1 1 [.agg [.str [97]]],.str [46]],.str [97]⟩
def kq8:QX:=⟨274,40,40,[.sl 0 1 1 [.agg [.str [104]]],.str [46]],.str [104]⟩
def kq9:QX:=⟨274,40,40,[.sl 0 2 1 [.agg [.str [108]],.agg [.str [109]]],.str [46]],.str [108,46,109]⟩
def ZeR:QX:=⟨274,40,40,[.sl 0 2 1 [.agg [.str [108,46,109]],.agg [.str [97]]],.str [46]],.str [108,46,109,46,97]⟩
def ZeS:QX:=⟨274,40,40,[.sl 0 2 1 [.agg [.str [108,46,109]],.agg [.str [104]]],.str [46]],.str [108,46,109,46,104]⟩
def ZsQ:QX:=⟨10,40,40,[ZsK],.bool false⟩
def ZsR:QX:=⟨10,40,40,[Zxo],.bool true⟩
def ZsS:QX:=⟨12,40,40,[ZsK,.str [109]],.bool true⟩
def ZsT:QX:=⟨18,40,40,[ZsK,.str [115],.agg [.str [115],.int .i64 0,.nilsl,.nilsl,.sl 0 2 5 [.agg [.str [110],.int .i64 0,.nilsl,.nilsl,.nilsl],.agg [.str [108],.int .i64 0,.nilsl,.nilsl,.nilsl]]]],.tup [.bool true,.int .i64 0]⟩
def ZsU:QX:=⟨19,40,40,[.str [109],.str [109,40,97,61,53,32,104,41],.str [133,0,13,10],.int .i64 0],.bool true⟩
def ZsV:QX:=⟨19,40,40,[.str [115],.str [115,40,110,61,49,32,108,40,109,40,97,61,51,48,48,32,104,41,41,41],.str [1,172,130,0,13,10],.int .i64 0],.bool true⟩
theorem ZoR:Qq Zyg kq0:=Za8 (C:=⟨Zyg,Zgz 120,Zd1⟩) Zab kq0 (m:=20000) (by kernel_rfl)
theorem ZoS:Qq Zyg kq1:=Za8 (C:=⟨Zyg,Zgz 120,Zd1⟩) Zab kq1 (m:=20000) (by kernel_rfl)
theorem ZsM:Qq Zyg kq2:=Za8 (C:=⟨Zyg,Zgz 120,Zd1⟩) Zab kq2 (m:=20000) (by kernel_rfl)
theorem ZsN:Qq Zyg kq3:=Za8 (C:=⟨Zyg,Zgz 120,Zd1⟩) Zab kq3 (m:=20000) (by kernel_rfl)
theorem ZsO:Qq Zyg kq4:=Za8 (C:=⟨Zyg,Zgz 120,Zd1⟩) Zab kq4 (m:=20000) (by kernel_rfl)
end Go.DL
namespace Go.Proofs
open Go.Shelf Go.RowKit
def Tryz.joinL_ren:Go.Shelf.Ren:=⟨fun|156=>274|165=>303|166=>304|169=>305|240=>320|241=>321|276=>333|277=>334|n=>n,fun|31=>102|9=>9|3=>3|4=>4|0=>0|20=>20|72=>360|76=>119|70=>358|37=>53|75=>118|127=>287|164=>388|5=>5|80=>362|n=>n,fun|n=>n⟩
theorem Tryz.joinL:Go.Proofs.Lays.n156 Zyg Tryz.joinL_ren:={
 mixed:=by kernel_rfl
 f156:=Tryz.func274.trans (congrArg sO (by kernel_rfl))
 f165:=Tryz.func303.trans (congrArg sO (by kernel_rfl))
 f166:=Tryz.func304.trans (congrArg sO (by kernel_rfl))
 f169:=Tryz.func305.trans (congrArg sO (by kernel_rfl))
 f240:=Tryz.func320.trans (congrArg sO (by kernel_rfl))
 f241:=Tryz.func321.trans (congrArg sO (by kernel_rfl))
 f276:=Tryz.func333.trans (congrArg sO (by kernel_rfl))
 f277:=Tryz.func334.trans (congrArg sO (by kernel_rfl))
 t0:=Tryz.underlying0
 a0:=Tryz.isAgg0
 z0:=Tryz.sizeOf0
 v0:=Tryz.zeroValue0
 t3:=Tryz.underlying3
 a3:=Tryz.isAgg3
 z3:=Tryz.sizeOf3
 v3:=Tryz.zeroValue3
 t4:=Tryz.underlying4
 a4:=Tryz.isAgg4
 z4:=Tryz.sizeOf4
 v4:=Tryz.zeroValue4
 t9:=Tryz.underlying9
 a9:=Tryz.isAgg9
 z9:=Tryz.sizeOf9
 v9:=Tryz.zeroValue9
 t20:=Tryz.underlying20
 a20:=Tryz.isAgg20
 z20:=Tryz.sizeOf20
 v20:=Tryz.zeroValue20
 t31:=Tryz.underlying102
 a31:=Tryz.isAgg102
 z31:=Tryz.sizeOf102
 v31:=Tryz.zeroValue102
 t37:=Tryz.underlying53
 a37:=Tryz.isAgg53
 z37:=Tryz.sizeOf53
 v37:=Tryz.zeroValue53
 t70:=Tryz.underlying358
 a70:=Tryz.isAgg358
 z70:=Tryz.sizeOf358
 v70:=Tryz.zeroValue358
 t72:=Tryz.underlying360
 a72:=Tryz.isAgg360
 z72:=Tryz.sizeOf360
 v72:=Tryz.zeroValue360
 t75:=Tryz.underlying118
 a75:=Tryz.isAgg118
 z75:=Tryz.sizeOf118
 v75:=Tryz.zeroValue118
 t76:=Tryz.underlying119
 a76:=Tryz.isAgg119
 z76:=Tryz.sizeOf119
 v76:=Tryz.zeroValue119
 t127:=Tryz.underlying287
 a127:=Tryz.isAgg287
 z127:=Tryz.sizeOf287
 v127:=Tryz.zeroValue287
 t164:=Tryz.underlying388
 a164:=Tryz.isAgg388
 z164:=Tryz.sizeOf388
 v164:=Tryz.zeroValue388 }
theorem Tryz.joinX:Builder.Extra Zyg Tryz.joinL_ren:={
 sizeBuilder:=by kernel_rfl
 liesBuilder:=by kernel_rfl
 t5:=Tryz.underlying5
 a5:=Tryz.isAgg5
 z5:=Tryz.sizeOf5
 v5:=Tryz.zeroValue5
 infoByte:=by kernel_rfl
 cellsByte:=by kernel_rfl
 sizeByte:=by kernel_rfl
 neB5:=by decide }
end Go.Proofs
namespace Go.DL
open Go Go.Proofs Go.Lib Go.RowKit
theorem Zwt{w:World}{b o:Nat}{v:Value}(h:w.cell? ⟨b,o,nO⟩=sO v):b<w.heap.size:=by
 refine Nat.lt_of_not_le fun hle=>?_
 have hn:w.heap[b]?=nO:=Array.getElem?_eq_none hle
 simp[World.cell?,hn]at h
def joinL(l:List Str)(sep:Str):Str:=sep.intercalate l
theorem ZmO(l:List Str)(hn:l.length≤100000)(hj:(joinL l [46]).length≤100000000):ZA Zyg 274 [slD 1 ZgL l,.str [46]] (.str (joinL l [46])):=fun st=>by
 refine⟨⟨_,Tryz.func274,by kernel_rfl,by kernel_rfl⟩,fun g w vs hs ha=>?_⟩
 cases ha with
 |cons h1 ha =>
 cases ha with
 |cons h2 ha =>
 cases ha
 cases h2 with
 |str sep _ hsep hsb =>
 have hsep2:sep=⟨#[46]⟩:=by
  obtain⟨a⟩:=sep
  have:a.toList=[46]:=hsep
  have h2:a = #[46]:=by apply Array.ext';simpa using this
  rw[h2]
 subst hsep2
 unfold slD at h1
 have hgrow:∀w':World,Below w.heap.size w w'→ZbD g w g w':=fun w' hbel=>⟨hbel.size,fun c hc=>hbel.block c hc,fun _ _=>rfl,fun c hc=>(hs.fresh c (Nat.le_trans hbel.size hc)).1,rfl,hbel.os,hbel.output,hbel.tape⟩
 generalize hrow:(fun i=>ZgL (l.getD i dE))=row at h1
 generalize hln:l.length=n at h1
 cases h1 with
 |sl0 av _ _ _ ht =>
  obtain rfl:l=[]:=List.eq_nil_of_length_eq_zero hln
  refine(Any.strings_Join_none Tryz.joinL Tryz.joinX av 0 ⟨#[46]⟩ w).mono ?_
  rintro e w' ⟨rfl,rfl⟩
  exact⟨g,st,.ret (.str []),Ext.refl g _,hs,.str _ _ rfl (by simp[big]),rfl,rfl⟩
 |sl b o _ cap _ _ _ f hl hc hp hr one ht hcap hb =>
  subst hln
  subst hrow
  have hx:∀i (hi:i<l.length),∃x:ByteArray,f i 0=.string x∧x.data.toList=l[i]:=fun i hi=>by
   have:=hr i 0 (.str (l.getD i dE)) hi rfl
   generalize f i 0=v at this
   cases this with
   |str x _ h1 h2=>exact⟨x,rfl,by rw[h1];simp[Zyx,hi]⟩
  have hxs:∃xs:List ByteArray,xs.length=l.length∧xs.map (·.data.toList)=l∧∀(j:Nat) x,xs[j]?=sO x→f j 0=.string x:=by
   refine⟨List.ofFn fun i:Fin l.length=>Classical.choose (hx i.1 i.2),by simp,?_,fun j x hj=>?_⟩
   ·apply List.ext_getElem
    ·simp
    ·intro i h1 h2
     simp at h1
     simp only[List.getElem_map,List.getElem_ofFn]
     exact(Classical.choose_spec (hx i h1)).2
   ·obtain⟨hj1,hj2⟩:=List.getElem?_eq_some_iff.1 hj
    simp only[List.length_ofFn]at hj1
    simp only[List.getElem_ofFn]at hj2
    rw[←hj2]
    exact(Classical.choose_spec (hx j hj1)).1
  obtain⟨xs,hx1,hx2,hx3⟩:=hxs
  have hbk:0<l.length→b<w.heap.size:=fun h0=>by
   have:=hc 0 0 h0 (by omega)
   exact Zwt this
  have hJ:(Lib.join (xs.map (·.data.toList)) (⟨#[46]⟩:ByteArray).data.toList)=joinL l [46]:=by rw[hx2];rfl
  have hfin:∀w',Below w.heap.size w w'→∃g' s' res,Ext g w g' w'∧WQ g' s' w'∧Rep g' w' (.string ⟨(joinL l [46]).toArray⟩) (.str (joinL l [46]))∧res=Res.ret (.str (joinL l [46]))∧s'=st:=fun w' hbel =>
   ⟨g,st,.ret (.str (joinL l [46])),(hgrow w' hbel).ext hs.fresh,hs.grow (hgrow w' hbel),.str _ _ (by simp) (by unfold big;omega),rfl,rfl⟩
  by_cases h0:l.length=0
  ·obtain rfl:l=[]:=List.eq_nil_of_length_eq_zero h0
   refine(Any.strings_Join_none Tryz.joinL Tryz.joinX (sO ⟨b,o,nO⟩) cap ⟨#[46]⟩ w).mono ?_
   rintro e w' ⟨rfl,rfl⟩
   exact⟨g,st,.ret (.str []),Ext.refl g _,hs,.str _ _ rfl (by simp[big]),rfl,rfl⟩
  ·have hcall:=Any.strings_Join Tryz.joinL Tryz.joinX b o cap xs ⟨#[46]⟩ w (fun j x hj=>by
     have hjl:j<l.length:=by rw[←hx1];exact(List.getElem?_eq_some_iff.1 hj).1
     have:=hc j 0 hjl (by omega)
     rw[hx3 j x hj]at this
     simpa using this) (hbk (by omega)) (by omega) (by omega) (by rw[hJ];omega)
   rw[hJ,hx1]at hcall
   refine hcall.mono ?_
   rintro e w' ⟨rfl,hbel⟩
   obtain⟨g',s',res,a1,a2,a3,a4,a5⟩:=hfin w' hbel
   exact⟨g',s',res,a1,a2,by rw[a4];exact a3,a4,a5⟩
end Go.DL
namespace Go.DL
open Go Go.Proofs
variable {kp:Option (List Nat)}{L:Loc}{ρ:Env}{s:St}{w:World}{os:List DOp}{ds:List D}{B:List (Nat × Rd)}{dst:Option Nat}{tmps:Array Value}{g:G}{Φ:Res→St→Prop}{ν:Nat→Nat}{xs:List Opd}{side:Prop}{row:Nat→List D}{vs:List V}
theorem ZdY(l:List Str)(hn:l.length≤100)(hj:(joinL l [46]).length≤1000)(hr:∀i,i<l.length→row i=[.str (l.getD i dE)]){n:Nat}(he:n=l.length){r:List UInt8}(hr2:r=joinL l [46]):ZA Zyg 274 [.sl .none n 1 row,.str [46]] (.str r):=by
 subst he;subst hr2
 have h:We ZgL row l:=hr
 exact(ZmO l (by omega) (by omega)).leA (LeC.two (h.le rfl) (Zyj _))
theorem ZoT:Qq Zyg kq5:=Zb7 _ (ZdY [[110]] (by decide) (by decide) (fun i hi=>by match i,hi with|0,_=>rfl) rfl rfl) (by kernel_rfl) (by kernel_rfl)
theorem ZoU:Qq Zyg kq6:=Zb7 _ (ZdY [[108]] (by decide) (by decide) (fun i hi=>by match i,hi with|0,_=>rfl) rfl rfl) (by kernel_rfl) (by kernel_rfl)
theorem ZoV:Qq Zyg kq7:=Zb7 _ (ZdY [[97]] (by decide) (by decide) (fun i hi=>by match i,hi with|0,_=>rfl) rfl rfl) (by kernel_rfl) (by kernel_rfl)
theorem ZoW:Qq Zyg kq8:=Zb7 _ (ZdY [[104]] (by decide) (by decide) (fun i hi=>by match i,hi with|0,_=>rfl) rfl rfl) (by kernel_rfl) (by kernel_rfl)
theorem ZoX:Qq Zyg kq9:=Zb7 _ (ZdY [[108],[109]] (by decide) (by decide) (fun i hi=>by match i,hi with|0,_=>rfl|1,_=>rfl) rfl rfl) (by kernel_rfl) (by kernel_rfl)
theorem ZoY:Qq Zyg ZeR:=Zb7 _ (ZdY [[108,46,109],[97]] (by decide) (by decide) (fun i hi=>by match i,hi with|0,_=>rfl|1,_=>rfl) rfl rfl) (by kernel_rfl) (by kernel_rfl)
theorem ZoZ:Qq Zyg ZeS:=Zb7 _ (ZdY [[108,46,109],[104]] (by decide) (by decide) (fun i hi=>by match i,hi with|0,_=>rfl|1,_=>rfl) rfl rfl) (by kernel_rfl) (by kernel_rfl)
end Go.DL
