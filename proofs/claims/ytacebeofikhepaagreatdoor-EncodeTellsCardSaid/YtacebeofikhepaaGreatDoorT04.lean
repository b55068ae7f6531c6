/- Lemmas: A05, U03, U04, U05, W04, W05, W06, W07, W08, Z10, Z11, Z12, Z13, W09, W10, W11, W12, X01, X03, W13, SLay3, W14, W15, W16, W17, W18, W19, W20, W21, W22, W23, W24, W25, W26, W27, W28, W29, W30, W31, W33, W34, W35, W36, W37, X04, X05, W38, W39, W40, W41, W42, W43, W44, W45, W46, W47, W48, W49, X10, X11, X12, X13, X02, Y01. -/
import Derived.Test.YtacebeofikhepaaGreatDoorT03
set_option maxHeartbeats 16000000
set_option maxRecDepth 100000
set_option linter.all false
open List renaming length->I
open Option renaming some -> sO, none -> nO
open Inhabited renaming default -> dE
open Decidable renaming decide -> dC
open Go.Proofs.Tryz
open And renaming intro -> ZIA
open Bool renaming and_eq_true -> ZIJ, false_and -> ZJb, or_eq_true -> ZIW, true_and -> ZIY
open Go.DL.D.Le renaming refl -> ZIB
open Go.DL.St renaming single -> ZI0, sub_refl -> ZIz, sub_trans -> ZJh, sub_upd -> ZIZ, upd -> ZJc, upd_ne -> ZIG, upd_same -> ZIE, upd_upd -> ZIR
open Go.DL.Val renaming cells_eq -> ZI2
open Go.Proofs.Tryz renaming prog -> ZIy
open Int renaming reduceEq -> ZJg, reduceToNat -> ZIF
open List renaming append_assoc -> ZI1, append_nil -> ZI5, drop_eq_nil_of_le -> ZJk, flatMap_cons -> ZJl, getD -> ZIN, getElem?_append_left -> ZI6, getElem?_append_right -> ZJi, getElem?_eq_getElem -> ZI4, getElem?_eq_none -> ZJj, getElem_of_mem -> ZIV, length_append -> ZII, length_cons -> ZIP, length_drop -> ZI8, length_map -> ZIU, length_take -> ZIS, mem_cons -> ZJd, range -> ZIM, take_length -> ZJa
open Nat renaming le_refl -> ZIO, reduceAdd -> ZIH, reduceEqDiff -> ZIC, reduceLeDiff -> ZID
open Option renaming getD_some -> ZJe
open Option.some renaming injEq -> ZIx
namespace Go.DL
open Go Go.Proofs
variable {kp:Option (List Nat)}{L:Loc}{H:Env}{s:St}{w:World}{os:List DOp}{ds:List D}{B:List (Nat × Rd)}{dst:Option Nat}{tmps:Array Value}{g:G}{Φ:Res->St->Prop}{Z:Nat->Nat}{xs:List Opd}{side:Prop}{row:Nat->List D}
def Zy8{x z o}(u:s x=nO)(h:(s.or (ZI0 x o)) z=nO):z≠x/\s z=nO:=by
 refine⟨λe=>by subst e;rw[ZJ u,Yl]at h;simp at h,?_⟩;cases t:s z with
 |none=>rfl
 |some o=>rw[Zs t]at h;simp at h
def Mk(A:St):List Nat->St->Prop
 | [],S=>S=A
 |q::qs,S=>∃S',Mk A qs S'/\S' q=nO/\S=S'.upd q .dfr
def Mk.get{A z o}(h:A z=sO o):∀{qs S},Mk A qs S->S z=sO o
 | [],S,hm=>by rw[show S=A from hm];exact h
 |q::qs,S,hm=>by obtain⟨S',t,u,rfl⟩:=hm;have:=Mk.get h t;rw[ZIG _ _ (λe=>by rw[e,u]at this;simp at this)];exact this
def upd_comm{a b x y}(h:a≠b):(s.upd a x).upd b y=(s.upd b y).upd a x:=by
 funext c;by_cases u:c=b;subst u;rw[ZIE,ZIG _ _ (Ne.symm h),ZIE];rw[ZIG _ _ u];by_cases t:c=a;subst t;rw[ZIE,ZIE];rw[ZIG _ _ t,ZIG _ _ t,ZIG _ _ u]
def Mk.upd{A z o o'}(h:A z=sO o):∀{qs S},Mk A qs S->Mk (A.upd z o') qs (S.upd z o')
 | [],S,hm=>by rw[show S=A from hm];rfl
 |q::qs,S,hm=>by
  obtain⟨S',u,h2,rfl⟩:=hm;have:=Mk.get h u;have t:q≠z:=λe=>by rw[<-e,h2]at this;simp at this
  exact⟨S'.upd z o',u.upd h,by rw[ZIG _ _ t];exact h2,upd_comm t⟩
def Mk.unw{P A Ψ}(h:Ψ nO A):∀{qs S},Mk A qs S->Unw P (qs.map .mark) nO S Ψ
 | [],S,hm=>by rw[show S=A from hm];exact h
 |q::qs,S,hm=>by
  obtain⟨S',u,h2,rfl⟩:=hm;refine⟨ZIE _ _ _,?_⟩;have e:(S'.upd q .dfr).del q=S':=by funext c;by_cases t:c=q;subst t;simp[St.del,h2];simp[St.del,ZJc,t]
  rw[e];exact Mk.unw h u
def Zjc{s t:St}{q o}(h:s.sub t):(s.upd q o).sub (t.upd q o):=λb x u=>by
 by_cases hc:b=q;subst hc;rw[ZIE]at u⊢;exact u;rw[ZIG _ _ hc]at u⊢;exact h b x u
def ZzB{s t:St}{q}(h:s.sub t)(u:t q=nO):s q=nO:=by
 cases hs:s q with
 |none=>rfl
 |some o=>rw[h q o hs]at u;simp at u
def Znr{a t z o o'}(h:Z6 a t)(hz:a z=sO o):Z6 (a.upd z o') t:=λb x u=>by
 rw[ZIG _ _ (λe=>by subst e;rw[h b x u]at hz;simp at hz)];exact h b x u
def St.upd_self{b o}(h:s b=sO o):s.upd b o=s:=by
 funext c;by_cases t:c=b;subst t;rw[ZIE,h];rw[ZIG _ _ t]
def Zx9{d j i m f}(h:Qn d j m i f=0):Zhn f:=by
 unfold Qn at h;split at h;· omega
 split at h;· omega
 split at h;· omega
 split at h;· omega
 unfold Qo at h;refine⟨λhk=>?_,λhk=>?_⟩;have u:QM f=0:=by rcases hk with hk|hk<;>simp only[hk,ZJg,if_true,if_false]at h<;>exact h
 unfold QM at u;split at u;· omega
 rename_i t;simp only[Zc9,ZIW,ZIJ,Bool.not_eq_true',decide_eq_true_eq,decide_eq_false_iff_not,not_or]at t;omega;simp only[hk,ZJg,if_true,if_false]at h;split at h;· omega
 rename_i t;simp only[Zo7,ZIJ,ZIW,Bool.not_eq_true',decide_eq_true_eq,decide_eq_false_iff_not,not_and,not_or]at t;omega
def ZeA.bits{d j m}(h:ZeA d j m):∀f∈m.fields,Zhn f:=by
 intro f u;obtain⟨i,t,rfl⟩:=ZIV u;have:=Zx9 (h.field i t);simpa[ZIN,t]using this
def ZcM(m:Msg):Bool:=(ZIM (I m.fields+1)).all λi=>!Qr m.fields i
def Wk(d:Dfn):Bool:=Zf1 d&&d.msgs.all ZcM
def Zxe{m}(h:∀i,i<I m.fields+1->Qr m.fields i=false):ZcM m=true:=by
 unfold ZcM;rw[List.all_eq_true];intro i t;rw[h i (List.mem_range.1 t)];rfl
def Zu8{m i}(t:i<I m.fields+1)(h:Qr m.fields i=true):ZcM m=false:=by
 unfold ZcM;rw[List.all_eq_false];exact⟨i,List.mem_range.2 t,by rw[h];simp⟩
def atM{L s}(l i):qv L s (.iaddr 2) [.d (YX l),.d (.i i)]=sO (0<=i/\i<I l,.d (.ep (l.getD i.toNat dE).cells 0)):=rfl
def Zxc{L s}(l):qv L s .lenL [.d (YX l)]=sO (True,.d (.i (I l))):=rfl
def ZpZ(d st):Za ZIy 105 [.agg d.cells] st λr S=>S=st/\∃a f c,r=.ret (.tup [.agg [.i a,.i f,.i c],.bool (!Wk d)]):=by
 refine Zb (cR 105 f105) λF hF=>?_;have ac:=Wk.eq_1 d;refine rx @eQ2 ?_;refine rx @eQ2 ?_;rw[show(D.agg [.str d.name,YX d.msgs,.str d.start])=.agg d.cells from rfl];refine cV (Zpn d st) ?_ ?_
 .rintro dd S ⟨rfl,fa,ff,fc,h⟩;cases h;refine gR0 ?_;rw[Zur];refine rg ?_;refine cd (λhc=>?_) (λhc=>?_);have hv:Zf1 d=false:=by simpa using hc
  rw[hv,ZJb]at ac;refine rg ?_;refine hF.ret _ S rfl ψ (ZIB _) ZIz ⟨rfl,fa,ff,fc,?_⟩;rw[ac];simp[hv];rfl;have hv:Zf1 d=true:=by simpa using hc
  rw[hv,ZIY]at ac;have hV:=Zr0 hv;have hmany:=hV.many;refine rx (nd2 @Zxc @eQ2) ?_;refine Ze ?_;refine xP 2 λz2 h2=>?_;refine xP 3 λz3 h3=>?_;have k3:=Zo h3;have bc:=h2;have be:=k3.2;simp only[hv,Bool.not_true]at h3⊢;obtain⟨A,hA⟩:∃A,A=(S.upd z2 (.cells [.i fa,.i ff,.i fc])).upd z3 (.cells [.bool false]):=⟨_,rfl⟩;have g2:A z2=sO (.cells [.i fa,.i ff,.i fc]):=by rw[hA,ZIG _ _ k3.1.symm];exact ZIE _ _ _
  have g3:A z3=sO (.cells [.bool false]):=by rw[hA];exact ZIE _ _ _
  have ah:S.sub A:=by rw[hA];exact ZJh (ZIZ _ h2) (ZIZ _ h3)
  rw[<-hA];clear hA;obtain⟨A0,e0⟩:∃A0,A0=A:=⟨_,rfl⟩;rw[<-e0]at g2 g3 ah⊢;clear e0;refine lpU (λQ=>∀(n k:Nat),(I d.msgs)-k=n->∀(F:Fr ZIy) (qs:List Nat) (A:St),YL F [.cellN 2 3,.cell1 3] (λr S'=>S'=S/\∃a f c,r=.ret (.tup [.agg [.i a,.i f,.i c],.bool (!Wk d)])) (qs.map .mark)->Mk A0 qs A->k<=I d.msgs->(∀q,q<k->ZcM (d.msgs.getD q dE)=true)->Q F [(2,.d (.ptr z2 0)),(3,.d (.ptr z3 0)),(17,.d (YX d.msgs)),(18,.d (.i (I d.msgs))),(19,.d (.i k))] [] A) ?_ λbf=>?_
  .intro n;induction n using Nat.strongRecOn with
   |ind n ih_key =>
   intro k hn F qs A hF af hk ak;have au:=g2;have av:=g3;have g2:=Mk.get g2 af;have g3:=Mk.get g3 af;refine rg ?_;refine Zc (Zl rfl trivial (λh1=>?_) (λh1=>?_))
   .simp at h1;have hM:=hV.msg h1;have ad:=hM.bits;have hmf:=hM.many;have am:=λh=>Yc (q:=λj=>ZcM (d.msgs.getD j dE)=true) ak h;have aw:ZcM (d.msgs.getD k dE)=false->d.msgs.all ZcM=false:=λh=>by rw[List.all_eq_false];exact⟨_,ZE h1,by rw[h];simp⟩
    generalize hm:d.msgs.getD k dE=m at *;refine xA (nd2 @atM (nd2 @hm @eQ3)) ?_;refine rg ?_;refine cV (Zfd m.fields A) ?_ ?_
    .rintro dd S2 ⟨x,hx,hd,rfl⟩;cases hd;refine gR0 ?_;refine Ze ?_;refine xP 4 λz4 h4=>?_;refine xP 5 λz5 h5=>?_;have k5:=Zo h5;have o4:=Zy8 hx h4;have o5:=Zy8 hx k5.2;rw[Kc,Kc];obtain⟨B,hB⟩:∃B,B=(A.upd z4 (.cells [.i k])).upd z5 (.cells [.str m.name,Zq m.fields]):=⟨_,rfl⟩;have b5:B z5=sO (.cells [.str m.name,Zq m.fields]):=by rw[hB];exact ZIE _ _ _
     have b4:B z4=sO (.cells [.i k]):=by rw[hB,ZIG _ _ k5.1.symm];exact ZIE _ _ _
     have bg:z2≠z4:=λe=>by rw[e,o4.2]at g2;simp at g2
     have a0:z2≠z5:=λe=>by rw[e,o5.2]at g2;simp at g2
     have a4:z3≠z4:=λe=>by rw[e,o4.2]at g3;simp at g3
     have a5:z3≠z5:=λe=>by rw[e,o5.2]at g3;simp at g3
     have ap:z2≠z3:=λe=>by rw[e,g3]at g2;simp at g2
     have b2:B z2=sO (.cells [.i fa,.i ff,.i fc]):=by rw[hB,ZIG _ _ a0,ZIG _ _ bg];exact g2
     have b3:B z3=sO (.cells [.bool false]):=by rw[hB,ZIG _ _ a5,ZIG _ _ a4];exact g3
     have bx:B x=nO:=by rw[hB,ZIG _ _ o5.1.symm,ZIG _ _ o4.1.symm];exact hx
     have ai:A.sub B:=by rw[hB];exact ZJh (ZIZ _ o4.2) (ZIZ _ (by rw[ZIG _ _ k5.1];exact o5.2))
     rw[<-hB];clear hB;refine KT hF rfl trivial [2,3,4,5,17,18,19] (by show([2,3,4,5,17,18,19]:List Nat).Nodup;decide) (W9 bx) (ZdT m.fields ω ad x).Y (λj hj=>rfl)
      (λj=>if Qr m.fields j then .stop (.exit 0) else .next) (λj a=>((∀i,i<j->Qr m.fields i=false)/\a=B)\/((∃i,i<j/\Qr m.fields i=true)/\∃a1 a2 a3,a=(B.upd z3 (.cells [.bool true])).upd z2 (.cells [.i a1,.i a2,.i a3])))
      (.inl ⟨λi hi=>by omega,rfl⟩) ?_ ?_ ?_ ?_ ?_ ?_
     .intro j a hj ae hB F' ready aj hdr ax u;have ab:∀i,i<j->Qr m.fields i=false:=λi hi=>by have:=ae i hi;split at this;simp at this;rename_i h;simpa using h
      rcases hB with ⟨_,rfl⟩|⟨⟨i,hi,ag⟩,_⟩
      .skip
       simp only[Eqs,reduceCtorEq,ZIF,reduceIte,ZIC,ZIH,ZID,WN,Ki,Jd,Ks,List.isEmpty_nil,List.isEmpty_cons,Zxi];refine gG ?_;refine ax λaz=>?_;refine rh ?_;refine Zm ?_;simp only[Eqs,reduceCtorEq,ZIF,reduceIte,ZIC,ZIH,ZID,Zs b5];cases hw:Qr m.fields j with
       |false =>rw[if_neg (by rw[hw];simp)]at u;refine ZaE rfl rfl rfl rfl rfl φ φ (by exact Zhs m.fields ω ad j ω) (Zm ?_);simp only[Eqs,reduceCtorEq,ZIF,reduceIte,ZIC,ZIH,ZID,hw,Zs b3,Kc,St.upd_self b3];refine rh ?_;refine Zm ?_;simp only[Eqs,reduceCtorEq,ZIF,reduceIte,ZIC,ZIH,ZID,Zs b3];refine i0 ?_;refine ZK (Zr ?_);exact u.fin ⟨rfl,.inl ⟨Yc (q:=λi=>Qr m.fields i=false) ab hw,rfl⟩⟩ az ZIz
       |true =>
        rw[if_pos hw]at u;refine ZaE rfl rfl rfl rfl rfl φ φ (by exact Zhs m.fields ω ad j ω) (Zm ?_);simp only[Eqs,reduceCtorEq,ZIF,reduceIte,ZIC,ZIH,ZID,hw,Zs b3,Kc];obtain⟨C,hC⟩:∃C,C=a.upd z3 (.cells [.bool true]):=⟨_,rfl⟩;have c3:C z3=sO (.cells [.bool true]):=by rw[hC];exact ZIE _ _ _
        have c2:C z2=sO (.cells [.i fa,.i ff,.i fc]):=by rw[hC,ZIG _ _ ap];exact b2
        have c4:C z4=sO (.cells [.i k]):=by rw[hC,ZIG _ _ a4.symm];exact b4
        have c5:C z5=sO (.cells [.str m.name,Zq m.fields]):=by rw[hC,ZIG _ _ a5.symm];exact b5
        have hdC:Z6 C aj:=by rw[hC];exact Znr az b3
        rw[<-hC];refine rh ?_;refine Zm ?_;simp only[Eqs,reduceCtorEq,ZIF,reduceIte,ZIC,ZIH,ZID,Zs c3];refine i1 ?_;refine rh ?_;refine Zm ?_;simp only[Eqs,reduceCtorEq,ZIF,reduceIte,ZIC,ZIH,ZID,Zs c4,Zs c2,Kc];have a7:(C.upd z2 (.cells [.i k,.i j,.i 12])) z5=sO (.cells [.str m.name,Zq m.fields]):=by rw[ZIG _ _ a0.symm];exact c5
        have a6:=ZIE C z2 (.cells [.i k,.i j,.i 12]);have ay:Z6 (C.upd z2 (.cells [.i k,.i j,.i 12])) aj:=Znr hdC c2;refine rh ?_;refine Zm ?_;simp only[Eqs,reduceCtorEq,ZIF,reduceIte,ZIC,ZIH,ZID,Zs a7,Zfy];refine cd (λhe=>?_) (λhe=>?_);refine rh ?_;refine Zm ?_;simp only[Eqs,reduceCtorEq,ZIF,reduceIte,ZIC,ZIH,ZID,Zs a6,Kc,ZIR];exact u.exit rfl ⟨rfl,.inr ⟨⟨j,ω,hw⟩,k,-1,12,by rw[hC]⟩⟩ (Znr hdC c2) ZIz;refine ZK ?_;exact u.exit rfl ⟨rfl,.inr ⟨⟨j,ω,hw⟩,k,j,12,by rw[hC]⟩⟩ ay ZIz
      rw[ab i hi]at ag;simp at ag
     intro q a ae hB hq;have ab:∀i,i<I m.fields+1->Qr m.fields i=false:=λi hi=>by have:=ae i hi;split at this;simp at this;rename_i h;simpa using h
     rcases hB with ⟨_,rfl⟩|⟨⟨i,hi,ag⟩,_⟩;refine KN (Zjc ai) ?_;refine gA ?_;refine Zf ?_;exact ih_key ((I d.msgs)-(k+1)) ω (k+1) rfl _ (q::qs) _ (hF.mark q) ⟨A,af,ZzB ai hq,rfl⟩ ω (am (Zxe ab));rw[ab i hi]at ag;simp at ag;intro q a i hi ae t;split at t<;>simp at t;intro q a i id hi ae t hB hq;have bb:id=0:=by split at t;simp at t;exact t.symm;simp at t
     subst bb;have ao:Qr m.fields i=true:=by split at t;assumption;simp at t
     rcases hB with ⟨h,_⟩|⟨_,a1,a2,a3,rfl⟩;rw[h i ω]at ao;simp at ao;have a8:=aw (Zu8 hi ao);rw[a8]at ac;have q2:q≠z2:=λe=>by rw[e,ZIE]at hq;simp at hq
     have q3:q≠z3:=λe=>by rw[ZIG _ _ q2,e,ZIE]at hq;simp at hq
     have ba:B q=nO:=by rw[ZIG _ _ q2,ZIG _ _ q3]at hq;exact hq
     refine KN (Zjc (Zjc (Zjc ai))) ?_;obtain⟨X,hX⟩:∃X,X=((A.upd z3 (.cells [.bool true])).upd z2 (.cells [.i a1,.i a2,.i a3])).upd q .dfr:=⟨_,rfl⟩;have al:Mk ((A0.upd z3 (.cells [.bool true])).upd z2 (.cells [.i a1,.i a2,.i a3])) (q::qs) X:=⟨_,Mk.upd (o:=.cells [.i fa,.i ff,.i fc]) (by rw[ZIG _ _ ap];exact au) (Mk.upd av af),by rw[ZIG _ _ q2,ZIG _ _ q3];exact ZzB ai ba,hX⟩;have aq:=ZIE (A0.upd z3 (.cells [.bool true])) z2 (.cells [.i a1,.i a2,.i a3]);have ar:((A0.upd z3 (.cells [.bool true])).upd z2 (.cells [.i a1,.i a2,.i a3])) z3=sO (.cells [.bool true]):=by rw[ZIG _ _ ap.symm];exact ZIE _ _ _
     have x2:=Mk.get aq al;have x3:=Mk.get ar al;rw[<-hX];refine ZT rfl ?_;refine rh ?_;refine Yp ?_;simp only[Eqs,reduceCtorEq,ZIF,reduceIte,ZIC,ZIH,ZID,x2,x3,St.upd_self x2,St.upd_self x3];refine(hF.mark q).retU (al.unw ⟨_,_,.tup [.agg [.i a1,.i a2,.i a3],.bool true],S,by simp only[Eqs,reduceCtorEq,ZIF,reduceIte,ZIC,ZIH,ZID,YD,Kt,aq,ar];rfl,ψ,ZIB _,?_,rfl,a1,a2,a3,by rw[ac];rfl⟩);intro c o hc;have e2:c≠z2:=λe=>by rw[e,bc]at hc;simp at hc
     have e3:c≠z3:=λe=>by rw[e,be]at hc;simp at hc
     rw[ZIG _ _ e2,ZIG _ _ e3];exact ah c o hc;intro q a i d hi ae t;split at t<;>simp at t;intro i c t;split at t<;>simp at t;exact .inr ⟨0,t.symm⟩
    rintro dd S2 ⟨x,hx,hd,_⟩;cases hd
   simp at h1;obtain rfl:k=I d.msgs:=ω;have a9:d.msgs.all ZcM=true:=by rw[List.all_eq_true];intro x hx;obtain⟨q,hq,rfl⟩:=ZIV hx;have:=ak q hq;simpa[ZIN,hq]using this
   rw[a9]at ac;refine ZT rfl (Zc ?_);refine rh ?_;refine Yp ?_;simp only[Eqs,reduceCtorEq,ZIF,reduceIte,ZIC,ZIH,ZID,g2,g3,St.upd_self g2,St.upd_self g3];exact hF.retU (af.unw ⟨_,_,.tup [.agg [.i fa,.i ff,.i fc],.bool false],S,by simp only[Eqs,reduceCtorEq,ZIF,reduceIte,ZIC,ZIH,ZID,YD,Kt,au,av];rfl,ψ,ZIB _,ah,rfl,fa,ff,fc,by rw[ac];rfl⟩)
  exact bf _ 0 rfl F [] A0 hF rfl ω (by intro q hq;omega)
 rintro dd S ⟨_,a,f,c,h⟩;cases h
def Znc(d):Zd ZIy 74 [.agg d.cells] (.bool (Wk d)):=by
 refine Zg (cR 74 f74) λF st t=>?_;refine rx @eQ2 ?_;refine rx @eQ2 ?_;rw[show(D.agg [.str d.name,YX d.msgs,.str d.start])=.agg d.cells from rfl];refine cV (ZpZ d st) ?_ ?_;rintro u S ⟨rfl,a,f,c,h⟩;cases h;refine gR0 ?_;refine rg ?_;exact t rfl φ (by cases Wk d<;>exact ZIB _) ZIz;rintro u S ⟨_,a,f,c,h⟩;cases h
def ZBV{L s}(l i):qv L s (.iaddr 3) [.d (WS l),.d (.i i)]=sO (0<=i/\i<I l,.d (.ep (l.getD i.toNat dE).cells 0)):=rfl
def Zz4{L s}(l):qv L s .lenL [.d (WS l)]=sO (True,.d (.i (I l))):=rfl
def ZBu{L s}(l):qv L s .lenL [.d (Yi l)]=sO (True,.d (.i (I l))):=rfl
def ZCN(cs o):K3 (.d (.ep cs o))=[]:=rfl
def QS{d s}(h:0<=Zz d s (I d.msgs)):Zz d s (I d.msgs)=ixS d s/\ixS d s<I d.msgs:=by
 have:=WE (λm=>dC (m.name=s)) (d.msgs.take (I d.msgs));rw[ZIS]at this;unfold ixS;unfold Zz at *;omega
def ZcK{α:Type}[Inhabited α]{l:List α}{x}(h:x∈l):∃i,i<I l/\l.getD i dE=x:=by
 obtain⟨i,t,rfl⟩:=ZIV h;exact⟨i,t,by simp[ZIN,t]⟩
def Q5{d}(h:Wk d=true):QP d:=by
 unfold Wk at h;rw[ZIJ]at h;exact Zr0 h.1
def YG(f:Fld):Bool:=(!dC (f.kind=2)&&!dC (f.kind=10))&&!dC (f.kind=11)
def vfs(l:List Fld):List Fld:=l.filter YG
def Zjf{l:List Fld}{i}(h:i<I l):vfs (l.take (i+1))=vfs (l.take i)++if YG (l.getD i dE) then [l.getD i dE] else []:=by
 rw[Yo h];unfold vfs;rw[List.filter_append];congr 1;simp only[List.filter_cons,List.filter_nil]
def ZzN{l i}(h:i<I l):vfs l=vfs (l.take i)++((if YG (l.getD i dE) then [l.getD i dE] else [])++vfs (l.drop (i+1))):=by
 have t:l=l.take (i+1)++l.drop (i+1):=(List.take_append_drop _ _).symm;conv=>lhs;rw[t];unfold vfs;rw[List.filter_append]
 rw[show List.filter YG (l.take (i+1))=vfs (l.take (i+1)) from rfl,Zjf h,ZI1];rfl
def JJ(m:Msg)(ps:List Val):Bool:=dC ((vfs m.fields).map (·.name)=ps.map Val.name)
def ZbT{L s}(l):qv L s .lenL [.d (ZZ l)]=sO (True,.d (.i (I l))):=rfl
def atV{L s}(l i):qv L s (.iaddr 5) [.d (ZZ l),.d (.i i)]=sO (0<=i/\i<I l,.d (.ep (ZcS l i.toNat) 0)):=rfl
def KX{L s}(l):qv L s .lenL [.d (Zk l)]=sO (True,.d (.i (I l))):=rfl
def Zjg{l}(h:DWf (ZZ l)):I l<=big:=h.sl_inv.1
def Zd6(f):Zd ZIy 139 [.agg f.cells] (.bool (YG f)):=by
 refine Zg (cR 139 f139) λF st t=>?_;refine rx @eQ0 ?_;refine rg ?_;refine rb t ?_;rfl
def Zqq(k:Int):Bool:=dC (k=1) ||decide (k=3)
def Znj(k:Int):Bool:=dC (k=4) ||decide (k=5)
def WC(k:Int)(x:Val):Bool:=(((!Zqq k&&!dC (x.int=0)) ||(!Znj k&&dC (0<(I x.bytes:Int)))) ||(!dC (k=6)&&dC (0<(I x.hdrs:Int)))) ||(!dC (7<=k)&&dC (0<(I x.parts:Int)))
def Kq(have_ want:Int):Int:=if dC (have_<want) then 4 else if dC (want<have_) then 5 else 0
def WO(s:Str):List (Str×Int)->Int
 | []=>-1
 |x::r=>if x.1=s then x.2 else WO s r
def ZdN:List Fld->List Val->List (Str×Int)
 | [],_=>[]
 |f::r,ps=>(if f.kind=2 then [(f.name,f.low)] else [])++(if YG f then (if (dC (0<(I ps:Int))&&YB f) then [(f.name,(ps.getD 0 dE).int)] else [])++ZdN r (ps.drop 1) else ZdN r ps)
def ZbH(m:Msg)(ps:List Val):List (Str×Int):=ZdN m.fields ps
def ZCy{l:List Fld}{i}:(vfs (l.take i)).length<=i:=by
 unfold vfs;exact Nat.le_trans (List.length_filter_le _ _) (by simp;omega)
def Zbd(s:ZbN)(l:List (Str×Int)):Int:=s.base+Q3 (λt=>WO t.field l) s.terms
def ZaN(n:Nat):Str:=if n<10 then [UInt8.ofNat (48+n)] else ZaN (n / 10)++[UInt8.ofNat (48+n % 10)]
termination_by n
decreasing_by omega
def KU{n}(h:n<10):ZaN n=[UInt8.ofNat (48+n)]:=by rw[ZaN,if_pos h]
def Zip{n}(h:¬n<10):ZaN n=ZaN (n / 10)++ZaN (n % 10):=by
 rw[ZaN,if_neg h,KU (n:=n % 10) ω]
def Ziq(n):(ZaN n).length<=n+1:=by
 induction n using Nat.strongRecOn with
 |ind n ih =>by_cases h:n<10;rw[KU h];simp;rw[Zip h,ZII,KU (n:=n % 10) ω];have:=ih (n / 10) ω;simp;omega
def Jq(ps:List Val)(k:Nat):Nat:=((ps.take k).filter (λx=>dC (x.name=(ps.getD k dE).name))).length
def Ym(ps:List Val)(k:Nat):Str:=if Jq ps k=0 then (ps.getD k dE).name else (ps.getD k dE).name++[58]++ZaN (Jq ps k)
def ZN(path s:Str):Str:=if path=[] then s else path++[46]++s
def Zov(ps k):Jq ps k<=k:=by
 unfold Jq;exact Nat.le_trans (List.length_filter_le _ _) (by simp;omega)
def Zfr(ps:List Val)(k i:Nat):Nat:=((ps.take i).filter (λx=>dC (x.name=(ps.getD k dE).name))).length
def Zyt{ps k i}(h:i<I ps):Zfr ps k (i+1)=Zfr ps k i+if (ps.getD i dE).name=(ps.getD k dE).name then 1 else 0:=by
 unfold Zfr;rw[Yo h,List.filter_append,ZII]
 congr 1
 simp only[List.filter_cons,List.filter_nil];split<;>rename_i t<;>simp at t<;>simp[t]
def ZCd(ps k i):Zfr ps k i<=i:=by
 unfold Zfr;exact Nat.le_trans (List.length_filter_le _ _) (by simp;omega)
mutual
def Zd1:Val->Nat
 |.mk _ _ _ _ p=>1+nodesL p
def nodesL:List Val->Nat
 | []=>0
 |v::r=>Zd1 v+nodesL r
end
mutual
def Yy:Val->Nat
 |.mk _ _ _ _ p=>heightL p+1
def heightL:List Val->Nat
 | []=>0
 |v::r=>max (Yy v) (heightL r)
end
def ZdZ(h:Hdr):Bool:=dC ((1048576:Int)<I h.name) ||decide ((1048576:Int)<I h.text)
def Zac(v:Val):Bool:=(((((Wa v.name&&dC (0<=v.int))&&dC (v.int<34359738368))&&dC ((I v.bytes:Int)<=1048576))&&dC ((I v.hdrs:Int)<=100))&&!v.hdrs.any ZdZ)
mutual
def Ww:Val->Bool
 |.mk n i b h p=>okAllL p&&Zac (.mk n i b h p)
def okAllL:List Val->Bool
 | []=>true
 |v::r=>Ww v&&okAllL r
end
def ZaV(v):Zd1 v=1+nodesL v.parts:=by cases v;rfl
def Za6(v):Yy v=heightL v.parts+1:=by cases v;rfl
def ZiR(v):Ww v=(okAllL v.parts&&Zac v):=by cases v;rfl
def ZiQ{l}:okAllL l=l.all Ww:=by
 induction l with
 |nil=>rfl
 |cons v r ih=>rw[okAllL,ih,List.all_cons]
def ZgZ{l x}(h:x∈l):Yy x<=heightL l:=by
 induction l with
 |nil=>simp at h
 |cons v r ih =>rcases List.mem_cons.1 h with rfl|h;simp only[heightL];omega;have:=ih h;simp only[heightL];omega
def Qk{n}(h:-9223372036854775808<=n/\n<=9223372036854775807):IntKind.i64.wrap n=n :=
 Zai _ _ (by have h1:IntKind.i64.min=-9223372036854775808:=rfl;have h2:IntKind.i64.max=9223372036854775807:=rfl;unfold inR;omega)
def JM(v:Val):Bool:=(dC ((Zd1 v:Int)<=65536)&&dC ((Yy v:Int)<=40))&&Ww v
def Zdq(x n:Nat):Nat:=x*2 ^ n % 4294967296+x / 2 ^ (32-n)
def Zb4(n:Nat):IntKind.u32.wrap (n:Int)=((n % 4294967296:Nat):Int):=by
 have:IntKind.u32.wrap (n:Int)=(n:Int) % 4294967296:=rfl;rw[this];omega
def ZDI{a b:Nat}(ha:a<4294967296)(hb:b<4294967296):Qj .or .u32 (a:Int) (b:Int)=((a |||b:Nat):Int):=by
 have h:=Nat.or_lt_two_pow (n:=32) ha hb;unfold Qj;simp only;have t:(BitVec.ofInt 32 (a:Int)).toNat=a:=by rw[BitVec.toNat_ofInt];omega
 have u:(BitVec.ofInt 32 (b:Int)).toNat=b:=by rw[BitVec.toNat_ofInt];omega
 show IntKind.u32.wrap ((BitVec.ofInt 32 (a:Int) |||BitVec.ofInt 32 (b:Int)).toNat:Int)=_;rw[BitVec.toNat_or,t,u,Zb4,Nat.mod_eq_of_lt h]
def Zwv{a b:Nat}(ha:a<4294967296)(hb:b<4294967296):Qj .xor .u32 (a:Int) (b:Int)=((a ^^^ b:Nat):Int):=by
 have h:=Nat.xor_lt_two_pow (n:=32) ha hb;unfold Qj;simp only;have t:(BitVec.ofInt 32 (a:Int)).toNat=a:=by rw[BitVec.toNat_ofInt];omega
 have u:(BitVec.ofInt 32 (b:Int)).toNat=b:=by rw[BitVec.toNat_ofInt];omega
 show IntKind.u32.wrap ((BitVec.ofInt 32 (a:Int) ^^^ BitVec.ofInt 32 (b:Int)).toNat:Int)=_;rw[BitVec.toNat_xor,t,u,Zb4,Nat.mod_eq_of_lt h]
def Zzp{x n:Nat}(hx:x<4294967296)(hn:n<=32):x*2 ^ n % 4294967296 |||x / 2 ^ (32-n)=Zdq x n:=by
 unfold Zdq;have e:(4294967296:Nat)=2 ^ (32-n)*2 ^ n:=by rw[<-Nat.pow_add,Nat.sub_add_cancel hn]
 have t:x*2 ^ n % 4294967296=(x % 2 ^ (32-n)) <<< n:=by rw[Nat.shiftLeft_eq,e,Nat.mul_mod_mul_right]
 have u:x / 2 ^ (32-n)<2 ^ n:=Nat.div_lt_of_lt_mul (by rw[<-e];exact hx);rw[t,Nat.shiftLeft_add_eq_or_of_lt u]
def Zqu{x n:Nat}(t:x<4294967296)(u:n<=32):Zdq x n<4294967296:=by
 rw[<-Zzp t u];exact Nat.or_lt_two_pow (n:=32) (Nat.mod_lt _ (by decide)) (Nat.lt_of_le_of_lt (Nat.div_le_self _ _) t)
def Zhv{x n:Nat}(hx:x<4294967296)(hn:n=16\/n=12\/n=8\/n=7):Zd ZIy 281 [.int .u32 x,.i n] (.int .u32 (Zdq x n)):=by
 refine Zg (cR 281 f281) λF st ab=>?_;have t:Qj .and .u64 (n:Int) 31=(n:Int):=by rcases hn with rfl|rfl|rfl|rfl<;>rfl
 have ae:IntKind.u64.wrap (n:Int)=(n:Int):=by rcases hn with rfl|rfl|rfl|rfl<;>rfl
 have ac:IntKind.u32.wrap (J8 .u32 (x:Int) (n:Int))=((x*2 ^ n % 4294967296:Nat):Int):=by
  rw[<-Zb4];unfold J8;rw[Int.toNat_natCast,show Nat.min n IntKind.u32.bits=n from Nat.min_eq_left (by show n<=32;omega)]
  push_cast;rfl
 have ad:QE .u32 (x:Int) (32-(n:Int))=((x / 2 ^ (32-n):Nat):Int):=by
  unfold QE;have h1:(32-(n:Int)).toNat=32-n:=ω;rw[h1,show Nat.min (32-n) IntKind.u32.bits=32-n from Nat.min_eq_left (by show 32-n<=32;omega),Int.fdiv_eq_ediv_of_nonneg _ (by exact_mod_cast Nat.zero_le _)]
  push_cast;rfl
 have u:=ZDI (a:=x*2 ^ n % 4294967296) (b:=x / 2 ^ (32-n)) (Nat.mod_lt _ (by decide)) (Nat.lt_of_le_of_lt (Nat.div_le_self _ _) hx);rw[Zzp hx ω]at u;have hq:x / 2 ^ (32-n)<=x:=Nat.div_le_self _ _;refine rg ?_;refine rx (nd2 @ae @t) ?_;refine rh ?_;refine WI ?_;simp only[Eqs,reduceCtorEq,ZIF,reduceIte,ZIC,ZIH,ZID,W1,KC];refine ZpU rfl rfl rfl φ (ZEz ω) (WI ?_);simp only[Eqs,reduceCtorEq,ZIF,reduceIte,ZIC,ZIH,ZID,W1,KC,ac,ad,u];generalize x / 2 ^ (32-n)=y at *;refine aa ?_;refine ri ab ?_;rfl
def ZcD(r1 r2 a b c d:Nat):Nat×Nat×Nat×Nat :=
 let a1:=(a+b) % 4294967296;let d1:=Zdq (d ^^^ a1) r1;let c1:=(c+d1) % 4294967296
 (a1,Zdq (b ^^^ c1) r2,c1,d1)
def Zeo(a b c d:Nat):Nat×Nat×Nat×Nat :=
 let q:=ZcD 16 12 a b c d
 ZcD 8 7 q.1 q.2.1 q.2.2.1 q.2.2.2
def W4(q:Nat×Nat×Nat×Nat):Prop:=q.1<4294967296/\q.2.1<4294967296/\q.2.2.1<4294967296/\q.2.2.2<4294967296
def Zlr{a b:Nat}(t:a<4294967296)(u:b<4294967296):a ^^^ b<4294967296:=Nat.xor_lt_two_pow (n:=32) t u
def ZnG{r1 r2 a b c d:Nat}(h1:r1<=32)(h2:r2<=32)(h:W4 (a,b,c,d)):W4 (ZcD r1 r2 a b c d):=by
 have t:(a+b) % 4294967296<4294967296:=Nat.mod_lt _ (by decide);have u:∀x,(c+x) % 4294967296<4294967296:=λx=>Nat.mod_lt _ (by decide);exact⟨t,Zqu (Zlr h.2.1 (u _)) h2,u _,Zqu (Zlr h.2.2.2 t) h1⟩
def Zwf{a b c d:Nat}(h:W4 (a,b,c,d)):W4 (Zeo a b c d):=ZnG (by decide) (by decide) (ZnG (by decide) (by decide) h)
def w32(n:Nat):D:=.int .u32 n
structure Q4(T:St)(za zb zc zd:Nat)(q:Nat×Nat×Nat×Nat):Prop where
 a:T za=some (.cells [.int .u32 q.1])
 b:T zb=some (.cells [.int .u32 q.2.1])
 c:T zc=some (.cells [.int .u32 q.2.2.1])
 d:T zd=some (.cells [.int .u32 q.2.2.2])
structure N4(za zb zc zd:Nat):Prop where
 ab:za≠zb
 ac:za≠zc
 ad:za≠zd
 bc:zb≠zc
 bd:zb≠zd
 cd:zc≠zd
def Q4P(T:St)(za zb zc zd:Nat)(q:Nat×Nat×Nat×Nat)(r:Res)(S:St):Prop:=r=.ret (.tup [])/\Q4 S za zb zc zd q/\∀y,y≠za->y≠zb->y≠zc->y≠zd->S y=T y
def Zhz{T:St}{za zb zc zd a b c d r1 r2:Nat}(hr1:r1=16\/r1=12\/r1=8\/r1=7)(hr2:r2=16\/r2=12\/r2=8\/r2=7)(h:W4 (a,b,c,d))(hN:N4 za zb zc zd)(hT:Q4 T za zb zc zd (a,b,c,d)):
  Za ZIy 280 [.i r1,.i r2,.ptr za 0,.ptr zb 0,.ptr zd 0,.ptr zc 0] T (Q4P T za zb zc zd (ZcD r1 r2 a b c d)):=by
 refine Zb (cR 280 f280) λF hF=>?_;obtain⟨ha,hb,hc,hd⟩:=hT;simp only at ha hb hc hd;obtain⟨la,lb,lc,ld⟩:=h;simp only at la lb lc ld;have hA:ZcD r1 r2 a b c d=((a+b) % 4294967296,Zdq (b ^^^ (c+Zdq (d ^^^ (a+b) % 4294967296) r1) % 4294967296) r2,(c+Zdq (d ^^^ (a+b) % 4294967296) r1) % 4294967296,Zdq (d ^^^ (a+b) % 4294967296) r1):=rfl;have wa:IntKind.u32.wrap ((a:Int)+b)=(((a+b) % 4294967296:Nat):Int):=by rw[<-Zb4];push_cast;rfl
 have t:(a+b) % 4294967296<4294967296:=Nat.mod_lt _ (by decide);generalize (a+b) % 4294967296=a1 at *;have xd:=Zwv ld t;have af:=Zhv (Zlr ld t) hr1;have ld1:Zdq (d ^^^ a1) r1<4294967296:=Zqu (Zlr ld t) ω;generalize d ^^^ a1=da at *;generalize Zdq da r1=d1 at *;have wc:IntKind.u32.wrap ((c:Int)+d1)=(((c+d1) % 4294967296:Nat):Int):=by rw[<-Zb4];push_cast;rfl
 have u:(c+d1) % 4294967296<4294967296:=Nat.mod_lt _ (by decide);generalize (c+d1) % 4294967296=c1 at *;have xb:=Zwv lb u;have ae:=Zhv (Zlr lb u) hr2;generalize b ^^^ c1=bc at *;generalize Zdq bc r2=b1 at *;rw[hA]at hF;have n1:∀(T:St) o,(T.upd za o) zd=T zd:=λT o=>ZIG _ _ hN.ad.symm;have n2:∀(T:St) o,(T.upd za o) zc=T zc:=λT o=>ZIG _ _ hN.ac.symm;have n3:∀(T:St) o,(T.upd zd o) zc=T zc:=λT o=>ZIG _ _ hN.cd;have n4:∀(T:St) o,(T.upd za o) zb=T zb:=λT o=>ZIG _ _ hN.ab.symm;have n5:∀(T:St) o,(T.upd zd o) zb=T zb:=λT o=>ZIG _ _ hN.bd;have n6:∀(T:St) o,(T.upd zc o) zb=T zb:=λT o=>ZIG _ _ hN.bc;refine rh ?_;refine WI ?_;simp only[Eqs,reduceCtorEq,ZIF,reduceIte,ZIC,ZIH,ZID,W1,KC,ha,hb];refine Zb7 rfl rfl rfl φ (WI ?_);simp only[Eqs,reduceCtorEq,ZIF,reduceIte,ZIC,ZIH,ZID,W1,KC,wa,ha];refine aa ?_;refine rx (nd2 @n1 (nd2 @hd (nd2 @ZIE @xd))) ?_;refine cX (nd2 @n1 @hd) (af) ?_;refine aa ?_;refine rh ?_;refine WI ?_;simp only[Eqs,reduceCtorEq,ZIF,reduceIte,ZIC,ZIH,ZID,W1,KC,n2,n3,hc,ZIE];refine Zb7 rfl rfl rfl φ (WI ?_);simp only[Eqs,reduceCtorEq,ZIF,reduceIte,ZIC,ZIH,ZID,W1,KC,wc,n2,n3,hc,ZIE];refine aa ?_;refine rx (nd2 @n4 (nd2 @n5 (nd2 @n6 (nd2 @hb (nd2 @ZIE @xb))))) ?_;refine cX (nd2 @n4 (nd2 @n5 (nd2 @n6 @hb))) (ae) ?_;refine aa ?_;refine hF.fin (.tup []) _ rfl trivial (ZIB _) ZIz ⟨rfl,⟨?_,?_,?_,?_⟩,λy h1 h2 h3 h4=>?_⟩;rw[ZIG _ _ hN.ab,ZIG _ _ hN.ac,ZIG _ _ hN.ad,ZIE];rw[ZIE];rw[ZIG _ _ hN.bc.symm,ZIE];rw[ZIG _ _ hN.bd.symm,ZIG _ _ hN.cd.symm,ZIE];rw[ZIG _ _ h2,ZIG _ _ h3,ZIG _ _ h4,ZIG _ _ h1]
def Zmb{a b c d:Nat}(h:W4 (a,b,c,d)):Zd ZIy 264 [.int .u32 a,.int .u32 b,.int .u32 c,.int .u32 d] (.tup [.int .u32 (Zeo a b c d).1,.int .u32 (Zeo a b c d).2.1,.int .u32 (Zeo a b c d).2.2.1,.int .u32 (Zeo a b c d).2.2.2]):=by
 refine Zg (cR 264 f264) λF st t=>?_;have hq:Zeo a b c d=ZcD 8 7 (ZcD 16 12 a b c d).1 (ZcD 16 12 a b c d).2.1 (ZcD 16 12 a b c d).2.2.1 (ZcD 16 12 a b c d).2.2.2:=rfl;have hh:=ZnG (r1:=16) (r2:=12) (by decide) (by decide) h;rw[hq]at t;refine rg ?_;refine Zc ?_;refine xP 4 λza ha=>?_;refine xP 5 λzb hb=>?_;refine xP 6 λzc hc=>?_;refine xP 7 λzd hd=>?_;obtain⟨me,aj⟩:=Zo hd;obtain⟨ap,af⟩:=Zo aj;obtain⟨aq,ak⟩:=Zo af;obtain⟨nc,ah⟩:=Zo hc;obtain⟨ar,ai⟩:=Zo ah;obtain⟨nb,ag⟩:=Zo hb;have hN:N4 za zb zc zd:=⟨nb.symm,ar.symm,aq.symm,nc.symm,ap.symm,me.symm⟩;generalize ae:(((st.upd za (.cells [.int .u32 a])).upd zb (.cells [.int .u32 b])).upd zc (.cells [.int .u32 c])).upd zd (.cells [.int .u32 d])=S0;have hT:Q4 S0 za zb zc zd (a,b,c,d):=by rw[<-ae];refine⟨?_,?_,?_,?_⟩;rw[ZIG _ _ hN.ad,ZIG _ _ hN.ac,ZIG _ _ hN.ab,ZIE];rw[ZIG _ _ hN.bd,ZIG _ _ hN.bc,ZIE];rw[ZIG _ _ hN.cd,ZIE];rw[ZIE]
 have am:∀S:St,(∀y,y≠za->y≠zb->y≠zc->y≠zd->S y=S0 y)->st.sub S:=λS hS y o hy=>by
  have h1:y≠za:=λe=>by rw[e,ha]at hy;cases hy
  have h2:y≠zb:=λe=>by rw[e,ag]at hy;cases hy
  have h3:y≠zc:=λe=>by rw[e,ai]at hy;cases hy
  have h4:y≠zd:=λe=>by rw[e,ak]at hy;cases hy
  rw[hS y h1 h2 h3 h4,<-ae,ZIG _ _ h4,ZIG _ _ h3,ZIG _ _ h2,ZIG _ _ h1];exact hy
 refine gG ?_;refine ZbL rfl rfl rfl rfl rfl φ φ (by exact(Zhz (r1:=16) (r2:=12) (by decide) (by decide) h hN hT).V (first:=[]) (args:=[_,_]) (caps:=[_,_,_,_])) ?_ ?_;rintro dd S1 ⟨hr,hQ,hf⟩;cases hr;refine gR0 ?_;obtain⟨q,ao⟩:∃q,ZcD 16 12 a b c d=q:=⟨_,rfl⟩;rw[ao]at hQ hh t;refine rg ?_;refine ZbL rfl rfl rfl rfl rfl φ φ (by exact(Zhz (r1:=8) (r2:=7) (by decide) (by decide) hh hN hQ).V (first:=[]) (args:=[_,_]) (caps:=[_,_,_,_])) ?_ ?_;rintro dd S2 ⟨hr,u,al⟩;cases hr;refine gR0 ?_;refine rx (nd2 @u.a (nd2 @u.b (nd2 @u.c @u.d))) ?_;exact t rfl φ (ZIB _) (am S2 λy h1 h2 h3 h4=>by rw[al y h1 h2 h3 h4,hf y h1 h2 h3 h4]);rintro dd S ⟨hr,_⟩;cases hr;rintro dd S ⟨hr,_⟩;cases hr
def qA(i:Nat):Nat:=i % 4
def qB(i:Nat):Nat:=if i<4 then 4+i % 4 else 4+(i+1) % 4
def qC(i:Nat):Nat:=if i<4 then 8+i % 4 else 8+(i+2) % 4
def qD(i:Nat):Nat:=if i<4 then 12+i % 4 else 12+(i+3) % 4
def qSt(i:Nat)(s:List Nat):List Nat :=
 let q:=Zeo (s.getD (qA i) 0) (s.getD (qB i) 0) (s.getD (qC i) 0) (s.getD (qD i) 0)
 (((s.set (qA i) q.1).set (qB i) q.2.1).set (qC i) q.2.2.1).set (qD i) q.2.2.2
def ZgT:Nat->Nat->List Nat->List Nat
 |0,_,s=>s
 |n+1,i,s=>ZgT n (i+1) (qSt i s)
def Zym(i s):ZgT 0 i s=s:=rfl
def Zyl(n i s):ZgT (n+1) i s=ZgT n (i+1) (qSt i s):=rfl
def S16(s:List Nat):Prop:=I s=16/\∀x∈s,x<4294967296
def S16.at_{s}(h:S16 s)(i:Nat):s.getD i 0<4294967296:=by
 by_cases t:i<I s;have:s.getD i 0∈s:=by simp[ZIN,t]
 exact h.2 _ this;simp[ZIN,ZJj (Nat.le_of_not_lt t)]
def S16.set{s}(h:S16 s){i y:Nat}(hy:y<4294967296):S16 (s.set i y):=⟨by rw[List.length_set];exact h.1,λx u=>by
 rcases List.mem_or_eq_of_mem_set u with t|rfl;exact h.2 _ t;exact hy⟩
def S16.q{s}(h:S16 s)(i:Nat):S16 (qSt i s):=by
 have t:=Zwf (a:=s.getD (qA i) 0) (b:=s.getD (qB i) 0) (c:=s.getD (qC i) 0) (d:=s.getD (qD i) 0) ⟨h.at_ _,h.at_ _,h.at_ _,h.at_ _⟩;exact(((h.set t.1).set t.2.1).set t.2.2.1).set t.2.2.2
def S16.dbl:∀{n i s},S16 s->S16 (ZgT n i s)
 |0,_,_,h=>h
 |n+1,i,s,h=>S16.dbl (n:=n) (h.q i)
def Zh4{s:List Nat}{q}(h:q<I s):(s.map w32)[q*1]?=sO (.int .u32 (s.getD q 0:Nat)):=by
 rw[Nat.mul_one,List.getElem?_map];simp[ZIN,h,w32]
def Zl7{s:List Nat}{q}(y:Nat)(h:q<I s):(s.map w32).take (q*1)++[.int .u32 (y:Int)]++(s.map w32).drop (q*1+1)=(s.set q y).map w32:=by
 rw[Nat.mul_one,List.set_eq_take_append_cons_drop,if_pos h];simp[w32]
def ZBt:List D:=[.i 0,.i 4,.i 8,.i 12,.i 1,.i 5,.i 9,.i 13,.i 2,.i 6,.i 10,.i 14,.i 3,.i 7,.i 11,.i 15,.i 0,.i 5,.i 10,.i 15,.i 1,.i 6,.i 11,.i 12,.i 2,.i 7,.i 8,.i 13,.i 3,.i 4,.i 9,.i 14]
def ZCW{i:Nat}(h:i<8):List.take 4 (List.drop (i*4) ZBt)=[.i (qA i),.i (qB i),.i (qC i),.i (qD i)]:=by
 rcases(by omega:i=0\/i=1\/i=2\/i=3\/i=4\/i=5\/i=6\/i=7) with rfl|rfl|rfl|rfl|rfl|rfl|rfl|rfl<;>rfl
def ZEy{i:Nat}(h:i<8):qA i<16/\qB i<16/\qC i<16/\qD i<16:=by
 unfold qA qB qC qD;split<;>omega
def Znp{T:St}{z:Nat}{s:List Nat}(hs:S16 s)(hz:T z=sO (.cells (s.map w32))):Za ZIy 251 [.ptr z 0] T λr S=>r=.ret (.tup [])/\S=T.upd z (.cells ((ZgT 8 0 s).map w32)):=by
 refine Zb (cR 251 f251) λF hF=>?_;obtain⟨R,hR⟩:∃R,ZgT 8 0 s=R:=⟨_,rfl⟩;rw[hR]at hF;refine rg ?_;refine Ze (fr (8) (λi Q=>∀s1,S16 s1->ZgT (8-i) i s1=R->i<=8->Q [(0,.d (.ptr z 0)),(12,.d (.agg ZBt)),(13,.d (.i i))] [] (T.upd z (.cells (s1.map w32)))) (λn ab=>?_) λai=>?_);intro i hn2 s1 t hp hi;refine rg ?_;refine Zc (Zl rfl trivial (λhd=>?_) (λhd=>?_));simp only[decide_eq_true_eq]at hd;have ad:i<8:=ω;have ag:ZBt.length=32:=rfl;have ah:=ZCW ad;refine xA (nd2 @ag @ah) ?_;have hS:=t.1;have hq4:=Zwf (a:=s1.getD (qA i) 0) (b:=s1.getD (qB i) 0) (c:=s1.getD (qC i) 0) (d:=s1.getD (qD i) 0) ⟨t.at_ _,t.at_ _,t.at_ _,t.at_ _⟩;have af:=Zmb (a:=s1.getD (qA i) 0) (b:=s1.getD (qB i) 0) (c:=s1.getD (qC i) 0) (d:=s1.getD (qD i) 0) ⟨t.at_ _,t.at_ _,t.at_ _,t.at_ _⟩;obtain⟨la,lb,lc,ld⟩:=ZEy ad;have ra:=Zh4 (s:=s1) (q:=qA i) ω;have rb:=Zh4 (s:=s1) (q:=qB i) ω;have rc:=Zh4 (s:=s1) (q:=qC i) ω;have rd:=Zh4 (s:=s1) (q:=qD i) ω;have u:qSt i s1=(((s1.set (qA i) (Zeo (s1.getD (qA i) 0) (s1.getD (qB i) 0) (s1.getD (qC i) 0) (s1.getD (qD i) 0)).1).set (qB i) (Zeo (s1.getD (qA i) 0) (s1.getD (qB i) 0) (s1.getD (qC i) 0) (s1.getD (qD i) 0)).2.1).set (qC i) (Zeo (s1.getD (qA i) 0) (s1.getD (qB i) 0) (s1.getD (qC i) 0) (s1.getD (qD i) 0)).2.2.1).set (qD i) (Zeo (s1.getD (qA i) 0) (s1.getD (qB i) 0) (s1.getD (qC i) 0) (s1.getD (qD i) 0)).2.2.2:=rfl;have ac:=t.q i;rw[show 8-i=(8-(i+1))+1 by omega,Zyl]at hp;generalize qA i=a at *;generalize qB i=b at *;generalize qC i=c at *;generalize qD i=d at *;generalize Zeo (s1.getD a 0) (s1.getD b 0) (s1.getD c 0) (s1.getD d 0)=q at *;obtain⟨y1,y2,y3,y4⟩:=q;simp only at u af;rw[u]at hp ac;have e1:=Zl7 (s:=s1) y1 (show a<I s1 by omega);have e2:=Zl7 (s:=s1.set a y1) y2 (show b<_ by rw[List.length_set];omega);have e3:=Zl7 (s:=(s1.set a y1).set b y2) y3 (show c<_ by rw[List.length_set,List.length_set];omega);have e4:=Zl7 (s:=((s1.set a y1).set b y2).set c y3) y4 (show d<_ by rw[List.length_set,List.length_set,List.length_set];omega);refine rh ?_;refine Yp ?_;simp(maxSteps:=1000000) only[Eqs,reduceCtorEq,ZIF,reduceIte,ZIC,ZIH,ZID,ZIE,ra,rb,rc,rd,hS,Nat.reduceMul];repeat(refine ZIA (by first|omega|trivial|(intro h0;simp at h0;omega)) ?_)
 refine Zf8 rfl rfl rfl rfl rfl φ φ (by exact af) (Yp ?_);simp(maxSteps:=1000000) only[Eqs,reduceCtorEq,ZIF,reduceIte,ZIC,ZIH,ZID,ZIE,ZIR,e1,e2,e3,e4,hS,ZIU,List.length_set,Nat.reduceMul];refine aa ?_;rw[<-u];rw[<-u]at hp ac;refine gA ?_;refine Zf ?_;exact ab ((8)-(i+1)) ω (i+1) rfl (qSt i s1) ac hp ω;simp only[decide_eq_false_iff_not]at hd;obtain rfl:i=8:=ω;rw[Nat.sub_self,Zym]at hp;refine ZT rfl ?_;exact hF.fin (.tup []) _ rfl trivial (ZIB _) ZIz ⟨rfl,by rw[hp]⟩;have ae:=ai _ 0 rfl s hs hR ω;rw[St.upd_self hz]at ae;exact ae
end Go.DL
namespace Go.Proofs
open Go.Shelf
def Tryz.growI_ren:Go.Shelf.Ren:=⟨λ|4=>249|n=>n,λ|22=>120|25=>3|3=>3|4=>4|9=>9|20=>20|0=>0|n=>n,λ|n=>n⟩
def Tryz.growI:Go.Proofs.Lays8.n4 ZIy Tryz.growI_ren:={
 mixed:=by kernel_rfl
 f4:=⟨Tryz.f249.name,by decide,Tryz.func249.trans (congrArg sO (by kernel_rfl))⟩
 t0:=Tryz.underlying0
 a0:=Tryz.isAgg0
 z0:=Tryz.sizeOf0
 v0:=Tryz.zeroValue0
 t3:=Tryz.underlying3
 a3:=Tryz.isAgg3
 z3:=Tryz.sizeOf3
 v3:=Tryz.zeroValue3
 t4:=Tryz.underlying4
 a4:=Tryz.isAgg4
 z4:=Tryz.sizeOf4
 v4:=Tryz.zeroValue4
 t9:=Tryz.underlying9
 a9:=Tryz.isAgg9
 z9:=Tryz.sizeOf9
 v9:=Tryz.zeroValue9
 t20:=Tryz.underlying20
 a20:=Tryz.isAgg20
 z20:=Tryz.sizeOf20
 v20:=Tryz.zeroValue20
 t22:=Tryz.underlying120
 a22:=Tryz.isAgg120
 z22:=Tryz.sizeOf120
 v22:=Tryz.zeroValue120 }
end Go.Proofs
namespace Go.DL
open Go Go.Proofs Go.Lib
def itC(x:Int):List D:=[.i x]
def KA(l:List Int):D:=slD 1 itC l
def liC(l:List Int):List D:=[KA l]
def Zjl{l:List (List Int)}{i:Nat}(h:i<I l):(l.take (i+1)).flatten=(l.take i).flatten++l.getD i dE:=by
 rw[Yo h,List.flatten_append];simp
def ZdD(l:List (List Int))(i:Nat):(l.take i).flatten.length<=I l.flatten:=by
 conv=>rhs;rw[<-List.take_append_drop i l,List.flatten_append,ZII]
 omega
def Zle(n:Nat)(hn:n<=1000000)(st:St):Za ZIy 249 [.nilsl,.i n] st λr S=>∃t:Tok,r=.ret (.sl t 0 1 λ_=>[])/\t.okIn st/\S=st.own t 0:=by
 refine⟨⟨_,Tryz.func249,by kernel_rfl,by kernel_rfl⟩,λg w vs hs ha=>?_⟩;cases ha with
 |cons h1 ha =>
 cases ha with
 |cons h2 ha =>
 cases ha;cases h1;cases h2;by_cases h0:n=0;subst h0;refine(Any8.slices_Grow_room Tryz.growI nO 0 0 0 w ω ω ω ω).mono ?_;rintro e w' ⟨rfl,rfl⟩;exact⟨g,st,.ret (.sl .full 0 1 λ_=>[]),Ext.refl g _,hs,.sl0 _ _ _ _ ψ,.full,rfl,trivial,rfl⟩;have hz:Zab ZIy (Tryz.growI_ren.t 25)=sO [.i 0]:=by kernel_rfl
 have ai:ZS ZIy (Tryz.growI_ren.t 25)=sO 1:=by kernel_rfl
 have af:Program.bytesOf ZIy (Tryz.growI_ren.t 25)=8:=by kernel_rfl
 obtain⟨zv,hz1,aj,hz3,ie,ac,ak⟩:=Qh (g:=g) (w:=w) hz;have hsize:ie.size=1:=by simpa[ZS,ac]using ai
 have u:ie.bytes=8:=by rw[<-af];simp[Program.bytesOf,ac]
 have ad:zv.cells.size=1:=by have:=aj.len;simpa using this
 refine(Any8.slices_Grow_grow Tryz.growI ie zv ac ak ω nO 0 0 n [] w ω ω (by rw[u];omega) ω ψ (λ_=>rfl) (λa h=>by simp at h)).mono ?_;rintro e w' ⟨rfl,rfl⟩;have hge:=grownCap_ge w (0+n) 0 (Tryz.growI_ren.t 25);have ag:=grownCap_le_maxLen w (0+n) 0 (Tryz.growI_ren.t 25) (by simp only[maxLen];omega);have ah:WK g w 1 0 [] (λ_=>[]):=⟨ψ,λi hi=>by omega,λi j v d hi=>by omega,ψ⟩;have ab:=ZvG (T:=Tryz.growI_ren.t 25) (cap:=grownCap w (0+n) 0 (Tryz.growI_ren.t 25)) (rest:=(Builtin.zeroCells zv.cells (0+n-0)++Builtin.zeroCells zv.cells (grownCap w (0+n) 0 (Tryz.growI_ren.t 25)-(0+n))).toList) hs ah (Nat.zero_le _) (by
  simp only[List.length_nil,Array.toList_append,ZII,Array.length_toList,size_zeroCells,ad];omega) (by simp only[maxLen]at ag;simp only[big];omega)
 have ae:∀A B:Array Value,(([]:List Value)++(A++B).toList).toArray=([]:List Value).toArray++A++B:=by intro A B;simp
 rw[ae]at ab;obtain⟨a1,a2,a3,a4⟩:=ab;refine⟨_,_,.ret (.sl (.tip w.heap.size) 0 1 λ_=>[]),a1.ext hs.fresh,a2,a4,.tip w.heap.size,rfl,a3,rfl⟩
def Zi3(ls:List (List Int))(hls:I ls<=1000)(hb:I ls.flatten<=1000000)(st:St):Za ZIy 210 [slD 1 liC ls] st (λr S=>r=.ret (KA ls.flatten)/\S=st):=by
 refine Zb (cR 210 f210) λF hF=>?_;refine gG ?_;refine rx @eQ1 ?_;refine Ze (fr (I ls) (λi Q=>i<=I ls->Q [(0,.d (slD 1 liC ls)),(3,.d (.i ((ls.take i).flatten.length:Nat))),(9,.d (slD 1 liC ls)),(10,.d (.i (I ls))),(11,.d (.i i))] [] st) (λn af=>?_) λam=>?_);intro i hn hi;have aj:=ZdD ls i;refine rg ?_;refine Zc (Zl rfl trivial (λh1=>?_) (λh1=>?_));simp at h1;have ac:=congrArg List.length (Zjl h1);have ag:=ZdD ls (i+1);rw[ZII]at ac;generalize hx:ls.getD i dE=x at *;refine xA (nd2 @eQ1 (nd2 @liC.eq_1 @hx)) ?_;refine xA (nd2 @KA.eq_1 @eQ1) ?_;refine rg ?_;refine Zl rfl trivial (λh=>by simp at h;omega) (λ_=>?_);refine gA ?_;refine Zf ?_;have t:=af ((I ls)-(i+1)) ω (i+1) rfl ω;rw[ac,Int.natCast_add]at t;exact t;simp at h1;obtain rfl:i=I ls:=ω;rw[ZJa];refine rg ?_;refine cV (Zle (I ls.flatten) hb st) ?_ ?_;rintro d S ⟨tk,hd,ae,rfl⟩;cases hd;refine gR0 ?_;refine rx @eQ1 ?_;have ai:ZX itC (λ_=>[]) []:=ZX.nil;refine Ze (fr (I ls) (λk Q=>∀tk row ab,tk.okIn st->ZX itC row ab->ab=(ls.take k).flatten->k<=I ls->Q [(6,.d (.sl tk (I ab) 1 row)),(25,.d (slD 1 liC ls)),(26,.d (.i (I ls))),(27,.d (.i k))] [] (st.own tk (I ab*1))) (λn ad=>?_) λak=>?_);clear ae;intro k hnk tk row ab ae ah u hk;have aj:=ZdD ls k;rw[<-u]at aj;refine rx @eQ1 ?_;refine Zc (Zl rfl trivial (λh2=>?_) (λh2=>?_));simp at h2;have ac:=Zjl h2;have ag:=ZdD ls (k+1);rw[ac,ZII,<-u]at ag;generalize hx:ls.getD k dE=x at *;refine xA (nd2 @eQ1 (nd2 @liC.eq_1 @hx)) ?_;refine rx (nd2 @KA.eq_1 @eQ1) ?_;refine ZaC (st) (tk) rfl rfl rfl rfl rfl rfl φ φ rfl (by first|trivial|assumption) ω (by (unfold big;omega)) λt1 al=>Zm ?_;simp only[Eqs,reduceCtorEq,ZIF,reduceIte,ZIC,ZIH,ZID];refine gA ?_;refine Zf ?_;have t:=ad ((I ls)-(k+1)) ω (k+1) rfl t1 _ (ab++x) al (ah.app (ZX.self (l:=x)) rfl) (by rw[ac,u]) ω;rw[ZII]at t;exact t;simp at h2;obtain rfl:k=I ls:=ω;rw[ZJa]at u;refine rg ?_;refine hF.ret _ st rfl φ (QK (ah.le rfl)) (Y2 ae) ⟨by rw[u];rfl,rfl⟩;exact ak _ 0 rfl tk _ [] ae ai rfl ω;rintro d S ⟨tk,hd,_⟩;cases hd;have hk:=am _ 0 rfl ω;rw[List.take_zero,List.flatten_nil]at hk;exact hk
def Zf6(l f p)(sts:Nat->St)
  (hf:∀i,i<I l->VT ZIy f [.i (l.getD i dE)] (sts i) (.bool (p (l.getD i dE))) (sts (i+1))) :
  ZO ZIy 250 [slD 1 itC l,f] (sts 0) (.i (Zi p l)) (sts (KJ p l)):=by
 refine ZG (cR 250 f250) λad F t=>?_;have hw:=(Wm (ad (slD 1 itC l) ψ)).1;unfold big at hw;clear ad;refine rx @eQ1 ?_;refine rx @eQ1 ?_;refine Ze (fr (I l) (λi Q=>i<=I l->(∀j,j<i->p (l.getD j dE)=false)->Q [(0,.d (slD 1 itC l)),(1,.d f),(7,.d (.i (I l))),(8,.d (.i i))] [] (sts i)) (λn ab=>?_) λae=>?_);intro i hn hi u;refine rx @eQ1 ?_;refine Zc (Zl rfl trivial (λh1=>?_) (λh1=>?_));simp at h1;refine rx @eQ1 ?_;refine xA (nd2 @eQ1 @itC.eq_1) ?_;refine cW (hf i h1) ?_;refine cd (λh2=>?_) (λh2=>?_);have e1:=W2 h1 h2 u;have e2:=ZaY h1 h2 u;rw[e1,e2]at t;refine rg ?_;exact t rfl φ (ZIB _) ZIz;refine gA ?_;refine Zf ?_;exact ab ((I l)-(i+1)) ω (i+1) rfl ω (Yc (q:=λj=>p (l.getD j dE)=false) u h2);simp at h1;obtain rfl:i=I l:=ω;have ac:∀x∈l,p x=false:=λx hx=>by obtain⟨j,hj,rfl⟩:=ZIV hx;have:=u j hj;simpa[ZIN,hj]using this
 rw[Wp ac,Jf ac]at t;refine rg ?_;exact t rfl φ (ZIB _) ZIz;exact ae _ 0 rfl ω (by intro j hj;omega)
def Zes(l f p)(sts:Nat->St)
  (hf:∀i,i<I l->VT ZIy f [.i (l.getD i dE)] (sts i) (.bool (p (l.getD i dE))) (sts (i+1))) :
  ZO ZIy 211 [slD 1 itC l,f] (sts 0) (.bool (l.any p)) (sts (KJ p l)):=by
 refine ZG (cR 211 f211) λu F t=>?_;clear u;refine gG ?_;refine ct (Zf6 l f p sts hf) ?_;rw[Ja]at t;exact t rfl φ (ZIB _) ZIz
end Go.DL
namespace Go.DL
open Go Go.Proofs
variable {kp:Option (List Nat)}{L:Loc}{H:Env}{s:St}{w:World}{os:List DOp}{ds:List D}{B:List (Nat × Rd)}{dst:Option Nat}{tmps:Array Value}{g:G}{Φ:Res->St->Prop}{Z:Nat->Nat}{xs:List Opd}{side:Prop}{row:Nat->List D}
def Zr6:Zd ZIy 248 [.int .u64 1,.int .u64 8] (.tup [.int .u64 0,.int .u64 8]):=by
 refine Zg (cR 248 f248) λF st t=>?_;have a1:Qj .and .u64 1 4294967295=1:=rfl;have a2:Qj .and .u64 8 4294967295=8:=rfl;have a3:Qj .and .u64 0 4294967295=0:=rfl;have s1:QE .u64 1 32=0:=rfl;have s8:QE .u64 8 32=0:=rfl;have s0:QE .u64 0 32=0:=rfl;have m1:(1:Int)*8=8:=rfl;have m2:(0:Int)*8=0:=rfl;have m3:(1:Int)*0=0:=rfl;have m4:(0:Int)*0=0:=rfl;have u:(0:Int)+0=0:=rfl;refine rg ?_;refine rx @a1 ?_;refine xA @s1 ?_;refine rx @a2 ?_;refine xA @s8 ?_;refine xA @m1 ?_;refine xA (nd2 @m2 (nd2 @s8 @u)) ?_;refine rx @a3 ?_;refine xA @s0 ?_;refine xA (nd2 @m3 @u) ?_;refine xA (nd2 @m4 (nd2 @u @s0)) ?_;refine xA @m1 ?_;refine rt t ?_;rfl
def Zu0:Zd ZIy 209 [.int .u64 1,.int .u64 8] (.tup [.int .u64 0,.int .u64 8]):=by
 refine Zg (cR 209 f209) λF st t=>?_;refine rg ?_;refine iG ?_;refine cl (Zr6) ?_;refine rg ?_;refine rt t ?_;rfl
def Zxt(k:Int)(n:Nat):List D:=List.replicate n (.i k)++List.replicate (8-n) (.i 0)
def Zmy(k:Int)(T:St):Za ZIy 168 [KA [k],.i 8] T λr S=>∃z,T z=nO/\r=.ret (.msl z 0 8 8 1)/\S=T.upd z (.cells (List.replicate 8 (.i k))):=by
 refine Zb (cR 168 f168) λF u=>?_;have w1:IntKind.u64.wrap 1=1:=rfl;have w8:IntKind.u64.wrap 8=8:=rfl;have i8:IntKind.i64.wrap 8=8:=rfl;refine rg ?_;refine gI ?_;refine rx (nd2 @KA.eq_1 (nd2 @eQ1 (nd2 @w1 @w8))) ?_;refine cl (Zu0) ?_;refine gI ?_;refine rx @i8 ?_;refine⟨ω,ω,ω,by unfold big;omega,λz hz=>?_⟩;rw[show W3 [D.i 0] 8=List.replicate 8 (D.i 0) from rfl];refine rg ?_;have t:∀cs,Z2 (T.upd z (.cells cs)) z=sO cs:=λcs=>by simp only[Z2,ZIE]
 refine Zvy rfl rfl rfl rfl φ φ (t _) (by decide) (.elems (m:=1) (row:=λi=>itC ([k].getD i dE)) rfl) (by decide) (Zm ?_);simp only[Eqs,reduceCtorEq,ZIF,reduceIte,ZIC,ZIH,ZID,ZIR];show Zt F _ [(7,.d (.msl z 0 8 8 1)),(8,.d (.i 1))] [] (T.upd z (.cells (Zxt k 1)));refine Zc (Ze ?_);refine ZaF ?_;refine rg ?_;refine i1 ?_;refine gA ?_;refine Zjx rfl rfl rfl rfl φ φ (t _) (by exact Nat.le_of_ble_eq_true rfl) (WZ.msl (t _) (Nat.le_of_ble_eq_true rfl)) (by exact Nat.le_of_ble_eq_true rfl) (YE ?_);simp only[Eqs,reduceCtorEq,ZIF,reduceIte,ZIC,ZIH,ZID,ZIR];refine aa ?_;show Zt F _ [(7,.d (.msl z 0 8 8 1)),(8,.d (.i 2))] [] (T.upd z (.cells (Zxt k 2)));refine Zr (Zf ?_);refine rg ?_;refine i1 ?_;refine gA ?_;refine Zjx rfl rfl rfl rfl φ φ (t _) (by exact Nat.le_of_ble_eq_true rfl) (WZ.msl (t _) (Nat.le_of_ble_eq_true rfl)) (by exact Nat.le_of_ble_eq_true rfl) (YE ?_);simp only[Eqs,reduceCtorEq,ZIF,reduceIte,ZIC,ZIH,ZID,ZIR];refine aa ?_;show Zt F _ [(7,.d (.msl z 0 8 8 1)),(8,.d (.i 4))] [] (T.upd z (.cells (Zxt k 4)));refine Zr (Zf ?_);refine rg ?_;refine i1 ?_;refine gA ?_;refine Zjx rfl rfl rfl rfl φ φ (t _) (by exact Nat.le_of_ble_eq_true rfl) (WZ.msl (t _) (Nat.le_of_ble_eq_true rfl)) (by exact Nat.le_of_ble_eq_true rfl) (YE ?_);simp only[Eqs,reduceCtorEq,ZIF,reduceIte,ZIC,ZIH,ZID,ZIR];refine aa ?_;show Zt F _ [(7,.d (.msl z 0 8 8 1)),(8,.d (.i 8))] [] (T.upd z (.cells (Zxt k 8)));refine Zr (Zf ?_);refine rg ?_;refine iG ?_;exact u.ret (.msl z 0 8 8 1) _ rfl φ (ZIB _) ZIz ⟨z,hz,rfl,rfl⟩
def Q0:List Hdr->Nat
 | []=>0
 |h::r=>I h.name+I h.text+Q0 r
mutual
def wtN:Val->Nat
 |.mk n _ b h p=>10+I n+I b+Q0 h+wtL p
def wtL:List Val->Nat
 | []=>0
 |v::r=>wtN v+wtL r
end
def ZaA(v):wtN v=10+I v.name+I v.bytes+Q0 v.hdrs+wtL v.parts:=by cases v;rfl
def Zv9(v):10*Zd1 v<=wtN v:=by
 induction v using Val.ind with
 |h v ih =>
  rw[ZaA,ZaV];have:∀l:List Val,(∀x∈l,10*Zd1 x<=wtN x)->10*nodesL l<=wtL l:=λl t=>by
   induction l with
   |nil=>simp[nodesL]
   |cons a r ih2 =>have h1:=t a ψ;have h2:=ih2 λx u=>t x (by simp[u]);simp only[nodesL,wtL];omega
  have:=this v.parts ih;omega
def Zwt{l x}(h:x∈l):wtN x<=wtL l:=by
 induction l with
 |nil=>simp at h
 |cons v r ih =>rcases List.mem_cons.1 h with rfl|h;simp only[wtL];omega;have:=ih h;simp only[wtL];omega
def hsW(n:Int)(l:List Hdr):Int:=l.foldl (λa h=>IntKind.i64.wrap (IntKind.i64.wrap (a+I h.name)+I h.text)) n
def ZAD{n}{l:List Hdr}{i}(h:i<I l):IntKind.i64.wrap (IntKind.i64.wrap (hsW n (l.take i)+(l.getD i dE).name.length)+(l.getD i dE).text.length)=hsW n (l.take (i+1)):=by
 rw[Yo h];simp[hsW]
def Zdr(f:Val->Int):Int->List Val->Int
 |n,[]=>n
 |n,x::r=>if n<=5000 then Zdr f (IntKind.i64.wrap (n+f x)) r else n
def ZrS{f n}{l:List Val}{i}(h:i<I l):Zdr f n (l.drop i)=if n<=5000 then Zdr f (IntKind.i64.wrap (n+f (l.getD i dE))) (l.drop (i+1)) else n:=by
 rw[Wh h];rfl
def ZqT(f:Val->Int)(v:Val)(depth:Int):Int :=
 if (dC (50<depth) ||decide ((500:Int)<I v.parts)) ||decide ((50:Int)<I v.hdrs) then 5001
 else Zdr f (hsW (IntKind.i64.wrap (IntKind.i64.wrap (10+I v.name)+I v.bytes)) v.hdrs) v.parts
def Zru:∀(l) (n:Int),0<=n->n+Q0 l<=1000000000000->hsW n l=n+Q0 l
 | [],n,_,_=>by simp[hsW,Q0]
 |h::r,n,h0,h1=>by simp only[Q0]at h1⊢;have e:hsW n (h::r)=hsW (IntKind.i64.wrap (IntKind.i64.wrap (n+I h.name)+I h.text)) r:=rfl;rw[e,Qk (n:=n+I h.name) ω,Qk ω,Zru r _ ω ω];omega
def ZqJ(f:Val->Int):List Val->Int
 | []=>0
 |x::r=>f x+ZqJ f r
def Zwm{f M}(hM:0<=M/\M<=900000000000):∀(l n),0<=n->n<=1000000000000->(∀x∈l,0<=f x/\f x<=M)->n<=Zdr f n l/\Zdr f n l<=max n (5000+M)/\(Zdr f n l<=5000->Zdr f n l=n+ZqJ f l/\∀x∈l,f x<=5000)
 | [],n,h0,h1,_=>by simp only[Zdr,ZqJ];exact⟨ω,ω,λ_=>⟨ω,λx u=>by simp at u⟩⟩
 |x::r,n,h0,h1,hf=>by have u:=hf x ψ;simp only[Zdr,ZqJ];by_cases t:n<=5000;rw[if_pos t,Qk ω];obtain⟨a,b,c⟩:=Zwm hM r (n+f x) ω ω λy hy=>hf y (by simp[hy]);refine⟨ω,ω,λhr=>?_⟩;obtain⟨c1,c2⟩:=c hr;refine⟨ω,λy hy=>?_⟩;rcases List.mem_cons.1 hy with rfl|hy;omega;exact c2 y hy;rw[if_neg t];exact⟨ω,ω,λh=>by omega⟩
def Zw8{l k}(h:∀x∈l,Yy x<=k):heightL l<=k:=by
 induction l with
 |nil=>simp[heightL]
 |cons v r ih =>have h1:=h v ψ;have h2:=ih λx t=>h x (by simp[t]);simp only[heightL];omega
def ZDZ{f:Val->Int}{l}(h:∀x∈l,f x=wtN x):ZqJ f l=wtL l:=by
 induction l with
 |nil=>rfl
 |cons v r ih =>have h1:=h v ψ;have h2:=ih λx t=>h x (by simp[t]);simp only[ZqJ,wtL];omega
def ZmM{s}(h:Wa s=true):1<=I s/\I s<=32:=by
 cases s with
 |nil=>simp[Wa]at h
 |cons c r =>simp only[Wa,ZIJ,decide_eq_true_eq]at h;exact⟨ψ,h.1.1⟩
def ZAB{l}(h:l.any ZdZ=false):Q0 l<=2097152*I l:=by
 induction l with
 |nil=>simp[Q0]
 |cons a r ih =>rw[List.any_cons,Bool.or_eq_false_iff]at h;have h2:=ih h.2;have t:=h.1;unfold ZdZ at t;simp only[Bool.or_eq_false_iff,decide_eq_false_iff_not]at t;simp only[Q0,ZIP];omega
def QC{v}(h:Zac v=true):(1<=I v.name/\I v.name<=32)/\(0<=v.int/\v.int<34359738368)/\I v.bytes<=1048576/\I v.hdrs<=100/\Q0 v.hdrs<=2097152*I v.hdrs/\Wa v.name=true:=by
 unfold Zac at h;simp only[ZIJ,decide_eq_true_eq,Bool.not_eq_true']at h;obtain⟨⟨⟨⟨⟨t,u⟩,h3⟩,h4⟩,h5⟩,h6⟩:=h;exact⟨ZmM t,⟨u,h3⟩,ω,ω,ZAB h6,t⟩
def ZpO{h:Hdr}:Zd ZIy 102 [.agg h.cells] (.bool (ZdZ h)):=by
 refine Zg (cR 102 f102) λF st t=>?_;have u:dC ((1048576:Int)<max (I h.name:Int) (I h.text:Int))=ZdZ h:=by unfold ZdZ;rw[<-Bool.decide_or];exact decide_eq_decide.2 ω
 refine rx @Hdr.cells.eq_1 ?_;refine rg ?_;refine rb t ?_;exact u
def ZqR(l):Zd ZIy 103 [slD 2 Hdr.cells l,.fn (.func 102) [] []] (.bool (l.any ZdZ)) :=
 λst=>Jv l (λ_=>st) λi _=> ZpO.VT (first:=[]) (caps:=[]) st
def Zsw(v):Zd ZIy 70 [.agg v.cells] (.bool (Zac v)):=by
 refine Zg (cR 70 f70) λF st t=>?_;rw[v.cells_eq];refine gG ?_;refine rx (nd2 @KX @Zg5) ?_;refine cX (nd2 @KX @Zg5) (Za0 _) ?_;refine cG (ZqR v.hdrs) ?_;refine rb t ?_;unfold Zac;rfl
mutual
def Ql:Val->Int->List (Int×Val)
 |.mk n i b hd p,h=>(h,.mk n i b hd p)::preWL p (IntKind.i64.wrap (h+1))
def preWL:List Val->Int->List (Int×Val)
 | [],_=>[]
 |v::r,h=>Ql v h++preWL r h
end
def ZhN(v)(h:Int):Ql v h=(h,v)::preWL v.parts (IntKind.i64.wrap (h+1)):=by cases v;rfl
def Zpd{l:List Val}{i}(h:i<I l)(k):preWL (l.take (i+1)) k=preWL (l.take i) k++Ql (l.getD i dE) k:=by
 rw[Yo h];generalize l.getD i dE=x;induction l.take i with
 |nil=>simp[preWL]
 |cons y r ih=>simp only[List.cons_append,preWL,ih,ZI1]
def Zu9{l i}(h:i<I l)(k):preWL l k=preWL (l.take i) k++(Ql (l.getD i dE) k++preWL (l.drop (i+1)) k):=by
 have t:∀a b:List Val,preWL (a++b) k=preWL a k++preWL b k:=λa b=>by
  induction a with
  |nil=>rfl
  |cons x r ih=>simp only[List.cons_append,preWL,ih,ZI1]
 conv=>lhs;rw[<-List.take_append_drop (i+1) l]
 rw[t,Zpd h,ZI1]
def hvA(L:List (Int×Val))(j:Nat):List D:=[.i (L.getD j dE).1,.agg (L.getD j dE).2.cells]
def ZdB(v:Val)(h:Int)(za zv:Nat):St:=(ZI0 za (.cells [.i h])).or (ZI0 zv (.cells v.cells))
def ZCe{v}{h:Int}{za zv}:(ZdB v h za zv) za=sO (.cells [.i h]):=Zs Yl
def ZCf{v}{h:Int}{za zv}(t:zv≠za):(ZdB v h za zv) zv=sO (.cells v.cells):=by
 unfold ZdB;rw[ZJ (ZaZ t)];exact Yl
def Zrd{st v}{h:Int}{za zv}(h2:st za=nO)(h3:st zv=nO):Z6 st (ZdB v h za zv):=λb o t=>by
 unfold ZdB at t;cases u:(ZI0 za (.cells [.i h])) b with
 |some x=>exact W9 h2 _ _ u
 |none=>rw[ZJ u]at t;exact W9 h3 _ _ t
def Zjp(v)(h:Int)(st):Za ZIy 69 [.agg v.cells,.i h] st λr S=>∃u zv,st u=nO/\st zv=nO/\zv≠u/\r=.ret (.fn (.func 101) [] [.ptr u 0,.ptr zv 0])/\S=st.or (ZdB v h u zv):=by
 refine Zb (cR 69 f69) λF hF=>?_;have hE:∀u zv,ZdB v h u zv=(ZI0 u (.cells [.i h])).or (ZI0 zv (.cells v.cells)):=λ_ _=>rfl;rw[v.cells_eq]at hE⊢;refine rg ?_;refine Zc ?_;refine xP 3 λu ha=>?_;refine xP 2 λzv hv=>?_;have t:=Zo hv;refine rg ?_;refine hF.ret _ _ rfl φ (ZIB _) ZIz ⟨u,zv,ha,t.2,t.1,rfl,?_⟩;rw[Qq hv,Qq ha,or_assoc,hE]
def Mk.or{T a}:∀{qs S},Mk T qs S->Z6 a S->Mk (a.or T) qs (a.or S)
 | [],S,hm,_=>by rw[show S=T from hm];rfl
 |q::qs,S,hm,hd=>by
  obtain⟨S',h1,h2,rfl⟩:=hm;have hq:a q=nO:=hd q _ (ZIE _ _ _);have t:Z6 a S':=λb o hb=>hd b o (by rw[ZIG _ _ (λe=>by rw[e,h2]at hb;simp at hb)];exact hb);refine⟨a.or S',h1.or t,by rw[ZJ hq];exact h2,?_⟩;funext c;by_cases hc:c=q;subst hc;rw[ZIE,ZJ hq,ZIE];rw[ZIG _ _ hc];cases u:a c with
  |some x=>rw[Zs u,Zs u]
  |none=>rw[ZJ u,ZJ u,ZIG _ _ hc]
def Mk.unwS{P A m Ψ}(h:Ψ m A):∀{qs S},Mk A qs S->Unw P (qs.map .mark) m S Ψ
 | [],S,hm=>by rw[show S=A from hm];exact h
 |q::qs,S,hm=>by
  obtain⟨S',u,h2,rfl⟩:=hm;refine⟨ZIE _ _ _,?_⟩;have e:(S'.upd q .dfr).del q=S':=by funext c;by_cases t:c=q;subst t;simp[St.del,h2];simp[St.del,ZJc,t]
  rw[e];exact Mk.unwS h u
def Q9{s t:St}{b}(h:(s.or t) b=nO):s b=nO/\t b=nO:=by
 cases u:s b with
 |none=>rw[ZJ u]at h;exact⟨rfl,h⟩
 |some o=>rw[Zs u]at h;simp at h
def ZCc{a s t}(h1:Z6 a s)(h2:Z6 (a.or s) t):Z6 a (s.or t):=λb o u=>by
 cases hs:s b with
 |some x=>exact h1 b x hs
 |none =>rw[ZJ hs]at u;exact(Q9 (h2 b o u)).1
def ZhL{s t:St}{b o}(h:s b=nO):(s.or t).upd b o=s.or (t.upd b o):=by
 funext c;by_cases hc:c=b;subst hc;rw[ZIE,ZJ h,ZIE];rw[ZIG _ _ hc];cases u:s c with
 |some x=>rw[Zs u,Zs u]
 |none=>rw[ZJ u,ZJ u,ZIG _ _ hc]
def Zge{s t b o}(hd:Z6 s t)(h:s b=nO):Z6 s (t.upd b o):=λc x hc=>by
 by_cases u:c=b;subst u;exact h;rw[ZIG _ _ u]at hc;exact hd c x hc
def ZtI{s a t u:St}(h1:Z6 s (t.or u))(h2:Z6 (a.or t) u):Z6 s t/\Z6 (s.or t) u:=by
 refine⟨λb o hb=>h1 b o (Zs hb),λb o hb=>?_⟩;have h3:=(Q9 (h2 b o hb)).2;have h4:=h1 b o (by rw[ZJ h3];exact hb);rw[ZJ h4];exact h3
def goE(go:Nat->Oc)(k j:Nat):Oc:=match go (k+j) with
 |.next=>.next
 |.stop _=>.stop (.exit 0)
 |.pan d=>.pan d
def ZAw{t k j}(h:goE t k j=.next):t (k+j)=.next:=by
 unfold goE at h;split at h<;>first|assumption|simp at h
def ZlR{t k n}(u:∀j,j<k->t j=.next)(h2:∀j,j<n->goE t k j=.next):∀j,j<k+n->t j=.next:=λj hj=>by
 by_cases h:j<k;exact u j h;have:=ZAw (h2 (j-k) ω)
 rwa [show k+(j-k)=j by omega]at this
def ZAt{α:Type}[Inhabited α]{a b c:List α}{k j}(u:k=I a)(t:j<I b):(a++(b++c)).getD (k+j) dE=b.getD j dE:=by
 subst u;simp[ZIN,ZJi,ZI6 t]
def ZpM(v):∀(h:Int) (za zv),zv≠za->ZjD ZIy (.fn (.func 101) [] [.ptr za 0,.ptr zv 0]) (Ql v h).length (hvA (Ql v h)) (ZdB v h za zv):=by
 induction v using Val.ind with
 |h v ih =>
 intro h za zv bb l go A a0 al hA hd;have hL:=ZhN v h;obtain⟨h1,a6⟩:∃h1,h1=IntKind.i64.wrap (h+1):=⟨_,rfl⟩;rw[<-a6]at hL;generalize Ql v h=LL at *;have aq:0<LL.length:=by rw[hL];simp
 have be:hvA LL 0=[.i h,.agg [.str v.name,.i v.int,Zk v.bytes,Yg v.hdrs,ZZ v.parts]]:=by unfold hvA;rw[hL,<-ZI2];rfl
 refine Za.V (first:=[]) (args:=[.fn (.yield l) [] []]) (caps:=[.ptr za 0,.ptr zv 0]) (Zb (cR 101 f101) λF hF=>?_);have ga:=ZCe (v:=v) (h:=h) (za:=za) (zv:=zv);have gv:=ZCf (v:=v) (h:=h) bb;rw[ZI2]at gv;generalize ZdB v h za zv=T at *;refine rg ?_;refine Ys (Zc (Zc ?_));refine xP 3 λz3 h3=>?_;obtain⟨av,ak⟩:=Q9 h3;have a9:((a0.or T).upd z3 (.cells [.fn (.yield l) [] []]))=a0.or (T.upd z3 (.cells [.fn (.yield l) [] []])):=ZhL av;rw[a9];clear a9;have am:=Zge (o:=.cells [.fn (.yield l) [] []]) hd av;have g3:(T.upd z3 (.cells [.fn (.yield l) [] []])) z3=sO (.cells [.fn (.yield l) [] []]):=ZIE _ _ _;have ay:(T.upd z3 (.cells [.fn (.yield l) [] []])) za=sO (.cells [.i h]):=by rw[ZIG _ _ (λe=>by rw[<-e,ga]at ak;simp at ak)];exact ga
 have az:(T.upd z3 (.cells [.fn (.yield l) [] []])) zv=sO (.cells [.str v.name,.i v.int,Zk v.bytes,Yg v.hdrs,ZZ v.parts]):=by rw[ZIG _ _ (λe=>by rw[<-e,gv]at ak;simp at ak)];exact gv
 clear h3 av ak ga gv hd;generalize (T.upd z3 (.cells [.fn (.yield l) [] []]))=T3 at *;have rd:∀{a Tq:St} {b:Nat} {o:QO},Z6 a Tq->Tq b=sO o->(a.or Tq) b=sO o:=λao hb=>by rw[ZJ (ao _ _ hb)];exact hb
 have u:=(al 0 aq (λi hi=>absurd hi (Nat.not_lt_zero _)) a0 hA).frame am;rw[be]at u;refine rh ?_;refine Zm ?_;simp only[Eqs,reduceCtorEq,ZIF,reduceIte,ZIC,ZIH,ZID,rd am g3,rd am ay,rd am az];refine vV (u) ?_ ?_
 .rintro d S ⟨s',⟨hr,ac⟩,ad,rfl⟩;cases t:go 0 with
  |next =>
   rw[t]at hr;cases hr;refine gR0 ?_;refine i0 ?_;refine rh ?_;refine Zm ?_;simp only[Eqs,reduceCtorEq,ZIF,reduceIte,ZIC,ZIH,ZID,rd ad az,ZbT];refine ZBJ 14 rfl λba=>?_;have hw:=Zjg ba;unfold big at hw;clear ba u am hA;refine Ze ?_;refine lpU (λQ=>∀(n i:Nat),(I v.parts)-i=n->∀(F:Fr ZIy) (qs:List Nat) (Tq a:St),YL F [] (λr S=>∃a,Zho LL.length go A a r/\a.sub S) (qs.map .mark)->Mk T3 qs Tq->Z6 a Tq->A (1+(preWL (v.parts.take i) h1).length) a->(∀j,j<1+(preWL (v.parts.take i) h1).length->go j=.next)->i<=I v.parts->Q F [(1,.d (.ptr za 0)),(3,.d (.ptr z3 0)),(14,.d (ZZ v.parts)),(15,.d (.i (I v.parts))),(16,.d (.i i))] [] (a.or Tq)) ?_ λbg=>?_
   .intro n;induction n using Nat.strongRecOn with
    |ind n ih_key =>
    clear ad ac t hF s';intro i hn F qs Tq a hF aj ao hA ah hi;refine rg ?_;refine Zc (Zl rfl trivial (λhc=>?_) (λhc=>?_))
    .simp at hc;have bc:=K6 hc;have a8:=ZE hc;have hT:=Zpd hc h1;have hS:=Zu9 hc h1;have bf:=ih _ a8;generalize hk:1+(preWL (v.parts.take i) h1).length=k at *;generalize hx:v.parts.getD i dE=x at *;refine xA (nd2 @atV @bc) ?_;refine rh ?_;refine WI ?_;simp only[Eqs,reduceCtorEq,ZIF,reduceIte,ZIC,ZIH,ZID,W1,KC,rd ao (aj.get ay)];refine Zb7 rfl rfl rfl φ (WI ?_);simp only[Eqs,reduceCtorEq,ZIF,reduceIte,ZIC,ZIH,ZID,W1,KC];rw[<-a6];have a5:=Zjp x h1 (a.or Tq);rw[ZI2]at a5;refine cV (a5) ?_ ?_
     .rintro dd S ⟨zx,zy,n1,n2,ne,hr,rfl⟩;cases hr;refine gR0 ?_;refine Ze ?_;refine KT hF rfl trivial [1,3,14,15,16] (by show([1,3,14,15,16]:List Nat).Nodup;decide) (Zrd n1 n2) (bf h1 zx zy ne) (λj hj=>rfl) (goE go k) (λj s=>∃a,s=a.or Tq/\A (k+j) a/\Z6 a Tq) ⟨a,rfl,hA,ao⟩ ?_ ?_ ?_ ?_ ?_ ?_
      .rintro j _ hj ab ⟨a1,rfl,af,ae⟩ F' ready busy hdr a4 ap;have a7:LL.getD (k+j) dE=(Ql x h1).getD j dE:=by rw[hL,hS,<-hk,<-List.cons_append];exact ZAt (by simp;omega) hj
       have ar:k+j<LL.length:=by rw[hL,hS];simp only[ZIP,ZII];omega
       have u:=al (k+j) ar (λi hi=>ZlR ah ab i hi) a1 af;unfold hvA at u;rw[a7]at u;simp only[Eqs,reduceCtorEq,ZIF,reduceIte,ZIC,ZIH,ZID,WN,Ki,Jd,Ks,List.isEmpty_nil,List.isEmpty_cons,hvA];generalize (Ql x h1).getD j dE=g at *;obtain⟨gh,gx⟩:=g;simp only[ZI2]at u⊢;refine gG ?_;refine a4 λax=>?_;have ai:=u.frame (ZCc ae ax);rw[<-or_assoc]at ai;refine rh ?_;refine Zm ?_;simp only[Eqs,reduceCtorEq,ZIF,reduceIte,ZIC,ZIH,ZID,Zs (rd ae (aj.get g3))];refine vV (ai) ?_ ?_
       .rintro d S ⟨s',⟨hr,ac⟩,ad,rfl⟩;have ag:=ZtI ad ax;rw[<-or_assoc];cases t:go (k+j) with
        |next =>rw[t]at hr;cases hr;refine gR0 ?_;refine i0 ?_;refine ZK (Zr ?_);exact ap.fin ⟨by unfold goE;rw[t],s',rfl,ac,ag.1⟩ ag.2 ZIz
        |stop c =>rw[t]at hr;cases hr;refine gR0 ?_;refine i1 ?_;exact ap.exit rfl ⟨by unfold goE;rw[t],s',rfl,ac,ag.1⟩ ag.2 ZIz
        |pan d=>rw[t]at hr;cases hr
       rintro d S ⟨s',⟨hr,ac⟩,ad,rfl⟩;have ag:=ZtI ad ax;cases t:go (k+j) with
       |pan d' =>rw[t]at hr;cases hr;rw[<-or_assoc];exact ap.pan ⟨by unfold goE;rw[t],s',rfl,ac,ag.1⟩ ag.2 ZIz
       |next=>rw[t]at hr;cases hr
       |stop c=>rw[t]at hr;cases hr
      rintro q _ ab ⟨a1,rfl,af,ae⟩ hq;obtain⟨q1,q2⟩:=Q9 hq;rw[ZhL q1];have au:1+(preWL (v.parts.take (i+1)) h1).length=k+(Ql x h1).length:=by rw[hT,ZII];omega
      refine gA ?_;refine Zf ?_;exact ih_key (I v.parts-(i+1)) ω (i+1) rfl (F.mark q) (q::qs) (Tq.upd q .dfr) a1 (hF.mark q) ⟨Tq,aj,q2,rfl⟩ (Zge ae q1) (by rw[au];exact af) (by rw[au];exact ZlR ah ab) ω;rintro q _ m hm ab t;unfold goE at t;split at t<;>simp at t;rintro q _ m id hm ab t ⟨a1,rfl,af,ae⟩ hq;obtain⟨q1,q2⟩:=Q9 hq;rw[ZhL q1];have ar:k+m<LL.length:=by rw[hL,hS];simp only[ZIP,ZII];omega
      unfold goE at t;split at t;simp at t;rename_i c aw;simp only[Oc.stop.injEq,Code.exit.injEq]at t;subst t;refine ZT rfl ?_;refine Z4 ?_;exact(hF.mark q).finU (Mk.unwS (m:=nO) (qs:=q::qs) (A:=a1.or T3) ⟨_,_,.tup [],_,rfl,trivial,ZIB _,ZIz,a1,.stop (k+m) c ar (ZlR ah ab) aw af,KD⟩ (Mk.or (qs:=q::qs) (S:=Tq.upd q .dfr) ⟨Tq,aj,q2,rfl⟩ (Zge ae q1)));simp at t;rintro q _ m d hm ab t ⟨a1,rfl,af,ae⟩ hq;obtain⟨q1,q2⟩:=Q9 hq;rw[ZhL q1];have ar:k+m<LL.length:=by rw[hL,hS];simp only[ZIP,ZII];omega
      unfold goE at t;split at t;simp at t;simp at t;rename_i d' aw;simp only[Oc.pan.injEq]at t;subst t;exact(hF.mark q).panU (Mk.unwS (m:=sO _) (qs:=q::qs) (A:=a1.or T3) ⟨_,_,ZIB _,ZIz,a1,.pan (k+m) _ ar (ZlR ah ab) aw af,KD⟩ (Mk.or (qs:=q::qs) (S:=Tq.upd q .dfr) ⟨Tq,aj,q2,rfl⟩ (Zge ae q1)));intro m c t;unfold goE at t;split at t<;>simp at t;exact .inr ⟨0,t.symm⟩
     rintro dd S ⟨zx,zy,n1,n2,ne,hr,_⟩;cases hr
    simp at hc;obtain rfl:i=I v.parts:=ω;rw[ZJa]at hA ah;have a3:LL.length=1+(preWL v.parts h1).length:=by rw[hL,ZIP];omega
    rw[<-a3]at hA ah;refine ZT rfl (Z4 ?_);exact hF.finU (Mk.unwS (m:=nO) (A:=a.or T3) ⟨_,_,.tup [],_,rfl,trivial,ZIB _,ZIz,a,.all ah hA,KD⟩ (Mk.or aj ao))
   exact bg _ 0 rfl F [] T3 s' hF rfl ad (by simpa[preWL]using ac) (λj hj=>by
    obtain rfl:j=0:=by simp[preWL]at hj;omega
    exact t) ω
  |stop c =>rw[t]at hr;cases hr;refine gR0 ?_;refine i1 ?_;exact hF.ret (.tup []) _ rfl trivial (ZIB _) ZIz ⟨s',.stop 0 c aq (λi hi=>absurd hi (Nat.not_lt_zero _)) t ac,KD⟩
  |pan d=>rw[t]at hr;cases hr
 rintro d S ⟨s',⟨hr,ac⟩,ad,rfl⟩;cases t:go 0 with
 |pan d' =>rw[t]at hr;cases hr;exact hF.pan _ ZIz ⟨s',.pan 0 d aq (λi hi=>absurd hi (Nat.not_lt_zero _)) t ac,KD⟩
 |next=>rw[t]at hr;cases hr
 |stop c=>rw[t]at hr;cases hr
def Zgr{l}{h:Int}{p}:p∈preWL l h↔∃x∈l,p∈Ql x h:=by
 induction l with
 |nil=>simp[preWL]
 |cons v r ih=>simp only[preWL,List.mem_append,ih,ZJd,exists_eq_or_imp]
def Zuq(v):∀h,(Ql v h).length=Zd1 v:=by
 induction v using Val.ind with
 |h v ih =>
  intro h;rw[ZhN,ZaV,ZIP];have:∀(l:List Val) (k:Int),(∀x∈l,∀k,(Ql x k).length=Zd1 x)->(preWL l k).length=nodesL l:=λl k t=>by
   induction l with
   |nil=>simp[preWL,nodesL]
   |cons a r ih2=>rw[preWL,ZII,t a ψ,ih2 λx u=>t x (by simp[u]),nodesL]
  rw[this v.parts _ ih];omega
def Zwe(v):∀h,Ww v=true↔∀p∈Ql v h,Zac p.2=true:=by
 induction v using Val.ind with
 |h v ih =>intro h;rw[ZhN,ZiR,ZIJ,ZiQ,List.all_eq_true];constructor;rintro⟨h1,h2⟩ p hp;rcases List.mem_cons.1 hp with rfl|hp;exact h2;obtain⟨x,u,hp⟩:=Zgr.1 hp;exact(ih x u _).1 (h1 x u) p hp;intro t;refine⟨λx u=>(ih x u _).2 λp hp=>t p (List.mem_cons_of_mem _ (Zgr.2 ⟨x,u,hp⟩)),t (h,v) ψ⟩
def ZA2(v):∀h:Int,0<=h->h+Yy v<=4611686018427387904->∀p∈Ql v h,p.1<h+Yy v:=by
 induction v using Val.ind with
 |h v ih =>intro h h0 u p hp;rw[ZhN]at hp;rw[Za6]at u⊢;rcases List.mem_cons.1 hp with rfl|hp;show h<_;omega;obtain⟨x,t,hp⟩:=Zgr.1 hp;have h1:=ZgZ t;rw[Qk ω]at hp;have:=ih x t (h+1) ω ω p hp;omega
def Zw7{l k}(h:k<heightL l):∃x∈l,k<Yy x:=by
 induction l with
 |nil=>simp[heightL]at h
 |cons v r ih =>simp only[heightL]at h;by_cases t:k<Yy v;exact⟨v,ψ,t⟩;obtain⟨x,hx,u⟩:=ih ω;exact⟨x,by simp[hx],u⟩
def Zxl(v):∀(k:Nat) (h:Int),0<=h->h+k<=4611686018427387904->k<Yy v->∃p∈Ql v h,p.1=h+k:=by
 induction v using Val.ind with
 |h v ih =>
  intro k h h0 hb hk;rw[ZhN];cases k with
  |zero=>exact⟨(h,v),ψ,ψ⟩
  |succ k =>rw[Za6]at hk;obtain⟨x,u,t⟩:=Zw7 (show k<heightL v.parts by omega);rw[Qk ω];obtain⟨p,hp,he⟩:=ih x u k (h+1) ω ω t;exact⟨p,List.mem_cons_of_mem _ (Zgr.2 ⟨x,u,hp⟩),by rw[he];omega⟩
def ZgR(L:List (Int×Val))(j:Nat):Bool:=(dC ((65536:Int)<(j:Int)+1) ||decide ((40:Int)<(L.getD j dE).1))||!Zac (L.getD j dE).2
def ZzK{v}(h:∀j,j<(Ql v 1).length->ZgR (Ql v 1) j=false):JM v=true:=by
 have hl:=Zuq v 1;have u:∀p∈Ql v 1,p.1<=40/\Zac p.2=true:=λp u=>by obtain⟨j,hj,rfl⟩:=ZIV u;have:=h j hj;unfold ZgR at this;simp only[Bool.or_eq_false_iff,decide_eq_false_iff_not,Bool.not_eq_false',List.getD_eq_getElem?_getD,ZI4 hj,ZJe]at this;exact⟨ω,this.2⟩
 have h0:0<Zd1 v:=by rw[ZaV];omega
 have h1:=h ((Ql v 1).length-1) ω;unfold ZgR at h1;simp only[Bool.or_eq_false_iff,decide_eq_false_iff_not]at h1;unfold JM;rw[(Zwe v 1).2 λp t=>(u p t).2,Bool.and_true,ZIJ,decide_eq_true_eq,decide_eq_true_eq];refine⟨ω,?_⟩;by_cases hh:Yy v<=40;omega;obtain⟨p,t,he⟩:=Zxl v 40 1 ω ω ω;have:=(u p t).1;omega
def ZzJ{v j}(hj:j<(Ql v 1).length)(h:ZgR (Ql v 1) j=true):JM v=false:=by
 cases t:JM v with
 |false=>rfl
 |true =>exfalso;unfold JM at t;simp only[ZIJ,decide_eq_true_eq]at t;obtain⟨⟨h1,h2⟩,u⟩:=t;have hl:=Zuq v 1;have hm:(Ql v 1).getD j dE∈Ql v 1:=ZE hj;have h4:=ZA2 v 1 ω ω _ hm;have h5:=(Zwe v 1).1 u _ hm;unfold ZgR at h;rw[h5]at h;simp only[Bool.not_true,Bool.or_false,ZIW,decide_eq_true_eq]at h;omega
def ZqQ(v):Zd ZIy 40 [.agg v.cells] (.bool (JM v)):=by
 refine λst=>Zb (cR 40 f40) λF hF=>?_;have aj:=Zjp v 1 st;have ar:=ZpM v 1;have ae:=ZzK (v:=v);have ag:=λj=>ZzJ (v:=v) (j:=j);rw[ZI2]at aj⊢;generalize Ql v 1=L at *;refine gG ?_;refine rg ?_;refine cV (aj) ?_ ?_
 .rintro dd S ⟨za,zv,n1,n2,ne,hr,rfl⟩;cases hr;refine gR0 ?_;refine Ze ?_;refine xP 2 λz2 h2=>?_;obtain⟨ak,al⟩:=Q9 h2;rw[Kc];refine xP 3 λz3 h3=>?_;obtain⟨am,ao⟩:=Q9 h3;rw[Kc];have k3:=Zo am;have g2:∀c,((st.upd z2 (.cells [.bool false])).upd z3 c) z2=sO (.cells [.bool false]):=λc=>by rw[ZIG _ _ (Ne.symm k3.1)];exact ZIE _ _ _
  have g3:∀c,((st.upd z2 (.cells [.bool false])).upd z3 c) z3=sO c:=λc=>ZIE _ _ _;have ad:∀c o,st.sub (((st.upd z2 (.cells [.bool false])).upd z3 c).upd z2 o):=λc o b x hb=>by
   have e2:b≠z2:=λe=>by rw[e,ak]at hb;simp at hb
   have e3:b≠z3:=λe=>by rw[e,k3.2]at hb;simp at hb
   rw[ZIG _ _ e2,ZIG _ _ e3,ZIG _ _ e2];exact hb
  have aq:∀c,Z6 ((st.upd z2 (.cells [.bool false])).upd z3 c) (ZdB v 1 za zv):=λc b o hb=>by
   have e2:b≠z2:=λe=>by rw[e,al]at hb;simp at hb
   have e3:b≠z3:=λe=>by rw[e,ao]at hb;simp at hb
   rw[ZIG _ _ e3,ZIG _ _ e2];exact Zrd n1 n2 b o hb
  refine KT hF rfl trivial [2,3] (by show([2,3]:List Nat).Nodup;decide) (aq _) (ar za zv ne) (λj hj=>rfl) (λj=>if ZgR L j then .stop .ret else .next) (λj a=>a=(st.upd z2 (.cells [.bool false])).upd z3 (.cells [.i j])) rfl ?_ ?_ ?_ ?_ ?_ ?_
  .intro j a hj ab hB F' ready af hdr ai u;subst hB;have hj2:j<=65536:=by refine Nat.le_of_not_lt λau=>?_;have:=ab 65536 au;rw[if_pos (by unfold ZgR;simp)]at this;simp at this
   have hN:=Zsw (L.getD j dE).2;have ah:=ZgR.eq_1 L j;simp only[Eqs,reduceCtorEq,ZIF,reduceIte,ZIC,ZIH,ZID,WN,Ki,Jd,Ks,List.isEmpty_nil,List.isEmpty_cons,hvA];generalize L.getD j dE=g at *;obtain⟨gh,gx⟩:=g;simp only[ZI2]at hN ah⊢;refine gG ?_;refine ai λap=>?_;have ac:Z6 ((st.upd z2 (.cells [.bool false])).upd z3 (.cells [.i ((j+1:Nat):Int)])) af:=λb o hb=>by have h1:=Zo (ap b o hb);rw[ZIG _ _ h1.1];exact h1.2
   refine rh ?_;refine Zm ?_;simp only[Eqs,reduceCtorEq,ZIF,reduceIte,ZIC,ZIH,ZID,Zs (g3 _),Kc];refine aa ?_;rw[ZIR,show(j:Int)+1=((j+1:Nat):Int) by omega];refine rh ?_;refine Zm ?_;simp only[Eqs,reduceCtorEq,ZIF,reduceIte,ZIC,ZIH,ZID,Zs (g3 _)];refine cG (hN) ?_;rw[show((j+1:Nat):Int)=(j:Int)+1 by omega,<-ah];cases hb:ZgR L j with
   |true =>rw[hb]at u;refine i1 ?_;refine rh ?_;refine Zm ?_;simp only[Eqs,reduceCtorEq,ZIF,reduceIte,ZIC,ZIH,ZID,Zs (g2 _),Kc];rw[show(j:Int)+1=((j+1:Nat):Int) by omega,St.upd_self (g2 _)];exact u.ret ⟨rfl,rfl⟩ ac ZIz
   |false =>rw[hb]at u;refine i0 ?_;refine ZK (Zr ?_);rw[show(j:Int)+1=((j+1:Nat):Int) by omega];exact u.fin ⟨rfl,rfl⟩ ac ZIz
  intro q a ab hB hq;subst hB;have hv:JM v=true:=ae λj hj=>by have:=ab j hj;split at this;simp at this;rename_i h;simpa using h
  rw[Qq hq];have av:(((st.upd z2 (.cells [.bool false])).upd z3 (.cells [.i L.length])).upd z2 (.cells [.bool true])) q=nO:=by rw[ZIG _ _ (λe=>by rw[e,g2]at hq;simp at hq)];exact hq
  have gg:(((st.upd z2 (.cells [.bool false])).upd z3 (.cells [.i L.length])).upd z2 (.cells [.bool true])) z2=sO (.cells [.bool true]):=ZIE _ _ _;refine rh ?_;refine Zm ?_;simp only[Eqs,reduceCtorEq,ZIF,reduceIte,ZIC,ZIH,ZID,Zs (g2 _),Kc];exact hF.ret1 av (.bool true) st (by simp only[Eqs,reduceCtorEq,ZIF,reduceIte,ZIC,ZIH,ZID,YD,Kt,gg];rfl) φ (ZIB _) (ad _ _) ⟨by rw[hv],rfl⟩;intro q a m hm ab t hB hq;subst hB;have hb:ZgR L m=true:=by split at t;assumption;simp at t
  rw[Qq hq];have hs:st.sub ((st.upd z2 (.cells [.bool false])).upd z3 (.cells [.i ((m+1:Nat):Int)])):=by
   have:=ad (.cells [.i ((m+1:Nat):Int)]) (.cells [.bool false])
   rwa [St.upd_self (g2 _)]at this
  exact hF.ret1 hq (.bool false) st (by simp only[Eqs,reduceCtorEq,ZIF,reduceIte,ZIC,ZIH,ZID,YD,Kt,g2];rfl) φ (ZIB _) hs ⟨by rw[ag m hm hb],rfl⟩;intro q a m id hm ab t;split at t<;>simp at t;intro q a m d hm ab t;split at t<;>simp at t;intro m c t;split at t<;>simp at t;exact .inl t.symm
 rintro dd S ⟨za,zv,n1,n2,ne,hr,_⟩;cases hr
def Qy(a b:Int):Int:=if a<b then -1 else if b<a then 1 else 0
def Zd0{a b}:Qy a b=0↔a=b:=by
 unfold Qy;split;constructor<;>omega;split;constructor<;>omega;constructor<;>omega
def YT:Str->Str->Int
 |x::a,y::b=>if x.toNat<y.toNat then -1 else if y.toNat<x.toNat then 1 else YT a b
 |a,b=>Qy (I a) (I b)
def Zed:∀{a b},YT a b=0↔a=b
 | [],[]=>by simp[YT,Qy]
 | [],y::b=>by simp[YT,Zd0];omega
 |x::a,[]=>by simp[YT,Zd0];omega
 |x::a,y::b=>by unfold YT;split;rename_i h;constructor;intro t;omega;intro t;cases t;omega;split;rename_i h u;constructor;intro t;omega;intro t;cases t;omega;rename_i h u;rw[Zed];have:x.toNat=y.toNat:=ω;rw[UInt8.toNat_inj.1 this];simp
def JC:List Hdr->List Hdr->Int
 |x::a,y::b=>if YT x.name y.name≠0 then YT x.name y.name else if YT x.text y.text≠0 then YT x.text y.text else JC a b
 |a,b=>Qy (I a) (I b)
def Zrt:∀{a b},JC a b=0↔a=b
 | [],[]=>by simp[JC,Qy]
 | [],y::b=>by simp[JC,Zd0];omega
 |x::a,[]=>by simp[JC,Zd0];omega
 |⟨xn,xt⟩::a,⟨yn,yt⟩::b=>by unfold JC;have h1:=@Zed xn yn;have h2:=@Zed xt yt;have h3:=@Zrt a b;split;rename_i h;simp only[]at h;constructor;intro u;exact absurd u h;intro u;simp only[List.cons.injEq,Hdr.mk.injEq]at u;exact absurd (h1.2 u.1.1) h;split;rename_i h u;simp only[]at u;constructor;intro t;exact absurd t u;intro t;simp only[List.cons.injEq,Hdr.mk.injEq]at t;exact absurd (h2.2 t.1.2) u;rename_i h u;simp only[Decidable.not_not]at h u;rw[h3,List.cons.injEq,Hdr.mk.injEq];exact⟨λe=>⟨⟨h1.1 h,h2.1 u⟩,e⟩,λe=>e.2⟩
def ZyP{a b:List Hdr}{i}(t:i<I a)(u:i<I b):JC (a.drop i) (b.drop i) =
  if YT (a.getD i dE).name (b.getD i dE).name≠0 then YT (a.getD i dE).name (b.getD i dE).name else if YT (a.getD i dE).text (b.getD i dE).text≠0 then YT (a.getD i dE).text (b.getD i dE).text
  else JC (a.drop (i+1)) (b.drop (i+1)):=by
 rw[List.drop_eq_getElem_cons t,List.drop_eq_getElem_cons u];simp[JC,ZIN,t,u]
def ZAz{a b:List Hdr}{i}(ha:i<=I a)(hb:i<=I b)(h:¬(i<I a/\i<I b)):JC (a.drop i) (b.drop i)=Qy (I a) (I b):=by
 have h1:(a.drop i).length=I a-i:=ZI8 ..;have h2:(b.drop i).length=I b-i:=ZI8 ..;have u:∀x y:List Hdr,(x=[]\/y=[])->JC x y=Qy (I x) (I y):=λx y t=>by
  cases x with
  |nil=>cases y<;>rfl
  |cons c x=>cases y with
   |nil=>rfl
   |cons e y=>simp at t
 rw[u _ _ (by
  by_cases hi:i<I a;exact .inr (ZJk ω);exact .inl (ZJk ω)),h1,h2]
 unfold Qy;split<;>split<;>(try split)<;>(try split)<;>omega
def We(row:Nat->List D):Nat->List D
 |0=>[]
 |n+1=>We row n++row n
def ZdW{row}:∀{n},(∀j,j<n->(row j).length=5)->(We row n).length=n*5
 |0,_=>rfl
 |n+1,h=>by rw[We,ZII,ZdW λj hj=>h j ω,h n ω];omega
def ZmJ{row row'}:∀{n},(∀j,j<n->row j=row' j)->We row n=We row' n
 |0,_=>rfl
 |n+1,h=>by rw[We,We,ZmJ λj hj=>h j ω,h n ω]
def Ziz{row}(X):∀{n j},(∀j,j<n->(row j).length=5)->j<n->part (We row n++X) (j*5) 5=row j
 |0,j,_,hj=>absurd hj (Nat.not_lt_zero _)
 |n+1,j,h,hj=>by rcases Nat.lt_or_eq_of_le (Nat.le_of_lt_succ hj) with h1|rfl;have:=Ziz (row n++X) (n:=n) (j:=j) (λk t=>h k ω) h1;rw[We,ZI1];exact this;unfold part;rw[We,ZI1,List.drop_left' (ZdW λk t=>h k ω),List.take_left' (h j ω)]
def Zrl{row}(X k ds)(t:k+I ds<=5):∀{n j},(∀j,j<n->(row j).length=5)->j<n ->
  Zy (We row n++X) (j*5+k) ds=We (λi=>if i=j then Zy (row j) k ds else row i) n++X
 |0,j,_,hj=>absurd hj (Nat.not_lt_zero _)
 |n+1,j,h,hj=>by
  have hl:(We row n).length=n*5:=ZdW λk t=>h k ω;rcases Nat.lt_or_eq_of_le (Nat.le_of_lt_succ hj) with h1|rfl;have ih:=Zrl (row n++X) k ds t (n:=n) (j:=j) (λk t=>h k ω) h1;rw[We,ZI1,ih,We,if_neg ω,ZI1];have hr:=h j ω;have h2:We (λi=>if i=j then Zy (row j) k ds else row i) j=We row j:=ZmJ λi hi=>by rw[if_neg ω]
  have u:j*5+k-j*5=k:=ω;have e2:j*5+k+I ds-j*5=k+I ds:=ω;have t1:(We row j).take (j*5+k)=We row j:=List.take_of_length_le ω;have t2:(We row j).drop (j*5+k+I ds)=[]:=ZJk ω;rw[We,We,h2,if_pos rfl];unfold Zy;rw[ZI1 (We row j),List.take_append,List.take_append,List.drop_append,List.drop_append,hl,hr,u,e2,t1,t2,show k-5=0 by omega,show k+I ds-5=0 by omega];simp
inductive MT(T:St):Val->List D->List Nat->Prop where
 |leaf (n:Str) (i:Int) (b:Str) (h:List Hdr):MT T (.mk n i b h []) [.str n,.i i,Zk b,Yg h,ZZ []] []
 |node (n:Str) (i:Int) (b:Str) (h:List Hdr) (ps:List Val) (x cap:Nat) (row:Nat->List D) (fp:Nat->List Nat) (X:List D) (hp:0<I ps) (hb:T x=some (.cells (We row (I ps)++X))) (hc:I ps<=cap)
   (hx:∀j,j<I ps->MT T (ps.getD j default) (row j) (fp j)) (hn:∀j,j<I ps->x∉fp j) (hd:∀j k,j<I ps->k<I ps->j≠k->∀y∈fp j,y∉fp k) :
   MT T (.mk n i b h ps) [.str n,.i i,Zk b,Yg h,.msl x 0 (I ps) cap 5] (x::(ZIM (I ps)).flatMap fp)
def MT.len{T v c fp}(h:MT T v c fp):I c=5:=by cases h<;>rfl
def MT.mono{T T' v c fp}(h:MT T v c fp)(t:∀y∈fp,T' y=T y):MT T' v c fp:=by
 induction h with
 |leaf n i b h=>exact .leaf n i b h
 |node n i b h ps x cap row fp X hp hb hc hx hn hd ih =>refine .node n i b h ps x cap row fp X hp (by rw[t x ψ];exact hb) hc (λj u=>ih j u λy hy=>t y ?_) hn hd;simp only[ZJd,List.mem_flatMap,List.mem_range];exact .inr ⟨j,u,hy⟩
def MT.live{T v c fp}(h:MT T v c fp):∀y∈fp,∃ds,T y=sO (.cells ds):=by
 induction h with
 |leaf=>intro y t;simp at t
 |node n i b h ps x cap row fp X hp hb hc hx hn hd ih =>intro y t;simp only[ZJd,List.mem_flatMap,List.mem_range]at t;rcases t with rfl|⟨j,u,t⟩;exact⟨_,hb⟩;exact ih j u y t
def MT.ld{T v c fp}(h:MT T v c fp):∀{Ln},(∀y∈fp,y∈Ln)->LdC T Ln c v.cells:=by
 induction h with
 |leaf n i b h=>intro Ln _;rw[ZI2];exact LdC.refl _
 |node n i b h ps x cap row fp X hp hb hc hx hn hd ih =>intro Ln hL;rw[ZI2];have u:∀j,j<I ps->(row j).length=5:=λj t=>(hx j t).len;refine .cons (.refl _) (.cons (.refl _) (.cons (.refl _) (.cons (.refl _) (.cons ?_ .nil))));refine Ya.msl (hL x ψ) hb (by rw[ZII,ZdW u];exact Nat.le_add_right _ _) λj t=>?_;rw[show((We row (I ps)++X).drop (j*5)).take 5=row j from Ziz X u t];show LdC T Ln (row j) (ZcS ps j);rw[Zgv t];refine ih j t λy hy=>hL y ?_;simp only[ZJd,List.mem_flatMap,List.mem_range];exact .inr ⟨j,t,hy⟩
structure MN(T:St)(v:Val)(c:List D)(fp:List Nat)(x cap:Nat)(row:Nat->List D)(f:Nat->List Nat)(X:List D):Prop where
 c:c=[.str v.name,.i v.int,Zk v.bytes,Yg v.hdrs,.msl x 0 (I v.parts) cap 5]
 b:T x=some (.cells (We row (I v.parts)++X))
 le:I v.parts<=cap
 kid:∀j,j<I v.parts->MT T (v.parts.getD j default) (row j) (f j)
 n:∀j,j<I v.parts->x∉f j
 d:∀j k,j<I v.parts->k<I v.parts->j≠k->∀y∈f j,y∉f k
 fp:fp=x::(ZIM (I v.parts)).flatMap f
def MN.mt{T v c fp x cap row f X}(h:MN T v c fp x cap row f X)(hp:0<I v.parts):MT T v c fp:=by
 obtain⟨t,u,h3,h4,h5,h6,h7⟩:=h;subst t h7;cases v;exact .node _ _ _ _ _ _ _ _ _ _ hp u h3 h4 h5 h6
def ZuL{E:List Str}{i}(h:i<E.length):(E.map D.str)[i]?=sO (.str (E.getD i [])):=by simp[ZIN,h]
def ZBs{E:List Str}{i s}(h:i<E.length):List.take (i*1) (E.map D.str)++[.str s]++List.drop (i*1+1) (E.map D.str)=(E.set i s).map D.str:=by
 rw[Nat.mul_one,List.map_set,List.set_eq_take_append_cons_drop,if_pos (by simpa using h)];simp
def ZxU(n):W3 [.str []] n=(List.replicate n []).map D.str:=by
 induction n with
 |zero=>rfl
 |succ n ih=>simp_all[W3,List.replicate_succ]
def ZhV{b c l S}(hb:S b=sO (.cells (l.map .str)))(hl:I l<=1000000)(f p)(hf:∀x,VT ZIy f [.str x] S (.bool (p x)) S):
  ZO ZIy 231 [.msl b 0 (I l) c 1,f] S (.i (Zi p l)) S:=by
 refine ZG (cR 231 f231) λhwf F t=>?_;refine gG ?_;refine Ze (fr (I l) (λi Q=>i<=I l->(∀j,j<i->p (l.getD j dE)=false)->Q [(0,.d (.msl b 0 (I l) c 1)),(1,.d f),(7,.d (.i (I l))),(8,.d (.i i))] [] S) (λn u=>?_) λae=>?_);intro i hn hi ab;refine rg ?_;refine Zc (Zl rfl trivial (λh1=>?_) (λh1=>?_));simp at h1;have hg:=ZuL h1;have ad:(l.map D.str)[i*1]?=sO (.str (l.getD i [])):=by rw[Nat.mul_one];exact hg
 refine rg ?_;refine xA (nd2 @hb (nd2 @hg @ad)) ?_;refine cW (hf _) ?_;refine cd (λh2=>?_) (λh2=>?_);have e1:=W2 h1 h2 ab;rw[e1]at t;refine rg ?_;exact t rfl φ (ZIB _) ZIz;refine gA ?_;refine Zf ?_;exact u ((I l)-(i+1)) ω (i+1) rfl ω (Yc (q:=λj=>p (l.getD j dE)=false) ab h2);simp at h1;obtain rfl:i=I l:=ω;have ac:∀x∈l,p x=false:=λx hx=>by obtain⟨j,hj,rfl⟩:=ZIV hx;have:=ab j hj;simpa[ZIN,hj]using this
 rw[Wp ac]at t;refine rg ?_;exact t rfl φ (ZIB _) ZIz;exact ae _ 0 rfl ω (by intro j hj;omega)
def Jb(p:Str->Bool)(l:List Str):List Str:=l.filter λx=>!p x
def ZyV{p l}:(Jb p l).length<=I l:=List.length_filter_le ..
def ZiK{p}{l:List Str}{j}(h:j<I l):Jb p (l.take (j+1))=Jb p (l.take j)++if p (l.getD j []) then [] else [l.getD j []]:=by
 rw[show l.getD j []=l.getD j dE from rfl,Yo h];unfold Jb;rw[List.filter_append];congr 1;simp only[List.filter_cons,List.filter_nil];cases p (l.getD j dE)<;>rfl
def ZmP{p}{l:List Str}{i}(h:∀j,j<i->p (l.getD j dE)=false)(hi:i<=I l):Jb p (l.take i)=l.take i:=by
 unfold Jb;rw[List.filter_eq_self];intro x hx;obtain⟨j,t,rfl⟩:=ZIV hx;have u:=h j (by rw[ZIS]at t;omega);rw[ZIS]at t;simpa[ZIN,show j<I l by omega]using u
def Zry{p l}(h:∀x∈l,p x=false):Jb p l=l:=by
 unfold Jb;rw[List.filter_eq_self];intro x t;rw[h x t];rfl
def Zss{E:List Str}{k x}(h:k<E.length):(E.set k x).take (k+1)=E.take k++[x]:=by
 rw[List.set_eq_take_append_cons_drop,if_pos h,show E.take k++x::E.drop (k+1)=(E.take k++[x])++E.drop (k+1) by simp,List.take_left' (by simp;omega)]
def ZwR{E:List Str}{k}(h:k<=E.length):Zy (E.map D.str) (k*1) (W3 [.str []] (E.length-k))=((E.take k++List.replicate (E.length-k) []).map .str):=by
 unfold Zy;rw[Nat.mul_one,ZxU,ZJk (by simp;omega)];simp
def Zhk{b c l S}(hb:S b=sO (.cells (l.map .str)))(hl:I l<=1000000)(hc:I l<=c)(f p)(hf:∀x T,VT ZIy f [.str x] T (.bool (p x)) T):
  Za ZIy 189 [.msl b 0 (I l) c 1,f] S λr T=>r=.ret (.msl b 0 (Jb p l).length c 1)/\T=S.upd b (.cells ((Jb p l++List.replicate (I l-(Jb p l).length) []).map .str)):=by
 refine Zb (cR 189 f189) λF hF=>?_;have ao:=ZhV (c:=c) hb hl f p (λx=>hf x S);refine gG ?_;refine ct (ao) ?_;refine aa ?_;refine rg ?_;by_cases ad:Zi p l<0;have aq:Zi p l=-1:=by have:=ZaQ p l;omega
 rw[aq];refine i1 ?_;refine rg ?_;exact hF.ret _ _ rfl φ (ZIB _) ZIz ⟨by rw[Zry (ZcB ad)];rfl,by rw[Zry (ZcB ad),Nat.sub_self,List.replicate_zero,ZI5];exact(St.upd_self hb).symm⟩;obtain⟨q0,ar⟩:∃q0:Nat,Zi p l=q0:=⟨(Zi p l).toNat,ω⟩;have ap:=WE p l;have ai:=Jr (p:=p) (l:=l) ω;rw[ar]at ap ai⊢;have ab:=λj hj=>ai.2 j hj;have ah:=ai.1;simp only[Int.toNat_natCast]at ab ah;have ae:q0<I l:=ω;refine i0 ?_;refine gA ?_;refine Ze (fr (I l) (λj Q=>j<=I l->∀(k:Nat) (E:List Str),E.length=I l->k<j->k=(Jb p (l.take j)).length->E.take k=Jb p (l.take j)->E.drop j=l.drop j->Q [(0,.d (.msl b 0 (I l) c 1)),(1,.d f),(5,.d (.i k)),(6,.d (.i j))] [] (S.upd b (.cells (E.map .str)))) (λn t=>?_) λau=>?_)
 .intro j hn hj k E hE hkj hk ac hdr;refine rg ?_;refine cd (λh1=>?_) (λh1=>?_)
  .have af:j<I l:=by simp at h1;omega
   have hx:E.getD j []=l.getD j []:=by
    have h2:(E.drop j)[0]?=(l.drop j)[0]?:=by rw[hdr]
    simpa[ZIN]using congrArg (λo=>o.getD []) h2
   have hg:(E.map D.str)[j*1]?=sO (.str (l.getD j [])):=by rw[Nat.mul_one,ZuL ω,hx]
   have u:=ZiK (p:=p) af;have ak:E.drop (j+1)=l.drop (j+1):=by rw[<-List.drop_drop,hdr,List.drop_drop]
   generalize l.getD j []=x at *;refine xA (nd2 @ZIE @hg) ?_;refine rg ?_;refine cW (hf x _) ?_;cases al:p x with
   |true =>rw[al,if_pos rfl,ZI5]at u;refine i0 ?_;refine gA ?_;refine Zf ?_;exact t ((I l)-(j+1)) ω (j+1) rfl ω k E hE ω (by rw[u];exact hk) (by rw[u];exact ac) ak
   |false =>
    rw[al,if_neg ψ]at u;have am:=ZBs (E:=E) (i:=k) (s:=x) ω;refine i1 ?_;have ag:(E.map D.str).length=I l:=by rw[ZIU];exact hE
    refine xA (nd2 @ZIE (nd2 @ZIR (nd2 @am @ag))) ?_;refine gA ?_;refine gA ?_;rw[show(k:Int)+1=((k+1:Nat):Int) by omega];refine Zf ?_;exact t ((I l)-(j+1)) ω (j+1) rfl ω (k+1) (E.set k x) (by rw[List.length_set];exact hE) ω (by rw[u,ZII,<-hk];rfl) (by rw[u,<-ac,Zss ω]) (by rw[List.drop_set_of_lt ω];exact ak)
  have af:j=I l:=by simp at h1;omega
  subst af;rw[ZJa]at hk ac;have aj:=ZwR (E:=E) (k:=k) ω;have ag:(E.map D.str).length=I l:=by rw[ZIU];exact hE
  rw[hE,ac]at aj;have hck:¬c=k:=ω;refine rg ?_;refine⟨ω,ω,ω,ω,?_⟩;rw[if_neg ω,show((I l:Int)-k).toNat=I l-k by omega,show((c:Int)-k).toNat=c-k by omega];refine Zm7 rfl rfl rfl trivial (cs:=E.map .str) (by simp[Z2,ZIE]) (by rw[ag];omega) ?_;rw[aj,ZIR];refine gR0 ?_;refine rg ?_;refine⟨ω,ω,ω,ω,?_⟩;simp only[ite_self,if_pos];exact hF.ret _ _ rfl φ (ZIB _) ZIz ⟨by rw[<-hk];rfl,by rw[<-hk]⟩
 have h0:=au _ (q0+1) rfl ω q0 l rfl ω (by rw[ZiK ae,show l.getD q0 []=l.getD q0 dE from rfl,ah,if_pos rfl,ZI5,ZmP ab ω,ZIS];omega) (by rw[ZiK ae,show l.getD q0 []=l.getD q0 dE from rfl,ah,if_pos rfl,ZI5,ZmP ab ω]) rfl;rw[St.upd_self hb]at h0;exact h0
end Go.DL
namespace Go.Proofs
open Go.Shelf Go.RowKit
def Tryz.joinL_ren:Go.Shelf.Ren:=⟨λ|156=>188|165=>228|166=>229|169=>230|240=>256|241=>257|276=>270|277=>271|n=>n,λ|31=>266|9=>9|3=>3|4=>4|0=>0|20=>20|72=>299|76=>105|70=>297|37=>25|75=>104|127=>242|164=>351|5=>5|80=>301|n=>n,λ|n=>n⟩
def Tryz.joinL:Go.Proofs.Lays.n156 ZIy Tryz.joinL_ren:={
 mixed:=by kernel_rfl
 f156:=Tryz.func188.trans (congrArg sO (by kernel_rfl))
 f165:=Tryz.func228.trans (congrArg sO (by kernel_rfl))
 f166:=Tryz.func229.trans (congrArg sO (by kernel_rfl))
 f169:=Tryz.func230.trans (congrArg sO (by kernel_rfl))
 f240:=Tryz.func256.trans (congrArg sO (by kernel_rfl))
 f241:=Tryz.func257.trans (congrArg sO (by kernel_rfl))
 f276:=Tryz.func270.trans (congrArg sO (by kernel_rfl))
 f277:=Tryz.func271.trans (congrArg sO (by kernel_rfl))
 t0:=Tryz.underlying0
 a0:=Tryz.isAgg0
 z0:=Tryz.sizeOf0
 v0:=Tryz.zeroValue0
 t3:=Tryz.underlying3
 a3:=Tryz.isAgg3
 z3:=Tryz.sizeOf3
 v3:=Tryz.zeroValue3
 t4:=Tryz.underlying4
 a4:=Tryz.isAgg4
 z4:=Tryz.sizeOf4
 v4:=Tryz.zeroValue4
 t9:=Tryz.underlying9
 a9:=Tryz.isAgg9
 z9:=Tryz.sizeOf9
 v9:=Tryz.zeroValue9
 t20:=Tryz.underlying20
 a20:=Tryz.isAgg20
 z20:=Tryz.sizeOf20
 v20:=Tryz.zeroValue20
 t31:=Tryz.underlying266
 a31:=Tryz.isAgg266
 z31:=Tryz.sizeOf266
 v31:=Tryz.zeroValue266
 t37:=Tryz.underlying25
 a37:=Tryz.isAgg25
 z37:=Tryz.sizeOf25
 v37:=Tryz.zeroValue25
 t70:=Tryz.underlying297
 a70:=Tryz.isAgg297
 z70:=Tryz.sizeOf297
 v70:=Tryz.zeroValue297
 t72:=Tryz.underlying299
 a72:=Tryz.isAgg299
 z72:=Tryz.sizeOf299
 v72:=Tryz.zeroValue299
 t75:=Tryz.underlying104
 a75:=Tryz.isAgg104
 z75:=Tryz.sizeOf104
 v75:=Tryz.zeroValue104
 t76:=Tryz.underlying105
 a76:=Tryz.isAgg105
 z76:=Tryz.sizeOf105
 v76:=Tryz.zeroValue105
 t127:=Tryz.underlying242
 a127:=Tryz.isAgg242
 z127:=Tryz.sizeOf242
 v127:=Tryz.zeroValue242
 t164:=Tryz.underlying351
 a164:=Tryz.isAgg351
 z164:=Tryz.sizeOf351
 v164:=Tryz.zeroValue351 }
def Tryz.joinX:Builder.Extra ZIy Tryz.joinL_ren:={
 sizeBuilder:=by kernel_rfl
 liesBuilder:=by kernel_rfl
 t5:=Tryz.underlying5
 a5:=Tryz.isAgg5
 z5:=Tryz.sizeOf5
 v5:=Tryz.zeroValue5
 infoByte:=by kernel_rfl
 cellsByte:=by kernel_rfl
 sizeByte:=by kernel_rfl
 neB5:=by decide }
end Go.Proofs
namespace Go.DL
open Go Go.Proofs Go.Lib Go.RowKit
def ZB1{w:World}{b o v}(h:w.cell? ⟨b,o,nO⟩=sO v):b<w.heap.size:=by
 refine Nat.lt_of_not_le λt=>?_;have u:w.heap[b]?=nO:=Array.getElem?_eq_none t;simp[World.cell?,u]at h
def joinL(l:List Str)(sep:Str):Str:=sep.intercalate l
def Zc1(l:List Str)(hn:I l<=100000)(hj:(joinL l [46]).length<=100000000):Zd ZIy 188 [slD 1 Zb1 l,.str [46]] (.str (joinL l [46])):=λst=>by
 refine⟨⟨_,Tryz.func188,by kernel_rfl,by kernel_rfl⟩,λg w vs hs ha=>?_⟩;cases ha with
 |cons h1 ha =>
 cases ha with
 |cons h2 ha =>
 cases ha;cases h2 with
 |str sep _ hsep hsb =>
 have ac:sep=⟨#[46]⟩:=by
  obtain⟨a⟩:=sep;have:a.toList=[46]:=hsep;have h2:a = #[46]:=by apply Array.ext';simpa using this
  rw[h2]
 subst ac;unfold slD at h1;have ab:∀w':World,Below w.heap.size w w'->JW g w g w':=λw' t=>⟨t.size,λc hc=>t.block c hc,λ_ _=>rfl,λc hc=>(hs.fresh c (Nat.le_trans t.size hc)).1,rfl,t.os,t.output,t.tape⟩;generalize ah:(λi=>Zb1 (l.getD i dE))=row at h1;generalize ag:I l=n at h1;cases h1 with
 |sl0 av _ _ _ ht =>obtain rfl:l=[]:=List.eq_nil_of_length_eq_zero ag;refine(Any.strings_Join_none Tryz.joinL Tryz.joinX av 0 ⟨#[46]⟩ w).mono ?_;rintro e w' ⟨rfl,rfl⟩;exact⟨g,st,.ret (.str []),Ext.refl g _,hs,.str _ _ rfl (by simp[big]),rfl,rfl⟩
 |sl b o _ cap _ _ _ f hl hc hp hr one ht hcap hb =>
  subst ag;subst ah;have hx:∀i (hi:i<I l),∃x:ByteArray,f i 0=.string x/\x.data.toList=l[i]:=λi hi=>by
   have:=hr i 0 (.str (l.getD i dE)) hi rfl;generalize f i 0=v at this;cases this with
   |str x _ h1 h2=>exact⟨x,rfl,by rw[h1];simp[ZIN,hi]⟩
  have ao:∃xs:List ByteArray,I xs=I l/\xs.map (·.data.toList)=l/\∀(j:Nat) x,xs[j]?=sO x->f j 0=.string x:=by refine⟨List.ofFn λi:Fin (I l)=>Classical.choose (hx i.1 i.2),ψ,?_,λj x hj=>?_⟩;apply List.ext_getElem;simp;intro i h1 h2;simp at h1;simp only[List.getElem_map,List.getElem_ofFn];exact(Classical.choose_spec (hx i h1)).2;obtain⟨ae,af⟩:=List.getElem?_eq_some_iff.1 hj;simp only[List.length_ofFn]at ae;simp only[List.getElem_ofFn]at af;rw[<-af];exact(Classical.choose_spec (hx j ae)).1
  obtain⟨xs,ai,al,am⟩:=ao;have aj:0<I l->b<w.heap.size:=λh0=>by have:=hc 0 0 h0 ω;exact ZB1 this
  have hJ:(Lib.join (xs.map (·.data.toList)) (⟨#[46]⟩:ByteArray).data.toList)=joinL l [46]:=by rw[al];rfl
  have ad:∀w',Below w.heap.size w w'->∃g' s' res,Ext g w g' w'/\Yf g' s' w'/\Rep g' w' (.string ⟨(joinL l [46]).toArray⟩) (.str (joinL l [46]))/\res=Res.ret (.str (joinL l [46]))/\s'=st:=λw' t =>
   ⟨g,st,.ret (.str (joinL l [46])),(ab w' t).ext hs.fresh,hs.grow (ab w' t),.str _ _ ψ (by unfold big;omega),rfl,rfl⟩
  by_cases h0:I l=0;obtain rfl:l=[]:=List.eq_nil_of_length_eq_zero h0;refine(Any.strings_Join_none Tryz.joinL Tryz.joinX (sO ⟨b,o,nO⟩) cap ⟨#[46]⟩ w).mono ?_;rintro e w' ⟨rfl,rfl⟩;exact⟨g,st,.ret (.str []),Ext.refl g _,hs,.str _ _ rfl (by simp[big]),rfl,rfl⟩;have u:=Any.strings_Join Tryz.joinL Tryz.joinX b o cap xs ⟨#[46]⟩ w (λj x hj=>by
    have ak:j<I l:=by rw[<-ai];exact(List.getElem?_eq_some_iff.1 hj).1
    have:=hc j 0 ak ω;rw[am j x hj]at this;simpa using this) (aj ω) ω ω (by rw[hJ];omega)
  rw[hJ,ai]at u;refine u.mono ?_;rintro e w' ⟨rfl,t⟩;obtain⟨g',s',res,a1,a2,a3,a4,a5⟩:=ad w' t;exact⟨g',s',res,a1,a2,by rw[a4];exact a3,a4,a5⟩
end Go.DL
namespace Go.DL
open Go Go.Proofs
variable {kp:Option (List Nat)}{L:Loc}{H:Env}{s:St}{w:World}{os:List DOp}{ds:List D}{B:List (Nat × Rd)}{dst:Option Nat}{tmps:Array Value}{g:G}{Φ:Res->St->Prop}{Z:Nat->Nat}{xs:List Opd}{side:Prop}{row:Nat->List D}
def Zgy(s):Zd ZIy 190 [.str s] (.bool (dC (s=[]))):=by
 refine Zg (cR 190 f190) λF st t=>?_;refine gG ?_;refine rb t ?_;rfl
def ZyW(a s)(u:s≠[]):joinL (Jb (λx=>dC (x=[])) [a,s]) [46]=ZN a s:=by
 unfold Jb joinL ZN;by_cases t:a=[];simp[t,u,List.intercalate];simp[t,u,List.intercalate]
def Zhb(T):St.or (λ_=>nO) T=T:=by funext b;exact ZJ rfl
def ZyU{b c}{C:List Str}{T}(hb:T b=sO (.cells (C.map .str)))(K)(hl:K.length<=2)(hC:K.length<=C.length)(hK:∀i,i<K.length->C.getD i []=K.getD i [])(hj:(joinL K [46]).length<=100000000):
  Za ZIy 188 [.msl b 0 K.length c 1,.str [46]] T λr S=>r=.ret (.str (joinL K [46]))/\S=T:=by
 have h:=Za.lend (P:=ZIy) (Ln:=[b]) (t:=T) (λx hx=>⟨C.map .str,by rw[List.mem_singleton.1 hx];exact hb⟩) (.cons (Ya.msl (row:=λi=>Zb1 (K.getD i dE)) (cap:=c) (sz:=1) (n:=K.length) (List.mem_singleton.2 rfl) hb (by simp;omega) ?_) (.cons (.refl (.str [46])) .nil)) (Zc1 K ω hj (λ_=>nO)) (λr S u=>?_);refine h.mono λr S hS=>?_;obtain⟨S',⟨u,rfl⟩,_,rfl⟩:=hS;exact⟨u,Zhb T⟩;intro i hi;have h1:((C.map D.str).drop (i*1)).take 1=Zb1 (K.getD i dE):=by rw[Nat.mul_one,show K.getD i dE=C.getD i [] from(hK i hi).symm];rw[List.drop_eq_getElem_cons (by simp;omega)];simp[Zb1,ZIN,show i<C.length by omega]
 rw[h1];exact .refl _;obtain⟨rfl,rfl⟩:=u;exact⟨.str _,λb o h=>by simp at h⟩
def Zsm{b a s S}(hb:S b=sO (.cells [.str a,.str s]))(hs:s≠[])(hl:I a<=10000000)(hl2:I s<=10000000):
  Za ZIy 143 [.msl b 0 2 2 1] S λr T=>r=.ret (.str (ZN a s))/\∃o,T=S.upd b o:=by
 refine Zb (cR 143 f143) λF hF=>?_;have hd:=Zhk (c:=2) (l:=[a,s]) hb ψ ψ (.fn (.func 190) [] []) (λx=>dC (x=[])) (λx T=>(Zgy x).VT (first:=[]) (caps:=[]) T);have t:=ZyW a s hs;have ac:(Jb (λx=>dC (x=[])) [a,s]).length<=2:=ZyV;generalize Jb (λx=>dC (x=[])) [a,s]=K at *;have ad:(joinL K [46]).length<=100000000:=by rw[t];unfold ZN;split;omega;simp only[ZII,ZIP,List.length_nil];omega
 refine gG ?_;refine cV (hd) ?_ ?_;rintro dd T ⟨hr,rfl⟩;cases hr;refine gR0 ?_;generalize hC:(K++List.replicate (2-K.length) [])=C at *;have ab:∀i,i<K.length->C.getD i []=K.getD i []:=λi hi=>by rw[<-hC];simp[ZIN,ZI6 hi]
 have u:K.length<=C.length:=by rw[<-hC];simp
 refine cV ((ZyU (S.upd_same b _) K ac u ab ad)) ?_ ?_;rintro dv T hT;obtain⟨hr,rfl⟩:=hT;cases hr;refine gR0 ?_;rw[t];exact hF.ret _ _ rfl φ (ZIB _) ZIz ⟨rfl,_,rfl⟩;rintro v T ⟨hr,_⟩;cases hr;rintro v T ⟨hr,_⟩;cases hr
def YO(l:List Fld):List D:=l.flatMap Fld.cells
def ZaR(l):(YO l).length=I l*15:=by
 unfold YO;induction l with
 |nil=>rfl
 |cons f r ih=>rw[ZJl,ZII,ih,ZaS,ZIP];omega
def ZiC{l i}(h:i<I l)(X):part (YO l++X) (i*15) 15=(l.getD i dE).cells:=by
 have t:l=l.take i++(l.getD i dE::l.drop (i+1)):=by
  conv=>lhs;rw[<-List.take_append_drop i l]
  rw[List.drop_eq_getElem_cons h];simp[ZIN,h]
 have u:YO l++X=YO (l.take i)++((l.getD i dE).cells++(YO (l.drop (i+1))++X)):=by
  conv=>lhs;rw[t]
  unfold YO;simp
 unfold part;rw[u,List.drop_left' (by rw[ZaR,ZIS,Nat.min_eq_left ω]),List.take_left' (ZaS _)]
def ZyI{l i}(h:i<I l)(f X):Zy (YO l++X) (i*15) f.cells=YO (l.set i f)++X:=by
 have u:l=l.take i++(l.getD i dE::l.drop (i+1)):=by
  conv=>lhs;rw[<-List.take_append_drop i l]
  rw[List.drop_eq_getElem_cons h];simp[ZIN,h]
 have h2:YO l++X=YO (l.take i)++((l.getD i dE).cells++(YO (l.drop (i+1))++X)):=by
  conv=>lhs;rw[u]
  unfold YO;simp
 have t:(YO (l.take i)).length=i*15:=by rw[ZaR,ZIS,Nat.min_eq_left ω]
 unfold Zy;rw[h2,List.take_left' t,<-List.drop_drop,List.drop_left' t,ZaS,List.drop_left' (ZaS _),List.set_eq_take_append_cons_drop,if_pos h];unfold YO;simp
def Zu5{l k m}(h:k<=I l)(z X):∃Y,Zy (YO l++X) (k*15) (W3 z m)=YO (l.take k)++Y:=by
 have t:YO l++X=YO (l.take k)++(YO (l.drop k)++X):=by unfold YO;rw[<-ZI1,<-List.flatMap_append,List.take_append_drop]
 have u:(YO (l.take k)).length=k*15:=by rw[ZaR,ZIS,Nat.min_eq_left ω]
 unfold Zy;rw[t,List.take_left' u,ZI1];exact⟨_,rfl⟩
def Zw2(l):(ZIM (I l)).flatMap (λk=>(l.getD k dE).cells)=YO l:=by
 unfold YO;have h:l.flatMap Fld.cells=((ZIM (I l)).map λk=>l.getD k dE).flatMap Fld.cells:=by
  congr 1
  refine List.ext_getElem ψ λi t h2=>?_;simp[ZIN,t]
 rw[h,List.flatMap_map]
def Zjs(l)(hl:I l<=1000000)(hp:0<I l)(st):Za ZIy 137 [Zq l] st λr S=>∃b c X,st b=nO/\I l<=c/\r=.ret (.msl b 0 (I l) c 15)/\S=st.upd b (.cells (YO l++X)):=by
 refine Zb (cR 137 f137) λF hF=>?_;have u:=Zw2 l;refine rx (nd2 @Zq.eq_1 @eQ1) ?_;refine gA ?_;refine iG ?_;refine Zvw rfl rfl rfl rfl rfl rfl φ φ (by exact hp) ω (by unfold big;omega) λb bc hb t=>Zm ?_;simp only[Eqs,reduceCtorEq,ZIF,reduceIte,ZIC,ZIH,ZID];rw[u];exact hF.ret _ _ rfl φ (ZIB _) ZIz ⟨b,bc,_,hb,t,rfl,rfl⟩
def Za8(p:Fld->Bool)(l:List Fld):List Fld:=l.filter λx=>!p x
def ZiJ{p}{l:List Fld}{j}(h:j<I l):Za8 p (l.take (j+1))=Za8 p (l.take j)++if p (l.getD j dE) then [] else [l.getD j dE]:=by
 rw[Yo h];unfold Za8;rw[List.filter_append];congr 1;simp only[List.filter_cons,List.filter_nil];cases p (l.getD j dE)<;>rfl
def ZmO{p}{l:List Fld}{i}(h:∀j,j<i->p (l.getD j dE)=false)(hi:i<=I l):Za8 p (l.take i)=l.take i:=by
 unfold Za8;rw[List.filter_eq_self];intro x hx;obtain⟨j,t,rfl⟩:=ZIV hx;have u:=h j (by rw[ZIS]at t;omega);rw[ZIS]at t;simpa[ZIN,show j<I l by omega]using u
def Zrx{p l}(h:∀x∈l,p x=false):Za8 p l=l:=by
 unfold Za8;rw[List.filter_eq_self];intro x t;rw[h x t];rfl
def ZzD{E:List Fld}{k x}(h:k<E.length):(E.set k x).take (k+1)=E.take k++[x]:=by
 rw[List.set_eq_take_append_cons_drop,if_pos h,show E.take k++x::E.drop (k+1)=(E.take k++[x])++E.drop (k+1) by simp,List.take_left' (by simp;omega)]
def ZAE{b c l X T}(hb:T b=sO (.cells (YO l++X)))(hc:I l<=c)(fid p)(hf:∀x,Zd ZIy fid [.agg x.cells] (.bool (p x))):
  Za ZIy 187 [.msl b 0 (I l) c 15,.fn (.func fid) [] []] T λr S=>r=.ret (.i (Zi p l))/\S=T:=by
 have h:=Za.lend (P:=ZIy) (Ln:=[b]) (t:=T) (λx hx=>⟨YO l++X,by rw[List.mem_singleton.1 hx];exact hb⟩) (.cons (Ya.msl (row:=λi=>(l.getD i dE).cells) (cap:=c) (sz:=15) (n:=I l) (List.mem_singleton.2 rfl) hb (by rw[ZII,ZaR];omega) ?_) (.cons (.refl (.fn (.func fid) [] [])) .nil))
  (QG l (.fn (.func fid) [] []) p (λ_ _=>nO) (λi _=>(hf _).VT (first:=[]) (caps:=[]) _)) (λr S u=>?_)
 refine h.mono λr S hS=>?_;obtain⟨S',⟨u,rfl⟩,_,rfl⟩:=hS;exact⟨u,Zhb T⟩;intro i hi;rw[show((YO l++X).drop (i*15)).take 15=(l.getD i dE).cells from ZiC hi X];exact .refl _;obtain⟨rfl,rfl⟩:=u;exact⟨.int _ _,λb o h=>by simp at h⟩
def ZfS{b c l X S}(hb:S b=sO (.cells (YO l++X)))(hl:I l<=1000000)(hc:I l<=c)(fid p)(hf:∀x,Zd ZIy fid [.agg x.cells] (.bool (p x))):
  Za ZIy 136 [.msl b 0 (I l) c 15,.fn (.func fid) [] []] S λr T=>r=.ret (.msl b 0 (Za8 p l).length c 15)/\∃Y,T=S.upd b (.cells (YO (Za8 p l)++Y)):=by
 refine Zb (cR 136 f136) λF hF=>?_;have am:=ZAE hb hc fid p hf;refine gG ?_;refine cV (am) ?_ ?_
 .rintro dd T ⟨hr,hT⟩;obtain rfl:=hT.symm;cases hr;refine gR0 ?_;refine rg ?_;by_cases af:Zi p l<0;have ap:Zi p l=-1:=by have:=ZaQ p l;omega
  rw[ap];refine i1 ?_;refine rg ?_;exact hF.ret _ _ rfl φ (ZIB _) ZIz ⟨by rw[Zrx (ZcB af)];rfl,X,by rw[Zrx (ZcB af)];exact(St.upd_self hb).symm⟩;obtain⟨q0,aq⟩:∃q0:Nat,Zi p l=q0:=⟨(Zi p l).toNat,ω⟩;have ao:=WE p l;have aj:=Jr (p:=p) (l:=l) ω;rw[aq]at ao aj⊢;have ab:=λj hj=>aj.2 j hj;have ai:=aj.1;simp only[Int.toNat_natCast]at ab ai;have ag:q0<I l:=ω;refine i0 ?_;refine gA ?_;refine Ze (fr (I l) (λj Q=>j<=I l->∀(k:Nat) (E:List Fld),E.length=I l->k<j->k=(Za8 p (l.take j)).length->E.take k=Za8 p (l.take j)->E.drop j=l.drop j->Q [(0,.d (.msl b 0 (I l) c 15)),(1,.d (.fn (.func fid) [] [])),(5,.d (.i k)),(6,.d (.i j))] [] (S.upd b (.cells (YO E++X)))) (λn t=>?_) λar=>?_)
  .intro j hn hj k E hE hkj hk ae hdr;refine rg ?_;refine cd (λh1=>?_) (λh1=>?_)
   .have ah:j<I l:=by simp at h1;omega
    have hx:E.getD j dE=l.getD j dE:=by
     have h2:(E.drop j)[0]?=(l.drop j)[0]?:=by rw[hdr]
     simpa[ZIN]using congrArg (λo=>o.getD dE) h2
    have ad:(YO E++X).length=I l*15+X.length:=by rw[ZII,ZaR,hE]
    have hg:=ZiC (l:=E) (i:=j) ω X;rw[hx]at hg;unfold part at hg;have u:=ZiJ (p:=p) ah;have ak:E.drop (j+1)=l.drop (j+1):=by rw[<-List.drop_drop,hdr,List.drop_drop]
    generalize l.getD j dE=x at *;refine xA (nd2 @ZIE (nd2 @hg (nd2 @ad (nd2 @ZaS @Zeu)))) ?_;refine xA (nd2 @ZaS @Zeu) ?_;refine cl (hf x) ?_;cases al:p x with
    |true =>rw[al,if_pos rfl,ZI5]at u;refine i0 ?_;refine gA ?_;refine Zf ?_;exact t ((I l)-(j+1)) ω (j+1) rfl ω k E hE ω (by rw[u];exact hk) (by rw[u];exact ae) ak
    |false =>rw[al,if_neg ψ]at u;have ac:=ZyI (l:=E) (i:=k) ω x X;unfold Zy at ac;rw[ZaS]at ac;refine i1 ?_;refine xA (nd2 @ZIE (nd2 @ZIR (nd2 @ad (nd2 @ZaS @Zeu)))) ?_;rw[ac];refine gA ?_;refine gA ?_;rw[show(k:Int)+1=((k+1:Nat):Int) by omega];refine Zf ?_;exact t ((I l)-(j+1)) ω (j+1) rfl ω (k+1) (E.set k x) (by rw[List.length_set];exact hE) ω (by rw[u,ZII,<-hk];rfl) (by rw[u,<-ae,ZzD ω]) (by rw[List.drop_set_of_lt ω];exact ak)
   have ah:j=I l:=by simp at h1;omega
   subst ah;rw[ZJa]at hk ae;have ad:(YO E++X).length=I l*15+X.length:=by rw[ZII,ZaR,hE]
   refine rg ?_;refine⟨ω,ω,ω,ω,?_⟩;rw[if_neg ω,show((I l:Int)-k).toNat=I l-k by omega,show((c:Int)-k).toNat=c-k by omega];refine Zm7 rfl rfl rfl trivial (cs:=YO E++X) (by simp[Z2,ZIE]) (by rw[ad];omega) ?_;obtain⟨Y,hY⟩:=Zu5 (l:=E) (k:=k) (m:=I l-k) ω [.str [],.i 0,.i 0,.bool false,.bool false,.i 0,.i 0,.i 0,.nilsl,.str [],.str [],.str [],.nilsl,.i 0,.i 0] X;rw[ae]at hY;rw[hY,ZIR];refine gR0 ?_;refine rg ?_;refine⟨ω,ω,ω,ω,?_⟩;simp only[ite_self,if_pos];exact hF.ret _ _ rfl φ (ZIB _) ZIz ⟨by rw[<-hk];rfl,Y,rfl⟩
  have h0:=ar _ (q0+1) rfl ω q0 l rfl ω (by rw[ZiJ ag,ai,if_pos rfl,ZI5,ZmO ab ω,ZIS];omega) (by rw[ZiJ ag,ai,if_pos rfl,ZI5,ZmO ab ω]) rfl;rw[St.upd_self hb]at h0;exact h0
 rintro v T ⟨hr,_⟩;cases hr
def Zmx(f):Zd ZIy 138 [.agg f.cells] (.bool (!YG f)):=by
 refine Zg (cR 138 f138) λF st t=>?_;refine rx @eQ0 ?_;refine rg ?_;refine cl (Zd6 f) ?_;refine rb t ?_;rfl
def ZAI(l):Za8 (λf=>!YG f) l=vfs l:=by unfold Za8 vfs;simp
def ZgB(m:Msg)(hp:0<I m.fields)(hl:I m.fields<=1000000):Zd ZIy 106 [.agg m.cells] (Zq (vfs m.fields)):=by
 refine Zg (cR 106 f106) λF st t=>?_;refine rx @eQ3 ?_;refine rg ?_;refine cV ((Zjs m.fields hl hp st)) ?_ ?_;rintro dd T ⟨b,c,X,hb,hc,hr,rfl⟩;cases hr;refine gR0 ?_;refine cV ((ZfS (ZIE _ _ _) hl hc 138 (λf=>!YG f) Zmx)) ?_ ?_;rintro dd2 T2 ⟨hr,Y,rfl⟩;cases hr;refine gR0 ?_;rw[ZAI,ZIR];refine ZjA [b] (λx hx=>⟨YO (vfs m.fields)++Y,by rw[List.mem_singleton.1 hx];exact ZIE _ _ _⟩) (H':=[(2,.d (Zq (vfs m.fields)))]) (L':=[]) (.cons (Ya.msl (row:=λi=>((vfs m.fields).getD i dE).cells) (List.mem_singleton.2 rfl) (ZIE _ _ _) (by rw[ZII,ZaR];omega) λi hi=>?_) .nil) .nil ?_;rw[show((YO (vfs m.fields)++Y).drop (i*15)).take 15=((vfs m.fields).getD i dE).cells from ZiC hi Y];exact .refl _;refine t rfl φ (ZIB _) (λx o hx=>?_);have u:x≠b:=λe=>by rw[e,hb]at hx;simp at hx
 simp only[St.delL,List.mem_singleton,u,if_false];rw[ZIG _ _ u];exact hx;rintro v T2 ⟨hr,_⟩;cases hr;rintro v T ⟨b,c,X,_,_,hr,_⟩;cases hr
def ZnV(f:Fld)(x:Val):Zd ZIy 141 [.agg f.cells,.agg x.cells] (.bool (dC (f.name=x.name))):=by
 refine Zg (cR 141 f141) λF st t=>?_;rw[ZI2];refine rx @eQ0 ?_;refine rg ?_;refine rb t ?_;rfl
def QT(l:List Fld)(ps:List Val):Bool:=dC (l.map (·.name)=ps.map Val.name)
def Zy4{l ps}(h:I l≠I ps):QT l ps=false:=by
 unfold QT;rw[decide_eq_false_iff_not];intro t;exact h (by simpa using congrArg List.length t)
def Zxf{l ps}(h:I l=I ps)(hn:∀j,j<I l->(l.getD j dE).name=(ps.getD j dE).name):QT l ps=true:=by
 unfold QT;rw[decide_eq_true_eq];refine List.ext_getElem (by simpa using h) λi t u=>?_;have h3:=hn i (by simpa using t);simp at t u;simpa[ZIN,t,u]using h3
def Zxg{l ps j}(h:I l=I ps)(hj:j<I l)(t:dC ((l.getD j dE).name=(ps.getD j dE).name)=false):QT l ps=false:=by
 unfold QT;rw[decide_eq_false_iff_not]at t⊢;intro he;have u:(l.map (·.name))[j]?=(ps.map Val.name)[j]?:=by rw[he]
 refine t ?_;simpa[ZIN,hj,show j<I ps by omega]using u
def ZeS(l ps):Zd ZIy 140 [Zq l,ZZ ps,.fn (.func 141) [] []] (.bool (QT l ps)):=by
 refine Wc (cR 140 f140) λac F st t=>?_;have af:=(Wm (ac (Zq l) ψ)).1;have ag:=Zjg (ac (ZZ ps) ψ);unfold big at af ag;clear ac;refine rg ?_;refine rx (nd2 @Zfy @ZbT) ?_;refine cd (λhc=>?_) (λhc=>?_);refine rg ?_;refine rb t ?_;exact(Zy4 (l:=l) (ps:=ps) (by simp at hc;omega)).symm;have ab:I l=I ps:=by simp at hc;omega
 refine rx (nd2 @Zfy @ZbT) ?_;refine Ze (fr (I l) (λi Q=>i<=I l->(∀j,j<i->dC ((l.getD j dE).name=(ps.getD j dE).name)=true)->Q [(1,.d (ZZ ps)),(2,.d (.fn (.func 141) [] [])),(15,.d (Zq l)),(16,.d (.i (I l))),(17,.d (.i i))] [] st) (λn u=>?_) λah=>?_)
 .intro i hn hi ae;refine rg ?_;refine Zc (Zl rfl trivial (λh1=>?_) (λh1=>?_))
  .simp at h1;have ad:=ZnV (l.getD i dE) (ps.getD i dE);have hr:=K6 (l:=ps) (i:=i) ω;rw[ZI2]at ad;refine xA (nd2 @atF (nd2 @ZaS @Zeu)) ?_;refine xA (nd2 @atV @hr) ?_;refine rx (nd2 @ZaS @Zeu) ?_;refine cl (ad) ?_;cases hb:dC ((l.getD i dE).name=(ps.getD i dE).name) with
   |true =>refine i0 ?_;refine gA ?_;refine Zf ?_;exact u ((I l)-(i+1)) ω (i+1) rfl ω (Yc (q:=λj=>dC ((l.getD j dE).name=(ps.getD j dE).name)=true) ae hb)
   |false =>refine i1 ?_;refine rg ?_;refine rb t ?_;exact(Zxg ab h1 hb).symm
  simp at h1;obtain rfl:i=I l:=ω;refine rg ?_;refine rb t ?_;exact(Zxf ab λj hj=>by simpa using ae j hj).symm
 exact ah _ 0 rfl ω (by intro j hj;omega)
def ZqE(l ps):Zd ZIy 108 [Zq l,ZZ ps] (.bool (QT l ps)):=by
 refine Zg (cR 108 f108) λF st t=>?_;refine gG ?_;refine cl (ZeS l ps) ?_;refine rb t ?_;rfl
def Jg(d s)(h:0<=Zz d s (I d.msgs)):Zd ZIy 153 [.agg d.cells,.str s] (.agg (d.msgs.getD (ixS d s) dE).cells):=by
 refine Zg (cR 153 f153) λF st t=>?_;have ab:=QS h;generalize hm:d.msgs.getD (ixS d s) dE=m at *;have u:Zi (λx:Msg=>dC (x.name=s)) d.msgs=(ixS d s:Int):=by rw[<-ab.1];unfold Zz;rw[ZJa]
 have ac:max (ixS d s:Int) 0=ixS d s:=ω;refine rx @eQ2 ?_;refine rg ?_;refine cX (nd2 @u @ac) (Zbc d s) ?_;refine xA (nd2 @atM (nd2 @hm @eQ3)) ?_;refine ro t ?_;rfl
def ZcP(l:List Fld):Nat->List (Str×Int)
 |0=>[]
 |i+1=>if (l.getD i dE).kind=2 then YK (l.getD i dE).name (l.getD i dE).low (ZcP l i) else ZcP l i
def ZdM(l:List Fld)(ps:List Val)(E:List (Str×Int)):Nat->List (Str×Int)
 |0=>E
 |i+1=>if YB (l.getD i dE) then YK (l.getD i dE).name (ps.getD i dE).int (ZdM l ps E i) else ZdM l ps E i
def ZdL(m:Msg)(ps:List Val):List (Str×Int):=ZdM (vfs m.fields) ps (ZcP m.fields (I m.fields)) (vfs m.fields).length
def Zk9(m)(hp:0<I m.fields)(hl:I m.fields<=1000)(ps)(hn:(vfs m.fields).length=I ps)(st):
  Za ZIy 109 [.agg m.cells,ZZ ps] st λr S=>∃b,st b=nO/\r=.ret (.map b)/\S=st.upd b (.map (Kh (ZdL m ps))):=by
 refine Zb (cR 109 f109) λF hF=>?_;have hvl:(vfs m.fields).length<=I m.fields:=List.length_filter_le ..;have ae:=ZgB m hp ω;have hM:=ZdL.eq_1 m ps;generalize vfs m.fields=vl at *;refine rx @eQ3 ?_;refine rg ?_;intro b hb;rw[show([]:List (D×D))=Kh (ZcP m.fields 0) from rfl];refine rx @Zfy ?_;refine Ze (fr (I m.fields) (λi Q=>i<=I m.fields->Q [(1,.d (ZZ ps)),(2,.loc 2 0),(5,.d (.map b)),(12,.d (Zq m.fields)),(13,.d (.i (I m.fields))),(14,.d (.i i))] [(2,[.str m.name,Zq m.fields])] (st.upd b (.map (Kh (ZcP m.fields i))))) (λn ab=>?_) λaf=>?_);intro i hn2 hi;refine rg ?_;refine Zc (Zl rfl trivial (λh1=>?_) (λh1=>?_));simp at h1;have t:=ZcP.eq_2 m.fields i;generalize hf:m.fields.getD i dE=f at *;refine xA (nd2 @atF (nd2 @hf @eQ0)) ?_;refine rg ?_;refine cd (λh2=>?_) (λh2=>?_);rw[if_pos (by simpa using h2)]at t;have e2:=JU (vD:=YR) ZP f.name f.low (ZcP m.fields i);have e3:=YS ZP f.name;simp only[show KG f.name=D.str f.name from rfl,show YR f.low=.i f.low from rfl]at e2 e3;refine xA (nd2 @ZIE (nd2 @ZIR (nd2 @e2 @e3))) ?_;refine gA ?_;rw[<-t];refine Zf ?_;exact ab ((I m.fields)-(i+1)) ω (i+1) rfl ω;rw[if_neg (by simpa using h2)]at t;refine gA ?_;rw[<-t];refine Zf ?_;exact ab ((I m.fields)-(i+1)) ω (i+1) rfl ω;simp at h1;obtain rfl:i=I m.fields:=ω;generalize ZcP m.fields (I m.fields)=E0 at *;refine rg ?_;refine cX @Zfy (ae) ?_;refine Ze (fr (I vl) (λk Q=>k<=I vl->Q [(1,.d (ZZ ps)),(5,.d (.map b)),(28,.d (Zq vl)),(29,.d (.i (I vl))),(30,.d (.i k))] [] (st.upd b (.map (Kh (ZdM vl ps E0 k))))) (λn u=>?_) λad=>?_);intro k hn3 hk;refine rg ?_;refine Zc (Zl rfl trivial (λh3=>?_) (λh3=>?_));simp at h3;have t:=ZdM.eq_2 vl ps E0 k;have ac:=K6 (l:=ps) (i:=k) ω;generalize hf:vl.getD k dE=f at *;generalize hg:ps.getD k dE=g at *;refine xA (nd2 @atF (nd2 @hf (nd2 @ZaS @Zeu))) ?_;refine rx (nd2 @ZaS @Zeu) ?_;refine cl (ZfM f) ?_;refine cd (λh4=>?_) (λh4=>?_);rw[if_pos h4]at t;have e2:=JU (vD:=YR) ZP f.name g.int (ZdM vl ps E0 k);have e3:=YS ZP f.name;simp only[show KG f.name=D.str f.name from rfl,show YR g.int=.i g.int from rfl]at e2 e3;refine xA (nd2 @eQ0 (nd2 @atV (nd2 @ac (nd2 @ZIE (nd2 @ZIR (nd2 @e2 @e3)))))) ?_;refine gA ?_;rw[<-t];refine Zf ?_;exact u ((I vl)-(k+1)) ω (k+1) rfl ω;rw[if_neg (by simpa using h4)]at t;refine gA ?_;rw[<-t];refine Zf ?_;exact u ((I vl)-(k+1)) ω (k+1) rfl ω;simp at h3;obtain rfl:k=I vl:=ω;rw[<-hM];refine rg ?_;exact hF.ret _ _ rfl φ (ZIB _) ZIz ⟨b,hb,rfl,rfl⟩;exact ad _ 0 rfl ω;exact af _ 0 rfl ω
def Zpz(n):Zd ZIy 233 [.i n] (.bool (dC (0<=n)&&dC (n<34359738368))):=by
 refine Zg (cR 233 f233) λF st t=>?_;refine gG ?_;refine rb t ?_;rfl
def ckI(st:St)(b5 b6 b7 b8 b9 b:Nat):St :=
 ((((st.upd b5 (.cells [.str []])).upd b6 (.cells [.map b])).upd b7 (.cells [.fn (.func 233) [] []])).upd b8 (.cells [.i 0])).upd b9 (.cells [.bool false])
section
variable {st:St} {b5 b6 b7 b8 b9 b:Nat}
def Ws.i5(h:Ws st b5 b6 b7 b8 b9):(ckI st b5 b6 b7 b8 b9 b) b5=sO (.cells [.str []]):=by
 simp[ckI,ZJc,h.n6.1.symm,h.n7.2.1.symm,h.n8.2.2.1.symm,h.n9.2.2.2.1.symm]
def Ws.i6(h:Ws st b5 b6 b7 b8 b9):(ckI st b5 b6 b7 b8 b9 b) b6=sO (.cells [.map b]):=by
 simp[ckI,ZJc,h.n7.1.symm,h.n8.2.1.symm,h.n9.2.2.1.symm]
def Ws.i7(h:Ws st b5 b6 b7 b8 b9):(ckI st b5 b6 b7 b8 b9 b) b7=sO (.cells [.fn (.func 233) [] []]):=by
 simp[ckI,ZJc,h.n8.1.symm,h.n9.2.1.symm]
def Ws.i8(h:Ws st b5 b6 b7 b8 b9):(ckI st b5 b6 b7 b8 b9 b) b8=sO (.cells [.i 0]):=by
 simp[ckI,ZJc,h.n9.1.symm]
def Ws.i9:(ckI st b5 b6 b7 b8 b9 b) b9=sO (.cells [.bool false]):=by
 simp[ckI,ZJc]
def Ws.im(h:Ws st b5 b6 b7 b8 b9){o}(t:st b=sO o):(ckI st b5 b6 b7 b8 b9 b) b=sO o:=by
 have u:b≠b5:=λe=>by rw[e,h.n5]at t;simp at t
 have h6:b≠b6:=λe=>by rw[e,h.n6.2]at t;simp at t
 have h7:b≠b7:=λe=>by rw[e,h.n7.2.2]at t;simp at t
 have h8:b≠b8:=λe=>by rw[e,h.n8.2.2.2]at t;simp at t
 have h9:b≠b9:=λe=>by rw[e,h.n9.2.2.2.2]at t;simp at t
 simp[ckI,ZJc,u,h6,h7,h8,h9,t]
def Ws.isub(h:Ws st b5 b6 b7 b8 b9):st.sub (ckI st b5 b6 b7 b8 b9 b):=λc o t=>by
 have u:c≠b5:=λe=>by rw[e,h.n5]at t;simp at t
 have h6:c≠b6:=λe=>by rw[e,h.n6.2]at t;simp at t
 have h7:c≠b7:=λe=>by rw[e,h.n7.2.2]at t;simp at t
 have h8:c≠b8:=λe=>by rw[e,h.n8.2.2.2]at t;simp at t
 have h9:c≠b9:=λe=>by rw[e,h.n9.2.2.2.2]at t;simp at t
 simp[ckI,ZJc,u,h6,h7,h8,h9,t]
def ZB5(h:Ws st b5 b6 b7 b8 b9){H L}(hρ:ZM H 8=sO (.d (.ptr b8 0)):=by rfl):
  YD H L (ckI st b5 b6 b7 b8 b9 b) [.cell1 8]=sO (True/\True,[.i 0]):=by
 simp[YD,Kt,hρ,Wn,Z2,h.i8]
end
def ZnX(s)(hv:Z9 s=true)(b l st)(hb:st b=sO (.map (Kh l)))(hk:∀t∈s.terms,∃v,Zp t.field l=sO v/\0<=v/\v<34359738368):
  Za ZIy 232 [.agg s.cells,.str [],.map b,.fn (.func 233) [] []] st (λr S=>r=.ret (.i 0)/\S=st):=by
 refine Zb (cR 232 f232) λF hF=>?_;refine rx @eQ4 ?_;refine rx @eQ4 ?_;refine cl (ZbK s) ?_;rw[hv];refine iG ?_;refine Zc (Zc ?_);refine xP 5 λb5 h5=>?_;refine xP 6 λb6 h6=>?_;refine xP 7 λb7 h7=>?_;refine xP 8 λb8 h8=>?_;refine xP 9 λb9 h9=>?_;refine rx @eQ4 ?_;refine cV (Zeq s hv) ?_ ?_;rintro d S ⟨x,hx,hd,rfl⟩;cases hd;refine gR0 ?_;refine Ze ?_;have u:Ws st b5 b6 b7 b8 b9:=by have k6:=Zo h6;have k7:=Zo h7;have am:=Zo k7.2;have k8:=Zo h8;have ag:=Zo k8.2;have ao:=Zo ag.2;have k9:=Zo h9;have ah:=Zo k9.2;have ai:=Zo ah.2;have ap:=Zo ai.2;exact⟨h5,k6,⟨k7.1,am⟩,⟨k8.1,ag.1,ao⟩,⟨k9.1,ah.1,ai.1,ap⟩⟩
 have hfew:=Zae hv;rw[show(((((st.upd b5 (.cells [.str []])).upd b6 (.cells [.map b])).upd b7 (.cells [.fn (.func 233) [] []])).upd b8 (.cells [.i 0])).upd b9 (.cells [.bool false]))=ckI st b5 b6 b7 b8 b9 b from rfl]at hx⊢;refine KT hF rfl trivial [5,6,7,8,9] (by show([5,6,7,8,9]:List Nat).Nodup;decide) (W9 hx) (ZcZ s.terms (by unfold big;omega) x).Y (λj hj=>rfl)
  (λj=>.next) (λj a=>a=ckI st b5 b6 b7 b8 b9 b) rfl ?_ ?_ ?_ ?_ ?_ ?_
 intro j a hj ac hB F' ready busy hdr ad ae;subst hB;simp only[Eqs,reduceCtorEq,ZIF,reduceIte,ZIC,ZIH,ZID,WN,Ki,Jd,Ks,List.isEmpty_nil,List.isEmpty_cons];refine rg ?_;refine ad λaj=>?_;have al:(s.terms.getD j dE).field≠[]:=Zlp hv hj;obtain⟨v,hg,h0,h1⟩:=hk _ (ZE hj);generalize htm:s.terms.getD j dE=tm at *;have e1:=YF (vD:=YR) ZP tm.field l;have e3:=YS ZP tm.field;simp only[show KG tm.field=D.str tm.field from rfl]at e1 e3;rw[hg]at e1;have af:(ckI st b5 b6 b7 b8 b9 b).upd b8 (.cells [.i 0])=ckI st b5 b6 b7 b8 b9 b:=St.upd_self u.i8;refine rh ?_;refine Zm ?_;simp only[Eqs,reduceCtorEq,ZIF,reduceIte,ZIC,ZIH,ZID,Zs (u.i6 ),Zs (u.im hb),e1,e3];refine rh ?_;refine Zm ?_;simp only[Eqs,reduceCtorEq,ZIF,reduceIte,ZIC,ZIH,ZID,Zs (u.i5 )];refine Zl rfl trivial (λh=>by simp at h;exact absurd h al) (λ_=>?_);refine gI ?_;rw[show YR v=.i v from rfl];refine rh ?_;refine Zm ?_;simp only[Eqs,reduceCtorEq,ZIF,reduceIte,ZIC,ZIH,ZID,Zs (u.i7 )];refine cl (Zpz v) ?_;refine Zl rfl trivial (λh=>by simp at h;omega) (λ_=>?_);refine ZK (Zr (Zr ?_));exact ae.fin ⟨rfl,rfl⟩ aj ZIz;intro q a ac hB hq;subst hB;rw[Qq hq];have ak:=W9 (o:=QO.dfr) hq;have af:(ckI st b5 b6 b7 b8 b9 b).upd b8 (.cells [.i 0])=ckI st b5 b6 b7 b8 b9 b:=St.upd_self u.i8;refine rh ?_;refine Zm ?_;simp only[Eqs,reduceCtorEq,ZIF,reduceIte,ZIC,ZIH,ZID,Zs (Ws.i9 )];refine i0 ?_;refine rh ?_;refine Zm ?_;simp only[Eqs,reduceCtorEq,ZIF,reduceIte,ZIC,ZIH,ZID,Zs (u.i8 ),Kc,af];exact hF.ret1 (Zj1 ak Yl) (.i 0) st (ZB5 u) ⟨trivial,trivial⟩ (ZIB _) u.isub ⟨rfl,rfl⟩;intro q a m hm ac ab;simp at ab;intro q a m id hm ac ab;simp at ab;intro q a m d hm ac ab;simp at ab;intro m c ab;simp at ab;rintro d S ⟨x,hx,hd,rfl⟩;cases hd
def ZqH(t:Yw){b z l st}(hb:st b=sO (.map (Kh l)))(hz:st z=sO (.cells [.map b])):
  ZO ZIy 235 [.agg t.cells,.ptr z 0] st (.i ((Zp t.field l).getD 0)) st:=by
 refine ZG (cR 235 f235) λab F u=>?_;clear ab;have e1:=YF (vD:=YR) ZP t.field l;have e3:=YS ZP t.field;simp only[show KG t.field=D.str t.field from rfl]at e1 e3;refine rx @Yw.cells.eq_1 ?_;refine rx (nd2 @hb (nd2 @hz (nd2 @e1 (nd2 @e3 @Ze1)))) ?_;exact u rfl φ (ZIB _) ZIz
def Zau(s:ZbN)(l:List (Str×Int)):Int:=s.base+Q3 (λt=>(Zp t.field l).getD 0) s.terms
def ZuD(s)(hv:Z9 s=true)(b l st)(hb:st b=sO (.map (Kh l)))(hk:∀t∈s.terms,∃v,Zp t.field l=sO v/\0<=v/\v<34359738368):
  Za ZIy 191 [.agg s.cells,.map b] st (λr S=>r=.ret (.tup [.i (Zau s l),.i 0])/\S=st):=by
 refine Zb (cR 191 f191) λF hF=>?_;have hE:=Zau.eq_1 s l;have u:∀t∈s.terms,0<=(Zp t.field l).getD 0/\(Zp t.field l).getD 0<34359738368:=λt ht=>by obtain⟨v,h1,h2,h3⟩:=hk t ht;rw[h1];exact⟨h2,h3⟩
 refine rx @eQ4 ?_;refine rx @eQ4 ?_;refine cV (ZnX s hv b l st hb hk) ?_ ?_;rintro d S ⟨hd,hS⟩;obtain rfl:=hS.symm;cases hd;refine gR0 ?_;refine gI ?_;refine ZK (Zc ?_);refine xP 3 λz hz=>?_;have ab:b≠z:=λe=>by rw[e,hz]at hb;simp at hb
 refine rx @eQ4 ?_;refine ZaE rfl rfl rfl rfl rfl φ φ (by exact ZhT s hv (λt=>(Zp t.field l).getD 0) u (λt ht=>(ZqH t (by rw[ZIG _ _ ab];exact hb) (ZIE _ _ _)).VT (first:=[]) (args:=[_]) (caps:=[_]))) (Zm ?_);simp only[Eqs,reduceCtorEq,ZIF,reduceIte,ZIC,ZIH,ZID];exact hF.ret _ _ rfl φ (Jy (by rw[hE]) rfl) (ZIZ _ hz) ⟨rfl,rfl⟩;rintro d S ⟨hd,_⟩;cases hd
def WT(m:Msg)(d:Dfn)(path:Str)(b:Nat):List D:=[.str m.name,Zq m.fields,.str d.name,YX d.msgs,.str d.start,.str path,.map b]
def Zap(m d path)(f:Fld)(hv:Z9 f.size=true)(b l st)(hb:st b=sO (.map (Kh l)))(hk:∀t∈f.size.terms,∃v,Zp t.field l=sO v/\0<=v/\v<34359738368):
  Za ZIy 148 [.agg (WT m d path b),.agg f.cells] st (λr S=>r=.ret (.i (Zau f.size l))/\S=st):=by
 refine Zb (cR 148 f148) λF hF=>?_;have hE:=ZuD f.size hv b l st hb hk;refine rx (nd2 @eQ0 @WT.eq_1) ?_;refine rg ?_;refine cV (hE) ?_ ?_;rintro dd S ⟨u,hS⟩;obtain rfl:=hS.symm;cases u;refine gR0 ?_;refine rg ?_;exact hF.ret _ _ rfl φ (ZIB _) ZIz ⟨rfl,rfl⟩;rintro dd S ⟨u,_⟩;cases u
def Zbi{v of}(hv:0<=v)(ho:1<=of):(v<=upS v of/\upS v of<v+of)/\upS v of % of=0/\((v+of)-1).tdiv of<=upS v of/\0<=((v+of)-1).tdiv of:=by
 unfold upS;have e:((v+of)-1).tdiv of=(v+of-1) / of:=Int.tdiv_eq_ediv_of_nonneg ω;rw[e];have u:=Int.emod_add_mul_ediv (v+of-1) of;have h2:=Int.emod_nonneg (v+of-1) (show of≠0 by omega);have h3:=Int.emod_lt_of_pos (v+of-1) (show 0<of by omega);have t:0<=(v+of-1) / of:=Int.ediv_nonneg ω ω;have h4:(v+of-1) / of<=(v+of-1) / of*of:=by have:=Int.mul_le_mul_of_nonneg_left ho t;rwa [Int.mul_one]at this
 have h6:(v+of-1) / of*of % of=0:=Int.mul_emod_left _ _;rw[Int.mul_comm]at u;generalize (v+of-1) / of*of=x at *;exact⟨ω,h6,h4,t⟩
def Ztc{v of}(hv:0<=v/\v<=400000000)(ho:1<=of/\of<=1000):Zd ZIy 114 [.i v,.i of] (.i (upS v of)):=by
 obtain⟨hb,_,hb2,hb3⟩:=Zbi hv.1 ho.1;have he:((v+of)-1).tdiv of*of=upS v of:=rfl;refine Zg (cR 114 f114) λF st t=>?_;refine gG ?_;generalize ((v+of)-1).tdiv of=q at *;rw[he];generalize upS v of=u at *;refine aa ?_;refine ri t ?_;rfl
def ZbI(n:Int):Bool:=(dC (n=2) ||decide (n=4)) ||(dC (8<=n)&&dC (n<=512)&&dC (n.tmod 8=0))
def Zfc{n v}(hn:ZbI n=true)(hv:0<=v/\v<=335544320):Zd ZIy 84 [.i n,.i v] (.tup [.i (upS v n-v),.i 0]):=by
 have hb:1<=n/\n<=1000:=by unfold ZbI at hn;simp only[ZIW,ZIJ,decide_eq_true_eq]at hn;omega
 have hU:=Zbi hv.1 hb.1;have ab:=Ztc (v:=v) (of:=n) ⟨ω,ω⟩ hb;have hP:=ZbI.eq_1 n;have ht:n.tmod 8=n % 8:=Int.tmod_eq_emod_of_nonneg ω;rw[hn]at hP;refine Zg (cR 84 f84) λF st t=>?_;refine gG ?_;refine⟨λ_=>⟨by decide,by rw[ht];omega,by rw[ht];omega⟩,?_⟩;rw[<-hP];refine rg ?_;have hd:(dC (v<0) ||decide (335544320<v))=false:=by simp;omega
 refine Zl rfl trivial (λh=>by simp at h;omega) (λ_=>?_);refine rg ?_;refine cl (ab) ?_;generalize upS v n=u at *;refine aa ?_;refine rt t ?_;rfl
def ZsG:List D:=[.i 16,.i 0,.i 0,.i 0,.fn (.func 203) [] [],.fn (.func 204) [] [],.i 16,.i 65535,.i 0,.i 0,.fn (.func 205) [] [],.fn (.func 206) [] [],.i 32,.i 1,.i 0,.i 0,.fn (.func 207) [] [],.fn (.func 208) [] []]
def Zfk:Zd ZIy 166 [] (.agg ZsG):=by
 refine Zg (cR 166 f166) λF st t=>?_;refine gG ?_;exact t rfl φ (ZIB _) ZIz
def W8(n:Int):Int:=if n=3 then 32 else 16
def ZAO{n}(h:n=1\/n=2\/n=3):∃a b c f g,part ZsG ((n-1).toNat*6) 6=[.i (W8 n),a,b,c,f,g]:=by
 rcases h with rfl|rfl|rfl<;>exact⟨_,_,_,_,_,rfl⟩
def ZmC{n}(h:n=1\/n=2\/n=3){a b c f g}(u:part ZsG ((n-1).toNat*6) 6=[.i (W8 n),a,b,c,f,g]):Zd ZIy 118 [.i n] (.tup [.agg [.i (W8 n),a,b,c,f,g],.bool true]):=by
 refine Zg (cR 118 f118) λF st t=>?_;unfold part at u;have hl:ZsG.length=18:=rfl;refine gG ?_;refine cG (Zfk) ?_;refine Zl rfl trivial (λh=>by simp at h;omega) (λ_=>?_);refine rg ?_;refine cX (nd2 @u @hl) (Zfk) ?_;refine aa ?_;refine rt t ?_;rfl
def Zr8{n}(h:n=1\/n=2\/n=3):Zd ZIy 197 [.i n] (.tup [.i (W8 n),.i 0]):=by
 obtain⟨a,b,c,f,g,hp⟩:=ZAO h;have u:=ZmC h hp;refine Zg (cR 197 f197) λF st t=>?_;refine gG ?_;refine cl (u) ?_;refine rg ?_;refine iG ?_;refine rt t ?_;rfl
def YQ(v i:Nat):Nat:=v / 128 ^ i
def J7(v i):YQ v (i+1)=YQ v i / 128:=by unfold YQ;rw[Nat.pow_succ,Nat.div_div_eq_div_mul]
def ZdK(v k:Nat):UInt8:=UInt8.ofNat (YQ v k % 128+128)
def ZdH(v k:Nat):UInt8:=UInt8.ofNat (YQ v k % 128)
def ZiT(v i:Nat):Str:=(ZIM i).map (ZdK v)
def Zzb(v i):ZiT v (i+1)=ZiT v i++[ZdK v i]:=by unfold ZiT;rw[List.range_succ,List.map_append];rfl
def J6(v i):(ZiT v i).length=i:=by simp[ZiT]
def Y9(v i:Nat):Str:=ZiT v i++[ZdH v i]
def Z0(v:Nat):Nat:=if YQ v 0<128 then 0 else if YQ v 1<128 then 1 else if YQ v 2<128 then 2 else if YQ v 3<128 then 3 else 4
def ZlL{v}(hv:v<34359738368):Z0 v<=4/\(YQ v 0<128↔Z0 v<=0)/\(YQ v 1<128↔Z0 v<=1)/\(YQ v 2<128↔Z0 v<=2)/\(YQ v 3<128↔Z0 v<=3)/\YQ v 4<128:=by
 have e0:YQ v 0=v:=by simp[YQ]
 have e1:=J7 v 0;have e2:=J7 v 1;have e3:=J7 v 2;have e4:=J7 v 3;have u:=Z0.eq_1 v;generalize Z0 v=g at *;generalize YQ v 0=r0 at *;generalize YQ v 1=r1 at *;generalize YQ v 2=r2 at *;generalize YQ v 3=r3 at *;generalize hr4:YQ v 4=r4 at *;have t:g<=4/\(r0<128↔g<=0)/\(r1<128↔g<=1)/\(r2<128↔g<=2)/\(r3<128↔g<=3)/\r4<128:=by
  repeat' (split at u)
  all_goals omega
 exact t
def ZAy{v}(hv:v<34359738368){i}(hi:i<5):YQ v i<128↔Z0 v<=i:=by
 obtain⟨h,t,u,h2,h3,h4⟩:=ZlL hv;have h5:i=0\/i=1\/i=2\/i=3\/i=4:=ω;rcases h5 with rfl|rfl|rfl|rfl|rfl;exact t;exact u;exact h2;exact h3;exact⟨λ_=>h,λ_=>h4⟩
def ZmA(n):Zd ZIy 162 [.i n] (.bool (dC (0<=n)&&dC (n<34359738368))):=by
 refine Zg (cR 162 f162) λF st t=>?_;refine gG ?_;refine rb t ?_;rfl
def Zqs{a T:St}{tk k}(h:∀b,tk=.tip b->a b=nO):(a.or T).own tk k=a.or (T.own tk k):=by
 cases tk with
 |tip b=>exact ZhL (h b rfl)
 |_=>rfl
def ZpP{v}(st):Za ZIy 111 [.i v] st λr S=>∃x,st x=nO/\r=.ret (.fn (.func 161) [] [.ptr x 0])/\S=st.or (ZI0 x (.cells [.i v])):=by
 refine Zb (cR 111 f111) λF u=>?_;refine rg ?_;refine Zc ?_;refine xP 1 λx t=>?_;refine rg ?_;exact u.ret _ _ rfl φ (ZIB _) ZIz ⟨x,t,rfl,Qq t⟩
def u8n{n}(h:n<256):(UInt8.ofNat n).toNat=n:=by rw[UInt8.toNat_ofNat'];omega
def ZqL{n}(h:0<=n/\n<=255):IntKind.u8.wrap n=n:=by
 unfold IntKind.wrap;simp[IntKind.bits,IntKind.signed];omega
def Zmz{v}(hv:v<34359738368)(x):Zc6 ZIy (.fn (.func 161) [] [.ptr x 0]) (5-Z0 v) (λj=>[Zk (Y9 v (Z0 v+j))]) (ZI0 x (.cells [.i v])):=by
 intro y go A a0 ak hA hd;obtain⟨hg4,-⟩:=ZlL hv;refine Za.V (first:=[]) (args:=[y]) (caps:=[.ptr x 0]) (Zb (cR 161 f161) λF hF=>?_);have hx:∀a T,Z6 a T->T x=sO (.cells [.i (v:Int)])->(a.or T) x=sO (.cells [.i (v:Int)]):=λa T a5 hT=>by rw[ZJ (a5 x _ hT)];exact hT
 have af:(ZI0 x (.cells [.i (v:Int)])) x=sO (.cells [.i (v:Int)]):=Yl;generalize hT:ZI0 x (.cells [.i (v:Int)])=T at *;refine rg ?_;refine rh ?_;refine Zm ?_;simp only[Eqs,reduceCtorEq,ZIF,reduceIte,ZIC,ZIH,ZID,hx a0 T hd af];rw[show(v:Int)=((YQ v 0:Nat):Int) by simp[YQ]];refine kl ((a0.or T)) [(0,.d y),(1,.d (.ptr x 0)),(3,.d (.sl .full 0 1 λ_=>[])),(4,.d (.i ((YQ v 0:Nat):Int)))] [] (.skip (.skip (.cons (.d (YU λb h=>by cases h)) Jn))) ZbM ?_;refine Ze (fr (5) (λi Q=>∀a tk row,Z6 a (T.own tk i)->tk.okIn (a.or T)->A (i-Z0 v) a->(∀j,j<i-Z0 v->go j=.next)->ZX byC row (ZiT v i)->i<=5->Q [(0,.d y),(1,.d (.ptr x 0)),(3,.d (.sl tk i 1 row)),(4,.d (.i ((YQ v i:Nat):Int)))] [] (a.or (T.own tk i))) (λn ai=>?_) λbe=>?_)
 .clear hA hd;intro i hn a tk row hd ad hA ab aj hi;have av:=Zqs (a:=a) (T:=T) (tk:=tk) (k:=i) (λb hb=>by subst hb;exact hd b (.tip i) (ZIE _ _ _));have ba:(T.own tk i) x=sO (.cells [.i (v:Int)]):=by
   cases tk with
   |tip b =>
    have hb:x≠b:=λe=>by have:=(Q9 ad).2;rw[<-e,af]at this;simp at this
    show(T.upd b _) x=_;rw[ZIG _ _ hb];exact af
   |full=>exact af
   |none=>exact af
  refine rh ?_;refine Zm ?_;simp only[Eqs,reduceCtorEq,ZIF,reduceIte,ZIC,ZIH,ZID,hx a _ hd ba];refine cl (ZmA (v:Int)) ?_;refine cd (λh1=>?_) (λh1=>?_)
  .have az:i<5:=by simp at h1;omega
   have hlt:i=5\/i<5:=ω;obtain⟨r,hr⟩:∃r:Nat,r=YQ v i:=⟨_,rfl⟩;have ac:((r:Nat):Int).tmod 128=((r % 128:Nat):Int):=by rw[Int.tmod_eq_emod_of_nonneg ω];omega
   have a3:IntKind.u8.wrap (((r:Nat):Int).tmod 128)=((ZdH v i).toNat:Int):=by rw[ac,ZqL ω];unfold ZdH;rw[<-hr,u8n ω]
   have a4:IntKind.u8.wrap (((r:Nat):Int).tmod 128+128)=((ZdK v i).toNat:Int):=by rw[ac,show((r % 128:Nat):Int)+128=((r % 128+128:Nat):Int) by omega,ZqL ω];unfold ZdK;rw[<-hr,u8n ω]
   rw[<-hr];refine rx @a3 ?_;refine⟨ω,ω,ω,by decide,by rw[ac];omega,by rw[ac];omega,?_⟩;refine ZaC ((a.or (T.own tk i))) (.full) rfl rfl rfl rfl rfl rfl φ φ rfl (by first|trivial|assumption) ω (by (unfold big;omega)) λt1 ax=>Zm ?_;simp only[Eqs,reduceCtorEq,ZIF,reduceIte,ZIC,ZIH,ZID];have ap:ZX byC (YV i (λi=>row i) (ZV [D.int IntKind.u8 0] ([0].zip [D.int IntKind.u8 ((ZdH v i).toNat:Int)]))) (Y9 v i):=aj.snoc (x:=ZdH v i) rfl (J6 v i).symm;have a6:i+1=(Y9 v i).length:=by unfold Y9;rw[ZII,J6];rfl
   refine KN (s':=a.or (T.own tk i)) (Y2 ax) ?_;refine kl ((a.or (T.own tk i))) [(0,.d y),(1,.d (.ptr x 0)),(3,.d (.sl tk i 1 row)),(4,.d (.i (r:Int))),(5,.d (Zk (Y9 v i)))] [] (.skip (.skip (.skip (.skip (.cons (.d (ap.le a6)) Jn))))) ZbM ?_;clear ax;refine jU [1,0] (λQ=>∀a,Z6 a (T.own tk i)->tk.okIn (a.or T)->A (i+1-Z0 v) a->(∀j,j<i+1-Z0 v->go j=.next)->Q F [(0,.d y),(1,.d (.ptr x 0)),(3,.d (.sl tk i 1 row)),(4,.d (.i (r:Int))),(34,.d (.bool false))] [] (a.or (T.own tk i))) ?_ λfin=>?_
   .intro a hd ad hA ab;have bc:tk.okIn T:=by
     cases tk with
     |tip b=>exact(Q9 ad).2
     |full=>trivial
     |none=>exact ad.elim
    have am:Z6 a T:=λc o hc=>hd c o (Y2 bc c o hc);have av:=Zqs (a:=a) (T:=T) (tk:=tk) (k:=i) (λb hb=>by subst hb;exact hd b (.tip i) (ZIE _ _ _));rw[<-av,show(a.or T).own tk i=(a.or T).own tk (i*1) by rw[Nat.mul_one]];refine rx @a4 ?_;refine⟨by decide,by rw[ac];omega,by rw[ac];omega,by rw[ac];omega,by rw[ac];omega,?_⟩;refine ZaC ((a.or T)) (tk) rfl rfl rfl rfl rfl rfl φ φ (by rw[Nat.mul_one]) ad ω (by (unfold big;omega)) λt2 ay=>Zm ?_;simp only[Eqs,reduceCtorEq,ZIF,reduceIte,ZIC,ZIH,ZID];have ah:=aj.snoc (x:=ZdK v i) (row2:=ZV [D.int IntKind.u8 0] ([0].zip [D.int IntKind.u8 ((ZdK v i).toNat:Int)])) rfl (J6 v i).symm;rw[<-Zzb]at ah;have ar:Z6 a (T.own t2 (i+1)):=by
     cases t2 with
     |tip b =>intro c o hc;by_cases aq:c=b;rw[aq];exact(Q9 ay).1;rw[show(T.own (.tip b) (i+1)) c=T c from ZIG _ _ aq]at hc;exact am c o hc
     |full=>exact am
     |none=>exact am
    have aw:=Zqs (a:=a) (T:=T) (tk:=t2) (k:=i+1) (λb hb=>by subst hb;exact ar b (.tip (i+1)) (ZIE _ _ _));rw[Nat.mul_one,aw];have bb:QE .i64 (r:Int) 7=((YQ v (i+1):Nat):Int):=by rw[J7,<-hr];unfold QE;rw[show((2:Int) ^ (Nat.min (7:Int).toNat IntKind.i64.bits))=128 from rfl,Int.fdiv_eq_ediv_of_nonneg _ (by decide)];omega
    have hvb:YQ v (i+1)<=v:=by unfold YQ;exact Nat.div_le_self _ _
    refine rx @bb ?_;refine⟨by decide,ω,ω,?_⟩;refine Zf ?_;exact ai ((5)-(i+1)) ω (i+1) rfl a t2 _ ar ay hA ab ah ω
   have a7:=ZAy hv az;rw[<-hr]at a7;by_cases hq:r<128
   .have ao:dC ((r:Int)<128)=true:=by simpa using(show(r:Int)<128 by omega)
    have a8:i=Z0 v+(i-Z0 v):=ω;have ag:=(ak (i-Z0 v) ω ab a hA).frame hd;simp only[show Z0 v+(i-Z0 v)=i from a8.symm]at ag;refine rx @ao ?_;refine vV (ag) ?_ ?_
    .rintro d S ⟨s',⟨t,ae⟩,al,rfl⟩;have au:tk.okIn (s'.or T):=by
      cases tk with
      |tip b=>show(s'.or T) b=nO;rw[ZJ (al b (.tip i) (ZIE _ _ _))];exact(Q9 ad).2
      |full=>trivial
      |none=>exact ad.elim
     rw[show i-Z0 v+1=i+1-Z0 v by omega]at ae;cases u:go (i-Z0 v) with
     |next =>rw[u]at t;cases t;refine gR0 ?_;refine i0 ?_;refine ZK ?_;refine fin s' al au ae λj hj=>?_;by_cases a9:j=i-Z0 v;rw[a9];exact u;exact ab j ω
     |stop c =>rw[u]at t;cases t;refine gR0 ?_;refine i1 ?_;exact hF.ret (.tup []) _ rfl trivial (ZIB _) ZIz ⟨s',.stop (i-Z0 v) c ω ab u (by rw[show i-Z0 v+1=i+1-Z0 v by omega];exact ae),KD⟩
     |pan d=>rw[u]at t;cases t
    rintro d S ⟨s',⟨t,ae⟩,al,rfl⟩;cases u:go (i-Z0 v) with
    |pan d' =>rw[u]at t;cases t;exact hF.pan _ ZIz ⟨s',.pan (i-Z0 v) d ω ab u ae,KD⟩
    |next=>rw[u]at t;cases t
    |stop c=>rw[u]at t;cases t
   have ao:dC ((r:Int)<128)=false:=by simpa using(show ¬(r:Int)<128 by omega)
   refine rx @ao ?_;refine Jw rfl (e:=.d (.bool false)) (Zm ?_);simp only[Eqs,reduceCtorEq,ZIF,reduceIte,ZIC,ZIH,ZID];refine i0 ?_;refine ZK ?_;exact fin a hd ad (by rw[show i+1-Z0 v=i-Z0 v by omega];exact hA) (λj hj=>ab j ω)
  have h5:i=5:=by simp at h1;omega
  subst h5;refine ZT rfl ?_;exact hF.fin (.tup []) _ rfl trivial (ZIB _) ZIz ⟨a,.all ab hA,KD⟩
 exact be _ 0 rfl a0 .full _ hd trivial (by rw[Nat.zero_sub];exact hA) (by intro j hj;omega) ZX.nil ω
def apV(st:St)(b2 b4 b5:Nat)(d:D):St:=((st.upd b2 (.cells [.nilsl])).upd b4 (.cells [d])).upd b5 (.cells [.i 0])
def Zf2{v:Nat}(hv:v<34359738368)(st):Za ZIy 80 [.nilsl,.i v] st λr S=>r=.ret (.tup [Zk (Y9 v (Z0 v)),.i 0])/\S=st:=by
 refine Zb (cR 80 f80) λF hF=>?_;obtain⟨hg4,-⟩:=ZlL hv;have ag:(Y9 v (Z0 v)).length=Z0 v+1:=by unfold Y9;rw[ZII,J6];rfl
 refine rg ?_;refine Zc (Zc ?_);refine xP 2 λb2 h2=>?_;refine xP 4 λb4 h4=>?_;refine xP 5 λb5 h5=>?_;refine rg ?_;refine cV (ZpP (v:=(v:Int)) _) ?_ ?_;rintro d S ⟨x,hx,hd,rfl⟩;cases hd;refine gR0 ?_;refine Ze ?_;have k4:=Zo h4;have k5:=Zo h5;have al:=Zo k5.2;rw[show((st.upd b2 (.cells [.nilsl])).upd b4 (.cells [.nilsl])).upd b5 (.cells [.i 0])=apV st b2 b4 b5 .nilsl from rfl]at hx⊢;have g2:∀d,(apV st b2 b4 b5 d) b2=sO (.cells [.nilsl]):=λd=>by unfold apV;rw[ZIG _ _ al.1.symm,ZIG _ _ k4.1.symm,ZIE]
 have g4:∀d,(apV st b2 b4 b5 d) b4=sO (.cells [d]):=λd=>by unfold apV;rw[ZIG _ _ k5.1.symm,ZIE]
 have g5:∀d,(apV st b2 b4 b5 d) b5=sO (.cells [.i 0]):=λd=>by unfold apV;rw[ZIE]
 have u4:∀d d',(apV st b2 b4 b5 d).upd b4 (.cells [d'])=apV st b2 b4 b5 d':=λd d'=>by unfold apV;rw[St.upd_comm k5.1.symm,ZIR]
 have u5:∀d,(apV st b2 b4 b5 d).upd b5 (.cells [.i 0])=apV st b2 b4 b5 d:=λd=>by unfold apV;rw[ZIR]
 have sb:∀d,st.sub (apV st b2 b4 b5 d):=λd=>by unfold apV;exact ZJh (ZJh (ZIZ _ h2) (ZIZ _ h4)) (ZIZ _ (by rw[ZIG _ _ k5.1];exact k5.2))
 refine KT hF rfl trivial [2,4,5] (by show([2,4,5]:List Nat).Nodup;decide) (W9 hx) (Zmz hv x).Y (λj hj=>rfl)
  (λj=>.stop .ret) (λj a=>(j=0/\a=apV st b2 b4 b5 .nilsl)\/(0<j/\a=apV st b2 b4 b5 (Zk (Y9 v (Z0 v))))) (.inl ⟨rfl,rfl⟩) ?_ ?_ ?_ ?_ ?_ ?_
 intro j a hj ab hB F' ready t hdr ad af;have ak:j=0:=by refine Nat.eq_zero_of_not_pos λh=>?_;have:=ab 0 h;simp at this
 subst ak;rcases hB with ⟨_,rfl⟩|⟨h,_⟩
 skip
 simp only[Eqs,reduceCtorEq,ZIF,reduceIte,ZIC,ZIH,ZID,WN,Ki,Jd,Ks,List.isEmpty_nil,List.isEmpty_cons];refine rg ?_;refine ad λaj=>?_;have ae:Z6 (apV st b2 b4 b5 (Zk (Y9 v (Z0 v)))) t:=λc o hc=>by have h1:=aj c o hc;unfold apV at h1⊢;have a1:=Zo h1;have a2:=Zo a1.2;rw[ZIG _ _ a1.1,ZIG _ _ a2.1];exact a2.2
 refine rh ?_;refine Zm ?_;simp only[Eqs,reduceCtorEq,ZIF,reduceIte,ZIC,ZIH,ZID,Zs (g2 _)];refine ZaC (((apV st b2 b4 b5 .nilsl).or t)) (.full) rfl rfl rfl rfl rfl rfl φ φ rfl (by first|trivial|assumption) (by (rw[ag];omega)) (by (rw[ag];unfold big;omega)) λt1 ac=>Zm ?_;simp only[Eqs,reduceCtorEq,ZIF,reduceIte,ZIC,ZIH,ZID,Zqr ac (Zs (g4 _)),Zqr ac (Zs (g5 _)),ZIG _ _ k5.1];have ah:ZX u8C (YV 0 (λ_=>[]) λi=>u8C (ZIN (Y9 v (Z0 v)) i dE)) ([]++Y9 v (Z0 v)):=ZX.nil.app ZX.self rfl;have ai:((apV st b2 b4 b5 (Zk (Y9 v (Z0 v)))).or t).sub (((((((apV st b2 b4 b5 .nilsl).or t).own t1 (List.length (Y9 v (Z0 v))*1)).upd b4 (.cells [.sl t1 (List.length (Y9 v (Z0 v))) 1 (YV 0 (λ_=>[]) λi=>u8C (ZIN (Y9 v (Z0 v)) i dE))])).upd b5 (.cells [.i 0])).upd b4 (.cells [Zk (Y9 v (Z0 v))]))):=λc o hc=>by
  by_cases c4:c=b4;subst c4;rw[ZIE];rw[Zs (g4 _)]at hc;exact hc;rw[ZIG _ _ c4];by_cases c5:c=b5;subst c5;rw[ZIE];rw[Zs (g5 _)]at hc;exact hc;rw[ZIG _ _ c5,ZIG _ _ c4];refine Zqr ac ?_;have he:(apV st b2 b4 b5 (Zk (Y9 v (Z0 v)))) c=(apV st b2 b4 b5 .nilsl) c:=by unfold apV;rw[ZIG _ _ c5,ZIG _ _ c4,ZIG _ _ c5,ZIG _ _ c4]
  unfold St.or at hc⊢;rw[he]at hc;exact hc
 refine Jk (b:=b4) (by rw[ZIG _ _ k5.1.symm,ZIE]) (.cons (ah.le ψ) .nil) ?_;refine KN (s':=(apV st b2 b4 b5 (Zk (Y9 v (Z0 v)))).or t) ai ?_;exact af.ret ⟨rfl,.inr ⟨ω,rfl⟩⟩ ae ZIz;omega;intro q a ab hB hq;have:=ab 0 ω;simp at this;intro q a m hm ab u hB hq;rcases hB with ⟨h,_⟩|⟨_,rfl⟩;omega;rw[Qq hq];exact hF.ret1 hq (.tup [Zk (Y9 v (Z0 v)),.i 0]) st (ds:=[Zk (Y9 v (Z0 v)),.i 0]) (p:=True/\True/\True) (by simp[YD,Kt,ZM,Wn,Z2,g4,g5]) ⟨trivial,trivial,trivial⟩ (ZIB _) (sb _) ⟨rfl,rfl⟩;intro q a m id hm ab u;simp at u;intro q a m d hm ab u;simp at u;intro m c u;simp at u;exact .inl u.symm;rintro d S ⟨x,hx,hd,rfl⟩;cases hd
def Zsx{v:Nat}(hv:v<34359738368):Zd ZIy 198 [.i v] (.tup [.i ((Z0 v:Int)+1),.i 0]):=by
 refine Zg (cR 198 f198) λF st t=>?_;have u:(Y9 v (Z0 v)).length=Z0 v+1:=by unfold Y9;rw[ZII,J6];rfl
 refine gG ?_;refine cV (Zf2 hv _) ?_ ?_;rintro d S ⟨hd,hS⟩;obtain rfl:=hS.symm;cases hd;refine gR0 ?_;refine rx @KX ?_;refine rt t ?_;rw[u];rfl;rintro d S ⟨hd,_⟩;cases hd
def Zn(d:Dfn)(s:Str):Msg:=d.msgs.getD (ixS d s) dE
def K0(f:Fld)(x:Val)(b:Int):Int :=
 if f.kind=1\/f.kind=2 then b+f.bits
 else if f.kind=3 then b+8*(Z0 x.int.toNat+1:Nat)
 else if f.kind=4 then b+8*I x.bytes
 else if f.kind=5 then b+8*I x.bytes+8
 else if f.kind=6 then b+8*(Kd x.hdrs).length
 else if f.kind=10 then upS b f.bits
 else if f.kind=11 then b+W8 f.check
 else b
def Y4(rec:Val->Int):List Val->Int->Int
 | [],b=>b
 |y::r,b=>Y4 rec r (b+8*rec y)
def W0(rec:Val->Int):List Fld->List Val->Int->Int
 | [],_,b=>b
 |f::r,ps,b=>if YG f then W0 rec r (ps.drop 1) (Y4 rec (ps.getD 0 dE).parts (K0 f (ps.getD 0 dE) b)) else W0 rec r ps (K0 f dE b)
def lenS(d:Dfn):Nat->Msg->Val->Int
 |0,_,_=>0
 |n+1,m,v=>(W0 (λy=>lenS d n (Zn d y.name) y) m.fields v.parts 0).tdiv 8
structure FOk(f:Fld):Prop where
 num:f.kind=1\/f.kind=2->0<=f.bits/\f.bits<=600
 pad:f.kind=10->ZbI f.bits=true
 chk:f.kind=11->f.check=1\/f.check=2\/f.check=3
structure MOk(m:Msg):Prop where
 few:I m.fields<=40
 fld:∀f∈m.fields,FOk f
def ZbX{n}(h:ZbI n=true):2<=n/\n<=512:=by
 unfold ZbI at h;simp only[ZIW,ZIJ,decide_eq_true_eq]at h;omega
def ZpR(l):(Kd l).length=Q0 l+4*I l+2:=by
 unfold Kd;rw[ZII];have:(l.flatMap ZgY).length=Q0 l+4*I l:=by
  induction l with
  |nil=>rfl
  |cons h r ih=>rw[ZJl,ZII,ih];simp only[ZgY,Q0,ZII,ZIP,List.length_nil];omega
 rw[this];rfl
def ZvY(v):Z0 v<=4:=by
 unfold Z0
 repeat' split
 all_goals omega
def Zco{f x b}(hf:FOk f)(hb:0<=b)(hh:I x.hdrs<=100):b<=K0 f x b/\K0 f x b<=b+600+8*(I x.bytes+Q0 x.hdrs:Nat)+3300:=by
 have h3:=ZvY x.int.toNat;have h6:=ZpR x.hdrs;have hck:W8 f.check=32\/W8 f.check=16:=by unfold W8;split<;>simp
 unfold K0;by_cases c1:f.kind=1\/f.kind=2;have:=hf.num c1;rw[if_pos c1];omega;rw[if_neg c1];by_cases c3:f.kind=3;rw[if_pos c3];omega;rw[if_neg c3];by_cases c4:f.kind=4;rw[if_pos c4];omega;rw[if_neg c4];by_cases c5:f.kind=5;rw[if_pos c5];omega;rw[if_neg c5];by_cases c6:f.kind=6;rw[if_pos c6];omega;rw[if_neg c6];by_cases t:f.kind=10;rw[if_pos t];have h1:=ZbX (hf.pad t);have h2:=(Zbi hb (show 1<=f.bits by omega)).1;omega;rw[if_neg t];by_cases u:f.kind=11;rw[if_pos u];omega;rw[if_neg u];omega
def JG{rec}:∀{l b},(∀y∈l,0<=rec y/\8*rec y<=20000*(wtN y:Int))->b<=Y4 rec l b/\Y4 rec l b<=b+20000*(wtL l:Int)
 | [],b,_=>by simp[Y4,wtL]
 |y::r,b,h=>by have h1:=h y ψ;have h2:=JG (rec:=rec) (l:=r) (b:=b+8*rec y) λz t=>h z (by simp[t]);simp only[Y4,wtL];omega
def Zaf{rec}:∀{l ps b},(∀f∈l,FOk f)->0<=b->(∀x∈ps,I x.hdrs<=100/\∀y∈x.parts,0<=rec y/\8*rec y<=20000*(wtN y:Int)) ->
  b<=W0 rec l ps b/\W0 rec l ps b<=b+600*(I l:Int)+3300*(I l:Int)+20000*(wtL ps:Int)
 | [],ps,b,_,hb,_=>by simp only[W0,List.length_nil];omega
 |f::r,ps,b,hf,hb,hp=>by
  have t:=hf f ψ;have u:∀g∈r,FOk g:=λg hg=>hf g (by simp[hg]);simp only[W0,ZIP];split
  .cases ps with
   |nil =>have h1:=Zco (x:=dE) t hb (by simp[show(dE:Val).hdrs=[] from rfl]);have e1:(dE:Val).bytes.length=0:=rfl;have e2:Q0 (dE:Val).hdrs=0:=rfl;have h2:=Zaf (rec:=rec) (l:=r) (ps:=[]) (b:=K0 f dE b) u ω (λx hx=>by simp at hx);rw[show W0 rec r (List.drop 1 []) (Y4 rec (([]:List Val).getD 0 dE).parts (K0 f (([]:List Val).getD 0 dE) b))=W0 rec r [] (K0 f dE b) from rfl];rw[e1,e2]at h1;simp only[wtL]at h2⊢;omega
   |cons x q =>have hx:=hp x ψ;have h1:=Zco t hb hx.1;have h3:=JG (b:=K0 f x b) hx.2;have h2:=Zaf (rec:=rec) (l:=r) (ps:=q) (b:=Y4 rec x.parts (K0 f x b)) u ω (λz hz=>hp z (by simp[hz]));have hw:=ZaA x;rw[show W0 rec r ((x::q).drop 1) (Y4 rec ((x::q).getD 0 dE).parts (K0 f ((x::q).getD 0 dE) b))=W0 rec r q (Y4 rec x.parts (K0 f x b)) from rfl];simp only[wtL];omega
  have h1:=Zco (x:=dE) t hb (by simp[show(dE:Val).hdrs=[] from rfl]);have e1:(dE:Val).bytes.length=0:=rfl;have e2:Q0 (dE:Val).hdrs=0:=rfl;rw[e1,e2]at h1;have h2:=Zaf (rec:=rec) (l:=r) (ps:=ps) (b:=K0 f dE b) u ω hp;omega
def DOk(d:Dfn):Prop:=∀m∈d.msgs,MOk m
def DOk.of{d}(h:DOk d)(s):MOk (Zn d s):=by
 unfold Zn;by_cases t:ixS d s<I d.msgs;exact h _ (ZE t);rw[show d.msgs.getD (ixS d s) dE=dE by simp[ZIN,ZJj (Nat.le_of_not_lt t)]];exact⟨by decide,λf u=>by simp[show(dE:Msg).fields=[] from rfl]at u⟩
def Wq{v x}(h:Ww v=true)(t:x∈v.parts):Ww x=true:=by
 rw[ZiR,ZIJ,ZiQ]at h;exact List.all_eq_true.1 h.1 x t
def KZ{v}(h:Ww v=true):Zac v=true:=by
 rw[ZiR,ZIJ]at h;exact h.2
def ZcH{d}(hd:DOk d):∀(n m v),MOk m->Ww v=true->0<=lenS d n m v/\8*lenS d n m v<=20000*(wtN v:Int)
 |0,m,v,_,_=>by simp only[lenS];omega
 |n+1,m,v,hm,hv=>by
  have h1:=Zaf (rec:=λy=>lenS d n (Zn d y.name) y) (l:=m.fields) (ps:=v.parts) (b:=0) hm.fld ω λx hx=>by have u:=Wq hv hx;exact⟨(QC (KZ u)).2.2.2.1,λy hy=>ZcH hd n (Zn d y.name) y (hd.of _) (Wq u hy)⟩
  have h2:=ZaA v;have h3:=hm.few;simp only[lenS];generalize W0 (λy=>lenS d n (Zn d y.name) y) m.fields v.parts 0=t at *;rw[Int.tdiv_eq_ediv_of_nonneg ω];omega
structure XOk(f:Fld)(x:Val):Prop where
 unused:WC f.kind x=false
 vint:f.kind=3->0<=x.int/\x.int<34359738368
 hdrs:f.kind=6->Kz x.hdrs=true/\Zc4 x.hdrs
def Za3(d:Dfn):Nat->Msg->Val->Prop
 |0,_,_=>False
 |n+1,m,v=>(vfs m.fields).length=I v.parts/\∀k,k<I v.parts->XOk ((vfs m.fields).getD k dE) (v.parts.getD k dE)/\∀y∈(v.parts.getD k dE).parts,0<=Zz d y.name (I d.msgs)/\Za3 d n (Zn d y.name) y
def Zef{l i k}(hk:k=(vfs (l.take i)).length)(u:i<I l)(hv:YG (l.getD i dE)=true):k<(vfs l).length/\(vfs l).getD k dE=l.getD i dE:=by
 have t:=ZzN u;rw[if_pos hv]at t;refine⟨by rw[t];simp;omega,?_⟩;rw[t,hk];simp[ZIN]
def ZuR{v x}(h:x∈v.parts):wtN x<=wtN v:=by
 have h1:=Zwt h;have h2:=ZaA v;omega
def ZfZ(rec:Val->Int):List Val->Int
 | []=>0
 |y::r=>rec y+ZfZ rec r
def ZeN{rec}:∀(l b),Y4 rec l b=b+8*ZfZ rec l
 | [],b=>by simp[Y4,ZfZ]
 |y::r,b=>by simp only[Y4,ZfZ];rw[ZeN r];omega
def ZqF(l f rec st)(hl:I l<=5000)(hr:∀y∈l,0<=rec y/\8*rec y<=20000*(wtN y:Int))(hw:wtL l<=5100)(hf:∀y∈l,VT ZIy f [.agg y.cells] st (.i (rec y)) st):
  ZO ZIy 195 [ZZ l,f] st (.i (ZfZ rec l)) st:=by
 refine ZG (cR 195 f195) λaf F ab=>?_;clear af;have hT:=JG (b:=0) hr;have hTe:=ZeN (rec:=rec) l 0;generalize ae:ZfZ rec l=T at *;refine rg ?_;refine rx @ZbT ?_;refine Ze (fr (I l) (λi Q=>∀b:Int,0<=b->b<=T->b+ZfZ rec (l.drop i)=T->i<=I l->Q [(1,.d f),(4,.d (.i b)),(7,.d (ZZ l)),(8,.d (.i (I l))),(9,.d (.i i))] [] st) (λn u=>?_) λah=>?_);intro i hn b hb0 hbT t hi;refine rg ?_;refine Zc (Zl rfl trivial (λh1=>?_) (λh1=>?_));simp at h1;have ad:l.getD i dE∈l:=ZE h1;have hyr:=hr _ ad;have ac:=hf _ ad;have ag:=K6 (l:=l) (i:=i) h1;rw[Wh h1]at t;simp only[ZfZ]at t;have hP:=JG (rec:=rec) (l:=l.drop (i+1)) (b:=0) λz hz=>hr z (List.mem_of_mem_drop hz);rw[ZeN]at hP;rw[ZI2]at ac;generalize l.getD i dE=y at *;generalize rec y=ry at *;refine xA (nd2 @atV @ag) ?_;refine rg ?_;refine cW (ac) ?_;refine aa ?_;refine gA ?_;refine Zf ?_;exact u ((I l)-(i+1)) ω (i+1) rfl (b+ry) ω ω ω ω;simp at h1;obtain rfl:i=I l:=ω;rw[ZJk (ZIO _)]at t;simp only[ZfZ]at t;refine rg ?_;exact ab rfl φ (Zhp ω) ZIz;exact ah _ 0 rfl 0 ω ω (by rw[List.drop_zero,ae];omega) ω
def Zmv(d)(y:Val)(ry zd st)(hz:st zd=sO (.cells [.str d.name,YX d.msgs,.str d.start]))(h0:0<=Zz d y.name (I d.msgs))(hl:Zd ZIy 160 [.agg d.cells,.agg (Zn d y.name).cells,.agg y.cells] (.i ry)):ZO ZIy 196 [.agg y.cells,.ptr zd 0] st (.i ry) st:=by
 refine ZG (cR 196 f196) λu F t=>?_;clear u;have hm:=Jg d y.name h0;rw[show d.msgs.getD (ixS d y.name) dE=Zn d y.name from rfl]at hm;rw[ZI2]at hl⊢;refine rg ?_;refine xA @hz ?_;refine clD (hm) ?_;refine clD (hl) ?_;exact t rfl φ (ZIB _) ZIz
def Zmw(d)(hd:DOk d)(n m)(hm:MOk m)(v)(hv:Ww v=true)(hw:wtN v<=5100)(hL:Za3 d (n+1) m v)(ih:∀x∈v.parts,∀y∈x.parts,0<=Zz d y.name (I d.msgs)/\Zd ZIy 160 [.agg d.cells,.agg (Zn d y.name).cells,.agg y.cells] (.i (lenS d n (Zn d y.name) y))):
  Zd ZIy 160 [.agg d.cells,.agg m.cells,.agg v.cells] (.i (lenS d (n+1) m v)):=by
 refine Zg (cR 160 f160) λF st be=>?_;obtain⟨bb,hX⟩:=hL;have hrec:∀x∈v.parts,I x.hdrs<=100/\∀y∈x.parts,0<=lenS d n (Zn d y.name) y/\8*lenS d n (Zn d y.name) y<=20000*(wtN y:Int):=λx hx =>
  ⟨(QC (KZ (Wq hv hx))).2.2.2.1,λy hy=>ZcH hd n _ y (hd.of _) (Wq (Wq hv hx) hy)⟩
 obtain⟨rec,aq⟩:∃rec:Val->Int,rec=λy=>lenS d n (Zn d y.name) y:=⟨_,rfl⟩;have hS:lenS d (n+1) m v=(W0 rec m.fields v.parts 0).tdiv 8:=by rw[aq];rfl
 have ad:∀x∈v.parts,I x.hdrs<=100/\∀y∈x.parts,0<=rec y/\8*rec y<=20000*(wtN y:Int):=by rw[aq];exact hrec
 have bz:∀x∈v.parts,∀y∈x.parts,0<=Zz d y.name (I d.msgs)/\Zd ZIy 160 [.agg d.cells,.agg (Zn d y.name).cells,.agg y.cells] (.i (rec y)):=by rw[aq];exact ih
 have hT:=Zaf (rec:=rec) (l:=m.fields) (ps:=v.parts) (b:=0) hm.fld ω ad;have hwn:=ZaA v;have hfew:=hm.few;generalize bn:W0 rec m.fields v.parts 0=T at *;clear hrec ih aq;generalize lenS d (n+1) m v=LV at *;rw[ZI2];refine rx (nd2 @eQ2 @eQ3) ?_;refine rg ?_;refine Zc (Zc ?_);refine xP 3 λzd hz=>?_;have bq:(st.upd zd (.cells [.str d.name,YX d.msgs,.str d.start])) zd=sO (.cells [.str d.name,YX d.msgs,.str d.start]):=ZIE _ _ _;have bg:=ZIZ (s:=st) (.cells [.str d.name,YX d.msgs,.str d.start]) hz;generalize st.upd zd (.cells [.str d.name,YX d.msgs,.str d.start])=S at *;refine rx @Zfy ?_;refine Ze (fr (I m.fields) (λi Q=>∀(b:Int) (k:Nat),i<=I m.fields->k=(vfs (m.fields.take i)).length->0<=b->b<=T->W0 rec (m.fields.drop i) (v.parts.drop k) b=T->Q [(3,.d (.ptr zd 0)),(5,.loc 5 0),(7,.d (.i b)),(8,.d (.i k)),(20,.d (Zq m.fields)),(21,.d (.i (I m.fields))),(22,.d (.i i))] [(5,[.str v.name,.i v.int,Zk v.bytes,Yg v.hdrs,ZZ v.parts])] S) (λn ay=>?_) λb0=>?_)
 .intro i hn b k hi hk a8 hbT ab;refine rg ?_;refine Zc (Zl rfl trivial (λh1=>?_) (λh1=>?_))
  .simp at h1;have bp:m.fields.getD i dE∈m.fields:=ZE h1;have am:=hm.fld _ bp;have ba:=λhh=>Zef hk h1 hh;have ai:=Zjf h1;rw[Wh h1]at ab;simp only[W0]at ab;generalize hf:m.fields.getD i dE=f at *;refine xA (nd2 @atF (nd2 @hf @eQ0)) ?_;refine gG ?_;refine cl (Zd6 f) ?_;refine jU [0,1] (λQ=>∀(x:Val) (k:Nat),k=(vfs (m.fields.take (i+1))).length->W0 rec (m.fields.drop (i+1)) (v.parts.drop k) (Y4 rec x.parts (K0 f x b))=T->(f.kind=3->0<=x.int/\x.int<34359738368)->(f.kind=6->Kz x.hdrs=true/\Zc4 x.hdrs)->I x.hdrs<=100->I x.bytes<=1048576->I x.parts<=5000->wtL x.parts<=5100->(∀y∈x.parts,0<=rec y/\8*rec y<=20000*(wtN y:Int))->(∀y∈x.parts,0<=Zz d y.name (I d.msgs)/\Zd ZIy 160 [.agg d.cells,.agg (Zn d y.name).cells,.agg y.cells] (.i (rec y)))->(¬f.kind=4->¬f.kind=5->I x.bytes=0)->(f.kind<7\/f.kind=10\/f.kind=11->x.parts=[])->Q F [(3,.d (.ptr zd 0)),(5,.loc 5 0),(7,.d (.i b)),(8,.d (.i k)),(10,.loc 10 0),(11,.loc 11 0),(20,.d (Zq m.fields)),(21,.d (.i (I m.fields))),(22,.d (.i i))] [(5,[.str v.name,.i v.int,Zk v.bytes,Yg v.hdrs,ZZ v.parts]),(10,[.str f.name,.i f.kind,.i f.bits,.bool f.little,.bool f.loose,.i f.low,.i f.high,.i f.size.base,Yi f.size.terms,.str f.of,.str f.tag,.str f.from_,WS f.cases,.i f.check,.i f.key]),(11,[.str x.name,.i x.int,Zk x.bytes,Yg x.hdrs,ZZ x.parts])] S) ?_ λaz=>?_;clear ab hk ba ai;intro x k hk ab au av bu hxb bj bk al aw ak af;have hA:=Zco (x:=x) am a8 bu;have hP:=JG (rec:=rec) (l:=x.parts) (b:=K0 f x b) al;have bl:=ZeN (rec:=rec) x.parts (K0 f x b);have hB:=Zaf (rec:=rec) (l:=m.fields.drop (i+1)) (ps:=v.parts.drop k) (b:=Y4 rec x.parts (K0 f x b)) (λg hg=>hm.fld g (List.mem_of_mem_drop hg)) ω (λz hz=>ad z (List.mem_of_mem_drop hz));have t:=K0.eq_1 f x b;have ht:=ZqF x.parts (.fn (.func 196) [] [.ptr zd 0]) rec S bj al bk λy hy=>(Zmv d y (rec y) zd S bq (aw y hy).1 (aw y hy).2).VT (first:=[]) (args:=[_]) (caps:=[_]);have ae:x.parts=[]->ZfZ rec x.parts=0:=λh=>by rw[h];rfl
   generalize ZfZ rec x.parts=b1 at *;refine rx @KX ?_;refine ctD (ht) ?_;refine aa ?_;refine jU [1,0] (λQ=>∀(c n':Int),c+8*n'=K0 f x b+8*b1->0<=c->0<=n'->Q F [(3,.d (.ptr zd 0)),(5,.loc 5 0),(7,.d (.i c)),(8,.d (.i k)),(12,.d (.i n')),(20,.d (Zq m.fields)),(21,.d (.i (I m.fields))),(22,.d (.i i))] [(5,[.str v.name,.i v.int,Zk v.bytes,Yg v.hdrs,ZZ v.parts])] S) ?_ λfin=>?_;clear t;intro c n' hc hc0 hn0;refine gA ?_;refine gA ?_;refine Zf ?_;exact ay ((I m.fields)-(i+1)) ω (i+1) rfl (c+8*n') k ω hk ω ω (by rw[hc,<-bl];exact ab);refine rx @eQ0 ?_;refine rg ?_;refine cd (λc1=>?_) (λc1=>?_);have ah:f.kind=1:=by simpa using c1
   rw[if_pos ω]at t;have:=ak ω ω;have:=ae (af ω);refine ZK (Zl rfl trivial (λ_=>?_) (λh=>by rw[c1]at h;simp at h));refine xA @eQ0 ?_;refine Zr ?_;exact fin _ _ (by rw[t];omega) ω ω;refine rg ?_;refine cd (λc2=>?_) (λc2=>?_);have a5:f.kind=2:=by simpa using c2
   rw[if_pos ω]at t;have:=ak ω ω;have:=ae (af ω);refine xA @eQ0 ?_;refine Zr ?_;exact fin _ _ (by rw[t];omega) ω ω;have ah:¬f.kind=1:=by simpa using c1
   have a5:¬f.kind=2:=by simpa using c2
   rw[if_neg ω]at t;refine rg ?_;refine cd (λa0=>?_) (λa0=>?_);have ac:f.kind=10:=by simpa using a0
   rw[if_neg ω,if_neg ω,if_neg ω,if_neg ω,if_pos ac]at t;have:=ak ω ω;have:=ae (af ω);have hpd:=ZbX (am.pad ac);have hup:=Zbi a8 (show 1<=f.bits by omega);have a7:=Zfc (v:=b) (am.pad ac) ⟨ω,ω⟩;generalize upS b f.bits=u at *;refine rx @eQ0 ?_;refine cl (a7) ?_;refine gA ?_;refine Zr ?_;exact fin _ _ (by rw[t];omega) ω ω;have ac:¬f.kind=10:=by simpa using a0
   refine rg ?_;refine cd (λa3=>?_) (λa3=>?_);have ag:f.kind=11:=by simpa using a3
   rw[if_neg ω,if_neg ω,if_neg ω,if_neg ω,if_neg ω,if_pos ag]at t;have:=ak ω ω;have:=ae (af ω);have hcb:W8 f.check=32\/W8 f.check=16:=by unfold W8;split<;>simp
   have a7:=Zr8 (am.chk ag);generalize W8 f.check=u at *;refine rx @eQ0 ?_;refine cl (a7) ?_;refine gA ?_;refine Zr ?_;exact fin _ _ (by rw[t];omega) ω ω;have ag:¬f.kind=11:=by simpa using a3
   refine rg ?_;refine cd (λc3=>?_) (λc3=>?_);have ao:f.kind=3:=by simpa using c3
   rw[if_pos ao]at t;have:=ae (af ω);obtain⟨hv0,hv1⟩:=au ao;obtain⟨vn,bi⟩:∃vn:Nat,x.int=vn:=⟨x.int.toNat,ω⟩;rw[bi,Int.toNat_natCast]at t;have bh:=Zsx (v:=vn) ω;rw[<-bi]at bh;refine rg ?_;refine cl (bh) ?_;refine Zr ?_;refine kE [3,5,7,8,12,20,21,22] ?_;exact fin _ _ (by rw[t];omega) ω ω;have ao:¬f.kind=3:=by simpa using c3
   rw[if_neg ao]at t;refine rg ?_;refine cd (λc5=>?_) (λc5=>?_);have aj:f.kind=5:=by simpa using c5
   rw[if_neg ω,if_pos aj]at t;have:=ae (af ω);refine gA ?_;refine Zr ?_;refine kE [3,5,7,8,12,20,21,22] ?_;exact fin _ _ (by rw[t];omega) ω ω;have aj:¬f.kind=5:=by simpa using c5
   refine rg ?_;refine cd (λc6=>?_) (λc6=>?_);have ap:f.kind=6:=by simpa using c6
   rw[if_neg ω,if_neg aj,if_pos ap]at t;have:=ae (af ω);obtain⟨br,bt⟩:=av ap;have a4:=Zel bt;unfold Zh7 at a4;rw[if_pos br]at a4;refine rg ?_;refine cl (a4) ?_;refine rx @KX ?_;refine Zr ?_;exact fin _ _ (by rw[t];omega) ω ω;have ap:¬f.kind=6:=by simpa using c6
   have bo:K0 f x b=b+8*(I x.bytes:Int):=by by_cases a6:f.kind=4;rw[t,if_pos a6];have:=ak a6 aj;rw[t,if_neg a6,if_neg aj,if_neg ap,if_neg ac,if_neg ag];omega
   refine ZK (Zr ?_);refine kE [3,5,7,8,12,20,21,22] ?_;exact fin _ _ (by rw[bo];omega) ω ω;refine cd (λhh=>?_) (λhh=>?_)
   .rw[if_pos hh]at ab;obtain⟨ah,a5⟩:=ba hh;rw[bb]at ah;have ax:v.parts.getD k dE∈v.parts:=ZE ah;obtain⟨⟨ar,au,av⟩,bj⟩:=hX k ah;have bf:=K6 (l:=v.parts) (i:=k) ah;have al:=ad _ ax;have aw:=bz _ ax;have bx:=Wq hv ax;have bw:=QC (KZ bx);have bk:=Zwt ax;have hk40:k<=i:=by rw[hk];exact ZCy
    rw[show(v.parts.drop k).getD 0 dE=v.parts.getD k dE by simp[ZIN],List.drop_drop]at ab;rw[a5]at au av ar;rw[if_pos hh]at ai;generalize v.parts.getD k dE=x at *;have hwx:=ZaA x;have bv:I x.parts<=5000:=by
     have h2:10*I x.parts<=wtL x.parts:=by
      have h3:∀l:List Val,10*I l<=wtL l:=λl=>by
       induction l with
       |nil=>simp
       |cons a r ih3=>have:=ZaA a;simp only[wtL,ZIP];omega
      exact h3 _
     omega
    unfold WC Znj at ar;simp only[Bool.or_eq_false_iff,Bool.and_eq_false_iff,Bool.not_eq_false',ZIW,decide_eq_true_eq,decide_eq_false_iff_not]at ar;obtain⟨⟨⟨_,hu1⟩,_⟩,hu2⟩:=ar;have hno:¬f.kind=10/\¬f.kind=11:=by unfold YG at hh;simp at hh;omega
    refine xA (nd2 @atV (nd2 @bf (nd2 @ZaS @Zeu))) ?_;refine gA ?_;refine Zc ?_;rw[show(k:Int)+1=((k+1:Nat):Int) by omega];exact az x (k+1) (by rw[ai,ZII,<-hk];rfl) ab au av al.1 bw.2.2.1 bv ω al.2 aw (λh4 h5=>by omega) (λh=>List.eq_nil_of_length_eq_zero ω)
   rw[if_neg (by rw[hh];simp)]at ab ai;rw[ZI5]at ai;refine ZK (Zc ?_);refine kE [3,5,7,8,10,11,20,21,22] ?_;refine kl (S) [(3,.d (.ptr zd 0)),(5,.loc 5 0),(7,.d (.i b)),(8,.d (.i k)),(10,.loc 10 0),(11,.loc 11 0),(20,.d (Zq m.fields)),(21,.d (.i (I m.fields))),(22,.d (.i i))] [(5,[.str v.name,.i v.int,Zk v.bytes,Yg v.hdrs,ZZ v.parts]),(10,[.str f.name,.i f.kind,.i f.bits,.bool f.little,.bool f.loose,.i f.low,.i f.high,.i f.size.base,Yi f.size.terms,.str f.of,.str f.tag,.str f.from_,WS f.cases,.i f.check,.i f.key]),(11,[.str (dE:Val).name,.i (dE:Val).int,Zk (dE:Val).bytes,Yg (dE:Val).hdrs,ZZ (dE:Val).parts])] Jn (.skip (.skip (.cons (.cons (ZIB _) (.cons (ZIB _) (.cons (YU λb h=>by cases h) (.cons (YU λb h=>by cases h) (.cons (YU λb h=>by cases h) .nil))))) .nil))) ?_;have a9:¬f.kind=3/\¬f.kind=6:=by unfold YG at hh;simp at hh;omega
   exact az dE k (by rw[ai];exact hk) ab (λh=>absurd h a9.1) (λh=>absurd h a9.2) (by simp[show(dE:Val).hdrs=[] from rfl]) (by simp[show(dE:Val).bytes=[] from rfl]) (by simp[show(dE:Val).parts=[] from rfl]) (by simp[show(dE:Val).parts=[] from rfl,wtL]) (λy hy=>by simp[show(dE:Val).parts=[] from rfl]at hy) (λy hy=>by simp[show(dE:Val).parts=[] from rfl]at hy) (λ_ _=>rfl) (λ_=>rfl)
  simp at h1;obtain rfl:i=I m.fields:=ω;rw[ZJk (ZIO _)]at ab;simp only[W0]at ab;have bc:b.tdiv 8=b / 8:=Int.tdiv_eq_ediv_of_nonneg ω;subst ab;refine rg ?_;refine⟨by decide,by rw[bc];omega,by rw[bc];omega,?_⟩;exact be rfl φ (Zhp hS.symm) bg
 exact b0 _ 0 rfl 0 0 ω rfl ω ω bn
def Zgz(d)(t:DOk d):∀(n m v),MOk m->Ww v=true->wtN v<=5100->Za3 d n m v ->
  Zd ZIy 160 [.agg d.cells,.agg m.cells,.agg v.cells] (.i (lenS d n m v))
 |0,_,_,_,_,_,hL=>hL.elim
 |n+1,m,v,hm,hv,hw,hL=>by refine Zmw d t n m hm v hv hw hL λx hx y hy=>?_;obtain⟨k,hk,rfl⟩:=ZIV hx;have u:=(hL.2 k hk).2 y (by simpa[ZIN,hk]using hy);exact⟨u.1,Zgz d t n (Zn d y.name) y (t.of _) (Wq (Wq hv hx) hy) (Nat.le_trans (Nat.le_trans (ZuR hy) (ZuR hx)) hw) u.2⟩
def atR(d:Dfn)(s:Str)(v:Val):D:=if Wk d&&JM v then (if Zz d s (I d.msgs)<0 then .tup [.agg [.str [],.nilsl],.i 9] else .tup [.agg (Zn d s).cells,.i 0]) else .tup [.agg [.str [],.nilsl],.i 2]
def Zvg(d s v):Zd ZIy 42 [.agg d.cells,.str s,.agg v.cells] (atR d s v):=by
 refine Zg (cR 42 f42) λF st t=>?_;have hV:=ZqQ v;have hA:=Znc d;have hS:=atR.eq_1 d s v;have ab:Zi (λx:Msg=>dC (x.name=s)) d.msgs=Zz d s (I d.msgs):=by unfold Zz;rw[ZJa]
 rw[ZI2]at hV⊢;cases ha:Wk d with
 |false =>rw[ha]at hA hS;simp only[ZJb]at hS;rw[if_neg ψ]at hS;rw[hS]at t;refine rx @eQ2 ?_;refine rg ?_;refine cl (hA) ?_;refine Jw rfl (e:=.d (.bool false)) (Zm ?_);simp only[Eqs,reduceCtorEq,ZIF,reduceIte,ZIC,ZIH,ZID];refine i1 ?_;refine rg ?_;refine rt t ?_;rfl
 |true =>
  rw[ha]at hA hS;simp only[ZIY]at hS;refine rx @eQ2 ?_;refine rg ?_;refine cl (hA) ?_;refine cG (hV) ?_;refine cd (λhv=>?_) (λhv=>?_);rw[if_neg (by simpa using hv)]at hS;rw[hS]at t;refine rg ?_;refine rt t ?_;rfl;rw[if_pos (by simpa using hv)]at hS;refine rg ?_;refine cX @ab (Zbc d s) ?_;refine rg ?_;refine cd (λhf=>?_) (λhf=>?_);rw[if_pos (by simpa using hf)]at hS;rw[hS]at t;refine rg ?_;refine rt t ?_;rfl;have u:0<=Zz d s (I d.msgs):=by simpa using hf
  rw[if_neg ω]at hS;rw[hS]at t;have hix:=QS u;have ac:max (Zz d s (I d.msgs)) 0=ixS d s:=ω;unfold Zn at t;generalize hm:d.msgs.getD (ixS d s) dE=m at *;rw[ac];refine xA (nd2 @atM (nd2 @hm @eQ3)) ?_;refine rt t ?_;rfl
def mfD(q:Str)(no:Int):D:=.iface 86 (.agg [.str q,.i no])
def mfR(q:Str)(no:Int):Res:=if no=0 then .ret (.tup []) else .panic (mfD q no)
def Zep(fine q no st):Za ZIy 107 [.bool fine,.str q,.i no] st λr S=>S=st/\r=if fine then .ret (.tup []) else .panic (mfD q no):=by
 refine Zb (cR 107 f107) λF u=>?_;refine rg ?_;refine cd (λh=>?_) (λh=>?_);have t:fine=false:=by simpa using h
 refine rg ?_;refine Zm9 rfl rfl rfl trivial ?_;exact u.pan st ZIz ⟨rfl,by rw[t];rfl⟩;have t:fine=true:=by simpa using h
 refine ZK ?_;exact u.fin (.tup []) st rfl trivial (ZIB _) ZIz ⟨rfl,by rw[t];rfl⟩
def Zvf(a b q st):Za ZIy 147 [.i a,.i b,.str q] st λr S=>S=st/\r=mfR q (Kq a b):=by
 refine Zb (cR 147 f147) λF hF=>?_;have u:=Kq.eq_1 a b;refine rg ?_;refine cV (Zep (dC (b<=a)) q 4 st) ?_ ?_;rintro d S ⟨hS,t⟩;obtain rfl:=hS.symm;by_cases h1:b<=a;rw[decide_eq_true h1,if_pos rfl]at t;cases t;rw[if_neg (by simp;omega)]at u;refine gR0 ?_;refine rg ?_;refine cV (Zep (dC (a<=b)) q 5 st) ?_ ?_;rintro d S ⟨hS,t⟩;obtain rfl:=hS.symm;by_cases h2:a<=b;rw[decide_eq_true h2,if_pos rfl]at t;cases t;rw[if_neg (by simp;omega)]at u;refine gR0 ?_;exact hF.fin (.tup []) st rfl trivial (ZIB _) ZIz ⟨rfl,by rw[u];rfl⟩;rw[decide_eq_false h2,if_neg ψ]at t;cases t;rintro d S ⟨hS,t⟩;obtain rfl:=hS.symm;by_cases h2:a<=b;rw[decide_eq_true h2,if_pos rfl]at t;cases t;rw[decide_eq_false h2,if_neg ψ]at t;cases t;rw[if_pos (by simp;omega)]at u;exact hF.pan st ZIz ⟨rfl,by rw[u];rfl⟩;rw[decide_eq_false h1,if_neg ψ]at t;cases t;rintro d S ⟨hS,t⟩;obtain rfl:=hS.symm;by_cases h1:b<=a;rw[decide_eq_true h1,if_pos rfl]at t;cases t;rw[decide_eq_false h1,if_neg ψ]at t;cases t;rw[if_pos (by simp;omega)]at u;exact hF.pan st ZIz ⟨rfl,by rw[u];rfl⟩
def WG(g:Nat->Str×Int):List Nat->Option (Str×Int)
 | []=>nO
 |i::r=>if (g i).2=0 then WG g r else sO (g i)
def ZmH{g}:∀{l},WG g l=nO->∀i∈l,(g i).2=0
 | [],_,i,hi=>by simp at hi
 |a::r,h,i,hi=>by simp only[WG]at h;split at h;rename_i t;rcases List.mem_cons.1 hi with rfl|hi;exact t;exact ZmH h i hi;simp at h
def Zan(mis:Msg->Val->Str->Str×Int)(d:Dfn)(of:Str)(x:Val)(q:Str):Str×Int :=
 if (I x.parts)=1 then mis (Zn d of) (x.parts.getD 0 dE) (ZN q (Ym x.parts 0)) else (q,6)
def Qc(mis:Msg->Val->Str->Str×Int)(len:Msg->Val->Int)(d:Dfn)(f:Fld)(x:Val)(q:Str)(l:List (Str×Int)):Str×Int :=
 if f.kind=1\/f.kind=3 then (if x.int<f.low\/f.high<x.int then (q,3) else (q,0))
 else if f.kind=4 then (q,Kq (I x.bytes) (Zbd f.size l))
 else if f.kind=5 then (if f.high<I x.bytes then (q,5) else if x.bytes.any (λc=>dC ((c.toNat:Int)=f.low)) then (q,6) else (q,0))
 else if f.kind=6 then (if Kz x.hdrs=false then (q,6) else if f.high<(Kd x.hdrs).length then (q,5) else (q,0))
 else if f.kind=7 then (if Kq (I x.parts) (Zbd f.size l)=0 then (WG (λi=>mis (Zn d f.of) (x.parts.getD i dE) (ZN q (Ym x.parts i))) (ZIM (I x.parts))).getD (q,0) else (q,Kq (I x.parts) (Zbd f.size l)))
 else if f.kind=8 then Zan mis d f.of x q
 else if f.kind=9 then (if J1 f (WO f.tag l)<0 then (q,9) else Zan mis d (f.cases.getD (J1 f (WO f.tag l)).toNat dE).of x q)
 else if f.kind=12 then (if (Zan mis d f.of x q).2=0 then (q,Kq (len (Zn d f.of) (x.parts.getD 0 dE)) (Zbd f.size l)) else Zan mis d f.of x q)
 else (q,0)
def Z3(d:Dfn):Nat->Msg->Val->Str->Str×Int
 |0,_,_,p=>(p,6)
 |n+1,m,v,p =>
  if dC (v.name=m.name)&&(dC (v.int=0)&&(dC (I v.bytes=0)&&(dC (I v.hdrs=0)&&JJ m v.parts))) then
   (WG (λk=>if WC ((vfs m.fields).getD k dE).kind (v.parts.getD k dE) then (ZN p (Ym v.parts k),6)
    else Qc (Z3 d n) (lenS d n) d ((vfs m.fields).getD k dE) (v.parts.getD k dE) (ZN p (Ym v.parts k)) (ZbH m v.parts)) (ZIM (I v.parts))).getD ([],0)
  else (p,6)
def ZeK{d s}(h:0<=Zz d s (I d.msgs)):(Zn d s).name=s:=by
 have u:=QS h;unfold Zz at h u;have t:=(Jr h).1;rw[u.1]at t;rw[ZJa]at t;simpa[Zn]using t
def ZdJ{d}:∀{n m v p},(Z3 d n m v p).2=0->v.name=m.name
 |0,_,_,_,h=>by simp[Z3]at h
 |n+1,m,v,p,h=>by simp only[Z3]at h;split at h;rename_i hc;simp only[ZIJ,decide_eq_true_eq]at hc;exact hc.1;simp at h
structure Zeg(d:Dfn)(f:Fld):Prop where
 kind:1<=f.kind/\f.kind<=12
 ref:f.kind=7\/f.kind=8\/f.kind=12->0<=Zz d f.of (I d.msgs)
 cas:f.kind=9->∀c∈f.cases,0<=Zz d c.of (I d.msgs)
def ZsX(d:Dfn):Prop:=∀m∈d.msgs,∀f∈m.fields,Zeg d f
def ZsX.of{d}(h:ZsX d)(s):∀f∈(Zn d s).fields,Zeg d f:=by
 unfold Zn;by_cases t:ixS d s<I d.msgs;exact h _ (ZE t);rw[show d.msgs.getD (ixS d s) dE=dE by simp[ZIN,ZJj (Nat.le_of_not_lt t)]];intro f u;simp[show(dE:Msg).fields=[] from rfl]at u
def ZmI{g r}:∀{l},WG g l=sO r->¬r.2=0
 | [],h=>by simp[WG]at h
 |a::t,h=>by simp only[WG]at h;split at h;exact ZmI h;rename_i u;simp only[ZIx]at h;rw[<-h];exact u
def Zca{g n q}(h:((WG g (ZIM n)).getD q).2=0):∀i,i<n->(g i).2=0:=by
 cases t:WG g (ZIM n) with
 |none=>exact λi u=>ZmH t i (List.mem_range.2 u)
 |some r=>rw[t]at h;exact absurd h (ZmI t)
def ZzG{v}(h:Zac v=true):Zc4 v.hdrs:=by
 unfold Zac at h;simp only[ZIJ,Bool.not_eq_true']at h;intro x hx;have u:=h.2;have t:=List.any_eq_false.1 u x hx;unfold ZdZ at t;simp only[ZIW,decide_eq_true_eq,not_or]at t;omega
def ZlS{mis d of x q}(h:(Zan mis d of x q).2=0):I x.parts=1/\(mis (Zn d of) (x.parts.getD 0 dE) (ZN q (Ym x.parts 0))).2=0:=by
 unfold Zan at h;split at h;rename_i t;exact⟨t,h⟩;simp at h
def ZrI{mis len d f x q l}(hf:Zeg d f)(hv:YG f=true)(hu:WC f.kind x=false)(h:(Qc mis len d f x q l).2=0):
  ∀y∈x.parts,∃of q',0<=Zz d of (I d.msgs)/\(mis (Zn d of) y q').2=0:=by
 intro y hy;have hpos:0<I x.parts:=List.length_pos_iff.2 λe=>by rw[e]at hy;simp at hy
 have h7:7<=f.kind:=by unfold WC at hu;simp only[Bool.or_eq_false_iff,Bool.and_eq_false_iff,Bool.not_eq_false',decide_eq_true_eq,decide_eq_false_iff_not]at hu;have:=hu.2;omega
 have hk:f.kind=7\/f.kind=8\/f.kind=9\/f.kind=12:=by have:=hf.kind;unfold YG at hv;simp only[ZIJ,Bool.not_eq_true',decide_eq_false_iff_not]at hv;omega
 have one:∀of,0<=Zz d of (I d.msgs)->(Zan mis d of x q).2=0->∃of q',0<=Zz d of (I d.msgs)/\(mis (Zn d of) y q').2=0:=λof h0 u=>by
  obtain⟨hl,h2⟩:=ZlS u;refine⟨of,ZN q (Ym x.parts 0),h0,?_⟩;rw[show y=x.parts.getD 0 dE by
   obtain⟨i,hi,rfl⟩:=ZIV hy;have:i=0:=ω;subst this;simp[ZIN,hi]]
  exact h2
 unfold Qc at h;rw[if_neg ω,if_neg ω,if_neg ω,if_neg ω]at h;rcases hk with hk|hk|hk|hk;rw[if_pos hk]at h;split at h;obtain⟨i,hi,rfl⟩:=ZIV hy;have u:=Zca h i hi;exact⟨f.of,_,hf.ref ω,by simpa[ZIN,hi]using u⟩;rename_i t;exact absurd h t;rw[if_neg ω,if_pos hk]at h;exact one _ (hf.ref ω) h;rw[if_neg ω,if_neg ω,if_pos hk]at h;split at h;simp at h;rename_i hc;have hlt:=WE (λc:Y6=>dC (c.low<=WO f.tag l)&&dC (WO f.tag l<=c.high)) f.cases;exact one _ (hf.cas hk _ (ZE (by unfold J1 at hc⊢;omega))) h;rw[if_neg ω,if_neg ω,if_neg ω,if_pos hk]at h;split at h;rename_i u;exact one _ (hf.ref ω) u;rename_i u;exact absurd h u
def Ziy{d}(hd:ZsX d):∀(n m v p),(∀f∈m.fields,Zeg d f)->Ww v=true->(Z3 d n m v p).2=0->Za3 d n m v
 |0,_,_,_,_,_,h=>by simp[Z3]at h
 |n+1,m,v,p,hm,hv,h=>by
  simp only[Z3]at h;split at h
  .rename_i hc;simp only[ZIJ,decide_eq_true_eq]at hc;have hr:=hc.2.2.2.2;unfold JJ at hr;rw[decide_eq_true_eq]at hr;have ab:(vfs m.fields).length=I v.parts:=by simpa using congrArg List.length hr
   refine⟨ab,λk hk=>?_⟩;have hg:=Zca h k hk;have ad:v.parts.getD k dE∈v.parts:=ZE hk;have ac:(vfs m.fields).getD k dE∈vfs m.fields:=ZE ω;have t:=List.mem_filter.1 ac;have u:=Wq hv ad;have ae:=QC (KZ u);have af:=ZzG (KZ u);generalize v.parts.getD k dE=x at *;generalize (vfs m.fields).getD k dE=f at *;cases hu:WC f.kind x with
   |true=>rw[hu,if_pos rfl]at hg;simp at hg
   |false =>
    rw[hu,if_neg ψ]at hg;refine⟨⟨hu,λ_=>ae.2.1,λh6=>⟨?_,af⟩⟩,λy hy=>?_⟩
    .unfold Qc at hg;rw[if_neg ω,if_neg ω,if_neg ω,if_pos h6]at hg;cases hh:Kz x.hdrs with
     |true=>rfl
     |false=>rw[hh,if_pos rfl]at hg;simp at hg
    obtain⟨of,q',h0,h1⟩:=ZrI (hm f t.1) t.2 hu hg y hy;have hn:y.name=of:=by rw[ZdJ h1,ZeK h0]
    rw[hn];exact⟨h0,Ziy hd n _ y q' (hd.of _) (Wq u hy) h1⟩
  simp at h
def ZgW{g}:∀{a b},(∀i∈a,(g i).2=0)->WG g (a++b)=WG g b
 | [],_,_=>rfl
 |i::a,b,h=>by rw[List.cons_append,WG,if_pos (h i ψ)];exact ZgW λk t=>h k (by simp[t])
def ZoK{g n}(h:∀i,i<n->(g i).2=0):WG g (ZIM n)=nO:=by
 rw[<-ZI5 (ZIM n),ZgW λi t=>h i (List.mem_range.1 t)];rfl
def Zrk{g n j}(hj:j<n)(h:∀i,i<j->(g i).2=0)(t:¬(g j).2=0):WG g (ZIM n)=sO (g j):=by
 rw[show ZIM n=ZIM j++(j::(List.range' (j+1) (n-(j+1)))) by rw[List.range_eq_range',List.range_eq_range',show n=j+(n-(j+1)+1) by omega,<-List.range'_append_1,List.range'_succ];simp;omega,ZgW λi u=>h i (List.mem_range.1 u),WG,if_neg t]
def ZwJ{L s}(l i):qv L s (.iaddr 1) [.d (Zk l),.d (.i i)]=sO (0<=i/\i<I l,.d (.ep (u8C (l.getD i.toNat dE)) 0)):=rfl
def ZcL(d:Dfn)(n:Nat)(m:Msg)(v:Val)(p:Str)(k:Nat):Str×Int :=
 if WC ((vfs m.fields).getD k dE).kind (v.parts.getD k dE) then (ZN p (Ym v.parts k),6)
 else Qc (Z3 d n) (lenS d n) d ((vfs m.fields).getD k dE) (v.parts.getD k dE) (ZN p (Ym v.parts k)) (ZbH m v.parts)
def Zko(d n m v p):Z3 d (n+1) m v p =
  if dC (v.name=m.name)&&(dC (v.int=0)&&(dC (I v.bytes=0)&&(dC (I v.hdrs=0)&&JJ m v.parts))) then (WG (ZcL d n m v p) (ZIM (I v.parts))).getD ([],0) else (p,6):=rfl
structure ZaB(d:Dfn)(j i:Nat)(m:Msg)(f:Fld):Prop where
 nm:Wa f.name=true
 fresh:KV m f.name i<0
 kind:1<=f.kind/\f.kind<=12
 ks:Qo d j m i f=0
def ZBK{d j i m f}(h:Qn d j m i f=0):ZaB d j i m f:=by
 unfold Qn at h;split at h;· omega
 rename_i t;split at h;· omega
 rename_i h2;split at h;· omega
 rename_i u;split at h;· omega
 simp only[ZIW,decide_eq_true_eq,not_or,Int.not_lt]at u;exact⟨by simpa using t,ω,ω,h⟩
def ZeA.at_{d j m}(h:ZeA d j m){i}(t:i<I m.fields):ZaB d j i m (m.fields.getD i dE):=ZBK (h.field i t)
def NmU(l:List Fld):Prop:=∀a b,a<b->b<I l->(l.getD a dE).name≠(l.getD b dE).name
def ZeA.nmU{d j m}(h:ZeA d j m):NmU m.fields:=λa b u hb=>by
 have t:=ZcB (h.at_ hb).fresh ((m.fields.take b).getD a dE) (ZE (by simp;omega));rw[QX u]at t;simpa using t
def Zvh{u s}(h:Zd8 u s=0):Z9 s=true/\∀t∈s.terms,∃j,j<I u/\(u.getD j dE).name=t.field/\YB (u.getD j dE)=true:=by
 unfold Zd8 at h;split at h;· omega
 rename_i hv;split at h;· omega
 rename_i ha;refine⟨by simpa using hv,λt ht=>?_⟩;have h1:=List.any_eq_false.1 (Bool.eq_false_iff.2 ha) t ht;unfold JD WD at h1;split at h1;simp at h1;rename_i h2;split at h1;rename_i h3;have h4:=Jr (show 0<=Zi (λf=>dC (f.name=t.field)) u by omega);have h5:=WE (λf:Fld=>dC (f.name=t.field)) u;exact⟨_,ω,by simpa using h4.1,h3⟩;simp at h1
def ZA1{n:Int}(h:n<=32):(2:Int) ^ n.toNat<=4294967296:=by
 have h1:2 ^ n.toNat<=2 ^ 32:=Nat.pow_le_pow_right ω ω;have h2:(2:Int) ^ n.toNat=((2 ^ n.toNat:Nat):Int):=(Int.natCast_pow 2 n.toNat).symm;generalize 2 ^ n.toNat=p at *;omega
def Zkx{f}(h:QM f=0):(1<=f.bits/\f.bits<=32)/\0<=f.low/\f.low<=Zll f/\Zll f<4294967296:=by
 unfold QM Zc9 Zkw at h;split at h;· omega
 rename_i t;split at h;· omega
 rename_i u;simp only[ZIW,decide_eq_true_eq,not_or]at t u;have:=ZA1 (n:=f.bits) ω;omega
def ZaB.num{d j i m f}(h:ZaB d j i m f)(hn:YB f=true):0<=f.low/\(f.kind=2->f.low<34359738368)/\(f.kind≠2->f.high<34359738368):=by
 have t:=h.ks;unfold YB at hn;simp only[ZIJ,decide_eq_true_eq]at hn;unfold Qo at t;rcases(by omega:f.kind=1\/f.kind=2\/f.kind=3) with h1|h1|h1<;>simp only[h1,ZJg,if_true,if_false]at t;have:=Zkx t;unfold Zll at this;rw[if_neg ω]at this;omega;have:=Zkx t;unfold Zll at this;rw[if_pos h1]at this;omega;by_cases u:ZsM f.low f.high=true;unfold ZsM at u;simp only[ZIJ,decide_eq_true_eq]at u;omega;rw[if_neg u]at t;omega
def ZaB.size{d j i m f}(h:ZaB d j i m f)(hi:i<I m.fields)(hz:f.kind=4\/f.kind=7\/f.kind=12):Z9 f.size=true/\∀t∈f.size.terms,∃k,k<i/\(m.fields.getD k dE).name=t.field/\YB (m.fields.getD k dE)=true:=by
 have hs:Zd8 (m.fields.take i) f.size=0:=by have u:=h.ks;unfold Qo at u;rcases hz with hz|hz|hz<;>simp only[hz,ZJg,if_true,if_false]at u;exact u;split at u;omega;exact u;split at u;omega;split at u;omega;exact u
 obtain⟨hv,ht⟩:=Zvh hs;refine⟨hv,λt h1=>?_⟩;obtain⟨k,h2,h3,h4⟩:=ht t h1;have u:k<i:=by rw[ZIS]at h2;omega
 rw[QX u]at h3 h4;exact⟨k,u,h3,h4⟩
def ZaB.tag{d j i m f}(h:ZaB d j i m f)(hi:i<I m.fields)(h9:f.kind=9):∃k,k<i/\(m.fields.getD k dE).name=f.tag/\YB (m.fields.getD k dE)=true:=by
 have u:=h.ks;unfold Qo at u;simp only[h9,ZJg,if_true,if_false]at u;split at u;omega;rename_i t;unfold ZjV at t;simp only[ZIW,decide_eq_true_eq,Bool.not_eq_true',not_or]at t;have h4:=Jr (show 0<=KV m f.tag i by omega);have h5:=WE (λg:Fld=>dC (g.name=f.tag)) (m.fields.take i);rw[ZIS,show Zi (λg:Fld=>dC (g.name=f.tag)) (m.fields.take i)=KV m f.tag i from rfl]at h5;have h6:=h4.1;rw[show(Zi (λg=>dC (g.name=f.tag)) (m.fields.take i))=KV m f.tag i from rfl,QX ω]at h6;exact⟨(KV m f.tag i).toNat,ω,by simpa using h6,by simpa using t.2.1⟩
def ZaB.fok{d j i m f}(h:ZaB d j i m f):FOk f:=by
 have t:=h.ks;unfold Qo at t;refine⟨λh1=>?_,λh1=>?_,λh1=>?_⟩;have:QM f=0:=by rcases h1 with h1|h1<;>simp only[h1,ZJg,if_true,if_false]at t<;>exact t
 have:=(Zkx this).1;omega;simp only[h1,ZJg,if_true,if_false]at t;split at t;omega;rename_i u;unfold Zo7 at u;unfold ZbI;simp only[ZIJ,ZIW,decide_eq_true_eq,Bool.not_eq_true',decide_eq_false_iff_not]at u⊢;omega;simp only[h1,ZJg,if_true,if_false]at t;split at t;omega;rename_i u;simp only[ZIW,decide_eq_true_eq]at u;omega
def ZaB.fref{d j i m f}(h:ZaB d j i m f)(u:ZwB d j f):Zeg d f:=by
 refine⟨h.kind,λt=>(u.ref f.of ?_).1,λt c hc=>(u.ref c.of ?_).1⟩;unfold Yv ZaX;rw[if_pos (by simp;omega)];simp;unfold Yv;rw[if_pos t,List.mem_append];exact .inr (List.mem_map_of_mem hc)
def QP.dok{d}(h:QP d):DOk d:=λm hm=>by
 obtain⟨j,t,rfl⟩:=ZcK hm;refine⟨(h.msg t).many,λf u=>?_⟩;obtain⟨i,hi,rfl⟩:=ZcK u;exact((h.msg t).at_ hi).fok
def QP.dref{d}(h:QP d):ZsX d:=λm hm f hf=>by
 obtain⟨j,u,rfl⟩:=ZcK hm;obtain⟨i,t,rfl⟩:=ZcK hf;exact((h.msg u).at_ t).fref (h.fld u t)
def Zbj:∀{l k},k<(vfs l).length->∃a,a<I l/\YG (l.getD a dE)=true/\k=(vfs (l.take a)).length/\(vfs l).getD k dE=l.getD a dE
 | [],k,h=>by simp[vfs]at h
 |f::r,k,h=>by
  by_cases u:YG f=true
  .have e:vfs (f::r)=f::vfs r:=by unfold vfs;rw[List.filter_cons,if_pos u]
   cases k with
   |zero=>exact⟨0,ψ,by simpa using u,rfl,by rw[e];rfl⟩
   |succ k =>rw[e]at h;obtain⟨a,h1,h2,h3,h4⟩:=Zbj (l:=r) (k:=k) (by simpa using h);refine⟨a+1,by simpa using h1,by simpa using h2,?_,by rw[e];simpa using h4⟩;rw[List.take_succ_cons,show vfs (f::r.take a)=f::vfs (r.take a) by unfold vfs;rw[List.filter_cons,if_pos u],ZIP,h3]
  have e:∀t,vfs (f::t)=vfs t:=λt=>by unfold vfs;rw[List.filter_cons,if_neg u]
  rw[e]at h;obtain⟨a,h1,h2,h3,h4⟩:=Zbj (l:=r) (k:=k) h;exact⟨a+1,by simpa using h1,by simpa using h2,by rw[List.take_succ_cons,e];exact h3,by rw[e];simpa using h4⟩
def Zh3{l:List Fld}{a b}(h:a<b)(hb:b<I l)(u:YG (l.getD a dE)=true):(vfs (l.take a)).length<(vfs (l.take b)).length:=by
 have t:=(Zef (l:=l.take b) (i:=a) (k:=(vfs (l.take a)).length) (by rw[List.take_take,Nat.min_eq_left ω]) (by simp;omega) (by rw[QX h];exact u)).1;exact t
def ZbG(l:List Fld)(ps:List Val)(i:Nat):Int:=if (l.getD i dE).kind=2 then (l.getD i dE).low else (ps.getD (vfs (l.take i)).length dE).int
def ZeH{f}(h:YB f=true)(h2:¬f.kind=2):YG f=true:=by
 unfold YB at h;unfold YG;simp only[ZIJ,decide_eq_true_eq,Bool.not_eq_true',decide_eq_false_iff_not]at h⊢;omega
def NmU.tail{f r}(h:NmU (f::r)):NmU r:=λa b ha t=>by
 have:=h (a+1) (b+1) ω (by simpa using t);simpa using this
def ZhZ:∀{l ps i},i<I l->NmU l->YB (l.getD i dE)=true->(YG (l.getD i dE)=true->(vfs (l.take i)).length<I ps)->WO (l.getD i dE).name (ZdN l ps)=ZbG l ps i
 | [],_,_,h,_,_,_=>by simp at h
 |f::r,ps,0,_,_,hn,hp=>by
  simp only[List.getD_cons_zero]at hn hp⊢;unfold ZbG ZdN;simp only[List.getD_cons_zero];by_cases h2:f.kind=2;rw[if_pos h2,if_pos h2];simp[WO];have hv:=ZeH hn h2;have h0:0<I ps:=by simpa[vfs]using hp hv
  rw[if_neg h2,if_neg h2,if_pos hv,hn,if_pos (by simp;omega)];simp[WO,vfs]
 |f::r,ps,i+1,hi,hu,hn,hp=>by
  have u:=hu 0 (i+1) ω hi;simp only[List.getD_cons_zero,List.getD_cons_succ]at hn hp u⊢;have ab:=hu.tail;unfold ZdN;have e1:WO (r.getD i dE).name ((if f.kind=2 then [(f.name,f.low)] else [])++(if YG f then (if (dC (0<(I ps:Int))&&YB f) then [(f.name,(ps.getD 0 dE).int)] else [])++ZdN r (ps.drop 1) else ZdN r ps))=WO (r.getD i dE).name (if YG f then ZdN r (ps.drop 1) else ZdN r ps):=by
   have sk:∀{c:Prop} [Decidable c] (x:Int) (t:List (Str×Int)),WO (r.getD i dE).name ((if c then [(f.name,x)] else [])++t)=WO (r.getD i dE).name t:=λx t=>by split;exact if_neg u;rfl
   rw[sk];split;rw[sk];rfl
  rw[e1];by_cases hv:YG f=true;have e:vfs (f::r.take i)=f::vfs (r.take i):=by unfold vfs;rw[List.filter_cons,if_pos hv]
  rw[List.take_succ_cons,e,ZIP]at hp;rw[if_pos hv,ZhZ (by simpa using hi) ab hn (λh=>by have:=hp h;rw[ZI8];omega)];unfold ZbG;simp only[List.getD_cons_succ];rw[List.take_succ_cons,e,ZIP];simp[ZIN,List.getElem?_drop,Nat.add_comm];have e:vfs (f::r.take i)=vfs (r.take i):=by unfold vfs;rw[List.filter_cons,if_neg hv]
  rw[List.take_succ_cons,e]at hp;rw[if_neg hv,ZhZ (by simpa using hi) ab hn hp];unfold ZbG;simp only[List.getD_cons_succ];rw[List.take_succ_cons,e]
def ZiP{l ps E s}:∀{n},(∀k,k<n->YB (l.getD k dE)=true->(l.getD k dE).name≠s)->Zp s (ZdM l ps E n)=Zp s E
 |0,_=>rfl
 |n+1,h=>by rw[ZdM];split;rename_i hn;rw[WU,if_neg (λe=>h n ω hn e.symm)];exact ZiP λk hk=>h k ω;exact ZiP λk hk=>h k ω
def Zud{l ps E k}:∀{n},k<n->YB (l.getD k dE)=true->(∀j,k<j->j<n->(l.getD j dE).name≠(l.getD k dE).name)->Zp (l.getD k dE).name (ZdM l ps E n)=sO (ps.getD k dE).int
 |0,h,_,_=>by omega
 |n+1,h,hn,hu=>by rw[ZdM];by_cases hk:k=n;subst hk;rw[if_pos hn,WU,if_pos rfl];have ih:=Zud (E:=E) (ps:=ps) (show k<n by omega) hn (λj t h2=>hu j t ω);split;rw[WU,if_neg (λe=>hu n ω ω e.symm)];exact ih;exact ih
def Zuc{l k}:∀{n},k<n->(l.getD k dE).kind=2->(∀j,k<j->j<n->(l.getD j dE).name≠(l.getD k dE).name)->Zp (l.getD k dE).name (ZcP l n)=sO (l.getD k dE).low
 |0,h,_,_=>by omega
 |n+1,h,hn,hu=>by rw[ZcP];by_cases hk:k=n;subst hk;rw[if_pos hn,WU,if_pos rfl];have ih:=Zuc (show k<n by omega) hn (λj t h2=>hu j t ω);split;rw[WU,if_neg (λe=>hu n ω ω e.symm)];exact ih;exact ih
def NmU.ne{l}(h:NmU l){a b}(t:a≠b)(u:a<I l)(hb:b<I l):(l.getD a dE).name≠(l.getD b dE).name:=by
 rcases Nat.lt_or_gt_of_ne t with h1|h1;exact h a b h1 hb;exact(h b a h1 u).symm
def ZCj{m}(hu:NmU m.fields)(ps){i}(hi:i<I m.fields)(hn:YB (m.fields.getD i dE)=true):Zp (m.fields.getD i dE).name (ZdL m ps)=sO (ZbG m.fields ps i):=by
 unfold ZdL ZbG;by_cases h2:(m.fields.getD i dE).kind=2;rw[if_pos h2,ZiP λk hk _=>?_];exact Zuc hi h2 λj h1 h3=>hu.ne ω h3 hi;obtain⟨a,h3,h4,_,h6⟩:=Zbj hk;rw[h6];refine hu.ne (λe=>?_) h3 hi;rw[e]at h4;unfold YG at h4;rw[h2]at h4;simp at h4;have hv:=ZeH hn h2;obtain⟨h3,h4⟩:=Zef rfl hi hv;rw[if_neg h2];have h5:=Zud (l:=vfs m.fields) (ps:=ps) (E:=ZcP m.fields (I m.fields)) h3 (by rw[h4];exact hn) (λj h6 h7=>by
  obtain⟨a,h8,h9,t,u⟩:=Zbj h7;rw[u,h4];exact hu.ne (λe=>by rw[e]at t;omega) h8 hi)
 rw[h4]at h5;exact h5
def ZDG{d j m}(hm:ZeA d j m){n v p k a i}(hi:i<I m.fields)(hk:k=(vfs (m.fields.take i)).length)(u:∀j,j<k->(ZcL d n m v p j).2=0)(ha:a<i)(hn:YB (m.fields.getD a dE)=true):
  0<=ZbG m.fields v.parts a/\ZbG m.fields v.parts a<34359738368:=by
 have h1:=(hm.at_ (show a<I m.fields by omega)).num hn;unfold ZbG;split;rename_i h2;exact⟨h1.1,h1.2.1 h2⟩;rename_i h2;have hv:=ZeH hn h2;obtain⟨h3,h4⟩:=Zef rfl (show a<I m.fields by omega) hv;have t:=u _ (by rw[hk];exact Zh3 ha hi hv);unfold ZcL at t;rw[h4]at t;generalize v.parts.getD (vfs (m.fields.take a)).length dE=x at *;generalize m.fields.getD a dE=f at *;split at t;simp at t;unfold YB at hn;simp only[ZIJ,decide_eq_true_eq]at hn;unfold Qc at t;rw[if_pos ω]at t;split at t;simp at t;have:=h1.2.2 h2;omega
def ZeQ{m}(hu:NmU m.fields){ps}(hr:JJ m ps=true){k}(hk:k<I ps):Ym ps k=(ps.getD k dE).name/\(ps.getD k dE).name=((vfs m.fields).getD k dE).name:=by
 unfold JJ at hr;rw[decide_eq_true_eq]at hr;have t:(vfs m.fields).length=I ps:=by simpa using congrArg List.length hr
 have u:∀i,i<I ps->(ps.getD i dE).name=((vfs m.fields).getD i dE).name:=λi hi=>by
  have h1:((vfs m.fields).map (·.name))[i]?=(ps.map Val.name)[i]?:=by rw[hr]
  simp[hi,t]at h1;simp[ZIN,hi,t,h1]
 refine⟨?_,u k hk⟩;have h0:Jq ps k=0:=by unfold Jq;rw[List.length_eq_zero_iff,List.filter_eq_nil_iff];intro x hx;obtain⟨i,hi,rfl⟩:=ZcK hx;rw[ZIS]at hi;rw[QX ω,u i ω,u k hk];obtain⟨a,h1,_,h3,h4⟩:=Zbj (l:=m.fields) (k:=i) ω;obtain⟨b,h5,_,h7,h8⟩:=Zbj (l:=m.fields) (k:=k) ω;rw[h4,h8,decide_eq_true_eq];exact hu.ne (λe=>by rw[e]at h3;omega) h1 h5
 unfold Ym;rw[if_pos h0]
def Zcd(a s):(ZN a s).length<=I a+1+I s:=by
 unfold ZN;split;omega;simp;omega
def ZgC{ps}(hp:I ps<=5000)(u:∀y∈ps,I y.name<=32){k}(t:k<I ps):(Ym ps k).length<=5040:=by
 have h1:=u _ (ZE t);have h2:=Zov ps k;have h3:=Ziq (Jq ps k);unfold Ym;split;omega;simp only[ZII,ZIP,List.length_nil];omega
structure VOk(v:Val):Prop where
 ok:Ww v=true
 wt:wtN v<=5100
def VOk.part{v x}(h:VOk v)(t:x∈v.parts):VOk x:=⟨Wq h.ok t,Nat.le_trans (ZuR t) h.wt⟩
def VOk.few{v}(h:VOk v):I v.parts<=5000:=by
 have h1:=Zv9 v;have h2:=h.wt;have h3:I v.parts<=nodesL v.parts:=by
  induction v.parts with
  |nil=>simp
  |cons x r ih=>have:=ZaV x;simp only[ZIP,nodesL];omega
 have h4:=ZaV v;omega
def VOk.node{v}(h:VOk v):(1<=I v.name/\I v.name<=32)/\(0<=v.int/\v.int<34359738368)/\I v.bytes<=1048576/\Zc4 v.hdrs:=by
 have t:=QC (KZ h.ok);exact⟨t.1,t.2.1,t.2.2.1,ZzG (KZ h.ok)⟩
def VOk.name{v}(h:VOk v):∀y∈v.parts,I y.name<=32:=λy t=>(h.part t).node.1.2
def Zch(l)(hl:I l<=140737488351232)(st):Za ZIy 16 [Zk l] st (λr s=>r=.ret (Zk l)/\s=st):=by
 refine Zb (cR 16 f16) λF hF=>?_;by_cases h0:I l=0;have ac:l=[]:=List.eq_nil_of_length_eq_zero h0;subst ac;refine Zey 0 rfl ?_ λb off cap=>?_
 skip
 refine rx (nd2 @Zk.eq_1 @eQ1) ?_;refine rg ?_;refine i1 ?_;refine rg ?_;exact hF.ret _ st rfl φ (QK (YU λb h=>by cases h)) ZIz ⟨rfl,rfl⟩
 skip
 refine rx (nd2 @Zk.eq_1 @eQ1) ?_;refine rg ?_;refine iG ?_;refine Zex (s:=st) (t:=.full) (m:=0) (row2:=λ_=>[]) rfl rfl rfl rfl rfl φ φ (λg w v h=>Zgt h) trivial (by decide) (by unfold big;decide) λt1 u=>?_;refine gR0 ?_;exact hF.ret _ st rfl φ (QK ((ZX.nil (f:=u8C)).le rfl)) (Y2 u) ⟨rfl,rfl⟩
 skip
 refine rx (nd2 @Zk.eq_1 @eQ1) ?_;refine gA ?_;refine iG ?_;refine ZaC (st) (.full) rfl rfl rfl rfl rfl rfl φ φ rfl (by first|trivial|assumption) ω (by (unfold big;omega)) λt1 u=>Zm ?_;simp only[Eqs,reduceCtorEq,ZIF,reduceIte,ZIC,ZIH,ZID];have ab:ZX u8C (YV 0 (ZV [.int .u8 0] ([].zip [])) λi=>u8C (l.getD i dE)) ([]++l):=ZX.nil.app ZX.self rfl;exact hF.ret _ st rfl φ (QK (ab.le ψ)) (Y2 u) ⟨rfl,rfl⟩
def QF(l)(hl:I l<=1000000000)(st):Za ZIy 16 [Zk l] st (λr s=>r=.ret (Zk l)/\s=st):=Zch l ω st
def Zhi(l)(hl:I l*32<=140737488351232)(st):Za ZIy 123 [Yg l] st (λr s=>r=.ret (Yg l)/\s=st):=by
 refine Zb (cR 123 f123) λF hF=>?_;by_cases h0:I l=0;have ac:l=[]:=List.eq_nil_of_length_eq_zero h0;subst ac;refine Zey 0 rfl ?_ λb off cap=>?_
 skip
 refine rx (nd2 @Yg.eq_1 @eQ1) ?_;refine rg ?_;refine i1 ?_;refine rg ?_;exact hF.ret _ st rfl φ (QK (YU λb h=>by cases h)) ZIz ⟨rfl,rfl⟩
 skip
 refine rx (nd2 @Yg.eq_1 @eQ1) ?_;refine rg ?_;refine iG ?_;refine Zex (s:=st) (t:=.full) (m:=0) (row2:=λ_=>[]) rfl rfl rfl rfl rfl φ φ (λg w v h=>Zgt h) trivial (by decide) (by unfold big;decide) λt1 u=>?_;refine gR0 ?_;exact hF.ret _ st rfl φ (QK ((ZX.nil (f:=Hdr.cells)).le rfl)) (Y2 u) ⟨rfl,rfl⟩
 skip
 refine rx (nd2 @Yg.eq_1 @eQ1) ?_;refine gA ?_;refine iG ?_;refine ZaC (st) (.full) rfl rfl rfl rfl rfl rfl φ φ rfl (by first|trivial|assumption) ω (by (unfold big;omega)) λt1 u=>Zm ?_;simp only[Eqs,reduceCtorEq,ZIF,reduceIte,ZIC,ZIH,ZID];have ab:ZX Hdr.cells (YV 0 (ZV [.str [],.str []] ([].zip [])) λi=>Hdr.cells (l.getD i dE)) ([]++l):=ZX.nil.app ZX.self rfl;exact hF.ret _ st rfl φ (QK (ab.le ψ)) (Y2 u) ⟨rfl,rfl⟩
def Zu4(row n):(ZIM n).flatMap row=We row n:=by
 induction n with
 |zero=>rfl
 |succ n ih=>rw[List.range_succ,List.flatMap_append,ih,We];simp
def Zjt(st):Za ZIy 124 [ZZ []] st (λr s=>r=.ret (ZZ [])/\s=st):=by
 refine Zb (cR 124 f124) λF hF=>?_;have hz:∀(tk:Tok) (row:Nat->List D),(D.sl tk 0 5 row).Le (ZZ []):=λtk row g w v hv=>by
  cases hv with
  |sl0 a _ _ _ ht=>exact .sl0 _ _ _ _ ψ
  |sl b o n cap s row t f hl hc hp hr one ht hcap hb=>exact .sl _ _ _ _ _ _ _ f (λi hi=>by omega) hc hp (λi j d hi=>by omega) one trivial hcap hb
 refine Zey 0 rfl ?_ λb off cap=>?_
 skip
 refine gG ?_;refine i1 ?_;refine rg ?_;exact hF.ret _ st rfl φ (QK (YU λb h=>by cases h)) ZIz ⟨rfl,rfl⟩
 skip
 refine gG ?_;refine iG ?_;refine Zex (s:=st) (t:=.full) (m:=0) (row2:=λ_=>[]) rfl rfl rfl rfl rfl φ φ (λg w v h=>Zgt h) trivial (by decide) (by unfold big;decide) λt1 u=>?_;refine gR0 ?_;exact hF.ret _ st rfl φ (QK (hz _ _)) (Y2 u) ⟨rfl,rfl⟩
def Zju(l)(hl:I l*96<=140737488351232)(hp:0<I l)(st):Za ZIy 124 [ZZ l] st λr S=>∃b c X,st b=nO/\I l<=c/\r=.ret (.msl b 0 (I l) c 5)/\S=st.upd b (.cells (We (ZcS l) (I l)++X)):=by
 refine Zb (cR 124 f124) λF hF=>?_;have u:=Zu4 (ZcS l) (I l);refine rx @ZZ.eq_1 ?_;refine gA ?_;refine iG ?_;refine Zvw rfl rfl rfl rfl rfl rfl φ φ (by exact hp) ω (by unfold big;omega) λb bc hb t=>Zm ?_;simp only[Eqs,reduceCtorEq,ZIF,reduceIte,ZIC,ZIH,ZID];rw[u];exact hF.ret _ _ rfl φ (ZIB _) ZIz ⟨b,bc,_,hb,t,rfl,rfl⟩
structure CpI(T A:St)(v:Val)(x:Nat)(row:Nat->List D)(f:Nat->List Nat)(X:List D)(i:Nat):Prop where
 b:A x=some (.cells (We row (I v.parts)++X))
 x0:T x=none
 done:∀j,j<i->j<I v.parts->MT A (v.parts.getD j default) (row j) (f j)
 rest:∀j,i<=j->j<I v.parts->row j=(v.parts.getD j default).cells
 n:∀j,j<i->x∉f j
 fr:∀j,j<i->∀y∈f j,T y=none
 d:∀j k,j<i->k<i->j≠k->∀y∈f j,y∉f k
 out:∀y,y≠x->(∀j,j<i->y∉f j)->A y=T y
def CpI.len{T A v x row f X i}(h:CpI T A v x row f X i):∀j,j<I v.parts->(row j).length=5:=λj t=>by
 by_cases u:j<i;exact(h.done j u t).len;rw[h.rest j ω t];exact Val.len _
def Zvc{c d}(h:I c=I d):Zy c 0 d=d:=by
 unfold Zy;rw[List.take_zero,Nat.zero_add,ZJk ω];simp
def CpI.step{T A v x row f X i}(h:CpI T A v x row f X i)(hi:i<I v.parts){S c fp}(hm:MT S (v.parts.getD i dE) c fp)(hf:∀y∈fp,A y=nO)(ho:∀y,y∉fp->S y=A y):CpI T (S.upd x (.cells (Zy (We row (I v.parts)++X) (i*5) c))) v x (λj=>if j=i then c else row j) (λj=>if j=i then fp else f j) X (i+1):=by
 have hx:x∉fp:=λhx=>by have:=hf x hx;rw[h.b]at this;simp at this
 have hj:∀j,j<i->∀y∈f j,y∉fp:=λj hj y hy u=>by obtain⟨ds,ae⟩:=(h.done j hj ω).live y hy;have:=hf y u;rw[ae]at this;simp at this
 have ac:∀{y:Nat},y≠x->(S.upd x (.cells (Zy (We row (I v.parts)++X) (i*5) c))) y=S y:=λhy=>ZIG _ _ hy;refine⟨?_,h.x0,λj t ab=>?_,λj t ab=>?_,λj t=>?_,λj t y hy=>?_,λj k t hk1 af y hy=>?_,λy hy u=>?_⟩;rw[ZIE];have:=Zrl X 0 c (by rw[hm.len];decide) (λj hj=>h.len j hj) hi;rw[Nat.add_zero]at this;rw[this,Zvc (by rw[h.len i hi,hm.len])];by_cases e:j=i;subst e;rw[if_pos rfl,if_pos rfl];exact hm.mono λy hy=>ac λe=>hx (e▸hy);rw[if_neg e,if_neg e];refine(h.done j ω ab).mono λy hy=>?_;rw[ac (λe2=>h.n j ω (e2▸hy))];exact ho y (hj j ω y hy);rw[if_neg ω];exact h.rest j ω ab;by_cases e:j=i;rw[if_pos e];exact hx;rw[if_neg e];exact h.n j ω;by_cases e:j=i;rw[if_pos e]at hy;have h1:=hf y hy;rw[h.out y (λe2=>hx (e2▸hy)) (λk hk ad=>hj k hk y ad hy)]at h1;exact h1;rw[if_neg e]at hy;exact h.fr j ω y hy;by_cases e:j=i;rw[if_pos e]at hy;rw[if_neg ω];exact λad=>hj k ω y ad hy;rw[if_neg e]at hy;by_cases e2:k=i;rw[if_pos e2];exact hj j ω y hy;rw[if_neg e2];exact h.d j k ω ω af y hy;have h1:=u i ω;rw[if_pos rfl]at h1;rw[ac hy,ho y h1];refine h.out y hy λj hj=>?_;have:=u j ω
 rwa [if_neg ω]at this
def CpI.fin{T A v x cap row f X}(h:CpI T A v x row f X (I v.parts))(hp:0<I v.parts)(hc:I v.parts<=cap):
  ∃fp,MT A v [.str v.name,.i v.int,Zk v.bytes,Yg v.hdrs,.msl x 0 (I v.parts) cap 5] fp/\(∀y∈fp,T y=nO)/\∀y,y∉fp->A y=T y:=by
 refine⟨x::(ZIM (I v.parts)).flatMap f,MN.mt ⟨rfl,h.b,hc,λj t=>h.done j t t,λj t=>h.n j t,λj k t hk=>h.d j k t hk,rfl⟩ hp,λy u=>?_,λy u=>?_⟩;simp only[ZJd,List.mem_flatMap,List.mem_range]at u;rcases u with rfl|⟨j,t,u⟩;exact h.x0;exact h.fr j t y u;simp only[ZJd,List.mem_flatMap,List.mem_range,not_or,not_exists,not_and]at u;exact h.out y u.1 λj t=>u.2 j t
structure SmV(v:Val):Prop where
 b:I v.bytes<=2000000
 h:I v.hdrs<=2000000
 p:I v.parts<=1000000
def VOk.sm{v}(h:VOk v):SmV v:=by
 have h1:=QC (KZ h.ok);have t:=h.wt;have u:∀l:List Val,10*I l<=wtL l:=λl=>by
  induction l with
  |nil=>simp
  |cons x r ih=>have:=ZaA x;simp only[wtL,ZIP];omega
 have h4:=u v.parts;rw[ZaA]at t;exact⟨ω,ω,ω⟩
def ZDM(v:Val):Prop:=I v.bytes<=140737488351232/\I v.hdrs*32<=140737488351232/\I v.parts*96<=140737488351232
mutual
def ZnP:Val->Prop
 |.mk n i b h p=>ZDM (.mk n i b h p)/\rchL p
def rchL:List Val->Prop
 | []=>True
 |v::r=>ZnP v/\rchL r
end
def ZBc{l}:rchL l↔∀x∈l,ZnP x:=by
 induction l with
 |nil=>simp[rchL]
 |cons v r ih=>simp[rchL,ih]
def Zuy{v}:ZnP v↔ZDM v/\∀x∈v.parts,ZnP x:=by
 cases v;simp only[ZnP,ZBc];rfl
def VOk.rch{v}:VOk v->ZnP v:=by
 induction v using Val.ind with
 |h v ih =>intro u;have t:=u.sm;have hsb:=t.b;have hsh:=t.h;have hsp:=t.p;exact Zuy.2 ⟨⟨ω,ω,ω⟩,λx hx=>ih x hx (u.part hx)⟩
def ZqO(v):ZnP v->∀T:St,Za ZIy 91 [.agg v.cells] T λr S=>∃c fp,r=.ret (.agg c)/\MT S v c fp/\(∀y∈fp,T y=nO)/\∀y,y∉fp->S y=T y:=by
 induction v using Val.ind with
 |h v ih =>
  intro hv T;obtain⟨⟨hsb,hsh,ai⟩,ah⟩:=Zuy.1 hv;refine Zb (cR 91 f91) λF hF=>?_;rw[v.cells_eq];refine gG ?_;have c9:=(Zch v.bytes ω T);refine cVD (c9) ?_ ?_;rintro dd S ⟨hr,hS⟩;obtain rfl:=hS.symm;cases hr;refine kF ?_;refine gR0 ?_;have c9:=(Zhi v.hdrs ω T);refine cVD (c9) ?_ ?_;rintro dd S ⟨hr,hS⟩;obtain rfl:=hS.symm;cases hr;refine kF ?_;refine gR0 ?_;by_cases h0:I v.parts=0;have ab:v.parts=[]:=List.eq_nil_of_length_eq_zero h0;rw[ab];refine cVD ((Zjt T)) ?_ ?_;rintro dd S ⟨hr,hS⟩;obtain rfl:=hS.symm;cases hr;refine kF ?_;refine gR0 ?_;refine aa ?_;refine rx @ZbT ?_;refine Ze (ZaF ?_);refine rg ?_;refine iG ?_;exact hF.ret _ T rfl ψ (ZIB _) ZIz ⟨_,[],rfl,by cases v;simp only[Val.parts]at ab;subst ab;exact .leaf _ _ _ _,ψ,λ_ _=>rfl⟩;rintro d S ⟨hr,_⟩;cases hr
  skip
  have c9:=(Zju v.parts ai ω T);refine cVD (c9) ?_ ?_;rintro dd S ⟨x,c,X,hx,hc,hr,hS⟩;subst hS;cases hr;refine kF ?_;refine gR0 ?_;refine aa ?_;refine rg ?_;refine Ze (fr (I v.parts) (λi Q=>∀row f A,CpI T A v x row f X i->i<=I v.parts->Q [(1,.loc 1 0),(2,.loc 2 0),(18,.d (.i (I v.parts))),(19,.d (.i i))] [(1,[.str v.name,.i v.int,Zk v.bytes,Yg v.hdrs,.msl x 0 (I v.parts) c 5]),(2,[.str [],.i 0,.nilsl,.nilsl,.nilsl])] A) (λn ac=>?_) λaj=>?_);intro i hn row f A hA hi;refine rg ?_;refine Zc (Zl rfl trivial (λhd=>?_) (λhd=>?_));simp only[decide_eq_true_eq]at hd;have u:i<I v.parts:=ω;have t:=Ziz X hA.len u;unfold part at t;rw[hA.rest i (ZIO _) u]at t;have ad:=ZdW hA.len;have hb:=hA.b;refine rg ?_;refine rx (nd2 @hb @t) ?_;refine⟨ω,ω,by rw[ZII,ad];omega,?_⟩;refine cVD (ih _ (ZE u) (ah _ (ZE u)) A) ?_ ?_;rintro dd S ⟨cc,fp,hr,hm,hf,ho⟩;cases hr;have af:S x=A x:=ho x λhx=>by have:=hf x hx;rw[hb]at this;simp at this
  rw[hb]at af;have ae:=hA.step u hm hf ho;have ag:=hm.len;unfold Zy at ae;rw[ag]at ae;refine kF ?_;refine gQ (nd2 @af @ag) ?_;refine⟨ω,ω,by rw[ZII,ad];omega,?_⟩;refine gA ?_;refine Zf ?_;exact ac ((I v.parts)-(i+1)) ω (i+1) rfl _ _ _ ae ω;rintro d S ⟨_,_,hr,_⟩;cases hr;simp only[decide_eq_false_iff_not]at hd;obtain rfl:i=I v.parts:=ω;obtain⟨fp,h1,h2,h3⟩:=hA.fin ω hc;refine rg ?_;exact hF.ret _ A rfl ψ (ZIB _) ZIz ⟨_,fp,rfl,h1,h2,h3⟩;exact aj _ 0 rfl (ZcS v.parts) (λ_=>[]) _ ⟨ZIE _ _ _,hx,λj hj=>by omega,λj _ hj=>Zgv hj,λj hj=>by omega,λj hj=>by omega,λj k hj=>by omega,λy hy _=>ZIG _ _ hy⟩ ω;rintro d S ⟨_,_,_,_,_,hr,_⟩;cases hr;rintro d S ⟨hr,_⟩;cases hr;rintro d S ⟨hr,_⟩;cases hr
def Zst(v)(t:VOk v)(T:St):Za ZIy 91 [.agg v.cells] T λr S=>∃c fp,r=.ret (.agg c)/\MT S v c fp/\(∀y∈fp,T y=nO)/\∀y,y∉fp->S y=T y:=ZqO v t.rch T
abbrev ZpE(l:List Str):D:=slD 1 Zb1 l
def ZhU(l)(hl:I l<=1000000)(f st)(hf:∀x∈l,VT ZIy f [.str x] st (.bool false) st):ZO ZIy 231 [ZpE l,f] st (.i (-1)) st:=by
 refine ZG (cR 231 f231) λ_ F u=>?_;refine rg ?_;refine rx @eQ1 ?_;refine Ze (fr (I l) (λi Q=>i<=I l->Q [(0,.d (ZpE l)),(1,.d f),(7,.d (.i (I l))),(8,.d (.i i))] [] st) (λn t=>?_) λac=>?_);intro i hn hi;refine rg ?_;refine Zc (Zl rfl trivial (λh1=>?_) (λh1=>?_));simp at h1;have ab:=hf _ (ZE h1);refine rg ?_;refine xA (nd2 @eQ1 @Zb1.eq_1) ?_;refine cW (ab) ?_;refine i0 ?_;refine gA ?_;refine Zf ?_;exact t ((I l)-(i+1)) ω (i+1) rfl ω;refine rg ?_;exact u rfl φ (ZIB _) ZIz;exact ac _ 0 rfl ω
def Zhj(l)(hl:I l<=1000000)(f st)(hf:∀x∈l,VT ZIy f [.str x] st (.bool false) st):ZO ZIy 189 [ZpE l,f] st (ZpE l) st:=by
 refine ZG (cR 189 f189) λ_ F t=>?_;have u:=ZhU l hl f st hf;refine gG ?_;refine ct (u) ?_;refine aa ?_;refine rg ?_;refine i1 ?_;refine rg ?_;exact t rfl φ (ZIB _) ZIz
def ZqD{a s}(ha:a≠[])(hs:s≠[])(hl:I a<=10000000)(hl2:I s<=10000000):Zd ZIy 143 [ZpE [a,s]] (.str (ZN a s)):=by
 refine Zg (cR 143 f143) λF st u=>?_;have hd:=Zhj [a,s] ψ (.fn (.func 190) [] []) st (λx hx=>by
  have h:=(Zgy x).VT (first:=[]) (args:=[_]) (caps:=[]) st;rw[decide_eq_false (λe=>by rw[e]at hx;simp at hx;rcases hx with hx|hx<;>simp_all)]at h;exact h)
 have t:joinL [a,s] [46]=ZN a s:=by simp[joinL,ZN,ha,List.intercalate]
 have hJ:=Zc1 [a,s] ψ (by rw[t];have:=Zcd a s;omega);rw[t]at hJ;refine gG ?_;refine ct (hd) ?_;refine cl (hJ) ?_;refine rs u ?_;rfl
def Zrw{a s}(u:a≠[])(hs:s≠[])(hl:I a<=10000000)(t:I s<=10000000):Zd ZIy 143 [.sl .full 2 1 (ZV [.str []] ([0,1].zip [.str a,.str s]))] (.str (ZN a s)) :=
 Zd.leA (LeC.one (Zgb rfl λi hi=>by rcases(by omega:i=0\/i=1) with rfl|rfl<;>rfl)) (ZqD u hs hl t)
def ZH(r:Str×Int)(st:St)(x:Res)(S:St):Prop:=S=st/\x=mfR r.1 r.2
def Wl(a b:Str×Int):Str×Int:=if a.2=0 then b else a
def mfK{r st}{A:D->St->Prop}(h:r.2=0->A (.tup []) st):∀d S,ZH r st (.ret d) S->A d S:=λd S ⟨h1,t⟩=>by
 subst h1;unfold mfR at t;split at t;rename_i u;cases t;exact h u;cases t
def mfP{r st}{A:D->St->Prop}(h:¬r.2=0->A (mfD r.1 r.2) st):∀d S,ZH r st (.panic d) S->A d S:=λd S ⟨h1,t⟩=>by
 subst h1;unfold mfR at t;split at t;cases t;rename_i u;cases t;exact h u
def ZH.ok{r st}(h:r.2=0):ZH r st (.ret (.tup [])) st:=⟨rfl,by unfold mfR;rw[if_pos h]⟩
def ZH.bad{r R st}(h:¬r.2=0)(t:R=r):ZH R st (.panic (mfD r.1 r.2)) st:=by
 subst t;exact⟨rfl,by unfold mfR;rw[if_neg h]⟩
def KM{a b}(h:a.2=0):Wl a b=b:=if_pos h
def Kp{a b}(h:¬a.2=0):Wl a b=a:=if_neg h
def Kv(fine q no)(t:¬no=0)(st):Za ZIy 107 [.bool fine,.str q,.i no] st (ZH (q,if fine then 0 else no) st) :=
 (Zep fine q no st).mono λr S ⟨u,h2⟩=>⟨u,by rw[h2];cases fine<;>simp[mfR,t]⟩
def Zk5(a b q st):Za ZIy 147 [.i a,.i b,.str q] st (ZH (q,Kq a b) st) :=
 (Zvf a b q st).mono λr S ⟨t,u⟩=>⟨t,u⟩
def ZpJ(n b h p:Bool)(x:Val):Bool:=(((n ||decide (x.int=0))&&(b ||decide ((I x.bytes:Int)=0)))&&(h ||decide ((I x.hdrs:Int)=0)))&&(p ||decide ((I x.parts:Int)=0))
def Zc5(n b h p:Bool)(x:Val)(q:Str):Str×Int:=(q,if ZpJ n b h p x then 0 else 6)
structure Zck(st:St)(b3 b4 b5 b6 b7 b:Nat)(d:Dfn)(m:Msg)(pth:Str)(l:List (Str×Int))(f:Fld)(x:Val)(q:Str):Prop where
 p:st b3=some (.cells (WT m d pth b))
 f:st b4=some (.cells f.cells)
 x:st b5=some (.cells [.str x.name,.i x.int,Zk x.bytes,Yg x.hdrs,ZZ x.parts])
 q:st b6=some (.cells [.str q])
 u:st b7=some (.cells [.fn (.func 144) [] [.ptr b5 0,.ptr b6 0]])
 m:st b=some (.map (Kh l))
section
variable {st:St} {b3 b4 b5 b6 b7 bm:Nat} {d:Dfn} {m:Msg} {pth:Str} {l:List (Str × Int)} {f:Fld} {x:Val} {q:Str}
def Qm(hs:Zck st b3 b4 b5 b6 b7 bm d m pth l f x q)(n b h p):WP ZIy (.fn (.func 144) [] [.ptr b5 0,.ptr b6 0]) [.bool n,.bool b,.bool h,.bool p] st (ZH (Zc5 n b h p x q) st):=by
 refine Za.V (first:=[]) (args:=[_,_,_,_]) (caps:=[_,_]) ?_;refine Zb (cR 144 f144) λF u=>?_;have h5:=hs.x;have h6:=hs.q;have hU:=ZpJ.eq_1 n b h p x;refine rx (nd2 @h5 (nd2 @h6 (nd2 @KX (nd2 @Zg5 @ZbT)))) ?_;rw[<-hU];have c9:=Kv (ZpJ n b h p x) q 6 (by decide) st;refine cV (c9) ?_ ?_;refine mfK λt=>?_;refine gR0 ?_;exact u.fin (.tup []) st rfl trivial (ZIB _) ZIz (ZH.ok t);exact mfP λt=>u.pan st ZIz (ZH.bad t rfl)
def ZgA(t:Zck st b3 b4 b5 b6 b7 bm d m pth l f x q):
  Za ZIy 145 [.ptr b7 0,.ptr b5 0,.ptr b4 0,.ptr b6 0] st (ZH (Wl (Zc5 true false false false x q) (q,if dC (f.low<=x.int)&&dC (x.int<=f.high) then 0 else 3)) st):=by
 refine Zb (cR 145 f145) λF hF=>?_;have hu:=Qm t true false false false;refine rx @t.u ?_;refine vV (hu) ?_ ?_;refine mfK λu=>?_;rw[KM u]at hF;refine gR0 ?_;refine rx (nd2 @t.x (nd2 @t.f (nd2 @t.q @eQ0))) ?_;have c9:=Kv (dC (f.low<=x.int)&&dC (x.int<=f.high)) q 3 (by decide) st;refine cV (c9) ?_ ?_;refine mfK λh1=>?_;refine gR0 ?_;exact hF.fin (.tup []) st rfl trivial (ZIB _) ZIz (ZH.ok h1);exact mfP λh1=>hF.pan st ZIz (ZH.bad h1 rfl);exact mfP λu=>hF.pan st ZIz (ZH.bad u (Kp u))
def Zpr(u:Zck st b3 b4 b5 b6 b7 bm d m pth l f x q)(hv:Z9 f.size=true)(hk:∀t∈f.size.terms,∃v,Zp t.field l=sO v/\0<=v/\v<34359738368):
  Za ZIy 146 [.ptr b7 0,.ptr b5 0,.ptr b3 0,.ptr b4 0,.ptr b6 0] st (ZH (Wl (Zc5 false true false false x q) (q,Kq (I x.bytes) (Zau f.size l))) st):=by
 refine Zb (cR 146 f146) λF hF=>?_;have hu:=Qm u false true false false;have hz:=Zap m d pth f hv bm l st u.m hk;refine rx @u.u ?_;refine vV (hu) ?_ ?_;refine mfK λh0=>?_;rw[KM h0]at hF;refine gR0 ?_;have hp:=u.p;have hf:=u.f;refine rx (nd2 @u.x (nd2 @hp (nd2 @hf (nd2 @u.q (nd2 @KX (nd2 @WT.eq_1 @eQ0)))))) ?_;refine cVD (hz) ?_ ?_;rintro dd S ⟨hd,rfl⟩;cases hd;refine kF ?_;refine gR0 ?_;refine cVD (Zk5 (I x.bytes) (Zau f.size l) q S) ?_ ?_;refine mfK λh1=>?_;refine kF ?_;refine gR0 ?_;exact hF.fin (.tup []) S rfl trivial (ZIB _) ZIz (ZH.ok h1);exact mfP λh1=>hF.pan S ZIz (ZH.bad h1 rfl);rintro dd S ⟨hd,_⟩;cases hd;exact mfP λh0=>hF.pan st ZIz (ZH.bad h0 (Kp h0))
end
def Zi7(l v):Zd ZIy 192 [Zk l,.int .u8 v] (.i (Zi (λx=>dC (v=x.toNat)) l)):=by
 refine Wc (cR 192 f192) λad F st u=>?_;have hw:=(Wm (ad (Zk l) ψ)).1;unfold big at hw;clear ad;refine rg ?_;refine rx @KX ?_;refine Ze (fr (I l) (λi Q=>i<=I l->(∀j,j<i->dC (v=(l.getD j dE).toNat)=false)->Q [(0,.d (Zk l)),(1,.d (.int .u8 v)),(7,.d (.i (I l))),(8,.d (.i i))] [] st) (λn t=>?_) λae=>?_);intro i hn hi ab;refine rg ?_;refine Zc (Zl rfl trivial (λh1=>?_) (λh1=>?_));simp at h1;refine rg ?_;refine xA (nd2 @ZwJ @u8C.eq_1) ?_;refine cd (λh2=>?_) (λh2=>?_);have e1:=W2 (p:=λx:UInt8=>dC (v=x.toNat)) h1 h2 ab;refine rg ?_;refine ri u ?_;exact e1.symm;refine gA ?_;refine Zf ?_;exact t ((I l)-(i+1)) ω (i+1) rfl ω (Yc (q:=λj=>dC (v=(l.getD j dE).toNat)=false) ab h2);simp at h1;obtain rfl:i=I l:=ω;have ac:∀x∈l,(λx:UInt8=>dC (v=x.toNat)) x=false:=λx hx=>by obtain⟨j,hj,rfl⟩:=ZIV hx;have:=ab j hj;simpa[ZIN,hj]using this
 refine rg ?_;refine ri u ?_;exact(Wp ac).symm;exact ae _ 0 rfl ω (by intro j hj;omega)
def Zf5(l v):Zd ZIy 150 [Zk l,.int .u8 v] (.bool (l.any λx=>dC (v=x.toNat))):=by
 refine Zg (cR 150 f150) λF st t=>?_;refine gG ?_;refine cl (Zi7 l v) ?_;refine rb t ?_;rw[<-Ja]
section
variable {st:St} {b3 b4 b5 b6 b7 bm:Nat} {d:Dfn} {m:Msg} {pth:Str} {l:List (Str × Int)} {f:Fld} {x:Val} {q:Str}
def Zps(t:Zck st b3 b4 b5 b6 b7 bm d m pth l f x q)(hl:0<=f.low/\f.low<=255):
  Za ZIy 149 [.ptr b7 0,.ptr b5 0,.ptr b4 0,.ptr b6 0] st (ZH (Wl (Zc5 false true false false x q) (Wl (q,if dC ((I x.bytes:Int)<=f.high) then 0 else 5) (q,if !x.bytes.any (λc=>dC (f.low=c.toNat)) then 0 else 6))) st):=by
 refine Zb (cR 149 f149) λF u=>?_;have hu:=Qm t false true false false;have hw:IntKind.u8.wrap f.low=f.low:=Zai .u8 f.low (by have h1:IntKind.u8.min=0:=rfl;have h2:IntKind.u8.max=255:=rfl;unfold inR;omega);refine rx @t.u ?_;refine vV (hu) ?_ ?_;refine mfK λh0=>?_;rw[KM h0]at u;refine gR0 ?_;refine rx (nd2 @t.x (nd2 @t.f (nd2 @t.q (nd2 @KX @eQ0)))) ?_;have c9:=Kv (dC ((I x.bytes:Int)<=f.high)) q 5 (by decide) st;refine cV (c9) ?_ ?_;refine mfK λh1=>?_;rw[KM h1]at u;refine gR0 ?_;refine rx (nd2 @t.x (nd2 @t.f (nd2 @t.q (nd2 @eQ0 @hw)))) ?_;refine clD (Zf5 x.bytes f.low) ?_;refine Zib rfl rfl rfl rfl rfl φ φ (by exact Kv (!x.bytes.any λc=>dC (f.low=c.toNat)) q 6 (by decide) st) ?_ ?_;refine mfK λh2=>?_;refine kF ?_;refine gR0 ?_;exact u.fin (.tup []) st rfl trivial (ZIB _) ZIz (ZH.ok h2);exact mfP λh2=>u.pan st ZIz (ZH.bad h2 rfl);exact mfP λh1=>u.pan st ZIz (ZH.bad h1 (Kp h1));exact mfP λh0=>u.pan st ZIz (ZH.bad h0 (Kp h0))
def Zpt(t:Zck st b3 b4 b5 b6 b7 bm d m pth l f x q)(ht:Zc4 x.hdrs):
  Za ZIy 151 [.ptr b7 0,.ptr b5 0,.ptr b6 0,.ptr b4 0] st (ZH (Wl (Zc5 false false true false x q) (Wl (q,if Kz x.hdrs then 0 else 6) (q,if dC (((Kd x.hdrs).length:Int)<=f.high) then 0 else 5))) st):=by
 refine Zb (cR 151 f151) λF hF=>?_;have hu:=Qm t false false true false;have hW:=Zel ht;have hR:=Zh7.eq_1 x.hdrs;generalize Zh7 x.hdrs=w at *;refine rx @t.u ?_;refine vV (hu) ?_ ?_
 .refine mfK λh0=>?_;rw[KM h0]at hF;refine gR0 ?_;refine rx @t.x ?_;cases hk:Kz x.hdrs with
  |false =>rw[hk,if_neg ψ]at hR;subst hR;refine cl (hW) ?_;refine rx @t.q ?_;have c9:=Kv false q 6 (by decide) st;refine cV (c9) ?_ ?_;exact mfK λu=>absurd u ψ;exact mfP λu=>hF.pan st ZIz (ZH.bad u (by rw[hk,Kp ψ]))
  |true =>rw[hk,if_pos rfl]at hR;rw[hk,KM ψ]at hF;subst hR;refine cl (hW) ?_;refine rx @t.q ?_;have c9:=Kv true q 6 (by decide) st;refine cV (c9) ?_ ?_;refine mfK λu=>?_;refine gR0 ?_;refine rx (nd2 @t.f (nd2 @t.q (nd2 @KX @eQ0))) ?_;have c9:=Kv (dC (((Kd x.hdrs).length:Int)<=f.high)) q 5 (by decide) st;refine cV (c9) ?_ ?_;refine mfK λh2=>?_;refine gR0 ?_;exact hF.fin (.tup []) st rfl trivial (ZIB _) ZIz (ZH.ok h2);exact mfP λh2=>hF.pan st ZIz (ZH.bad h2 rfl);exact mfP λu=>absurd rfl u
 exact mfP λh0=>hF.pan st ZIz (ZH.bad h0 (Kp h0))
end
def Jx:Prop:=∀n:Nat,n<510->Zd ZIy 129 [.i n] (.str (ZaN n))
def Zjn(hI:Jx)(ps)(k:Nat)(hk:k<I ps)(hps:I ps<=510)(hn:∀x∈ps,I x.name<=32):Zd ZIy 154 [ZZ ps,.i k] (.str (Ym ps k)):=by
 refine Zg (cR 154 f154) λF st u=>?_;have ab:=K6 hk;have hnk:=hn _ (ZE hk);have ac:=λi=>Zyt (ps:=ps) (k:=k) (i:=i);have hO:=Ym.eq_1 ps k;have ad:Jq ps k=Zfr ps k k:=rfl;have hdl:=Zov ps k;have hdec:=Ziq (Jq ps k);have hD:=hI (Jq ps k) ω;generalize hx:ps.getD k dE=x at *;refine gG ?_;refine rx @ZZ.eq_1 ?_;simp only[ite_self];refine⟨ω,ω,ω,?_⟩;refine kl (st) [(0,.d (ZZ ps)),(1,.d (.i k)),(5,.d (.i (0:Nat))),(10,.d (.sl .none k 5 (ZcS ps))),(11,.d (.i k)),(12,.d (.i (0:Nat)))] [] Jn ZbM ?_;refine Ze (fr (k) (λi Q=>i<=k->Q [(0,.d (ZZ ps)),(1,.d (.i k)),(5,.d (.i (Zfr ps k i))),(10,.d (.sl .none k 5 (ZcS ps))),(11,.d (.i k)),(12,.d (.i i))] [] st) (λn t=>?_) λaf=>?_);intro i hn2 hi;refine rg ?_;refine Zc (Zl rfl trivial (λh1=>?_) (λh1=>?_));simp at h1;have ae:=K6 (show i<I ps by omega);have hs:=ac i ω;have hdi:=ZCd ps k i;generalize hy:ps.getD i dE=y at *;refine xA @ae ?_;refine xA (nd2 @atV @ab) ?_;refine cd (λh2=>?_) (λh2=>?_);rw[if_pos (by simpa using h2)]at hs;refine gA ?_;refine gA ?_;rw[show((Zfr ps k i:Nat):Int)+1=((Zfr ps k (i+1):Nat):Int) by rw[hs];rfl];refine Zf ?_;exact t ((k)-(i+1)) ω (i+1) rfl ω;rw[if_neg (by simpa using h2)]at hs;refine gA ?_;rw[show((Zfr ps k i:Nat):Int)=((Zfr ps k (i+1):Nat):Int) by rw[hs];rfl];refine Zf ?_;exact t ((k)-(i+1)) ω (i+1) rfl ω;simp at h1;obtain rfl:i=k:=ω;rw[<-ad];refine rg ?_;refine cd (λh3=>?_) (λh3=>?_);simp at h3;rw[if_pos h3]at hO;refine xA (nd2 @atV @ab) ?_;refine rs u ?_;exact hO.symm;simp at h3;rw[if_neg h3]at hO;refine xA (nd2 @atV @ab) ?_;refine⟨by unfold big;omega,?_⟩;refine cXD @ZCN (hD) ?_;repeat(refine ZIA (by first|omega|trivial|(intro h0;simp at h0;omega)|(((try simp only[ZII,ZIP,List.length_nil]);unfold big;omega))) ?_)
 refine rs u ?_;exact hO.symm;exact af _ 0 rfl ω
section
variable {d:Dfn} {m:Msg} {pth:Str} {bm:Nat} {x:Val} {q:Str} {st:St}
def Zuh(mis:Msg->Val->Str->Str×Int)(d:Dfn)(of:Str)(x:Val)(q:Str):Str×Int :=
 Wl (Zc5 false false false true x q) (Wl (q,if dC ((I x.parts:Int)=1) then 0 else 6) (mis (Zn d of) (x.parts.getD 0 dE) (ZN q (Ym x.parts 0))))
def ZuB(hI:Jx)(of)(hof:0<=Zz d of (I d.msgs))(hx:VOk x)(hq:q≠[]/\I q<=1000000){fu}(hu:WP ZIy fu [.bool false,.bool false,.bool false,.bool true] st (ZH (Zc5 false false false true x q) st))(mis)(hmis:I x.parts=1->Za ZIy 76 [.agg d.cells,.agg (Zn d of).cells,.agg (x.parts.getD 0 dE).cells,.str (ZN q (Ym x.parts 0))] st (ZH (mis (Zn d of) (x.parts.getD 0 dE) (ZN q (Ym x.parts 0))) st)):
  Za ZIy 156 [.agg (WT m d pth bm),.str of,.agg x.cells,.str q,fu] st (ZH (Zuh mis d of x q) st):=by
 refine Zb (cR 156 f156) λF hF=>?_;have t:=Jg d of hof;rw[show d.msgs.getD (ixS d of) dE=Zn d of from rfl]at t;unfold Zuh at hF;rw[ZI2];refine rx @WT.eq_1 ?_;refine rg ?_;refine vV (hu) ?_ ?_;refine mfK λh0=>?_;rw[KM h0]at hF;refine gR0 ?_;refine rx @ZbT ?_;have c9:=Kv (dC ((I x.parts:Int)=1)) q 6 (by decide) st;refine cV (c9) ?_ ?_;refine mfK λh1=>?_;rw[KM h1]at hF;have hl:I x.parts=1:=by simp at h1;omega
 have ab:=Zjn hI x.parts 0 ω ω hx.name;have hsn:=ZgC hx.few hx.name (k:=0) ω;have u:Ym x.parts 0≠[]:=by have h2:=(hx.part (ZE (show 0<I x.parts by omega))).node.1.1;unfold Ym;rw[if_pos (by have:=Zov x.parts 0;omega)];exact λe=>by rw[e]at h2;simp at h2
 have hj:=Zrw hq.1 u ω ω;have hr:=K6 (l:=x.parts) (i:=0) ω;have hm:=hmis hl;generalize ZN q (Ym x.parts 0)=q2 at *;rw[ZI2]at hm;generalize mis (Zn d of) (x.parts.getD 0 dE) q2=R at *;generalize x.parts.getD 0 dE=y at *;refine gR0 ?_;refine xA (nd2 @atV @hr) ?_;refine clD (t) ?_;refine clD (ab) ?_;refine clD (hj) ?_;refine cVD (hm) ?_ ?_;refine mfK λh2=>?_;refine kF ?_;refine gR0 ?_;exact hF.fin (.tup []) st rfl trivial (ZIB _) ZIz (ZH.ok h2);exact mfP λh2=>hF.pan st ZIz (ZH.bad h2 rfl);exact mfP λh1=>hF.pan st ZIz (ZH.bad h1 (Kp h1));exact mfP λh0=>hF.pan st ZIz (ZH.bad h0 (Kp h0))
end
def VOk.few2{v}(h:VOk v):I v.parts<=510:=by
 have h1:=Zv9 v;have h2:=h.wt;have h3:I v.parts<=nodesL v.parts:=by
  induction v.parts with
  |nil=>simp
  |cons x r ih=>have:=ZaV x;simp only[ZIP,nodesL];omega
 have h4:=ZaV v;omega
def ZCS{ps k}(h:1<=(ps.getD k dE).name.length):Ym ps k≠[]:=by
 unfold Ym;split;exact λe=>by rw[e]at h;simp at h
 simp
abbrev ZeJ(mis:Msg->Val->Str->Str×Int)(d:Dfn)(of:Str)(x:Val)(q:Str)(i:Nat):Str×Int:=mis (Zn d of) (x.parts.getD i dE) (ZN q (Ym x.parts i))
section
variable {st:St} {b3 b4 b5 b6 b7 bm:Nat} {d:Dfn} {m:Msg} {pth:Str} {l:List (Str × Int)} {f:Fld} {x:Val} {q:Str}
def Zpu(hI:Jx)(hs:Zck st b3 b4 b5 b6 b7 bm d m pth l f x q)(hx:VOk x)(hq:q≠[]/\I q<=1000000)(hv:Z9 f.size=true)(hk:∀t∈f.size.terms,∃v,Zp t.field l=sO v/\0<=v/\v<34359738368)(hof:0<=Zz d f.of (I d.msgs))(mis)(hmis:∀i,i<I x.parts->Za ZIy 76 [.agg d.cells,.agg (Zn d f.of).cells,.agg (x.parts.getD i dE).cells,.str (ZN q (Ym x.parts i))] st (ZH (ZeJ mis d f.of x q i) st)):
  Za ZIy 152 [.ptr b7 0,.ptr b5 0,.ptr b3 0,.ptr b4 0,.ptr b6 0] st (ZH (Wl (Zc5 false false false true x q) (Wl (q,Kq (I x.parts) (Zau f.size l)) ((WG (ZeJ mis d f.of x q) (ZIM (I x.parts))).getD (q,0)))) st):=by
 refine Zb (cR 152 f152) λF hF=>?_;have hu:=Qm hs false false false true;have hz:=Zap m d pth f hv bm l st hs.m hk;have ag:=Jg d f.of hof;rw[show d.msgs.getD (ixS d f.of) dE=Zn d f.of from rfl]at ag;have ad:=hs.x;have ah:=hs.p;have ae:=hs.f;have ai:=hs.q;have af:=hx.few2;refine rx @hs.u ?_;refine vV (hu) ?_ ?_;refine mfK λh0=>?_;rw[KM h0]at hF;refine gR0 ?_;refine rx (nd2 @ad (nd2 @ah (nd2 @ae (nd2 @ai (nd2 @ZbT (nd2 @WT.eq_1 @eQ0)))))) ?_;refine cVD (hz) ?_ ?_;rintro dd S ⟨hd,hS⟩;obtain rfl:=hS.symm;cases hd;refine kF ?_;refine gR0 ?_;refine cVD (Zk5 (I x.parts) (Zau f.size l) q st) ?_ ?_;refine mfK λh1=>?_;rw[KM h1]at hF;refine kF ?_;refine gR0 ?_;refine rx (nd2 @ad @ZbT) ?_;refine Ze (fr (I x.parts) (λi Q=>i<=I x.parts->(∀j,j<i->(ZeJ mis d f.of x q j).2=0)->Q [(1,.d (.ptr b5 0)),(2,.d (.ptr b3 0)),(3,.d (.ptr b4 0)),(4,.d (.ptr b6 0)),(18,.d (ZZ x.parts)),(19,.d (.i (I x.parts))),(20,.d (.i i))] [] st) (λn ac=>?_) λao=>?_);intro i hn hi ab;refine rg ?_;refine Zc (Zl rfl trivial (λu=>?_) (λu=>?_));simp at u;have am:x.parts.getD i dE∈x.parts:=ZE u;have ak:=Zjn hI x.parts i u af hx.name;have hsl:=ZgC hx.few hx.name u;have hj:=Zrw hq.1 (ZCS (hx.part am).node.1.1) ω ω;have hr:=K6 (l:=x.parts) (i:=i) u;have hm:=hmis i u;have aj:=Zrk (g:=ZeJ mis d f.of x q) u ab;have al:=λh=>Yc (q:=λj=>(ZeJ mis d f.of x q j).2=0) ab h;generalize hR:ZeJ mis d f.of x q i=R at *;generalize ZN q (Ym x.parts i)=q2 at *;rw[ZI2]at hm;generalize x.parts.getD i dE=y at *;refine xA (nd2 @atV @hr) ?_;refine rx (nd2 @ad (nd2 @ah (nd2 @ae (nd2 @ai (nd2 @WT.eq_1 @eQ0))))) ?_;refine clD (ag) ?_;refine clD (ak) ?_;refine clD (hj) ?_;refine cVD (hm) ?_ ?_;refine mfK λh2=>?_;refine kF ?_;refine gR0 ?_;refine gA ?_;refine Zf ?_;exact ac ((I x.parts)-(i+1)) ω (i+1) rfl ω (al h2);exact mfP λh2=>hF.pan st ZIz (ZH.bad h2 (by rw[aj h2];rfl));simp at u;obtain rfl:i=I x.parts:=ω;rw[ZoK ab]at hF;refine ZT rfl ?_;exact hF.fin (.tup []) st rfl trivial (ZIB _) ZIz (ZH.ok rfl);exact ao _ 0 rfl ω (by intro j hj;omega);exact mfP λh1=>hF.pan st ZIz (ZH.bad h1 (Kp h1));rintro dd S ⟨hd,_⟩;cases hd;exact mfP λh0=>hF.pan st ZIz (ZH.bad h0 (Kp h0))
def Zpv(u:Zck st b3 b4 b5 b6 b7 bm d m pth l f x q){R}(t:Za ZIy 156 [.agg (WT m d pth bm),.str f.of,.agg x.cells,.str q,.fn (.func 144) [] [.ptr b5 0,.ptr b6 0]] st (ZH R st)):
  Za ZIy 155 [.ptr b3 0,.ptr b4 0,.ptr b5 0,.ptr b6 0,.ptr b7 0] st (ZH R st):=by
 refine Zb (cR 155 f155) λF hF=>?_;rw[ZI2]at t;refine rx (nd2 @u.p (nd2 @u.f (nd2 @u.x (nd2 @u.q (nd2 @u.u (nd2 @WT.eq_1 @eQ0)))))) ?_;refine cV (t) ?_ ?_;refine mfK λh0=>?_;refine gR0 ?_;exact hF.fin (.tup []) st rfl trivial (ZIB _) ZIz (ZH.ok h0);exact mfP λh0=>hF.pan st ZIz (ZH.bad h0 rfl)
def Zpw(u:Zck st b3 b4 b5 b6 b7 bm d m pth l f x q){tag}(ht:(Zp f.tag l).getD 0=tag){R}(hone:0<=J1 f tag->Za ZIy 156 [.agg (WT m d pth bm),.str (f.cases.getD (J1 f tag).toNat dE).of,.agg x.cells,.str q,.fn (.func 144) [] [.ptr b5 0,.ptr b6 0]] st (ZH R st)):
  Za ZIy 157 [.ptr b7 0,.ptr b4 0,.ptr b3 0,.ptr b6 0,.ptr b5 0] st (ZH (Wl (Zc5 false false false true x q) (Wl (q,if dC (0<=J1 f tag) then 0 else 9) R)) st):=by
 refine Zb (cR 157 f157) λF hF=>?_;have hu:=Qm u false false false true;have e1:=YF (vD:=YR) ZP f.tag l;have e3:=YS ZP f.tag;simp only[show KG f.tag=D.str f.tag from rfl]at e1 e3;have hC:=Zqw f tag;have ac:=WE (λc:Y6=>dC (c.low<=tag)&&dC (tag<=c.high)) f.cases;rw[show Zi (λc:Y6=>dC (c.low<=tag)&&dC (tag<=c.high)) f.cases=J1 f tag from rfl]at ac;rw[ZI2]at hone;generalize J1 f tag=ci at *;refine rx @u.u ?_;refine vV (hu) ?_ ?_;refine mfK λh0=>?_;rw[KM h0]at hF;refine gR0 ?_;refine rx (nd2 @u.f (nd2 @u.p (nd2 @u.m (nd2 @WT.eq_1 (nd2 @eQ0 (nd2 @e1 (nd2 @e3 (nd2 @Ze1 @ht)))))))) ?_;refine cl (hC) ?_;refine rx @u.q ?_;have c9:=Kv (dC (0<=ci)) q 9 (by decide) st;refine cV (c9) ?_ ?_;refine mfK λh1=>?_;rw[KM h1]at hF;have t:0<=ci:=by by_cases h:0<=ci;exact h;rw[decide_eq_false h]at h1;simp at h1
 have ho:=hone t;have ad:max ci 0=ci:=ω;generalize ab:f.cases.getD ci.toNat dE=cc at *;rw[ad];refine gR0 ?_;refine xA (nd2 @u.p (nd2 @u.f (nd2 @u.x (nd2 @u.q (nd2 @u.u (nd2 @WT.eq_1 (nd2 @eQ0 (nd2 @ZBV (nd2 @ab @Y6.cells.eq_1))))))))) ?_;refine cV0 (ho) ?_ ?_;refine mfK λh2=>?_;refine gR0 ?_;exact hF.fin (.tup []) st rfl trivial (ZIB _) ZIz (ZH.ok h2);exact mfP λh2=>hF.pan st ZIz (ZH.bad h2 rfl);exact mfP λh1=>hF.pan st ZIz (ZH.bad h1 (Kp h1));exact mfP λh0=>hF.pan st ZIz (ZH.bad h0 (Kp h0))
def Zpx(hs:Zck st b3 b4 b5 b6 b7 bm d m pth l f x q)(hv:Z9 f.size=true)(hk:∀t∈f.size.terms,∃v,Zp t.field l=sO v/\0<=v/\v<34359738368)(hof:0<=Zz d f.of (I d.msgs)){R len}(u:Za ZIy 156 [.agg (WT m d pth bm),.str f.of,.agg x.cells,.str q,.fn (.func 144) [] [.ptr b5 0,.ptr b6 0]] st (ZH R st))(hlen:R.2=0->I x.parts=1/\Zd ZIy 160 [.agg d.cells,.agg (Zn d f.of).cells,.agg (x.parts.getD 0 dE).cells] (.i len)):
  Za ZIy 159 [.ptr b3 0,.ptr b4 0,.ptr b5 0,.ptr b6 0,.ptr b7 0] st (ZH (Wl R (q,Kq len (Zau f.size l))) st):=by
 refine Zb (cR 159 f159) λF hF=>?_;have hz:=Zap m d pth f hv bm l st hs.m hk;have ac:=Jg d f.of hof;rw[show d.msgs.getD (ixS d f.of) dE=Zn d f.of from rfl]at ac;rw[ZI2]at u;have ad:=hs.p;have ab:=hs.f;have ae:=hs.q;refine rx (nd2 @ad (nd2 @ab (nd2 @hs.x (nd2 @ae (nd2 @hs.u (nd2 @WT.eq_1 @eQ0)))))) ?_;refine cV (u) ?_ ?_;refine mfK λh0=>?_;rw[KM h0]at hF;obtain⟨hl,hL⟩:=hlen h0;have hr:=K6 (l:=x.parts) (i:=0) ω;rw[ZI2]at hL;generalize x.parts.getD 0 dE=y at *;refine gR0 ?_;refine xA (nd2 @ad (nd2 @ab (nd2 @hs.x (nd2 @ae (nd2 @WT.eq_1 (nd2 @eQ0 (nd2 @atV @hr))))))) ?_;refine clD (ac) ?_;refine clD (hL) ?_;refine cVD (hz) ?_ ?_;rintro dd S ⟨hd,hS⟩;obtain rfl:=hS.symm;cases hd;refine kF ?_;refine gR0 ?_;refine cVD (Zk5 len (Zau f.size l) q st) ?_ ?_;refine mfK λh1=>?_;refine kF ?_;refine gR0 ?_;exact hF.fin (.tup []) st rfl trivial (ZIB _) ZIz (ZH.ok h1);exact mfP λh1=>hF.pan st ZIz (ZH.bad h1 rfl);rintro dd S ⟨hd,_⟩;cases hd;exact mfP λh0=>hF.pan st ZIz (ZH.bad h0 (Kp h0))
end
def Zjd{v w}:∀{l},(∀t∈l,v t=w t)->Q3 v l=Q3 w l
 | [],_=>rfl
 |t::r,h=>by simp only[Q3];rw[h t ψ,Zjd λs u=>h s (by simp[u])]
def ZD2(k)(x):ZpJ (Zqq k) (Znj k) (dC (k=6)) (dC (7<=k)) x=!WC k x:=by
 have e:∀n:Nat,dC ((n:Int)=0)=!dC (0<(n:Int)):=λn=>by by_cases h:n=0<;>simp[h];omega
 unfold ZpJ WC;rw[e,e,e];generalize dC (x.int=0)=a1;generalize dC (0<(I x.bytes:Int))=a2;generalize dC (0<(I x.hdrs:Int))=t;generalize dC (0<(I x.parts:Int))=u;generalize Zqq k=c1;generalize Znj k=c2;generalize dC (k=6)=c3;generalize dC (7<=k)=c4;revert a1 a2 t u c1 c2 c3 c4;decide
def ZCP{k x q n b h p}{R}(t:Zqq k=n)(u:Znj k=b)(h3:dC (k=6)=h)(h4:dC (7<=k)=p):Wl (Zc5 n b h p x q) R=if WC k x then (q,6) else R:=by
 subst t;subst u;subst h3;subst h4;unfold Wl Zc5;rw[ZD2];cases WC k x<;>rfl
def Zzt(a b c):Wl (Wl a b) c=Wl a (Wl b c):=by
 unfold Wl;by_cases h:a.2=0<;>simp[h]
def ZCO(a b c):Wl a (Wl b (Wl a c))=Wl a (Wl b c):=by
 unfold Wl;by_cases h:a.2=0<;>simp[h]
def Zo6(mis)(d)(of)(x)(q):Zuh mis d of x q=Wl (Zc5 false false false true x q) (Zan mis d of x q):=by
 unfold Zuh Zan
 congr 1
 by_cases h:I x.parts=1;rw[if_pos h,KM (by simp[h])];rw[if_neg h,Kp (by simp;omega),if_neg (by simp;omega)]
def ZsE(b3 b4 b5 b6 b7:Nat):List (Int×D):=[
 (1,.fn (.func 145) [] [.ptr b7 0,.ptr b5 0,.ptr b4 0,.ptr b6 0]),
 (3,.fn (.func 145) [] [.ptr b7 0,.ptr b5 0,.ptr b4 0,.ptr b6 0]),
 (4,.fn (.func 146) [] [.ptr b7 0,.ptr b5 0,.ptr b3 0,.ptr b4 0,.ptr b6 0]),
 (5,.fn (.func 149) [] [.ptr b7 0,.ptr b5 0,.ptr b4 0,.ptr b6 0]),
 (6,.fn (.func 151) [] [.ptr b7 0,.ptr b5 0,.ptr b6 0,.ptr b4 0]),
 (7,.fn (.func 152) [] [.ptr b7 0,.ptr b5 0,.ptr b3 0,.ptr b4 0,.ptr b6 0]),
 (8,.fn (.func 155) [] [.ptr b3 0,.ptr b4 0,.ptr b5 0,.ptr b6 0,.ptr b7 0]),
 (9,.fn (.func 157) [] [.ptr b7 0,.ptr b4 0,.ptr b3 0,.ptr b6 0,.ptr b5 0]),
 (12,.fn (.func 159) [] [.ptr b3 0,.ptr b4 0,.ptr b5 0,.ptr b6 0,.ptr b7 0])]
structure Zie(f:Fld)(l nv:List (Str×Int)):Prop where
 size:f.kind=4\/f.kind=7\/f.kind=12->Z9 f.size=true/\∀t∈f.size.terms,∃v,Zp t.field l=some v/\0<=v/\v<34359738368/\WO t.field nv=v
 tag:f.kind=9->(Zp f.tag l).getD 0=WO f.tag nv
 low:f.kind=5->0<=f.low/\f.low<=255
def Zie.eval{f l nv}(h:Zie f l nv)(hk:f.kind=4\/f.kind=7\/f.kind=12):Zau f.size l=Zbd f.size nv:=by
 unfold Zau Zbd
 congr 1
 refine Zjd λt ht=>?_;obtain⟨v,u,_,_,h2⟩:=(h.size hk).2 t ht;rw[u,h2];rfl
def Zie.sz{f l nv}(h:Zie f l nv)(u:f.kind=4\/f.kind=7\/f.kind=12):Z9 f.size=true/\∀t∈f.size.terms,∃v,Zp t.field l=sO v/\0<=v/\v<34359738368 :=
 ⟨(h.size u).1,λt ht=>by obtain⟨v,h1,h2,h3,_⟩:=(h.size u).2 t ht;exact⟨v,h1,h2,h3⟩⟩
section
variable {st:St} {b3 b4 b5 b6 b7 bm:Nat} {d:Dfn} {m:Msg} {pth:Str} {l nv:List (Str × Int)} {f:Fld} {x:Val} {q:Str}
def ZCq(hI:Jx)(hs:Zck st b3 b4 b5 b6 b7 bm d m pth l f x q)(hfr:Zeg d f)(hv:YG f=true)(hx:VOk x)(hq:q≠[]/\I q<=1000000)(hn:Zie f l nv)(mis len)(hmis:∀s,0<=Zz d s (I d.msgs)->∀i,i<I x.parts->Za ZIy 76 [.agg d.cells,.agg (Zn d s).cells,.agg (x.parts.getD i dE).cells,.str (ZN q (Ym x.parts i))] st (ZH (ZeJ mis d s x q i) st))(hlen:f.kind=12->(Zan mis d f.of x q).2=0->I x.parts=1/\Zd ZIy 160 [.agg d.cells,.agg (Zn d f.of).cells,.agg (x.parts.getD 0 dE).cells] (.i (len (Zn d f.of) (x.parts.getD 0 dE)))):
  ∃fn,Zp f.kind (ZsE b3 b4 b5 b6 b7)=sO fn/\WP ZIy fn [] st (ZH (if WC f.kind x then (q,6) else Qc mis len d f x q nv) st):=by
 have hk:f.kind=1\/f.kind=3\/f.kind=4\/f.kind=5\/f.kind=6\/f.kind=7\/f.kind=8\/f.kind=9\/f.kind=12:=by have:=hfr.kind;unfold YG at hv;simp only[ZIJ,Bool.not_eq_true',decide_eq_false_iff_not]at hv;omega
 have u:∀of,0<=Zz d of (I d.msgs)->Za ZIy 156 [.agg (WT m d pth bm),.str of,.agg x.cells,.str q,.fn (.func 144) [] [.ptr b5 0,.ptr b6 0]] st (ZH (Zuh mis d of x q) st):=λof ho =>
  ZuB hI of ho hx hq (Qm hs false false false true) mis λh1=>hmis of ho 0 ω
 have hP:=Qc.eq_1 mis len d f x q nv;generalize Qc mis len d f x q nv=R at *;have t:∀{Q:Str×Int} {n b h p:Bool},Zqq f.kind=n->Znj f.kind=b->dC (f.kind=6)=h->dC (7<=f.kind)=p->R=Q->(if WC f.kind x then (q,6) else R)=Wl (Zc5 n b h p x q) Q:=λh1 h2 h3 h4 h5=>by rw[ZCP h1 h2 h3 h4,h5]
 have num:f.kind=1\/f.kind=3->(if WC f.kind x then (q,6) else R)=Wl (Zc5 true false false false x q) (q,if dC (f.low<=x.int)&&dC (x.int<=f.high) then 0 else 3):=λh=>by refine t (by rcases h with h|h<;>rw[h]<;>rfl) (by rcases h with h|h<;>rw[h]<;>rfl) (by rcases h with h|h<;>rw[h]<;>rfl) (by rcases h with h|h<;>rw[h]<;>rfl) ?_;rw[hP,if_pos h];by_cases h1:x.int<f.low\/f.high<x.int;rw[if_pos h1,if_neg (by simp;omega)];rw[if_neg h1,if_pos (by simp;omega)]
 rcases hk with h|h|h|h|h|h|h|h|h;refine⟨_,by rw[h];rfl,?_⟩;rw[num ω];exact Za.V (first:=[]) (args:=[]) (caps:=[_,_,_,_]) (ZgA hs);refine⟨_,by rw[h];rfl,?_⟩;rw[num ω];exact Za.V (first:=[]) (args:=[]) (caps:=[_,_,_,_]) (ZgA hs);refine⟨_,by rw[h];rfl,?_⟩;obtain⟨h1,h2⟩:=hn.sz ω;rw[t (Q:=(q,Kq (I x.bytes) (Zau f.size l))) (by rw[h]<;>rfl) (by rw[h]<;>rfl) (by rw[h]<;>rfl) (by rw[h]<;>rfl) (by rw[hP,if_neg ω,if_pos h,hn.eval ω])];exact Za.V (first:=[]) (args:=[]) (caps:=[_,_,_,_,_]) (Zpr hs h1 h2);refine⟨_,by rw[h];rfl,?_⟩;rw[t (by rw[h]<;>rfl) (by rw[h]<;>rfl) (by rw[h]<;>rfl) (by rw[h]<;>rfl) (Q:=Wl (q,if dC ((I x.bytes:Int)<=f.high) then 0 else 5) (q,if !x.bytes.any (λc=>dC (f.low=c.toNat)) then 0 else 6)) (by
  rw[hP,if_neg ω,if_neg ω,if_pos h];rw[show(λc:UInt8=>dC ((c.toNat:Int)=f.low))=λc=>dC (f.low=c.toNat) from funext λc=>by rw[decide_eq_decide];exact eq_comm];by_cases h1:f.high<I x.bytes;rw[if_pos h1,Kp (by simp;omega),if_neg (by simp;omega)];rw[if_neg h1,KM (by simp;omega)];cases x.bytes.any λc=>dC (f.low=c.toNat)<;>rfl)]
 exact Za.V (first:=[]) (args:=[]) (caps:=[_,_,_,_]) (Zps hs (hn.low h))
 .refine⟨_,by rw[h];rfl,?_⟩;rw[t (by rw[h]<;>rfl) (by rw[h]<;>rfl) (by rw[h]<;>rfl) (by rw[h]<;>rfl) (Q:=Wl (q,if Kz x.hdrs then 0 else 6) (q,if dC (((Kd x.hdrs).length:Int)<=f.high) then 0 else 5)) (by
   rw[hP,if_neg ω,if_neg ω,if_neg ω,if_pos h];cases Kz x.hdrs with
   |false=>rfl
   |true =>
    rw[if_neg ψ,KM ψ];by_cases h1:f.high<(Kd x.hdrs).length;rw[if_pos h1,if_neg (by simp;omega)];rw[if_neg h1,if_pos (by simp;omega)])]
  exact Za.V (first:=[]) (args:=[]) (caps:=[_,_,_,_]) (Zpt hs hx.node.2.2.2)
 refine⟨_,by rw[h];rfl,?_⟩;obtain⟨h1,h2⟩:=hn.sz ω;have ho:=hfr.ref ω;rw[t (by rw[h]<;>rfl) (by rw[h]<;>rfl) (by rw[h]<;>rfl) (by rw[h]<;>rfl) (Q:=Wl (q,Kq (I x.parts) (Zau f.size l)) ((WG (ZeJ mis d f.of x q) (ZIM (I x.parts))).getD (q,0))) (by
  rw[hP,if_neg ω,if_neg ω,if_neg ω,if_neg ω,if_pos h,hn.eval ω];rfl)]
 exact Za.V (first:=[]) (args:=[]) (caps:=[_,_,_,_,_]) (Zpu hI hs hx hq h1 h2 ho mis λi hi=>hmis _ ho i hi);refine⟨_,by rw[h];rfl,?_⟩;rw[t (n:=false) (b:=false) (h:=false) (p:=true) (by rw[h]<;>rfl) (by rw[h]<;>rfl) (by rw[h]<;>rfl) (by rw[h]<;>rfl) (Q:=Zan mis d f.of x q) (by
  rw[hP,if_neg ω,if_neg ω,if_neg ω,if_neg ω,if_neg ω,if_pos h]),<-Zo6]
 exact Za.V (first:=[]) (args:=[]) (caps:=[_,_,_,_,_]) (Zpv hs (u _ (hfr.ref ω)));refine⟨_,by rw[h];rfl,?_⟩;have ab:=WE (λc:Y6=>dC (c.low<=WO f.tag nv)&&dC (WO f.tag nv<=c.high)) f.cases;rw[show Zi (λc:Y6=>dC (c.low<=WO f.tag nv)&&dC (WO f.tag nv<=c.high)) f.cases=J1 f (WO f.tag nv) from rfl]at ab;rw[t (n:=false) (b:=false) (h:=false) (p:=true) (by rw[h]<;>rfl) (by rw[h]<;>rfl) (by rw[h]<;>rfl) (by rw[h]<;>rfl) (Q:=Wl (q,if dC (0<=J1 f (WO f.tag nv)) then 0 else 9) (Zan mis d (f.cases.getD (J1 f (WO f.tag nv)).toNat dE).of x q)) (by
  rw[hP,if_neg ω,if_neg ω,if_neg ω,if_neg ω,if_neg ω,if_neg ω,if_pos h];by_cases h1:J1 f (WO f.tag nv)<0;rw[if_pos h1,Kp (by simp;omega),if_neg (by simp;omega)];rw[if_neg h1,KM (by simp;omega)]),<-ZCO,<-Zo6]
 exact Za.V (first:=[]) (args:=[]) (caps:=[_,_,_,_,_]) (Zpw hs (hn.tag h) λh0=>u _ (hfr.cas h _ (ZE ω)));refine⟨_,by rw[h];rfl,?_⟩;obtain⟨h1,h2⟩:=hn.sz ω;have ho:=hfr.ref ω;rw[t (n:=false) (b:=false) (h:=false) (p:=true) (by rw[h]<;>rfl) (by rw[h]<;>rfl) (by rw[h]<;>rfl) (by rw[h]<;>rfl) (Q:=Wl (Zan mis d f.of x q) (q,Kq (len (Zn d f.of) (x.parts.getD 0 dE)) (Zau f.size l))) (by
  rw[hP,if_neg ω,if_neg ω,if_neg ω,if_neg ω,if_neg ω,if_neg ω,if_neg ω,if_pos h,hn.eval ω];rfl),<-Zzt,<-Zo6]
 refine Za.V (first:=[]) (args:=[]) (caps:=[_,_,_,_,_]) (Zpx hs h1 h2 ho (u _ ho) λh0=>hlen h ?_);rw[Zo6]at h0;unfold Wl at h0;split at h0;exact h0;rename_i ac;exact absurd h0 ac
end
def ex3{st:St}{a b c p q r}(ha:st a=nO)(t:(st.upd a p) b=nO)(u:((st.upd a p).upd b q) c=nO):
  (((st.upd a p).upd b q).upd c r) a=sO p/\(((st.upd a p).upd b q).upd c r) b=sO q/\(((st.upd a p).upd b q).upd c r) c=sO r/\st.sub (((st.upd a p).upd b q).upd c r):=by
 have k1:=Zo t;have k2:=Zo u;have k3:=Zo k2.2;refine⟨by rw[ZIG _ _ (Ne.symm k3.1),ZIG _ _ (Ne.symm k1.1),ZIE],by rw[ZIG _ _ (Ne.symm k2.1),ZIE],ZIE _ _ _,ZJh (ZJh (ZIZ _ ha) (ZIZ _ t)) (ZIZ _ u)⟩
def Zck.mono{st A b3 b4 b5 b6 b7 bm d m pth l f x q}(h:Zck st b3 b4 b5 b6 b7 bm d m pth l f x q)(t:st.sub A):Zck A b3 b4 b5 b6 b7 bm d m pth l f x q :=
 ⟨t _ _ h.p,t _ _ h.f,t _ _ h.x,t _ _ h.q,t _ _ h.u,t _ _ h.m⟩
section
variable {st:St} {bm:Nat} {d:Dfn} {m:Msg} {pth:Str} {l nv:List (Str × Int)} {f:Fld} {x:Val}
def Zsn(hI:Jx)(hm:st bm=sO (.map (Kh l)))(hnm:f.name≠[]/\I f.name<=1000)(hp:I pth<=900000)(hfr:Zeg d f)(hv:YG f=true)(hx:VOk x)(hn:Zie f l nv)(mis len)(hmis:∀S s,0<=Zz d s (I d.msgs)->∀i,i<I x.parts->Za ZIy 76 [.agg d.cells,.agg (Zn d s).cells,.agg (x.parts.getD i dE).cells,.str (ZN (ZN pth f.name) (Ym x.parts i))] S (ZH (ZeJ mis d s x (ZN pth f.name) i) S))(hlen:f.kind=12->(Zan mis d f.of x (ZN pth f.name)).2=0->I x.parts=1/\Zd ZIy 160 [.agg d.cells,.agg (Zn d f.of).cells,.agg (x.parts.getD 0 dE).cells] (.i (len (Zn d f.of) (x.parts.getD 0 dE)))):
  Za ZIy 110 [.agg (WT m d pth bm),.agg f.cells,.agg x.cells] st (ZH (if WC f.kind x then (ZN pth f.name,6) else Qc mis len d f x (ZN pth f.name) nv) st):=by
 refine Zb (cR 110 f110) λF hF=>?_;have hjl:=Zcd pth f.name;have ai:ZN pth f.name≠[]:=by unfold ZN;split;exact hnm.1;simp
 generalize hR:(if WC f.kind x then (ZN pth f.name,6) else Qc mis len d f x (ZN pth f.name) nv)=R at *;rw[ZI2];refine rx (nd2 @WT.eq_1 @eQ0) ?_;refine Zc ?_;refine xP 3 λb3 h3=>?_;refine xP 4 λb4 h4=>?_;refine xP 5 λb5 h5=>?_;obtain⟨g3,g4,g5,ac⟩:=ex3 (r:=.cells [.str x.name,.i x.int,Zk x.bytes,Yg x.hdrs,ZZ x.parts]) h3 h4 h5;generalize ((st.upd b3 _).upd b4 _).upd b5 _=S at *;have gm:=ac _ _ hm;refine rh ?_;refine Zlz ?_;simp only[Eqs,reduceCtorEq,ZIF,reduceIte,ZIC,ZIH,ZID,ZlH,ZpC,g3,g4];refine Zvx rfl rfl rfl rfl φ (by rfl) (by decide) λbj ag=>Zlz ?_;simp only[Eqs,reduceCtorEq,ZIF,reduceIte,ZIC,ZIH,ZID,ZlH,ZpC];refine Zly rfl rfl rfl rfl rfl φ φ (by exact(Zsm (ZIE _ _ _) hnm.1 ω ω)) ?_ ?_;rintro dd T ⟨hr,o,rfl⟩;cases hr;rw[ZIR];have hsj:=ZIZ o ag;refine gR0 ?_;refine kl (S) [(3,.d (.ptr b3 0)),(4,.d (.ptr b4 0)),(5,.d (.ptr b5 0)),(6,.loc 6 0)] [(6,[.str (ZN pth f.name)])] Jn ZbM ?_;refine Zc ?_;refine xP 6 λb6 h6=>?_;refine rg ?_;refine Zc ?_;refine xP 7 λb7 h7=>?_;have ab:=ZIZ (.cells [.str (ZN pth f.name)]) h6;have t:=ZIZ (.cells [.fn (.func 144) [] [.ptr b5 0,.ptr b6 0]]) h7;have k7:=Zo h7;have hs:Zck ((S.upd b6 (.cells [.str (ZN pth f.name)])).upd b7 (.cells [.fn (.func 144) [] [.ptr b5 0,.ptr b6 0]])) b3 b4 b5 b6 b7 bm d m pth l f x (ZN pth f.name) :=
  ⟨t _ _ (ab _ _ g3),t _ _ (ab _ _ g4),t _ _ (ab _ _ g5),t _ _ (ZIE _ _ _),ZIE _ _ _,t _ _ (ab _ _ gm)⟩
 have af:=ZJh ac (ZJh ab t);refine rg ?_;generalize ((S.upd b6 _).upd b7 _)=T at *;refine rh ?_;refine Zm ?_;simp only[Eqs,reduceCtorEq,ZIF,reduceIte,ZIC,ZIH,ZID,JL,ZJg,decide_false,ZIE,ZIR,Yq,Yr];intro b hb;have ad:=ZIZ (.map (WL YR id (ZsE b3 b4 b5 b6 b7))) hb;have ae:=hs.mono ad;obtain⟨fn,ah,u⟩:=ZCq hI ae hfr hv hx ⟨ai,ω⟩ hn mis len (hmis _) hlen;rw[hR]at u;have e1:=YF (vD:=id) Zdk f.kind (ZsE b3 b4 b5 b6 b7);have e3:=YS Zdk f.kind;simp only[show YR f.kind=D.i f.kind from rfl]at e1 e3;rw[ah]at e1;refine kl ((T.upd b (.map (WL YR id (ZsE b3 b4 b5 b6 b7))))) [(4,.d (.ptr b4 0)),(9,.d (.map b))] [] Jn ZbM ?_;refine rx (nd2 @ae.f (nd2 @eQ0 (nd2 @ZIE (nd2 @e1 (nd2 @e3 (nd2 @ZIE (nd2 @ZIR (nd2 @Yq @Yr)))))))) ?_;rw[show id fn=fn from rfl];refine vV (u) ?_ ?_;refine mfK λh0=>?_;refine gR0 ?_;exact hF.fin (.tup []) st rfl trivial (ZIB _) (ZJh af ad) (ZH.ok h0);exact mfP λh0=>hF.pan st (ZJh af ad) (ZH.bad h0 rfl);rintro dd T ⟨hr,_⟩;cases hr
end
def Zxd(d n m v p):Z3 d (n+1) m v p =
  Wl (p,if (((dC (v.name=m.name)&&dC (v.int=0))&&dC ((I v.bytes:Int)=0))&&dC ((I v.hdrs:Int)=0))&&QT (vfs m.fields) v.parts then 0 else 6) ((WG (ZcL d n m v p) (ZIM (I v.parts))).getD ([],0)):=by
 rw[Zko,show JJ m v.parts=QT (vfs m.fields) v.parts from rfl];have e:∀n:Nat,dC ((n:Int)=0)=dC (n=0):=λn=>by simp
 rw[e,e];unfold Wl;generalize dC (v.name=m.name)=a1;generalize dC (v.int=0)=a2;generalize dC (I v.bytes=0)=t;generalize dC (I v.hdrs=0)=u;generalize QT (vfs m.fields) v.parts=a5;cases a1<;>cases a2<;>cases t<;>cases u<;>cases a5<;>rfl
def ZqC(d fu){m}(hm0:0<I m.fields)(hm:I m.fields<=1000)(v p st)(hpart:JJ m v.parts=true->∀S b,S b=sO (.map (Kh (ZdL m v.parts)))->∀k,k<I v.parts->(∀j,j<k->(ZcL d fu m v p j).2=0) ->
   Za ZIy 110 [.agg (WT m d p b),.agg ((vfs m.fields).getD k dE).cells,.agg (v.parts.getD k dE).cells] S (ZH (ZcL d fu m v p k) S)):
  Za ZIy 76 [.agg d.cells,.agg m.cells,.agg v.cells,.str p] st (ZH (Z3 d (fu+1) m v p) st):=by
 refine Zb (cR 76 f76) λF hF=>?_;have al:=ZgB m hm0 ω;have ag:=ZqE (vfs m.fields) v.parts;have ah:=λhr=>Zk9 m hm0 hm v.parts hr st;have hvl:(vfs m.fields).length<=I m.fields:=List.length_filter_le ..;rw[Zxd,show JJ m v.parts=QT (vfs m.fields) v.parts from rfl]at *;rw[ZI2];refine rx (nd2 @eQ2 @eQ3) ?_;refine rg ?_;refine clD (al) ?_;refine rx (nd2 @KX @Zg5) ?_;refine cG (ag) ?_;generalize hc:((((dC (v.name=m.name)&&dC (v.int=0))&&dC ((I v.bytes:Int)=0))&&dC ((I v.hdrs:Int)=0))&&QT (vfs m.fields) v.parts)=ac at *;have c9:=Kv ac p 6 (by decide) st;refine cV (c9) ?_ ?_
 .refine mfK λh0=>?_;rw[KM h0]at hF;have hr:QT (vfs m.fields) v.parts=true:=by
   cases ac with
   |false=>simp at h0
   |true=>simp only[ZIJ]at hc;exact hc.2
  have ai:=hpart hr;have ab:(vfs m.fields).length=I v.parts:=by unfold QT at hr;rw[decide_eq_true_eq]at hr;simpa using congrArg List.length hr
  refine gR0 ?_;refine rg ?_;refine cV (ah ab) ?_ ?_;rintro dd S ⟨b,hb,hd,rfl⟩;cases hd;refine gR0 ?_;refine rx @Zfy ?_;have ad:=ZIZ (.map (Kh (ZdL m v.parts))) hb;have af:=ZIE st b (.map (Kh (ZdL m v.parts)));generalize st.upd b (.map (Kh (ZdL m v.parts)))=S at *;refine Ze (fr ((vfs m.fields).length) (λi Q=>i<=(vfs m.fields).length->(∀j,j<i->(ZcL d fu m v p j).2=0)->Q [(6,.loc 6 0),(8,.loc 8 0),(54,.d (Zq (vfs m.fields))),(55,.d (.i (vfs m.fields).length)),(56,.d (.i i))] [(6,[.str v.name,.i v.int,Zk v.bytes,Yg v.hdrs,ZZ v.parts]),(8,WT m d p b)] S) (λn u=>?_) λam=>?_);intro i hn hi t;refine rg ?_;refine Zc (Zl rfl trivial (λg1=>?_) (λg1=>?_));simp at g1;have hp:=ai S b af i ω t;have ae:=Zrk (g:=ZcL d fu m v p) (show i<I v.parts by omega) t;have ak:=λh=>Yc (q:=λj=>(ZcL d fu m v p j).2=0) t h;have aj:=K6 (l:=v.parts) (i:=i) ω;generalize ZcL d fu m v p i=R at *;rw[ZI2]at hp;generalize v.parts.getD i dE=y at *;generalize hf:(vfs m.fields).getD i dE=f at *;refine xA (nd2 @atF (nd2 @hf (nd2 @ZaS @Zeu))) ?_;refine xA (nd2 @WT.eq_1 (nd2 @ZaS (nd2 @Zeu (nd2 @atV @aj)))) ?_;refine cV0 (hp) ?_ ?_;refine mfK λh2=>?_;refine gR0 ?_;refine gA ?_;refine Zf ?_;exact u (((vfs m.fields).length)-(i+1)) ω (i+1) rfl ω (ak h2);exact mfP λh2=>hF.pan st ad (ZH.bad h2 (by rw[ae h2];rfl));simp at g1;obtain rfl:i=(vfs m.fields).length:=ω;rw[ab]at t;rw[ZoK t]at hF;refine ZT rfl ?_;exact hF.fin (.tup []) st rfl trivial (ZIB _) ad (ZH.ok rfl);exact am _ 0 rfl ω (by intro j hj;omega);rintro dd S ⟨b,_,hd,_⟩;cases hd
 exact mfP λh0=>hF.pan st ZIz (ZH.bad h0 (Kp h0))
def QP.pos{d}(h:QP d){j}(hj:j<I d.msgs):0<(d.msgs.getD j dE).fields.length:=by
 have t:=h.flaw j hj;unfold W5 at t;split at t;· simp at t
 split at t;· simp at t
 split at t;· simp at t
 rename_i u;simp only[ZIW,decide_eq_true_eq,not_or,Nat.not_lt]at u;omega
def ZaB.low{d j i m f}(h:ZaB d j i m f)(u:f.kind=5):0<=f.low/\f.low<=255:=by
 have t:=h.ks;unfold Qo at t;simp only[u,ZJg,if_true,if_false]at t;split at t;omega;rename_i hp;simp only[ZIW,decide_eq_true_eq]at hp;omega
def ZA3{d}(t:QP d){n s y q}(u:VOk y)(h:(Z3 d n (Zn d s) y q).2=0):
  Zd ZIy 160 [.agg d.cells,.agg (Zn d s).cells,.agg y.cells] (.i (lenS d n (Zn d s) y)) :=
 Zgz d t.dok n _ y (t.dok.of s) u.ok u.wt (Ziy t.dref n _ y q (t.dref.of s) u.ok h)
def Zk8(hI:Jx){d}(hd:QP d):∀(n im v p st),im<I d.msgs->VOk v->Yy v<=n->I p+10200*n<=900000 ->
  Za ZIy 76 [.agg d.cells,.agg (d.msgs.getD im dE).cells,.agg v.cells,.str p] st (ZH (Z3 d n (d.msgs.getD im dE) v p) st)
 |0,_,v,_,_,_,_,hh,_=>by have:=Za6 v;omega
 |n+1,im,v,p,st,him,hv,hh,hp=>by
  have u:=hd.msg him;have hm40:=u.many;refine ZqC d n (hd.pos him) ω v p st λhr S b hb k hk ai=>?_;have hlen:(vfs (d.msgs.getD im dE).fields).length=I v.parts:=by unfold JJ at hr;rw[decide_eq_true_eq]at hr;simpa using congrArg List.length hr
  obtain⟨i,hi,aw,aq,ah⟩:=Zbj (l:=(d.msgs.getD im dE).fields) (k:=k) ω;have ab:=u.at_ hi;have ao:=ab.fref (hd.fld him hi);have al:v.parts.getD k dE∈v.parts:=ZE hk;have ac:=hv.part al;have aj:=ZmM ab.nm;obtain⟨ak,au⟩:=ZeQ u.nmU hr hk;rw[au,ah]at ak;have hxh:Yy (v.parts.getD k dE)<=n:=by have h1:=ZgZ al;have h2:=Za6 v;omega
  have hG:=ZcL.eq_1 d n (d.msgs.getD im dE) v p k;rw[ak,ah]at hG;have af:=λa ha hn=>ZDG u (n:=n) (v:=v) (p:=p) hi aq ai (a:=a) ha hn;have ag:∀a,a<i->YB ((d.msgs.getD im dE).fields.getD a dE)=true->WO ((d.msgs.getD im dE).fields.getD a dE).name (ZbH (d.msgs.getD im dE) v.parts)=ZbG (d.msgs.getD im dE).fields v.parts a:=λa ha hn =>
   ZhZ ω u.nmU hn λav=>by have:=Zh3 ha hi av;omega
  have ae:∀a,a<i->YB ((d.msgs.getD im dE).fields.getD a dE)=true->Zp ((d.msgs.getD im dE).fields.getD a dE).name (ZdL (d.msgs.getD im dE) v.parts)=sO (ZbG (d.msgs.getD im dE).fields v.parts a):=λa ha hn =>
   ZCj u.nmU v.parts ω hn
  have ar:Zie ((d.msgs.getD im dE).fields.getD i dE) (ZdL (d.msgs.getD im dE) v.parts) (ZbH (d.msgs.getD im dE) v.parts):=by refine⟨λhz=>?_,λh9=>?_,ab.low⟩;obtain⟨h1,h2⟩:=ab.size hi hz;refine⟨h1,λt ht=>?_⟩;obtain⟨a,ha,ad,hn⟩:=h2 t ht;exact⟨_,by rw[<-ad];exact ae a ha hn,(af a ha hn).1,(af a ha hn).2,by rw[<-ad];exact ag a ha hn⟩;obtain⟨a,ha,ad,hn⟩:=ab.tag hi h9;rw[<-ad,ae a ha hn,ag a ha hn];rfl
  have hq:=Zcd p ((d.msgs.getD im dE).fields.getD i dE).name;rw[ah,hG];generalize v.parts.getD k dE=x at *;refine Zsn hI hb ⟨λe=>by rw[e]at aj;simp at aj,ω⟩ ω ao aw ac ar (Z3 d n) (lenS d n) (λT s hs j hj=>?_) (λh12 h0=>?_);have ap:=QS hs;have am:x.parts.getD j dE∈x.parts:=ZE hj;have h1:=Zcd (ZN p ((d.msgs.getD im dE).fields.getD i dE).name) (Ym x.parts j);have h2:=ZgC ac.few ac.name hj;have h3:=ZgZ am;have h4:=Za6 x;exact Zk8 hI hd n (ixS d s) _ _ T ap.2 (ac.part am) ω ω;obtain⟨h1,h2⟩:=ZlS h0;exact⟨h1,ZA3 hd (ac.part (ZE ω)) h2⟩
def Zk6{z st}:JV ZIy 75 [.ptr z 0] nO st λ_ S=>S=st:=by
 refine Zci (cR 75 f75) rfl ψ λF t=>?_;refine rg ?_;refine ZgN t rfl rfl ?_;refine gR0 ?_;refine rg ?_;refine cd (λh=>?_) (λh=>?_);simp at h;refine ZK ?_;exact t.fin ZIz rfl
def Zk7{z st c}(hc:I c=2)(q no)(hn:inR .i64 no)(hq:I q<=big)(hz:st z=sO (.cells c)):
  JV ZIy 75 [.ptr z 0] (sO (mfD q no)) st λb S=>b=true/\S=st.upd z (.cells [.str q,.i no]):=by
 obtain⟨u,c2,rfl⟩:∃u c2,c=[u,c2]:=by
  match c,hc with
  | [u,c2],_=>exact⟨u,c2,rfl⟩
 refine Zci (cR 75 f75) rfl (by rintro d ⟨⟩;exact⟨hq,hn,trivial⟩) λF hF=>?_;refine rg ?_;refine Zn9 hF rfl rfl λF2 t=>?_;refine gR0 ?_;refine rx @mfD.eq_1 ?_;refine cd (λh=>?_) (λh=>?_);refine rx @mfD.eq_1 ?_;refine rg ?_;refine cd (λh5=>?_) (λh5=>?_);simp at h5;refine rx @hz ?_;exact t.fin ZIz ⟨rfl,rfl⟩;simp[mfD]at h
def ZtY(r:Str×Int):D:=.agg [.str (if r.2=0 then [] else r.1),.i r.2]
def ZqB(d:Dfn)(m:Msg)(v:Val)(R st)(hfit:∀S,Za ZIy 76 [.agg d.cells,.agg m.cells,.agg v.cells,.str []] S (ZH R S)):
  Za ZIy 43 [.agg d.cells,.agg m.cells,.agg v.cells] st λr S=>S=st/\r=.ret (ZtY R):=by
 refine Zb (cR 43 f43) λF hF=>?_;rw[ZI2]at hfit⊢;have t:=ZtY.eq_1 R;generalize ZtY R=W at *;refine rx (nd2 @eQ2 @eQ3) ?_;refine Zc ?_;refine xP 6 λz hz=>?_;refine rg ?_;refine Zm8 (by obtain⟨_,_,_,_,_,_,rfl⟩:=hF;rfl) rfl rfl rfl rfl rfl rfl trivial trivial ?_ ?_ ?_;trivial;exact⟨rfl,trivial⟩;have u:=hF.defer 75 [] [.ptr z 0];clear hF;refine gR0 ?_;generalize F.defer 75 [] [.ptr z 0]=F at u⊢;refine rg ?_;refine cV (hfit _) ?_ ?_;refine mfK λh0=>?_;rw[if_pos h0,h0]at t;refine gR0 ?_;refine rx (nd2 @ZIE @ZIR) ?_;refine u.retU ⟨trivial,⟨rfl,trivial⟩,ZbA Zk6 ?_⟩;rintro b S3 rfl;rw[ite_self];have g3:=ZIE st z (.cells [.str [],.i 0]);refine⟨_,[.agg [.str [],.i 0]],_,st,by simp only[Eqs,reduceCtorEq,ZIF,reduceIte,ZIC,ZIH,ZID,YD,Kt,g3];rfl,φ,ZIB _,ZIZ _ hz,rfl,by rw[t];rfl⟩;refine mfP λh0=>?_;rw[if_neg h0]at t;refine Zq6 λhw=>?_;have ab:=DWf.agg_inv (DWf.iface_inv hw);have h1:inR .i64 R.2:=(ab _ ψ).int_inv;have h2:=(ab (.str R.1) ψ).str_inv;refine u.panU ⟨trivial,⟨rfl,trivial⟩,ZbA (Zk7 rfl R.1 R.2 h1 h2 (ZIE _ _ _)) ?_⟩;rintro b S2 ⟨rfl,rfl⟩;have g3:=ZIE (st.upd z (.cells [.str [],.i 0])) z (.cells [.str R.1,.i R.2]);refine⟨_,[.agg [.str R.1,.i R.2]],_,st,by simp only[Eqs,reduceCtorEq,ZIF,reduceIte,ZIC,ZIH,ZID,YD,Kt,g3];rfl,φ,ZIB _,?_,rfl,by rw[t];rfl⟩;rw[ZIR];exact ZIZ _ hz
def WM(d:Dfn)(s:Str)(v:Val):(Str×Int)×Int:=if Wk d&&JM v then (if Zz d s (I d.msgs)<0 then (([],0),9) else ((if (Z3 d 51 (Zn d s) v []).2=0 then [] else (Z3 d 51 (Zn d s) v []).1,(Z3 d 51 (Zn d s) v []).2),(Z3 d 51 (Zn d s) v []).2)) else (([],0),2)
def Zee{v}(h:JM v=true)(u:Ww v=true->wtN v<=5100/\Yy v<=51):VOk v/\Yy v<=51:=by
 have t:Ww v=true:=by unfold JM at h;simp only[ZIJ]at h;simp_all
 exact⟨⟨t,(u t).1⟩,(u t).2⟩
def Zsl(hI:Jx)(d s v)(hs:Ww v=true->wtN v<=5100/\Yy v<=51):
  Zd ZIy 23 [.agg d.cells,.str s,.agg v.cells] (.tup [.agg [.str (WM d s v).1.1,.i (WM d s v).1.2],.i (WM d s v).2]):=by
 refine Zg (cR 23 f23) λF st t=>?_;have hA:=Zvg d s v;have hS:=WM.eq_1 d s v;have hT:=atR.eq_1 d s v;generalize WM d s v=W at *;generalize atR d s v=X at *;cases ha:Wk d&&JM v with
 |false =>rw[ha,if_neg ψ]at hS hT;subst hS;subst hT;rw[ZI2]at *;refine rx @eQ2 ?_;refine rg ?_;refine cl (hA) ?_;refine rg ?_;refine i1 ?_;refine rg ?_;refine rt t ?_;rfl
 |true =>
  rw[ha,if_pos rfl]at hS hT;by_cases hf:Zz d s (I d.msgs)<0;rw[if_pos hf]at hS hT;subst hS;subst hT;rw[ZI2]at *;refine rx @eQ2 ?_;refine rg ?_;refine cl (hA) ?_;refine rg ?_;refine i1 ?_;refine rg ?_;refine rt t ?_;rfl;rw[if_neg hf]at hS hT;subst hT;simp only[ZIJ]at ha;have u:=QS (d:=d) (s:=s) ω;obtain⟨hv,hh⟩:=Zee ha.2 hs;have hF:Zd ZIy 43 [.agg d.cells,.agg (Zn d s).cells,.agg v.cells] (ZtY (Z3 d 51 (Zn d s) v [])):=λst =>
   (ZqB d (Zn d s) v (Z3 d 51 (Zn d s) v []) st λS=>Zk8 hI (Q5 ha.1) 51 (ixS d s) v [] S u.2 hv hh ψ).mono λr S ⟨h1,h2⟩=>⟨h2,h1⟩
  generalize Z3 d 51 (Zn d s) v []=R at *;unfold ZtY at hF;generalize (if R.2=0 then [] else R.1)=q at *;subst hS;generalize Zn d s=m at *;rw[ZI2]at *;refine rx @eQ2 ?_;refine rg ?_;refine cX @eQ3 (hA) ?_;refine rg ?_;refine iG ?_;refine cl (hF) ?_;refine rg ?_;refine rt t ?_;rfl
def ZhE{d s v}(h:(WM d s v).2=0):QP d/\JM v=true/\0<=Zz d s (I d.msgs)/\(Z3 d 51 (Zn d s) v []).2=0:=by
 unfold WM at h;split at h;rename_i t;rw[ZIJ]at t;split at h;simp at h;exact⟨Q5 t.1,t.2,ω,h⟩;simp at h
def ZDA(d:Dfn)(s:Str)(v:Val):Int:=if (WM d s v).2=0 then lenS d 51 (Zn d s) v else 0
def ZcY{a b}(h:Kq a b=0):a=b:=by
 unfold Kq at h;split at h;simp at h;rename_i t;split at h;simp at h;rename_i u;simp at t u;omega
section
variable {mis:Msg->Val->Str->Str × Int} {len:Msg->Val->Int} {d:Dfn} {f:Fld} {x:Val} {q:Str} {l:List (Str × Int)}
end
mutual
def ZDK:Val->Val
 |.mk n _ b h p=>.mk n 0 b h (plainL p)
def plainL:List Val->List Val
 | []=>[]
 |v::r=>ZDK v::plainL r
end
section
variable {d:Dfn} {m:Msg} {rec:Msg->Val->Val} (hrec:∀ s y,ZDK (rec (Zn d s) y)=ZDK y)
include hrec
end
def ZEA(m:Msg):Prop:=∀f∈vfs m.fields,YB f=true->0<=f.low/\f.high<34359738368
section
variable {d:Dfn} {m:Msg} {rec:Msg->Val->Val} (hrec:∀ s y,Ww y=true->Ww (rec (Zn d s) y)=true) (hm:ZEA m)
include hrec
end
section
variable {T A S:St} {v:Val} {l:List Fld} {P:List Val} {c:List D} {fp:List Nat} {x cap:Nat} {row row':Nat->List D} {f:Nat->List Nat} {X:List D} {z5 z6 z7:Nat}
end
def ZEg{f args t T Ln d}(hL:∀b∈Ln,∃ds,T b=sO (.cells ds))(hl:LdC T Ln args t)(hc:Zd ZIy f t d)(hd:SC (λb=>((λ_=>nO:St) b).isSome=true) d):Za ZIy f args T λr S=>r=.ret d/\S=T:=by
 have h:=Za.lend hL hl (hc λ_=>nO) (λr S u=>by
  obtain⟨rfl,rfl⟩:=u;exact⟨hd,λb o h=>by simp at h⟩)
 refine h.mono λr S hS=>?_;obtain⟨S',⟨u,rfl⟩,_,rfl⟩:=hS;exact⟨u,Zhb T⟩
section
variable {T A S:St} {v:Val} {l:List Fld} {P:List Val} {c:List D} {fp:List Nat} {x cap:Nat} {row row':Nat->List D} {f:Nat->List Nat} {X:List D} {z5 z6 z7:Nat}
end
mutual
def Zev:Val->Val->Int
 |.mk n i b h p,.mk n2 i2 b2 h2 p2=>if YT n n2≠0 then YT n n2 else if Qy i i2≠0 then Qy i i2 else if YT b b2≠0 then YT b b2 else if JC h h2≠0 then JC h h2 else vcmpL p p2
def vcmpL:List Val->List Val->Int
 |x::a,y::b=>if Zev x y≠0 then Zev x y else vcmpL a b
 | [],[]=>0
 | [],_::_=>-1
 |_::_,[]=>1
end
def Zws(v w):Zev v w=if YT v.name w.name≠0 then YT v.name w.name else if Qy v.int w.int≠0 then Qy v.int w.int else if YT v.bytes w.bytes≠0 then YT v.bytes w.bytes else
  if JC v.hdrs w.hdrs≠0 then JC v.hdrs w.hdrs else vcmpL v.parts w.parts:=by
 cases v;cases w;rfl
def ZxT{a}(ih:∀x∈a,∀w,Zev x w=0↔x=w):∀b,vcmpL a b=0↔a=b:=by
 induction a with
 |nil=>intro b;cases b<;>simp[vcmpL]
 |cons x a ih2 =>
  intro b;cases b with
  |nil=>simp[vcmpL]
  |cons y b =>have u:=ih x ψ y;have h2:=ih2 (λz hz=>ih z (by simp[hz])) b;unfold vcmpL;split;rename_i h;constructor;intro t;exact absurd t h;intro t;simp only[List.cons.injEq]at t;exact absurd (u.2 t.1) h;rename_i h;simp only[Decidable.not_not]at h;rw[h2,List.cons.injEq];exact⟨λe=>⟨u.1 h,e⟩,λe=>e.2⟩
def ZzM(v):∀w,Zev v w=0↔v=w:=by
 induction v using Val.ind with
 |h v ih =>
  intro w;have h5:=ZxT ih w.parts;have u:=@Zed v.name w.name;have h2:=@Zd0 v.int w.int;have h3:=@Zed v.bytes w.bytes;have h4:=@Zrt v.hdrs w.hdrs;have he:v=w↔(v.name=w.name/\v.int=w.int/\v.bytes=w.bytes/\v.hdrs=w.hdrs/\v.parts=w.parts):=by cases v;cases w;simp[Val.name,Val.int,Val.bytes,Val.hdrs,Val.parts]
  rw[Zws,he];split;rename_i h;exact⟨λt=>absurd t h,λt=>absurd (u.2 t.1) h⟩;split;rename_i _ h;exact⟨λt=>absurd t h,λt=>absurd (h2.2 t.2.1) h⟩;split;rename_i _ _ h;exact⟨λt=>absurd t h,λt=>absurd (h3.2 t.2.2.1) h⟩;split;rename_i _ _ _ h;exact⟨λt=>absurd t h,λt=>absurd (h4.2 t.2.2.2.1) h⟩;rename_i k1 k2 k3 k4;simp only[Decidable.not_not]at k1 k2 k3 k4;rw[h5];exact⟨λt=>⟨u.1 k1,h2.1 k2,h3.1 k3,h4.1 k4,t⟩,λt=>t.2.2.2.2⟩
def ZxS{a b:List Val}{i}(t:i<I a)(u:i<I b):vcmpL (a.drop i) (b.drop i)=if Zev (a.getD i dE) (b.getD i dE)≠0 then Zev (a.getD i dE) (b.getD i dE) else vcmpL (a.drop (i+1)) (b.drop (i+1)):=by
 rw[List.drop_eq_getElem_cons t,List.drop_eq_getElem_cons u];simp[vcmpL,ZIN,t,u]
def ZzL{a b:List Val}{i}(ha:i<=I a)(hb:i<=I b)(h:¬(i<I a/\i<I b)):vcmpL (a.drop i) (b.drop i)=Qy (I a) (I b):=by
 have h1:(a.drop i).length=I a-i:=ZI8 ..;have h2:(b.drop i).length=I b-i:=ZI8 ..;have u:∀x y:List Val,(x=[]\/y=[])->vcmpL x y=Qy (I x) (I y):=λx y t=>by
  cases x with
  |nil=>cases y with
   |nil=>rfl
   |cons e y=>unfold Qy;rw[if_pos (by simp<;>omega)];rfl
  |cons c x=>cases y with
   |nil=>unfold Qy;rw[if_neg (by simp<;>omega),if_pos (by simp<;>omega)];rfl
   |cons e y=>simp at t
 rw[u _ _ (by
  by_cases hi:i<I a;exact .inr (ZJk ω);exact .inl (ZJk ω)),h1,h2]
 unfold Qy;split<;>split<;>(try split)<;>(try split)<;>omega
def ZtX{g w t Ln}(hs:Yf g t w)(hL:∀b∈Ln,∃ds,t b=sO (.cells ds)):Yf (KF g t Ln) (t.delL Ln) w:=by
 have hx:=Js hs hL;have ab:∀c,c∉Ln->(KF g t Ln).prot c=g.prot c:=λc hc=>by simp only[KF,if_neg hc]
 refine⟨λc x u=>?_,λc x u=>?_,λc hc=>?_,λn cs hc=>(hs.tabs n cs hc).mono hx⟩;simp only[St.delL]at u;by_cases hc:c∈Ln;simp[hc]at u;simp only[hc,if_false]at u;exact(hs.obj c x u).mono hx rfl (ab c hc);simp only[St.delL]at u;by_cases hc:c∈Ln;simp[hc]at u;simp only[hc,if_false]at u;exact hs.kept c x u;have h1:=hs.fresh c hc;refine⟨(ab c λh=>?_).trans h1.1,h1.2⟩;obtain⟨ds,hd⟩:=hL c h;have:=(hs.obj c _ hd).lt;omega
def Za.freeze{f args T Φ Ψ}(h:Za ZIy f args T Φ)(hΦ:∀r S,Φ r S->∃Ln d t,r=.ret d/\(∀b∈Ln,∃ds,S b=sO (.cells ds))/\Ya S Ln d t/\Ψ (.ret t) (S.delL Ln)):Za ZIy f args T Ψ :=
 ⟨h.1,λg w vs hs ha=>(h.2 g w vs hs ha).mono λe w' ⟨g',S',r,he,hS,hr,hq⟩=>by
  obtain⟨Ln,d,t,rfl,u,hl,hΨ⟩:=hΦ _ _ hq;have hx:=Js hS u;refine⟨KF g' S' Ln,S'.delL Ln,.ret t,he.trans hx,ZtX hS u,?_,hΨ⟩;cases e<;>simp only[Zod]at hr⊢;exact hl _ w' _ (ZeZ hS u) (Rep.mono hr hx)⟩
end Go.DL
