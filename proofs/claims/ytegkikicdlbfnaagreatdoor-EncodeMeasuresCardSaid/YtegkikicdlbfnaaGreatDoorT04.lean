/- Lemmas: A05, U03, U04, U05, W04, W05, W06, W07, W08, Z10, Z11, Z12, Z13, W09, W10, W11, W12, X03, W13, SLay3, W14, W15, W16, W17, W18, W19, W20, W21, W22, W23, W24, W25, W26, W27, W28, W29, W30, W31, W33, W34, W35, W36, W37, X04, X05, X06, W38, W39, W40, W41, W42, W43, W44, W45, W46, W47, W48, W49, X07, X08. -/
import Derived.Test.YtegkikicdlbfnaaGreatDoorT03
set_option maxHeartbeats 16000000
set_option maxRecDepth 100000
set_option linter.all false
open List renaming length->I
open Option renaming some -> sO, none -> nO
open Inhabited renaming default -> dE
open Decidable renaming decide -> dC
open Go.Proofs.Tryz
open And renaming intro -> ZH4
open Bool renaming and_eq_true -> ZIb, false_and -> ZIE, or_eq_true -> ZIp, true_and -> ZIt
open Go.DL.D.Le renaming refl -> ZH3
open Go.DL.St renaming single -> ZIu, sub_refl -> ZH2, sub_trans -> ZIK, sub_upd -> ZIr, upd -> ZID, upd_ne -> ZH8, upd_same -> ZH5, upd_upd -> ZIk
open Go.DL.Val renaming cells_eq -> ZIq
open Go.Proofs.Tryz renaming prog -> ZH1
open Int renaming reduceEq -> ZIJ, reduceToNat -> ZH9
open List renaming append_assoc -> ZIv, append_nil -> ZIy, getD -> ZIg, getElem?_append_left -> ZIB, getElem?_append_right -> ZIL, getElem?_eq_getElem -> ZIw, getElem?_eq_none -> ZIM, getElem_of_mem -> ZIl, length_append -> ZIc, length_cons -> ZIi, length_drop -> ZIG, length_map -> ZIo, length_take -> ZIm, mem_cons -> ZIF, range -> ZIf, take_length -> ZIC
open Nat renaming le_refl -> ZIh, reduceAdd -> ZIa, reduceEqDiff -> ZH6, reduceLeDiff -> ZH7
open Option renaming getD_some -> ZIH
open Option.some renaming injEq -> ZH0
namespace Go.DL
open Go Go.Proofs
variable {kp:Option (List Nat)}{L:Loc}{H:Env}{s:St}{w:World}{os:List DOp}{ds:List D}{B:List (Nat × Rd)}{dst:Option Nat}{tmps:Array Value}{g:G}{Φ:Res->St->Prop}{Z:Nat->Nat}{xs:List Opd}{side:Prop}{row:Nat->List D}
def ZyW{x z o}(t:s x=nO)(h:(s.or (ZIu x o)) z=nO):z≠x/\s z=nO:=by
 refine⟨λe=>by subst e;rw[ZG t,Yi]at h;simp at h,?_⟩;cases i:s z with
 |none=>rfl
 |some o=>rw[Zs i]at h;simp at h
def Mk(A:St):List Nat->St->Prop
 | [],S=>S=A
 |q::qs,S=>∃S',Mk A qs S'/\S' q=nO/\S=S'.upd q .dfr
def Mk.get{A z o}(h:A z=sO o):∀{qs S},Mk A qs S->S z=sO o
 | [],S,hm=>by rw[show S=A from hm];exact h
 |q::qs,S,hm=>by obtain⟨S',i,t,rfl⟩:=hm;have:=Mk.get h i;rw[ZH8 _ _ (λe=>by rw[e,t]at this;simp at this)];exact this
def upd_comm{a b x y}(h:a≠b):(s.upd a x).upd b y=(s.upd b y).upd a x:=by
 funext c;by_cases t:c=b;subst t;rw[ZH5,ZH8 _ _ (Ne.symm h),ZH5];rw[ZH8 _ _ t];by_cases i:c=a;subst i;rw[ZH5,ZH5];rw[ZH8 _ _ i,ZH8 _ _ i,ZH8 _ _ t]
def Mk.upd{A z o o'}(h:A z=sO o):∀{qs S},Mk A qs S->Mk (A.upd z o') qs (S.upd z o')
 | [],S,hm=>by rw[show S=A from hm];rfl
 |q::qs,S,hm=>by
  obtain⟨S',t,u,rfl⟩:=hm;have:=Mk.get h t;have i:q≠z:=λe=>by rw[<-e,u]at this;simp at this
  exact⟨S'.upd z o',t.upd h,by rw[ZH8 _ _ i];exact u,upd_comm i⟩
def Mk.unw{P A Ψ}(h:Ψ nO A):∀{qs S},Mk A qs S->Unw P (qs.map .mark) nO S Ψ
 | [],S,hm=>by rw[show S=A from hm];exact h
 |q::qs,S,hm=>by
  obtain⟨S',t,u,rfl⟩:=hm;refine⟨ZH5 _ _ _,?_⟩;have e:(S'.upd q .dfr).del q=S':=by funext c;by_cases i:c=q;subst i;simp[St.del,u];simp[St.del,ZID,i]
  rw[e];exact Mk.unw h t
def Zi0{s t:St}{q o}(h:s.sub t):(s.upd q o).sub (t.upd q o):=λb x i=>by
 by_cases u:b=q;subst u;rw[ZH5]at i⊢;exact i;rw[ZH8 _ _ u]at i⊢;exact h b x i
def Zzr{s t:St}{q}(h:s.sub t)(i:t q=nO):s q=nO:=by
 cases u:s q with
 |none=>rfl
 |some o=>rw[h q o u]at i;simp at i
def Zm6{a t z o o'}(h:Z8 a t)(u:a z=sO o):Z8 (a.upd z o') t:=λb x i=>by
 rw[ZH8 _ _ (λe=>by subst e;rw[h b x i]at u;simp at u)];exact h b x i
def St.upd_self{b o}(h:s b=sO o):s.upd b o=s:=by
 funext c;by_cases i:c=b;subst i;rw[ZH5,h];rw[ZH8 _ _ i]
def Zx1{d j i m f}(h:Qo d j m i f=0):Zhh f:=by
 unfold Qo at h;split at h;· omega
 split at h;· omega
 split at h;· omega
 split at h;· omega
 unfold QU at h;refine⟨λhk=>?_,λhk=>?_⟩;have u:JH f=0:=by rcases hk with hk|hk<;>simp only[hk,ZIJ,if_true,if_false]at h<;>exact h
 unfold JH at u;split at u;· omega
 rename_i t;simp only[Zc9,ZIp,ZIb,Bool.not_eq_true',decide_eq_true_eq,decide_eq_false_iff_not,not_or]at t;omega;simp only[hk,ZIJ,if_true,if_false]at h;split at h;· omega
 rename_i t;simp only[ZoN,ZIb,ZIp,Bool.not_eq_true',decide_eq_true_eq,decide_eq_false_iff_not,not_and,not_or]at t;omega
def ZdD.bits{d j m}(h:ZdD d j m):∀f∈m.fields,Zhh f:=by
 intro f u;obtain⟨i,t,rfl⟩:=ZIl u;have:=Zx1 (h.field i t);simpa[ZIg,t]using this
def ZcJ(m:Msg):Bool:=(ZIf (I m.fields+1)).all λi=>!Qu m.fields i
def Wo(d:Dfn):Bool:=ZfT d&&d.msgs.all ZcJ
def Zw1{m}(h:∀i,i<I m.fields+1->Qu m.fields i=false):ZcJ m=true:=by
 unfold ZcJ;rw[List.all_eq_true];intro i t;rw[h i (List.mem_range.1 t)];rfl
def ZuP{m i}(t:i<I m.fields+1)(h:Qu m.fields i=true):ZcJ m=false:=by
 unfold ZcJ;rw[List.all_eq_false];exact⟨i,List.mem_range.2 t,by rw[h];simp⟩
def atM{L s}(l i):qv L s (.iaddr 2) [.d (YY l),.d (.i i)]=sO (0<=i/\i<I l,.d (.ep (l.getD i.toNat dE).cells 0)):=rfl
def ZwZ{L s}(l):qv L s .lenL [.d (YY l)]=sO (True,.d (.i (I l))):=rfl
def ZpO(d st):Za ZH1 80 [.agg d.cells] st λr S=>S=st/\∃a f c,r=.ret (.tup [.agg [.i a,.i f,.i c],.bool (!Wo d)]):=by
 refine Zb (cR 80 f80) λF hF=>?_;have ac:=Wo.eq_1 d;refine rx @eQ2 ?_;refine rx @eQ2 ?_;rw[show(D.agg [.str d.name,YY d.msgs,.str d.start])=.agg d.cells from rfl];refine cV (Zo7 d st) ?_ ?_
 .rintro dd S ⟨rfl,fa,ff,fc,h⟩;cases h;refine gR0 ?_;rw[Zt5];refine rg ?_;refine cd (λhc=>?_) (λhc=>?_);have hv:ZfT d=false:=by simpa using hc
  rw[hv,ZIE]at ac;refine rg ?_;refine hF.ret _ S rfl ψ (ZH3 _) ZH2 ⟨rfl,fa,ff,fc,?_⟩;rw[ac];simp[hv];rfl;have hv:ZfT d=true:=by simpa using hc
  rw[hv,ZIt]at ac;have hV:=ZrF hv;have hmany:=hV.many;refine rx (nd2 @ZwZ @eQ2) ?_;refine Zd ?_;refine xP 2 λz2 h2=>?_;refine xP 3 λz3 h3=>?_;have k3:=Zm h3;have be:=h2;have bf:=k3.2;simp only[hv,Bool.not_true]at h3⊢;obtain⟨A,hA⟩:∃A,A=(S.upd z2 (.cells [.i fa,.i ff,.i fc])).upd z3 (.cells [.bool false]):=⟨_,rfl⟩;have g2:A z2=sO (.cells [.i fa,.i ff,.i fc]):=by rw[hA,ZH8 _ _ k3.1.symm];exact ZH5 _ _ _
  have g3:A z3=sO (.cells [.bool false]):=by rw[hA];exact ZH5 _ _ _
  have ah:S.sub A:=by rw[hA];exact ZIK (ZIr _ h2) (ZIr _ h3)
  rw[<-hA];clear hA;obtain⟨A0,e0⟩:∃A0,A0=A:=⟨_,rfl⟩;rw[<-e0]at g2 g3 ah⊢;clear e0;refine lpU (λQ=>∀(n k:Nat),(I d.msgs)-k=n->∀(F:Fr ZH1) (qs:List Nat) (A:St),YL F [.cellN 2 3,.cell1 3] (λr S'=>S'=S/\∃a f c,r=.ret (.tup [.agg [.i a,.i f,.i c],.bool (!Wo d)])) (qs.map .mark)->Mk A0 qs A->k<=I d.msgs->(∀q,q<k->ZcJ (d.msgs.getD q dE)=true)->Q F [(2,.d (.ptr z2 0)),(3,.d (.ptr z3 0)),(17,.d (YY d.msgs)),(18,.d (.i (I d.msgs))),(19,.d (.i k))] [] A) ?_ λbg=>?_
  .intro n;induction n using Nat.strongRecOn with
   |ind n ih_key =>
   intro k hn F qs A hF af hk ak;have au:=g2;have av:=g3;have g2:=Mk.get g2 af;have g3:=Mk.get g3 af;refine rg ?_;refine Zc (Zl rfl trivial (λh1=>?_) (λh1=>?_))
   .simp at h1;have hM:=hV.msg h1;have ad:=hM.bits;have hmf:=hM.many;have am:=λh=>Yc (q:=λj=>ZcJ (d.msgs.getD j dE)=true) ak h;have aw:ZcJ (d.msgs.getD k dE)=false->d.msgs.all ZcJ=false:=λh=>by rw[List.all_eq_false];exact⟨_,Zu h1,by rw[h];simp⟩
    generalize hm:d.msgs.getD k dE=m at *;refine xA (nd2 @atM (nd2 @hm @eQ3)) ?_;refine rg ?_;refine cV (Ze4 m.fields A) ?_ ?_
    .rintro dd S2 ⟨x,hx,hd,rfl⟩;cases hd;refine gR0 ?_;refine Zd ?_;refine xP 4 λz4 h4=>?_;refine xP 5 λz5 h5=>?_;have k5:=Zm h5;have o4:=ZyW hx h4;have o5:=ZyW hx k5.2;rw[WU,WU];obtain⟨B,hB⟩:∃B,B=(A.upd z4 (.cells [.i k])).upd z5 (.cells [.str m.name,Zq m.fields]):=⟨_,rfl⟩;have b5:B z5=sO (.cells [.str m.name,Zq m.fields]):=by rw[hB];exact ZH5 _ _ _
     have b4:B z4=sO (.cells [.i k]):=by rw[hB,ZH8 _ _ k5.1.symm];exact ZH5 _ _ _
     have bh:z2≠z4:=λe=>by rw[e,o4.2]at g2;simp at g2
     have a4:z2≠z5:=λe=>by rw[e,o5.2]at g2;simp at g2
     have a5:z3≠z4:=λe=>by rw[e,o4.2]at g3;simp at g3
     have a6:z3≠z5:=λe=>by rw[e,o5.2]at g3;simp at g3
     have ap:z2≠z3:=λe=>by rw[e,g3]at g2;simp at g2
     have b2:B z2=sO (.cells [.i fa,.i ff,.i fc]):=by rw[hB,ZH8 _ _ a4,ZH8 _ _ bh];exact g2
     have b3:B z3=sO (.cells [.bool false]):=by rw[hB,ZH8 _ _ a6,ZH8 _ _ a5];exact g3
     have bx:B x=nO:=by rw[hB,ZH8 _ _ o5.1.symm,ZH8 _ _ o4.1.symm];exact hx
     have ai:A.sub B:=by rw[hB];exact ZIK (ZIr _ o4.2) (ZIr _ (by rw[ZH8 _ _ k5.1];exact o5.2))
     rw[<-hB];clear hB;refine Kt hF rfl trivial [2,3,4,5,17,18,19] (by show([2,3,4,5,17,18,19]:List Nat).Nodup;decide) (Wl bx) (ZdU m.fields ω ad x).Y (λj hj=>rfl)
      (λj=>if Qu m.fields j then .stop (.exit 0) else .next) (λj a=>((∀i,i<j->Qu m.fields i=false)/\a=B)\/((∃i,i<j/\Qu m.fields i=true)/\∃a1 a2 a3,a=(B.upd z3 (.cells [.bool true])).upd z2 (.cells [.i a1,.i a2,.i a3])))
      (.inl ⟨λi hi=>by omega,rfl⟩) ?_ ?_ ?_ ?_ ?_ ?_
     .intro j a hj ae hB F' ready aj hdr ax u;have ab:∀i,i<j->Qu m.fields i=false:=λi hi=>by have:=ae i hi;split at this;simp at this;rename_i h;simpa using h
      rcases hB with ⟨_,rfl⟩|⟨⟨i,hi,ag⟩,_⟩
      .skip
       simp only[Eqs,reduceCtorEq,ZH9,reduceIte,ZH6,ZIa,ZH7,WB,W1,Q5,Ke,List.isEmpty_nil,List.isEmpty_cons,Zw6];refine gG ?_;refine ax λa0=>?_;refine rh ?_;refine Zp ?_;simp only[Eqs,reduceCtorEq,ZH9,reduceIte,ZH6,ZIa,ZH7,Zs b5];cases hw:Qu m.fields j with
       |false =>rw[if_neg (by rw[hw];simp)]at u;refine Jo rfl rfl rfl rfl rfl φ φ (by exact Zhn m.fields ω ad j ω) (Zp ?_);simp only[Eqs,reduceCtorEq,ZH9,reduceIte,ZH6,ZIa,ZH7,hw,Zs b3,WU,St.upd_self b3];refine rh ?_;refine Zp ?_;simp only[Eqs,reduceCtorEq,ZH9,reduceIte,ZH6,ZIa,ZH7,Zs b3];refine i0 ?_;refine ZE (Zk ?_);exact u.fin ⟨rfl,.inl ⟨Yc (q:=λi=>Qu m.fields i=false) ab hw,rfl⟩⟩ a0 ZH2
       |true =>
        rw[if_pos hw]at u;refine Jo rfl rfl rfl rfl rfl φ φ (by exact Zhn m.fields ω ad j ω) (Zp ?_);simp only[Eqs,reduceCtorEq,ZH9,reduceIte,ZH6,ZIa,ZH7,hw,Zs b3,WU];obtain⟨C,hC⟩:∃C,C=a.upd z3 (.cells [.bool true]):=⟨_,rfl⟩;have c3:C z3=sO (.cells [.bool true]):=by rw[hC];exact ZH5 _ _ _
        have c2:C z2=sO (.cells [.i fa,.i ff,.i fc]):=by rw[hC,ZH8 _ _ ap];exact b2
        have c4:C z4=sO (.cells [.i k]):=by rw[hC,ZH8 _ _ a5.symm];exact b4
        have c5:C z5=sO (.cells [.str m.name,Zq m.fields]):=by rw[hC,ZH8 _ _ a6.symm];exact b5
        have ay:Z8 C aj:=by rw[hC];exact Zm6 a0 b3
        rw[<-hC];refine rh ?_;refine Zp ?_;simp only[Eqs,reduceCtorEq,ZH9,reduceIte,ZH6,ZIa,ZH7,Zs c3];refine i1 ?_;refine rh ?_;refine Zp ?_;simp only[Eqs,reduceCtorEq,ZH9,reduceIte,ZH6,ZIa,ZH7,Zs c4,Zs c2,WU];have a8:(C.upd z2 (.cells [.i k,.i j,.i 12])) z5=sO (.cells [.str m.name,Zq m.fields]):=by rw[ZH8 _ _ a4.symm];exact c5
        have a7:=ZH5 C z2 (.cells [.i k,.i j,.i 12]);have az:Z8 (C.upd z2 (.cells [.i k,.i j,.i 12])) aj:=Zm6 ay c2;refine rh ?_;refine Zp ?_;simp only[Eqs,reduceCtorEq,ZH9,reduceIte,ZH6,ZIa,ZH7,Zs a8,Zdk];refine cd (λhe=>?_) (λhe=>?_);refine rh ?_;refine Zp ?_;simp only[Eqs,reduceCtorEq,ZH9,reduceIte,ZH6,ZIa,ZH7,Zs a7,WU,ZIk];exact u.exit rfl ⟨rfl,.inr ⟨⟨j,ω,hw⟩,k,-1,12,by rw[hC]⟩⟩ (Zm6 ay c2) ZH2;refine ZE ?_;exact u.exit rfl ⟨rfl,.inr ⟨⟨j,ω,hw⟩,k,j,12,by rw[hC]⟩⟩ az ZH2
      rw[ab i hi]at ag;simp at ag
     intro q a ae hB hq;have ab:∀i,i<I m.fields+1->Qu m.fields i=false:=λi hi=>by have:=ae i hi;split at this;simp at this;rename_i h;simpa using h
     rcases hB with ⟨_,rfl⟩|⟨⟨i,hi,ag⟩,_⟩;refine WW (Zi0 ai) ?_;refine gA ?_;refine Ze ?_;exact ih_key ((I d.msgs)-(k+1)) ω (k+1) rfl _ (q::qs) _ (hF.mark q) ⟨A,af,Zzr ai hq,rfl⟩ ω (am (Zw1 ab));rw[ab i hi]at ag;simp at ag;intro q a i hi ae t;split at t<;>simp at t;intro q a i id hi ae t hB hq;have bc:id=0:=by split at t;simp at t;exact t.symm;simp at t
     subst bc;have ao:Qu m.fields i=true:=by split at t;assumption;simp at t
     rcases hB with ⟨h,_⟩|⟨_,a1,a2,a3,rfl⟩;rw[h i ω]at ao;simp at ao;have a9:=aw (ZuP hi ao);rw[a9]at ac;have q2:q≠z2:=λe=>by rw[e,ZH5]at hq;simp at hq
     have q3:q≠z3:=λe=>by rw[ZH8 _ _ q2,e,ZH5]at hq;simp at hq
     have bb:B q=nO:=by rw[ZH8 _ _ q2,ZH8 _ _ q3]at hq;exact hq
     refine WW (Zi0 (Zi0 (Zi0 ai))) ?_;obtain⟨X,hX⟩:∃X,X=((A.upd z3 (.cells [.bool true])).upd z2 (.cells [.i a1,.i a2,.i a3])).upd q .dfr:=⟨_,rfl⟩;have al:Mk ((A0.upd z3 (.cells [.bool true])).upd z2 (.cells [.i a1,.i a2,.i a3])) (q::qs) X:=⟨_,Mk.upd (o:=.cells [.i fa,.i ff,.i fc]) (by rw[ZH8 _ _ ap];exact au) (Mk.upd av af),by rw[ZH8 _ _ q2,ZH8 _ _ q3];exact Zzr ai bb,hX⟩;have aq:=ZH5 (A0.upd z3 (.cells [.bool true])) z2 (.cells [.i a1,.i a2,.i a3]);have ar:((A0.upd z3 (.cells [.bool true])).upd z2 (.cells [.i a1,.i a2,.i a3])) z3=sO (.cells [.bool true]):=by rw[ZH8 _ _ ap.symm];exact ZH5 _ _ _
     have x2:=Mk.get aq al;have x3:=Mk.get ar al;rw[<-hX];refine ZO rfl ?_;refine rh ?_;refine Yt ?_;simp only[Eqs,reduceCtorEq,ZH9,reduceIte,ZH6,ZIa,ZH7,x2,x3,St.upd_self x2,St.upd_self x3];refine(hF.mark q).retU (al.unw ⟨_,_,.tup [.agg [.i a1,.i a2,.i a3],.bool true],S,by simp only[Eqs,reduceCtorEq,ZH9,reduceIte,ZH6,ZIa,ZH7,Yw,Kf,aq,ar];rfl,ψ,ZH3 _,?_,rfl,a1,a2,a3,by rw[ac];rfl⟩);intro c o hc;have e2:c≠z2:=λe=>by rw[e,be]at hc;simp at hc
     have e3:c≠z3:=λe=>by rw[e,bf]at hc;simp at hc
     rw[ZH8 _ _ e2,ZH8 _ _ e3];exact ah c o hc;intro q a i d hi ae t;split at t<;>simp at t;intro i c t;split at t<;>simp at t;exact .inr ⟨0,t.symm⟩
    rintro dd S2 ⟨x,hx,hd,_⟩;cases hd
   simp at h1;obtain rfl:k=I d.msgs:=ω;have ba:d.msgs.all ZcJ=true:=by rw[List.all_eq_true];intro x hx;obtain⟨q,hq,rfl⟩:=ZIl hx;have:=ak q hq;simpa[ZIg,hq]using this
   rw[ba]at ac;refine ZO rfl (Zc ?_);refine rh ?_;refine Yt ?_;simp only[Eqs,reduceCtorEq,ZH9,reduceIte,ZH6,ZIa,ZH7,g2,g3,St.upd_self g2,St.upd_self g3];exact hF.retU (af.unw ⟨_,_,.tup [.agg [.i fa,.i ff,.i fc],.bool false],S,by simp only[Eqs,reduceCtorEq,ZH9,reduceIte,ZH6,ZIa,ZH7,Yw,Kf,au,av];rfl,ψ,ZH3 _,ah,rfl,fa,ff,fc,by rw[ac];rfl⟩)
  exact bg _ 0 rfl F [] A0 hF rfl ω (by intro q hq;omega)
 rintro dd S ⟨_,a,f,c,h⟩;cases h
def ZmU(d):Zf ZH1 39 [.agg d.cells] (.bool (Wo d)):=by
 refine Zh (cR 39 f39) λF st i=>?_;refine rx @eQ2 ?_;refine rx @eQ2 ?_;rw[show(D.agg [.str d.name,YY d.msgs,.str d.start])=.agg d.cells from rfl];refine cV (ZpO d st) ?_ ?_;rintro t S ⟨rfl,a,f,c,h⟩;cases h;refine gR0 ?_;refine rg ?_;exact i rfl φ (by cases Wo d<;>exact ZH3 _) ZH2;rintro t S ⟨_,a,f,c,h⟩;cases h
def ZBu{L s}(l i):qv L s (.iaddr 3) [.d (WE l),.d (.i i)]=sO (0<=i/\i<I l,.d (.ep (l.getD i.toNat dE).cells 0)):=rfl
def ZzQ{L s}(l):qv L s .lenL [.d (WE l)]=sO (True,.d (.i (I l))):=rfl
def ZA7{L s}(l):qv L s .lenL [.d (Ye l)]=sO (True,.d (.i (I l))):=rfl
def ZCl(cs o):K1 (.d (.ep cs o))=[]:=rfl
def KZ{d s}(h:0<=Zy d s (I d.msgs)):Zy d s (I d.msgs)=ixS d s/\ixS d s<I d.msgs:=by
 have:=Wc (λm=>dC (m.name=s)) (d.msgs.take (I d.msgs));rw[ZIm]at this;unfold ixS;unfold Zy at *;omega
def Zd0{α:Type}[Inhabited α]{l:List α}{x}(h:x∈l):∃i,i<I l/\l.getD i dE=x:=by
 obtain⟨i,t,rfl⟩:=ZIl h;exact⟨i,t,by simp[ZIg,t]⟩
def Q9{d}(h:Wo d=true):WQ d:=by
 unfold Wo at h;rw[ZIb]at h;exact ZrF h.1
def YU(f:Fld):Bool:=(!dC (f.kind=2)&&!dC (f.kind=10))&&!dC (f.kind=11)
def vfs(l:List Fld):List Fld:=l.filter YU
def ZnL{l:List Fld}{i}(h:i<I l):vfs (l.take (i+1))=vfs (l.take i)++if YU (l.getD i dE) then [l.getD i dE] else []:=by
 rw[Yo h];unfold vfs;rw[List.filter_append];congr 1;simp only[List.filter_cons,List.filter_nil]
def ZzB{l i}(h:i<I l):vfs l=vfs (l.take i)++((if YU (l.getD i dE) then [l.getD i dE] else [])++vfs (l.drop (i+1))):=by
 have t:l=l.take (i+1)++l.drop (i+1):=(List.take_append_drop _ _).symm;conv=>lhs;rw[t];unfold vfs;rw[List.filter_append]
 rw[show List.filter YU (l.take (i+1))=vfs (l.take (i+1)) from rfl,ZnL h,ZIv];rfl
def JN(m:Msg)(ps:List Val):Bool:=dC ((vfs m.fields).map (·.name)=ps.map Val.name)
def Zdl{L s}(l):qv L s .lenL [.d (Z7 l)]=sO (True,.d (.i (I l))):=rfl
def atV{L s}(l i):qv L s (.iaddr 5) [.d (Z7 l),.d (.i i)]=sO (0<=i/\i<I l,.d (.ep (ZcP l i.toNat) 0)):=rfl
def KH{L s}(l):qv L s .lenL [.d (Zo l)]=sO (True,.d (.i (I l))):=rfl
def Zuv{l}(h:DWf (Z7 l)):I l<=big:=h.sl_inv.1
def Zd6(f):Zf ZH1 32 [.agg f.cells] (.bool (YU f)):=by
 refine Zh (cR 32 f32) λF st i=>?_;refine rx @eQ0 ?_;refine rg ?_;refine rb i ?_;rfl
def ZtO(k:Int):Bool:=dC (k=1) ||decide (k=3)
def ZpU(k:Int):Bool:=dC (k=4) ||decide (k=5)
def W8(k:Int)(x:Val):Bool:=(((!ZtO k&&!dC (x.int=0)) ||(!ZpU k&&dC (0<(I x.bytes:Int)))) ||(!dC (k=6)&&dC (0<(I x.hdrs:Int)))) ||(!dC (7<=k)&&dC (0<(I x.parts:Int)))
def WC(have_ want:Int):Int:=if dC (have_<want) then 4 else if dC (want<have_) then 5 else 0
def Kj(s:Str):List (Str×Int)->Int
 | []=>-1
 |x::r=>if x.1=s then x.2 else Kj s r
def ZdN:List Fld->List Val->List (Str×Int)
 | [],_=>[]
 |f::r,ps=>(if f.kind=2 then [(f.name,f.low)] else [])++(if YU f then (if (dC (0<(I ps:Int))&&YE f) then [(f.name,(ps.getD 0 dE).int)] else [])++ZdN r (ps.drop 1) else ZdN r ps)
def Zbd(m:Msg)(ps:List Val):List (Str×Int):=ZdN m.fields ps
def ZB5{l:List Fld}{i}:(vfs (l.take i)).length<=i:=by
 unfold vfs;exact Nat.le_trans (List.length_filter_le _ _) (by simp;omega)
def Zbh(s:Zbo)(l:List (Str×Int)):Int:=s.base+Ql (λt=>Kj t.field l) s.terms
def ZaR(n:Nat):Str:=if n<10 then [UInt8.ofNat (48+n)] else ZaR (n / 10)++[UInt8.ofNat (48+n % 10)]
termination_by n
decreasing_by omega
def KQ{n}(h:n<10):ZaR n=[UInt8.ofNat (48+n)]:=by rw[ZaR,if_pos h]
def Zig{n}(h:¬n<10):ZaR n=ZaR (n / 10)++ZaR (n % 10):=by
 rw[ZaR,if_neg h,KQ (n:=n % 10) ω]
def Zih(n):(ZaR n).length<=n+1:=by
 induction n using Nat.strongRecOn with
 |ind n ih =>by_cases h:n<10;rw[KQ h];simp;rw[Zig h,ZIc,KQ (n:=n % 10) ω];have:=ih (n / 10) ω;simp;omega
def Jv(ps:List Val)(k:Nat):Nat:=((ps.take k).filter (λx=>dC (x.name=(ps.getD k dE).name))).length
def Yx(ps:List Val)(k:Nat):Str:=if Jv ps k=0 then (ps.getD k dE).name else (ps.getD k dE).name++[58]++ZaR (Jv ps k)
def ZR(path s:Str):Str:=if path=[] then s else path++[46]++s
def Zoc(ps k):Jv ps k<=k:=by
 unfold Jv;exact Nat.le_trans (List.length_filter_le _ _) (by simp;omega)
def Zff(ps:List Val)(k i:Nat):Nat:=((ps.take i).filter (λx=>dC (x.name=(ps.getD k dE).name))).length
def Zyj{ps k i}(h:i<I ps):Zff ps k (i+1)=Zff ps k i+if (ps.getD i dE).name=(ps.getD k dE).name then 1 else 0:=by
 unfold Zff;rw[Yo h,List.filter_append,ZIc]
 congr 1
 simp only[List.filter_cons,List.filter_nil];split<;>rename_i t<;>simp at t<;>simp[t]
def ZBM(ps k i):Zff ps k i<=i:=by
 unfold Zff;exact Nat.le_trans (List.length_filter_le _ _) (by simp;omega)
mutual
def Zal:Val->Nat
 |.mk _ _ _ _ p=>1+nodesL p
def nodesL:List Val->Nat
 | []=>0
 |v::r=>Zal v+nodesL r
end
mutual
def ZP:Val->Nat
 |.mk _ _ _ _ p=>heightL p+1
def heightL:List Val->Nat
 | []=>0
 |v::r=>max (ZP v) (heightL r)
end
def ZdZ(h:Hdr):Bool:=dC ((1048576:Int)<I h.name) ||decide ((1048576:Int)<I h.text)
def Jj(v:Val):Bool:=(((((Y7 v.name&&dC (0<=v.int))&&dC (v.int<34359738368))&&dC ((I v.bytes:Int)<=1048576))&&dC ((I v.hdrs:Int)<=100))&&!v.hdrs.any ZdZ)
mutual
def ZX:Val->Bool
 |.mk n i b h p=>okAllL p&&Jj (.mk n i b h p)
def okAllL:List Val->Bool
 | []=>true
 |v::r=>ZX v&&okAllL r
end
def Jk(v):Zal v=1+nodesL v.parts:=by cases v;rfl
def QA(v):ZP v=heightL v.parts+1:=by cases v;rfl
def Zfs(v):ZX v=(okAllL v.parts&&Jj v):=by cases v;rfl
def ZeF{l}:okAllL l=l.all ZX:=by
 induction l with
 |nil=>rfl
 |cons v r ih=>rw[okAllL,ih,List.all_cons]
def ZgT{l x}(h:x∈l):ZP x<=heightL l:=by
 induction l with
 |nil=>simp at h
 |cons v r ih =>rcases List.mem_cons.1 h with rfl|h;simp only[heightL];omega;have:=ih h;simp only[heightL];omega
def Qi{n}(h:-9223372036854775808<=n/\n<=9223372036854775807):IntKind.i64.wrap n=n :=
 Zas _ _ (by have h1:IntKind.i64.min=-9223372036854775808:=rfl;have h2:IntKind.i64.max=9223372036854775807:=rfl;unfold inR;omega)
def KM(v:Val):Bool:=(dC ((Zal v:Int)<=65536)&&dC ((ZP v:Int)<=40))&&ZX v
def Zds(x n:Nat):Nat:=x*2 ^ n % 4294967296+x / 2 ^ (32-n)
def Zb3(n:Nat):IntKind.u32.wrap (n:Int)=((n % 4294967296:Nat):Int):=by
 have:IntKind.u32.wrap (n:Int)=(n:Int) % 4294967296:=rfl;rw[this];omega
def ZDg{a b:Nat}(u:a<4294967296)(hb:b<4294967296):Qh .or .u32 (a:Int) (b:Int)=((a |||b:Nat):Int):=by
 have h:=Nat.or_lt_two_pow (n:=32) u hb;unfold Qh;simp only;have i:(BitVec.ofInt 32 (a:Int)).toNat=a:=by rw[BitVec.toNat_ofInt];omega
 have t:(BitVec.ofInt 32 (b:Int)).toNat=b:=by rw[BitVec.toNat_ofInt];omega
 show IntKind.u32.wrap ((BitVec.ofInt 32 (a:Int) |||BitVec.ofInt 32 (b:Int)).toNat:Int)=_;rw[BitVec.toNat_or,i,t,Zb3,Nat.mod_eq_of_lt h]
def Zwf{a b:Nat}(u:a<4294967296)(hb:b<4294967296):Qh .xor .u32 (a:Int) (b:Int)=((a ^^^ b:Nat):Int):=by
 have h:=Nat.xor_lt_two_pow (n:=32) u hb;unfold Qh;simp only;have i:(BitVec.ofInt 32 (a:Int)).toNat=a:=by rw[BitVec.toNat_ofInt];omega
 have t:(BitVec.ofInt 32 (b:Int)).toNat=b:=by rw[BitVec.toNat_ofInt];omega
 show IntKind.u32.wrap ((BitVec.ofInt 32 (a:Int) ^^^ BitVec.ofInt 32 (b:Int)).toNat:Int)=_;rw[BitVec.toNat_xor,i,t,Zb3,Nat.mod_eq_of_lt h]
def Zze{x n:Nat}(hx:x<4294967296)(u:n<=32):x*2 ^ n % 4294967296 |||x / 2 ^ (32-n)=Zds x n:=by
 unfold Zds;have e:(4294967296:Nat)=2 ^ (32-n)*2 ^ n:=by rw[<-Nat.pow_add,Nat.sub_add_cancel u]
 have i:x*2 ^ n % 4294967296=(x % 2 ^ (32-n)) <<< n:=by rw[Nat.shiftLeft_eq,e,Nat.mul_mod_mul_right]
 have t:x / 2 ^ (32-n)<2 ^ n:=Nat.div_lt_of_lt_mul (by rw[<-e];exact hx);rw[i,Nat.shiftLeft_add_eq_or_of_lt t]
def Zqk{x n:Nat}(i:x<4294967296)(t:n<=32):Zds x n<4294967296:=by
 rw[<-Zze i t];exact Nat.or_lt_two_pow (n:=32) (Nat.mod_lt _ (by decide)) (Nat.lt_of_le_of_lt (Nat.div_le_self _ _) i)
def Zhq{x n:Nat}(hx:x<4294967296)(hn:n=16\/n=12\/n=8\/n=7):Zf ZH1 312 [.int .u32 x,.i n] (.int .u32 (Zds x n)):=by
 refine Zh (cR 312 f312) λF st u=>?_;have i:Qh .and .u64 (n:Int) 31=(n:Int):=by rcases hn with rfl|rfl|rfl|rfl<;>rfl
 have ad:IntKind.u64.wrap (n:Int)=(n:Int):=by rcases hn with rfl|rfl|rfl|rfl<;>rfl
 have ab:IntKind.u32.wrap (Zah .u32 (x:Int) (n:Int))=((x*2 ^ n % 4294967296:Nat):Int):=by
  rw[<-Zb3];unfold Zah;rw[Int.toNat_natCast,show Nat.min n IntKind.u32.bits=n from Nat.min_eq_left (by show n<=32;omega)]
  push_cast;rfl
 have ac:QI .u32 (x:Int) (32-(n:Int))=((x / 2 ^ (32-n):Nat):Int):=by
  unfold QI;have h1:(32-(n:Int)).toNat=32-n:=ω;rw[h1,show Nat.min (32-n) IntKind.u32.bits=32-n from Nat.min_eq_left (by show 32-n<=32;omega),Int.fdiv_eq_ediv_of_nonneg _ (by exact_mod_cast Nat.zero_le _)]
  push_cast;rfl
 have t:=ZDg (a:=x*2 ^ n % 4294967296) (b:=x / 2 ^ (32-n)) (Nat.mod_lt _ (by decide)) (Nat.lt_of_le_of_lt (Nat.div_le_self _ _) hx);rw[Zze hx ω]at t;have hq:x / 2 ^ (32-n)<=x:=Nat.div_le_self _ _;refine rg ?_;refine rx (nd2 @ad @i) ?_;refine rh ?_;refine WM ?_;simp only[Eqs,reduceCtorEq,ZH9,reduceIte,ZH6,ZIa,ZH7,W5,KC];refine ZpJ rfl rfl rfl φ (ZD5 ω) (WM ?_);simp only[Eqs,reduceCtorEq,ZH9,reduceIte,ZH6,ZIa,ZH7,W5,KC,ab,ac,t];generalize x / 2 ^ (32-n)=y at *;refine aa ?_;refine ri u ?_;rfl
def ZcD(r1 r2 a b c d:Nat):Nat×Nat×Nat×Nat :=
 let a1:=(a+b) % 4294967296;let d1:=Zds (d ^^^ a1) r1;let c1:=(c+d1) % 4294967296
 (a1,Zds (b ^^^ c1) r2,c1,d1)
def Zem(a b c d:Nat):Nat×Nat×Nat×Nat :=
 let q:=ZcD 16 12 a b c d
 ZcD 8 7 q.1 q.2.1 q.2.2.1 q.2.2.2
def W4(q:Nat×Nat×Nat×Nat):Prop:=q.1<4294967296/\q.2.1<4294967296/\q.2.2.1<4294967296/\q.2.2.2<4294967296
def Zk8{a b:Nat}(i:a<4294967296)(t:b<4294967296):a ^^^ b<4294967296:=Nat.xor_lt_two_pow (n:=32) i t
def Znn{r1 r2 a b c d:Nat}(u:r1<=32)(h2:r2<=32)(h:W4 (a,b,c,d)):W4 (ZcD r1 r2 a b c d):=by
 have i:(a+b) % 4294967296<4294967296:=Nat.mod_lt _ (by decide);have t:∀x,(c+x) % 4294967296<4294967296:=λx=>Nat.mod_lt _ (by decide);exact⟨i,Zqk (Zk8 h.2.1 (t _)) h2,t _,Zqk (Zk8 h.2.2.2 i) u⟩
def ZvZ{a b c d:Nat}(h:W4 (a,b,c,d)):W4 (Zem a b c d):=Znn (by decide) (by decide) (Znn (by decide) (by decide) h)
def w32(n:Nat):D:=.int .u32 n
structure Q4(T:St)(za zb zc zd:Nat)(q:Nat×Nat×Nat×Nat):Prop where
 a:T za=some (.cells [.int .u32 q.1])
 b:T zb=some (.cells [.int .u32 q.2.1])
 c:T zc=some (.cells [.int .u32 q.2.2.1])
 d:T zd=some (.cells [.int .u32 q.2.2.2])
structure N4(za zb zc zd:Nat):Prop where
 ab:za≠zb
 ac:za≠zc
 ad:za≠zd
 bc:zb≠zc
 bd:zb≠zd
 cd:zc≠zd
def Q4P(T:St)(za zb zc zd:Nat)(q:Nat×Nat×Nat×Nat)(r:Res)(S:St):Prop:=r=.ret (.tup [])/\Q4 S za zb zc zd q/\∀y,y≠za->y≠zb->y≠zc->y≠zd->S y=T y
def Zht{T:St}{za zb zc zd a b c d r1 r2:Nat}(hr1:r1=16\/r1=12\/r1=8\/r1=7)(hr2:r2=16\/r2=12\/r2=8\/r2=7)(h:W4 (a,b,c,d))(hN:N4 za zb zc zd)(hT:Q4 T za zb zc zd (a,b,c,d)):
  Za ZH1 311 [.i r1,.i r2,.ptr za 0,.ptr zb 0,.ptr zd 0,.ptr zc 0] T (Q4P T za zb zc zd (ZcD r1 r2 a b c d)):=by
 refine Zb (cR 311 f311) λF hF=>?_;obtain⟨ha,hb,hc,hd⟩:=hT;simp only at ha hb hc hd;obtain⟨la,lb,lc,ld⟩:=h;simp only at la lb lc ld;have hA:ZcD r1 r2 a b c d=((a+b) % 4294967296,Zds (b ^^^ (c+Zds (d ^^^ (a+b) % 4294967296) r1) % 4294967296) r2,(c+Zds (d ^^^ (a+b) % 4294967296) r1) % 4294967296,Zds (d ^^^ (a+b) % 4294967296) r1):=rfl;have wa:IntKind.u32.wrap ((a:Int)+b)=(((a+b) % 4294967296:Nat):Int):=by rw[<-Zb3];push_cast;rfl
 have i:(a+b) % 4294967296<4294967296:=Nat.mod_lt _ (by decide);generalize (a+b) % 4294967296=a1 at *;have xd:=Zwf ld i;have ae:=Zhq (Zk8 ld i) hr1;have ld1:Zds (d ^^^ a1) r1<4294967296:=Zqk (Zk8 ld i) ω;generalize d ^^^ a1=da at *;generalize Zds da r1=d1 at *;have wc:IntKind.u32.wrap ((c:Int)+d1)=(((c+d1) % 4294967296:Nat):Int):=by rw[<-Zb3];push_cast;rfl
 have t:(c+d1) % 4294967296<4294967296:=Nat.mod_lt _ (by decide);generalize (c+d1) % 4294967296=c1 at *;have xb:=Zwf lb t;have u:=Zhq (Zk8 lb t) hr2;generalize b ^^^ c1=bc at *;generalize Zds bc r2=b1 at *;rw[hA]at hF;have n1:∀(T:St) o,(T.upd za o) zd=T zd:=λT o=>ZH8 _ _ hN.ad.symm;have n2:∀(T:St) o,(T.upd za o) zc=T zc:=λT o=>ZH8 _ _ hN.ac.symm;have n3:∀(T:St) o,(T.upd zd o) zc=T zc:=λT o=>ZH8 _ _ hN.cd;have n4:∀(T:St) o,(T.upd za o) zb=T zb:=λT o=>ZH8 _ _ hN.ab.symm;have n5:∀(T:St) o,(T.upd zd o) zb=T zb:=λT o=>ZH8 _ _ hN.bd;have n6:∀(T:St) o,(T.upd zc o) zb=T zb:=λT o=>ZH8 _ _ hN.bc;refine rh ?_;refine WM ?_;simp only[Eqs,reduceCtorEq,ZH9,reduceIte,ZH6,ZIa,ZH7,W5,KC,ha,hb];refine Zb6 rfl rfl rfl φ (WM ?_);simp only[Eqs,reduceCtorEq,ZH9,reduceIte,ZH6,ZIa,ZH7,W5,KC,wa,ha];refine aa ?_;refine rx (nd2 @n1 (nd2 @hd (nd2 @ZH5 @xd))) ?_;refine cX (nd2 @n1 @hd) (ae) ?_;refine aa ?_;refine rh ?_;refine WM ?_;simp only[Eqs,reduceCtorEq,ZH9,reduceIte,ZH6,ZIa,ZH7,W5,KC,n2,n3,hc,ZH5];refine Zb6 rfl rfl rfl φ (WM ?_);simp only[Eqs,reduceCtorEq,ZH9,reduceIte,ZH6,ZIa,ZH7,W5,KC,wc,n2,n3,hc,ZH5];refine aa ?_;refine rx (nd2 @n4 (nd2 @n5 (nd2 @n6 (nd2 @hb (nd2 @ZH5 @xb))))) ?_;refine cX (nd2 @n4 (nd2 @n5 (nd2 @n6 @hb))) (u) ?_;refine aa ?_;refine hF.fin (.tup []) _ rfl trivial (ZH3 _) ZH2 ⟨rfl,⟨?_,?_,?_,?_⟩,λy h1 h2 h3 h4=>?_⟩;rw[ZH8 _ _ hN.ab,ZH8 _ _ hN.ac,ZH8 _ _ hN.ad,ZH5];rw[ZH5];rw[ZH8 _ _ hN.bc.symm,ZH5];rw[ZH8 _ _ hN.bd.symm,ZH8 _ _ hN.cd.symm,ZH5];rw[ZH8 _ _ h2,ZH8 _ _ h3,ZH8 _ _ h4,ZH8 _ _ h1]
def ZlS{a b c d:Nat}(h:W4 (a,b,c,d)):Zf ZH1 276 [.int .u32 a,.int .u32 b,.int .u32 c,.int .u32 d] (.tup [.int .u32 (Zem a b c d).1,.int .u32 (Zem a b c d).2.1,.int .u32 (Zem a b c d).2.2.1,.int .u32 (Zem a b c d).2.2.2]):=by
 refine Zh (cR 276 f276) λF st i=>?_;have hq:Zem a b c d=ZcD 8 7 (ZcD 16 12 a b c d).1 (ZcD 16 12 a b c d).2.1 (ZcD 16 12 a b c d).2.2.1 (ZcD 16 12 a b c d).2.2.2:=rfl;have hh:=Znn (r1:=16) (r2:=12) (by decide) (by decide) h;rw[hq]at i;refine rg ?_;refine Zc ?_;refine xP 4 λza ha=>?_;refine xP 5 λzb hb=>?_;refine xP 6 λzc hc=>?_;refine xP 7 λzd hd=>?_;obtain⟨me,ai⟩:=Zm hd;obtain⟨ao,ae⟩:=Zm ai;obtain⟨ap,aj⟩:=Zm ae;obtain⟨nc,ag⟩:=Zm hc;obtain⟨aq,ah⟩:=Zm ag;obtain⟨nb,af⟩:=Zm hb;have hN:N4 za zb zc zd:=⟨nb.symm,aq.symm,ap.symm,nc.symm,ao.symm,me.symm⟩;generalize u:(((st.upd za (.cells [.int .u32 a])).upd zb (.cells [.int .u32 b])).upd zc (.cells [.int .u32 c])).upd zd (.cells [.int .u32 d])=S0;have hT:Q4 S0 za zb zc zd (a,b,c,d):=by rw[<-u];refine⟨?_,?_,?_,?_⟩;rw[ZH8 _ _ hN.ad,ZH8 _ _ hN.ac,ZH8 _ _ hN.ab,ZH5];rw[ZH8 _ _ hN.bd,ZH8 _ _ hN.bc,ZH5];rw[ZH8 _ _ hN.cd,ZH5];rw[ZH5]
 have al:∀S:St,(∀y,y≠za->y≠zb->y≠zc->y≠zd->S y=S0 y)->st.sub S:=λS hS y o hy=>by
  have h1:y≠za:=λe=>by rw[e,ha]at hy;cases hy
  have h2:y≠zb:=λe=>by rw[e,af]at hy;cases hy
  have h3:y≠zc:=λe=>by rw[e,ah]at hy;cases hy
  have h4:y≠zd:=λe=>by rw[e,aj]at hy;cases hy
  rw[hS y h1 h2 h3 h4,<-u,ZH8 _ _ h4,ZH8 _ _ h3,ZH8 _ _ h2,ZH8 _ _ h1];exact hy
 refine gG ?_;refine ZbL rfl rfl rfl rfl rfl φ φ (by exact(Zht (r1:=16) (r2:=12) (by decide) (by decide) h hN hT).V (first:=[]) (args:=[_,_]) (caps:=[_,_,_,_])) ?_ ?_;rintro dd S1 ⟨hr,hQ,hf⟩;cases hr;refine gR0 ?_;obtain⟨q,am⟩:∃q,ZcD 16 12 a b c d=q:=⟨_,rfl⟩;rw[am]at hQ hh i;refine rg ?_;refine ZbL rfl rfl rfl rfl rfl φ φ (by exact(Zht (r1:=8) (r2:=7) (by decide) (by decide) hh hN hQ).V (first:=[]) (args:=[_,_]) (caps:=[_,_,_,_])) ?_ ?_;rintro dd S2 ⟨hr,t,ak⟩;cases hr;refine gR0 ?_;refine rx (nd2 @t.a (nd2 @t.b (nd2 @t.c @t.d))) ?_;exact i rfl φ (ZH3 _) (al S2 λy h1 h2 h3 h4=>by rw[ak y h1 h2 h3 h4,hf y h1 h2 h3 h4]);rintro dd S ⟨hr,_⟩;cases hr;rintro dd S ⟨hr,_⟩;cases hr
def qA(i:Nat):Nat:=i % 4
def qB(i:Nat):Nat:=if i<4 then 4+i % 4 else 4+(i+1) % 4
def qC(i:Nat):Nat:=if i<4 then 8+i % 4 else 8+(i+2) % 4
def qD(i:Nat):Nat:=if i<4 then 12+i % 4 else 12+(i+3) % 4
def qSt(i:Nat)(s:List Nat):List Nat :=
 let q:=Zem (s.getD (qA i) 0) (s.getD (qB i) 0) (s.getD (qC i) 0) (s.getD (qD i) 0)
 (((s.set (qA i) q.1).set (qB i) q.2.1).set (qC i) q.2.2.1).set (qD i) q.2.2.2
def ZgL:Nat->Nat->List Nat->List Nat
 |0,_,s=>s
 |n+1,i,s=>ZgL n (i+1) (qSt i s)
def Zyd(i s):ZgL 0 i s=s:=rfl
def Zyc(n i s):ZgL (n+1) i s=ZgL n (i+1) (qSt i s):=rfl
def S16(s:List Nat):Prop:=I s=16/\∀x∈s,x<4294967296
def S16.at_{s}(h:S16 s)(i:Nat):s.getD i 0<4294967296:=by
 by_cases t:i<I s;have:s.getD i 0∈s:=by simp[ZIg,t]
 exact h.2 _ this;simp[ZIg,ZIM (Nat.le_of_not_lt t)]
def S16.set{s}(h:S16 s){i y:Nat}(hy:y<4294967296):S16 (s.set i y):=⟨by rw[List.length_set];exact h.1,λx u=>by
 rcases List.mem_or_eq_of_mem_set u with t|rfl;exact h.2 _ t;exact hy⟩
def S16.q{s}(h:S16 s)(i:Nat):S16 (qSt i s):=by
 have t:=ZvZ (a:=s.getD (qA i) 0) (b:=s.getD (qB i) 0) (c:=s.getD (qC i) 0) (d:=s.getD (qD i) 0) ⟨h.at_ _,h.at_ _,h.at_ _,h.at_ _⟩;exact(((h.set t.1).set t.2.1).set t.2.2.1).set t.2.2.2
def S16.dbl:∀{n i s},S16 s->S16 (ZgL n i s)
 |0,_,_,h=>h
 |n+1,i,s,h=>S16.dbl (n:=n) (h.q i)
def ZhW{s:List Nat}{q}(h:q<I s):(s.map w32)[q*1]?=sO (.int .u32 (s.getD q 0:Nat)):=by
 rw[Nat.mul_one,List.getElem?_map];simp[ZIg,h,w32]
def ZlO{s:List Nat}{q}(y:Nat)(h:q<I s):(s.map w32).take (q*1)++[.int .u32 (y:Int)]++(s.map w32).drop (q*1+1)=(s.set q y).map w32:=by
 rw[Nat.mul_one,List.set_eq_take_append_cons_drop,if_pos h];simp[w32]
def ZA6:List D:=[.i 0,.i 4,.i 8,.i 12,.i 1,.i 5,.i 9,.i 13,.i 2,.i 6,.i 10,.i 14,.i 3,.i 7,.i 11,.i 15,.i 0,.i 5,.i 10,.i 15,.i 1,.i 6,.i 11,.i 12,.i 2,.i 7,.i 8,.i 13,.i 3,.i 4,.i 9,.i 14]
def ZCu{i:Nat}(h:i<8):List.take 4 (List.drop (i*4) ZA6)=[.i (qA i),.i (qB i),.i (qC i),.i (qD i)]:=by
 rcases(by omega:i=0\/i=1\/i=2\/i=3\/i=4\/i=5\/i=6\/i=7) with rfl|rfl|rfl|rfl|rfl|rfl|rfl|rfl<;>rfl
def ZD4{i:Nat}(h:i<8):qA i<16/\qB i<16/\qC i<16/\qD i<16:=by
 unfold qA qB qC qD;split<;>omega
def Zm5{T:St}{z:Nat}{s:List Nat}(hs:S16 s)(hz:T z=sO (.cells (s.map w32))):Za ZH1 263 [.ptr z 0] T λr S=>r=.ret (.tup [])/\S=T.upd z (.cells ((ZgL 8 0 s).map w32)):=by
 refine Zb (cR 263 f263) λF hF=>?_;obtain⟨R,hR⟩:∃R,ZgL 8 0 s=R:=⟨_,rfl⟩;rw[hR]at hF;refine rg ?_;refine Zd (fr (8) (λi Q=>∀s1,S16 s1->ZgL (8-i) i s1=R->i<=8->Q [(0,.d (.ptr z 0)),(12,.d (.agg ZA6)),(13,.d (.i i))] [] (T.upd z (.cells (s1.map w32)))) (λn ab=>?_) λai=>?_);intro i hn2 s1 t hp hi;refine rg ?_;refine Zc (Zl rfl trivial (λhd=>?_) (λhd=>?_));simp only[decide_eq_true_eq]at hd;have ad:i<8:=ω;have ag:ZA6.length=32:=rfl;have ah:=ZCu ad;refine xA (nd2 @ag @ah) ?_;have hS:=t.1;have hq4:=ZvZ (a:=s1.getD (qA i) 0) (b:=s1.getD (qB i) 0) (c:=s1.getD (qC i) 0) (d:=s1.getD (qD i) 0) ⟨t.at_ _,t.at_ _,t.at_ _,t.at_ _⟩;have af:=ZlS (a:=s1.getD (qA i) 0) (b:=s1.getD (qB i) 0) (c:=s1.getD (qC i) 0) (d:=s1.getD (qD i) 0) ⟨t.at_ _,t.at_ _,t.at_ _,t.at_ _⟩;obtain⟨la,lb,lc,ld⟩:=ZD4 ad;have ra:=ZhW (s:=s1) (q:=qA i) ω;have rb:=ZhW (s:=s1) (q:=qB i) ω;have rc:=ZhW (s:=s1) (q:=qC i) ω;have rd:=ZhW (s:=s1) (q:=qD i) ω;have u:qSt i s1=(((s1.set (qA i) (Zem (s1.getD (qA i) 0) (s1.getD (qB i) 0) (s1.getD (qC i) 0) (s1.getD (qD i) 0)).1).set (qB i) (Zem (s1.getD (qA i) 0) (s1.getD (qB i) 0) (s1.getD (qC i) 0) (s1.getD (qD i) 0)).2.1).set (qC i) (Zem (s1.getD (qA i) 0) (s1.getD (qB i) 0) (s1.getD (qC i) 0) (s1.getD (qD i) 0)).2.2.1).set (qD i) (Zem (s1.getD (qA i) 0) (s1.getD (qB i) 0) (s1.getD (qC i) 0) (s1.getD (qD i) 0)).2.2.2:=rfl;have ac:=t.q i;rw[show 8-i=(8-(i+1))+1 by omega,Zyc]at hp;generalize qA i=a at *;generalize qB i=b at *;generalize qC i=c at *;generalize qD i=d at *;generalize Zem (s1.getD a 0) (s1.getD b 0) (s1.getD c 0) (s1.getD d 0)=q at *;obtain⟨y1,y2,y3,y4⟩:=q;simp only at u af;rw[u]at hp ac;have e1:=ZlO (s:=s1) y1 (show a<I s1 by omega);have e2:=ZlO (s:=s1.set a y1) y2 (show b<_ by rw[List.length_set];omega);have e3:=ZlO (s:=(s1.set a y1).set b y2) y3 (show c<_ by rw[List.length_set,List.length_set];omega);have e4:=ZlO (s:=((s1.set a y1).set b y2).set c y3) y4 (show d<_ by rw[List.length_set,List.length_set,List.length_set];omega);refine rh ?_;refine Yt ?_;simp(maxSteps:=1000000) only[Eqs,reduceCtorEq,ZH9,reduceIte,ZH6,ZIa,ZH7,ZH5,ra,rb,rc,rd,hS,Nat.reduceMul];repeat(refine ZH4 (by first|omega|trivial|(intro h0;simp at h0;omega)) ?_)
 refine Zf2 rfl rfl rfl rfl rfl φ φ (by exact af) (Yt ?_);simp(maxSteps:=1000000) only[Eqs,reduceCtorEq,ZH9,reduceIte,ZH6,ZIa,ZH7,ZH5,ZIk,e1,e2,e3,e4,hS,ZIo,List.length_set,Nat.reduceMul];refine aa ?_;rw[<-u];rw[<-u]at hp ac;refine gA ?_;refine Ze ?_;exact ab ((8)-(i+1)) ω (i+1) rfl (qSt i s1) ac hp ω;simp only[decide_eq_false_iff_not]at hd;obtain rfl:i=8:=ω;rw[Nat.sub_self,Zyd]at hp;refine ZO rfl ?_;exact hF.fin (.tup []) _ rfl trivial (ZH3 _) ZH2 ⟨rfl,by rw[hp]⟩;have ae:=ai _ 0 rfl s hs hR ω;rw[St.upd_self hz]at ae;exact ae
end Go.DL
namespace Go.Proofs
open Go.Shelf
def Tryz.growI_ren:Go.Shelf.Ren:=⟨λ|4=>261|n=>n,λ|22=>277|25=>3|3=>3|4=>4|9=>9|20=>20|0=>0|n=>n,λ|n=>n⟩
def Tryz.growI:Go.Proofs.Lays8.n4 ZH1 Tryz.growI_ren:={
 mixed:=by kernel_rfl
 f4:=⟨Tryz.f261.name,by decide,Tryz.func261.trans (congrArg sO (by kernel_rfl))⟩
 t0:=Tryz.underlying0
 a0:=Tryz.isAgg0
 z0:=Tryz.sizeOf0
 v0:=Tryz.zeroValue0
 t3:=Tryz.underlying3
 a3:=Tryz.isAgg3
 z3:=Tryz.sizeOf3
 v3:=Tryz.zeroValue3
 t4:=Tryz.underlying4
 a4:=Tryz.isAgg4
 z4:=Tryz.sizeOf4
 v4:=Tryz.zeroValue4
 t9:=Tryz.underlying9
 a9:=Tryz.isAgg9
 z9:=Tryz.sizeOf9
 v9:=Tryz.zeroValue9
 t20:=Tryz.underlying20
 a20:=Tryz.isAgg20
 z20:=Tryz.sizeOf20
 v20:=Tryz.zeroValue20
 t22:=Tryz.underlying277
 a22:=Tryz.isAgg277
 z22:=Tryz.sizeOf277
 v22:=Tryz.zeroValue277 }
end Go.Proofs
namespace Go.DL
open Go Go.Proofs Go.Lib
def itC(x:Int):List D:=[.i x]
def QB(l:List Int):D:=slD 1 itC l
def liC(l:List Int):List D:=[QB l]
def Zi5{l:List (List Int)}{i:Nat}(h:i<I l):(l.take (i+1)).flatten=(l.take i).flatten++l.getD i dE:=by
 rw[Yo h,List.flatten_append];simp
def ZdH(l:List (List Int))(i:Nat):(l.take i).flatten.length<=I l.flatten:=by
 conv=>rhs;rw[<-List.take_append_drop i l,List.flatten_append,ZIc]
 omega
def ZkY(n:Nat)(hn:n<=1000000)(st:St):Za ZH1 261 [.nilsl,.i n] st λr S=>∃t:Tok,r=.ret (.sl t 0 1 λ_=>[])/\t.okIn st/\S=st.own t 0:=by
 refine⟨⟨_,Tryz.func261,by kernel_rfl,by kernel_rfl⟩,λg w vs hs ha=>?_⟩;cases ha with
 |cons h1 ha =>
 cases ha with
 |cons h2 ha =>
 cases ha;cases h1;cases h2;by_cases h0:n=0;subst h0;refine(Any8.slices_Grow_room Tryz.growI nO 0 0 0 w ω ω ω ω).mono ?_;rintro e w' ⟨rfl,rfl⟩;exact⟨g,st,.ret (.sl .full 0 1 λ_=>[]),Ext.refl g _,hs,.sl0 _ _ _ _ ψ,.full,rfl,trivial,rfl⟩;have hz:Zak ZH1 (Tryz.growI_ren.t 25)=sO [.i 0]:=by kernel_rfl
 have ai:ZT ZH1 (Tryz.growI_ren.t 25)=sO 1:=by kernel_rfl
 have af:Program.bytesOf ZH1 (Tryz.growI_ren.t 25)=8:=by kernel_rfl
 obtain⟨zv,hz1,aj,hz3,ie,ac,ak⟩:=Qf (g:=g) (w:=w) hz;have hsize:ie.size=1:=by simpa[ZT,ac]using ai
 have u:ie.bytes=8:=by rw[<-af];simp[Program.bytesOf,ac]
 have ad:zv.cells.size=1:=by have:=aj.len;simpa using this
 refine(Any8.slices_Grow_grow Tryz.growI ie zv ac ak ω nO 0 0 n [] w ω ω (by rw[u];omega) ω ψ (λ_=>rfl) (λa h=>by simp at h)).mono ?_;rintro e w' ⟨rfl,rfl⟩;have hge:=grownCap_ge w (0+n) 0 (Tryz.growI_ren.t 25);have ag:=grownCap_le_maxLen w (0+n) 0 (Tryz.growI_ren.t 25) (by simp only[maxLen];omega);have ah:WO g w 1 0 [] (λ_=>[]):=⟨ψ,λi hi=>by omega,λi j v d hi=>by omega,ψ⟩;have ab:=Zvn (T:=Tryz.growI_ren.t 25) (cap:=grownCap w (0+n) 0 (Tryz.growI_ren.t 25)) (rest:=(Builtin.zeroCells zv.cells (0+n-0)++Builtin.zeroCells zv.cells (grownCap w (0+n) 0 (Tryz.growI_ren.t 25)-(0+n))).toList) hs ah (Nat.zero_le _) (by
  simp only[List.length_nil,Array.toList_append,ZIc,Array.length_toList,size_zeroCells,ad];omega) (by simp only[maxLen]at ag;simp only[big];omega)
 have ae:∀A B:Array Value,(([]:List Value)++(A++B).toList).toArray=([]:List Value).toArray++A++B:=by intro A B;simp
 rw[ae]at ab;obtain⟨a1,a2,a3,a4⟩:=ab;refine⟨_,_,.ret (.sl (.tip w.heap.size) 0 1 λ_=>[]),a1.ext hs.fresh,a2,a4,.tip w.heap.size,rfl,a3,rfl⟩
def ZiR(ls:List (List Int))(hls:I ls<=1000)(hb:I ls.flatten<=1000000)(st:St):Za ZH1 241 [slD 1 liC ls] st (λr S=>r=.ret (QB ls.flatten)/\S=st):=by
 refine Zb (cR 241 f241) λF hF=>?_;refine gG ?_;refine rx @eQ1 ?_;refine Zd (fr (I ls) (λi Q=>i<=I ls->Q [(0,.d (slD 1 liC ls)),(3,.d (.i ((ls.take i).flatten.length:Nat))),(9,.d (slD 1 liC ls)),(10,.d (.i (I ls))),(11,.d (.i i))] [] st) (λn af=>?_) λam=>?_);intro i hn hi;have aj:=ZdH ls i;refine rg ?_;refine Zc (Zl rfl trivial (λh1=>?_) (λh1=>?_));simp at h1;have ac:=congrArg List.length (Zi5 h1);have ag:=ZdH ls (i+1);rw[ZIc]at ac;generalize hx:ls.getD i dE=x at *;refine xA (nd2 @eQ1 (nd2 @liC.eq_1 @hx)) ?_;refine xA (nd2 @QB.eq_1 @eQ1) ?_;refine rg ?_;refine Zl rfl trivial (λh=>by simp at h;omega) (λ_=>?_);refine gA ?_;refine Ze ?_;have t:=af ((I ls)-(i+1)) ω (i+1) rfl ω;rw[ac,Int.natCast_add]at t;exact t;simp at h1;obtain rfl:i=I ls:=ω;rw[ZIC];refine rg ?_;refine cV (ZkY (I ls.flatten) hb st) ?_ ?_;rintro d S ⟨tk,hd,ae,rfl⟩;cases hd;refine gR0 ?_;refine rx @eQ1 ?_;have ai:ZY itC (λ_=>[]) []:=ZY.nil;refine Zd (fr (I ls) (λk Q=>∀tk row ab,tk.okIn st->ZY itC row ab->ab=(ls.take k).flatten->k<=I ls->Q [(6,.d (.sl tk (I ab) 1 row)),(25,.d (slD 1 liC ls)),(26,.d (.i (I ls))),(27,.d (.i k))] [] (st.own tk (I ab*1))) (λn ad=>?_) λak=>?_);clear ae;intro k hnk tk row ab ae ah u hk;have aj:=ZdH ls k;rw[<-u]at aj;refine rx @eQ1 ?_;refine Zc (Zl rfl trivial (λh2=>?_) (λh2=>?_));simp at h2;have ac:=Zi5 h2;have ag:=ZdH ls (k+1);rw[ac,ZIc,<-u]at ag;generalize hx:ls.getD k dE=x at *;refine xA (nd2 @eQ1 (nd2 @liC.eq_1 @hx)) ?_;refine rx (nd2 @QB.eq_1 @eQ1) ?_;refine ZaJ (st) (tk) rfl rfl rfl rfl rfl rfl φ φ rfl (by first|trivial|assumption) ω (by (unfold big;omega)) λt1 al=>Zp ?_;simp only[Eqs,reduceCtorEq,ZH9,reduceIte,ZH6,ZIa,ZH7];refine gA ?_;refine Ze ?_;have t:=ad ((I ls)-(k+1)) ω (k+1) rfl t1 _ (ab++x) al (ah.app (ZY.self (l:=x)) rfl) (by rw[ac,u]) ω;rw[ZIc]at t;exact t;simp at h2;obtain rfl:k=I ls:=ω;rw[ZIC]at u;refine rg ?_;refine hF.ret _ st rfl φ (QP (ah.le rfl)) (Y2 ae) ⟨by rw[u];rfl,rfl⟩;exact ak _ 0 rfl tk _ [] ae ai rfl ω;rintro d S ⟨tk,hd,_⟩;cases hd;have hk:=am _ 0 rfl ω;rw[List.take_zero,List.flatten_nil]at hk;exact hk
def Zf0(l f p)(sts:Nat->St)
  (hf:∀i,i<I l->VT ZH1 f [.i (l.getD i dE)] (sts i) (.bool (p (l.getD i dE))) (sts (i+1))) :
  ZL ZH1 262 [slD 1 itC l,f] (sts 0) (.i (Zi p l)) (sts (KA p l)):=by
 refine Zz (cR 262 f262) λad F t=>?_;have hw:=(Ww (ad (slD 1 itC l) ψ)).1;unfold big at hw;clear ad;refine rx @eQ1 ?_;refine rx @eQ1 ?_;refine Zd (fr (I l) (λi Q=>i<=I l->(∀j,j<i->p (l.getD j dE)=false)->Q [(0,.d (slD 1 itC l)),(1,.d f),(7,.d (.i (I l))),(8,.d (.i i))] [] (sts i)) (λn ab=>?_) λae=>?_);intro i hn hi u;refine rx @eQ1 ?_;refine Zc (Zl rfl trivial (λh1=>?_) (λh1=>?_));simp at h1;refine rx @eQ1 ?_;refine xA (nd2 @eQ1 @itC.eq_1) ?_;refine cW (hf i h1) ?_;refine cd (λh2=>?_) (λh2=>?_);have e1:=WH h1 h2 u;have e2:=Zaf h1 h2 u;rw[e1,e2]at t;refine rg ?_;exact t rfl φ (ZH3 _) ZH2;refine gA ?_;refine Ze ?_;exact ab ((I l)-(i+1)) ω (i+1) rfl ω (Yc (q:=λj=>p (l.getD j dE)=false) u h2);simp at h1;obtain rfl:i=I l:=ω;have ac:∀x∈l,p x=false:=λx hx=>by obtain⟨j,hj,rfl⟩:=ZIl hx;have:=u j hj;simpa[ZIg,hj]using this
 rw[Y9 ac,QH ac]at t;refine rg ?_;exact t rfl φ (ZH3 _) ZH2;exact ae _ 0 rfl ω (by intro j hj;omega)
def Zep(l f p)(sts:Nat->St)
  (hf:∀i,i<I l->VT ZH1 f [.i (l.getD i dE)] (sts i) (.bool (p (l.getD i dE))) (sts (i+1))) :
  ZL ZH1 242 [slD 1 itC l,f] (sts 0) (.bool (l.any p)) (sts (KA p l)):=by
 refine Zz (cR 242 f242) λu F t=>?_;clear u;refine gG ?_;refine ct (Zf0 l f p sts hf) ?_;rw[Jg]at t;exact t rfl φ (ZH3 _) ZH2
end Go.DL
namespace Go.DL
open Go Go.Proofs
variable {kp:Option (List Nat)}{L:Loc}{H:Env}{s:St}{w:World}{os:List DOp}{ds:List D}{B:List (Nat × Rd)}{dst:Option Nat}{tmps:Array Value}{g:G}{Φ:Res->St->Prop}{Z:Nat->Nat}{xs:List Opd}{side:Prop}{row:Nat->List D}
def ZrL:Zf ZH1 260 [.int .u64 1,.int .u64 8] (.tup [.int .u64 0,.int .u64 8]):=by
 refine Zh (cR 260 f260) λF st i=>?_;have a1:Qh .and .u64 1 4294967295=1:=rfl;have a2:Qh .and .u64 8 4294967295=8:=rfl;have a3:Qh .and .u64 0 4294967295=0:=rfl;have s1:QI .u64 1 32=0:=rfl;have s8:QI .u64 8 32=0:=rfl;have s0:QI .u64 0 32=0:=rfl;have u:(1:Int)*8=8:=rfl;have m2:(0:Int)*8=0:=rfl;have m3:(1:Int)*0=0:=rfl;have m4:(0:Int)*0=0:=rfl;have t:(0:Int)+0=0:=rfl;refine rg ?_;refine rx @a1 ?_;refine xA @s1 ?_;refine rx @a2 ?_;refine xA @s8 ?_;refine xA @u ?_;refine xA (nd2 @m2 (nd2 @s8 @t)) ?_;refine rx @a3 ?_;refine xA @s0 ?_;refine xA (nd2 @m3 @t) ?_;refine xA (nd2 @m4 (nd2 @t @s0)) ?_;refine xA @u ?_;refine rt i ?_;rfl
def ZuG:Zf ZH1 240 [.int .u64 1,.int .u64 8] (.tup [.int .u64 0,.int .u64 8]):=by
 refine Zh (cR 240 f240) λF st i=>?_;refine rg ?_;refine iG ?_;refine cl (ZrL) ?_;refine rg ?_;refine rt i ?_;rfl
def Zxl(k:Int)(n:Nat):List D:=List.replicate n (.i k)++List.replicate (8-n) (.i 0)
def Zmf(k:Int)(T:St):Za ZH1 208 [QB [k],.i 8] T λr S=>∃z,T z=nO/\r=.ret (.msl z 0 8 8 1)/\S=T.upd z (.cells (List.replicate 8 (.i k))):=by
 refine Zb (cR 208 f208) λF u=>?_;have w1:IntKind.u64.wrap 1=1:=rfl;have w8:IntKind.u64.wrap 8=8:=rfl;have i8:IntKind.i64.wrap 8=8:=rfl;refine rg ?_;refine gI ?_;refine rx (nd2 @QB.eq_1 (nd2 @eQ1 (nd2 @w1 @w8))) ?_;refine cl (ZuG) ?_;refine gI ?_;refine rx @i8 ?_;refine⟨ω,ω,ω,by unfold big;omega,λz hz=>?_⟩;rw[show W6 [D.i 0] 8=List.replicate 8 (D.i 0) from rfl];refine rg ?_;have t:∀cs,Z1 (T.upd z (.cells cs)) z=sO cs:=λcs=>by simp only[Z1,ZH5]
 refine Zvf rfl rfl rfl rfl φ φ (t _) (by decide) (.elems (m:=1) (row:=λi=>itC ([k].getD i dE)) rfl) (by decide) (Zp ?_);simp only[Eqs,reduceCtorEq,ZH9,reduceIte,ZH6,ZIa,ZH7,ZIk];show Zv F _ [(7,.d (.msl z 0 8 8 1)),(8,.d (.i 1))] [] (T.upd z (.cells (Zxl k 1)));refine Zc (Zd ?_);refine JT ?_;refine rg ?_;refine i1 ?_;refine gA ?_;refine Zjl rfl rfl rfl rfl φ φ (t _) (by exact Nat.le_of_ble_eq_true rfl) (W3.msl (t _) (Nat.le_of_ble_eq_true rfl)) (by exact Nat.le_of_ble_eq_true rfl) (YM ?_);simp only[Eqs,reduceCtorEq,ZH9,reduceIte,ZH6,ZIa,ZH7,ZIk];refine aa ?_;show Zv F _ [(7,.d (.msl z 0 8 8 1)),(8,.d (.i 2))] [] (T.upd z (.cells (Zxl k 2)));refine Zk (Ze ?_);refine rg ?_;refine i1 ?_;refine gA ?_;refine Zjl rfl rfl rfl rfl φ φ (t _) (by exact Nat.le_of_ble_eq_true rfl) (W3.msl (t _) (Nat.le_of_ble_eq_true rfl)) (by exact Nat.le_of_ble_eq_true rfl) (YM ?_);simp only[Eqs,reduceCtorEq,ZH9,reduceIte,ZH6,ZIa,ZH7,ZIk];refine aa ?_;show Zv F _ [(7,.d (.msl z 0 8 8 1)),(8,.d (.i 4))] [] (T.upd z (.cells (Zxl k 4)));refine Zk (Ze ?_);refine rg ?_;refine i1 ?_;refine gA ?_;refine Zjl rfl rfl rfl rfl φ φ (t _) (by exact Nat.le_of_ble_eq_true rfl) (W3.msl (t _) (Nat.le_of_ble_eq_true rfl)) (by exact Nat.le_of_ble_eq_true rfl) (YM ?_);simp only[Eqs,reduceCtorEq,ZH9,reduceIte,ZH6,ZIa,ZH7,ZIk];refine aa ?_;show Zv F _ [(7,.d (.msl z 0 8 8 1)),(8,.d (.i 8))] [] (T.upd z (.cells (Zxl k 8)));refine Zk (Ze ?_);refine rg ?_;refine iG ?_;exact u.ret (.msl z 0 8 8 1) _ rfl φ (ZH3 _) ZH2 ⟨z,hz,rfl,rfl⟩
def Q3:List Hdr->Nat
 | []=>0
 |h::r=>I h.name+I h.text+Q3 r
mutual
def wtN:Val->Nat
 |.mk n _ b h p=>10+I n+I b+Q3 h+wtL p
def wtL:List Val->Nat
 | []=>0
 |v::r=>wtN v+wtL r
end
def ZaI(v):wtN v=10+I v.name+I v.bytes+Q3 v.hdrs+wtL v.parts:=by cases v;rfl
def ZvQ(v):10*Zal v<=wtN v:=by
 induction v using Val.ind with
 |h v ih =>
  rw[ZaI,Jk];have:∀l:List Val,(∀x∈l,10*Zal x<=wtN x)->10*nodesL l<=wtL l:=λl i=>by
   induction l with
   |nil=>simp[nodesL]
   |cons a r ih2 =>have h1:=i a ψ;have h2:=ih2 λx t=>i x (by simp[t]);simp only[nodesL,wtL];omega
  have:=this v.parts ih;omega
def Zwd{l x}(h:x∈l):wtN x<=wtL l:=by
 induction l with
 |nil=>simp at h
 |cons v r ih =>rcases List.mem_cons.1 h with rfl|h;simp only[wtL];omega;have:=ih h;simp only[wtL];omega
def hsW(n:Int)(l:List Hdr):Int:=l.foldl (λa h=>IntKind.i64.wrap (IntKind.i64.wrap (a+I h.name)+I h.text)) n
def ZAn{n}{l:List Hdr}{i}(h:i<I l):IntKind.i64.wrap (IntKind.i64.wrap (hsW n (l.take i)+(l.getD i dE).name.length)+(l.getD i dE).text.length)=hsW n (l.take (i+1)):=by
 rw[Yo h];simp[hsW]
def Zdt(f:Val->Int):Int->List Val->Int
 |n,[]=>n
 |n,x::r=>if n<=5000 then Zdt f (IntKind.i64.wrap (n+f x)) r else n
def Zrx{f n}{l:List Val}{i}(h:i<I l):Zdt f n (l.drop i)=if n<=5000 then Zdt f (IntKind.i64.wrap (n+f (l.getD i dE))) (l.drop (i+1)) else n:=by
 rw[Wn h];rfl
def ZqF(f:Val->Int)(v:Val)(depth:Int):Int :=
 if (dC (50<depth) ||decide ((500:Int)<I v.parts)) ||decide ((50:Int)<I v.hdrs) then 5001
 else Zdt f (hsW (IntKind.i64.wrap (IntKind.i64.wrap (10+I v.name)+I v.bytes)) v.hdrs) v.parts
def Zre:∀(l) (n:Int),0<=n->n+Q3 l<=1000000000000->hsW n l=n+Q3 l
 | [],n,_,_=>by simp[hsW,Q3]
 |h::r,n,h0,h1=>by simp only[Q3]at h1⊢;have e:hsW n (h::r)=hsW (IntKind.i64.wrap (IntKind.i64.wrap (n+I h.name)+I h.text)) r:=rfl;rw[e,Qi (n:=n+I h.name) ω,Qi ω,Zre r _ ω ω];omega
def Zqx(f:Val->Int):List Val->Int
 | []=>0
 |x::r=>f x+Zqx f r
def Zv8{f M}(hM:0<=M/\M<=900000000000):∀(l n),0<=n->n<=1000000000000->(∀x∈l,0<=f x/\f x<=M)->n<=Zdt f n l/\Zdt f n l<=max n (5000+M)/\(Zdt f n l<=5000->Zdt f n l=n+Zqx f l/\∀x∈l,f x<=5000)
 | [],n,h0,h1,_=>by simp only[Zdt,Zqx];exact⟨ω,ω,λ_=>⟨ω,λx t=>by simp at t⟩⟩
 |x::r,n,h0,h1,hf=>by have t:=hf x ψ;simp only[Zdt,Zqx];by_cases i:n<=5000;rw[if_pos i,Qi ω];obtain⟨a,b,c⟩:=Zv8 hM r (n+f x) ω ω λy hy=>hf y (by simp[hy]);refine⟨ω,ω,λhr=>?_⟩;obtain⟨c1,u⟩:=c hr;refine⟨ω,λy hy=>?_⟩;rcases List.mem_cons.1 hy with rfl|hy;omega;exact u y hy;rw[if_neg i];exact⟨ω,ω,λh=>by omega⟩
def ZwU{l k}(h:∀x∈l,ZP x<=k):heightL l<=k:=by
 induction l with
 |nil=>simp[heightL]
 |cons v r ih =>have h1:=h v ψ;have h2:=ih λx i=>h x (by simp[i]);simp only[heightL];omega
def ZDy{f:Val->Int}{l}(h:∀x∈l,f x=wtN x):Zqx f l=wtL l:=by
 induction l with
 |nil=>rfl
 |cons v r ih =>have h1:=h v ψ;have h2:=ih λx i=>h x (by simp[i]);simp only[Zqx,wtL];omega
def Zmr{s}(h:Y7 s=true):1<=I s/\I s<=32:=by
 cases s with
 |nil=>simp[Y7]at h
 |cons c r =>simp only[Y7,ZIb,decide_eq_true_eq]at h;exact⟨ψ,h.1.1⟩
def ZAl{l}(h:l.any ZdZ=false):Q3 l<=2097152*I l:=by
 induction l with
 |nil=>simp[Q3]
 |cons a r ih =>rw[List.any_cons,Bool.or_eq_false_iff]at h;have h2:=ih h.2;have i:=h.1;unfold ZdZ at i;simp only[Bool.or_eq_false_iff,decide_eq_false_iff_not]at i;simp only[Q3,ZIi];omega
def QF{v}(h:Jj v=true):(1<=I v.name/\I v.name<=32)/\(0<=v.int/\v.int<34359738368)/\I v.bytes<=1048576/\I v.hdrs<=100/\Q3 v.hdrs<=2097152*I v.hdrs/\Y7 v.name=true:=by
 unfold Jj at h;simp only[ZIb,decide_eq_true_eq,Bool.not_eq_true']at h;obtain⟨⟨⟨⟨⟨i,t⟩,u⟩,h4⟩,h5⟩,h6⟩:=h;exact⟨Zmr i,⟨t,u⟩,ω,ω,ZAl h6,i⟩
def ZpC{h:Hdr}:Zf ZH1 130 [.agg h.cells] (.bool (ZdZ h)):=by
 refine Zh (cR 130 f130) λF st i=>?_;have t:dC ((1048576:Int)<max (I h.name:Int) (I h.text:Int))=ZdZ h:=by unfold ZdZ;rw[<-Bool.decide_or];exact decide_eq_decide.2 ω
 refine rx @Hdr.cells.eq_1 ?_;refine rg ?_;refine rb i ?_;exact t
def ZqD(l):Zf ZH1 123 [slD 2 Hdr.cells l,.fn (.func 130) [] []] (.bool (l.any ZdZ)) :=
 λst=>Jz l (λ_=>st) λi _=> ZpC.VT (first:=[]) (caps:=[]) st
def Zsb(v):Zf ZH1 82 [.agg v.cells] (.bool (Jj v)):=by
 refine Zh (cR 82 f82) λF st i=>?_;rw[v.cells_eq];refine gG ?_;refine rx (nd2 @KH @Zj5) ?_;refine cX (nd2 @KH @Zj5) (Za2 _) ?_;refine cG (ZqD v.hdrs) ?_;refine rb i ?_;unfold Jj;rfl
mutual
def Qj:Val->Int->List (Int×Val)
 |.mk n i b hd p,h=>(h,.mk n i b hd p)::preWL p (IntKind.i64.wrap (h+1))
def preWL:List Val->Int->List (Int×Val)
 | [],_=>[]
 |v::r,h=>Qj v h++preWL r h
end
def ZhH(v)(h:Int):Qj v h=(h,v)::preWL v.parts (IntKind.i64.wrap (h+1)):=by cases v;rfl
def ZoW{l:List Val}{i}(h:i<I l)(k):preWL (l.take (i+1)) k=preWL (l.take i) k++Qj (l.getD i dE) k:=by
 rw[Yo h];generalize l.getD i dE=x;induction l.take i with
 |nil=>simp[preWL]
 |cons y r ih=>simp only[List.cons_append,preWL,ih,ZIv]
def ZuQ{l i}(h:i<I l)(k):preWL l k=preWL (l.take i) k++(Qj (l.getD i dE) k++preWL (l.drop (i+1)) k):=by
 have t:∀a b:List Val,preWL (a++b) k=preWL a k++preWL b k:=λa b=>by
  induction a with
  |nil=>rfl
  |cons x r ih=>simp only[List.cons_append,preWL,ih,ZIv]
 conv=>lhs;rw[<-List.take_append_drop (i+1) l]
 rw[t,ZoW h,ZIv]
def hvA(L:List (Int×Val))(j:Nat):List D:=[.i (L.getD j dE).1,.agg (L.getD j dE).2.cells]
def ZdF(v:Val)(h:Int)(za zv:Nat):St:=(ZIu za (.cells [.i h])).or (ZIu zv (.cells v.cells))
def ZBN{v}{h:Int}{za zv}:(ZdF v h za zv) za=sO (.cells [.i h]):=Zs Yi
def ZBO{v}{h:Int}{za zv}(i:zv≠za):(ZdF v h za zv) zv=sO (.cells v.cells):=by
 unfold ZdF;rw[ZG (Za1 i)];exact Yi
def ZqX{st v}{h:Int}{za zv}(u:st za=nO)(h3:st zv=nO):Z8 st (ZdF v h za zv):=λb o i=>by
 unfold ZdF at i;cases t:(ZIu za (.cells [.i h])) b with
 |some x=>exact Wl u _ _ t
 |none=>rw[ZG t]at i;exact Wl h3 _ _ i
def Zjd(v)(h:Int)(st):Za ZH1 81 [.agg v.cells,.i h] st λr S=>∃t u,st t=nO/\st u=nO/\u≠t/\r=.ret (.fn (.func 129) [] [.ptr t 0,.ptr u 0])/\S=st.or (ZdF v h t u):=by
 refine Zb (cR 81 f81) λF hF=>?_;have hE:∀t u,ZdF v h t u=(ZIu t (.cells [.i h])).or (ZIu u (.cells v.cells)):=λ_ _=>rfl;rw[v.cells_eq]at hE⊢;refine rg ?_;refine Zc ?_;refine xP 3 λt ha=>?_;refine xP 2 λu hv=>?_;have i:=Zm hv;refine rg ?_;refine hF.ret _ _ rfl φ (ZH3 _) ZH2 ⟨t,u,ha,i.2,i.1,rfl,?_⟩;rw[K6 hv,K6 ha,or_assoc,hE]
def Mk.or{T a}:∀{qs S},Mk T qs S->Z8 a S->Mk (a.or T) qs (a.or S)
 | [],S,hm,_=>by rw[show S=T from hm];rfl
 |q::qs,S,hm,hd=>by
  obtain⟨S',h1,h2,rfl⟩:=hm;have hq:a q=nO:=hd q _ (ZH5 _ _ _);have i:Z8 a S':=λb o u=>hd b o (by rw[ZH8 _ _ (λe=>by rw[e,h2]at u;simp at u)];exact u);refine⟨a.or S',h1.or i,by rw[ZG hq];exact h2,?_⟩;funext c;by_cases hc:c=q;subst hc;rw[ZH5,ZG hq,ZH5];rw[ZH8 _ _ hc];cases t:a c with
  |some x=>rw[Zs t,Zs t]
  |none=>rw[ZG t,ZG t,ZH8 _ _ hc]
def Mk.unwS{P A m Ψ}(h:Ψ m A):∀{qs S},Mk A qs S->Unw P (qs.map .mark) m S Ψ
 | [],S,hm=>by rw[show S=A from hm];exact h
 |q::qs,S,hm=>by
  obtain⟨S',t,u,rfl⟩:=hm;refine⟨ZH5 _ _ _,?_⟩;have e:(S'.upd q .dfr).del q=S':=by funext c;by_cases i:c=q;subst i;simp[St.del,u];simp[St.del,ZID,i]
  rw[e];exact Mk.unwS h t
def Jd{s t:St}{b}(h:(s.or t) b=nO):s b=nO/\t b=nO:=by
 cases i:s b with
 |none=>rw[ZG i]at h;exact⟨rfl,h⟩
 |some o=>rw[Zs i]at h;simp at h
def ZBL{a s t}(h1:Z8 a s)(h2:Z8 (a.or s) t):Z8 a (s.or t):=λb o i=>by
 cases u:s b with
 |some x=>exact h1 b x u
 |none =>rw[ZG u]at i;exact(Jd (h2 b o i)).1
def ZhF{s t:St}{b o}(h:s b=nO):(s.or t).upd b o=s.or (t.upd b o):=by
 funext c;by_cases u:c=b;subst u;rw[ZH5,ZG h,ZH5];rw[ZH8 _ _ u];cases i:s c with
 |some x=>rw[Zs i,Zs i]
 |none=>rw[ZG i,ZG i,ZH8 _ _ u]
def Zf8{s t b o}(hd:Z8 s t)(h:s b=nO):Z8 s (t.upd b o):=λc x u=>by
 by_cases i:c=b;subst i;exact h;rw[ZH8 _ _ i]at u;exact hd c x u
def Ztl{s a t u:St}(h1:Z8 s (t.or u))(h2:Z8 (a.or t) u):Z8 s t/\Z8 (s.or t) u:=by
 refine⟨λb o i=>h1 b o (Zs i),λb o i=>?_⟩;have h3:=(Jd (h2 b o i)).2;have h4:=h1 b o (by rw[ZG h3];exact i);rw[ZG h4];exact h3
def goE(go:Nat->Oc)(k j:Nat):Oc:=match go (k+j) with
 |.next=>.next
 |.stop _=>.stop (.exit 0)
 |.pan d=>.pan d
def ZAh{i k j}(h:goE i k j=.next):i (k+j)=.next:=by
 unfold goE at h;split at h<;>first|assumption|simp at h
def Zlx{i k n}(t:∀j,j<k->i j=.next)(u:∀j,j<n->goE i k j=.next):∀j,j<k+n->i j=.next:=λj hj=>by
 by_cases h:j<k;exact t j h;have:=ZAh (u (j-k) ω)
 rwa [show k+(j-k)=j by omega]at this
def ZAe{α:Type}[Inhabited α]{a b c:List α}{k j}(t:k=I a)(i:j<I b):(a++(b++c)).getD (k+j) dE=b.getD j dE:=by
 subst t;simp[ZIg,ZIL,ZIB i]
def ZpA(v):∀(h:Int) (za zv),zv≠za->Zjp ZH1 (.fn (.func 129) [] [.ptr za 0,.ptr zv 0]) (Qj v h).length (hvA (Qj v h)) (ZdF v h za zv):=by
 induction v using Val.ind with
 |h v ih =>
 intro h za zv bb l go A a0 al hA hd;have hL:=ZhH v h;obtain⟨h1,a6⟩:∃h1,h1=IntKind.i64.wrap (h+1):=⟨_,rfl⟩;rw[<-a6]at hL;generalize Qj v h=LL at *;have aq:0<LL.length:=by rw[hL];simp
 have be:hvA LL 0=[.i h,.agg [.str v.name,.i v.int,Zo v.bytes,Ym v.hdrs,Z7 v.parts]]:=by unfold hvA;rw[hL,<-ZIq];rfl
 refine Za.V (first:=[]) (args:=[.fn (.yield l) [] []]) (caps:=[.ptr za 0,.ptr zv 0]) (Zb (cR 129 f129) λF hF=>?_);have ga:=ZBN (v:=v) (h:=h) (za:=za) (zv:=zv);have gv:=ZBO (v:=v) (h:=h) bb;rw[ZIq]at gv;generalize ZdF v h za zv=T at *;refine rg ?_;refine Yr (Zc (Zc ?_));refine xP 3 λz3 h3=>?_;obtain⟨av,ak⟩:=Jd h3;have a9:((a0.or T).upd z3 (.cells [.fn (.yield l) [] []]))=a0.or (T.upd z3 (.cells [.fn (.yield l) [] []])):=ZhF av;rw[a9];clear a9;have am:=Zf8 (o:=.cells [.fn (.yield l) [] []]) hd av;have g3:(T.upd z3 (.cells [.fn (.yield l) [] []])) z3=sO (.cells [.fn (.yield l) [] []]):=ZH5 _ _ _;have ay:(T.upd z3 (.cells [.fn (.yield l) [] []])) za=sO (.cells [.i h]):=by rw[ZH8 _ _ (λe=>by rw[<-e,ga]at ak;simp at ak)];exact ga
 have az:(T.upd z3 (.cells [.fn (.yield l) [] []])) zv=sO (.cells [.str v.name,.i v.int,Zo v.bytes,Ym v.hdrs,Z7 v.parts]):=by rw[ZH8 _ _ (λe=>by rw[<-e,gv]at ak;simp at ak)];exact gv
 clear h3 av ak ga gv hd;generalize (T.upd z3 (.cells [.fn (.yield l) [] []]))=T3 at *;have rd:∀{a Tq:St} {b:Nat} {o:Qv},Z8 a Tq->Tq b=sO o->(a.or Tq) b=sO o:=λao hb=>by rw[ZG (ao _ _ hb)];exact hb
 have u:=(al 0 aq (λi hi=>absurd hi (Nat.not_lt_zero _)) a0 hA).frame am;rw[be]at u;refine rh ?_;refine Zp ?_;simp only[Eqs,reduceCtorEq,ZH9,reduceIte,ZH6,ZIa,ZH7,rd am g3,rd am ay,rd am az];refine vV (u) ?_ ?_
 .rintro d S ⟨s',⟨hr,ac⟩,ad,rfl⟩;cases t:go 0 with
  |next =>
   rw[t]at hr;cases hr;refine gR0 ?_;refine i0 ?_;refine rh ?_;refine Zp ?_;simp only[Eqs,reduceCtorEq,ZH9,reduceIte,ZH6,ZIa,ZH7,rd ad az,Zdl];refine ZBk 14 rfl λba=>?_;have hw:=Zuv ba;unfold big at hw;clear ba u am hA;refine Zd ?_;refine lpU (λQ=>∀(n i:Nat),(I v.parts)-i=n->∀(F:Fr ZH1) (qs:List Nat) (Tq a:St),YL F [] (λr S=>∃a,Zhj LL.length go A a r/\a.sub S) (qs.map .mark)->Mk T3 qs Tq->Z8 a Tq->A (1+(preWL (v.parts.take i) h1).length) a->(∀j,j<1+(preWL (v.parts.take i) h1).length->go j=.next)->i<=I v.parts->Q F [(1,.d (.ptr za 0)),(3,.d (.ptr z3 0)),(14,.d (Z7 v.parts)),(15,.d (.i (I v.parts))),(16,.d (.i i))] [] (a.or Tq)) ?_ λbg=>?_
   .intro n;induction n using Nat.strongRecOn with
    |ind n ih_key =>
    clear ad ac t hF s';intro i hn F qs Tq a hF aj ao hA ah hi;refine rg ?_;refine Zc (Zl rfl trivial (λhc=>?_) (λhc=>?_))
    .simp at hc;have bc:=QX hc;have a8:=Zu hc;have hT:=ZoW hc h1;have hS:=ZuQ hc h1;have bf:=ih _ a8;generalize hk:1+(preWL (v.parts.take i) h1).length=k at *;generalize hx:v.parts.getD i dE=x at *;refine xA (nd2 @atV @bc) ?_;refine rh ?_;refine WM ?_;simp only[Eqs,reduceCtorEq,ZH9,reduceIte,ZH6,ZIa,ZH7,W5,KC,rd ao (aj.get ay)];refine Zb6 rfl rfl rfl φ (WM ?_);simp only[Eqs,reduceCtorEq,ZH9,reduceIte,ZH6,ZIa,ZH7,W5,KC];rw[<-a6];have a5:=Zjd x h1 (a.or Tq);rw[ZIq]at a5;refine cV (a5) ?_ ?_
     .rintro dd S ⟨zx,zy,n1,n2,ne,hr,rfl⟩;cases hr;refine gR0 ?_;refine Zd ?_;refine Kt hF rfl trivial [1,3,14,15,16] (by show([1,3,14,15,16]:List Nat).Nodup;decide) (ZqX n1 n2) (bf h1 zx zy ne) (λj hj=>rfl) (goE go k) (λj s=>∃a,s=a.or Tq/\A (k+j) a/\Z8 a Tq) ⟨a,rfl,hA,ao⟩ ?_ ?_ ?_ ?_ ?_ ?_
      .rintro j _ hj ab ⟨a1,rfl,af,ae⟩ F' ready busy hdr a4 ap;have a7:LL.getD (k+j) dE=(Qj x h1).getD j dE:=by rw[hL,hS,<-hk,<-List.cons_append];exact ZAe (by simp;omega) hj
       have ar:k+j<LL.length:=by rw[hL,hS];simp only[ZIi,ZIc];omega
       have u:=al (k+j) ar (λi hi=>Zlx ah ab i hi) a1 af;unfold hvA at u;rw[a7]at u;simp only[Eqs,reduceCtorEq,ZH9,reduceIte,ZH6,ZIa,ZH7,WB,W1,Q5,Ke,List.isEmpty_nil,List.isEmpty_cons,hvA];generalize (Qj x h1).getD j dE=g at *;obtain⟨gh,gx⟩:=g;simp only[ZIq]at u⊢;refine gG ?_;refine a4 λax=>?_;have ai:=u.frame (ZBL ae ax);rw[<-or_assoc]at ai;refine rh ?_;refine Zp ?_;simp only[Eqs,reduceCtorEq,ZH9,reduceIte,ZH6,ZIa,ZH7,Zs (rd ae (aj.get g3))];refine vV (ai) ?_ ?_
       .rintro d S ⟨s',⟨hr,ac⟩,ad,rfl⟩;have ag:=Ztl ad ax;rw[<-or_assoc];cases t:go (k+j) with
        |next =>rw[t]at hr;cases hr;refine gR0 ?_;refine i0 ?_;refine ZE (Zk ?_);exact ap.fin ⟨by unfold goE;rw[t],s',rfl,ac,ag.1⟩ ag.2 ZH2
        |stop c =>rw[t]at hr;cases hr;refine gR0 ?_;refine i1 ?_;exact ap.exit rfl ⟨by unfold goE;rw[t],s',rfl,ac,ag.1⟩ ag.2 ZH2
        |pan d=>rw[t]at hr;cases hr
       rintro d S ⟨s',⟨hr,ac⟩,ad,rfl⟩;have ag:=Ztl ad ax;cases t:go (k+j) with
       |pan d' =>rw[t]at hr;cases hr;rw[<-or_assoc];exact ap.pan ⟨by unfold goE;rw[t],s',rfl,ac,ag.1⟩ ag.2 ZH2
       |next=>rw[t]at hr;cases hr
       |stop c=>rw[t]at hr;cases hr
      rintro q _ ab ⟨a1,rfl,af,ae⟩ hq;obtain⟨q1,q2⟩:=Jd hq;rw[ZhF q1];have au:1+(preWL (v.parts.take (i+1)) h1).length=k+(Qj x h1).length:=by rw[hT,ZIc];omega
      refine gA ?_;refine Ze ?_;exact ih_key (I v.parts-(i+1)) ω (i+1) rfl (F.mark q) (q::qs) (Tq.upd q .dfr) a1 (hF.mark q) ⟨Tq,aj,q2,rfl⟩ (Zf8 ae q1) (by rw[au];exact af) (by rw[au];exact Zlx ah ab) ω;rintro q _ m hm ab t;unfold goE at t;split at t<;>simp at t;rintro q _ m id hm ab t ⟨a1,rfl,af,ae⟩ hq;obtain⟨q1,q2⟩:=Jd hq;rw[ZhF q1];have ar:k+m<LL.length:=by rw[hL,hS];simp only[ZIi,ZIc];omega
      unfold goE at t;split at t;simp at t;rename_i c aw;simp only[Oc.stop.injEq,Code.exit.injEq]at t;subst t;refine ZO rfl ?_;refine Z5 ?_;exact(hF.mark q).finU (Mk.unwS (m:=nO) (qs:=q::qs) (A:=a1.or T3) ⟨_,_,.tup [],_,rfl,trivial,ZH3 _,ZH2,a1,.stop (k+m) c ar (Zlx ah ab) aw af,KD⟩ (Mk.or (qs:=q::qs) (S:=Tq.upd q .dfr) ⟨Tq,aj,q2,rfl⟩ (Zf8 ae q1)));simp at t;rintro q _ m d hm ab t ⟨a1,rfl,af,ae⟩ hq;obtain⟨q1,q2⟩:=Jd hq;rw[ZhF q1];have ar:k+m<LL.length:=by rw[hL,hS];simp only[ZIi,ZIc];omega
      unfold goE at t;split at t;simp at t;simp at t;rename_i d' aw;simp only[Oc.pan.injEq]at t;subst t;exact(hF.mark q).panU (Mk.unwS (m:=sO _) (qs:=q::qs) (A:=a1.or T3) ⟨_,_,ZH3 _,ZH2,a1,.pan (k+m) _ ar (Zlx ah ab) aw af,KD⟩ (Mk.or (qs:=q::qs) (S:=Tq.upd q .dfr) ⟨Tq,aj,q2,rfl⟩ (Zf8 ae q1)));intro m c t;unfold goE at t;split at t<;>simp at t;exact .inr ⟨0,t.symm⟩
     rintro dd S ⟨zx,zy,n1,n2,ne,hr,_⟩;cases hr
    simp at hc;obtain rfl:i=I v.parts:=ω;rw[ZIC]at hA ah;have a3:LL.length=1+(preWL v.parts h1).length:=by rw[hL,ZIi];omega
    rw[<-a3]at hA ah;refine ZO rfl (Z5 ?_);exact hF.finU (Mk.unwS (m:=nO) (A:=a.or T3) ⟨_,_,.tup [],_,rfl,trivial,ZH3 _,ZH2,a,.all ah hA,KD⟩ (Mk.or aj ao))
   exact bg _ 0 rfl F [] T3 s' hF rfl ad (by simpa[preWL]using ac) (λj hj=>by
    obtain rfl:j=0:=by simp[preWL]at hj;omega
    exact t) ω
  |stop c =>rw[t]at hr;cases hr;refine gR0 ?_;refine i1 ?_;exact hF.ret (.tup []) _ rfl trivial (ZH3 _) ZH2 ⟨s',.stop 0 c aq (λi hi=>absurd hi (Nat.not_lt_zero _)) t ac,KD⟩
  |pan d=>rw[t]at hr;cases hr
 rintro d S ⟨s',⟨hr,ac⟩,ad,rfl⟩;cases t:go 0 with
 |pan d' =>rw[t]at hr;cases hr;exact hF.pan _ ZH2 ⟨s',.pan 0 d aq (λi hi=>absurd hi (Nat.not_lt_zero _)) t ac,KD⟩
 |next=>rw[t]at hr;cases hr
 |stop c=>rw[t]at hr;cases hr
def Zgj{l}{h:Int}{p}:p∈preWL l h↔∃x∈l,p∈Qj x h:=by
 induction l with
 |nil=>simp[preWL]
 |cons v r ih=>simp only[preWL,List.mem_append,ih,ZIF,exists_eq_or_imp]
def Zt4(v):∀h,(Qj v h).length=Zal v:=by
 induction v using Val.ind with
 |h v ih =>
  intro h;rw[ZhH,Jk,ZIi];have:∀(l:List Val) (k:Int),(∀x∈l,∀k,(Qj x k).length=Zal x)->(preWL l k).length=nodesL l:=λl k i=>by
   induction l with
   |nil=>simp[preWL,nodesL]
   |cons a r ih2=>rw[preWL,ZIc,i a ψ,ih2 λx t=>i x (by simp[t]),nodesL]
  rw[this v.parts _ ih];omega
def ZvY(v):∀h,ZX v=true↔∀p∈Qj v h,Jj p.2=true:=by
 induction v using Val.ind with
 |h v ih =>intro h;rw[ZhH,Zfs,ZIb,ZeF,List.all_eq_true];constructor;rintro⟨u,h2⟩ p hp;rcases List.mem_cons.1 hp with rfl|hp;exact h2;obtain⟨x,t,hp⟩:=Zgj.1 hp;exact(ih x t _).1 (u x t) p hp;intro i;refine⟨λx t=>(ih x t _).2 λp hp=>i p (List.mem_cons_of_mem _ (Zgj.2 ⟨x,t,hp⟩)),i (h,v) ψ⟩
def ZAK(v):∀h:Int,0<=h->h+ZP v<=4611686018427387904->∀p∈Qj v h,p.1<h+ZP v:=by
 induction v using Val.ind with
 |h v ih =>intro h h0 t p hp;rw[ZhH]at hp;rw[QA]at t⊢;rcases List.mem_cons.1 hp with rfl|hp;show h<_;omega;obtain⟨x,i,hp⟩:=Zgj.1 hp;have h1:=ZgT i;rw[Qi ω]at hp;have:=ih x i (h+1) ω ω p hp;omega
def ZwT{l k}(h:k<heightL l):∃x∈l,k<ZP x:=by
 induction l with
 |nil=>simp[heightL]at h
 |cons v r ih =>simp only[heightL]at h;by_cases i:k<ZP v;exact⟨v,ψ,i⟩;obtain⟨x,u,t⟩:=ih ω;exact⟨x,by simp[u],t⟩
def Zxd(v):∀(k:Nat) (h:Int),0<=h->h+k<=4611686018427387904->k<ZP v->∃p∈Qj v h,p.1=h+k:=by
 induction v using Val.ind with
 |h v ih =>
  intro k h h0 hb hk;rw[ZhH];cases k with
  |zero=>exact⟨(h,v),ψ,ψ⟩
  |succ k =>rw[QA]at hk;obtain⟨x,t,i⟩:=ZwT (show k<heightL v.parts by omega);rw[Qi ω];obtain⟨p,hp,u⟩:=ih x t k (h+1) ω ω i;exact⟨p,List.mem_cons_of_mem _ (Zgj.2 ⟨x,t,hp⟩),by rw[u];omega⟩
def ZgI(L:List (Int×Val))(j:Nat):Bool:=(dC ((65536:Int)<(j:Int)+1) ||decide ((40:Int)<(L.getD j dE).1))||!Jj (L.getD j dE).2
def ZzA{v}(h:∀j,j<(Qj v 1).length->ZgI (Qj v 1) j=false):KM v=true:=by
 have hl:=Zt4 v 1;have t:∀p∈Qj v 1,p.1<=40/\Jj p.2=true:=λp t=>by obtain⟨j,hj,rfl⟩:=ZIl t;have:=h j hj;unfold ZgI at this;simp only[Bool.or_eq_false_iff,decide_eq_false_iff_not,Bool.not_eq_false',List.getD_eq_getElem?_getD,ZIw hj,ZIH]at this;exact⟨ω,this.2⟩
 have h0:0<Zal v:=by rw[Jk];omega
 have u:=h ((Qj v 1).length-1) ω;unfold ZgI at u;simp only[Bool.or_eq_false_iff,decide_eq_false_iff_not]at u;unfold KM;rw[(ZvY v 1).2 λp i=>(t p i).2,Bool.and_true,ZIb,decide_eq_true_eq,decide_eq_true_eq];refine⟨ω,?_⟩;by_cases hh:ZP v<=40;omega;obtain⟨p,i,he⟩:=Zxd v 40 1 ω ω ω;have:=(t p i).1;omega
def Zzz{v j}(hj:j<(Qj v 1).length)(h:ZgI (Qj v 1) j=true):KM v=false:=by
 cases i:KM v with
 |false=>rfl
 |true =>exfalso;unfold KM at i;simp only[ZIb,decide_eq_true_eq]at i;obtain⟨⟨h1,h2⟩,t⟩:=i;have hl:=Zt4 v 1;have hm:(Qj v 1).getD j dE∈Qj v 1:=Zu hj;have h4:=ZAK v 1 ω ω _ hm;have u:=(ZvY v 1).1 t _ hm;unfold ZgI at h;rw[u]at h;simp only[Bool.not_true,Bool.or_false,ZIp,decide_eq_true_eq]at h;omega
def ZqC(v):Zf ZH1 40 [.agg v.cells] (.bool (KM v)):=by
 refine λst=>Zb (cR 40 f40) λF hF=>?_;have ai:=Zjd v 1 st;have aq:=ZpA v 1;have ad:=ZzA (v:=v);have af:=λj=>Zzz (v:=v) (j:=j);rw[ZIq]at ai⊢;generalize Qj v 1=L at *;refine gG ?_;refine rg ?_;refine cV (ai) ?_ ?_
 .rintro dd S ⟨za,zv,n1,n2,ne,hr,rfl⟩;cases hr;refine gR0 ?_;refine Zd ?_;refine xP 2 λz2 h2=>?_;obtain⟨aj,ak⟩:=Jd h2;rw[WU];refine xP 3 λz3 h3=>?_;obtain⟨al,am⟩:=Jd h3;rw[WU];have k3:=Zm al;have g2:∀c,((st.upd z2 (.cells [.bool false])).upd z3 c) z2=sO (.cells [.bool false]):=λc=>by rw[ZH8 _ _ (Ne.symm k3.1)];exact ZH5 _ _ _
  have g3:∀c,((st.upd z2 (.cells [.bool false])).upd z3 c) z3=sO c:=λc=>ZH5 _ _ _;have ac:∀c o,st.sub (((st.upd z2 (.cells [.bool false])).upd z3 c).upd z2 o):=λc o b x hb=>by
   have e2:b≠z2:=λe=>by rw[e,aj]at hb;simp at hb
   have e3:b≠z3:=λe=>by rw[e,k3.2]at hb;simp at hb
   rw[ZH8 _ _ e2,ZH8 _ _ e3,ZH8 _ _ e2];exact hb
  have ap:∀c,Z8 ((st.upd z2 (.cells [.bool false])).upd z3 c) (ZdF v 1 za zv):=λc b o hb=>by
   have e2:b≠z2:=λe=>by rw[e,ak]at hb;simp at hb
   have e3:b≠z3:=λe=>by rw[e,am]at hb;simp at hb
   rw[ZH8 _ _ e3,ZH8 _ _ e2];exact ZqX n1 n2 b o hb
  refine Kt hF rfl trivial [2,3] (by show([2,3]:List Nat).Nodup;decide) (ap _) (aq za zv ne) (λj hj=>rfl) (λj=>if ZgI L j then .stop .ret else .next) (λj a=>a=(st.upd z2 (.cells [.bool false])).upd z3 (.cells [.i j])) rfl ?_ ?_ ?_ ?_ ?_ ?_
  .intro j a hj u hB F' ready ae hdr ah t;subst hB;have hj2:j<=65536:=by refine Nat.le_of_not_lt λar=>?_;have:=u 65536 ar;rw[if_pos (by unfold ZgI;simp)]at this;simp at this
   have hN:=Zsb (L.getD j dE).2;have ag:=ZgI.eq_1 L j;simp only[Eqs,reduceCtorEq,ZH9,reduceIte,ZH6,ZIa,ZH7,WB,W1,Q5,Ke,List.isEmpty_nil,List.isEmpty_cons,hvA];generalize L.getD j dE=g at *;obtain⟨gh,gx⟩:=g;simp only[ZIq]at hN ag⊢;refine gG ?_;refine ah λao=>?_;have ab:Z8 ((st.upd z2 (.cells [.bool false])).upd z3 (.cells [.i ((j+1:Nat):Int)])) ae:=λb o hb=>by have h1:=Zm (ao b o hb);rw[ZH8 _ _ h1.1];exact h1.2
   refine rh ?_;refine Zp ?_;simp only[Eqs,reduceCtorEq,ZH9,reduceIte,ZH6,ZIa,ZH7,Zs (g3 _),WU];refine aa ?_;rw[ZIk,show(j:Int)+1=((j+1:Nat):Int) by omega];refine rh ?_;refine Zp ?_;simp only[Eqs,reduceCtorEq,ZH9,reduceIte,ZH6,ZIa,ZH7,Zs (g3 _)];refine cG (hN) ?_;rw[show((j+1:Nat):Int)=(j:Int)+1 by omega,<-ag];cases hb:ZgI L j with
   |true =>rw[hb]at t;refine i1 ?_;refine rh ?_;refine Zp ?_;simp only[Eqs,reduceCtorEq,ZH9,reduceIte,ZH6,ZIa,ZH7,Zs (g2 _),WU];rw[show(j:Int)+1=((j+1:Nat):Int) by omega,St.upd_self (g2 _)];exact t.ret ⟨rfl,rfl⟩ ab ZH2
   |false =>rw[hb]at t;refine i0 ?_;refine ZE (Zk ?_);rw[show(j:Int)+1=((j+1:Nat):Int) by omega];exact t.fin ⟨rfl,rfl⟩ ab ZH2
  intro q a u hB hq;subst hB;have hv:KM v=true:=ad λj hj=>by have:=u j hj;split at this;simp at this;rename_i h;simpa using h
  rw[K6 hq];have au:(((st.upd z2 (.cells [.bool false])).upd z3 (.cells [.i L.length])).upd z2 (.cells [.bool true])) q=nO:=by rw[ZH8 _ _ (λe=>by rw[e,g2]at hq;simp at hq)];exact hq
  have gg:(((st.upd z2 (.cells [.bool false])).upd z3 (.cells [.i L.length])).upd z2 (.cells [.bool true])) z2=sO (.cells [.bool true]):=ZH5 _ _ _;refine rh ?_;refine Zp ?_;simp only[Eqs,reduceCtorEq,ZH9,reduceIte,ZH6,ZIa,ZH7,Zs (g2 _),WU];exact hF.ret1 au (.bool true) st (by simp only[Eqs,reduceCtorEq,ZH9,reduceIte,ZH6,ZIa,ZH7,Yw,Kf,gg];rfl) φ (ZH3 _) (ac _ _) ⟨by rw[hv],rfl⟩;intro q a m hm u i hB hq;subst hB;have hb:ZgI L m=true:=by split at i;assumption;simp at i
  rw[K6 hq];have hs:st.sub ((st.upd z2 (.cells [.bool false])).upd z3 (.cells [.i ((m+1:Nat):Int)])):=by
   have:=ac (.cells [.i ((m+1:Nat):Int)]) (.cells [.bool false])
   rwa [St.upd_self (g2 _)]at this
  exact hF.ret1 hq (.bool false) st (by simp only[Eqs,reduceCtorEq,ZH9,reduceIte,ZH6,ZIa,ZH7,Yw,Kf,g2];rfl) φ (ZH3 _) hs ⟨by rw[af m hm hb],rfl⟩;intro q a m id hm u i;split at i<;>simp at i;intro q a m d hm u i;split at i<;>simp at i;intro m c i;split at i<;>simp at i;exact .inl i.symm
 rintro dd S ⟨za,zv,n1,n2,ne,hr,_⟩;cases hr
def YA(row:Nat->List D):Nat->List D
 |0=>[]
 |n+1=>YA row n++row n
def QL{row}:∀{n},(∀j,j<n->(row j).length=5)->(YA row n).length=n*5
 |0,_=>rfl
 |n+1,h=>by rw[YA,ZIc,QL λj hj=>h j ω,h n ω];omega
def Zmo{row row'}:∀{n},(∀j,j<n->row j=row' j)->YA row n=YA row' n
 |0,_=>rfl
 |n+1,h=>by rw[YA,YA,Zmo λj hj=>h j ω,h n ω]
def Za8{row}(X):∀{n j},(∀j,j<n->(row j).length=5)->j<n->part (YA row n++X) (j*5) 5=row j
 |0,j,_,hj=>absurd hj (Nat.not_lt_zero _)
 |n+1,j,h,hj=>by rcases Nat.lt_or_eq_of_le (Nat.le_of_lt_succ hj) with h1|rfl;have:=Za8 (row n++X) (n:=n) (j:=j) (λk i=>h k ω) h1;rw[YA,ZIv];exact this;unfold part;rw[YA,ZIv,List.drop_left' (QL λk i=>h k ω),List.take_left' (h j ω)]
def ZjU{row}(X k ds)(t:k+I ds<=5):∀{n j},(∀j,j<n->(row j).length=5)->j<n ->
  Zt (YA row n++X) (j*5+k) ds=YA (λi=>if i=j then Zt (row j) k ds else row i) n++X
 |0,j,_,hj=>absurd hj (Nat.not_lt_zero _)
 |n+1,j,h,hj=>by
  have hl:(YA row n).length=n*5:=QL λk t=>h k ω;rcases Nat.lt_or_eq_of_le (Nat.le_of_lt_succ hj) with h1|rfl;have ih:=ZjU (row n++X) k ds t (n:=n) (j:=j) (λk t=>h k ω) h1;rw[YA,ZIv,ih,YA,if_neg ω,ZIv];have hr:=h j ω;have h2:YA (λi=>if i=j then Zt (row j) k ds else row i) j=YA row j:=Zmo λi hi=>by rw[if_neg ω]
  have u:j*5+k-j*5=k:=ω;have e2:j*5+k+I ds-j*5=k+I ds:=ω;have t1:(YA row j).take (j*5+k)=YA row j:=List.take_of_length_le ω;have t2:(YA row j).drop (j*5+k+I ds)=[]:=List.drop_eq_nil_of_le ω;rw[YA,YA,h2,if_pos rfl];unfold Zt;rw[ZIv (YA row j),List.take_append,List.take_append,List.drop_append,List.drop_append,hl,hr,u,e2,t1,t2,show k-5=0 by omega,show k+I ds-5=0 by omega];simp
inductive MT(T:St):Val->List D->List Nat->Prop where
 |leaf (n:Str) (i:Int) (b:Str) (h:List Hdr):MT T (.mk n i b h []) [.str n,.i i,Zo b,Ym h,Z7 []] []
 |node (n:Str) (i:Int) (b:Str) (h:List Hdr) (ps:List Val) (x cap:Nat) (row:Nat->List D) (fp:Nat->List Nat) (X:List D) (hp:0<I ps) (hb:T x=some (.cells (YA row (I ps)++X))) (hc:I ps<=cap)
   (hx:∀j,j<I ps->MT T (ps.getD j default) (row j) (fp j)) (hn:∀j,j<I ps->x∉fp j) (hd:∀j k,j<I ps->k<I ps->j≠k->∀y∈fp j,y∉fp k) :
   MT T (.mk n i b h ps) [.str n,.i i,Zo b,Ym h,.msl x 0 (I ps) cap 5] (x::(ZIf (I ps)).flatMap fp)
def MT.len{T v c fp}(h:MT T v c fp):I c=5:=by cases h<;>rfl
def MT.mono{T T' v c fp}(h:MT T v c fp)(t:∀y∈fp,T' y=T y):MT T' v c fp:=by
 induction h with
 |leaf n i b h=>exact .leaf n i b h
 |node n i b h ps x cap row fp X hp hb hc hx hn hd ih =>refine .node n i b h ps x cap row fp X hp (by rw[t x ψ];exact hb) hc (λj u=>ih j u λy hy=>t y ?_) hn hd;simp only[ZIF,List.mem_flatMap,List.mem_range];exact .inr ⟨j,u,hy⟩
def MT.live{T v c fp}(h:MT T v c fp):∀y∈fp,∃ds,T y=sO (.cells ds):=by
 induction h with
 |leaf=>intro y t;simp at t
 |node n i b h ps x cap row fp X hp hb hc hx hn hd ih =>intro y t;simp only[ZIF,List.mem_flatMap,List.mem_range]at t;rcases t with rfl|⟨j,u,t⟩;exact⟨_,hb⟩;exact ih j u y t
def MT.ld{T v c fp}(h:MT T v c fp):∀{Ln},(∀y∈fp,y∈Ln)->LdC T Ln c v.cells:=by
 induction h with
 |leaf n i b h=>intro Ln _;rw[ZIq];exact LdC.refl _
 |node n i b h ps x cap row fp X hp hb hc hx hn hd ih =>intro Ln hL;rw[ZIq];have u:∀j,j<I ps->(row j).length=5:=λj t=>(hx j t).len;refine .cons (.refl _) (.cons (.refl _) (.cons (.refl _) (.cons (.refl _) (.cons ?_ .nil))));refine Z2.msl (hL x ψ) hb (by rw[ZIc,QL u];exact Nat.le_add_right _ _) λj t=>?_;rw[show((YA row (I ps)++X).drop (j*5)).take 5=row j from Za8 X u t];show LdC T Ln (row j) (ZcP ps j);rw[Zgn t];refine ih j t λy hy=>hL y ?_;simp only[ZIF,List.mem_flatMap,List.mem_range];exact .inr ⟨j,t,hy⟩
structure MN(T:St)(v:Val)(c:List D)(fp:List Nat)(x cap:Nat)(row:Nat->List D)(f:Nat->List Nat)(X:List D):Prop where
 c:c=[.str v.name,.i v.int,Zo v.bytes,Ym v.hdrs,.msl x 0 (I v.parts) cap 5]
 b:T x=some (.cells (YA row (I v.parts)++X))
 le:I v.parts<=cap
 kid:∀j,j<I v.parts->MT T (v.parts.getD j default) (row j) (f j)
 n:∀j,j<I v.parts->x∉f j
 d:∀j k,j<I v.parts->k<I v.parts->j≠k->∀y∈f j,y∉f k
 fp:fp=x::(ZIf (I v.parts)).flatMap f
def MT.inv{T v c fp}(h:MT T v c fp)(t:0<I v.parts):∃x cap row f X,MN T v c fp x cap row f X:=by
 cases h with
 |leaf n i b h=>simp[Val.parts]at t
 |node n i b h ps x cap row f X t hb hc hx hn hd=>exact⟨x,cap,row,f,X,rfl,hb,hc,hx,hn,hd,rfl⟩
def MN.mt{T v c fp x cap row f X}(h:MN T v c fp x cap row f X)(hp:0<I v.parts):MT T v c fp:=by
 obtain⟨i,t,u,h4,h5,h6,h7⟩:=h;subst i h7;cases v;exact .node _ _ _ _ _ _ _ _ _ _ hp t u h4 h5 h6
def Val.setP(v:Val)(j:Nat)(w:Val):Val:=.mk v.name v.int v.bytes v.hdrs (v.parts.set j w)
def Val.setI(v:Val)(i:Int):Val:=.mk v.name i v.bytes v.hdrs v.parts
def MT.setI{T v c fp}(h:MT T v c fp)(i):MT T (v.setI i) (Zt c 1 [.i i]) fp:=by
 cases h with
 |leaf n i b h=>exact .leaf _ _ _ _
 |node n i b h ps x cap row f X hp hb hc hx hn hd=>exact .node _ _ _ _ _ _ _ _ _ _ hp hb hc hx hn hd
def Zfk{l:List Val}{j k w}(i:j<I l):(l.set j w).getD k dE=if k=j then w else l.getD k dE:=by
 simp only[ZIg,List.getElem?_set];by_cases h:k=j;subst h;simp[i];simp[h,Ne.symm h]
def MN.child{T S v c fp x cap row f X}(h:MN T v c fp x cap row f X){j}(hj:j<I v.parts){w r'}(hr:MT S w r' (f j))(hb:S x=sO (.cells (YA (λi=>if i=j then r' else row i) (I v.parts)++X)))(ho:∀y,y≠x->y∉f j->S y=T y):MN S (v.setP j w) c fp x cap (λi=>if i=j then r' else row i) f X:=by
 have hl:(v.setP j w).parts.length=I v.parts:=by simp[Val.setP,Val.parts]
 refine⟨?_,by rw[hl];exact hb,by rw[hl];exact h.le,λk hk=>?_,λk hk=>h.n k ω,λk l hk hl' u=>h.d k l ω ω u,by rw[hl];exact h.fp⟩;rw[hl];exact h.c;rw[hl]at hk;have e:(v.setP j w).parts.getD k dE=if k=j then w else v.parts.getD k dE:=Zfk hj
 rw[e];by_cases t:k=j;subst t;rw[if_pos rfl,if_pos rfl];exact hr;rw[if_neg t,if_neg t];exact(h.kid k hk).mono λy hy=>ho y (λe=>h.n k hk (e▸hy)) (h.d k j hk hj t y hy)
def Zur{E:List Str}{i}(h:i<E.length):(E.map D.str)[i]?=sO (.str (E.getD i [])):=by simp[ZIg,h]
def ZA5{E:List Str}{i s}(h:i<E.length):List.take (i*1) (E.map D.str)++[.str s]++List.drop (i*1+1) (E.map D.str)=(E.set i s).map D.str:=by
 rw[Nat.mul_one,List.map_set,List.set_eq_take_append_cons_drop,if_pos (by simpa using h)];simp
def ZxK(n):W6 [.str []] n=(List.replicate n []).map D.str:=by
 induction n with
 |zero=>rfl
 |succ n ih=>simp_all[W6,List.replicate_succ]
def ZhQ{b c l S}(hb:S b=sO (.cells (l.map .str)))(hl:I l<=1000000)(f p)(hf:∀x,VT ZH1 f [.str x] S (.bool (p x)) S):
  ZL ZH1 231 [.msl b 0 (I l) c 1,f] S (.i (Zi p l)) S:=by
 refine Zz (cR 231 f231) λhwf F t=>?_;refine gG ?_;refine Zd (fr (I l) (λi Q=>i<=I l->(∀j,j<i->p (l.getD j dE)=false)->Q [(0,.d (.msl b 0 (I l) c 1)),(1,.d f),(7,.d (.i (I l))),(8,.d (.i i))] [] S) (λn u=>?_) λae=>?_);intro i hn hi ab;refine rg ?_;refine Zc (Zl rfl trivial (λh1=>?_) (λh1=>?_));simp at h1;have hg:=Zur h1;have ad:(l.map D.str)[i*1]?=sO (.str (l.getD i [])):=by rw[Nat.mul_one];exact hg
 refine rg ?_;refine xA (nd2 @hb (nd2 @hg @ad)) ?_;refine cW (hf _) ?_;refine cd (λh2=>?_) (λh2=>?_);have e1:=WH h1 h2 ab;rw[e1]at t;refine rg ?_;exact t rfl φ (ZH3 _) ZH2;refine gA ?_;refine Ze ?_;exact u ((I l)-(i+1)) ω (i+1) rfl ω (Yc (q:=λj=>p (l.getD j dE)=false) ab h2);simp at h1;obtain rfl:i=I l:=ω;have ac:∀x∈l,p x=false:=λx hx=>by obtain⟨j,hj,rfl⟩:=ZIl hx;have:=ab j hj;simpa[ZIg,hj]using this
 rw[Y9 ac]at t;refine rg ?_;exact t rfl φ (ZH3 _) ZH2;exact ae _ 0 rfl ω (by intro j hj;omega)
def Jh(p:Str->Bool)(l:List Str):List Str:=l.filter λx=>!p x
def ZyI{p l}:(Jh p l).length<=I l:=List.length_filter_le ..
def ZiA{p}{l:List Str}{j}(h:j<I l):Jh p (l.take (j+1))=Jh p (l.take j)++if p (l.getD j []) then [] else [l.getD j []]:=by
 rw[show l.getD j []=l.getD j dE from rfl,Yo h];unfold Jh;rw[List.filter_append];congr 1;simp only[List.filter_cons,List.filter_nil];cases p (l.getD j dE)<;>rfl
def Zmu{p}{l:List Str}{i}(h:∀j,j<i->p (l.getD j dE)=false)(hi:i<=I l):Jh p (l.take i)=l.take i:=by
 unfold Jh;rw[List.filter_eq_self];intro x hx;obtain⟨j,t,rfl⟩:=ZIl hx;have u:=h j (by rw[ZIm]at t;omega);rw[ZIm]at t;simpa[ZIg,show j<I l by omega]using u
def Zri{p l}(h:∀x∈l,p x=false):Jh p l=l:=by
 unfold Jh;rw[List.filter_eq_self];intro x i;rw[h x i];rfl
def Zr8{E:List Str}{k x}(h:k<E.length):(E.set k x).take (k+1)=E.take k++[x]:=by
 rw[List.set_eq_take_append_cons_drop,if_pos h,show E.take k++x::E.drop (k+1)=(E.take k++[x])++E.drop (k+1) by simp,List.take_left' (by simp;omega)]
def ZwC{E:List Str}{k}(h:k<=E.length):Zt (E.map D.str) (k*1) (W6 [.str []] (E.length-k))=((E.take k++List.replicate (E.length-k) []).map .str):=by
 unfold Zt;rw[Nat.mul_one,ZxK,List.drop_eq_nil_of_le (by simp;omega)];simp
def Zhe{b c l S}(hb:S b=sO (.cells (l.map .str)))(hl:I l<=1000000)(hc:I l<=c)(f p)(hf:∀x T,VT ZH1 f [.str x] T (.bool (p x)) T):
  Za ZH1 195 [.msl b 0 (I l) c 1,f] S λr T=>r=.ret (.msl b 0 (Jh p l).length c 1)/\T=S.upd b (.cells ((Jh p l++List.replicate (I l-(Jh p l).length) []).map .str)):=by
 refine Zb (cR 195 f195) λF hF=>?_;have ao:=ZhQ (c:=c) hb hl f p (λx=>hf x S);refine gG ?_;refine ct (ao) ?_;refine aa ?_;refine rg ?_;by_cases ad:Zi p l<0;have aq:Zi p l=-1:=by have:=ZaU p l;omega
 rw[aq];refine i1 ?_;refine rg ?_;exact hF.ret _ _ rfl φ (ZH3 _) ZH2 ⟨by rw[Zri (ZcA ad)];rfl,by rw[Zri (ZcA ad),Nat.sub_self,List.replicate_zero,ZIy];exact(St.upd_self hb).symm⟩;obtain⟨q0,ar⟩:∃q0:Nat,Zi p l=q0:=⟨(Zi p l).toNat,ω⟩;have ap:=Wc p l;have ai:=QK (p:=p) (l:=l) ω;rw[ar]at ap ai⊢;have ab:=λj hj=>ai.2 j hj;have ah:=ai.1;simp only[Int.toNat_natCast]at ab ah;have ae:q0<I l:=ω;refine i0 ?_;refine gA ?_;refine Zd (fr (I l) (λj Q=>j<=I l->∀(k:Nat) (E:List Str),E.length=I l->k<j->k=(Jh p (l.take j)).length->E.take k=Jh p (l.take j)->E.drop j=l.drop j->Q [(0,.d (.msl b 0 (I l) c 1)),(1,.d f),(5,.d (.i k)),(6,.d (.i j))] [] (S.upd b (.cells (E.map .str)))) (λn t=>?_) λau=>?_)
 .intro j hn hj k E hE hkj hk ac hdr;refine rg ?_;refine cd (λh1=>?_) (λh1=>?_)
  .have af:j<I l:=by simp at h1;omega
   have hx:E.getD j []=l.getD j []:=by
    have h2:(E.drop j)[0]?=(l.drop j)[0]?:=by rw[hdr]
    simpa[ZIg]using congrArg (λo=>o.getD []) h2
   have hg:(E.map D.str)[j*1]?=sO (.str (l.getD j [])):=by rw[Nat.mul_one,Zur ω,hx]
   have u:=ZiA (p:=p) af;have ak:E.drop (j+1)=l.drop (j+1):=by rw[<-List.drop_drop,hdr,List.drop_drop]
   generalize l.getD j []=x at *;refine xA (nd2 @ZH5 @hg) ?_;refine rg ?_;refine cW (hf x _) ?_;cases al:p x with
   |true =>rw[al,if_pos rfl,ZIy]at u;refine i0 ?_;refine gA ?_;refine Ze ?_;exact t ((I l)-(j+1)) ω (j+1) rfl ω k E hE ω (by rw[u];exact hk) (by rw[u];exact ac) ak
   |false =>
    rw[al,if_neg ψ]at u;have am:=ZA5 (E:=E) (i:=k) (s:=x) ω;refine i1 ?_;have ag:(E.map D.str).length=I l:=by rw[ZIo];exact hE
    refine xA (nd2 @ZH5 (nd2 @ZIk (nd2 @am @ag))) ?_;refine gA ?_;refine gA ?_;rw[show(k:Int)+1=((k+1:Nat):Int) by omega];refine Ze ?_;exact t ((I l)-(j+1)) ω (j+1) rfl ω (k+1) (E.set k x) (by rw[List.length_set];exact hE) ω (by rw[u,ZIc,<-hk];rfl) (by rw[u,<-ac,Zr8 ω]) (by rw[List.drop_set_of_lt ω];exact ak)
  have af:j=I l:=by simp at h1;omega
  subst af;rw[ZIC]at hk ac;have aj:=ZwC (E:=E) (k:=k) ω;have ag:(E.map D.str).length=I l:=by rw[ZIo];exact hE
  rw[hE,ac]at aj;have hck:¬c=k:=ω;refine rg ?_;refine⟨ω,ω,ω,ω,?_⟩;rw[if_neg ω,show((I l:Int)-k).toNat=I l-k by omega,show((c:Int)-k).toNat=c-k by omega];refine ZmP rfl rfl rfl trivial (cs:=E.map .str) (by simp[Z1,ZH5]) (by rw[ag];omega) ?_;rw[aj,ZIk];refine gR0 ?_;refine rg ?_;refine⟨ω,ω,ω,ω,?_⟩;simp only[ite_self,if_pos];exact hF.ret _ _ rfl φ (ZH3 _) ZH2 ⟨by rw[<-hk];rfl,by rw[<-hk]⟩
 have h0:=au _ (q0+1) rfl ω q0 l rfl ω (by rw[ZiA ae,show l.getD q0 []=l.getD q0 dE from rfl,ah,if_pos rfl,ZIy,Zmu ab ω,ZIm];omega) (by rw[ZiA ae,show l.getD q0 []=l.getD q0 dE from rfl,ah,if_pos rfl,ZIy,Zmu ab ω]) rfl;rw[St.upd_self hb]at h0;exact h0
end Go.DL
namespace Go.Proofs
open Go.Shelf Go.RowKit
def Tryz.joinL_ren:Go.Shelf.Ren:=⟨λ|156=>194|165=>228|166=>229|169=>230|240=>251|241=>252|276=>272|277=>273|n=>n,λ|31=>261|9=>9|3=>3|4=>4|0=>0|20=>20|72=>296|76=>131|70=>294|37=>25|75=>130|127=>301|164=>346|5=>5|80=>298|n=>n,λ|n=>n⟩
def Tryz.joinL:Go.Proofs.Lays.n156 ZH1 Tryz.joinL_ren:={
 mixed:=by kernel_rfl
 f156:=Tryz.func194.trans (congrArg sO (by kernel_rfl))
 f165:=Tryz.func228.trans (congrArg sO (by kernel_rfl))
 f166:=Tryz.func229.trans (congrArg sO (by kernel_rfl))
 f169:=Tryz.func230.trans (congrArg sO (by kernel_rfl))
 f240:=Tryz.func251.trans (congrArg sO (by kernel_rfl))
 f241:=Tryz.func252.trans (congrArg sO (by kernel_rfl))
 f276:=Tryz.func272.trans (congrArg sO (by kernel_rfl))
 f277:=Tryz.func273.trans (congrArg sO (by kernel_rfl))
 t0:=Tryz.underlying0
 a0:=Tryz.isAgg0
 z0:=Tryz.sizeOf0
 v0:=Tryz.zeroValue0
 t3:=Tryz.underlying3
 a3:=Tryz.isAgg3
 z3:=Tryz.sizeOf3
 v3:=Tryz.zeroValue3
 t4:=Tryz.underlying4
 a4:=Tryz.isAgg4
 z4:=Tryz.sizeOf4
 v4:=Tryz.zeroValue4
 t9:=Tryz.underlying9
 a9:=Tryz.isAgg9
 z9:=Tryz.sizeOf9
 v9:=Tryz.zeroValue9
 t20:=Tryz.underlying20
 a20:=Tryz.isAgg20
 z20:=Tryz.sizeOf20
 v20:=Tryz.zeroValue20
 t31:=Tryz.underlying261
 a31:=Tryz.isAgg261
 z31:=Tryz.sizeOf261
 v31:=Tryz.zeroValue261
 t37:=Tryz.underlying25
 a37:=Tryz.isAgg25
 z37:=Tryz.sizeOf25
 v37:=Tryz.zeroValue25
 t70:=Tryz.underlying294
 a70:=Tryz.isAgg294
 z70:=Tryz.sizeOf294
 v70:=Tryz.zeroValue294
 t72:=Tryz.underlying296
 a72:=Tryz.isAgg296
 z72:=Tryz.sizeOf296
 v72:=Tryz.zeroValue296
 t75:=Tryz.underlying130
 a75:=Tryz.isAgg130
 z75:=Tryz.sizeOf130
 v75:=Tryz.zeroValue130
 t76:=Tryz.underlying131
 a76:=Tryz.isAgg131
 z76:=Tryz.sizeOf131
 v76:=Tryz.zeroValue131
 t127:=Tryz.underlying301
 a127:=Tryz.isAgg301
 z127:=Tryz.sizeOf301
 v127:=Tryz.zeroValue301
 t164:=Tryz.underlying346
 a164:=Tryz.isAgg346
 z164:=Tryz.sizeOf346
 v164:=Tryz.zeroValue346 }
def Tryz.joinX:Builder.Extra ZH1 Tryz.joinL_ren:={
 sizeBuilder:=by kernel_rfl
 liesBuilder:=by kernel_rfl
 t5:=Tryz.underlying5
 a5:=Tryz.isAgg5
 z5:=Tryz.sizeOf5
 v5:=Tryz.zeroValue5
 infoByte:=by kernel_rfl
 cellsByte:=by kernel_rfl
 sizeByte:=by kernel_rfl
 neB5:=by decide }
end Go.Proofs
namespace Go.DL
open Go Go.Proofs Go.Lib Go.RowKit
def ZBA{w:World}{b o v}(h:w.cell? ⟨b,o,nO⟩=sO v):b<w.heap.size:=by
 refine Nat.lt_of_not_le λi=>?_;have t:w.heap[b]?=nO:=Array.getElem?_eq_none i;simp[World.cell?,t]at h
def joinL(l:List Str)(sep:Str):Str:=sep.intercalate l
def Zc0(l:List Str)(hn:I l<=100000)(hj:(joinL l [46]).length<=100000000):Zf ZH1 194 [slD 1 ZbZ l,.str [46]] (.str (joinL l [46])):=λst=>by
 refine⟨⟨_,Tryz.func194,by kernel_rfl,by kernel_rfl⟩,λg w vs hs ha=>?_⟩;cases ha with
 |cons h1 ha =>
 cases ha with
 |cons h2 ha =>
 cases ha;cases h2 with
 |str sep _ hsep hsb =>
 have ac:sep=⟨#[46]⟩:=by
  obtain⟨a⟩:=sep;have:a.toList=[46]:=hsep;have h2:a = #[46]:=by apply Array.ext';simpa using this
  rw[h2]
 subst ac;unfold slD at h1;have ab:∀w':World,Below w.heap.size w w'->J2 g w g w':=λw' t=>⟨t.size,λc hc=>t.block c hc,λ_ _=>rfl,λc hc=>(hs.fresh c (Nat.le_trans t.size hc)).1,rfl,t.os,t.output,t.tape⟩;generalize ah:(λi=>ZbZ (l.getD i dE))=row at h1;generalize ag:I l=n at h1;cases h1 with
 |sl0 av _ _ _ ht =>obtain rfl:l=[]:=List.eq_nil_of_length_eq_zero ag;refine(Any.strings_Join_none Tryz.joinL Tryz.joinX av 0 ⟨#[46]⟩ w).mono ?_;rintro e w' ⟨rfl,rfl⟩;exact⟨g,st,.ret (.str []),Ext.refl g _,hs,.str _ _ rfl (by simp[big]),rfl,rfl⟩
 |sl b o _ cap _ _ _ f hl hc hp hr one ht hcap hb =>
  subst ag;subst ah;have hx:∀i (hi:i<I l),∃x:ByteArray,f i 0=.string x/\x.data.toList=l[i]:=λi hi=>by
   have:=hr i 0 (.str (l.getD i dE)) hi rfl;generalize f i 0=v at this;cases this with
   |str x _ h1 h2=>exact⟨x,rfl,by rw[h1];simp[ZIg,hi]⟩
  have ao:∃xs:List ByteArray,I xs=I l/\xs.map (·.data.toList)=l/\∀(j:Nat) x,xs[j]?=sO x->f j 0=.string x:=by refine⟨List.ofFn λi:Fin (I l)=>Classical.choose (hx i.1 i.2),ψ,?_,λj x hj=>?_⟩;apply List.ext_getElem;simp;intro i h1 h2;simp at h1;simp only[List.getElem_map,List.getElem_ofFn];exact(Classical.choose_spec (hx i h1)).2;obtain⟨ae,af⟩:=List.getElem?_eq_some_iff.1 hj;simp only[List.length_ofFn]at ae;simp only[List.getElem_ofFn]at af;rw[<-af];exact(Classical.choose_spec (hx j ae)).1
  obtain⟨xs,ai,al,am⟩:=ao;have aj:0<I l->b<w.heap.size:=λh0=>by have:=hc 0 0 h0 ω;exact ZBA this
  have hJ:(Lib.join (xs.map (·.data.toList)) (⟨#[46]⟩:ByteArray).data.toList)=joinL l [46]:=by rw[al];rfl
  have ad:∀w',Below w.heap.size w w'->∃g' s' res,Ext g w g' w'/\Yh g' s' w'/\Rep g' w' (.string ⟨(joinL l [46]).toArray⟩) (.str (joinL l [46]))/\res=Res.ret (.str (joinL l [46]))/\s'=st:=λw' t =>
   ⟨g,st,.ret (.str (joinL l [46])),(ab w' t).ext hs.fresh,hs.grow (ab w' t),.str _ _ ψ (by unfold big;omega),rfl,rfl⟩
  by_cases h0:I l=0;obtain rfl:l=[]:=List.eq_nil_of_length_eq_zero h0;refine(Any.strings_Join_none Tryz.joinL Tryz.joinX (sO ⟨b,o,nO⟩) cap ⟨#[46]⟩ w).mono ?_;rintro e w' ⟨rfl,rfl⟩;exact⟨g,st,.ret (.str []),Ext.refl g _,hs,.str _ _ rfl (by simp[big]),rfl,rfl⟩;have u:=Any.strings_Join Tryz.joinL Tryz.joinX b o cap xs ⟨#[46]⟩ w (λj x hj=>by
    have ak:j<I l:=by rw[<-ai];exact(List.getElem?_eq_some_iff.1 hj).1
    have:=hc j 0 ak ω;rw[am j x hj]at this;simpa using this) (aj ω) ω ω (by rw[hJ];omega)
  rw[hJ,ai]at u;refine u.mono ?_;rintro e w' ⟨rfl,t⟩;obtain⟨g',s',res,a1,a2,a3,a4,a5⟩:=ad w' t;exact⟨g',s',res,a1,a2,by rw[a4];exact a3,a4,a5⟩
end Go.DL
namespace Go.DL
open Go Go.Proofs
variable {kp:Option (List Nat)}{L:Loc}{H:Env}{s:St}{w:World}{os:List DOp}{ds:List D}{B:List (Nat × Rd)}{dst:Option Nat}{tmps:Array Value}{g:G}{Φ:Res->St->Prop}{Z:Nat->Nat}{xs:List Opd}{side:Prop}{row:Nat->List D}
def Zgr(s):Zf ZH1 196 [.str s] (.bool (dC (s=[]))):=by
 refine Zh (cR 196 f196) λF st i=>?_;refine gG ?_;refine rb i ?_;rfl
def ZyJ(a s)(t:s≠[]):joinL (Jh (λx=>dC (x=[])) [a,s]) [46]=ZR a s:=by
 unfold Jh joinL ZR;by_cases i:a=[];simp[i,t,List.intercalate];simp[i,t,List.intercalate]
def Zg5(T):St.or (λ_=>nO) T=T:=by funext b;exact ZG rfl
def ZyH{b c}{C:List Str}{T}(hb:T b=sO (.cells (C.map .str)))(K)(hl:K.length<=2)(hC:K.length<=C.length)(hK:∀i,i<K.length->C.getD i []=K.getD i [])(hj:(joinL K [46]).length<=100000000):
  Za ZH1 194 [.msl b 0 K.length c 1,.str [46]] T λr S=>r=.ret (.str (joinL K [46]))/\S=T:=by
 have h:=Za.lend (P:=ZH1) (Ln:=[b]) (t:=T) (λx hx=>⟨C.map .str,by rw[List.mem_singleton.1 hx];exact hb⟩) (.cons (Z2.msl (row:=λi=>ZbZ (K.getD i dE)) (cap:=c) (sz:=1) (n:=K.length) (List.mem_singleton.2 rfl) hb (by simp;omega) ?_) (.cons (.refl (.str [46])) .nil)) (Zc0 K ω hj (λ_=>nO)) (λr S u=>?_);refine h.mono λr S hS=>?_;obtain⟨S',⟨u,rfl⟩,_,rfl⟩:=hS;exact⟨u,Zg5 T⟩;intro i hi;have h1:((C.map D.str).drop (i*1)).take 1=ZbZ (K.getD i dE):=by rw[Nat.mul_one,show K.getD i dE=C.getD i [] from(hK i hi).symm];rw[List.drop_eq_getElem_cons (by simp;omega)];simp[ZbZ,ZIg,show i<C.length by omega]
 rw[h1];exact .refl _;obtain⟨rfl,rfl⟩:=u;exact⟨.str _,λb o h=>by simp at h⟩
def Zr1{b a s S}(hb:S b=sO (.cells [.str a,.str s]))(hs:s≠[])(hl:I a<=10000000)(hl2:I s<=10000000):
  Za ZH1 134 [.msl b 0 2 2 1] S λr T=>r=.ret (.str (ZR a s))/\∃o,T=S.upd b o:=by
 refine Zb (cR 134 f134) λF hF=>?_;have hd:=Zhe (c:=2) (l:=[a,s]) hb ψ ψ (.fn (.func 196) [] []) (λx=>dC (x=[])) (λx T=>(Zgr x).VT (first:=[]) (caps:=[]) T);have t:=ZyJ a s hs;have ac:(Jh (λx=>dC (x=[])) [a,s]).length<=2:=ZyI;generalize Jh (λx=>dC (x=[])) [a,s]=K at *;have ad:(joinL K [46]).length<=100000000:=by rw[t];unfold ZR;split;omega;simp only[ZIc,ZIi,List.length_nil];omega
 refine gG ?_;refine cV (hd) ?_ ?_;rintro dd T ⟨hr,rfl⟩;cases hr;refine gR0 ?_;generalize hC:(K++List.replicate (2-K.length) [])=C at *;have ab:∀i,i<K.length->C.getD i []=K.getD i []:=λi hi=>by rw[<-hC];simp[ZIg,ZIB hi]
 have u:K.length<=C.length:=by rw[<-hC];simp
 refine cV ((ZyH (S.upd_same b _) K ac u ab ad)) ?_ ?_;rintro dv T hT;obtain⟨hr,rfl⟩:=hT;cases hr;refine gR0 ?_;rw[t];exact hF.ret _ _ rfl φ (ZH3 _) ZH2 ⟨rfl,_,rfl⟩;rintro v T ⟨hr,_⟩;cases hr;rintro v T ⟨hr,_⟩;cases hr
def YS(l:List Fld):List D:=l.flatMap Fld.cells
def ZaW(l):(YS l).length=I l*15:=by
 unfold YS;induction l with
 |nil=>rfl
 |cons f r ih=>rw[List.flatMap_cons,ZIc,ih,Zab,ZIi];omega
def Ziq{l i}(h:i<I l)(X):part (YS l++X) (i*15) 15=(l.getD i dE).cells:=by
 have t:l=l.take i++(l.getD i dE::l.drop (i+1)):=by
  conv=>lhs;rw[<-List.take_append_drop i l]
  rw[List.drop_eq_getElem_cons h];simp[ZIg,h]
 have u:YS l++X=YS (l.take i)++((l.getD i dE).cells++(YS (l.drop (i+1))++X)):=by
  conv=>lhs;rw[t]
  unfold YS;simp
 unfold part;rw[u,List.drop_left' (by rw[ZaW,ZIm,Nat.min_eq_left ω]),List.take_left' (Zab _)]
def Zyx{l i}(h:i<I l)(f X):Zt (YS l++X) (i*15) f.cells=YS (l.set i f)++X:=by
 have u:l=l.take i++(l.getD i dE::l.drop (i+1)):=by
  conv=>lhs;rw[<-List.take_append_drop i l]
  rw[List.drop_eq_getElem_cons h];simp[ZIg,h]
 have h2:YS l++X=YS (l.take i)++((l.getD i dE).cells++(YS (l.drop (i+1))++X)):=by
  conv=>lhs;rw[u]
  unfold YS;simp
 have t:(YS (l.take i)).length=i*15:=by rw[ZaW,ZIm,Nat.min_eq_left ω]
 unfold Zt;rw[h2,List.take_left' t,<-List.drop_drop,List.drop_left' t,Zab,List.drop_left' (Zab _),List.set_eq_take_append_cons_drop,if_pos h];unfold YS;simp
def ZuM{l k m}(h:k<=I l)(z X):∃Y,Zt (YS l++X) (k*15) (W6 z m)=YS (l.take k)++Y:=by
 have i:YS l++X=YS (l.take k)++(YS (l.drop k)++X):=by unfold YS;rw[<-ZIv,<-List.flatMap_append,List.take_append_drop]
 have t:(YS (l.take k)).length=k*15:=by rw[ZaW,ZIm,Nat.min_eq_left ω]
 unfold Zt;rw[i,List.take_left' t,ZIv];exact⟨_,rfl⟩
def ZwP(l):(ZIf (I l)).flatMap (λk=>(l.getD k dE).cells)=YS l:=by
 unfold YS;have h:l.flatMap Fld.cells=((ZIf (I l)).map λk=>l.getD k dE).flatMap Fld.cells:=by
  congr 1
  refine List.ext_getElem ψ λi t h2=>?_;simp[ZIg,t]
 rw[h,List.flatMap_map]
def Zjg(l)(hl:I l<=1000000)(hp:0<I l)(st):Za ZH1 84 [Zq l] st λr S=>∃b c X,st b=nO/\I l<=c/\r=.ret (.msl b 0 (I l) c 15)/\S=st.upd b (.cells (YS l++X)):=by
 refine Zb (cR 84 f84) λF hF=>?_;have t:=ZwP l;refine rx (nd2 @Zq.eq_1 @eQ1) ?_;refine gA ?_;refine iG ?_;refine Zvd rfl rfl rfl rfl rfl rfl φ φ (by exact hp) ω (by unfold big;omega) λb u hb i=>Zp ?_;simp only[Eqs,reduceCtorEq,ZH9,reduceIte,ZH6,ZIa,ZH7];rw[t];exact hF.ret _ _ rfl φ (ZH3 _) ZH2 ⟨b,u,_,hb,i,rfl,rfl⟩
def Zba(p:Fld->Bool)(l:List Fld):List Fld:=l.filter λx=>!p x
def Ziz{p}{l:List Fld}{j}(h:j<I l):Zba p (l.take (j+1))=Zba p (l.take j)++if p (l.getD j dE) then [] else [l.getD j dE]:=by
 rw[Yo h];unfold Zba;rw[List.filter_append];congr 1;simp only[List.filter_cons,List.filter_nil];cases p (l.getD j dE)<;>rfl
def Zmt{p}{l:List Fld}{i}(h:∀j,j<i->p (l.getD j dE)=false)(hi:i<=I l):Zba p (l.take i)=l.take i:=by
 unfold Zba;rw[List.filter_eq_self];intro x hx;obtain⟨j,t,rfl⟩:=ZIl hx;have u:=h j (by rw[ZIm]at t;omega);rw[ZIm]at t;simpa[ZIg,show j<I l by omega]using u
def Zrh{p l}(h:∀x∈l,p x=false):Zba p l=l:=by
 unfold Zba;rw[List.filter_eq_self];intro x i;rw[h x i];rfl
def Zzt{E:List Fld}{k x}(h:k<E.length):(E.set k x).take (k+1)=E.take k++[x]:=by
 rw[List.set_eq_take_append_cons_drop,if_pos h,show E.take k++x::E.drop (k+1)=(E.take k++[x])++E.drop (k+1) by simp,List.take_left' (by simp;omega)]
def ZAo{b c l X T}(hb:T b=sO (.cells (YS l++X)))(hc:I l<=c)(fid p)(hf:∀x,Zf ZH1 fid [.agg x.cells] (.bool (p x))):
  Za ZH1 131 [.msl b 0 (I l) c 15,.fn (.func fid) [] []] T λr S=>r=.ret (.i (Zi p l))/\S=T:=by
 have h:=Za.lend (P:=ZH1) (Ln:=[b]) (t:=T) (λx hx=>⟨YS l++X,by rw[List.mem_singleton.1 hx];exact hb⟩) (.cons (Z2.msl (row:=λi=>(l.getD i dE).cells) (cap:=c) (sz:=15) (n:=I l) (List.mem_singleton.2 rfl) hb (by rw[ZIc,ZaW];omega) ?_) (.cons (.refl (.fn (.func fid) [] [])) .nil))
  (QJ l (.fn (.func fid) [] []) p (λ_ _=>nO) (λi _=>(hf _).VT (first:=[]) (caps:=[]) _)) (λr S u=>?_)
 refine h.mono λr S hS=>?_;obtain⟨S',⟨u,rfl⟩,_,rfl⟩:=hS;exact⟨u,Zg5 T⟩;intro i hi;rw[show((YS l++X).drop (i*15)).take 15=(l.getD i dE).cells from Ziq hi X];exact .refl _;obtain⟨rfl,rfl⟩:=u;exact⟨.int _ _,λb o h=>by simp at h⟩
def ZfJ{b c l X S}(hb:S b=sO (.cells (YS l++X)))(hl:I l<=1000000)(hc:I l<=c)(fid p)(hf:∀x,Zf ZH1 fid [.agg x.cells] (.bool (p x))):
  Za ZH1 83 [.msl b 0 (I l) c 15,.fn (.func fid) [] []] S λr T=>r=.ret (.msl b 0 (Zba p l).length c 15)/\∃Y,T=S.upd b (.cells (YS (Zba p l)++Y)):=by
 refine Zb (cR 83 f83) λF hF=>?_;have am:=ZAo hb hc fid p hf;refine gG ?_;refine cV (am) ?_ ?_
 .rintro dd T ⟨hr,hT⟩;obtain rfl:=hT.symm;cases hr;refine gR0 ?_;refine rg ?_;by_cases af:Zi p l<0;have ap:Zi p l=-1:=by have:=ZaU p l;omega
  rw[ap];refine i1 ?_;refine rg ?_;exact hF.ret _ _ rfl φ (ZH3 _) ZH2 ⟨by rw[Zrh (ZcA af)];rfl,X,by rw[Zrh (ZcA af)];exact(St.upd_self hb).symm⟩;obtain⟨q0,aq⟩:∃q0:Nat,Zi p l=q0:=⟨(Zi p l).toNat,ω⟩;have ao:=Wc p l;have aj:=QK (p:=p) (l:=l) ω;rw[aq]at ao aj⊢;have ab:=λj hj=>aj.2 j hj;have ai:=aj.1;simp only[Int.toNat_natCast]at ab ai;have ag:q0<I l:=ω;refine i0 ?_;refine gA ?_;refine Zd (fr (I l) (λj Q=>j<=I l->∀(k:Nat) (E:List Fld),E.length=I l->k<j->k=(Zba p (l.take j)).length->E.take k=Zba p (l.take j)->E.drop j=l.drop j->Q [(0,.d (.msl b 0 (I l) c 15)),(1,.d (.fn (.func fid) [] [])),(5,.d (.i k)),(6,.d (.i j))] [] (S.upd b (.cells (YS E++X)))) (λn t=>?_) λar=>?_)
  .intro j hn hj k E hE hkj hk ae hdr;refine rg ?_;refine cd (λh1=>?_) (λh1=>?_)
   .have ah:j<I l:=by simp at h1;omega
    have hx:E.getD j dE=l.getD j dE:=by
     have h2:(E.drop j)[0]?=(l.drop j)[0]?:=by rw[hdr]
     simpa[ZIg]using congrArg (λo=>o.getD dE) h2
    have ad:(YS E++X).length=I l*15+X.length:=by rw[ZIc,ZaW,hE]
    have hg:=Ziq (l:=E) (i:=j) ω X;rw[hx]at hg;unfold part at hg;have u:=Ziz (p:=p) ah;have ak:E.drop (j+1)=l.drop (j+1):=by rw[<-List.drop_drop,hdr,List.drop_drop]
    generalize l.getD j dE=x at *;refine xA (nd2 @ZH5 (nd2 @hg (nd2 @ad (nd2 @Zab @Zc1)))) ?_;refine xA (nd2 @Zab @Zc1) ?_;refine cl (hf x) ?_;cases al:p x with
    |true =>rw[al,if_pos rfl,ZIy]at u;refine i0 ?_;refine gA ?_;refine Ze ?_;exact t ((I l)-(j+1)) ω (j+1) rfl ω k E hE ω (by rw[u];exact hk) (by rw[u];exact ae) ak
    |false =>rw[al,if_neg ψ]at u;have ac:=Zyx (l:=E) (i:=k) ω x X;unfold Zt at ac;rw[Zab]at ac;refine i1 ?_;refine xA (nd2 @ZH5 (nd2 @ZIk (nd2 @ad (nd2 @Zab @Zc1)))) ?_;rw[ac];refine gA ?_;refine gA ?_;rw[show(k:Int)+1=((k+1:Nat):Int) by omega];refine Ze ?_;exact t ((I l)-(j+1)) ω (j+1) rfl ω (k+1) (E.set k x) (by rw[List.length_set];exact hE) ω (by rw[u,ZIc,<-hk];rfl) (by rw[u,<-ae,Zzt ω]) (by rw[List.drop_set_of_lt ω];exact ak)
   have ah:j=I l:=by simp at h1;omega
   subst ah;rw[ZIC]at hk ae;have ad:(YS E++X).length=I l*15+X.length:=by rw[ZIc,ZaW,hE]
   refine rg ?_;refine⟨ω,ω,ω,ω,?_⟩;rw[if_neg ω,show((I l:Int)-k).toNat=I l-k by omega,show((c:Int)-k).toNat=c-k by omega];refine ZmP rfl rfl rfl trivial (cs:=YS E++X) (by simp[Z1,ZH5]) (by rw[ad];omega) ?_;obtain⟨Y,hY⟩:=ZuM (l:=E) (k:=k) (m:=I l-k) ω [.str [],.i 0,.i 0,.bool false,.bool false,.i 0,.i 0,.i 0,.nilsl,.str [],.str [],.str [],.nilsl,.i 0,.i 0] X;rw[ae]at hY;rw[hY,ZIk];refine gR0 ?_;refine rg ?_;refine⟨ω,ω,ω,ω,?_⟩;simp only[ite_self,if_pos];exact hF.ret _ _ rfl φ (ZH3 _) ZH2 ⟨by rw[<-hk];rfl,Y,rfl⟩
  have h0:=ar _ (q0+1) rfl ω q0 l rfl ω (by rw[Ziz ag,ai,if_pos rfl,ZIy,Zmt ab ω,ZIm];omega) (by rw[Ziz ag,ai,if_pos rfl,ZIy,Zmt ab ω]) rfl;rw[St.upd_self hb]at h0;exact h0
 rintro v T ⟨hr,_⟩;cases hr
def Zme(f):Zf ZH1 85 [.agg f.cells] (.bool (!YU f)):=by
 refine Zh (cR 85 f85) λF st i=>?_;refine rx @eQ0 ?_;refine rg ?_;refine cl (Zd6 f) ?_;refine rb i ?_;rfl
def ZAs(l):Zba (λf=>!YU f) l=vfs l:=by unfold Zba vfs;simp
def ZcY(m:Msg)(hp:0<I m.fields)(hl:I m.fields<=1000000):Zf ZH1 43 [.agg m.cells] (Zq (vfs m.fields)):=by
 refine Zh (cR 43 f43) λF st t=>?_;refine rx @eQ3 ?_;refine rg ?_;refine cV ((Zjg m.fields hl hp st)) ?_ ?_;rintro dd T ⟨b,c,X,hb,hc,hr,rfl⟩;cases hr;refine gR0 ?_;refine cV ((ZfJ (ZH5 _ _ _) hl hc 85 (λf=>!YU f) Zme)) ?_ ?_;rintro dd2 T2 ⟨hr,Y,rfl⟩;cases hr;refine gR0 ?_;rw[ZAs,ZIk];refine ZeZ [b] (λx hx=>⟨YS (vfs m.fields)++Y,by rw[List.mem_singleton.1 hx];exact ZH5 _ _ _⟩) (H':=[(2,.d (Zq (vfs m.fields)))]) (L':=[]) (.cons (Z2.msl (row:=λi=>((vfs m.fields).getD i dE).cells) (List.mem_singleton.2 rfl) (ZH5 _ _ _) (by rw[ZIc,ZaW];omega) λi hi=>?_) .nil) .nil ?_;rw[show((YS (vfs m.fields)++Y).drop (i*15)).take 15=((vfs m.fields).getD i dE).cells from Ziq hi Y];exact .refl _;refine t rfl φ (ZH3 _) (λx o hx=>?_);have u:x≠b:=λe=>by rw[e,hb]at hx;simp at hx
 simp only[St.delL,List.mem_singleton,u,if_false];rw[ZH8 _ _ u];exact hx;rintro v T2 ⟨hr,_⟩;cases hr;rintro v T ⟨b,c,X,_,_,hr,_⟩;cases hr
def ZnB(f:Fld)(x:Val):Zf ZH1 87 [.agg f.cells,.agg x.cells] (.bool (dC (f.name=x.name))):=by
 refine Zh (cR 87 f87) λF st i=>?_;rw[ZIq];refine rx @eQ0 ?_;refine rg ?_;refine rb i ?_;rfl
def WT(l:List Fld)(ps:List Val):Bool:=dC (l.map (·.name)=ps.map Val.name)
def ZyR{l ps}(h:I l≠I ps):WT l ps=false:=by
 unfold WT;rw[decide_eq_false_iff_not];intro i;exact h (by simpa using congrArg List.length i)
def Zw2{l ps}(h:I l=I ps)(hn:∀j,j<I l->(l.getD j dE).name=(ps.getD j dE).name):WT l ps=true:=by
 unfold WT;rw[decide_eq_true_eq];refine List.ext_getElem (by simpa using h) λi t u=>?_;have h3:=hn i (by simpa using t);simp at t u;simpa[ZIg,t,u]using h3
def Zw3{l ps j}(h:I l=I ps)(hj:j<I l)(i:dC ((l.getD j dE).name=(ps.getD j dE).name)=false):WT l ps=false:=by
 unfold WT;rw[decide_eq_false_iff_not]at i⊢;intro u;have t:(l.map (·.name))[j]?=(ps.map Val.name)[j]?:=by rw[u]
 refine i ?_;simpa[ZIg,hj,show j<I ps by omega]using t
def ZeK(l ps):Zf ZH1 86 [Zq l,Z7 ps,.fn (.func 87) [] []] (.bool (WT l ps)):=by
 refine WK (cR 86 f86) λac F st t=>?_;have af:=(Ww (ac (Zq l) ψ)).1;have ag:=Zuv (ac (Z7 ps) ψ);unfold big at af ag;clear ac;refine rg ?_;refine rx (nd2 @Zdk @Zdl) ?_;refine cd (λhc=>?_) (λhc=>?_);refine rg ?_;refine rb t ?_;exact(ZyR (l:=l) (ps:=ps) (by simp at hc;omega)).symm;have ab:I l=I ps:=by simp at hc;omega
 refine rx (nd2 @Zdk @Zdl) ?_;refine Zd (fr (I l) (λi Q=>i<=I l->(∀j,j<i->dC ((l.getD j dE).name=(ps.getD j dE).name)=true)->Q [(1,.d (Z7 ps)),(2,.d (.fn (.func 87) [] [])),(15,.d (Zq l)),(16,.d (.i (I l))),(17,.d (.i i))] [] st) (λn u=>?_) λah=>?_)
 .intro i hn hi ae;refine rg ?_;refine Zc (Zl rfl trivial (λh1=>?_) (λh1=>?_))
  .simp at h1;have ad:=ZnB (l.getD i dE) (ps.getD i dE);have hr:=QX (l:=ps) (i:=i) ω;rw[ZIq]at ad;refine xA (nd2 @atF (nd2 @Zab @Zc1)) ?_;refine xA (nd2 @atV @hr) ?_;refine rx (nd2 @Zab @Zc1) ?_;refine cl (ad) ?_;cases hb:dC ((l.getD i dE).name=(ps.getD i dE).name) with
   |true =>refine i0 ?_;refine gA ?_;refine Ze ?_;exact u ((I l)-(i+1)) ω (i+1) rfl ω (Yc (q:=λj=>dC ((l.getD j dE).name=(ps.getD j dE).name)=true) ae hb)
   |false =>refine i1 ?_;refine rg ?_;refine rb t ?_;exact(Zw3 ab h1 hb).symm
  simp at h1;obtain rfl:i=I l:=ω;refine rg ?_;refine rb t ?_;exact(Zw2 ab λj hj=>by simpa using ae j hj).symm
 exact ah _ 0 rfl ω (by intro j hj;omega)
def ZhN(l ps):Zf ZH1 44 [Zq l,Z7 ps] (.bool (WT l ps)):=by
 refine Zh (cR 44 f44) λF st i=>?_;refine gG ?_;refine cl (ZeK l ps) ?_;refine rb i ?_;rfl
def We(d s)(h:0<=Zy d s (I d.msgs)):Zf ZH1 20 [.agg d.cells,.str s] (.agg (d.msgs.getD (ixS d s) dE).cells):=by
 refine Zh (cR 20 f20) λF st i=>?_;have u:=KZ h;generalize hm:d.msgs.getD (ixS d s) dE=m at *;have t:Zi (λx:Msg=>dC (x.name=s)) d.msgs=(ixS d s:Int):=by rw[<-u.1];unfold Zy;rw[ZIC]
 have ab:max (ixS d s:Int) 0=ixS d s:=ω;refine rx @eQ2 ?_;refine rg ?_;refine cX (nd2 @t @ab) (Zbg d s) ?_;refine xA (nd2 @atM (nd2 @hm @eQ3)) ?_;refine ro i ?_;rfl
def ZcM(l:List Fld):Nat->List (Str×Int)
 |0=>[]
 |i+1=>if (l.getD i dE).kind=2 then YO (l.getD i dE).name (l.getD i dE).low (ZcM l i) else ZcM l i
def ZdM(l:List Fld)(ps:List Val)(E:List (Str×Int)):Nat->List (Str×Int)
 |0=>E
 |i+1=>if YE (l.getD i dE) then YO (l.getD i dE).name (ps.getD i dE).int (ZdM l ps E i) else ZdM l ps E i
def JB(m:Msg)(ps:List Val):List (Str×Int):=ZdM (vfs m.fields) ps (ZcM m.fields (I m.fields)) (vfs m.fields).length
def Zd7(m)(hp:0<I m.fields)(hl:I m.fields<=1000)(ps)(hn:(vfs m.fields).length=I ps)(st):
  Za ZH1 52 [.agg m.cells,Z7 ps] st λr S=>∃b,st b=nO/\r=.ret (.map b)/\S=st.upd b (.map (WZ (JB m ps))):=by
 refine Zb (cR 52 f52) λF hF=>?_;have hvl:(vfs m.fields).length<=I m.fields:=List.length_filter_le ..;have ae:=ZcY m hp ω;have hM:=JB.eq_1 m ps;generalize vfs m.fields=vl at *;refine rx @eQ3 ?_;refine rg ?_;intro b hb;rw[show([]:List (D×D))=WZ (ZcM m.fields 0) from rfl];refine rx @Zdk ?_;refine Zd (fr (I m.fields) (λi Q=>i<=I m.fields->Q [(1,.d (Z7 ps)),(2,.loc 2 0),(5,.d (.map b)),(12,.d (Zq m.fields)),(13,.d (.i (I m.fields))),(14,.d (.i i))] [(2,[.str m.name,Zq m.fields])] (st.upd b (.map (WZ (ZcM m.fields i))))) (λn ab=>?_) λaf=>?_);intro i hn2 hi;refine rg ?_;refine Zc (Zl rfl trivial (λh1=>?_) (λh1=>?_));simp at h1;have t:=ZcM.eq_2 m.fields i;generalize hf:m.fields.getD i dE=f at *;refine xA (nd2 @atF (nd2 @hf @eQ0)) ?_;refine rg ?_;refine cd (λh2=>?_) (λh2=>?_);rw[if_pos (by simpa using h2)]at t;have e2:=J0 (vD:=YR) ZN f.name f.low (ZcM m.fields i);have e3:=YH ZN f.name;simp only[show Ks f.name=D.str f.name from rfl,show YR f.low=.i f.low from rfl]at e2 e3;refine xA (nd2 @ZH5 (nd2 @ZIk (nd2 @e2 @e3))) ?_;refine gA ?_;rw[<-t];refine Ze ?_;exact ab ((I m.fields)-(i+1)) ω (i+1) rfl ω;rw[if_neg (by simpa using h2)]at t;refine gA ?_;rw[<-t];refine Ze ?_;exact ab ((I m.fields)-(i+1)) ω (i+1) rfl ω;simp at h1;obtain rfl:i=I m.fields:=ω;generalize ZcM m.fields (I m.fields)=E0 at *;refine rg ?_;refine cX @Zdk (ae) ?_;refine Zd (fr (I vl) (λk Q=>k<=I vl->Q [(1,.d (Z7 ps)),(5,.d (.map b)),(28,.d (Zq vl)),(29,.d (.i (I vl))),(30,.d (.i k))] [] (st.upd b (.map (WZ (ZdM vl ps E0 k))))) (λn u=>?_) λad=>?_);intro k hn3 hk;refine rg ?_;refine Zc (Zl rfl trivial (λh3=>?_) (λh3=>?_));simp at h3;have t:=ZdM.eq_2 vl ps E0 k;have ac:=QX (l:=ps) (i:=k) ω;generalize hf:vl.getD k dE=f at *;generalize hg:ps.getD k dE=g at *;refine xA (nd2 @atF (nd2 @hf (nd2 @Zab @Zc1))) ?_;refine rx (nd2 @Zab @Zc1) ?_;refine cl (ZbY f) ?_;refine cd (λh4=>?_) (λh4=>?_);rw[if_pos h4]at t;have e2:=J0 (vD:=YR) ZN f.name g.int (ZdM vl ps E0 k);have e3:=YH ZN f.name;simp only[show Ks f.name=D.str f.name from rfl,show YR g.int=.i g.int from rfl]at e2 e3;refine xA (nd2 @eQ0 (nd2 @atV (nd2 @ac (nd2 @ZH5 (nd2 @ZIk (nd2 @e2 @e3)))))) ?_;refine gA ?_;rw[<-t];refine Ze ?_;exact u ((I vl)-(k+1)) ω (k+1) rfl ω;rw[if_neg (by simpa using h4)]at t;refine gA ?_;rw[<-t];refine Ze ?_;exact u ((I vl)-(k+1)) ω (k+1) rfl ω;simp at h3;obtain rfl:k=I vl:=ω;rw[<-hM];refine rg ?_;exact hF.ret _ _ rfl φ (ZH3 _) ZH2 ⟨b,hb,rfl,rfl⟩;exact ad _ 0 rfl ω;exact af _ 0 rfl ω
def Zgt(n):Zf ZH1 89 [.i n] (.bool (dC (0<=n)&&dC (n<34359738368))):=by
 refine Zh (cR 89 f89) λF st i=>?_;refine gG ?_;refine rb i ?_;rfl
def ckI(st:St)(b5 b6 b7 b8 b9 b:Nat):St :=
 ((((st.upd b5 (.cells [.str []])).upd b6 (.cells [.map b])).upd b7 (.cells [.fn (.func 89) [] []])).upd b8 (.cells [.i 0])).upd b9 (.cells [.bool false])
section
variable {st:St} {b5 b6 b7 b8 b9 b:Nat}
def YG.i5(h:YG st b5 b6 b7 b8 b9):(ckI st b5 b6 b7 b8 b9 b) b5=sO (.cells [.str []]):=by
 simp[ckI,ZID,h.n6.1.symm,h.n7.2.1.symm,h.n8.2.2.1.symm,h.n9.2.2.2.1.symm]
def YG.i6(h:YG st b5 b6 b7 b8 b9):(ckI st b5 b6 b7 b8 b9 b) b6=sO (.cells [.map b]):=by
 simp[ckI,ZID,h.n7.1.symm,h.n8.2.1.symm,h.n9.2.2.1.symm]
def YG.i7(h:YG st b5 b6 b7 b8 b9):(ckI st b5 b6 b7 b8 b9 b) b7=sO (.cells [.fn (.func 89) [] []]):=by
 simp[ckI,ZID,h.n8.1.symm,h.n9.2.1.symm]
def YG.i8(h:YG st b5 b6 b7 b8 b9):(ckI st b5 b6 b7 b8 b9 b) b8=sO (.cells [.i 0]):=by
 simp[ckI,ZID,h.n9.1.symm]
def YG.i9:(ckI st b5 b6 b7 b8 b9 b) b9=sO (.cells [.bool false]):=by
 simp[ckI,ZID]
def YG.im(h:YG st b5 b6 b7 b8 b9){o}(i:st b=sO o):(ckI st b5 b6 b7 b8 b9 b) b=sO o:=by
 have t:b≠b5:=λe=>by rw[e,h.n5]at i;simp at i
 have u:b≠b6:=λe=>by rw[e,h.n6.2]at i;simp at i
 have h7:b≠b7:=λe=>by rw[e,h.n7.2.2]at i;simp at i
 have h8:b≠b8:=λe=>by rw[e,h.n8.2.2.2]at i;simp at i
 have h9:b≠b9:=λe=>by rw[e,h.n9.2.2.2.2]at i;simp at i
 simp[ckI,ZID,t,u,h7,h8,h9,i]
def YG.isub(h:YG st b5 b6 b7 b8 b9):st.sub (ckI st b5 b6 b7 b8 b9 b):=λc o i=>by
 have t:c≠b5:=λe=>by rw[e,h.n5]at i;simp at i
 have u:c≠b6:=λe=>by rw[e,h.n6.2]at i;simp at i
 have h7:c≠b7:=λe=>by rw[e,h.n7.2.2]at i;simp at i
 have h8:c≠b8:=λe=>by rw[e,h.n8.2.2.2]at i;simp at i
 have h9:c≠b9:=λe=>by rw[e,h.n9.2.2.2.2]at i;simp at i
 simp[ckI,ZID,t,u,h7,h8,h9,i]
def ZBE(h:YG st b5 b6 b7 b8 b9){H L}(hρ:ZM H 8=sO (.d (.ptr b8 0)):=by rfl):
  Yw H L (ckI st b5 b6 b7 b8 b9 b) [.cell1 8]=sO (True/\True,[.i 0]):=by
 simp[Yw,Kf,hρ,Wg,Z1,h.i8]
end
def ZnD(s)(hv:ZU s=true)(b l st)(hb:st b=sO (.map (WZ l)))(hk:∀t∈s.terms,∃v,Zr t.field l=sO v/\0<=v/\v<34359738368):
  Za ZH1 88 [.agg s.cells,.str [],.map b,.fn (.func 89) [] []] st (λr S=>r=.ret (.i 0)/\S=st):=by
 refine Zb (cR 88 f88) λF hF=>?_;refine rx @eQ4 ?_;refine rx @eQ4 ?_;refine cl (Zam s) ?_;rw[hv];refine iG ?_;refine Zc (Zc ?_);refine xP 5 λb5 h5=>?_;refine xP 6 λb6 h6=>?_;refine xP 7 λb7 h7=>?_;refine xP 8 λb8 h8=>?_;refine xP 9 λb9 h9=>?_;refine rx @eQ4 ?_;refine cV (ZbJ s hv) ?_ ?_;rintro d S ⟨x,hx,hd,rfl⟩;cases hd;refine gR0 ?_;refine Zd ?_;have i:YG st b5 b6 b7 b8 b9:=by have k6:=Zm h6;have k7:=Zm h7;have al:=Zm k7.2;have k8:=Zm h8;have af:=Zm k8.2;have am:=Zm af.2;have k9:=Zm h9;have ag:=Zm k9.2;have ah:=Zm ag.2;have ao:=Zm ah.2;exact⟨h5,k6,⟨k7.1,al⟩,⟨k8.1,af.1,am⟩,⟨k9.1,ag.1,ah.1,ao⟩⟩
 have hfew:=Je hv;rw[show(((((st.upd b5 (.cells [.str []])).upd b6 (.cells [.map b])).upd b7 (.cells [.fn (.func 89) [] []])).upd b8 (.cells [.i 0])).upd b9 (.cells [.bool false]))=ckI st b5 b6 b7 b8 b9 b from rfl]at hx⊢;refine Kt hF rfl trivial [5,6,7,8,9] (by show([5,6,7,8,9]:List Nat).Nodup;decide) (Wl hx) (ZaF s.terms (by unfold big;omega) x).Y (λj hj=>rfl)
  (λj=>.next) (λj a=>a=ckI st b5 b6 b7 b8 b9 b) rfl ?_ ?_ ?_ ?_ ?_ ?_
 intro j a hj ab hB F' ready busy hdr ac ad;subst hB;simp only[Eqs,reduceCtorEq,ZH9,reduceIte,ZH6,ZIa,ZH7,WB,W1,Q5,Ke,List.isEmpty_nil,List.isEmpty_cons];refine rg ?_;refine ac λai=>?_;have ak:(s.terms.getD j dE).field≠[]:=Zk7 hv hj;obtain⟨v,hg,h0,h1⟩:=hk _ (Zu hj);generalize htm:s.terms.getD j dE=tm at *;have e1:=Yz (vD:=YR) ZN tm.field l;have e3:=YH ZN tm.field;simp only[show Ks tm.field=D.str tm.field from rfl]at e1 e3;rw[hg]at e1;have ae:(ckI st b5 b6 b7 b8 b9 b).upd b8 (.cells [.i 0])=ckI st b5 b6 b7 b8 b9 b:=St.upd_self i.i8;refine rh ?_;refine Zp ?_;simp only[Eqs,reduceCtorEq,ZH9,reduceIte,ZH6,ZIa,ZH7,Zs (i.i6 ),Zs (i.im hb),e1,e3];refine rh ?_;refine Zp ?_;simp only[Eqs,reduceCtorEq,ZH9,reduceIte,ZH6,ZIa,ZH7,Zs (i.i5 )];refine Zl rfl trivial (λh=>by simp at h;exact absurd h ak) (λ_=>?_);refine gI ?_;rw[show YR v=.i v from rfl];refine rh ?_;refine Zp ?_;simp only[Eqs,reduceCtorEq,ZH9,reduceIte,ZH6,ZIa,ZH7,Zs (i.i7 )];refine cl (Zgt v) ?_;refine Zl rfl trivial (λh=>by simp at h;omega) (λ_=>?_);refine ZE (Zk (Zk ?_));exact ad.fin ⟨rfl,rfl⟩ ai ZH2;intro q a ab hB hq;subst hB;rw[K6 hq];have aj:=Wl (o:=Qv.dfr) hq;have ae:(ckI st b5 b6 b7 b8 b9 b).upd b8 (.cells [.i 0])=ckI st b5 b6 b7 b8 b9 b:=St.upd_self i.i8;refine rh ?_;refine Zp ?_;simp only[Eqs,reduceCtorEq,ZH9,reduceIte,ZH6,ZIa,ZH7,Zs (YG.i9 )];refine i0 ?_;refine rh ?_;refine Zp ?_;simp only[Eqs,reduceCtorEq,ZH9,reduceIte,ZH6,ZIa,ZH7,Zs (i.i8 ),WU,ae];exact hF.ret1 (Zf7 aj Yi) (.i 0) st (ZBE i) ⟨trivial,trivial⟩ (ZH3 _) i.isub ⟨rfl,rfl⟩;intro q a m hm ab u;simp at u;intro q a m id hm ab u;simp at u;intro q a m d hm ab u;simp at u;intro m c u;simp at u;rintro d S ⟨x,hx,hd,rfl⟩;cases hd
def Zqu(t:Yb){b z l st}(hb:st b=sO (.map (WZ l)))(hz:st z=sO (.cells [.map b])):
  ZL ZH1 232 [.agg t.cells,.ptr z 0] st (.i ((Zr t.field l).getD 0)) st:=by
 refine Zz (cR 232 f232) λu F i=>?_;clear u;have e1:=Yz (vD:=YR) ZN t.field l;have e3:=YH ZN t.field;simp only[show Ks t.field=D.str t.field from rfl]at e1 e3;refine rx @Yb.cells.eq_1 ?_;refine rx (nd2 @hb (nd2 @hz (nd2 @e1 (nd2 @e3 @Zdm)))) ?_;exact i rfl φ (ZH3 _) ZH2
def ZaC(s:Zbo)(l:List (Str×Int)):Int:=s.base+Ql (λt=>(Zr t.field l).getD 0) s.terms
def Zui(s)(hv:ZU s=true)(b l st)(hb:st b=sO (.map (WZ l)))(hk:∀t∈s.terms,∃v,Zr t.field l=sO v/\0<=v/\v<34359738368):
  Za ZH1 197 [.agg s.cells,.map b] st (λr S=>r=.ret (.tup [.i (ZaC s l),.i 0])/\S=st):=by
 refine Zb (cR 197 f197) λF hF=>?_;have hE:=ZaC.eq_1 s l;have i:∀t∈s.terms,0<=(Zr t.field l).getD 0/\(Zr t.field l).getD 0<34359738368:=λt ht=>by obtain⟨v,h1,h2,h3⟩:=hk t ht;rw[h1];exact⟨h2,h3⟩
 refine rx @eQ4 ?_;refine rx @eQ4 ?_;refine cV (ZnD s hv b l st hb hk) ?_ ?_;rintro d S ⟨hd,hS⟩;obtain rfl:=hS.symm;cases hd;refine gR0 ?_;refine gI ?_;refine ZE (Zc ?_);refine xP 3 λz hz=>?_;have u:b≠z:=λe=>by rw[e,hz]at hb;simp at hb
 refine rx @eQ4 ?_;refine Jo rfl rfl rfl rfl rfl φ φ (by exact Zdw s hv _ (λt=>(Zr t.field l).getD 0) _ i (λt ht=>(Zqu t (by rw[ZH8 _ _ u];exact hb) (ZH5 _ _ _)).VT (first:=[]) (args:=[_]) (caps:=[_]))) (Zp ?_);simp only[Eqs,reduceCtorEq,ZH9,reduceIte,ZH6,ZIa,ZH7];exact hF.ret _ _ rfl φ (Qn (by rw[hE]) rfl) (ZIr _ hz) ⟨rfl,rfl⟩;rintro d S ⟨hd,_⟩;cases hd
def WV(m:Msg)(d:Dfn)(path:Str)(b:Nat):List D:=[.str m.name,Zq m.fields,.str d.name,YY d.msgs,.str d.start,.str path,.map b]
def Zax(m d path)(f:Fld)(hv:ZU f.size=true)(b l st)(hb:st b=sO (.map (WZ l)))(hk:∀t∈f.size.terms,∃v,Zr t.field l=sO v/\0<=v/\v<34359738368):
  Za ZH1 139 [.agg (WV m d path b),.agg f.cells] st (λr S=>r=.ret (.i (ZaC f.size l))/\S=st):=by
 refine Zb (cR 139 f139) λF hF=>?_;have hE:=Zui f.size hv b l st hb hk;refine rx (nd2 @eQ0 @WV.eq_1) ?_;refine rg ?_;refine cV (hE) ?_ ?_;rintro u S ⟨i,hS⟩;obtain rfl:=hS.symm;cases i;refine gR0 ?_;refine rg ?_;exact hF.ret _ _ rfl φ (ZH3 _) ZH2 ⟨rfl,rfl⟩;rintro u S ⟨i,_⟩;cases i
def Zcg{v of}(hv:0<=v)(ho:1<=of):(v<=upS v of/\upS v of<v+of)/\upS v of % of=0/\((v+of)-1).tdiv of<=upS v of/\0<=((v+of)-1).tdiv of:=by
 unfold upS;have e:((v+of)-1).tdiv of=(v+of-1) / of:=Int.tdiv_eq_ediv_of_nonneg ω;rw[e];have t:=Int.emod_add_mul_ediv (v+of-1) of;have h2:=Int.emod_nonneg (v+of-1) (show of≠0 by omega);have h3:=Int.emod_lt_of_pos (v+of-1) (show 0<of by omega);have i:0<=(v+of-1) / of:=Int.ediv_nonneg ω ω;have u:(v+of-1) / of<=(v+of-1) / of*of:=by have:=Int.mul_le_mul_of_nonneg_left ho i;rwa [Int.mul_one]at this
 have h6:(v+of-1) / of*of % of=0:=Int.mul_emod_left _ _;rw[Int.mul_comm]at t;generalize (v+of-1) / of*of=x at *;exact⟨ω,h6,u,i⟩
def ZsQ{v of}(hv:0<=v/\v<=400000000)(ho:1<=of/\of<=1000):Zf ZH1 76 [.i v,.i of] (.i (upS v of)):=by
 obtain⟨hb,_,hb2,hb3⟩:=Zcg hv.1 ho.1;have t:((v+of)-1).tdiv of*of=upS v of:=rfl;refine Zh (cR 76 f76) λF st i=>?_;refine gG ?_;generalize ((v+of)-1).tdiv of=q at *;rw[t];generalize upS v of=u at *;refine aa ?_;refine ri i ?_;rfl
def ZbH(n:Int):Bool:=(dC (n=2) ||decide (n=4)) ||(dC (8<=n)&&dC (n<=512)&&dC (n.tmod 8=0))
def Ze3{n v}(hn:ZbH n=true)(hv:0<=v/\v<=335544320):Zf ZH1 35 [.i n,.i v] (.tup [.i (upS v n-v),.i 0]):=by
 have hb:1<=n/\n<=1000:=by unfold ZbH at hn;simp only[ZIp,ZIb,decide_eq_true_eq]at hn;omega
 have hU:=Zcg hv.1 hb.1;have t:=ZsQ (v:=v) (of:=n) ⟨ω,ω⟩ hb;have hP:=ZbH.eq_1 n;have ht:n.tmod 8=n % 8:=Int.tmod_eq_emod_of_nonneg ω;rw[hn]at hP;refine Zh (cR 35 f35) λF st i=>?_;refine gG ?_;refine⟨λ_=>⟨by decide,by rw[ht];omega,by rw[ht];omega⟩,?_⟩;rw[<-hP];refine rg ?_;have hd:(dC (v<0) ||decide (335544320<v))=false:=by simp;omega
 refine Zl rfl trivial (λh=>by simp at h;omega) (λ_=>?_);refine rg ?_;refine cl (t) ?_;generalize upS v n=u at *;refine aa ?_;refine rt i ?_;rfl
def Zsl:List D:=[.i 16,.i 0,.i 0,.i 0,.fn (.func 166) [] [],.fn (.func 167) [] [],.i 16,.i 65535,.i 0,.i 0,.fn (.func 168) [] [],.fn (.func 169) [] [],.i 32,.i 1,.i 0,.i 0,.fn (.func 170) [] [],.fn (.func 171) [] []]
def Ze9:Zf ZH1 121 [] (.agg Zsl):=by
 refine Zh (cR 121 f121) λF st i=>?_;refine gG ?_;exact i rfl φ (ZH3 _) ZH2
def Kb(n:Int):Int:=if n=3 then 32 else 16
def ZAz{n}(h:n=1\/n=2\/n=3):∃a b c f g,part Zsl ((n-1).toNat*6) 6=[.i (Kb n),a,b,c,f,g]:=by
 rcases h with rfl|rfl|rfl<;>exact⟨_,_,_,_,_,rfl⟩
def Zmi{n}(h:n=1\/n=2\/n=3){a b c f g}(t:part Zsl ((n-1).toNat*6) 6=[.i (Kb n),a,b,c,f,g]):Zf ZH1 77 [.i n] (.tup [.agg [.i (Kb n),a,b,c,f,g],.bool true]):=by
 refine Zh (cR 77 f77) λF st i=>?_;unfold part at t;have u:Zsl.length=18:=rfl;refine gG ?_;refine cG (Ze9) ?_;refine Zl rfl trivial (λh=>by simp at h;omega) (λ_=>?_);refine rg ?_;refine cX (nd2 @t @u) (Ze9) ?_;refine aa ?_;refine rt i ?_;rfl
def ZrN{n}(h:n=1\/n=2\/n=3):Zf ZH1 36 [.i n] (.tup [.i (Kb n),.i 0]):=by
 obtain⟨a,b,c,f,g,u⟩:=ZAz h;have t:=Zmi h u;refine Zh (cR 36 f36) λF st i=>?_;refine gG ?_;refine cl (t) ?_;refine rg ?_;refine iG ?_;refine rt i ?_;rfl
def Wj(v i:Nat):Nat:=v / 128 ^ i
def ZcO(v i):Wj v (i+1)=Wj v i / 128:=by unfold Wj;rw[Nat.pow_succ,Nat.div_div_eq_div_mul]
def Zlu(v k:Nat):UInt8:=UInt8.ofNat (Wj v k % 128+128)
def ZoD(v k:Nat):UInt8:=UInt8.ofNat (Wj v k % 128)
def Znu(v i:Nat):Str:=(ZIf i).map (Zlu v)
def Zy0(v i):Znu v (i+1)=Znu v i++[Zlu v i]:=by unfold Znu;rw[List.range_succ,List.map_append];rfl
def ZbU(v i):(Znu v i).length=i:=by simp[Znu]
def Ki(v i:Nat):Str:=Znu v i++[ZoD v i]
def Yf(v:Nat):Nat:=if Wj v 0<128 then 0 else if Wj v 1<128 then 1 else if Wj v 2<128 then 2 else if Wj v 3<128 then 3 else 4
def Zp8{v}(hv:v<34359738368):Yf v<=4/\(Wj v 0<128↔Yf v<=0)/\(Wj v 1<128↔Yf v<=1)/\(Wj v 2<128↔Yf v<=2)/\(Wj v 3<128↔Yf v<=3)/\Wj v 4<128:=by
 have e0:Wj v 0=v:=by simp[Wj]
 have e1:=ZcO v 0;have e2:=ZcO v 1;have e3:=ZcO v 2;have e4:=ZcO v 3;have t:=Yf.eq_1 v;generalize Yf v=g at *;generalize Wj v 0=u at *;generalize Wj v 1=r1 at *;generalize Wj v 2=r2 at *;generalize Wj v 3=r3 at *;generalize hr4:Wj v 4=r4 at *;have i:g<=4/\(u<128↔g<=0)/\(r1<128↔g<=1)/\(r2<128↔g<=2)/\(r3<128↔g<=3)/\r4<128:=by
  repeat' (split at t)
  all_goals omega
 exact i
def ZAj{v}(hv:v<34359738368){i}(hi:i<5):Wj v i<128↔Yf v<=i:=by
 obtain⟨h,t,u,h2,h3,h4⟩:=Zp8 hv;have h5:i=0\/i=1\/i=2\/i=3\/i=4:=ω;rcases h5 with rfl|rfl|rfl|rfl|rfl;exact t;exact u;exact h2;exact h3;exact⟨λ_=>h,λ_=>h4⟩
def Zmh(n):Zf ZH1 173 [.i n] (.bool (dC (0<=n)&&dC (n<34359738368))):=by
 refine Zh (cR 173 f173) λF st i=>?_;refine gG ?_;refine rb i ?_;rfl
def Zqh{a T:St}{tk k}(h:∀b,tk=.tip b->a b=nO):(a.or T).own tk k=a.or (T.own tk k):=by
 cases tk with
 |tip b=>exact ZhF (h b rfl)
 |_=>rfl
def ZpD{v}(st):Za ZH1 122 [.i v] st λr S=>∃x,st x=nO/\r=.ret (.fn (.func 172) [] [.ptr x 0])/\S=st.or (ZIu x (.cells [.i v])):=by
 refine Zb (cR 122 f122) λF t=>?_;refine rg ?_;refine Zc ?_;refine xP 1 λx i=>?_;refine rg ?_;exact t.ret _ _ rfl φ (ZH3 _) ZH2 ⟨x,i,rfl,K6 i⟩
def u8n{n}(h:n<256):(UInt8.ofNat n).toNat=n:=by rw[UInt8.toNat_ofNat'];omega
def Zqz{n}(h:0<=n/\n<=255):IntKind.u8.wrap n=n:=by
 unfold IntKind.wrap;simp[IntKind.bits,IntKind.signed];omega
def Zmg{v}(hv:v<34359738368)(x):Zc7 ZH1 (.fn (.func 172) [] [.ptr x 0]) (5-Yf v) (λj=>[Zo (Ki v (Yf v+j))]) (ZIu x (.cells [.i v])):=by
 intro y go A a0 ak hA hd;obtain⟨hg4,-⟩:=Zp8 hv;refine Za.V (first:=[]) (args:=[y]) (caps:=[.ptr x 0]) (Zb (cR 172 f172) λF hF=>?_);have hx:∀a T,Z8 a T->T x=sO (.cells [.i (v:Int)])->(a.or T) x=sO (.cells [.i (v:Int)]):=λa T a5 hT=>by rw[ZG (a5 x _ hT)];exact hT
 have af:(ZIu x (.cells [.i (v:Int)])) x=sO (.cells [.i (v:Int)]):=Yi;generalize hT:ZIu x (.cells [.i (v:Int)])=T at *;refine rg ?_;refine rh ?_;refine Zp ?_;simp only[Eqs,reduceCtorEq,ZH9,reduceIte,ZH6,ZIa,ZH7,hx a0 T hd af];rw[show(v:Int)=((Wj v 0:Nat):Int) by simp[Wj]];refine kl ((a0.or T)) [(0,.d y),(1,.d (.ptr x 0)),(3,.d (.sl .full 0 1 λ_=>[])),(4,.d (.i ((Wj v 0:Nat):Int)))] [] (.skip (.skip (.cons (.d (YV λb h=>by cases h)) Js))) ZbM ?_;refine Zd (fr (5) (λi Q=>∀a tk row,Z8 a (T.own tk i)->tk.okIn (a.or T)->A (i-Yf v) a->(∀j,j<i-Yf v->go j=.next)->ZY byC row (Znu v i)->i<=5->Q [(0,.d y),(1,.d (.ptr x 0)),(3,.d (.sl tk i 1 row)),(4,.d (.i ((Wj v i:Nat):Int)))] [] (a.or (T.own tk i))) (λn ai=>?_) λbe=>?_)
 .clear hA hd;intro i hn a tk row hd ad hA ab aj hi;have av:=Zqh (a:=a) (T:=T) (tk:=tk) (k:=i) (λb hb=>by subst hb;exact hd b (.tip i) (ZH5 _ _ _));have ba:(T.own tk i) x=sO (.cells [.i (v:Int)]):=by
   cases tk with
   |tip b =>
    have hb:x≠b:=λe=>by have:=(Jd ad).2;rw[<-e,af]at this;simp at this
    show(T.upd b _) x=_;rw[ZH8 _ _ hb];exact af
   |full=>exact af
   |none=>exact af
  refine rh ?_;refine Zp ?_;simp only[Eqs,reduceCtorEq,ZH9,reduceIte,ZH6,ZIa,ZH7,hx a _ hd ba];refine cl (Zmh (v:Int)) ?_;refine cd (λh1=>?_) (λh1=>?_)
  .have az:i<5:=by simp at h1;omega
   have hlt:i=5\/i<5:=ω;obtain⟨r,hr⟩:∃r:Nat,r=Wj v i:=⟨_,rfl⟩;have ac:((r:Nat):Int).tmod 128=((r % 128:Nat):Int):=by rw[Int.tmod_eq_emod_of_nonneg ω];omega
   have a3:IntKind.u8.wrap (((r:Nat):Int).tmod 128)=((ZoD v i).toNat:Int):=by rw[ac,Zqz ω];unfold ZoD;rw[<-hr,u8n ω]
   have a4:IntKind.u8.wrap (((r:Nat):Int).tmod 128+128)=((Zlu v i).toNat:Int):=by rw[ac,show((r % 128:Nat):Int)+128=((r % 128+128:Nat):Int) by omega,Zqz ω];unfold Zlu;rw[<-hr,u8n ω]
   rw[<-hr];refine rx @a3 ?_;refine⟨ω,ω,ω,by decide,by rw[ac];omega,by rw[ac];omega,?_⟩;refine ZaJ ((a.or (T.own tk i))) (.full) rfl rfl rfl rfl rfl rfl φ φ rfl (by first|trivial|assumption) ω (by (unfold big;omega)) λt1 ax=>Zp ?_;simp only[Eqs,reduceCtorEq,ZH9,reduceIte,ZH6,ZIa,ZH7];have ap:ZY byC (YW i (λi=>row i) (ZZ [D.int IntKind.u8 0] ([0].zip [D.int IntKind.u8 ((ZoD v i).toNat:Int)]))) (Ki v i):=aj.snoc (x:=ZoD v i) rfl (ZbU v i).symm;have a6:i+1=(Ki v i).length:=by unfold Ki;rw[ZIc,ZbU];rfl
   refine WW (s':=a.or (T.own tk i)) (Y2 ax) ?_;refine kl ((a.or (T.own tk i))) [(0,.d y),(1,.d (.ptr x 0)),(3,.d (.sl tk i 1 row)),(4,.d (.i (r:Int))),(5,.d (Zo (Ki v i)))] [] (.skip (.skip (.skip (.skip (.cons (.d (ap.le a6)) Js))))) ZbM ?_;clear ax;refine jU [1,0] (λQ=>∀a,Z8 a (T.own tk i)->tk.okIn (a.or T)->A (i+1-Yf v) a->(∀j,j<i+1-Yf v->go j=.next)->Q F [(0,.d y),(1,.d (.ptr x 0)),(3,.d (.sl tk i 1 row)),(4,.d (.i (r:Int))),(34,.d (.bool false))] [] (a.or (T.own tk i))) ?_ λfin=>?_
   .intro a hd ad hA ab;have bc:tk.okIn T:=by
     cases tk with
     |tip b=>exact(Jd ad).2
     |full=>trivial
     |none=>exact ad.elim
    have am:Z8 a T:=λc o hc=>hd c o (Y2 bc c o hc);have av:=Zqh (a:=a) (T:=T) (tk:=tk) (k:=i) (λb hb=>by subst hb;exact hd b (.tip i) (ZH5 _ _ _));rw[<-av,show(a.or T).own tk i=(a.or T).own tk (i*1) by rw[Nat.mul_one]];refine rx @a4 ?_;refine⟨by decide,by rw[ac];omega,by rw[ac];omega,by rw[ac];omega,by rw[ac];omega,?_⟩;refine ZaJ ((a.or T)) (tk) rfl rfl rfl rfl rfl rfl φ φ (by rw[Nat.mul_one]) ad ω (by (unfold big;omega)) λt2 ay=>Zp ?_;simp only[Eqs,reduceCtorEq,ZH9,reduceIte,ZH6,ZIa,ZH7];have ah:=aj.snoc (x:=Zlu v i) (row2:=ZZ [D.int IntKind.u8 0] ([0].zip [D.int IntKind.u8 ((Zlu v i).toNat:Int)])) rfl (ZbU v i).symm;rw[<-Zy0]at ah;have ar:Z8 a (T.own t2 (i+1)):=by
     cases t2 with
     |tip b =>intro c o hc;by_cases aq:c=b;rw[aq];exact(Jd ay).1;rw[show(T.own (.tip b) (i+1)) c=T c from ZH8 _ _ aq]at hc;exact am c o hc
     |full=>exact am
     |none=>exact am
    have aw:=Zqh (a:=a) (T:=T) (tk:=t2) (k:=i+1) (λb hb=>by subst hb;exact ar b (.tip (i+1)) (ZH5 _ _ _));rw[Nat.mul_one,aw];have bb:QI .i64 (r:Int) 7=((Wj v (i+1):Nat):Int):=by rw[ZcO,<-hr];unfold QI;rw[show((2:Int) ^ (Nat.min (7:Int).toNat IntKind.i64.bits))=128 from rfl,Int.fdiv_eq_ediv_of_nonneg _ (by decide)];omega
    have hvb:Wj v (i+1)<=v:=by unfold Wj;exact Nat.div_le_self _ _
    refine rx @bb ?_;refine⟨by decide,ω,ω,?_⟩;refine Ze ?_;exact ai ((5)-(i+1)) ω (i+1) rfl a t2 _ ar ay hA ab ah ω
   have a7:=ZAj hv az;rw[<-hr]at a7;by_cases hq:r<128
   .have ao:dC ((r:Int)<128)=true:=by simpa using(show(r:Int)<128 by omega)
    have a8:i=Yf v+(i-Yf v):=ω;have ag:=(ak (i-Yf v) ω ab a hA).frame hd;simp only[show Yf v+(i-Yf v)=i from a8.symm]at ag;refine rx @ao ?_;refine vV (ag) ?_ ?_
    .rintro d S ⟨s',⟨t,ae⟩,al,rfl⟩;have au:tk.okIn (s'.or T):=by
      cases tk with
      |tip b=>show(s'.or T) b=nO;rw[ZG (al b (.tip i) (ZH5 _ _ _))];exact(Jd ad).2
      |full=>trivial
      |none=>exact ad.elim
     rw[show i-Yf v+1=i+1-Yf v by omega]at ae;cases u:go (i-Yf v) with
     |next =>rw[u]at t;cases t;refine gR0 ?_;refine i0 ?_;refine ZE ?_;refine fin s' al au ae λj hj=>?_;by_cases a9:j=i-Yf v;rw[a9];exact u;exact ab j ω
     |stop c =>rw[u]at t;cases t;refine gR0 ?_;refine i1 ?_;exact hF.ret (.tup []) _ rfl trivial (ZH3 _) ZH2 ⟨s',.stop (i-Yf v) c ω ab u (by rw[show i-Yf v+1=i+1-Yf v by omega];exact ae),KD⟩
     |pan d=>rw[u]at t;cases t
    rintro d S ⟨s',⟨t,ae⟩,al,rfl⟩;cases u:go (i-Yf v) with
    |pan d' =>rw[u]at t;cases t;exact hF.pan _ ZH2 ⟨s',.pan (i-Yf v) d ω ab u ae,KD⟩
    |next=>rw[u]at t;cases t
    |stop c=>rw[u]at t;cases t
   have ao:dC ((r:Int)<128)=false:=by simpa using(show ¬(r:Int)<128 by omega)
   refine rx @ao ?_;refine Zao rfl (e:=.d (.bool false)) (Zp ?_);simp only[Eqs,reduceCtorEq,ZH9,reduceIte,ZH6,ZIa,ZH7];refine i0 ?_;refine ZE ?_;exact fin a hd ad (by rw[show i+1-Yf v=i-Yf v by omega];exact hA) (λj hj=>ab j ω)
  have h5:i=5:=by simp at h1;omega
  subst h5;refine ZO rfl ?_;exact hF.fin (.tup []) _ rfl trivial (ZH3 _) ZH2 ⟨a,.all ab hA,KD⟩
 exact be _ 0 rfl a0 .full _ hd trivial (by rw[Nat.zero_sub];exact hA) (by intro j hj;omega) ZY.nil ω
def apV(st:St)(b2 b4 b5:Nat)(d:D):St:=((st.upd b2 (.cells [.nilsl])).upd b4 (.cells [d])).upd b5 (.cells [.i 0])
def ZfU{v:Nat}(hv:v<34359738368)(st):Za ZH1 78 [.nilsl,.i v] st λr S=>r=.ret (.tup [Zo (Ki v (Yf v)),.i 0])/\S=st:=by
 refine Zb (cR 78 f78) λF hF=>?_;obtain⟨hg4,-⟩:=Zp8 hv;have ag:(Ki v (Yf v)).length=Yf v+1:=by unfold Ki;rw[ZIc,ZbU];rfl
 refine rg ?_;refine Zc (Zc ?_);refine xP 2 λb2 h2=>?_;refine xP 4 λb4 h4=>?_;refine xP 5 λb5 h5=>?_;refine rg ?_;refine cV (ZpD (v:=(v:Int)) _) ?_ ?_;rintro d S ⟨x,hx,hd,rfl⟩;cases hd;refine gR0 ?_;refine Zd ?_;have k4:=Zm h4;have k5:=Zm h5;have al:=Zm k5.2;rw[show((st.upd b2 (.cells [.nilsl])).upd b4 (.cells [.nilsl])).upd b5 (.cells [.i 0])=apV st b2 b4 b5 .nilsl from rfl]at hx⊢;have g2:∀d,(apV st b2 b4 b5 d) b2=sO (.cells [.nilsl]):=λd=>by unfold apV;rw[ZH8 _ _ al.1.symm,ZH8 _ _ k4.1.symm,ZH5]
 have g4:∀d,(apV st b2 b4 b5 d) b4=sO (.cells [d]):=λd=>by unfold apV;rw[ZH8 _ _ k5.1.symm,ZH5]
 have g5:∀d,(apV st b2 b4 b5 d) b5=sO (.cells [.i 0]):=λd=>by unfold apV;rw[ZH5]
 have u4:∀d d',(apV st b2 b4 b5 d).upd b4 (.cells [d'])=apV st b2 b4 b5 d':=λd d'=>by unfold apV;rw[St.upd_comm k5.1.symm,ZIk]
 have u5:∀d,(apV st b2 b4 b5 d).upd b5 (.cells [.i 0])=apV st b2 b4 b5 d:=λd=>by unfold apV;rw[ZIk]
 have sb:∀d,st.sub (apV st b2 b4 b5 d):=λd=>by unfold apV;exact ZIK (ZIK (ZIr _ h2) (ZIr _ h4)) (ZIr _ (by rw[ZH8 _ _ k5.1];exact k5.2))
 refine Kt hF rfl trivial [2,4,5] (by show([2,4,5]:List Nat).Nodup;decide) (Wl hx) (Zmg hv x).Y (λj hj=>rfl)
  (λj=>.stop .ret) (λj a=>(j=0/\a=apV st b2 b4 b5 .nilsl)\/(0<j/\a=apV st b2 b4 b5 (Zo (Ki v (Yf v))))) (.inl ⟨rfl,rfl⟩) ?_ ?_ ?_ ?_ ?_ ?_
 intro j a hj ab hB F' ready t hdr ad af;have ak:j=0:=by refine Nat.eq_zero_of_not_pos λh=>?_;have:=ab 0 h;simp at this
 subst ak;rcases hB with ⟨_,rfl⟩|⟨h,_⟩
 skip
 simp only[Eqs,reduceCtorEq,ZH9,reduceIte,ZH6,ZIa,ZH7,WB,W1,Q5,Ke,List.isEmpty_nil,List.isEmpty_cons];refine rg ?_;refine ad λaj=>?_;have ae:Z8 (apV st b2 b4 b5 (Zo (Ki v (Yf v)))) t:=λc o hc=>by have h1:=aj c o hc;unfold apV at h1⊢;have a1:=Zm h1;have a2:=Zm a1.2;rw[ZH8 _ _ a1.1,ZH8 _ _ a2.1];exact a2.2
 refine rh ?_;refine Zp ?_;simp only[Eqs,reduceCtorEq,ZH9,reduceIte,ZH6,ZIa,ZH7,Zs (g2 _)];refine ZaJ (((apV st b2 b4 b5 .nilsl).or t)) (.full) rfl rfl rfl rfl rfl rfl φ φ rfl (by first|trivial|assumption) (by (rw[ag];omega)) (by (rw[ag];unfold big;omega)) λt1 ac=>Zp ?_;simp only[Eqs,reduceCtorEq,ZH9,reduceIte,ZH6,ZIa,ZH7,Zqg ac (Zs (g4 _)),Zqg ac (Zs (g5 _)),ZH8 _ _ k5.1];have ah:ZY u8C (YW 0 (λ_=>[]) λi=>u8C (ZIg (Ki v (Yf v)) i dE)) ([]++Ki v (Yf v)):=ZY.nil.app ZY.self rfl;have ai:((apV st b2 b4 b5 (Zo (Ki v (Yf v)))).or t).sub (((((((apV st b2 b4 b5 .nilsl).or t).own t1 (List.length (Ki v (Yf v))*1)).upd b4 (.cells [.sl t1 (List.length (Ki v (Yf v))) 1 (YW 0 (λ_=>[]) λi=>u8C (ZIg (Ki v (Yf v)) i dE))])).upd b5 (.cells [.i 0])).upd b4 (.cells [Zo (Ki v (Yf v))]))):=λc o hc=>by
  by_cases c4:c=b4;subst c4;rw[ZH5];rw[Zs (g4 _)]at hc;exact hc;rw[ZH8 _ _ c4];by_cases c5:c=b5;subst c5;rw[ZH5];rw[Zs (g5 _)]at hc;exact hc;rw[ZH8 _ _ c5,ZH8 _ _ c4];refine Zqg ac ?_;have he:(apV st b2 b4 b5 (Zo (Ki v (Yf v)))) c=(apV st b2 b4 b5 .nilsl) c:=by unfold apV;rw[ZH8 _ _ c5,ZH8 _ _ c4,ZH8 _ _ c5,ZH8 _ _ c4]
  unfold St.or at hc⊢;rw[he]at hc;exact hc
 refine Jp (b:=b4) (by rw[ZH8 _ _ k5.1.symm,ZH5]) (.cons (ah.le ψ) .nil) ?_;refine WW (s':=(apV st b2 b4 b5 (Zo (Ki v (Yf v)))).or t) ai ?_;exact af.ret ⟨rfl,.inr ⟨ω,rfl⟩⟩ ae ZH2;omega;intro q a ab hB hq;have:=ab 0 ω;simp at this;intro q a m hm ab u hB hq;rcases hB with ⟨h,_⟩|⟨_,rfl⟩;omega;rw[K6 hq];exact hF.ret1 hq (.tup [Zo (Ki v (Yf v)),.i 0]) st (ds:=[Zo (Ki v (Yf v)),.i 0]) (p:=True/\True/\True) (by simp[Yw,Kf,ZM,Wg,Z1,g4,g5]) ⟨trivial,trivial,trivial⟩ (ZH3 _) (sb _) ⟨rfl,rfl⟩;intro q a m id hm ab u;simp at u;intro q a m d hm ab u;simp at u;intro m c u;simp at u;exact .inl u.symm;rintro d S ⟨x,hx,hd,rfl⟩;cases hd
def Zsc{v:Nat}(hv:v<34359738368):Zf ZH1 37 [.i v] (.tup [.i ((Yf v:Int)+1),.i 0]):=by
 refine Zh (cR 37 f37) λF st i=>?_;have t:(Ki v (Yf v)).length=Yf v+1:=by unfold Ki;rw[ZIc,ZbU];rfl
 refine gG ?_;refine cV (ZfU hv _) ?_ ?_;rintro d S ⟨u,hS⟩;obtain rfl:=hS.symm;cases u;refine gR0 ?_;refine rx @KH ?_;refine rt i ?_;rw[t];rfl;rintro d S ⟨u,_⟩;cases u
def Zj(d:Dfn)(s:Str):Msg:=d.msgs.getD (ixS d s) dE
def KX(f:Fld)(x:Val)(b:Int):Int :=
 if f.kind=1\/f.kind=2 then b+f.bits
 else if f.kind=3 then b+8*(Yf x.int.toNat+1:Nat)
 else if f.kind=4 then b+8*I x.bytes
 else if f.kind=5 then b+8*I x.bytes+8
 else if f.kind=6 then b+8*(Qt x.hdrs).length
 else if f.kind=10 then upS b f.bits
 else if f.kind=11 then b+Kb f.check
 else b
def YN(rec:Val->Int):List Val->Int->Int
 | [],b=>b
 |y::r,b=>YN rec r (b+8*rec y)
def Wt(rec:Val->Int):List Fld->List Val->Int->Int
 | [],_,b=>b
 |f::r,ps,b=>if YU f then Wt rec r (ps.drop 1) (YN rec (ps.getD 0 dE).parts (KX f (ps.getD 0 dE) b)) else Wt rec r ps (KX f dE b)
def lenS(d:Dfn):Nat->Msg->Val->Int
 |0,_,_=>0
 |n+1,m,v=>(Wt (λy=>lenS d n (Zj d y.name) y) m.fields v.parts 0).tdiv 8
structure FOk(f:Fld):Prop where
 num:f.kind=1\/f.kind=2->0<=f.bits/\f.bits<=600
 pad:f.kind=10->ZbH f.bits=true
 chk:f.kind=11->f.check=1\/f.check=2\/f.check=3
structure MOk(m:Msg):Prop where
 few:I m.fields<=40
 fld:∀f∈m.fields,FOk f
def Zdq{n}(h:ZbH n=true):2<=n/\n<=512:=by
 unfold ZbH at h;simp only[ZIp,ZIb,decide_eq_true_eq]at h;omega
def ZpF(l):(Qt l).length=Q3 l+4*I l+2:=by
 unfold Qt;rw[ZIc];have:(l.flatMap Ziv).length=Q3 l+4*I l:=by
  induction l with
  |nil=>rfl
  |cons h r ih=>rw[List.flatMap_cons,ZIc,ih];simp only[Ziv,Q3,ZIc,ZIi,List.length_nil];omega
 rw[this];rfl
def ZvG(v):Yf v<=4:=by
 unfold Yf
 repeat' split
 all_goals omega
def Zco{f x b}(hf:FOk f)(hb:0<=b)(hh:I x.hdrs<=100):b<=KX f x b/\KX f x b<=b+600+8*(I x.bytes+Q3 x.hdrs:Nat)+3300:=by
 have h3:=ZvG x.int.toNat;have h6:=ZpF x.hdrs;have hck:Kb f.check=32\/Kb f.check=16:=by unfold Kb;split<;>simp
 unfold KX;by_cases u:f.kind=1\/f.kind=2;have:=hf.num u;rw[if_pos u];omega;rw[if_neg u];by_cases c3:f.kind=3;rw[if_pos c3];omega;rw[if_neg c3];by_cases c4:f.kind=4;rw[if_pos c4];omega;rw[if_neg c4];by_cases c5:f.kind=5;rw[if_pos c5];omega;rw[if_neg c5];by_cases c6:f.kind=6;rw[if_pos c6];omega;rw[if_neg c6];by_cases i:f.kind=10;rw[if_pos i];have h1:=Zdq (hf.pad i);have h2:=(Zcg hb (show 1<=f.bits by omega)).1;omega;rw[if_neg i];by_cases t:f.kind=11;rw[if_pos t];omega;rw[if_neg t];omega
def JK{rec}:∀{l b},(∀y∈l,0<=rec y/\8*rec y<=20000*(wtN y:Int))->b<=YN rec l b/\YN rec l b<=b+20000*(wtL l:Int)
 | [],b,_=>by simp[YN,wtL]
 |y::r,b,h=>by have h1:=h y ψ;have h2:=JK (rec:=rec) (l:=r) (b:=b+8*rec y) λz i=>h z (by simp[i]);simp only[YN,wtL];omega
def Zap{rec}:∀{l ps b},(∀f∈l,FOk f)->0<=b->(∀x∈ps,I x.hdrs<=100/\∀y∈x.parts,0<=rec y/\8*rec y<=20000*(wtN y:Int)) ->
  b<=Wt rec l ps b/\Wt rec l ps b<=b+600*(I l:Int)+3300*(I l:Int)+20000*(wtL ps:Int)
 | [],ps,b,_,hb,_=>by simp only[Wt,List.length_nil];omega
 |f::r,ps,b,hf,hb,hp=>by
  have i:=hf f ψ;have t:∀g∈r,FOk g:=λg hg=>hf g (by simp[hg]);simp only[Wt,ZIi];split
  .cases ps with
   |nil =>have u:=Zco (x:=dE) i hb (by simp[show(dE:Val).hdrs=[] from rfl]);have e1:(dE:Val).bytes.length=0:=rfl;have e2:Q3 (dE:Val).hdrs=0:=rfl;have h2:=Zap (rec:=rec) (l:=r) (ps:=[]) (b:=KX f dE b) t ω (λx hx=>by simp at hx);rw[show Wt rec r (List.drop 1 []) (YN rec (([]:List Val).getD 0 dE).parts (KX f (([]:List Val).getD 0 dE) b))=Wt rec r [] (KX f dE b) from rfl];rw[e1,e2]at u;simp only[wtL]at h2⊢;omega
   |cons x q =>have hx:=hp x ψ;have u:=Zco i hb hx.1;have h3:=JK (b:=KX f x b) hx.2;have h2:=Zap (rec:=rec) (l:=r) (ps:=q) (b:=YN rec x.parts (KX f x b)) t ω (λz hz=>hp z (by simp[hz]));have hw:=ZaI x;rw[show Wt rec r ((x::q).drop 1) (YN rec ((x::q).getD 0 dE).parts (KX f ((x::q).getD 0 dE) b))=Wt rec r q (YN rec x.parts (KX f x b)) from rfl];simp only[wtL];omega
  have u:=Zco (x:=dE) i hb (by simp[show(dE:Val).hdrs=[] from rfl]);have e1:(dE:Val).bytes.length=0:=rfl;have e2:Q3 (dE:Val).hdrs=0:=rfl;rw[e1,e2]at u;have h2:=Zap (rec:=rec) (l:=r) (ps:=ps) (b:=KX f dE b) t ω hp;omega
def DOk(d:Dfn):Prop:=∀m∈d.msgs,MOk m
def DOk.of{d}(h:DOk d)(s):MOk (Zj d s):=by
 unfold Zj;by_cases i:ixS d s<I d.msgs;exact h _ (Zu i);rw[show d.msgs.getD (ixS d s) dE=dE by simp[ZIg,ZIM (Nat.le_of_not_lt i)]];exact⟨by decide,λf t=>by simp[show(dE:Msg).fields=[] from rfl]at t⟩
def Wm{v x}(h:ZX v=true)(i:x∈v.parts):ZX x=true:=by
 rw[Zfs,ZIb,ZeF]at h;exact List.all_eq_true.1 h.1 x i
def KV{v}(h:ZX v=true):Jj v=true:=by
 rw[Zfs,ZIb]at h;exact h.2
def Zbc{d}(u:DOk d):∀(n m v),MOk m->ZX v=true->0<=lenS d n m v/\8*lenS d n m v<=20000*(wtN v:Int)
 |0,m,v,_,_=>by simp only[lenS];omega
 |n+1,m,v,hm,hv=>by
  have h1:=Zap (rec:=λy=>lenS d n (Zj d y.name) y) (l:=m.fields) (ps:=v.parts) (b:=0) hm.fld ω λx hx=>by have i:=Wm hv hx;exact⟨(QF (KV i)).2.2.2.1,λy hy=>Zbc u n (Zj d y.name) y (u.of _) (Wm i hy)⟩
  have h2:=ZaI v;have h3:=hm.few;simp only[lenS];generalize Wt (λy=>lenS d n (Zj d y.name) y) m.fields v.parts 0=t at *;rw[Int.tdiv_eq_ediv_of_nonneg ω];omega
structure XOk(f:Fld)(x:Val):Prop where
 unused:W8 f.kind x=false
 vint:f.kind=3->0<=x.int/\x.int<34359738368
 hdrs:f.kind=6->KJ x.hdrs=true/\Zc4 x.hdrs
def ZaA(d:Dfn):Nat->Msg->Val->Prop
 |0,_,_=>False
 |n+1,m,v=>(vfs m.fields).length=I v.parts/\∀k,k<I v.parts->XOk ((vfs m.fields).getD k dE) (v.parts.getD k dE)/\∀y∈(v.parts.getD k dE).parts,0<=Zy d y.name (I d.msgs)/\ZaA d n (Zj d y.name) y
def ZfV{l i k}(hk:k=(vfs (l.take i)).length)(u:i<I l)(hv:YU (l.getD i dE)=true):k<(vfs l).length/\(vfs l).getD k dE=l.getD i dE:=by
 have t:=ZzB u;rw[if_pos hv]at t;refine⟨by rw[t];simp;omega,?_⟩;rw[t,hk];simp[ZIg]
def Zuw{v x}(h:x∈v.parts):wtN x<=wtN v:=by
 have h1:=Zwd h;have h2:=ZaI v;omega
def ZfR(rec:Val->Int):List Val->Int
 | []=>0
 |y::r=>rec y+ZfR rec r
def ZeH{rec}:∀(l b),YN rec l b=b+8*ZfR rec l
 | [],b=>by simp[YN,ZfR]
 |y::r,b=>by simp only[YN,ZfR];rw[ZeH r];omega
def Zqs(l f rec st)(hl:I l<=5000)(hr:∀y∈l,0<=rec y/\8*rec y<=20000*(wtN y:Int))(hw:wtL l<=5000)(hf:∀y∈l,VT ZH1 f [.agg y.cells] st (.i (rec y)) st):
  ZL ZH1 33 [Z7 l,f] st (.i (ZfR rec l)) st:=by
 refine Zz (cR 33 f33) λaf F ab=>?_;clear af;have hT:=JK (b:=0) hr;have hTe:=ZeH (rec:=rec) l 0;generalize ae:ZfR rec l=T at *;refine rg ?_;refine rx @Zdl ?_;refine Zd (fr (I l) (λi Q=>∀b:Int,0<=b->b<=T->b+ZfR rec (l.drop i)=T->i<=I l->Q [(1,.d f),(4,.d (.i b)),(7,.d (Z7 l)),(8,.d (.i (I l))),(9,.d (.i i))] [] st) (λn u=>?_) λah=>?_);intro i hn b hb0 hbT t hi;refine rg ?_;refine Zc (Zl rfl trivial (λh1=>?_) (λh1=>?_));simp at h1;have ad:l.getD i dE∈l:=Zu h1;have hyr:=hr _ ad;have ac:=hf _ ad;have ag:=QX (l:=l) (i:=i) h1;rw[Wn h1]at t;simp only[ZfR]at t;have hP:=JK (rec:=rec) (l:=l.drop (i+1)) (b:=0) λz hz=>hr z (List.mem_of_mem_drop hz);rw[ZeH]at hP;rw[ZIq]at ac;generalize l.getD i dE=y at *;generalize rec y=ry at *;refine xA (nd2 @atV @ag) ?_;refine rg ?_;refine cW (ac) ?_;refine aa ?_;refine gA ?_;refine Ze ?_;exact u ((I l)-(i+1)) ω (i+1) rfl (b+ry) ω ω ω ω;simp at h1;obtain rfl:i=I l:=ω;rw[List.drop_eq_nil_of_le (ZIh _)]at t;simp only[ZfR]at t;refine rg ?_;exact ab rfl φ (Zhk ω) ZH2;exact ah _ 0 rfl 0 ω ω (by rw[List.drop_zero,ae];omega) ω
def Zmc(d)(y:Val)(ry zd st)(hz:st zd=sO (.cells [.str d.name,YY d.msgs,.str d.start]))(h0:0<=Zy d y.name (I d.msgs))(u:Zf ZH1 19 [.agg d.cells,.agg (Zj d y.name).cells,.agg y.cells] (.i ry)):ZL ZH1 34 [.agg y.cells,.ptr zd 0] st (.i ry) st:=by
 refine Zz (cR 34 f34) λt F i=>?_;clear t;have hm:=We d y.name h0;rw[show d.msgs.getD (ixS d y.name) dE=Zj d y.name from rfl]at hm;rw[ZIq]at u⊢;refine rg ?_;refine xA @hz ?_;refine clD (hm) ?_;refine clD (u) ?_;exact i rfl φ (ZH3 _) ZH2
def Zmd(d)(hd:DOk d)(n m)(hm:MOk m)(v)(hv:ZX v=true)(hw:wtN v<=5000)(hL:ZaA d (n+1) m v)(ih:∀x∈v.parts,∀y∈x.parts,0<=Zy d y.name (I d.msgs)/\Zf ZH1 19 [.agg d.cells,.agg (Zj d y.name).cells,.agg y.cells] (.i (lenS d n (Zj d y.name) y))):
  Zf ZH1 19 [.agg d.cells,.agg m.cells,.agg v.cells] (.i (lenS d (n+1) m v)):=by
 refine Zh (cR 19 f19) λF st be=>?_;obtain⟨bb,hX⟩:=hL;have hrec:∀x∈v.parts,I x.hdrs<=100/\∀y∈x.parts,0<=lenS d n (Zj d y.name) y/\8*lenS d n (Zj d y.name) y<=20000*(wtN y:Int):=λx hx =>
  ⟨(QF (KV (Wm hv hx))).2.2.2.1,λy hy=>Zbc hd n _ y (hd.of _) (Wm (Wm hv hx) hy)⟩
 obtain⟨rec,aq⟩:∃rec:Val->Int,rec=λy=>lenS d n (Zj d y.name) y:=⟨_,rfl⟩;have hS:lenS d (n+1) m v=(Wt rec m.fields v.parts 0).tdiv 8:=by rw[aq];rfl
 have ad:∀x∈v.parts,I x.hdrs<=100/\∀y∈x.parts,0<=rec y/\8*rec y<=20000*(wtN y:Int):=by rw[aq];exact hrec
 have bz:∀x∈v.parts,∀y∈x.parts,0<=Zy d y.name (I d.msgs)/\Zf ZH1 19 [.agg d.cells,.agg (Zj d y.name).cells,.agg y.cells] (.i (rec y)):=by rw[aq];exact ih
 have hT:=Zap (rec:=rec) (l:=m.fields) (ps:=v.parts) (b:=0) hm.fld ω ad;have hwn:=ZaI v;have hfew:=hm.few;generalize bn:Wt rec m.fields v.parts 0=T at *;clear hrec ih aq;generalize lenS d (n+1) m v=LV at *;rw[ZIq];refine rx (nd2 @eQ2 @eQ3) ?_;refine rg ?_;refine Zc (Zc ?_);refine xP 3 λzd hz=>?_;have bq:(st.upd zd (.cells [.str d.name,YY d.msgs,.str d.start])) zd=sO (.cells [.str d.name,YY d.msgs,.str d.start]):=ZH5 _ _ _;have bg:=ZIr (s:=st) (.cells [.str d.name,YY d.msgs,.str d.start]) hz;generalize st.upd zd (.cells [.str d.name,YY d.msgs,.str d.start])=S at *;refine rx @Zdk ?_;refine Zd (fr (I m.fields) (λi Q=>∀(b:Int) (k:Nat),i<=I m.fields->k=(vfs (m.fields.take i)).length->0<=b->b<=T->Wt rec (m.fields.drop i) (v.parts.drop k) b=T->Q [(3,.d (.ptr zd 0)),(5,.loc 5 0),(7,.d (.i b)),(8,.d (.i k)),(20,.d (Zq m.fields)),(21,.d (.i (I m.fields))),(22,.d (.i i))] [(5,[.str v.name,.i v.int,Zo v.bytes,Ym v.hdrs,Z7 v.parts])] S) (λn ay=>?_) λb0=>?_)
 .intro i hn b k hi hk a8 hbT ab;refine rg ?_;refine Zc (Zl rfl trivial (λh1=>?_) (λh1=>?_))
  .simp at h1;have bp:m.fields.getD i dE∈m.fields:=Zu h1;have am:=hm.fld _ bp;have ba:=λhh=>ZfV hk h1 hh;have ai:=ZnL h1;rw[Wn h1]at ab;simp only[Wt]at ab;generalize hf:m.fields.getD i dE=f at *;refine xA (nd2 @atF (nd2 @hf @eQ0)) ?_;refine gG ?_;refine cl (Zd6 f) ?_;refine jU [0,1] (λQ=>∀(x:Val) (k:Nat),k=(vfs (m.fields.take (i+1))).length->Wt rec (m.fields.drop (i+1)) (v.parts.drop k) (YN rec x.parts (KX f x b))=T->(f.kind=3->0<=x.int/\x.int<34359738368)->(f.kind=6->KJ x.hdrs=true/\Zc4 x.hdrs)->I x.hdrs<=100->I x.bytes<=1048576->I x.parts<=5000->wtL x.parts<=5000->(∀y∈x.parts,0<=rec y/\8*rec y<=20000*(wtN y:Int))->(∀y∈x.parts,0<=Zy d y.name (I d.msgs)/\Zf ZH1 19 [.agg d.cells,.agg (Zj d y.name).cells,.agg y.cells] (.i (rec y)))->(¬f.kind=4->¬f.kind=5->I x.bytes=0)->(f.kind<7\/f.kind=10\/f.kind=11->x.parts=[])->Q F [(3,.d (.ptr zd 0)),(5,.loc 5 0),(7,.d (.i b)),(8,.d (.i k)),(10,.loc 10 0),(11,.loc 11 0),(20,.d (Zq m.fields)),(21,.d (.i (I m.fields))),(22,.d (.i i))] [(5,[.str v.name,.i v.int,Zo v.bytes,Ym v.hdrs,Z7 v.parts]),(10,[.str f.name,.i f.kind,.i f.bits,.bool f.little,.bool f.loose,.i f.low,.i f.high,.i f.size.base,Ye f.size.terms,.str f.of,.str f.tag,.str f.from_,WE f.cases,.i f.check,.i f.key]),(11,[.str x.name,.i x.int,Zo x.bytes,Ym x.hdrs,Z7 x.parts])] S) ?_ λaz=>?_;clear ab hk ba ai;intro x k hk ab au av bu hxb bj bk al aw ak af;have hA:=Zco (x:=x) am a8 bu;have hP:=JK (rec:=rec) (l:=x.parts) (b:=KX f x b) al;have bl:=ZeH (rec:=rec) x.parts (KX f x b);have hB:=Zap (rec:=rec) (l:=m.fields.drop (i+1)) (ps:=v.parts.drop k) (b:=YN rec x.parts (KX f x b)) (λg hg=>hm.fld g (List.mem_of_mem_drop hg)) ω (λz hz=>ad z (List.mem_of_mem_drop hz));have t:=KX.eq_1 f x b;have ht:=Zqs x.parts (.fn (.func 34) [] [.ptr zd 0]) rec S bj al bk λy hy=>(Zmc d y (rec y) zd S bq (aw y hy).1 (aw y hy).2).VT (first:=[]) (args:=[_]) (caps:=[_]);have ae:x.parts=[]->ZfR rec x.parts=0:=λh=>by rw[h];rfl
   generalize ZfR rec x.parts=b1 at *;refine rx @KH ?_;refine ctD (ht) ?_;refine aa ?_;refine jU [1,0] (λQ=>∀(c n':Int),c+8*n'=KX f x b+8*b1->0<=c->0<=n'->Q F [(3,.d (.ptr zd 0)),(5,.loc 5 0),(7,.d (.i c)),(8,.d (.i k)),(12,.d (.i n')),(20,.d (Zq m.fields)),(21,.d (.i (I m.fields))),(22,.d (.i i))] [(5,[.str v.name,.i v.int,Zo v.bytes,Ym v.hdrs,Z7 v.parts])] S) ?_ λfin=>?_;clear t;intro c n' hc hc0 hn0;refine gA ?_;refine gA ?_;refine Ze ?_;exact ay ((I m.fields)-(i+1)) ω (i+1) rfl (c+8*n') k ω hk ω ω (by rw[hc,<-bl];exact ab);refine rx @eQ0 ?_;refine rg ?_;refine cd (λc1=>?_) (λc1=>?_);have ah:f.kind=1:=by simpa using c1
   rw[if_pos ω]at t;have:=ak ω ω;have:=ae (af ω);refine ZE (Zl rfl trivial (λ_=>?_) (λh=>by rw[c1]at h;simp at h));refine xA @eQ0 ?_;refine Zk ?_;exact fin _ _ (by rw[t];omega) ω ω;refine rg ?_;refine cd (λc2=>?_) (λc2=>?_);have a5:f.kind=2:=by simpa using c2
   rw[if_pos ω]at t;have:=ak ω ω;have:=ae (af ω);refine xA @eQ0 ?_;refine Zk ?_;exact fin _ _ (by rw[t];omega) ω ω;have ah:¬f.kind=1:=by simpa using c1
   have a5:¬f.kind=2:=by simpa using c2
   rw[if_neg ω]at t;refine rg ?_;refine cd (λa0=>?_) (λa0=>?_);have ac:f.kind=10:=by simpa using a0
   rw[if_neg ω,if_neg ω,if_neg ω,if_neg ω,if_pos ac]at t;have:=ak ω ω;have:=ae (af ω);have hpd:=Zdq (am.pad ac);have hup:=Zcg a8 (show 1<=f.bits by omega);have a7:=Ze3 (v:=b) (am.pad ac) ⟨ω,ω⟩;generalize upS b f.bits=u at *;refine rx @eQ0 ?_;refine cl (a7) ?_;refine gA ?_;refine Zk ?_;exact fin _ _ (by rw[t];omega) ω ω;have ac:¬f.kind=10:=by simpa using a0
   refine rg ?_;refine cd (λa3=>?_) (λa3=>?_);have ag:f.kind=11:=by simpa using a3
   rw[if_neg ω,if_neg ω,if_neg ω,if_neg ω,if_neg ω,if_pos ag]at t;have:=ak ω ω;have:=ae (af ω);have hcb:Kb f.check=32\/Kb f.check=16:=by unfold Kb;split<;>simp
   have a7:=ZrN (am.chk ag);generalize Kb f.check=u at *;refine rx @eQ0 ?_;refine cl (a7) ?_;refine gA ?_;refine Zk ?_;exact fin _ _ (by rw[t];omega) ω ω;have ag:¬f.kind=11:=by simpa using a3
   refine rg ?_;refine cd (λc3=>?_) (λc3=>?_);have ao:f.kind=3:=by simpa using c3
   rw[if_pos ao]at t;have:=ae (af ω);obtain⟨hv0,hv1⟩:=au ao;obtain⟨vn,bi⟩:∃vn:Nat,x.int=vn:=⟨x.int.toNat,ω⟩;rw[bi,Int.toNat_natCast]at t;have bh:=Zsc (v:=vn) ω;rw[<-bi]at bh;refine rg ?_;refine cl (bh) ?_;refine Zk ?_;refine kE [3,5,7,8,12,20,21,22] ?_;exact fin _ _ (by rw[t];omega) ω ω;have ao:¬f.kind=3:=by simpa using c3
   rw[if_neg ao]at t;refine rg ?_;refine cd (λc5=>?_) (λc5=>?_);have aj:f.kind=5:=by simpa using c5
   rw[if_neg ω,if_pos aj]at t;have:=ae (af ω);refine gA ?_;refine Zk ?_;refine kE [3,5,7,8,12,20,21,22] ?_;exact fin _ _ (by rw[t];omega) ω ω;have aj:¬f.kind=5:=by simpa using c5
   refine rg ?_;refine cd (λc6=>?_) (λc6=>?_);have ap:f.kind=6:=by simpa using c6
   rw[if_neg ω,if_neg aj,if_pos ap]at t;have:=ae (af ω);obtain⟨br,bt⟩:=av ap;have a4:=Zei bt;unfold ZhZ at a4;rw[if_pos br]at a4;refine rg ?_;refine cl (a4) ?_;refine rx @KH ?_;refine Zk ?_;exact fin _ _ (by rw[t];omega) ω ω;have ap:¬f.kind=6:=by simpa using c6
   have bo:KX f x b=b+8*(I x.bytes:Int):=by by_cases a6:f.kind=4;rw[t,if_pos a6];have:=ak a6 aj;rw[t,if_neg a6,if_neg aj,if_neg ap,if_neg ac,if_neg ag];omega
   refine ZE (Zk ?_);refine kE [3,5,7,8,12,20,21,22] ?_;exact fin _ _ (by rw[bo];omega) ω ω;refine cd (λhh=>?_) (λhh=>?_)
   .rw[if_pos hh]at ab;obtain⟨ah,a5⟩:=ba hh;rw[bb]at ah;have ax:v.parts.getD k dE∈v.parts:=Zu ah;obtain⟨⟨ar,au,av⟩,bj⟩:=hX k ah;have bf:=QX (l:=v.parts) (i:=k) ah;have al:=ad _ ax;have aw:=bz _ ax;have bx:=Wm hv ax;have bw:=QF (KV bx);have bk:=Zwd ax;have hk40:k<=i:=by rw[hk];exact ZB5
    rw[show(v.parts.drop k).getD 0 dE=v.parts.getD k dE by simp[ZIg],List.drop_drop]at ab;rw[a5]at au av ar;rw[if_pos hh]at ai;generalize v.parts.getD k dE=x at *;have hwx:=ZaI x;have bv:I x.parts<=5000:=by
     have h2:10*I x.parts<=wtL x.parts:=by
      have h3:∀l:List Val,10*I l<=wtL l:=λl=>by
       induction l with
       |nil=>simp
       |cons a r ih3=>have:=ZaI a;simp only[wtL,ZIi];omega
      exact h3 _
     omega
    unfold W8 ZpU at ar;simp only[Bool.or_eq_false_iff,Bool.and_eq_false_iff,Bool.not_eq_false',ZIp,decide_eq_true_eq,decide_eq_false_iff_not]at ar;obtain⟨⟨⟨_,hu1⟩,_⟩,hu2⟩:=ar;have hno:¬f.kind=10/\¬f.kind=11:=by unfold YU at hh;simp at hh;omega
    refine xA (nd2 @atV (nd2 @bf (nd2 @Zab @Zc1))) ?_;refine gA ?_;refine Zc ?_;rw[show(k:Int)+1=((k+1:Nat):Int) by omega];exact az x (k+1) (by rw[ai,ZIc,<-hk];rfl) ab au av al.1 bw.2.2.1 bv ω al.2 aw (λh4 h5=>by omega) (λh=>List.eq_nil_of_length_eq_zero ω)
   rw[if_neg (by rw[hh];simp)]at ab ai;rw[ZIy]at ai;refine ZE (Zc ?_);refine kE [3,5,7,8,10,11,20,21,22] ?_;refine kl (S) [(3,.d (.ptr zd 0)),(5,.loc 5 0),(7,.d (.i b)),(8,.d (.i k)),(10,.loc 10 0),(11,.loc 11 0),(20,.d (Zq m.fields)),(21,.d (.i (I m.fields))),(22,.d (.i i))] [(5,[.str v.name,.i v.int,Zo v.bytes,Ym v.hdrs,Z7 v.parts]),(10,[.str f.name,.i f.kind,.i f.bits,.bool f.little,.bool f.loose,.i f.low,.i f.high,.i f.size.base,Ye f.size.terms,.str f.of,.str f.tag,.str f.from_,WE f.cases,.i f.check,.i f.key]),(11,[.str (dE:Val).name,.i (dE:Val).int,Zo (dE:Val).bytes,Ym (dE:Val).hdrs,Z7 (dE:Val).parts])] Js (.skip (.skip (.cons (.cons (ZH3 _) (.cons (ZH3 _) (.cons (YV λb h=>by cases h) (.cons (YV λb h=>by cases h) (.cons (YV λb h=>by cases h) .nil))))) .nil))) ?_;have a9:¬f.kind=3/\¬f.kind=6:=by unfold YU at hh;simp at hh;omega
   exact az dE k (by rw[ai];exact hk) ab (λh=>absurd h a9.1) (λh=>absurd h a9.2) (by simp[show(dE:Val).hdrs=[] from rfl]) (by simp[show(dE:Val).bytes=[] from rfl]) (by simp[show(dE:Val).parts=[] from rfl]) (by simp[show(dE:Val).parts=[] from rfl,wtL]) (λy hy=>by simp[show(dE:Val).parts=[] from rfl]at hy) (λy hy=>by simp[show(dE:Val).parts=[] from rfl]at hy) (λ_ _=>rfl) (λ_=>rfl)
  simp at h1;obtain rfl:i=I m.fields:=ω;rw[List.drop_eq_nil_of_le (ZIh _)]at ab;simp only[Wt]at ab;have bc:b.tdiv 8=b / 8:=Int.tdiv_eq_ediv_of_nonneg ω;subst ab;refine rg ?_;refine⟨by decide,by rw[bc];omega,by rw[bc];omega,?_⟩;exact be rfl φ (Zhk hS.symm) bg
 exact b0 _ 0 rfl 0 0 ω rfl ω ω bn
def ZcX(d)(i:DOk d):∀(n m v),MOk m->ZX v=true->wtN v<=5000->ZaA d n m v ->
  Zf ZH1 19 [.agg d.cells,.agg m.cells,.agg v.cells] (.i (lenS d n m v))
 |0,_,_,_,_,_,hL=>hL.elim
 |n+1,m,v,hm,hv,hw,hL=>by refine Zmd d i n m hm v hv hw hL λx hx y hy=>?_;obtain⟨k,hk,rfl⟩:=ZIl hx;have t:=(hL.2 k hk).2 y (by simpa[ZIg,hk]using hy);exact⟨t.1,ZcX d i n (Zj d y.name) y (i.of _) (Wm (Wm hv hx) hy) (Nat.le_trans (Nat.le_trans (Zuw hy) (Zuw hx)) hw) t.2⟩
def atR(d:Dfn)(s:Str)(v:Val):D:=if Wo d&&KM v then (if Zy d s (I d.msgs)<0 then .tup [.agg [.str [],.nilsl],.i 9] else .tup [.agg (Zj d s).cells,.i 0]) else .tup [.agg [.str [],.nilsl],.i 2]
def ZmI(d s v):Zf ZH1 21 [.agg d.cells,.str s,.agg v.cells] (atR d s v):=by
 refine Zh (cR 21 f21) λF st i=>?_;have hV:=ZqC v;have hA:=ZmU d;have hS:=atR.eq_1 d s v;have u:Zi (λx:Msg=>dC (x.name=s)) d.msgs=Zy d s (I d.msgs):=by unfold Zy;rw[ZIC]
 rw[ZIq]at hV⊢;cases ha:Wo d with
 |false =>rw[ha]at hA hS;simp only[ZIE]at hS;rw[if_neg ψ]at hS;rw[hS]at i;refine rx @eQ2 ?_;refine rg ?_;refine cl (hA) ?_;refine Zao rfl (e:=.d (.bool false)) (Zp ?_);simp only[Eqs,reduceCtorEq,ZH9,reduceIte,ZH6,ZIa,ZH7];refine i1 ?_;refine rg ?_;refine rt i ?_;rfl
 |true =>
  rw[ha]at hA hS;simp only[ZIt]at hS;refine rx @eQ2 ?_;refine rg ?_;refine cl (hA) ?_;refine cG (hV) ?_;refine cd (λhv=>?_) (λhv=>?_);rw[if_neg (by simpa using hv)]at hS;rw[hS]at i;refine rg ?_;refine rt i ?_;rfl;rw[if_pos (by simpa using hv)]at hS;refine rg ?_;refine cX @u (Zbg d s) ?_;refine rg ?_;refine cd (λhf=>?_) (λhf=>?_);rw[if_pos (by simpa using hf)]at hS;rw[hS]at i;refine rg ?_;refine rt i ?_;rfl;have t:0<=Zy d s (I d.msgs):=by simpa using hf
  rw[if_neg ω]at hS;rw[hS]at i;have hix:=KZ t;have ab:max (Zy d s (I d.msgs)) 0=ixS d s:=ω;unfold Zj at i;generalize hm:d.msgs.getD (ixS d s) dE=m at *;rw[ab];refine xA (nd2 @atM (nd2 @hm @eQ3)) ?_;refine rt i ?_;rfl
def mfD(q:Str)(no:Int):D:=.iface 73 (.agg [.str q,.i no])
def mfR(q:Str)(no:Int):Res:=if no=0 then .ret (.tup []) else .panic (mfD q no)
def Zen(fine q no st):Za ZH1 96 [.bool fine,.str q,.i no] st λr S=>S=st/\r=if fine then .ret (.tup []) else .panic (mfD q no):=by
 refine Zb (cR 96 f96) λF t=>?_;refine rg ?_;refine cd (λh=>?_) (λh=>?_);have i:fine=false:=by simpa using h
 refine rg ?_;refine ZmR rfl rfl rfl trivial ?_;exact t.pan st ZH2 ⟨rfl,by rw[i];rfl⟩;have i:fine=true:=by simpa using h
 refine ZE ?_;exact t.fin (.tup []) st rfl trivial (ZH3 _) ZH2 ⟨rfl,by rw[i];rfl⟩
def ZuW(a b q st):Za ZH1 138 [.i a,.i b,.str q] st λr S=>S=st/\r=mfR q (WC a b):=by
 refine Zb (cR 138 f138) λF hF=>?_;have t:=WC.eq_1 a b;refine rg ?_;refine cV (Zen (dC (b<=a)) q 4 st) ?_ ?_;rintro d S ⟨u,i⟩;obtain rfl:=u.symm;by_cases h1:b<=a;rw[decide_eq_true h1,if_pos rfl]at i;cases i;rw[if_neg (by simp;omega)]at t;refine gR0 ?_;refine rg ?_;refine cV (Zen (dC (a<=b)) q 5 st) ?_ ?_;rintro d S ⟨u,i⟩;obtain rfl:=u.symm;by_cases h2:a<=b;rw[decide_eq_true h2,if_pos rfl]at i;cases i;rw[if_neg (by simp;omega)]at t;refine gR0 ?_;exact hF.fin (.tup []) st rfl trivial (ZH3 _) ZH2 ⟨rfl,by rw[t];rfl⟩;rw[decide_eq_false h2,if_neg ψ]at i;cases i;rintro d S ⟨u,i⟩;obtain rfl:=u.symm;by_cases h2:a<=b;rw[decide_eq_true h2,if_pos rfl]at i;cases i;rw[decide_eq_false h2,if_neg ψ]at i;cases i;rw[if_pos (by simp;omega)]at t;exact hF.pan st ZH2 ⟨rfl,by rw[t];rfl⟩;rw[decide_eq_false h1,if_neg ψ]at i;cases i;rintro d S ⟨u,i⟩;obtain rfl:=u.symm;by_cases h1:b<=a;rw[decide_eq_true h1,if_pos rfl]at i;cases i;rw[decide_eq_false h1,if_neg ψ]at i;cases i;rw[if_pos (by simp;omega)]at t;exact hF.pan st ZH2 ⟨rfl,by rw[t];rfl⟩
def WI(g:Nat->Str×Int):List Nat->Option (Str×Int)
 | []=>nO
 |i::r=>if (g i).2=0 then WI g r else sO (g i)
def ZgP{g}:∀{l},WI g l=nO->∀i∈l,(g i).2=0
 | [],_,i,hi=>by simp at hi
 |a::r,h,i,hi=>by simp only[WI]at h;split at h;rename_i t;rcases List.mem_cons.1 hi with rfl|hi;exact t;exact ZgP h i hi;simp at h
def JI(mis:Msg->Val->Str->Str×Int)(d:Dfn)(of:Str)(x:Val)(q:Str):Str×Int :=
 if (I x.parts)=1 then mis (Zj d of) (x.parts.getD 0 dE) (ZR q (Yx x.parts 0)) else (q,6)
def KW(mis:Msg->Val->Str->Str×Int)(len:Msg->Val->Int)(d:Dfn)(f:Fld)(x:Val)(q:Str)(l:List (Str×Int)):Str×Int :=
 if f.kind=1\/f.kind=3 then (if x.int<f.low\/f.high<x.int then (q,3) else (q,0))
 else if f.kind=4 then (q,WC (I x.bytes) (Zbh f.size l))
 else if f.kind=5 then (if f.high<I x.bytes then (q,5) else if x.bytes.any (λc=>dC ((c.toNat:Int)=f.low)) then (q,6) else (q,0))
 else if f.kind=6 then (if KJ x.hdrs=false then (q,6) else if f.high<(Qt x.hdrs).length then (q,5) else (q,0))
 else if f.kind=7 then (if WC (I x.parts) (Zbh f.size l)=0 then (WI (λi=>mis (Zj d f.of) (x.parts.getD i dE) (ZR q (Yx x.parts i))) (ZIf (I x.parts))).getD (q,0) else (q,WC (I x.parts) (Zbh f.size l)))
 else if f.kind=8 then JI mis d f.of x q
 else if f.kind=9 then (if K8 f (Kj f.tag l)<0 then (q,9) else JI mis d (f.cases.getD (K8 f (Kj f.tag l)).toNat dE).of x q)
 else if f.kind=12 then (if (JI mis d f.of x q).2=0 then (q,WC (len (Zj d f.of) (x.parts.getD 0 dE)) (Zbh f.size l)) else JI mis d f.of x q)
 else (q,0)
def Z4(d:Dfn):Nat->Msg->Val->Str->Str×Int
 |0,_,_,p=>(p,6)
 |n+1,m,v,p =>
  if dC (v.name=m.name)&&(dC (v.int=0)&&(dC (I v.bytes=0)&&(dC (I v.hdrs=0)&&JN m v.parts))) then
   (WI (λk=>if W8 ((vfs m.fields).getD k dE).kind (v.parts.getD k dE) then (ZR p (Yx v.parts k),6)
    else KW (Z4 d n) (lenS d n) d ((vfs m.fields).getD k dE) (v.parts.getD k dE) (ZR p (Yx v.parts k)) (Zbd m v.parts)) (ZIf (I v.parts))).getD ([],0)
  else (p,6)
def ZiE{d s}(h:0<=Zy d s (I d.msgs)):(Zj d s).name=s:=by
 have t:=KZ h;unfold Zy at h t;have i:=(QK h).1;rw[t.1]at i;rw[ZIC]at i;simpa[Zj]using i
def Zg2{d}:∀{n m v p},(Z4 d n m v p).2=0->v.name=m.name
 |0,_,_,_,h=>by simp[Z4]at h
 |n+1,m,v,p,h=>by simp only[Z4]at h;split at h;rename_i hc;simp only[ZIb,decide_eq_true_eq]at hc;exact hc.1;simp at h
structure Zh4(d:Dfn)(f:Fld):Prop where
 kind:1<=f.kind/\f.kind<=12
 ref:f.kind=7\/f.kind=8\/f.kind=12->0<=Zy d f.of (I d.msgs)
 cas:f.kind=9->∀c∈f.cases,0<=Zy d c.of (I d.msgs)
def ZsC(d:Dfn):Prop:=∀m∈d.msgs,∀f∈m.fields,Zh4 d f
def ZsC.of{d}(h:ZsC d)(s):∀f∈(Zj d s).fields,Zh4 d f:=by
 unfold Zj;by_cases i:ixS d s<I d.msgs;exact h _ (Zu i);rw[show d.msgs.getD (ixS d s) dE=dE by simp[ZIg,ZIM (Nat.le_of_not_lt i)]];intro f t;simp[show(dE:Msg).fields=[] from rfl]at t
def ZgR{g r}:∀{l},WI g l=sO r->¬r.2=0
 | [],h=>by simp[WI]at h
 |a::t,h=>by simp only[WI]at h;split at h;exact ZgR h;rename_i i;simp only[ZH0]at h;rw[<-h];exact i
def ZjT{g n q}(h:((WI g (ZIf n)).getD q).2=0):∀i,i<n->(g i).2=0:=by
 cases t:WI g (ZIf n) with
 |none=>exact λi u=>ZgP t i (List.mem_range.2 u)
 |some r=>rw[t]at h;exact absurd h (ZgR t)
def Zzw{v}(h:Jj v=true):Zc4 v.hdrs:=by
 unfold Jj at h;simp only[ZIb,Bool.not_eq_true']at h;intro x u;have t:=h.2;have i:=List.any_eq_false.1 t x u;unfold ZdZ at i;simp only[ZIp,decide_eq_true_eq,not_or]at i;omega
def ZvV{mis d of x q}(h:(JI mis d of x q).2=0):I x.parts=1/\(mis (Zj d of) (x.parts.getD 0 dE) (ZR q (Yx x.parts 0))).2=0:=by
 unfold JI at h;split at h;rename_i i;exact⟨i,h⟩;simp at h
def Zrq{mis len d f x q l}(hf:Zh4 d f)(hv:YU f=true)(hu:W8 f.kind x=false)(h:(KW mis len d f x q l).2=0):
  ∀y∈x.parts,∃of q',0<=Zy d of (I d.msgs)/\(mis (Zj d of) y q').2=0:=by
 intro y hy;have hpos:0<I x.parts:=List.length_pos_iff.2 λe=>by rw[e]at hy;simp at hy
 have h7:7<=f.kind:=by unfold W8 at hu;simp only[Bool.or_eq_false_iff,Bool.and_eq_false_iff,Bool.not_eq_false',decide_eq_true_eq,decide_eq_false_iff_not]at hu;have:=hu.2;omega
 have hk:f.kind=7\/f.kind=8\/f.kind=9\/f.kind=12:=by have:=hf.kind;unfold YU at hv;simp only[ZIb,Bool.not_eq_true',decide_eq_false_iff_not]at hv;omega
 have one:∀of,0<=Zy d of (I d.msgs)->(JI mis d of x q).2=0->∃of q',0<=Zy d of (I d.msgs)/\(mis (Zj d of) y q').2=0:=λof h0 u=>by
  obtain⟨hl,h2⟩:=ZvV u;refine⟨of,ZR q (Yx x.parts 0),h0,?_⟩;rw[show y=x.parts.getD 0 dE by
   obtain⟨i,hi,rfl⟩:=ZIl hy;have:i=0:=ω;subst this;simp[ZIg,hi]]
  exact h2
 unfold KW at h;rw[if_neg ω,if_neg ω,if_neg ω,if_neg ω]at h;rcases hk with hk|hk|hk|hk;rw[if_pos hk]at h;split at h;obtain⟨i,hi,rfl⟩:=ZIl hy;have u:=ZjT h i hi;exact⟨f.of,_,hf.ref ω,by simpa[ZIg,hi]using u⟩;rename_i t;exact absurd h t;rw[if_neg ω,if_pos hk]at h;exact one _ (hf.ref ω) h;rw[if_neg ω,if_neg ω,if_pos hk]at h;split at h;simp at h;rename_i hc;have hlt:=Wc (λc:YB=>dC (c.low<=Kj f.tag l)&&dC (Kj f.tag l<=c.high)) f.cases;exact one _ (hf.cas hk _ (Zu (by unfold K8 at hc⊢;omega))) h;rw[if_neg ω,if_neg ω,if_neg ω,if_pos hk]at h;split at h;rename_i u;exact one _ (hf.ref ω) u;rename_i u;exact absurd h u
def Zdf{d}(hd:ZsC d):∀(n m v p),(∀f∈m.fields,Zh4 d f)->ZX v=true->(Z4 d n m v p).2=0->ZaA d n m v
 |0,_,_,_,_,_,h=>by simp[Z4]at h
 |n+1,m,v,p,hm,hv,h=>by
  simp only[Z4]at h;split at h
  .rename_i hc;simp only[ZIb,decide_eq_true_eq]at hc;have hr:=hc.2.2.2.2;unfold JN at hr;rw[decide_eq_true_eq]at hr;have u:(vfs m.fields).length=I v.parts:=by simpa using congrArg List.length hr
   refine⟨u,λk hk=>?_⟩;have hg:=ZjT h k hk;have ac:v.parts.getD k dE∈v.parts:=Zu hk;have ab:(vfs m.fields).getD k dE∈vfs m.fields:=Zu ω;have i:=List.mem_filter.1 ab;have t:=Wm hv ac;have ad:=QF (KV t);have ae:=Zzw (KV t);generalize v.parts.getD k dE=x at *;generalize (vfs m.fields).getD k dE=f at *;cases hu:W8 f.kind x with
   |true=>rw[hu,if_pos rfl]at hg;simp at hg
   |false =>
    rw[hu,if_neg ψ]at hg;refine⟨⟨hu,λ_=>ad.2.1,λh6=>⟨?_,ae⟩⟩,λy hy=>?_⟩
    .unfold KW at hg;rw[if_neg ω,if_neg ω,if_neg ω,if_pos h6]at hg;cases hh:KJ x.hdrs with
     |true=>rfl
     |false=>rw[hh,if_pos rfl]at hg;simp at hg
    obtain⟨of,q',h0,h1⟩:=Zrq (hm f i.1) i.2 hu hg y hy;have hn:y.name=of:=by rw[Zg2 h1,ZiE h0]
    rw[hn];exact⟨h0,Zdf hd n _ y q' (hd.of _) (Wm t hy) h1⟩
  simp at h
def ZgQ{g}:∀{a b},(∀i∈a,(g i).2=0)->WI g (a++b)=WI g b
 | [],_,_=>rfl
 |i::a,b,h=>by rw[List.cons_append,WI,if_pos (h i ψ)];exact ZgQ λk t=>h k (by simp[t])
def Zor{g n}(h:∀i,i<n->(g i).2=0):WI g (ZIf n)=nO:=by
 rw[<-ZIy (ZIf n),ZgQ λi t=>h i (List.mem_range.1 t)];rfl
def Zq5{g n j}(hj:j<n)(h:∀i,i<j->(g i).2=0)(t:¬(g j).2=0):WI g (ZIf n)=sO (g j):=by
 rw[show ZIf n=ZIf j++(j::(List.range' (j+1) (n-(j+1)))) by rw[List.range_eq_range',List.range_eq_range',show n=j+(n-(j+1)+1) by omega,<-List.range'_append_1,List.range'_succ];simp;omega,ZgQ λi u=>h i (List.mem_range.1 u),WI,if_neg t]
def Zwu{L s}(l i):qv L s (.iaddr 1) [.d (Zo l),.d (.i i)]=sO (0<=i/\i<I l,.d (.ep (u8C (l.getD i.toNat dE)) 0)):=rfl
def Zek(d:Dfn)(n:Nat)(m:Msg)(v:Val)(p:Str)(k:Nat):Str×Int :=
 if W8 ((vfs m.fields).getD k dE).kind (v.parts.getD k dE) then (ZR p (Yx v.parts k),6)
 else KW (Z4 d n) (lenS d n) d ((vfs m.fields).getD k dE) (v.parts.getD k dE) (ZR p (Yx v.parts k)) (Zbd m v.parts)
def Zj8(d n m v p):Z4 d (n+1) m v p =
  if dC (v.name=m.name)&&(dC (v.int=0)&&(dC (I v.bytes=0)&&(dC (I v.hdrs=0)&&JN m v.parts))) then (WI (Zek d n m v p) (ZIf (I v.parts))).getD ([],0) else (p,6):=rfl
structure Zbm(d:Dfn)(j i:Nat)(m:Msg)(f:Fld):Prop where
 nm:Y7 f.name=true
 fresh:KR m f.name i<0
 kind:1<=f.kind/\f.kind<=12
 ks:QU d j m i f=0
def ZBl{d j i m f}(h:Qo d j m i f=0):Zbm d j i m f:=by
 unfold Qo at h;split at h;· omega
 rename_i t;split at h;· omega
 rename_i h2;split at h;· omega
 rename_i u;split at h;· omega
 simp only[ZIp,decide_eq_true_eq,not_or,Int.not_lt]at u;exact⟨by simpa using t,ω,ω,h⟩
def ZdD.at_{d j m}(h:ZdD d j m){i}(t:i<I m.fields):Zbm d j i m (m.fields.getD i dE):=ZBl (h.field i t)
def NmU(l:List Fld):Prop:=∀a b,a<b->b<I l->(l.getD a dE).name≠(l.getD b dE).name
def ZdD.nmU{d j m}(h:ZdD d j m):NmU m.fields:=λa b t u=>by
 have i:=ZcA (h.at_ u).fresh ((m.fields.take b).getD a dE) (Zu (by simp;omega));rw[QZ t]at i;simpa using i
def ZuX{i s}(h:Zd9 i s=0):ZU s=true/\∀t∈s.terms,∃j,j<I i/\(i.getD j dE).name=t.field/\YE (i.getD j dE)=true:=by
 unfold Zd9 at h;split at h;· omega
 rename_i hv;split at h;· omega
 rename_i ha;refine⟨by simpa using hv,λt ht=>?_⟩;have u:=List.any_eq_false.1 (Bool.eq_false_iff.2 ha) t ht;unfold JF WG at u;split at u;simp at u;rename_i h2;split at u;rename_i h3;have h4:=QK (show 0<=Zi (λf=>dC (f.name=t.field)) i by omega);have h5:=Wc (λf:Fld=>dC (f.name=t.field)) i;exact⟨_,ω,by simpa using h4.1,h3⟩;simp at u
def ZAJ{n:Int}(h:n<=32):(2:Int) ^ n.toNat<=4294967296:=by
 have h1:2 ^ n.toNat<=2 ^ 32:=Nat.pow_le_pow_right ω ω;have h2:(2:Int) ^ n.toNat=((2 ^ n.toNat:Nat):Int):=(Int.natCast_pow 2 n.toNat).symm;generalize 2 ^ n.toNat=p at *;omega
def Zke{f}(h:JH f=0):(1<=f.bits/\f.bits<=32)/\0<=f.low/\f.low<=ZnH f/\ZnH f<4294967296:=by
 unfold JH Zc9 ZtN at h;split at h;· omega
 rename_i i;split at h;· omega
 rename_i t;simp only[ZIp,decide_eq_true_eq,not_or]at i t;have:=ZAJ (n:=f.bits) ω;omega
def Zbm.num{d j i m f}(h:Zbm d j i m f)(hn:YE f=true):0<=f.low/\(f.kind=2->f.low<34359738368)/\(f.kind≠2->f.high<34359738368):=by
 have t:=h.ks;unfold YE at hn;simp only[ZIb,decide_eq_true_eq]at hn;unfold QU at t;rcases(by omega:f.kind=1\/f.kind=2\/f.kind=3) with h1|h1|h1<;>simp only[h1,ZIJ,if_true,if_false]at t;have:=Zke t;unfold ZnH at this;rw[if_neg ω]at this;omega;have:=Zke t;unfold ZnH at this;rw[if_pos h1]at this;omega;by_cases u:Zsr f.low f.high=true;unfold Zsr at u;simp only[ZIb,decide_eq_true_eq]at u;omega;rw[if_neg u]at t;omega
def Zbm.size{d j i m f}(h:Zbm d j i m f)(hi:i<I m.fields)(hz:f.kind=4\/f.kind=7\/f.kind=12):ZU f.size=true/\∀t∈f.size.terms,∃k,k<i/\(m.fields.getD k dE).name=t.field/\YE (m.fields.getD k dE)=true:=by
 have hs:Zd9 (m.fields.take i) f.size=0:=by have u:=h.ks;unfold QU at u;rcases hz with hz|hz|hz<;>simp only[hz,ZIJ,if_true,if_false]at u;exact u;split at u;omega;exact u;split at u;omega;split at u;omega;exact u
 obtain⟨hv,ht⟩:=ZuX hs;refine⟨hv,λt h1=>?_⟩;obtain⟨k,h2,h3,h4⟩:=ht t h1;have u:k<i:=by rw[ZIm]at h2;omega
 rw[QZ u]at h3 h4;exact⟨k,u,h3,h4⟩
def Zbm.tag{d j i m f}(h:Zbm d j i m f)(hi:i<I m.fields)(h9:f.kind=9):∃k,k<i/\(m.fields.getD k dE).name=f.tag/\YE (m.fields.getD k dE)=true:=by
 have u:=h.ks;unfold QU at u;simp only[h9,ZIJ,if_true,if_false]at u;split at u;omega;rename_i t;unfold ZjH at t;simp only[ZIp,decide_eq_true_eq,Bool.not_eq_true',not_or]at t;have h4:=QK (show 0<=KR m f.tag i by omega);have h5:=Wc (λg:Fld=>dC (g.name=f.tag)) (m.fields.take i);rw[ZIm,show Zi (λg:Fld=>dC (g.name=f.tag)) (m.fields.take i)=KR m f.tag i from rfl]at h5;have h6:=h4.1;rw[show(Zi (λg=>dC (g.name=f.tag)) (m.fields.take i))=KR m f.tag i from rfl,QZ ω]at h6;exact⟨(KR m f.tag i).toNat,ω,by simpa using h6,by simpa using t.2.1⟩
def Zbm.fok{d j i m f}(h:Zbm d j i m f):FOk f:=by
 have t:=h.ks;unfold QU at t;refine⟨λh1=>?_,λh1=>?_,λh1=>?_⟩;have:JH f=0:=by rcases h1 with h1|h1<;>simp only[h1,ZIJ,if_true,if_false]at t<;>exact t
 have:=(Zke this).1;omega;simp only[h1,ZIJ,if_true,if_false]at t;split at t;omega;rename_i u;unfold ZoN at u;unfold ZbH;simp only[ZIb,ZIp,decide_eq_true_eq,Bool.not_eq_true',decide_eq_false_iff_not]at u⊢;omega;simp only[h1,ZIJ,if_true,if_false]at t;split at t;omega;rename_i u;simp only[ZIp,decide_eq_true_eq]at u;omega
def Zbm.fref{d j i m f}(h:Zbm d j i m f)(u:Zwm d j f):Zh4 d f:=by
 refine⟨h.kind,λt=>(u.ref f.of ?_).1,λt c hc=>(u.ref c.of ?_).1⟩;unfold Yv Za0;rw[if_pos (by simp;omega)];simp;unfold Yv;rw[if_pos t,List.mem_append];exact .inr (List.mem_map_of_mem hc)
def WQ.dok{d}(h:WQ d):DOk d:=λm hm=>by
 obtain⟨j,t,rfl⟩:=Zd0 hm;refine⟨(h.msg t).many,λf u=>?_⟩;obtain⟨i,hi,rfl⟩:=Zd0 u;exact((h.msg t).at_ hi).fok
def WQ.dref{d}(h:WQ d):ZsC d:=λm hm f hf=>by
 obtain⟨j,u,rfl⟩:=Zd0 hm;obtain⟨i,t,rfl⟩:=Zd0 hf;exact((h.msg u).at_ t).fref (h.fld u t)
def Jf:∀{l k},k<(vfs l).length->∃a,a<I l/\YU (l.getD a dE)=true/\k=(vfs (l.take a)).length/\(vfs l).getD k dE=l.getD a dE
 | [],k,h=>by simp[vfs]at h
 |f::r,k,h=>by
  by_cases i:YU f=true
  .have e:vfs (f::r)=f::vfs r:=by unfold vfs;rw[List.filter_cons,if_pos i]
   cases k with
   |zero=>exact⟨0,ψ,by simpa using i,rfl,by rw[e];rfl⟩
   |succ k =>rw[e]at h;obtain⟨a,u,h2,h3,h4⟩:=Jf (l:=r) (k:=k) (by simpa using h);refine⟨a+1,by simpa using u,by simpa using h2,?_,by rw[e];simpa using h4⟩;rw[List.take_succ_cons,show vfs (f::r.take a)=f::vfs (r.take a) by unfold vfs;rw[List.filter_cons,if_pos i],ZIi,h3]
  have e:∀t,vfs (f::t)=vfs t:=λt=>by unfold vfs;rw[List.filter_cons,if_neg i]
  rw[e]at h;obtain⟨a,u,h2,h3,h4⟩:=Jf (l:=r) (k:=k) h;exact⟨a+1,by simpa using u,by simpa using h2,by rw[List.take_succ_cons,e];exact h3,by rw[e];simpa using h4⟩
def ZlN{l:List Fld}{a b}(h:a<b)(hb:b<I l)(u:YU (l.getD a dE)=true):(vfs (l.take a)).length<(vfs (l.take b)).length:=by
 have t:=(ZfV (l:=l.take b) (i:=a) (k:=(vfs (l.take a)).length) (by rw[List.take_take,Nat.min_eq_left ω]) (by simp;omega) (by rw[QZ h];exact u)).1;exact t
def Zac(l:List Fld)(ps:List Val)(i:Nat):Int:=if (l.getD i dE).kind=2 then (l.getD i dE).low else (ps.getD (vfs (l.take i)).length dE).int
def Ziw{f}(h:YE f=true)(h2:¬f.kind=2):YU f=true:=by
 unfold YE at h;unfold YU;simp only[ZIb,decide_eq_true_eq,Bool.not_eq_true',decide_eq_false_iff_not]at h⊢;omega
def NmU.tail{f r}(h:NmU (f::r)):NmU r:=λa b ha i=>by
 have:=h (a+1) (b+1) ω (by simpa using i);simpa using this
def ZhT:∀{l ps i},i<I l->NmU l->YE (l.getD i dE)=true->(YU (l.getD i dE)=true->(vfs (l.take i)).length<I ps)->Kj (l.getD i dE).name (ZdN l ps)=Zac l ps i
 | [],_,_,h,_,_,_=>by simp at h
 |f::r,ps,0,_,_,hn,hp=>by
  simp only[List.getD_cons_zero]at hn hp⊢;unfold Zac ZdN;simp only[List.getD_cons_zero];by_cases h2:f.kind=2;rw[if_pos h2,if_pos h2];simp[Kj];have hv:=Ziw hn h2;have h0:0<I ps:=by simpa[vfs]using hp hv
  rw[if_neg h2,if_neg h2,if_pos hv,hn,if_pos (by simp;omega)];simp[Kj,vfs]
 |f::r,ps,i+1,hi,hu,hn,hp=>by
  have u:=hu 0 (i+1) ω hi;simp only[List.getD_cons_zero,List.getD_cons_succ]at hn hp u⊢;have ab:=hu.tail;unfold ZdN;have e1:Kj (r.getD i dE).name ((if f.kind=2 then [(f.name,f.low)] else [])++(if YU f then (if (dC (0<(I ps:Int))&&YE f) then [(f.name,(ps.getD 0 dE).int)] else [])++ZdN r (ps.drop 1) else ZdN r ps))=Kj (r.getD i dE).name (if YU f then ZdN r (ps.drop 1) else ZdN r ps):=by
   have sk:∀{c:Prop} [Decidable c] (x:Int) (t:List (Str×Int)),Kj (r.getD i dE).name ((if c then [(f.name,x)] else [])++t)=Kj (r.getD i dE).name t:=λx t=>by split;exact if_neg u;rfl
   rw[sk];split;rw[sk];rfl
  rw[e1];by_cases hv:YU f=true;have e:vfs (f::r.take i)=f::vfs (r.take i):=by unfold vfs;rw[List.filter_cons,if_pos hv]
  rw[List.take_succ_cons,e,ZIi]at hp;rw[if_pos hv,ZhT (by simpa using hi) ab hn (λh=>by have:=hp h;rw[ZIG];omega)];unfold Zac;simp only[List.getD_cons_succ];rw[List.take_succ_cons,e,ZIi];simp[ZIg,List.getElem?_drop,Nat.add_comm];have e:vfs (f::r.take i)=vfs (r.take i):=by unfold vfs;rw[List.filter_cons,if_neg hv]
  rw[List.take_succ_cons,e]at hp;rw[if_neg hv,ZhT (by simpa using hi) ab hn hp];unfold Zac;simp only[List.getD_cons_succ];rw[List.take_succ_cons,e]
def ZiF{l ps E s}:∀{n},(∀k,k<n->YE (l.getD k dE)=true->(l.getD k dE).name≠s)->Zr s (ZdM l ps E n)=Zr s E
 |0,_=>rfl
 |n+1,h=>by rw[ZdM];split;rename_i hn;rw[WY,if_neg (λe=>h n ω hn e.symm)];exact ZiF λk hk=>h k ω;exact ZiF λk hk=>h k ω
def ZtQ{l ps E k}:∀{n},k<n->YE (l.getD k dE)=true->(∀j,k<j->j<n->(l.getD j dE).name≠(l.getD k dE).name)->Zr (l.getD k dE).name (ZdM l ps E n)=sO (ps.getD k dE).int
 |0,h,_,_=>by omega
 |n+1,h,hn,hu=>by rw[ZdM];by_cases hk:k=n;subst hk;rw[if_pos hn,WY,if_pos rfl];have ih:=ZtQ (E:=E) (ps:=ps) (show k<n by omega) hn (λj i h2=>hu j i ω);split;rw[WY,if_neg (λe=>hu n ω ω e.symm)];exact ih;exact ih
def ZtP{l k}:∀{n},k<n->(l.getD k dE).kind=2->(∀j,k<j->j<n->(l.getD j dE).name≠(l.getD k dE).name)->Zr (l.getD k dE).name (ZcM l n)=sO (l.getD k dE).low
 |0,h,_,_=>by omega
 |n+1,h,hn,hu=>by rw[ZcM];by_cases hk:k=n;subst hk;rw[if_pos hn,WY,if_pos rfl];have ih:=ZtP (show k<n by omega) hn (λj i h2=>hu j i ω);split;rw[WY,if_neg (λe=>hu n ω ω e.symm)];exact ih;exact ih
def NmU.ne{l}(h:NmU l){a b}(i:a≠b)(t:a<I l)(u:b<I l):(l.getD a dE).name≠(l.getD b dE).name:=by
 rcases Nat.lt_or_gt_of_ne i with h1|h1;exact h a b h1 u;exact(h b a h1 t).symm
def ZvE{m}(hu:NmU m.fields)(ps){i}(hi:i<I m.fields)(hn:YE (m.fields.getD i dE)=true):Zr (m.fields.getD i dE).name (JB m ps)=sO (Zac m.fields ps i):=by
 unfold JB Zac;by_cases h2:(m.fields.getD i dE).kind=2;rw[if_pos h2,ZiF λk hk _=>?_];exact ZtP hi h2 λj h1 h3=>hu.ne ω h3 hi;obtain⟨a,h3,h4,_,h6⟩:=Jf hk;rw[h6];refine hu.ne (λe=>?_) h3 hi;rw[e]at h4;unfold YU at h4;rw[h2]at h4;simp at h4;have hv:=Ziw hn h2;obtain⟨h3,h4⟩:=ZfV rfl hi hv;rw[if_neg h2];have h5:=ZtQ (l:=vfs m.fields) (ps:=ps) (E:=ZcM m.fields (I m.fields)) h3 (by rw[h4];exact hn) (λj h6 h7=>by
  obtain⟨a,h8,h9,t,u⟩:=Jf h7;rw[u,h4];exact hu.ne (λe=>by rw[e]at t;omega) h8 hi)
 rw[h4]at h5;exact h5
def ZDe{d j m}(hm:ZdD d j m){n v p k a i}(hi:i<I m.fields)(hk:k=(vfs (m.fields.take i)).length)(u:∀j,j<k->(Zek d n m v p j).2=0)(ha:a<i)(hn:YE (m.fields.getD a dE)=true):
  0<=Zac m.fields v.parts a/\Zac m.fields v.parts a<34359738368:=by
 have h1:=(hm.at_ (show a<I m.fields by omega)).num hn;unfold Zac;split;rename_i h2;exact⟨h1.1,h1.2.1 h2⟩;rename_i h2;have hv:=Ziw hn h2;obtain⟨h3,h4⟩:=ZfV rfl (show a<I m.fields by omega) hv;have t:=u _ (by rw[hk];exact ZlN ha hi hv);unfold Zek at t;rw[h4]at t;generalize v.parts.getD (vfs (m.fields.take a)).length dE=x at *;generalize m.fields.getD a dE=f at *;split at t;simp at t;unfold YE at hn;simp only[ZIb,decide_eq_true_eq]at hn;unfold KW at t;rw[if_pos ω]at t;split at t;simp at t;have:=h1.2.2 h2;omega
def Zo3{m}(hu:NmU m.fields){ps}(hr:JN m ps=true){k}(hk:k<I ps):Yx ps k=(ps.getD k dE).name/\(ps.getD k dE).name=((vfs m.fields).getD k dE).name:=by
 unfold JN at hr;rw[decide_eq_true_eq]at hr;have t:(vfs m.fields).length=I ps:=by simpa using congrArg List.length hr
 have u:∀i,i<I ps->(ps.getD i dE).name=((vfs m.fields).getD i dE).name:=λi hi=>by
  have h1:((vfs m.fields).map (·.name))[i]?=(ps.map Val.name)[i]?:=by rw[hr]
  simp[hi,t]at h1;simp[ZIg,hi,t,h1]
 refine⟨?_,u k hk⟩;have h0:Jv ps k=0:=by unfold Jv;rw[List.length_eq_zero_iff,List.filter_eq_nil_iff];intro x hx;obtain⟨i,hi,rfl⟩:=Zd0 hx;rw[ZIm]at hi;rw[QZ ω,u i ω,u k hk];obtain⟨a,h1,_,h3,h4⟩:=Jf (l:=m.fields) (k:=i) ω;obtain⟨b,h5,_,h7,h8⟩:=Jf (l:=m.fields) (k:=k) ω;rw[h4,h8,decide_eq_true_eq];exact hu.ne (λe=>by rw[e]at h3;omega) h1 h5
 unfold Yx;rw[if_pos h0]
def Zcb(a s):(ZR a s).length<=I a+1+I s:=by
 unfold ZR;split;omega;simp;omega
def Zgu{ps}(hp:I ps<=5000)(t:∀y∈ps,I y.name<=32){k}(i:k<I ps):(Yx ps k).length<=5040:=by
 have h1:=t _ (Zu i);have h2:=Zoc ps k;have h3:=Zih (Jv ps k);unfold Yx;split;omega;simp only[ZIc,ZIi,List.length_nil];omega
structure VOk(v:Val):Prop where
 ok:ZX v=true
 wt:wtN v<=5000
def VOk.part{v x}(h:VOk v)(i:x∈v.parts):VOk x:=⟨Wm h.ok i,Nat.le_trans (Zuw i) h.wt⟩
def VOk.few{v}(h:VOk v):I v.parts<=5000:=by
 have h1:=ZvQ v;have h2:=h.wt;have h3:I v.parts<=nodesL v.parts:=by
  induction v.parts with
  |nil=>simp
  |cons x r ih=>have:=Jk x;simp only[ZIi,nodesL];omega
 have h4:=Jk v;omega
def VOk.node{v}(h:VOk v):(1<=I v.name/\I v.name<=32)/\(0<=v.int/\v.int<34359738368)/\I v.bytes<=1048576/\Zc4 v.hdrs:=by
 have i:=QF (KV h.ok);exact⟨i.1,i.2.1,i.2.2.1,Zzw (KV h.ok)⟩
def VOk.name{v}(h:VOk v):∀y∈v.parts,I y.name<=32:=λy i=>(h.part i).node.1.2
def KB(l)(hl:I l<=1000000000)(st):Za ZH1 17 [Zo l] st (λr s=>r=.ret (Zo l)/\s=st):=by
 refine Zb (cR 17 f17) λF hF=>?_;by_cases h0:I l=0;have ac:l=[]:=List.eq_nil_of_length_eq_zero h0;subst ac;refine Zet 0 rfl ?_ λb off cap=>?_
 skip
 refine rx (nd2 @Zo.eq_1 @eQ1) ?_;refine rg ?_;refine i1 ?_;refine rg ?_;exact hF.ret _ st rfl φ (QP (YV λb h=>by cases h)) ZH2 ⟨rfl,rfl⟩
 skip
 refine rx (nd2 @Zo.eq_1 @eQ1) ?_;refine rg ?_;refine iG ?_;refine Zes (s:=st) (t:=.full) (m:=0) (row2:=λ_=>[]) rfl rfl rfl rfl rfl φ φ (λg w v h=>Zgl h) trivial (by decide) (by unfold big;decide) λt1 u=>?_;refine gR0 ?_;exact hF.ret _ st rfl φ (QP ((ZY.nil (f:=u8C)).le rfl)) (Y2 u) ⟨rfl,rfl⟩
 skip
 refine rx (nd2 @Zo.eq_1 @eQ1) ?_;refine gA ?_;refine iG ?_;refine ZaJ (st) (.full) rfl rfl rfl rfl rfl rfl φ φ rfl (by first|trivial|assumption) ω (by (unfold big;omega)) λt1 u=>Zp ?_;simp only[Eqs,reduceCtorEq,ZH9,reduceIte,ZH6,ZIa,ZH7];have ab:ZY u8C (YW 0 (ZZ [.int .u8 0] ([].zip [])) λi=>u8C (l.getD i dE)) ([]++l):=ZY.nil.app ZY.self rfl;exact hF.ret _ st rfl φ (QP (ab.le ψ)) (Y2 u) ⟨rfl,rfl⟩
def Zhc(l)(hl:I l<=2000000)(st):Za ZH1 41 [Ym l] st (λr s=>r=.ret (Ym l)/\s=st):=by
 refine Zb (cR 41 f41) λF hF=>?_;by_cases h0:I l=0;have ac:l=[]:=List.eq_nil_of_length_eq_zero h0;subst ac;refine Zet 0 rfl ?_ λb off cap=>?_
 skip
 refine rx (nd2 @Ym.eq_1 @eQ1) ?_;refine rg ?_;refine i1 ?_;refine rg ?_;exact hF.ret _ st rfl φ (QP (YV λb h=>by cases h)) ZH2 ⟨rfl,rfl⟩
 skip
 refine rx (nd2 @Ym.eq_1 @eQ1) ?_;refine rg ?_;refine iG ?_;refine Zes (s:=st) (t:=.full) (m:=0) (row2:=λ_=>[]) rfl rfl rfl rfl rfl φ φ (λg w v h=>Zgl h) trivial (by decide) (by unfold big;decide) λt1 u=>?_;refine gR0 ?_;exact hF.ret _ st rfl φ (QP ((ZY.nil (f:=Hdr.cells)).le rfl)) (Y2 u) ⟨rfl,rfl⟩
 skip
 refine rx (nd2 @Ym.eq_1 @eQ1) ?_;refine gA ?_;refine iG ?_;refine ZaJ (st) (.full) rfl rfl rfl rfl rfl rfl φ φ rfl (by first|trivial|assumption) ω (by (unfold big;omega)) λt1 u=>Zp ?_;simp only[Eqs,reduceCtorEq,ZH9,reduceIte,ZH6,ZIa,ZH7];have ab:ZY Hdr.cells (YW 0 (ZZ [.str [],.str []] ([].zip [])) λi=>Hdr.cells (l.getD i dE)) ([]++l):=ZY.nil.app ZY.self rfl;exact hF.ret _ st rfl φ (QP (ab.le ψ)) (Y2 u) ⟨rfl,rfl⟩
def ZuL(row n):(ZIf n).flatMap row=YA row n:=by
 induction n with
 |zero=>rfl
 |succ n ih=>rw[List.range_succ,List.flatMap_append,ih,YA];simp
def Zjh(st):Za ZH1 42 [Z7 []] st (λr s=>r=.ret (Z7 [])/\s=st):=by
 refine Zb (cR 42 f42) λF hF=>?_;have hz:∀(tk:Tok) (row:Nat->List D),(D.sl tk 0 5 row).Le (Z7 []):=λtk row g w v hv=>by
  cases hv with
  |sl0 a _ _ _ ht=>exact .sl0 _ _ _ _ ψ
  |sl b o n cap s row t f hl hc hp hr one ht hcap hb=>exact .sl _ _ _ _ _ _ _ f (λi hi=>by omega) hc hp (λi j d hi=>by omega) one trivial hcap hb
 refine Zet 0 rfl ?_ λb off cap=>?_
 skip
 refine gG ?_;refine i1 ?_;refine rg ?_;exact hF.ret _ st rfl φ (QP (YV λb h=>by cases h)) ZH2 ⟨rfl,rfl⟩
 skip
 refine gG ?_;refine iG ?_;refine Zes (s:=st) (t:=.full) (m:=0) (row2:=λ_=>[]) rfl rfl rfl rfl rfl φ φ (λg w v h=>Zgl h) trivial (by decide) (by unfold big;decide) λt1 u=>?_;refine gR0 ?_;exact hF.ret _ st rfl φ (QP (hz _ _)) (Y2 u) ⟨rfl,rfl⟩
def Zji(l)(hl:I l<=1000000)(hp:0<I l)(st):Za ZH1 42 [Z7 l] st λr S=>∃b c X,st b=nO/\I l<=c/\r=.ret (.msl b 0 (I l) c 5)/\S=st.upd b (.cells (YA (ZcP l) (I l)++X)):=by
 refine Zb (cR 42 f42) λF hF=>?_;have t:=ZuL (ZcP l) (I l);refine rx @Z7.eq_1 ?_;refine gA ?_;refine iG ?_;refine Zvd rfl rfl rfl rfl rfl rfl φ φ (by exact hp) ω (by unfold big;omega) λb u hb i=>Zp ?_;simp only[Eqs,reduceCtorEq,ZH9,reduceIte,ZH6,ZIa,ZH7];rw[t];exact hF.ret _ _ rfl φ (ZH3 _) ZH2 ⟨b,u,_,hb,i,rfl,rfl⟩
structure CpI(T A:St)(v:Val)(x:Nat)(row:Nat->List D)(f:Nat->List Nat)(X:List D)(i:Nat):Prop where
 b:A x=some (.cells (YA row (I v.parts)++X))
 x0:T x=none
 done:∀j,j<i->j<I v.parts->MT A (v.parts.getD j default) (row j) (f j)
 rest:∀j,i<=j->j<I v.parts->row j=(v.parts.getD j default).cells
 n:∀j,j<i->x∉f j
 fr:∀j,j<i->∀y∈f j,T y=none
 d:∀j k,j<i->k<i->j≠k->∀y∈f j,y∉f k
 out:∀y,y≠x->(∀j,j<i->y∉f j)->A y=T y
def CpI.len{T A v x row f X i}(h:CpI T A v x row f X i):∀j,j<I v.parts->(row j).length=5:=λj t=>by
 by_cases u:j<i;exact(h.done j u t).len;rw[h.rest j ω t];exact Val.len _
def ZuT{c d}(h:I c=I d):Zt c 0 d=d:=by
 unfold Zt;rw[List.take_zero,Nat.zero_add,List.drop_eq_nil_of_le ω];simp
def CpI.step{T A v x row f X i}(h:CpI T A v x row f X i)(hi:i<I v.parts){S c fp}(hm:MT S (v.parts.getD i dE) c fp)(hf:∀y∈fp,A y=nO)(ho:∀y,y∉fp->S y=A y):CpI T (S.upd x (.cells (Zt (YA row (I v.parts)++X) (i*5) c))) v x (λj=>if j=i then c else row j) (λj=>if j=i then fp else f j) X (i+1):=by
 have hx:x∉fp:=λhx=>by have:=hf x hx;rw[h.b]at this;simp at this
 have hj:∀j,j<i->∀y∈f j,y∉fp:=λj hj y hy u=>by obtain⟨ds,ae⟩:=(h.done j hj ω).live y hy;have:=hf y u;rw[ae]at this;simp at this
 have ac:∀{y:Nat},y≠x->(S.upd x (.cells (Zt (YA row (I v.parts)++X) (i*5) c))) y=S y:=λhy=>ZH8 _ _ hy;refine⟨?_,h.x0,λj t ab=>?_,λj t ab=>?_,λj t=>?_,λj t y hy=>?_,λj k t hk1 af y hy=>?_,λy hy u=>?_⟩;rw[ZH5];have:=ZjU X 0 c (by rw[hm.len];decide) (λj hj=>h.len j hj) hi;rw[Nat.add_zero]at this;rw[this,ZuT (by rw[h.len i hi,hm.len])];by_cases e:j=i;subst e;rw[if_pos rfl,if_pos rfl];exact hm.mono λy hy=>ac λe=>hx (e▸hy);rw[if_neg e,if_neg e];refine(h.done j ω ab).mono λy hy=>?_;rw[ac (λe2=>h.n j ω (e2▸hy))];exact ho y (hj j ω y hy);rw[if_neg ω];exact h.rest j ω ab;by_cases e:j=i;rw[if_pos e];exact hx;rw[if_neg e];exact h.n j ω;by_cases e:j=i;rw[if_pos e]at hy;have h1:=hf y hy;rw[h.out y (λe2=>hx (e2▸hy)) (λk hk ad=>hj k hk y ad hy)]at h1;exact h1;rw[if_neg e]at hy;exact h.fr j ω y hy;by_cases e:j=i;rw[if_pos e]at hy;rw[if_neg ω];exact λad=>hj k ω y ad hy;rw[if_neg e]at hy;by_cases e2:k=i;rw[if_pos e2];exact hj j ω y hy;rw[if_neg e2];exact h.d j k ω ω af y hy;have h1:=u i ω;rw[if_pos rfl]at h1;rw[ac hy,ho y h1];refine h.out y hy λj hj=>?_;have:=u j ω
 rwa [if_neg ω]at this
def CpI.fin{T A v x cap row f X}(h:CpI T A v x row f X (I v.parts))(hp:0<I v.parts)(u:I v.parts<=cap):
  ∃fp,MT A v [.str v.name,.i v.int,Zo v.bytes,Ym v.hdrs,.msl x 0 (I v.parts) cap 5] fp/\(∀y∈fp,T y=nO)/\∀y,y∉fp->A y=T y:=by
 refine⟨x::(ZIf (I v.parts)).flatMap f,MN.mt ⟨rfl,h.b,u,λj i=>h.done j i i,λj i=>h.n j i,λj k i hk=>h.d j k i hk,rfl⟩ hp,λy t=>?_,λy t=>?_⟩;simp only[ZIF,List.mem_flatMap,List.mem_range]at t;rcases t with rfl|⟨j,i,t⟩;exact h.x0;exact h.fr j i y t;simp only[ZIF,List.mem_flatMap,List.mem_range,not_or,not_exists,not_and]at t;exact h.out y t.1 λj i=>t.2 j i
structure SmV(v:Val):Prop where
 b:I v.bytes<=2000000
 h:I v.hdrs<=2000000
 p:I v.parts<=1000000
def VOk.sm{v}(h:VOk v):SmV v:=by
 have h1:=QF (KV h.ok);have i:=h.wt;have t:∀l:List Val,10*I l<=wtL l:=λl=>by
  induction l with
  |nil=>simp
  |cons x r ih=>have:=ZaI x;simp only[wtL,ZIi];omega
 have h4:=t v.parts;rw[ZaI]at i;exact⟨ω,ω,ω⟩
def Zjc(v):VOk v->∀T:St,Za ZH1 22 [.agg v.cells] T λr S=>∃c fp,r=.ret (.agg c)/\MT S v c fp/\(∀y∈fp,T y=nO)/\∀y,y∉fp->S y=T y:=by
 induction v using Val.ind with
 |h v ih =>
  intro hv T;have hs:=hv.sm;have hsb:=hs.b;have hsh:=hs.h;have ah:=hs.p;refine Zb (cR 22 f22) λF hF=>?_;rw[v.cells_eq];refine gG ?_;have c9:=(KB v.bytes ω T);refine cVD (c9) ?_ ?_;rintro dd S ⟨hr,hS⟩;obtain rfl:=hS.symm;cases hr;refine kF ?_;refine gR0 ?_;have c9:=(Zhc v.hdrs ω T);refine cVD (c9) ?_ ?_;rintro dd S ⟨hr,hS⟩;obtain rfl:=hS.symm;cases hr;refine kF ?_;refine gR0 ?_;by_cases h0:I v.parts=0;have ab:v.parts=[]:=List.eq_nil_of_length_eq_zero h0;rw[ab];refine cVD ((Zjh T)) ?_ ?_;rintro dd S ⟨hr,hS⟩;obtain rfl:=hS.symm;cases hr;refine kF ?_;refine gR0 ?_;refine aa ?_;refine rx @Zdl ?_;refine Zd (JT ?_);refine rg ?_;refine iG ?_;exact hF.ret _ T rfl ψ (ZH3 _) ZH2 ⟨_,[],rfl,by cases v;simp only[Val.parts]at ab;subst ab;exact .leaf _ _ _ _,ψ,λ_ _=>rfl⟩;rintro d S ⟨hr,_⟩;cases hr
  skip
  have c9:=(Zji v.parts ah ω T);refine cVD (c9) ?_ ?_;rintro dd S ⟨x,c,X,hx,hc,hr,hS⟩;subst hS;cases hr;refine kF ?_;refine gR0 ?_;refine aa ?_;refine rg ?_;refine Zd (fr (I v.parts) (λi Q=>∀row f A,CpI T A v x row f X i->i<=I v.parts->Q [(1,.loc 1 0),(2,.loc 2 0),(18,.d (.i (I v.parts))),(19,.d (.i i))] [(1,[.str v.name,.i v.int,Zo v.bytes,Ym v.hdrs,.msl x 0 (I v.parts) c 5]),(2,[.str [],.i 0,.nilsl,.nilsl,.nilsl])] A) (λn ac=>?_) λai=>?_);intro i hn row f A hA hi;refine rg ?_;refine Zc (Zl rfl trivial (λhd=>?_) (λhd=>?_));simp only[decide_eq_true_eq]at hd;have u:i<I v.parts:=ω;have t:=Za8 X hA.len u;unfold part at t;rw[hA.rest i (ZIh _) u]at t;have ad:=QL hA.len;have hb:=hA.b;refine rg ?_;refine rx (nd2 @hb @t) ?_;refine⟨ω,ω,by rw[ZIc,ad];omega,?_⟩;refine cVD (ih _ (Zu u) (hv.part (Zu u)) A) ?_ ?_;rintro dd S ⟨cc,fp,hr,hm,hf,ho⟩;cases hr;have af:S x=A x:=ho x λhx=>by have:=hf x hx;rw[hb]at this;simp at this
  rw[hb]at af;have ae:=hA.step u hm hf ho;have ag:=hm.len;unfold Zt at ae;rw[ag]at ae;refine kF ?_;refine gQ (nd2 @af @ag) ?_;refine⟨ω,ω,by rw[ZIc,ad];omega,?_⟩;refine gA ?_;refine Ze ?_;exact ac ((I v.parts)-(i+1)) ω (i+1) rfl _ _ _ ae ω;rintro d S ⟨_,_,hr,_⟩;cases hr;simp only[decide_eq_false_iff_not]at hd;obtain rfl:i=I v.parts:=ω;obtain⟨fp,h1,h2,h3⟩:=hA.fin ω hc;refine rg ?_;exact hF.ret _ A rfl ψ (ZH3 _) ZH2 ⟨_,fp,rfl,h1,h2,h3⟩;exact ai _ 0 rfl (ZcP v.parts) (λ_=>[]) _ ⟨ZH5 _ _ _,hx,λj hj=>by omega,λj _ hj=>Zgn hj,λj hj=>by omega,λj hj=>by omega,λj k hj=>by omega,λy hy _=>ZH8 _ _ hy⟩ ω;rintro d S ⟨_,_,_,_,_,hr,_⟩;cases hr;rintro d S ⟨hr,_⟩;cases hr;rintro d S ⟨hr,_⟩;cases hr
def ckN(st:St)(nm:Str)(b5 b6 b7 b8 b9:Nat):St :=
 ((((st.upd b5 (.cells [.str nm])).upd b6 (.cells [.nilmap])).upd b7 (.cells [.fn (.func 89) [] []])).upd b8 (.cells [.i 0])).upd b9 (.cells [.bool false])
section
variable {st:St} {b5 b6 b7 b8 b9:Nat} {nm:Str}
def YG.m5(h:YG st b5 b6 b7 b8 b9):(ckN st nm b5 b6 b7 b8 b9) b5=sO (.cells [.str nm]):=by
 simp[ckN,ZID,h.n6.1.symm,h.n7.2.1.symm,h.n8.2.2.1.symm,h.n9.2.2.2.1.symm]
def YG.m6(h:YG st b5 b6 b7 b8 b9):(ckN st nm b5 b6 b7 b8 b9) b6=sO (.cells [.nilmap]):=by
 simp[ckN,ZID,h.n7.1.symm,h.n8.2.1.symm,h.n9.2.2.1.symm]
def YG.m8(h:YG st b5 b6 b7 b8 b9):(ckN st nm b5 b6 b7 b8 b9) b8=sO (.cells [.i 0]):=by
 simp[ckN,ZID,h.n9.1.symm]
def YG.m9:(ckN st nm b5 b6 b7 b8 b9) b9=sO (.cells [.bool false]):=by
 simp[ckN,ZID]
def YG.msub(h:YG st b5 b6 b7 b8 b9):st.sub (ckN st nm b5 b6 b7 b8 b9):=λc o i=>by
 have t:c≠b5:=λe=>by rw[e,h.n5]at i;simp at i
 have u:c≠b6:=λe=>by rw[e,h.n6.2]at i;simp at i
 have h7:c≠b7:=λe=>by rw[e,h.n7.2.2]at i;simp at i
 have h8:c≠b8:=λe=>by rw[e,h.n8.2.2.2]at i;simp at i
 have h9:c≠b9:=λe=>by rw[e,h.n9.2.2.2.2]at i;simp at i
 simp[ckN,ZID,t,u,h7,h8,h9,i]
def ZBF(h:YG st b5 b6 b7 b8 b9){H L}(hρ:ZM H 8=sO (.d (.ptr b8 0)):=by rfl):
  Yw H L (ckN st nm b5 b6 b7 b8 b9) [.cell1 8]=sO (True/\True,[.i 0]):=by
 simp[Yw,Kf,hρ,Wg,Z1,h.m8]
end
def ZnE(s)(hv:ZU s=true)(nm st)(hk:∀t∈s.terms,t.field=nm):
  Za ZH1 88 [.agg s.cells,.str nm,.nilmap,.fn (.func 89) [] []] st (λr S=>r=.ret (.i 0)/\S=st):=by
 refine Zb (cR 88 f88) λF hF=>?_;refine rx @eQ4 ?_;refine rx @eQ4 ?_;refine cl (Zam s) ?_;rw[hv];refine iG ?_;refine Zc (Zc ?_);refine xP 5 λb5 h5=>?_;refine xP 6 λb6 h6=>?_;refine xP 7 λb7 h7=>?_;refine xP 8 λb8 h8=>?_;refine xP 9 λb9 h9=>?_;refine rx @eQ4 ?_;refine cV (ZbJ s hv) ?_ ?_;rintro d S ⟨x,hx,hd,rfl⟩;cases hd;refine gR0 ?_;refine Zd ?_;have i:YG st b5 b6 b7 b8 b9:=by have k6:=Zm h6;have k7:=Zm h7;have al:=Zm k7.2;have k8:=Zm h8;have af:=Zm k8.2;have am:=Zm af.2;have k9:=Zm h9;have ag:=Zm k9.2;have ah:=Zm ag.2;have ao:=Zm ah.2;exact⟨h5,k6,⟨k7.1,al⟩,⟨k8.1,af.1,am⟩,⟨k9.1,ag.1,ah.1,ao⟩⟩
 have hfew:=Je hv;rw[show(((((st.upd b5 (.cells [.str nm])).upd b6 (.cells [.nilmap])).upd b7 (.cells [.fn (.func 89) [] []])).upd b8 (.cells [.i 0])).upd b9 (.cells [.bool false]))=ckN st nm b5 b6 b7 b8 b9 from rfl]at hx⊢;refine Kt hF rfl trivial [5,6,7,8,9] (by show([5,6,7,8,9]:List Nat).Nodup;decide) (Wl hx) (ZaF s.terms (by unfold big;omega) x).Y (λj hj=>rfl)
  (λj=>.next) (λj a=>a=ckN st nm b5 b6 b7 b8 b9) rfl ?_ ?_ ?_ ?_ ?_ ?_
 intro j a hj ab hB F' ready busy hdr ac ad;subst hB;simp only[Eqs,reduceCtorEq,ZH9,reduceIte,ZH6,ZIa,ZH7,WB,W1,Q5,Ke,List.isEmpty_nil,List.isEmpty_cons];refine rg ?_;refine ac λai=>?_;have ak:=hk _ (Zu hj);generalize htm:s.terms.getD j dE=tm at *;subst ak;have e3:=YH ZN tm.field;simp only[show Ks tm.field=D.str tm.field from rfl]at e3;have ae:(ckN st tm.field b5 b6 b7 b8 b9).upd b8 (.cells [.i 0])=ckN st tm.field b5 b6 b7 b8 b9:=St.upd_self i.m8;refine rh ?_;refine Zp ?_;simp only[Eqs,reduceCtorEq,ZH9,reduceIte,ZH6,ZIa,ZH7,Zs (i.m6 ),e3];refine rh ?_;refine Zp ?_;simp only[Eqs,reduceCtorEq,ZH9,reduceIte,ZH6,ZIa,ZH7,Zs (i.m5 )];refine i1 ?_;refine ZE (Zk (Zk ?_));exact ad.fin ⟨rfl,rfl⟩ ai ZH2;intro q a ab hB hq;subst hB;rw[K6 hq];have aj:=Wl (o:=Qv.dfr) hq;have ae:(ckN st nm b5 b6 b7 b8 b9).upd b8 (.cells [.i 0])=ckN st nm b5 b6 b7 b8 b9:=St.upd_self i.m8;refine rh ?_;refine Zp ?_;simp only[Eqs,reduceCtorEq,ZH9,reduceIte,ZH6,ZIa,ZH7,Zs (YG.m9 )];refine i0 ?_;refine rh ?_;refine Zp ?_;simp only[Eqs,reduceCtorEq,ZH9,reduceIte,ZH6,ZIa,ZH7,Zs (i.m8 ),WU,ae];exact hF.ret1 (Zf7 aj Yi) (.i 0) st (ZBF i) ⟨trivial,trivial⟩ (ZH3 _) i.msub ⟨rfl,rfl⟩;intro q a m hm ab u;simp at u;intro q a m id hm ab u;simp at u;intro q a m d hm ab u;simp at u;intro m c u;simp at u;rintro d S ⟨x,hx,hd,rfl⟩;cases hd
def Zjb{s}(h:ZU s=true):∀t∈s.terms,t.factor≠0:=by
 unfold ZU at h;simp only[ZIb]at h;have:∀(i:List Str) (l:List Yb),Zbl i l=true->∀t∈l,t.factor≠0:=by
  intro i l;induction l generalizing i with
  |nil=>intro _;simp
  |cons t r ih =>intro u;simp only[Zbl,JQ,ZIb,Bool.not_eq_true',decide_eq_false_iff_not]at u;intro x hx;rcases List.mem_cons.1 hx with rfl|hx;exact u.1.1.1.2;exact ih _ u.2 x hx
 exact this [] s.terms h.2
def ZfN(t:Yb)(base n:Int):Option Int :=
 if n<=1152921504606846976/\-1152921504606846976<=n/\(n-base).tmod t.factor=0/\0<=(n-base).tdiv t.factor/\(n-base).tdiv t.factor<34359738368 then sO ((n-base).tdiv t.factor) else nO
def Zuk(o:Option Int):D:=match o with
 |some n=>.tup [.i n,.i 0]
 |none=>.tup [.i 0,.i 9]
def Zpl{t:Yb}{z nm st}(hz:st z=sO (.cells [.str nm])):ZL ZH1 91 [.agg t.cells,.ptr z 0] st (.bool (dC (t.field=nm))) st:=by
 refine Zz (cR 91 f91) λu F i=>?_;clear u;refine rx @Yb.cells.eq_1 ?_;refine rx @hz ?_;exact i rfl φ (ZH3 _) ZH2
def Zpm(t:Yb){z nm d st}(hz:st z=sO (.cells [.str nm]))(ht:t.field=nm):ZL ZH1 93 [.agg t.cells,.ptr z 0,d] st (.i 0) st:=by
 refine Zz (cR 93 f93) λu F i=>?_;clear u;refine rx @Yb.cells.eq_1 ?_;refine rx @hz ?_;refine Zl rfl trivial (λ_=>?_) (λh=>by simp at h;exact absurd ht h);refine rg ?_;exact i rfl φ (ZH3 _) ZH2
def Zr3(s)(hv:ZU s=true)(t)(ht:s.terms=[t])(n st):
  Za ZH1 48 [.agg s.cells,.str t.field,.i n,.nilmap] st (λr S=>r=.ret (Zuk (ZfN t s.base n))/\S=st):=by
 have aj:=ZgA hv;have ab:=Zjb hv t (by rw[ht];simp);have hts:=aj.2 t (by rw[ht];simp);refine Zb (cR 48 f48) λF hF=>?_;refine rx @eQ4 ?_;refine rx @eQ4 ?_;refine Zhi rfl rfl rfl rfl rfl φ φ (by exact ZnE s hv t.field st (λu hu=>by rw[ht]at hu;simp at hu;rw[hu])) ?_ ?_;rintro d S ⟨hd,hS⟩;obtain rfl:=hS.symm;cases hd;refine gR0 ?_;refine gI ?_;refine ZE (Zc ?_);refine xP 5 λz5 h5=>?_;refine xP 7 λz7 h7=>?_;refine rx @eQ4 ?_;have af:z5≠z7:=λe=>by rw[<-e,ZH5]at h7;simp at h7
 have ae:((st.upd z5 (.cells [.str t.field])).upd z7 (.cells [.nilmap])) z5=sO (.cells [.str t.field]):=by rw[ZH8 _ _ af,ZH5]
 have ac:st.sub ((st.upd z5 (.cells [.str t.field])).upd z7 (.cells [.nilmap])):=ZIK (ZIr _ h5) (ZIr _ h7);generalize ((st.upd z5 (.cells [.str t.field])).upd z7 (.cells [.nilmap]))=S at *;have ag:Zi (λu:Yb=>dC (u.field=t.field)) s.terms=0:=by rw[ht];simp[Zi]
 refine ct (ZfL s.terms (.fn (.func 91) [] [.ptr z5 0]) (λu=>dC (u.field=t.field)) (λ_=>S) (λi _=>(Zpl ae).VT (first:=[]) (args:=[_]) (caps:=[_]))) ?_;rw[ag];refine rg ?_;have hS:=ZfN.eq_1 t s.base n;refine cd (λh1=>?_) (λh1=>?_);refine rg ?_;exact hF.ret _ st rfl φ (Qn rfl rfl) ac ⟨by rw[hS,if_neg (by simp at h1;omega)];rfl,rfl⟩;simp at h1;refine rx @eQ4 ?_;refine Jo rfl rfl rfl rfl rfl φ φ (by exact Zdw s hv (.fn (.func 93) [] [.ptr z5 0,.ptr z7 0]) (λ_=>0) S (λu hu=>by omega) (λu hu=>(Zpm u ae (by rw[ht]at hu;simp at hu;rw[hu])).VT (first:=[]) (args:=[_]) (caps:=[_,_]))) (Zp ?_);simp only[Eqs,reduceCtorEq,ZH9,reduceIte,ZH6,ZIa,ZH7];have ad:s.base+Ql (λ_=>0) s.terms=s.base:=by rw[ht];simp[Ql]
 rw[ad];refine aa ?_;have ai:s.terms.getD 0 dE=t:=by rw[ht];rfl
 have ah:I s.terms=1:=by rw[ht];rfl
 refine xA (nd2 @Ye.eq_1 (nd2 @eQ1 (nd2 @ai (nd2 @ah @Yb.cells.eq_1)))) ?_;have hq1:((n-s.base).tdiv t.factor).natAbs<=(n-s.base).natAbs:=by rw[Int.natAbs_tdiv];exact Nat.div_le_self _ _
 have hq2:((n-s.base).tmod t.factor).natAbs<=(n-s.base).natAbs:=by rw[Int.natAbs_tmod];exact Nat.mod_le _ _
 refine rg ?_;refine⟨ab,ω,ω,λ_=>⟨ab,ω,ω⟩,?_⟩;refine cG (Zgt ((n-s.base).tdiv t.factor)) ?_;refine aa ?_;refine cd (λh2=>?_) (λh2=>?_);refine rg ?_;exact hF.ret _ st rfl φ (Qn rfl rfl) ac ⟨by rw[hS,if_neg (by simp at h2;omega)];rfl,rfl⟩;refine rg ?_;refine⟨ab,ω,ω,?_⟩;exact hF.ret _ st rfl φ (Qn rfl rfl) ac ⟨by rw[hS,if_pos (by simp at h2;omega)];rfl,rfl⟩;rintro d S ⟨hd,_⟩;cases hd
abbrev Zps(l:List Str):D:=slD 1 ZbZ l
def ZhP(l)(hl:I l<=1000000)(f st)(hf:∀x∈l,VT ZH1 f [.str x] st (.bool false) st):ZL ZH1 231 [Zps l,f] st (.i (-1)) st:=by
 refine Zz (cR 231 f231) λ_ F u=>?_;refine rg ?_;refine rx @eQ1 ?_;refine Zd (fr (I l) (λi Q=>i<=I l->Q [(0,.d (Zps l)),(1,.d f),(7,.d (.i (I l))),(8,.d (.i i))] [] st) (λn t=>?_) λac=>?_);intro i hn hi;refine rg ?_;refine Zc (Zl rfl trivial (λh1=>?_) (λh1=>?_));simp at h1;have ab:=hf _ (Zu h1);refine rg ?_;refine xA (nd2 @eQ1 @ZbZ.eq_1) ?_;refine cW (ab) ?_;refine i0 ?_;refine gA ?_;refine Ze ?_;exact t ((I l)-(i+1)) ω (i+1) rfl ω;refine rg ?_;exact u rfl φ (ZH3 _) ZH2;exact ac _ 0 rfl ω
def Zhd(l)(hl:I l<=1000000)(f st)(u:∀x∈l,VT ZH1 f [.str x] st (.bool false) st):ZL ZH1 195 [Zps l,f] st (Zps l) st:=by
 refine Zz (cR 195 f195) λ_ F i=>?_;have t:=ZhP l hl f st u;refine gG ?_;refine ct (t) ?_;refine aa ?_;refine rg ?_;refine i1 ?_;refine rg ?_;exact i rfl φ (ZH3 _) ZH2
def Zqr{a s}(ha:a≠[])(hs:s≠[])(hl:I a<=10000000)(hl2:I s<=10000000):Zf ZH1 134 [Zps [a,s]] (.str (ZR a s)):=by
 refine Zh (cR 134 f134) λF st t=>?_;have hd:=Zhd [a,s] ψ (.fn (.func 196) [] []) st (λx hx=>by
  have h:=(Zgr x).VT (first:=[]) (args:=[_]) (caps:=[]) st;rw[decide_eq_false (λe=>by rw[e]at hx;simp at hx;rcases hx with hx|hx<;>simp_all)]at h;exact h)
 have i:joinL [a,s] [46]=ZR a s:=by simp[joinL,ZR,ha,List.intercalate]
 have u:=Zc0 [a,s] ψ (by rw[i];have:=Zcb a s;omega);rw[i]at u;refine gG ?_;refine ct (hd) ?_;refine cl (u) ?_;refine rs t ?_;rfl
def Zrg{a s}(u:a≠[])(hs:s≠[])(hl:I a<=10000000)(t:I s<=10000000):Zf ZH1 134 [.sl .full 2 1 (ZZ [.str []] ([0,1].zip [.str a,.str s]))] (.str (ZR a s)) :=
 Zf.leA (LeC.one (Zh5 rfl λi hi=>by rcases(by omega:i=0\/i=1) with rfl|rfl<;>rfl)) (Zqr u hs hl t)
def ZH(r:Str×Int)(st:St)(x:Res)(S:St):Prop:=S=st/\x=mfR r.1 r.2
def Wi(a b:Str×Int):Str×Int:=if a.2=0 then b else a
def mfK{r st}{A:D->St->Prop}(h:r.2=0->A (.tup []) st):∀d S,ZH r st (.ret d) S->A d S:=λd S ⟨u,i⟩=>by
 subst u;unfold mfR at i;split at i;rename_i t;cases i;exact h t;cases i
def mfP{r st}{A:D->St->Prop}(h:¬r.2=0->A (mfD r.1 r.2) st):∀d S,ZH r st (.panic d) S->A d S:=λd S ⟨u,i⟩=>by
 subst u;unfold mfR at i;split at i;cases i;rename_i t;cases i;exact h t
def ZH.ok{r st}(h:r.2=0):ZH r st (.ret (.tup [])) st:=⟨rfl,by unfold mfR;rw[if_pos h]⟩
def ZH.bad{r R st}(h:¬r.2=0)(i:R=r):ZH R st (.panic (mfD r.1 r.2)) st:=by
 subst i;exact⟨rfl,by unfold mfR;rw[if_neg h]⟩
def KL{a b}(h:a.2=0):Wi a b=b:=if_pos h
def Kq{a b}(h:¬a.2=0):Wi a b=a:=if_neg h
def Ku(fine q no)(i:¬no=0)(st):Za ZH1 96 [.bool fine,.str q,.i no] st (ZH (q,if fine then 0 else no) st) :=
 (Zen fine q no st).mono λr S ⟨t,u⟩=>⟨t,by rw[u];cases fine<;>simp[mfR,i]⟩
def ZkR(a b q st):Za ZH1 138 [.i a,.i b,.str q] st (ZH (q,WC a b) st) :=
 (ZuW a b q st).mono λr S ⟨i,t⟩=>⟨i,t⟩
def Zpy(n b h p:Bool)(x:Val):Bool:=(((n ||decide (x.int=0))&&(b ||decide ((I x.bytes:Int)=0)))&&(h ||decide ((I x.hdrs:Int)=0)))&&(p ||decide ((I x.parts:Int)=0))
def Zc6(n b h p:Bool)(x:Val)(q:Str):Str×Int:=(q,if Zpy n b h p x then 0 else 6)
structure Zck(st:St)(b3 b4 b5 b6 b7 b:Nat)(d:Dfn)(m:Msg)(pth:Str)(l:List (Str×Int))(f:Fld)(x:Val)(q:Str):Prop where
 p:st b3=some (.cells (WV m d pth b))
 f:st b4=some (.cells f.cells)
 x:st b5=some (.cells [.str x.name,.i x.int,Zo x.bytes,Ym x.hdrs,Z7 x.parts])
 q:st b6=some (.cells [.str q])
 u:st b7=some (.cells [.fn (.func 135) [] [.ptr b5 0,.ptr b6 0]])
 m:st b=some (.map (WZ l))
section
variable {st:St} {b3 b4 b5 b6 b7 bm:Nat} {d:Dfn} {m:Msg} {pth:Str} {l:List (Str × Int)} {f:Fld} {x:Val} {q:Str}
def Qk(u:Zck st b3 b4 b5 b6 b7 bm d m pth l f x q)(n b h p):WP ZH1 (.fn (.func 135) [] [.ptr b5 0,.ptr b6 0]) [.bool n,.bool b,.bool h,.bool p] st (ZH (Zc6 n b h p x q) st):=by
 refine Za.V (first:=[]) (args:=[_,_,_,_]) (caps:=[_,_]) ?_;refine Zb (cR 135 f135) λF t=>?_;have h5:=u.x;have h6:=u.q;have hU:=Zpy.eq_1 n b h p x;refine rx (nd2 @h5 (nd2 @h6 (nd2 @KH (nd2 @Zj5 @Zdl)))) ?_;rw[<-hU];have c9:=Ku (Zpy n b h p x) q 6 (by decide) st;refine cV (c9) ?_ ?_;refine mfK λi=>?_;refine gR0 ?_;exact t.fin (.tup []) st rfl trivial (ZH3 _) ZH2 (ZH.ok i);exact mfP λi=>t.pan st ZH2 (ZH.bad i rfl)
def Zgs(i:Zck st b3 b4 b5 b6 b7 bm d m pth l f x q):
  Za ZH1 136 [.ptr b7 0,.ptr b5 0,.ptr b4 0,.ptr b6 0] st (ZH (Wi (Zc6 true false false false x q) (q,if dC (f.low<=x.int)&&dC (x.int<=f.high) then 0 else 3)) st):=by
 refine Zb (cR 136 f136) λF u=>?_;have hu:=Qk i true false false false;refine rx @i.u ?_;refine vV (hu) ?_ ?_;refine mfK λt=>?_;rw[KL t]at u;refine gR0 ?_;refine rx (nd2 @i.x (nd2 @i.f (nd2 @i.q @eQ0))) ?_;have c9:=Ku (dC (f.low<=x.int)&&dC (x.int<=f.high)) q 3 (by decide) st;refine cV (c9) ?_ ?_;refine mfK λh1=>?_;refine gR0 ?_;exact u.fin (.tup []) st rfl trivial (ZH3 _) ZH2 (ZH.ok h1);exact mfP λh1=>u.pan st ZH2 (ZH.bad h1 rfl);exact mfP λt=>u.pan st ZH2 (ZH.bad t (Kq t))
def Zpe(i:Zck st b3 b4 b5 b6 b7 bm d m pth l f x q)(hv:ZU f.size=true)(hk:∀t∈f.size.terms,∃v,Zr t.field l=sO v/\0<=v/\v<34359738368):
  Za ZH1 137 [.ptr b7 0,.ptr b5 0,.ptr b3 0,.ptr b4 0,.ptr b6 0] st (ZH (Wi (Zc6 false true false false x q) (q,WC (I x.bytes) (ZaC f.size l))) st):=by
 refine Zb (cR 137 f137) λF hF=>?_;have hu:=Qk i false true false false;have hz:=Zax m d pth f hv bm l st i.m hk;refine rx @i.u ?_;refine vV (hu) ?_ ?_;refine mfK λu=>?_;rw[KL u]at hF;refine gR0 ?_;have hp:=i.p;have hf:=i.f;refine rx (nd2 @i.x (nd2 @hp (nd2 @hf (nd2 @i.q (nd2 @KH (nd2 @WV.eq_1 @eQ0)))))) ?_;refine cVD (hz) ?_ ?_;rintro dd S ⟨hd,rfl⟩;cases hd;refine kF ?_;refine gR0 ?_;refine cVD (ZkR (I x.bytes) (ZaC f.size l) q S) ?_ ?_;refine mfK λh1=>?_;refine kF ?_;refine gR0 ?_;exact hF.fin (.tup []) S rfl trivial (ZH3 _) ZH2 (ZH.ok h1);exact mfP λh1=>hF.pan S ZH2 (ZH.bad h1 rfl);rintro dd S ⟨hd,_⟩;cases hd;exact mfP λu=>hF.pan st ZH2 (ZH.bad u (Kq u))
end
def ZiV(l v):Zf ZH1 198 [Zo l,.int .u8 v] (.i (Zi (λx=>dC (v=x.toNat)) l)):=by
 refine WK (cR 198 f198) λad F st u=>?_;have hw:=(Ww (ad (Zo l) ψ)).1;unfold big at hw;clear ad;refine rg ?_;refine rx @KH ?_;refine Zd (fr (I l) (λi Q=>i<=I l->(∀j,j<i->dC (v=(l.getD j dE).toNat)=false)->Q [(0,.d (Zo l)),(1,.d (.int .u8 v)),(7,.d (.i (I l))),(8,.d (.i i))] [] st) (λn t=>?_) λae=>?_);intro i hn hi ab;refine rg ?_;refine Zc (Zl rfl trivial (λh1=>?_) (λh1=>?_));simp at h1;refine rg ?_;refine xA (nd2 @Zwu @u8C.eq_1) ?_;refine cd (λh2=>?_) (λh2=>?_);have e1:=WH (p:=λx:UInt8=>dC (v=x.toNat)) h1 h2 ab;refine rg ?_;refine ri u ?_;exact e1.symm;refine gA ?_;refine Ze ?_;exact t ((I l)-(i+1)) ω (i+1) rfl ω (Yc (q:=λj=>dC (v=(l.getD j dE).toNat)=false) ab h2);simp at h1;obtain rfl:i=I l:=ω;have ac:∀x∈l,(λx:UInt8=>dC (v=x.toNat)) x=false:=λx hx=>by obtain⟨j,hj,rfl⟩:=ZIl hx;have:=ab j hj;simpa[ZIg,hj]using this
 refine rg ?_;refine ri u ?_;exact(Y9 ac).symm;exact ae _ 0 rfl ω (by intro j hj;omega)
def ZfZ(l v):Zf ZH1 141 [Zo l,.int .u8 v] (.bool (l.any λx=>dC (v=x.toNat))):=by
 refine Zh (cR 141 f141) λF st i=>?_;refine gG ?_;refine cl (ZiV l v) ?_;refine rb i ?_;rw[<-Jg]
section
variable {st:St} {b3 b4 b5 b6 b7 bm:Nat} {d:Dfn} {m:Msg} {pth:Str} {l:List (Str × Int)} {f:Fld} {x:Val} {q:Str}
def Zpf(i:Zck st b3 b4 b5 b6 b7 bm d m pth l f x q)(hl:0<=f.low/\f.low<=255):
  Za ZH1 140 [.ptr b7 0,.ptr b5 0,.ptr b4 0,.ptr b6 0] st (ZH (Wi (Zc6 false true false false x q) (Wi (q,if dC ((I x.bytes:Int)<=f.high) then 0 else 5) (q,if !x.bytes.any (λc=>dC (f.low=c.toNat)) then 0 else 6))) st):=by
 refine Zb (cR 140 f140) λF t=>?_;have hu:=Qk i false true false false;have hw:IntKind.u8.wrap f.low=f.low:=Zas .u8 f.low (by have u:IntKind.u8.min=0:=rfl;have h2:IntKind.u8.max=255:=rfl;unfold inR;omega);refine rx @i.u ?_;refine vV (hu) ?_ ?_;refine mfK λh0=>?_;rw[KL h0]at t;refine gR0 ?_;refine rx (nd2 @i.x (nd2 @i.f (nd2 @i.q (nd2 @KH @eQ0)))) ?_;have c9:=Ku (dC ((I x.bytes:Int)<=f.high)) q 5 (by decide) st;refine cV (c9) ?_ ?_;refine mfK λu=>?_;rw[KL u]at t;refine gR0 ?_;refine rx (nd2 @i.x (nd2 @i.f (nd2 @i.q (nd2 @eQ0 @hw)))) ?_;refine clD (ZfZ x.bytes f.low) ?_;refine Zh2 rfl rfl rfl rfl rfl φ φ (by exact Ku (!x.bytes.any λc=>dC (f.low=c.toNat)) q 6 (by decide) st) ?_ ?_;refine mfK λh2=>?_;refine kF ?_;refine gR0 ?_;exact t.fin (.tup []) st rfl trivial (ZH3 _) ZH2 (ZH.ok h2);exact mfP λh2=>t.pan st ZH2 (ZH.bad h2 rfl);exact mfP λu=>t.pan st ZH2 (ZH.bad u (Kq u));exact mfP λh0=>t.pan st ZH2 (ZH.bad h0 (Kq h0))
def Zpg(i:Zck st b3 b4 b5 b6 b7 bm d m pth l f x q)(ht:Zc4 x.hdrs):
  Za ZH1 142 [.ptr b7 0,.ptr b5 0,.ptr b6 0,.ptr b4 0] st (ZH (Wi (Zc6 false false true false x q) (Wi (q,if KJ x.hdrs then 0 else 6) (q,if dC (((Qt x.hdrs).length:Int)<=f.high) then 0 else 5))) st):=by
 refine Zb (cR 142 f142) λF u=>?_;have hu:=Qk i false false true false;have hW:=Zei ht;have hR:=ZhZ.eq_1 x.hdrs;generalize ZhZ x.hdrs=w at *;refine rx @i.u ?_;refine vV (hu) ?_ ?_
 .refine mfK λh0=>?_;rw[KL h0]at u;refine gR0 ?_;refine rx @i.x ?_;cases hk:KJ x.hdrs with
  |false =>rw[hk,if_neg ψ]at hR;subst hR;refine cl (hW) ?_;refine rx @i.q ?_;have c9:=Ku false q 6 (by decide) st;refine cV (c9) ?_ ?_;exact mfK λt=>absurd t ψ;exact mfP λt=>u.pan st ZH2 (ZH.bad t (by rw[hk,Kq ψ]))
  |true =>rw[hk,if_pos rfl]at hR;rw[hk,KL ψ]at u;subst hR;refine cl (hW) ?_;refine rx @i.q ?_;have c9:=Ku true q 6 (by decide) st;refine cV (c9) ?_ ?_;refine mfK λt=>?_;refine gR0 ?_;refine rx (nd2 @i.f (nd2 @i.q (nd2 @KH @eQ0))) ?_;have c9:=Ku (dC (((Qt x.hdrs).length:Int)<=f.high)) q 5 (by decide) st;refine cV (c9) ?_ ?_;refine mfK λh2=>?_;refine gR0 ?_;exact u.fin (.tup []) st rfl trivial (ZH3 _) ZH2 (ZH.ok h2);exact mfP λh2=>u.pan st ZH2 (ZH.bad h2 rfl);exact mfP λt=>absurd rfl t
 exact mfP λh0=>u.pan st ZH2 (ZH.bad h0 (Kq h0))
end
def Qm:Prop:=∀n:Nat,n<500->Zf ZH1 199 [.i n] (.str (ZaR n))
def Zi9(hI:Qm)(ps)(k:Nat)(hk:k<I ps)(hps:I ps<=500)(hn:∀x∈ps,I x.name<=32):Zf ZH1 144 [Z7 ps,.i k] (.str (Yx ps k)):=by
 refine Zh (cR 144 f144) λF st u=>?_;have ab:=QX hk;have hnk:=hn _ (Zu hk);have ac:=λi=>Zyj (ps:=ps) (k:=k) (i:=i);have hO:=Yx.eq_1 ps k;have ad:Jv ps k=Zff ps k k:=rfl;have hdl:=Zoc ps k;have hdec:=Zih (Jv ps k);have hD:=hI (Jv ps k) ω;generalize hx:ps.getD k dE=x at *;refine gG ?_;refine rx @Z7.eq_1 ?_;simp only[ite_self];refine⟨ω,ω,ω,?_⟩;refine kl (st) [(0,.d (Z7 ps)),(1,.d (.i k)),(5,.d (.i (0:Nat))),(10,.d (.sl .none k 5 (ZcP ps))),(11,.d (.i k)),(12,.d (.i (0:Nat)))] [] Js ZbM ?_;refine Zd (fr (k) (λi Q=>i<=k->Q [(0,.d (Z7 ps)),(1,.d (.i k)),(5,.d (.i (Zff ps k i))),(10,.d (.sl .none k 5 (ZcP ps))),(11,.d (.i k)),(12,.d (.i i))] [] st) (λn t=>?_) λaf=>?_);intro i hn2 hi;refine rg ?_;refine Zc (Zl rfl trivial (λh1=>?_) (λh1=>?_));simp at h1;have ae:=QX (show i<I ps by omega);have hs:=ac i ω;have hdi:=ZBM ps k i;generalize hy:ps.getD i dE=y at *;refine xA @ae ?_;refine xA (nd2 @atV @ab) ?_;refine cd (λh2=>?_) (λh2=>?_);rw[if_pos (by simpa using h2)]at hs;refine gA ?_;refine gA ?_;rw[show((Zff ps k i:Nat):Int)+1=((Zff ps k (i+1):Nat):Int) by rw[hs];rfl];refine Ze ?_;exact t ((k)-(i+1)) ω (i+1) rfl ω;rw[if_neg (by simpa using h2)]at hs;refine gA ?_;rw[show((Zff ps k i:Nat):Int)=((Zff ps k (i+1):Nat):Int) by rw[hs];rfl];refine Ze ?_;exact t ((k)-(i+1)) ω (i+1) rfl ω;simp at h1;obtain rfl:i=k:=ω;rw[<-ad];refine rg ?_;refine cd (λh3=>?_) (λh3=>?_);simp at h3;rw[if_pos h3]at hO;refine xA (nd2 @atV @ab) ?_;refine rs u ?_;exact hO.symm;simp at h3;rw[if_neg h3]at hO;refine xA (nd2 @atV @ab) ?_;refine⟨by unfold big;omega,?_⟩;refine cXD @ZCl (hD) ?_;repeat(refine ZH4 (by first|omega|trivial|(intro h0;simp at h0;omega)|(((try simp only[ZIc,ZIi,List.length_nil]);unfold big;omega))) ?_)
 refine rs u ?_;exact hO.symm;exact af _ 0 rfl ω
section
variable {d:Dfn} {m:Msg} {pth:Str} {bm:Nat} {x:Val} {q:Str} {st:St}
def ZtV(mis:Msg->Val->Str->Str×Int)(d:Dfn)(of:Str)(x:Val)(q:Str):Str×Int :=
 Wi (Zc6 false false false true x q) (Wi (q,if dC ((I x.parts:Int)=1) then 0 else 6) (mis (Zj d of) (x.parts.getD 0 dE) (ZR q (Yx x.parts 0))))
def Zug(hI:Qm)(of)(hof:0<=Zy d of (I d.msgs))(hx:VOk x)(hq:q≠[]/\I q<=1000000){fu}(hu:WP ZH1 fu [.bool false,.bool false,.bool false,.bool true] st (ZH (Zc6 false false false true x q) st))(mis)(hmis:I x.parts=1->Za ZH1 54 [.agg d.cells,.agg (Zj d of).cells,.agg (x.parts.getD 0 dE).cells,.str (ZR q (Yx x.parts 0))] st (ZH (mis (Zj d of) (x.parts.getD 0 dE) (ZR q (Yx x.parts 0))) st)):
  Za ZH1 146 [.agg (WV m d pth bm),.str of,.agg x.cells,.str q,fu] st (ZH (ZtV mis d of x q) st):=by
 refine Zb (cR 146 f146) λF hF=>?_;have t:=We d of hof;rw[show d.msgs.getD (ixS d of) dE=Zj d of from rfl]at t;unfold ZtV at hF;rw[ZIq];refine rx @WV.eq_1 ?_;refine rg ?_;refine vV (hu) ?_ ?_;refine mfK λh0=>?_;rw[KL h0]at hF;refine gR0 ?_;refine rx @Zdl ?_;have c9:=Ku (dC ((I x.parts:Int)=1)) q 6 (by decide) st;refine cV (c9) ?_ ?_;refine mfK λh1=>?_;rw[KL h1]at hF;have hl:I x.parts=1:=by simp at h1;omega
 have ab:=Zi9 hI x.parts 0 ω ω hx.name;have hsn:=Zgu hx.few hx.name (k:=0) ω;have u:Yx x.parts 0≠[]:=by have h2:=(hx.part (Zu (show 0<I x.parts by omega))).node.1.1;unfold Yx;rw[if_pos (by have:=Zoc x.parts 0;omega)];exact λe=>by rw[e]at h2;simp at h2
 have hj:=Zrg hq.1 u ω ω;have hr:=QX (l:=x.parts) (i:=0) ω;have hm:=hmis hl;generalize ZR q (Yx x.parts 0)=q2 at *;rw[ZIq]at hm;generalize mis (Zj d of) (x.parts.getD 0 dE) q2=R at *;generalize x.parts.getD 0 dE=y at *;refine gR0 ?_;refine xA (nd2 @atV @hr) ?_;refine clD (t) ?_;refine clD (ab) ?_;refine clD (hj) ?_;refine cVD (hm) ?_ ?_;refine mfK λh2=>?_;refine kF ?_;refine gR0 ?_;exact hF.fin (.tup []) st rfl trivial (ZH3 _) ZH2 (ZH.ok h2);exact mfP λh2=>hF.pan st ZH2 (ZH.bad h2 rfl);exact mfP λh1=>hF.pan st ZH2 (ZH.bad h1 (Kq h1));exact mfP λh0=>hF.pan st ZH2 (ZH.bad h0 (Kq h0))
end
def VOk.few2{v}(h:VOk v):I v.parts<=500:=by
 have h1:=ZvQ v;have h2:=h.wt;have h3:I v.parts<=nodesL v.parts:=by
  induction v.parts with
  |nil=>simp
  |cons x r ih=>have:=Jk x;simp only[ZIi,nodesL];omega
 have h4:=Jk v;omega
def ZCq{ps k}(h:1<=(ps.getD k dE).name.length):Yx ps k≠[]:=by
 unfold Yx;split;exact λe=>by rw[e]at h;simp at h
 simp
abbrev ZeD(mis:Msg->Val->Str->Str×Int)(d:Dfn)(of:Str)(x:Val)(q:Str)(i:Nat):Str×Int:=mis (Zj d of) (x.parts.getD i dE) (ZR q (Yx x.parts i))
section
variable {st:St} {b3 b4 b5 b6 b7 bm:Nat} {d:Dfn} {m:Msg} {pth:Str} {l:List (Str × Int)} {f:Fld} {x:Val} {q:Str}
def Zph(hI:Qm)(hs:Zck st b3 b4 b5 b6 b7 bm d m pth l f x q)(hx:VOk x)(hq:q≠[]/\I q<=1000000)(hv:ZU f.size=true)(hk:∀t∈f.size.terms,∃v,Zr t.field l=sO v/\0<=v/\v<34359738368)(hof:0<=Zy d f.of (I d.msgs))(mis)(hmis:∀i,i<I x.parts->Za ZH1 54 [.agg d.cells,.agg (Zj d f.of).cells,.agg (x.parts.getD i dE).cells,.str (ZR q (Yx x.parts i))] st (ZH (ZeD mis d f.of x q i) st)):
  Za ZH1 143 [.ptr b7 0,.ptr b5 0,.ptr b3 0,.ptr b4 0,.ptr b6 0] st (ZH (Wi (Zc6 false false false true x q) (Wi (q,WC (I x.parts) (ZaC f.size l)) ((WI (ZeD mis d f.of x q) (ZIf (I x.parts))).getD (q,0)))) st):=by
 refine Zb (cR 143 f143) λF hF=>?_;have hu:=Qk hs false false false true;have hz:=Zax m d pth f hv bm l st hs.m hk;have ag:=We d f.of hof;rw[show d.msgs.getD (ixS d f.of) dE=Zj d f.of from rfl]at ag;have ad:=hs.x;have ah:=hs.p;have ae:=hs.f;have ai:=hs.q;have af:=hx.few2;refine rx @hs.u ?_;refine vV (hu) ?_ ?_;refine mfK λh0=>?_;rw[KL h0]at hF;refine gR0 ?_;refine rx (nd2 @ad (nd2 @ah (nd2 @ae (nd2 @ai (nd2 @Zdl (nd2 @WV.eq_1 @eQ0)))))) ?_;refine cVD (hz) ?_ ?_;rintro dd S ⟨hd,hS⟩;obtain rfl:=hS.symm;cases hd;refine kF ?_;refine gR0 ?_;refine cVD (ZkR (I x.parts) (ZaC f.size l) q st) ?_ ?_;refine mfK λh1=>?_;rw[KL h1]at hF;refine kF ?_;refine gR0 ?_;refine rx (nd2 @ad @Zdl) ?_;refine Zd (fr (I x.parts) (λi Q=>i<=I x.parts->(∀j,j<i->(ZeD mis d f.of x q j).2=0)->Q [(1,.d (.ptr b5 0)),(2,.d (.ptr b3 0)),(3,.d (.ptr b4 0)),(4,.d (.ptr b6 0)),(18,.d (Z7 x.parts)),(19,.d (.i (I x.parts))),(20,.d (.i i))] [] st) (λn ac=>?_) λao=>?_);intro i hn hi ab;refine rg ?_;refine Zc (Zl rfl trivial (λu=>?_) (λu=>?_));simp at u;have am:x.parts.getD i dE∈x.parts:=Zu u;have ak:=Zi9 hI x.parts i u af hx.name;have hsl:=Zgu hx.few hx.name u;have hj:=Zrg hq.1 (ZCq (hx.part am).node.1.1) ω ω;have hr:=QX (l:=x.parts) (i:=i) u;have hm:=hmis i u;have aj:=Zq5 (g:=ZeD mis d f.of x q) u ab;have al:=λh=>Yc (q:=λj=>(ZeD mis d f.of x q j).2=0) ab h;generalize hR:ZeD mis d f.of x q i=R at *;generalize ZR q (Yx x.parts i)=q2 at *;rw[ZIq]at hm;generalize x.parts.getD i dE=y at *;refine xA (nd2 @atV @hr) ?_;refine rx (nd2 @ad (nd2 @ah (nd2 @ae (nd2 @ai (nd2 @WV.eq_1 @eQ0))))) ?_;refine clD (ag) ?_;refine clD (ak) ?_;refine clD (hj) ?_;refine cVD (hm) ?_ ?_;refine mfK λh2=>?_;refine kF ?_;refine gR0 ?_;refine gA ?_;refine Ze ?_;exact ac ((I x.parts)-(i+1)) ω (i+1) rfl ω (al h2);exact mfP λh2=>hF.pan st ZH2 (ZH.bad h2 (by rw[aj h2];rfl));simp at u;obtain rfl:i=I x.parts:=ω;rw[Zor ab]at hF;refine ZO rfl ?_;exact hF.fin (.tup []) st rfl trivial (ZH3 _) ZH2 (ZH.ok rfl);exact ao _ 0 rfl ω (by intro j hj;omega);exact mfP λh1=>hF.pan st ZH2 (ZH.bad h1 (Kq h1));rintro dd S ⟨hd,_⟩;cases hd;exact mfP λh0=>hF.pan st ZH2 (ZH.bad h0 (Kq h0))
def Zpi(t:Zck st b3 b4 b5 b6 b7 bm d m pth l f x q){R}(i:Za ZH1 146 [.agg (WV m d pth bm),.str f.of,.agg x.cells,.str q,.fn (.func 135) [] [.ptr b5 0,.ptr b6 0]] st (ZH R st)):
  Za ZH1 145 [.ptr b3 0,.ptr b4 0,.ptr b5 0,.ptr b6 0,.ptr b7 0] st (ZH R st):=by
 refine Zb (cR 145 f145) λF hF=>?_;rw[ZIq]at i;refine rx (nd2 @t.p (nd2 @t.f (nd2 @t.x (nd2 @t.q (nd2 @t.u (nd2 @WV.eq_1 @eQ0)))))) ?_;refine cV (i) ?_ ?_;refine mfK λu=>?_;refine gR0 ?_;exact hF.fin (.tup []) st rfl trivial (ZH3 _) ZH2 (ZH.ok u);exact mfP λu=>hF.pan st ZH2 (ZH.bad u rfl)
def Zpj(u:Zck st b3 b4 b5 b6 b7 bm d m pth l f x q){tag}(ht:(Zr f.tag l).getD 0=tag){R}(hone:0<=K8 f tag->Za ZH1 146 [.agg (WV m d pth bm),.str (f.cases.getD (K8 f tag).toNat dE).of,.agg x.cells,.str q,.fn (.func 135) [] [.ptr b5 0,.ptr b6 0]] st (ZH R st)):
  Za ZH1 147 [.ptr b7 0,.ptr b4 0,.ptr b3 0,.ptr b6 0,.ptr b5 0] st (ZH (Wi (Zc6 false false false true x q) (Wi (q,if dC (0<=K8 f tag) then 0 else 9) R)) st):=by
 refine Zb (cR 147 f147) λF hF=>?_;have hu:=Qk u false false false true;have e1:=Yz (vD:=YR) ZN f.tag l;have e3:=YH ZN f.tag;simp only[show Ks f.tag=D.str f.tag from rfl]at e1 e3;have hC:=ZhK f tag;have ab:=Wc (λc:YB=>dC (c.low<=tag)&&dC (tag<=c.high)) f.cases;rw[show Zi (λc:YB=>dC (c.low<=tag)&&dC (tag<=c.high)) f.cases=K8 f tag from rfl]at ab;rw[ZIq]at hone;generalize K8 f tag=ci at *;refine rx @u.u ?_;refine vV (hu) ?_ ?_;refine mfK λh0=>?_;rw[KL h0]at hF;refine gR0 ?_;refine rx (nd2 @u.f (nd2 @u.p (nd2 @u.m (nd2 @WV.eq_1 (nd2 @eQ0 (nd2 @e1 (nd2 @e3 (nd2 @Zdm @ht)))))))) ?_;refine cl (hC) ?_;refine rx @u.q ?_;have c9:=Ku (dC (0<=ci)) q 9 (by decide) st;refine cV (c9) ?_ ?_;refine mfK λh1=>?_;rw[KL h1]at hF;have i:0<=ci:=by by_cases h:0<=ci;exact h;rw[decide_eq_false h]at h1;simp at h1
 have ho:=hone i;have ac:max ci 0=ci:=ω;generalize t:f.cases.getD ci.toNat dE=cc at *;rw[ac];refine gR0 ?_;refine xA (nd2 @u.p (nd2 @u.f (nd2 @u.x (nd2 @u.q (nd2 @u.u (nd2 @WV.eq_1 (nd2 @eQ0 (nd2 @ZBu (nd2 @t @YB.cells.eq_1))))))))) ?_;refine cV0 (ho) ?_ ?_;refine mfK λh2=>?_;refine gR0 ?_;exact hF.fin (.tup []) st rfl trivial (ZH3 _) ZH2 (ZH.ok h2);exact mfP λh2=>hF.pan st ZH2 (ZH.bad h2 rfl);exact mfP λh1=>hF.pan st ZH2 (ZH.bad h1 (Kq h1));exact mfP λh0=>hF.pan st ZH2 (ZH.bad h0 (Kq h0))
def Zpk(hs:Zck st b3 b4 b5 b6 b7 bm d m pth l f x q)(hv:ZU f.size=true)(hk:∀t∈f.size.terms,∃v,Zr t.field l=sO v/\0<=v/\v<34359738368)(hof:0<=Zy d f.of (I d.msgs)){R len}(u:Za ZH1 146 [.agg (WV m d pth bm),.str f.of,.agg x.cells,.str q,.fn (.func 135) [] [.ptr b5 0,.ptr b6 0]] st (ZH R st))(hlen:R.2=0->I x.parts=1/\Zf ZH1 19 [.agg d.cells,.agg (Zj d f.of).cells,.agg (x.parts.getD 0 dE).cells] (.i len)):
  Za ZH1 148 [.ptr b3 0,.ptr b4 0,.ptr b5 0,.ptr b6 0,.ptr b7 0] st (ZH (Wi R (q,WC len (ZaC f.size l))) st):=by
 refine Zb (cR 148 f148) λF hF=>?_;have hz:=Zax m d pth f hv bm l st hs.m hk;have ac:=We d f.of hof;rw[show d.msgs.getD (ixS d f.of) dE=Zj d f.of from rfl]at ac;rw[ZIq]at u;have ad:=hs.p;have ab:=hs.f;have ae:=hs.q;refine rx (nd2 @ad (nd2 @ab (nd2 @hs.x (nd2 @ae (nd2 @hs.u (nd2 @WV.eq_1 @eQ0)))))) ?_;refine cV (u) ?_ ?_;refine mfK λh0=>?_;rw[KL h0]at hF;obtain⟨hl,hL⟩:=hlen h0;have hr:=QX (l:=x.parts) (i:=0) ω;rw[ZIq]at hL;generalize x.parts.getD 0 dE=y at *;refine gR0 ?_;refine xA (nd2 @ad (nd2 @ab (nd2 @hs.x (nd2 @ae (nd2 @WV.eq_1 (nd2 @eQ0 (nd2 @atV @hr))))))) ?_;refine clD (ac) ?_;refine clD (hL) ?_;refine cVD (hz) ?_ ?_;rintro dd S ⟨hd,hS⟩;obtain rfl:=hS.symm;cases hd;refine kF ?_;refine gR0 ?_;refine cVD (ZkR len (ZaC f.size l) q st) ?_ ?_;refine mfK λh1=>?_;refine kF ?_;refine gR0 ?_;exact hF.fin (.tup []) st rfl trivial (ZH3 _) ZH2 (ZH.ok h1);exact mfP λh1=>hF.pan st ZH2 (ZH.bad h1 rfl);rintro dd S ⟨hd,_⟩;cases hd;exact mfP λh0=>hF.pan st ZH2 (ZH.bad h0 (Kq h0))
end
def Zpt{v w}:∀{l},(∀t∈l,v t=w t)->Ql v l=Ql w l
 | [],_=>rfl
 |t::r,h=>by simp only[Ql];rw[h t ψ,Zpt λs i=>h s (by simp[i])]
def ZDB(k)(x):Zpy (ZtO k) (ZpU k) (dC (k=6)) (dC (7<=k)) x=!W8 k x:=by
 have e:∀n:Nat,dC ((n:Int)=0)=!dC (0<(n:Int)):=λn=>by by_cases h:n=0<;>simp[h];omega
 unfold Zpy W8;rw[e,e,e];generalize dC (x.int=0)=a1;generalize dC (0<(I x.bytes:Int))=a2;generalize dC (0<(I x.hdrs:Int))=i;generalize dC (0<(I x.parts:Int))=t;generalize ZtO k=u;generalize ZpU k=c2;generalize dC (k=6)=c3;generalize dC (7<=k)=c4;revert a1 a2 i t u c2 c3 c4;decide
def ZCn{k x q n b h p}{R}(i:ZtO k=n)(t:ZpU k=b)(u:dC (k=6)=h)(h4:dC (7<=k)=p):Wi (Zc6 n b h p x q) R=if W8 k x then (q,6) else R:=by
 subst i;subst t;subst u;subst h4;unfold Wi Zc6;rw[ZDB];cases W8 k x<;>rfl
def Zzi(a b c):Wi (Wi a b) c=Wi a (Wi b c):=by
 unfold Wi;by_cases h:a.2=0<;>simp[h]
def ZCm(a b c):Wi a (Wi b (Wi a c))=Wi a (Wi b c):=by
 unfold Wi;by_cases h:a.2=0<;>simp[h]
def ZoM(mis)(d)(of)(x)(q):ZtV mis d of x q=Wi (Zc6 false false false true x q) (JI mis d of x q):=by
 unfold ZtV JI
 congr 1
 by_cases h:I x.parts=1;rw[if_pos h,KL (by simp[h])];rw[if_neg h,Kq (by simp;omega),if_neg (by simp;omega)]
def Zsj(b3 b4 b5 b6 b7:Nat):List (Int×D):=[
 (1,.fn (.func 136) [] [.ptr b7 0,.ptr b5 0,.ptr b4 0,.ptr b6 0]),
 (3,.fn (.func 136) [] [.ptr b7 0,.ptr b5 0,.ptr b4 0,.ptr b6 0]),
 (4,.fn (.func 137) [] [.ptr b7 0,.ptr b5 0,.ptr b3 0,.ptr b4 0,.ptr b6 0]),
 (5,.fn (.func 140) [] [.ptr b7 0,.ptr b5 0,.ptr b4 0,.ptr b6 0]),
 (6,.fn (.func 142) [] [.ptr b7 0,.ptr b5 0,.ptr b6 0,.ptr b4 0]),
 (7,.fn (.func 143) [] [.ptr b7 0,.ptr b5 0,.ptr b3 0,.ptr b4 0,.ptr b6 0]),
 (8,.fn (.func 145) [] [.ptr b3 0,.ptr b4 0,.ptr b5 0,.ptr b6 0,.ptr b7 0]),
 (9,.fn (.func 147) [] [.ptr b7 0,.ptr b4 0,.ptr b3 0,.ptr b6 0,.ptr b5 0]),
 (12,.fn (.func 148) [] [.ptr b3 0,.ptr b4 0,.ptr b5 0,.ptr b6 0,.ptr b7 0])]
structure Zh6(f:Fld)(l nv:List (Str×Int)):Prop where
 size:f.kind=4\/f.kind=7\/f.kind=12->ZU f.size=true/\∀t∈f.size.terms,∃v,Zr t.field l=some v/\0<=v/\v<34359738368/\Kj t.field nv=v
 tag:f.kind=9->(Zr f.tag l).getD 0=Kj f.tag nv
 low:f.kind=5->0<=f.low/\f.low<=255
def Zh6.eval{f l nv}(h:Zh6 f l nv)(hk:f.kind=4\/f.kind=7\/f.kind=12):ZaC f.size l=Zbh f.size nv:=by
 unfold ZaC Zbh
 congr 1
 refine Zpt λt ht=>?_;obtain⟨v,i,_,_,u⟩:=(h.size hk).2 t ht;rw[i,u];rfl
def Zh6.sz{f l nv}(h:Zh6 f l nv)(i:f.kind=4\/f.kind=7\/f.kind=12):ZU f.size=true/\∀t∈f.size.terms,∃v,Zr t.field l=sO v/\0<=v/\v<34359738368 :=
 ⟨(h.size i).1,λt ht=>by obtain⟨v,u,h2,h3,_⟩:=(h.size i).2 t ht;exact⟨v,u,h2,h3⟩⟩
section
variable {st:St} {b3 b4 b5 b6 b7 bm:Nat} {d:Dfn} {m:Msg} {pth:Str} {l nv:List (Str × Int)} {f:Fld} {x:Val} {q:Str}
def ZBY(hI:Qm)(hs:Zck st b3 b4 b5 b6 b7 bm d m pth l f x q)(hfr:Zh4 d f)(hv:YU f=true)(hx:VOk x)(hq:q≠[]/\I q<=1000000)(hn:Zh6 f l nv)(mis len)(hmis:∀s,0<=Zy d s (I d.msgs)->∀i,i<I x.parts->Za ZH1 54 [.agg d.cells,.agg (Zj d s).cells,.agg (x.parts.getD i dE).cells,.str (ZR q (Yx x.parts i))] st (ZH (ZeD mis d s x q i) st))(hlen:f.kind=12->(JI mis d f.of x q).2=0->I x.parts=1/\Zf ZH1 19 [.agg d.cells,.agg (Zj d f.of).cells,.agg (x.parts.getD 0 dE).cells] (.i (len (Zj d f.of) (x.parts.getD 0 dE)))):
  ∃fn,Zr f.kind (Zsj b3 b4 b5 b6 b7)=sO fn/\WP ZH1 fn [] st (ZH (if W8 f.kind x then (q,6) else KW mis len d f x q nv) st):=by
 have hk:f.kind=1\/f.kind=3\/f.kind=4\/f.kind=5\/f.kind=6\/f.kind=7\/f.kind=8\/f.kind=9\/f.kind=12:=by have:=hfr.kind;unfold YU at hv;simp only[ZIb,Bool.not_eq_true',decide_eq_false_iff_not]at hv;omega
 have u:∀of,0<=Zy d of (I d.msgs)->Za ZH1 146 [.agg (WV m d pth bm),.str of,.agg x.cells,.str q,.fn (.func 135) [] [.ptr b5 0,.ptr b6 0]] st (ZH (ZtV mis d of x q) st):=λof ho =>
  Zug hI of ho hx hq (Qk hs false false false true) mis λh1=>hmis of ho 0 ω
 have hP:=KW.eq_1 mis len d f x q nv;generalize KW mis len d f x q nv=R at *;have t:∀{Q:Str×Int} {n b h p:Bool},ZtO f.kind=n->ZpU f.kind=b->dC (f.kind=6)=h->dC (7<=f.kind)=p->R=Q->(if W8 f.kind x then (q,6) else R)=Wi (Zc6 n b h p x q) Q:=λh1 h2 h3 h4 h5=>by rw[ZCn h1 h2 h3 h4,h5]
 have num:f.kind=1\/f.kind=3->(if W8 f.kind x then (q,6) else R)=Wi (Zc6 true false false false x q) (q,if dC (f.low<=x.int)&&dC (x.int<=f.high) then 0 else 3):=λh=>by refine t (by rcases h with h|h<;>rw[h]<;>rfl) (by rcases h with h|h<;>rw[h]<;>rfl) (by rcases h with h|h<;>rw[h]<;>rfl) (by rcases h with h|h<;>rw[h]<;>rfl) ?_;rw[hP,if_pos h];by_cases h1:x.int<f.low\/f.high<x.int;rw[if_pos h1,if_neg (by simp;omega)];rw[if_neg h1,if_pos (by simp;omega)]
 rcases hk with h|h|h|h|h|h|h|h|h;refine⟨_,by rw[h];rfl,?_⟩;rw[num ω];exact Za.V (first:=[]) (args:=[]) (caps:=[_,_,_,_]) (Zgs hs);refine⟨_,by rw[h];rfl,?_⟩;rw[num ω];exact Za.V (first:=[]) (args:=[]) (caps:=[_,_,_,_]) (Zgs hs);refine⟨_,by rw[h];rfl,?_⟩;obtain⟨h1,h2⟩:=hn.sz ω;rw[t (Q:=(q,WC (I x.bytes) (ZaC f.size l))) (by rw[h]<;>rfl) (by rw[h]<;>rfl) (by rw[h]<;>rfl) (by rw[h]<;>rfl) (by rw[hP,if_neg ω,if_pos h,hn.eval ω])];exact Za.V (first:=[]) (args:=[]) (caps:=[_,_,_,_,_]) (Zpe hs h1 h2);refine⟨_,by rw[h];rfl,?_⟩;rw[t (by rw[h]<;>rfl) (by rw[h]<;>rfl) (by rw[h]<;>rfl) (by rw[h]<;>rfl) (Q:=Wi (q,if dC ((I x.bytes:Int)<=f.high) then 0 else 5) (q,if !x.bytes.any (λc=>dC (f.low=c.toNat)) then 0 else 6)) (by
  rw[hP,if_neg ω,if_neg ω,if_pos h];rw[show(λc:UInt8=>dC ((c.toNat:Int)=f.low))=λc=>dC (f.low=c.toNat) from funext λc=>by rw[decide_eq_decide];exact eq_comm];by_cases h1:f.high<I x.bytes;rw[if_pos h1,Kq (by simp;omega),if_neg (by simp;omega)];rw[if_neg h1,KL (by simp;omega)];cases x.bytes.any λc=>dC (f.low=c.toNat)<;>rfl)]
 exact Za.V (first:=[]) (args:=[]) (caps:=[_,_,_,_]) (Zpf hs (hn.low h))
 .refine⟨_,by rw[h];rfl,?_⟩;rw[t (by rw[h]<;>rfl) (by rw[h]<;>rfl) (by rw[h]<;>rfl) (by rw[h]<;>rfl) (Q:=Wi (q,if KJ x.hdrs then 0 else 6) (q,if dC (((Qt x.hdrs).length:Int)<=f.high) then 0 else 5)) (by
   rw[hP,if_neg ω,if_neg ω,if_neg ω,if_pos h];cases KJ x.hdrs with
   |false=>rfl
   |true =>
    rw[if_neg ψ,KL ψ];by_cases h1:f.high<(Qt x.hdrs).length;rw[if_pos h1,if_neg (by simp;omega)];rw[if_neg h1,if_pos (by simp;omega)])]
  exact Za.V (first:=[]) (args:=[]) (caps:=[_,_,_,_]) (Zpg hs hx.node.2.2.2)
 refine⟨_,by rw[h];rfl,?_⟩;obtain⟨h1,h2⟩:=hn.sz ω;have ho:=hfr.ref ω;rw[t (by rw[h]<;>rfl) (by rw[h]<;>rfl) (by rw[h]<;>rfl) (by rw[h]<;>rfl) (Q:=Wi (q,WC (I x.parts) (ZaC f.size l)) ((WI (ZeD mis d f.of x q) (ZIf (I x.parts))).getD (q,0))) (by
  rw[hP,if_neg ω,if_neg ω,if_neg ω,if_neg ω,if_pos h,hn.eval ω];rfl)]
 exact Za.V (first:=[]) (args:=[]) (caps:=[_,_,_,_,_]) (Zph hI hs hx hq h1 h2 ho mis λi hi=>hmis _ ho i hi);refine⟨_,by rw[h];rfl,?_⟩;rw[t (n:=false) (b:=false) (h:=false) (p:=true) (by rw[h]<;>rfl) (by rw[h]<;>rfl) (by rw[h]<;>rfl) (by rw[h]<;>rfl) (Q:=JI mis d f.of x q) (by
  rw[hP,if_neg ω,if_neg ω,if_neg ω,if_neg ω,if_neg ω,if_pos h]),<-ZoM]
 exact Za.V (first:=[]) (args:=[]) (caps:=[_,_,_,_,_]) (Zpi hs (u _ (hfr.ref ω)));refine⟨_,by rw[h];rfl,?_⟩;have ab:=Wc (λc:YB=>dC (c.low<=Kj f.tag nv)&&dC (Kj f.tag nv<=c.high)) f.cases;rw[show Zi (λc:YB=>dC (c.low<=Kj f.tag nv)&&dC (Kj f.tag nv<=c.high)) f.cases=K8 f (Kj f.tag nv) from rfl]at ab;rw[t (n:=false) (b:=false) (h:=false) (p:=true) (by rw[h]<;>rfl) (by rw[h]<;>rfl) (by rw[h]<;>rfl) (by rw[h]<;>rfl) (Q:=Wi (q,if dC (0<=K8 f (Kj f.tag nv)) then 0 else 9) (JI mis d (f.cases.getD (K8 f (Kj f.tag nv)).toNat dE).of x q)) (by
  rw[hP,if_neg ω,if_neg ω,if_neg ω,if_neg ω,if_neg ω,if_neg ω,if_pos h];by_cases h1:K8 f (Kj f.tag nv)<0;rw[if_pos h1,Kq (by simp;omega),if_neg (by simp;omega)];rw[if_neg h1,KL (by simp;omega)]),<-ZCm,<-ZoM]
 exact Za.V (first:=[]) (args:=[]) (caps:=[_,_,_,_,_]) (Zpj hs (hn.tag h) λh0=>u _ (hfr.cas h _ (Zu ω)));refine⟨_,by rw[h];rfl,?_⟩;obtain⟨h1,h2⟩:=hn.sz ω;have ho:=hfr.ref ω;rw[t (n:=false) (b:=false) (h:=false) (p:=true) (by rw[h]<;>rfl) (by rw[h]<;>rfl) (by rw[h]<;>rfl) (by rw[h]<;>rfl) (Q:=Wi (JI mis d f.of x q) (q,WC (len (Zj d f.of) (x.parts.getD 0 dE)) (ZaC f.size l))) (by
  rw[hP,if_neg ω,if_neg ω,if_neg ω,if_neg ω,if_neg ω,if_neg ω,if_neg ω,if_pos h,hn.eval ω];rfl),<-Zzi,<-ZoM]
 refine Za.V (first:=[]) (args:=[]) (caps:=[_,_,_,_,_]) (Zpk hs h1 h2 ho (u _ ho) λh0=>hlen h ?_);rw[ZoM]at h0;unfold Wi at h0;split at h0;exact h0;rename_i ac;exact absurd h0 ac
end
def ex3{st:St}{a b c p q r}(ha:st a=nO)(i:(st.upd a p) b=nO)(t:((st.upd a p).upd b q) c=nO):
  (((st.upd a p).upd b q).upd c r) a=sO p/\(((st.upd a p).upd b q).upd c r) b=sO q/\(((st.upd a p).upd b q).upd c r) c=sO r/\st.sub (((st.upd a p).upd b q).upd c r):=by
 have k1:=Zm i;have u:=Zm t;have k3:=Zm u.2;refine⟨by rw[ZH8 _ _ (Ne.symm k3.1),ZH8 _ _ (Ne.symm k1.1),ZH5],by rw[ZH8 _ _ (Ne.symm u.1),ZH5],ZH5 _ _ _,ZIK (ZIK (ZIr _ ha) (ZIr _ i)) (ZIr _ t)⟩
def Zck.mono{st A b3 b4 b5 b6 b7 bm d m pth l f x q}(h:Zck st b3 b4 b5 b6 b7 bm d m pth l f x q)(i:st.sub A):Zck A b3 b4 b5 b6 b7 bm d m pth l f x q :=
 ⟨i _ _ h.p,i _ _ h.f,i _ _ h.x,i _ _ h.q,i _ _ h.u,i _ _ h.m⟩
section
variable {st:St} {bm:Nat} {d:Dfn} {m:Msg} {pth:Str} {l nv:List (Str × Int)} {f:Fld} {x:Val}
def Zr2(hI:Qm)(hm:st bm=sO (.map (WZ l)))(hnm:f.name≠[]/\I f.name<=1000)(hp:I pth<=900000)(hfr:Zh4 d f)(hv:YU f=true)(hx:VOk x)(hn:Zh6 f l nv)(mis len)(hmis:∀S s,0<=Zy d s (I d.msgs)->∀i,i<I x.parts->Za ZH1 54 [.agg d.cells,.agg (Zj d s).cells,.agg (x.parts.getD i dE).cells,.str (ZR (ZR pth f.name) (Yx x.parts i))] S (ZH (ZeD mis d s x (ZR pth f.name) i) S))(hlen:f.kind=12->(JI mis d f.of x (ZR pth f.name)).2=0->I x.parts=1/\Zf ZH1 19 [.agg d.cells,.agg (Zj d f.of).cells,.agg (x.parts.getD 0 dE).cells] (.i (len (Zj d f.of) (x.parts.getD 0 dE)))):
  Za ZH1 97 [.agg (WV m d pth bm),.agg f.cells,.agg x.cells] st (ZH (if W8 f.kind x then (ZR pth f.name,6) else KW mis len d f x (ZR pth f.name) nv) st):=by
 refine Zb (cR 97 f97) λF hF=>?_;have hjl:=Zcb pth f.name;have ai:ZR pth f.name≠[]:=by unfold ZR;split;exact hnm.1;simp
 generalize hR:(if W8 f.kind x then (ZR pth f.name,6) else KW mis len d f x (ZR pth f.name) nv)=R at *;rw[ZIq];refine rx (nd2 @WV.eq_1 @eQ0) ?_;refine Zc ?_;refine xP 3 λb3 h3=>?_;refine xP 4 λb4 h4=>?_;refine xP 5 λb5 h5=>?_;obtain⟨g3,g4,g5,ac⟩:=ex3 (r:=.cells [.str x.name,.i x.int,Zo x.bytes,Ym x.hdrs,Z7 x.parts]) h3 h4 h5;generalize ((st.upd b3 _).upd b4 _).upd b5 _=S at *;have gm:=ac _ _ hm;refine rh ?_;refine Zlf ?_;simp only[Eqs,reduceCtorEq,ZH9,reduceIte,ZH6,ZIa,ZH7,Zln,Zpq,g3,g4];refine Zve rfl rfl rfl rfl φ (by rfl) (by decide) λbj ag=>Zlf ?_;simp only[Eqs,reduceCtorEq,ZH9,reduceIte,ZH6,ZIa,ZH7,Zln,Zpq];refine Zhi rfl rfl rfl rfl rfl φ φ (by exact(Zr1 (ZH5 _ _ _) hnm.1 ω ω)) ?_ ?_;rintro dd T ⟨hr,o,rfl⟩;cases hr;rw[ZIk];have hsj:=ZIr o ag;refine gR0 ?_;refine kl (S) [(3,.d (.ptr b3 0)),(4,.d (.ptr b4 0)),(5,.d (.ptr b5 0)),(6,.loc 6 0)] [(6,[.str (ZR pth f.name)])] Js ZbM ?_;refine Zc ?_;refine xP 6 λb6 h6=>?_;refine rg ?_;refine Zc ?_;refine xP 7 λb7 h7=>?_;have ab:=ZIr (.cells [.str (ZR pth f.name)]) h6;have t:=ZIr (.cells [.fn (.func 135) [] [.ptr b5 0,.ptr b6 0]]) h7;have k7:=Zm h7;have hs:Zck ((S.upd b6 (.cells [.str (ZR pth f.name)])).upd b7 (.cells [.fn (.func 135) [] [.ptr b5 0,.ptr b6 0]])) b3 b4 b5 b6 b7 bm d m pth l f x (ZR pth f.name) :=
  ⟨t _ _ (ab _ _ g3),t _ _ (ab _ _ g4),t _ _ (ab _ _ g5),t _ _ (ZH5 _ _ _),ZH5 _ _ _,t _ _ (ab _ _ gm)⟩
 have af:=ZIK ac (ZIK ab t);refine rg ?_;generalize ((S.upd b6 _).upd b7 _)=T at *;refine rh ?_;refine Zp ?_;simp only[Eqs,reduceCtorEq,ZH9,reduceIte,ZH6,ZIa,ZH7,JR,ZIJ,decide_false,ZH5,ZIk,Yp,Yq];intro b hb;have ad:=ZIr (.map (WD YR id (Zsj b3 b4 b5 b6 b7))) hb;have ae:=hs.mono ad;obtain⟨fn,ah,u⟩:=ZBY hI ae hfr hv hx ⟨ai,ω⟩ hn mis len (hmis _) hlen;rw[hR]at u;have e1:=Yz (vD:=id) Zdj f.kind (Zsj b3 b4 b5 b6 b7);have e3:=YH Zdj f.kind;simp only[show YR f.kind=D.i f.kind from rfl]at e1 e3;rw[ah]at e1;refine kl ((T.upd b (.map (WD YR id (Zsj b3 b4 b5 b6 b7))))) [(4,.d (.ptr b4 0)),(9,.d (.map b))] [] Js ZbM ?_;refine rx (nd2 @ae.f (nd2 @eQ0 (nd2 @ZH5 (nd2 @e1 (nd2 @e3 (nd2 @ZH5 (nd2 @ZIk (nd2 @Yp @Yq)))))))) ?_;rw[show id fn=fn from rfl];refine vV (u) ?_ ?_;refine mfK λh0=>?_;refine gR0 ?_;exact hF.fin (.tup []) st rfl trivial (ZH3 _) (ZIK af ad) (ZH.ok h0);exact mfP λh0=>hF.pan st (ZIK af ad) (ZH.bad h0 rfl);rintro dd T ⟨hr,_⟩;cases hr
end
def Zw0(d n m v p):Z4 d (n+1) m v p =
  Wi (p,if (((dC (v.name=m.name)&&dC (v.int=0))&&dC ((I v.bytes:Int)=0))&&dC ((I v.hdrs:Int)=0))&&WT (vfs m.fields) v.parts then 0 else 6) ((WI (Zek d n m v p) (ZIf (I v.parts))).getD ([],0)):=by
 rw[Zj8,show JN m v.parts=WT (vfs m.fields) v.parts from rfl];have e:∀n:Nat,dC ((n:Int)=0)=dC (n=0):=λn=>by simp
 rw[e,e];unfold Wi;generalize dC (v.name=m.name)=a1;generalize dC (v.int=0)=a2;generalize dC (I v.bytes=0)=i;generalize dC (I v.hdrs=0)=t;generalize WT (vfs m.fields) v.parts=u;cases a1<;>cases a2<;>cases i<;>cases t<;>cases u<;>rfl
def Zqq(d fu){m}(hm0:0<I m.fields)(hm:I m.fields<=1000)(v p st)(hpart:JN m v.parts=true->∀S b,S b=sO (.map (WZ (JB m v.parts)))->∀k,k<I v.parts->(∀j,j<k->(Zek d fu m v p j).2=0) ->
   Za ZH1 97 [.agg (WV m d p b),.agg ((vfs m.fields).getD k dE).cells,.agg (v.parts.getD k dE).cells] S (ZH (Zek d fu m v p k) S)):
  Za ZH1 54 [.agg d.cells,.agg m.cells,.agg v.cells,.str p] st (ZH (Z4 d (fu+1) m v p) st):=by
 refine Zb (cR 54 f54) λF hF=>?_;have al:=ZcY m hm0 ω;have ag:=ZhN (vfs m.fields) v.parts;have ah:=λhr=>Zd7 m hm0 hm v.parts hr st;have hvl:(vfs m.fields).length<=I m.fields:=List.length_filter_le ..;rw[Zw0,show JN m v.parts=WT (vfs m.fields) v.parts from rfl]at *;rw[ZIq];refine rx (nd2 @eQ2 @eQ3) ?_;refine rg ?_;refine clD (al) ?_;refine rx (nd2 @KH @Zj5) ?_;refine cG (ag) ?_;generalize hc:((((dC (v.name=m.name)&&dC (v.int=0))&&dC ((I v.bytes:Int)=0))&&dC ((I v.hdrs:Int)=0))&&WT (vfs m.fields) v.parts)=ac at *;have c9:=Ku ac p 6 (by decide) st;refine cV (c9) ?_ ?_
 .refine mfK λh0=>?_;rw[KL h0]at hF;have hr:WT (vfs m.fields) v.parts=true:=by
   cases ac with
   |false=>simp at h0
   |true=>simp only[ZIb]at hc;exact hc.2
  have ai:=hpart hr;have ab:(vfs m.fields).length=I v.parts:=by unfold WT at hr;rw[decide_eq_true_eq]at hr;simpa using congrArg List.length hr
  refine gR0 ?_;refine rg ?_;refine cV (ah ab) ?_ ?_;rintro dd S ⟨b,hb,hd,rfl⟩;cases hd;refine gR0 ?_;refine rx @Zdk ?_;have ad:=ZIr (.map (WZ (JB m v.parts))) hb;have af:=ZH5 st b (.map (WZ (JB m v.parts)));generalize st.upd b (.map (WZ (JB m v.parts)))=S at *;refine Zd (fr ((vfs m.fields).length) (λi Q=>i<=(vfs m.fields).length->(∀j,j<i->(Zek d fu m v p j).2=0)->Q [(6,.loc 6 0),(8,.loc 8 0),(54,.d (Zq (vfs m.fields))),(55,.d (.i (vfs m.fields).length)),(56,.d (.i i))] [(6,[.str v.name,.i v.int,Zo v.bytes,Ym v.hdrs,Z7 v.parts]),(8,WV m d p b)] S) (λn u=>?_) λam=>?_);intro i hn hi t;refine rg ?_;refine Zc (Zl rfl trivial (λg1=>?_) (λg1=>?_));simp at g1;have hp:=ai S b af i ω t;have ae:=Zq5 (g:=Zek d fu m v p) (show i<I v.parts by omega) t;have ak:=λh=>Yc (q:=λj=>(Zek d fu m v p j).2=0) t h;have aj:=QX (l:=v.parts) (i:=i) ω;generalize Zek d fu m v p i=R at *;rw[ZIq]at hp;generalize v.parts.getD i dE=y at *;generalize hf:(vfs m.fields).getD i dE=f at *;refine xA (nd2 @atF (nd2 @hf (nd2 @Zab @Zc1))) ?_;refine xA (nd2 @WV.eq_1 (nd2 @Zab (nd2 @Zc1 (nd2 @atV @aj)))) ?_;refine cV0 (hp) ?_ ?_;refine mfK λh2=>?_;refine gR0 ?_;refine gA ?_;refine Ze ?_;exact u (((vfs m.fields).length)-(i+1)) ω (i+1) rfl ω (ak h2);exact mfP λh2=>hF.pan st ad (ZH.bad h2 (by rw[ae h2];rfl));simp at g1;obtain rfl:i=(vfs m.fields).length:=ω;rw[ab]at t;rw[Zor t]at hF;refine ZO rfl ?_;exact hF.fin (.tup []) st rfl trivial (ZH3 _) ad (ZH.ok rfl);exact am _ 0 rfl ω (by intro j hj;omega);rintro dd S ⟨b,_,hd,_⟩;cases hd
 exact mfP λh0=>hF.pan st ZH2 (ZH.bad h0 (Kq h0))
def WQ.pos{d}(h:WQ d){j}(u:j<I d.msgs):0<(d.msgs.getD j dE).fields.length:=by
 have i:=h.flaw j u;unfold W7 at i;split at i;· simp at i
 split at i;· simp at i
 split at i;· simp at i
 rename_i t;simp only[ZIp,decide_eq_true_eq,not_or,Nat.not_lt]at t;omega
def Zbm.low{d j i m f}(h:Zbm d j i m f)(u:f.kind=5):0<=f.low/\f.low<=255:=by
 have t:=h.ks;unfold QU at t;simp only[u,ZIJ,if_true,if_false]at t;split at t;omega;rename_i hp;simp only[ZIp,decide_eq_true_eq]at hp;omega
def Zt6{d}(i:WQ d){n s y q}(t:VOk y)(h:(Z4 d n (Zj d s) y q).2=0):
  Zf ZH1 19 [.agg d.cells,.agg (Zj d s).cells,.agg y.cells] (.i (lenS d n (Zj d s) y)) :=
 ZcX d i.dok n _ y (i.dok.of s) t.ok t.wt (Zdf i.dref n _ y q (i.dref.of s) t.ok h)
def ZcW(hI:Qm){d}(hd:WQ d):∀(n im v p st),im<I d.msgs->VOk v->ZP v<=n->I p+10200*n<=900000 ->
  Za ZH1 54 [.agg d.cells,.agg (d.msgs.getD im dE).cells,.agg v.cells,.str p] st (ZH (Z4 d n (d.msgs.getD im dE) v p) st)
 |0,_,v,_,_,_,_,hh,_=>by have:=QA v;omega
 |n+1,im,v,p,st,him,hv,hh,hp=>by
  have u:=hd.msg him;have hm40:=u.many;refine Zqq d n (hd.pos him) ω v p st λhr S b hb k hk ai=>?_;have hlen:(vfs (d.msgs.getD im dE).fields).length=I v.parts:=by unfold JN at hr;rw[decide_eq_true_eq]at hr;simpa using congrArg List.length hr
  obtain⟨i,hi,aw,aq,ah⟩:=Jf (l:=(d.msgs.getD im dE).fields) (k:=k) ω;have ab:=u.at_ hi;have ao:=ab.fref (hd.fld him hi);have al:v.parts.getD k dE∈v.parts:=Zu hk;have ac:=hv.part al;have aj:=Zmr ab.nm;obtain⟨ak,au⟩:=Zo3 u.nmU hr hk;rw[au,ah]at ak;have hxh:ZP (v.parts.getD k dE)<=n:=by have h1:=ZgT al;have h2:=QA v;omega
  have hG:=Zek.eq_1 d n (d.msgs.getD im dE) v p k;rw[ak,ah]at hG;have af:=λa ha hn=>ZDe u (n:=n) (v:=v) (p:=p) hi aq ai (a:=a) ha hn;have ag:∀a,a<i->YE ((d.msgs.getD im dE).fields.getD a dE)=true->Kj ((d.msgs.getD im dE).fields.getD a dE).name (Zbd (d.msgs.getD im dE) v.parts)=Zac (d.msgs.getD im dE).fields v.parts a:=λa ha hn =>
   ZhT ω u.nmU hn λav=>by have:=ZlN ha hi av;omega
  have ae:∀a,a<i->YE ((d.msgs.getD im dE).fields.getD a dE)=true->Zr ((d.msgs.getD im dE).fields.getD a dE).name (JB (d.msgs.getD im dE) v.parts)=sO (Zac (d.msgs.getD im dE).fields v.parts a):=λa ha hn =>
   ZvE u.nmU v.parts ω hn
  have ar:Zh6 ((d.msgs.getD im dE).fields.getD i dE) (JB (d.msgs.getD im dE) v.parts) (Zbd (d.msgs.getD im dE) v.parts):=by refine⟨λhz=>?_,λh9=>?_,ab.low⟩;obtain⟨h1,h2⟩:=ab.size hi hz;refine⟨h1,λt ht=>?_⟩;obtain⟨a,ha,ad,hn⟩:=h2 t ht;exact⟨_,by rw[<-ad];exact ae a ha hn,(af a ha hn).1,(af a ha hn).2,by rw[<-ad];exact ag a ha hn⟩;obtain⟨a,ha,ad,hn⟩:=ab.tag hi h9;rw[<-ad,ae a ha hn,ag a ha hn];rfl
  have hq:=Zcb p ((d.msgs.getD im dE).fields.getD i dE).name;rw[ah,hG];generalize v.parts.getD k dE=x at *;refine Zr2 hI hb ⟨λe=>by rw[e]at aj;simp at aj,ω⟩ ω ao aw ac ar (Z4 d n) (lenS d n) (λT s hs j hj=>?_) (λh12 h0=>?_);have ap:=KZ hs;have am:x.parts.getD j dE∈x.parts:=Zu hj;have h1:=Zcb (ZR p ((d.msgs.getD im dE).fields.getD i dE).name) (Yx x.parts j);have h2:=Zgu ac.few ac.name hj;have h3:=ZgT am;have h4:=QA x;exact ZcW hI hd n (ixS d s) _ _ T ap.2 (ac.part am) ω ω;obtain⟨h1,h2⟩:=ZvV h0;exact⟨h1,Zt6 hd (ac.part (Zu ω)) h2⟩
def ZkS{z st}:J1 ZH1 53 [.ptr z 0] nO st λ_ S=>S=st:=by
 refine Zci (cR 53 f53) rfl ψ λF i=>?_;refine rg ?_;refine ZgE i rfl rfl ?_;refine gR0 ?_;refine rg ?_;refine cd (λh=>?_) (λh=>?_);simp at h;refine ZE ?_;exact i.fin ZH2 rfl
def ZkT{z st c}(hc:I c=2)(q no)(hn:inR .i64 no)(hq:I q<=big)(hz:st z=sO (.cells c)):
  J1 ZH1 53 [.ptr z 0] (sO (mfD q no)) st λb S=>b=true/\S=st.upd z (.cells [.str q,.i no]):=by
 obtain⟨t,u,rfl⟩:∃t u,c=[t,u]:=by
  match c,hc with
  | [t,u],_=>exact⟨t,u,rfl⟩
 refine Zci (cR 53 f53) rfl (by rintro d ⟨⟩;exact⟨hq,hn,trivial⟩) λF hF=>?_;refine rg ?_;refine ZnQ hF rfl rfl λF2 i=>?_;refine gR0 ?_;refine rx @mfD.eq_1 ?_;refine cd (λh=>?_) (λh=>?_);refine rx @mfD.eq_1 ?_;refine rg ?_;refine cd (λh5=>?_) (λh5=>?_);simp at h5;refine rx @hz ?_;exact i.fin ZH2 ⟨rfl,rfl⟩;simp[mfD]at h
def Zis(r:Str×Int):D:=.agg [.str (if r.2=0 then [] else r.1),.i r.2]
def Zdv(d:Dfn)(m:Msg)(v:Val)(R st)(hfit:∀S,Za ZH1 54 [.agg d.cells,.agg m.cells,.agg v.cells,.str []] S (ZH R S)):
  Za ZH1 24 [.agg d.cells,.agg m.cells,.agg v.cells] st λr S=>S=st/\r=.ret (Zis R):=by
 refine Zb (cR 24 f24) λF hF=>?_;rw[ZIq]at hfit⊢;have i:=Zis.eq_1 R;generalize Zis R=W at *;refine rx (nd2 @eQ2 @eQ3) ?_;refine Zc ?_;refine xP 6 λz hz=>?_;refine rg ?_;refine ZmQ (by obtain⟨_,_,_,_,_,_,rfl⟩:=hF;rfl) rfl rfl rfl rfl rfl rfl trivial trivial ?_ ?_ ?_;trivial;exact⟨rfl,trivial⟩;have t:=hF.defer 53 [] [.ptr z 0];clear hF;refine gR0 ?_;generalize F.defer 53 [] [.ptr z 0]=F at t⊢;refine rg ?_;refine cV (hfit _) ?_ ?_;refine mfK λh0=>?_;rw[if_pos h0,h0]at i;refine gR0 ?_;refine rx (nd2 @ZH5 @ZIk) ?_;refine t.retU ⟨trivial,⟨rfl,trivial⟩,ZbC ZkS ?_⟩;rintro b S3 rfl;rw[ite_self];have g3:=ZH5 st z (.cells [.str [],.i 0]);refine⟨_,[.agg [.str [],.i 0]],_,st,by simp only[Eqs,reduceCtorEq,ZH9,reduceIte,ZH6,ZIa,ZH7,Yw,Kf,g3];rfl,φ,ZH3 _,ZIr _ hz,rfl,by rw[i];rfl⟩;refine mfP λh0=>?_;rw[if_neg h0]at i;refine ZqR λhw=>?_;have u:=DWf.agg_inv (DWf.iface_inv hw);have h1:inR .i64 R.2:=(u _ ψ).int_inv;have h2:=(u (.str R.1) ψ).str_inv;refine t.panU ⟨trivial,⟨rfl,trivial⟩,ZbC (ZkT rfl R.1 R.2 h1 h2 (ZH5 _ _ _)) ?_⟩;rintro b S2 ⟨rfl,rfl⟩;have g3:=ZH5 (st.upd z (.cells [.str [],.i 0])) z (.cells [.str R.1,.i R.2]);refine⟨_,[.agg [.str R.1,.i R.2]],_,st,by simp only[Eqs,reduceCtorEq,ZH9,reduceIte,ZH6,ZIa,ZH7,Yw,Kf,g3];rfl,φ,ZH3 _,?_,rfl,by rw[i];rfl⟩;rw[ZIk];exact ZIr _ hz
def WX(d:Dfn)(s:Str)(v:Val):(Str×Int)×Int:=if Wo d&&KM v then (if Zy d s (I d.msgs)<0 then (([],0),9) else ((if (Z4 d 51 (Zj d s) v []).2=0 then [] else (Z4 d 51 (Zj d s) v []).1,(Z4 d 51 (Zj d s) v []).2),(Z4 d 51 (Zj d s) v []).2)) else (([],0),2)
def Zch{v}(h:KM v=true)(t:ZX v=true->wtN v<=5000/\ZP v<=51):VOk v/\ZP v<=51:=by
 have i:ZX v=true:=by unfold KM at h;simp only[ZIb]at h;simp_all
 exact⟨⟨i,(t i).1⟩,(t i).2⟩
def Zi7(hI:Qm)(d s v)(hs:ZX v=true->wtN v<=5000/\ZP v<=51):
  Zf ZH1 18 [.agg d.cells,.str s,.agg v.cells] (.tup [.agg [.str (WX d s v).1.1,.i (WX d s v).1.2],.i (WX d s v).2]):=by
 refine Zh (cR 18 f18) λF st i=>?_;have hA:=ZmI d s v;have u:=WX.eq_1 d s v;have hT:=atR.eq_1 d s v;generalize WX d s v=W at *;generalize atR d s v=X at *;cases ha:Wo d&&KM v with
 |false =>rw[ha,if_neg ψ]at u hT;subst u;subst hT;rw[ZIq]at *;refine rx @eQ2 ?_;refine rg ?_;refine cl (hA) ?_;refine rg ?_;refine i1 ?_;refine rg ?_;refine rt i ?_;rfl
 |true =>
  rw[ha,if_pos rfl]at u hT;by_cases hf:Zy d s (I d.msgs)<0;rw[if_pos hf]at u hT;subst u;subst hT;rw[ZIq]at *;refine rx @eQ2 ?_;refine rg ?_;refine cl (hA) ?_;refine rg ?_;refine i1 ?_;refine rg ?_;refine rt i ?_;rfl;rw[if_neg hf]at u hT;subst hT;simp only[ZIb]at ha;have t:=KZ (d:=d) (s:=s) ω;obtain⟨hv,hh⟩:=Zch ha.2 hs;have hF:Zf ZH1 24 [.agg d.cells,.agg (Zj d s).cells,.agg v.cells] (Zis (Z4 d 51 (Zj d s) v [])):=λst =>
   (Zdv d (Zj d s) v (Z4 d 51 (Zj d s) v []) st λS=>ZcW hI (Q9 ha.1) 51 (ixS d s) v [] S t.2 hv hh ψ).mono λr S ⟨h1,h2⟩=>⟨h2,h1⟩
  generalize Z4 d 51 (Zj d s) v []=R at *;unfold Zis at hF;generalize (if R.2=0 then [] else R.1)=q at *;subst u;generalize Zj d s=m at *;rw[ZIq]at *;refine rx @eQ2 ?_;refine rg ?_;refine cX @eQ3 (hA) ?_;refine rg ?_;refine iG ?_;refine cl (hF) ?_;refine rg ?_;refine rt i ?_;rfl
def Zlo{d s v}(h:(WX d s v).2=0):WQ d/\KM v=true/\0<=Zy d s (I d.msgs)/\(Z4 d 51 (Zj d s) v []).2=0:=by
 unfold WX at h;split at h;rename_i i;rw[ZIb]at i;split at h;simp at h;exact⟨Q9 i.1,i.2,ω,h⟩;simp at h
def ZiC(d:Dfn)(s:Str)(v:Val):Int:=if (WX d s v).2=0 then lenS d 51 (Zj d s) v else 0
def Zgq(hI:Qm)(d s v)(hs:ZX v=true->wtN v<=5000/\ZP v<=51):
  Zf ZH1 7 [.agg d.cells,.str s,.agg v.cells] (.tup [.i (ZiC d s v),.i (WX d s v).2]):=by
 refine Zh (cR 7 f7) λF st i=>?_;have hf:=Zi7 hI d s v hs;have hO:=Zlo (d:=d) (s:=s) (v:=v);have hL:=ZiC.eq_1 d s v;generalize WX d s v=W at *;generalize ZiC d s v=N at *;obtain⟨⟨q,c⟩,e⟩:=W;simp only at hf hO hL i;have ac:=We d s;have ad:=λh1 h2 h3=>Zt6 (d:=d) (n:=51) (s:=s) (y:=v) (q:=[]) h1 h2 h3;by_cases he:e=0;obtain⟨hd,hv,ab,hm⟩:=hO he;have u:=ad hd (Zch hv hs).1 hm;have t:=ac ab;rw[show d.msgs.getD (ixS d s) dE=Zj d s from rfl]at t;rw[if_pos he]at hL;rw[<-hL]at u;subst he;rw[ZIq]at *;refine rx @eQ2 ?_;refine rg ?_;refine cl (hf) ?_;refine rg ?_;refine iG ?_;refine clD (t) ?_;refine clD (u) ?_;refine rt i ?_;rfl;rw[if_neg he]at hL;subst hL;rw[ZIq]at *;refine rx @eQ2 ?_;refine rg ?_;refine cl (hf) ?_;refine rg ?_;refine Zl rfl trivial (λ_=>?_) (λh=>by simp at h;exact absurd h he);refine rg ?_;refine rt i ?_;rfl
def Zif(f:Fld)(nm:Str)(to:Int):Bool:=((dC (f.name=nm)&&YE f)&&dC (f.low<=to))&&dC (to<=f.high)
def JP(l:List Fld)(nm:Str)(to:Int)(P:List Val):List Val:=(ZIf P.length).map λj=>if Zif (l.getD j dE) nm to then (P.getD j dE).setI to else P.getD j dE
def ZfF{l nm to P}:(JP l nm to P).length=P.length:=by simp[JP]
def ZiO{l nm to P j}(h:j<P.length):(JP l nm to P).getD j dE=if Zif (l.getD j dE) nm to then (P.getD j dE).setI to else P.getD j dE:=by
 simp[JP,ZIg,h]
def Val.setPs(v:Val)(P:List Val):Val:=.mk v.name v.int v.bytes v.hdrs P
def MN.of{T S}{v}{c}{fp}{x cap}{row row'}{f}{X}(h:MN T v c fp x cap row f X){P}(t:P.length=I v.parts)(u:S x=sO (.cells (YA row' (I v.parts)++X)))(hk:∀j,j<I v.parts->MT S (P.getD j dE) (row' j) (f j)):MN S (v.setPs P) c fp x cap row' f X:=by
 have i:(v.setPs P).parts.length=I v.parts:=t;exact⟨by rw[i];exact h.c,by rw[i];exact u,by rw[i];exact h.le,by rw[i];exact hk,by rw[i];exact h.n,by rw[i];exact h.d,by rw[i];exact h.fp⟩
def ZfG(l nm to){T v c fp x cap row f X}(hM:MN T v c fp x cap row f X)(hl:I l=I v.parts)(hb:I v.parts<=1000000){z5 z6}(h5:T z5=sO (.cells c))(h6:T z6=sO (.cells [Zq l]))(hx:z5≠x/\z6≠x):
  Za ZH1 45 [.str nm,.i to,.ptr z6 0,.ptr z5 0] T λr S=>r=.ret (.tup [])/\(∃row',(∀j,j<I v.parts->row' j=row j\/row' j=Zt (row j) 1 [.i to])/\MN S (v.setPs (JP l nm to v.parts)) c fp x cap row' f X)/\∀y,y≠x->S y=T y:=by
 have aj:∀j,j<I v.parts->(row j).length=5:=λj hj=>(hM.kid j hj).len;have hc:=hM.c;refine Zan (cR 45 f45) λam F hF=>?_;clear am;refine rx (nd2 @h6 @Zdk) ?_;refine Zd (fr (I l) (λi Q=>∀row' A,A x=sO (.cells (YA row' (I v.parts)++X))->(∀j,j<I v.parts->row' j=if dC (j<i)&&Zif (l.getD j dE) nm to then Zt (row j) 1 [.i to] else row j)->(∀y,y≠x->A y=T y)->i<=I l->Q [(0,.d (.str nm)),(1,.d (.i to)),(3,.d (.ptr z5 0)),(8,.d (Zq l)),(9,.d (.i (I l))),(10,.d (.i i))] [] A) (λn ab=>?_) λao=>?_);intro i hn row' A hA t u hi;refine rg ?_;refine Zc (Zl rfl trivial (λhd=>?_) (λhd=>?_));simp only[decide_eq_true_eq]at hd;have hi':i<I l:=ω;have ag:∀j,j<I v.parts->(row' j).length=5:=λj hj=>by rw[t j hj];split;simp[Zt,aj j hj];exact aj j hj
 have al:=QL ag;have ac:=ZjU X 1 [.i to] ψ ag (show i<I v.parts by omega);have ae:=Zif.eq_1 (l.getD i dE) nm to;have ak:A z5=sO (.cells [.str v.name,.i v.int,Zo v.bytes,Ym v.hdrs,.msl x 0 (I v.parts) cap 5]):=by rw[u _ hx.1,h5,hc]
 unfold Zt at ac;generalize ai:l.getD i dE=fd at *;refine xA (nd2 @atF (nd2 @ai (nd2 @Zab @Zc1))) ?_;refine rx @eQ0 ?_;refine cG (ZbY fd) ?_;refine cd (λh3=>?_) (λh3=>?_);have ah:Zif fd nm to=true:=by rw[ae];exact h3
 refine rx (nd2 @ak @hA) ?_;refine⟨ω,ω,by rw[ZIc,al];omega,?_⟩;simp only[ZIi,List.length_nil,Nat.zero_add]at ac;rw[ac];refine gA ?_;refine Ze ?_;exact ab ((I l)-(i+1)) ω (i+1) rfl _ _ (ZH5 _ _ _) (λj hj=>by
  by_cases ad:j=i;subst ad;rw[if_pos rfl,t j hj,ai,ah];simp[Zt];simp only[if_neg ad,show dC (j<i+1)=dC (j<i) from decide_eq_decide.2 ω];exact t j hj) (λy hy=>by rw[ZH8 _ _ hy];exact u y hy) ω
 have ah:Zif fd nm to=false:=by rw[ae];exact h3
 refine gA ?_;refine Ze ?_;exact ab ((I l)-(i+1)) ω (i+1) rfl row' A hA (λj hj=>by
  rw[t j hj];by_cases ad:j=i;subst ad;rw[ai,ah];simp;simp only[show dC (j<i+1)=dC (j<i) from decide_eq_decide.2 ω]) u ω
 simp only[decide_eq_false_iff_not]at hd;obtain rfl:i=I l:=ω;refine ZO rfl ?_;refine hF.fin (.tup []) A rfl trivial (ZH3 _) ZH2 ⟨rfl,⟨row',λj hj=>by rw[t j hj];split;exact .inr rfl;exact .inl rfl,hM.of ZfF hA λj hj=>?_⟩,u⟩;rw[ZiO hj,t j hj];have af:=(hM.kid j hj).mono (T':=A) λy hy=>u y λe=>hM.n j hj (e▸hy);simp only[show dC (j<I l)=true from decide_eq_true ω,ZIt];split;exact af.setI to;exact af;exact ao _ 0 rfl row T hM.b (λj hj=>by simp) (λy hy=>rfl) ω
def Zpb(l nm to){T v c fp x cap row f X}(hM:MN T v c fp x cap row f X)(hl:I l=I v.parts)(hb:I v.parts<=1000000){z5 z6}(h5:T z5=sO (.cells c))(h6:T z6=sO (.cells [Zq l]))(hx:z5≠x/\z6≠x):
  Za ZH1 45 [.str nm,.i to,.ptr z6 0,.ptr z5 0] T λr S=>r=.ret (.tup [])/\(∃row',MN S (v.setPs (JP l nm to v.parts)) c fp x cap row' f X)/\∀y,y≠x->S y=T y :=
 (ZfG l nm to hM hl hb h5 h6 hx).mono λr S ⟨i,⟨row',_,t⟩,u⟩=>⟨i,⟨row',t⟩,u⟩
def Qr(l:List Fld)(s:Zbo)(n:Int)(P:List Val):List Val:=match s.terms with
 | [t]=>match ZfN t s.base n with
  |some to=>JP l t.field to P
  |none=>P
 |_=>P
def ZDN{L s}(l):qv L s .lenL [.d (Ye l)]=sO (True,.d (.i (I l))):=rfl
def ZDW{L s}(l i):qv L s (.iaddr 2) [.d (Ye l),.d (.i i)]=sO (0<=i/\i<I l,.d (.ep (l.getD i.toNat dE).cells 0)):=rfl
def Zag(v:Val):v.setPs v.parts=v:=by cases v;rfl
def ZcV(l s)(hs:ZU s=true)(n){T v c fp x cap row f X}(hM:MN T v c fp x cap row f X)(hl:I l=I v.parts)(hb:I v.parts<=1000000){z5 z6 z7}(h5:T z5=sO (.cells c))(h6:T z6=sO (.cells [Zq l]))(h7:T z7=sO (.cells [.fn (.func 45) [] [.ptr z6 0,.ptr z5 0]]))(hx:z5≠x/\z6≠x):
  Za ZH1 47 [.agg s.cells,.i n,.ptr z7 0] T λr S=>r=.ret (.tup [])/\(∃row',MN S (v.setPs (Qr l s n v.parts)) c fp x cap row' f X)/\∀y,y≠x->S y=T y:=by
 have i:Qr l s n v.parts=v.parts->∃row',MN T (v.setPs (Qr l s n v.parts)) c fp x cap row' f X:=λh=>⟨row,by rw[h,Zag];exact hM⟩;refine Zb (cR 47 f47) λF hF=>?_;refine rx @eQ4 ?_;refine rx @ZDN ?_;refine cd (λh1=>?_) (λh1=>?_);simp only[Bool.not_eq_true',decide_eq_false_iff_not]at h1;refine hF.ret (.tup []) T rfl trivial (ZH3 _) ZH2 ⟨rfl,i ?_,λ_ _=>rfl⟩;unfold Qr;split;rename_i h2;rw[h2]at h1;simp at h1;rfl;simp only[Bool.not_eq_false',decide_eq_true_eq]at h1;obtain⟨t,ht⟩:∃t,s.terms=[t]:=by
  match hst:s.terms,h1 with
  | [t],_=>exact⟨t,rfl⟩
  | [],h1=>simp at h1
  |_::_::_,h1=>simp at h1;omega
 have ac:s.terms.getD 0 dE=t:=by rw[ht];rfl
 have ab:I s.terms=1:=by rw[ht];rfl
 refine xA (nd2 @ZDW (nd2 @ac (nd2 @ab @Yb.cells.eq_1))) ?_;refine rx @eQ4 ?_;refine cV (Zr3 s hs t ht n T) ?_ ?_
 .rintro d S ⟨hd,hS⟩;obtain rfl:=hS.symm;cases hd;have hP:Qr l s n v.parts=match ZfN t s.base n with
   |some to=>JP l t.field to v.parts
   |none=>v.parts:=by unfold Qr;rw[ht]
  cases u:ZfN t s.base n with
  |none =>rw[u]at hP;rw[show Zuk nO=.tup [.i 0,.i 9] from rfl];refine gR0 ?_;refine gI ?_;refine ZE ?_;exact hF.fin (.tup []) T rfl trivial (ZH3 _) ZH2 ⟨rfl,i hP,λ_ _=>rfl⟩
  |some to =>rw[u]at hP;rw[show Zuk (sO to)=.tup [.i to,.i 0] from rfl];refine gR0 ?_;refine rg ?_;refine i1 ?_;refine rx @h7 ?_;refine vV ((Zpb l t.field to hM hl hb h5 h6 hx).V (first:=[]) (caps:=[_,_])) ?_ ?_;rintro d S ⟨hd,h8,h9⟩;cases hd;refine gR0 ?_;exact hF.fin (.tup []) S rfl trivial (ZH3 _) ZH2 ⟨rfl,by rw[hP];exact h8,h9⟩;rintro d S ⟨hd,_⟩;cases hd
 rintro d S ⟨hd,_⟩;cases hd
end Go.DL
