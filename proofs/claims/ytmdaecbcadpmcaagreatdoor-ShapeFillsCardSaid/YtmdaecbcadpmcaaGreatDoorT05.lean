/- Lemmas: V01, V02, W28, W29, W30, W31, W32, W33, W34, W35, W36, W37, X04, X05, X06, W38, W39, W40, W41, W42, W43, W44, W45, W46, W47, W48, W49, X07, X08, X09, X10, X11, X12, X13, X14, X15, X02, Y01, Y02, Y03, Y04, Y05, Y06, Y07. -/
import Derived.Test.YtmdaecbcadpmcaaGreatDoorT04
set_option maxHeartbeats 16000000
set_option maxRecDepth 100000
set_option linter.all false
open List renaming length->I
open Option renaming some -> sO, none -> nO
open Inhabited renaming default -> dE
open Decidable renaming decide -> dC
open Go.Proofs.Tryz
open And renaming intro -> ZHG
open Bool renaming and_eq_false_iff -> ZIl, and_eq_true -> ZHN, false_and -> ZH7, or_eq_true -> ZH0, true_and -> ZH3
open Go.DL.D.Le renaming refl -> ZHL
open Go.DL.St renaming sub_refl -> ZHH, sub_trans -> ZIn, sub_upd -> ZH6, upd -> ZIi, upd_ne -> ZHQ, upd_same -> ZHP, upd_upd -> ZH4
open Go.DL.Val renaming cells_eq -> ZHX
open Go.Proofs.Tryz renaming prog -> ZHF
open Int renaming reduceEq -> ZIp, reduceToNat -> ZHK
open List renaming append_assoc -> ZIg, append_nil -> ZH8, drop_eq_nil_of_le -> ZIo, getD -> ZHU, getElem?_append_left -> ZIc, getElem?_append_right -> ZIq, getElem?_eq_getElem -> ZIb, getElem?_eq_none -> ZIr, getElem?_take -> ZIm, getElem_of_mem -> ZH1, length_append -> ZHO, length_cons -> ZHW, length_drop -> ZIh, length_take -> ZHZ, mem_cons -> ZIj, range -> ZHT, take_length -> ZH2
open Nat renaming le_refl -> ZHV, reduceAdd -> ZHM, reduceEqDiff -> ZHI, reduceLeDiff -> ZHJ
open Option renaming getD_some -> ZIk
open Option.some renaming injEq -> ZHE
namespace Go.DL
open Go Go.Proofs
variable {kp:Option (List Nat)}{L:Loc}{H:Env}{s:St}{w:World}{os:List DOp}{ds:List D}{B:List (Nat × Rd)}{dst:Option Nat}{tmps:Array Value}{g:G}{Φ:Res->St->Prop}{Z:Nat->Nat}{xs:List Opd}{side:Prop}{row:Nat->List D}
def Zt0(f):Zc ZHF 120 [.agg f.cells] (.bool (Zbp f)):=by
 refine Zg (cR 120 f120) λF st i=>?_;have j:=Zbp.eq_1 f;refine rx @eQ0 ?_;refine rx @eQ0 ?_;refine rb i ?_;rw[j];unfold Zd1;cases f.little<;>cases dC (f.kind=1)<;>cases dC (f.kind=2)<;>cases dC (f.kind=10)<;>rfl
structure Zhm(f:Fld):Prop where
 num:f.kind=1\/f.kind=2->1<=f.bits/\f.bits<=32
 pad:f.kind=10->f.bits=2\/f.bits=4\/(8<=f.bits/\f.bits<=512/\f.bits.tmod 8=0)
def Zyy{d j i m f}(h:WX d j m i f=0):Zhm f:=by
 unfold WX at h;split at h;· omega
 split at h;· omega
 split at h;· omega
 split at h;· omega
 unfold K5 at h;refine⟨λhk=>?_,λhk=>?_⟩;have t:KA f=0:=by rcases hk with hk|hk<;>simp only[hk,ZIp,if_true,if_false]at h<;>exact h
 unfold KA at t;split at t;· omega
 rename_i n;simp only[Jy,ZH0,ZHN,Bool.not_eq_true',decide_eq_true_eq,decide_eq_false_iff_not,not_or]at n;omega;simp only[hk,ZIp,if_true,if_false]at h;split at h;· omega
 rename_i n;simp only[ZfJ,ZHN,ZH0,Bool.not_eq_true',decide_eq_true_eq,decide_eq_false_iff_not,not_and,not_or]at n;omega
def ZvY{o b}(h0:0<=o)(hb:0<b):upS o b=(o+b-1) / b*b:=by
 unfold upS;rw[Int.tdiv_eq_ediv_of_nonneg ω]
def ZAd{f}(i:Zhm f){o}(n:0<=o):0<=ZaA f o:=by
 unfold ZaA;split;rename_i h;have:=i.num h;exact Int.tmod_nonneg 8 ω;split;rename_i h;have j:0<f.bits:=by have:=i.pad h;omega
 rw[ZvY n j];exact Int.tmod_nonneg 8 (Int.mul_nonneg (Int.ediv_nonneg ω ω) ω);omega
def ZvD{l}(hl:∀f∈l,Zhm f):∀i,i<=I l->0<=YZ l i
 |0,_=>by simp[YZ]
 |i+1,h=>ZAd (hl _ (Zm ω)) (ZvD hl i ω)
def Zxu(x:Int):-8<x.tmod 8/\x.tmod 8<8:=⟨Int.lt_tmod_of_pos x (by decide),Int.tmod_lt_of_pos x (by decide)⟩
def ZDp{f}(i:f.kind=10)(n:f.bits.tmod 8=0)(o):ZaA f o=0:=by
 unfold ZaA;rw[if_neg ω,if_pos i];unfold upS;generalize ((o+f.bits)-1).tdiv f.bits=q;have j:=Int.mul_tdiv_add_tmod f.bits 8;rw[n,Int.add_zero]at j;rw[<-j,<-Int.mul_assoc,Int.mul_comm q 8,Int.mul_assoc];exact Int.mul_tmod_right 8 _
def ZuQ{f}(hf:Zhm f){o}(h0:0<=o)(h8:o<8):Zc ZHF 169 [.agg f.cells,.i o] (.i (ZaA f o)):=by
 refine Zg (cR 169 f169) λF st j=>?_;have hN:=ZaA.eq_1 f o;have ab:=hf.num;have ae:=hf.pad;refine rx @eQ0 ?_;refine rx @eQ0 ?_;by_cases h1:f.kind=1;have e1:=decide_eq_true h1;rw[if_pos (.inl h1)]at hN;have hb:=ab (.inl h1);refine rx @e1 ?_;refine i1 ?_;refine i1 ?_;have hr:=Zxu (o+f.bits);refine rx @eQ0 ?_;generalize (o+f.bits).tmod 8=r at *;refine aa ?_;refine ri j ?_;exact hN.symm;have e1:=decide_eq_false h1;refine rx @e1 ?_;refine i0 ?_;by_cases h2:f.kind=2;have e2:=decide_eq_true h2;rw[if_pos (.inr h2)]at hN;have hb:=ab (.inr h2);refine rx @e2 ?_;refine i1 ?_;have hr:=Zxu (o+f.bits);refine rx @eQ0 ?_;generalize (o+f.bits).tmod 8=r at *;refine aa ?_;refine ri j ?_;exact hN.symm;have e2:=decide_eq_false h2;rw[if_neg ω]at hN;refine rx @e2 ?_;refine i0 ?_;by_cases t:f.kind=10;have ac:=decide_eq_true t;have hp:=ae t;rw[if_pos t]at hN;refine rx @ac ?_;refine i1 ?_;by_cases hs:f.bits=2\/f.bits=4;have hu:upS o f.bits=(o+f.bits-1) / f.bits*f.bits:=ZvY h0 ω;have ak:∃u:Nat,upS o f.bits=u/\o<=u/\u<o+f.bits/\u<=16/\((u:Int) % f.bits=0):=by rw[hu];rcases hs with hs|hs<;>rw[hs];exact⟨((o+2-1) / 2*2).toNat,ω,ω,ω,ω,ω⟩;exact⟨((o+4-1) / 4*4).toNat,ω,ω,ω,ω,ω⟩
 obtain⟨u,am,hu3,ap,hu5,ao⟩:=ak;obtain⟨i0,ai⟩:∃i0:Nat,(i0:Int)=o:=⟨o.toNat,ω⟩;have ad:∀i:Nat,i0<=i->i<=u->(dC ((i:Int).tmod f.bits=0)=dC (i=u)):=λi ag af=>by rw[Int.tmod_eq_emod_of_nonneg ω,Bool.eq_iff_iff,decide_eq_true_eq,decide_eq_true_eq];rcases hs with hs|hs<;>rw[hs]at ap ao⊢<;>omega
 rw[<-ai];refine rx @eQ0 ?_;refine Zt rfl trivial (λ_=>?_) (λh=>by rcases hs with hs|hs<;>simp[hs]at h);refine Zd (Zb (Zee [1,2] ?_));simp only[Eqs,reduceCtorEq,ZHK,reduceIte,ZHI,ZHM,ZHJ];refine fr (u) (λi Q=>i0<=i->i<=u->Q [(1,.d (.i i)),(2,.loc 2 0)] [(2,f.cells)] st) (λn z=>?_) λaj=>?_;intro i hn ag af;have hm:=ad i ag af;have hb0:f.bits≠0:=ω;have hq:0<=(i:Int).tmod f.bits/\(i:Int).tmod f.bits<5:=by rw[Int.tmod_eq_emod_of_nonneg ω];rcases hs with hs|hs<;>rw[hs]<;>omega
 refine rx (nd2 @eQ0 @hm) ?_;generalize (i:Int).tmod f.bits=tm at *;refine aa ?_;refine cd (λhc=>?_) (λhc=>?_);have ah:i≠u:=by simpa using hc
 refine gA ?_;refine Zf (Za ?_);exact z ((u)-(i+1)) ω (i+1) rfl ω ω;have ah:i=u:=by simpa using hc
 subst ah;have hr:=Zxu (i:Int);rw[am]at hN;refine rg ?_;generalize (i:Int).tmod 8=r at *;refine aa ?_;refine ri j ?_;exact hN.symm;exact aj _ i0 rfl (ZHV _) ω;have al:f.bits.tmod 8=0:=ω;have hz:=ZDp t al o;refine rx @eQ0 ?_;refine Zt rfl trivial (λh=>by simp at h;omega) (λ_=>?_);refine rg ?_;refine ri j ?_;exact hz.symm;have ac:=decide_eq_false t;rw[if_neg t]at hN;refine rx @ac ?_;refine iG ?_;refine ri j ?_;exact hN.symm
def Zoc(l:List Int):D:=slD 1 (λx:Int=>[.i x]) l
def Ze7(l:List Fld):List Int:=(ZHT (I l)).map (YZ l)
def ZpY{m:Msg}(hm:I m.fields<=1000)(hb:∀f∈m.fields,Zhm f):Zc ZHF 119 [.agg m.cells] (.tup [Zoc (Ze7 m.fields),.i (YZ m.fields (I m.fields))]):=by
 refine Zg (cR 119 f119) λF st ac=>?_;refine rx @eQ3 ?_;refine gG ?_;refine rg ?_;refine kl (st) [(1,.loc 1 0),(4,.d (.sl .full 0 1 λ_=>[])),(5,.d (.i (YZ m.fields 0))),(6,.d (.i (0:Nat)))] [(1,[.str m.name,Zk m.fields])] (.skip (.cons (.d (Y3 λb h=>by cases h)) (.skip (.skip .nil)))) WE ?_;refine Zb (fr (I m.fields) (λi Q=>∀tk row j,tk.okIn st->ZQ (λx:Int=>[.i x]) row j->j=(ZHT i).map (YZ m.fields)->i<=I m.fields->Q [(1,.loc 1 0),(4,.d (.sl tk (I j) 1 row)),(5,.d (.i (YZ m.fields i))),(6,.d (.i i))] [(1,[.str m.name,Zk m.fields])] (st.own tk (I j*1))) (λn z=>?_) λah=>?_);intro i hn tk row j ai ab t hi;have hol:I j=i:=by rw[t];simp
 refine rx @Jw ?_;refine cd (λhd=>?_) (λhd=>?_);have ad:i<I m.fields:=by simp at hd;omega
 have aj:=hb _ (Zm ad);have ag:=ZvD hb i ω;have af:=(ZpP m.fields i).2;have ae:YZ m.fields (i+1)=ZaA (m.fields.getD i dE) (YZ m.fields i):=rfl;generalize hf:m.fields.getD i dE=f at *;refine rg ?_;refine K3 (st) (tk) rfl rfl rfl rfl rfl rfl φ φ rfl (by first|trivial|assumption) ω (by (unfold big;omega)) λt1 al=>Zn ?_;simp only[Eqs,reduceCtorEq,ZHK,reduceIte,ZHI,ZHM,ZHJ];refine xA (nd2 @atF (nd2 @hf (nd2 @Ql @J2))) ?_;refine cl (ZuQ aj ag af) ?_;rw[<-ae];refine gA ?_;have u:=z (I m.fields-(i+1)) ω (i+1) rfl t1 _ (j++[YZ m.fields i]) al (ab.snoc (x:=YZ m.fields i) (row2:=ZY [.i 0] ([0].zip [.i (YZ m.fields i)])) rfl rfl) (by rw[t,List.range_succ];simp) ω;rw[ZHO]at u;refine Za ?_;exact u;have ad:i=I m.fields:=by simp at hd;omega
 subst ad;refine rg ?_;have ak:Ze7 m.fields=j:=t.symm;rw[ak]at ac;exact ac rfl ψ (Zk7 rfl (LeC.two (ab.le rfl) (ZHL _))) (YH ai);exact ah _ 0 rfl .full _ [] trivial ZQ.nil rfl ω
def ZyE(l):(Ze7 l).length=I l:=by simp[Ze7]
def Zq4{l i}(h:i<I l):(Ze7 l).getD i 0=YZ l i:=by simp[Ze7,ZHU,h]
def atI{L s}(l i):qv L s (.iaddr 1) [.d (Zoc l),.d (.i i)]=sO (0<=i/\i<I l,.d (.ep [.i (l.getD i.toNat 0)] 0)):=rfl
def ZAK{d a m}(hm:ZbA d a m){i}(hi:i<I m.fields):
  KG m.fields i=(Zbp (m.fields.getD i dE)&&!dC (YZ m.fields i=0) ||(dC ((m.fields.getD i dE).kind=11)&&!dC (YZ m.fields (Yb m (m.fields.getD i dE).from_ i).toNat=0))) /\
   ((m.fields.getD i dE).kind=11->0<=Yb m (m.fields.getD i dE).from_ i):=by
 have n:=(Zz4 (hm.field i hi)).1;generalize u:m.fields.getD i dE=f at *;have j:f.kind=11->0<=Yb m f.from_ i:=λh=>by
  unfold K5 at n;simp only[h,ZIp,if_true,if_false]at n;split at n;· omega
  split at n;· omega
  omega
 refine⟨?_,j⟩;unfold KG;rw[if_neg ω,u];by_cases h:f.kind=11;have h1:=ZnW (j h);have t:max (Zi (λx=>dC (x.name=f.from_)) m.fields) 0=Yb m f.from_ i:=by
  have e:Zi (λx=>dC (x.name=f.from_)) m.fields=Yb m f.from_ (I m.fields):=by unfold Yb;rw[ZH2]
  rw[e,h1.1];have:=j h;omega
 rw[t];simp only[h,decide_true,Bool.not_true,Bool.false_or,ZH3];generalize dC (YZ m.fields (Yb m f.from_ i).toNat=0)=x;generalize dC (YZ m.fields i=0)=y;generalize Zbp f=z;cases x<;>cases y<;>cases z<;>rfl;simp only[h,decide_false,Bool.not_false,Bool.true_or,Bool.not_true,Bool.or_false,ZH7];generalize dC (YZ m.fields i=0)=y;generalize Zbp f=z;cases y<;>cases z<;>rfl
def ZtZ(d st):Ze ZHF 65 [.agg d.cells] st λr S=>S=st/\∃a f c,r=.ret (.tup [.agg [.i a,.i f,.i c],.bool (!Wp d)]):=by
 refine Zh (cR 65 f65) λF hF=>?_;have u:=Wp.eq_1 d;obtain⟨fa,ff,fc,aq⟩:∃a f c,ZAM (ZbV d)=[.i a,.i f,.i c]:=by
  cases ZbV d with
  |none=>exact⟨_,_,_,rfl⟩
  |some x=>exact⟨_,_,_,rfl⟩
 have ai:Zb7 d=!(ZbV d).isSome:=by unfold Zb7;cases ZbV d<;>rfl
 refine rx @eQ2 ?_;refine rx @eQ2 ?_;refine cX (nd2 @ZAN.eq_1 @aq) (ZtR d) ?_;refine rg ?_;refine cd (λh=>?_) (λh=>?_);have hA:Wp d=false:=by rw[u,ai,h];rfl
 refine rg ?_;exact hF.ret _ st rfl ψ (ZHL _) ZHH ⟨rfl,_,_,_,by rw[hA];rfl⟩;have hv:Zb7 d=true:=by rw[ai,h];rfl
 have hV:=ZkS hv;have hmany:=hV.many;rw[hv,ZH3]at u;refine rg ?_;refine Zb (fr (I d.msgs) (λk Q=>k<=I d.msgs->(∀q,q<k->Za2 (d.msgs.getD q dE)=true)->Q [(1,.loc 1 0),(2,.loc 2 0),(6,.d (.i k))] [(1,[.str d.name,Yy d.msgs,.str d.start]),(2,[.i 0,.i 0,.i 0])] st) (λn ab=>?_) λaw=>?_);intro k hn hk ad;refine rx @Zc4 ?_;refine cd (λh1=>?_) (λh1=>?_);have z:k<I d.msgs:=by simp at h1;omega
 have ag:=hV.msg z;have hmf:=ag.many;have ak:d.msgs.getD k dE∈d.msgs:=Zm z;have a3:∀f∈(d.msgs.getD k dE).fields,Zhm f:=λf hf=>by obtain⟨i,hi,rfl⟩:=ZfH hf;exact Zyy (ag.field i hi)
 have ae:Za2 (d.msgs.getD k dE)=false->Wp d=false:=λh=>by rw[u,List.all_eq_false];exact⟨_,ak,by rw[h];simp⟩
 generalize hm:d.msgs.getD k dE=m at *;refine xA (nd2 @atM (nd2 @hm @eQ3)) ?_;refine rx @eQ3 ?_;have c9:=ZpY (m:=m) ω a3;refine cl (c9) ?_;refine rg ?_;refine Zb (fr (I m.fields) (λi Q=>i<=I m.fields->(∀q,q<i->KG m.fields q=false)->Q [(1,.loc 1 0),(2,.loc 2 0),(6,.d (.i k)),(7,.loc 7 0),(8,.d (Zoc (Ze7 m.fields))),(9,.d (.i (YZ m.fields (I m.fields)))),(10,.d (.i i))] [(1,[.str d.name,Yy d.msgs,.str d.start]),(2,[.i 0,.i 0,.i 0]),(7,[.str m.name,Zk m.fields])] st) (λn j=>?_) λao=>?_);intro i hn2 hi ah;refine rx @Jw ?_;refine cd (λh2=>?_) (λh2=>?_);have ac:i<I m.fields:=by simp at h2;omega
 obtain⟨hw,af⟩:=ZAK ag ac;have ap:=ZyE m.fields;have ax:=Zq4 ac;generalize hf:m.fields.getD i dE=f at *;refine jU [0,1,2,1,0,1,0,1] (λQ=>∀w:Bool,KG m.fields i=w->Q F [(1,.loc 1 0),(2,.loc 2 0),(6,.d (.i k)),(7,.loc 7 0),(8,.d (Zoc (Ze7 m.fields))),(9,.d (.i (YZ m.fields (I m.fields)))),(10,.d (.i i)),(11,.d (.bool w))] [(1,[.str d.name,Yy d.msgs,.str d.start]),(2,[.i 0,.i 0,.i 0]),(7,[.str m.name,Zk m.fields])] st) ?_ λfin=>?_;intro w am;refine rg ?_;refine cd (λh5=>?_) (λh5=>?_);have hA:=ae (Zg3 (i:=i) ω (by rw[am];exact h5));refine rg ?_;exact hF.ret _ st rfl ψ (ZHL _) ZHH ⟨rfl,_,_,_,by rw[hA];rfl⟩;refine gA ?_;refine Za ?_;exact j ((I m.fields)-(i+1)) ω (i+1) rfl ω (ZZ (q:=λq=>KG m.fields q=false) ah (by rw[am];exact h5));refine jU [0,1,2,1,0,1,1] (λQ=>∀w1:Bool,w1=(Zbp f&&!dC (YZ m.fields i=0))->Q F [(1,.loc 1 0),(2,.loc 2 0),(6,.d (.i k)),(7,.loc 7 0),(8,.d (Zoc (Ze7 m.fields))),(9,.d (.i (YZ m.fields (I m.fields)))),(10,.d (.i i)),(11,.d (.bool w1))] [(1,[.str d.name,Yy d.msgs,.str d.start]),(2,[.i 0,.i 0,.i 0]),(7,[.str m.name,Zk m.fields])] st) ?_ λay=>?_;intro w1 av;rw[<-av]at hw;refine xA (nd2 @atF (nd2 @hf @eQ0)) ?_;by_cases t:f.kind=11;have af:=af t;have a0:=ZnW af;obtain⟨p,hp⟩:∃p:Nat,Yb m f.from_ i=p:=⟨(Yb m f.from_ i).toNat,ω⟩;rw[hp,Int.toNat_natCast,t]at hw;rw[hp]at a0;have az:=Zq4 (l:=m.fields) (i:=p) ω;refine Zt rfl trivial (λ_=>?_) (λh=>by simp[t]at h);refine xA (nd2 @atF (nd2 @hf (nd2 @eQ0 @ZdL))) ?_;have c9:=Zah m f.from_ i ω;refine Zl2 rfl rfl rfl rfl rfl (λar=>⟨by first|trivial|(simpa[ZbO]using ar),trivial,c9⟩) (YT ?_);simp only[Eqs,reduceCtorEq,ZHK,reduceIte,ZHI,ZHM,ZHJ,hp,atI,ap,az,ZdL];refine aa ?_;refine Zd ?_;exact fin _ (by rw[hw];rfl);rw[decide_eq_false t,ZH7,Bool.or_false]at hw;refine Zt rfl trivial (λh=>by simp at h;exact absurd h t) (λ_=>?_);refine Zp (Zd (Zee [1,2,6,7,8,9,10,11] ?_));simp only[Eqs,reduceCtorEq,ZHK,reduceIte,ZHI,ZHM,ZHJ];exact fin w1 hw;refine xA (nd2 @atF (nd2 @hf (nd2 @Ql @J2))) ?_;refine cX (nd2 @atI (nd2 @ap (nd2 @ax @ZdL))) (Zt0 f) ?_;refine aa ?_;refine Zd (Zd ?_);exact ay _ rfl;have ac:i=I m.fields:=by simp at h2;omega
 subst ac;have al:KG m.fields (I m.fields)=!dC (YZ m.fields (I m.fields)=0):=by unfold KG;rw[if_pos rfl]
 refine rg ?_;refine cd (λh6=>?_) (λh6=>?_);have hA:=ae (Zg3 (Nat.lt_succ_self _) (by rw[al];exact h6));refine rg ?_;exact hF.ret _ st rfl ψ (ZHL _) ZHH ⟨rfl,_,_,_,by rw[hA];rfl⟩;have aj:Za2 m=true:=Zop λq hq=>by by_cases au:q=I m.fields;subst au;rw[al];exact h6;exact ah q ω
 refine gA ?_;refine Za ?_;exact ab ((I d.msgs)-(k+1)) ω (k+1) rfl ω (ZZ (q:=λq=>Za2 (d.msgs.getD q dE)=true) ad (by rw[hm];exact aj));exact ao _ 0 rfl ω (by intro q hq;omega);have z:k=I d.msgs:=by simp at h1;omega
 subst z;have hA:Wp d=true:=by rw[u,List.all_eq_true];intro x hx;obtain⟨q,hq,rfl⟩:=ZfH hx;exact ad q hq
 refine rg ?_;exact hF.ret _ st rfl ψ (ZHL _) ZHH ⟨rfl,_,_,_,by rw[hA];rfl⟩;exact aw _ 0 rfl ω (by intro q hq;omega)
def ZpX(d):Zc ZHF 26 [.agg d.cells] (.bool (Wp d)):=by
 refine Zg (cR 26 f26) λF st i=>?_;refine rx @eQ2 ?_;refine rg ?_;rw[show(D.agg [.str d.name,Yy d.msgs,.str d.start])=.agg d.cells from rfl];refine cV (ZtZ d st) ?_ ?_;rintro j S ⟨rfl,a,f,c,h⟩;cases h;refine gR0 ?_;refine rg ?_;exact i rfl φ (by cases Wp d<;>exact ZHL _) ZHH;rintro j S ⟨_,a,f,c,h⟩;cases h
def Zdk(d)(i:DOk d):∀(n m v),MOk m->ZW v=true->wtN v<=5000->Zk8 d n m v ->
  Zc ZHF 41 [.agg d.cells,.agg m.cells,.agg v.cells] (.i (lenS d n m v))
 |0,_,_,_,_,_,hL=>hL.elim
 |n+1,m,v,hm,hv,hw,hL=>by refine ZlY d i n m hm v hv hw hL λx hx y hy=>?_;obtain⟨k,hk,rfl⟩:=ZH1 hx;have j:=(hL.2 k hk).2 y (by simpa[ZHU,hk]using hy);exact⟨j.1,Zdk d i n (Zl d y.name) y (i.of _) (YW (YW hv hx) hy) (Nat.le_trans (Nat.le_trans (ZkY hy) (ZkY hx)) hw) j.2⟩
def atS(d:Dfn)(s:Str)(v:Val):Int×Int:=if Wp d&&Jf v then (if Zr d s (I d.msgs)<0 then (-1,9) else (Zr d s (I d.msgs),0)) else (-1,2)
def ZyL(d s v)(hb:ZW v=true->Kz v<=1099511627776):Zc ZHF 9 [.agg d.cells,.str s,.agg v.cells] (.tup [.i (atS d s v).1,.i (atS d s v).2]):=by
 refine Zg (cR 9 f9) λF st i=>?_;have z:=ZtX v hb;have n:=ZpX d;have j:=atS.eq_1 d s v;rw[ZHX]at z⊢;cases ha:Wp d with
 |false =>rw[ha]at n j;simp only[ZH7]at j;rw[if_neg ψ]at j;rw[j]at i;refine rx @eQ2 ?_;refine rg ?_;refine cl (n) ?_;refine Jx rfl (e:=.d (.bool false)) (Zn ?_);simp only[Eqs,reduceCtorEq,ZHK,reduceIte,ZHI,ZHM,ZHJ];refine i1 ?_;refine rg ?_;refine rt i ?_;rfl
 |true =>rw[ha]at n j;simp only[ZH3]at j;refine rx @eQ2 ?_;refine rg ?_;refine cl (n) ?_;refine cG (z) ?_;refine cd (λu=>?_) (λu=>?_);rw[if_neg (by simpa using u)]at j;rw[j]at i;refine rg ?_;refine rt i ?_;rfl;rw[if_pos (by simpa using u)]at j;refine rx @Zc4 ?_;refine cl (Wi d s (I d.msgs) (ZHV _)) ?_;refine rg ?_;refine cd (λt=>?_) (λt=>?_);rw[if_pos (by simpa using t)]at j;rw[j]at i;refine rg ?_;refine rt i ?_;rfl;rw[if_neg (by simpa using t)]at j;rw[j]at i;refine rg ?_;refine rt i ?_;rfl
def atR(d:Dfn)(s:Str)(v:Val):D:=if Wp d&&Jf v then (if Zr d s (I d.msgs)<0 then .tup [.agg [.str [],.nilsl],.i 9] else .tup [.agg (Zl d s).cells,.i 0]) else .tup [.agg [.str [],.nilsl],.i 2]
def ZuW(d s v):Zc ZHF 22 [.agg d.cells,.str s,.agg v.cells] (atR d s v):=by
 refine Zg (cR 22 f22) λF st i=>?_;have hV:=Zql v;have z:=ZmD d;have u:=atR.eq_1 d s v;have n:Zi (λx:Msg=>dC (x.name=s)) d.msgs=Zr d s (I d.msgs):=by unfold Zr;rw[ZH2]
 rw[ZHX]at hV⊢;cases ha:Wp d with
 |false =>rw[ha]at z u;simp only[ZH7]at u;rw[if_neg ψ]at u;rw[u]at i;refine rx @eQ2 ?_;refine rg ?_;refine cl (z) ?_;refine Jx rfl (e:=.d (.bool false)) (Zn ?_);simp only[Eqs,reduceCtorEq,ZHK,reduceIte,ZHI,ZHM,ZHJ];refine i1 ?_;refine rg ?_;refine rt i ?_;rfl
 |true =>
  rw[ha]at z u;simp only[ZH3]at u;refine rx @eQ2 ?_;refine rg ?_;refine cl (z) ?_;refine cG (hV) ?_;refine cd (λhv=>?_) (λhv=>?_);rw[if_neg (by simpa using hv)]at u;rw[u]at i;refine rg ?_;refine rt i ?_;rfl;rw[if_pos (by simpa using hv)]at u;refine rg ?_;refine cX @n (ZhM d s) ?_;refine rg ?_;refine cd (λhf=>?_) (λhf=>?_);rw[if_pos (by simpa using hf)]at u;rw[u]at i;refine rg ?_;refine rt i ?_;rfl;have t:0<=Zr d s (I d.msgs):=by simpa using hf
  rw[if_neg ω]at u;rw[u]at i;have hix:=Zab t;have j:max (Zr d s (I d.msgs)) 0=ixS d s:=ω;unfold Zl at i;generalize hm:d.msgs.getD (ixS d s) dE=m at *;rw[j];refine xA (nd2 @atM (nd2 @hm @eQ3)) ?_;refine rt i ?_;rfl
def mfD(q:Str)(no:Int):D:=.iface 45 (.agg [.str q,.i no])
def mfR(q:Str)(no:Int):Res:=if no=0 then .ret (.tup []) else .panic (mfD q no)
def ZeO(fine q no st):Ze ZHF 116 [.bool fine,.str q,.i no] st λr S=>S=st/\r=if fine then .ret (.tup []) else .panic (mfD q no):=by
 refine Zh (cR 116 f116) λF j=>?_;refine rg ?_;refine cd (λh=>?_) (λh=>?_);have i:fine=false:=by simpa using h
 refine rg ?_;refine Zmz rfl rfl rfl trivial ?_;exact j.pan st ZHH ⟨rfl,by rw[i];rfl⟩;have i:fine=true:=by simpa using h
 refine Zp ?_;exact j.fin (.tup []) st rfl trivial (ZHL _) ZHH ⟨rfl,by rw[i];rfl⟩
def ZuV(a b q st):Ze ZHF 155 [.i a,.i b,.str q] st λr S=>S=st/\r=mfR q (K1 a b):=by
 refine Zh (cR 155 f155) λF z=>?_;have n:=K1.eq_1 a b;refine rg ?_;refine cV (ZeO (dC (b<=a)) q 4 st) ?_ ?_;rintro d S ⟨j,i⟩;obtain rfl:=j.symm;by_cases u:b<=a;rw[decide_eq_true u,if_pos rfl]at i;cases i;rw[if_neg (by simp;omega)]at n;refine gR0 ?_;refine rg ?_;refine cV (ZeO (dC (a<=b)) q 5 st) ?_ ?_;rintro d S ⟨j,i⟩;obtain rfl:=j.symm;by_cases t:a<=b;rw[decide_eq_true t,if_pos rfl]at i;cases i;rw[if_neg (by simp;omega)]at n;refine gR0 ?_;exact z.fin (.tup []) st rfl trivial (ZHL _) ZHH ⟨rfl,by rw[n];rfl⟩;rw[decide_eq_false t,if_neg ψ]at i;cases i;rintro d S ⟨j,i⟩;obtain rfl:=j.symm;by_cases t:a<=b;rw[decide_eq_true t,if_pos rfl]at i;cases i;rw[decide_eq_false t,if_neg ψ]at i;cases i;rw[if_pos (by simp;omega)]at n;exact z.pan st ZHH ⟨rfl,by rw[n];rfl⟩;rw[decide_eq_false u,if_neg ψ]at i;cases i;rintro d S ⟨j,i⟩;obtain rfl:=j.symm;by_cases u:b<=a;rw[decide_eq_true u,if_pos rfl]at i;cases i;rw[decide_eq_false u,if_neg ψ]at i;cases i;rw[if_pos (by simp;omega)]at n;exact z.pan st ZHH ⟨rfl,by rw[n];rfl⟩
def Ky(g:Nat->Str×Int):List Nat->Option (Str×Int)
 | []=>nO
 |i::r=>if (g i).2=0 then Ky g r else sO (g i)
def Zl8{g}:∀{l},Ky g l=nO->∀i∈l,(g i).2=0
 | [],_,i,hi=>by simp at hi
 |a::r,h,i,hi=>by simp only[Ky]at h;split at h;rename_i j;rcases List.mem_cons.1 hi with rfl|hi;exact j;exact Zl8 h i hi;simp at h
def J0(mis:Msg->Val->Str->Str×Int)(d:Dfn)(of:Str)(x:Val)(q:Str):Str×Int :=
 if (I x.parts)=1 then mis (Zl d of) (x.parts.getD 0 dE) (Z5 q (Yh x.parts 0)) else (q,6)
def Za3(mis:Msg->Val->Str->Str×Int)(len:Msg->Val->Int)(d:Dfn)(f:Fld)(x:Val)(q:Str)(l:List (Str×Int)):Str×Int :=
 if f.kind=1\/f.kind=3 then (if x.int<f.low\/f.high<x.int then (q,3) else (q,0))
 else if f.kind=4 then (q,K1 (I x.bytes) (Zfb f.size l))
 else if f.kind=5 then (if f.high<I x.bytes then (q,5) else if x.bytes.any (λc=>dC ((c.toNat:Int)=f.low)) then (q,6) else (q,0))
 else if f.kind=6 then (if Kl x.hdrs=false then (q,6) else if f.high<(Zby x.hdrs).length then (q,5) else (q,0))
 else if f.kind=7 then (if K1 (I x.parts) (Zfb f.size l)=0 then (Ky (λi=>mis (Zl d f.of) (x.parts.getD i dE) (Z5 q (Yh x.parts i))) (ZHT (I x.parts))).getD (q,0) else (q,K1 (I x.parts) (Zfb f.size l)))
 else if f.kind=8 then J0 mis d f.of x q
 else if f.kind=9 then (if KJ f (Yr f.tag l)<0 then (q,9) else J0 mis d (f.cases.getD (KJ f (Yr f.tag l)).toNat dE).of x q)
 else if f.kind=12 then (if (J0 mis d f.of x q).2=0 then (q,K1 (len (Zl d f.of) (x.parts.getD 0 dE)) (Zfb f.size l)) else J0 mis d f.of x q)
 else (q,0)
def Ym(d:Dfn):Nat->Msg->Val->Str->Str×Int
 |0,_,_,p=>(p,6)
 |n+1,m,v,p =>
  if dC (v.name=m.name)&&(dC (v.int=0)&&(dC (I v.bytes=0)&&(dC (I v.hdrs=0)&&W9 m v.parts))) then
   (Ky (λk=>if W5 ((vfs m.fields).getD k dE).kind (v.parts.getD k dE) then (Z5 p (Yh v.parts k),6)
    else Za3 (Ym d n) (lenS d n) d ((vfs m.fields).getD k dE) (v.parts.getD k dE) (Z5 p (Yh v.parts k)) (WU m v.parts)) (ZHT (I v.parts))).getD ([],0)
  else (p,6)
def ZwP{d s}(h:0<=Zr d s (I d.msgs)):(Zl d s).name=s:=by
 have j:=Zab h;unfold Zr at h j;have i:=(Qc h).1;rw[j.1]at i;rw[ZH2]at i;simpa[Zl]using i
def ZuF{d}:∀{n m v p},(Ym d n m v p).2=0->v.name=m.name
 |0,_,_,_,h=>by simp[Ym]at h
 |n+1,m,v,p,h=>by simp only[Ym]at h;split at h;rename_i hc;simp only[ZHN,decide_eq_true_eq]at hc;exact hc.1;simp at h
structure Zjo(d:Dfn)(f:Fld):Prop where
 kind:1<=f.kind/\f.kind<=12
 ref:f.kind=7\/f.kind=8\/f.kind=12->0<=Zr d f.of (I d.msgs)
 cas:f.kind=9->∀c∈f.cases,0<=Zr d c.of (I d.msgs)
def Zv4(d:Dfn):Prop:=∀m∈d.msgs,∀f∈m.fields,Zjo d f
def Zv4.of{d}(h:Zv4 d)(s):∀f∈(Zl d s).fields,Zjo d f:=by
 unfold Zl;by_cases i:ixS d s<I d.msgs;exact h _ (Zm i);rw[show d.msgs.getD (ixS d s) dE=dE by simp[ZHU,ZIr (Nat.le_of_not_lt i)]];intro f j;simp[show(dE:Msg).fields=[] from rfl]at j
def Zl9{g r}:∀{l},Ky g l=sO r->¬r.2=0
 | [],h=>by simp[Ky]at h
 |a::t,h=>by simp only[Ky]at h;split at h;exact Zl9 h;rename_i i;simp only[ZHE]at h;rw[<-h];exact i
def ZqM{g n q}(h:((Ky g (ZHT n)).getD q).2=0):∀i,i<n->(g i).2=0:=by
 cases j:Ky g (ZHT n) with
 |none=>exact λi t=>Zl8 j i (List.mem_range.2 t)
 |some r=>rw[j]at h;exact absurd h (Zl9 j)
def Zzc{v}(h:QM v=true):Zck v.hdrs:=by
 unfold QM at h;simp only[ZHN,Bool.not_eq_true']at h;intro x j;have n:=h.2;have i:=List.any_eq_false.1 n x j;unfold Zaa at i;simp only[ZH0,decide_eq_true_eq,not_or]at i;omega
def ZpS{mis d of x q}(h:(J0 mis d of x q).2=0):I x.parts=1/\(mis (Zl d of) (x.parts.getD 0 dE) (Z5 q (Yh x.parts 0))).2=0:=by
 unfold J0 at h;split at h;rename_i i;exact⟨i,h⟩;simp at h
def ZyH{mis len d f x q l}(t:Zjo d f)(hv:Y5 f=true)(hu:W5 f.kind x=false)(h:(Za3 mis len d f x q l).2=0):
  ∀y∈x.parts,∃of q',0<=Zr d of (I d.msgs)/\(mis (Zl d of) y q').2=0:=by
 intro y u;have hpos:0<I x.parts:=List.length_pos_iff.2 λe=>by rw[e]at u;simp at u
 have h7:7<=f.kind:=by unfold W5 at hu;simp only[Bool.or_eq_false_iff,ZIl,Bool.not_eq_false',decide_eq_true_eq,decide_eq_false_iff_not]at hu;have:=hu.2;omega
 have hk:f.kind=7\/f.kind=8\/f.kind=9\/f.kind=12:=by have:=t.kind;unfold Y5 at hv;simp only[ZHN,Bool.not_eq_true',decide_eq_false_iff_not]at hv;omega
 have one:∀of,0<=Zr d of (I d.msgs)->(J0 mis d of x q).2=0->∃of q',0<=Zr d of (I d.msgs)/\(mis (Zl d of) y q').2=0:=λof h0 n=>by
  obtain⟨hl,h2⟩:=ZpS n;refine⟨of,Z5 q (Yh x.parts 0),h0,?_⟩;rw[show y=x.parts.getD 0 dE by
   obtain⟨i,z,rfl⟩:=ZH1 u;have:i=0:=ω;subst this;simp[ZHU,z]]
  exact h2
 unfold Za3 at h;rw[if_neg ω,if_neg ω,if_neg ω,if_neg ω]at h;rcases hk with hk|hk|hk|hk;rw[if_pos hk]at h;split at h;obtain⟨i,z,rfl⟩:=ZH1 u;have n:=ZqM h i z;exact⟨f.of,_,t.ref ω,by simpa[ZHU,z]using n⟩;rename_i j;exact absurd h j;rw[if_neg ω,if_pos hk]at h;exact one _ (t.ref ω) h;rw[if_neg ω,if_neg ω,if_pos hk]at h;split at h;simp at h;rename_i hc;have hlt:=Ys (λc:Yw=>dC (c.low<=Yr f.tag l)&&dC (Yr f.tag l<=c.high)) f.cases;exact one _ (t.cas hk _ (Zm (by unfold KJ at hc⊢;omega))) h;rw[if_neg ω,if_neg ω,if_neg ω,if_pos hk]at h;split at h;rename_i n;exact one _ (t.ref ω) n;rename_i n;exact absurd h n
def Zik{d}(hd:Zv4 d):∀(n m v p),(∀f∈m.fields,Zjo d f)->ZW v=true->(Ym d n m v p).2=0->Zk8 d n m v
 |0,_,_,_,_,_,h=>by simp[Ym]at h
 |n+1,m,v,p,hm,hv,h=>by
  simp only[Ym]at h;split at h
  .rename_i hc;simp only[ZHN,decide_eq_true_eq]at hc;have hr:=hc.2.2.2.2;unfold W9 at hr;rw[decide_eq_true_eq]at hr;have t:(vfs m.fields).length=I v.parts:=by simpa using congrArg List.length hr
   refine⟨t,λk hk=>?_⟩;have hg:=ZqM h k hk;have z:v.parts.getD k dE∈v.parts:=Zm hk;have ab:(vfs m.fields).getD k dE∈vfs m.fields:=Zm ω;have i:=List.mem_filter.1 ab;have j:=YW hv z;have ac:=QU (Qf j);have u:=Zzc (Qf j);generalize v.parts.getD k dE=x at *;generalize (vfs m.fields).getD k dE=f at *;cases hu:W5 f.kind x with
   |true=>rw[hu,if_pos rfl]at hg;simp at hg
   |false =>
    rw[hu,if_neg ψ]at hg;refine⟨⟨hu,λ_=>ac.2.1,λh6=>⟨?_,u⟩⟩,λy hy=>?_⟩
    .unfold Za3 at hg;rw[if_neg ω,if_neg ω,if_neg ω,if_pos h6]at hg;cases hh:Kl x.hdrs with
     |true=>rfl
     |false=>rw[hh,if_pos rfl]at hg;simp at hg
    obtain⟨of,q',h0,h1⟩:=ZyH (hm f i.1) i.2 hu hg y hy;have hn:y.name=of:=by rw[ZuF h1,ZwP h0]
    rw[hn];exact⟨h0,Zik hd n _ y q' (hd.of _) (YW j hy) h1⟩
  simp at h
def mfT(r:Str×Int):D:=.tup [.str r.1,.i r.2]
def Zw5(d of x q mis)(z:I x.parts<=100000)(hn:∀y∈x.parts,I y.name<=1000)(hq:I q<=1000000)(t:I x.parts=1->Zc ZHF 11 [.agg d.cells,.i (Zr d of (I d.msgs)),.agg (x.parts.getD 0 dE).cells,.str (Z5 q (Yh x.parts 0))] (mfT (mis (Zl d of) (x.parts.getD 0 dE) (Z5 q (Yh x.parts 0))))):
  Zc ZHF 80 [.agg d.cells,.i (Zr d of (I d.msgs)),.agg x.cells,.str q] (mfT (J0 mis d of x q)):=by
 refine Zg (cR 80 f80) λF st j=>?_;have u:=J0.eq_1 mis d of x q;generalize Zr d of (I d.msgs)=ix at *;rw[ZHX];refine rx @eQ2 ?_;refine rx @KU ?_;refine cd (λh1=>?_) (λh1=>?_);rw[if_neg (by simp at h1;omega)]at u;rw[u]at j;refine rg ?_;refine rt j ?_;rfl;have hl:I x.parts=1:=by simp at h1;omega
 rw[if_pos hl]at u;rw[u]at j;have hm:=t hl;have n:Zc ZHF 35 [.str q,ZF x.parts,.i 0] (.str (Z5 q (Yh x.parts 0))):=Zg8 q x.parts 0 ω z hn hq;generalize Z5 q (Yh x.parts 0)=q2 at *;have hr:=Wm (l:=x.parts) (i:=0) ω;rw[ZHX]at hm;generalize mis (Zl d of) (x.parts.getD 0 dE) (Z5 q (Yh x.parts 0))=res at *;obtain⟨p,no⟩:=res;simp only[mfT]at hm j;refine xA (nd2 @atV @hr) ?_;refine clD (n) ?_;refine clD (hm) ?_;refine rt j ?_;rfl
def ZgR{g}:∀{a b},(∀i∈a,(g i).2=0)->Ky g (a++b)=Ky g b
 | [],_,_=>rfl
 |i::a,b,h=>by rw[List.cons_append,Ky,if_pos (h i ψ)];exact ZgR λk j=>h k (by simp[j])
def ZeY{g n}(h:∀i,i<n->(g i).2=0):Ky g (ZHT n)=nO:=by
 rw[<-ZH8 (ZHT n),ZgR λi j=>h i (List.mem_range.1 j)];rfl
def Zgm{g n j}(hj:j<n)(h:∀i,i<j->(g i).2=0)(t:¬(g j).2=0):Ky g (ZHT n)=sO (g j):=by
 rw[show ZHT n=ZHT j++(j::(List.range' (j+1) (n-(j+1)))) by rw[List.range_eq_range',List.range_eq_range',show n=j+(n-(j+1)+1) by omega,<-List.range'_append_1,List.range'_succ];simp;omega,ZgR λi u=>h i (List.mem_range.1 u),Ky,if_neg t]
def ZCd{L s}(l i):qv L s (.iaddr 1) [.d (Zs l),.d (.i i)]=sO (0<=i/\i<I l,.d (.ep (u8C (l.getD i.toNat dE)) 0)):=rfl
def ZuR(d f x q l mis len)(hsz:f.kind=4\/f.kind=7\/f.kind=12->ZI f.size=true/\∀t∈f.size.terms,0<=Yr t.field l/\Yr t.field l<34359738368)(hx6:Zck x.hdrs)(hxb:I x.bytes<=1048576)(hlen:f.kind=12->(J0 mis d f.of x q).2=0->I x.parts=1/\Zc ZHF 33 [.agg d.cells,.i (Zr d f.of (I d.msgs)),.agg (x.parts.getD 0 dE).cells] (.i (len (Zl d f.of) (x.parts.getD 0 dE))))(hps:I x.parts<=100000)(hnm:∀y∈x.parts,I y.name<=1000)(hq:I q<=1000000)(hmis:f.kind=7->∀i,i<I x.parts->Zc ZHF 11 [.agg d.cells,.i (Zr d f.of (I d.msgs)),.agg (x.parts.getD i dE).cells,.str (Z5 q (Yh x.parts i))] (mfT (mis (Zl d f.of) (x.parts.getD i dE) (Z5 q (Yh x.parts i)))))(hfr:Zjo d f)(hone:∀of,0<=Zr d of (I d.msgs)->Zc ZHF 80 [.agg d.cells,.i (Zr d of (I d.msgs)),.agg x.cells,.str q] (mfT (J0 mis d of x q))):
  Zc ZHF 37 [.agg d.cells,.agg f.cells,.agg x.cells,.str q,ZeM l] (mfT (Za3 mis len d f x q l)):=by
 refine Zg (cR 37 f37) λF st u=>?_;have hS:=Za3.eq_1 mis len d f x q l;generalize Za3 mis len d f x q l=res at *;rw[ZHX]at hone⊢;refine rx (nd2 @eQ2 @eQ0) ?_;refine rx @Zc4 ?_;refine cl (Wi d f.of (I d.msgs) (ZHV _)) ?_;refine gG ?_;refine jU [0,0,0,1] (λQ=>res=(q,0)->Q F [(3,.d (.str q))] [] st) ?_ λfin=>?_;intro he;rw[he]at u;refine rg ?_;refine rt u ?_;rfl;refine cd (λc1=>?_) (λc1=>?_);refine Zp (Zt rfl trivial (λ_=>?_) (λh=>by rw[c1]at h;simp at h));have z:f.kind=1\/f.kind=3:=by simp at c1;omega
 rw[if_pos z]at hS;refine rx @eQ0 ?_;refine cd (λh2=>?_) (λh2=>?_);rw[if_pos (by simpa using h2)]at hS;rw[hS]at u;refine rg ?_;refine rt u ?_;rfl;rw[if_neg (by simpa using h2)]at hS;refine Zp (Zf (Zd ?_));refine kE [3] ?_;exact fin hS;refine rg ?_;refine cd (λc3=>?_) (λc3=>?_);have z:f.kind=1\/f.kind=3:=by simp at c3;omega
 rw[if_pos z]at hS;refine rx @eQ0 ?_;refine cd (λh2=>?_) (λh2=>?_);rw[if_pos (by simpa using h2)]at hS;rw[hS]at u;refine rg ?_;refine rt u ?_;rfl;rw[if_neg (by simpa using h2)]at hS;refine Zp (Zf (Zd ?_));refine kE [3] ?_;exact fin hS;rw[if_neg (by simp at c1 c3;omega)]at hS;refine rg ?_;refine cd (λc4=>?_) (λc4=>?_);have a4:f.kind=4:=by simpa using c4
 rw[if_pos a4]at hS;rw[hS]at u;obtain⟨ad,ac⟩:=hsz ω;refine rx (nd2 @W3 @eQ0) ?_;refine clD (Zg7 f.size ad l ac) ?_;refine clD Zg9 ?_;refine rt u ?_;rfl;rw[if_neg (by simpa using c4)]at hS;refine rg ?_;refine cd (λc5=>?_) (λc5=>?_);rw[if_pos (by simpa using c5)]at hS;refine rx (nd2 @W3 @eQ0) ?_;refine cd (λh5=>?_) (λh5=>?_);rw[if_pos (by simpa using h5)]at hS;rw[hS]at u;refine rg ?_;refine rt u ?_;rfl;rw[if_neg (by simpa using h5)]at hS;refine rg ?_;refine Zb (fr (I x.bytes) (λj Q=>j<=I x.bytes->(∀i,i<j->(λc:UInt8=>dC ((c.toNat:Int)=f.low)) (x.bytes.getD i dE)=false)->Q [(3,.d (.str q)),(6,.loc 6 0),(7,.loc 7 0),(13,.d (.i j))] [(6,[.str f.name,.i f.kind,.i f.bits,.bool f.little,.bool f.loose,.i f.low,.i f.high,.i f.size.base,Yd f.size.terms,.str f.of,.str f.tag,.str f.from_,Yk f.cases,.i f.check,.i f.key]),(7,[.str x.name,.i x.int,Zs x.bytes,Zx x.hdrs,ZF x.parts])] st) (λn ab=>?_) λau=>?_);intro j a3 hj ae;refine rx @W3 ?_;refine cd (λg1=>?_) (λg1=>?_);simp at g1;generalize hc:x.bytes.getD j dE=c at *;have a5:IntKind.i64.wrap (c.toNat:Int)=c.toNat:=Q7 ⟨ω,by have:=c.toNat_lt;omega⟩;refine xA (nd2 @ZCd (nd2 @hc (nd2 @u8C.eq_1 @a5))) ?_;refine cd (λg2=>?_) (λg2=>?_);have ai:x.bytes.any (λc=>dC ((c.toNat:Int)=f.low))=true:=List.any_eq_true.2 ⟨c,by rw[<-hc];exact Zm g1,g2⟩;rw[ai,if_pos rfl]at hS;rw[hS]at u;refine rg ?_;refine rt u ?_;rfl;refine gA ?_;refine Za ?_;exact ab ((I x.bytes)-(j+1)) ω (j+1) rfl ω (ZZ (q:=λi=>(λc:UInt8=>dC ((c.toNat:Int)=f.low)) (x.bytes.getD i dE)=false) ae (by rw[hc];exact g2));simp at g1;obtain rfl:j=I x.bytes:=ω;have ai:x.bytes.any (λc=>dC ((c.toNat:Int)=f.low))=false:=Zhq ae;rw[ai,if_neg ψ]at hS;refine ZR rfl (Zf (Zd ?_));refine kE [3] ?_;exact fin hS;exact au _ 0 rfl ω (by intro i hi;omega);rw[if_neg (by simpa using c5)]at hS;refine rg ?_;refine cd (λc6=>?_) (λc6=>?_);rw[if_pos (by simpa using c6)]at hS;refine rg ?_;refine cl (ZtW x.hdrs) ?_;refine cd (λh6=>?_) (λh6=>?_);rw[if_pos (by simpa using h6)]at hS;rw[hS]at u;refine rg ?_;refine rt u ?_;rfl;have hh:Kl x.hdrs=true:=by simpa using h6
 rw[if_neg (by rw[hh];simp)]at hS;refine rx @eQ0 ?_;refine cXD @W3 (Zka hh hx6) ?_;refine cd (λh7=>?_) (λh7=>?_);rw[if_pos (by simpa using h7)]at hS;rw[hS]at u;refine rg ?_;refine rt u ?_;rfl;rw[if_neg (by simpa using h7)]at hS;refine Zp (Zf (Zd ?_));refine kE [3] ?_;exact fin hS;rw[if_neg (by simpa using c6)]at hS;refine rg ?_;refine cd (λc7=>?_) (λc7=>?_);have aq:f.kind=7:=by simpa using c7
 rw[if_pos aq]at hS;have a0:=hmis aq;obtain⟨ad,ac⟩:=hsz ω;refine rx (nd2 @KU @eQ0) ?_;refine clD (Zg7 f.size ad l ac) ?_;refine clD Zg9 ?_;generalize K1 (I x.parts) (Zfb f.size l)=no at *;refine rg ?_;refine cd (λh0=>?_) (λh0=>?_);rw[if_neg (by simpa using h0)]at hS;rw[hS]at u;refine rg ?_;refine rt u ?_;rfl;rw[if_pos (by simpa using h0)]at hS;refine rg ?_;refine Zb (fr (I x.parts) (λj Q=>j<=I x.parts->(∀i,i<j->(mis (Zl d f.of) (x.parts.getD i dE) (Z5 q (Yh x.parts i))).2=0)->Q [(3,.d (.str q)),(5,.loc 5 0),(7,.loc 7 0),(12,.d (.i (Zr d f.of (I d.msgs)))),(15,.d (.i j))] [(5,[.str d.name,Yy d.msgs,.str d.start]),(7,[.str x.name,.i x.int,Zs x.bytes,Zx x.hdrs,ZF x.parts])] st) (λn af=>?_) λao=>?_);intro j a3 hj ah;refine rx @KU ?_;refine cd (λg1=>?_) (λg1=>?_);simp at g1;have a7:=Zg8 q x.parts j g1 hps hnm hq;have am:=a0 j g1;have hr:=Wm (l:=x.parts) (i:=j) g1;have a8:=Zgm (g:=λi=>mis (Zl d f.of) (x.parts.getD i dE) (Z5 q (Yh x.parts i))) g1 ah;rw[ZHX]at am;generalize hy:mis (Zl d f.of) (x.parts.getD j dE) (Z5 q (Yh x.parts j))=r7 at *;obtain⟨p,aw⟩:=r7;simp only[mfT]at am;generalize ay:Z5 q (Yh x.parts j)=q2 at *;generalize az:x.parts.getD j dE=y at *;refine xA (nd2 @atV @hr) ?_;refine clD (a7) ?_;refine clD (am) ?_;refine rg ?_;refine cd (λg2=>?_) (λg2=>?_);rw[a8 (by simpa using g2)]at hS;rw[hS]at u;simp only[mfT,ZIk]at u;refine rg ?_;refine rt u ?_;rfl;have ar:aw=0:=by simpa using g2
 refine gA ?_;refine Za ?_;exact af ((I x.parts)-(j+1)) ω (j+1) rfl ω (λi hi=>by
  by_cases ax:i=j;rw[ax,az,ay,hy];exact ar;exact ah i ω)
 simp at g1;obtain rfl:j=I x.parts:=ω;rw[ZeY ah]at hS;refine ZR rfl (Zf (Zd ?_));refine kE [3] ?_;exact fin hS;exact ao _ 0 rfl ω (by intro i hi;omega);rw[if_neg (by simpa using c7)]at hS;refine rg ?_;refine cd (λc8=>?_) (λc8=>?_);rw[if_pos (by simpa using c8)]at hS;have h8:=hone f.of (hfr.ref (.inr (.inl (by simpa using c8))));generalize J0 mis d f.of x q=r8 at *;obtain⟨p,no⟩:=r8;rw[hS]at u;simp only[mfT]at h8 u;refine rg ?_;refine cl (h8) ?_;refine rt u ?_;rfl;rw[if_neg (by simpa using c8)]at hS;refine rg ?_;refine cd (λc9=>?_) (λc9=>?_);rw[if_pos (by simpa using c9)]at hS;refine rx @eQ0 ?_;refine clD (ZiD f.tag l) ?_;refine clD (Zml f (Yr f.tag l)) ?_;refine rg ?_;have ba:=Ys (λc:Yw=>dC (c.low<=Yr f.tag l)&&dC (Yr f.tag l<=c.high)) f.cases;rw[show Zi (λc:Yw=>dC (c.low<=Yr f.tag l)&&dC (Yr f.tag l<=c.high)) f.cases=KJ f (Yr f.tag l) from rfl]at ba;generalize KJ f (Yr f.tag l)=ci at *;refine cd (λaj=>?_) (λaj=>?_);rw[if_pos (by simpa using aj)]at hS;rw[hS]at u;refine rg ?_;refine rt u ?_;rfl;rw[if_neg (by simpa using aj)]at hS;have hci0:0<=ci:=by simpa using aj
 have h9:=hone (f.cases.getD ci.toNat dE).of (hfr.cas (by simpa using c9) _ (Zm ω));generalize a6:f.cases.getD ci.toNat dE=cc at *;generalize J0 mis d cc.of x q=r9 at *;obtain⟨p,no⟩:=r9;rw[hS]at u;simp only[mfT]at h9 u;refine xA (nd2 @Zc4 (nd2 @eQ0 (nd2 @Zpy (nd2 @a6 @eQ9)))) ?_;refine clD (Wi d cc.of (I d.msgs) (ZHV _)) ?_;refine clD (h9) ?_;refine rt u ?_;rfl;rw[if_neg (by simpa using c9)]at hS;refine rg ?_;refine cd (λal=>?_) (λal=>?_);have ag:f.kind=12:=by simpa using al
 rw[if_pos ag]at hS;have av:=hone f.of (hfr.ref (.inr (.inr ag)));have ak:=hlen ag;obtain⟨ad,ac⟩:=hsz ω;generalize J0 mis d f.of x q=a9 at *;obtain⟨p,no⟩:=a9;simp only[mfT]at av ak hS;refine rg ?_;refine cl (av) ?_;refine rg ?_;refine cd (λh0=>?_) (λh0=>?_);rw[if_neg (by simpa using h0)]at hS;rw[hS]at u;refine rg ?_;refine rt u ?_;rfl;have ae:no=0:=by simpa using h0
 rw[if_pos ae]at hS;rw[hS]at u;obtain⟨hl1,ap⟩:=ak ae;have hr:=Wm (l:=x.parts) (i:=0) ω;rw[ZHX]at ap;generalize x.parts.getD 0 dE=y at *;refine xA (nd2 @atV (nd2 @hr @eQ0)) ?_;refine clD (ap) ?_;refine clD (Zg7 f.size ad l ac) ?_;refine clD Zg9 ?_;refine rt u ?_;rfl;rw[if_neg (by simpa using al)]at hS;refine Zp (Zf (Zd ?_));refine kE [3] ?_;exact fin hS
def ZaT(d:Dfn)(n:Nat)(m:Msg)(v:Val)(p:Str)(k:Nat):Str×Int :=
 if W5 ((vfs m.fields).getD k dE).kind (v.parts.getD k dE) then (Z5 p (Yh v.parts k),6)
 else Za3 (Ym d n) (lenS d n) d ((vfs m.fields).getD k dE) (v.parts.getD k dE) (Z5 p (Yh v.parts k)) (WU m v.parts)
def ZjU(d n m v p):Ym d (n+1) m v p =
  if dC (v.name=m.name)&&(dC (v.int=0)&&(dC (I v.bytes=0)&&(dC (I v.hdrs=0)&&W9 m v.parts))) then (Ky (ZaT d n m v p) (ZHT (I v.parts))).getD ([],0) else (p,6):=rfl
def ZoF(d fu im)(him:im<I d.msgs)(hm:(d.msgs.getD im dE).fields.length<=1000)(v p)(hps:I v.parts<=100000)(hnm:∀y∈v.parts,I y.name<=1000)(hq:I p<=1000000)(hpart:W9 (d.msgs.getD im dE) v.parts=true->∀k,k<I v.parts->(∀j,j<k->(ZaT d fu (d.msgs.getD im dE) v p j).2=0)->W5 ((vfs (d.msgs.getD im dE).fields).getD k dE).kind (v.parts.getD k dE)=false ->
   Zc ZHF 37 [.agg d.cells,.agg ((vfs (d.msgs.getD im dE).fields).getD k dE).cells,.agg (v.parts.getD k dE).cells,.str (Z5 p (Yh v.parts k)),ZeM (WU (d.msgs.getD im dE) v.parts)] (mfT (ZaT d fu (d.msgs.getD im dE) v p k))):
  Zc ZHF 11 [.agg d.cells,.i im,.agg v.cells,.str p] (mfT (Ym d (fu+1) (d.msgs.getD im dE) v p)):=by
 refine Zg (cR 11 f11) λF st t=>?_;generalize al:d.msgs.getD im dE=m at *;have hS:=ZjU d fu m v p;generalize Ym d (fu+1) m v p=res at *;have hR:=Zkc m v.parts;have hN:=Zp0 m hm v.parts;rw[ZHX];have e1:dC (I v.bytes=0)=!dC (0<(I v.bytes:Int)):=by by_cases h:I v.bytes=0<;>simp[h];omega
 have e2:dC (I v.hdrs=0)=!dC (0<(I v.hdrs:Int)):=by by_cases h:I v.hdrs=0<;>simp[h];omega
 rw[e1,e2]at hS;cases hX:(((!dC (v.name=m.name)||!dC (v.int=0)) ||decide (0<(I v.bytes:Int))) ||decide (0<(I v.hdrs:Int))) with
 |true =>
  rw[if_neg (by
   clear hS;generalize dC (v.name=m.name)=b1 at *;generalize dC (v.int=0)=b2 at *;generalize dC (0<(I v.bytes:Int))=b3 at *;generalize dC (0<(I v.hdrs:Int))=b4 at *;cases b1<;>cases b2<;>cases b3<;>cases b4<;>simp_all)]at hS
  rw[hS]at t;simp only[mfT]at t;refine rx @eQ2 ?_;refine xA (nd2 @atM (nd2 @al @eQ3)) ?_;refine rx (nd2 @W3 (nd2 @Zcp @hX)) ?_;refine Jx rfl (e:=.d (.bool false)) (Zn ?_);simp only[Eqs,reduceCtorEq,ZHK,reduceIte,ZHI,ZHM,ZHJ];refine i1 ?_;refine rg ?_;refine rt t ?_;rfl
 |false =>
  refine rx @eQ2 ?_;refine xA (nd2 @atM (nd2 @al @eQ3)) ?_;refine rx (nd2 @W3 (nd2 @Zcp @hX)) ?_;refine cG (hR) ?_;have hA:(dC (v.name=m.name)&&(dC (v.int=0)&&((!dC (0<(I v.bytes:Int)))&&((!dC (0<(I v.hdrs:Int)))&&W9 m v.parts))))=W9 m v.parts:=by clear hS;generalize dC (v.name=m.name)=b1 at *;generalize dC (v.int=0)=b2 at *;generalize dC (0<(I v.bytes:Int))=b3 at *;generalize dC (0<(I v.hdrs:Int))=b4 at *;cases b1<;>cases b2<;>cases b3<;>cases b4<;>simp_all
  rw[hA]at hS;refine cd (λhr=>?_) (λhr=>?_);rw[if_neg (by simpa using hr)]at hS;rw[hS]at t;simp only[mfT]at t;refine rg ?_;refine rt t ?_;rfl;have ag:W9 m v.parts=true:=by simpa using hr
  rw[if_pos ag]at hS;have ar:=hpart ag;have af:=ag;unfold W9 at af;rw[decide_eq_true_eq]at af;have ae:(vfs m.fields).length=I v.parts:=by simpa using congrArg List.length af
  refine rg ?_;refine cl (hN) ?_;refine gG ?_;refine Zb (fr (I m.fields) (λi Q=>∀k:Nat,i<=I m.fields->k=(vfs (m.fields.take i)).length->(∀j,j<k->(ZaT d fu m v p j).2=0)->Q [(3,.d (.str p)),(4,.loc 4 0),(6,.loc 6 0),(10,.loc 10 0),(11,.d (ZeM (WU m v.parts))),(12,.d (.i k)),(13,.d (.i i))] [(4,[.str d.name,Yy d.msgs,.str d.start]),(6,[.str v.name,.i v.int,Zs v.bytes,Zx v.hdrs,ZF v.parts]),(10,[.str m.name,Zk m.fields])] st) (λn z=>?_) λav=>?_)
  .intro i hn k hi hk u;refine rx @Jw ?_;refine cd (λh1=>?_) (λh1=>?_)
   .simp at h1;have ao:=λhh=>Zh0 hk h1 hh;have ad:=ZdV h1;generalize hf:m.fields.getD i dE=f at *;refine xA (nd2 @atF (nd2 @hf (nd2 @Ql @J2))) ?_;refine rx (nd2 @Ql @J2) ?_;refine cl (KV f) ?_;refine cd (λhh=>?_) (λhh=>?_);have ac:Y5 f=false:=by simpa using hh
    rw[if_neg (by rw[ac];simp),ZH8]at ad;refine gA ?_;refine Za ?_;exact z ((I m.fields)-(i+1)) ω (i+1) rfl k ω (by rw[ad];exact hk) u;have ac:Y5 f=true:=by simpa using hh
    rw[if_pos ac]at ad;obtain⟨ab,ap⟩:=ao ac;rw[ae]at ab;have ah:=ar k ab u;have au:=Zg8 p v.parts k ab hps hnm hq;have aj:=Wm (l:=v.parts) (i:=k) ab;have hG:=ZaT.eq_1 d fu m v p k;have ak:=Zgm (g:=ZaT d fu m v p) ab u;have hk40:k<=i:=by rw[hk];exact ZpO
    rw[ap]at ah hG;have ai:=ZrJ f.kind (v.parts.getD k dE);rw[ZHX]at ah ai;generalize v.parts.getD k dE=x at *;generalize Z5 p (Yh v.parts k)=q at *;refine xA (nd2 @atV (nd2 @aj (nd2 @Ql @J2))) ?_;refine cXD @ZdL (au) ?_;refine aa ?_;refine gA ?_;refine rx @eQ0 ?_;refine cl (ai) ?_;cases hu:W5 f.kind x with
    |true =>rw[hu,if_pos rfl]at hG;rw[ak (by rw[hG];simp),hG]at hS;rw[hS]at t;simp only[mfT,ZIk]at t;refine i1 ?_;refine rg ?_;refine rt t ?_;rfl
    |false =>
     have am:=ah hu;clear hG ai;generalize aw:ZaT d fu m v p k=gk at *;obtain⟨pp,no⟩:=gk;simp only[mfT]at am;refine i0 ?_;refine rx @eQ0 ?_;refine cl (am) ?_;refine rg ?_;refine cd (λh0=>?_) (λh0=>?_);rw[ak (by simpa using h0)]at hS;rw[hS]at t;simp only[mfT,ZIk]at t;refine rg ?_;refine rt t ?_;rfl;have aq:no=0:=by simpa using h0
     rw[show(k:Int)+1=((k+1:Nat):Int) by omega];refine gA ?_;refine Za ?_;exact z ((I m.fields)-(i+1)) ω (i+1) rfl (k+1) ω (by rw[ad,ZHO,<-hk];rfl) (λj hj=>by
      by_cases ax:j=k;rw[ax,aw];exact aq;exact u j ω)
   simp at h1;obtain rfl:i=I m.fields:=ω;rw[ZH2,ae]at hk;subst hk;rw[ZeY u]at hS;rw[hS]at t;simp only[mfT,Option.getD_none]at t;refine rg ?_;refine rt t ?_;rfl
  exact av _ 0 rfl 0 ω rfl (by intro j hj;omega)
structure Zan(d:Dfn)(j i:Nat)(m:Msg)(f:Fld):Prop where
 nm:Yt f.name=true
 fresh:Yb m f.name i<0
 kind:1<=f.kind/\f.kind<=12
 ks:K5 d j m i f=0
def ZAY{d j i m f}(h:WX d j m i f=0):Zan d j i m f:=by
 unfold WX at h;split at h;· omega
 rename_i t;split at h;· omega
 rename_i h2;split at h;· omega
 rename_i n;split at h;· omega
 simp only[ZH0,decide_eq_true_eq,not_or,Int.not_lt]at n;exact⟨by simpa using t,ω,ω,h⟩
def ZbA.at_{d j m}(h:ZbA d j m){i}(n:i<I m.fields):Zan d j i m (m.fields.getD i dE):=ZAY (h.field i n)
def NmU(l:List Fld):Prop:=∀a b,a<b->b<I l->(l.getD a dE).name≠(l.getD b dE).name
def ZbA.nmU{d j m}(h:ZbA d j m):NmU m.fields:=λa b t n=>by
 have i:=ZbC (h.at_ n).fresh ((m.fields.take b).getD a dE) (Zm (by simp;omega));rw[KX t]at i;simpa using i
def ZuX{i s}(h:Zak i s=0):ZI s=true/\∀t∈s.terms,∃j,j<I i/\(i.getD j dE).name=t.field/\Yj (i.getD j dE)=true:=by
 unfold Zak at h;split at h;· omega
 rename_i hv;split at h;· omega
 rename_i ha;refine⟨by simpa using hv,λt z=>?_⟩;have n:=List.any_eq_false.1 (Bool.eq_false_iff.2 ha) t z;unfold YP Z4 at n;split at n;simp at n;rename_i h2;split at n;rename_i h3;have u:=Qc (show 0<=Zi (λf=>dC (f.name=t.field)) i by omega);have h5:=Ys (λf:Fld=>dC (f.name=t.field)) i;exact⟨_,ω,by simpa using u.1,h3⟩;simp at n
def ZAk{n:Int}(h:n<=32):(2:Int) ^ n.toNat<=4294967296:=by
 have h1:2 ^ n.toNat<=2 ^ 32:=Nat.pow_le_pow_right ω ω;have h2:(2:Int) ^ n.toNat=((2 ^ n.toNat:Nat):Int):=(Int.natCast_pow 2 n.toNat).symm;generalize 2 ^ n.toNat=p at *;omega
def ZjY{f}(h:KA f=0):(1<=f.bits/\f.bits<=32)/\0<=f.low/\f.low<=Zf9 f/\Zf9 f<4294967296:=by
 unfold KA Jy Zbr at h;split at h;· omega
 rename_i j;split at h;· omega
 rename_i i;simp only[ZH0,decide_eq_true_eq,not_or]at j i;have:=ZAk (n:=f.bits) ω;omega
def Zan.num{d j i m f}(h:Zan d j i m f)(u:Yj f=true):0<=f.low/\(f.kind=2->f.low<34359738368)/\(f.kind≠2->f.high<34359738368):=by
 have n:=h.ks;unfold Yj at u;simp only[ZHN,decide_eq_true_eq]at u;unfold K5 at n;rcases(by omega:f.kind=1\/f.kind=2\/f.kind=3) with h1|h1|h1<;>simp only[h1,ZIp,if_true,if_false]at n;have:=ZjY n;unfold Zf9 at this;rw[if_neg ω]at this;omega;have:=ZjY n;unfold Zf9 at this;rw[if_pos h1]at this;omega;by_cases t:ZgJ f.low f.high=true;unfold ZgJ at t;simp only[ZHN,decide_eq_true_eq]at t;omega;rw[if_neg t]at n;omega
def Zan.size{d j i m f}(h:Zan d j i m f)(hi:i<I m.fields)(hz:f.kind=4\/f.kind=7\/f.kind=12):ZI f.size=true/\∀t∈f.size.terms,∃k,k<i/\(m.fields.getD k dE).name=t.field/\Yj (m.fields.getD k dE)=true:=by
 have hs:Zak (m.fields.take i) f.size=0:=by have n:=h.ks;unfold K5 at n;rcases hz with hz|hz|hz<;>simp only[hz,ZIp,if_true,if_false]at n;exact n;split at n;omega;exact n;split at n;omega;split at n;omega;exact n
 obtain⟨hv,ht⟩:=ZuX hs;refine⟨hv,λt h1=>?_⟩;obtain⟨k,h2,u,z⟩:=ht t h1;have n:k<i:=by rw[ZHZ]at h2;omega
 rw[KX n]at u z;exact⟨k,n,u,z⟩
def Zan.tag{d j i m f}(h:Zan d j i m f)(hi:i<I m.fields)(h9:f.kind=9):∃k,k<i/\(m.fields.getD k dE).name=f.tag/\Yj (m.fields.getD k dE)=true:=by
 have n:=h.ks;unfold K5 at n;simp only[h9,ZIp,if_true,if_false]at n;split at n;omega;rename_i t;unfold Zej at t;simp only[ZH0,decide_eq_true_eq,Bool.not_eq_true',not_or]at t;have z:=Qc (show 0<=Yb m f.tag i by omega);have h5:=Ys (λg:Fld=>dC (g.name=f.tag)) (m.fields.take i);rw[ZHZ,show Zi (λg:Fld=>dC (g.name=f.tag)) (m.fields.take i)=Yb m f.tag i from rfl]at h5;have u:=z.1;rw[show(Zi (λg=>dC (g.name=f.tag)) (m.fields.take i))=Yb m f.tag i from rfl,KX ω]at u;exact⟨(Yb m f.tag i).toNat,ω,by simpa using u,by simpa using t.2.1⟩
def Zan.fok{d j i m f}(h:Zan d j i m f):FOk f:=by
 have n:=h.ks;unfold K5 at n;refine⟨λh1=>?_,λh1=>?_,λh1=>?_⟩;have:KA f=0:=by rcases h1 with h1|h1<;>simp only[h1,ZIp,if_true,if_false]at n<;>exact n
 have:=(ZjY this).1;omega;simp only[h1,ZIp,if_true,if_false]at n;split at n;omega;rename_i t;unfold ZfJ at t;unfold ZiA;simp only[ZHN,ZH0,decide_eq_true_eq,Bool.not_eq_true',decide_eq_false_iff_not]at t⊢;omega;simp only[h1,ZIp,if_true,if_false]at n;split at n;omega;rename_i t;simp only[ZH0,decide_eq_true_eq]at t;omega
def Zan.fref{d j i m f}(h:Zan d j i m f)(n:Zv6 d j f):Zjo d f:=by
 refine⟨h.kind,λt=>(n.ref f.of ?_).1,λt c u=>(n.ref c.of ?_).1⟩;unfold Z7 Qo;rw[if_pos (by simp;omega)];simp;unfold Z7;rw[if_pos t,List.mem_append];exact .inr (List.mem_map_of_mem u)
def WW.dok{d}(h:WW d):DOk d:=λm hm=>by
 obtain⟨j,n,rfl⟩:=ZfH hm;refine⟨(h.msg n).many,λf t=>?_⟩;obtain⟨i,u,rfl⟩:=ZfH t;exact((h.msg n).at_ u).fok
def WW.dref{d}(h:WW d):Zv4 d:=λm hm f u=>by
 obtain⟨j,n,rfl⟩:=ZfH hm;obtain⟨i,t,rfl⟩:=ZfH u;exact((h.msg n).at_ t).fref (h.fld n t)
def Q4:∀{l k},k<(vfs l).length->∃a,a<I l/\Y5 (l.getD a dE)=true/\k=(vfs (l.take a)).length/\(vfs l).getD k dE=l.getD a dE
 | [],k,h=>by simp[vfs]at h
 |f::r,k,h=>by
  by_cases i:Y5 f=true
  .have e:vfs (f::r)=f::vfs r:=by unfold vfs;rw[List.filter_cons,if_pos i]
   cases k with
   |zero=>exact⟨0,ψ,by simpa using i,rfl,by rw[e];rfl⟩
   |succ k =>rw[e]at h;obtain⟨a,z,j,n,u⟩:=Q4 (l:=r) (k:=k) (by simpa using h);refine⟨a+1,by simpa using z,by simpa using j,?_,by rw[e];simpa using u⟩;rw[List.take_succ_cons,show vfs (f::r.take a)=f::vfs (r.take a) by unfold vfs;rw[List.filter_cons,if_pos i],ZHW,n]
  have e:∀t,vfs (f::t)=vfs t:=λt=>by unfold vfs;rw[List.filter_cons,if_neg i]
  rw[e]at h;obtain⟨a,z,j,n,u⟩:=Q4 (l:=r) (k:=k) h;exact⟨a+1,by simpa using z,by simpa using j,by rw[List.take_succ_cons,e];exact n,by rw[e];simpa using u⟩
def ZlH{l:List Fld}{a b}(h:a<b)(hb:b<I l)(j:Y5 (l.getD a dE)=true):(vfs (l.take a)).length<(vfs (l.take b)).length:=by
 have n:=(Zh0 (l:=l.take b) (i:=a) (k:=(vfs (l.take a)).length) (by rw[List.take_take,Nat.min_eq_left ω]) (by simp;omega) (by rw[KX h];exact j)).1;exact n
def Zce(l:List Fld)(ps:List Val)(i:Nat):Int:=if (l.getD i dE).kind=2 then (l.getD i dE).low else (ps.getD (vfs (l.take i)).length dE).int
def Zir{f}(h:Yj f=true)(h2:¬f.kind=2):Y5 f=true:=by
 unfold Yj at h;unfold Y5;simp only[ZHN,decide_eq_true_eq,Bool.not_eq_true',decide_eq_false_iff_not]at h⊢;omega
def NmU.tail{f r}(h:NmU (f::r)):NmU r:=λa b ha i=>by
 have:=h (a+1) (b+1) ω (by simpa using i);simpa using this
def ZhX:∀{l ps i},i<I l->NmU l->Yj (l.getD i dE)=true->(Y5 (l.getD i dE)=true->(vfs (l.take i)).length<I ps)->Yr (l.getD i dE).name (Jl l ps)=Zce l ps i
 | [],_,_,h,_,_,_=>by simp at h
 |f::r,ps,0,_,_,hn,hp=>by
  simp only[List.getD_cons_zero]at hn hp⊢;unfold Zce Jl;simp only[List.getD_cons_zero];by_cases z:f.kind=2;rw[if_pos z,if_pos z];simp[Yr];have u:=Zir hn z;have h0:0<I ps:=by simpa[vfs]using hp u
  rw[if_neg z,if_neg z,if_pos u,hn,if_pos (by simp;omega)];simp[Yr,vfs]
 |f::r,ps,i+1,hi,hu,hn,hp=>by
  have n:=hu 0 (i+1) ω hi;simp only[List.getD_cons_zero,List.getD_cons_succ]at hn hp n⊢;have j:=hu.tail;unfold Jl;have e1:Yr (r.getD i dE).name ((if f.kind=2 then [(f.name,f.low)] else [])++(if Y5 f then (if (dC (0<(I ps:Int))&&Yj f) then [(f.name,(ps.getD 0 dE).int)] else [])++Jl r (ps.drop 1) else Jl r ps))=Yr (r.getD i dE).name (if Y5 f then Jl r (ps.drop 1) else Jl r ps):=by
   have sk:∀{c:Prop} [Decidable c] (x:Int) (t:List (Str×Int)),Yr (r.getD i dE).name ((if c then [(f.name,x)] else [])++t)=Yr (r.getD i dE).name t:=λx t=>by split;exact if_neg n;rfl
   rw[sk];split;rw[sk];rfl
  rw[e1];by_cases u:Y5 f=true;have e:vfs (f::r.take i)=f::vfs (r.take i):=by unfold vfs;rw[List.filter_cons,if_pos u]
  rw[List.take_succ_cons,e,ZHW]at hp;rw[if_pos u,ZhX (by simpa using hi) j hn (λh=>by have:=hp h;rw[ZIh];omega)];unfold Zce;simp only[List.getD_cons_succ];rw[List.take_succ_cons,e,ZHW];simp[ZHU,List.getElem?_drop,Nat.add_comm];have e:vfs (f::r.take i)=vfs (r.take i):=by unfold vfs;rw[List.filter_cons,if_neg u]
  rw[List.take_succ_cons,e]at hp;rw[if_neg u,ZhX (by simpa using hi) j hn hp];unfold Zce;simp only[List.getD_cons_succ];rw[List.take_succ_cons,e]
def Ziz{l ps E s}:∀{n},(∀k,k<n->Yj (l.getD k dE)=true->(l.getD k dE).name≠s)->Zw s (Zd6 l ps E n)=Zw s E
 |0,_=>rfl
 |n+1,h=>by rw[Zd6];split;rename_i hn;rw[QH,if_neg (λe=>h n ω hn e.symm)];exact Ziz λk hk=>h k ω;exact Ziz λk hk=>h k ω
def Ztz{l ps E k}:∀{n},k<n->Yj (l.getD k dE)=true->(∀j,k<j->j<n->(l.getD j dE).name≠(l.getD k dE).name)->Zw (l.getD k dE).name (Zd6 l ps E n)=sO (ps.getD k dE).int
 |0,h,_,_=>by omega
 |n+1,h,hn,hu=>by rw[Zd6];by_cases hk:k=n;subst hk;rw[if_pos hn,QH,if_pos rfl];have ih:=Ztz (E:=E) (ps:=ps) (show k<n by omega) hn (λj i h2=>hu j i ω);split;rw[QH,if_neg (λe=>hu n ω ω e.symm)];exact ih;exact ih
def Zty{l k}:∀{n},k<n->(l.getD k dE).kind=2->(∀j,k<j->j<n->(l.getD j dE).name≠(l.getD k dE).name)->Zw (l.getD k dE).name (Zc9 l n)=sO (l.getD k dE).low
 |0,h,_,_=>by omega
 |n+1,h,hn,hu=>by rw[Zc9];by_cases hk:k=n;subst hk;rw[if_pos hn,QH,if_pos rfl];have ih:=Zty (show k<n by omega) hn (λj i h2=>hu j i ω);split;rw[QH,if_neg (λe=>hu n ω ω e.symm)];exact ih;exact ih
def NmU.ne{l}(h:NmU l){a b}(i:a≠b)(n:a<I l)(j:b<I l):(l.getD a dE).name≠(l.getD b dE).name:=by
 rcases Nat.lt_or_gt_of_ne i with h1|h1;exact h a b h1 j;exact(h b a h1 n).symm
def Zvu{m}(hu:NmU m.fields)(ps){i}(z:i<I m.fields)(hn:Yj (m.fields.getD i dE)=true):Zw (m.fields.getD i dE).name (J4 m ps)=sO (Zce m.fields ps i):=by
 unfold J4 Zce;by_cases h2:(m.fields.getD i dE).kind=2;rw[if_pos h2,Ziz λk hk _=>?_];exact Zty z h2 λj h1 h3=>hu.ne ω h3 z;obtain⟨a,h3,u,_,h6⟩:=Q4 hk;rw[h6];refine hu.ne (λe=>?_) h3 z;rw[e]at u;unfold Y5 at u;rw[h2]at u;simp at u;have hv:=Zir hn h2;obtain⟨h3,u⟩:=Zh0 rfl z hv;rw[if_neg h2];have h5:=Ztz (l:=vfs m.fields) (ps:=ps) (E:=Zc9 m.fields (I m.fields)) h3 (by rw[u];exact hn) (λj h6 h7=>by
  obtain⟨a,h8,h9,n,t⟩:=Q4 h7;rw[t,u];exact hu.ne (λe=>by rw[e]at n;omega) h8 z)
 rw[u]at h5;exact h5
def ZyC{d j m}(hm:ZbA d j m){n v p k a i}(hi:i<I m.fields)(hk:k=(vfs (m.fields.take i)).length)(u:∀j,j<k->(ZaT d n m v p j).2=0)(ha:a<i)(hn:Yj (m.fields.getD a dE)=true):
  0<=Zce m.fields v.parts a/\Zce m.fields v.parts a<34359738368:=by
 have h1:=(hm.at_ (show a<I m.fields by omega)).num hn;unfold Zce;split;rename_i z;exact⟨h1.1,h1.2.1 z⟩;rename_i z;have hv:=Zir hn z;obtain⟨h3,h4⟩:=Zh0 rfl (show a<I m.fields by omega) hv;have t:=u _ (by rw[hk];exact ZlH ha hi hv);unfold ZaT at t;rw[h4]at t;generalize v.parts.getD (vfs (m.fields.take a)).length dE=x at *;generalize m.fields.getD a dE=f at *;split at t;simp at t;unfold Yj at hn;simp only[ZHN,decide_eq_true_eq]at hn;unfold Za3 at t;rw[if_pos ω]at t;split at t;simp at t;have:=h1.2.2 z;omega
def Zxf{m}(hu:NmU m.fields){ps}(u:W9 m ps=true){k}(hk:k<I ps):Yh ps k=(ps.getD k dE).name/\(ps.getD k dE).name=((vfs m.fields).getD k dE).name:=by
 unfold W9 at u;rw[decide_eq_true_eq]at u;have j:(vfs m.fields).length=I ps:=by simpa using congrArg List.length u
 have n:∀i,i<I ps->(ps.getD i dE).name=((vfs m.fields).getD i dE).name:=λi t=>by
  have z:((vfs m.fields).map (·.name))[i]?=(ps.map Val.name)[i]?:=by rw[u]
  simp[t,j]at z;simp[ZHU,t,j,z]
 refine⟨?_,n k hk⟩;have h0:Zdx ps k=0:=by unfold Zdx;rw[List.length_eq_zero_iff,List.filter_eq_nil_iff];intro x hx;obtain⟨i,t,rfl⟩:=ZfH hx;rw[ZHZ]at t;rw[KX ω,n i ω,n k hk];obtain⟨a,z,_,h3,h4⟩:=Q4 (l:=m.fields) (k:=i) ω;obtain⟨b,h5,_,h7,h8⟩:=Q4 (l:=m.fields) (k:=k) ω;rw[h4,h8,decide_eq_true_eq];exact hu.ne (λe=>by rw[e]at h3;omega) z h5
 unfold Yh;rw[if_pos h0]
def ZcG(a s):(Z5 a s).length<=I a+1+I s:=by
 unfold Z5;split;omega;simp;omega
def ZeD{ps}(hp:I ps<=5000)(i:∀y∈ps,I y.name<=32){k}(j:k<I ps):(Yh ps k).length<=5040:=by
 have h1:=i _ (Zm j);have h2:=ZnO ps k;have h3:=Zfy (Zdx ps k);unfold Yh;split;omega;simp only[ZHO,ZHW,List.length_nil];omega
structure VOk(v:Val):Prop where
 ok:ZW v=true
 wt:wtN v<=5000
def VOk.part{v x}(h:VOk v)(i:x∈v.parts):VOk x:=⟨YW h.ok i,Nat.le_trans (ZkY i) h.wt⟩
def VOk.few{v}(h:VOk v):I v.parts<=5000:=by
 have h1:=ZpN v;have h2:=h.wt;have h3:I v.parts<=nodesL v.parts:=by
  induction v.parts with
  |nil=>simp
  |cons x r ih=>have:=JL x;simp only[ZHW,nodesL];omega
 have h4:=JL v;omega
def VOk.node{v}(h:VOk v):(1<=I v.name/\I v.name<=32)/\(0<=v.int/\v.int<34359738368)/\I v.bytes<=1048576/\Zck v.hdrs:=by
 have i:=QU (Qf h.ok);exact⟨i.1,i.2.1,i.2.2.1,Zzc (Qf h.ok)⟩
def VOk.name{v}(h:VOk v):∀y∈v.parts,I y.name<=32:=λy i=>(h.part i).node.1.2
def ZvK{d}(j:WW d){n s y q}(u:0<=Zr d s (I d.msgs))(t:VOk y)(h:(Ym d n (Zl d s) y q).2=0):
  Zc ZHF 33 [.agg d.cells,.i (Zr d s (I d.msgs)),.agg y.cells] (.i (lenS d n (Zl d s) y)):=by
 have i:=Zab u;have z:=Zik j.dref n _ y q (j.dref.of s) t.ok h;rw[i.1];exact Zi7 d j.dok (by have:=j.many;omega) n (ixS d s) y i.2 t.ok t.wt z
def ZeN{d}(hd:WW d):∀(n im v p),im<I d.msgs->VOk v->ZL v<=n->I p+10200*n<=1000000 ->
  Zc ZHF 11 [.agg d.cells,.i im,.agg v.cells,.str p] (mfT (Ym d n (d.msgs.getD im dE) v p))
 |0,_,v,_,_,_,hh,_=>by have:=WJ v;omega
 |n+1,im,v,p,him,hv,hh,hp=>by
  have z:=hd.msg him;have hm40:=z.many;refine ZoF d n im him ω v p (by have:=hv.few;omega) (λy hy=>by have:=hv.name y hy;omega) ω λhr k hk ag hu=>?_;have hlen:(vfs (d.msgs.getD im dE).fields).length=I v.parts:=by unfold W9 at hr;rw[decide_eq_true_eq]at hr;simpa using congrArg List.length hr
  obtain⟨i,hi,hvv,al,aj⟩:=Q4 (l:=(d.msgs.getD im dE).fields) (k:=k) ω;have af:=z.at_ hi;have ab:=af.fref (hd.fld him hi);have ae:v.parts.getD k dE∈v.parts:=Zm hk;have u:=hv.part ae;have hql:(Z5 p (Yh v.parts k)).length<=I p+5041:=by have h1:=ZcG p (Yh v.parts k);have h2:=ZeD hv.few hv.name hk;omega
  have hxh:ZL (v.parts.getD k dE)<=n:=by have h1:=ZaK ae;have h2:=WJ v;omega
  have hG:=ZaT.eq_1 d n (d.msgs.getD im dE) v p k;rw[hu,if_neg ψ]at hG;have ah:=λa ha hn=>ZyC z (n:=n) (v:=v) (p:=p) hi al ag (a:=a) ha hn;have ac:∀a,a<i->Yj ((d.msgs.getD im dE).fields.getD a dE)=true->Yr ((d.msgs.getD im dE).fields.getD a dE).name (WU (d.msgs.getD im dE) v.parts)=Zce (d.msgs.getD im dE).fields v.parts a:=λa ha hn =>
   ZhX ω z.nmU hn λak=>by have:=ZlH ha hi ak;omega
  rw[hG,aj];generalize Z5 p (Yh v.parts k)=q at *;generalize v.parts.getD k dE=x at *;have hrec:∀s,0<=Zr d s (I d.msgs)->∀j,j<I x.parts->Zc ZHF 11 [.agg d.cells,.i (Zr d s (I d.msgs)),.agg (x.parts.getD j dE).cells,.str (Z5 q (Yh x.parts j))] (mfT (Ym d n (Zl d s) (x.parts.getD j dE) (Z5 q (Yh x.parts j)))):=λs hs j hj=>by have ai:=Zab hs;have ad:x.parts.getD j dE∈x.parts:=Zm hj;have h1:=ZcG q (Yh x.parts j);have h2:=ZeD u.few u.name hj;have h3:=ZaK ad;have h4:=WJ x;rw[ai.1];exact ZeN hd n (ixS d s) _ _ ai.2 (u.part ad) ω ω
  refine ZuR d _ x q _ (Ym d n) (lenS d n) (λhz=>?_) u.node.2.2.2 u.node.2.2.1 (λh12 h0=>?_) (by have:=u.few;omega) (λy hy=>by have:=u.name y hy;omega) ω (λh7 j hj=>?_) ab (λs hs=>?_);obtain⟨h1,h2⟩:=af.size hi hz;refine⟨h1,λt ht=>?_⟩;obtain⟨a,ha,am,hn⟩:=h2 t ht;rw[<-am,ac a ha hn];exact ah a ha hn;obtain⟨h1,h2⟩:=ZpS h0;exact⟨h1,ZvK hd (ab.ref ω) (u.part (Zm ω)) h2⟩;exact hrec _ (ab.ref ω) j hj;exact Zw5 d s x q (Ym d n) (by have:=u.few;omega) (λy hy=>by have:=u.name y hy;omega) ω λhl=>hrec s hs 0 ω
def ZiM(l)(hl:I l<=2000000)(st):Ze ZHF 50 [Zs l] st (λr s=>r=.ret (Zs l)/\s=st):=by
 refine Zh (cR 50 f50) λF z=>?_;by_cases h0:I l=0;have u:l=[]:=List.eq_nil_of_length_eq_zero h0;subst u;refine ZeT 0 rfl ?_ λb off cap=>?_
 skip
 refine rx (nd2 @Zs.eq_1 @eQ1) ?_;refine rg ?_;refine i1 ?_;refine rg ?_;exact z.ret _ st rfl φ (K7 (Y3 λb h=>by cases h)) ZHH ⟨rfl,rfl⟩
 skip
 refine rx (nd2 @Zs.eq_1 @eQ1) ?_;refine rg ?_;refine iG ?_;refine ZeS (s:=st) (t:=.full) (m:=0) (row2:=λ_=>[]) rfl rfl rfl rfl rfl φ φ (λg w v h=>Zgw h) trivial (by decide) (by unfold big;decide) λt1 j=>?_;refine gR0 ?_;exact z.ret _ st rfl φ (K7 ((ZQ.nil (f:=u8C)).le rfl)) (YH j) ⟨rfl,rfl⟩
 skip
 refine rx (nd2 @Zs.eq_1 @eQ1) ?_;refine gA ?_;refine iG ?_;refine K3 (st) (.full) rfl rfl rfl rfl rfl rfl φ φ rfl (by first|trivial|assumption) ω (by (unfold big;omega)) λt1 j=>Zn ?_;simp only[Eqs,reduceCtorEq,ZHK,reduceIte,ZHI,ZHM,ZHJ];have n:ZQ u8C (YA 0 (ZY [.int .u8 0] ([].zip [])) λi=>u8C (l.getD i dE)) ([]++l):=ZQ.nil.app ZQ.self rfl;exact z.ret _ st rfl φ (K7 (n.le ψ)) (YH j) ⟨rfl,rfl⟩
def Zhe(l)(hl:I l<=2000000)(st):Ze ZHF 51 [Zx l] st (λr s=>r=.ret (Zx l)/\s=st):=by
 refine Zh (cR 51 f51) λF z=>?_;by_cases h0:I l=0;have u:l=[]:=List.eq_nil_of_length_eq_zero h0;subst u;refine ZeT 0 rfl ?_ λb off cap=>?_
 skip
 refine rx (nd2 @Zx.eq_1 @eQ1) ?_;refine rg ?_;refine i1 ?_;refine rg ?_;exact z.ret _ st rfl φ (K7 (Y3 λb h=>by cases h)) ZHH ⟨rfl,rfl⟩
 skip
 refine rx (nd2 @Zx.eq_1 @eQ1) ?_;refine rg ?_;refine iG ?_;refine ZeS (s:=st) (t:=.full) (m:=0) (row2:=λ_=>[]) rfl rfl rfl rfl rfl φ φ (λg w v h=>Zgw h) trivial (by decide) (by unfold big;decide) λt1 j=>?_;refine gR0 ?_;exact z.ret _ st rfl φ (K7 ((ZQ.nil (f:=Hdr.cells)).le rfl)) (YH j) ⟨rfl,rfl⟩
 skip
 refine rx (nd2 @Zx.eq_1 @eQ1) ?_;refine gA ?_;refine iG ?_;refine K3 (st) (.full) rfl rfl rfl rfl rfl rfl φ φ rfl (by first|trivial|assumption) ω (by (unfold big;omega)) λt1 j=>Zn ?_;simp only[Eqs,reduceCtorEq,ZHK,reduceIte,ZHI,ZHM,ZHJ];have n:ZQ Hdr.cells (YA 0 (ZY [.str [],.str []] ([].zip [])) λi=>Hdr.cells (l.getD i dE)) ([]++l):=ZQ.nil.app ZQ.self rfl;exact z.ret _ st rfl φ (K7 (n.le ψ)) (YH j) ⟨rfl,rfl⟩
def ZuA(row n):(ZHT n).flatMap row=Z1 row n:=by
 induction n with
 |zero=>rfl
 |succ n ih=>rw[List.range_succ,List.flatMap_append,ih,Z1];simp
def Zjg(st):Ze ZHF 52 [ZF []] st (λr s=>r=.ret (ZF [])/\s=st):=by
 refine Zh (cR 52 f52) λF z=>?_;have hz:∀(tk:Tok) (row:Nat->List D),(D.sl tk 0 5 row).Le (ZF []):=λtk row g w v hv=>by
  cases hv with
  |sl0 a _ _ _ ht=>exact .sl0 _ _ _ _ ψ
  |sl b o n cap s row t f hl hc hp hr one ht hcap hb=>exact .sl _ _ _ _ _ _ _ f (λi hi=>by omega) hc hp (λi j d hi=>by omega) one trivial hcap hb
 refine ZeT 0 rfl ?_ λb off cap=>?_
 skip
 refine gG ?_;refine i1 ?_;refine rg ?_;exact z.ret _ st rfl φ (K7 (Y3 λb h=>by cases h)) ZHH ⟨rfl,rfl⟩
 skip
 refine gG ?_;refine iG ?_;refine ZeS (s:=st) (t:=.full) (m:=0) (row2:=λ_=>[]) rfl rfl rfl rfl rfl φ φ (λg w v h=>Zgw h) trivial (by decide) (by unfold big;decide) λt1 u=>?_;refine gR0 ?_;exact z.ret _ st rfl φ (K7 (hz _ _)) (YH u) ⟨rfl,rfl⟩
def Zjh(l)(hl:I l<=1000000)(t:0<I l)(st):Ze ZHF 52 [ZF l] st λr S=>∃b c X,st b=nO/\I l<=c/\r=.ret (.msl b 0 (I l) c 5)/\S=st.upd b (.cells (Z1 (J5 l) (I l)++X)):=by
 refine Zh (cR 52 f52) λF n=>?_;have i:=ZuA (J5 l) (I l);refine rx @ZF.eq_1 ?_;refine gA ?_;refine iG ?_;refine Zpn rfl rfl rfl rfl rfl rfl φ φ (by exact t) ω (by unfold big;omega) λb z u j=>Zn ?_;simp only[Eqs,reduceCtorEq,ZHK,reduceIte,ZHI,ZHM,ZHJ];rw[i];exact n.ret _ _ rfl φ (ZHL _) ZHH ⟨b,z,_,u,j,rfl,rfl⟩
structure CpI(T A:St)(v:Val)(x:Nat)(row:Nat->List D)(f:Nat->List Nat)(X:List D)(i:Nat):Prop where
 b:A x=some (.cells (Z1 row (I v.parts)++X))
 x0:T x=none
 done:∀j,j<i->j<I v.parts->MT A (v.parts.getD j default) (row j) (f j)
 rest:∀j,i<=j->j<I v.parts->row j=(v.parts.getD j default).cells
 n:∀j,j<i->x∉f j
 fr:∀j,j<i->∀y∈f j,T y=none
 d:∀j k,j<i->k<i->j≠k->∀y∈f j,y∉f k
 out:∀y,y≠x->(∀j,j<i->y∉f j)->A y=T y
def CpI.len{T A v x row f X i}(h:CpI T A v x row f X i):∀j,j<I v.parts->(row j).length=5:=λj n=>by
 by_cases t:j<i;exact(h.done j t n).len;rw[h.rest j ω n];exact Val.len _
def Zmq{c d}(h:I c=I d):Zq c 0 d=d:=by
 unfold Zq;rw[List.take_zero,Nat.zero_add,ZIo ω];simp
def CpI.step{T A v x row f X i}(h:CpI T A v x row f X i)(hi:i<I v.parts){S c fp}(hm:MT S (v.parts.getD i dE) c fp)(hf:∀y∈fp,A y=nO)(ho:∀y,y∉fp->S y=A y):CpI T (S.upd x (.cells (Zq (Z1 row (I v.parts)++X) (i*5) c))) v x (λj=>if j=i then c else row j) (λj=>if j=i then fp else f j) X (i+1):=by
 have hx:x∉fp:=λhx=>by have:=hf x hx;rw[h.b]at this;simp at this
 have hj:∀j,j<i->∀y∈f j,y∉fp:=λj hj y n u=>by obtain⟨ds,ad⟩:=(h.done j hj ω).live y n;have:=hf y u;rw[ad]at this;simp at this
 have ac:∀{y:Nat},y≠x->(S.upd x (.cells (Zq (Z1 row (I v.parts)++X) (i*5) c))) y=S y:=λn=>ZHQ _ _ n;refine⟨?_,h.x0,λj t ab=>?_,λj t ab=>?_,λj t=>?_,λj t y n=>?_,λj k t hk1 ae y n=>?_,λy n u=>?_⟩;rw[ZHP];have:=Zem X 0 c (by rw[hm.len];decide) (λj hj=>h.len j hj) hi;rw[Nat.add_zero]at this;rw[this,Zmq (by rw[h.len i hi,hm.len])];by_cases e:j=i;subst e;rw[if_pos rfl,if_pos rfl];exact hm.mono λy n=>ac λe=>hx (e▸n);rw[if_neg e,if_neg e];refine(h.done j ω ab).mono λy n=>?_;rw[ac (λe2=>h.n j ω (e2▸n))];exact ho y (hj j ω y n);rw[if_neg ω];exact h.rest j ω ab;by_cases e:j=i;rw[if_pos e];exact hx;rw[if_neg e];exact h.n j ω;by_cases e:j=i;rw[if_pos e]at n;have h1:=hf y n;rw[h.out y (λe2=>hx (e2▸n)) (λk hk z=>hj k hk y z n)]at h1;exact h1;rw[if_neg e]at n;exact h.fr j ω y n;by_cases e:j=i;rw[if_pos e]at n;rw[if_neg ω];exact λz=>hj k ω y z n;rw[if_neg e]at n;by_cases e2:k=i;rw[if_pos e2];exact hj j ω y n;rw[if_neg e2];exact h.d j k ω ω ae y n;have h1:=u i ω;rw[if_pos rfl]at h1;rw[ac n,ho y h1];refine h.out y n λj hj=>?_;have:=u j ω
 rwa [if_neg ω]at this
def CpI.fin{T A v x cap row f X}(h:CpI T A v x row f X (I v.parts))(t:0<I v.parts)(z:I v.parts<=cap):
  ∃fp,MT A v [.str v.name,.i v.int,Zs v.bytes,Zx v.hdrs,.msl x 0 (I v.parts) cap 5] fp/\(∀y∈fp,T y=nO)/\∀y,y∉fp->A y=T y:=by
 refine⟨x::(ZHT (I v.parts)).flatMap f,MN.mt ⟨rfl,h.b,z,λj i=>h.done j i i,λj i=>h.n j i,λj k i u=>h.d j k i u,rfl⟩ t,λy n=>?_,λy n=>?_⟩;simp only[ZIj,List.mem_flatMap,List.mem_range]at n;rcases n with rfl|⟨j,i,n⟩;exact h.x0;exact h.fr j i y n;simp only[ZIj,List.mem_flatMap,List.mem_range,not_or,not_exists,not_and]at n;exact h.out y n.1 λj i=>n.2 j i
structure SmV(v:Val):Prop where
 b:I v.bytes<=2000000
 h:I v.hdrs<=2000000
 p:I v.parts<=1000000
def VOk.sm{v}(h:VOk v):SmV v:=by
 have h1:=QU (Qf h.ok);have i:=h.wt;have j:∀l:List Val,10*I l<=wtL l:=λl=>by
  induction l with
  |nil=>simp
  |cons x r ih=>have:=ZbN x;simp only[wtL,ZHW];omega
 have h4:=j v.parts;rw[ZbN]at i;exact⟨ω,ω,ω⟩
def ZrT(v):VOk v->∀T:St,Ze ZHF 23 [.agg v.cells] T λr S=>∃c fp,r=.ret (.agg c)/\MT S v c fp/\(∀y∈fp,T y=nO)/\∀y,y∉fp->S y=T y:=by
 induction v using Val.ind with
 |h v ih =>
  intro hv T;have hs:=hv.sm;have hsb:=hs.b;have hsh:=hs.h;have ah:=hs.p;refine Zh (cR 23 f23) λF hF=>?_;rw[v.cells_eq];refine gG ?_;have c9:=(ZiM v.bytes ω T);refine cVD (c9) ?_ ?_;rintro dd S ⟨hr,hS⟩;obtain rfl:=hS.symm;cases hr;refine kF ?_;refine gR0 ?_;have c9:=(Zhe v.hdrs ω T);refine cVD (c9) ?_ ?_;rintro dd S ⟨hr,hS⟩;obtain rfl:=hS.symm;cases hr;refine kF ?_;refine gR0 ?_;by_cases h0:I v.parts=0;have u:v.parts=[]:=List.eq_nil_of_length_eq_zero h0;rw[u];refine cVD ((Zjg T)) ?_ ?_;rintro dd S ⟨hr,hS⟩;obtain rfl:=hS.symm;cases hr;refine kF ?_;refine gR0 ?_;refine aa ?_;refine rx @KU ?_;refine Zb (Za9 ?_);refine rg ?_;refine iG ?_;exact hF.ret _ T rfl ψ (ZHL _) ZHH ⟨_,[],rfl,by cases v;simp only[Val.parts]at u;subst u;exact .leaf _ _ _ _,ψ,λ_ _=>rfl⟩;rintro d S ⟨hr,_⟩;cases hr
  skip
  have c9:=(Zjh v.parts ah ω T);refine cVD (c9) ?_ ?_;rintro dd S ⟨x,c,X,hx,hc,hr,hS⟩;subst hS;cases hr;refine kF ?_;refine gR0 ?_;refine aa ?_;refine rg ?_;refine Zb (fr (I v.parts) (λi Q=>∀row f A,CpI T A v x row f X i->i<=I v.parts->Q [(1,.loc 1 0),(2,.loc 2 0),(18,.d (.i (I v.parts))),(19,.d (.i i))] [(1,[.str v.name,.i v.int,Zs v.bytes,Zx v.hdrs,.msl x 0 (I v.parts) c 5]),(2,[.str [],.i 0,.nilsl,.nilsl,.nilsl])] A) (λn ab=>?_) λag=>?_);intro i hn row f A hA hi;refine rg ?_;refine Zd (Zt rfl trivial (λhd=>?_) (λhd=>?_));simp only[decide_eq_true_eq]at hd;have z:i<I v.parts:=ω;have t:=KS X hA.len z;unfold part at t;rw[hA.rest i (ZHV _) z]at t;have ac:=Y6 hA.len;have hb:=hA.b;refine rg ?_;refine rx (nd2 @hb @t) ?_;refine⟨ω,ω,by rw[ZHO,ac];omega,?_⟩;refine cVD (ih _ (Zm z) (hv.part (Zm z)) A) ?_ ?_;rintro dd S ⟨cc,fp,hr,hm,hf,ho⟩;cases hr;have ae:S x=A x:=ho x λhx=>by have:=hf x hx;rw[hb]at this;simp at this
  rw[hb]at ae;have ad:=hA.step z hm hf ho;have af:=hm.len;unfold Zq at ad;rw[af]at ad;refine kF ?_;refine gQ (nd2 @ae @af) ?_;refine⟨ω,ω,by rw[ZHO,ac];omega,?_⟩;refine gA ?_;refine Za ?_;exact ab ((I v.parts)-(i+1)) ω (i+1) rfl _ _ _ ad ω;rintro d S ⟨_,_,hr,_⟩;cases hr;simp only[decide_eq_false_iff_not]at hd;obtain rfl:i=I v.parts:=ω;obtain⟨fp,h1,h2,h3⟩:=hA.fin ω hc;refine rg ?_;exact hF.ret _ A rfl ψ (ZHL _) ZHH ⟨_,fp,rfl,h1,h2,h3⟩;exact ag _ 0 rfl (J5 v.parts) (λ_=>[]) _ ⟨ZHP _ _ _,hx,λj hj=>by omega,λj _ hj=>ZcL hj,λj hj=>by omega,λj hj=>by omega,λj k hj=>by omega,λy hy _=>ZHQ _ _ hy⟩ ω;rintro d S ⟨_,_,_,_,_,hr,_⟩;cases hr;rintro d S ⟨hr,_⟩;cases hr;rintro d S ⟨hr,_⟩;cases hr
def ckN(st:St)(nm:Str)(b5 b6 b7 b8 b9:Nat):St :=
 ((((st.upd b5 (.cells [.str nm])).upd b6 (.cells [.nilmap])).upd b7 (.cells [.fn (.func 109) [] []])).upd b8 (.cells [.i 0])).upd b9 (.cells [.bool false])
section
variable {st:St} {b5 b6 b7 b8 b9:Nat} {nm:Str}
def YS.m5(h:YS st b5 b6 b7 b8 b9):(ckN st nm b5 b6 b7 b8 b9) b5=sO (.cells [.str nm]):=by
 simp[ckN,ZIi,h.n6.1.symm,h.n7.2.1.symm,h.n8.2.2.1.symm,h.n9.2.2.2.1.symm]
def YS.m6(h:YS st b5 b6 b7 b8 b9):(ckN st nm b5 b6 b7 b8 b9) b6=sO (.cells [.nilmap]):=by
 simp[ckN,ZIi,h.n7.1.symm,h.n8.2.1.symm,h.n9.2.2.1.symm]
def YS.m8(h:YS st b5 b6 b7 b8 b9):(ckN st nm b5 b6 b7 b8 b9) b8=sO (.cells [.i 0]):=by
 simp[ckN,ZIi,h.n9.1.symm]
def YS.m9:(ckN st nm b5 b6 b7 b8 b9) b9=sO (.cells [.bool false]):=by
 simp[ckN,ZIi]
def YS.msub(h:YS st b5 b6 b7 b8 b9):st.sub (ckN st nm b5 b6 b7 b8 b9):=λc o i=>by
 have n:c≠b5:=λe=>by rw[e,h.n5]at i;simp at i
 have t:c≠b6:=λe=>by rw[e,h.n6.2]at i;simp at i
 have z:c≠b7:=λe=>by rw[e,h.n7.2.2]at i;simp at i
 have j:c≠b8:=λe=>by rw[e,h.n8.2.2.2]at i;simp at i
 have u:c≠b9:=λe=>by rw[e,h.n9.2.2.2.2]at i;simp at i
 simp[ckN,ZIi,n,t,z,j,u,i]
def ZBh(h:YS st b5 b6 b7 b8 b9){H L}(hρ:ZS H 8=sO (.d (.ptr b8 0)):=by rfl):
  YK H L (ckN st nm b5 b6 b7 b8 b9) [.cell1 8]=sO (True/\True,[.i 0]):=by
 simp[YK,Ks,hρ,Wx,Ye,h.m8]
end
def Znh(s)(hv:ZI s=true)(nm st)(hk:∀t∈s.terms,t.field=nm):
  Ze ZHF 108 [.agg s.cells,.str nm,.nilmap,.fn (.func 109) [] []] st (λr S=>r=.ret (.i 0)/\S=st):=by
 refine Zh (cR 108 f108) λF hF=>?_;refine rx @eQ4 ?_;refine rx @eQ4 ?_;refine cl (ZaG s) ?_;rw[hv];refine iG ?_;refine Zd (Zd ?_);refine xP 5 λb5 h5=>?_;refine xP 6 λb6 h6=>?_;refine xP 7 λb7 h7=>?_;refine xP 8 λb8 h8=>?_;refine xP 9 λb9 h9=>?_;refine rx @eQ4 ?_;refine cV (Zci s hv) ?_ ?_;rintro d S ⟨x,hx,hd,rfl⟩;cases hd;refine gR0 ?_;refine Zb ?_;have i:YS st b5 b6 b7 b8 b9:=by have k6:=Zv h6;have k7:=Zv h7;have aj:=Zv k7.2;have k8:=Zv h8;have ad:=Zv k8.2;have al:=Zv ad.2;have k9:=Zv h9;have ab:=Zv k9.2;have ac:=Zv ab.2;have ak:=Zv ac.2;exact⟨h5,k6,⟨k7.1,aj⟩,⟨k8.1,ad.1,al⟩,⟨k9.1,ab.1,ac.1,ak⟩⟩
 have hfew:=JD hv;rw[show(((((st.upd b5 (.cells [.str nm])).upd b6 (.cells [.nilmap])).upd b7 (.cells [.fn (.func 109) [] []])).upd b8 (.cells [.i 0])).upd b9 (.cells [.bool false]))=ckN st nm b5 b6 b7 b8 b9 from rfl]at hx⊢;refine KM hF rfl trivial [5,6,7,8,9] (by show([5,6,7,8,9]:List Nat).Nodup;decide) (WD hx) (Za4 s.terms (by unfold big;omega) x).Y (λj hj=>rfl)
  (λj=>.next) (λj a=>a=ckN st nm b5 b6 b7 b8 b9) rfl ?_ ?_ ?_ ?_ ?_ ?_
 intro j a hj u hB F' ready busy hdr af z;subst hB;simp only[Eqs,reduceCtorEq,ZHK,reduceIte,ZHI,ZHM,ZHJ,WT,Kc,Jk,Kq,List.isEmpty_nil,List.isEmpty_cons];refine rg ?_;refine af λah=>?_;have ag:=hk _ (Zm hj);generalize htm:s.terms.getD j dE=tm at *;subst ag;have e3:=Wr ZX tm.field;simp only[show Qa tm.field=D.str tm.field from rfl]at e3;have ae:(ckN st tm.field b5 b6 b7 b8 b9).upd b8 (.cells [.i 0])=ckN st tm.field b5 b6 b7 b8 b9:=St.upd_self i.m8;refine rh ?_;refine Zn ?_;simp only[Eqs,reduceCtorEq,ZHK,reduceIte,ZHI,ZHM,ZHJ,Zu (i.m6 ),e3];refine rh ?_;refine Zn ?_;simp only[Eqs,reduceCtorEq,ZHK,reduceIte,ZHI,ZHM,ZHJ,Zu (i.m5 )];refine i1 ?_;refine Zp (Zf (Zf ?_));exact z.fin ⟨rfl,rfl⟩ ah ZHH;intro q a u hB hq;subst hB;rw[Qt hq];have ai:=WD (o:=Jo.dfr) hq;have ae:(ckN st nm b5 b6 b7 b8 b9).upd b8 (.cells [.i 0])=ckN st nm b5 b6 b7 b8 b9:=St.upd_self i.m8;refine rh ?_;refine Zn ?_;simp only[Eqs,reduceCtorEq,ZHK,reduceIte,ZHI,ZHM,ZHJ,Zu (YS.m9 )];refine i0 ?_;refine rh ?_;refine Zn ?_;simp only[Eqs,reduceCtorEq,ZHK,reduceIte,ZHI,ZHM,ZHJ,Zu (i.m8 ),W7,ae];exact hF.ret1 (Zgk ai YE) (.i 0) st (ZBh i) ⟨trivial,trivial⟩ (ZHL _) i.msub ⟨rfl,rfl⟩;intro q a m hm u n;simp at n;intro q a m id hm u n;simp at n;intro q a m d hm u n;simp at n;intro m c n;simp at n;rintro d S ⟨x,hx,hd,rfl⟩;cases hd
def Zjb{s}(h:ZI s=true):∀t∈s.terms,t.factor≠0:=by
 unfold ZI at h;simp only[ZHN]at h;have:∀(i:List Str) (l:List Yn),Kt i l=true->∀t∈l,t.factor≠0:=by
  intro i l;induction l generalizing i with
  |nil=>intro _;simp
  |cons t r ih =>intro j;simp only[Kt,KY,ZHN,Bool.not_eq_true',decide_eq_false_iff_not]at j;intro x hx;rcases List.mem_cons.1 hx with rfl|hx;exact j.1.1.1.2;exact ih _ j.2 x hx
 exact this [] s.terms h.2
def Zdm(t:Yn)(base n:Int):Option Int :=
 if n<=1152921504606846976/\-1152921504606846976<=n/\(n-base).tmod t.factor=0/\0<=(n-base).tdiv t.factor/\(n-base).tdiv t.factor<34359738368 then sO ((n-base).tdiv t.factor) else nO
def ZhU(o:Option Int):D:=match o with
 |some n=>.tup [.i n,.i 0]
 |none=>.tup [.i 0,.i 9]
def Zo3{t:Yn}{z nm st}(n:st z=sO (.cells [.str nm])):ZU ZHF 111 [.agg t.cells,.ptr z 0] st (.bool (dC (t.field=nm))) st:=by
 refine ZK (cR 111 f111) λj F i=>?_;clear j;refine rx @eQ8 ?_;refine rx @n ?_;exact i rfl φ (ZHL _) ZHH
def Zo4(t:Yn){z nm d st}(u:st z=sO (.cells [.str nm]))(n:t.field=nm):ZU ZHF 113 [.agg t.cells,.ptr z 0,d] st (.i 0) st:=by
 refine ZK (cR 113 f113) λj F i=>?_;clear j;refine rx @eQ8 ?_;refine rx @u ?_;refine Zt rfl trivial (λ_=>?_) (λh=>by simp at h;exact absurd n h);refine rg ?_;exact i rfl φ (ZHL _) ZHH
def ZrN(s)(hv:ZI s=true)(t)(ht:s.terms=[t])(n st):
  Ze ZHF 58 [.agg s.cells,.str t.field,.i n,.nilmap] st (λr S=>r=.ret (ZhU (Zdm t s.base n))/\S=st):=by
 have ad:=Za7 hv;have z:=Zjb hv t (by rw[ht];simp);have hts:=ad.2 t (by rw[ht];simp);refine Zh (cR 58 f58) λF hF=>?_;refine rx @eQ4 ?_;refine rx @eQ4 ?_;refine Zhj rfl rfl rfl rfl rfl φ φ (by exact Znh s hv t.field st (λu hu=>by rw[ht]at hu;simp at hu;rw[hu])) ?_ ?_;rintro d S ⟨hd,hS⟩;obtain rfl:=hS.symm;cases hd;refine gR0 ?_;refine gI ?_;refine Zp (Zd ?_);refine xP 5 λz5 h5=>?_;refine xP 7 λz7 h7=>?_;refine rx @eQ4 ?_;have af:z5≠z7:=λe=>by rw[<-e,ZHP]at h7;simp at h7
 have ab:((st.upd z5 (.cells [.str t.field])).upd z7 (.cells [.nilmap])) z5=sO (.cells [.str t.field]):=by rw[ZHQ _ _ af,ZHP]
 have j:st.sub ((st.upd z5 (.cells [.str t.field])).upd z7 (.cells [.nilmap])):=ZIn (ZH6 _ h5) (ZH6 _ h7);generalize ((st.upd z5 (.cells [.str t.field])).upd z7 (.cells [.nilmap]))=S at *;have ae:Zi (λu:Yn=>dC (u.field=t.field)) s.terms=0:=by rw[ht];simp[Zi]
 refine ct (Zf4 s.terms (.fn (.func 111) [] [.ptr z5 0]) (λu=>dC (u.field=t.field)) (λ_=>S) (λi _=>(Zo3 ab).VT (first:=[]) (args:=[_]) (caps:=[_]))) ?_;rw[ae];refine rg ?_;have hS:=Zdm.eq_1 t s.base n;refine cd (λh1=>?_) (λh1=>?_);refine rg ?_;exact hF.ret _ st rfl φ (K4 rfl rfl) j ⟨by rw[hS,if_neg (by simp at h1;omega)];rfl,rfl⟩;simp at h1;refine rx @eQ4 ?_;refine JS rfl rfl rfl rfl rfl φ φ (by exact ZdQ s hv (.fn (.func 113) [] [.ptr z5 0,.ptr z7 0]) (λ_=>0) S (λu hu=>by omega) (λu hu=>(Zo4 u ab (by rw[ht]at hu;simp at hu;rw[hu])).VT (first:=[]) (args:=[_]) (caps:=[_,_]))) (Zn ?_);simp only[Eqs,reduceCtorEq,ZHK,reduceIte,ZHI,ZHM,ZHJ];have ac:s.base+Qb (λ_=>0) s.terms=s.base:=by rw[ht];simp[Qb]
 rw[ac];refine aa ?_;have ag:s.terms.getD 0 dE=t:=by rw[ht];rfl
 have ah:I s.terms=1:=by rw[ht];rfl
 refine xA (nd2 @eQ6 (nd2 @eQ1 (nd2 @ag (nd2 @ah @eQ8)))) ?_;have hq1:((n-s.base).tdiv t.factor).natAbs<=(n-s.base).natAbs:=by rw[Int.natAbs_tdiv];exact Nat.div_le_self _ _
 have hq2:((n-s.base).tmod t.factor).natAbs<=(n-s.base).natAbs:=by rw[Int.natAbs_tmod];exact Nat.mod_le _ _
 refine rg ?_;refine⟨z,ω,ω,λ_=>⟨z,ω,ω⟩,?_⟩;refine cG (ZgD ((n-s.base).tdiv t.factor)) ?_;refine aa ?_;refine cd (λh2=>?_) (λh2=>?_);refine rg ?_;exact hF.ret _ st rfl φ (K4 rfl rfl) j ⟨by rw[hS,if_neg (by simp at h2;omega)];rfl,rfl⟩;refine rg ?_;refine⟨z,ω,ω,?_⟩;exact hF.ret _ st rfl φ (K4 rfl rfl) j ⟨by rw[hS,if_pos (by simp at h2;omega)];rfl,rfl⟩;rintro d S ⟨hd,_⟩;cases hd
abbrev Zpa(l:List Str):D:=slD 1 Zcw l
def ZhS(l)(hl:I l<=1000000)(f st)(hf:∀x∈l,VT ZHF f [.str x] st (.bool false) st):ZU ZHF 245 [Zpa l,f] st (.i (-1)) st:=by
 refine ZK (cR 245 f245) λ_ F t=>?_;refine rg ?_;refine rx @eQ1 ?_;refine Zb (fr (I l) (λi Q=>i<=I l->Q [(0,.d (Zpa l)),(1,.d f),(7,.d (.i (I l))),(8,.d (.i i))] [] st) (λn j=>?_) λz=>?_);intro i hn hi;refine rg ?_;refine Zd (Zt rfl trivial (λh1=>?_) (λh1=>?_));simp at h1;have u:=hf _ (Zm h1);refine rg ?_;refine xA (nd2 @eQ1 @Zcw.eq_1) ?_;refine cW (u) ?_;refine i0 ?_;refine gA ?_;refine Za ?_;exact j ((I l)-(i+1)) ω (i+1) rfl ω;refine rg ?_;exact t rfl φ (ZHL _) ZHH;exact z _ 0 rfl ω
def Zhf(l)(n:I l<=1000000)(f st)(t:∀x∈l,VT ZHF f [.str x] st (.bool false) st):ZU ZHF 203 [Zpa l,f] st (Zpa l) st:=by
 refine ZK (cR 203 f203) λ_ F i=>?_;have j:=ZhS l n f st t;refine gG ?_;refine ct (j) ?_;refine aa ?_;refine rg ?_;refine i1 ?_;refine rg ?_;exact i rfl φ (ZHL _) ZHH
def Zqb{a s}(u:a≠[])(hs:s≠[])(hl:I a<=10000000)(hl2:I s<=10000000):Zc ZHF 151 [Zpa [a,s]] (.str (Z5 a s)):=by
 refine Zg (cR 151 f151) λF st j=>?_;have t:=Zhf [a,s] ψ (.fn (.func 204) [] []) st (λx hx=>by
  have h:=(ZgB x).VT (first:=[]) (args:=[_]) (caps:=[]) st;rw[decide_eq_false (λe=>by rw[e]at hx;simp at hx;rcases hx with hx|hx<;>simp_all)]at h;exact h)
 have i:joinL [a,s] [46]=Z5 a s:=by simp[joinL,Z5,u,List.intercalate]
 have n:=Zdn [a,s] ψ (by rw[i];have:=ZcG a s;omega);rw[i]at n;refine gG ?_;refine ct (t) ?_;refine cl (n) ?_;refine rs j ?_;rfl
def ZqW{a s}(u:a≠[])(n:s≠[])(t:I a<=10000000)(j:I s<=10000000):Zc ZHF 151 [.sl .full 2 1 (ZY [.str []] ([0,1].zip [.str a,.str s]))] (.str (Z5 a s)) :=
 Zc.leA (LeC.one (ZAL rfl λi hi=>by rcases(by omega:i=0\/i=1) with rfl|rfl<;>rfl)) (Zqb u n t j)
def ZN(r:Str×Int)(st:St)(x:Res)(S:St):Prop:=S=st/\x=mfR r.1 r.2
def WA(a b:Str×Int):Str×Int:=if a.2=0 then b else a
def mfK{r st}{A:D->St->Prop}(h:r.2=0->A (.tup []) st):∀d S,ZN r st (.ret d) S->A d S:=λd S ⟨n,i⟩=>by
 subst n;unfold mfR at i;split at i;rename_i j;cases i;exact h j;cases i
def mfP{r st}{A:D->St->Prop}(h:¬r.2=0->A (mfD r.1 r.2) st):∀d S,ZN r st (.panic d) S->A d S:=λd S ⟨n,i⟩=>by
 subst n;unfold mfR at i;split at i;cases i;rename_i j;cases i;exact h j
def ZN.ok{r st}(h:r.2=0):ZN r st (.ret (.tup [])) st:=⟨rfl,by unfold mfR;rw[if_pos h]⟩
def ZN.bad{r R st}(h:¬r.2=0)(i:R=r):ZN R st (.panic (mfD r.1 r.2)) st:=by
 subst i;exact⟨rfl,by unfold mfR;rw[if_neg h]⟩
def K6{a b}(h:a.2=0):WA a b=b:=if_pos h
def KE{a b}(h:¬a.2=0):WA a b=a:=if_neg h
def KO(fine q no)(i:¬no=0)(st):Ze ZHF 116 [.bool fine,.str q,.i no] st (ZN (q,if fine then 0 else no) st) :=
 (ZeO fine q no st).mono λr S ⟨n,j⟩=>⟨n,by rw[j];cases fine<;>simp[mfR,i]⟩
def ZkB(a b q st):Ze ZHF 155 [.i a,.i b,.str q] st (ZN (q,K1 a b) st) :=
 (ZuV a b q st).mono λr S ⟨i,j⟩=>⟨i,j⟩
def Zpe(n b h p:Bool)(x:Val):Bool:=(((n ||decide (x.int=0))&&(b ||decide ((I x.bytes:Int)=0)))&&(h ||decide ((I x.hdrs:Int)=0)))&&(p ||decide ((I x.parts:Int)=0))
def Zdr(n b h p:Bool)(x:Val)(q:Str):Str×Int:=(q,if Zpe n b h p x then 0 else 6)
structure ZcQ(st:St)(b3 b4 b5 b6 b7 b:Nat)(d:Dfn)(m:Msg)(pth:Str)(l:List (Str×Int))(f:Fld)(x:Val)(q:Str):Prop where
 p:st b3=some (.cells (W8 m d pth b))
 f:st b4=some (.cells f.cells)
 x:st b5=some (.cells [.str x.name,.i x.int,Zs x.bytes,Zx x.hdrs,ZF x.parts])
 q:st b6=some (.cells [.str q])
 u:st b7=some (.cells [.fn (.func 152) [] [.ptr b5 0,.ptr b6 0]])
 m:st b=some (.map (JZ l))
section
variable {st:St} {b3 b4 b5 b6 b7 bm:Nat} {d:Dfn} {m:Msg} {pth:Str} {l:List (Str × Int)} {f:Fld} {x:Val} {q:Str}
def QJ(t:ZcQ st b3 b4 b5 b6 b7 bm d m pth l f x q)(n b h p):Ki ZHF (.fn (.func 152) [] [.ptr b5 0,.ptr b6 0]) [.bool n,.bool b,.bool h,.bool p] st (ZN (Zdr n b h p x q) st):=by
 refine Ze.V (first:=[]) (args:=[_,_,_,_]) (caps:=[_,_]) ?_;refine Zh (cR 152 f152) λF j=>?_;have u:=t.x;have z:=t.q;have hU:=Zpe.eq_1 n b h p x;refine rx (nd2 @u (nd2 @z (nd2 @W3 (nd2 @Zcp @KU)))) ?_;rw[<-hU];have c9:=KO (Zpe n b h p x) q 6 (by decide) st;refine cV (c9) ?_ ?_;refine mfK λi=>?_;refine gR0 ?_;exact j.fin (.tup []) st rfl trivial (ZHL _) ZHH (ZN.ok i);exact mfP λi=>j.pan st ZHH (ZN.bad i rfl)
def ZgC(i:ZcQ st b3 b4 b5 b6 b7 bm d m pth l f x q):
  Ze ZHF 153 [.ptr b7 0,.ptr b5 0,.ptr b4 0,.ptr b6 0] st (ZN (WA (Zdr true false false false x q) (q,if dC (f.low<=x.int)&&dC (x.int<=f.high) then 0 else 3)) st):=by
 refine Zh (cR 153 f153) λF j=>?_;have u:=QJ i true false false false;refine rx @i.u ?_;refine vV (u) ?_ ?_;refine mfK λn=>?_;rw[K6 n]at j;refine gR0 ?_;refine rx (nd2 @i.x (nd2 @i.f (nd2 @i.q @eQ0))) ?_;have z:=KO (dC (f.low<=x.int)&&dC (x.int<=f.high)) q 3 (by decide) st;refine cV (z) ?_ ?_;refine mfK λt=>?_;refine gR0 ?_;exact j.fin (.tup []) st rfl trivial (ZHL _) ZHH (ZN.ok t);exact mfP λt=>j.pan st ZHH (ZN.bad t rfl);exact mfP λn=>j.pan st ZHH (ZN.bad n (KE n))
def ZoW(i:ZcQ st b3 b4 b5 b6 b7 bm d m pth l f x q)(hv:ZI f.size=true)(hk:∀t∈f.size.terms,∃v,Zw t.field l=sO v/\0<=v/\v<34359738368):
  Ze ZHF 154 [.ptr b7 0,.ptr b5 0,.ptr b3 0,.ptr b4 0,.ptr b6 0] st (ZN (WA (Zdr false true false false x q) (q,K1 (I x.bytes) (ZaZ f.size l))) st):=by
 refine Zh (cR 154 f154) λF j=>?_;have hu:=QJ i false true false false;have hz:=ZaU m d pth f hv bm l st i.m hk;refine rx @i.u ?_;refine vV (hu) ?_ ?_;refine mfK λn=>?_;rw[K6 n]at j;refine gR0 ?_;have hp:=i.p;have hf:=i.f;refine rx (nd2 @i.x (nd2 @hp (nd2 @hf (nd2 @i.q (nd2 @W3 (nd2 @W8.eq_1 @eQ0)))))) ?_;refine cVD (hz) ?_ ?_;rintro dd S ⟨z,rfl⟩;cases z;refine kF ?_;refine gR0 ?_;refine cVD (ZkB (I x.bytes) (ZaZ f.size l) q S) ?_ ?_;refine mfK λu=>?_;refine kF ?_;refine gR0 ?_;exact j.fin (.tup []) S rfl trivial (ZHL _) ZHH (ZN.ok u);exact mfP λu=>j.pan S ZHH (ZN.bad u rfl);rintro dd S ⟨z,_⟩;cases z;exact mfP λn=>j.pan st ZHH (ZN.bad n (KE n))
end
def ZiQ(l v):Zc ZHF 206 [Zs l,.int .u8 v] (.i (Zi (λx=>dC (v=x.toNat)) l)):=by
 refine ZJ (cR 206 f206) λab F st u=>?_;have hw:=(YR (ab (Zs l) ψ)).1;unfold big at hw;clear ab;refine rg ?_;refine rx @W3 ?_;refine Zb (fr (I l) (λi Q=>i<=I l->(∀j,j<i->dC (v=(l.getD j dE).toNat)=false)->Q [(0,.d (Zs l)),(1,.d (.int .u8 v)),(7,.d (.i (I l))),(8,.d (.i i))] [] st) (λn t=>?_) λad=>?_);intro i hn hi z;refine rg ?_;refine Zd (Zt rfl trivial (λh1=>?_) (λh1=>?_));simp at h1;refine rg ?_;refine xA (nd2 @ZCd @u8C.eq_1) ?_;refine cd (λh2=>?_) (λh2=>?_);have e1:=WY (p:=λx:UInt8=>dC (v=x.toNat)) h1 h2 z;refine rg ?_;refine ri u ?_;exact e1.symm;refine gA ?_;refine Za ?_;exact t ((I l)-(i+1)) ω (i+1) rfl ω (ZZ (q:=λj=>dC (v=(l.getD j dE).toNat)=false) z h2);simp at h1;obtain rfl:i=I l:=ω;have ac:∀x∈l,(λx:UInt8=>dC (v=x.toNat)) x=false:=λx hx=>by obtain⟨j,hj,rfl⟩:=ZH1 hx;have:=z j hj;simpa[ZHU,hj]using this
 refine rg ?_;refine ri u ?_;exact(Wu ac).symm;exact ad _ 0 rfl ω (by intro j hj;omega)
def Zge(l v):Zc ZHF 158 [Zs l,.int .u8 v] (.bool (l.any λx=>dC (v=x.toNat))):=by
 refine Zg (cR 158 f158) λF st i=>?_;refine gG ?_;refine cl (ZiQ l v) ?_;refine rb i ?_;rw[<-Zat]
section
variable {st:St} {b3 b4 b5 b6 b7 bm:Nat} {d:Dfn} {m:Msg} {pth:Str} {l:List (Str × Int)} {f:Fld} {x:Val} {q:Str}
def ZoX(i:ZcQ st b3 b4 b5 b6 b7 bm d m pth l f x q)(hl:0<=f.low/\f.low<=255):
  Ze ZHF 157 [.ptr b7 0,.ptr b5 0,.ptr b4 0,.ptr b6 0] st (ZN (WA (Zdr false true false false x q) (WA (q,if dC ((I x.bytes:Int)<=f.high) then 0 else 5) (q,if !x.bytes.any (λc=>dC (f.low=c.toNat)) then 0 else 6))) st):=by
 refine Zh (cR 157 f157) λF j=>?_;have z:=QJ i false true false false;have hw:IntKind.u8.wrap f.low=f.low:=ZaN .u8 f.low (by have n:IntKind.u8.min=0:=rfl;have t:IntKind.u8.max=255:=rfl;unfold inR;omega);refine rx @i.u ?_;refine vV (z) ?_ ?_;refine mfK λu=>?_;rw[K6 u]at j;refine gR0 ?_;refine rx (nd2 @i.x (nd2 @i.f (nd2 @i.q (nd2 @W3 @eQ0)))) ?_;have c9:=KO (dC ((I x.bytes:Int)<=f.high)) q 5 (by decide) st;refine cV (c9) ?_ ?_;refine mfK λn=>?_;rw[K6 n]at j;refine gR0 ?_;refine rx (nd2 @i.x (nd2 @i.f (nd2 @i.q (nd2 @eQ0 @hw)))) ?_;refine clD (Zge x.bytes f.low) ?_;refine Zh3 rfl rfl rfl rfl rfl φ φ (by exact KO (!x.bytes.any λc=>dC (f.low=c.toNat)) q 6 (by decide) st) ?_ ?_;refine mfK λt=>?_;refine kF ?_;refine gR0 ?_;exact j.fin (.tup []) st rfl trivial (ZHL _) ZHH (ZN.ok t);exact mfP λt=>j.pan st ZHH (ZN.bad t rfl);exact mfP λn=>j.pan st ZHH (ZN.bad n (KE n));exact mfP λu=>j.pan st ZHH (ZN.bad u (KE u))
def ZoY(i:ZcQ st b3 b4 b5 b6 b7 bm d m pth l f x q)(ht:Zck x.hdrs):
  Ze ZHF 159 [.ptr b7 0,.ptr b5 0,.ptr b6 0,.ptr b4 0] st (ZN (WA (Zdr false false true false x q) (WA (q,if Kl x.hdrs then 0 else 6) (q,if dC (((Zby x.hdrs).length:Int)<=f.high) then 0 else 5))) st):=by
 refine Zh (cR 159 f159) λF j=>?_;have hu:=QJ i false false true false;have hW:=Zi1 ht;have u:=ZkX.eq_1 x.hdrs;generalize ZkX x.hdrs=w at *;refine rx @i.u ?_;refine vV (hu) ?_ ?_
 .refine mfK λh0=>?_;rw[K6 h0]at j;refine gR0 ?_;refine rx @i.x ?_;cases z:Kl x.hdrs with
  |false =>rw[z,if_neg ψ]at u;subst u;refine cl (hW) ?_;refine rx @i.q ?_;have t:=KO false q 6 (by decide) st;refine cV (t) ?_ ?_;exact mfK λn=>absurd n ψ;exact mfP λn=>j.pan st ZHH (ZN.bad n (by rw[z,KE ψ]))
  |true =>rw[z,if_pos rfl]at u;rw[z,K6 ψ]at j;subst u;refine cl (hW) ?_;refine rx @i.q ?_;have t:=KO true q 6 (by decide) st;refine cV (t) ?_ ?_;refine mfK λn=>?_;refine gR0 ?_;refine rx (nd2 @i.f (nd2 @i.q (nd2 @W3 @eQ0))) ?_;have t:=KO (dC (((Zby x.hdrs).length:Int)<=f.high)) q 5 (by decide) st;refine cV (t) ?_ ?_;refine mfK λh2=>?_;refine gR0 ?_;exact j.fin (.tup []) st rfl trivial (ZHL _) ZHH (ZN.ok h2);exact mfP λh2=>j.pan st ZHH (ZN.bad h2 rfl);exact mfP λn=>absurd rfl n
 exact mfP λh0=>j.pan st ZHH (ZN.bad h0 (KE h0))
end
def Zba:Prop:=∀n:Nat,n<500->Zc ZHF 207 [.i n] (.str (Zdw n))
def Zi9(hI:Zba)(ps)(k:Nat)(hk:k<I ps)(hps:I ps<=500)(hn:∀x∈ps,I x.name<=32):Zc ZHF 161 [ZF ps,.i k] (.str (Yh ps k)):=by
 refine Zg (cR 161 f161) λF st t=>?_;have z:=Wm hk;have hnk:=hn _ (Zm hk);have u:=λi=>ZqG (ps:=ps) (k:=k) (i:=i);have hO:=Yh.eq_1 ps k;have ad:Zdx ps k=Zbk ps k k:=rfl;have hdl:=ZnO ps k;have hdec:=Zfy (Zdx ps k);have hD:=hI (Zdx ps k) ω;generalize hx:ps.getD k dE=x at *;refine gG ?_;refine rx @ZF.eq_1 ?_;simp only[ite_self];refine⟨ω,ω,ω,?_⟩;refine kl (st) [(0,.d (ZF ps)),(1,.d (.i k)),(5,.d (.i (0:Nat))),(10,.d (.sl .none k 5 (J5 ps))),(11,.d (.i k)),(12,.d (.i (0:Nat)))] [] Ku WE ?_;refine Zb (fr (k) (λi Q=>i<=k->Q [(0,.d (ZF ps)),(1,.d (.i k)),(5,.d (.i (Zbk ps k i))),(10,.d (.sl .none k 5 (J5 ps))),(11,.d (.i k)),(12,.d (.i i))] [] st) (λn j=>?_) λac=>?_);intro i hn2 hi;refine rg ?_;refine Zd (Zt rfl trivial (λh1=>?_) (λh1=>?_));simp at h1;have ab:=Wm (show i<I ps by omega);have hs:=u i ω;have hdi:=Zvp ps k i;generalize hy:ps.getD i dE=y at *;refine xA @ab ?_;refine xA (nd2 @atV @z) ?_;refine cd (λh2=>?_) (λh2=>?_);rw[if_pos (by simpa using h2)]at hs;refine gA ?_;refine gA ?_;rw[show((Zbk ps k i:Nat):Int)+1=((Zbk ps k (i+1):Nat):Int) by rw[hs];rfl];refine Za ?_;exact j ((k)-(i+1)) ω (i+1) rfl ω;rw[if_neg (by simpa using h2)]at hs;refine gA ?_;rw[show((Zbk ps k i:Nat):Int)=((Zbk ps k (i+1):Nat):Int) by rw[hs];rfl];refine Za ?_;exact j ((k)-(i+1)) ω (i+1) rfl ω;simp at h1;obtain rfl:i=k:=ω;rw[<-ad];refine rg ?_;refine cd (λh3=>?_) (λh3=>?_);simp at h3;rw[if_pos h3]at hO;refine xA (nd2 @atV @z) ?_;refine rs t ?_;exact hO.symm;simp at h3;rw[if_neg h3]at hO;refine xA (nd2 @atV @z) ?_;refine⟨by unfold big;omega,?_⟩;refine cXD @ZdL (hD) ?_;repeat(refine ZHG (by first|omega|trivial|(intro h0;simp at h0;omega)|(((try simp only[ZHO,ZHW,List.length_nil]);unfold big;omega))) ?_)
 refine rs t ?_;exact hO.symm;exact ac _ 0 rfl ω
section
variable {d:Dfn} {m:Msg} {pth:Str} {bm:Nat} {x:Val} {q:Str} {st:St}
def ZtC(mis:Msg->Val->Str->Str×Int)(d:Dfn)(of:Str)(x:Val)(q:Str):Str×Int :=
 WA (Zdr false false false true x q) (WA (q,if dC ((I x.parts:Int)=1) then 0 else 6) (mis (Zl d of) (x.parts.getD 0 dE) (Z5 q (Yh x.parts 0))))
def Zua(hI:Zba)(of)(hof:0<=Zr d of (I d.msgs))(hx:VOk x)(hq:q≠[]/\I q<=1000000){fu}(hu:Ki ZHF fu [.bool false,.bool false,.bool false,.bool true] st (ZN (Zdr false false false true x q) st))(mis)(hmis:I x.parts=1->Ze ZHF 64 [.agg d.cells,.agg (Zl d of).cells,.agg (x.parts.getD 0 dE).cells,.str (Z5 q (Yh x.parts 0))] st (ZN (mis (Zl d of) (x.parts.getD 0 dE) (Z5 q (Yh x.parts 0))) st)):
  Ze ZHF 163 [.agg (W8 m d pth bm),.str of,.agg x.cells,.str q,fu] st (ZN (ZtC mis d of x q) st):=by
 refine Zh (cR 163 f163) λF u=>?_;have j:=W0 d of hof;rw[show d.msgs.getD (ixS d of) dE=Zl d of from rfl]at j;unfold ZtC at u;rw[ZHX];refine rx @W8.eq_1 ?_;refine rg ?_;refine vV (hu) ?_ ?_;refine mfK λh0=>?_;rw[K6 h0]at u;refine gR0 ?_;refine rx @KU ?_;have c9:=KO (dC ((I x.parts:Int)=1)) q 6 (by decide) st;refine cV (c9) ?_ ?_;refine mfK λh1=>?_;rw[K6 h1]at u;have hl:I x.parts=1:=by simp at h1;omega
 have n:=Zi9 hI x.parts 0 ω ω hx.name;have hsn:=ZeD hx.few hx.name (k:=0) ω;have t:Yh x.parts 0≠[]:=by have z:=(hx.part (Zm (show 0<I x.parts by omega))).node.1.1;unfold Yh;rw[if_pos (by have:=ZnO x.parts 0;omega)];exact λe=>by rw[e]at z;simp at z
 have hj:=ZqW hq.1 t ω ω;have hr:=Wm (l:=x.parts) (i:=0) ω;have hm:=hmis hl;generalize Z5 q (Yh x.parts 0)=q2 at *;rw[ZHX]at hm;generalize mis (Zl d of) (x.parts.getD 0 dE) q2=R at *;generalize x.parts.getD 0 dE=y at *;refine gR0 ?_;refine xA (nd2 @atV @hr) ?_;refine clD (j) ?_;refine clD (n) ?_;refine clD (hj) ?_;refine cVD (hm) ?_ ?_;refine mfK λz=>?_;refine kF ?_;refine gR0 ?_;exact u.fin (.tup []) st rfl trivial (ZHL _) ZHH (ZN.ok z);exact mfP λz=>u.pan st ZHH (ZN.bad z rfl);exact mfP λh1=>u.pan st ZHH (ZN.bad h1 (KE h1));exact mfP λh0=>u.pan st ZHH (ZN.bad h0 (KE h0))
end
def VOk.few2{v}(h:VOk v):I v.parts<=500:=by
 have h1:=ZpN v;have h2:=h.wt;have h3:I v.parts<=nodesL v.parts:=by
  induction v.parts with
  |nil=>simp
  |cons x r ih=>have:=JL x;simp only[ZHW,nodesL];omega
 have h4:=JL v;omega
def ZBT{ps k}(h:1<=(ps.getD k dE).name.length):Yh ps k≠[]:=by
 unfold Yh;split;exact λe=>by rw[e]at h;simp at h
 simp
abbrev Ze4(mis:Msg->Val->Str->Str×Int)(d:Dfn)(of:Str)(x:Val)(q:Str)(i:Nat):Str×Int:=mis (Zl d of) (x.parts.getD i dE) (Z5 q (Yh x.parts i))
section
variable {st:St} {b3 b4 b5 b6 b7 bm:Nat} {d:Dfn} {m:Msg} {pth:Str} {l:List (Str × Int)} {f:Fld} {x:Val} {q:Str}
def ZoZ(hI:Zba)(hs:ZcQ st b3 b4 b5 b6 b7 bm d m pth l f x q)(hx:VOk x)(hq:q≠[]/\I q<=1000000)(hv:ZI f.size=true)(hk:∀t∈f.size.terms,∃v,Zw t.field l=sO v/\0<=v/\v<34359738368)(hof:0<=Zr d f.of (I d.msgs))(mis)(hmis:∀i,i<I x.parts->Ze ZHF 64 [.agg d.cells,.agg (Zl d f.of).cells,.agg (x.parts.getD i dE).cells,.str (Z5 q (Yh x.parts i))] st (ZN (Ze4 mis d f.of x q i) st)):
  Ze ZHF 160 [.ptr b7 0,.ptr b5 0,.ptr b3 0,.ptr b4 0,.ptr b6 0] st (ZN (WA (Zdr false false false true x q) (WA (q,K1 (I x.parts) (ZaZ f.size l)) ((Ky (Ze4 mis d f.of x q) (ZHT (I x.parts))).getD (q,0)))) st):=by
 refine Zh (cR 160 f160) λF hF=>?_;have hu:=QJ hs false false false true;have hz:=ZaU m d pth f hv bm l st hs.m hk;have ad:=W0 d f.of hof;rw[show d.msgs.getD (ixS d f.of) dE=Zl d f.of from rfl]at ad;have ac:=hs.x;have ag:=hs.p;have af:=hs.f;have ah:=hs.q;have ae:=hx.few2;refine rx @hs.u ?_;refine vV (hu) ?_ ?_;refine mfK λh0=>?_;rw[K6 h0]at hF;refine gR0 ?_;refine rx (nd2 @ac (nd2 @ag (nd2 @af (nd2 @ah (nd2 @KU (nd2 @W8.eq_1 @eQ0)))))) ?_;refine cVD (hz) ?_ ?_;rintro dd S ⟨hd,hS⟩;obtain rfl:=hS.symm;cases hd;refine kF ?_;refine gR0 ?_;refine cVD (ZkB (I x.parts) (ZaZ f.size l) q st) ?_ ?_;refine mfK λh1=>?_;rw[K6 h1]at hF;refine kF ?_;refine gR0 ?_;refine rx (nd2 @ac @KU) ?_;refine Zb (fr (I x.parts) (λi Q=>i<=I x.parts->(∀j,j<i->(Ze4 mis d f.of x q j).2=0)->Q [(1,.d (.ptr b5 0)),(2,.d (.ptr b3 0)),(3,.d (.ptr b4 0)),(4,.d (.ptr b6 0)),(18,.d (ZF x.parts)),(19,.d (.i (I x.parts))),(20,.d (.i i))] [] st) (λn ab=>?_) λak=>?_);intro i hn hi z;refine rg ?_;refine Zd (Zt rfl trivial (λu=>?_) (λu=>?_));simp at u;have ai:x.parts.getD i dE∈x.parts:=Zm u;have aj:=Zi9 hI x.parts i u ae hx.name;have hsl:=ZeD hx.few hx.name u;have hj:=ZqW hq.1 (ZBT (hx.part ai).node.1.1) ω ω;have hr:=Wm (l:=x.parts) (i:=i) u;have hm:=hmis i u;have am:=Zgm (g:=Ze4 mis d f.of x q) u z;have al:=λh=>ZZ (q:=λj=>(Ze4 mis d f.of x q j).2=0) z h;generalize hR:Ze4 mis d f.of x q i=R at *;generalize Z5 q (Yh x.parts i)=q2 at *;rw[ZHX]at hm;generalize x.parts.getD i dE=y at *;refine xA (nd2 @atV @hr) ?_;refine rx (nd2 @ac (nd2 @ag (nd2 @af (nd2 @ah (nd2 @W8.eq_1 @eQ0))))) ?_;refine clD (ad) ?_;refine clD (aj) ?_;refine clD (hj) ?_;refine cVD (hm) ?_ ?_;refine mfK λh2=>?_;refine kF ?_;refine gR0 ?_;refine gA ?_;refine Za ?_;exact ab ((I x.parts)-(i+1)) ω (i+1) rfl ω (al h2);exact mfP λh2=>hF.pan st ZHH (ZN.bad h2 (by rw[am h2];rfl));simp at u;obtain rfl:i=I x.parts:=ω;rw[ZeY z]at hF;refine ZR rfl ?_;exact hF.fin (.tup []) st rfl trivial (ZHL _) ZHH (ZN.ok rfl);exact ak _ 0 rfl ω (by intro j hj;omega);exact mfP λh1=>hF.pan st ZHH (ZN.bad h1 (KE h1));rintro dd S ⟨hd,_⟩;cases hd;exact mfP λh0=>hF.pan st ZHH (ZN.bad h0 (KE h0))
def Zo0(j:ZcQ st b3 b4 b5 b6 b7 bm d m pth l f x q){R}(i:Ze ZHF 163 [.agg (W8 m d pth bm),.str f.of,.agg x.cells,.str q,.fn (.func 152) [] [.ptr b5 0,.ptr b6 0]] st (ZN R st)):
  Ze ZHF 162 [.ptr b3 0,.ptr b4 0,.ptr b5 0,.ptr b6 0,.ptr b7 0] st (ZN R st):=by
 refine Zh (cR 162 f162) λF t=>?_;rw[ZHX]at i;refine rx (nd2 @j.p (nd2 @j.f (nd2 @j.x (nd2 @j.q (nd2 @j.u (nd2 @W8.eq_1 @eQ0)))))) ?_;refine cV (i) ?_ ?_;refine mfK λn=>?_;refine gR0 ?_;exact t.fin (.tup []) st rfl trivial (ZHL _) ZHH (ZN.ok n);exact mfP λn=>t.pan st ZHH (ZN.bad n rfl)
def Zo1(u:ZcQ st b3 b4 b5 b6 b7 bm d m pth l f x q){tag}(ht:(Zw f.tag l).getD 0=tag){R}(z:0<=KJ f tag->Ze ZHF 163 [.agg (W8 m d pth bm),.str (f.cases.getD (KJ f tag).toNat dE).of,.agg x.cells,.str q,.fn (.func 152) [] [.ptr b5 0,.ptr b6 0]] st (ZN R st)):
  Ze ZHF 164 [.ptr b7 0,.ptr b4 0,.ptr b3 0,.ptr b6 0,.ptr b5 0] st (ZN (WA (Zdr false false false true x q) (WA (q,if dC (0<=KJ f tag) then 0 else 9) R)) st):=by
 refine Zh (cR 164 f164) λF hF=>?_;have hu:=QJ u false false false true;have e1:=We (vD:=KL) ZX f.tag l;have e3:=Wr ZX f.tag;simp only[show Qa f.tag=D.str f.tag from rfl]at e1 e3;have hC:=ZhL f tag;have i:=Ys (λc:Yw=>dC (c.low<=tag)&&dC (tag<=c.high)) f.cases;rw[show Zi (λc:Yw=>dC (c.low<=tag)&&dC (tag<=c.high)) f.cases=KJ f tag from rfl]at i;rw[ZHX]at z;generalize KJ f tag=ci at *;refine rx @u.u ?_;refine vV (hu) ?_ ?_;refine mfK λh0=>?_;rw[K6 h0]at hF;refine gR0 ?_;refine rx (nd2 @u.f (nd2 @u.p (nd2 @u.m (nd2 @W8.eq_1 (nd2 @eQ0 (nd2 @e1 (nd2 @e3 (nd2 @Zlo @ht)))))))) ?_;refine cl (hC) ?_;refine rx @u.q ?_;have c9:=KO (dC (0<=ci)) q 9 (by decide) st;refine cV (c9) ?_ ?_;refine mfK λh1=>?_;rw[K6 h1]at hF;have j:0<=ci:=by by_cases h:0<=ci;exact h;rw[decide_eq_false h]at h1;simp at h1
 have ho:=z j;have n:max ci 0=ci:=ω;generalize t:f.cases.getD ci.toNat dE=cc at *;rw[n];refine gR0 ?_;refine xA (nd2 @u.p (nd2 @u.f (nd2 @u.x (nd2 @u.q (nd2 @u.u (nd2 @W8.eq_1 (nd2 @eQ0 (nd2 @Zpy (nd2 @t @eQ9))))))))) ?_;refine cV0 (ho) ?_ ?_;refine mfK λh2=>?_;refine gR0 ?_;exact hF.fin (.tup []) st rfl trivial (ZHL _) ZHH (ZN.ok h2);exact mfP λh2=>hF.pan st ZHH (ZN.bad h2 rfl);exact mfP λh1=>hF.pan st ZHH (ZN.bad h1 (KE h1));exact mfP λh0=>hF.pan st ZHH (ZN.bad h0 (KE h0))
def Zo2(hs:ZcQ st b3 b4 b5 b6 b7 bm d m pth l f x q)(hv:ZI f.size=true)(hk:∀t∈f.size.terms,∃v,Zw t.field l=sO v/\0<=v/\v<34359738368)(hof:0<=Zr d f.of (I d.msgs)){R len}(u:Ze ZHF 163 [.agg (W8 m d pth bm),.str f.of,.agg x.cells,.str q,.fn (.func 152) [] [.ptr b5 0,.ptr b6 0]] st (ZN R st))(hlen:R.2=0->I x.parts=1/\Zc ZHF 41 [.agg d.cells,.agg (Zl d f.of).cells,.agg (x.parts.getD 0 dE).cells] (.i len)):
  Ze ZHF 165 [.ptr b3 0,.ptr b4 0,.ptr b5 0,.ptr b6 0,.ptr b7 0] st (ZN (WA R (q,K1 len (ZaZ f.size l))) st):=by
 refine Zh (cR 165 f165) λF hF=>?_;have hz:=ZaU m d pth f hv bm l st hs.m hk;have j:=W0 d f.of hof;rw[show d.msgs.getD (ixS d f.of) dE=Zl d f.of from rfl]at j;rw[ZHX]at u;have z:=hs.p;have n:=hs.f;have ab:=hs.q;refine rx (nd2 @z (nd2 @n (nd2 @hs.x (nd2 @ab (nd2 @hs.u (nd2 @W8.eq_1 @eQ0)))))) ?_;refine cV (u) ?_ ?_;refine mfK λh0=>?_;rw[K6 h0]at hF;obtain⟨hl,hL⟩:=hlen h0;have hr:=Wm (l:=x.parts) (i:=0) ω;rw[ZHX]at hL;generalize x.parts.getD 0 dE=y at *;refine gR0 ?_;refine xA (nd2 @z (nd2 @n (nd2 @hs.x (nd2 @ab (nd2 @W8.eq_1 (nd2 @eQ0 (nd2 @atV @hr))))))) ?_;refine clD (j) ?_;refine clD (hL) ?_;refine cVD (hz) ?_ ?_;rintro dd S ⟨hd,hS⟩;obtain rfl:=hS.symm;cases hd;refine kF ?_;refine gR0 ?_;refine cVD (ZkB len (ZaZ f.size l) q st) ?_ ?_;refine mfK λh1=>?_;refine kF ?_;refine gR0 ?_;exact hF.fin (.tup []) st rfl trivial (ZHL _) ZHH (ZN.ok h1);exact mfP λh1=>hF.pan st ZHH (ZN.bad h1 rfl);rintro dd S ⟨hd,_⟩;cases hd;exact mfP λh0=>hF.pan st ZHH (ZN.bad h0 (KE h0))
end
def Zpb{v w}:∀{l},(∀t∈l,v t=w t)->Qb v l=Qb w l
 | [],_=>rfl
 |t::r,h=>by simp only[Qb];rw[h t ψ,Zpb λs i=>h s (by simp[i])]
def ZCW(k)(x):Zpe (ZdG k) (Zpx k) (dC (k=6)) (dC (7<=k)) x=!W5 k x:=by
 have e:∀n:Nat,dC ((n:Int)=0)=!dC (0<(n:Int)):=λn=>by by_cases h:n=0<;>simp[h];omega
 unfold Zpe W5;rw[e,e,e];generalize dC (x.int=0)=a1;generalize dC (0<(I x.bytes:Int))=a2;generalize dC (0<(I x.hdrs:Int))=t;generalize dC (0<(I x.parts:Int))=u;generalize ZdG k=z;generalize Zpx k=c2;generalize dC (k=6)=i;generalize dC (7<=k)=j;revert a1 a2 t u z c2 i j;decide
def ZBR{k x q n b h p}{R}(u:ZdG k=n)(j:Zpx k=b)(t:dC (k=6)=h)(i:dC (7<=k)=p):WA (Zdr n b h p x q) R=if W5 k x then (q,6) else R:=by
 subst u;subst j;subst t;subst i;unfold WA Zdr;rw[ZCW];cases W5 k x<;>rfl
def ZyZ(a b c):WA (WA a b) c=WA a (WA b c):=by
 unfold WA;by_cases h:a.2=0<;>simp[h]
def ZBQ(a b c):WA a (WA b (WA a c))=WA a (WA b c):=by
 unfold WA;by_cases h:a.2=0<;>simp[h]
def Zot(mis)(d)(of)(x)(q):ZtC mis d of x q=WA (Zdr false false false true x q) (J0 mis d of x q):=by
 unfold ZtC J0
 congr 1
 by_cases h:I x.parts=1;rw[if_pos h,K6 (by simp[h])];rw[if_neg h,KE (by simp;omega),if_neg (by simp;omega)]
def Zr2(b3 b4 b5 b6 b7:Nat):List (Int×D):=[
 (1,.fn (.func 153) [] [.ptr b7 0,.ptr b5 0,.ptr b4 0,.ptr b6 0]),
 (3,.fn (.func 153) [] [.ptr b7 0,.ptr b5 0,.ptr b4 0,.ptr b6 0]),
 (4,.fn (.func 154) [] [.ptr b7 0,.ptr b5 0,.ptr b3 0,.ptr b4 0,.ptr b6 0]),
 (5,.fn (.func 157) [] [.ptr b7 0,.ptr b5 0,.ptr b4 0,.ptr b6 0]),
 (6,.fn (.func 159) [] [.ptr b7 0,.ptr b5 0,.ptr b6 0,.ptr b4 0]),
 (7,.fn (.func 160) [] [.ptr b7 0,.ptr b5 0,.ptr b3 0,.ptr b4 0,.ptr b6 0]),
 (8,.fn (.func 162) [] [.ptr b3 0,.ptr b4 0,.ptr b5 0,.ptr b6 0,.ptr b7 0]),
 (9,.fn (.func 164) [] [.ptr b7 0,.ptr b4 0,.ptr b3 0,.ptr b6 0,.ptr b5 0]),
 (12,.fn (.func 165) [] [.ptr b3 0,.ptr b4 0,.ptr b5 0,.ptr b6 0,.ptr b7 0])]
structure Zh5(f:Fld)(l nv:List (Str×Int)):Prop where
 size:f.kind=4\/f.kind=7\/f.kind=12->ZI f.size=true/\∀t∈f.size.terms,∃v,Zw t.field l=some v/\0<=v/\v<34359738368/\Yr t.field nv=v
 tag:f.kind=9->(Zw f.tag l).getD 0=Yr f.tag nv
 low:f.kind=5->0<=f.low/\f.low<=255
def Zh5.eval{f l nv}(h:Zh5 f l nv)(n:f.kind=4\/f.kind=7\/f.kind=12):ZaZ f.size l=Zfb f.size nv:=by
 unfold ZaZ Zfb
 congr 1
 refine Zpb λt i=>?_;obtain⟨v,u,_,_,j⟩:=(h.size n).2 t i;rw[u,j];rfl
def Zh5.sz{f l nv}(h:Zh5 f l nv)(i:f.kind=4\/f.kind=7\/f.kind=12):ZI f.size=true/\∀t∈f.size.terms,∃v,Zw t.field l=sO v/\0<=v/\v<34359738368 :=
 ⟨(h.size i).1,λt j=>by obtain⟨v,z,n,u,_⟩:=(h.size i).2 t j;exact⟨v,z,n,u⟩⟩
section
variable {st:St} {b3 b4 b5 b6 b7 bm:Nat} {d:Dfn} {m:Msg} {pth:Str} {l nv:List (Str × Int)} {f:Fld} {x:Val} {q:Str}
def ZBu(hI:Zba)(hs:ZcQ st b3 b4 b5 b6 b7 bm d m pth l f x q)(hfr:Zjo d f)(hv:Y5 f=true)(hx:VOk x)(hq:q≠[]/\I q<=1000000)(hn:Zh5 f l nv)(mis len)(hmis:∀s,0<=Zr d s (I d.msgs)->∀i,i<I x.parts->Ze ZHF 64 [.agg d.cells,.agg (Zl d s).cells,.agg (x.parts.getD i dE).cells,.str (Z5 q (Yh x.parts i))] st (ZN (Ze4 mis d s x q i) st))(hlen:f.kind=12->(J0 mis d f.of x q).2=0->I x.parts=1/\Zc ZHF 41 [.agg d.cells,.agg (Zl d f.of).cells,.agg (x.parts.getD 0 dE).cells] (.i (len (Zl d f.of) (x.parts.getD 0 dE)))):
  ∃fn,Zw f.kind (Zr2 b3 b4 b5 b6 b7)=sO fn/\Ki ZHF fn [] st (ZN (if W5 f.kind x then (q,6) else Za3 mis len d f x q nv) st):=by
 have hk:f.kind=1\/f.kind=3\/f.kind=4\/f.kind=5\/f.kind=6\/f.kind=7\/f.kind=8\/f.kind=9\/f.kind=12:=by have:=hfr.kind;unfold Y5 at hv;simp only[ZHN,Bool.not_eq_true',decide_eq_false_iff_not]at hv;omega
 have t:∀of,0<=Zr d of (I d.msgs)->Ze ZHF 163 [.agg (W8 m d pth bm),.str of,.agg x.cells,.str q,.fn (.func 152) [] [.ptr b5 0,.ptr b6 0]] st (ZN (ZtC mis d of x q) st):=λof ho =>
  Zua hI of ho hx hq (QJ hs false false false true) mis λh1=>hmis of ho 0 ω
 have hP:=Za3.eq_1 mis len d f x q nv;generalize Za3 mis len d f x q nv=R at *;have j:∀{Q:Str×Int} {n b h p:Bool},ZdG f.kind=n->Zpx f.kind=b->dC (f.kind=6)=h->dC (7<=f.kind)=p->R=Q->(if W5 f.kind x then (q,6) else R)=WA (Zdr n b h p x q) Q:=λh1 h2 h3 h4 h5=>by rw[ZBR h1 h2 h3 h4,h5]
 have num:f.kind=1\/f.kind=3->(if W5 f.kind x then (q,6) else R)=WA (Zdr true false false false x q) (q,if dC (f.low<=x.int)&&dC (x.int<=f.high) then 0 else 3):=λh=>by refine j (by rcases h with h|h<;>rw[h]<;>rfl) (by rcases h with h|h<;>rw[h]<;>rfl) (by rcases h with h|h<;>rw[h]<;>rfl) (by rcases h with h|h<;>rw[h]<;>rfl) ?_;rw[hP,if_pos h];by_cases h1:x.int<f.low\/f.high<x.int;rw[if_pos h1,if_neg (by simp;omega)];rw[if_neg h1,if_pos (by simp;omega)]
 rcases hk with h|h|h|h|h|h|h|h|h;refine⟨_,by rw[h];rfl,?_⟩;rw[num ω];exact Ze.V (first:=[]) (args:=[]) (caps:=[_,_,_,_]) (ZgC hs);refine⟨_,by rw[h];rfl,?_⟩;rw[num ω];exact Ze.V (first:=[]) (args:=[]) (caps:=[_,_,_,_]) (ZgC hs);refine⟨_,by rw[h];rfl,?_⟩;obtain⟨h1,h2⟩:=hn.sz ω;rw[j (Q:=(q,K1 (I x.bytes) (ZaZ f.size l))) (by rw[h]<;>rfl) (by rw[h]<;>rfl) (by rw[h]<;>rfl) (by rw[h]<;>rfl) (by rw[hP,if_neg ω,if_pos h,hn.eval ω])];exact Ze.V (first:=[]) (args:=[]) (caps:=[_,_,_,_,_]) (ZoW hs h1 h2);refine⟨_,by rw[h];rfl,?_⟩;rw[j (by rw[h]<;>rfl) (by rw[h]<;>rfl) (by rw[h]<;>rfl) (by rw[h]<;>rfl) (Q:=WA (q,if dC ((I x.bytes:Int)<=f.high) then 0 else 5) (q,if !x.bytes.any (λc=>dC (f.low=c.toNat)) then 0 else 6)) (by
  rw[hP,if_neg ω,if_neg ω,if_pos h];rw[show(λc:UInt8=>dC ((c.toNat:Int)=f.low))=λc=>dC (f.low=c.toNat) from funext λc=>by rw[decide_eq_decide];exact eq_comm];by_cases h1:f.high<I x.bytes;rw[if_pos h1,KE (by simp;omega),if_neg (by simp;omega)];rw[if_neg h1,K6 (by simp;omega)];cases x.bytes.any λc=>dC (f.low=c.toNat)<;>rfl)]
 exact Ze.V (first:=[]) (args:=[]) (caps:=[_,_,_,_]) (ZoX hs (hn.low h))
 .refine⟨_,by rw[h];rfl,?_⟩;rw[j (by rw[h]<;>rfl) (by rw[h]<;>rfl) (by rw[h]<;>rfl) (by rw[h]<;>rfl) (Q:=WA (q,if Kl x.hdrs then 0 else 6) (q,if dC (((Zby x.hdrs).length:Int)<=f.high) then 0 else 5)) (by
   rw[hP,if_neg ω,if_neg ω,if_neg ω,if_pos h];cases Kl x.hdrs with
   |false=>rfl
   |true =>
    rw[if_neg ψ,K6 ψ];by_cases h1:f.high<(Zby x.hdrs).length;rw[if_pos h1,if_neg (by simp;omega)];rw[if_neg h1,if_pos (by simp;omega)])]
  exact Ze.V (first:=[]) (args:=[]) (caps:=[_,_,_,_]) (ZoY hs hx.node.2.2.2)
 refine⟨_,by rw[h];rfl,?_⟩;obtain⟨h1,h2⟩:=hn.sz ω;have ho:=hfr.ref ω;rw[j (by rw[h]<;>rfl) (by rw[h]<;>rfl) (by rw[h]<;>rfl) (by rw[h]<;>rfl) (Q:=WA (q,K1 (I x.parts) (ZaZ f.size l)) ((Ky (Ze4 mis d f.of x q) (ZHT (I x.parts))).getD (q,0))) (by
  rw[hP,if_neg ω,if_neg ω,if_neg ω,if_neg ω,if_pos h,hn.eval ω];rfl)]
 exact Ze.V (first:=[]) (args:=[]) (caps:=[_,_,_,_,_]) (ZoZ hI hs hx hq h1 h2 ho mis λi hi=>hmis _ ho i hi);refine⟨_,by rw[h];rfl,?_⟩;rw[j (n:=false) (b:=false) (h:=false) (p:=true) (by rw[h]<;>rfl) (by rw[h]<;>rfl) (by rw[h]<;>rfl) (by rw[h]<;>rfl) (Q:=J0 mis d f.of x q) (by
  rw[hP,if_neg ω,if_neg ω,if_neg ω,if_neg ω,if_neg ω,if_pos h]),<-Zot]
 exact Ze.V (first:=[]) (args:=[]) (caps:=[_,_,_,_,_]) (Zo0 hs (t _ (hfr.ref ω)));refine⟨_,by rw[h];rfl,?_⟩;have u:=Ys (λc:Yw=>dC (c.low<=Yr f.tag nv)&&dC (Yr f.tag nv<=c.high)) f.cases;rw[show Zi (λc:Yw=>dC (c.low<=Yr f.tag nv)&&dC (Yr f.tag nv<=c.high)) f.cases=KJ f (Yr f.tag nv) from rfl]at u;rw[j (n:=false) (b:=false) (h:=false) (p:=true) (by rw[h]<;>rfl) (by rw[h]<;>rfl) (by rw[h]<;>rfl) (by rw[h]<;>rfl) (Q:=WA (q,if dC (0<=KJ f (Yr f.tag nv)) then 0 else 9) (J0 mis d (f.cases.getD (KJ f (Yr f.tag nv)).toNat dE).of x q)) (by
  rw[hP,if_neg ω,if_neg ω,if_neg ω,if_neg ω,if_neg ω,if_neg ω,if_pos h];by_cases h1:KJ f (Yr f.tag nv)<0;rw[if_pos h1,KE (by simp;omega),if_neg (by simp;omega)];rw[if_neg h1,K6 (by simp;omega)]),<-ZBQ,<-Zot]
 exact Ze.V (first:=[]) (args:=[]) (caps:=[_,_,_,_,_]) (Zo1 hs (hn.tag h) λh0=>t _ (hfr.cas h _ (Zm ω)));refine⟨_,by rw[h];rfl,?_⟩;obtain⟨h1,h2⟩:=hn.sz ω;have ho:=hfr.ref ω;rw[j (n:=false) (b:=false) (h:=false) (p:=true) (by rw[h]<;>rfl) (by rw[h]<;>rfl) (by rw[h]<;>rfl) (by rw[h]<;>rfl) (Q:=WA (J0 mis d f.of x q) (q,K1 (len (Zl d f.of) (x.parts.getD 0 dE)) (ZaZ f.size l))) (by
  rw[hP,if_neg ω,if_neg ω,if_neg ω,if_neg ω,if_neg ω,if_neg ω,if_neg ω,if_pos h,hn.eval ω];rfl),<-ZyZ,<-Zot]
 refine Ze.V (first:=[]) (args:=[]) (caps:=[_,_,_,_,_]) (Zo2 hs h1 h2 ho (t _ ho) λh0=>hlen h ?_);rw[Zot]at h0;unfold WA at h0;split at h0;exact h0;rename_i z;exact absurd h0 z
end
def ex3{st:St}{a b c p q r}(z:st a=nO)(i:(st.upd a p) b=nO)(j:((st.upd a p).upd b q) c=nO):
  (((st.upd a p).upd b q).upd c r) a=sO p/\(((st.upd a p).upd b q).upd c r) b=sO q/\(((st.upd a p).upd b q).upd c r) c=sO r/\st.sub (((st.upd a p).upd b q).upd c r):=by
 have u:=Zv i;have n:=Zv j;have t:=Zv n.2;refine⟨by rw[ZHQ _ _ (Ne.symm t.1),ZHQ _ _ (Ne.symm u.1),ZHP],by rw[ZHQ _ _ (Ne.symm n.1),ZHP],ZHP _ _ _,ZIn (ZIn (ZH6 _ z) (ZH6 _ i)) (ZH6 _ j)⟩
def ZcQ.mono{st A b3 b4 b5 b6 b7 bm d m pth l f x q}(h:ZcQ st b3 b4 b5 b6 b7 bm d m pth l f x q)(i:st.sub A):ZcQ A b3 b4 b5 b6 b7 bm d m pth l f x q :=
 ⟨i _ _ h.p,i _ _ h.f,i _ _ h.x,i _ _ h.q,i _ _ h.u,i _ _ h.m⟩
section
variable {st:St} {bm:Nat} {d:Dfn} {m:Msg} {pth:Str} {l nv:List (Str × Int)} {f:Fld} {x:Val}
def ZrM(hI:Zba)(hm:st bm=sO (.map (JZ l)))(hnm:f.name≠[]/\I f.name<=1000)(hp:I pth<=900000)(hfr:Zjo d f)(hv:Y5 f=true)(hx:VOk x)(hn:Zh5 f l nv)(mis len)(hmis:∀S s,0<=Zr d s (I d.msgs)->∀i,i<I x.parts->Ze ZHF 64 [.agg d.cells,.agg (Zl d s).cells,.agg (x.parts.getD i dE).cells,.str (Z5 (Z5 pth f.name) (Yh x.parts i))] S (ZN (Ze4 mis d s x (Z5 pth f.name) i) S))(hlen:f.kind=12->(J0 mis d f.of x (Z5 pth f.name)).2=0->I x.parts=1/\Zc ZHF 41 [.agg d.cells,.agg (Zl d f.of).cells,.agg (x.parts.getD 0 dE).cells] (.i (len (Zl d f.of) (x.parts.getD 0 dE)))):
  Ze ZHF 117 [.agg (W8 m d pth bm),.agg f.cells,.agg x.cells] st (ZN (if W5 f.kind x then (Z5 pth f.name,6) else Za3 mis len d f x (Z5 pth f.name) nv) st):=by
 refine Zh (cR 117 f117) λF hF=>?_;have hjl:=ZcG pth f.name;have af:Z5 pth f.name≠[]:=by unfold Z5;split;exact hnm.1;simp
 generalize hR:(if W5 f.kind x then (Z5 pth f.name,6) else Za3 mis len d f x (Z5 pth f.name) nv)=R at *;rw[ZHX];refine rx (nd2 @W8.eq_1 @eQ0) ?_;refine Zd ?_;refine xP 3 λb3 h3=>?_;refine xP 4 λb4 h4=>?_;refine xP 5 λb5 h5=>?_;obtain⟨g3,g4,g5,u⟩:=ex3 (r:=.cells [.str x.name,.i x.int,Zs x.bytes,Zx x.hdrs,ZF x.parts]) h3 h4 h5;generalize ((st.upd b3 _).upd b4 _).upd b5 _=S at *;have gm:=u _ _ hm;refine rh ?_;refine Zk4 ?_;simp only[Eqs,reduceCtorEq,ZHK,reduceIte,ZHI,ZHM,ZHJ,Zlh,Zo8,g3,g4];refine Zvc rfl rfl rfl rfl φ (by rfl) (by decide) λbj ae=>Zk4 ?_;simp only[Eqs,reduceCtorEq,ZHK,reduceIte,ZHI,ZHM,ZHJ,Zlh,Zo8];refine Zhj rfl rfl rfl rfl rfl φ φ (by exact(ZrL (ZHP _ _ _) hnm.1 ω ω)) ?_ ?_;rintro dd T ⟨hr,o,rfl⟩;cases hr;rw[ZH4];have hsj:=ZH6 o ae;refine gR0 ?_;refine kl (S) [(3,.d (.ptr b3 0)),(4,.d (.ptr b4 0)),(5,.d (.ptr b5 0)),(6,.loc 6 0)] [(6,[.str (Z5 pth f.name)])] Ku WE ?_;refine Zd ?_;refine xP 6 λb6 h6=>?_;refine rg ?_;refine Zd ?_;refine xP 7 λb7 h7=>?_;have t:=ZH6 (.cells [.str (Z5 pth f.name)]) h6;have j:=ZH6 (.cells [.fn (.func 152) [] [.ptr b5 0,.ptr b6 0]]) h7;have k7:=Zv h7;have hs:ZcQ ((S.upd b6 (.cells [.str (Z5 pth f.name)])).upd b7 (.cells [.fn (.func 152) [] [.ptr b5 0,.ptr b6 0]])) b3 b4 b5 b6 b7 bm d m pth l f x (Z5 pth f.name) :=
  ⟨j _ _ (t _ _ g3),j _ _ (t _ _ g4),j _ _ (t _ _ g5),j _ _ (ZHP _ _ _),ZHP _ _ _,j _ _ (t _ _ gm)⟩
 have ab:=ZIn u (ZIn t j);refine rg ?_;generalize ((S.upd b6 _).upd b7 _)=T at *;refine rh ?_;refine Zn ?_;simp only[Eqs,reduceCtorEq,ZHK,reduceIte,ZHI,ZHM,ZHJ,ZaE,ZIp,decide_false,ZHP,ZH4,YF,YG];intro b hb;have z:=ZH6 (.map (Qv KL id (Zr2 b3 b4 b5 b6 b7))) hb;have ac:=hs.mono z;obtain⟨fn,ad,n⟩:=ZBu hI ac hfr hv hx ⟨af,ω⟩ hn mis len (hmis _) hlen;rw[hR]at n;have e1:=We (vD:=id) Ziq f.kind (Zr2 b3 b4 b5 b6 b7);have e3:=Wr Ziq f.kind;simp only[show KL f.kind=D.i f.kind from rfl]at e1 e3;rw[ad]at e1;refine kl ((T.upd b (.map (Qv KL id (Zr2 b3 b4 b5 b6 b7))))) [(4,.d (.ptr b4 0)),(9,.d (.map b))] [] Ku WE ?_;refine rx (nd2 @ac.f (nd2 @eQ0 (nd2 @ZHP (nd2 @e1 (nd2 @e3 (nd2 @ZHP (nd2 @ZH4 (nd2 @YF @YG)))))))) ?_;rw[show id fn=fn from rfl];refine vV (n) ?_ ?_;refine mfK λh0=>?_;refine gR0 ?_;exact hF.fin (.tup []) st rfl trivial (ZHL _) (ZIn ab z) (ZN.ok h0);exact mfP λh0=>hF.pan st (ZIn ab z) (ZN.bad h0 rfl);rintro dd T ⟨hr,_⟩;cases hr
end
def ZwO(d n m v p):Ym d (n+1) m v p =
  WA (p,if (((dC (v.name=m.name)&&dC (v.int=0))&&dC ((I v.bytes:Int)=0))&&dC ((I v.hdrs:Int)=0))&&WL (vfs m.fields) v.parts then 0 else 6) ((Ky (ZaT d n m v p) (ZHT (I v.parts))).getD ([],0)):=by
 rw[ZjU,show W9 m v.parts=WL (vfs m.fields) v.parts from rfl];have e:∀n:Nat,dC ((n:Int)=0)=dC (n=0):=λn=>by simp
 rw[e,e];unfold WA;generalize dC (v.name=m.name)=a1;generalize dC (v.int=0)=a2;generalize dC (I v.bytes=0)=j;generalize dC (I v.hdrs=0)=t;generalize WL (vfs m.fields) v.parts=i;cases a1<;>cases a2<;>cases j<;>cases t<;>cases i<;>rfl
def Zqa(d fu){m}(hm0:0<I m.fields)(hm:I m.fields<=1000)(v p st)(hpart:W9 m v.parts=true->∀S b,S b=sO (.map (JZ (J4 m v.parts)))->∀k,k<I v.parts->(∀j,j<k->(ZaT d fu m v p j).2=0) ->
   Ze ZHF 117 [.agg (W8 m d p b),.agg ((vfs m.fields).getD k dE).cells,.agg (v.parts.getD k dE).cells] S (ZN (ZaT d fu m v p k) S)):
  Ze ZHF 64 [.agg d.cells,.agg m.cells,.agg v.cells,.str p] st (ZN (Ym d (fu+1) m v p) st):=by
 refine Zh (cR 64 f64) λF hF=>?_;have ad:=Zdl m hm0 ω;have al:=ZhQ (vfs m.fields) v.parts;have ak:=λhr=>Zey m hm0 hm v.parts hr st;have hvl:(vfs m.fields).length<=I m.fields:=List.length_filter_le ..;rw[ZwO,show W9 m v.parts=WL (vfs m.fields) v.parts from rfl]at *;rw[ZHX];refine rx (nd2 @eQ2 @eQ3) ?_;refine rg ?_;refine clD (ad) ?_;refine rx (nd2 @W3 @Zcp) ?_;refine cG (al) ?_;generalize hc:((((dC (v.name=m.name)&&dC (v.int=0))&&dC ((I v.bytes:Int)=0))&&dC ((I v.hdrs:Int)=0))&&WL (vfs m.fields) v.parts)=ab at *;have c9:=KO ab p 6 (by decide) st;refine cV (c9) ?_ ?_
 .refine mfK λh0=>?_;rw[K6 h0]at hF;have hr:WL (vfs m.fields) v.parts=true:=by
   cases ab with
   |false=>simp at h0
   |true=>simp only[ZHN]at hc;exact hc.2
  have af:=hpart hr;have z:(vfs m.fields).length=I v.parts:=by unfold WL at hr;rw[decide_eq_true_eq]at hr;simpa using congrArg List.length hr
  refine gR0 ?_;refine rg ?_;refine cV (ak z) ?_ ?_;rintro dd S ⟨b,hb,hd,rfl⟩;cases hd;refine gR0 ?_;refine rx @Jw ?_;have ac:=ZH6 (.map (JZ (J4 m v.parts))) hb;have ae:=ZHP st b (.map (JZ (J4 m v.parts)));generalize st.upd b (.map (JZ (J4 m v.parts)))=S at *;refine Zb (fr ((vfs m.fields).length) (λi Q=>i<=(vfs m.fields).length->(∀j,j<i->(ZaT d fu m v p j).2=0)->Q [(6,.loc 6 0),(8,.loc 8 0),(54,.d (Zk (vfs m.fields))),(55,.d (.i (vfs m.fields).length)),(56,.d (.i i))] [(6,[.str v.name,.i v.int,Zs v.bytes,Zx v.hdrs,ZF v.parts]),(8,W8 m d p b)] S) (λn u=>?_) λah=>?_);intro i hn hi t;refine rg ?_;refine Zd (Zt rfl trivial (λg1=>?_) (λg1=>?_));simp at g1;have hp:=af S b ae i ω t;have aj:=Zgm (g:=ZaT d fu m v p) (show i<I v.parts by omega) t;have ai:=λh=>ZZ (q:=λj=>(ZaT d fu m v p j).2=0) t h;have ag:=Wm (l:=v.parts) (i:=i) ω;generalize ZaT d fu m v p i=R at *;rw[ZHX]at hp;generalize v.parts.getD i dE=y at *;generalize hf:(vfs m.fields).getD i dE=f at *;refine xA (nd2 @atF (nd2 @hf (nd2 @Ql @J2))) ?_;refine xA (nd2 @W8.eq_1 (nd2 @Ql (nd2 @J2 (nd2 @atV @ag)))) ?_;refine cV0 (hp) ?_ ?_;refine mfK λh2=>?_;refine gR0 ?_;refine gA ?_;refine Za ?_;exact u (((vfs m.fields).length)-(i+1)) ω (i+1) rfl ω (ai h2);exact mfP λh2=>hF.pan st ac (ZN.bad h2 (by rw[aj h2];rfl));simp at g1;obtain rfl:i=(vfs m.fields).length:=ω;rw[z]at t;rw[ZeY t]at hF;refine ZR rfl ?_;exact hF.fin (.tup []) st rfl trivial (ZHL _) ac (ZN.ok rfl);exact ah _ 0 rfl ω (by intro j hj;omega);rintro dd S ⟨b,_,hd,_⟩;cases hd
 exact mfP λh0=>hF.pan st ZHH (ZN.bad h0 (KE h0))
def WW.pos{d}(h:WW d){j}(t:j<I d.msgs):0<(d.msgs.getD j dE).fields.length:=by
 have i:=h.flaw j t;unfold WS at i;split at i;· simp at i
 split at i;· simp at i
 split at i;· simp at i
 rename_i n;simp only[ZH0,decide_eq_true_eq,not_or,Nat.not_lt]at n;omega
def Zan.low{d j i m f}(h:Zan d j i m f)(u:f.kind=5):0<=f.low/\f.low<=255:=by
 have n:=h.ks;unfold K5 at n;simp only[u,ZIp,if_true,if_false]at n;split at n;omega;rename_i t;simp only[ZH0,decide_eq_true_eq]at t;omega
def ZAm{d}(i:WW d){n s y q}(j:VOk y)(h:(Ym d n (Zl d s) y q).2=0):
  Zc ZHF 41 [.agg d.cells,.agg (Zl d s).cells,.agg y.cells] (.i (lenS d n (Zl d s) y)) :=
 Zdk d i.dok n _ y (i.dok.of s) j.ok j.wt (Zik i.dref n _ y q (i.dref.of s) j.ok h)
def Zf0(hI:Zba){d}(hd:WW d):∀(n im v p st),im<I d.msgs->VOk v->ZL v<=n->I p+10200*n<=900000 ->
  Ze ZHF 64 [.agg d.cells,.agg (d.msgs.getD im dE).cells,.agg v.cells,.str p] st (ZN (Ym d n (d.msgs.getD im dE) v p) st)
 |0,_,v,_,_,_,_,hh,_=>by have:=WJ v;omega
 |n+1,im,v,p,st,him,hv,hh,hp=>by
  have u:=hd.msg him;have hm40:=u.many;refine Zqa d n (hd.pos him) ω v p st λhr S b hb k hk ak=>?_;have hlen:(vfs (d.msgs.getD im dE).fields).length=I v.parts:=by unfold W9 at hr;rw[decide_eq_true_eq]at hr;simpa using congrArg List.length hr
  obtain⟨i,hi,ap,au,ag⟩:=Q4 (l:=(d.msgs.getD im dE).fields) (k:=k) ω;have ab:=u.at_ hi;have am:=ab.fref (hd.fld him hi);have aj:v.parts.getD k dE∈v.parts:=Zm hk;have z:=hv.part aj;have al:=Zmc ab.nm;obtain⟨ah,av⟩:=Zxf u.nmU hr hk;rw[av,ag]at ah;have hxh:ZL (v.parts.getD k dE)<=n:=by have h1:=ZaK aj;have h2:=WJ v;omega
  have hG:=ZaT.eq_1 d n (d.msgs.getD im dE) v p k;rw[ah,ag]at hG;have af:=λa ha hn=>ZyC u (n:=n) (v:=v) (p:=p) hi au ak (a:=a) ha hn;have ad:∀a,a<i->Yj ((d.msgs.getD im dE).fields.getD a dE)=true->Yr ((d.msgs.getD im dE).fields.getD a dE).name (WU (d.msgs.getD im dE) v.parts)=Zce (d.msgs.getD im dE).fields v.parts a:=λa ha hn =>
   ZhX ω u.nmU hn λao=>by have:=ZlH ha hi ao;omega
  have ae:∀a,a<i->Yj ((d.msgs.getD im dE).fields.getD a dE)=true->Zw ((d.msgs.getD im dE).fields.getD a dE).name (J4 (d.msgs.getD im dE) v.parts)=sO (Zce (d.msgs.getD im dE).fields v.parts a):=λa ha hn =>
   Zvu u.nmU v.parts ω hn
  have aq:Zh5 ((d.msgs.getD im dE).fields.getD i dE) (J4 (d.msgs.getD im dE) v.parts) (WU (d.msgs.getD im dE) v.parts):=by refine⟨λhz=>?_,λh9=>?_,ab.low⟩;obtain⟨h1,h2⟩:=ab.size hi hz;refine⟨h1,λt ht=>?_⟩;obtain⟨a,ha,ac,hn⟩:=h2 t ht;exact⟨_,by rw[<-ac];exact ae a ha hn,(af a ha hn).1,(af a ha hn).2,by rw[<-ac];exact ad a ha hn⟩;obtain⟨a,ha,ac,hn⟩:=ab.tag hi h9;rw[<-ac,ae a ha hn,ad a ha hn];rfl
  have hq:=ZcG p ((d.msgs.getD im dE).fields.getD i dE).name;rw[ag,hG];generalize v.parts.getD k dE=x at *;refine ZrM hI hb ⟨λe=>by rw[e]at al;simp at al,ω⟩ ω am ap z aq (Ym d n) (lenS d n) (λT s hs j hj=>?_) (λh12 h0=>?_);have ar:=Zab hs;have ai:x.parts.getD j dE∈x.parts:=Zm hj;have h1:=ZcG (Z5 p ((d.msgs.getD im dE).fields.getD i dE).name) (Yh x.parts j);have h2:=ZeD z.few z.name hj;have h3:=ZaK ai;have h4:=WJ x;exact Zf0 hI hd n (ixS d s) _ _ T ar.2 (z.part ai) ω ω;obtain⟨h1,h2⟩:=ZpS h0;exact⟨h1,ZAm hd (z.part (Zm ω)) h2⟩
def ZkC{z st}:Zap ZHF 63 [.ptr z 0] nO st λ_ S=>S=st:=by
 refine ZcO (cR 63 f63) rfl ψ λF i=>?_;refine rg ?_;refine ZgK i rfl rfl ?_;refine gR0 ?_;refine rg ?_;refine cd (λh=>?_) (λh=>?_);simp at h;refine Zp ?_;exact i.fin ZHH rfl
def ZkD{z st c}(hc:I c=2)(q no)(hn:inR .i64 no)(hq:I q<=big)(hz:st z=sO (.cells c)):
  Zap ZHF 63 [.ptr z 0] (sO (mfD q no)) st λb S=>b=true/\S=st.upd z (.cells [.str q,.i no]):=by
 obtain⟨j,n,rfl⟩:∃j n,c=[j,n]:=by
  match c,hc with
  | [j,n],_=>exact⟨j,n,rfl⟩
 refine ZcO (cR 63 f63) rfl (by rintro d ⟨⟩;exact⟨hq,hn,trivial⟩) λF u=>?_;refine rg ?_;refine Znt u rfl rfl λF2 i=>?_;refine gR0 ?_;refine rx @mfD.eq_1 ?_;refine cd (λh=>?_) (λh=>?_);refine rx @mfD.eq_1 ?_;refine rg ?_;refine cd (λt=>?_) (λt=>?_);simp at t;refine rx @hz ?_;exact i.fin ZHH ⟨rfl,rfl⟩;simp[mfD]at h
def ZmX(r:Str×Int):D:=.agg [.str (if r.2=0 then [] else r.1),.i r.2]
def ZhP(d:Dfn)(m:Msg)(v:Val)(R st)(t:∀S,Ze ZHF 64 [.agg d.cells,.agg m.cells,.agg v.cells,.str []] S (ZN R S)):
  Ze ZHF 25 [.agg d.cells,.agg m.cells,.agg v.cells] st λr S=>S=st/\r=.ret (ZmX R):=by
 refine Zh (cR 25 f25) λF hF=>?_;rw[ZHX]at t⊢;have i:=ZmX.eq_1 R;generalize ZmX R=W at *;refine rx (nd2 @eQ2 @eQ3) ?_;refine Zd ?_;refine xP 6 λz hz=>?_;refine rg ?_;refine Zmy (by obtain⟨_,_,_,_,_,_,rfl⟩:=hF;rfl) rfl rfl rfl rfl rfl rfl trivial trivial ?_ ?_ ?_;trivial;exact⟨rfl,trivial⟩;have j:=hF.defer 63 [] [.ptr z 0];clear hF;refine gR0 ?_;generalize F.defer 63 [] [.ptr z 0]=F at j⊢;refine rg ?_;refine cV (t _) ?_ ?_;refine mfK λu=>?_;rw[if_pos u,u]at i;refine gR0 ?_;refine rx (nd2 @ZHP @ZH4) ?_;refine j.retU ⟨trivial,⟨rfl,trivial⟩,Zb8 ZkC ?_⟩;rintro b S3 rfl;rw[ite_self];have g3:=ZHP st z (.cells [.str [],.i 0]);refine⟨_,[.agg [.str [],.i 0]],_,st,by simp only[Eqs,reduceCtorEq,ZHK,reduceIte,ZHI,ZHM,ZHJ,YK,Ks,g3];rfl,φ,ZHL _,ZH6 _ hz,rfl,by rw[i];rfl⟩;refine mfP λu=>?_;rw[if_neg u]at i;refine Zqx λhw=>?_;have n:=DWf.agg_inv (DWf.iface_inv hw);have h1:inR .i64 R.2:=(n _ ψ).int_inv;have h2:=(n (.str R.1) ψ).str_inv;refine j.panU ⟨trivial,⟨rfl,trivial⟩,Zb8 (ZkD rfl R.1 R.2 h1 h2 (ZHP _ _ _)) ?_⟩;rintro b S2 ⟨rfl,rfl⟩;have g3:=ZHP (st.upd z (.cells [.str [],.i 0])) z (.cells [.str R.1,.i R.2]);refine⟨_,[.agg [.str R.1,.i R.2]],_,st,by simp only[Eqs,reduceCtorEq,ZHK,reduceIte,ZHI,ZHM,ZHJ,YK,Ks,g3];rfl,φ,ZHL _,?_,rfl,by rw[i];rfl⟩;rw[ZH4];exact ZH6 _ hz
def Zrm{v}(h:Jf v=true)(j:ZW v=true->wtN v<=5000/\ZL v<=51):VOk v/\ZL v<=51:=by
 have i:ZW v=true:=by unfold Jf at h;simp only[ZHN]at h;simp_all
 exact⟨⟨i,(j i).1⟩,(j i).2⟩
def Zto(e):Zc ZHF 13 [.i e] (.i e):=by
 refine Zg (cR 13 f13) λF st i=>?_;refine gG ?_;refine ro i ?_;rfl
def ZuI{v}(i:ZW v=true->wtN v<=5000/\ZL v<=51):ZW v=true->Kz v<=1099511627776:=λh=>by
 have h1:=ZpN v;have h2:=(i h).1;omega
def ZcZ(f:Fld)(nm:Str)(to:Int):Bool:=((dC (f.name=nm)&&Yj f)&&dC (f.low<=to))&&dC (to<=f.high)
def W4(l:List Fld)(nm:Str)(to:Int)(P:List Val):List Val:=(ZHT P.length).map λj=>if ZcZ (l.getD j dE) nm to then (P.getD j dE).setI to else P.getD j dE
def ZdP{l nm to P}:(W4 l nm to P).length=P.length:=by simp[W4]
def ZdO{l nm to P j}(h:j<P.length):(W4 l nm to P).getD j dE=if ZcZ (l.getD j dE) nm to then (P.getD j dE).setI to else P.getD j dE:=by
 simp[W4,ZHU,h]
def Val.setPs(v:Val)(P:List Val):Val:=.mk v.name v.int v.bytes v.hdrs P
def MN.of{T S}{v}{c}{fp}{x cap}{row row'}{f}{X}(h:MN T v c fp x cap row f X){P}(n:P.length=I v.parts)(u:S x=sO (.cells (Z1 row' (I v.parts)++X)))(t:∀j,j<I v.parts->MT S (P.getD j dE) (row' j) (f j)):MN S (v.setPs P) c fp x cap row' f X:=by
 have i:(v.setPs P).parts.length=I v.parts:=n;exact⟨by rw[i];exact h.c,by rw[i];exact u,by rw[i];exact h.le,by rw[i];exact t,by rw[i];exact h.n,by rw[i];exact h.d,by rw[i];exact h.fp⟩
def ZfZ(l nm to){T v c fp x cap row f X}(hM:MN T v c fp x cap row f X)(hl:I l=I v.parts)(hb:I v.parts<=1000000){z5 z6}(h5:T z5=sO (.cells c))(h6:T z6=sO (.cells [Zk l]))(hx:z5≠x/\z6≠x):
  Ze ZHF 55 [.str nm,.i to,.ptr z6 0,.ptr z5 0] T λr S=>r=.ret (.tup [])/\(∃row',(∀j,j<I v.parts->row' j=row j\/row' j=Zq (row j) 1 [.i to])/\MN S (v.setPs (W4 l nm to v.parts)) c fp x cap row' f X)/\∀y,y≠x->S y=T y:=by
 have ai:∀j,j<I v.parts->(row j).length=5:=λj hj=>(hM.kid j hj).len;have hc:=hM.c;refine ZaH (cR 55 f55) λal F hF=>?_;clear al;refine rx (nd2 @h6 @Jw) ?_;refine Zb (fr (I l) (λi Q=>∀row' A,A x=sO (.cells (Z1 row' (I v.parts)++X))->(∀j,j<I v.parts->row' j=if dC (j<i)&&ZcZ (l.getD j dE) nm to then Zq (row j) 1 [.i to] else row j)->(∀y,y≠x->A y=T y)->i<=I l->Q [(0,.d (.str nm)),(1,.d (.i to)),(3,.d (.ptr z5 0)),(8,.d (Zk l)),(9,.d (.i (I l))),(10,.d (.i i))] [] A) (λn z=>?_) λak=>?_);intro i hn row' A hA t u hi;refine rg ?_;refine Zd (Zt rfl trivial (λhd=>?_) (λhd=>?_));simp only[decide_eq_true_eq]at hd;have hi':i<I l:=ω;have ae:∀j,j<I v.parts->(row' j).length=5:=λj hj=>by rw[t j hj];split;simp[Zq,ai j hj];exact ai j hj
 have aj:=Y6 ae;have ab:=Zem X 1 [.i to] ψ ae (show i<I v.parts by omega);have ad:=ZcZ.eq_1 (l.getD i dE) nm to;have am:A z5=sO (.cells [.str v.name,.i v.int,Zs v.bytes,Zx v.hdrs,.msl x 0 (I v.parts) cap 5]):=by rw[u _ hx.1,h5,hc]
 unfold Zq at ab;generalize ah:l.getD i dE=fd at *;refine xA (nd2 @atF (nd2 @ah (nd2 @Ql @J2))) ?_;refine rx @eQ0 ?_;refine cG (Zcu fd) ?_;refine cd (λh3=>?_) (λh3=>?_);have ag:ZcZ fd nm to=true:=by rw[ad];exact h3
 refine rx (nd2 @am @hA) ?_;refine⟨ω,ω,by rw[ZHO,aj];omega,?_⟩;simp only[ZHW,List.length_nil,Nat.zero_add]at ab;rw[ab];refine gA ?_;refine Za ?_;exact z ((I l)-(i+1)) ω (i+1) rfl _ _ (ZHP _ _ _) (λj hj=>by
  by_cases ac:j=i;subst ac;rw[if_pos rfl,t j hj,ah,ag];simp[Zq];simp only[if_neg ac,show dC (j<i+1)=dC (j<i) from decide_eq_decide.2 ω];exact t j hj) (λy hy=>by rw[ZHQ _ _ hy];exact u y hy) ω
 have ag:ZcZ fd nm to=false:=by rw[ad];exact h3
 refine gA ?_;refine Za ?_;exact z ((I l)-(i+1)) ω (i+1) rfl row' A hA (λj hj=>by
  rw[t j hj];by_cases ac:j=i;subst ac;rw[ah,ag];simp;simp only[show dC (j<i+1)=dC (j<i) from decide_eq_decide.2 ω]) u ω
 simp only[decide_eq_false_iff_not]at hd;obtain rfl:i=I l:=ω;refine ZR rfl ?_;refine hF.fin (.tup []) A rfl trivial (ZHL _) ZHH ⟨rfl,⟨row',λj hj=>by rw[t j hj];split;exact .inr rfl;exact .inl rfl,hM.of ZdP hA λj hj=>?_⟩,u⟩;rw[ZdO hj,t j hj];have af:=(hM.kid j hj).mono (T':=A) λy hy=>u y λe=>hM.n j hj (e▸hy);simp only[show dC (j<I l)=true from decide_eq_true ω,ZH3];split;exact af.setI to;exact af;exact ak _ 0 rfl row T hM.b (λj hj=>by simp) (λy hy=>rfl) ω
def ZoT(l nm to){T v c fp x cap row f X}(hM:MN T v c fp x cap row f X)(i:I l=I v.parts)(u:I v.parts<=1000000){z5 z6}(n:T z5=sO (.cells c))(t:T z6=sO (.cells [Zk l]))(hx:z5≠x/\z6≠x):
  Ze ZHF 55 [.str nm,.i to,.ptr z6 0,.ptr z5 0] T λr S=>r=.ret (.tup [])/\(∃row',MN S (v.setPs (W4 l nm to v.parts)) c fp x cap row' f X)/\∀y,y≠x->S y=T y :=
 (ZfZ l nm to hM i u n t hx).mono λr S ⟨h1,⟨row',_,j⟩,z⟩=>⟨h1,⟨row',j⟩,z⟩
def KF(l:List Fld)(s:Jp)(n:Int)(P:List Val):List Val:=match s.terms with
 | [t]=>match Zdm t s.base n with
  |some to=>W4 l t.field to P
  |none=>P
 |_=>P
def Zlm{L s}(l):qv L s .lenL [.d (Yd l)]=sO (True,.d (.i (I l))):=rfl
def Zwe{L s}(l i):qv L s (.iaddr 2) [.d (Yd l),.d (.i i)]=sO (0<=i/\i<I l,.d (.ep (l.getD i.toNat dE).cells 0)):=rfl
def ZaC(v:Val):v.setPs v.parts=v:=by cases v;rfl
def Zdj(l s)(hs:ZI s=true)(n){T v c fp x cap row f X}(hM:MN T v c fp x cap row f X)(hl:I l=I v.parts)(hb:I v.parts<=1000000){z5 z6 z7}(h5:T z5=sO (.cells c))(h6:T z6=sO (.cells [Zk l]))(h7:T z7=sO (.cells [.fn (.func 55) [] [.ptr z6 0,.ptr z5 0]]))(hx:z5≠x/\z6≠x):
  Ze ZHF 57 [.agg s.cells,.i n,.ptr z7 0] T λr S=>r=.ret (.tup [])/\(∃row',MN S (v.setPs (KF l s n v.parts)) c fp x cap row' f X)/\∀y,y≠x->S y=T y:=by
 have i:KF l s n v.parts=v.parts->∃row',MN T (v.setPs (KF l s n v.parts)) c fp x cap row' f X:=λh=>⟨row,by rw[h,ZaC];exact hM⟩;refine Zh (cR 57 f57) λF hF=>?_;refine rx @eQ4 ?_;refine rx @Zlm ?_;refine cd (λh1=>?_) (λh1=>?_);simp only[Bool.not_eq_true',decide_eq_false_iff_not]at h1;refine hF.ret (.tup []) T rfl trivial (ZHL _) ZHH ⟨rfl,i ?_,λ_ _=>rfl⟩;unfold KF;split;rename_i h2;rw[h2]at h1;simp at h1;rfl;simp only[Bool.not_eq_false',decide_eq_true_eq]at h1;obtain⟨t,ht⟩:∃t,s.terms=[t]:=by
  match hst:s.terms,h1 with
  | [t],_=>exact⟨t,rfl⟩
  | [],h1=>simp at h1
  |_::_::_,h1=>simp at h1;omega
 have u:s.terms.getD 0 dE=t:=by rw[ht];rfl
 have z:I s.terms=1:=by rw[ht];rfl
 refine xA (nd2 @Zwe (nd2 @u (nd2 @z @eQ8))) ?_;refine rx @eQ4 ?_;refine cV (ZrN s hs t ht n T) ?_ ?_
 .rintro d S ⟨hd,hS⟩;obtain rfl:=hS.symm;cases hd;have hP:KF l s n v.parts=match Zdm t s.base n with
   |some to=>W4 l t.field to v.parts
   |none=>v.parts:=by unfold KF;rw[ht]
  cases j:Zdm t s.base n with
  |none =>rw[j]at hP;rw[show ZhU nO=.tup [.i 0,.i 9] from rfl];refine gR0 ?_;refine gI ?_;refine Zp ?_;exact hF.fin (.tup []) T rfl trivial (ZHL _) ZHH ⟨rfl,i hP,λ_ _=>rfl⟩
  |some to =>rw[j]at hP;rw[show ZhU (sO to)=.tup [.i to,.i 0] from rfl];refine gR0 ?_;refine rg ?_;refine i1 ?_;refine rx @h7 ?_;refine vV ((ZoT l t.field to hM hl hb h5 h6 hx).V (first:=[]) (caps:=[_,_])) ?_ ?_;rintro d S ⟨hd,h8,h9⟩;cases hd;refine gR0 ?_;exact hF.fin (.tup []) S rfl trivial (ZHL _) ZHH ⟨rfl,by rw[hP];exact h8,h9⟩;rintro d S ⟨hd,_⟩;cases hd
 rintro d S ⟨hd,_⟩;cases hd
def ZoU{c:Yw}{T z y k cap nm ds}(t:T z=sO (.cells [.msl y 0 k cap 5]))(hk:0<k)(n:T y=sO (.cells (.str nm::ds)))(hl:4<=I ds):ZU ZHF 60 [.agg c.cells,.ptr z 0] T (.bool (dC (c.of=nm))) T:=by
 refine ZK (cR 60 f60) λj F i=>?_;clear j;refine rx @eQ9 ?_;refine xA (nd2 @t (nd2 @n @Nat.zero_mul)) ?_;exact i rfl φ (ZHL _) ZHH
def Wg(rec:Msg->Val->Val)(d:Dfn)(f:Fld)(x:Val):Val :=
 if f.kind=7\/f.kind=8\/f.kind=12 then x.setPs (x.parts.map λy=>if y.name=f.of then rec (Zl d f.of) y else y) else x
def ZmQ(rec:Msg->Val->Val)(d:Dfn)(m:Msg)(f:Fld)(P:List Val)(i:Nat)(y:Val):List Val :=
 if Zi (λc:Yw=>dC (c.of=y.name)) f.cases<0 then P else
  let has:=KJ f ((Zw f.tag (J4 m P)).getD 0);let P2:=if has<0\/(f.cases.getD has.toNat dE).of≠y.name then W4 (vfs m.fields) f.tag (f.cases.getD (Zi (λc:Yw=>dC (c.of=y.name)) f.cases).toNat dE).low P else P
  P2.set i ((P2.getD i dE).setPs [rec (Zl d y.name) y])
def Zcl(rec:Msg->Val->Val)(d:Dfn)(m:Msg)(f:Fld)(P:List Val)(i:Nat):List Val :=
 let x:=P.getD i dE;let y:=x.parts.getD 0 dE
 if f.kind=4 then KF (vfs m.fields) f.size (I x.bytes) P
 else if f.kind=7 then KF (vfs m.fields) f.size (I x.parts) P
 else if f.kind=12/\I x.parts=1 then (if (Ym d 51 (Zl d f.of) y []).2=0 then KF (vfs m.fields) f.size (lenS d 51 (Zl d f.of) y) P else P)
 else if f.kind=9/\I x.parts=1 then ZmQ rec d m f P i y
 else P
def Jm(rec:Msg->Val->Val)(d:Dfn)(m:Msg)(P:List Val)(i:Nat):List Val :=
 Zcl rec d m ((vfs m.fields).getD i dE) (P.set i (Wg rec d ((vfs m.fields).getD i dE) (P.getD i dE))) i
def WB(d:Dfn):Nat->Msg->Val->Val
 |0,_,v=>v
 |n+1,m,v=>if WL (vfs m.fields) v.parts then v.setPs ((ZHT (I v.parts)).foldl (Jm (WB d n) d m) v.parts) else v
def Znd{l:List Val}{i}:l.set i (l.getD i dE)=l:=by
 refine List.ext_getElem ψ λj h1 n=>?_;rw[List.getElem_set];split;rename_i h;subst h;simp[ZHU,n];rfl
def ZwD{l x}(h:x∈l):ZL x<=heightL l:=by
 induction l with
 |nil=>simp at h
 |cons v r ih =>simp only[heightL];rcases List.mem_cons.1 h with rfl|h;omega;have:=ih h;omega
def KN{v x}(h:x∈v.parts):ZL x+1<=ZL v:=by
 have:=ZwD h;rw[WJ v];omega
section
variable {mis:Msg->Val->Str->Str × Int} {len:Msg->Val->Int} {d:Dfn} {f:Fld} {x:Val} {q:Str} {l:List (Str × Int)}
end
mutual
def ZH:Val->Val
 |.mk n _ b h p=>.mk n 0 b h (plainL p)
def plainL:List Val->List Val
 | []=>[]
 |v::r=>ZH v::plainL r
end
def Zow:∀l:List Val,plainL l=l.map ZH
 | []=>rfl
 |v::r=>by simp[plainL,Zow r]
def ZcI(v):ZH v=.mk v.name 0 v.bytes v.hdrs (v.parts.map ZH):=by
 cases v;simp only[ZH,Zow];rfl
def Zw1{v i}:ZH (v.setI i)=ZH v:=by rw[ZcI,ZcI v];rfl
def Zg6{v P}(h:P.map ZH=v.parts.map ZH):ZH (v.setPs P)=ZH v:=by
 rw[ZcI,ZcI v];show Val.mk v.name 0 v.bytes v.hdrs (P.map ZH)=_;rw[h]
def Zox{l nm to P}:(W4 l nm to P).map ZH=P.map ZH:=by
 refine List.ext_getElem (by simp[W4]) λj h1 t=>?_;have i:j<P.length:=by simpa using t
 have u:=ZdO (l:=l) (nm:=nm) (to:=to) i;have n:(W4 l nm to P).getD j dE=(W4 l nm to P)[j]'(by rw[ZdP];exact i):=by simp[ZHU,ZdP,i]
 have z:P.getD j dE=P[j]:=by simp[ZHU,i]
 rw[List.getElem_map,List.getElem_map,<-n,u,z];split;exact Zw1;rfl
def ZfM{l s n P}:(KF l s n P).map ZH=P.map ZH:=by
 unfold KF;split;split;exact Zox;rfl;rfl
def Zgy{P:List Val}{i x}(h:ZH x=ZH (P.getD i dE)):(P.set i x).map ZH=P.map ZH:=by
 rw[List.map_set,h];refine List.ext_getElem ψ λj h1 t=>?_;rw[List.getElem_set];split;rename_i e;subst e;have n:i<P.length:=by simpa using t
 simp[ZHU,n];rfl
section
variable {d:Dfn} {m:Msg} {rec:Msg->Val->Val} (hrec:∀ s y,ZH (rec (Zl d s) y)=ZH y)
include hrec
def ZiB{f x}:ZH (Wg rec d f x)=ZH x:=by
 unfold Wg;split;refine Zg6 ?_;rw[List.map_map];refine List.map_congr_left λy _=>?_;simp only[Function.comp];split;exact hrec _ _;rfl;rfl
def Zw0{f P i}(u:(P.getD i dE).parts.length=1):(ZmQ rec d m f P i ((P.getD i dE).parts.getD 0 dE)).map ZH=P.map ZH:=by
 have j:∀P2:List Val,P2.map ZH=P.map ZH->(P2.set i ((P2.getD i dE).setPs [rec (Zl d ((P.getD i dE).parts.getD 0 dE).name) ((P.getD i dE).parts.getD 0 dE)])).map ZH=P.map ZH:=λP2 n=>by
  rw[<-n];refine Zgy (Zg6 ?_);have e:ZH (P2.getD i dE)=ZH (P.getD i dE):=by have:=congrArg (λl:List Val=>l.getD i (ZH dE)) n;simpa only[ZHU,List.getElem?_map,Option.getD_map]using this
  have t:(P2.getD i dE).parts.map ZH=(P.getD i dE).parts.map ZH:=by have:=congrArg Val.parts e;rw[ZcI,ZcI (P.getD i dE)]at this;exact this
  rw[t]
  match hp:(P.getD i dE).parts,u with
  | [a],_=>simp[hrec]
 unfold ZmQ;split;rfl;dsimp only;split;exact j _ Zox;exact j _ rfl
def ZwZ{f P i}:(Zcl rec d m f P i).map ZH=P.map ZH:=by
 unfold Zcl;dsimp only;split;exact ZfM;split;exact ZfM;split;split;exact ZfM;rfl;split;rename_i h;exact Zw0 hrec h.2;rfl
def Zb2{P i}:(Jm rec d m P i).map ZH=P.map ZH:=by
 unfold Jm;rw[ZwZ hrec];exact Zgy (ZiB hrec)
end
def ZbI{d}:∀(n m v),ZH (WB d n m v)=ZH v
 |0,_,_=>rfl
 |n+1,m,v=>by
  unfold WB;split
  .refine Zg6 ?_;have:∀(l:List Nat) (P:List Val),(l.foldl (Jm (WB d n) d m) P).map ZH=P.map ZH:=λl=>by
    induction l with
    |nil=>intro P;rfl
    |cons k r ih=>intro P;rw[List.foldl_cons,ih];exact Zb2 λs y=>ZbI n _ y
   exact this _ _
  rfl
def Zbt{v}:ZW v=true↔(∀x∈v.parts,ZW x=true)/\QM v=true:=by
 rw[ZdH,ZHN,Zda,List.all_eq_true]
def ZwW{v i}(h:ZW v=true)(n:0<=i)(t:i<34359738368):ZW (v.setI i)=true:=by
 rw[Zbt]at h⊢;refine⟨h.1,?_⟩;have j:=h.2;unfold QM at j⊢;simp only[ZHN,decide_eq_true_eq]at j⊢;exact⟨⟨⟨⟨⟨j.1.1.1.1.1,n⟩,t⟩,j.1.1.2⟩,j.1.2⟩,j.2⟩
def Zg4{v P}(h:ZW v=true)(i:∀x∈P,ZW x=true):ZW (v.setPs P)=true:=by
 rw[Zbt]at h⊢;exact⟨i,h.2⟩
def Zso(m:Msg):Prop:=∀f∈vfs m.fields,Yj f=true->0<=f.low/\f.high<34359738368
def ZhB{P:List Val}(h:∀x∈P,ZW x=true){i}(j:i<P.length):ZW (P.getD i dE)=true:=h _ (Zm j)
def ZvE{m}(hm:Zso m){nm to P}(h:∀x∈P,ZW x=true):∀x∈W4 (vfs m.fields) nm to P,ZW x=true:=λx t=>by
 unfold W4 at t;rw[List.mem_map]at t;obtain⟨j,n,rfl⟩:=t;rw[List.mem_range]at n;split;rename_i i;unfold ZcZ at i;simp only[ZHN,decide_eq_true_eq]at i;by_cases z:j<(vfs m.fields).length;have:=hm _ (Zm z) i.1.1.2;exact ZwW (ZhB h n) ω ω;have u:=i.1.1.2;rw[show(vfs m.fields).getD j dE=dE by simp[ZHU,ZIr (Nat.le_of_not_lt z)]]at u;exact absurd u (by decide);exact ZhB h n
def Zj0{m}(hm:Zso m){s n P}(h:∀x∈P,ZW x=true):∀x∈KF (vfs m.fields) s n P,ZW x=true:=by
 unfold KF;split;split;exact ZvE hm h;exact h;exact h
def Zos{P:List Val}{i x}(h:∀x∈P,ZW x=true)(n:ZW x=true):∀y∈P.set i x,ZW y=true:=λy j=>by
 rcases List.mem_or_eq_of_mem_set j with t|rfl;exact h y t;exact n
section
variable {d:Dfn} {m:Msg} {rec:Msg->Val->Val} (hrec:∀ s y,ZW y=true->ZW (rec (Zl d s) y)=true) (hm:Zso m)
include hrec
def ZpR{f x}(h:ZW x=true):ZW (Wg rec d f x)=true:=by
 unfold Wg;split;refine Zg4 h λz i=>?_;rw[List.mem_map]at i;obtain⟨y,j,rfl⟩:=i;have:=(Zbt.1 h).1 y j;split;exact hrec _ _ this;exact this;exact h
include hm
def ZpQ{f P i}(hi:i<P.length)(h:∀x∈P,ZW x=true):∀x∈Zcl rec d m f P i,ZW x=true:=by
 unfold Zcl;dsimp only;split;exact Zj0 hm h;split;exact Zj0 hm h;split;split;exact Zj0 hm h;exact h;split;rename_i h9;have t:ZW ((P.getD i dE).parts.getD 0 dE)=true:=(Zbt.1 (ZhB h hi)).1 _ (Zm ω);have j:∀P2:List Val,P2.length=P.length->(∀x∈P2,ZW x=true)->∀x∈P2.set i ((P2.getD i dE).setPs [rec (Zl d ((P.getD i dE).parts.getD 0 dE).name) ((P.getD i dE).parts.getD 0 dE)]),ZW x=true:=λP2 hl n =>
  Zos n (Zg4 (ZhB n ω) λz u=>by rw[List.mem_singleton.1 u];exact hrec _ _ t)
 unfold ZmQ;split;exact h;dsimp only;split;exact j _ ZdP (ZvE hm h);exact j _ rfl h;exact h
end
def Zes{P Q:List Val}(h:P.map ZH=Q.map ZH):P.length=Q.length:=by simpa using congrArg List.length h
def ZhF{d}(hd:∀s,Zso (Zl d s)):∀(n s v),ZW v=true->ZW (WB d n (Zl d s) v)=true
 |0,_,_,h=>h
 |n+1,s,v,h=>by
  unfold WB;split
  .refine Zg4 h ?_;have:∀(l:List Nat) (P:List Val),(∀k∈l,k<P.length)->(∀x∈P,ZW x=true)->∀x∈l.foldl (Jm (WB d n) d (Zl d s)) P,ZW x=true:=λl=>by
    induction l with
    |nil=>intro P _ z;exact z
    |cons k r ih =>intro P u z;rw[List.foldl_cons];have t:=Zes (Zb2 (m:=Zl d s) (P:=P) (i:=k) (λs y=>ZbI (d:=d) n (Zl d s) y));refine ih _ (λj hj=>by rw[t];exact u j (by simp[hj])) ?_;unfold Jm;refine ZpQ (λs y hy=>ZhF hd n s y hy) (hd s) (by rw[List.length_set];exact u k ψ) (Zos z (ZpR (λs y hy=>ZhF hd n s y hy) (ZhB z (u k ψ))))
   exact this _ _ (λk u=>List.mem_range.1 u) (Zbt.1 h).1
  exact h
def Zp3{d}(hd:WW d){i}(hi:i<I d.msgs):Zso (d.msgs.getD i dE):=by
 intro f n hn;have hm:=hd.msg hi;unfold vfs at n;rw[List.mem_filter]at n;obtain⟨k,t,he⟩:=ZH1 n.1;have j:=hm.at_ t;rw[show(d.msgs.getD (i) dE).fields.getD k dE=f by rw[List.getD_eq_getElem?_getD,ZIb t];exact he]at j;have u:=j.num hn;have z:¬f.kind=2:=by have:=n.2;unfold Y5 at this;simp only[ZHN,Bool.not_eq_true',decide_eq_false_iff_not]at this;exact this.1.1
 exact⟨u.1,u.2.2 z⟩
def Zp4{d}(n:WW d)(s):Zso (Zl d s):=by
 unfold Zl;by_cases i:ixS d s<I d.msgs;exact Zp3 n i;rw[show d.msgs.getD (ixS d s) dE=dE by simp[ZHU,ZIr (Nat.le_of_not_lt i)]];intro f j;simp[show(dE:Msg).fields=[] from rfl,vfs]at j
mutual
def K9:∀v:Val,wtN (ZH v)=wtN v
 |.mk n i b h p=>by simp only[ZH,wtN,plain_wtL p]
def plain_wtL:∀l:List Val,wtL (plainL l)=wtL l
 | []=>rfl
 |v::r=>by simp only[plainL,wtL,K9 v,plain_wtL r]
end
mutual
def Ws:∀v:Val,ZL (ZH v)=ZL v
 |.mk n i b h p=>by simp only[ZH,ZL,plain_heightL p]
def plain_heightL:∀l:List Val,heightL (plainL l)=heightL l
 | []=>rfl
 |v::r=>by simp only[plainL,heightL,Ws v,plain_heightL r]
end
def Zs8{d}(j:WW d){n s v}(i:VOk v):VOk (WB d n (Zl d s) v) :=
 ⟨ZhF (Zp4 j) n s v i.ok,by rw[<-K9,ZbI,K9];exact i.wt⟩
def Zl5{d n m v}:ZL (WB d n m v)=ZL v:=by rw[<-Ws,ZbI,Ws]
def Zgn{row X n i k}(h:∀j,j<n->(row j).length=5)(u:i<n)(z:k<5):(Z1 row n++X)[i*5+k]?=(row i)[k]?:=by
 have t:=KS X h u;unfold part at t;have:(((Z1 row n++X).drop (i*5)).take 5)[k]?=(row i)[k]?:=by rw[t]
 rw[ZIm,if_pos z,List.getElem?_drop]at this;exact this
def MN.fmem{T v c fp x cap row f X}(h:MN T v c fp x cap row f X){i y}(n:i<I v.parts)(j:y∈f i):y∈fp:=by
 rw[h.fp];simp only[ZIj,List.mem_flatMap,List.mem_range];exact .inr ⟨i,n,j⟩
def MN.xmem{T v c fp x cap row f X}(h:MN T v c fp x cap row f X):x∈fp:=by rw[h.fp];simp
def MN.len5{T v c fp x cap row f X}(h:MN T v c fp x cap row f X):∀j,j<I v.parts->(row j).length=5:=λj i=>(h.kid j i).len
def Zt7{i}:(λk=>if k=i then row i else row k)=row:=by
 funext k;split;next e=>rw[e]
 rfl
def MN.subK{T S}{v}{c}{fp}{x cap}{row}{f}{X}(h:MN T v c fp x cap row f X){i}(j:i<I v.parts){g}(u:MT S g (row i) (f i))(n:∀y,y∉f i->S y=T y):MT S (v.setP i g) c fp:=by
 have hm:=h.child j (r':=row i) u (by rw[Zt7,n x (h.n i j)];exact h.b) (λy _ t=>n y t);exact hm.mt (by simp only[Val.setP,Val.parts,List.length_set];exact Nat.lt_of_le_of_lt (Nat.zero_le _) j)
structure FI(T A:St)(v:Val)(l:List Fld)(P:List Val)(c:List D)(fp:List Nat)(x cap:Nat)(row:Nat->List D)(f:Nat->List Nat)(X:List D)(z5 z6 z7:Nat):Prop where
 mn:MN A (v.setPs P) c fp x cap row f X
 a5:A z5=some (.cells c)
 a6:A z6=some (.cells [Zk l])
 a7:A z7=some (.cells [.fn (.func 55) [] [.ptr z6 0,.ptr z5 0]])
 n5:z5∉fp
 n6:z6∉fp
 n7:z7∉fp
 out:∀y,y∉fp->y≠z5->y≠z6->y≠z7->A y=T y
section
variable {T A S:St} {v:Val} {l:List Fld} {P:List Val} {c:List D} {fp:List Nat} {x cap:Nat} {row row':Nat->List D} {f:Nat->List Nat} {X:List D} {z5 z6 z7:Nat}
def FI.ne(h:FI T A v l P c fp x cap row f X z5 z6 z7):z5≠x/\z6≠x/\z7≠x :=
 ⟨λe=>h.n5 (e▸h.mn.xmem),λe=>h.n6 (e▸h.mn.xmem),λe=>h.n7 (e▸h.mn.xmem)⟩
def FI.num(h:FI T A v l P c fp x cap row f X z5 z6 z7){Q}(hm:MN S (v.setPs Q) c fp x cap row' f X)(i:∀y,y≠x->S y=A y):FI T S v l Q c fp x cap row' f X z5 z6 z7 :=
 ⟨hm,by rw[i _ h.ne.1];exact h.a5,by rw[i _ h.ne.2.1];exact h.a6,by rw[i _ h.ne.2.2];exact h.a7,h.n5,h.n6,h.n7,λy j n t u=>by rw[i y λe=>j (e▸h.mn.xmem)];exact h.out y j n t u⟩
def FI.sub(h:FI T A v l P c fp x cap row f X z5 z6 z7){i}(hi:i<P.length){g}(hg:MT S g (row i) (f i))(ho:∀y,y∉f i->S y=A y):FI T S v l (P.set i g) c fp x cap row f X z5 z6 z7:=by
 have z:x∉f i:=h.mn.n i hi;have t:∀{y:Nat},y∉fp->S y=A y:=λn=>ho _ λhf=>n (h.mn.fmem hi hf);have hm:=h.mn.child (j:=i) hi (w:=g) (r':=row i) hg (by
  have:(λk=>if k=i then row i else row k)=row:=by
   funext k;split;next e=>rw[e]
   rfl
  rw[this,ho x z];exact h.mn.b) (λy _ n=>ho y n)
 have u:(λk=>if k=i then row i else row k)=row:=by
  funext k;split;next e=>rw[e]
  rfl
 rw[u]at hm;exact⟨hm,by rw[t h.n5];exact h.a5,by rw[t h.n6];exact h.a6,by rw[t h.n7];exact h.a7,h.n5,h.n6,h.n7,λy n h5 h6 h7=>by rw[t n];exact h.out y n h5 h6 h7⟩
end
def MT.cells4{T v c fp}(h:MT T v c fp):∃p,c=[.str v.name,.i v.int,Zs v.bytes,Zx v.hdrs,p]/\YC T fp p (ZF v.parts)/\(I v.parts=0->p=ZF [])/\Qm p=true/\∀L s,qv L s .lenL [.d p]=sO (True,.d (.i (I v.parts))):=by
 cases h with
 |leaf n i b h=>exact⟨_,rfl,.refl _,λ_=>rfl,rfl,λ_ _=>rfl⟩
 |node n i b h ps x cap row f X hp hb hc hx hn hd =>refine⟨_,rfl,?_,λt=>by simp only[Val.parts]at t;omega,rfl,λ_ _=>rfl⟩;have hm:MT T (.mk n i b h ps) _ _:=.node n i b h ps x cap row f X hp hb hc hx hn hd;have:=hm.ld (Ln:=x::(ZHT (I ps)).flatMap f) λ_ j=>j;rw[ZHX]at this;cases this with|cons _ this=>cases this with|cons _ this=>cases this with|cons _ this=>cases this with|cons _ this=>cases this with|cons h5 _=>exact h5
def Zok{f args i T Ln d}(u:∀b∈Ln,∃ds,T b=sO (.cells ds))(n:LdC T Ln args i)(t:Zc ZHF f i d)(z:SC (λb=>((λ_=>nO:St) b).isSome=true) d):Ze ZHF f args T λr S=>r=.ret d/\S=T:=by
 have h:=Ze.lend u n (t λ_=>nO) (λr S j=>by
  obtain⟨rfl,rfl⟩:=j;exact⟨z,λb o h=>by simp at h⟩)
 refine h.mono λr S hS=>?_;obtain⟨S',⟨j,rfl⟩,_,rfl⟩:=hS;exact⟨j,Zg5 T⟩
section
variable {T A S:St} {v:Val} {l:List Fld} {P:List Val} {c:List D} {fp:List Nat} {x cap:Nat} {row row':Nat->List D} {f:Nat->List Nat} {X:List D} {z5 z6 z7:Nat}
def MN.mono{w}(h:MN T w c fp x cap row f X)(n:∀y∈fp,S y=T y):MN S w c fp x cap row f X :=
 ⟨h.c,by rw[n x h.xmem];exact h.b,h.le,λj i=>(h.kid j i).mono λy t=>n y (h.fmem i t),h.n,h.d,h.fp⟩
def FI.live(h:FI T A v l P c fp x cap row f X z5 z6 z7)(n:0<P.length){z}(j:A z=nO):z∉fp/\z≠z5/\z≠z6/\z≠z7:=by
 refine⟨λhm=>?_,λe=>?_,λe=>?_,λe=>?_⟩;obtain⟨ds,i⟩:=(h.mn.mt n).live z hm;rw[j]at i;simp at i;rw[e,h.a5]at j;simp at j;rw[e,h.a6]at j;simp at j;rw[e,h.a7]at j;simp at j
def FI.box(h:FI T A v l P c fp x cap row f X z5 z6 z7)(j:0<P.length){z}(u:A z=nO)(o):FI (T.upd z o) (A.upd z o) v l P c fp x cap row f X z5 z6 z7:=by
 obtain⟨k1,k2,k3,n⟩:=h.live j u;refine⟨h.mn.mono λy i=>ZHQ _ _ λe=>k1 (e▸i),by rw[ZHQ _ _ k2.symm];exact h.a5,by rw[ZHQ _ _ k3.symm];exact h.a6,by rw[ZHQ _ _ n.symm];exact h.a7,h.n5,h.n6,h.n7,λy i t h6 h7=>?_⟩;by_cases e:y=z;subst e;rw[ZHP,ZHP];rw[ZHQ _ _ e,ZHQ _ _ e];exact h.out y i t h6 h7
def FI.unbox{z o}(h:FI (T.upd z o) S v l P c fp x cap row f X z5 z6 z7)(u:z∉fp)(j:z≠z5/\z≠z6/\z≠z7)(hT:T z=nO):
  FI T (λy=>if y=z then nO else S y) v l P c fp x cap row f X z5 z6 z7/\St.sub (λy=>if y=z then nO else S y) S:=by
 refine⟨⟨h.mn.mono λy i=>if_neg λe:y=z=>u (e▸i),?_,?_,?_,h.n5,h.n6,h.n7,λy i n t h7=>?_⟩,λy o i=>?_⟩;rw[if_neg j.1.symm];exact h.a5;rw[if_neg j.2.1.symm];exact h.a6;rw[if_neg j.2.2.symm];exact h.a7;by_cases e:y=z;subst e;rw[if_pos rfl];exact hT.symm;rw[if_neg e,h.out y i n t h7,ZHQ _ _ e];dsimp only at i;by_cases e:y=z;rw[if_pos e]at i;simp at i;rw[if_neg e]at i;exact i
def ZyD{w}(hM:MT T w c fp){p}(hp:YC T fp p (ZF w.parts))(m)(n:0<I m.fields)(u:I m.fields<=1000)(hn:(vfs m.fields).length=I w.parts):
  Ze ZHF 62 [.agg m.cells,p] T λr S=>∃b,T b=nO/\r=.ret (.map b)/\S=T.upd b (.map (JZ (J4 m w.parts))):=by
 have h:=Ze.lend (P:=ZHF) (Ln:=fp) (t:=T) hM.live (.cons (YC.refl (.agg m.cells)) (.cons hp .nil)) (Zey m n u w.parts hn λ_=>nO) (λr S z=>by
  obtain⟨b,_,rfl,rfl⟩:=z;refine⟨.map b,λb' o j=>?_⟩;by_cases e:b'=b;subst e;rw[ZHP]at j;simp only[ZHE]at j;subst j;intro e he;unfold JZ Qv at he;obtain⟨q,_,rfl⟩:=List.mem_map.1 he;exact⟨.str _,.int _ _⟩;rw[ZHQ _ _ e]at j;simp at j)
 refine h.mono λr S hS=>?_;obtain⟨S',⟨b,_,z,rfl⟩,hd,rfl⟩:=hS;have i:T b=nO:=by
  cases ht:T b with
  |none=>rfl
  |some o=>have:=hd b o ht;rw[ZHP]at this;simp at this
 refine⟨b,i,z,?_⟩;funext y;by_cases e:y=b;subst e;rw[ZHP];exact Zu (ZHP _ _ _);rw[ZHQ _ _ e,ZM (by rw[ZHQ _ _ e])]
end
def ZmA(g:Val)(T:St)(c:List D)(fp:List Nat):Res->St->Prop:=λr S=>r=.ret (.tup [])/\MT S g c fp/\∀y,y∉fp->S y=T y
def ZwS{T p fp ps}(j:∀b∈fp,∃ds,T b=sO (.cells ds))(i:YC T fp p (ZF ps))(l):Ze ZHF 54 [Zk l,p] T λr S=>r=.ret (.bool (WL l ps))/\S=T :=
 Zok j (.cons (.refl _) (.cons i .nil)) (ZhQ l ps) (.bool _)
def Zpw{L s}(l i):qv L s (.iaddr 3) [.d (Yk l),.d (.i i)]=sO (0<=i/\i<I l,.d (.ep (l.getD i.toNat dE).cells 0)):=rfl
def ZoV(hI:Zba){d}(hd:WW d)(nn im)(him:im<I d.msgs)(rec v)(hv:VOk v)(hh:ZL v<=nn+1)(hn:nn<=50)(hpl:∀s y,ZH (rec (Zl d s) y)=ZH y)(hok:∀s y,ZW y=true->ZW (rec (Zl d s) y)=true)(hrec:∀(s:Str) (g:Val) (T:St) (c:List D) (fp:List Nat),0<=Zr d s (I d.msgs)->VOk g->ZL g<=nn->MT T g c fp->Ze ZHF 24 [.agg d.cells,.agg (Zl d s).cells,.agg c] T (ZmA (rec (Zl d s) g) T c fp)){T c fp}(hM:MT T v c fp):
  Ze ZHF 24 [.agg d.cells,.agg (d.msgs.getD im dE).cells,.agg c] T (ZmA (if WL (vfs (d.msgs.getD im dE).fields) v.parts then v.setPs ((ZHT (I v.parts)).foldl (Jm rec d (d.msgs.getD im dE)) v.parts) else v) T c fp):=by
 have hm:=hd.msg him;have cv:=hd.pos him;have bt:=hd.dref _ (Zm him);have hm40:=hm.many;have fd:=Zp3 hd him;generalize d.msgs.getD im dE=m at *;obtain⟨p5,hc,e7,hp0,_,_⟩:=hM.cells4;generalize hl:vfs m.fields=l at *;generalize hG:(if WL l v.parts=true then v.setPs ((ZHT (I v.parts)).foldl (Jm rec d m) v.parts) else v)=G;have d4:=Zdl m cv ω;rw[hl]at d4;refine Zh (cR 24 f24) λF hF=>?_;rw[hc];refine rx (nd2 @eQ2 @eQ3) ?_;refine rx @eQ3 ?_;refine cl (d4) ?_;refine aa ?_;refine rg ?_;refine cV (ZwS hM.live e7 l) ?_ ?_
 .rintro dd S ⟨hr,hS⟩;obtain rfl:=hS.symm;cases hr;refine gR0 ?_;cases b2:WL l v.parts with
  |false =>rw[b2,if_neg ψ]at hG;subst hG;refine i1 ?_;rw[<-hc];exact hF.ret (.tup []) T rfl trivial (ZHL _) ZHH ⟨rfl,hM,λ_ _=>rfl⟩
  |true =>
   rw[b2,if_pos rfl]at hG;have ch:I l=I v.parts:=by unfold WL at b2;rw[decide_eq_true_eq]at b2;simpa using congrArg List.length b2
   refine i0 ?_;refine Zp (Zd ?_);refine xP 6 λz6 h6=>?_;refine xP 5 λz5 h5=>?_;refine rg ?_;refine Zd ?_;refine xP 7 λz7 h7=>?_;have c6:z5≠z6:=λe=>by rw[e,ZHP]at h5;simp at h5
   have dr:z7≠z6:=λe=>by rw[e,ZHQ _ _ c6.symm,ZHP]at h7;simp at h7
   have dt:z7≠z5:=λe=>by rw[e,ZHP]at h7;simp at h7
   have t5:T z5=nO:=by rwa [ZHQ _ _ c6]at h5
   have t7:T z7=nO:=by rwa [ZHQ _ _ dt,ZHQ _ _ dr]at h7
   have nf:∀z,T z=nO->z∉fp:=λz hz hm=>by obtain⟨ds,h⟩:=hM.live z hm;rw[hz]at h;simp at h
   obtain⟨S0,cm⟩:∃S0,S0=((T.upd z6 (.cells [Zk l])).upd z5 (.cells c)).upd z7 (.cells [.fn (.func 55) [] [.ptr z6 0,.ptr z5 0]]):=⟨_,rfl⟩;have g6:S0 z6=sO (.cells [Zk l]):=by rw[cm,ZHQ _ _ dr.symm,ZHQ _ _ c6.symm,ZHP]
   have g5:S0 z5=sO (.cells c):=by rw[cm,ZHQ _ _ dt.symm,ZHP]
   have g7:S0 z7=sO (.cells [.fn (.func 55) [] [.ptr z6 0,.ptr z5 0]]):=by rw[cm,ZHP]
   have go:∀y,y≠z5->y≠z6->y≠z7->S0 y=T y:=λy k5 k6 k7=>by rw[cm,ZHQ _ _ k7,ZHQ _ _ k5,ZHQ _ _ k6]
   have fg:MT S0 v c fp:=hM.mono λy hy=>go y (λe=>nf _ t5 (e▸hy)) (λe=>nf _ h6 (e▸hy)) (λe=>nf _ t7 (e▸hy));have d6:T.sub S0:=λy o hy=>by rw[go y (λe=>by rw[e,t5]at hy;simp at hy) (λe=>by rw[e,h6]at hy;simp at hy) (λe=>by rw[e,t7]at hy;simp at hy)];exact hy
   rw[<-hc,<-cm];refine rx @g6 ?_;refine rx (nd2 @g6 @Jw) ?_;by_cases h0:I v.parts=0;rw[h0]at ch hG;rw[ch];refine Zb (Za9 ?_);refine gI ?_;refine ZR rfl ?_;exact hF.fin (.tup []) T rfl trivial (ZHL _) d6 ⟨rfl,by rw[<-hG,show ZHT 0=[] from rfl,List.foldl_nil,ZaC];exact hM,λ_ _=>rfl⟩
   skip
   obtain⟨x,cap,Zt6,f,X,en⟩:=fg.inv ω;have cr:=en.c;refine Zb (fr (I l) (λi Q=>∀P row A,FI T A v l P c fp x cap row f X z5 z6 z7->P=(ZHT i).foldl (Jm rec d m) v.parts->P.map ZH=v.parts.map ZH->(∀x∈P,ZW x=true)->i<=I l->Q [(3,.loc 3 0),(4,.loc 4 0),(5,.d (.ptr z5 0)),(7,.d (.ptr z7 0)),(8,.d (.fn (.func 57) [] [.ptr z7 0])),(28,.d (Zk l)),(29,.d (.i (I l))),(30,.d (.i i))] [(3,d.cells),(4,m.cells)] A) (λn cs=>?_) λew=>?_)
   .intro i hi P row A hA hP ba di hil;refine rg ?_;refine Zd (Zt rfl trivial (λc3=>?_) (λc3=>?_))
    .simp only[decide_eq_true_eq]at c3;have dv:i<I l:=ω;have e2:P.length=I v.parts:=Zes ba;have av:i<P.length:=ω;have dn:=hA.mn.len5;obtain⟨pi,bw,dq,c0,ec,bz⟩:=(hA.mn.kid i av).cells4;have d2:(v.setPs P).parts=P:=rfl;rw[d2]at dn bw dq c0 bz;have bf:=hA.mn.b;rw[d2]at bf;have dc:=Zgn (X:=X) (k:=4) dn av ω;rw[bw]at dc;have db:(Z1 row P.length++X).length=P.length*5+X.length:=by rw[ZHO,Y6 dn]
     have be:=hA.a5;rw[cr]at be;have dm:l.getD i dE∈m.fields:=by
      have h1:l.getD i dE∈vfs m.fields:=by rw[hl];exact Zm dv
      exact(List.mem_filter.1 h1).1
     generalize c5:l.getD i dE=f0 at *;refine xA (nd2 @atF (nd2 @c5 (nd2 @Ql @J2))) ?_;refine rx (nd2 @be (nd2 @bf @dc)) ?_;refine⟨ω,ω,ec,?_⟩;refine rx @eQ0 ?_;obtain⟨x0,ao⟩:∃x0,x0=P.getD i dE:=⟨_,rfl⟩;refine jU [0] (λQ=>∀A',FI T A' v l (P.set i (Wg rec d f0 x0)) c fp x cap row f X z5 z6 z7->Q F [(3,.loc 3 0),(4,.loc 4 0),(5,.d (.ptr z5 0)),(7,.d (.ptr z7 0)),(8,.d (.fn (.func 57) [] [.ptr z7 0])),(9,.d (.i i)),(10,.loc 10 0),(11,.loc 11 0),(28,.d (Zk l)),(29,.d (.i (I l))),(30,.d (.i i))] [(3,d.cells),(4,m.cells),(10,f0.cells),(11,[pi])] A') ?_ λj1=>?_
     .clear bf be dc hA;intro A' hA;obtain⟨a,ha,hav,_,ea⟩:=Q4 (l:=m.fields) (k:=i) (by rw[hl];exact dv);rw[hl,c5]at ea;have b1:f0.kind=4\/f0.kind=7\/f0.kind=12->ZI f0.size=true:=λh=>by rw[ea]at h⊢;exact((hm.at_ ha).size ha h).1
      have ah:ZH x0=ZH (v.parts.getD i dE):=by have:=congrArg (λL:List Val=>L.getD i (ZH dE)) ba;rw[ao];simpa only[ZHU,List.getElem?_map,Option.getD_map]using this
      have ap:ZH (Wg rec d f0 x0)=ZH x0:=ZiB hpl;have bp:ZW (Wg rec d f0 x0)=true:=ZpR hok (by rw[ao];exact di _ (Zm av));have hP1p:(P.set i (Wg rec d f0 x0)).map ZH=v.parts.map ZH:=by rw[Zgy (by rw[ap,ao]),ba]
      have eo:=Zos (i:=i) di bp;have a0:(P.set i (Wg rec d f0 x0)).getD i dE=Wg rec d f0 x0:=by rw[JY av,if_pos rfl]
      have cb:Jm rec d m P i=Zcl rec d m f0 (P.set i (Wg rec d f0 x0)) i:=by unfold Jm;rw[hl,c5,<-ao]
      have hx1x:(Wg rec d f0 x0).name=x0.name/\(Wg rec d f0 x0).bytes=x0.bytes:=by unfold Wg;split<;>exact⟨rfl,rfl⟩
      have t:=Zcl.eq_1 rec d m f0 (P.set i (Wg rec d f0 x0)) i;rw[hl,a0]at t;have hP1l:(P.set i (Wg rec d f0 x0)).length=I v.parts:=by rw[List.length_set];exact e2
      generalize hP1:P.set i (Wg rec d f0 x0)=P1 at *;generalize hx1:Wg rec d f0 x0=x1 at *;have c7:=hA.mn.len5;have ae:=hA.mn.kid i (by show i<P1.length;omega);rw[show(v.setPs P1).parts=P1 from rfl]at c7 ae;rw[a0]at ae;obtain⟨c9,ak,hpi',_,_,ax⟩:=ae.cells4;have d1:c9=pi:=by have:=ak.symm.trans bw;simp only[List.cons.injEq]at this;exact this.2.2.2.2.1
      subst d1;have bf:=hA.mn.b;rw[show(v.setPs P1).parts=P1 from rfl]at bf;have d5:=Zgn (X:=X) (k:=2) c7 (show i<P1.length by omega) ω;rw[ak]at d5;have db:(Z1 row P1.length++X).length=P1.length*5+X.length:=by rw[ZHO,Y6 c7]
      have be:=hA.a5;rw[cr]at be;have hfew:=hv.few;have bv:I l=(v.setPs P1).parts.length:=by rw[show(v.setPs P1).parts=P1 from rfl];omega
      have cn:(v.setPs P1).parts.length<=1000000:=by rw[show(v.setPs P1).parts=P1 from rfl];omega
      refine jU [0,0] (λQ=>∀A2 row2,FI T A2 v l (Zcl rec d m f0 P1 i) c fp x cap row2 f X z5 z6 z7->Q F [(3,.loc 3 0),(4,.loc 4 0),(5,.d (.ptr z5 0)),(7,.d (.ptr z7 0)),(8,.d (.fn (.func 57) [] [.ptr z7 0])),(28,.d (Zk l)),(29,.d (.i (I l))),(30,.d (.i i))] [(3,d.cells),(4,m.cells)] A2) ?_ λj2=>?_;intro A2 row2 eq;refine gA ?_;have d3:(ZHT (i+1)).foldl (Jm rec d m) v.parts=Zcl rec d m f0 P1 i:=by rw[List.range_succ,List.foldl_append,<-hP,List.foldl_cons,List.foldl_nil,cb]
      refine Za ?_;exact cs ((I l)-(i+1)) ω (i+1) rfl _ _ A2 eq d3.symm (by rw[<-cb,Zb2 hpl,ba]) (by exact ZpQ hok fd ω eo) ω;refine rx @eQ0 ?_;refine cd (λh4=>?_) (λh4=>?_);simp only[decide_eq_true_eq]at h4;rw[if_pos h4]at t;refine xA (nd2 @be (nd2 @bf (nd2 @d5 (nd2 @W3 @eQ0)))) ?_;refine vV0 ((Zdj l f0.size (b1 (.inl h4)) (I x1.bytes) hA.mn bv cn hA.a5 hA.a6 hA.a7 ⟨hA.ne.1,hA.ne.2.1⟩).V (first:=[]) (caps:=[_])) ?_ ?_;rintro dd S ⟨hr,⟨row',hS⟩,ho⟩;cases hr;refine gR0 ?_;refine Zf (Zf ?_);exact j2 S row' (by rw[t];exact hA.num hS ho);rintro dd S ⟨hr,_⟩;cases hr;simp only[decide_eq_false_iff_not]at h4;rw[if_neg h4]at t;refine rx @eQ0 ?_;refine cd (λh7=>?_) (λh7=>?_);simp only[decide_eq_true_eq]at h7;rw[if_pos h7]at t;refine xA (nd2 @ax @eQ0) ?_;refine vV ((Zdj l f0.size (b1 (.inr (.inl h7))) (I x1.parts) hA.mn bv cn hA.a5 hA.a6 hA.a7 ⟨hA.ne.1,hA.ne.2.1⟩).V (first:=[]) (caps:=[_])) ?_ ?_;rintro dd S ⟨hr,⟨row',hS⟩,ho⟩;cases hr;refine gR0 ?_;refine Zf (Zf ?_);exact j2 S row' (by rw[t];exact hA.num hS ho);rintro dd S ⟨hr,_⟩;cases hr;simp only[decide_eq_false_iff_not]at h7;rw[if_neg h7]at t;refine rx (nd2 @ax @eQ0) ?_;refine cd (λa8=>?_) (λa8=>?_);simp only[ZHN,decide_eq_true_eq]at a8;have bu:I x1.parts=1:=ω;rw[if_pos ⟨a8.1,bu⟩]at t;have bh:=(bt _ dm).ref (.inr (.inr a8.1));obtain⟨yi,u,al,fi,Xi,ab⟩:=ae.inv ω;have bb:c9=.msl yi 0 (I x1.parts) u 5:=by have:=ak.symm.trans ab.c;simp only[List.cons.injEq]at this;exact this.2.2.2.2.1
      subst bb;have ad:=ab.b;have ag:=ab.kid 0 ω;have ac:=KS Xi ab.len5 (show 0<I x1.parts by omega);unfold part at ac;rw[Nat.zero_mul,List.drop_zero]at ac;have ca:=Y6 ab.len5;obtain⟨pg,am,_,_,c1,_⟩:=ag.cells4;have bn:VOk x1:=⟨bp,by rw[<-K9,ap,ah,K9];exact(hv.part (Zm ω)).wt⟩;have d8:ZL x1<=nn:=by
       have h1:=KN (Zm (l:=v.parts) (i:=i) ω);have h2:ZL x1=ZL (v.parts.getD i dE):=by rw[<-Ws,ap,ah,Ws]
       omega
      have bc:x1.parts.getD 0 dE∈x1.parts:=Zm ω;have ay:=bn.part bc;have ek:=KN bc;generalize x1.parts.getD 0 dE=y at *;have ef:∀m':Msg,LdC A' (fi 0) [.agg d.cells,.agg m'.cells,.agg (al 0)] [.agg d.cells,.agg m'.cells,.agg y.cells]:=λm'=>.cons (.refl _) (.cons (.refl _) (.cons (YC.agg (ag.ld λ_ h=>h)) .nil));have fe:Zc ZHF 25 [.agg d.cells,.agg (Zl d f0.of).cells,.agg y.cells] (ZmX (Ym d 51 (Zl d f0.of) y [])):=λst =>
       (ZhP d (Zl d f0.of) y (Ym d 51 (Zl d f0.of) y []) st λS=>Zf0 hI hd 51 (ixS d f0.of) y [] S (Zab bh).2 ay ω ψ).mono λr S ⟨h1,h2⟩=>⟨h2,h1⟩
      have cg:=Zok ag.live (ef _) fe (.agg _ λc hc=>by simp only[ZIj,List.not_mem_nil,or_false]at hc;rcases hc with rfl|rfl;exact .str _;exact .int _ _);rw[am]at ac cg;refine rx (nd2 @eQ2 @eQ0) ?_;refine cX @eQ3 (W0 d f0.of bh) ?_;refine aa ?_;refine rx (nd2 @ad (nd2 @ac @Nat.zero_mul)) ?_;refine⟨ω,ω,by rw[ZHO,ca];omega,?_⟩;generalize hR:Ym d 51 (Zl d f0.of) y []=R at *;unfold ZmX at cg;refine cV0 (cg) ?_ ?_;rintro dd S ⟨hr,hS⟩;obtain rfl:=hS.symm;cases hr;refine gR0 ?_;refine rg ?_;refine cd (λhz=>?_) (λhz=>?_);simp only[decide_eq_true_eq]at hz;rw[if_pos hz]at t;have fh:=Zdk d hd.dok 51 (Zl d f0.of) y (hd.dok.of f0.of) ay.ok ay.wt (Zik hd.dref 51 (Zl d f0.of) y [] (hd.dref.of f0.of) ay.ok (by rw[hR];exact hz));have dy:=Zok ag.live (ef _) fh (.int _ _);rw[am]at dy;generalize lenS d 51 (Zl d f0.of) y=len at *;refine rx (nd2 @ad (nd2 @ac (nd2 @Nat.zero_mul (nd2 @eQ0 @eQ2)))) ?_;refine⟨ω,ω,by rw[ZHO,ca];omega,?_⟩;refine cVD (dy) ?_ ?_;rintro dd S ⟨hr,hS⟩;obtain rfl:=hS.symm;cases hr;refine kF ?_;refine gR0 ?_;refine vVD ((Zdj l f0.size (b1 (.inr (.inr a8.1))) len hA.mn bv cn hA.a5 hA.a6 hA.a7 ⟨hA.ne.1,hA.ne.2.1⟩).V (first:=[]) (caps:=[_])) ?_ ?_;rintro dd S ⟨hr,⟨row',hS⟩,ho⟩;cases hr;refine kF ?_;refine gR0 ?_;refine Zf (Zf ?_);exact j2 S row' (by rw[t];exact hA.num hS ho);rintro dd S ⟨hr,_⟩;cases hr;rintro dd S ⟨hr,_⟩;cases hr;simp only[decide_eq_false_iff_not]at hz;rw[if_neg hz]at t;refine Zp ?_;refine kE [3,4,5,7,8,28,29,30] ?_;refine Zf (Zf ?_);exact j2 A' row (by rw[t];exact hA);rintro dd S ⟨hr,_⟩;cases hr;rw[if_neg (by simp only[ZIl,decide_eq_false_iff_not]at a8;omega)]at t;refine rx (nd2 @ax @eQ0) ?_;refine cd (λh9=>?_) (λh9=>?_)
      .simp only[ZHN,decide_eq_true_eq]at h9;have bu:I x1.parts=1:=ω;rw[if_pos ⟨h9.1,bu⟩]at t;obtain⟨yi,u,al,fi,Xi,ab⟩:=ae.inv ω;have bb:c9=.msl yi 0 (I x1.parts) u 5:=by have:=ak.symm.trans ab.c;simp only[List.cons.injEq]at this;exact this.2.2.2.2.1
       have bn:VOk x1:=⟨bp,by rw[<-K9,ap,ah,K9];exact(hv.part (Zm ω)).wt⟩;have d8:ZL x1<=nn:=by
        have h1:=KN (Zm (l:=v.parts) (i:=i) ω);have h2:ZL x1=ZL (v.parts.getD i dE):=by rw[<-Ws,ap,ah,Ws]
        omega
       have bc:x1.parts.getD 0 dE∈x1.parts:=Zm ω;have ay:=bn.part bc;have ek:=KN bc;have ad:=ab.b;have ag:=ab.kid 0 ω;obtain⟨pg,am,_,_,c1,_⟩:=ag.cells4;rw[bu]at ad bb;have hpr:=ad;rw[show Z1 al 1=al 0 from rfl,am]at ad;have du:∃y,x1.parts=[y]:=by
        match hp:x1.parts,bu with
        | [y],_=>exact⟨y,rfl⟩
       obtain⟨y,a3⟩:=du;rw[a3,show([y]:List Val).getD 0 dE=y from rfl]at ad ag am t bc ay ek;subst bb;refine Zd ?_;refine xP 11 λaf bl=>?_;obtain⟨k1,k2,k3,k4⟩:=hA.live ω bl;have d7:T af=nO:=by rw[<-hA.out af k1 k2 k3 k4];exact bl
       have e9:yi≠af:=λe=>by rw[e,bl]at ad;simp at ad
       have hB:=hA.box ω bl (.cells [.msl yi 0 1 u 5]);have ed:(A'.upd af (.cells [.msl yi 0 1 u 5])) yi=sO (.cells ([.str y.name,.i y.int,Zs y.bytes,Zx y.hdrs,pg]++Xi)):=by rw[ZHQ _ _ e9];exact ad
       have em:(A'.upd af (.cells [.msl yi 0 1 u 5])) af=sO (.cells [.msl yi 0 1 u 5]):=ZHP _ _ _;generalize e4:A'.upd af (.cells [.msl yi 0 1 u 5])=B0 at *;have dg:A'.sub B0:=by rw[<-e4];exact ZH6 _ bl
       have az:=ZmQ.eq_1 rec d m f0 P1 i y;rw[hl]at az;refine rx @eQ0 ?_;refine JS rfl rfl rfl rfl rfl φ φ (by exact Zbw f0.cases (.fn (.func 60) [] [.ptr af 0]) (λc=>dC (c.of=y.name)) (λ_=>B0) (λq _=>(ZoU em ω ed ψ).VT (first:=[]) (args:=[_]) (caps:=[_]))) (Zn ?_);simp only[Eqs,reduceCtorEq,ZHK,reduceIte,ZHI,ZHM,ZHJ];refine rg ?_;generalize ei:Zi (λc:Yw=>dC (c.of=y.name)) f0.cases=ci at *;refine cd (λbk=>?_) (λbk=>?_);simp only[decide_eq_true_eq]at bk;rw[if_pos bk]at az;refine ZR rfl ?_;refine kE [3,4,5,7,8,28,29,30] ?_;refine Ka (s':=A') dg ?_;exact j2 A' row (by rw[t,az];exact hA);simp only[decide_eq_false_iff_not]at bk;rw[if_neg bk]at az;dsimp only at az;have ey:0<=Zi (λc:Yw=>dC (c.of=y.name)) f0.cases:=by rw[ei];omega
       have d0:=Ys (λc:Yw=>dC (c.of=y.name)) f0.cases;have br:=(Qc ey).1;rw[ei]at d0 br;simp only[decide_eq_true_eq]at br;have cx:0<=Zr d y.name (I d.msgs):=by rw[<-br];exact(bt _ dm).cas h9.1 _ (Zm ω)
       have d9:=hB.a5;rw[cr]at d9;obtain⟨pv,er,ej,_,_,_⟩:=(hB.mn.mt (by show 0<P1.length;omega)).cells4;have dz:pv=.msl x 0 (I v.parts) cap 5:=by have:=er.symm.trans cr;simp only[List.cons.injEq]at this;exact this.2.2.2.2.1
       subst dz;have cy:=ZyD (hB.mn.mt (by show 0<P1.length;omega)) ej m cv ω (by rw[hl];exact bv);rw[show(v.setPs P1).parts=P1 from rfl]at cy;refine rx (nd2 @d9 (nd2 @eQ0 @eQ3)) ?_;have e1:=We (vD:=KL) ZX f0.tag (J4 m P1);have e3:=Wr ZX f0.tag;simp only[show Qa f0.tag=D.str f0.tag from rfl]at e1 e3;have de:=ZhL f0 ((Zw f0.tag (J4 m P1)).getD 0);generalize eg:KJ f0 ((Zw f0.tag (J4 m P1)).getD 0)=has at *;refine cVD (cy) ?_ ?_;rintro dd S ⟨b,eu,hr,hS⟩;subst hS;cases hr;refine kF ?_;refine gQ (nd2 @ZHP (nd2 @e1 (nd2 @e3 @Zlo))) ?_;refine aa ?_;refine clD (de) ?_;refine Ka (s':=B0) (ZH6 _ eu) ?_;have hasl:has<I f0.cases:=by rw[<-eg];exact Ys _ _
       refine rx (nd2 @em (nd2 @ed (nd2 @Nat.zero_mul (nd2 @Zpw @eQ9)))) ?_;refine⟨λh=>by simp only[decide_eq_true_eq]at h;exact⟨ω,ω⟩,λ_=>⟨ω,ω⟩,?_⟩;obtain⟨P2,a9⟩:∃P2,P2=(if has<0\/(f0.cases.getD has.toNat dE).of≠y.name then W4 l f0.tag (f0.cases.getD ci.toNat dE).low P1 else P1):=⟨_,rfl⟩;rw[<-a9]at az;have cw:P2=P1\/P2=W4 l f0.tag (f0.cases.getD ci.toNat dE).low P1:=by rw[a9];split;exact .inr rfl;exact .inl rfl
       have hP2l:P2.length=P1.length:=by rcases cw with h|h<;>rw[h];exact ZdP
       have aj:(P2.getD i dE).parts=[y]:=by rcases cw with h|h;rw[h,a0];exact a3;rw[h,ZdO ω,a0];split;exact a3;exact a3
       refine jU [0] (λQ=>∀A3 aq,FI (T.upd af (.cells [.msl yi 0 1 u 5])) A3 v l P2 c fp x cap aq f X z5 z6 z7->(aq i)[4]?=(row i)[4]?->Q F [(3,.loc 3 0),(4,.loc 4 0),(5,.d (.ptr z5 0)),(7,.d (.ptr z7 0)),(8,.d (.fn (.func 57) [] [.ptr z7 0])),(11,.d (.ptr af 0)),(28,.d (Zk l)),(29,.d (.i (I l))),(30,.d (.i i))] [(3,d.cells),(4,m.cells)] A3) ?_ λj3=>?_;intro A3 aq hC c8;have ez:A3 af=sO (.cells [.msl yi 0 1 u 5]):=by rw[hC.out af k1 k2 k3 k4];exact ZHP _ _ _
       have bi:=hC.mn.kid i (by show i<P2.length;omega);rw[show(v.setPs P2).parts.getD i dE=P2.getD i dE from rfl]at bi;obtain⟨yj,c2,ce,fj,Xj,cj⟩:=bi.inv (by rw[aj];exact Nat.zero_lt_one);have e8:=cj.c;have dx:D.msl yj 0 (P2.getD i dE).parts.length c2 5=.msl yi 0 1 u 5:=by
        have h1:(aq i)[4]?=sO (D.msl yj 0 (P2.getD i dE).parts.length c2 5):=by rw[e8];rfl
        rw[c8,ak]at h1;simp only[List.getElem?_cons_succ,List.getElem?_cons_zero,ZHE]at h1;exact h1.symm
       simp only[D.msl.injEq]at dx;obtain⟨rfl,_,_,_,_⟩:=dx;have eh:=cj.b;have da:=cj.kid 0 (by rw[aj];exact Nat.zero_lt_one);rw[aj,show([y]:List Val).getD 0 dE=y from rfl]at da;obtain⟨pj,bj,_,_,hjok,_⟩:=da.cells4;rw[aj,show Z1 ce [y].length=ce 0 from rfl,bj]at eh;have ai:=hrec y.name y A3 (ce 0) (fj 0) cx ay ω da;rw[bj]at ai;refine rx (nd2 @ez (nd2 @eh (nd2 @Nat.zero_mul @eQ2))) ?_;refine⟨ω,ω,ω,ω,?_⟩;refine clD (W0 d y.name cx) ?_;refine cVD (ai) ?_ ?_;rintro dd S ⟨hr,bq,ho⟩;cases hr;rw[<-bj]at bq;refine kF ?_;refine gR0 ?_;have dh:=cj.subK (i:=0) (by rw[aj];exact Nat.zero_lt_one) bq ho;have bo:=hC.sub (i:=i) ω dh (λq hq=>ho q λhf=>hq (cj.fmem (by rw[aj];exact Nat.zero_lt_one) hf));have e6:(P2.getD i dE).setP 0 (rec (Zl d y.name) y)=(P2.getD i dE).setPs [rec (Zl d y.name) y]:=by unfold Val.setP Val.setPs;rw[aj];rfl
       rw[e6,<-az,<-t]at bo;obtain⟨cg,es⟩:=bo.unbox k1 ⟨k2,k3,k4⟩ d7;refine Zf (Zf ?_);refine Ka es ?_;exact j2 _ aq cg;rintro dd S ⟨hr,_⟩;cases hr;have e0:(max has 0).toNat=has.toNat:=ω;rw[e0];refine cd (λar=>?_) (λar=>?_);have aw:has<0\/(f0.cases.getD has.toNat dE).of≠y.name:=by simp only[ZH0,Bool.not_eq_true',decide_eq_false_iff_not]at ar;rcases ar with h|h;exact .inl ω;exact .inr h
       rw[if_pos aw]at a9;have ff:=hB.a7;refine rx (nd2 @ff (nd2 @eQ0 (nd2 @Zpw @eQ9))) ?_;refine⟨ω,ω,?_⟩;refine vV0 ((ZfZ l f0.tag (f0.cases.getD ci.toNat dE).low hB.mn bv cn hB.a5 hB.a6 ⟨hB.ne.1,hB.ne.2.1⟩).V (first:=[]) (caps:=[_,_])) ?_ ?_;rintro dd S ⟨hr,⟨row',fc,hS⟩,ho⟩;cases hr;refine gR0 ?_;refine j3 S row' (by rw[a9];exact hB.num hS ho) ?_;rcases fc i (by show i<P1.length;omega) with h|h;rw[h];rw[h,ak];rfl;rintro dd S ⟨hr,_⟩;cases hr;have aw:¬(has<0\/(f0.cases.getD has.toNat dE).of≠y.name):=by simp only[Bool.or_eq_false_iff,Bool.not_eq_false',decide_eq_true_eq]at ar;intro h;rcases h with h|h;omega;exact h ar.2
       rw[if_neg aw]at a9;refine Zp ?_;refine kE [3,4,5,7,8,11,28,29,30] ?_;exact j3 B0 row (by rw[a9];exact hB) rfl;rintro dd S ⟨_,_,hr,_⟩;cases hr
      rw[if_neg (by simp only[ZIl,decide_eq_false_iff_not]at h9;omega)]at t;refine Zp ?_;refine kE [3,4,5,7,8,28,29,30] ?_;refine Zf (Zf ?_);exact j2 A' row (by rw[t];exact hA)
     have ep:x0∈P:=by rw[ao];exact Zm av
     have bg:P.set i x0=P:=by rw[ao];exact Znd
     have ah:ZH x0=ZH (v.parts.getD i dE):=by have:=congrArg (λL:List Val=>L.getD i (ZH dE)) ba;rw[ao];simpa only[ZHU,List.getElem?_map,Option.getD_map]using this
     have ee:v.parts.getD i dE∈v.parts:=Zm ω;have cz:VOk x0:=⟨di _ ep,by rw[<-K9,ah,K9];exact(hv.part ee).wt⟩;have hx0h:ZL x0<=nn:=by
      have h1:=KN ee;have h2:ZL x0=ZL (v.parts.getD i dE):=by rw[<-Ws,ah,Ws]
      omega
     have hx0few:=cz.few;rw[<-ao]at bw dq c0 bz;refine cd (λhk=>?_) (λhk=>?_);have cp:f0.kind=7\/f0.kind=8\/f0.kind=12:=by simp only[ZH0,decide_eq_true_eq]at hk;omega
     have bh:=(bt _ dm).ref cp;refine rx @bz ?_;refine Zb (fr (I x0.parts) (λj Q0=>∀A1 Q,FI T A1 v l (P.set i (x0.setPs Q)) c fp x cap row f X z5 z6 z7->Q.length=I x0.parts->(∀q,q<I x0.parts->Q.getD q dE=if q<j/\(x0.parts.getD q dE).name=f0.of then rec (Zl d f0.of) (x0.parts.getD q dE) else x0.parts.getD q dE)->j<=I x0.parts->Q0 [(3,.loc 3 0),(4,.loc 4 0),(5,.d (.ptr z5 0)),(7,.d (.ptr z7 0)),(8,.d (.fn (.func 57) [] [.ptr z7 0])),(9,.d (.i i)),(10,.loc 10 0),(11,.loc 11 0),(28,.d (Zk l)),(29,.d (.i (I l))),(30,.d (.i i)),(54,.d pi),(55,.d (.i (I x0.parts))),(56,.d (.i j))] [(3,d.cells),(4,m.cells),(10,f0.cells),(11,[pi])] A1) (λn au=>?_) λeb=>?_);intro j hj A1 Q co dj hQ hjl;refine rg ?_;refine Zd (Zt rfl trivial (λc4=>?_) (λc4=>?_));simp only[decide_eq_true_eq]at c4;have a4:j<Q.length:=ω;have fa:(P.set i (x0.setPs Q)).getD i dE=x0.setPs Q:=by rw[JY av,if_pos rfl]
     have ae:=co.mn.kid i (by show i<(P.set i (x0.setPs Q)).length;rw[List.length_set];exact av);rw[show(v.setPs (P.set i (x0.setPs Q))).parts.getD i dE=x0.setPs Q from fa]at ae;obtain⟨yi,u,al,fi,Xi,ab⟩:=ae.inv (by show 0<Q.length;omega);have bb:pi=.msl yi 0 Q.length u 5:=by have:=bw.symm.trans ab.c;simp only[List.cons.injEq]at this;exact this.2.2.2.2.1
     subst bb;have ad:=ab.b;rw[show(x0.setPs Q).parts=Q from rfl]at ad;have ag:=ab.kid j a4;rw[show(x0.setPs Q).parts=Q from rfl]at ag;have ac:=KS Xi ab.len5 a4;rw[show(x0.setPs Q).parts=Q from rfl]at ac;unfold part at ac;have ca:=Y6 ab.len5;rw[show(x0.setPs Q).parts=Q from rfl]at ca;obtain⟨pg,am,_,_,c1,_⟩:=ag.cells4;rw[am]at ac;refine rx (nd2 @ad @ac) ?_;refine⟨ω,ω,by rw[ZHO,ca];omega,?_⟩;have cu:=hQ j ω;rw[if_neg ω]at cu;have el:Q.getD j dE∈x0.parts:=by rw[cu];exact Zm ω
     have e5:=cz.part el;have hgh:=KN el;have ai:=hrec f0.of (Q.getD j dE) A1 (al j) (fi j) bh e5 ω ag;rw[am]at ai;have dw:∀Q':List Val,(∀q,q<I x0.parts->q≠j->Q'.getD q dE=Q.getD q dE)->(Q'.getD j dE=if (x0.parts.getD j dE).name=f0.of then rec (Zl d f0.of) (x0.parts.getD j dE) else x0.parts.getD j dE) ->
       ∀q,q<I x0.parts->Q'.getD q dE=if q<j+1/\(x0.parts.getD q dE).name=f0.of then rec (Zl d f0.of) (x0.parts.getD q dE) else x0.parts.getD q dE:=λQ' h1 h2 q hq=>by
      by_cases bx:q=j;subst bx;rw[h2];simp;rw[h1 q hq bx,hQ q hq];simp only[show(q<j+1)=(q<j) from propext ω]
     generalize fb:Q.getD j dE=g at *;refine rx @eQ0 ?_;refine cd (λb0=>?_) (λb0=>?_);simp only[decide_eq_true_eq]at b0;refine rx (nd2 @eQ2 @eQ0) ?_;refine clD (W0 d f0.of bh) ?_;refine cVD (ai) ?_ ?_;rintro dd S ⟨hr,bq,ho⟩;cases hr;rw[<-am]at bq;refine kF ?_;refine gR0 ?_;have dh:=ab.subK (i:=j) a4 bq ho;have bo:=co.sub (i:=i) (by rw[List.length_set];exact av) dh (λy hy=>ho y λhf=>hy (ab.fmem a4 hf));rw[List.set_set,show(x0.setPs Q).setP j (rec (Zl d f0.of) g)=x0.setPs (Q.set j (rec (Zl d f0.of) g)) from rfl]at bo;refine gA ?_;refine Za ?_;exact au ((I x0.parts)-(j+1)) ω (j+1) rfl S _ bo (by rw[List.length_set];exact dj) (dw _ (λq hq bx=>by rw[JY a4,if_neg bx]) (by rw[JY a4,if_pos rfl,<-cu,if_pos b0])) ω;rintro dd S ⟨hr,_⟩;cases hr;simp only[decide_eq_false_iff_not]at b0;refine gA ?_;refine Za ?_;exact au ((I x0.parts)-(j+1)) ω (j+1) rfl A1 Q co dj (dw Q (λq hq bx=>rfl) (by rw[fb,<-cu,if_neg b0])) ω;simp only[decide_eq_false_iff_not]at c4;obtain rfl:j=I x0.parts:=ω;have et:Q=x0.parts.map λy=>if y.name=f0.of then rec (Zl d f0.of) y else y:=by
      refine List.ext_getElem (by simp[dj]) λq h1 h2=>?_;have hq:q<I x0.parts:=by simpa using h2
      have h3:=hQ q hq;simp only[hq,true_and]at h3;rw[List.getElem_map];simpa[ZHU,h1,hq]using h3
     refine ZR rfl ?_;refine kE [3,4,5,7,8,9,10,11,28,29,30] ?_;refine j1 A1 ?_;unfold Wg;rw[if_pos cp,<-et];exact co;refine eb _ 0 rfl A x0.parts ?_ rfl (λq hq=>by rw[if_neg ω]) ω;rw[ZaC,bg];exact hA;refine Zp ?_;refine kE [3,4,5,7,8,9,10,11,28,29,30] ?_;refine j1 A ?_;have cp:¬(f0.kind=7\/f0.kind=8\/f0.kind=12):=by simp only[Bool.or_eq_false_iff,decide_eq_false_iff_not]at hk;omega
     unfold Wg;rw[if_neg cp,bg];exact hA
    simp only[decide_eq_false_iff_not]at c3;obtain rfl:i=I l:=ω;refine ZR rfl ?_;refine hF.fin (.tup []) (λy=>if y=z5\/y=z6\/y=z7 then T y else A y) rfl trivial (ZHL _) (λy o hy=>?_) ⟨rfl,?_,λy hy=>?_⟩;dsimp only at hy;split at hy;next h=>rcases h with rfl|rfl|rfl<;>simp_all
    exact hy;rw[<-hG,<-ch,<-hP];refine(hA.mn.mt (by show 0<P.length;rw[Zes ba];omega)).mono λy hy=>?_;rw[if_neg λh=>by rcases h with rfl|rfl|rfl;exact hA.n5 hy;exact hA.n6 hy;exact hA.n7 hy];dsimp only;split;rfl;next h=>simp only[not_or]at h;exact hA.out y hy h.1 h.2.1 h.2.2
   exact ew _ 0 rfl v.parts Zt6 S0 ⟨by rw[ZaC];exact en,g5,g6,g7,nf _ t5,nf _ h6,nf _ t7,λy _ k5 k6 k7=>go y k5 k6 k7⟩ rfl rfl (Zbt.1 hv.ok).1 ω
 rintro dd S ⟨hr,_⟩;cases hr
def Zi8(u:Zba){d}(t:WW d):∀(n im v T c fp),im<I d.msgs->VOk v->ZL v<=n->n<=51->MT T v c fp ->
  Ze ZHF 24 [.agg d.cells,.agg (d.msgs.getD im dE).cells,.agg c] T (ZmA (WB d n (d.msgs.getD im dE) v) T c fp)
 |0,_,v,_,_,_,_,_,i,_,_=>by have:=WJ v;omega
 |n+1,im,v,T,c,fp,him,hv,i,hn,j =>
  ZoV u t n im him (WB d n) v hv i ω (λs y=>ZbI n _ y) (λs y h=>ZhF (Zp4 t) n s y h) (λs g T c fp z hg i j=>Zi8 u t n (ixS d s) g T c fp (Zab z).2 hg i ω j) j
def Zec:D:=.agg [.str [],.i 0,.nilsl,.nilsl,.nilsl]
def Zii(d:Dfn)(s:Str)(v:Val):D×Int :=
 if Wp d&&Jf v then (if Zr d s (I d.msgs)<0 then (Zec,9) else
  if (Ym d 51 (Zl d s) (WB d 51 (Zl d s) v) []).2=0 then (.agg (WB d 51 (Zl d s) v).cells,0) else (Zec,(Ym d 51 (Zl d s) (WB d 51 (Zl d s) v) []).2)) else (Zec,2)
def ZrK(hI:Zba)(d s v)(hs:ZW v=true->wtN v<=5000/\ZL v<=51):
  Zc ZHF 8 [.agg d.cells,.str s,.agg v.cells] (.tup [(Zii d s v).1,.i (Zii d s v).2]):=by
 refine Zg (cR 8 f8) λF st i=>?_;have hA:=ZuW d s v;have hS:=Zii.eq_1 d s v;have hT:=atR.eq_1 d s v;generalize Zii d s v=W at *;generalize atR d s v=X at *;cases ha:Wp d&&Jf v with
 |false =>rw[ha,if_neg ψ]at hS hT;subst hS;subst hT;rw[ZHX]at *;refine rx @eQ2 ?_;refine rg ?_;refine cl (hA) ?_;refine rg ?_;refine i1 ?_;refine rg ?_;refine rt i ?_;rfl
 |true =>
  rw[ha,if_pos rfl]at hS hT;by_cases hf:Zr d s (I d.msgs)<0;rw[if_pos hf]at hS hT;subst hS;subst hT;rw[ZHX]at *;refine rx @eQ2 ?_;refine rg ?_;refine cl (hA) ?_;refine rg ?_;refine i1 ?_;refine rg ?_;refine rt i ?_;rfl;rw[if_neg hf]at hS hT;subst hT;simp only[ZHN]at ha;have af:=Zab (d:=d) (s:=s) ω;have hd:=ZiZ ha.1;obtain⟨hv,hh⟩:=Zrm ha.2 hs;have aj:VOk (WB d 51 (Zl d s) v):=Zs8 hd hv;have ak:ZL (WB d 51 (Zl d s) v)<=51:=by rw[Zl5];exact hh
  have ah:Zc ZHF 25 [.agg d.cells,.agg (Zl d s).cells,.agg (WB d 51 (Zl d s) v).cells] (ZmX (Ym d 51 (Zl d s) (WB d 51 (Zl d s) v) [])):=λst =>
   (ZhP d (Zl d s) _ _ st λS=>Zf0 hI hd 51 (ixS d s) _ [] S af.2 aj ak ψ).mono λr S ⟨h1,h2⟩=>⟨h2,h1⟩
  have j:=λT c fp=>Zi8 hI hd 51 (ixS d s) v T c fp af.2 hv hh ω;rw[show d.msgs.getD (ixS d s) dE=Zl d s from rfl]at j;have z:=ZrT v hv st;generalize WB d 51 (Zl d s) v=w at *;rw[ZHX v]at *;refine rx @eQ2 ?_;refine rg ?_;refine cX @eQ3 (hA) ?_;refine aa ?_;refine rg ?_;refine iG ?_;refine cV (z) ?_ ?_;rintro dd S ⟨c,fp,hr,hM,ac,ae⟩;cases hr;obtain⟨p,hc,_,_,hpok,_⟩:=hM.cells4;have ab:=j S c fp hM;rw[hc]at ab hM⊢;refine gR0 ?_;refine aa ?_;refine rx (nd2 @eQ2 @eQ3) ?_;refine cV (ab) ?_ ?_;rintro dd S2 ⟨hr,n,u⟩;cases hr;have ad:=Zok n.live (.cons (.refl (.agg d.cells)) (.cons (.refl (.agg (Zl d s).cells)) (.cons (YC.agg (n.ld λ_ h=>h)) .nil))) ah (.agg _ λc hc=>by simp only[ZIj,List.not_mem_nil,or_false]at hc;rcases hc with rfl|rfl;exact .str _;exact .int _ _);generalize Ym d 51 (Zl d s) w []=R at *;unfold ZmX at ad;refine gR0 ?_;refine rx (nd2 @eQ2 @eQ3) ?_;refine cV (ad) ?_ ?_;rintro dd S3 ⟨hr,ai⟩;obtain rfl:=ai.symm;cases hr;refine gR0 ?_;refine rg ?_;have ag:∀b,b∉fp->S2 b=st b:=λb hb=>by rw[u b hb,ae b hb]
  have t:(∀b,b∉fp->S2 b=st b)->st.sub S2:=λh b o hb=>by rw[h b λhm=>by rw[ac b hm]at hb;simp at hb];exact hb
  refine cd (λhz=>?_) (λhz=>?_);simp only[Bool.not_eq_true',decide_eq_false_iff_not]at hz;rw[if_neg hz]at hS;subst hS;refine rg ?_;exact i rfl (by first|trivial|simp) (ZHL _) (t ag);simp at hz;rw[if_pos hz]at hS;subst hS;refine rg ?_;refine ZcN fp n.live (LdE.refl _) (.cons (n.ld λ_ h=>h) .nil) ?_;exact i rfl (by rw[ZHX];exact⟨ψ,trivial,trivial⟩) (by rw[ZHX];exact ZHL _) (λb o hb=>by unfold St.delL;rw[if_neg λhm=>by rw[ac b hm]at hb;simp at hb];exact t ag b o hb);rintro dd S3 ⟨hr,_⟩;cases hr;rintro dd S2 ⟨hr,_⟩;cases hr;rintro dd S ⟨_,_,hr,_⟩;cases hr
mutual
def ZiY:Val->Val->Int
 |.mk n i b h p,.mk n2 i2 b2 h2 p2=>if Kd n n2≠0 then Kd n n2 else if Qj i i2≠0 then Qj i i2 else if Kd b b2≠0 then Kd b b2 else if Zaw h h2≠0 then Zaw h h2 else vcmpL p p2
def vcmpL:List Val->List Val->Int
 |x::a,y::b=>if ZiY x y≠0 then ZiY x y else vcmpL a b
 | [],[]=>0
 | [],_::_=>-1
 |_::_,[]=>1
end
def ZvZ(v w):ZiY v w=if Kd v.name w.name≠0 then Kd v.name w.name else if Qj v.int w.int≠0 then Qj v.int w.int else if Kd v.bytes w.bytes≠0 then Kd v.bytes w.bytes else
  if Zaw v.hdrs w.hdrs≠0 then Zaw v.hdrs w.hdrs else vcmpL v.parts w.parts:=by
 cases v;cases w;rfl
def ZxA{a}(ih:∀x∈a,∀w,ZiY x w=0↔x=w):∀b,vcmpL a b=0↔a=b:=by
 induction a with
 |nil=>intro b;cases b<;>simp[vcmpL]
 |cons x a ih2 =>
  intro b;cases b with
  |nil=>simp[vcmpL]
  |cons y b =>have j:=ih x ψ y;have n:=ih2 (λz t=>ih z (by simp[t])) b;unfold vcmpL;split;rename_i h;constructor;intro i;exact absurd i h;intro i;simp only[List.cons.injEq]at i;exact absurd (j.2 i.1) h;rename_i h;simp only[Decidable.not_not]at h;rw[n,List.cons.injEq];exact⟨λe=>⟨j.1 h,e⟩,λe=>e.2⟩
def ZkU{v}:∀w,ZiY v w=0↔v=w:=by
 induction v using Val.ind with
 |h v ih =>
  intro w;have h5:=ZxA ih w.parts;have h1:=@ZeF v.name w.name;have t:=@Zeq v.int w.int;have u:=@ZeF v.bytes w.bytes;have n:=@ZqT v.hdrs w.hdrs;have he:v=w↔(v.name=w.name/\v.int=w.int/\v.bytes=w.bytes/\v.hdrs=w.hdrs/\v.parts=w.parts):=by cases v;cases w;simp[Val.name,Val.int,Val.bytes,Val.hdrs,Val.parts]
  rw[ZvZ,he];split;rename_i h;exact⟨λi=>absurd i h,λi=>absurd (h1.2 i.1) h⟩;split;rename_i _ h;exact⟨λi=>absurd i h,λi=>absurd (t.2 i.2.1) h⟩;split;rename_i _ _ h;exact⟨λi=>absurd i h,λi=>absurd (u.2 i.2.2.1) h⟩;split;rename_i _ _ _ h;exact⟨λi=>absurd i h,λi=>absurd (n.2 i.2.2.2.1) h⟩;rename_i k1 z k3 j;simp only[Decidable.not_not]at k1 z k3 j;rw[h5];exact⟨λi=>⟨h1.1 k1,t.1 z,u.1 k3,n.1 j,i⟩,λi=>i.2.2.2.2⟩
def Zxz{a b:List Val}{i}(n:i<I a)(j:i<I b):vcmpL (a.drop i) (b.drop i)=if ZiY (a.getD i dE) (b.getD i dE)≠0 then ZiY (a.getD i dE) (b.getD i dE) else vcmpL (a.drop (i+1)) (b.drop (i+1)):=by
 rw[List.drop_eq_getElem_cons n,List.drop_eq_getElem_cons j];simp[vcmpL,ZHU,n,j]
def Zzg{a b:List Val}{i}(ha:i<=I a)(hb:i<=I b)(h:¬(i<I a/\i<I b)):vcmpL (a.drop i) (b.drop i)=Qj (I a) (I b):=by
 have u:(a.drop i).length=I a-i:=ZIh ..;have t:(b.drop i).length=I b-i:=ZIh ..;have j:∀x y:List Val,(x=[]\/y=[])->vcmpL x y=Qj (I x) (I y):=λx y n=>by
  cases x with
  |nil=>cases y with
   |nil=>rfl
   |cons e y=>unfold Qj;rw[if_pos (by simp<;>omega)];rfl
  |cons c x=>cases y with
   |nil=>unfold Qj;rw[if_neg (by simp<;>omega),if_pos (by simp<;>omega)];rfl
   |cons e y=>simp at n
 rw[j _ _ (by
  by_cases hi:i<I a;exact .inr (ZIo ω);exact .inl (ZIo ω)),u,t]
 unfold Qj;split<;>split<;>(try split)<;>(try split)<;>omega
def ZCU(b):(ZHT (I b)).map (λi=>Zbx (u8C (b.getD i dE)))=b:=by
 refine List.ext_getElem ψ λi h1 j=>?_;have:=b[i].toNat_lt;simp[ZHU,j,u8C,Zbx]
def ZDq{L s}(b):qv L s (.conv .b2s) [.d (Zs b)]=sO (∀i,i<I b->Zis (u8C (b.getD i dE)),.d (.str b)):=by
 have:qv L s (.conv .b2s) [.d (Zs b)]=sO (∀i,i<I b->Zis (u8C (b.getD i dE)),.d (.str ((ZHT (I b)).map λi=>Zbx (u8C (b.getD i dE))))):=rfl;rw[this,ZCU]
def ZvW{b:Str}:∀i,i<I b->Zis (u8C (b.getD i dE)):=λi _=>⟨_,rfl⟩
def ZdK(v):∀w:Val,Zc ZHF 12 [.agg v.cells,.agg w.cells] (.i (ZiY v w)):=by
 induction v using Val.ind with
 |h v ih =>
  intro w;refine ZJ (cR 12 f12) λac F st z=>?_;have ae:=ac (.agg v.cells) ψ;have u:=ac (.agg w.cells) ψ;clear ac;rw[v.cells_eq]at ae⊢;rw[w.cells_eq]at u⊢;have hV:=ZvZ v w;refine gG ?_;refine cl (Zdc v.name w.name) ?_;generalize hR:ZiY v w=R at *;refine rg ?_;refine jU [0] (λQ=>∀c,c=(if Kd v.name w.name≠0 then Kd v.name w.name else Qj v.int w.int)->Q F [(2,.loc 2 0),(3,.loc 3 0),(5,.d (.i c))] [(2,[.str v.name,.i v.int,Zs v.bytes,Zx v.hdrs,ZF v.parts]),(3,[.str w.name,.i w.int,Zs w.bytes,Zx w.hdrs,ZF w.parts])] st) ?_ λj1=>?_
  .intro c1 am;refine rg ?_;refine jU [0] (λQ=>∀c,c=(if c1≠0 then c1 else Kd v.bytes w.bytes)->Q F [(2,.loc 2 0),(3,.loc 3 0),(5,.d (.i c))] [(2,[.str v.name,.i v.int,Zs v.bytes,Zx v.hdrs,ZF v.parts]),(3,[.str w.name,.i w.int,Zs w.bytes,Zx w.hdrs,ZF w.parts])] st) ?_ λj2=>?_
   .intro c2 ao;refine rg ?_;refine jU [0] (λQ=>∀c,c=(if c2≠0 then c2 else Zaw v.hdrs w.hdrs)->Q F [(2,.loc 2 0),(3,.loc 3 0),(5,.d (.i c))] [(2,[.str v.name,.i v.int,Zs v.bytes,Zx v.hdrs,ZF v.parts]),(3,[.str w.name,.i w.int,Zs w.bytes,Zx w.hdrs,ZF w.parts])] st) ?_ λj3=>?_
    .intro c3 af;have ad:R=if c3≠0 then c3 else vcmpL v.parts w.parts:=by
      rw[hV,af,ao,am]
      repeat' split<;>first|rfl|(exfalso;simp_all;done)|skip
     refine rg ?_;have aq:=ZdW (ae.agg_inv (ZF v.parts) ψ);have u:=ZdW (u.agg_inv (ZF w.parts) ψ);unfold big at aq u;refine Zb (fr (I v.parts) (λi Q=>∀c,(c≠0->c=R)->(c=0->R=vcmpL (v.parts.drop i) (w.parts.drop i))->i<=I v.parts->i<=I w.parts->Q [(2,.loc 2 0),(3,.loc 3 0),(5,.d (.i c)),(6,.d (.i i))] [(2,[.str v.name,.i v.int,Zs v.bytes,Zx v.hdrs,ZF v.parts]),(3,[.str w.name,.i w.int,Zs w.bytes,Zx w.hdrs,ZF w.parts])] st) (λn t=>?_) λak=>?_);intro i hn c al hc ag ap;refine rx @KU ?_;refine cd (λhd=>?_) (λhd=>?_);simp only[ZHN,decide_eq_true_eq]at hd;have h1:i<I v.parts:=ω;have h2:i<I w.parts:=ω;have ah:=Wm h1;have aj:=Wm h2;have ai:=Zxz h1 h2;have j:=ih _ (Zm h1) (w.parts.getD i dE);rw[ZHX,ZHX]at j;have ab:=hc hd.1.1;rw[ai]at ab;generalize v.parts.getD i dE=x at *;generalize w.parts.getD i dE=y at *;refine xA (nd2 @atV (nd2 @ah @aj)) ?_;refine cl0 (j) ?_;refine gA ?_;refine Za ?_;exact t ((I v.parts)-(i+1)) ω (i+1) rfl _ (λh=>by rw[ab,if_pos h]) (λh=>by rw[ab,if_neg (by simpa using h)]) ω ω;simp only[ZIl,decide_eq_false_iff_not]at hd;refine rg ?_;refine cd (λh3=>?_) (λh3=>?_);simp only[decide_eq_true_eq]at h3;refine rx @KU ?_;refine cl (Zd9 (I v.parts) (I w.parts)) ?_;refine rg ?_;refine ri z ?_;rw[hc h3,Zzg ag ap ω];simp only[decide_eq_false_iff_not]at h3;refine rg ?_;refine ri z ?_;exact al h3;exact ak _ 0 rfl c3 (λh=>by rw[ad,if_pos h]) (λh=>by rw[ad,if_neg (by simpa using h)];rfl) ω ω
    refine cd (λh4=>?_) (λh4=>?_);simp only[decide_eq_true_eq]at h4;refine rx @KU ?_;refine cl (ZpW v.hdrs w.hdrs) ?_;exact j3 _ (by rw[if_neg (by simpa using h4)]);simp only[decide_eq_false_iff_not]at h4;refine Zp ?_;refine kE [2,3,5] ?_;exact j3 _ (by rw[if_pos h4])
   refine cd (λh4=>?_) (λh4=>?_);simp only[decide_eq_true_eq]at h4;refine rx @ZDq ?_;refine⟨ZvW,ZvW,?_⟩;refine cl (Zdc v.bytes w.bytes) ?_;exact j2 _ (by rw[if_neg (by simpa using h4)]);simp only[decide_eq_false_iff_not]at h4;refine Zp ?_;refine kE [2,3,5] ?_;exact j2 _ (by rw[if_pos h4])
  refine cd (λh4=>?_) (λh4=>?_);simp only[decide_eq_true_eq]at h4;refine rg ?_;refine cl (Zd9 v.int w.int) ?_;exact j1 _ (by rw[if_neg (by simpa using h4)]);simp only[decide_eq_false_iff_not]at h4;refine Zp ?_;refine kE [2,3,5] ?_;exact j1 _ (by rw[if_pos h4])
def ZdD(nm:Str):List Fld->Int->Int
 | [],_=>-1
 |f::r,k=>if dC (f.name=nm)&&ZdG f.kind then k else ZdD nm r (if Y5 f then k+1 else k)
def Zoe{f}(h:Y5 f=true):Yj f=ZdG f.kind:=by
 unfold Y5 at h;simp only[ZHN,Bool.not_eq_true',decide_eq_false_iff_not]at h;unfold Yj ZdG;rw[Bool.eq_iff_iff];simp only[ZHN,ZH0,decide_eq_true_eq];omega
def ZyB{f}(h:ZdG f.kind=true):Y5 f=true:=by
 unfold ZdG at h;simp only[ZH0,decide_eq_true_eq]at h;unfold Y5;simp only[ZHN,Bool.not_eq_true',decide_eq_false_iff_not];omega
def ZjO{nm}:∀(l k),(ZdD nm l k=-1/\∀f∈vfs l,¬(f.name=nm/\Yj f=true))\/∃j:Nat,j<(vfs l).length/\ZdD nm l k=k+j/\((vfs l).getD j dE).name=nm/\Yj ((vfs l).getD j dE)=true
 | [],k=>.inl ⟨rfl,λf hf=>by simp[vfs]at hf⟩
 |f::r,k=>by unfold ZdD;by_cases n:(dC (f.name=nm)&&ZdG f.kind)=true;rw[if_pos n];simp only[ZHN,decide_eq_true_eq]at n;have i:=ZyB n.2;refine .inr ⟨0,?_,ψ,?_,?_⟩<;>simp only[vfs,List.filter,i]<;>simp[n.1,Zoe i,n.2];rw[if_neg n];rcases ZjO r (if Y5 f then k+1 else k) with ⟨t,u⟩|⟨j,t,u,h3,z⟩;refine .inl ⟨t,λg hg=>?_⟩;unfold vfs at hg;by_cases i:Y5 f=true;rw[List.filter_cons_of_pos i]at hg;rcases List.mem_cons.1 hg with rfl|hg;rintro⟨h5,h6⟩;rw[Zoe i]at h6;exact n (by simp[h5,h6]);exact u g hg;rw[List.filter_cons_of_neg i]at hg;exact u g hg;by_cases i:Y5 f=true;refine .inr ⟨j+1,?_,?_,?_,?_⟩;unfold vfs at t⊢;rw[List.filter_cons_of_pos i];simpa using t;rw[u,if_pos i];omega;unfold vfs at h3⊢;rw[List.filter_cons_of_pos i];exact h3;unfold vfs at z⊢;rw[List.filter_cons_of_pos i];exact z;refine .inr ⟨j,?_,?_,?_,?_⟩;unfold vfs at t⊢;rw[List.filter_cons_of_neg i];exact t;rw[u,if_neg i];unfold vfs at h3⊢;rw[List.filter_cons_of_neg i];exact h3;unfold vfs at z⊢;rw[List.filter_cons_of_neg i];exact z
def ZvR{l nm to P}(h:∀f∈l,¬(f.name=nm/\Yj f=true))(hl:I l=P.length):W4 l nm to P=P:=by
 refine List.ext_getElem (by simp[W4]) λj hj i=>?_;have t:=ZdO (l:=l) (nm:=nm) (to:=to) i;have u:(W4 l nm to P).getD j dE=(W4 l nm to P)[j]:=by simp[ZHU,hj]
 have n:P.getD j dE=P[j]:=by simp[ZHU,i]
 rw[<-u,t,<-n,if_neg];unfold ZcZ;simp only[ZHN,decide_eq_true_eq];exact λz=>h _ (Zm ω) z.1.1
def ZvQ{l nm to P k}(hk:k<P.length)(hn:(l.getD k dE).name=nm/\Yj (l.getD k dE)=true)(hu:∀j,j<P.length->j≠k->(l.getD j dE).name≠nm):
  W4 l nm to P=if (l.getD k dE).low<=to/\to<=(l.getD k dE).high then P.set k ((P.getD k dE).setI to) else P:=by
 refine List.ext_getElem (by split<;>simp[W4]) λj z hj2=>?_;have n:j<P.length:=by simpa[W4]using z
 have h2:=ZdO (l:=l) (nm:=nm) (to:=to) n;have h3:(W4 l nm to P).getD j dE=(W4 l nm to P)[j]:=by simp[ZHU,z]
 have u:P.getD j dE=P[j]:=by simp[ZHU,n]
 rw[<-h3,h2];by_cases i:j=k;subst i;by_cases t:(l.getD j dE).low<=to/\to<=(l.getD j dE).high;have:ZcZ (l.getD j dE) nm to=true:=by unfold ZcZ;simp only[ZHN,decide_eq_true_eq];exact⟨⟨hn,t.1⟩,t.2⟩
 rw[if_pos this];simp only[if_pos t,List.getElem_set_self];have:¬ZcZ (l.getD j dE) nm to=true:=by unfold ZcZ;simp only[ZHN,decide_eq_true_eq];exact λh=>t ⟨h.1.2,h.2⟩
 rw[if_neg this];simp only[if_neg t];exact u;have:¬ZcZ (l.getD j dE) nm to=true:=by unfold ZcZ;simp only[ZHN,decide_eq_true_eq];exact λh=>hu j n i h.1.1.1
 rw[if_neg this];split;rw[List.getElem_set_ne (Ne.symm i)];exact u;exact u
def NmU.vfs{l}(h:NmU l){a b}(ha:a<(vfs l).length)(hb:b<(vfs l).length)(hab:a≠b):((vfs l).getD a dE).name≠((vfs l).getD b dE).name:=by
 obtain⟨i,hi,_,z,u⟩:=Q4 (l:=l) ha;obtain⟨j,hj,_,n,t⟩:=Q4 (l:=l) hb;rw[u,t];exact h.ne (λe=>hab (by rw[z,n,e])) hi hj
def ZCm{g w t Ln}(z:Yp g t w)(hL:∀b∈Ln,∃ds,t b=sO (.cells ds)):Yp (Ju g t Ln) (t.delL Ln) w:=by
 have hx:=Zbm z hL;have j:∀c,c∉Ln->(Ju g t Ln).prot c=g.prot c:=λc u=>by simp only[Ju,if_neg u]
 refine⟨λc x i=>?_,λc x i=>?_,λc u=>?_,λn cs u=>(z.tabs n cs u).mono hx⟩;simp only[St.delL]at i;by_cases u:c∈Ln;simp[u]at i;simp only[u,if_false]at i;exact(z.obj c x i).mono hx rfl (j c u);simp only[St.delL]at i;by_cases u:c∈Ln;simp[u]at i;simp only[u,if_false]at i;exact z.kept c x i;have h1:=z.fresh c u;refine⟨(j c λh=>?_).trans h1.1,h1.2⟩;obtain⟨ds,hd⟩:=hL c h;have:=(z.obj c _ hd).lt;omega
def Ze.freeze{f args T Φ Ψ}(h:Ze ZHF f args T Φ)(z:∀r S,Φ r S->∃Ln d i,r=.ret d/\(∀b∈Ln,∃ds,S b=sO (.cells ds))/\YC S Ln d i/\Ψ (.ret i) (S.delL Ln)):Ze ZHF f args T Ψ :=
 ⟨h.1,λg w vs hs ha=>(h.2 g w vs hs ha).mono λe w' ⟨g',S',r,he,n,t,hq⟩=>by
  obtain⟨Ln,d,i,rfl,j,hl,hΨ⟩:=z _ _ hq;have u:=Zbm n j;refine⟨Ju g' S' Ln,S'.delL Ln,.ret i,he.trans u,ZCm n j,?_,hΨ⟩;cases e<;>simp only[ZrW]at t⊢;exact hl _ w' _ (Zli n j) (Rep.mono t u)⟩
def ZAr(v:Val):Prop:=I v.bytes<=140737488351232/\I v.hdrs*32<=140737488351232/\I v.parts*96<=140737488351232
mutual
def Zdd:Val->Prop
 |.mk n i b h p=>ZAr (.mk n i b h p)/\rchL p
def rchL:List Val->Prop
 | []=>True
 |v::r=>Zdd v/\rchL r
end
def ZAq{l}:rchL l↔∀x∈l,Zdd x:=by
 induction l with
 |nil=>simp[rchL]
 |cons v r ih=>simp[rchL,ih]
def Zcr{v}:Zdd v↔ZAr v/\∀x∈v.parts,Zdd x:=by
 cases v;simp only[Zdd,ZAq];rfl
def VOk.rch{v}:VOk v->Zdd v:=by
 induction v using Val.ind with
 |h v ih =>intro n;have i:=n.sm;have hsb:=i.b;have hsh:=i.h;have hsp:=i.p;exact Zcr.2 ⟨⟨ω,ω,ω⟩,λx j=>ih x j (n.part j)⟩
structure QOk(Q:St->Val->List D->List Nat->Prop):Prop where
 head:∀(T:St) (v:Val) (c:List D) (fp:List Nat),Q T v c fp->∃p,c=[.str v.name,.i v.int,Zs v.bytes,Zx v.hdrs,p]
 mono:∀(T T':St) (v:Val) (c:List D) (fp:List Nat),Q T v c fp->(∀y∈fp,T' y=T y)->Q T' v c fp
 live:∀(T:St) (v:Val) (c:List D) (fp:List Nat),Q T v c fp->∀y∈fp,∃ds,T y=some (.cells ds)
 ld:∀(T:St) (v:Val) (c:List D) (fp Ln:List Nat),Q T v c fp->(∀y∈fp,y∈Ln)->LdC T Ln c v.cells
 setI:∀(T:St) (v:Val) (c:List D) (fp:List Nat) (i:Int),Q T v c fp->Q T (v.setI i) (Zq c 1 [.i i]) fp
def QOk.len{Q}(hQ:QOk Q){T v c fp}(h:Q T v c fp):I c=5:=by
 obtain⟨p,rfl⟩:=hQ.head _ _ _ _ h;rfl
def Q0(_:St)(v:Val)(c:List D)(fp:List Nat):Prop:=c=v.cells/\fp=[]
def Zlu:QOk Q0 :=
 ⟨λ_ v _ _ h=>⟨_,h.1.trans (ZHX v)⟩,λ_ _ _ _ _ h _=>h,λ_ _ _ _ h y j=>(by rw[h.2]at j;simp at j),λ_ _ _ _ _ h _=>by rw[h.1];exact LdC.refl _,λ_ v _ _ i h=>⟨by rw[h.1,ZHX,ZHX];rfl,h.2⟩⟩
structure PQ(Q:St->Val->List D->List Nat->Prop)(T:St)(P:List Val)(x:Nat)(row:Nat->List D)(f:Nat->List Nat)(X:List D):Prop where
 b:T x=some (.cells (Z1 row P.length++X))
 kid:∀j,j<P.length->Q T (P.getD j default) (row j) (f j)
 n:∀j,j<P.length->x∉f j
 d:∀j k,j<P.length->k<P.length->j≠k->∀y∈f j,y∉f k
def fpP(P:List Val)(x:Nat)(f:Nat->List Nat):List Nat:=x::(ZHT P.length).flatMap f
def Kf{P x y f}:y∈fpP P x f↔y=x\/∃j,j<P.length/\y∈f j:=by
 simp only[fpP,ZIj,List.mem_flatMap,List.mem_range]
inductive MQ(Q:St->Val->List D->List Nat->Prop)(T:St):Val->List D->List Nat->Prop where
 |leaf (v:Val) (h:v.parts=[]):MQ Q T v v.cells []
 |node (v:Val) (x cap:Nat) (row:Nat->List D) (f:Nat->List Nat) (X:List D) (hp:0<I v.parts) (m:PQ Q T v.parts x row f X) (le:I v.parts<=cap) :
   MQ Q T v [.str v.name,.i v.int,Zs v.bytes,Zx v.hdrs,.msl x 0 (I v.parts) cap 5] (fpP v.parts x f)
section
variable {Q:St->Val->List D->List Nat->Prop} (hQ:QOk Q) {T A S S2:St} {P:List Val} {x x':Nat} {row:Nat->List D} {f:Nat->List Nat} {X X':List D}
include hQ
def PQ.live(h:PQ Q T P x row f X):∀y∈fpP P x f,∃ds,T y=sO (.cells ds):=λy i=>by
 rcases Kf.1 i with rfl|⟨j,n,i⟩;exact⟨_,h.b⟩;exact hQ.live _ _ _ _ (h.kid j n) y i
def PQ.len5(h:PQ Q T P x row f X):∀j,j<P.length->(row j).length=5:=λj i=>hQ.len (h.kid j i)
def PQ.mono(h:PQ Q T P x row f X)(n:∀y∈fpP P x f,S y=T y):PQ Q S P x row f X :=
 ⟨by rw[n x (Kf.2 (.inl rfl))];exact h.b,λj i=>hQ.mono _ _ _ _ _ (h.kid j i) λy t=>n y (Kf.2 (.inr ⟨j,i,t⟩)),h.n,h.d⟩
def PQ.ld(h:PQ Q T P x row f X){Ln}(n:∀y∈fpP P x f,y∈Ln){cap}:YC T Ln (.msl x 0 P.length cap 5) (ZF P):=by
 have t:=h.len5 hQ;refine YC.msl (n x (Kf.2 (.inl rfl))) h.b (by rw[ZHO,Y6 t];exact Nat.le_add_right _ _) λj i=>?_;rw[show((Z1 row P.length++X).drop (j*5)).take 5=row j from KS X t i];show LdC T Ln (row j) (J5 P j);rw[ZcL i];exact hQ.ld _ _ _ _ _ (h.kid j i) λy u=>n y (Kf.2 (.inr ⟨j,i,u⟩))
def ZDb:QOk (MQ Q):=by
 refine⟨λT v c fp h=>?_,λT T' v c fp h t=>?_,λT v c fp h y j=>?_,λT v c fp Ln h n=>?_,λT v c fp i h=>?_⟩
 .cases h with
  |leaf h=>exact⟨_,ZHX v⟩
  |node x cap row f X hp m le=>exact⟨_,rfl⟩
 .cases h with
  |leaf h=>exact .leaf v h
  |node x cap row f X hp m le=>exact .node v x cap row f X hp (m.mono hQ t) le
 .cases h with
  |leaf h=>simp at j
  |node x cap row f X hp m le=>exact m.live hQ y j
 .cases h with
  |leaf h=>exact LdC.refl _
  |node x cap row f X hp m le =>rw[ZHX];exact .cons (.refl _) (.cons (.refl _) (.cons (.refl _) (.cons (.refl _) (.cons (m.ld hQ n) .nil))))
 cases h with
 |leaf h =>rw[show Zq v.cells 1 [.i i]=(v.setI i).cells by rw[ZHX,ZHX];rfl];exact .leaf _ h
 |node x cap row f X hp m le=>exact .node (v.setI i) x cap row f X hp m le
def PQ.child(h:PQ Q T P x row f X){j}(z:j<P.length){w r'}(hr:Q S w r' (f j))(hb:S x=sO (.cells (Z1 (λi=>if i=j then r' else row i) P.length++X)))(ho:∀y,y≠x->y∉f j->S y=T y):PQ Q S (P.set j w) x (λi=>if i=j then r' else row i) f X:=by
 refine⟨by rw[List.length_set];exact hb,λk n=>?_,λk n=>h.n k (by simpa using n),λk l n hl=>h.d k l (by simpa using n) (by simpa using hl)⟩;rw[List.length_set]at n;rw[JY z];by_cases t:k=j;subst t;rw[if_pos rfl,if_pos rfl];exact hr;rw[if_neg t,if_neg t];exact hQ.mono _ _ _ _ _ (h.kid k n) λy u=>ho y (λe=>h.n k n (e▸u)) (h.d k j n z t y u)
def Zvt{j w}:fpP (P.set j w) x f=fpP P x f:=by unfold fpP;rw[List.length_set]
end
def Zk9(Q:St->Val->List D->List Nat->Prop)(v:Val)(T:St)(r:Res)(S:St):Prop:=∃c fp,r=.ret (.agg c)/\Q S v c fp/\(∀y∈fp,T y=nO)/\∀y,y∉fp->S y=T y
structure OwI(Q:St->Val->List D->List Nat->Prop)(T A:St)(P:List Val)(x:Nat)(row:Nat->List D)(f:Nat->List Nat)(X:List D):Prop where
 p:PQ Q A P x row f X
 fr:∀y∈fpP P x f,T y=none
 out:∀y,y∉fpP P x f->A y=T y
section
variable {Q:St->Val->List D->List Nat->Prop} (hQ:QOk Q) {T A S S2:St} {P:List Val} {x x':Nat} {row:Nat->List D} {f:Nat->List Nat} {X X':List D} {w:Val} {c:List D} {fp:List Nat}
include hQ
def Zya{l}{w:Val}{j:Nat}(hj:j<I l+1):(l++[w]).getD j dE=if j<I l then l.getD j dE else w:=by
 simp only[ZHU];split;rename_i h;rw[ZIc h];rename_i h;rw[ZIq ω,show j-I l=0 by omega];rfl
def OwI.one(z:Q S w c fp)(hf:∀y∈fp,T y=nO)(ho:∀y,y∉fp->S y=T y)(hx:S x=nO):OwI Q T (S.upd x (.cells (c++X))) [w] x (λ_=>c) (λ_=>fp) X:=by
 have hl:=hQ.live _ _ _ _ z;have i:x∉fp:=λh=>by obtain⟨ds,u⟩:=hl x h;rw[hx]at u;simp at u
 refine⟨⟨by rw[ZHP];rfl,λj t=>?_,λj t=>i,λj k t hk hjk=>?_⟩,λy n=>?_,λy n=>?_⟩;obtain rfl:j=0:=by simp at t;exact t
 exact hQ.mono _ _ _ _ _ z λy n=>ZHQ _ _ λe=>i (e▸n);simp at t hk;omega;rcases Kf.1 n with rfl|⟨j,t,n⟩;rw[<-ho _ i];exact hx;exact hf y n;have h1:y≠x:=λe=>n (Kf.2 (.inl e));have h2:y∉fp:=λe=>n (Kf.2 (.inr ⟨0,ψ,e⟩));rw[ZHQ _ _ h1,ho y h2]
def OwI.snoc(h:OwI Q T A P x row f X)(hq:Q S w c fp)(hf:∀y∈fp,A y=nO)(ho:∀y,y∉fp->S y=A y)(hx:x'=x\/S x'=nO)(hb:S2 x'=sO (.cells (Z1 (λj=>if j<P.length then row j else c) (P.length+1)++X')))(ho2:∀y,y≠x'->y≠x->S2 y=S y)(hox:x'≠x->S2 x=nO):
  OwI Q T S2 (P++[w]) x' (λj=>if j<P.length then row j else c) (λj=>if j<P.length then f j else fp) X':=by
 have i:(P++[w]).length=P.length+1:=by simp
 have ae:=h.p.live hQ;have af:=hQ.live _ _ _ _ hq;have t:∀y∈fpP P x f,y∉fp:=λy n ai=>by obtain⟨ds,hd⟩:=ae y n;rw[hf y ai]at hd;simp at hd
 have ad:x'≠x->S x'=nO:=λe=>hx.resolve_left e;have ab:∀y∈fpP P x f,y≠x->y≠x':=λy n ah e=>by subst e;obtain⟨ds,hd⟩:=ae y n;rw[<-ho y (t y n),ad ah]at hd;simp at hd
 have ac:x∈fpP P x f:=Kf.2 (.inl rfl);have z:∀y∈fp,y≠x'/\y≠x:=λy n=>by have h1:y≠x:=λe=>t x ac (e▸n);refine⟨λe=>?_,h1⟩;subst e;obtain⟨ds,hd⟩:=af y n;rw[ad h1]at hd;simp at hd
 have u:∀{j y:Nat},j<P.length->y∈f j->y∈fpP P x f/\y≠x:=λhj n=>⟨Kf.2 (.inr ⟨_,hj,n⟩),λe=>h.p.n _ hj (e▸n)⟩;refine⟨⟨by rw[i];exact hb,λj hj=>?_,λj hj=>?_,λj k hj hk ag y n=>?_⟩,λy n=>?_,λy n=>?_⟩;rw[i]at hj;rw[Zya hj];by_cases h1:j<P.length;simp only[if_pos h1];refine hQ.mono _ _ _ _ _ (h.p.kid j h1) λy n=>?_;obtain⟨h2,h3⟩:=u h1 n;rw[ho2 y (ab y h2 h3) h3,ho y (t y h2)];simp only[if_neg h1];exact hQ.mono _ _ _ _ _ hq λy n=>ho2 y (z y n).1 (z y n).2;by_cases h1:j<P.length;simp only[if_pos h1];intro hm;obtain⟨h2,h3⟩:=u h1 hm;exact ab _ h2 h3 rfl;simp only[if_neg h1];exact λhm=>(z _ hm).1 rfl;rw[i]at hj hk;by_cases h1:j<P.length;rw[if_pos h1]at n;by_cases h2:k<P.length;rw[if_pos h2];exact h.p.d j k h1 h2 ag y n;rw[if_neg h2];exact t y (u h1 n).1;rw[if_neg h1]at n;have h2:k<P.length:=ω;rw[if_pos h2];exact λhm=>t y (u h2 hm).1 n;rcases Kf.1 n with rfl|⟨j,hj,n⟩;by_cases e:y=x;rw[e];exact h.fr x ac;have h1:=ad e;have h2:y∉fp:=λhm=>(z y hm).1 rfl;have h3:y∉fpP P x f:=λhm=>ab y hm e rfl;rw[<-h.out y h3,<-ho y h2];exact h1;by_cases h1:j<P.length;rw[if_pos h1]at n;exact h.fr y (u h1 n).1;rw[if_neg h1]at n;rw[<-h.out y λhm=>t y hm n];exact hf y n;have h1:y≠x':=λe=>n (Kf.2 (.inl e));have h2:y∉fp:=λe=>n (Kf.2 (.inr ⟨P.length,by rw[i];omega,by rw[if_neg ω];exact e⟩));by_cases e:y=x;subst e;rw[hox (Ne.symm h1),h.fr y ac];rw[ho2 y h1 e,ho y h2];refine h.out y λhm=>?_;rcases Kf.1 hm with h3|⟨j,hj,h3⟩;exact e h3;exact n (Kf.2 (.inr ⟨j,by rw[i];omega,by rw[if_pos hj];exact h3⟩))
end
def Zzl{P}{F:Fr P}{kp dk o fl os H L s B}(hg:Zo H o.guard=sO true){e sz bt z x y}(hk:o.k=.append e sz bt z x y){p q b off n cap m row2 dy cs}(hx:ZD H true x=sO (p,.d (.msl b off n cap sz)))(hy:ZD H true y=sO (q,.d dy))(hp:p)(hq:q)(hcs:Ye s b=sO cs)(hlen:off+n*sz<=I cs)(hel:Jh P s sz dy m row2)(hroom:n+m<=cap->off=0/\(n+m)*sz<=I cs)(hb:(n+m)*bt<=140737488355328)(hbig:n+m<=big)(h1:n+m<=cap->Zc2 false fl s (s.upd b (.cells (Zq cs (n*sz) ((ZHT m).flatMap row2)))) L L B/\DOA F kp dk os (Zz H o.dst (.d (.msl b off (n+m) cap sz))) L (s.upd b (.cells (Zq cs (n*sz) ((ZHT m).flatMap row2)))) (Ze6 false fl B))(h2:∀c u,cap<n+m->s c=nO->n+m<=u->Zc2 false fl s (s.upd c (.cells (part cs off (n*sz)++(ZHT m).flatMap row2++List.replicate ((u-(n+m))*sz) .any))) L L B /\
   DOA F kp dk os (Zz H o.dst (.d (.msl c 0 (n+m) u sz))) L (s.upd c (.cells (part cs off (n*sz)++(ZHT m).flatMap row2++List.replicate ((u-(n+m))*sz) .any))) (Ze6 false fl B)):
  DOA F kp dk ((o,fl)::os) H L s B:=by
 refine Zbz (λe' s'=>(n+m<=cap/\e'=.d (.msl b off (n+m) cap sz)/\s'=s.upd b (.cells (Zq cs (n*sz) ((ZHT m).flatMap row2)))) \/
  ∃c u,cap<n+m/\s c=nO/\n+m<=u/\e'=.d (.msl c 0 (n+m) u sz)/\s'=s.upd c (.cells (part cs off (n*sz)++(ZHT m).flatMap row2++List.replicate ((u-(n+m))*sz) .any))) (by rw[hk];rfl) (λH' L' os' j i=>?_) (λe2 s2 h=>by
  rcases h with ⟨a,rfl,rfl⟩|⟨c,u,a1,a2,a3,rfl,rfl⟩;exact h1 a;exact h2 c u a1 a2 a3)
 have e1:ZA H H' (ZV x):=λt ht=>j t (by simp[ZB,hk,Yl,ht]);have e2:ZA H H' (ZV y):=λt ht=>j t (by simp[ZB,hk,Yl,ht]);have e3:ZA H H' (ZbX o.guard):=λt ht=>j t (by simp[ZB,ht]);exact Zk3 (by rw[Y4 e3];exact hg) hk (by rw[ZT e1];exact hx) (by rw[ZT e2];exact hy) hp hq hcs hlen hel hroom hb hbig (λh=>i _ _ (.inl ⟨h,rfl,rfl⟩)) λc u a1 a2 a3=>i _ _ (.inr ⟨c,u,a1,a2,a3,rfl,rfl⟩)
def Zww{row c n}:Z1 (λj=>if j<n then row j else c) (n+1)=Z1 row n++c:=by
 rw[Z1,ZgS (row':=row) λj i=>if_pos i,if_neg (Nat.lt_irrefl _)]
def Zt9{A X c n}(i:A.length=n):Zq (A++X) n c=A++c++X.drop (I c):=by
 subst i;unfold Zq;rw[List.take_left,<-List.drop_drop,List.drop_left]
inductive OwP(Q:St->Val->List D->List Nat->Prop)(T:St)(P:List Val):D->St->Prop where
 |nil (h:P=[]):OwP Q T P .nilsl T
 |one (x cap:Nat) (row:Nat->List D) (f:Nat->List Nat) (X:List D) {A:St} (h0:0<P.length) (hA:OwI Q T A P x row f X) (hX:X.length=(cap-P.length)*5) (hc:P.length<=cap):OwP Q T P (.msl x 0 P.length cap 5) A
def ZfS{Q}(hQ:QOk Q)(v)(hv:ZAr v)(ih:∀x∈v.parts,∀T,Ze ZHF 7 [.agg x.cells] T (Zk9 Q x T))(T):Ze ZHF 7 [.agg v.cells] T (Zk9 (MQ Q) v T):=by
 obtain⟨hsb,hsh,hsp⟩:=hv;refine Zh (cR 7 f7) λF hF=>?_;rw[v.cells_eq];refine rg ?_;refine rx (nd2 @Zs.eq_1 (nd2 @Zx.eq_1 @eQ1)) ?_;refine Zvb (T) (.full) rfl rfl rfl rfl rfl rfl φ φ rfl (by first|trivial|assumption) ω (by (unfold big;omega)) λt1 av=>⟨by first|trivial|exact⟨rfl,trivial⟩|simp[Eqs,reduceCtorEq,ZHK,reduceIte,ZHI,ZHM,ZHJ],Yz ?_⟩;simp only[Eqs,reduceCtorEq,ZHK,reduceIte,ZHI,ZHM,ZHJ];refine Zvb ((T.own t1 (I v.bytes*1))) (.full) rfl rfl rfl rfl rfl rfl φ φ rfl (by first|trivial|assumption) ω (by (unfold big;omega)) λt2 am=>⟨by first|trivial|exact⟨rfl,trivial⟩|simp[Eqs,reduceCtorEq,ZHK,reduceIte,ZHI,ZHM,ZHJ],Yz ?_⟩;simp only[Eqs,reduceCtorEq,ZHK,reduceIte,ZHI,ZHM,ZHJ];refine Zd (Zd ?_);have hB:ZQ u8C (YA 0 (ZY [.int .u8 0] ([].zip [])) λi=>u8C (v.bytes.getD i dE)) ([]++v.bytes):=ZQ.nil.app ZQ.self rfl;have hH:ZQ Hdr.cells (YA 0 (ZY [.str [],.str []] ([].zip [])) λi=>Hdr.cells (v.hdrs.getD i dE)) ([]++v.hdrs):=ZQ.nil.app ZQ.self rfl;refine Ka (ZIn (YH av) (YH am)) ?_;refine kl (T) [(1,.loc 1 0),(2,.loc 2 0),(3,.loc 3 0)] [(1,[.str v.name,.i v.int,Zs v.bytes,Zx v.hdrs,ZF v.parts]),(2,[.str [],.i 0,.nilsl,.nilsl,.nilsl]),(3,[.str v.name,.i v.int,Zs v.bytes,Zx v.hdrs,.nilsl])] Ku (.cons (LeC.refl _) (.cons (LeC.refl _) (.cons (.cons (ZHL _) (.cons (ZHL _) (.cons (hB.le (n:=I v.bytes) ψ) (.cons (hH.le (n:=I v.hdrs) ψ) (.cons (ZHL _) .nil))))) WE))) ?_;refine rg ?_;refine Zb (fr (I v.parts) (λi Q0=>∀p A,OwP Q T (v.parts.take i) p A->i<=I v.parts->Q0 [(1,.loc 1 0),(2,.loc 2 0),(3,.loc 3 0),(4,.d (.i i))] [(1,[.str v.name,.i v.int,Zs v.bytes,Zx v.hdrs,.sl .none (I v.parts) 5 (J5 v.parts)]),(2,[.str [],.i 0,.nilsl,.nilsl,.nilsl]),(3,[.str v.name,.i v.int,Zs v.bytes,Zx v.hdrs,p])] A) (λn j=>?_) λap=>?_)
 .intro i hn p A hp hi;have al:(v.parts.take i).length=i:=by rw[ZHZ];omega
  refine rg ?_;refine cd (λhd=>?_) (λhd=>?_)
  .simp only[decide_eq_true_eq]at hd;have ad:i<I v.parts:=ω;have aj:=Wm ad;have ag:=ih _ (Zm ad) A;have ac:=Z3 ad;generalize v.parts.getD i dE=xi at *;rw[ZHX xi]at ag;generalize hl:v.parts.take i=l at *;cases hp with
   |nil h0 =>
    have hi0:i=0:=by rw[<-al,h0];rfl
    refine xA @aj ?_;refine cVD (ag) ?_ ?_;rintro dd S ⟨c,fp,hr,hq,hf,ho⟩;cases hr;obtain⟨p0,af⟩:=hQ.head _ _ _ _ hq;subst af;refine kF ?_;refine gR0 ?_;refine Zzk rfl rfl rfl rfl rfl rfl φ φ (by decide) ω (by (unfold big;omega)) λz zc hz aw=>⟨by first|trivial|exact⟨rfl,trivial⟩|simp[Eqs,reduceCtorEq,ZHK,reduceIte,ZHI,ZHM,ZHJ],Yz ?_⟩;simp only[Eqs,reduceCtorEq,ZHK,reduceIte,ZHI,ZHM,ZHJ];refine⟨by rw[Zbq];trivial,?_⟩;refine gA ?_;have h1:=OwI.one hQ (T:=T) (S:=S) (x:=z) (X:=List.replicate ((zc-1)*5) .any) hq hf ho hz;refine Za ?_;exact j ((I v.parts)-(i+1)) ω (i+1) rfl _ _ (by rw[ac,h0];exact .one z zc _ _ _ ψ h1 ψ aw) ω;rintro d S ⟨_,_,hr,_⟩;cases hr
   |one x cap row f X hpos hA hX hcap =>
    have ak:=hA.p.b;have aq:=hA.p.len5 hQ;have t:=Y6 aq;have hil2:I l=i:=al;have hcap2:I l+1<=cap->i+1<=cap:=λh=>by omega
    refine xA @aj ?_;refine cVD (ag) ?_ ?_;rintro dd S ⟨c,fp,hr,hq,hf,ho⟩;cases hr;obtain⟨p0,af⟩:=hQ.head _ _ _ _ hq;have ah:S x=sO (.cells (Z1 row (I l)++X)):=by rw[ho x λhx=>by have:=hf x hx;rw[ak]at this;simp at this];exact ak
    have ae:=λ(x':Nat) (S2:St) (X':List D) h1 h2 h3 h4=>hA.snoc hQ (S2:=S2) (x':=x') (X':=X') hq hf ho h1 h2 h3 h4;rw[Zww]at ae;subst af;have u:(ZHT 1).flatMap (ZY [.str [],.i 0,.nilsl,.nilsl,.nilsl] ([0].zip [D.agg [.str xi.name,.i xi.int,Zs xi.bytes,Zx xi.hdrs,p0]]))=[.str xi.name,.i xi.int,Zs xi.bytes,Zx xi.hdrs,p0]:=rfl;refine kF ?_;refine gR0 ?_;refine Zzl rfl rfl rfl rfl φ φ (by simp only[Ye,ah]:Ye S x=sO (Z1 row (I l)++X)) (by rw[ZHO,t];omega) (.elems rfl) (by (intro hr;refine⟨rfl,?_⟩;rw[ZHO,t,hX,Nat.sub_mul];omega)) ω (by (unfold big;omega)) (λab=>⟨by first|trivial|exact⟨rfl,trivial⟩|simp[Eqs,reduceCtorEq,ZHK,reduceIte,ZHI,ZHM,ZHJ],?_⟩) (λz zc hlt hz ab=>⟨by first|trivial|exact⟨rfl,trivial⟩|simp[Eqs,reduceCtorEq,ZHK,reduceIte,ZHI,ZHM,ZHJ],?_⟩)
    skip
    rw[u,Zt9 t];refine gR0 ?_;refine⟨by rw[Zbq];trivial,?_⟩;refine gA ?_;refine Za ?_;exact j ((I v.parts)-(i+1)) ω (i+1) rfl _ _ (by
     rw[ac,show D.msl x 0 (I l+1) cap 5=.msl x 0 (l++[xi]).length cap 5 by rw[ZHO];rfl];exact .one x cap _ _ _ ψ (ae x _ _ (.inl rfl) (by rw[ZHP]) (λy hy _=>ZHQ _ _ hy) λh=>absurd rfl h) (by rw[ZIh,hX,ZHO];simp only[ZHW,List.length_nil];omega) (by rw[ZHO];exact ab)) ω
    skip
    have ao:part (Z1 row (I l)++X) 0 (I l*5)=Z1 row (I l):=by unfold part;rw[List.drop_zero,List.take_left' t]
    rw[u,ao];refine gR0 ?_;refine⟨by rw[Zbq];trivial,?_⟩;have ar:z≠x:=λe=>by rw[e,ah]at hz;simp at hz
    refine gA ?_;refine Ka (s':=λy=>if y=x then nO else (S.upd z (.cells (Z1 row (I l)++[.str xi.name,.i xi.int,Zs xi.bytes,Zx xi.hdrs,p0]++List.replicate ((zc-(I l+1))*5) .any))) y) (λy o hy=>by
     dsimp only at hy;split at hy;simp at hy;exact hy) ?_
    refine Za ?_;exact j ((I v.parts)-(i+1)) ω (i+1) rfl _ _ (by
     rw[ac,show D.msl z 0 (I l+1) zc 5=.msl z 0 (l++[xi]).length zc 5 by rw[ZHO];rfl];exact .one z zc _ _ _ ψ (ae z _ _ (.inr hz) (by rw[if_neg ar,ZHP]) (λy hy au=>by rw[if_neg au,ZHQ _ _ hy]) λ_=>if_pos rfl) (by rw[List.length_replicate,ZHO];rfl) (by rw[ZHO];exact ab)) ω
    rintro d S ⟨_,_,hr,_⟩;cases hr
  simp only[decide_eq_false_iff_not]at hd;obtain rfl:i=I v.parts:=ω;rw[ZH2]at hp;have ai:=ZHX v;cases hp with
  |nil h0 =>rw[h0]at ai;refine rg ?_;exact hF.ret (.agg v.cells) T rfl (by first|trivial|simp) (by rw[ai];exact Zsm (.cons (ZHL _) (.cons (ZHL _) (.cons (ZHL _) (.cons (ZHL _) (.cons (Y3 λb h=>by cases h) .nil)))))) ZHH ⟨_,[],rfl,.leaf v h0,λ_ h=>absurd h List.not_mem_nil,λ_ _=>rfl⟩
  |one x cap row f X hpos hA hX hcap =>refine rg ?_;exact hF.ret _ A rfl (by first|trivial|simp) (ZHL _) ZHH ⟨_,_,rfl,.node v x cap row f X hpos hA.p hcap,hA.fr,hA.out⟩
 exact ap _ 0 rfl .nilsl T (.nil rfl) ω
def Zkb(m:Msg)(nm):Zc ZHF 71 [.agg m.cells,.str nm] (.i (ZdD nm m.fields 0)):=by
 refine ZJ (cR 71 f71) λz F st u=>?_;have hw:=(YR ((z (.agg m.cells) ψ).agg_inv (Zk m.fields) (by simp[Msg.cells]))).1;unfold big at hw;clear z;refine rx @eQ3 ?_;refine gG ?_;refine Zb (fr (I m.fields) (λi Q=>∀k:Int,ZdD nm (m.fields.drop i) k=ZdD nm m.fields 0->0<=k->k<=i->i<=I m.fields->Q [(1,.d (.str nm)),(2,.loc 2 0),(5,.d (.i k)),(6,.d (.i i))] [(2,[.str m.name,Zk m.fields])] st) (λn t=>?_) λab=>?_);intro i hn k j ac hki hi;refine rx @Jw ?_;refine cd (λh1=>?_) (λh1=>?_);simp at h1;rw[Ww h1,ZdD]at j;generalize hg:m.fields.getD i dE=f at *;refine xA (nd2 @atF (nd2 @hg @eQ0)) ?_;refine rx @eQ0 ?_;refine cd (λh2=>?_) (λh2=>?_);rw[if_pos (by unfold ZdG;exact h2)]at j;refine rg ?_;refine ri u ?_;rw[<-j];rw[if_neg (by unfold ZdG;rw[h2];simp)]at j;refine rx @eQ0 ?_;rw[show D.agg [.str f.name,.i f.kind,.i f.bits,.bool f.little,.bool f.loose,.i f.low,.i f.high,.i f.size.base,Yd f.size.terms,.str f.of,.str f.tag,.str f.from_,Yk f.cases,.i f.check,.i f.key]=.agg f.cells from rfl];refine cl (KV f) ?_;refine cd (λh3=>?_) (λh3=>?_);rw[if_pos h3]at j;refine gA ?_;refine gA ?_;refine Za ?_;exact t ((I m.fields)-(i+1)) ω (i+1) rfl (k+1) j ω ω ω;rw[if_neg (by rw[h3];simp)]at j;refine gA ?_;refine Za ?_;exact t ((I m.fields)-(i+1)) ω (i+1) rfl k j ac ω ω;simp only[decide_eq_false_iff_not]at h1;obtain rfl:i=I m.fields:=ω;rw[List.drop_length,ZdD]at j;refine rg ?_;refine ri u ?_;rw[<-j];exact ab _ 0 rfl 0 rfl ω ω ω
def Zt1(m nm)(hf:0<=Yb m nm (I m.fields)):Zc ZHF 73 [.agg m.cells,.str nm] (.agg (m.fields.getD (Yb m nm (I m.fields)).toNat dE).cells):=by
 refine Zg (cR 73 f73) λF st i=>?_;have hlt:Yb m nm (I m.fields)<I m.fields:=by have h:=Ys (λf:Fld=>dC (f.name=nm)) (m.fields.take (I m.fields));rw[ZHZ,Nat.min_self]at h;have e:Yb m nm (I m.fields)=Zi (λf:Fld=>dC (f.name=nm)) (m.fields.take (I m.fields)):=rfl;omega
 have j:=Zah m nm (I m.fields) (ZHV _);generalize Yb m nm (I m.fields)=k at *;generalize n:m.fields.getD k.toNat dE=f at *;refine rx @eQ3 ?_;refine rx @Jw ?_;rw[show D.agg [.str m.name,Zk m.fields]=.agg m.cells from rfl];refine cXD (nd2 @atF (nd2 @n @eQ0)) (j) ?_;refine⟨ω,ω,?_⟩;refine⟨by rw[Zbq];trivial,?_⟩;refine ro i ?_;rfl
def ZpU(n):Zc ZHF 125 [.i n] (.bool (dC (0<=n)&&dC (n<34359738368))):=by
 refine Zg (cR 125 f125) λF st i=>?_;refine gG ?_;refine rb i ?_;rfl
def ZtP(s)(hv:ZI s=true)(t)(ht:s.terms=[t])(n)(hn:n<=1152921504606846976/\-1152921504606846976<=n):Zc ZHF 72 [.agg s.cells,.str t.field,.i n,.nilsl] (ZhU (Zdm t s.base n)):=by
 have ab:=Za7 hv;have j:=Zjb hv t (by rw[ht];simp);have hts:=ab.2 t (by rw[ht];simp);have z:s.terms.getD 0 dE=t:=by rw[ht];rfl
 have u:I s.terms=1:=by rw[ht];rfl
 have hS:=Zdm.eq_1 t s.base n;refine Zg (cR 72 f72) λF st i=>?_;refine rx @eQ4 ?_;refine rx @eQ4 ?_;rw[show D.agg [.i s.base,Yd s.terms]=.agg s.cells from rfl];refine cl (ZfR s) ?_;rw[hv];refine i0 ?_;refine rx @eQ4 ?_;refine rg ?_;refine Zb (Za9 ?_);refine rx (nd2 @Zlm @u) ?_;refine i1 ?_;refine xA (nd2 @Zlm (nd2 @Zwe (nd2 @z (nd2 @u @eQ8)))) ?_;refine i1 ?_;refine xA (nd2 @Zlm (nd2 @Zwe (nd2 @z (nd2 @u @eQ8)))) ?_;refine gA ?_;refine Za ?_;refine rx (nd2 @Zlm @u) ?_;refine iG ?_;refine Zt rfl trivial (λh=>by simp at h;omega) (λ_=>?_);refine gA ?_;have hq1:((n-s.base).tdiv t.factor).natAbs<=(n-s.base).natAbs:=by rw[Int.natAbs_tdiv];exact Nat.div_le_self _ _
 have hq2:((n-s.base).tmod t.factor).natAbs<=(n-s.base).natAbs:=by rw[Int.natAbs_tmod];exact Nat.mod_le _ _
 refine rg ?_;refine⟨j,ω,ω,λ_=>⟨j,ω,ω⟩,?_⟩;refine cG (ZpU ((n-s.base).tdiv t.factor)) ?_;refine aa ?_;refine cd (λh2=>?_) (λh2=>?_);rw[hS,if_neg (by simp at h2;omega)]at i;refine rg ?_;exact i rfl φ (K4 rfl rfl) ZHH;rw[hS,if_pos (by simp at h2;omega)]at i;refine rg ?_;refine⟨j,ω,ω,?_⟩;exact i rfl φ (K4 rfl rfl) ZHH
def ZzL{m}(u:NmU m.fields){k}(z:k<(vfs m.fields).length):
  0<=Yb m ((vfs m.fields).getD k dE).name (I m.fields)/\m.fields.getD (Yb m ((vfs m.fields).getD k dE).name (I m.fields)).toNat dE=(vfs m.fields).getD k dE:=by
 obtain⟨b,t,_,hkb,i⟩:=Q4 (l:=m.fields) z;rw[i];have e:∀nm,Yb m nm (I m.fields)=Zi (λf:Fld=>dC (f.name=nm)) m.fields:=λnm=>by unfold Yb;rw[ZH2]
 rw[e];have j:0<=Zi (λf:Fld=>dC (f.name=(m.fields.getD b dE).name)) m.fields:=by refine Int.not_lt.1 λh=>?_;have:=ZbC h _ (Zm t);simp at this
 have h1:=Qc j;have h2:=Ys (λf:Fld=>dC (f.name=(m.fields.getD b dE).name)) m.fields;refine⟨j,?_⟩;generalize Zi (λf:Fld=>dC (f.name=(m.fields.getD b dE).name)) m.fields=q at *;have h3:(m.fields.getD q.toNat dE).name=(m.fields.getD b dE).name:=by simpa using h1.1
 by_cases n:q.toNat=b;rw[n];exact absurd h3 (u.ne n ω t)
def Znx(row row':Nat->List D):Prop:=∀j,row' j=row j\/∃i,row' j=Zq (row j) 1 [.i i]
def PQ.setI{Q}(hQ:QOk Q){T P x row f X}(h:PQ Q T P x row f X){k}(n:k<P.length)(i):
  ∃row',PQ Q (T.upd x (.cells (Zq (Z1 row P.length++X) (k*5+1) [.i i]))) (P.set k ((P.getD k dE).setI i)) x row' f X/\Znx row row':=by
 have u:=h.len5 hQ;refine⟨_,h.child hQ n (hQ.mono _ _ _ _ _ (hQ.setI _ _ _ _ i (h.kid k n)) λy t=>ZHQ _ _ λe=>h.n k n (e▸t)) (by rw[ZHP,Zem X 1 [.i i] ψ u n]) λy t _=>ZHQ _ _ t,λj=>?_⟩;by_cases e:j=k;subst e;exact .inr ⟨i,ψ⟩;exact .inl (by simp[e])
def ZrI{m:Msg}(hu:NmU m.fields)(s)(hs:ZI s=true)(n)(hn:n<=1152921504606846976/\-1152921504606846976<=n){Q}(hQ:QOk Q){T P x cap row f X}(hP:PQ Q T P x row f X)(hl:(vfs m.fields).length=P.length)(hb:P.length<=1000000):Ze ZHF 32 [.agg m.cells,.msl x 0 P.length cap 5,.agg s.cells,.i n] T λr S=>r=.ret (.msl x 0 P.length cap 5)/\(∃row',PQ Q S (KF (vfs m.fields) s n P) x row' f X/\Znx row row')/\∀y,y≠x->S y=T y:=by
 have z:KF (vfs m.fields) s n P=P->∃row',PQ Q T (KF (vfs m.fields) s n P) x row' f X/\Znx row row':=λh=>⟨row,by rw[h];exact hP,λ_=>.inl rfl⟩;have ak:=hP.b;have h5:=hP.len5 hQ;have ad:=Y6 h5;refine Zh (cR 32 f32) λF hF=>?_;refine rx (nd2 @eQ4 @eQ3) ?_;refine rx @Zlm ?_;refine cd (λh1=>?_) (λh1=>?_);simp only[Bool.not_eq_true',decide_eq_false_iff_not]at h1;refine rg ?_;refine hF.ret _ T rfl φ (ZHL _) ZHH ⟨rfl,z ?_,λ_ _=>rfl⟩;unfold KF;split;rename_i h2;rw[h2]at h1;simp at h1;rfl;simp only[Bool.not_eq_false',decide_eq_true_eq]at h1;obtain⟨t,ht⟩:∃t,s.terms=[t]:=by
  match hst:s.terms,h1 with
  | [t],_=>exact⟨t,rfl⟩
  | [],h1=>simp at h1
  |_::_::_,h1=>simp at h1;omega
 have al:s.terms.getD 0 dE=t:=by rw[ht];rfl
 have aq:I s.terms=1:=by rw[ht];rfl
 have u:KF (vfs m.fields) s n P=match Zdm t s.base n with
   |some to=>W4 (vfs m.fields) t.field to P
   |none=>P:=by unfold KF;rw[ht]
 refine xA (nd2 @Zwe (nd2 @al (nd2 @aq @eQ8))) ?_;refine rx @eQ3 ?_;rw[show D.agg [.str m.name,Zk m.fields]=.agg m.cells from rfl];refine cl (Zkb m t.field) ?_;rcases ZjO (nm:=t.field) m.fields 0 with ⟨hi,am⟩|⟨k,hk,hi,ac,ah⟩;rw[hi];refine rg ?_;refine i1 ?_;refine rg ?_;refine hF.ret _ T rfl φ (ZHL _) ZHH ⟨rfl,z ?_,λ_ _=>rfl⟩;rw[u];split;exact ZvR am hl;rfl
 skip
 rw[hi,Int.zero_add];obtain⟨ai,aj⟩:=ZzL hu hk;rw[ac]at ai aj;have ab:=Zt1 m t.field ai;rw[aj]at ab;have ae:∀to,W4 (vfs m.fields) t.field to P=_:=λto=>ZvQ (to:=to) ω ⟨ac,ah⟩ λj hj ap=>by rw[<-ac];exact hu.vfs ω hk ap
 generalize (vfs m.fields).getD k dE=g at *;have i:=ZtP s hs t ht n hn;refine rg ?_;refine Zt rfl trivial (λh=>by simp at h;omega) (λ_=>?_);refine rx @eQ4 ?_;rw[show D.agg [.i s.base,Yd s.terms]=.agg s.cells from rfl];cases ag:Zdm t s.base n with
 |none =>rw[ag]at u i;rw[show ZhU nO=.tup [.i 0,.i 9] from rfl]at i;refine cl (i) ?_;refine rx @eQ3 ?_;rw[show D.agg [.str m.name,Zk m.fields]=.agg m.cells from rfl];refine cX @eQ0 (ab) ?_;refine rx @eQ0 ?_;refine iG ?_;exact hF.ret _ T rfl φ (ZHL _) ZHH ⟨rfl,z u,λ_ _=>rfl⟩
 |some to =>rw[ag]at u i;rw[show ZhU (sO to)=.tup [.i to,.i 0] from rfl]at i;simp only[ae]at u;refine cl (i) ?_;refine rx @eQ3 ?_;rw[show D.agg [.str m.name,Zk m.fields]=.agg m.cells from rfl];refine cX @eQ0 (ab) ?_;refine rx @eQ0 ?_;refine cd (λh3=>?_) (λh3=>?_);simp only[ZHN,decide_eq_true_eq]at h3;rw[if_pos ω]at u;obtain⟨row',af,ao⟩:=hP.setI hQ (k:=k) ω to;unfold Zq at af;refine rx @ak ?_;refine⟨ω,ω,by rw[ZHO,ad];omega,?_⟩;refine rg ?_;exact hF.ret _ _ rfl φ (ZHL _) ZHH ⟨rfl,⟨row',by rw[u];exact af,ao⟩,λy hy=>ZHQ _ _ hy⟩;simp only[ZIl,decide_eq_false_iff_not]at h3;rw[if_neg ω]at u;refine rg ?_;exact hF.ret _ T rfl φ (ZHL _) ZHH ⟨rfl,z u,λ_ _=>rfl⟩
def ZoG(m)(hm:I m.fields<=1000){Q}(hQ:QOk Q){st ps x cap row f X}(hP:PQ Q st ps x row f X)(hw2:I ps<=1000000):
  Ze ZHF 34 [.agg m.cells,.msl x 0 (I ps) cap 5] st λr S=>r=.ret (ZeM (WU m ps))/\S=st:=by
 have h5:=hP.len5 hQ;have hb:=hP.b;have hlen:=Y6 h5;refine Zh (cR 34 f34) λF hF=>?_;have hS:=WU.eq_1 m ps;refine rx @eQ3 ?_;refine gG ?_;refine rg ?_;refine kl (st) [(1,.d (.msl x 0 (I ps) cap 5)),(2,.loc 2 0),(5,.d (.sl .full 0 2 λ_=>[])),(6,.d (.i (0:Nat))),(7,.d (.i (0:Nat)))] [(2,[.str m.name,Zk m.fields])] (.skip (.skip (.cons (.d (Y3 λb h=>by cases h)) Ku))) WE ?_;refine Zb (fr (I m.fields) (λi Q=>∀k tk row' u,tk.okIn st->ZQ nvC row' u->k<=i->I u<=2*i->u++Jl (m.fields.drop i) (ps.drop k)=WU m ps->i<=I m.fields->Q [(1,.d (.msl x 0 (I ps) cap 5)),(2,.loc 2 0),(5,.d (.sl tk (I u) 2 row')),(6,.d (.i k)),(7,.d (.i i))] [(2,[.str m.name,Zk m.fields])] (st.own tk (I u*2))) (λn z=>?_) λaj=>?_);intro i hn k tk row' u ab t hk hol j hi;refine rx @Jw ?_;refine cd (λh1=>?_) (λh1=>?_);simp at h1;have ag:=ZtA (ps:=ps.drop k) h1;rw[ag]at j;clear ag;generalize hg:m.fields.getD i dE=g at *;refine xA (nd2 @atF (nd2 @hg @eQ0)) ?_;refine rx @eQ0 ?_;refine jU [0] (λQ=>∀tk row' o,tk.okIn st->ZQ nvC row' o->o=u++(if g.kind=2 then [(g.name,g.low)] else [])->Q F [(1,.d (.msl x 0 (I ps) cap 5)),(2,.loc 2 0),(5,.d (.sl tk (I o) 2 row')),(6,.d (.i k)),(7,.d (.i i)),(8,.loc 8 0)] [(2,[.str m.name,Zk m.fields]),(8,g.cells)] (st.own tk (I o*2))) ?_ λjn=>?_;clear ab t tk row';intro tk row' o ab t ho;have hol2:I o<=2*i+1:=by rw[ho,ZHO];split<;>simp<;>omega
 rw[<-ZIg,<-ho]at j;refine rx @eQ0 ?_;rw[show D.agg [.str g.name,.i g.kind,.i g.bits,.bool g.little,.bool g.loose,.i g.low,.i g.high,.i g.size.base,Yd g.size.terms,.str g.of,.str g.tag,.str g.from_,Yk g.cases,.i g.check,.i g.key]=.agg g.cells from rfl];refine cl (KV g) ?_;refine cd (λh3=>?_) (λh3=>?_);rw[Bool.not_eq_true']at h3;rw[h3,if_neg ψ]at j;refine gA ?_;refine Za ?_;exact z (I m.fields-(i+1)) ω (i+1) rfl k tk row' o ab t ω ω j ω;rw[Bool.not_eq_false']at h3;rw[h3,if_pos rfl,List.drop_drop,<-ZIg]at j;have ai:dC (0<((ps.drop k).length:Int))=dC ((k:Int)<I ps):=decide_eq_decide.2 (by rw[ZIh];omega);rw[ai]at j;refine rx (nd2 @KU @eQ0) ?_;rw[show D.agg [.str g.name,.i g.kind,.i g.bits,.bool g.little,.bool g.loose,.i g.low,.i g.high,.i g.size.base,Yd g.size.terms,.str g.of,.str g.tag,.str g.from_,Yk g.cases,.i g.check,.i g.key]=.agg g.cells from rfl];refine cG (Zcf g) ?_;refine cd (λh4=>?_) (λh4=>?_);rw[h4,if_pos rfl]at j;rw[ZHN,decide_eq_true_eq]at h4;have ae:k<I ps:=ω;obtain⟨p,hr⟩:=hQ.head _ _ _ _ (hP.kid k ae);have af:=Zgn (X:=X) (k:=1) h5 ae ω;rw[hr]at af;have ak:(ps.drop k).getD 0 dE=ps.getD k dE:=by simp[ZHU]
 rw[ak]at j;generalize hx:ps.getD k dE=y at *;refine rh ?_;refine YT ?_;simp only[Eqs,reduceCtorEq,ZHK,reduceIte,ZHI,ZHM,ZHJ,Zlt ab hb,af,Fld.cells];refine⟨ω,ω,?_⟩;refine Zsb (st) (tk) rfl rfl rfl rfl rfl rfl φ φ rfl (by first|trivial|assumption) ω (by (unfold big;omega)) λt1 ad=>YT ?_;simp only[Eqs,reduceCtorEq,ZHK,reduceIte,ZHI,ZHM,ZHJ];refine gA ?_;refine gA ?_;have ac:=z (I m.fields-(i+1)) ω (i+1) rfl (k+1) t1 _ (o++[(g.name,y.int)]) ad (t.snoc (x:=(g.name,y.int)) (row2:=ZY [.str [],.i 0] ([0].zip [.agg [.str g.name,.i y.int]])) rfl rfl) ω (by simp;omega) j ω;rw[ZHO]at ac;refine Za ?_;exact ac;rw[h4,if_neg ψ,ZH8]at j;refine gA ?_;refine gA ?_;refine Za ?_;exact z (I m.fields-(i+1)) ω (i+1) rfl (k+1) tk row' o ab t ω ω j ω;refine cd (λh2=>?_) (λh2=>?_);rw[decide_eq_true_eq]at h2;rw[if_pos h2]at jn;refine rx @eQ0 ?_;refine K3 (st) (tk) rfl rfl rfl rfl rfl rfl φ φ rfl (by first|trivial|assumption) ω (by (unfold big;omega)) λt1 ad=>Zn ?_;simp only[Eqs,reduceCtorEq,ZHK,reduceIte,ZHI,ZHM,ZHJ];have hj:=jn t1 _ (u++[(g.name,g.low)]) ad (t.snoc (x:=(g.name,g.low)) (row2:=ZY [.str [],.i 0] ([0].zip [.agg [.str g.name,.i g.low]])) rfl rfl) rfl;rw[ZHO]at hj;exact hj;rw[decide_eq_false_iff_not]at h2;rw[if_neg h2]at jn;refine Zp ?_;refine kE [1,2,5,6,7,8] ?_;exact jn tk row' u ab t (ZH8 _).symm;simp at h1;obtain rfl:i=I m.fields:=ω;rw[List.drop_length]at j;have ah:u=WU m ps:=by rw[<-j];simp[Jl]
 refine rg ?_;exact hF.ret _ st rfl φ (K7 (by rw[<-ah];exact t.le rfl)) (YH ab) ⟨rfl,rfl⟩;exact aj _ 0 rfl 0 .full _ [] trivial ZQ.nil ω ψ rfl ω
def ZqA{d a}{i:Int}:∀{low cs},J7 d a i low cs=0->∀c∈cs,low<=c.low/\c.low<=i
 |_,[],_,c,hc=>by simp at hc
 |low,c::r,h,e,he=>by
  simp only[J7]at h;split at h;· omega
  rename_i h1;split at h;· omega
  simp only[ZH0,decide_eq_true_eq,not_or]at h1;rcases List.mem_cons.1 he with rfl|he;omega;have:=ZqA h e he;omega
def Zan.tagR{d j i m f}(h:Zan d j i m f)(hi:i<I m.fields)(h9:f.kind=9):∃k,k<i/\(m.fields.getD k dE).name=f.tag/\Yj (m.fields.getD k dE)=true/\∀c∈f.cases,(Y8 (m.fields.getD k dE)).1<=c.low/\c.low<=(Y8 (m.fields.getD k dE)).2:=by
 have n:=h.ks;unfold K5 at n;simp only[h9,ZIp,if_true,if_false]at n;split at n;omega;rename_i t;unfold Zej at t;simp only[ZH0,decide_eq_true_eq,Bool.not_eq_true',not_or]at t;have z:=Qc (show 0<=Yb m f.tag i by omega);have h5:=Ys (λg:Fld=>dC (g.name=f.tag)) (m.fields.take i);rw[ZHZ,show Zi (λg:Fld=>dC (g.name=f.tag)) (m.fields.take i)=Yb m f.tag i from rfl]at h5;have u:=z.1;rw[show(Zi (λg=>dC (g.name=f.tag)) (m.fields.take i))=Yb m f.tag i from rfl,KX ω]at u;unfold ZbT at n;split at n;omega;exact⟨(Yb m f.tag i).toNat,ω,by simpa using u,by simpa using t.2.1,ZqA n⟩
def ZBY{d j a m}(hm:ZbA d j m)(ha:a<I m.fields)(h9:(m.fields.getD a dE).kind=9){P}(hl:(vfs m.fields).length=P.length){c}(hc:c∈(m.fields.getD a dE).cases):
  (ZdD (m.fields.getD a dE).tag m.fields 0=-1/\W4 (vfs m.fields) (m.fields.getD a dE).tag c.low P=P)\/∃k:Nat,k<P.length/\ZdD (m.fields.getD a dE).tag m.fields 0=k/\W4 (vfs m.fields) (m.fields.getD a dE).tag c.low P=P.set k ((P.getD k dE).setI c.low):=by
 obtain⟨q,hqa,z,hqi,ad⟩:=(hm.at_ ha).tagR ha h9;have n:=ad c hc;generalize (m.fields.getD a dE).tag=nm at *;rcases ZjO (nm:=nm) m.fields 0 with ⟨h1,h2⟩|⟨k,h1,h2,h3,h4⟩;exact .inl ⟨h1,ZvR h2 hl⟩;refine .inr ⟨k,ω,ω,?_⟩;have h5:=ZvQ (l:=vfs m.fields) (nm:=nm) (to:=c.low) (P:=P) (k:=k) ω ⟨h3,h4⟩ λi hi ab=>by rw[<-h3];exact hm.nmU.vfs ω h1 ab
 obtain⟨b,hb,t,_,u⟩:=Q4 (l:=m.fields) h1;have ac:b=q:=by by_cases e:b=q;exact e;exact absurd (by rw[<-u,h3,z]) (hm.nmU.ne e hb ω)
 have h6:¬(m.fields.getD b dE).kind=2:=by unfold Y5 at t;simp only[ZHN,Bool.not_eq_true',decide_eq_false_iff_not]at t;exact t.1.1
 subst ac;unfold Y8 at n;rw[if_neg h6]at n;rw[h5,u,if_pos n]
def Zib(d:Dfn)(m:Msg)(f:Fld)(P:List Val)(s:Str):List Val :=
 if Zi (λc:Yw=>dC (c.of=s)) f.cases<0 then P else
  if KJ f (Yr f.tag (WU m P))<0\/(f.cases.getD (KJ f (Yr f.tag (WU m P))).toNat dE).of≠s then W4 (vfs m.fields) f.tag (f.cases.getD (Zi (λc:Yw=>dC (c.of=s)) f.cases).toNat dE).low P else P
def ZrH{d im a m}(hm:ZbA d im m)(ha:a<I m.fields){fd}(hfd:m.fields.getD a dE=fd)(h9:fd.kind=9)(hcas:∀c∈fd.cases,0<=Zr d c.of (I d.msgs))(hcl:I fd.cases<=40)(g y:Val)(hrec:0<=Zr d y.name (I d.msgs)->Zc ZHF 10 [.agg d.cells,.i (Zr d y.name (I d.msgs)),.agg y.cells] (.agg g.cells)){Q}(hQ:QOk Q){T P x cap row f X}(hP:PQ Q T P x row f X)(hl:(vfs m.fields).length=P.length)(hb:P.length<=1000000):
  Ze ZHF 31 [.agg d.cells,.agg m.cells,.agg fd.cells,.msl x 0 P.length cap 5,.agg y.cells] T λr S=>r=.ret (.agg (if Zi (λc:Yw=>dC (c.of=y.name)) fd.cases<0 then y else g).cells)/\(∃row',PQ Q S (Zib d m fd P y.name) x row' f X/\Znx row row')/\∀z,z≠x->S z=T z:=by
 have am:=hP.b;have h5:=hP.len5 hQ;have ag:=Y6 h5;have hmany:=hm.many;have ab:=ZHX y;generalize hY:(if Zi (λc:Yw=>dC (c.of=y.name)) fd.cases<0 then y else g)=Y;refine Zh (cR 31 f31) λF hF=>?_;rw[ab];refine rx (nd2 @eQ2 (nd2 @eQ3 @eQ0)) ?_;refine rg ?_;refine Zb (fr (I fd.cases) (λc Q=>(∀q,q<c->(fd.cases.getD q dE).of≠y.name)->c<=I fd.cases->Q [(3,.d (.msl x 0 P.length cap 5)),(5,.loc 5 0),(6,.loc 6 0),(7,.loc 7 0),(9,.loc 9 0),(10,.loc 10 0),(11,.d (.i c))] [(5,d.cells),(6,m.cells),(7,fd.cells),(9,[.str y.name,.i y.int,Zs y.bytes,Zx y.hdrs,ZF y.parts]),(10,[.str [],.i 0,.nilsl,.nilsl,.nilsl])] T) (λn u=>?_) λaq=>?_);intro c hn ac hc;refine rx (nd2 @eQ0 @ZmO) ?_;refine cd (λh1=>?_) (λh1=>?_);simp only[decide_eq_true_eq]at h1;have al:c<I fd.cases:=ω;have ah:=Zm al;refine xA (nd2 @eQ0 (nd2 @Zpw @eQ9)) ?_;refine cd (λh2=>?_) (λh2=>?_);simp only[Bool.not_eq_true',decide_eq_false_iff_not]at h2;refine gA ?_;refine Za ?_;exact u ((I fd.cases)-(c+1)) ω (c+1) rfl (λq hq=>by
  by_cases e:q=c;rw[e];exact h2;exact ac q ω) ω
 simp only[Bool.not_eq_false',decide_eq_true_eq]at h2;have j:=WY (p:=λe:Yw=>dC (e.of=y.name)) al (by simpa using h2) λq hq=>by simpa using ac q hq
 have ao:(ZdD fd.tag m.fields 0=-1/\W4 (vfs m.fields) fd.tag (fd.cases.getD c dE).low P=P)\/∃k:Nat,k<P.length/\ZdD fd.tag m.fields 0=k/\W4 (vfs m.fields) fd.tag (fd.cases.getD c dE).low P=P.set k ((P.getD k dE).setI (fd.cases.getD c dE).low):=by have:=ZBY hm ha (by rw[hfd];exact h9) hl (c:=fd.cases.getD c dE) (by rw[hfd];exact ah);rw[hfd]at this;exact this
 have af:=hcas _ ah;rw[h2]at af;have hg:=hrec af;have i:=Zib.eq_1 d m fd P y.name;rw[j,if_neg ω,Int.toNat_natCast]at i;rw[j,if_neg ω]at hY;subst hY;have ai:=ZHX g;rw[ai]at hg;have ad:=Zml fd (Yr fd.tag (WU m P));have aw:=Ys (λe:Yw=>dC (e.low<=Yr fd.tag (WU m P))&&dC (Yr fd.tag (WU m P)<=e.high)) fd.cases;rw[show Zi (λe:Yw=>dC (e.low<=Yr fd.tag (WU m P))&&dC (Yr fd.tag (WU m P)<=e.high)) fd.cases=KJ fd (Yr fd.tag (WU m P)) from rfl]at aw;have ak:=ZoG m ω hQ hP (cap:=cap) ω;have ae:=ZiD fd.tag (WU m P);generalize KJ fd (Yr fd.tag (WU m P))=has at *;generalize Yr fd.tag (WU m P)=tg at *;refine rx (nd2 @eQ3 @eQ0) ?_;rw[show D.agg [.str m.name,Zk m.fields]=.agg m.cells from rfl];refine cVD (ak) ?_ ?_;rintro dd S ⟨hr,hS⟩;obtain rfl:=hS.symm;cases hr;refine kF ?_;refine gR0 ?_;refine clD (ae) ?_;rw[show D.agg [.str fd.name,.i fd.kind,.i fd.bits,.bool fd.little,.bool fd.loose,.i fd.low,.i fd.high,.i fd.size.base,Yd fd.size.terms,.str fd.of,.str fd.tag,.str fd.from_,Yk fd.cases,.i fd.check,.i fd.key]=.agg fd.cells from rfl];refine clD (ad) ?_;refine rx (nd2 @eQ3 @eQ0) ?_;rw[show D.agg [.str m.name,Zk m.fields]=.agg m.cells from rfl];refine cl (Zkb m fd.tag) ?_;refine jU [0,1] (λQ0=>∀S row',PQ Q S (Zib d m fd P y.name) x row' f X->Znx row row'->(∀z,z≠x->S z=T z)->Q0 F [(5,.loc 5 0),(9,.loc 9 0),(10,.loc 10 0)] [(5,d.cells),(9,[.str y.name,.i y.int,Zs y.bytes,Zx y.hdrs,ZF y.parts]),(10,[.str [],.i 0,.nilsl,.nilsl,.nilsl])] S) ?_ λtail=>?_;intro S row' au ap av;refine rx (nd2 @eQ2 @Zc4) ?_;rw[show D.agg [.str d.name,Yy d.msgs,.str d.start]=.agg d.cells from rfl];refine clD (Wi d y.name (I d.msgs) (ZHV _)) ?_;rw[<-ab];refine clD (hg) ?_;exact hF.ret (.agg g.cells) S rfl ψ (by rw[ai];exact ZHL _) ZHH ⟨rfl,⟨row',au,ap⟩,av⟩;rcases ao with ⟨hi,t⟩|⟨k,hk,hi,t⟩;rw[hi];rw[t]at i;refine rx (nd2 @eQ0 (nd2 @Zpw @eQ9)) ?_;refine⟨λh=>by simp at h,?_⟩;refine i0 ?_;refine Zp ?_;refine kE [5,9,10] ?_;refine Zd ?_;exact tail T row (by rw[i];split<;>exact hP) (λ_=>.inl rfl) λ_ _=>rfl;rw[hi];rw[t]at i;refine rx (nd2 @eQ0 (nd2 @Zpw @eQ9)) ?_;refine⟨λh=>by simp at h;omega,?_⟩;have hx:(dC (has<0)||!dC ((fd.cases.getD has.toNat dE).of=y.name))=dC (has<0\/(fd.cases.getD has.toNat dE).of≠y.name):=by rw[Bool.eq_iff_iff];simp
 rw[hx];refine cd (λh3=>?_) (λh3=>?_);simp only[ZHN,decide_eq_true_eq]at h3;rw[if_pos h3.2]at i;obtain⟨row',aj,ar⟩:=hP.setI hQ hk (fd.cases.getD c dE).low;unfold Zq at aj;refine rx (nd2 @am (nd2 @eQ0 (nd2 @Zpw @eQ9))) ?_;refine⟨ω,ω,ω,ω,by rw[ZHO,ag];omega,?_⟩;refine Zd ?_;exact tail _ row' (by rw[i];exact aj) ar λz hz=>ZHQ _ _ hz;simp only[ZIl,decide_eq_false_iff_not]at h3;rw[if_neg (by intro h;rcases h3 with h3|h3;omega;exact h3 h)]at i;refine Zp ?_;refine kE [5,9,10] ?_;refine Zd ?_;exact tail T row (by rw[i];exact hP) (λ_=>.inl rfl) λ_ _=>rfl;rintro dd S ⟨hr,_⟩;cases hr;simp only[decide_eq_false_iff_not]at h1;obtain rfl:c=I fd.cases:=ω;have j:Zi (λe:Yw=>dC (e.of=y.name)) fd.cases=-1:=Wu λe he=>by obtain⟨q,hq,rfl⟩:=ZH1 he;have:=ac q hq;simpa[ZHU,hq]using this
 rw[j,if_pos ω]at hY;subst hY;refine rg ?_;exact hF.ret (.agg y.cells) T rfl ψ (by rw[ab];exact ZHL _) ZHH ⟨rfl,⟨row,by unfold Zib;rw[j,if_pos ω];exact hP,λ_=>.inl rfl⟩,λ_ _=>rfl⟩;exact aq _ 0 rfl (λq hq=>absurd hq (Nat.not_lt_zero _)) ω
def Zd8:QOk (MQ Q0):=ZDb Zlu
inductive VP(A:St)(P:List Val)(fp:List Nat):D->Prop where
 |leaf (h:P=[]) (hf:fp=[]):VP A P fp (ZF [])
 |node (x cap:Nat) (row:Nat->List D) (f:Nat->List Nat) (X:List D) (hp:0<P.length) (m:PQ (MQ Q0) A P x row f X) (hf:fp=fpP P x f) (le:P.length<=cap):VP A P fp (.msl x 0 P.length cap 5)
section
variable {A S:St} {P:List Val} {fp:List Nat} {p:D} {x k:Nat} {row:Nat->List D} {f:Nat->List Nat} {X:List D}
def VP.live(h:VP A P fp p):∀y∈fp,∃ds,A y=sO (.cells ds):=λy i=>by
 cases h with
 |leaf h hf=>rw[hf]at i;simp at i
 |node x cap row f X hp m hf le=>rw[hf]at i;exact m.live Zd8 y i
def VP.ld(h:VP A P fp p):YC A fp p (ZF P):=by
 cases h with
 |leaf h hf=>rw[h];exact .refl _
 |node x cap row f X hp m hf le=>exact m.ld Zd8 λy i=>by rw[hf];exact i
def MQ.cells{v c}(h:MQ Q0 A v c fp):∃p,c=[.str v.name,.i v.int,Zs v.bytes,Zx v.hdrs,p]/\Qm p=true/\∀L s,qv L s .lenL [.d p]=sO (True,.d (.i (I v.parts))):=by
 cases h with
 |leaf h=>exact⟨_,ZHX v,rfl,λ_ _=>rfl⟩
 |node x cap row f X hp m le=>exact⟨_,rfl,rfl,λ_ _=>rfl⟩
def PQ.sub(h:PQ (MQ Q0) A P x row f X)(hk:k<P.length)(hp:0<(P.getD k dE).parts.length):∃y cap rowy Y,row k=[.str (P.getD k dE).name,.i (P.getD k dE).int,Zs (P.getD k dE).bytes,Zx (P.getD k dE).hdrs,.msl y 0 (P.getD k dE).parts.length cap 5] /\
  A y=sO (.cells (Z1 rowy (P.getD k dE).parts.length++Y))/\(∀j,j<(P.getD k dE).parts.length->rowy j=((P.getD k dE).parts.getD j dE).cells)/\y∈fpP P x f /\
  ∀j w,j<(P.getD k dE).parts.length->PQ (MQ Q0) (A.upd y (.cells (Zq (Z1 rowy (P.getD k dE).parts.length++Y) (j*5) w.cells))) (P.set k ((P.getD k dE).setP j w)) x row f X:=by
 have t:=h.kid k hk;have ad:∀y∈f k,y≠x:=λy hy e=>h.n k hk (e▸hy);generalize hr:row k=r at t;generalize hf:f k=fk at t;generalize hv:P.getD k dE=v at *;cases t with
 |leaf h=>rw[h]at hp;simp at hp
 |node y cap rowy g Y hp m le =>
  have hy:y∈f k:=by rw[hf];exact Kf.2 (.inl rfl)
  refine⟨y,cap,rowy,Y,rfl,m.b,λj n=>(m.kid j n).1,Kf.2 (.inr ⟨k,hk,hy⟩),λj w n=>?_⟩;have h5:=m.len5 Zlu;have u:=Zem Y 0 w.cells (by rw[Val.len];decide) h5 n;rw[Nat.add_zero,Zmq (by rw[h5 j n,Val.len])]at u;have hg:g j=[]:=(m.kid j n).2;have hm:=m.child Zlu (S:=A.upd y (.cells (Zq (Z1 rowy (I v.parts)++Y) (j*5) w.cells))) n (w:=w) (r':=w.cells) ⟨rfl,hg⟩ (by rw[ZHP,u]) λz hz _=>ZHQ _ _ hz;have ab:=MQ.node (v.setP j w) y cap _ g Y (by rw[show(v.setP j w).parts=v.parts.set j w from rfl,List.length_set];exact hp) hm (by rw[show(v.setP j w).parts=v.parts.set j w from rfl,List.length_set];exact le);rw[show(v.setP j w).parts=v.parts.set j w from rfl,List.length_set,show fpP (v.parts.set j w) y g=fpP v.parts y g from Zvt,<-hf]at ab;have ac:(λi=>if i=k then row k else row i)=row:=Zt7;have hc:=h.child Zd8 (S:=A.upd y (.cells (Zq (Z1 rowy (I v.parts)++Y) (j*5) w.cells))) hk (w:=v.setP j w) (r':=row k) (by rw[hr];exact ab) (by rw[ac,ZHQ _ _ (Ne.symm (ad y hy))];exact h.b) λz _ hz=>ZHQ _ _ λe=>hz (e▸hy);rw[ac]at hc;exact hc
end
def Zp1{T p fp ps}(j:∀b∈fp,∃ds,T b=sO (.cells ds))(i:YC T fp p (ZF ps))(m):Ze ZHF 29 [.agg m.cells,p] T λr S=>r=.ret (.bool (W9 m ps))/\S=T :=
 Zok j (.cons (.refl _) (.cons i .nil)) (Zkc m ps) (.bool _)
def ZvG(v):Zdd v->Zc ZHF 7 [.agg v.cells] (.agg v.cells):=by
 induction v using Val.ind with
 |h v ih =>intro j T;rw[Zcr]at j;have i:=ZfS Zlu v j.1 (λx n T=>(ih x n (j.2 x n) T).mono λr S ⟨i,t⟩=>⟨_,_,i,⟨rfl,rfl⟩,λ_ h=>absurd h (List.not_mem_nil),λ_ _=>by rw[t]⟩) T;refine i.freeze λr S ⟨c,fp,u,hm,z,ho⟩=>⟨fp,_,.agg v.cells,u,Zd8.live _ _ _ _ hm,.agg (Zd8.ld _ _ _ _ _ hm λ_ h=>h),rfl,?_⟩;funext y;unfold St.delL;split;rename_i h;exact(z y h).symm;rename_i h;exact ho y h
def ZBA(v)(i:Zdd v)(T):Ze ZHF 7 [.agg v.cells] T (Zk9 (MQ Q0) v T) :=
 ZfS Zlu v (Zcr.1 i).1 (λx t T=>(ZvG x ((Zcr.1 i).2 x t) T).mono λr S ⟨n,j⟩=>⟨_,_,n,⟨rfl,rfl⟩,λ_ h=>absurd h (List.not_mem_nil),λ_ _=>by rw[j]⟩) T
def ZBB(v)(i:Zdd v)(T):Ze ZHF 7 [.agg v.cells] T (Zk9 (MQ (MQ Q0)) v T) :=
 ZfS Zd8 v (Zcr.1 i).1 (λx j T=>ZBA x ((Zcr.1 i).2 x j) T) T
def Zan.cas40{d j i m f}(h:Zan d j i m f)(t:f.kind=9):I f.cases<=40:=by
 have n:=h.ks;unfold K5 at n;simp only[t,ZIp,if_true,if_false]at n;split at n;· omega
 unfold ZbT at n;split at n;· omega
 rename_i h;simp only[ZH0,decide_eq_true_eq,not_or]at h;omega
def ZCh{rec d j a m f}(hm:ZbA d j m)(ha:a<I m.fields)(hfa:m.fields.getD a dE=f)(h9:f.kind=9){P}(hl:(vfs m.fields).length=P.length){k}(hk:k<P.length){y}(hy:(P.getD k dE).parts=[y]):
  ZmQ rec d m f P k y=(Zib d m f P y.name).set k (((Zib d m f P y.name).getD k dE).setP 0 (if Zi (λc:Yw=>dC (c.of=y.name)) f.cases<0 then y else rec (Zl d y.name) y))/\((Zib d m f P y.name).getD k dE).parts=[y]/\(Zib d m f P y.name).length=P.length:=by
 have ac:Zw f.tag (J4 m P)=sO (Yr f.tag (WU m P)):=by
  obtain⟨q,ab,u,t⟩:=(by have:=hm.at_ ha;rw[hfa]at this;exact this:Zan d j a m f).tag ha h9;have h1:=Zvu hm.nmU P (i:=q) ω t;have h2:=ZhX (ps:=P) (i:=q) ω hm.nmU t (λhh=>by
   have:=ZlH (l:=m.fields) ab ha hh;have h2:(vfs (m.fields.take a)).length<=(vfs m.fields).length:=by unfold vfs;exact(List.Sublist.filter _ (List.take_sublist _ _)).length_le
   omega)
  rw[u]at h1 h2;rw[h1];unfold WU;rw[h2]
 have n:∀P2:List Val,P2=P\/(∃nm to,P2=W4 (vfs m.fields) nm to P)->(P2.getD k dE).parts=[y]/\P2.length=P.length:=λP2 h=>by rcases h with rfl|⟨nm,to,rfl⟩;exact⟨hy,rfl⟩;refine⟨?_,ZdP⟩;rw[ZdO hk];split;exact hy;exact hy
 have hp:∀z w:Val,z.parts=[y]->z.setP 0 w=z.setPs [w]:=λz w h=>by unfold Val.setP Val.setPs;rw[h];rfl
 unfold ZmQ Zib;split;refine⟨?_,n _ (.inl rfl)⟩;rw[hp _ _ hy,<-hy,ZaC,Znd];rw[ac,ZIk];dsimp only;split;have h:=n _ (.inr ⟨f.tag,(f.cases.getD (Zi (λc:Yw=>dC (c.of=y.name)) f.cases).toNat dE).low,rfl⟩);exact⟨by rw[hp _ _ h.1],h⟩;have h:=n _ (.inl rfl);exact⟨by rw[hp _ _ h.1],h⟩
end Go.DL
