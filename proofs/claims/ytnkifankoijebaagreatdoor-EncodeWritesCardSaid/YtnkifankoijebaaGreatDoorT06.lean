/- Lemmas: Z24, Z25, Z26, Z57, Z27, Z28, Z29, Z30, Z31, Z32, Z58, Z52, Z53, Z37, Z40, Z48, Z51, Z33, Z34, Z35, Z36, Z38, Z39, Z44, Z54, Z55, V06, Z59, Z60, Z61, G01, G02, Q03, Q05, G03, G04, G05, G06, EvE, EvY, G07, Z56, G08. -/
import Derived.Test.YtnkifankoijebaaGreatDoorT05
set_option maxHeartbeats 16000000
set_option maxRecDepth 100000
set_option linter.all false
open List renaming length->I
open Option renaming some -> sO, none -> nO
open Inhabited renaming default -> dE
open Decidable renaming decide -> dC
open Go.Proofs.Tryz
open And renaming intro -> ZHZ
open Bool renaming and_eq_true -> ZH1, false_eq_true -> ZIx, or_eq_true -> ZId, true_and -> ZIf
open Go.DL.D.Le renaming refl -> ZHT
open Go.DL.St renaming sub_refl -> ZHU, sub_trans -> ZIu, sub_upd -> ZIg, upd_ne -> ZH0, upd_same -> ZHW, upd_upd -> ZH7
open Go.DL.Val renaming cells_eq -> ZIe
open Go.Proofs.Tryz renaming prog -> ZHP
open Int renaming reduceEq -> ZIt, reduceToNat -> ZHV
open List renaming append_assoc -> ZIh, append_nil -> ZIj, getD -> ZH6, getElem?_append_left -> ZIm, getElem?_append_right -> ZIw, getElem_of_mem -> ZIc, length_append -> ZHX, length_cons -> ZH3, length_drop -> ZIq, length_map -> ZH4, length_take -> ZIa, map_cons -> ZIo, mem_cons -> ZIs, range -> ZH5, take_length -> ZIb
open Nat renaming add_mul -> ZIp, le_refl -> ZH9, le_trans -> ZIy, reduceAdd -> ZHY, reduceEqDiff -> ZHR, reduceLeDiff -> ZHS
open Option renaming getD_some -> ZIr
open Option.some renaming injEq -> ZHQ
open Prod.mk renaming injEq -> ZH2
namespace Go.DL
open Go Go.Proofs
variable {kp:Option (List Nat)}{L:Loc}{H:Env}{s:St}{w:World}{os:List DOp}{ds:List D}{B:List (Nat × Rd)}{dst:Option Nat}{tmps:Array Value}{g:G}{Φ:Res->St->Prop}{Z:Nat->Nat}{xs:List Opd}{side:Prop}{row:Nat->List D}
def stE(rec:Val->Str->Wr)(path:Str)(l:List Fld)(ps:List Val)(i:Nat):List (Str×Int):=YY (l.getD i dE).name (((stF rec path l ps i).2.n / 8:Nat):Int) (stF rec path l ps i).1
def ZbB(rec path l ps i):stF rec path l ps (i+1)=(stE rec path l ps i,ZaF rec path (l.getD i dE) (xAt l ps i) (stE rec path l ps i) (stF rec path l ps i).2):=rfl
def Zrw(T S:St)(z mz:Nat)(ob os:Option Nat):Prop:=∀y o,T y=sO o->S y=sO o/\y≠z/\y≠mz/\ob≠sO y/\os≠sO y
def Zvp(d:Dfn)(o:Wr)(path:Str)(T:St)(r:Res)(S:St):Prop:=∃z mz ob os sD E,r=.ret (.ptr z 0)/\IsW S d path E o z mz ob os sD/\Zrw T S z mz ob os
def IsW.setE{S:St}{d:Dfn}{path:Str}{E E':List (Str×Int)}{w:Wr}{z mz:Nat}{ob os:Option Nat}{sD:D}(h:IsW S d path E w z mz ob os sD):IsW (S.upd mz (.map (KB E'))) d path E' w z mz ob os sD:=by
 obtain⟨bD,hz,u,i⟩:=id h.wb;obtain⟨o,r,t⟩:=h.mne;exact⟨⟨bD,by rw[ZH0 _ _ o.symm];exact hz,u.upd r,i⟩,ZHW _ _ _,h.s.upd t,h.zs,h.bs⟩
def Zfw(d:Dfn){m:Msg}(v:Val)(path:Str){rec:Val->Str->Wr}(hv:VOk v)(hfew:I m.fields<=1000)(hpv:∀i,i<I m.fields->Zod v (m.fields.getD i dE).name=xAt m.fields v.parts i)(hpre:∀i,i<I m.fields->Zvo d path (m.fields.getD i dE) (xAt m.fields v.parts i) rec (stE rec path m.fields v.parts i) (stF rec path m.fields v.parts i).2)(T:St):
  Zf ZHP 31 [.agg d.cells,.agg m.cells,.agg v.cells,.str path] T (Zvp d (stF rec path m.fields v.parts (I m.fields)).2 path T):=by
 refine Zh (cR 31 f31) λF hF=>?_;rw[v.cells_eq];refine rx (nd2 @eQ2 @eQ3) ?_;refine rh ?_;refine Zk ?_;simp only[Eqs,reduceCtorEq,ZHV,reduceIte,ZHR,ZHY,ZHS,ZbD,ZIt,decide_false,ZHW,ZH7,Yv,Yw];intro mk an;refine kl ((T.upd mk (.map (Kc Y7 id ZgU)))) [(3,.d (.str path)),(4,.loc 4 0),(5,.loc 5 0),(6,.loc 6 0),(9,.d (.map mk))] [(4,[.str d.name,Z0 d.msgs,.str d.start]),(5,[.str m.name,Zp m.fields]),(6,[.str v.name,.i v.int,Zg v.bytes,Zx v.hdrs,Zu v.parts])] Wx Y6 ?_;refine rg ?_;intro mz r;refine Zd (Zd ?_);refine xP 21 λz hz=>?_;have ar:IsW ((((T.upd mk (.map (Kc Y7 id ZgU))).upd mz (.map [])).upd z (.cells [.nilsl,.i 0,.str d.name,Z0 d.msgs,.str d.start,.str path,.map mz,.nilsl]))) d path [] ⟨[],0,[]⟩ z mz nO nO .nilsl:=by obtain⟨h1,h2⟩:=Zn hz;refine⟨⟨.nilsl,ZHW _ _ _,.nil rfl,λe=>(by cases e)⟩,?_,.nil rfl,λe=>(by cases e),λx e=>(by cases e)⟩;rw[ZH0 _ _ h1.symm,ZHW];rfl
 have aw:((((T.upd mk (.map (Kc Y7 id ZgU))).upd mz (.map [])).upd z (.cells [.nilsl,.i 0,.str d.name,Z0 d.msgs,.str d.start,.str path,.map mz,.nilsl]))) mk=sO (.map (Kc Y7 id ZgU)):=by obtain⟨h1,h2⟩:=Zn hz;obtain⟨h3,h4⟩:=Zn h2;obtain⟨h5,h6⟩:=Zn r;rw[ZH0 _ _ h3.symm,ZH0 _ _ h5.symm,ZHW]
 have aq:Zrw T ((((T.upd mk (.map (Kc Y7 id ZgU))).upd mz (.map [])).upd z (.cells [.nilsl,.i 0,.str d.name,Z0 d.msgs,.str d.start,.str path,.map mz,.nilsl]))) z mz nO nO:=λy o hy=>by
  obtain⟨h1,h2⟩:=Zn hz;obtain⟨h3,h4⟩:=Zn h2;obtain⟨h5,h6⟩:=Zn r;have e1:y≠z:=λe=>by rw[e,h4]at hy;cases hy
  have e2:y≠mz:=λe=>by rw[e,h6]at hy;cases hy
  have e3:y≠mk:=λe=>by rw[e,an]at hy;cases hy
  exact⟨by rw[ZH0 _ _ e1,ZH0 _ _ e2,ZH0 _ _ e3];exact hy,e1,e2,λe=>(by cases e),λe=>(by cases e)⟩
 have a1:mk≠mz:=λe=>by rw[e,ZHW]at r;cases r
 have hTmk:T mk=nO:=an;generalize ((T.upd mk (.map (Kc Y7 id ZgU))).upd mz (.map [])).upd z (.cells [.nilsl,.i 0,.str d.name,Z0 d.msgs,.str d.start,.str path,.map mz,.nilsl])=S0 at *;refine rx @ZaI ?_;refine Zb (fr (I m.fields) (λi Q=>∀ob os sD S1,IsW S1 d path (stF rec path m.fields v.parts i).1 (stF rec path m.fields v.parts i).2 z mz ob os sD->S1 mk=sO (.map (Kc Y7 id ZgU))->Zrw T S1 z mz ob os->i<=I m.fields->Q [(6,.loc 6 0),(9,.d (.map mk)),(10,.d (.ptr z 0)),(23,.d (Zp m.fields)),(24,.d (.i (I m.fields))),(25,.d (.i i))] [(6,[.str v.name,.i v.int,Zg v.bytes,Zx v.hdrs,Zu v.parts])] S1) (λn u=>?_) λa3=>?_);intro i hn2 ob os sD S1 hI hK ah hi;refine rg ?_;refine Zd (Zj rfl trivial (λhd=>?_) (λhd=>?_));simp only[decide_eq_true_eq]at hd;have am:i<I m.fields:=ω;have ae:=hpre i am;obtain⟨is,t⟩:=Zrr v (m.fields.getD i dE).name hv;rw[hpv i am]at t;have ao:=ZbB rec path m.fields v.parts i;have hE:stE rec path m.fields v.parts i=YY (m.fields.getD i dE).name (((stF rec path m.fields v.parts i).2.n / 8:Nat):Int) (stF rec path m.fields v.parts i).1:=rfl;generalize av:m.fields.getD i dE=f at *;generalize xAt m.fields v.parts i=x at *;generalize stE rec path m.fields v.parts i=E2 at *;generalize stF rec path m.fields v.parts i=st at *;obtain⟨E1,w1⟩:=st;simp only at hI ae ao hE;rw[v.cells_eq]at t;refine xA (nd2 @atF (nd2 @av (nd2 @QL @Zau))) ?_;rw[x.cells_eq]at t;refine rx @eQ0 ?_;refine cl (t) ?_;obtain⟨bD,ap,hB,hne⟩:=id hI.wb;unfold wrR at ap;have a0:=hI.m;have hmn:=hI.mne;have a2:((w1.n:Nat):Int).tdiv 8=((w1.n / 8:Nat):Int):=by rw[Int.tdiv_eq_ediv_of_nonneg ω];omega
 have e2:=Zay (vD:=Y7) ZS f.name ((w1.n / 8:Nat):Int) E1;have e3:=Y8 ZS f.name;simp only[show K5 f.name=D.str f.name from rfl,show ∀n,Y7 n=.i n from λ_=>rfl]at e2 e3;rw[<-hE]at e2;have hwn:=ae.n;refine xA (nd2 @ap (nd2 @a0 (nd2 @a2 (nd2 @e2 @e3)))) ?_;have aj:=hI.setE (E':=E2);have ac:(S1.upd mz (.map (KB E2))) mk=sO (.map (Kc Y7 id ZgU)):=by rw[ZH0 _ _ a1];exact hK
 have ai:Zrw T (S1.upd mz (.map (KB E2))) z mz ob os:=λy o hy=>by obtain⟨h1,h2,h3,h4,h5⟩:=ah y o hy;exact⟨by rw[ZH0 _ _ h3];exact h1,h2,h3,h4,h5⟩
 obtain⟨ag,al,ad⟩:=ZyF aj ae;have ab:=YR (vD:=id) ZdH f.kind ZgU;have af:=Y8 ZdH f.kind;simp only[show Y7 f.kind=D.i f.kind from rfl]at ab af;rw[al]at ab;unfold Fld.cells at ad;rw[x.cells_eq]at ad;generalize hS2e:S1.upd mz (.map (KB E2))=S2 at *;refine rx (nd2 @ac (nd2 @ab @af)) ?_;rw[show id (D.fn (.func ag) [] [])=D.fn (.func ag) [] [] from rfl];obtain⟨az,ax,ay⟩:=aj.nomap ac;refine vV (ad.V (first:=[]) (args:=[_,_,_]) (caps:=[])) ?_ ?_;rintro dd S3 ⟨hr,a4,a5,a6,au,ak⟩;cases hr;refine gR0 ?_;refine gA ?_;refine Za ?_;exact u ((I m.fields)-(i+1)) ω (i+1) rfl a4 a5 a6 S3 (by rw[ao];exact au) (ak mk _ ac az ax ay).1 (λy o hy=>by
  obtain⟨h1,h2,h3,h4,h5⟩:=ai y o hy;obtain⟨h6,h7,h8⟩:=ak y o h1 h2 h4 h5;exact⟨h6,h2,h3,h7,h8⟩) ω
 rintro dd S3 ⟨hr,_⟩;cases hr;simp only[decide_eq_false_iff_not]at hd;obtain rfl:i=I m.fields:=ω;refine rg ?_;exact hF.ret (.ptr z 0) S1 rfl φ (ZHT _) ZHU ⟨z,mz,ob,os,sD,_,rfl,hI,ah⟩;exact a3 _ 0 rfl nO nO .nilsl S0 ar aw aq ω
def Zf.freezeO{f args T Φ Ψ}(h:Zf ZHP f args T Φ)(hΦ:∀r S,Φ r S->∃Ln z cs cs' S2,r=.ret (.ptr z 0)/\(∀b∈Ln,∃ds,S b=sO (.cells ds))/\S z=sO (.cells cs)/\z∉Ln/\LdC S Ln cs cs'/\S2.sub ((S.delL Ln).upd z (.cells cs'))/\Ψ r S2):Zf ZHP f args T Ψ :=
 ⟨h.1,λg w vs hs ha=>(h.2 g w vs hs ha).mono λe w' ⟨g',S',r,he,hS,hr,hq⟩=>by
  obtain⟨Ln,z,cs,cs',S2,rfl,hL,hz,ah,hl,u,hΨ⟩:=hΦ _ _ hq;have hx:=JZ hS hL;have ad:(WK g' S' Ln).prot z=g'.prot z:=by simp only[WK,if_neg ah]
  have ab:=ZcL hS hL;have ac:YI (WK g' S' Ln) w' z cs:=(hS.obj z _ hz).mono hx rfl ad;have t:YI (WK g' S' Ln) w' z cs':=by obtain⟨h1,vs,T,h2,h3,h4,h5⟩:=ac;refine⟨h1,vs,T,h2,h3.trans hl.len,λi v d hv hd=>?_,h5⟩;obtain⟨x,af,ag⟩:=hl.get hd;exact ag _ w' v ab (h4 i v x hv af)
  have ae:=(ZjN hS hL).updL (b:=z) (o:=.cells cs') t (hS.kept z _ hz);refine⟨WK g' S' Ln,S2,.ret (.ptr z 0),he.trans hx,ae.sub u,?_,hΨ⟩;cases e<;>simp only[Zgc]at hr⊢;exact Rep.mono hr hx⟩
def ZuQ{sz:Nat}{X:List D}:∀{rows:List (List D)} {j},(∀r∈rows,I r=sz)->j<I rows->((rows.flatten++X).drop (j*sz)).take sz=rows.getD j []
 | [],j,_,h=>absurd h (Nat.not_lt_zero _)
 |r::l,0,h,_=>by have i:=h r ψ;rw[Nat.zero_mul,List.drop_zero,List.flatten_cons,ZIh,List.take_left' i];rfl
 |r::l,j+1,h,hj=>by have i:=h r ψ;rw[List.flatten_cons,ZIh,ZIp,Nat.one_mul,Nat.add_comm,<-List.drop_drop,List.drop_left' i];exact ZuQ (λq o=>h q (by simp[o])) (by simpa using hj)
def Zm2(o:Option Nat):List Nat:=match o with
 |some x=>[x]
 |none=>[]
def QM{o:Option Nat}{y}:y∈Zm2 o↔o=sO y:=by
 cases o with
 |none=>simp[Zm2]
 |some x=>simp[Zm2,eq_comm]
def Buf.ldB{s b bD ob Ln}(h:Buf s 1 (List.map u8C b) bD ob)(i:∀x,ob=sO x->x∈Ln):Y1 s Ln bD (Zg b):=by
 cases h with
 |nil h0 =>have:b=[]:=List.map_eq_nil_iff.1 h0;subst this;exact Y1.of_le (Z1 λb h=>by cases h)
 |obj x cap X h hX hc =>have:=ZrB (c:=cap) (off:=0) (i x rfl) h rfl (Nat.zero_le _);rw[ZH4];exact this
def Buf.ldS{s l sD os Ln}(h:Buf s 2 (List.map KO l) sD os)(o:∀x,os=sO x->x∈Ln):Y1 s Ln sD (Wu l):=by
 cases h with
 |nil h0 =>have:l=[]:=List.map_eq_nil_iff.1 h0;subst this;exact Y1.of_le (Z1 λb h=>by cases h)
 |obj x cap X h hX hc =>
  rw[ZH4];refine Y1.msl (o x rfl) h (by rw[ZHX,Zei Jn,ZH4];omega) λj i=>?_;rw[ZuQ Jn (by rw[ZH4];exact i)];have:(l.map KO).getD j []=KO (l.getD j dE):=by simp[ZH6,i]
  rw[this];exact LdC.refl _
def Buf.live{s sz rows d ob}(h:Buf s sz rows d ob){x}(i:ob=sO x):∃ds,s x=sO (.cells ds):=by
 cases h with
 |nil=>cases i
 |obj y cap X h hX hc=>cases i;exact⟨_,h⟩
def ZmO{args}{d:Dfn}{o:Wr}{path:Str}{T:St}(h:Zf ZHP 31 args T (Zvp d o path T)):Zf ZHP 31 args T (WrP d o path T):=by
 refine Zf.freezeO h λr S ⟨z,mz,ob,os,sD,E,hr,hI,i⟩=>?_;obtain⟨bD,hz,hB,u⟩:=id hI.wb;have t:T z=nO:=by
  cases e:T z with
  |none=>rfl
  |some o=>exact absurd rfl (i z o e).2.1
 refine⟨Zm2 ob++Zm2 os,z,_,Zg o.b::.i o.n::wrR d path mz (Wu o.sums),T.upd z (.cells (Zg o.b::.i o.n::wrR d path mz (Wu o.sums))),hr,λb hb=>?_,hz,λhm=>?_,?_,λy o' hy=>?_,⟨z,mz,t,hr,rfl⟩⟩;rcases List.mem_append.1 hb with hb|hb;exact hB.live (QM.1 hb);exact hI.s.live (QM.1 hb);rcases List.mem_append.1 hm with hm|hm;exact u (QM.1 hm);exact hI.zs (QM.1 hm);refine .cons (hB.ldB λx hx=>List.mem_append.2 (.inl (QM.2 hx))) (.cons (.refl _) ?_);exact .cons (.refl _) (.cons (.refl _) (.cons (.refl _) (.cons (.refl _) (.cons (.refl _) (.cons (hI.s.ldS λx hx=>List.mem_append.2 (.inr (QM.2 hx))) .nil)))));by_cases e:y=z;subst e;rw[ZHW]at hy⊢;exact hy;rw[ZH0 _ _ e]at hy⊢;obtain⟨h1,h2,h3,h4,h5⟩:=i y o' hy;simp only[St.delL,List.mem_append,QM];rw[if_neg (by rintro(e|e);exact h4 e;exact h5 e)];exact h1
def noW:Wr:=⟨[],0,[]⟩
def WtP(W:Wr)(e:Int)(T:St)(r:Res)(S:St):Prop:=∃z n r3 r4 r5 r6 r7,T z=nO/\r=.ret (.tup [.ptr z 0,.i e])/\S=T.upd z (.cells [Zg W.b,.i n,r3,r4,r5,r6,r7,Wu W.sums])
def ZlB(hI:Qn)(d:Dfn)(s:Str)(v:Val)(o:Wr)(hs:Yz v=true->wtN v<=5100/\ZY v<=51)(hf:(YG d s v).2=0->0<=Zm d s (I d.msgs))(hw:(YG d s v).2=0->∀T,Zf ZHP 31 [.agg d.cells,.agg (Zs d s).cells,.agg v.cells,.str []] T (WrP d o [] T))(T:St):
  Zf ZHP 17 [.agg d.cells,.str s,.agg v.cells] T (WtP (if (YG d s v).2=0 then o else noW) (YG d s v).2 T):=by
 refine Zh (cR 17 f17) λF hF=>?_;have r:=Zi2 hI d s v hs;generalize YG d s v=R at *;obtain⟨⟨p,c⟩,e⟩:=R;simp only at r hf hw hF;have ab:Zl (λx:Msg=>dC (x.name=s)) d.msgs=Zm d s (I d.msgs):=by unfold Zm;rw[ZIb]
 rw[v.cells_eq]at r hw⊢;unfold Dfn.cells at r;refine rx @eQ2 ?_;refine rg ?_;refine cl (r) ?_;refine rg ?_;refine cd (λhe=>?_) (λhe=>?_);have i:¬e=0:=by simpa using he
 rw[if_neg i]at hF;refine rg ?_;refine xP 22 λz hz=>?_;refine Q3 (b:=z) (ZHW _ _ _) (ds':=[Zg [],.i 0,.str [],.nilsl,.str [],.str [],.nilmap,Wu []]) (.cons (Z1 λb h=>by cases h) (.cons (ZHT _) (.cons (ZHT _) (.cons (ZHT _) (.cons (ZHT _) (.cons (ZHT _) (.cons (ZHT _) (.cons (Z1 λb h=>by cases h) .nil)))))))) ?_;rw[ZH7];exact hF.ret _ _ rfl (by first|trivial|simp) (ZHT _) ZHU ⟨z,0,_,_,_,_,_,hz,rfl,rfl⟩;have i:e=0:=by simpa using he
 rw[if_pos i]at hF;have t:=hw i T;have hix:=WD (hf i);have ac:max (Zm d s (I d.msgs)) 0=ixS d s:=by have:=hf i;omega
 have u:=Zaq d s;rw[ab,ac]at u;unfold Dfn.cells at u t;unfold Zs at t;generalize ad:d.msgs.getD (ixS d s) dE=my at *;unfold Msg.cells at t;refine rg ?_;refine cl (u) ?_;refine xA (nd2 @atM (nd2 @ad @eQ3)) ?_;refine cV0 (t) ?_ ?_;rintro dd S1 ⟨z,mz,hz,hr,hS⟩;cases hr;refine gR0 ?_;exact hF.ret _ S1 rfl (by first|trivial|simp) (ZHT _) ZHU ⟨z,_,_,_,_,_,_,hz,by rw[i];rfl,by rw[hS];rfl⟩;rintro dd S1 ⟨_,_,_,hr,_⟩;cases hr
def Zlw(hI:Qn)(d:Dfn)(s:Str)(v:Val)(o:Wr)(hs:Yz v=true->wtN v<=5100/\ZY v<=51)(hf:(YG d s v).2=0->0<=Zm d s (I d.msgs))(hw:(YG d s v).2=0->∀T,Zf ZHP 31 [.agg d.cells,.agg (Zs d s).cells,.agg v.cells,.str []] T (WrP d o [] T))(hb:(YG d s v).2=0->I o.b<=1000000000):
  Zc ZHP 7 [.agg d.cells,.str s,.agg v.cells] (.tup [Zg (if (YG d s v).2=0 then o else noW).b,.i (YG d s v).2]):=by
 refine Ze (cR 7 f7) λF st r=>?_;have i:=ZlB hI d s v o hs hf hw st;have hl:(if (YG d s v).2=0 then o else noW).b.length<=1000000000:=by split;exact hb (by assumption);exact Nat.zero_le _
 generalize (if (YG d s v).2=0 then o else noW)=W at *;rw[v.cells_eq]at i⊢;unfold Dfn.cells at i;refine rx @eQ2 ?_;refine rg ?_;refine cV (i) ?_ ?_;rintro u S ⟨z,n,r3,r4,r5,r6,r7,hz,t,hS⟩;cases t;subst hS;refine gR0 ?_;refine rx @ZHW ?_;refine cV (Q1 W.b hl _) ?_ ?_;rintro u S ⟨t,hS⟩;subst hS;cases t;refine gR0 ?_;exact r rfl (by first|trivial|simp) (ZHT _) (ZIg _ hz);rintro u S ⟨t,_⟩;cases t;rintro u S ⟨_,_,_,_,_,_,_,_,t,_⟩;cases t
def Zco(d:Dfn)(v:Val){b:List UInt8}{e:Int}(h:Zc ZHP 7 [.agg d.cells,.str d.start,.agg v.cells] (.tup [Zg b,.i e])):Zc ZHP 9 [.agg d.cells,.agg v.cells] (.tup [Zg b,.i e]):=by
 refine Ze (cR 9 f9) λF st i=>?_;rw[v.cells_eq]at h⊢;unfold Dfn.cells at h;refine rx @eQ2 ?_;refine rg ?_;refine cl (h) ?_;refine rt i ?_;rfl
variable {P:Program}
def SA(N:Nat->Prop)(d:D):Prop:=∀{g g' w v},(∀b,N b->g.prot b<=g'.prot b)->Rep g w v d->Rep g' w v d
def SA.of{N d}(h:SC N d):SA N d:=λi o=>h.rep i o
def SA.any{N}:SA N .any:=λ_ _=>Rep.any _
def SAO(N:Nat->Prop)(o:JW):Prop:=∀{g g' w b},(∀b,N b->g.prot b<=g'.prot b)->g'.prot b=g.prot b->WO g w b o->WO g' w b o
def SAO.cells{N ds}(h:∀d∈ds,SA N d):SAO N (.cells ds):=λhp o hr=>by
 obtain⟨t,vs,T,u,h2,h3,h4⟩:=hr;exact⟨o.trans t,vs,T,u,h2,λi v d hv r=>h d (List.mem_of_getElem? r) hp (h3 i v d hv r),h4⟩
def SAR(N:Nat->Prop):Res->Prop
 |.ret d=>SA N d
 |.panic d=>SA N d
def Zf.lendA{f args args' t Ln Φ}(hL:∀b∈Ln,∃ds,t b=sO (.cells ds))(hl:LdC t Ln args args')(h:Zf P f args' (λ_=>nO) Φ)(hΦ:∀r S,Φ r S->SAR (λb=>(S b).isSome=true) r/\∀b o,S b=sO o->SAO (λb=>(S b).isSome=true) o):
  Zf P f args t λr S=>∃S',Φ r S'/\Z7 S' t/\S=S'.or t:=by
 refine⟨h.1,λg w vs hs ha=>?_⟩;have hx:=JZ hs hL;have am:=ZcL hs hL;have al:ZN (Rep (WK g t Ln) w) vs args':=ZN.ldC am (ha.imp λ_ _ h=>Rep.mono h hx) hl;have ao:Ym ((WK g t Ln).keep λb=>g.kept b\/(t b).isSome=true) (λ_=>nO) w:=by
  refine⟨λb o hb=>by simp at hb,λb o hb=>by simp at hb,λb hb=>?_,λn cs hc=>W6 ((hs.tabs n cs hc).mono hx)⟩;have h1:=hs.fresh b hb;have ad:t b=nO:=by
   cases ad:t b with
   |none=>rfl
   |some o=>have:=(hs.obj b o ad).lt;omega
  have ab:b∉Ln:=λhm=>by obtain⟨ds,hd⟩:=hL b hm;rw[ad]at hd;simp at hd
  exact⟨by show(WK g t Ln).prot b=0;simp only[WK,if_neg ab];exact h1.1,λhk=>by rcases hk with hk|hk;exact h1.2 hk;rw[ad]at hk;simp at hk⟩
 refine(h.2 _ w vs ao (al.imp λ_ _ h=>W6 h)).mono λe w' hp=>?_;obtain⟨g',S',r,he,hS,hr,hq⟩:=hp;have ac:=he.keptEq;obtain⟨ae,ak⟩:=hΦ r S' hq;have ai:Z7 S' t:=λb o hb=>by
  cases u:S' b with
  |none=>rfl
  |some x=>exact absurd (by rw[ac];exact .inr (by rw[hb];rfl)) (hS.kept b x u)
 have aj:∀b,(S' b).isSome=true->b∉Ln:=λb hb hm=>by obtain⟨ds,hd⟩:=hL b hm;rw[ai b _ hd]at hb;simp at hb
 obtain⟨g2,i⟩:∃g2:G,g2={ prot:=λb=>if b∈Ln then 0 else g'.prot b,kept:=g.kept }:=⟨_,rfl⟩;have ah:∀b,(S' b).isSome=true->g'.prot b<=g2.prot b:=λb hb=>by rw[i];simp only[if_neg (aj b hb)];exact ZH9 _
 have hf:∀b,b∉Ln->(WK g t Ln).prot b=g.prot b:=λb hb=>by simp only[WK,if_neg hb]
 have ag:∀b,b∈Ln->g.prot b=0:=λb hb=>by obtain⟨ds,hd⟩:=hL b hb;exact(hs.obj b _ hd).1
 have af:Ext g w g2 w':=by
  refine⟨he.size,λb=>?_,λb o ho=>?_,he.hdr,λb hb=>he.kept b (.inl hb),λb hb=>?_,by rw[i],he.os,he.output,he.tape⟩;rw[i];simp only;split;rename_i hb;rw[ag b hb];exact ZH9 _;rename_i hb;rw[<-hf b hb];exact he.prot b;have hb:b∉Ln:=λhb=>by rw[ag b hb]at ho;omega
  exact he.cell b o (by show o<(WK g t Ln).prot b;rw[hf b hb];exact ho);have ab:b∉Ln:=λhm=>by obtain⟨ds,hd⟩:=hL b hm;exact hs.kept b _ hd hb
  rw[i];simp only[if_neg ab];rw[<-hf b ab];exact he.keptProt b (.inl hb)
 have hg'0:∀b,w'.heap.size<=b->g'.prot b=0/\¬g'.kept b:=λb hb=>hS.fresh b hb;refine⟨g2,S'.or t,r,af,⟨λb o hb=>?_,λb o hb=>?_,λb hb=>?_,λn cs hc=>(hs.tabs n cs hc).mono af⟩,?_,S',hq,ai,rfl⟩
 .cases u:S' b with
  |some x =>
   rw[Zt u]at hb;cases hb;have an:(S' b).isSome=true:=by rw[u];rfl
   exact ak b _ u ah (by rw[i];simp only[if_neg (aj b an)]) (hS.obj b _ u)
  |none =>rw[Zz u]at hb;have hk:g.kept b\/(t b).isSome=true:=.inr (by rw[hb];rfl);refine(hs.obj b o hb).mono af (he.kept b hk) ?_;by_cases ab:b∈Ln;rw[i];simp only[if_pos ab];exact(ag b ab).symm;rw[i];simp only[if_neg ab];rw[<-hf b ab];exact he.keptProt b hk
 .cases u:S' b with
  |some x=>exact λhk=>hS.kept b x u (by rw[ac];exact .inl (by rw[i]at hk;exact hk))
  |none=>rw[Zz u]at hb;rw[i];exact hs.kept b o hb
 have:=hS.fresh b hb;refine⟨?_,λhk=>this.2 (by rw[ac];exact .inl (by rw[i]at hk;exact hk))⟩;rw[i];simp only;split;rfl;exact this.1;cases e<;>cases r<;>simp only[Zgc]at hr⊢;exact ae ah hr;obtain⟨v,h1,h2⟩:=hr;exact⟨v,h1,ae ah h2⟩
def WkO(o o':JW):Prop:=o=o'\/∃cs cs',o=.cells cs/\o'=.cells cs'/\LeC cs cs'
def Ym.weak{S S2:St}(h:Ym g S w)(hw:∀b u,S2 b=sO u->∃o,S b=sO o/\WkO o u):Ym g S2 w:=by
 refine⟨λb u hb=>?_,λb u hb=>?_,h.fresh,h.tabs⟩;obtain⟨o,h1,h2⟩:=hw b u hb;rcases h2 with rfl|⟨cs,cs',rfl,rfl,hl⟩;exact h.obj b _ h1;obtain⟨h3,vs,T,h4,h5,h6,h7⟩:=h.obj b _ h1;refine⟨h3,vs,T,h4,h5.trans hl.len,λi v d hv hd=>?_,h7⟩;obtain⟨x,r,t⟩:=hl.get hd;exact t _ w v (h6 i v x hv r);obtain⟨o,h1,_⟩:=hw b u hb;exact h.kept b o h1
def Zf.weak{f args T Φ Ψ}(h:Zf P f args T Φ)(hΦ:∀r S,Φ r S->∃S2,(∀b o',S2 b=sO o'->∃o,S b=sO o/\WkO o o')/\Ψ r S2):Zf P f args T Ψ :=
 ⟨h.1,λg w vs hs ha=>(h.2 g w vs hs ha).mono λe w' ⟨i,S',r,he,hS,hr,hq⟩=>by
  obtain⟨S2,t,u⟩:=hΦ _ _ hq;exact⟨i,S2,r,he,hS.weak t,hr,u⟩⟩
def Zec(d:D):d.Le .any:=λ_ _ _ _=>Rep.any _
def ZuB:∀l:List D,LeC l (List.replicate (I l) .any)
 | []=>.nil
 |d::r=>.cons (Zec d) (ZuB r)
def LeC.app{a i b o:List D}(h:LeC a i)(r:LeC b o):LeC (a++b) (i++o):=by
 induction h with
 |nil=>exact r
 |cons h _ ih=>exact .cons h ih
def Zpo{rec path}{l:List Fld}{ps}(hu:NmU l):∀{i j},j<i->i<=I l->Zv (l.getD j dE).name (stF rec path l ps i).1=sO (((stF rec path l ps j).2.n / 8:Nat):Int)
 |0,j,h,_=>by omega
 |i+1,j,h,hi=>by rw[ZbB];unfold stE;simp only;rw[WZ];by_cases e:j=i;subst e;rw[if_pos rfl];rw[if_neg (hu j i ω ω)];exact Zpo hu ω ω
def Zu3{m:Msg}{v:Val}(hu:NmU m.fields)(hr:Kr m v.parts=true){i}(hi:i<I m.fields):Zod v (m.fields.getD i dE).name=xAt m.fields v.parts i:=by
 have r:=hr;unfold Kr at r;rw[decide_eq_true_eq]at r;have hlen:(vfs m.fields).length=I v.parts:=by simpa using congrArg List.length r
 have o:=λk (hk:k<I v.parts)=>(Ziz hu hr hk).2;have t:∀a,a<I m.fields->a≠i->(m.fields.getD a dE).name≠(m.fields.getD i dE).name:=λa ha u=>by rcases Nat.lt_or_gt_of_ne u with h|h;exact hu a i h hi;exact(hu i a h ha).symm
 unfold Zod xAt;by_cases hv:YD (m.fields.getD i dE)=true;obtain⟨h1,h2⟩:=Zb9 rfl hi hv;have hk:(vfs (m.fields.take i)).length<I v.parts:=ω;have hf:=Wv (p:=λx:Val=>dC (x.name=(m.fields.getD i dE).name)) (l:=v.parts) hk (by rw[decide_eq_true_eq,o _ hk,h2]) (λj hj=>by
  rw[decide_eq_false_iff_not,o j ω];obtain⟨a,a1,a2,a3,a4⟩:=ZaX (l:=m.fields) (k:=j) ω;rw[a4];exact t a a1 λe=>by subst e;omega)
 rw[hf,if_neg ω,if_pos hv,Int.toNat_natCast];have hf:=Wd (p:=λx:Val=>dC (x.name=(m.fields.getD i dE).name)) (l:=v.parts) (λx hx=>by
  obtain⟨j,hj,rfl⟩:=ZIc hx;have h3:v.parts[j]=v.parts.getD j dE:=by simp[ZH6,hj]
  rw[h3,decide_eq_false_iff_not,o j hj];obtain⟨a,a1,a2,a3,a4⟩:=ZaX (l:=m.fields) (k:=j) ω;rw[a4];exact t a a1 λe=>hv (by rw[<-e];exact a2))
 rw[hf,if_pos (by decide),if_neg hv]
def Zyq{n v}(h:n=1\/n=2\/n=3):(8*(KM n v).length:Int)=Wm n:=by
 unfold KM Wm;rcases h with rfl|rfl|rfl<;>rfl
def ZsV{chg rec q ps}{L:Val->Int}(o:∀l,(chg l).length=I l)(i:∀y∈ps,∀p,((rec y p).b.length:Int)=L y):∀{n j w},n+j=I ps->((Wp chg rec q ps n j w).n:Int)=YL L (ps.drop j) w.n
 |0,j,w,h=>by rw[ZgZ,List.drop_eq_nil_of_le ω];rfl
 |n+1,j,w,h=>by
  have hj:j<I ps:=ω;rw[Zb3,ZsV o i ω,Yf hj];simp only[YL,Wr.app]
  congr 1
  rw[o];have:=i _ (Zr hj) (ZD q (ZT ps j))
  push_cast
  omega
def Zof{chg rec q ps}:∀{n j w},BOk w.b w.n->BOk (Wp chg rec q ps n j w).b (Wp chg rec q ps n j w).n
 |0,_,_,h=>h
 |n+1,j,w,h=>Zof (n:=n) (j:=j+1) (h.bytes _)
structure FN(f:Fld)(x:Val)(E:List (Str×Int))(w:Wr):Prop where
 kind:1<=f.kind/\f.kind<=12
 num:f.kind=1\/f.kind=2->1<=f.bits/\f.bits<=32/\(f.little=true->f.bits=16\/f.bits=24\/f.bits=32)
 pad:f.kind=10->Zci f.bits=true
 chk:f.kind=11->f.check=1\/f.check=2\/f.check=3
 none:f.kind<7\/f.kind=10\/f.kind=11->x.parts=[]
def ZwY{rec path f x E w}{L:Val->Int}(h:FN f x E w)(hL:∀y∈x.parts,∀p,((rec y p).b.length:Int)=L y):((ZaF rec path f x E w).n:Int)=YL L x.parts (Ky f x w.n):=by
 have hk:=h.kind;have t:=Ky.eq_1 f x (w.n:Int);unfold ZaF;by_cases h1:f.kind=1\/f.kind=2;obtain⟨b1,b2,b3⟩:=h.num h1;rw[if_pos h1]at t;rw[h.none ω,t];have hn:((Zir f.little f.bits.toNat w.n:Nat):Int)=(w.n:Int)+f.bits:=by unfold Zir;split;rename_i hl;have:=b3 hl;omega;omega
 rcases h1 with h1|h1;rw[if_pos h1];exact hn;rw[if_neg ω,if_pos h1];exact hn;rw[if_neg h1]at t;rw[if_neg ω,if_neg ω];by_cases u:f.kind=3;rw[if_pos u]at t⊢;rw[h.none ω,t];have r:(YW x.int.toNat (Z5 x.int.toNat)).length=Z5 x.int.toNat+1:=by unfold YW;rw[ZHX,QN];rfl
 simp only[Wr.add,YL];rw[r];push_cast;omega;rw[if_neg u]at t⊢;by_cases h4:f.kind=4;rw[if_pos h4]at t⊢;rw[h.none ω,t];simp only[Wr.add,YL];push_cast;omega;rw[if_neg h4]at t⊢;by_cases h5:f.kind=5;rw[if_pos h5]at t⊢;rw[h.none ω,t];simp only[Wr.add,YL,ZHX,ZH3,List.length_nil];push_cast;omega;rw[if_neg h5]at t⊢;by_cases h6:f.kind=6;rw[if_pos h6]at t⊢;rw[h.none ω,t];simp only[Wr.add,YL];push_cast;omega;rw[if_neg h6]at t⊢;by_cases i:f.kind=10;rw[if_pos i]at t⊢;rw[h.none ω,t];have hp:=Zbx (h.pad i);have:=(JB (v:=(w.n:Int)) (of:=f.bits) ω ω).1.1;simp only[Wr.pad,YL];omega;rw[if_neg i]at t⊢;by_cases o:f.kind=11;rw[if_pos o]at t⊢;rw[h.none ω,t];simp only[Wr.chk,YL];rw[<-Zyq (v:=Zaf f.check (w.b.drop ((Zv f.from_ E).getD 0).toNat)) (h.chk o)]
 push_cast;omega
 rw[if_neg o]at t⊢;rw[t];have:=ZsV (chg:=if f.kind=12 then Qr f.key.toNat else id) (rec:=rec) (q:=ZD path f.name) (ps:=x.parts) (L:=L) (λl=>by split;exact Zsf;rfl) hL (n:=I x.parts) (j:=0) (w:=w) ω;rw[List.drop_zero]at this;exact this
def ZyJ{rec path f x E w}(h:FN f x E w)(r:BOk w.b w.n):BOk (ZaF rec path f x E w).b (ZaF rec path f x E w).n:=by
 have i:∀v,(f.kind=1\/f.kind=2)->BOk (w.num f v).b (w.num f v).n:=λv h1=>by unfold Wr.num Zm1 Zir;simp only;split;have:=r.bytes (leS v.toNat ((f.bits.toNat+7) / 8));rw[ZuV]at this;exact this;exact Ziu r
 unfold ZaF;split;exact i _ ω;split;exact i _ ω;split;exact r.bytes _;split;exact r.bytes _;split;exact r.bytes _;split;exact r.bytes _;split;rename_i o;have hp:=Zbx (h.pad o);have h2:=(JB (v:=(w.n:Int)) (of:=f.bits) ω ω).1.1;have:=Ziu (v:=0) (k:=(upS w.n f.bits-w.n).toNat) r;unfold Wr.pad;simp only;rw[show(upS w.n f.bits).toNat=w.n+(upS w.n f.bits-w.n).toNat by omega];exact this;split;exact r.bytes _;exact Zof r
structure AlM(d:Dfn)(j:Nat)(m:Msg):Prop where
 fld:∀i,i<I m.fields->ZbP d j i m (m.fields.getD i default)
 off:∀i,i<=I m.fields->W9 m.fields i=false
 nm:NmU m.fields
 few:I m.fields<=40
def ZrS{d j}(h:Yk d=true)(t:j<I d.msgs):AlM d j (d.msgs.getD j dE):=by
 have hv:=Jy h;have hm:=hv.msg t;refine⟨λi r=>hm.at_ r,λi r=>?_,hm.nmU,hm.many⟩;unfold Yk at h;rw[ZH1]at h;have o:=List.all_eq_true.1 h.2 _ (Zr t);unfold ZaJ at o;have u:=List.all_eq_true.1 o i (List.mem_range.2 ω);simpa using u
def ZBl{f:Fld}(h:Kd f=0):1<=f.bits/\f.bits<=32/\(f.little=true->f.bits=16\/f.bits=24\/f.bits=32):=by
 unfold Kd Q8 at h;split at h;omega;rename_i i;simp only[ZId,ZH1,decide_eq_true_eq,Bool.not_eq_true',decide_eq_false_iff_not,not_or,not_and]at i;refine⟨ω,ω,λo=>?_⟩;have:=i.2.2 o;omega
def ZBW{d j i m f x E w}(h:ZbP d j i m f)(hx:YD f=true->WH f.kind x=false)(hd:YD f=false->x=dE):FN f x E w:=by
 have r:=h.ks;unfold Kp at r;have u:=h.fok;refine⟨h.kind,λh1=>?_,u.pad,u.chk,λh1=>?_⟩;refine ZBl ?_;rcases h1 with h1|h1<;>simp only[h1,ZIt,if_true,if_false]at r<;>exact r;cases o:YD f with
 |false=>rw[hd o];rfl
 |true =>have t:=hx o;unfold WH at t;unfold YD at o;simp only[ZH1,Bool.not_eq_true',decide_eq_false_iff_not]at o;simp only[Bool.or_eq_false_iff,Bool.and_eq_false_iff,Bool.not_eq_false',decide_eq_true_eq,decide_eq_false_iff_not]at t;have:=t.2;exact List.eq_nil_of_length_eq_zero ω
def Zoe{L:Val->Int}:∀{ps b},∃k:Int,YL L ps b=b+8*k
 | [],b=>⟨0,by simp[YL]⟩
 |y::r,b=>by obtain⟨k,i⟩:=Zoe (L:=L) (ps:=r) (b:=b+8*L y);exact⟨k+L y,by rw[YL,i];omega⟩
def ZAU{n k:Int}(r:Zci k=true)(hn:0<=n):upS n k % 8=(upS (n % 8) k).tmod 8:=by
 have hk:=Zbx r;have hu:=(JB (v:=n % 8) (of:=k) ω ω);rw[Int.tmod_eq_emod_of_nonneg ω];unfold Zci at r;simp only[ZId,ZH1,decide_eq_true_eq]at r;have i:∀q:Int,2<=q->upS n q=(n+q-1) / q*q:=λq hq=>by unfold upS;rw[Int.tdiv_eq_ediv_of_nonneg ω]
 have o:∀q:Int,2<=q->upS (n % 8) q=(n % 8+q-1) / q*q:=λq hq=>by unfold upS;rw[Int.tdiv_eq_ediv_of_nonneg ω]
 by_cases t:k=2;subst t;rw[i 2 ω,o 2 ω];omega;by_cases u:k=4;subst u;rw[i 4 ω,o 4 ω];omega;have h8:k % 8=0:=by have:(8:Int)<=k/\k.tmod 8=0:=ω;rw[Int.tmod_eq_emod_of_nonneg ω]at this;exact this.2
 obtain⟨q,rfl⟩:∃q,k=8*q:=⟨k / 8,ω⟩;have e1:upS n (8*q) % 8=0:=by
  rw[i _ ω];have:(n+8*q-1) / (8*q)*(8*q)=8*((n+8*q-1) / (8*q)*q):=by rw[Int.mul_left_comm]
  rw[this];omega
 have e2:upS (n % 8) (8*q) % 8=0:=by
  rw[o _ ω];have:(n % 8+8*q-1) / (8*q)*(8*q)=8*((n % 8+8*q-1) / (8*q)*q):=by rw[Int.mul_left_comm]
  rw[this];omega
 rw[e1,e2]
def Zyf{f x E w}(h:FN f x E w){n:Int}(hn:0<=n)(u:Je f=true->n % 8=0){L:Val->Int}:YL L x.parts (Ky f x n) % 8=Jq f (n % 8):=by
 obtain⟨k,hk⟩:=Zoe (L:=L) (ps:=x.parts) (b:=Ky f x n);rw[hk];have r:=Ky.eq_1 f x n;unfold Jq;by_cases t:f.kind=1\/f.kind=2;have:=h.num t;rw[if_pos t]at r⊢;rw[Int.tmod_eq_emod_of_nonneg ω];omega;rw[if_neg t]at r⊢;by_cases i:f.kind=10;rw[if_neg ω,if_neg ω,if_neg ω,if_neg ω,if_pos i]at r;rw[if_pos i,<-ZAU (h.pad i) hn,r];omega;rw[if_neg i]at r⊢;have o:Zcb f.kind=false:=by unfold Zcb;simp;omega
 have h0:=u (by unfold Je;rw[o];rfl);have hck:Wm f.check=32\/Wm f.check=16:=by unfold Wm;split<;>simp
 rw[r]
 repeat' split
 all_goals omega
def Zu2{d j m}(h:AlM d j m){i}(hi:i<I m.fields):Je (m.fields.getD i dE)=true->YH m.fields i=0:=λr=>by
 have:=h.off i ω;unfold W9 at this;rw[if_neg ω,Bool.or_eq_false_iff]at this;have o:=this.1;rw[r]at o;simpa using o
def ZsQ{d j m}(h:AlM d j m):YH m.fields (I m.fields)=0:=by
 have:=h.off (I m.fields) (ZH9 _);unfold W9 at this;rw[if_pos rfl]at this;simpa using this
def Zlr:∀{a b:List Val},wtL (a++b)=wtL a+wtL b
 | [],b=>by simp[wtL]
 |x::r,b=>by rw[List.cons_append,wtL,wtL,Zlr];omega
def Zmg{chg rec q ps}(h:∀y∈ps,∀p,(rec y p).sums.length<=40*wtN y):∀{n j w},n+j=I ps->(Wp chg rec q ps n j w).sums.length<=I w.sums+40*wtL (ps.drop j)
 |0,j,w,_=>Nat.le_add_right _ _
 |n+1,j,w,hn=>by have hj:j<I ps:=ω;have i:=Zmg (chg:=chg) (rec:=rec) (q:=q) h (n:=n) (j:=j+1) (w:=w.app chg (rec (ps.getD j dE) (ZD q (ZT ps j)))) ω;have h2:=h _ (Zr hj) (ZD q (ZT ps j));rw[Zb3,Yf hj];simp only[wtL,Wr.app,ZHX]at i⊢;omega
def ZwZ{rec path f x E w}(h:∀y∈x.parts,∀p,(rec y p).sums.length<=40*wtN y):(ZaF rec path f x E w).sums.length<=I w.sums+1+40*wtL x.parts:=by
 have:=Zmg (chg:=if f.kind=12 then Qr f.key.toNat else id) (rec:=rec) (q:=ZD path f.name) h (n:=I x.parts) (j:=0) (w:=w) ω;rw[List.drop_zero]at this;unfold ZaF;generalize (if f.kind=12 then Qr f.key.toNat else id)=chg at *
 repeat' split
 all_goals first|(simp only[Wr.num,Wr.add,Wr.pad,Wr.chk,ZHX,ZH3,List.length_nil];omega)|omega
section
variable {d:Dfn} {j:Nat} {m:Msg} {v:Val} {rec:Val->Str->Wr} {L:Val->Int} {path:Str}
structure StI(rec:Val->Str->Wr)(L:Val->Int)(path:Str)(m:Msg)(v:Val)(i:Nat):Prop where
 bok:BOk (stF rec path m.fields v.parts i).2.b (stF rec path m.fields v.parts i).2.n
 off:((stF rec path m.fields v.parts i).2.n:Int) % 8=YH m.fields i
 bits:Ws L (m.fields.drop i) (v.parts.drop (vfs (m.fields.take i)).length) (stF rec path m.fields v.parts i).2.n=Ws L m.fields v.parts 0
 sums:(stF rec path m.fields v.parts i).2.sums.length<=i+40*wtL (v.parts.take (vfs (m.fields.take i)).length)
def Zaz{n}(hL:J5 d (n+1) m v){i}(hi:i<I m.fields):(YD (m.fields.getD i dE)=true->xAt m.fields v.parts i∈v.parts/\XOk (m.fields.getD i dE) (xAt m.fields v.parts i))/\(YD (m.fields.getD i dE)=false->xAt m.fields v.parts i=dE):=by
 obtain⟨o,hX⟩:=hL;unfold xAt;refine⟨λr=>?_,λr=>by rw[if_neg (by rw[r];simp)]⟩;rw[if_pos r];obtain⟨t,u⟩:=Zb9 rfl hi r;rw[o]at t;have:=(hX _ t).1;rw[u]at this;exact⟨Zr t,this⟩
def ZoY{n}(u:AlM d j m)(t:J5 d (n+1) m v){i}(o:i<I m.fields){E w}:FN (m.fields.getD i dE) (xAt m.fields v.parts i) E w :=
 ZBW (u.fld i o) (λr=>((Zaz t o).1 r).2.unused) (λr=>(Zaz t o).2 r)
def Zls{n}(r:J5 d (n+1) m v){i}(t:i<I m.fields){Q:Val->Prop}(h:∀x∈v.parts,∀y∈x.parts,Q y):∀y∈(xAt m.fields v.parts i).parts,Q y:=λy o=>by
 cases u:YD (m.fields.getD i dE) with
 |true=>exact h _ ((Zaz r t).1 u).1 y o
 |false =>rw[(Zaz r t).2 u]at o;simp[show(dE:Val).parts=[] from rfl]at o
def Zzy:StI rec L path m v 0:=⟨(show([]:List UInt8).length=(0+7) / 8 from rfl),rfl,rfl,Nat.zero_le _⟩
def Zzx{n}(hA:AlM d j m)(hL:J5 d (n+1) m v)(hr:∀x∈v.parts,∀y∈x.parts,∀p,((rec y p).b.length:Int)=L y/\(rec y p).sums.length<=40*wtN y){i}(hi:i<I m.fields)(h:StI rec L path m v i):StI rec L path m v (i+1):=by
 obtain⟨h1,h2,h3,h4⟩:=h;have t:=λE w=>ZoY (E:=E) (w:=w) hA hL hi;have r:=Zls hL hi (Q:=λy=>∀p,((rec y p).b.length:Int)=L y/\(rec y p).sums.length<=40*wtN y) hr;have hx:=xAt.eq_1 m.fields v.parts i;have o:=ZcC hi;have hn:=ZwY (rec:=rec) (path:=path) (t (stE rec path m.fields v.parts i) (stF rec path m.fields v.parts i).2) (λy hy p=>(r y hy p).1);have hs:=ZwZ (rec:=rec) (path:=path) (f:=m.fields.getD i dE) (E:=stE rec path m.fields v.parts i) (w:=(stF rec path m.fields v.parts i).2) (λy hy p=>(r y hy p).2);have ac:=Zu2 hA hi;have ab:=Zyf (t (stE rec path m.fields v.parts i) (stF rec path m.fields v.parts i).2) (n:=((stF rec path m.fields v.parts i).2.n:Int)) ω (λhh=>by rw[h2];exact ac hh) (L:=L);have u:YD (m.fields.getD i dE)=true->(vfs (m.fields.take i)).length<I v.parts:=λhv=>by have:=(Zb9 rfl hi hv).1;rw[hL.1]at this;exact this
 rw[Yf hi]at h3;simp only[Ws]at h3;refine⟨ZyJ (t _ _) h1,?_,?_,?_⟩;rw[ZbB];show((ZaF _ _ _ _ _ _).n:Int) % 8=Jq (m.fields.getD i dE) (YH m.fields i);rw[hn,ab,h2]
 .rw[ZbB];show Ws L _ _ ((ZaF _ _ _ _ _ _).n:Int)=_;rw[hn,<-h3,hx];cases hv:YD (m.fields.getD i dE) with
  |true =>rw[if_pos rfl,if_pos rfl,o,if_pos hv,ZHX,List.drop_drop];simp[ZH6]
  |false =>rw[if_neg ψ,if_neg ψ,o,if_neg (by rw[hv];simp),ZIj];rw[show(dE:Val).parts=[] from rfl];rfl
 rw[ZbB];show(ZaF _ _ _ _ _ _).sums.length<=_;cases hv:YD (m.fields.getD i dE) with
 |true =>have hk:=u hv;rw[hv,if_pos rfl]at hx;rw[o,if_pos hv,ZHX,show([m.fields.getD i dE]:List Fld).length=1 from rfl,ZQ hk,Zlr,<-hx];have hw:=JT (xAt m.fields v.parts i);simp only[wtL];omega
 |false =>rw[hv,if_neg ψ]at hx;rw[o,if_neg (by rw[hv];simp),ZIj];rw[hx,show(dE:Val).parts=[] from rfl]at hs;rw[hx];simp only[wtL]at hs;omega
def Zll{n}(hA:AlM d j m)(hL:J5 d (n+1) m v)(hr:∀x∈v.parts,∀y∈x.parts,∀p,((rec y p).b.length:Int)=L y/\(rec y p).sums.length<=40*wtN y):∀{i},i<=I m.fields->StI rec L path m v i
 |0,_=>Zzy
 |i+1,hi=>Zzx hA hL hr ω (Zll hA hL hr ω)
end
def Zfz{d}(t:Yk d=true):∀(n j v path),j<I d.msgs->J5 d n (d.msgs.getD j dE) v ->
  ((Wj d n (d.msgs.getD j dE) v path).b.length:Int)=lenS d n (d.msgs.getD j dE) v/\(Wj d n (d.msgs.getD j dE) v path).n=8*(Wj d n (d.msgs.getD j dE) v path).b.length/\(Wj d n (d.msgs.getD j dE) v path).sums.length<=40*wtN v
 |0,_,_,_,_,h=>h.elim
 |n+1,j,v,path,hj,hL=>by
  have hA:=ZrS t hj;have hr:∀x∈v.parts,∀y∈x.parts,∀p,((Wj d n (Zs d y.name) y p).b.length:Int)=lenS d n (Zs d y.name) y/\(Wj d n (Zs d y.name) y p).sums.length<=40*wtN y:=λx hx y hy p=>by obtain⟨k,hk,rfl⟩:=Zbv hx;obtain⟨u,h2⟩:=(hL.2 k hk).2 y hy;have:=Zfz t n (ixS d y.name) y p (by have:=WD u;omega) h2;exact⟨this.1,this.2.2⟩
  generalize d.msgs.getD j dE=m at *;have hS:=Zll (rec:=λy p=>Wj d n (Zs d y.name) y p) (L:=λy=>lenS d n (Zs d y.name) y) (path:=path) hA hL hr (ZH9 _);obtain⟨u,h2,h3,h4⟩:=hS;rw[ZsQ hA]at h2;rw[List.drop_length]at h3;simp only[Ws]at h3;have hw:=JT v;have hfew:=hA.few;have htk:wtL (v.parts.take (vfs (m.fields.take (I m.fields))).length)<=wtL v.parts:=by
   conv=>rhs;rw[<-List.take_append_drop (vfs (m.fields.take (I m.fields))).length v.parts,Zlr]
   omega
  unfold BOk at u;have r:lenS d (n+1) m v=(Ws (λy=>lenS d n (Zs d y.name) y) m.fields v.parts 0).tdiv 8:=rfl;have i:Wj d (n+1) m v path=(stF (λy p=>Wj d n (Zs d y.name) y p) path m.fields v.parts (I m.fields)).2:=rfl;rw[r,i,<-h3];generalize (stF (λy p=>Wj d n (Zs d y.name) y p) path m.fields v.parts (I m.fields)).2=o at *;rw[Int.tdiv_eq_ediv_of_nonneg ω];omega
section
variable {d:Dfn} {j:Nat} {m:Msg} {v:Val} {rec:Val->Str->Wr} {L:Val->Int} {path:Str}
def ZwX{f x E w}(r:FN f x E w)(u:FOk f)(t:I x.hdrs<=100)(o:∀y∈x.parts,(∀p,((rec y p).b.length:Int)=L y)/\0<=L y/\8*L y<=20000*(wtN y:Int)):w.n<=(ZaF rec path f x E w).n:=by
 have h1:=ZwY (rec:=rec) (path:=path) r (λy i p=>(o y i).1 p);have h2:=ZbF (f:=f) (x:=x) (b:=(w.n:Int)) u ω t;have h3:=Qz (rec:=L) (l:=x.parts) (b:=Ky f x w.n) (λy i=>(o y i).2);omega
def Zty{n}(o:AlM d j m)(r:J5 d (n+1) m v)(t:∀i,i<I m.fields->(xAt m.fields v.parts i).hdrs.length<=100)(u:∀x∈v.parts,∀y∈x.parts,(∀p,((rec y p).b.length:Int)=L y)/\0<=L y/\8*L y<=20000*(wtN y:Int)):∀{i a},a<=i->i<=I m.fields->(stF rec path m.fields v.parts a).2.n<=(stF rec path m.fields v.parts i).2.n
 |0,a,h,_=>by obtain rfl:a=0:=ω;exact ZH9 _
 |i+1,a,h,hi=>by by_cases e:a=i+1;subst e;exact ZH9 _;have h1:=Zty o r t u (i:=i) (a:=a) ω ω;rw[ZbB];exact ZIy h1 (ZwX (L:=L) (ZoY o r ω) (o.fld i ω).fok (t i ω) (Zls r ω u))
end
def ZnM{rec path f x E w}(h:7<=f.kind/\f.kind<=9\/f.kind=12):ZaF rec path f x E w=Wp (if f.kind=12 then Qr f.key.toNat else id) rec (ZD path f.name) x.parts (I x.parts) 0 w:=by
 unfold ZaF;rw[if_neg ω,if_neg ω,if_neg ω,if_neg ω,if_neg ω,if_neg ω,if_neg ω,if_neg ω]
structure Fit(d:Dfn)(n:Nat)(m:Msg)(v:Val):Prop where
 len:J5 d (n+1) m v
 right:Kr m v.parts=true
 sub:∀x∈v.parts,∀y∈x.parts,∃q,0<=Zm d y.name (I d.msgs)/\(ZW d n (Zs d y.name) y q).2=0
def ZwW{d n m v p}(hd:ZrO d)(hm:∀f∈m.fields,ZgK d f)(hv:Yz v=true)(h:(ZW d (n+1) m v p).2=0):Fit d n m v:=by
 have t:=ZdF hd (n+1) m v p hm hv h;simp only[ZW]at h;split at h;rename_i hc;simp only[ZH1,decide_eq_true_eq]at hc;refine⟨t,hc.2.2.2.2,λx hx y hy=>?_⟩;obtain⟨k,u,rfl⟩:=Zbv hx;have hg:=ZjL h k u;have o:=(t.2 k u).1.unused;rw[o,if_neg ψ]at hg;have r:(vfs m.fields).getD k dE∈vfs m.fields:=Zr (by rw[t.1];exact u);have i:=List.mem_filter.1 r;obtain⟨of,q',h0,h1⟩:=Zqz (hm _ i.1) i.2 o hg y hy;have hn:y.name=of:=by rw[Zme h1,Zn8 h0]
 exact⟨q',by rw[hn];exact h0,by rw[hn];exact h1⟩;simp at h
def ZmT{d}(hal:Yk d=true){n j v path p0}(hj:j<I d.msgs)(h:(ZW d (n+1) (d.msgs.getD j dE) v p0).2=0)(hv:VOk v)(hp:I path+6000*(n+1)<=1000000)(hrc:∀x∈v.parts,∀y∈x.parts,∀p T,I p<=I path+6000->Zf ZHP 31 [.agg d.cells,.agg (Zs d y.name).cells,.agg y.cells,.str p] T (WrP d (Wj d n (Zs d y.name) y p) p T)):
  ∀i,i<(d.msgs.getD j dE).fields.length->Zvo d path ((d.msgs.getD j dE).fields.getD i dE) (xAt (d.msgs.getD j dE).fields v.parts i) (λy p=>Wj d n (Zs d y.name) y p) (stE (λy p=>Wj d n (Zs d y.name) y p) path (d.msgs.getD j dE).fields v.parts i) (stF (λy p=>Wj d n (Zs d y.name) y p) path (d.msgs.getD j dE).fields v.parts i).2:=by
 have t:=Jy hal;have hA:=ZrS hal hj;have bg:∀f∈(d.msgs.getD j dE).fields,ZgK d f:=t.dref _ (Zr hj);have hfo:∀f∈(d.msgs.getD j dE).fields,FOk f:=(t.dok _ (Zr hj)).fld;have hF:=ZwW t.dref bg hv.ok h;have bf:MOk (d.msgs.getD j dE):=t.dok _ (Zr hj);generalize d.msgs.getD j dE=m at *;have hL:=hF.len;have ad:∀x∈v.parts,∀y∈x.parts,0<=Zm d y.name (I d.msgs)/\J5 d n (Zs d y.name) y:=λx hx y hy=>by obtain⟨k,hk,rfl⟩:=Zbv hx;exact(hL.2 k hk).2 y hy
 intro i hi;obtain⟨rec,hrec⟩:∃rec:Val->Str->Wr,rec=λy p=>Wj d n (Zs d y.name) y p:=⟨_,rfl⟩;obtain⟨L,aj⟩:∃L:Val->Int,L=λy=>lenS d n (Zs d y.name) y:=⟨_,rfl⟩;have ae:∀x∈v.parts,∀y∈x.parts,∀p,((rec y p).b.length:Int)=L y/\(rec y p).sums.length<=40*wtN y:=λx hx y hy p=>by obtain⟨h1,h2⟩:=ad x hx y hy;have:=Zfz hal n (ixS d y.name) y p (by have:=WD h1;omega) h2;rw[hrec,aj];exact⟨this.1,this.2.2⟩
 have av:∀x∈v.parts,∀y∈x.parts,0<=L y/\8*L y<=20000*(wtN y:Int):=λx hx y hy=>by rw[aj];exact ZbL t.dok n _ y (t.dok.of _) (YA (YA hv.ok hx) hy)
 have ag:=λi (hi:i<=I m.fields)=>Zll (rec:=rec) (L:=L) (path:=path) hA hL ae hi;have a6:∀i,i<I m.fields->VOk (xAt m.fields v.parts i)\/xAt m.fields v.parts i=dE:=λi hi=>by
  cases hb:YD (m.fields.getD i dE) with
  |true=>exact .inl (hv.part ((Zaz hL hi).1 hb).1)
  |false=>exact .inr ((Zaz hL hi).2 hb)
 have aq:∀i,i<I m.fields->(xAt m.fields v.parts i).hdrs.length<=100:=λi hi=>by rcases a6 i hi with h1|h1;exact(KY (Kw h1.ok)).2.2.2.1;rw[h1];exact Nat.zero_le _
 have af:=λ{i a} (h1:a<=i) (h2:i<=I m.fields)=>Zty (path:=path) (rec:=rec) (L:=L) hA hL aq (λx hx y hy=>⟨λp=>(ae x hx y hy p).1,av x hx y hy⟩) h1 h2;have ai:=ag (I m.fields) (ZH9 _);have aw:(stF rec path m.fields v.parts (I m.fields)).2.n<=110000000:=by
  have h1:=ai.bits;rw[List.drop_length]at h1;simp only[Ws]at h1;have h2:=ai.off;rw[ZsQ hA]at h2;have h3:=ZbL t.dok (n+1) m v bf hv.ok;have h4:lenS d (n+1) m v=(Ws L m.fields v.parts 0).tdiv 8:=by rw[aj];rfl
  rw[h4,<-h1,Int.tdiv_eq_ediv_of_nonneg ω]at h3;have h5:=hv.wt;omega
 have ao:∀i,i<=I m.fields->(stF rec path m.fields v.parts i).2.n<=110000000:=λi hi=>ZIy (af hi (ZH9 _)) aw;have a3:∀i,i<=I m.fields->(stF rec path m.fields v.parts i).2.sums.length<=1000000:=λi hi=>by
  have h1:=(ag i hi).sums;have h2:wtL (v.parts.take (vfs (m.fields.take i)).length)<=wtL v.parts:=by
   conv=>rhs;rw[<-List.take_append_drop (vfs (m.fields.take i)).length v.parts,Zlr]
   omega
  have h3:=JT v;have h4:=hv.wt;have h5:=hA.few;omega
 have ax:∀i,i<=I m.fields->(stF rec path m.fields v.parts i).2.b.length<=110000000:=λi hi=>by have h1:=(ag i hi).bok;have h2:=ao i hi;unfold BOk at h1;omega
 rw[<-hrec];have r:=hA.fld i hi;have o:=r.ks;have ba:=ZoY (E:=stE rec path m.fields v.parts i) (w:=(stF rec path m.fields v.parts i).2) hA hL hi;have bk:=Zaz hL hi;have bi:=ZbB rec path m.fields v.parts i;have an:=ao (i+1) ω;have ap:=a3 (i+1) ω;have al:=ax (i+1) ω;have ah:=(ag i ω).bok;have a0:=ao i ω;have a4:=a3 i ω;have hbi0:=ax i ω;have be:=λ{a} (ha:a<i)=>Zpo (rec:=rec) (path:=path) (ps:=v.parts) hA.nm (i:=i) (j:=a) ha ω;have ay:=λ{a} (ha:a<i)=>af (i:=i) (a:=a) ω ω;have ar:=a6 i hi;have a9:stE rec path m.fields v.parts i=YY (m.fields.getD i dE).name (((stF rec path m.fields v.parts i).2.n / 8:Nat):Int) (stF rec path m.fields v.parts i).1:=rfl;have a2:=hA.nm;have ab:=λy (hy:y∈(xAt m.fields v.parts i).parts)=>Zls hL hi (Q:=λy=>∃x∈v.parts,y∈x.parts) (λx hx y hy=>⟨x,hx,hy⟩) y hy;generalize bb:m.fields.getD i dE=f at *;generalize xAt m.fields v.parts i=x at *;have am:=ah;unfold BOk at am;refine⟨r.kind,ah,a0,a4,?_,ω,λh1=>?_,λh2=>?_,λh1=>?_,?_,λh5=>?_,λh6=>?_,r.fok.pad,λau=>?_,λa8=>?_,λhk=>?_⟩;have:=r.nm;rw[ZjT]at this;simp only[ZH1,decide_eq_true_eq]at this;omega;have:=ba.num h1;omega;have:=r.num (by unfold Yy;simp;omega);exact⟨this.1,this.2.1 h2⟩;rcases ar with hx|hx;exact hx.node.2.1;rw[hx];exact⟨by decide,by decide⟩;rcases ar with hx|hx;exact hx.node.2.2.1;rw[hx];exact Nat.zero_le _;unfold Kp at o;simp only[h5,ZIt,if_true,if_false]at o;split at o;omega;rename_i hc;simp only[ZId,decide_eq_true_eq,not_or]at hc;omega;have bj:YD f=true:=by unfold YD;simp;omega
 obtain⟨a7,bl⟩:=bk.1 bj;obtain⟨h1,h2⟩:=bl.hdrs h6;refine⟨h1,h2,?_⟩;have hw:=(hv.part a7).wt;have hw2:=JT x;have hw3:=(KY (Kw (hv.part a7).ok)).2.2.2.1;rw[ZoX];omega;refine⟨r.fok.chk au,?_⟩;unfold Kp at o;simp only[au,ZIt,if_true,if_false]at o;split at o;omega;split at o;omega;rename_i hfr;have h4:=Q6 (show 0<=Yi m f.from_ i by omega);have h5:=YC (λg:Fld=>dC (g.name=f.from_)) (m.fields.take i);rw[ZIa,show Zl (λg:Fld=>dC (g.name=f.from_)) (m.fields.take i)=Yi m f.from_ i from rfl]at h5;have h6:=h4.1;rw[show(Zl (λg=>dC (g.name=f.from_)) (m.fields.take i))=Yi m f.from_ i from rfl,W8 ω]at h6;have ak:(Yi m f.from_ i).toNat<i:=ω;have a1:(m.fields.getD (Yi m f.from_ i).toNat dE).name=f.from_:=by simpa using h6
 have hg:=be ak;have hm2:=ay ak;have az:=a2 _ i ak hi;rw[bb,a1]at az;rw[a1]at hg;exact⟨_,by rw[a9,WZ,if_neg az];exact hg,ω⟩;unfold Kp at o;simp only[a8,ZIt,if_true,if_false]at o;split at o;omega;rename_i hc;simp only[ZId,decide_eq_true_eq,not_or]at hc;omega;have bc:=ZnM (rec:=rec) (path:=path) (x:=x) (E:=stE rec path m.fields v.parts i) (w:=(stF rec path m.fields v.parts i).2) hk;rw[bi]at an ap al;simp only at an ap al;rw[bc]at an ap al;have a5:VOk x\/x=dE:=ar;refine⟨?_,?_,?_,ω,λy hy=>?_,λy hy p T bh=>?_,λy hy p=>?_,ω,ω,ω⟩;rcases a5 with hx|hx;exact hx.few;rw[hx];exact Nat.zero_le _;rcases a5 with hx|hx;exact hx.name;intro y hy;rw[hx]at hy;simp[show(dE:Val).parts=[] from rfl]at hy;have:=r.nm;rw[ZjT]at this;simp only[ZH1,decide_eq_true_eq]at this;omega;obtain⟨x',u,ac⟩:=ab y hy;exact(ad x' u y ac).1;obtain⟨x',u,ac⟩:=ab y hy;rw[hrec];exact hrc x' u y ac p T bh;obtain⟨x',u,ac⟩:=ab y hy;have h1:=(ae x' u y ac p).1;have h2:=av x' u y ac;have h3:=((hv.part u).part ac).wt;omega
def Zif{d}(o:Yk d=true){n j v u}(r:j<I d.msgs)(h:(ZW d (n+1) (d.msgs.getD j dE) v u).2=0)(t:VOk v):
  Fit d n (d.msgs.getD j dE) v/\AlM d j (d.msgs.getD j dE):=by
 have i:=Jy o;exact⟨ZwW i.dref (i.dref _ (Zr r)) t.ok h,ZrS o r⟩
def Zgi{d}(u:Yk d=true):∀(n j v path p0),j<I d.msgs->(ZW d n (d.msgs.getD j dE) v p0).2=0->VOk v->I path+6000*n<=1000000->∀T,
  Zf ZHP 31 [.agg d.cells,.agg (d.msgs.getD j dE).cells,.agg v.cells,.str path] T (WrP d (Wj d n (d.msgs.getD j dE) v path) path T)
 |0,_,_,_,_,_,h,_,_,_=>by simp[ZW]at h
 |n+1,j,v,path,p0,hj,h,hv,hp,T=>by
  obtain⟨hF,hA⟩:=Zif u hj h hv;have o:=ZmT u hj h hv hp λx hx y hy p T hp2=>by obtain⟨q,r,t⟩:=hF.sub x hx y hy;exact Zgi u n (ixS d y.name) y p q (by have:=WD r;omega) t ((hv.part hx).part hy) ω T
  exact ZmO (Zfw d v path hv (by have:=hA.few;omega) (λi hi=>Zu3 hA.nm hF.right hi) o T)
def ZlC(v depth)(hd:0<=depth/\depth<=51)(f)(hf:depth<=50->∀x∈v.parts,Zc ZHP 14 [.agg x.cells,.i (depth+1)] (.i (f x))):Zc ZHP 14 [.agg v.cells,.i depth] (.i (ZpW f v depth)):=by
 refine ZO (cR 14 f14) λab F st u=>?_;have hw:=((ab (D.agg v.cells) ψ).agg_inv (Zu v.parts) (by rw[ZIe];simp)).sl_inv.1;have ah:=(Y4 ((ab (.agg v.cells) ψ).agg_inv (slD 2 Hdr.cells v.hdrs) (by rw[v.cells_eq];simp[Zx]))).1;unfold big at hw ah;clear ab;have hS:=ZpW.eq_1 f v depth;rw[v.cells_eq];refine rg ?_;refine rh ?_;refine We ?_;simp only[Eqs,reduceCtorEq,ZHV,reduceIte,ZHR,ZHY,ZHS,Wy,WW,Wc];refine ZaU rfl rfl rfl φ (We ?_);simp only[Eqs,reduceCtorEq,ZHV,reduceIte,ZHR,ZHY,ZHS,Wy,WW,Wc];refine ZaU rfl rfl rfl φ (We ?_);simp only[Eqs,reduceCtorEq,ZHV,reduceIte,ZHR,ZHY,ZHS,Wy,WW];generalize IntKind.i64.wrap (IntKind.i64.wrap (10+I v.name)+I v.bytes)=n1 at *;refine rx (nd2 @KN @Zbt) ?_;refine cd (λh1=>?_) (λh1=>?_);rw[if_pos h1]at hS;refine rg ?_;refine ri u ?_;exact hS.symm;rw[if_neg (by simp[h1])]at hS;have af:depth<=50:=by simp at h1;omega
 refine rg ?_;refine Zb (fr (I v.hdrs) (λi Q=>i<=I v.hdrs->Q [(1,.d (.i depth)),(2,.loc 2 0),(5,.d (.i (hsW n1 (v.hdrs.take i)))),(6,.d (.i i))] [(2,[.str v.name,.i v.int,Zg v.bytes,Zx v.hdrs,Zu v.parts])] st) (λn t=>?_) λai=>?_);intro i hn hi;refine rx @Zbt ?_;refine cd (λh2=>?_) (λh2=>?_);simp at h2;have r:=ZyS (n:=n1) h2;generalize hg:v.hdrs.getD i dE=g at *;generalize hsW n1 (v.hdrs.take i)=a at *;refine rh ?_;refine ZcE ?_;simp only[Eqs,reduceCtorEq,ZHV,reduceIte,ZHR,ZHY,ZHS,Wy,WW,atH,hg,Hdr.cells];refine aa ?_;refine ZpZ rfl rfl rfl φ (ZcE ?_);simp only[Eqs,reduceCtorEq,ZHV,reduceIte,ZHR,ZHY,ZHS,Wy,WW,atH,hg,Hdr.cells];refine aa ?_;refine ZpZ rfl rfl rfl φ (ZcE ?_);simp only[Eqs,reduceCtorEq,ZHV,reduceIte,ZHR,ZHY,ZHS,Wy,WW];rw[r];refine gA ?_;refine Za ?_;exact t ((I v.hdrs)-(i+1)) ω (i+1) rfl ω;simp at h2;obtain rfl:i=I v.hdrs:=ω;rw[ZIb];generalize hsW n1 v.hdrs=n2 at *;refine rg ?_;refine Zb (fr (I v.parts) (λi Q=>∀n,ZdO f n (v.parts.drop i)=ZdO f n2 v.parts->i<=I v.parts->Q [(1,.d (.i depth)),(2,.loc 2 0),(5,.d (.i n)),(7,.d (.i i))] [(2,[.str v.name,.i v.int,Zg v.bytes,Zx v.hdrs,Zu v.parts])] st) (λn o=>?_) λae=>?_);intro i hn n hr hi;refine rx @KN ?_;refine cd (λh3=>?_) (λh3=>?_);simp only[ZH1,decide_eq_true_eq]at h3;have h4:i<I v.parts:=ω;have ag:=YX h4;have r:=ZqH (f:=f) (n:=n) h4;rw[if_pos h3.2,hr]at r;have ad:=hf af _ (Zr h4);rw[ZIe]at ad;generalize v.parts.getD i dE=x at *;refine rh ?_;refine We ?_;simp only[Eqs,reduceCtorEq,ZHV,reduceIte,ZHR,ZHY,ZHS,Wy,WW,atV,ag];refine aa ?_;refine ZaU rfl rfl rfl φ (We ?_);simp only[Eqs,reduceCtorEq,ZHV,reduceIte,ZHR,ZHY,ZHS,Wy,WW];rw[Wn (n:=depth+1) ω];refine JV rfl rfl rfl rfl rfl φ φ (by exact ad) (We ?_);simp only[Eqs,reduceCtorEq,ZHV,reduceIte,ZHR,ZHY,ZHS,Wy,WW];refine ZaU rfl rfl rfl φ (We ?_);simp only[Eqs,reduceCtorEq,ZHV,reduceIte,ZHR,ZHY,ZHS,Wy,WW];refine gA ?_;refine Za ?_;exact o ((I v.parts)-(i+1)) ω (i+1) rfl _ r.symm ω;have ac:n=ZdO f n2 v.parts:=by rw[<-hr];rcases Nat.lt_or_eq_of_le hi with h4|h4;rw[ZqH h4,if_neg];intro h5;simp[h4,h5]at h3;rw[h4,List.drop_length];rfl
 refine rg ?_;refine ri u ?_;rw[hS,ac];exact ae _ 0 rfl n2 rfl ω;exact ai _ 0 rfl ω
def Zn2(v):∀t:Int,0<=t->t<=51->∃n,Zc ZHP 14 [.agg v.cells,.i t] (.i n)/\(Yz v=true->0<=n/\n<=110000000*(52-t)+6000/\(n<=5000->n=wtN v/\(ZY v:Int)+t<=51)):=by
 induction v using Val.ind with
 |h v ih =>
  intro t h0 r;have hc:∀x:Val,∃n,t<=50->x∈v.parts->Zc ZHP 14 [.agg x.cells,.i (t+1)] (.i n)/\(Yz x=true->0<=n/\n<=110000000*(52-(t+1))+6000/\(n<=5000->n=wtN x/\(ZY x:Int)+(t+1)<=51)):=λx=>by by_cases u:x∈v.parts/\t<=50;obtain⟨n,hn⟩:=ih x u.1 (t+1) ω ω;exact⟨n,λ_ _=>hn⟩;exact⟨0,λh1 h2=>absurd ⟨h2,h1⟩ u⟩
  refine⟨_,ZlC v t ⟨h0,r⟩ (λx=>(hc x).choose) λo x u=>((hc x).choose_spec o u).1,λi=>?_⟩;rw[ZfG,ZH1,ZeY,List.all_eq_true]at i;obtain⟨hn,hi,hb,hh,hw,_⟩:=KY i.2;unfold ZpW;split;exact⟨ω,ω,λh=>by omega⟩;rename_i h1;simp only[ZId,decide_eq_true_eq,not_or]at h1;rw[Wn (n:=10+I v.name) ω,Wn ω,Zqo _ _ ω ω];have hf:∀x∈v.parts,0<=(hc x).choose/\(hc x).choose<=110000000*(52-(t+1))+6000:=λx u=>by have:=((hc x).choose_spec ω u).2 (i.1 x u);exact⟨this.1,this.2.1⟩
  obtain⟨a,b,c⟩:=Zu7 (f:=λx=>(hc x).choose) (M:=110000000*(52-(t+1))+6000) ⟨ω,ω⟩ v.parts (10+I v.name+I v.bytes+Jp v.hdrs) ω ω hf;refine⟨ω,ω,λh5=>?_⟩;obtain⟨c1,c2⟩:=c h5;have u:∀x∈v.parts,(hc x).choose=wtN x/\(ZY x:Int)+(t+1)<=51:=λx u=>(((hc x).choose_spec ω u).2 (i.1 x u)).2.2 (c2 x u);refine⟨?_,?_⟩;rw[c1,ZBO λx h=>(u x h).1,JT];omega;have:=ZvH (l:=v.parts) (k:=(50-t).toNat) λx h=>by have:=(u x h).2;omega
  rw[KW];omega
def Zn1(d:Dfn)(v st):Zf ZHP 5 [.agg d.cells,.agg v.cells] st λr S=>S=st/\∃b,r=.ret (.bool b)/\(b=true->Yz v=true->wtN v<=5000/\ZY v<=51):=by
 obtain⟨wt,ad,ab⟩:=Zn2 v 0 ω ω;refine ZaS (cR 5 f5) λac F hF=>?_;have hw:=Zhp (s:=d) (ac _ ψ);have aj:=hw.nmsgs;unfold big at aj;clear ac;rw[v.cells_eq]at ad⊢;refine rx @eQ2 ?_;refine rx @ZeU ?_;refine cd (λh0=>?_) (λh0=>?_);refine rg ?_;exact hF.ret _ _ rfl φ (ZHT _) ZHU ⟨rfl,false,rfl,λh=>by simp at h⟩;refine rg ?_;refine Zb (fr (I d.msgs) (λi Q=>i<=I d.msgs->Q [(2,.loc 2 0),(3,.loc 3 0),(5,.d (.i i))] [(2,[.str d.name,Z0 d.msgs,.str d.start]),(3,[.str v.name,.i v.int,Zg v.bytes,Zx v.hdrs,Zu v.parts])] st) (λn t=>?_) λak=>?_);intro i hn hi;refine rx @ZeU ?_;refine cd (λh1=>?_) (λh1=>?_);have af:i<I d.msgs:=by simp at h1;omega
 have ah:=hw.msgs _ (Zr af);have ag:=ah.nfields;unfold big at ag;generalize hm:d.msgs.getD i dE=m at *;refine xA (nd2 @atM (nd2 @hm @eQ3)) ?_;refine rx @ZaI ?_;refine cd (λh2=>?_) (λh2=>?_);refine rg ?_;exact hF.ret _ _ rfl φ (ZHT _) ZHU ⟨rfl,false,rfl,λh=>by simp at h⟩;refine rg ?_;refine Zb (fr (I m.fields) (λk Q=>k<=I m.fields->Q [(2,.loc 2 0),(3,.loc 3 0),(5,.d (.i i)),(6,.loc 6 0),(7,.d (.i k))] [(2,[.str d.name,Z0 d.msgs,.str d.start]),(3,[.str v.name,.i v.int,Zg v.bytes,Zx v.hdrs,Zu v.parts]),(6,[.str m.name,Zp m.fields])] st) (λn o=>?_) λae=>?_);intro k ab hk;refine rx @ZaI ?_;refine cd (λh3=>?_) (λh3=>?_);have u:k<I m.fields:=by simp at h3;omega
 generalize hf:m.fields.getD k dE=f at *;refine xA (nd2 @atF (nd2 @hf (nd2 @eQ0 (nd2 @ZrZ @ZtA)))) ?_;refine cd (λh4=>?_) (λh4=>?_);refine rg ?_;exact hF.ret _ _ rfl φ (ZHT _) ZHU ⟨rfl,false,rfl,λh=>by simp at h⟩;refine gA ?_;refine Za ?_;exact o ((I m.fields)-(k+1)) ω (k+1) rfl ω;have u:k=I m.fields:=by simp at h3;omega
 subst u;refine gA ?_;refine Za ?_;exact t ((I d.msgs)-(i+1)) ω (i+1) rfl ω;exact ae _ 0 rfl ω;refine rg ?_;refine cl (ad) ?_;exact hF.ret _ _ rfl φ (ZHT _) ZHU ⟨rfl,dC (wt<=5000),rfl,λh ai=>by
  have h1:=(ab ai).2.2 (of_decide_eq_true h);have h2:wt<=5000:=of_decide_eq_true h;exact⟨ω,ω⟩⟩
 exact ak _ 0 rfl ω
def Zhy(d:Dfn)(v st):Zf ZHP 5 [.agg d.cells,.agg v.cells] st λr S=>S=st/\∃b,r=.ret (.bool b)/\(b=true->Yz v=true->wtN v<=5100/\ZY v<=51) :=
 (Zn1 d v st).mono λ_ _ ⟨o,b,t,i⟩=>⟨o,b,t,λa c=>⟨by have:=(i a c).1;omega,(i a c).2⟩⟩
def Zaj(e):Zc ZHP 10 [.i e] (.i e):=by
 refine Ze (cR 10 f10) λF st i=>?_;refine gG ?_;refine ro i ?_;rfl
def Zh8(d:Dfn)(s:Str)(v:Val):List UInt8:=(if (YG d s v).2=0 then Wj d 51 (Zs d s) v [] else noW).b
def Zfa{d s v}(h:(YG d s v).2=0):Yk d=true:=by
 unfold YG at h;split at h;rename_i i;rw[ZH1]at i;exact i.1;simp at h
def ZAm{d s v}(hs:Yz v=true->wtN v<=5100/\ZY v<=51):((Zh8 d s v).length:Int)=ZBv d s v/\(Zh8 d s v).length<=110000000:=by
 unfold Zh8 ZBv;by_cases h:(YG d s v).2=0;rw[if_pos h,if_pos h];obtain⟨u,hv,hf,hm⟩:=ZcJ h;have t:=Zfa h;obtain⟨o,hvh⟩:=ZbE hv hs;have i:=(WD hf).2;have r:d.msgs.getD (ixS d s) dE=Zs d s:=rfl;have hL:=ZdF u.dref 51 (Zs d s) v [] (u.dref _ (Zr i)) o.ok hm;have h1:=Zfz t 51 (ixS d s) v [] i (by rw[r];exact hL);have h2:=ZbL u.dok 51 (Zs d s) v (u.dok _ (Zr i)) o.ok;have h3:=o.wt;rw[r]at h1;refine⟨h1.1,?_⟩;have:=h1.1;omega;rw[if_neg h,if_neg h];exact⟨rfl,Nat.zero_le _⟩
def ZgP(u:Qn)(d:Dfn)(s:Str)(v:Val)(t:Yz v=true->wtN v<=5100/\ZY v<=51):
  Zc ZHP 7 [.agg d.cells,.str s,.agg v.cells] (.tup [Zg (Zh8 d s v),.i (YG d s v).2]):=by
 refine Zlw u d s v (Wj d 51 (Zs d s) v []) t (λh=>(ZcJ h).2.2.1) (λh T=>?_) (λh=>?_);obtain⟨hd,hv,hf,hm⟩:=ZcJ h;obtain⟨r,hvh⟩:=ZbE hv t;have o:=(WD hf).2;have i:d.msgs.getD (ixS d s) dE=Zs d s:=rfl;have:=Zgi (Zfa h) 51 (ixS d s) v [] [] o (by rw[i];exact hm) r ψ T;rw[i]at this;exact this;have:=(ZAm (d:=d) (s:=s) t).2;unfold Zh8 at this;rw[if_pos h]at this;omega
def Zac(d:D):List D:=[.any,.any,.any,.any,.any,.any,.any,d]
inductive Zmy(l:List (Str×Int))(T:St)(z:Nat):St->Prop where
 |nil (h:l=[]):Zmy l T z (T.upd z (.cells (Zac .nilsl)))
 |obj (x cap k:Nat) (hx:T x=none) (hxz:x≠z) (hc:I l<=cap):Zmy l T z ((T.upd x (.cells ((l.map KO).flatten++List.replicate k .any))).upd z (.cells (Zac (.msl x 0 (I l) cap 2))))
def WsP(l:List (Str×Int))(T:St)(r:Res)(S:St):Prop:=∃z,T z=nO/\r=.ret (.ptr z 0)/\Zmy l T z S
def Zo9{a b c d e f g h:D}:LeC [a,b,c,d,e,f,g,h] (Zac h):=.cons (Zec _) (.cons (Zec _) (.cons (Zec _) (.cons (Zec _) (.cons (Zec _) (.cons (Zec _) (.cons (Zec _) (.cons (ZHT _) .nil)))))))
def ZlA{args}{d:Dfn}{o:Wr}{path:Str}{T:St}(h:Zf ZHP 31 args T (Zvp d o path T)):Zf ZHP 31 args T (WsP o.sums T):=by
 refine Zf.weak h λr S ⟨z,mz,ob,os,sD,E,hr,hI,i⟩=>?_;obtain⟨bD,hz,hB,hne⟩:=id hI.wb;have t:T z=nO:=by
  cases e:T z with
  |none=>rfl
  |some o=>exact absurd rfl (i z o e).2.1
 have hs:=hI.s;have ab:=hI.zs;unfold wrR at hz;cases hs with
 |nil h0 =>refine⟨_,λb o' hb=>?_,z,t,hr,.nil (List.map_eq_nil_iff.1 h0)⟩;by_cases e:b=z;subst e;rw[ZHW]at hb;cases hb;exact⟨_,hz,.inr ⟨_,_,rfl,rfl,Zo9⟩⟩;rw[ZH0 _ _ e]at hb;exact⟨_,(i b o' hb).1,.inl rfl⟩
 |obj x cap X hx hX hc =>
  have u:T x=nO:=by
   cases e:T x with
   |none=>rfl
   |some o=>exact absurd rfl (i x o e).2.2.2.2
  rw[ZH4]at hc hz;refine⟨_,λb o' hb=>?_,z,t,hr,.obj x cap X.length u (λe=>ab (by rw[e])) hc⟩;by_cases e:b=z;subst e;rw[ZHW]at hb;cases hb;exact⟨_,hz,.inr ⟨_,_,rfl,rfl,Zo9⟩⟩;rw[ZH0 _ _ e]at hb;by_cases e2:b=x;subst e2;rw[ZHW]at hb;cases hb;exact⟨_,hx,.inr ⟨_,_,rfl,rfl,LeC.app (LeC.refl _) (ZuB X)⟩⟩;rw[ZH0 _ _ e2]at hb;exact⟨_,(i b o' hb).1,.inl rfl⟩
def WtS(l:List (Str×Int))(e:Int)(T:St)(r:Res)(S:St):Prop:=∃z,T z=nO/\r=.ret (.tup [.ptr z 0,.i e])/\Zmy l T z S
def Zi6(hI:Qn)(d:Dfn)(s:Str)(v:Val){o:Wr}(hs:Yz v=true->wtN v<=5100/\ZY v<=51)(hf:(YG d s v).2=0->0<=Zm d s (I d.msgs))(hw:(YG d s v).2=0->∀T,Zf ZHP 31 [.agg d.cells,.agg (Zs d s).cells,.agg v.cells,.str []] T (WsP o.sums T))(T:St):
  Zf ZHP 17 [.agg d.cells,.str s,.agg v.cells] T (WtS (if (YG d s v).2=0 then o else noW).sums (YG d s v).2 T):=by
 refine Zh (cR 17 f17) λF hF=>?_;have r:=Zi2 hI d s v hs;generalize YG d s v=R at *;obtain⟨⟨p,c⟩,e⟩:=R;simp only at r hf hw hF;have ab:Zl (λx:Msg=>dC (x.name=s)) d.msgs=Zm d s (I d.msgs):=by unfold Zm;rw[ZIb]
 rw[v.cells_eq]at r hw⊢;unfold Dfn.cells at r;refine rx @eQ2 ?_;refine rg ?_;refine cl (r) ?_;refine rg ?_;refine cd (λhe=>?_) (λhe=>?_);have i:¬e=0:=by simpa using he
 rw[if_neg i]at hF;refine rg ?_;refine xP 22 λz hz=>?_;refine Q3 (b:=z) (ZHW _ _ _) (ds':=Zac .nilsl) Zo9 ?_;rw[ZH7];exact hF.ret _ _ rfl (by first|trivial|simp) (ZHT _) ZHU ⟨z,hz,rfl,.nil rfl⟩;have i:e=0:=by simpa using he
 rw[if_pos i]at hF;have t:=hw i T;have hix:=WD (hf i);have ac:max (Zm d s (I d.msgs)) 0=ixS d s:=by have:=hf i;omega
 have u:=Zaq d s;rw[ab,ac]at u;unfold Dfn.cells at u t;unfold Zs at t;generalize ad:d.msgs.getD (ixS d s) dE=my at *;unfold Msg.cells at t;refine rg ?_;refine cl (u) ?_;refine xA (nd2 @atM (nd2 @ad @eQ3)) ?_;refine cV0 (t) ?_ ?_;rintro dd S1 ⟨z,hz,hr,hS⟩;cases hr;refine gR0 ?_;exact hF.ret _ S1 rfl (by first|trivial|simp) (ZHT _) ZHU ⟨z,hz,by rw[i];rfl,hS⟩;rintro dd S1 ⟨_,_,hr,_⟩;cases hr
def ZzJ(l:List (Str×Int))(T:St)(r:Res)(S:St):Prop:=∃z c S1,T z=nO/\Zmy l T z S1/\S1 c=nO/\r=.ret (.fn (.func 24) [] [.ptr c 0])/\S=S1.upd c (.cells [.ptr z 0])
def Zpj{d:Dfn}{s:Str}{v:Val}{l e T}(h:Zf ZHP 17 [.agg d.cells,.str s,.agg v.cells] T (WtS l e T)):Zf ZHP 12 [.agg d.cells,.str s,.agg v.cells] T (ZzJ l T):=by
 refine Zh (cR 12 f12) λF r=>?_;rw[v.cells_eq]at h⊢;unfold Dfn.cells at h;refine rx @eQ2 ?_;refine rg ?_;refine cV (h) ?_ ?_;rintro o S ⟨z,hz,i,t⟩;cases i;refine gR0 ?_;refine Zd ?_;refine xP 7 λc u=>?_;refine rg ?_;exact r.ret _ _ rfl (by first|trivial|simp) (ZHT _) ZHU ⟨z,c,S,hz,t,u,rfl,rfl⟩;rintro o S ⟨_,_,i,_⟩;cases i
def ZvE{d}(hal:Yk d=true){j v}(hj:j<I d.msgs)(h:(ZW d 51 (d.msgs.getD j dE) v []).2=0)(hv:VOk v)(T:St):
  Zf ZHP 31 [.agg d.cells,.agg (d.msgs.getD j dE).cells,.agg v.cells,.str []] T (Zvp d (Wj d 51 (d.msgs.getD j dE) v []) [] T):=by
 obtain⟨hF,hA⟩:=Zif hal (n:=50) hj h hv;have o:=ZmT hal (n:=50) (path:=[]) hj h hv ψ λx hx y hy p T r=>by obtain⟨q,t,u⟩:=hF.sub x hx y hy;exact Zgi hal 50 (ixS d y.name) y p q (by have:=WD t;omega) u ((hv.part hx).part hy) (by simp only[List.length_nil]at r;omega) T
 exact Zfw d v [] hv (by have:=hA.few;omega) (λi hi=>Zu3 hA.nm hF.right hi) o T
def ZyD(u:Qn)(d:Dfn)(s:Str)(v:Val)(t:Yz v=true->wtN v<=5100/\ZY v<=51)(T:St):
  Zf ZHP 12 [.agg d.cells,.str s,.agg v.cells] T (ZzJ (if (YG d s v).2=0 then Wj d 51 (Zs d s) v [] else noW).sums T):=by
 refine Zpj (Zi6 u d s v t (λh=>(ZcJ h).2.2.1) (λh T=>?_) T);obtain⟨hd,hv,hf,hm⟩:=ZcJ h;obtain⟨r,hvh⟩:=ZbE hv t;have o:=(WD hf).2;have i:d.msgs.getD (ixS d s) dE=Zs d s:=rfl;have:=ZvE (Zfa h) o (by rw[i];exact hm) r T;rw[i]at this;exact ZlA this
def Qg.refl{S ob}:Qg S S ob ob:=λ_ _ i o=>⟨i,o⟩
def Qg.trans{S S1 S2 ob ob1 i}(h:Qg S S1 ob ob1)(r:Qg S1 S2 ob1 i):Qg S S2 ob i:=λy o hy hn=>by
 obtain⟨t,u⟩:=h y o hy hn;exact r y o t u
def WvP(S:St)(ob:Option Nat)(b:List UInt8)(n:Nat)(sD:D)(c:Bool)(r:Res)(S':St):Prop:=∃bD ob',r=.ret (.agg [bD,.i n,sD,.bool c])/\Buf S' 1 (b.map u8C) bD ob'/\Qg S S' ob ob'
def WvP.bad{S ob b n sD c r S'}(h:WvP S ob b n sD c (.panic r) S'):False:=by
 obtain⟨_,_,i,_⟩:=h;cases i
def Zao{S:St}{ob:Option Nat}{b:List UInt8}{n:Nat}{bD sD:D}{c:Bool}(l:List UInt8)(hs:Qy sD=true)(r:Buf S 1 (b.map u8C) bD ob)(hn:(n:Int)+8*(I b+I l)<=100000000000):Zf ZHP 83 [.agg [bD,.i n,sD,.bool c],Zg l] S (WvP S ob (b++l) (n+8*I l) sD c):=by
 refine Zh (cR 83 f83) λF t=>?_;have hc0:=r.cell;refine gG ?_;refine ZaT rfl rfl (r) (by exact JA) rfl rfl φ φ (.elems rfl) (by rw[ZH4];omega) (by rw[ZH4];unfold big;omega) (by exact Ja l) (by exact JA) λs1 D1 ob1 i o=>?_;refine gR0 ?_;refine⟨i.cell,?_⟩;refine xA @Zla ?_;refine rg ?_;exact t.ret (.agg [D1,.i (n+8*I l),sD,.bool c]) s1 rfl (by first|trivial|simp) (ZHT _) ZHU ⟨D1,ob1,rfl,by rw[List.map_append];exact i,o⟩
def Zg3{S:St}{ob:Option Nat}{b:List UInt8}{n:Nat}{bD sD:D}{c:Bool}(v k:Nat)(hv:v<4611686018427387904)(hk:k<=1000)(hs:Qy sD=true)(hB:Buf S 1 (b.map u8C) bD ob)(hbo:BOk b n)(hn:n<=100000000000):Zf ZHP 80 [.agg [bD,.i n,sD,.bool c],.i v,.i k] S (WvP S ob (putS v k b n) (n+k) sD c):=by
 refine Zh (cR 80 f80) λF hF=>?_;refine rg ?_;refine gA ?_;rw[show(k:Int)-1=(k:Int)-1-((0:Nat):Int) by omega];refine Zb (fr (k) (λi Q=>∀b1 n1 u ob1 S1,Buf S1 1 (b1.map u8C) u ob1->Qg S S1 ob ob1->BOk b1 n1->n1=n+i->putS v (k-i) b1 n1=putS v k b n->i<=k->Q [(1,.d (.i v)),(3,.loc 3 0),(6,.loc 6 0),(7,.d (.i ((k:Int)-1-i)))] [(3,[u,.i n1,sD,.bool c]),(6,[.nilsl,.i 0,.nilsl,.bool false])] S1) (λn af=>?_) λa6=>?_)
 .intro i hn2 b1 n1 u ob1 S1 r ak o az hp hi;refine rg ?_;refine cd (λhd=>?_) (λhd=>?_)
  .simp only[decide_eq_true_eq]at hd;have ae:=Zit o;obtain⟨j,hj⟩:∃j,k-i=j+1:=⟨k-i-1,ω⟩;rw[hj,ZcN]at hp;rw[show(k:Int)-1-i=(j:Int) by omega];refine rg ?_;rw[Int.tmod_eq_emod_of_nonneg (show 0<=(n1:Int) by omega)];refine aa ?_;refine jU [0] (λQ=>∀ah am S2,Buf S2 1 ((ZbT b1 n1).map u8C) ah am->Qg S S2 ob am->Q F [(1,.d (.i v)),(3,.loc 3 0),(6,.loc 6 0),(7,.d (.i (j:Int)))] [(3,[ah,.i n1,sD,.bool c]),(6,[.nilsl,.i 0,.nilsl,.bool false])] S2) ?_ λj1=>?_
   .intro ah am S2 an ao;generalize ZbT b1 n1=b2 at *;have htl:v / 2 ^ j % 2<2:=Nat.mod_lt _ (by decide);have hvj:v / 2 ^ j<4611686018427387904:=Nat.lt_of_le_of_lt (Nat.div_le_self _ _) hv;have a3:WL .i64 (v:Int) (j:Int)=((v / 2 ^ j:Nat):Int):=Zlk hv j;generalize v / 2 ^ j=vj at *;have a2:(vj:Int).tmod 2=((vj % 2:Nat):Int):=by rw[Int.tmod_eq_emod_of_nonneg ω];omega
    refine xA (nd2 @a3 @a2) ?_;refine jU [0] (λQ=>∀ac ag S3,Buf S3 1 ((ZbU b2 n1 (vj % 2)).map u8C) ac ag->Qg S S3 ob ag->Q F [(1,.d (.i v)),(3,.loc 3 0),(6,.loc 6 0),(7,.d (.i (j:Int)))] [(3,[ac,.i n1,sD,.bool c]),(6,[.nilsl,.i 0,.nilsl,.bool false])] S3) ?_ λj2=>?_;intro ac ag S3 ad ax;refine gA ?_;refine gA ?_;rw[show(j:Int)-1=(k:Int)-1-((i+1:Nat):Int) by omega,show(n1:Int)+1=((n1+1:Nat):Int) by omega];refine Za ?_;exact af ((k)-(i+1)) ω (i+1) rfl (ZbU b2 n1 (vj % 2)) (n1+1) ac ag S3 ad ax (by unfold BOk ZbU;rw[List.length_set];unfold BOk at o;omega) ω (by rw[show k-(i+1)=j by omega];exact hp) ω;refine cd (λh1=>?_) (λh1=>?_)
    .simp only[decide_eq_true_eq]at h1;have ai:vj % 2=1:=ω;rw[ai]at j2;cases an with
     |nil h0 =>have:=congrArg List.length h0;rw[ZH4,ae]at this;simp at this
     |obj x cap X hx hX hc =>
      have al:(b2.map u8C).length=n1 / 8+1:=by rw[ZH4,ae]
      generalize aj:(b2.map u8C).flatten++X=cs at hx;have hqb:n1 / 8<=100000000000:=ω;have aq:(n1:Int).tdiv 8=((n1 / 8:Nat):Int):=by rw[Int.tdiv_eq_ediv_of_nonneg ω];omega
      generalize hqe:n1 / 8=q at *;have ap:q<I b2:=ω;have av:cs[q*1]?=sO (.int .u8 (b2.getD q dE).toNat):=by rw[<-aj];exact Zwl ap
      have a5:(n1:Int).tmod 8=(n1:Int) % 8:=Int.tmod_eq_emod_of_nonneg ω;have a4:QQ .u8 1 (7-((n1:Int) % 8))=((Zby n1 1).toNat:Int):=Zu8 (n:=n1) (t:=1) (by decide);refine rh ?_;refine Ye ?_;simp(maxSteps:=1000000) only[Eqs,reduceCtorEq,ZHV,reduceIte,ZHR,ZHY,ZHS,al,hx,aq,av,a5,a4,ZzP];have hpc:=(Zby n1 1).toNat_lt;have hcl:q*1+1<=I cs:=by rw[<-aj,ZHX,ZcS,ZH4];omega
      refine aa ?_;rw[Nat.mul_one];have ar:=ZoQ (X:=X) (b2.getD q dE |||Zby n1 1) ap;rw[aj]at ar;rw[ar];have a1:ZbU b2 n1 1=b2.set q (b2.getD q dE |||Zby n1 1):=by unfold ZbU;rw[ae,Nat.add_sub_cancel]
      rw[a1]at j2;have ab:((b2.set q (b2.getD q dE |||Zby n1 1)).map u8C).length=q+1:=by rw[ZH4,List.length_set,ae]
      have ad:=Buf.obj (S:=S2.upd x (.cells (((b2.set q (b2.getD q dE |||Zby n1 1)).map u8C).flatten++X))) (sz:=1) (rows:=(b2.set q (b2.getD q dE |||Zby n1 1)).map u8C) x cap X (ZHW _ _ _) (by rw[hX,al,ab]) (by rw[ab,<-al];exact hc);rw[ab]at ad;exact j2 _ _ _ ad (ao.trans λy o' hy hn=>⟨by rw[ZH0 _ _ λe=>hn (by rw[e])];exact hy,hn⟩)
    simp only[decide_eq_false_iff_not]at h1;have ai:vj % 2=0:=ω;have a0:ZbU b2 n1 (vj % 2)=b2:=by
     unfold ZbU Zby
     rw[ai,Nat.zero_mul];have:∀y:UInt8,y |||UInt8.ofNat 0=y:=λy=>by simp
     rw[this];have ay:I b2-1<I b2:=ω;apply List.ext_getElem?;intro i2;rw[List.getElem?_set];split;rename_i e;subst e;simp[ay];rfl
    refine Zo ?_;refine kE [1,3,6,7] ?_;exact j2 _ _ _ (by rw[a0];exact an) ao
   refine cd (λh8=>?_) (λh8=>?_);refine rg ?_;refine ZaT rfl rfl (r) (by exact JA) rfl rfl φ φ (.elems rfl) (by rw[ZH4];simp only[BOk]at o;omega) (by rw[ZH4];simp only[BOk]at o;unfold big;omega) (by exact Ja [0]) (by exact JA) λs1 D1 ob1 r aw=>?_;refine gR0 ?_;refine⟨r.cell,?_⟩;have au:n1 % 8=0:=by simp only[decide_eq_true_eq]at h8;omega
   exact j1 _ _ _ (by unfold ZbT;rw[if_pos au,List.map_append];exact r) (ak.trans aw);refine Zo ?_;refine kE [1,3,6,7] ?_;exact j1 _ _ _ (by unfold ZbT;rw[if_neg (by simp only[decide_eq_false_iff_not]at h8;omega)];exact r) ak
  simp only[decide_eq_false_iff_not]at hd;obtain rfl:i=k:=ω;rw[Nat.sub_self,Zgr]at hp;refine rg ?_;exact hF.ret (.agg [u,.i n1,sD,.bool c]) S1 rfl (by first|trivial|simp) (ZHT _) ZHU ⟨u,ob1,by rw[az],by rw[<-hp];exact r,ak⟩
 exact a6 _ 0 rfl b n bD ob S hB .refl hbo rfl rfl ω
def ZuS{l:List Int}:∀r∈l.map itC,I r=1:=λr i=>by
 obtain⟨x,_,rfl⟩:=List.mem_map.1 i;rfl
structure W3(st S:St)(w:Wr)(E:List Int)(bD sD eD:D)(ob os oe:Option Nat):Prop where
 b:Buf S 1 (w.b.map u8C) bD ob
 s:Buf S 2 (w.sums.map KO) sD os
 e:Buf S 1 (E.map itC) eD oe
 bs:∀x,ob=some x->os≠some x
 be:∀x,ob=some x->oe≠some x
 se:∀x,os=some x->oe≠some x
 sub:∀y o,st y=some o->S y=some o/\ob≠some y/\os≠some y/\oe≠some y
section
variable {st S S':St} {w:Wr} {E:List Int} {bD sD eD D1:D} {ob os oe ob1:Option Nat}
def W3.zero:W3 st st ⟨[],0,[]⟩ [] .nilsl .nilsl .nilsl nO nO nO :=
 ⟨.nil rfl,.nil rfl,.nil rfl,λx e=>(by cases e),λx e=>(by cases e),λx e=>(by cases e),λy o h=>⟨h,λe=>(by cases e),λe=>(by cases e),λe=>(by cases e)⟩⟩
def Zhz{a b:Option Nat}(h:∀x,a=sO x->b≠sO x):∀x,b=sO x->a≠sO x:=λx e i=>h x i e
def W3.putB(h:W3 st S w E bD sD eD ob os oe){r n'}(hB:Buf S' 1 (r.map u8C) D1 ob1)(i:Qg S S' ob ob1):W3 st S' ⟨r,n',w.sums⟩ E D1 sD eD ob1 os oe:=by
 obtain⟨t,u⟩:=h.s.fr i (Zhz h.bs);obtain⟨h3,h4⟩:=h.e.fr i (Zhz h.be);refine⟨hB,t,h3,Zhz u,Zhz h4,h.se,λy o hy=>?_⟩;obtain⟨a,b,c,d⟩:=h.sub y o hy;obtain⟨e,f⟩:=i y o a b;exact⟨e,f,c,d⟩
def W3.putS(h:W3 st S w E bD sD eD ob os oe){l'}(hB:Buf S' 2 (l'.map KO) D1 ob1)(i:Qg S S' os ob1):W3 st S' ⟨w.b,w.n,l'⟩ E bD D1 eD ob ob1 oe:=by
 obtain⟨r,t⟩:=h.b.fr i h.bs;obtain⟨u,h4⟩:=h.e.fr i (Zhz h.se);refine⟨r,hB,u,t,h.be,Zhz h4,λy o hy=>?_⟩;obtain⟨a,b,c,d⟩:=h.sub y o hy;obtain⟨e,f⟩:=i y o a c;exact⟨e,b,f,d⟩
def W3.putE(h:W3 st S w E bD sD eD ob os oe){l'}(hB:Buf S' 1 (l'.map itC) D1 ob1)(i:Qg S S' oe ob1):W3 st S' w l' bD sD D1 ob os ob1:=by
 obtain⟨r,t⟩:=h.b.fr i h.be;obtain⟨u,h4⟩:=h.s.fr i h.se;refine⟨r,u,hB,h.bs,t,h4,λy o hy=>?_⟩;obtain⟨a,b,c,d⟩:=h.sub y o hy;obtain⟨e,f⟩:=i y o a d;exact⟨e,b,c,f⟩
def W3.byt(h:W3 st S w E bD sD eD ob os oe){u t c r}(hp:WvP S ob u t sD c r S'):∃i o,r=.ret (.agg [i,.i t,sD,.bool c])/\W3 st S' ⟨u,t,w.sums⟩ E i sD eD o os oe:=by
 obtain⟨i,o,h1,h2,h3⟩:=hp;exact⟨i,o,h1,h.putB h2 h3⟩
end
def Buf.mono{S S2:St}{sz rows D0 ob}(h:Buf S sz rows D0 ob)(i:S.sub S2):Buf S2 sz rows D0 ob:=by
 cases h with
 |nil h=>exact .nil h
 |obj x cap X h hX hc=>exact .obj x cap X (i _ _ h) hX hc
def W3.mono{st S S2:St}{w:Wr}{E:List Int}{bD sD eD:D}{ob os oe:Option Nat}(h:W3 st S w E bD sD eD ob os oe)(i:S.sub S2):W3 st S2 w E bD sD eD ob os oe :=
 ⟨h.b.mono i,h.s.mono i,h.e.mono i,h.bs,h.be,h.se,λy o r=>by
  obtain⟨a,b,c,d⟩:=h.sub y o r;exact⟨i _ _ a,b,c,d⟩⟩
def Zcj{x n:Nat}(hx:x<4294967296)(u:n=16\/n=12\/n=8\/n=7):Zc ZHP 273 [.i x,.i n] (.i (Ks x n)):=by
 refine Ze (cR 273 f273) λF st i=>?_;have o:QQ .i64 (x:Int) (n:Int)=((x*2 ^ n:Nat):Int):=by
  unfold QQ;rw[Int.toNat_natCast,show Nat.min n IntKind.i64.bits=n from Nat.min_eq_left (by show n<=64;omega)]
  push_cast;rfl
 have r:WL .i64 (x:Int) (32-(n:Int))=((x / 2 ^ (32-n):Nat):Int):=by
  unfold WL;have t:(32-(n:Int)).toNat=32-n:=ω;rw[t,show Nat.min (32-n) IntKind.i64.bits=32-n from Nat.min_eq_left (by show 32-n<=64;omega),Int.fdiv_eq_ediv_of_nonneg _ (by exact_mod_cast Nat.zero_le _)]
  push_cast;rfl
 have hb:x*2 ^ n<=4294967296*65536:=Nat.mul_le_mul ω (by rcases u with rfl|rfl|rfl|rfl<;>decide);have hr:Ks x n=x*2 ^ n % 4294967296+x / 2 ^ (32-n):=rfl;have hq:x / 2 ^ (32-n)<=x:=Nat.div_le_self _ _;generalize x / 2 ^ (32-n)=q at *;generalize x*2 ^ n=p at *;have hm:((p:Nat):Int).tmod 4294967296=((p % 4294967296:Nat):Int):=by rw[Int.tmod_eq_emod_of_nonneg ω];omega
 generalize Ks x n=R at *;refine rg ?_;refine xA (nd2 @o (nd2 @r @hm)) ?_;refine ri i ?_;rw[hr];omega
def Zpz{a b c d:Nat}(h:W4 (a,b,c,d)):Zc ZHP 219 [.i a,.i b,.i c,.i d] (.tup [.i (Jg a b c d).1,.i (Jg a b c d).2.1,.i (Jg a b c d).2.2.1,.i (Jg a b c d).2.2.2]):=by
 refine Ze (cR 219 f219) λF st ab=>?_;obtain⟨la,lb,lc,ld⟩:=h;simp only at la lb lc ld;have hA:Jg a b c d=ZbI 8 7 ((a+b) % 4294967296) (Ks (b ^^^ (c+Ks (d ^^^ (a+b) % 4294967296) 16) % 4294967296) 12) ((c+Ks (d ^^^ (a+b) % 4294967296) 16) % 4294967296) (Ks (d ^^^ (a+b) % 4294967296) 16):=rfl;generalize Jg a b c d=Q at *;have ad:∀x y:Nat,((x:Int)+(y:Int)).tmod 4294967296=(((x+y) % 4294967296:Nat):Int):=λx y=>by rw[Int.tmod_eq_emod_of_nonneg ω];omega
 have hx:∀{x y:Nat},x<4294967296->y<4294967296->Qp .xor .i64 (x:Int) (y:Int)=((x ^^^ y:Nat):Int):=λh1 h2=>Zlt ω ω;have ml:∀x y:Nat,(x+y) % 4294967296<4294967296:=λx y=>Nat.mod_lt _ (by decide);have ya:=ad a b;have ac:=ml a b;generalize (a+b) % 4294967296=a1 at *;have yd:=hx ld ac;have aj:=Zdu ld ac;have ao:=Zcj aj (.inl rfl);have ak:Ks (d ^^^ a1) 16<4294967296:=ZdN aj ω;generalize d ^^^ a1=da at *;generalize Ks da 16=d1 at *;have yc:=ad c d1;have ah:=ml c d1;generalize (c+d1) % 4294967296=c1 at *;have yb:=hx lb ah;have af:=Zdu lb ah;have an:=Zcj af (.inr (.inl rfl));have ag:Ks (b ^^^ c1) 12<4294967296:=ZdN af ω;generalize b ^^^ c1=bc at *;generalize Ks bc 12=b1 at *;have r:ZbI 8 7 a1 b1 c1 d1=((a1+b1) % 4294967296,Ks (b1 ^^^ (c1+Ks (d1 ^^^ (a1+b1) % 4294967296) 8) % 4294967296) 7,(c1+Ks (d1 ^^^ (a1+b1) % 4294967296) 8) % 4294967296,Ks (d1 ^^^ (a1+b1) % 4294967296) 8):=rfl;rw[r]at hA;clear r;have ap:=ad a1 b1;have ae:=ml a1 b1;generalize (a1+b1) % 4294967296=a2 at *;have au:=hx ak ae;have o:=Zdu ak ae;have u:=Zcj o (.inr (.inr (.inl rfl)));have ld2:Ks (d1 ^^^ a2) 8<4294967296:=ZdN o ω;generalize d1 ^^^ a2=am at *;generalize Ks am 8=d2 at *;have ar:=ad c1 d2;have ai:=ml c1 d2;generalize (c1+d2) % 4294967296=c2 at *;have aq:=hx ag ai;have i:=Zdu ag ai;have t:=Zcj i (.inr (.inr (.inr rfl)));have lb2:Ks (b1 ^^^ c2) 7<4294967296:=ZdN i ω;generalize b1 ^^^ c2=al at *;generalize Ks al 7=b2 at *;subst hA;clear ad hx ml;refine rg ?_;refine xA @ya ?_;refine rx @yd ?_;refine cl (ao) ?_;refine xA @yc ?_;refine rx @yb ?_;refine cl (an) ?_;refine xA @ap ?_;refine rx @au ?_;refine cl (u) ?_;refine xA @ar ?_;refine rx @aq ?_;refine cl (t) ?_;refine rg ?_;refine rt ab ?_;rfl
def ZzK{L s}(l i):qv L s (.iaddr 1) [.d (Wi l),.d (.i i)]=sO (0<=i/\i<I l,.d (.ep (itC (l.getD i.toNat dE)) 0)):=rfl
def Zxj{L s}(l):qv L s .lenL [.d (Wi l)]=sO (True,.d (.i (I l))):=rfl
def Zj8{l:List Int}{n:Int}(hl:∀i,i<I l->0<=l.getD i dE/\l.getD i dE<4294967296)(hn:n=I l)(hb:I l<=1000000):Zc ZHP 218 [Wi l,.i n] (.bool true):=by
 refine Ze (cR 218 f218) λF st r=>?_;subst hn;refine gG ?_;refine Zb (fr (I l) (λi Q=>i<=I l->Q [(0,.d (Wi l)),(1,.d (.i (I l))),(5,.d (.i i))] [] st) (λn o=>?_) λt=>?_);intro i hn hi;refine rx @Zxj ?_;refine cd (λu=>?_) (λu=>?_);simp only[decide_eq_true_eq]at u;have hx:=hl i ω;refine rx (nd2 @ZzK @itC.eq_1) ?_;generalize l.getD i dE=x at *;refine aa ?_;rw[show(dC (x<0) ||decide (4294967296<=x))=false by simp;omega];refine i0 ?_;refine gA ?_;refine Za ?_;exact o ((I l)-(i+1)) ω (i+1) rfl ω;simp only[decide_eq_false_iff_not]at u;obtain rfl:i=I l:=ω;refine rx @Zxj ?_;refine rb r ?_;simp;exact t _ 0 rfl ω
def Zbr(n:Nat):D:=.i n
def ZwV(k c:Nat):(ZH5 16).flatMap (Yd 13 (Yd 12 (Yd 4 (ZI [D.int IntKind.i64 0] ([0,1,2,3].zip [D.int IntKind.i64 1634760805,D.int IntKind.i64 857760878,D.int IntKind.i64 2036477234,D.int IntKind.i64 1797285236])) λi=>itC ((List.replicate 8 (k:Int)).getD i dE)) (ZI [D.int IntKind.i64 0] ([0].zip [D.int IntKind.i64 (c:Int)]))) λi=>itC (([0,0,0]:List Int).getD i dE))=(Kf k c).map Zbr:=rfl
def ZjR{s:List Nat}{X:List D}{q}(h:q<I s):(s.map Zbr++X)[q*1]?=sO (.i (s.getD q 0:Nat)):=by
 rw[Nat.mul_one,ZIm (by rw[ZH4];exact h),List.getElem?_map];simp[ZH6,h,Zbr]
def Zk8{s:List Nat}{X:List D}{q}(y:Nat)(h:q<I s):(s.map Zbr++X).take (q*1)++[.i (y:Int)]++(s.map Zbr++X).drop (q*1+1)=(s.set q y).map Zbr++X:=by
 rw[Nat.mul_one,List.take_append_of_le_length (by rw[ZH4];omega),<-List.map_take,List.drop_append_of_le_length (by rw[ZH4];omega),<-List.map_drop,<-ZIh]
 congr 1
 rw[List.set_eq_take_append_cons_drop,if_pos h];simp[Zbr]
def ZBu(k c i:Nat)(hi:i<16):(Zbs k c).getD i dE=((Kf k c).getD i 0:Nat):=by
 rcases(by omega:i=0\/i=1\/i=2\/i=3\/i=4\/i=5\/i=6\/i=7\/i=8\/i=9\/i=10\/i=11\/i=12\/i=13\/i=14\/i=15) with rfl|rfl|rfl|rfl|rfl|rfl|rfl|rfl|rfl|rfl|rfl|rfl|rfl|rfl|rfl|rfl<;>rfl
def ZyG(k c:Nat){tk}:(D.sl tk 16 1 (Yd 13 (Yd 12 (Yd 4 (ZI [D.int IntKind.i64 0] ([0,1,2,3].zip [D.int IntKind.i64 1634760805,D.int IntKind.i64 857760878,D.int IntKind.i64 2036477234,D.int IntKind.i64 1797285236])) λi=>itC ((List.replicate 8 (k:Int)).getD i dE)) (ZI [D.int IntKind.i64 0] ([0].zip [D.int IntKind.i64 (c:Int)]))) λi=>itC (([0,0,0]:List Int).getD i dE))).Le (Wi (Zbs k c)):=Zca rfl λi hi=>by
 rcases(by omega:i=0\/i=1\/i=2\/i=3\/i=4\/i=5\/i=6\/i=7\/i=8\/i=9\/i=10\/i=11\/i=12\/i=13\/i=14\/i=15) with rfl|rfl|rfl|rfl|rfl|rfl|rfl|rfl|rfl|rfl|rfl|rfl|rfl|rfl|rfl|rfl<;>rfl
structure Zo4(st:St)(z:Nat)(cs:List D)(S:St)(ob:Option Nat):Prop where
 obj:S z=some (.cells cs)
 zn:ob≠some z
 sub:∀y o,st y=some o->S y=some o/\ob≠some y
def Zo4.step{st z cs S ob S' i}(h:Zo4 st z cs S ob)(r:Qg S S' ob i):Zo4 st z cs S' i :=
 ⟨(r z _ h.obj h.zn).1,(r z _ h.obj h.zn).2,λy o t=>r y o (h.sub y o t).1 (h.sub y o t).2⟩
def Ztb{k c:Nat}(hk:k<4294967296)(hc:c<4294967296):Zc ZHP 167 [Wi (List.replicate 8 (k:Int)),Wi [0,0,0],.i c] (.tup [Zg (Zbh (Kf k c)),.i 0]):=by
 refine Ze (cR 167 f167) λF st ak=>?_;have h8:=Zj8 (l:=List.replicate 8 (k:Int)) (n:=8) (λi hi=>by
  rw[List.length_replicate]at hi;have:(List.replicate 8 (k:Int)).getD i dE=k:=by simp only[ZH6];rw[List.getElem?_replicate,if_pos hi];rfl
  rw[this];omega) ψ ψ
 have h3:=Zj8 (l:=[0,0,0]) (n:=3) (λi hi=>by
  have:i=0\/i=1\/i=2:=by simp at hi;omega
  rcases this with rfl|rfl|rfl<;>decide) ψ ψ
 have am:=ZuU hk hc;obtain⟨R,hR⟩:∃R,∀_:Unit,Zg4 10 (Kf k c)=R:=⟨_,λ_=>rfl⟩;have hRS:S16 R:=by rw[<-hR ()];exact am.rnd
 have hB:Zbh (Kf k c)=Zdh R (Kf k c) 16:=by unfold Zbh;rw[hR ()]
 rw[hB]at ak;have a2:=ZBu k c;have a1:(Zbs k c).length=16:=rfl;refine gG ?_;refine cl (h8) ?_;refine cG (h3) ?_;rw[show(dC ((c:Int)<0) ||decide (4294967296<=(c:Int)))=false by simp;omega];refine iG ?_;refine Y2 (st) (.full) rfl rfl rfl rfl rfl rfl φ φ rfl (by first|trivial|assumption) (by (simp)) (by (unfold big;simp)) λt1 ht1=>Zk ?_;simp only[Eqs,reduceCtorEq,ZHV,reduceIte,ZHR,ZHY,ZHS];refine rg ?_;refine Y2 (st) (t1) rfl rfl rfl rfl rfl rfl φ φ rfl (by first|trivial|assumption) (by (simp)) (by (unfold big;simp)) λt2 ht2=>Zk ?_;simp only[Eqs,reduceCtorEq,ZHV,reduceIte,ZHR,ZHY,ZHS];refine Y2 (st) (t2) rfl rfl rfl rfl rfl rfl φ φ rfl (by first|trivial|assumption) (by (simp)) (by (unfold big;simp)) λt3 bn=>Zk ?_;simp only[Eqs,reduceCtorEq,ZHV,reduceIte,ZHR,ZHY,ZHS];simp only[List.length_replicate,ZH3,List.length_nil,ZHY];refine rg ?_;refine ZkT rfl rfl rfl rfl rfl rfl φ φ (by decide) (by decide) (by decide) λz zc hz hcz=>Zk ?_;simp only[Eqs,reduceCtorEq,ZHV,reduceIte,ZHR,ZHY,ZHS];rw[ZwV];have bo:st z=nO:=(Zy9 hz).1;generalize hX:List.replicate ((zc-(4+8+1+3))*1) D.any=X;refine Ww (s':=st.upd z (.cells ((Kf k c).map Zbr++X))) (λy o hy=>?_) ?_;by_cases e:y=z;subst e;rw[ZHW]at hy⊢;exact hy;rw[ZH0 _ _ e]at hy⊢;exact Yj bn _ _ hy;refine kl ((st.upd z (.cells ((Kf k c).map Zbr++X)))) [(8,.d (Wi (Zbs k c))),(9,.d (.msl z 0 16 zc 1))] [] (.cons (.d (ZyG k c)) (.cons (.d (ZHT _)) .nil)) Y6 ?_;refine rg ?_;refine Zb (fr (10) (λi Q=>∀s1,S16 s1->Zg4 (10-i) s1=R->i<=10->Q [(8,.d (Wi (Zbs k c))),(9,.d (.msl z 0 16 zc 1)),(10,.d (.i i))] [] (st.upd z (.cells (s1.map Zbr++X)))) (λn ai=>?_) λbq=>?_)
 .intro i hn s1 ag hp hi;refine rg ?_;refine cd (λhd=>?_) (λhd=>?_);simp only[decide_eq_true_eq]at hd;rw[show 10-i=(10-(i+1))+1 by omega,ZqE]at hp;obtain⟨R2,al⟩:∃R2,∀_:Unit,Zeu 8 0 s1=R2:=⟨_,λ_=>rfl⟩;have bk:S16 R2:=by rw[<-al ()];exact ag.dbl
  rw[al ()]at hp;refine rg ?_;refine Zb (fr (8) (λq Q=>∀s2,S16 s2->Zeu (8-q) q s2=R2->q<=8->Q [(8,.d (Wi (Zbs k c))),(9,.d (.msl z 0 16 zc 1)),(10,.d (.i i)),(11,.d (.i q))] [] (st.upd z (.cells (s2.map Zbr++X)))) (λn ac=>?_) λay=>?_);intro q hn2 s2 r ab hq;refine rg ?_;refine cd (λan=>?_) (λan=>?_);simp only[decide_eq_true_eq]at an;have bj:q<8:=ω;have bc:(q:Int).tmod 4=((q % 4:Nat):Int):=by rw[Int.tmod_eq_emod_of_nonneg ω];omega
  have be:((q:Int)+1).tmod 4=(((q+1) % 4:Nat):Int):=by rw[Int.tmod_eq_emod_of_nonneg ω];omega
  have bf:((q:Int)+2).tmod 4=(((q+2) % 4:Nat):Int):=by rw[Int.tmod_eq_emod_of_nonneg ω];omega
  have bg:((q:Int)+3).tmod 4=(((q+3) % 4:Nat):Int):=by rw[Int.tmod_eq_emod_of_nonneg ω];omega
  refine xA @bc ?_;refine rg ?_;refine jU [0] (λQ =>  Q F [(8,.d (Wi (Zbs k c))),(9,.d (.msl z 0 16 zc 1)),(10,.d (.i i)),(11,.d (.i q)),(12,.d (.i (qA q))),(13,.d (.i (qB q))),(14,.d (.i (qC q))),(15,.d (.i (qD q)))] [] (st.upd z (.cells (s2.map Zbr++X)))) ?_ λjq=>?_;have hS:=r.1;have hq4:=Zpx (a:=s2.getD (qA q) 0) (b:=s2.getD (qB q) 0) (c:=s2.getD (qC q) 0) (d:=s2.getD (qD q) 0) ⟨r.at_ _,r.at_ _,r.at_ _,r.at_ _⟩;have ax:=Zpz (a:=s2.getD (qA q) 0) (b:=s2.getD (qB q) 0) (c:=s2.getD (qC q) 0) (d:=s2.getD (qD q) 0) ⟨r.at_ _,r.at_ _,r.at_ _,r.at_ _⟩;obtain⟨la,lb,lc,ld⟩:=ZBD bj;have ra:=ZjR (s:=s2) (X:=X) (q:=qA q) ω;have rb:=ZjR (s:=s2) (X:=X) (q:=qB q) ω;have rc:=ZjR (s:=s2) (X:=X) (q:=qC q) ω;have rd:=ZjR (s:=s2) (X:=X) (q:=qD q) ω;have ah:qSt q s2=(((s2.set (qA q) (Jg (s2.getD (qA q) 0) (s2.getD (qB q) 0) (s2.getD (qC q) 0) (s2.getD (qD q) 0)).1).set (qB q) (Jg (s2.getD (qA q) 0) (s2.getD (qB q) 0) (s2.getD (qC q) 0) (s2.getD (qD q) 0)).2.1).set (qC q) (Jg (s2.getD (qA q) 0) (s2.getD (qB q) 0) (s2.getD (qC q) 0) (s2.getD (qD q) 0)).2.2.1).set (qD q) (Jg (s2.getD (qA q) 0) (s2.getD (qB q) 0) (s2.getD (qC q) 0) (s2.getD (qD q) 0)).2.2.2:=rfl;have aq:=r.q q;rw[show 8-q=(8-(q+1))+1 by omega,Zqa]at ab;generalize qA q=a at *;generalize qB q=b at *;generalize qC q=cc at *;generalize qD q=d at *;generalize Jg (s2.getD a 0) (s2.getD b 0) (s2.getD cc 0) (s2.getD d 0)=y at *;obtain⟨y1,y2,y3,y4⟩:=y;simp only at ah ax;rw[ah]at ab aq;have e1:=Zk8 (s:=s2) (X:=X) y1 (show a<I s2 by omega);have e2:=Zk8 (s:=s2.set a y1) (X:=X) y2 (show b<_ by rw[List.length_set];omega);have e3:=Zk8 (s:=(s2.set a y1).set b y2) (X:=X) y3 (show cc<_ by rw[List.length_set,List.length_set];omega);have e4:=Zk8 (s:=((s2.set a y1).set b y2).set cc y3) (X:=X) y4 (show d<_ by rw[List.length_set,List.length_set,List.length_set];omega);have u:∀l:List Nat,I l=16->(l.map Zbr++X).length=16+X.length:=λl hl=>by rw[ZHX,ZH4,hl]
  have a6:=u s2 hS;have a7:=u (s2.set a y1) (by rw[List.length_set,hS]);have a8:=u ((s2.set a y1).set b y2) (by rw[List.length_set,List.length_set,hS]);have a9:=u (((s2.set a y1).set b y2).set cc y3) (by rw[List.length_set,List.length_set,List.length_set,hS]);refine rh ?_;refine Ye ?_;simp(maxSteps:=1000000) only[Eqs,reduceCtorEq,ZHV,reduceIte,ZHR,ZHY,ZHS,ZHW,ra,rb,rc,rd];repeat(refine ZHZ (by first|omega|trivial|(intro h0;simp at h0;omega)) ?_)
  refine ZhU rfl rfl rfl rfl rfl φ φ (by exact ax) (Ye ?_);simp(maxSteps:=1000000) only[Eqs,reduceCtorEq,ZHV,reduceIte,ZHR,ZHY,ZHS,ZHW,ZH7,e1,e2,e3,e4,a6,a7,a8,a9];refine aa ?_;rw[<-ah];rw[<-ah]at ab aq;refine gA ?_;refine Za ?_;exact ac ((8)-(q+1)) ω (q+1) rfl (qSt q s2) aq ab ω;refine cd (λh4=>?_) (λh4=>?_);simp only[decide_eq_true_eq]at h4;refine xA (nd2 @be (nd2 @bf @bg)) ?_;rw[show((q % 4:Nat):Int)=((qA q:Nat):Int) from rfl,show(4:Int)+(((q+1) % 4:Nat):Int)=((qB q:Nat):Int) by unfold qB;rw[if_neg ω];omega,show(8:Int)+(((q+2) % 4:Nat):Int)=((qC q:Nat):Int) by unfold qC;rw[if_neg ω];omega,show(12:Int)+(((q+3) % 4:Nat):Int)=((qD q:Nat):Int) by unfold qD;rw[if_neg ω];omega];exact jq;simp only[decide_eq_false_iff_not]at h4;refine Zo ?_;refine kE [8,9,10,11,12,13,14,15] ?_;rw[show(4:Int)+((q % 4:Nat):Int)=((qB q:Nat):Int) by unfold qB;rw[if_pos ω];omega,show(8:Int)+((q % 4:Nat):Int)=((qC q:Nat):Int) by unfold qC;rw[if_pos ω];omega,show(12:Int)+((q % 4:Nat):Int)=((qD q:Nat):Int) by unfold qD;rw[if_pos ω];omega,show((q % 4:Nat):Int)=((qA q:Nat):Int) from rfl];exact jq;simp only[decide_eq_false_iff_not]at an;obtain rfl:q=8:=ω;rw[Nat.sub_self,Zqb]at ab;subst ab;refine gA ?_;refine Za ?_;exact ai ((10)-(i+1)) ω (i+1) rfl _ bk hp ω;exact ay _ 0 rfl _ ag (al ()) ω;simp only[decide_eq_false_iff_not]at hd;obtain rfl:i=10:=ω;rw[Nat.sub_self,ZqF]at hp;subst hp;refine gG ?_;have a3:Zo4 st z (s1.map Zbr++X) (st.upd z (.cells (s1.map Zbr++X))) nO:=⟨ZHW _ _ _,λe=>(by cases e),λy o hy=>⟨by rw[ZH0 _ _ λe=>by rw[e,bo]at hy;cases hy];exact hy,λe=>(by cases e)⟩⟩;refine Zb (fr (16) (λj Q=>∀D1 ob S1,Buf S1 1 ((Zdh s1 (Kf k c) j).map u8C) D1 ob->Zo4 st z (s1.map Zbr++X) S1 ob->j<=16->Q [(8,.d (Wi (Zbs k c))),(9,.d (.msl z 0 16 zc 1)),(16,.d D1),(17,.d (.i j))] [] S1) (λn ad=>?_) λaz=>?_)
  .intro j hn3 D1 ob S1 af hO hj;refine rg ?_;refine cd (λao=>?_) (λao=>?_);simp only[decide_eq_true_eq]at ao;have aj:j<16:=ω;have rj:=ZjR (s:=s1) (X:=X) (q:=j) (by rw[ag.1];exact aj);have r2:=a2 j aj;have bp:=hO.obj;have l1:=ag.at_ j;have l2:=am.at_ j;have bl:Zdh s1 (Kf k c) (j+1)=Zdh s1 (Kf k c) j++leW ((s1.getD j 0+(Kf k c).getD j 0) % 4294967296):=rfl;have hol:=ZfH (R:=s1) (s:=Kf k c) (n:=j);refine rx (nd2 @bp (nd2 @rj (nd2 @ZzK (nd2 @itC.eq_1 (nd2 @r2 @a1))))) ?_;have bi:(((s1.getD j 0:Nat):Int)+(((Kf k c).getD j 0:Nat):Int)).tmod 4294967296=(((s1.getD j 0+(Kf k c).getD j 0) % 4294967296:Nat):Int):=by rw[Int.tmod_eq_emod_of_nonneg ω];omega
   rw[bi];have lv:(s1.getD j 0+(Kf k c).getD j 0) % 4294967296<4294967296:=Nat.mod_lt _ (by decide);generalize (s1.getD j 0+(Kf k c).getD j 0) % 4294967296=v at *;refine aa ?_;refine rg ?_;generalize Zdh s1 (Kf k c) j=o0 at *;refine Zb (fr (4) (λt Q=>∀D2 ar S2,Buf S2 1 ((o0++(leW v).take t).map u8C) D2 ar->Zo4 st z (s1.map Zbr++X) S2 ar->t<=4->Q [(8,.d (Wi (Zbs k c))),(9,.d (.msl z 0 16 zc 1)),(16,.d D2),(17,.d (.i j)),(18,.d (.i ((v / 256 ^ t:Nat):Int))),(19,.d (.i t))] [] S2) (λn ae=>?_) λa0=>?_);intro t hn4 D2 ar S2 av aw ht;refine rg ?_;refine cd (λap=>?_) (λap=>?_);simp only[decide_eq_true_eq]at ap;have ht4:t<4:=ω;have bb:(leW v).take (t+1)=(leW v).take t++[UInt8.ofNat (v / 256 ^ t)]:=by rcases(by omega:t=0\/t=1\/t=2\/t=3) with rfl|rfl|rfl|rfl;show[UInt8.ofNat v]=[UInt8.ofNat (v / 1)];rw[Nat.div_one];rfl;rfl;rfl
   have hlv:v / 256 ^ t<=v:=Nat.div_le_self _ _;have ba:v / 256 ^ (t+1)=v / 256 ^ t / 256:=by rw[Nat.pow_succ,Nat.div_div_eq_div_mul]
   have hll:((leW v).take t).length<=4:=by rw[ZIa];show min t 4<=4;omega
   generalize v / 256 ^ t=vt at *;have bh:(vt:Int).tmod 256=((vt % 256:Nat):Int):=by rw[Int.tmod_eq_emod_of_nonneg ω];omega
   have a4:(vt:Int).tdiv 256=((vt / 256:Nat):Int):=by rw[Int.tdiv_eq_ediv_of_nonneg ω];omega
   have hu:IntKind.u8.wrap ((vt % 256:Nat):Int)=((UInt8.ofNat vt).toNat:Int):=by rw[UInt8.toNat_ofNat'];have h1:∀n:Nat,IntKind.u8.wrap (n:Int)=(n:Int) % 256:=λn=>rfl;rw[h1];omega
   refine xA (nd2 @bh @hu) ?_;refine ZaT rfl rfl (av) (by exact JA) rfl rfl φ φ (.elems rfl) (by rw[ZH4,ZHX];omega) (by rw[ZH4,ZHX];unfold big;omega) (by (show _=[u8C (UInt8.ofNat vt)];rfl)) (by exact JA (l:=[_])) λs1 D1 ob1 af a5=>?_;refine gR0 ?_;refine xA @a4 ?_;refine gA ?_;rw[ba.symm];refine Za ?_;exact ae ((4)-(t+1)) ω (t+1) rfl _ _ _ (by rw[bb,<-ZIh,List.map_append];exact af) (aw.step a5) ω;simp only[decide_eq_false_iff_not]at ap;obtain rfl:t=4:=ω;refine gA ?_;refine Za ?_;exact ad ((16)-(j+1)) ω (j+1) rfl _ _ _ (by rw[bl];exact av) aw ω;have au:=a0 _ 0 rfl D1 ob S1 (by rw[List.take_zero,ZIj];exact af) hO ω;rw[Nat.pow_zero,Nat.div_one]at au;exact au;simp only[decide_eq_false_iff_not]at ao;obtain rfl:j=16:=ω;refine ZG rfl (Zd ?_);refine kE [16] ?_;refine Zga (T:=st) af (λy o hy=>(hO.sub y o hy).1) (λy e=>by
    cases hy:st y with
    |none=>rfl
    |some o=>exact absurd e (hO.sub y o hy).2) ?_
   refine rg ?_;refine rt ak ?_;rfl
  exact az _ 0 rfl _ _ _ (.nil rfl) a3 ω
 exact bq _ 0 rfl _ am (hR ()) ω
def ZB2(a:Int):(D.sl .full 8 1 (ZI [.i 0] ([0,1,2,3,4,5,6,7].zip [.i a,.i a,.i a,.i a,.i a,.i a,.i a,.i a]))).Le (Wi (List.replicate 8 a)):=Zca rfl λi hi=>by
 rcases(by omega:i=0\/i=1\/i=2\/i=3\/i=4\/i=5\/i=6\/i=7) with rfl|rfl|rfl|rfl|rfl|rfl|rfl|rfl<;>rfl
def ZBZ:(D.sl .full 3 1 (ZI [.i 0] ([0,1,2].zip [.i 0,.i 0,.i 0]))).Le (Wi [0,0,0]):=Zca rfl λi hi=>by
 rcases(by omega:i=0\/i=1\/i=2) with rfl|rfl|rfl<;>rfl
def ZzF(l:List UInt8):(ZH5 (I l)).flatMap (λi=>u8C (l.getD i dE))=(l.map u8C).flatten:=by rw[<-Ja l,List.flatMap_def]
def ZvY{k:Nat}(hk:k<4294967296)(hk0:k≠0)(b:List UInt8)(hb:I b<=1000000000):Zc ZHP 130 [.i k,.i 0,Zg b] (.tup [Zg (Qr k b),.i 0]):=by
 refine Ze (cR 130 f130) λF st t=>?_;have am:Qr k b=J3 k 0 b:=by unfold Qr;rw[if_neg hk0]
 rw[am]at t;have e1:((dC ((k:Int)<0) ||decide (4294967296<=(k:Int))) ||decide ((0:Int)<0))=false:=by simp;omega
 have e2:(dC ((274877906944:Int)<0) ||decide (274877906944<(0:Int)+(I b:Int)))=false:=by simp;omega
 have e3:dC ((k:Int)=0)=false:=by simp;omega
 refine gG ?_;rw[e1];refine i0 ?_;refine xA @Zla ?_;rw[e2];refine i0 ?_;by_cases ai:I b=0;have al:b=[]:=List.eq_nil_of_length_eq_zero ai;subst al;refine rg ?_;refine Y2 (st) (.full) rfl rfl rfl rfl rfl rfl φ φ rfl (by first|trivial|assumption) (by (simp)) (by (unfold big;simp)) λt1 ar=>Zk ?_;simp only[Eqs,reduceCtorEq,ZHV,reduceIte,ZHR,ZHY,ZHS];refine rg ?_;rw[e3];refine iG ?_;refine gG ?_;refine Zb (Qm ?_);refine rx @Zla ?_;refine iG ?_;exact t rfl (by first|trivial|simp) (Zdz rfl (.cons ((Zy.nil (f:=u8C)).le rfl) (LeC.refl _))) (Yj ar)
 skip
 refine rg ?_;refine ZkT rfl rfl rfl rfl rfl rfl φ φ ω ω (by unfold big;omega) λz zc hz an=>Zk ?_;simp only[Eqs,reduceCtorEq,ZHV,reduceIte,ZHR,ZHY,ZHS];rw[ZzF];generalize hX:List.replicate ((zc-I b)*1) D.any=X;refine rg ?_;rw[e3];refine iG ?_;refine gG ?_;refine kl ((st.upd z (.cells ((b.map u8C).flatten++X)))) [(1,.d (.i 0)),(2,.d (Zg b)),(8,.d (.msl z 0 (I b) zc 1)),(9,.d (Wi (List.replicate 8 (k:Int)))),(10,.d .nilsl),(11,.d (.i 0))] [] (.skip (.skip (.skip (.cons (.d (ZB2 k)) (.skip (.skip .nil)))))) Y6 ?_;refine Zb (fr (I b) (λi Q=>∀bl,(i≠0->bl=Zg (Zbh (Kf k ((i-1) / 64))))->i<=I b->Q [(1,.d (.i 0)),(2,.d (Zg b)),(8,.d (.msl z 0 (I b) zc 1)),(9,.d (Wi (List.replicate 8 (k:Int)))),(10,.d bl),(11,.d (.i i))] [] (st.upd z (.cells (((Qw k b i).map u8C).flatten++X)))) (λn u=>?_) λav=>?_);intro i hn bl ad hi;refine rx @Zla ?_;refine cd (λhd=>?_) (λhd=>?_);simp only[decide_eq_true_eq]at hd;have ae:i<I b:=ω;have af:(0+(i:Int)).tmod 64=((i % 64:Nat):Int):=by rw[Int.zero_add,Int.tmod_eq_emod_of_nonneg ω];omega
 have ao:(0+(i:Int)).tdiv 64=((i / 64:Nat):Int):=by rw[Int.zero_add,Int.tdiv_eq_ediv_of_nonneg ω];omega
 refine gA ?_;refine xA @af ?_;refine jU [0] (λQ =>  Q F [(1,.d (.i 0)),(2,.d (Zg b)),(8,.d (.msl z 0 (I b) zc 1)),(9,.d (Wi (List.replicate 8 (k:Int)))),(10,.d (Zg (Zbh (Kf k (i / 64))))),(11,.d (.i i)),(12,.d (.i (0+(i:Int))))] [] (st.upd z (.cells (((Qw k b i).map u8C).flatten++X)))) ?_ λjb=>?_;have hat:=ZuY (k:=k) ae;have ah:=ZsK (k:=k) ae;have hml:(Qw k b i).length=I b:=ZsJ;have aq:ZiN k i=(Zbh (Kf k (i / 64))).getD (i % 64) dE:=rfl;have ak:(Zbh (Kf k (i / 64))).length=64:=ZfH;rw[aq]at ah;generalize ac:Zbh (Kf k (i / 64))=bk at *;have hm64:i % 64<64:=Nat.mod_lt _ (by decide);generalize i % 64=r at *;have hcl:i+1<=(((Qw k b i).map u8C).flatten++X).length:=by rw[ZHX,ZcS,ZH4];omega
 have ag:=ZoQ (b:=Qw k b i) (X:=X) (b.getD i dE ^^^ bk.getD r dE) (q:=i) ω;rw[ah]at ag;have au:=Zx5 (b.getD i dE) (bk.getD r dE);refine xA (nd2 @ZgL (nd2 @u8C.eq_1 (nd2 @af (nd2 @ak (nd2 @ZHW (nd2 @au (nd2 @ZH7 @Nat.mul_one))))))) ?_;rw[ag];refine gA ?_;refine Za ?_;exact u ((I b)-(i+1)) ω (i+1) rfl (Zg bk) (λ_=>by rw[Nat.add_sub_cancel,ac]) ω;refine cd (λhb=>?_) (λhb=>?_);refine xA @ao ?_;refine Ze8 rfl rfl rfl rfl rfl φ φ (by exact Zf.leA (.cons (ZHT _) (.cons ZBZ (.cons (ZHT _) .nil))) (Ztb hk (show i / 64<4294967296 by omega) _)) ?_ ?_;rintro dd S ⟨hr,hS⟩;obtain rfl:=hS.symm;cases hr;refine gR0 ?_;exact jb;rintro dd S ⟨hr,_⟩;cases hr;have aj:i≠0/\i % 64≠0:=by simp only[Bool.or_eq_false_iff,decide_eq_false_iff_not]at hb;omega
 rw[show(i-1) / 64=i / 64 by omega]at ad;rw[ad aj.1];refine Zo ?_;refine kE [1,2,8,9,10,11,12] ?_;exact jb;simp only[decide_eq_false_iff_not]at hd;obtain rfl:i=I b:=ω;have ap:Qw k b (I b)=J3 k 0 b:=by unfold Qw;rw[ZIb,List.drop_length,ZIj]
 rw[ap];have ab:((J3 k 0 b).map u8C).length=I b:=by rw[ZH4,ZcD]
 have hB:=Buf.obj (S:=st.upd z (.cells (((J3 k 0 b).map u8C).flatten++X))) (sz:=1) (rows:=(J3 k 0 b).map u8C) z zc X (ZHW _ _ _) (by rw[ab,<-hX,List.length_replicate]) (by rw[ab];exact an);rw[ab]at hB;refine ZG rfl (Zd ?_);refine kE [8] ?_;refine Zga (T:=st) hB (λy o hy=>by rw[ZH0 _ _ λe=>by rw[e,hz]at hy;cases hy];exact hy) (λy e=>by cases e;exact hz) ?_;refine rg ?_;refine rt t ?_;rfl;have h0:=av _ 0 rfl .nilsl (λh=>absurd rfl h) ω;rw[show Qw k b 0=b by unfold Qw;rw[List.take_zero,List.drop_zero];rfl]at h0;exact h0
def Zrh{k:Nat}(hk:k<4294967296)(b:List UInt8)(hb:I b<=1000000000):Zc ZHP 87 [.i k,Zg b] (Zg (Qr k b)):=by
 refine Ze (cR 87 f87) λF st o=>?_;have u:=Qr.eq_1 k b;refine gG ?_;refine cd (λh=>?_) (λh=>?_);rw[if_pos (by simp at h;omega)]at u;rw[u]at o;refine rg ?_;refine Y2 (st) (.full) rfl rfl rfl rfl rfl rfl φ φ rfl (by first|trivial|assumption) ω (by (unfold big;omega)) λt1 t=>Zk ?_;simp only[Eqs,reduceCtorEq,ZHV,reduceIte,ZHR,ZHY,ZHS];have r:Zy u8C (Yd 0 (ZI [.int .u8 0] ([].zip [])) λi=>u8C (b.getD i dE)) ([]++b):=Zy.nil.app Zy.self rfl;exact o rfl (by first|trivial|simp) (K1 (r.le ψ)) (Yj t);refine rg ?_;have c9:=ZvY hk (by simp at h;omega) b hb;refine cl (c9) ?_;refine rg ?_;refine ro o ?_;rfl
def Zta(l:List UInt8)(hl:I l<=4611686018427387904):Zc ZHP 128 [Zg l] (.i ((WC 1 0 l).2*65536+(WC 1 0 l).1)):=by
 refine Ze (cR 128 f128) λF st r=>?_;have t:=ZeL (l:=l) (a:=1) (b:=0) ω ω;refine gG ?_;refine rg ?_;refine Zb (fr (I l) (λi Q=>∀e g,WC e g (l.drop i)=WC 1 0 l->(0<=e/\e<65521)->(0<=g/\g<65521)->i<=I l->Q [(0,.d (Zg l)),(3,.d (.i e)),(4,.d (.i g)),(5,.d (.i i))] [] st) (λn o=>?_) λab=>?_);intro i hn2 e g hw he hg hi;refine rx @Wc ?_;refine cd (λhd=>?_) (λhd=>?_);simp only[decide_eq_true_eq]at hd;have hx:=(l.getD i dE).toNat_lt;rw[Yf (show i<I l by omega),WC]at hw;have u:IntKind.i64.wrap ((l.getD i dE).toNat:Int)=(l.getD i dE).toNat:=Wn ω;refine rx (nd2 @ZgL (nd2 @u8C.eq_1 @u)) ?_;generalize (l.getD i dE).toNat=x at *;rw[Int.tmod_eq_emod_of_nonneg (show 0<=e+(x:Int) by omega)];refine aa ?_;generalize he2:(e+(x:Int)) % 65521=e2 at *;refine rg ?_;rw[Int.tmod_eq_emod_of_nonneg (show 0<=g+e2 by omega)];refine aa ?_;refine gA ?_;refine Za ?_;exact o ((I l)-(i+1)) ω (i+1) rfl _ _ hw ω ω ω;simp only[decide_eq_false_iff_not]at hd;obtain rfl:i=I l:=ω;rw[List.drop_length,WC]at hw;rw[<-hw]at t r;refine gA ?_;refine ri r ?_;show 65536*g+e=g*65536+e;omega;exact ab _ 0 rfl 1 0 ψ ω ω ω
def ZdS(i:Int):List UInt8->Int
 | []=>0
 |x::r=>(if i % 2=0 then (x.toNat:Int)*256 else x.toNat)+ZdS (i+1) r
def Znb:∀{l:List UInt8} {i:Int},0<=ZdS i l/\ZdS i l<=65280*(I l:Int)
 | [],_=>by simp[ZdS]
 |x::r,i=>by have h:=Znb (l:=r) (i:=i+1);have:=x.toNat_lt;simp only[ZdS,ZH3];split<;>omega
def nfS(t:Int):Int:=if t=0 then 0 else (t-1) % 65535+1
def Zxt{t u:Int}(ht:0<=t)(hu:0<=u):nfS (nfS t+u)=nfS (t+u):=by
 by_cases h:t=0;subst h;rw[show nfS 0=0 from rfl];have i:nfS t=(t-1) % 65535+1:=if_neg h;rw[i];unfold nfS;rw[if_neg ω,if_neg ω];omega
def Zu0{t:Int}(ht:0<=t):nfS (t % 65536+t / 65536)=nfS t:=by
 unfold nfS;split<;>split<;>omega
def ZsL{t:Int}(ht:0<=t/\t<=65535):nfS t=t:=by
 unfold nfS;split<;>omega
def ZtC:∀{l:List UInt8} {a i:Int},0<=a/\a<65536->KL a i l=nfS (a+ZdS i l)
 | [],a,_,h=>by rw[KL,ZdS,Int.add_zero,ZsL ω]
 |x::r,a,i,h=>by
  have hx:=x.toNat_lt;have o:=Znb (l:=r) (i:=i+1);rw[KL,ZdS];generalize t:(if i % 2=0 then (x.toNat:Int)*256 else x.toNat)=y;have hy2:0<=y/\y<=65280:=by rw[<-t];split<;>omega
  rw[ZtC ω,<-Zxt ω o.1,Zu0 ω,Zxt ω o.1]
  congr 1;omega
def Zt4(l:List UInt8)(hl:I l<=70368744177664):Zc ZHP 126 [Zg l] (.i (65535-KL 0 0 l)):=by
 refine Ze (cR 126 f126) λF st t=>?_;have hW:=ZtC (l:=l) (a:=0) (i:=0) ω;rw[Int.zero_add]at hW;have hT:=Znb (l:=l) (i:=0);generalize KL 0 0 l=W at *;refine gG ?_;refine rg ?_;refine Zb (fr (I l) (λi Q=>∀e,e+ZdS i (l.drop i)=ZdS 0 l->0<=e/\e<=65280*(i:Int)->i<=I l->Q [(0,.d (Zg l)),(3,.d (.i e)),(4,.d (.i i))] [] st) (λn o=>?_) λac=>?_)
 .intro i hn2 e hw he hi;refine rx @Wc ?_;refine cd (λhd=>?_) (λhd=>?_);simp only[decide_eq_true_eq]at hd;have hx:=(l.getD i dE).toNat_lt;rw[Yf (show i<I l by omega),ZdS]at hw;have u:IntKind.i64.wrap ((l.getD i dE).toNat:Int)=(l.getD i dE).toNat:=Wn ω;refine rg ?_;rw[Int.tmod_eq_emod_of_nonneg (show 0<=(i:Int) by omega)];refine aa ?_;refine cd (λh2=>?_) (λh2=>?_);simp only[decide_eq_true_eq]at h2;rw[if_pos h2]at hw;refine xA (nd2 @ZgL (nd2 @u8C.eq_1 @u)) ?_;refine gA ?_;refine Za ?_;exact o ((I l)-(i+1)) ω (i+1) rfl _ (by rw[<-hw];push_cast;omega) ω ω;simp only[decide_eq_false_iff_not]at h2;rw[if_neg h2]at hw;refine xA (nd2 @ZgL (nd2 @u8C.eq_1 @u)) ?_;refine gA ?_;refine Za ?_;exact o ((I l)-(i+1)) ω (i+1) rfl _ (by rw[<-hw];push_cast;omega) ω ω;simp only[decide_eq_false_iff_not]at hd;obtain rfl:i=I l:=ω;rw[List.drop_length,ZdS,Int.add_zero]at hw;subst hw;refine ZG rfl (Zd (Zb ?_));refine kE [3] ?_;refine lpU (λQ=>∀(k:Nat) (s:Int),s<k->0<=s->s<=4611686018427387904->nfS s=W->Q F [(3,.d (.i s))] [] st) ?_ λab=>?_
  .intro k;induction k with
   |zero=>intro s h;omega
   |succ k ih =>
   intro s hk r hs1 hs;refine rg ?_;refine cd (λh3=>?_) (λh3=>?_);simp only[decide_eq_true_eq]at h3;refine rg ?_;rw[Int.tmod_eq_emod_of_nonneg r,Int.tdiv_eq_ediv_of_nonneg r];refine aa ?_;refine Zi (Za ?_);exact ih _ ω ω ω (by rw[Zu0 r];exact hs);simp only[decide_eq_false_iff_not]at h3;rw[ZsL ω]at hs;subst hs;refine gA ?_;refine ri t ?_;rfl
  exact ab (ZdS 0 l+1).toNat _ ω ω ω hW.symm
 exact ac _ 0 rfl 0 ψ ω ω
def ZA0{r y:Nat}:(r ^^^ y)*2=(r*2) ^^^ (y*2):=by
 have:(r ^^^ y) <<< 1=(r <<< 1) ^^^ (y <<< 1):=Nat.shiftLeft_xor_distrib ..;simpa[Nat.shiftLeft_eq]using this
def ZAZ{a b:Nat}(ha:a<2)(hb:b<2):a ^^^ b=(a+b) % 2:=by
 have i:a=0\/a=1:=ω;have o:b=0\/b=1:=ω;rcases i with rfl|rfl<;>rcases o with rfl|rfl<;>rfl
def ZyC{r y:Nat}(hr:r<65536)(hy:y<65536):Zft (r ^^^ y)=(if (r / 32768+y / 32768) % 2=1 then 2*r % 65536 ^^^ 4129 else 2*r % 65536) ^^^ (2*y % 65536):=by
 have i:(r ^^^ y)*2=(r*2) ^^^ (y*2):=ZA0;have o:((r*2) ^^^ (y*2)) % 65536=(r*2 % 65536) ^^^ (y*2 % 65536):=Nat.xor_mod_two_pow (n:=16);have u:(r ^^^ y) / 32768=(r / 32768) ^^^ (y / 32768):=Nat.xor_div_two_pow (n:=15);rw[ZAZ (a:=r / 32768) (b:=y / 32768) ω ω]at u;have h4:r ^^^ y<65536:=Nat.xor_lt_two_pow (n:=16) hr hy;unfold Zft;have t:(65536<=(r ^^^ y)*2)=((r / 32768+y / 32768) % 2=1):=by apply propext;omega
 have hm:∀c:Nat,c<65536->¬65536<=c*2->c*2=c*2 % 65536:=ω;simp only[t,Nat.mul_comm 2];split;rw[i,o,Nat.xor_assoc,Nat.xor_assoc,Nat.xor_comm 4129];rename_i h;rw[<-t]at h;rw[hm _ h4 h,i,o]
def ZbK(x j:Nat):Nat:=x*2 ^ j % 256*256
def ZyZ{x j:Nat}:ZbK x j<65536:=by unfold ZbK;omega
def Zxi{x j:Nat}(hx:x<256)(hj:j<=7):ZbK x j / 32768=x / 2 ^ (7-j) % 2:=by
 have h:j=0\/j=1\/j=2\/j=3\/j=4\/j=5\/j=6\/j=7:=ω;unfold ZbK;rcases h with rfl|rfl|rfl|rfl|rfl|rfl|rfl|rfl<;>simp<;>omega
def ZvI{x j:Nat}:2*ZbK x j % 65536=ZbK x (j+1):=by
 unfold ZbK;have h:x*2 ^ (j+1)=x*2 ^ j*2:=by rw[Nat.pow_succ,Nat.mul_assoc]
 rw[h];generalize x*2 ^ j=t;omega
def Zxh(x:Nat):ZbK x 8=0:=by unfold ZbK;omega
def ZvJ{x:Nat}(hx:x<256):ZbK x 0=x*256:=by unfold ZbK;omega
def ZvX(l:List UInt8)(hl:I l<=4611686018427387904):Zc ZHP 127 [Zg l] (.i (Zcn 8 65535 l:Nat)):=by
 refine Ze (cR 127 f127) λF st t=>?_;have ai:=Zpi (n:=8) (l:=l) (a:=65535) (by decide);obtain⟨R,hR⟩:∃R,EqN (Zcn 8 65535 l) R:=⟨_,⟨rfl⟩⟩;rw[hR.h]at ai t;refine gG ?_;refine rg ?_;refine Zb (fr (I l) (λi Q=>∀(e:Nat),EqN (Zcn 8 e (l.drop i)) R->e<65536->i<=I l->Q [(0,.d (Zg l)),(3,.d (.i e)),(4,.d (.i i))] [] st) (λn u=>?_) λao=>?_);intro i hn2 e hw he hi;refine rx @Wc ?_;refine cd (λhd=>?_) (λhd=>?_);simp only[decide_eq_true_eq]at hd;have hx:=(l.getD i dE).toNat_lt;rw[Yf (show i<I l by omega),ZjE]at hw;have an:IntKind.i64.wrap ((l.getD i dE).toNat:Int)=(l.getD i dE).toNat:=Wn ω;have hz:EqN (ZdD 8 (e ^^^ ZbK (l.getD i dE).toNat 0)) (ZdD 8 (e ^^^ (l.getD i dE).toNat*256)):=⟨by rw[ZvJ ω]⟩;have ac:=λj (hj:j<=7)=>Zxi (x:=(l.getD i dE).toNat) (j:=j) ω hj;refine rg ?_;refine Zb (fr (8) (λj Q=>∀(g:Nat),EqN (ZdD (8-j) (g ^^^ ZbK (l.getD i dE).toNat j)) (ZdD 8 (e ^^^ (l.getD i dE).toNat*256))->g<65536->j<=8->Q [(0,.d (Zg l)),(3,.d (.i g)),(4,.d (.i i)),(5,.d (.i (7-(j:Int))))] [] st) (λn r=>?_) λaf=>?_);intro j hn3 g o hg hj;refine rg ?_;refine cd (λab=>?_) (λab=>?_);simp only[decide_eq_true_eq]at ab;have ah:j<=7:=ω;rw[show 8-j=(8-(j+1))+1 by omega,Zqd,ZyC hg ZyZ,ac j ah,ZvI]at o;have aj:WL .i64 ((l.getD i dE).toNat:Int) (7-(j:Int))=(((l.getD i dE).toNat / 2 ^ (7-j):Nat):Int):=by unfold WL;rw[Int.fdiv_eq_ediv_of_nonneg _ (by exact_mod_cast Nat.zero_le _),show(7-(j:Int)).toNat=7-j by omega,show Nat.min (7-j) IntKind.i64.bits=7-j from Nat.min_eq_left (show 7-j<=64 by omega)];simp
 have hle:(l.getD i dE).toNat / 2 ^ (7-j)<=255:=ZIy (Nat.div_le_self _ _) ω;generalize (l.getD i dE).toNat / 2 ^ (7-j)=s at *;have ak:((g:Int)).tdiv 32768=((g / 32768:Nat):Int):=by rw[Int.tdiv_eq_ediv_of_nonneg ω];omega
 have al:((s:Int)).tmod 2=((s % 2:Nat):Int):=by rw[Int.tmod_eq_emod_of_nonneg ω];omega
 have ag:((2:Int)*(g:Int)).tmod 65536=((2*g % 65536:Nat):Int):=by rw[Int.tmod_eq_emod_of_nonneg ω];omega
 have am:(((g / 32768:Nat):Int)+((s % 2:Nat):Int)).tmod 2=(((g / 32768+s % 2) % 2:Nat):Int):=by rw[Int.tmod_eq_emod_of_nonneg ω];omega
 have ae:Qp .xor .i64 ((2*g % 65536:Nat):Int) 4129=((2*g % 65536 ^^^ 4129:Nat):Int):=Zlt (m:=4129) ω ω;have ad:2*g % 65536 ^^^ 4129<65536:=Nat.xor_lt_two_pow (n:=16) (Nat.mod_lt _ (by decide)) (by decide);obtain⟨y,hy⟩:∃y,2*g % 65536 ^^^ 4129=y:=⟨_,rfl⟩;rw[hy]at ae ad o;clear hy;refine xA (nd2 @ZgL (nd2 @u8C.eq_1 (nd2 @an (nd2 @aj (nd2 @ak @al))))) ?_;refine xA @ag ?_;refine xA @am ?_;refine cd (λhc=>?_) (λhc=>?_);simp only[decide_eq_true_eq]at hc;rw[if_pos ω]at o;refine rx @ae ?_;refine gA ?_;rw[show(7:Int)-(j:Int)-1=7-((j+1:Nat):Int) by omega];refine Za ?_;exact r ((8)-(j+1)) ω (j+1) rfl _ o ad ω;simp only[decide_eq_false_iff_not]at hc;rw[if_neg ω]at o;refine gA ?_;rw[show(7:Int)-(j:Int)-1=7-((j+1:Nat):Int) by omega];refine Za ?_;exact r ((8)-(j+1)) ω (j+1) rfl _ o ω ω;simp only[decide_eq_false_iff_not]at ab;obtain rfl:j=8:=ω;rw[Nat.sub_self,Zqe,Zxh,Nat.xor_zero]at o;rw[<-o.h]at hw;refine gA ?_;refine Za ?_;exact u ((I l)-(i+1)) ω (i+1) rfl _ hw hg ω;exact af _ 0 rfl e hz he ω;simp only[decide_eq_false_iff_not]at hd;obtain rfl:i=I l:=ω;rw[List.drop_length,Zsl]at hw;rw[<-hw.h]at t;refine rg ?_;refine ri t ?_;rfl;exact ao _ 0 rfl 65535 hR ω ω
def ZvW{n:Int}(h:n=1\/n=2\/n=3)(l:List UInt8)(hl:I l<=70368744177664):Zc ZHP 85 [.i n,Zg l] (.tup [.i (Zaf n l),.i 0]):=by
 refine Ze (cR 85 f85) λF st i=>?_;have h1:=Zt4 l hl;have h2:=ZvX l ω;have h3:=Zta l ω;have t:n=1->Zaf n l=65535-KL 0 0 l:=λh=>by subst h;rfl
 have u:n=2->Zaf n l=(Zcn 8 65535 l:Nat):=λh=>by subst h;rfl
 have e3:n=3->Zaf n l=(WC 1 0 l).2*65536+(WC 1 0 l).1:=λh=>by subst h;rfl
 generalize 65535-KL 0 0 l=s1 at *;generalize ((Zcn 8 65535 l:Nat):Int)=s2 at *;generalize (WC 1 0 l).2*65536+(WC 1 0 l).1=s3 at *;generalize Zaf n l=s at *;refine gG ?_;refine rg ?_;refine cd (λo=>?_) (λo=>?_);simp only[decide_eq_true_eq]at o;rw[t o]at i;refine rg ?_;refine cl (h1) ?_;refine rt i ?_;rfl;simp only[decide_eq_false_iff_not]at o;refine rg ?_;refine cd (λr=>?_) (λr=>?_);simp only[decide_eq_true_eq]at r;rw[u r]at i;refine rg ?_;refine cl (h2) ?_;refine rt i ?_;rfl;simp only[decide_eq_false_iff_not]at r;rw[e3 ω]at i;refine rg ?_;refine Zj rfl trivial (λ_=>?_) (λh=>by simp at h;omega);refine rg ?_;refine cl (h3) ?_;refine rt i ?_;rfl
def Zt3{n:Int}(h:n=1\/n=2\/n=3):Zc ZHP 129 [.i n] (.tup [.i (Wm n),.i 0]):=by
 refine Ze (cR 129 f129) λF st i=>?_;have u:n≠3->Wm n=16:=λh=>if_neg h;have e2:n=3->Wm n=32:=λh=>if_pos h;refine gG ?_;refine rg ?_;refine cd (λo=>?_) (λo=>?_);simp only[decide_eq_true_eq]at o;rw[u ω]at i;refine Zo ?_;refine cd (λt=>?_) (λt=>?_);refine rg ?_;refine rt i ?_;rfl;simp at t;omega;simp only[decide_eq_false_iff_not]at o;refine rg ?_;refine cd (λr=>?_) (λr=>?_);simp only[decide_eq_true_eq]at r;rw[u ω]at i;refine rg ?_;refine rt i ?_;rfl;simp only[decide_eq_false_iff_not]at r;rw[e2 ω]at i;refine rg ?_;refine Zj rfl trivial (λ_=>?_) (λh=>by simp at h;omega);refine rg ?_;refine rt i ?_;rfl
def Zs9{n v:Int}(h:n=1\/n=2\/n=3)(hv:0<=v)(hv2:v<4294967296)(hv3:n≠3->v<65536):Zc ZHP 86 [.i n,.i v] (.tup [Zg (KM n v),.i 0]):=by
 refine Ze (cR 86 f86) λF st u=>?_;have hB:=Zt3 h;obtain⟨N,hN,hN2,ae,ad⟩:∃N:Nat,Wm n=8*(N:Int)/\N<=4/\(KM n v).length=N/\∀i,i<N->(KM n v).take (i+1)=(KM n v).take i++[Ku v (8*(N-1-i))]:=by by_cases e:n=3;refine⟨4,by subst e;rfl,ω,by unfold KM;rw[if_pos e];rfl,λi hi=>?_⟩;unfold KM;rw[if_pos e];have:i=0\/i=1\/i=2\/i=3:=ω;rcases this with rfl|rfl|rfl|rfl<;>rfl;refine⟨2,if_neg e,ω,by unfold KM;rw[if_neg e];rfl,λi hi=>?_⟩;unfold KM;rw[if_neg e];have:i=0\/i=1:=ω;rcases this with rfl|rfl<;>rfl
 have ag:QQ .i64 1 (8*(N:Int))=if n=3 then 4294967296 else 65536:=by rw[<-hN];rcases h with rfl|rfl|rfl<;>rfl
 rw[hN]at hB;generalize hC:KM n v=C at *;refine gG ?_;refine cl (hB) ?_;refine rx @ag ?_;refine⟨λ_=>by split<;>omega,?_⟩;have hc:(dC (v<0) ||decide ((if n=3 then (4294967296:Int) else 65536)<=v))=false:=by rw[Bool.or_eq_false_iff,decide_eq_false_iff_not,decide_eq_false_iff_not];split<;>omega
 rw[hc];refine iG ?_;rw[show 8*(N:Int)=8*((N:Int)-((0:Nat):Int)) by omega];refine kl (st) [(1,.d (.i v)),(6,.d (.i (8*((N:Int)-((0:Nat):Int))))),(8,.d (.sl .full 0 1 λ_=>[]))] [] (.cons (.d (ZHT _)) (.cons (.d (ZHT _)) (.cons (.d (Z1 λb h=>by cases h)) .nil))) Y6 ?_;refine Zd (Zb (fr (N) (λi Q=>∀tk row o,tk.okIn st->Zy byC row o->o=C.take i->i<=N->Q [(1,.d (.i v)),(6,.d (.i (8*((N:Int)-(i:Int))))),(8,.d (.sl tk (I o) 1 row))] [] (st.own tk (I o*1))) (λn t=>?_) λak=>?_));intro i hn tk row o aj ab ho hi;have hol:I o=i:=by rw[ho,ZIa];omega
 refine rg ?_;refine cd (λh2=>?_) (λh2=>?_);simp only[decide_eq_true_eq]at h2;have af:i<N:=ω;have h3:=ad i af;rw[<-ho]at h3;obtain⟨k,hk⟩:∃k,8*(N-1-i)=k:=⟨_,rfl⟩;rw[hk]at h3;have e6:8*((N:Int)-(i:Int))-8=(k:Int):=ω;have hk4:k<=24:=ω;have ah:WL .i64 v (k:Int)=v / 2 ^ k:=by unfold WL;rw[Int.fdiv_eq_ediv_of_nonneg _ (by exact_mod_cast Nat.zero_le _)];simp[IntKind.bits,Nat.min_eq_left (show k<=64 by omega)]
 have hu:IntKind.u8.wrap ((v / 2 ^ k).tmod 256)=((Ku v k).toNat:Int):=by rw[<-ZhM hv k,Int.tmod_eq_emod_of_nonneg (Int.ediv_nonneg hv (Int.pow_nonneg (by decide)))];show(v / 2 ^ k % 256) % 256=v / 2 ^ k % 256;omega
 have hq:0<=v / 2 ^ k:=Int.ediv_nonneg hv (Int.pow_nonneg (by decide));have hq2:v / 2 ^ k<=v:=Int.ediv_le_self _ hv;have hqm:0<=(v / 2 ^ k).tmod 256/\(v / 2 ^ k).tmod 256<256:=by rw[Int.tmod_eq_emod_of_nonneg hq];omega
 generalize Ku v k=x at *;generalize v / 2 ^ k=q at *;refine xA @e6 ?_;refine xA (nd2 @ah @hu) ?_;refine Y2 (st) (tk) rfl rfl rfl rfl rfl rfl φ φ rfl (by first|trivial|assumption) ω (by (unfold big;omega)) λt1 ai=>Zk ?_;simp only[Eqs,reduceCtorEq,ZHV,reduceIte,ZHR,ZHY,ZHS];have ac:Zy byC (Yd (I o) row (ZI [D.int IntKind.u8 0] ([0].zip [D.int IntKind.u8 (x.toNat:Int)]))) (o++[x]):=ab.snoc (x:=x) rfl rfl;have r:=t (N-(i+1)) ω (i+1) rfl t1 _ (o++[x]) ai ac h3.symm ω;rw[ZHX,show 8*((N:Int)-((i+1:Nat):Int))=(k:Int) by omega]at r;refine Zi ?_;refine Za ?_;exact r;simp only[decide_eq_false_iff_not]at h2;obtain rfl:i=N:=ω;rw[<-ae,ZIb]at ho;rw[<-ho]at u;refine rg ?_;exact u rfl ψ (Zdz rfl (.cons (ab.le rfl) (LeC.refl _))) (Yj aj);exact ak _ 0 rfl .full _ [] trivial Zy.nil rfl ω
def ZhE(v:Int):Zc ZHP 124 [.i v] (.bool (dC (0<=v)&&dC (v<34359738368))):=by
 refine Ze (cR 124 f124) λF st i=>?_;refine gG ?_;refine rb i ?_;rfl
def Zj4{v k j}(h:j<=k):(Zg0 v k).take j=Zg0 v j:=by
 unfold Zg0;rw[<-List.map_take,List.take_range,Nat.min_eq_left h]
def Zw4{v k i}(h:i<k):(YW v k).take (i+1)=(YW v k).take i++[Zdd v i]:=by
 unfold YW;rw[List.take_append_of_le_length (by rw[QN];omega),List.take_append_of_le_length (by rw[QN];omega),Zj4 h,Zj4 ω,ZqC]
def Zw3{v k}:(YW v k).take (k+1)=(YW v k).take k++[Zd2 v k]:=by
 unfold YW;rw[List.take_of_length_le (by rw[ZHX,QN];exact ZH9 _),List.take_append_of_le_length (by rw[QN];omega),Zj4 ω]
def Zsr{v k}:(YW v k).length=k+1:=by
 unfold YW;rw[ZHX,QN];rfl
def Zt2{v k:Nat}(hv:v<34359738368)(hk:k<=4):Zc ZHP 82 [.i v,.i ((k+1:Nat):Int)] (.tup [Zg (YW v k),.bool (dC (Yc v (k+1)=0))]):=by
 refine Ze (cR 82 f82) λF st ad=>?_;have h0:Yc v 0=v:=by simp[Yc]
 have am:=Qk v;have ae:=λi (h:i<k)=>Zw4 (v:=v) h;have ab:=Zw3 (v:=v) (k:=k);have ag:=Zsr (v:=v) (k:=k);have al:∀i,Yc v i<34359738368:=λi=>Nat.lt_of_le_of_lt (Nat.div_le_self _ _) hv;have aj:∀i,(Zd2 v i).toNat=Yc v i % 128:=λi=>by unfold Zd2;rw[UInt8.toNat_ofNat'];omega
 have ak:∀i,(Zdd v i).toNat=Yc v i % 128+128:=λi=>by unfold Zdd;rw[UInt8.toNat_ofNat'];omega
 generalize YW v k=C at *;refine gG ?_;refine rg ?_;rw[<-h0];refine kl (st) [(0,.d (.i (Yc v 0:Nat))),(1,.d (.i ((k+1:Nat):Int))),(6,.d (.sl .full 0 1 λ_=>[])),(7,.d (.i (0:Nat)))] [] (.cons (.d (ZHT _)) (.cons (.d (ZHT _)) (.cons (.d (Z1 λb h=>by cases h)) (.cons (.d (ZHT _)) .nil)))) Y6 ?_;refine Zb (fr ((k+1)) (λi Q=>∀tk row o,tk.okIn st->Zy byC row o->o=C.take i->i<=k+1->Q [(0,.d (.i (Yc v i:Nat))),(1,.d (.i ((k+1:Nat):Int))),(6,.d (.sl tk (I o) 1 row)),(7,.d (.i (i:Nat)))] [] (st.own tk (I o*1))) (λn u=>?_) λar=>?_);intro i hn tk row o ap ac ho hi;have hol:I o=i:=by rw[ho,ZIa];omega
 have hri:=al i;have ah:=aj i;have ai:=ak i;have an:=am i;refine rg ?_;refine cd (λh2=>?_) (λh2=>?_);simp only[decide_eq_true_eq]at h2;have aq:((Yc v i:Nat):Int).tmod 128=((Yc v i % 128:Nat):Int):=by rw[Int.tmod_eq_emod_of_nonneg ω];omega
 have ao:((Yc v i:Nat):Int).tdiv 128=((Yc v (i+1):Nat):Int):=by rw[an,Int.tdiv_eq_ediv_of_nonneg ω];omega
 refine xA @aq ?_;refine xA @ao ?_;refine gA ?_;refine cd (λh3=>?_) (λh3=>?_);simp only[decide_eq_true_eq]at h3;have h4:=ae i ω;rw[<-ho]at h4;have hu:IntKind.u8.wrap (((Yc v i % 128:Nat):Int)+128)=((Zdd v i).toNat:Int):=by rw[ai,show((Yc v i % 128:Nat):Int)+128=((Yc v i % 128+128:Nat):Int) by omega,ZcT ω]
 generalize Zdd v i=x at *;refine gA ?_;refine rx @hu ?_;refine Y2 (st) (tk) rfl rfl rfl rfl rfl rfl φ φ rfl (by first|trivial|assumption) ω (by (unfold big;omega)) λt1 af=>Zk ?_;simp only[Eqs,reduceCtorEq,ZHV,reduceIte,ZHR,ZHY,ZHS];have t:Zy byC (Yd (I o) row (ZI [D.int IntKind.u8 0] ([0].zip [D.int IntKind.u8 (x.toNat:Int)]))) (o++[x]):=ac.snoc (x:=x) rfl rfl;have r:=u (k+1-(i+1)) ω (i+1) rfl t1 _ (o++[x]) af t h4.symm ω;rw[ZHX]at r;refine gA ?_;refine Za ?_;exact r;simp only[decide_eq_false_iff_not]at h3;obtain rfl:i=k:=ω;rw[<-ho]at ab;have hu:IntKind.u8.wrap ((Yc v i % 128:Nat):Int)=((Zd2 v i).toNat:Int):=by rw[ah,ZcT ω]
 generalize Zd2 v i=x at *;refine rx @hu ?_;refine Y2 (st) (tk) rfl rfl rfl rfl rfl rfl φ φ rfl (by first|trivial|assumption) ω (by (unfold big;omega)) λt1 af=>Zk ?_;simp only[Eqs,reduceCtorEq,ZHV,reduceIte,ZHR,ZHY,ZHS];have t:Zy byC (Yd (I o) row (ZI [D.int IntKind.u8 0] ([0].zip [D.int IntKind.u8 (x.toNat:Int)]))) (o++[x]):=ac.snoc (x:=x) rfl rfl;have r:=u (i+1-(i+1)) ω (i+1) rfl t1 _ (o++[x]) af t ab.symm ω;rw[ZHX]at r;refine gA ?_;refine Za ?_;exact r;simp only[decide_eq_false_iff_not]at h2;obtain rfl:i=k+1:=ω;rw[<-ag,ZIb]at ho;rw[<-ho]at ad;refine rg ?_;exact ad rfl ψ (Zdz rfl (.cons (ac.le rfl) (.cons (by simp;exact ZHT _) .nil))) (Yj ap);exact ar _ 0 rfl .full _ [] trivial Zy.nil rfl ω
def lsC(b:List UInt8):List D:=[Zg b]
def ZB6{L s}(l i):qv L s (.iaddr 1) [.d (slD 1 lsC l),.d (.i i)]=sO (0<=i/\i<I l,.d (.ep (lsC (l.getD i.toNat dE)) 0)):=rfl
def ZmU(v i:Nat):List (List UInt8):=((ZH5 i).filter λj=>dC (Z5 v<=j)).map (YW v)
def ZjM(v i):ZmU v (i+1)=ZmU v i++(if Z5 v<=i then [YW v i] else []):=by
 unfold ZmU;rw[List.range_succ,List.filter_append,List.map_append]
 congr 1
 split;rename_i h;rw[List.filter_cons_of_pos (by simpa using h)];rfl;rename_i h;rw[List.filter_cons_of_neg (by simpa using h)];rfl
def ZyL{v i}(h:i<=Z5 v):ZmU v i=[]:=by
 induction i with
 |zero=>rfl
 |succ i ih=>rw[ZjM,ih ω,if_neg ω];rfl
def Zw2{v i}(h:Z5 v<i):∃l,ZmU v i=YW v (Z5 v)::l:=by
 induction i with
 |zero=>omega
 |succ i ih =>rw[ZjM];by_cases e:Z5 v=i;rw[ZyL ω,if_pos ω,e];exact⟨[],rfl⟩;obtain⟨l,o⟩:=ih ω;rw[o];exact⟨_,rfl⟩
def Zs7{v:Nat}(hv:v<34359738368):Zc ZHP 125 [.i v] (slD 1 lsC (ZmU v 5)):=by
 refine Ze (cR 125 f125) λF st ac=>?_;have hA:=ZhE (v:Int);rw[show(dC ((0:Int)<=v)&&dC ((v:Int)<34359738368))=true by simp;omega]at hA;have hF:=λk (h:k<=4)=>Zt2 (v:=v) (k:=k) hv h;have hL:=ZjM v;have af:∀i,i<5->(dC (Yc v (i+1)=0)=dC (Z5 v<=i)):=λi hi=>by have h1:=ZmW hv hi;have h2:=Qk v i;apply decide_eq_decide.2;rw[<-h1,h2];omega
 refine gG ?_;refine rg ?_;refine kl (st) [(0,.d (.i v)),(3,.d (.sl .full 0 1 λ_=>[])),(4,.d (.i ((0+1:Nat):Int)))] [] (.cons (.d (ZHT _)) (.cons (.d (Z1 λb h=>by cases h)) (.cons (.d (ZHT _)) .nil))) Y6 ?_;refine Zb (fr (5) (λi Q=>∀tk row o,tk.okIn st->Zy lsC row o->o=ZmU v i->I o<=i->i<=5->Q [(0,.d (.i v)),(3,.d (.sl tk (I o) 1 row)),(4,.d (.i ((i+1:Nat):Int)))] [] (st.own tk (I o*1))) (λn t=>?_) λai=>?_);intro i hn tk row o ag ab ho hol hi;have u:=hL i;rw[<-ho]at u;by_cases h5:i<5;have hg:dC (((i+1:Nat):Int)<=5)=true:=decide_eq_true ω;have ae:=hF i ω;rw[af i h5]at ae;refine rx @hg ?_;refine cG (hA) ?_;refine i1 ?_;refine rg ?_;refine cl (ae) ?_;refine rg ?_;refine cd (λh6=>?_) (λh6=>?_);simp only[decide_eq_true_eq]at h6;rw[if_pos h6]at u;generalize YW v i=C at *;refine rg ?_;refine⟨rfl,?_⟩;refine Y2 (st) (tk) rfl rfl rfl rfl rfl rfl φ φ rfl (by first|trivial|assumption) ω (by (unfold big;omega)) λt1 ah=>Zk ?_;simp only[Eqs,reduceCtorEq,ZHV,reduceIte,ZHR,ZHY,ZHS];have ad:Zy lsC (Yd (I o) row (ZI [.nilsl] ([0].zip [Zg C]))) (o++[C]):=ab.snoc (x:=C) rfl rfl;have r:=t (5-(i+1)) ω (i+1) rfl t1 _ (o++[C]) ah ad u.symm (by simp;omega) ω;rw[ZHX]at r;refine gA ?_;refine Za ?_;exact r;simp only[decide_eq_false_iff_not]at h6;rw[if_neg h6,ZIj]at u;have r:=t (5-(i+1)) ω (i+1) rfl tk row o ag ab u.symm ω ω;refine gA ?_;refine Za ?_;exact r
 skip
 obtain rfl:i=5:=ω;have hg:dC (((5+1:Nat):Int)<=5)=false:=rfl;refine rx @hg ?_;refine Jv rfl (e:=.d (.bool false)) (Zk ?_);simp only[Eqs,reduceCtorEq,ZHV,reduceIte,ZHR,ZHY,ZHS];refine iG ?_;rw[<-ho]at ac;exact ac rfl ψ (ab.le rfl) (Yj ag);exact ai _ 0 rfl .full _ [] trivial Zy.nil rfl ψ ω
def Zs8{v:Nat}(u:v<34359738368):Zc ZHP 81 [.i v] (.tup [Zg (YW v (Z5 v)),.i 0]):=by
 refine Ze (cR 81 f81) λF st o=>?_;have r:=ZhE (v:Int);rw[show(dC ((0:Int)<=v)&&dC ((v:Int)<34359738368))=true by simp;omega]at r;have t:=Zs7 u;obtain⟨l,hl⟩:=Zw2 (v:=v) (i:=5) (by have:=Zk7 u;omega);rw[hl]at t;refine gG ?_;refine cl (r) ?_;refine iG ?_;refine cX (nd2 @ZB6 @lsC.eq_1) (t) ?_;refine⟨ω,ψ,?_⟩;refine rt o ?_;rfl
def Zzg{pre c:List UInt8}{n}:ZbT (pre++c) (8*I pre+n)=pre++ZbT c n:=by
 unfold ZbT;rw[show(8*I pre+n) % 8=n % 8 by omega];split;rw[ZIh];rfl
def Zzi{pre c:List UInt8}{n t}(hc:0<I c):ZbU (pre++c) (8*I pre+n) t=pre++ZbU c n t:=by
 unfold ZbU Zby
 have i:(8*I pre+n) % 8=n % 8:=ω;have o:(pre++c).length-1=I pre+(I c-1):=by rw[ZHX];omega
 have r:(pre++c).getD (I pre+(I c-1)) dE=c.getD (I c-1) dE:=by simp only[ZH6];rw[ZIw ω,Nat.add_sub_cancel_left]
 rw[i,o,r];simp[List.set_append]
def ZsZ{v}{pre:List UInt8}:∀{k c n},BOk c n->putS v k (pre++c) (8*I pre+n)=pre++putS v k c n
 |0,_,_,_=>rfl
 |k+1,c,n,h=>by have h1:=Zit h;rw[ZcN,ZcN,Zzg,Zzi ω,Nat.add_assoc];exact ZsZ (ZsY h)
def Zxz(v:Fin 256):putS v.val 8 [] 0=[UInt8.ofNat v.val]:=by
 revert v;decide +kernel
def ZBC{v:Nat}(i:v<256)(b:List UInt8):putS v 8 b (8*I b)=b++[UInt8.ofNat v]:=by
 have h:=ZsZ (v:=v) (pre:=b) (k:=8) (c:=[]) (n:=0) rfl;rw[ZIj,Nat.add_zero]at h;rw[h,Zxz ⟨v,i⟩]
def wrC(w:Wr):List D:=[Zg w.b,.i w.n,Wu w.sums,.bool false]
def ZvR{v i:Nat}{b:List UInt8}:putS (v / 2 ^ (8*i) % 256) 8 b (8*I b)=b++[UInt8.ofNat (v / 2 ^ (8*i))]:=by
 rw[ZBC (Nat.mod_lt _ (by decide))]
 congr 2
 apply UInt8.toNat.inj;rw[UInt8.toNat_ofNat',UInt8.toNat_ofNat'];omega
def Zzj(k b n):putS 0 (k+1) b n=putS 0 k (putS 0 1 b n) (n+1):=by
 rw[ZcN,ZcN,Zgr,Nat.zero_div,Nat.zero_div]
def ZBS{n r k:Int}(h:n<=r)(h2:r<n+k)(t:r % k=0)(o:n % k=0):r=n:=by
 have i:(r-n) % k=0:=by rw[Int.sub_emod,t,o];simp
 rw[Int.emod_eq_of_lt ω ω]at i;omega
def ZAV{n r k:Int}(h:n<=r)(o:r % k=0)(i:n % k≠0):n<r:=by
 rcases Int.lt_or_eq_of_le h with h1|h1;exact h1;rw[h1]at i;exact absurd o i
def ZBs{E:List Int}{X:List D}{a}(h:a<E.length):((E.map itC).flatten++X)[a*1]?=sO (.i (E.getD a dE)):=by
 have e:(E.map itC).flatten=E.map λn=>D.i n:=by
  clear h;induction E with
  |nil=>rfl
  |cons a r ih=>rw[ZIo,List.flatten_cons,ZIo,ih];rfl
 rw[e,Nat.mul_one,ZIm (by rw[ZH4];exact h),List.getElem?_map];simp[ZH6,h]
def ZAN{l:List UInt8}{x i cap:Nat}{X:List D}(h:s x=sO (.cells ((l.map u8C).flatten++X)))(u:i<=I l)(hc:I l<=cap):Y1 s [x] (.msl x (if (cap:Int)=i then 0 else i*1) ((I l:Int)-i).toNat ((cap:Int)-i).toNat 1) (Zg (l.drop i)):=by
 have r:((I l:Int)-i).toNat=(l.drop i).length:=by rw[ZIq];omega
 by_cases e:(cap:Int)=i;have o:(l.drop i).length=0:=by rw[ZIq];omega
 rw[if_pos e,r];refine Y1.mslO (List.mem_singleton.2 rfl) h (by rw[o];simp) λj t=>absurd t (by rw[o];exact Nat.not_lt_zero _);rw[if_neg e,Nat.mul_one];exact ZrB (List.mem_singleton.2 rfl) h r u
def Zj1{n:Nat}:D.nilsl.Le (.sl .none 0 n row):=Z1 λb h=>by cases h
structure ZA7(m:Msg)(v:Val)(i:Nat)(f:Fld)(x:Val)(E:List (Str×Int))(w:Wr)(starts:List Int):Prop where
 val:YD f=true->(vfs (m.fields.take i)).length<I v.parts/\v.parts.getD (vfs (m.fields.take i)).length default=x/\ZT v.parts (vfs (m.fields.take i)).length=f.name
 non:YD f=false->x=default
 cnt:(vfs (m.fields.take (i+1))).length=(vfs (m.fields.take i)).length+(if YD f then 1 else 0)
 lit:f.kind=1\/f.kind=2->f.little=true->w.n % 8=0/\(f.bits=16\/f.bits=24\/f.bits=32)
 chk:f.kind=11->∃a:Nat,Yi m f.from_ (I m.fields)=a/\a<I starts/\Zv f.from_ E=some (starts.getD a default)/\0<=starts.getD a default
 no:¬(7<=f.kind/\f.kind<=9\/f.kind=12)->x.parts=[]
def stL(rec:Val->Str->Wr)(path:Str)(l:List Fld)(ps:List Val)(i:Nat):List Int:=(ZH5 i).map λa=>(((stF rec path l ps a).2.n / 8:Nat):Int)
def Zzz(rec path l ps i):stL rec path l ps (i+1)=stL rec path l ps i++[(((stF rec path l ps i).2.n / 8:Nat):Int)]:=by
 unfold stL;rw[List.range_succ,List.map_append];rfl
def Zti(d:Dfn)(j:Nat)(hj:j<I d.msgs){m:Msg}(hm:d.msgs.getD j dE=m)(v:Val)(path:Str){rec:Val->Str->Wr}(hv:VOk v)(hfew:I m.fields<=1000)(hpth:I path<=994000)(hpre:∀i,i<I m.fields->Zvo d path (m.fields.getD i dE) (xAt m.fields v.parts i) rec (stE rec path m.fields v.parts i) (stF rec path m.fields v.parts i).2)(hfrm:∀i,i<I m.fields->ZA7 m v i (m.fields.getD i dE) (xAt m.fields v.parts i) (stE rec path m.fields v.parts i) (stF rec path m.fields v.parts i).2 (stL rec path m.fields v.parts (i+1)))(hrc:∀i,i<I m.fields->∀y∈(xAt m.fields v.parts i).parts,∀p,I p<=I path+6000->Zc ZHP 41 [.agg d.cells,.i (Zm d y.name (I d.msgs)),.agg y.cells,.str p,.bool false] (.agg (wrC (rec y p))))(st:St):
  Zf ZHP 41 [.agg d.cells,.i j,.agg v.cells,.str path,.bool false] st λr S=>∃bD sD eD ob os oe E,r=.ret (.agg [bD,.i (stF rec path m.fields v.parts (I m.fields)).2.n,sD,.bool false])/\W3 st S (stF rec path m.fields v.parts (I m.fields)).2 E bD sD eD ob os oe:=by
 refine Zh (cR 41 f41) λF hF=>?_;rw[v.cells_eq];refine rx @eQ2 ?_;refine xA (nd2 @atM (nd2 @hm @eQ3)) ?_;refine gG ?_;refine gG ?_;refine Zb (fr (I m.fields) (λi Q=>∀w bD sD eD ob os oe S,(stF rec path m.fields v.parts i).2=w->W3 st S w (stL rec path m.fields v.parts i) bD sD eD ob os oe->i<=I m.fields->Q [(3,.d (.str path)),(4,.d (.bool false)),(5,.loc 5 0),(7,.loc 7 0),(10,.loc 10 0),(11,.loc 11 0),(12,.loc 12 0),(13,.d eD),(14,.d (.i ((vfs (m.fields.take i)).length:Nat))),(15,.d (.i i))] [(5,[.str d.name,Z0 d.msgs,.str d.start]),(7,[.str v.name,.i v.int,Zg v.bytes,Zx v.hdrs,Zu v.parts]),(10,[.nilsl,.i 0,.nilsl,.bool false]),(11,[.str m.name,Zp m.fields]),(12,[bD,.i w.n,sD,.bool false])] S) (λn bi=>?_) λeb=>?_)
 .intro i hn2 w bD sD eD ob os oe S b0 hW hi;refine rx @ZaI ?_;refine cd (λhd=>?_) (λhd=>?_)
  .simp only[decide_eq_true_eq]at hd;have br:i<I m.fields:=ω;have ab:=hpre i br;have ak:=hfrm i br;have d4:=hrc i br;have cy:=ZbB rec path m.fields v.parts i;have cu:=Zzz rec path m.fields v.parts i;have hllen:(stL rec path m.fields v.parts i).length=i:=by unfold stL;rw[ZH4,List.length_range]
   rw[b0]at ab ak cy cu;generalize dn:m.fields.getD i dE=f at *;generalize xAt m.fields v.parts i=x at *;generalize stE rec path m.fields v.parts i=Es at *;generalize stL rec path m.fields v.parts i=E at *;generalize da:stL rec path m.fields v.parts (i+1)=E2 at *;have hwn:=ab.n;have bz:=ab.bok;have c0:=bz;unfold BOk at c0;refine xA (nd2 @atF (nd2 @dn @eQ0)) ?_;have d1:((w.n:Nat):Int).tdiv 8=((w.n / 8:Nat):Int):=by rw[Int.tdiv_eq_ediv_of_nonneg ω];omega
   refine xA @d1 ?_;refine ZaT rfl rfl (hW.e) (by exact ZuS) rfl rfl φ φ (.elems rfl) (by rw[ZH4];show(E.length+1)*8<=_;omega) (by rw[ZH4];show E.length+1<=_;unfold big;omega) (by (show _=[itC ((w.n / 8:Nat):Int)];rfl)) (by exact ZuS (l:=[_])) λs1 D1 ob1 ao a7=>?_;have ch:W3 st s1 w E2 bD sD D1 ob os ob1:=hW.putE (by rw[cu,List.map_append];exact ao) a7;replace hW:=ch;clear ch;generalize ob1=oe at *;generalize D1=eD at *;generalize s1=S at *;refine gR0 ?_;refine gG ?_;refine rx @eQ0 ?_;refine cl (JO f) ?_;refine jU [0] (λQ=>∀(kk:Nat) q,kk=(vfs (m.fields.take (i+1))).length->(x.parts=[]\/q=ZD path f.name)->Q F [(3,.d (.str path)),(4,.d (.bool false)),(5,.loc 5 0),(7,.loc 7 0),(10,.loc 10 0),(11,.loc 11 0),(12,.loc 12 0),(13,.d eD),(14,.d (.i (kk:Nat))),(15,.d (.i i)),(16,.loc 16 0),(17,.loc 17 0),(18,.d (.str q))] [(5,[.str d.name,Z0 d.msgs,.str d.start]),(7,[.str v.name,.i v.int,Zg v.bytes,Zx v.hdrs,Zu v.parts]),(10,[.nilsl,.i 0,.nilsl,.bool false]),(11,[.str m.name,Zp m.fields]),(12,[bD,.i w.n,sD,.bool false]),(16,[.str f.name,.i f.kind,.i f.bits,.bool f.little,.bool f.loose,.i f.low,.i f.high,.i f.size.base,Z4 f.size.terms,.str f.of,.str f.tag,.str f.from_,Z2 f.cases,.i f.check,.i f.key]),(17,[.str x.name,.i x.int,Zg x.bytes,Zx x.hdrs,Zu x.parts])] S) ?_ λjx=>?_
   .intro kk q dt hq;have hkd:=ab.kind;have o:=ZaF.eq_1 rec path f x Es w;generalize dc:ZaF rec path f x Es w=R at *;obtain⟨chg,ae⟩:∃chg,(if f.kind=12 then Qr f.key.toNat else id)=chg:=⟨_,rfl⟩;rw[ae]at o;have af:∀w2,¬(7<=f.kind/\f.kind<=9\/f.kind=12)->R=w2->Wp chg rec q x.parts (I x.parts) 0 w2=R:=λw2 h1 h2=>by rw[ak.no h1,h2];rfl
    refine gG ?_;refine jU [0] (λQ=>∀nn,nn=(if f.kind=2 then f.low else x.int)->Q F [(3,.d (.str path)),(4,.d (.bool false)),(5,.loc 5 0),(7,.loc 7 0),(10,.loc 10 0),(11,.loc 11 0),(12,.loc 12 0),(13,.d eD),(14,.d (.i (kk:Nat))),(15,.d (.i i)),(16,.loc 16 0),(17,.loc 17 0),(18,.d (.str q)),(19,.d (.i nn))] [(5,[.str d.name,Z0 d.msgs,.str d.start]),(7,[.str v.name,.i v.int,Zg v.bytes,Zx v.hdrs,Zu v.parts]),(10,[.nilsl,.i 0,.nilsl,.bool false]),(11,[.str m.name,Zp m.fields]),(12,[bD,.i w.n,sD,.bool false]),(16,[.str f.name,.i f.kind,.i f.bits,.bool f.little,.bool f.loose,.i f.low,.i f.high,.i f.size.base,Z4 f.size.terms,.str f.of,.str f.tag,.str f.from_,Z2 f.cases,.i f.check,.i f.key]),(17,[.str x.name,.i x.int,Zg x.bytes,Zx x.hdrs,Zu x.parts])] S) ?_ λjn=>?_
    .intro nn bg;refine rg ?_;refine jU [0,1] (λQ=>∀w2 ac cg ad c8 S2,W3 st S2 w2 E2 ac cg eD ad c8 oe->Wp chg rec q x.parts (I x.parts) 0 w2=R->Q F [(3,.d (.str path)),(4,.d (.bool false)),(5,.loc 5 0),(7,.loc 7 0),(10,.loc 10 0),(11,.loc 11 0),(12,.loc 12 0),(13,.d eD),(14,.d (.i (kk:Nat))),(15,.d (.i i)),(16,.loc 16 0),(17,.loc 17 0),(18,.d (.str q))] [(5,[.str d.name,Z0 d.msgs,.str d.start]),(7,[.str v.name,.i v.int,Zg v.bytes,Zx v.hdrs,Zu v.parts]),(10,[.nilsl,.i 0,.nilsl,.bool false]),(11,[.str m.name,Zp m.fields]),(12,[ac,.i w2.n,cg,.bool false]),(16,[.str f.name,.i f.kind,.i f.bits,.bool f.little,.bool f.loose,.i f.low,.i f.high,.i f.size.base,Z4 f.size.terms,.str f.of,.str f.tag,.str f.from_,Z2 f.cases,.i f.check,.i f.key]),(17,[.str x.name,.i x.int,Zg x.bytes,Zx x.hdrs,Zu x.parts])] S2) ?_ λjA=>?_;intro w2 ac cg ad c8 S2 u db;refine rg ?_;refine Zb (fr (I x.parts) (λp Q=>∀w3 ag bf av ca S3,W3 st S3 w3 E2 ag bf eD av ca oe->Wp chg rec q x.parts (I x.parts-p) p w3=R->p<=I x.parts->Q [(3,.d (.str path)),(4,.d (.bool false)),(5,.loc 5 0),(7,.loc 7 0),(10,.loc 10 0),(11,.loc 11 0),(12,.loc 12 0),(13,.d eD),(14,.d (.i (kk:Nat))),(15,.d (.i i)),(16,.loc 16 0),(17,.loc 17 0),(18,.d (.str q)),(31,.d (.i p))] [(5,[.str d.name,Z0 d.msgs,.str d.start]),(7,[.str v.name,.i v.int,Zg v.bytes,Zx v.hdrs,Zu v.parts]),(10,[.nilsl,.i 0,.nilsl,.bool false]),(11,[.str m.name,Zp m.fields]),(12,[ag,.i w3.n,bf,.bool false]),(16,[.str f.name,.i f.kind,.i f.bits,.bool f.little,.bool f.loose,.i f.low,.i f.high,.i f.size.base,Z4 f.size.terms,.str f.of,.str f.tag,.str f.from_,Z2 f.cases,.i f.check,.i f.key]),(17,[.str x.name,.i x.int,Zg x.bytes,Zx x.hdrs,Zu x.parts])] S3) (λn bb=>?_) λc5=>?_);intro p cv w3 ag bf av ca S3 am ay hp;refine rx @KN ?_;refine cd (λbq=>?_) (λbq=>?_);simp only[decide_eq_true_eq]at bq;have ar:p<I x.parts:=ω;have bu:7<=f.kind/\f.kind<=9\/f.kind=12:=by rcases Classical.em (7<=f.kind/\f.kind<=9\/f.kind=12) with h|h;exact h;rw[ak.no h]at ar;simp at ar
     have an:=ab.prt bu;rw[ae]at an;have bh:q=ZD path f.name:=hq.resolve_left λe=>by rw[e]at ar;simp at ar
     have bk:=ZnM (rec:=rec) (path:=path) (x:=x) (E:=Es) (w:=w) bu;rw[ae,dc,<-bh]at bk;have hfew5:=an.few;have d0:=an.R;rw[<-bh,<-bk]at d0;have dx:=Zd5 (chg:=chg) (rec:=rec) (q:=q) (ps:=x.parts) (n:=I x.parts-p) (j:=p) (w:=w3);rw[ay]at dx;have b2:=Zr ar;have d2:=YX ar;have cr:=WG d (x.parts.getD p dE).name (I d.msgs) (ZH9 _);have d7:=Zb5 q x.parts p ar (by have:=an.few;omega) (λy hy=>by have:=an.nm y hy;omega) (by rw[bh];have h1:=ab.nm;have:=Qu path f.name;omega);have hso:(ZT x.parts p).length<=5033:=by have:=an.nm _ b2;have hdl:=Zhr x.parts p;have hfw2:=an.few;unfold ZT;split;omega;have:=Zbm (QJ x.parts p);simp only[ZHX,ZH3,List.length_nil];omega
     have aj:=d4 _ b2 (ZD q (ZT x.parts p)) (by
      have h1:=ab.nm;have:=Qu path f.name;have:=Qu q (ZT x.parts p);rw[bh]at this⊢;omega)
     have hlen:=an.len _ b2 (ZD q (ZT x.parts p));rw[show (I x.parts)-p=(I x.parts-(p+1))+1 by omega,Zb3]at ay;have a9:=Zd5 (chg:=chg) (rec:=rec) (q:=q) (ps:=x.parts) (n:=I x.parts-(p+1)) (j:=p+1) (w:=w3.app chg (rec (x.parts.getD p dE) (ZD q (ZT x.parts p))));rw[ay]at a9;rw[ZIe]at aj;generalize x.parts.getD p dE=y at *;generalize ZD q (ZT x.parts p)=py at *;generalize hyw:rec y py=yw at *;unfold Dfn.cells at aj cr;simp only[Wr.app,ZHX]at a9;have co:∀l:List UInt8,(chg l).length=I l:=λl=>by rw[<-ae];split;exact Zsf;rfl
     unfold wrC at aj;refine xA (nd2 @atV (nd2 @d2 @ZeU)) ?_;refine clD (cr) ?_;refine clD (d7) ?_;refine aa ?_;refine clD (aj) ?_;refine kF ?_;refine gG ?_;refine jU [0] (λQ=>∀cb,cb=chg yw.b->Q F [(3,.d (.str path)),(4,.d (.bool false)),(5,.loc 5 0),(7,.loc 7 0),(10,.loc 10 0),(11,.loc 11 0),(12,.loc 12 0),(13,.d eD),(14,.d (.i (kk:Nat))),(15,.d (.i i)),(16,.loc 16 0),(17,.loc 17 0),(18,.d (.str q)),(31,.d (.i p)),(32,.loc 32 0)] [(5,[.str d.name,Z0 d.msgs,.str d.start]),(7,[.str v.name,.i v.int,Zg v.bytes,Zx v.hdrs,Zu v.parts]),(10,[.nilsl,.i 0,.nilsl,.bool false]),(11,[.str m.name,Zp m.fields]),(12,[ag,.i w3.n,bf,.bool false]),(16,[.str f.name,.i f.kind,.i f.bits,.bool f.little,.bool f.loose,.i f.low,.i f.high,.i f.size.base,Z4 f.size.terms,.str f.of,.str f.tag,.str f.from_,Z2 f.cases,.i f.check,.i f.key]),(17,[.str x.name,.i x.int,Zg x.bytes,Zx x.hdrs,Zu x.parts]),(32,[Zg cb,.i yw.n,Wu yw.sums,.bool false])] S3) ?_ λjc=>?_;intro cb di;subst di;have dj:=co yw.b;rw[dj]at a9;refine rg ?_;have c9:=Zao (n:=w3.n) (c:=false) (chg yw.b) am.s.cell am.b ω;refine cV (c9) ?_ ?_;rintro dd S4 hP;obtain⟨bD4,ob4,hr,ci⟩:=am.byt hP;cases hr;refine gR0 ?_;refine rg ?_;refine ZaT rfl rfl (ci.s) (by exact Jn) rfl rfl φ φ (.elems rfl) (by rw[ZH4];show(I w3.sums+I yw.sums)*24<=_;omega) (by rw[ZH4];show (I w3.sums)+I yw.sums<=_;unfold big;omega) (by exact ZoN yw.sums) (by exact Jn) λs1 D1 ob1 ao a7=>?_;refine gR0 ?_;refine⟨ao.cell,?_⟩;refine gA ?_;refine Za ?_;exact bb ((I x.parts)-(p+1)) ω (p+1) rfl _ _ _ _ _ _ (ci.putS (l':=w3.sums++yw.sums) (by rw[List.map_append];exact ao) a7) ay ω;rintro dd S4 hP;exact hP.bad.elim;refine cd (λa0=>?_) (λa0=>?_);simp only[decide_eq_true_eq]at a0;have du:=ab.key a0;have cn:=Zrh (k:=f.key.toNat) ω yw.b ω;rw[Int.toNat_of_nonneg du.1]at cn;rw[if_pos a0]at ae;refine rg ?_;refine cl (cn) ?_;refine⟨rfl,?_⟩;exact jc (Qr f.key.toNat yw.b) (by rw[ae]);simp only[decide_eq_false_iff_not]at a0;rw[if_neg a0]at ae;refine Zo ?_;refine kE [3,4,5,7,10,11,12,13,14,15,16,17,18,31,32] ?_;exact jc yw.b (by rw[<-ae];rfl);simp only[decide_eq_false_iff_not]at bq;obtain rfl:p=I x.parts:=ω;rw[Nat.sub_self,ZgZ]at ay;subst ay;refine gA ?_;rw[dt,show(i:Int)+1=((i+1:Nat):Int) by omega];refine Za ?_;exact bi ((I m.fields)-(i+1)) ω (i+1) rfl w3 ag bf eD av ca oe S3 (by rw[cy]) (by rw[da];exact am) ω;exact c5 _ 0 rfl _ _ _ _ _ _ u (by rw[Nat.sub_zero];exact db) ω;refine rg ?_;refine jU [0] (λQ=>∀bo,bo=dC (f.kind=1\/f.kind=2)->Q F [(3,.d (.str path)),(4,.d (.bool false)),(5,.loc 5 0),(7,.loc 7 0),(10,.loc 10 0),(11,.loc 11 0),(12,.loc 12 0),(13,.d eD),(14,.d (.i (kk:Nat))),(15,.d (.i i)),(16,.loc 16 0),(17,.loc 17 0),(18,.d (.str q)),(19,.d (.i nn)),(79,.d (.i f.kind)),(80,.d (.bool bo))] [(5,[.str d.name,Z0 d.msgs,.str d.start]),(7,[.str v.name,.i v.int,Zg v.bytes,Zx v.hdrs,Zu v.parts]),(10,[.nilsl,.i 0,.nilsl,.bool false]),(11,[.str m.name,Zp m.fields]),(12,[bD,.i w.n,sD,.bool false]),(16,[.str f.name,.i f.kind,.i f.bits,.bool f.little,.bool f.loose,.i f.low,.i f.high,.i f.size.base,Z4 f.size.terms,.str f.of,.str f.tag,.str f.from_,Z2 f.cases,.i f.check,.i f.key]),(17,[.str x.name,.i x.int,Zg x.bytes,Zx x.hdrs,Zu x.parts])] S) ?_ λc4=>?_
     .intro bo bj;refine cd (λax=>?_) (λax=>?_);rw[bj,decide_eq_true_eq]at ax;have ap:R=w.num f nn:=by rw[bg];rcases ax with k1|k1;rw[if_pos k1]at o;rw[if_neg ω];exact o;rw[if_neg ω,if_pos k1]at o;rw[if_pos k1];exact o
      have hnr:0<=nn/\nn<34359738368:=by rw[bg];split;exact ab.low (by assumption);exact ab.vint ω
      have hnum:=ab.num ax;have cs:=ak.lit ax;obtain⟨vn,rfl⟩:∃vn:Nat,nn=vn:=⟨nn.toNat,ω⟩;obtain⟨kb,bt⟩:∃kb:Nat,f.bits=kb:=⟨f.bits.toNat,ω⟩;unfold Wr.num Zm1 Zir at ap;rw[bt,Int.toNat_natCast,Int.toNat_natCast]at ap;refine rg ?_;refine cd (λhl=>?_) (λhl=>?_);obtain⟨hal8,hb3⟩:=cs hl;rw[if_pos hl,if_pos hl,show(kb+7) / 8=kb / 8 by omega]at ap;have dg:f.bits.tdiv 8=((kb / 8:Nat):Int):=by rw[bt,Int.tdiv_eq_ediv_of_nonneg ω];omega
      have hK4:kb / 8<=4:=ω;generalize hK8:kb / 8=K8 at *;refine rg ?_;refine Zb (fr (K8) (λp Q=>∀b1 n1 ac ad S2,W3 st S2 ⟨b1,n1,w.sums⟩ E2 ac sD eD ad os oe->n1=8*I b1->n1=w.n+8*p->b1++leS (vn / 2 ^ (8*p)) (K8-p)=w.b++leS vn K8->p<=K8->Q [(3,.d (.str path)),(4,.d (.bool false)),(5,.loc 5 0),(7,.loc 7 0),(10,.loc 10 0),(11,.loc 11 0),(12,.loc 12 0),(13,.d eD),(14,.d (.i (kk:Nat))),(15,.d (.i i)),(16,.loc 16 0),(17,.loc 17 0),(18,.d (.str q)),(19,.d (.i (vn:Nat))),(20,.d (.i p))] [(5,[.str d.name,Z0 d.msgs,.str d.start]),(7,[.str v.name,.i v.int,Zg v.bytes,Zx v.hdrs,Zu v.parts]),(10,[.nilsl,.i 0,.nilsl,.bool false]),(11,[.str m.name,Zp m.fields]),(12,[ac,.i (n1:Nat),sD,.bool false]),(16,[.str f.name,.i f.kind,.i f.bits,.bool f.little,.bool f.loose,.i f.low,.i f.high,.i f.size.base,Z4 f.size.terms,.str f.of,.str f.tag,.str f.from_,Z2 f.cases,.i f.check,.i f.key]),(17,[.str x.name,.i x.int,Zg x.bytes,Zx x.hdrs,Zu x.parts])] S2) (λn bc=>?_) λc6=>?_);intro p cv b1 n1 ac ad S2 u dz dy al hp;have a6:=u.s.cell;refine xA @dg ?_;refine cd (λaq=>?_) (λaq=>?_);simp only[decide_eq_true_eq]at aq;have e8:(8:Int)*(p:Int)=((8*p:Nat):Int):=ω;have d6:=Zlk (v:=vn) ω (8*p);have hle:vn / 2 ^ (8*p)<=vn:=Nat.div_le_self _ _;have d3:∀y:Nat,(y:Int).tmod 256=((y % 256:Nat):Int):=λy=>by rw[Int.tmod_eq_emod_of_nonneg ω];omega
      have cw:=ZvR (v:=vn) (i:=p) (b:=b1);rw[<-dz]at cw;rw[show K8-p=(K8-(p+1))+1 by omega,ZsD,Nat.div_div_eq_div_mul,show 2 ^ (8*p)*256=2 ^ (8*(p+1)) by rw[Nat.mul_add,Nat.pow_add]]at al;have hml:vn / 2 ^ (8*p) % 256<256:=Nat.mod_lt _ (by decide);generalize vn / 2 ^ (8*p)=vi at *;have aw:BOk b1 n1:=by unfold BOk;omega
      have ah:=Zg3 (n:=n1) (c:=false) (vi % 256) 8 ω (by decide) a6 u.b aw ω;rw[cw]at ah;refine xA (nd2 @e8 (nd2 @d6 @d3)) ?_;refine cV0 (ah) ?_ ?_;rintro dd S3 hP;obtain⟨ag,av,hr,am⟩:=u.byt hP;cases hr;refine gR0 ?_;refine gA ?_;refine Za ?_;exact bc ((K8)-(p+1)) ω (p+1) rfl _ (n1+8) ag av S3 am (by rw[ZHX,List.length_singleton];omega) ω (by rw[ZIh];exact al) ω;rintro dd S3 hP;exact hP.bad.elim;simp only[decide_eq_false_iff_not]at aq;obtain rfl:p=K8:=ω;rw[Nat.sub_self,ZsE,ZIj]at al;rw[<-al,<-dy]at ap;refine ZG rfl (Zi (Zd ?_));refine kE [3,4,5,7,10,11,12,13,14,15,16,17,18] ?_;exact jA _ _ _ _ _ _ u (af _ ω ap);exact c6 _ 0 rfl w.b w.n _ _ _ hW ω rfl ψ ω;rw[if_neg (by rw[hl];simp),if_neg (by rw[hl];simp)]at ap;have ah:=Zg3 (n:=w.n) (c:=false) vn kb ω ω hW.s.cell hW.b bz ω;rw[<-bt]at ah;refine rg ?_;refine cV (ah) ?_ ?_;rintro dd S2 hP;obtain⟨ac,ad,hr,u⟩:=hW.byt hP;cases hr;refine gR0 ?_;refine Zi (Zd ?_);exact jA _ _ _ _ _ _ u (af _ ω ap);rintro dd S2 hP;exact hP.bad.elim;rw[bj,decide_eq_false_iff_not]at ax;rw[if_neg ω]at bg;rw[if_neg ω,if_neg ω]at o;refine rg ?_;refine cd (λk3=>?_) (λk3=>?_);simp only[decide_eq_true_eq]at k3;rw[if_pos k3]at o;have hvr:=ab.vint (.inr k3);obtain⟨vn,rfl⟩:∃vn:Nat,nn=vn:=⟨nn.toNat,ω⟩;rw[<-bg,Int.toNat_natCast]at o;have hfl:(YW vn (Z5 vn)).length<=5:=by rw[Zsr];have:=Zk6 vn;omega
      refine rg ?_;have c9:=Zs8 (v:=vn) ω;refine cl (c9) ?_;refine rg ?_;refine iG ?_;have c9:=Zao (n:=w.n) (c:=false) (YW vn (Z5 vn)) hW.s.cell hW.b ω;refine cV (c9) ?_ ?_;rintro dd S2 hP;obtain⟨ac,ad,hr,u⟩:=hW.byt hP;cases hr;refine gR0 ?_;refine Zi (Zd ?_);exact jA _ _ _ _ _ _ u (af _ ω o);rintro dd S2 hP;exact hP.bad.elim;simp only[decide_eq_false_iff_not]at k3;rw[if_neg k3]at o;refine rg ?_;refine cd (λk4=>?_) (λk4=>?_);simp only[decide_eq_true_eq]at k4;rw[if_pos k4]at o;refine rg ?_;have c9:=Zao (n:=w.n) (c:=false) x.bytes hW.s.cell hW.b (by have:=ab.byt;omega);refine cV (c9) ?_ ?_;rintro dd S2 hP;obtain⟨ac,ad,hr,u⟩:=hW.byt hP;cases hr;refine gR0 ?_;refine Zi (Zd ?_);exact jA _ _ _ _ _ _ u (af _ ω o);rintro dd S2 hP;exact hP.bad.elim;simp only[decide_eq_false_iff_not]at k4;rw[if_neg k4]at o;refine rg ?_;refine cd (λk5=>?_) (λk5=>?_);simp only[decide_eq_true_eq]at k5;rw[if_pos k5]at o;have hlo:=ab.unt k5;have hxb:=ab.byt;have hu:IntKind.u8.wrap f.low=((UInt8.ofNat f.low.toNat).toNat:Int):=by rw[u8n ω,ZcT ω];omega
      generalize UInt8.ofNat f.low.toNat=uc at *;refine rx @hu ?_;refine Zdw (S) (.full) rfl rfl rfl rfl rfl rfl φ φ rfl (by first|trivial|assumption) ω (by (unfold big;omega)) λt1 ht1=>⟨by first|trivial|exact⟨rfl,trivial⟩|simp[Eqs,reduceCtorEq,ZHV,reduceIte,ZHR,ZHY,ZHS],Yb ?_⟩;simp only[Eqs,reduceCtorEq,ZHV,reduceIte,ZHR,ZHY,ZHS];refine Zdw (S) (t1) rfl rfl rfl rfl rfl rfl φ φ rfl (by first|trivial|assumption) ω (by (unfold big;omega)) λt2 d8=>⟨by first|trivial|exact⟨rfl,trivial⟩|simp[Eqs,reduceCtorEq,ZHV,reduceIte,ZHR,ZHY,ZHS],Yb ?_⟩;simp only[Eqs,reduceCtorEq,ZHV,reduceIte,ZHR,ZHY,ZHS];have cx:Zy u8C (Yd (I x.bytes) (Yd 0 (ZI [.int .u8 0] ([].zip [])) λi=>u8C (x.bytes.getD i dE)) (ZI [.int .u8 0] ([0].zip [.int .u8 (uc.toNat:Int)]))) (([]++x.bytes)++[uc]):=(Zy.nil.app Zy.self rfl).snoc (x:=uc) rfl ψ;have bp:=hW.mono (Yj (k:=(I x.bytes+1)*1) d8);have ah:=Zf.leA (.cons (ZHT _) (.cons (cx.le (t:=t2) (n:=I x.bytes+1) ψ) .nil)) (Zao (n:=w.n) (c:=false) (([]++x.bytes)++[uc]) bp.s.cell bp.b (by simp only[ZHX,List.length_nil,List.length_singleton];omega));refine cVD (ah) ?_ ?_;rintro dd S2 hP;obtain⟨ac,ad,hr,u⟩:=bp.byt hP;cases hr;refine kF ?_;refine gR0 ?_;refine Zi (Zd ?_);exact jA _ _ _ _ _ _ u (af _ ω o);rintro dd S2 hP;exact hP.bad.elim;simp only[decide_eq_false_iff_not]at k5;rw[if_neg k5]at o;refine rg ?_;refine cd (λk6=>?_) (λk6=>?_);simp only[decide_eq_true_eq]at k6;rw[if_pos k6]at o;obtain⟨dq,dr,hh3⟩:=ab.hdr k6;refine rg ?_;refine cl (ZfL dq dr) ?_;refine rx @Zbt ?_;refine iG ?_;have c9:=Zao (n:=w.n) (c:=false) (Qf x.hdrs) hW.s.cell hW.b ω;refine cV (c9) ?_ ?_;rintro dd S2 hP;obtain⟨ac,ad,hr,u⟩:=hW.byt hP;cases hr;refine gR0 ?_;refine Zi (Zd ?_);exact jA _ _ _ _ _ _ u (af _ ω o);rintro dd S2 hP;exact hP.bad.elim;simp only[decide_eq_false_iff_not]at k6;rw[if_neg k6]at o;refine rg ?_;refine cd (λaz=>?_) (λaz=>?_);simp only[decide_eq_true_eq]at az;rw[if_pos az]at o;have hpd:=Zbx (ab.pad az);have cz:=JB (v:=(w.n:Int)) (of:=f.bits) ω ω;unfold Wr.pad at o;generalize upS w.n f.bits=r at *;obtain⟨rn,rfl⟩:∃rn:Nat,r=rn:=⟨r.toNat,ω⟩;obtain⟨N,hN⟩:∃N:Nat,rn=w.n+N:=⟨rn-w.n,ω⟩;rw[Int.toNat_natCast,show((rn:Int)-(w.n:Int)).toNat=N by omega,hN]at o;refine Zb ?_;refine kE [3,4,5,7,10,11,12,13,14,15,16,17,18] ?_;refine fr (N) (λp Q=>∀b1 ac ad S2,W3 st S2 ⟨b1,w.n+p,w.sums⟩ E2 ac sD eD ad os oe->BOk b1 (w.n+p)->putS 0 (N-p) b1 (w.n+p)=putS 0 N w.b w.n->p<=N->Q [(3,.d (.str path)),(4,.d (.bool false)),(5,.loc 5 0),(7,.loc 7 0),(10,.loc 10 0),(11,.loc 11 0),(12,.loc 12 0),(13,.d eD),(14,.d (.i (kk:Nat))),(15,.d (.i i)),(16,.loc 16 0),(17,.loc 17 0),(18,.d (.str q))] [(5,[.str d.name,Z0 d.msgs,.str d.start]),(7,[.str v.name,.i v.int,Zg v.bytes,Zx v.hdrs,Zu v.parts]),(10,[.nilsl,.i 0,.nilsl,.bool false]),(11,[.str m.name,Zp m.fields]),(12,[ac,.i ((w.n+p:Nat):Int),sD,.bool false]),(16,[.str f.name,.i f.kind,.i f.bits,.bool f.little,.bool f.loose,.i f.low,.i f.high,.i f.size.base,Z4 f.size.terms,.str f.of,.str f.tag,.str f.from_,Z2 f.cases,.i f.check,.i f.key]),(17,[.str x.name,.i x.int,Zg x.bytes,Zx x.hdrs,Zu x.parts])] S2) (λn be=>?_) λc7=>?_;intro p cv b1 ac ad S2 u aw al hp;have a6:=u.s.cell;refine rg ?_;rw[Int.tmod_eq_emod_of_nonneg (show 0<=((w.n+p:Nat):Int) by omega)];have hmb:=Int.emod_nonneg ((w.n+p:Nat):Int) (show f.bits≠0 by omega);have hmb2:=Int.emod_lt_of_pos ((w.n+p:Nat):Int) (show 0<f.bits by omega);have dv:((w.n+p:Nat):Int) % f.bits=0->rn=((w.n+p:Nat):Int):=λh=>ZBS (k:=f.bits) ω ω cz.2.1 h;have dw:((w.n+p:Nat):Int) % f.bits≠0->((w.n+p:Nat):Int)<rn:=λh=>ZAV (k:=f.bits) ω cz.2.1 h;generalize ((w.n+p:Nat):Int) % f.bits=md at *;refine aa ?_;refine cd (λaq=>?_) (λaq=>?_);have bv:md≠0:=by simpa using aq
      have hlt:=dw bv;have ah:=Zg3 (n:=w.n+p) (c:=false) 0 1 (by decide) (by decide) a6 u.b aw ω;refine rg ?_;refine cV (ah) ?_ ?_;rintro dd S3 hP;obtain⟨ag,av,hr,am⟩:=u.byt hP;cases hr;refine gR0 ?_;rw[show N-p=(N-(p+1))+1 by omega,Zzj]at al;refine Zi (Za ?_);exact be ((N)-(p+1)) ω (p+1) rfl _ ag av S3 am (Ziu aw) al ω;rintro dd S3 hP;exact hP.bad.elim;have bv:md=0:=by simpa using aq
      have hpe:=dv bv;obtain rfl:p=N:=ω;rw[Nat.sub_self,Zgr]at al;rw[<-al]at o;refine ZG rfl (Zi (Zd ?_));refine kE [3,4,5,7,10,11,12,13,14,15,16,17,18] ?_;exact jA _ _ _ _ _ _ u (af _ ω o);exact c7 _ 0 rfl w.b bD ob S hW bz rfl ω;simp only[decide_eq_false_iff_not]at az;rw[if_neg az]at o;refine rg ?_;refine cd (λau=>?_) (λau=>?_)
      .simp only[decide_eq_true_eq]at au;rw[if_pos au]at o;obtain⟨a,a1,a2,a3,a4⟩:=ak.chk au;obtain⟨c1,s0,c2,c3⟩:=ab.chk au;have dm:E2.getD a dE=(s0:Int):=Option.some.inj (a3.symm.trans c2);have a5:=Zan m f.from_ (I m.fields) (ZH9 _);rw[a1]at a5;unfold Wr.chk at o;rw[c2]at o;simp only[ZIr,Int.toNat_natCast]at o;have ba:=Zr4 c1 (w.b.drop s0);have bw:=ZvW c1 (w.b.drop s0) (by rw[ZIq];omega);have dh:=Zs9 c1 ba.1 ba.2.1 ba.2.2;have co:(KM f.check (Zaf f.check (w.b.drop s0))).length<=4:=by unfold KM;split<;>simp only[ZH3,List.length_nil]<;>omega
       have hJ:=ZD.eq_1 path f.name;have hfn:=ab.nm;have hpl:=ab.pth;have hsl:=ab.sums;generalize ZD path f.name=jp at *;generalize Zaf f.check (w.b.drop s0)=c at *;unfold Msg.cells at a5;have df:=hW.e;cases df with
       |nil h0 =>rw[List.map_eq_nil_iff.1 h0]at a2;simp at a2
       |obj xe ce Xe hxe hXe hce =>
        have cj:=ZBs (X:=Xe) a2;rw[dm]at cj;have cp:(E2.map itC).length=E2.length:=by rw[ZH4]
        generalize hecs:(E2.map itC).flatten++Xe=ecs at *;have hal:a<E2.length:=a2;rw[cp]at jA hW;refine rx (nd2 @ZaI @cp) ?_;refine cX (nd2 @hxe @cj) (a5) ?_;refine aa ?_;refine jU [1,0,1] (λQ =>  Q F [(3,.d (.str path)),(4,.d (.bool false)),(5,.loc 5 0),(7,.loc 7 0),(10,.loc 10 0),(11,.loc 11 0),(12,.loc 12 0),(13,.d (.msl xe 0 E2.length ce 1)),(14,.d (.i (kk:Nat))),(15,.d (.i i)),(16,.loc 16 0),(17,.loc 17 0),(18,.d (.str q)),(26,.d (.i c))] [(5,[.str d.name,Z0 d.msgs,.str d.start]),(7,[.str v.name,.i v.int,Zg v.bytes,Zx v.hdrs,Zu v.parts]),(10,[.nilsl,.i 0,.nilsl,.bool false]),(11,[.str m.name,Zp m.fields]),(12,[bD,.i w.n,sD,.bool false]),(16,[.str f.name,.i f.kind,.i f.bits,.bool f.little,.bool f.loose,.i f.low,.i f.high,.i f.size.base,Z4 f.size.terms,.str f.of,.str f.tag,.str f.from_,Z2 f.cases,.i f.check,.i f.key]),(17,[.str x.name,.i x.int,Zg x.bytes,Zx x.hdrs,Zu x.parts])] S) ?_ λfin=>?_;refine rg ?_;refine cl (dh) ?_;refine rg ?_;have c9:=Zao (n:=w.n) (c:=false) (KM f.check c) hW.s.cell hW.b ω;refine cV (c9) ?_ ?_;rintro dd S2 hP;obtain⟨ac,ad,hr,u⟩:=hW.byt hP;cases hr;refine gR0 ?_;refine gG ?_;refine jU [0] (λQ=>∀s2,s2=jp->Q F [(3,.d (.str path)),(4,.d (.bool false)),(5,.loc 5 0),(7,.loc 7 0),(10,.loc 10 0),(11,.loc 11 0),(12,.loc 12 0),(13,.d (.msl xe 0 E2.length ce 1)),(14,.d (.i (kk:Nat))),(15,.d (.i i)),(16,.loc 16 0),(17,.loc 17 0),(18,.d (.str q)),(26,.d (.i c)),(30,.d (.str s2))] [(5,[.str d.name,Z0 d.msgs,.str d.start]),(7,[.str v.name,.i v.int,Zg v.bytes,Zx v.hdrs,Zu v.parts]),(10,[.nilsl,.i 0,.nilsl,.bool false]),(11,[.str m.name,Zp m.fields]),(12,[ac,.i ((w.n+8*(KM f.check c).length:Nat):Int),sD,.bool false]),(16,[.str f.name,.i f.kind,.i f.bits,.bool f.little,.bool f.loose,.i f.low,.i f.high,.i f.size.base,Z4 f.size.terms,.str f.of,.str f.tag,.str f.from_,Z2 f.cases,.i f.check,.i f.key]),(17,[.str x.name,.i x.int,Zg x.bytes,Zx x.hdrs,Zu x.parts])] S2) ?_ λjs=>?_;intro s2 d5;subst d5;refine rg ?_;refine ZaT rfl rfl (u.s) (by exact Jn) rfl rfl φ φ (.elems rfl) (by rw[ZH4];show(I w.sums+1)*24<=_;omega) (by rw[ZH4];show (I w.sums)+1<=_;unfold big;omega) (by (show _=[KO (s2,c)];rfl)) (by exact Jn (l:=[_])) λs1 D1 ob1 ao a7=>?_;refine gR0 ?_;refine⟨ao.cell,?_⟩;refine Zi (Zd ?_);exact jA _ _ _ _ _ _ (u.putS (l':=w.sums++[(s2,c)]) (by rw[List.map_append];exact ao) a7) (af _ ω o);refine cd (λbx=>?_) (λbx=>?_);rw[if_neg (by simpa using bx)]at hJ;refine rg ?_;refine⟨by unfold big;omega,by simp only[ZHX,ZH3,List.length_nil];unfold big;omega,?_⟩;exact js _ hJ.symm;rw[if_pos (by simpa using bx)]at hJ;refine Zo ?_;refine kE [3,4,5,7,10,11,12,13,14,15,16,17,18,26,30] ?_;exact js _ hJ.symm;rintro dd S2 hP;exact hP.bad.elim;have de:=hW.b;cases de with
        |nil h0 =>
         have d9:w.b=[]:=List.map_eq_nil_iff.1 h0;rw[d9]at c3 bw;obtain rfl:s0=0:=by simpa using c3
         have ai:=Zf.leA (.cons (ZHT (.i f.check)) (.cons (show(D.nilsl).Le (Zg (([]:List UInt8).drop 0)) from Z1 λb h=>by cases h) .nil)) (bw S);refine rg ?_;refine⟨by decide,?_⟩;refine cV0 (ai) ?_ ?_;rintro dd S1 ⟨hr,hS⟩;obtain rfl:=hS.symm;cases hr;refine gR0 ?_;refine Zd ?_;exact fin;rintro dd S1 ⟨hr,_⟩;cases hr
        |obj y cap X hy hX hc =>
         have cm:(w.b.map u8C).length=I w.b:=by rw[ZH4]
         rw[cm]at hX hc fin;refine xA @cm ?_;have ai:=ZzN (T:=S) (Ln:=[y]) (λb hb=>by obtain rfl:=List.mem_singleton.1 hb;exact⟨_,hy⟩) (.cons (Y1.refl (.i f.check)) (.cons (ZAN hy c3 hc) .nil)) bw (.tup _ λc hc=>by
          simp only[ZIs,List.not_mem_nil,or_false]at hc;rcases hc with rfl|rfl<;>exact .int _ _)
         refine cV0 (ai) ?_ ?_;rintro dd S1 ⟨hr,hS⟩;obtain rfl:=hS.symm;cases hr;refine gR0 ?_;refine Zd ?_;exact fin;rintro dd S1 ⟨hr,_⟩;cases hr
      simp only[decide_eq_false_iff_not]at au;rw[if_neg au]at o;refine Zo ?_;refine Zi (Zd ?_);refine kE [3,4,5,7,10,11,12,13,14,15,16,17,18] ?_;refine jA _ _ _ _ _ _ hW ?_;have bu:7<=f.kind/\f.kind<=9\/f.kind=12:=ω;rcases hq with h0|h0;rw[h0]at o⊢;rw[o];rfl;rw[o,h0]
     refine cd (λa8=>?_) (λa8=>?_);simp only[decide_eq_true_eq]at a8;refine Zo ?_;exact c4 _ (by simp[a8]);simp only[decide_eq_false_iff_not]at a8;refine rg ?_;exact c4 _ (by simp[a8])
    refine cd (λh2=>?_) (λh2=>?_);simp only[decide_eq_true_eq]at h2;refine rg ?_;exact jn _ (by rw[if_pos h2]);simp only[decide_eq_false_iff_not]at h2;refine Zo ?_;refine kE [3,4,5,7,10,11,12,13,14,15,16,17,18,19] ?_;exact jn _ (by rw[if_neg h2])
   refine cd (λh1=>?_) (λh1=>?_);obtain⟨v1,v2,v3⟩:=ak.val h1;have ai:=ak.cnt;rw[if_pos h1]at ai;have bl:=YX v1;have hvf:=hv.few;have bn:=Zb5 path v.parts _ v1 ω (λy hy=>by have:=hv.name y hy;omega) ab.pth;rw[v3]at bn;rw[v2]at bl;generalize (vfs (m.fields.take i)).length=k0 at *;refine xA (nd2 @atV @bl) ?_;refine clD (bn) ?_;refine kF ?_;refine gA ?_;rw[show(k0:Int)+1=((k0+1:Nat):Int) by omega];exact jx _ _ ai.symm (.inr rfl);have hx:=ak.non h1;have ai:=ak.cnt;rw[if_neg (by rw[h1];simp)]at ai;have ea:LeC [.str [],.i 0,.nilsl,.nilsl,.nilsl] [.str x.name,.i x.int,Zg x.bytes,Zx x.hdrs,Zu x.parts]:=by rw[hx];exact .cons (ZHT _) (.cons (ZHT _) (.cons Zj1 (.cons Zj1 (.cons Zj1 .nil))))
   refine Zo ?_;refine kE [3,4,5,7,10,11,12,13,14,15,16,17,18] ?_;refine kl (S) [(3,.d (.str path)),(4,.d (.bool false)),(5,.loc 5 0),(7,.loc 7 0),(10,.loc 10 0),(11,.loc 11 0),(12,.loc 12 0),(13,.d eD),(14,.d (.i ((vfs (m.fields.take i)).length:Nat))),(15,.d (.i i)),(16,.loc 16 0),(17,.loc 17 0),(18,.d (.str path))] [(5,[.str d.name,Z0 d.msgs,.str d.start]),(7,[.str v.name,.i v.int,Zg v.bytes,Zx v.hdrs,Zu v.parts]),(10,[.nilsl,.i 0,.nilsl,.bool false]),(11,[.str m.name,Zp m.fields]),(12,[bD,.i w.n,sD,.bool false]),(16,[.str f.name,.i f.kind,.i f.bits,.bool f.little,.bool f.loose,.i f.low,.i f.high,.i f.size.base,Z4 f.size.terms,.str f.of,.str f.tag,.str f.from_,Z2 f.cases,.i f.check,.i f.key]),(17,[.str x.name,.i x.int,Zg x.bytes,Zx x.hdrs,Zu x.parts])] Wx (.skip (.skip (.skip (.skip (.skip (.skip (.cons ea .nil))))))) ?_;exact jx _ _ ai.symm (.inl (by rw[hx];rfl))
  simp only[decide_eq_false_iff_not]at hd;obtain rfl:i=I m.fields:=ω;refine rg ?_;exact hF.ret _ S rfl (by first|trivial|simp) (ZHT _) ZHU ⟨bD,sD,eD,ob,os,oe,_,by rw[b0];rfl,by rw[b0];exact hW⟩
 exact eb _ 0 rfl _ _ _ _ _ _ _ _ rfl W3.zero ω
def ZAo{d}(hal:Yk d=true){n j v path p0}(hj:j<I d.msgs)(h:(ZW d (n+1) (d.msgs.getD j dE) v p0).2=0)(hv:VOk v)(rec:Val->Str->Wr)(hlen:∀x∈v.parts,∀y∈x.parts,∀p,((rec y p).b.length:Int)=lenS d n (Zs d y.name) y/\(rec y p).sums.length<=40*wtN y):
  ∀i,i<(d.msgs.getD j dE).fields.length->ZA7 (d.msgs.getD j dE) v i ((d.msgs.getD j dE).fields.getD i dE) (xAt (d.msgs.getD j dE).fields v.parts i) (stE rec path (d.msgs.getD j dE).fields v.parts i) (stF rec path (d.msgs.getD j dE).fields v.parts i).2 (stL rec path (d.msgs.getD j dE).fields v.parts (i+1)):=by
 obtain⟨hF,hA⟩:=Zif hal hj h hv;generalize d.msgs.getD j dE=m at *;have hL:=hF.len;intro i hi;have ag:=Zll (rec:=rec) (L:=λy=>lenS d n (Zs d y.name) y) (path:=path) hA hL hlen (Nat.le_of_lt hi);have r:=ZoY (E:=stE rec path m.fields v.parts i) (w:=(stF rec path m.fields v.parts i).2) hA hL hi;have ah:=Zaz hL hi;refine⟨λad=>?_,λh0=>ah.2 h0,?_,λh1 hl=>?_,λae=>?_,λhk=>?_⟩;obtain⟨h1,h2⟩:=Zb9 rfl hi ad;have hk:(vfs (m.fields.take i)).length<I v.parts:=by rw[<-hL.1];exact h1
 obtain⟨h3,h4⟩:=Ziz hA.nm hF.right hk;exact⟨hk,by unfold xAt;rw[if_pos ad],by rw[h3,h4,h2]⟩;have:=ZcC hi;rw[this];split<;>simp;have h2:=r.num h1;have h3:=ag.off;rw[Zu2 hA hi (by unfold Je;rw[hl];simp)]at h3;exact⟨ω,h2.2.2 hl⟩;have o:=(hA.fld i hi).ks;unfold Kp at o;simp only[ae,ZIt,if_true,if_false]at o;split at o;omega;split at o;omega;rename_i hfr;have h4:=Q6 (show 0<=Yi m (m.fields.getD i dE).from_ i by omega);have h5:=YC (λg:Fld=>dC (g.name=(m.fields.getD i dE).from_)) (m.fields.take i);have e1:Zl (λg:Fld=>dC (g.name=(m.fields.getD i dE).from_)) (m.fields.take i)=Yi m (m.fields.getD i dE).from_ i:=rfl;rw[e1]at h4 h5;rw[ZIa]at h5;obtain⟨a,ha⟩:∃a:Nat,Yi m (m.fields.getD i dE).from_ i=a:=⟨(Yi m (m.fields.getD i dE).from_ i).toNat,ω⟩;rw[ha]at h4 h5;rw[Int.toNat_natCast]at h4;have t:a<i:=ω;have h6:=h4.1;rw[W8 t]at h6;have u:(m.fields.getD a dE).name=(m.fields.getD i dE).from_:=by simpa using h6
 have hg:=Zpo (rec:=rec) (path:=path) (ps:=v.parts) hA.nm (i:=i) (j:=a) t ω;have ab:=hA.nm a i t hi;rw[u]at hg ab;have ac:(stL rec path m.fields v.parts (i+1)).getD a dE=(((stF rec path m.fields v.parts a).2.n / 8:Nat):Int):=by unfold stL;simp[ZH6,show a<i+1 by omega]
 refine⟨a,?_,by unfold stL;rw[ZH4,List.length_range];omega,?_,?_⟩;have af:=Wv (p:=λg:Fld=>dC (g.name=(m.fields.getD i dE).from_)) (l:=m.fields.take (I m.fields)) (i:=a) (by rw[ZIa];omega) (by rw[W8 ω,u];simp) (λb hb=>by
  rw[W8 ω,decide_eq_false_iff_not,<-u];exact hA.nm b a hb ω)
 exact af;rw[ac];unfold stE;rw[WZ,if_neg ab];exact hg;rw[ac];exact Int.natCast_nonneg _;exact r.none (by have:=r.kind;omega)
def Zf.freezeS{f args T Φ Ψ}(h:Zf ZHP f args T Φ)(hΦ:∀r S,Φ r S->∃Ln d o S2,r=.ret d/\(∀b∈Ln,∃ds,S b=sO (.cells ds))/\Y1 S Ln d o/\S2.sub (S.delL Ln)/\Ψ (.ret o) S2):Zf ZHP f args T Ψ :=
 ⟨h.1,λg w vs hs ha=>(h.2 g w vs hs ha).mono λe w' ⟨g',S',r,he,u,hr,hq⟩=>by
  obtain⟨Ln,d,o,S2,rfl,t,hl,i,hΨ⟩:=hΦ _ _ hq;have hx:=JZ u t;refine⟨WK g' S' Ln,S2,.ret o,he.trans hx,(ZjN u t).sub i,?_,hΨ⟩;cases e<;>simp only[Zgc]at hr⊢;exact hl _ w' _ (ZcL u t) (Rep.mono hr hx)⟩
def Zmi{d}(hal:Yk d=true):∀(n j v path p0),j<I d.msgs->(ZW d n (d.msgs.getD j dE) v p0).2=0->VOk v->I path+6000*n<=1000000 ->
  Zc ZHP 41 [.agg d.cells,.i j,.agg v.cells,.str path,.bool false] (.agg (wrC (Wj d n (d.msgs.getD j dE) v path)))
 |0,_,_,_,_,_,h,_,_=>by simp[ZW]at h
 |n+1,j,v,path,p0,hj,h,hv,hp=>by
  obtain⟨hF,hA⟩:=Zif hal hj h hv;have ae:=ZmT hal hj h hv hp λx hx y hy p T ah=>by obtain⟨q,u,ab⟩:=hF.sub x hx y hy;exact Zgi hal n (ixS d y.name) y p q (by have:=WD u;omega) ab ((hv.part hx).part hy) ω T
  have t:∀x∈v.parts,∀y∈x.parts,0<=Zm d y.name (I d.msgs)/\J5 d n (Zs d y.name) y:=λx hx y hy=>by obtain⟨k,hk,rfl⟩:=Zbv hx;exact(hF.len.2 k hk).2 y hy
  have ac:=ZAo (path:=path) hal hj h hv (λy p=>Wj d n (Zs d y.name) y p) λx hx y hy p=>by obtain⟨h1,h2⟩:=t x hx y hy;have:=Zfz hal n (ixS d y.name) y p (by have:=WD h1;omega) h2;exact⟨this.1,this.2.2⟩
  intro T;refine Zf.freezeS (Zti d j hj rfl v path hv (by have:=hA.few;omega) ω ae ac (λi hi y hy p ah=>?_) T) λr S ⟨bD,sD,eD,ob,os,oe,E,hr,hW⟩=>?_;obtain⟨x',af,ag⟩:=Zls hF.len hi (Q:=λy=>∃x∈v.parts,y∈x.parts) (λx hx y hy=>⟨x,hx,hy⟩) y hy;obtain⟨q,u,ab⟩:=hF.sub x' af y ag;have ad:=WD u;rw[ad.1];exact Zmi hal n (ixS d y.name) y p q ad.2 ab ((hv.part af).part ag) ω;refine⟨Zm2 ob++Zm2 os,_,_,T,hr,λb hb=>?_,Y1.agg (.cons (hW.b.ldB λx hx=>List.mem_append.2 (.inl (QM.2 hx))) (.cons (.refl _) (.cons (hW.s.ldS λx hx=>List.mem_append.2 (.inr (QM.2 hx))) (.cons (.refl _) .nil)))),λy o hy=>?_,rfl,rfl⟩;rcases List.mem_append.1 hb with hb|hb;exact hW.b.live (QM.1 hb);exact hW.s.live (QM.1 hb);obtain⟨h1,h2,h3,h4⟩:=hW.sub y o hy;simp only[St.delL,List.mem_append,QM];rw[if_neg (by rintro(e|e);exact h2 e;exact h3 e)];exact h1
def Ztj{d:Dfn}{j:Int}{v:Val}{path:Str}{W:Wr}(h:Zc ZHP 41 [.agg d.cells,.i j,.agg v.cells,.str path,.bool false] (.agg (wrC W))):Zc ZHP 21 [.agg d.cells,.i j,.agg v.cells,.str path] (.agg (wrC W)):=by
 refine Ze (cR 21 f21) λF st i=>?_;unfold wrC at h i;rw[v.cells_eq]at h⊢;refine rx @eQ2 ?_;refine rg ?_;refine cl (h) ?_;exact i rfl (by first|trivial|simp) (ZHT _) ZHU
def ZdL(d:Dfn)(s:Str)(v:Val)(hs:Yz v=true->wtN v<=5100/\ZY v<=51):Zc ZHP 8 [.agg d.cells,.str s,.agg v.cells] (.tup [.agg (wrC (if (YG d s v).2=0 then Wj d 51 (Zs d s) v [] else noW)),.i (YG d s v).2]):=by
 refine Ze (cR 8 f8) λF st i=>?_;have u:=ZxA d s v (ZtW hs);have r:=ZAy (d:=d) (s:=s) (v:=v) hs;have hE:=ZBj d s v;have ab:(YG d s v).2=0->Zc ZHP 21 [.agg d.cells,.i (ixS d s:Nat),.agg v.cells,.str []] (.agg (wrC (Wj d 51 (Zs d s) v []))):=λh=>by obtain⟨hd,hv,hf,hm⟩:=ZcJ h;obtain⟨ad,hvh⟩:=ZbE hv hs;exact Ztj (Zmi (Zfa h) 51 (ixS d s) v [] [] (WD hf).2 hm ad ψ)
 have ac:(YG d s v).2=0->(atS d s v).1=(ixS d s:Nat):=λh=>by obtain⟨hd,hv,hf,hm⟩:=ZcJ h;unfold atS;rw[Zfa h,hv];simp only[Bool.and_self,if_true];rw[if_neg ω,(WD hf).1]
 generalize Wj d 51 (Zs d s) v []=Wf at *;generalize YG d s v=W at *;generalize ZW d 51 (Zs d s) v []=M at *;generalize atS d s v=A at *;obtain⟨ix,no⟩:=A;obtain⟨⟨wp,wc⟩,we⟩:=W;simp only at u r hE ab ac i;have hz:(D.tup [.agg [.nilsl,.i 0,.nilsl,.bool false],.i we]).Le (.tup [.agg (wrC noW),.i we]):=Zo3 (.cons (Zjk (.cons Zj1 (.cons (ZHT _) (.cons Zj1 (.cons (ZHT _) .nil))))) (.cons (ZHT _) .nil));rw[ZIe]at u r ab⊢;refine rx @eQ2 ?_;refine rg ?_;refine cl (u) ?_;refine rg ?_;refine cd (λc0=>?_) (λc0=>?_);have t:¬no=0:=by simpa using c0
 rw[if_neg t]at hE;simp only[ZH2]at hE;obtain⟨_,rfl⟩:=hE;rw[if_neg t]at i;refine rg ?_;exact i rfl (by first|trivial|simp) hz ZHU;have t:no=0:=by simpa using c0
 rw[if_pos t]at hE;have hm:=(r t).1;obtain⟨mp,mn⟩:=M;simp only[ZH2]at hE;obtain⟨_,rfl⟩:=hE;simp only[mfT]at hm;refine rx @eQ2 ?_;refine cl (hm) ?_;refine rg ?_;refine cd (λc1=>?_) (λc1=>?_);have o:¬we=0:=by simpa using c1
 rw[if_neg o]at i;refine rg ?_;exact i rfl (by first|trivial|simp) hz ZHU;have o:we=0:=by simpa using c1
 rw[if_pos o]at i;rw[ac o]at *;have hw:=ab o;subst o;unfold wrC at hw i;refine rx @eQ2 ?_;refine cl (hw) ?_;exact i rfl (by first|trivial|simp) (ZHT _) ZHU
def Zf0{q b:Nat}{o c:JW}(r:s q=nO)(i:s b=sO c):(s.upd q o) b=sO c:=by
 rw[ZH0 _ _ (λe=>by rw[e,r]at i;simp at i)];exact i
def ZvL{L:DL.Loc}(l:List (Str×Int)):qv L s .lenL [.d (Wu l)]=sO (True,.d (.i (I l))):=rfl
def ZA9{L:DL.Loc}(l:List (Str×Int))(i:Int):qv L s (.iaddr 2) [.d (Wu l),.d (.i i)]=sO (0<=i/\i<I l,.d (.ep (KO (l.getD i.toNat dE)) 0)):=rfl
def ZB9(l:List (Str×Int)):Qb (Wu l)=true:=rfl
def ZAb(l:List (Str×Int)):cellsOf (Wu l)=[Wu l]:=rfl
def Zlx(l:List (Str×Int))(hl:I l<=1000000)(x z:Nat){a0:St}(hx0:a0 x=sO (.cells [.ptr z 0]))(hz0:a0 z=sO (.cells (Zac (Wu l)))):∀(y:D) (go:Nat->Oc) (A:Nat->St->Prop) (a':St),a0.sub a'->Zdv ZHP y (I l) (λj=>KO (l.getD j dE)) go A->A 0 a' ->
  KC ZHP (.fn (.func 24) [] [.ptr x 0]) [y] a' λr S=>∃a,Zea (I l) go A a r/\a.sub S:=by
 intro y go A a' ab ae hA;have hx:=ab x _ hx0;have hz:=ab z _ hz0;unfold Zac at hz;refine Zf.V (first:=[]) (args:=[y]) (caps:=[.ptr x 0]) (Zh (cR 24 f24) λF hF=>?_);refine rx (nd2 @hx (nd2 @hz @ZvL)) ?_;refine Zb (fr (I l) (λj Q=>∀a,A j a->(∀i,i<j->go i=.next)->j<=I l->Q [(0,.d y),(8,.d (Wu l)),(9,.d (.i (I l))),(10,.d (.i j))] [] a) (λn ad=>?_) λag=>?_)
 .clear hA ab hx hz;intro j hn a hA u hj;refine rg ?_;refine Zd (Zj rfl trivial (λh1=>?_) (λh1=>?_))
  .simp at h1;have t:=ae j h1 u a hA;simp only at t;generalize hg:l.getD j dE=g at *;unfold KO at t;refine xA (nd2 @ZA9 (nd2 @hg @KO.eq_1)) ?_;refine gA ?_;refine vV (t) ?_ ?_
   .rintro d S ⟨hr,ac⟩;cases o:go j with
    |next =>rw[o]at hr;cases hr;refine gR0 ?_;refine i0 ?_;refine gA ?_;refine Za ?_;exact ad ((I l)-(j+1)) ω (j+1) rfl S ac (ZV (q:=λi=>go i=.next) u o) ω
    |stop c =>rw[o]at hr;cases hr;refine gR0 ?_;refine i1 ?_;refine ZG rfl (Z8 ?_);exact hF.fin (.tup []) _ rfl trivial (ZHT _) ZHU ⟨S,.stop j c ω u o ac,ZHU⟩
    |pan d=>rw[o]at hr;cases hr
   rintro d S ⟨hr,ac⟩;cases o:go j with
   |pan d' =>rw[o]at hr;cases hr;exact hF.pan _ ZHU ⟨S,.pan j d ω u o ac,ZHU⟩
   |next=>rw[o]at hr;cases hr
   |stop c=>rw[o]at hr;cases hr
  have af:j=I l:=by simp at h1;omega
  subst af;refine ZG rfl (Z8 ?_);exact hF.fin (.tup []) _ rfl trivial (ZHT _) ZHU ⟨a,.all u hA,ZHU⟩
 exact ag _ 0 rfl a' hA (by intro i hi;omega) ω
def Zey(l:List (Str×Int))(hlen:I l<=1000000)(many:Int)(c z:Nat){st:St}(hc:st c=sO (.cells [.ptr z 0]))(hz:st z=sO (.cells (Zac (Wu l)))):ZL ZHP 13 [.fn (.func 24) [] [.ptr c 0],Wu l,.i many] st (.bool true) st:=by
 refine Zh (cR 13 f13) λF hF=>?_;refine rx (nd2 @ZB9 @ZAb) ?_;refine rg ?_;refine iG ?_;refine rg ?_;refine Zb ?_;refine xP 4 λz4 h4=>?_;refine xP 5 λz5 h5=>?_;refine xP 6 λz6 h6=>?_;refine xP 7 λz7 h7=>?_;have k5:=Zn h5;have k6:=Zn h6;have af:=Zn k6.2;have k7:=Zn h7;have ag:=Zn k7.2;have al:=Zn ag.2;obtain⟨B,hB⟩:∃B,B=((st.upd z4 (.cells [Wu l])).upd z5 (.cells [.i many])).upd z6 (.cells [.bool false]):=⟨_,rfl⟩;have g4:B z4=sO (.cells [Wu l]):=by rw[hB,ZH0 _ _ (Ne.symm af.1),ZH0 _ _ (Ne.symm k5.1)];exact ZHW _ _ _
 have g5:B z5=sO (.cells [.i many]):=by rw[hB,ZH0 _ _ (Ne.symm k6.1)];exact ZHW _ _ _
 have g6:B z6=sO (.cells [.bool false]):=by rw[hB];exact ZHW _ _ _
 have gs:st.sub B:=by rw[hB];exact ZIu (ZIg _ h4) (ZIu (ZIg _ h5) (ZIg _ h6))
 have n7:B z7=nO:=by rw[hB];exact h7
 have gc:B c=sO (.cells [.ptr z 0]):=gs _ _ hc;have gz:B z=sO (.cells (Zac (Wu l))):=gs _ _ hz;rw[<-hB];have ak:∀k o,st.sub ((B.upd z7 k).upd z6 o):=λk o b x hb=>by
  have e6:b≠z6:=λe=>by rw[e,af.2]at hb;simp at hb
  have e7:b≠z7:=λe=>by rw[e,al.2]at hb;simp at hb
  rw[ZH0 _ _ e6,ZH0 _ _ e7];exact gs _ _ hb
 clear hB h5 h6 h7 k5 k6 k7 ag;have o4:∀c,(B.upd z7 c) z4=sO (.cells [Wu l]):=λc=>Zf0 n7 g4;have o5:∀c,(B.upd z7 c) z5=sO (.cells [.i many]):=λc=>Zf0 n7 g5;have o6:∀c,(B.upd z7 c) z6=sO (.cells [.bool false]):=λc=>Zf0 n7 g6;have o7:∀c,(B.upd z7 c) z7=sO c:=λc=>ZHW _ _ _;have n76:z6≠z7:=λe=>by rw[e,n7]at g6;simp at g6
 obtain⟨F0,ac⟩:∃F0,F0=F:=⟨_,rfl⟩;refine jU [0,0,1] (λQ=>∀(F:Fr ZHP) (q k:Nat),F=F0.mark q->(B.upd z7 (.cells [.i k])) q=nO->(k:Int)=min (I l:Int) (max 1 many)->Q F [(4,.d (.ptr z4 0)),(5,.d (.ptr z5 0)),(6,.d (.ptr z6 0)),(7,.d (.ptr z7 0)),(12,.d (.fn (.func 24) [] [.ptr c 0]))] [] ((B.upd z7 (.cells [.i k])).upd q .dfr)) ?_ λt=>?_;intro F q k ah hq hk;subst ah ac;have aj:((B.upd z7 (.cells [.i k])).upd z6 (.cells [.bool true])) q=nO:=by rw[ZH0 _ _ (λe=>by rw[e,o6]at hq;simp at hq)];exact hq
 have hd:dC ((k:Int)=min (I l:Int) (max 1 many))=true:=decide_eq_true hk;have gg:((B.upd z7 (.cells [.i k])).upd z6 (.cells [.bool true])) z6=sO (.cells [.bool true]):=ZHW _ _ _;rw[QD hq];refine rh ?_;refine Zk ?_;simp only[Eqs,reduceCtorEq,ZHV,reduceIte,ZHR,ZHY,ZHS,Zt (o7 _),Zt (o4 _),Zt (o5 _),Zt (o6 _),ZvL,W5,hd];exact hF.ret1 aj (.bool true) st (by simp only[Eqs,reduceCtorEq,ZHV,reduceIte,ZHR,ZHY,ZHS,YP,K7,gg];rfl) φ (ZHT _) (ak _ _) ⟨rfl,rfl⟩;refine ZtF hF rfl trivial [4,5,6,7] (by show([4,5,6,7]:List Nat).Nodup;decide) (Zlx l hlen c z (Zf0 n7 gc) (Zf0 n7 gz)) (λj hj=>rfl) (λj:Nat=>if many<=((j:Int)+1) then Oc.stop (.exit 0) else Oc.next) (λj a=>a=B.upd z7 (.cells [.i j])) rfl ?_ ?_ ?_ ?_ ?_ ?_;intro j a hj r hB F' ready ad hdr ae ab;subst hB;simp only[Eqs,reduceCtorEq,ZHV,reduceIte,ZHR,ZHY,ZHS,KO,KG,K0,J8,Qj,List.isEmpty_nil,List.isEmpty_cons];generalize hg:l.getD j dE=g at *;refine gG ?_;refine ae λai=>?_;have d1:dC ((I l:Int)<=j)=false:=decide_eq_false ω;refine rh ?_;refine Zk ?_;simp only[Eqs,reduceCtorEq,ZHV,reduceIte,ZHR,ZHY,ZHS,Zt (o7 _),Zt (o4 _),Zt (o5 _),ZvL,ZA9,hg,d1,eq_self,KO];refine aa ?_;refine i0 ?_;refine rh ?_;refine Zk ?_;simp only[Eqs,reduceCtorEq,ZHV,reduceIte,ZHR,ZHY,ZHS,Zt (o7 _),W5];refine aa ?_;rw[ZH7,show(j:Int)+1=((j+1:Nat):Int) by omega];have u:Z7 (B.upd z7 (.cells [.i ((j+1:Nat):Int)])) ad:=λb o hb=>by have h1:=Zn (ai b o hb);rw[ZH0 _ _ h1.1];exact h1.2
 refine rh ?_;refine Zk ?_;simp only[Eqs,reduceCtorEq,ZHV,reduceIte,ZHR,ZHY,ZHS,Zt (o7 _),Zt (o5 _)];refine cd (λh1=>?_) (λh1=>?_);exact ab.exit rfl ⟨by rw[if_pos (by simp at h1;omega)],rfl⟩ u ZHU;refine Zo ?_;refine Zi ?_;exact ab.fin ⟨by rw[if_neg (λh=>by simp at h1;omega)],rfl⟩ u ZHU;intro q a r hB hq;subst hB;refine Zi (Zd ?_);refine t _ q (I l) (by rw[ac]) hq ?_;rcases Nat.eq_zero_or_pos (I l) with h0|h0;omega;have h:=r (I l-1) ω;split at h;simp at h;omega;intro q a m hm r i;split at i<;>simp at i;intro q a m id hm r i hB hq;subst hB;split at i;rename_i hs;cases i;refine ZG rfl ?_;refine Zd ?_;refine t _ q (m+1) (by rw[ac]) hq ?_;rcases Nat.eq_zero_or_pos m with h0|h0;omega;have h:=r (m-1) ω;split at h;simp at h;omega;simp at i;intro q a m d hm r i;split at i<;>simp at i;intro m c i;split at i<;>simp at i;exact .inr ⟨0,i.symm⟩
def ZuE{N}{d:D}(h:SA N d):SAO N (.cells (Zac d)):=SAO.cells λc i=>by
 simp only[Zac,ZIs,List.not_mem_nil,or_false]at i;rcases i with rfl|rfl|rfl|rfl|rfl|rfl|rfl|rfl;all_goals first|exact SA.any|exact h
def Zmy.sa{l z S N}(h:Zmy l (λ_=>nO) z S):∀b o,S b=sO o->SAO N o:=by
 cases h with
 |nil h0 =>intro b o t;by_cases e:b=z;subst e;rw[ZHW]at t;cases t;exact ZuE (SA.of .nilsl);rw[ZH0 _ _ e]at t;cases t
 |obj x cap k hx hxz hc =>intro b o t;by_cases e:b=z;subst e;rw[ZHW]at t;cases t;exact ZuE (SA.of (.msl _ _ _ _ _));rw[ZH0 _ _ e]at t;by_cases u:b=x;subst u;rw[ZHW]at t;cases t;refine SAO.cells λc hc=>?_;rcases List.mem_append.1 hc with h1|h1;obtain⟨r,hr,i⟩:=List.mem_flatten.1 h1;obtain⟨q,_,rfl⟩:=List.mem_map.1 hr;simp only[KO,ZIs,List.not_mem_nil,or_false]at i;rcases i with rfl|rfl;exact SA.of (.str _);exact SA.of (.int _ _);rw[(List.mem_replicate.1 h1).2];exact SA.any;rw[ZH0 _ _ u]at t;cases t
def Zf.freezeC{f args T Φ Ψ}(h:Zf ZHP f args T Φ)(hΦ:∀r S,Φ r S->∃Ln z cs cs' S2 d,r=.ret d/\(∀b∈Ln,∃ds,S b=sO (.cells ds))/\S z=sO (.cells cs)/\z∉Ln/\LdC S Ln cs cs'/\S2.sub ((S.delL Ln).upd z (.cells cs'))/\Ψ r S2):Zf ZHP f args T Ψ :=
 ⟨h.1,λg w vs hs ha=>(h.2 g w vs hs ha).mono λe w' ⟨g',S',r,he,hS,hr,hq⟩=>by
  obtain⟨Ln,z,cs,cs',S2,d,rfl,hL,hz,ah,hl,u,hΨ⟩:=hΦ _ _ hq;have hx:=JZ hS hL;have ad:(WK g' S' Ln).prot z=g'.prot z:=by simp only[WK,if_neg ah]
  have ab:=ZcL hS hL;have ac:YI (WK g' S' Ln) w' z cs:=(hS.obj z _ hz).mono hx rfl ad;have t:YI (WK g' S' Ln) w' z cs':=by obtain⟨h1,vs,T,h2,h3,h4,h5⟩:=ac;refine⟨h1,vs,T,h2,h3.trans hl.len,λi v d hv hd=>?_,h5⟩;obtain⟨x,af,ag⟩:=hl.get hd;exact ag _ w' v ab (h4 i v x hv af)
  have ae:=(ZjN hS hL).updL (b:=z) (o:=.cells cs') t (hS.kept z _ hz);refine⟨WK g' S' Ln,S2,.ret d,he.trans hx,ae.sub u,?_,hΨ⟩;cases e<;>simp only[Zgc]at hr⊢;exact Rep.mono hr hx⟩
def ZzI(l:List (Str×Int))(T:St)(r:Res)(S:St):Prop:=∃z c,T z=nO/\(T.upd z (.cells (Zac (Wu l)))) c=nO/\r=.ret (.fn (.func 24) [] [.ptr c 0])/\S=(T.upd z (.cells (Zac (Wu l)))).upd c (.cells [.ptr z 0])
def ZAQ{S:St}{l:List (Str×Int)}{x cap k:Nat}(h:S x=sO (.cells ((l.map KO).flatten++List.replicate k .any))):Y1 S [x] (.msl x 0 (I l) cap 2) (Wu l):=by
 have hB:Buf S 2 (l.map KO) (.msl x 0 (l.map KO).length (I l+k) 2) (sO x)->True:=λ_=>trivial;have o:=Zei (rows:=l.map KO) (sz:=2) Jn;rw[ZH4]at o;refine Y1.msl (List.mem_singleton.2 rfl) h (by rw[ZHX,o];omega) λi u=>?_;have t:(((l.map KO).flatten++List.replicate k D.any).drop (i*2)).take 2=KO (l.getD i dE):=by
  clear hB h;rw[List.drop_append_of_le_length (by rw[o];omega),List.take_append_of_le_length (by rw[ZIq,o];omega)];clear o;induction l generalizing i with
  |nil=>simp at u
  |cons a r ih =>
   cases i with
   |zero=>rfl
   |succ i =>have:=ih i (by simpa using u);rw[ZIo,List.flatten_cons,show(i+1)*2=2+i*2 by omega,<-List.drop_drop,show((KO a++(r.map KO).flatten).drop 2)=(r.map KO).flatten from rfl];exact this
 rw[t];exact LdC.refl _
def ZuD{S Ln}{a b:D}(h:Y1 S Ln a b):LdC S Ln (Zac a) (Zac b):=.cons (.refl _) (.cons (.refl _) (.cons (.refl _) (.cons (.refl _) (.cons (.refl _) (.cons (.refl _) (.cons (.refl _) (.cons h .nil)))))))
def Zqg(hI:Qn)(d:Dfn)(s:Str)(v:Val)(hs:Yz v=true->wtN v<=5100/\ZY v<=51){T:St}{Ln args}(hL:∀b∈Ln,∃ds,T b=sO (.cells ds))(hl:LdC T Ln args [.agg d.cells,.str s,.agg v.cells]):
  Zf ZHP 12 args T (ZzI (if (YG d s v).2=0 then Wj d 51 (Zs d s) v [] else noW).sums T):=by
 generalize ai:(if (YG d s v).2=0 then Wj d 51 (Zs d s) v [] else noW).sums=l;have h0:=ZyD hI d s v hs λ_=>nO;rw[ai]at h0;refine Zf.freezeC (Zf.lendA hL hl h0 λr S ⟨z,c,S1,hz,hS,ad,hr,t⟩=>?_) λr S ⟨S',⟨z,c,S1,hz,hS,ad,hr,t⟩,u,ag⟩=>?_;subst hr t;refine⟨SA.of (.fn _ _ _ (λc hc=>by cases hc) λc hc=>by rw[List.mem_singleton.1 hc];exact .ptr _ _),λb o hb=>?_⟩;by_cases e:b=c;subst e;rw[ZHW]at hb;cases hb;exact SAO.cells λc hc=>by rw[List.mem_singleton.1 hc];exact SA.of (.ptr _ _)
 rw[ZH0 _ _ e]at hb;exact hS.sa b o hb;subst t ag;have i:∀{b o},S1 b=sO o->T b=nO/\b≠c:=λ{b o} hb=>by
  have ac:b≠c:=λe=>by rw[e,ad]at hb;cases hb
  refine⟨?_,ac⟩;cases hT:T b with
  |none=>rfl
  |some o'=>have:=u b o' hT;rw[ZH0 _ _ ac,hb]at this;cases this
 have ah:T c=nO:=by
  cases hT:T c with
  |none=>rfl
  |some o'=>have:=u c o' hT;rw[ZHW]at this;cases this
 have ab:∀{b o},S1 b=sO o->((S1.upd c (.cells [.ptr z 0])).or T) b=sO o:=λ{b o} hb=>Zt (by rw[ZH0 _ _ (i hb).2];exact hb);have af:∀(Ln2:List Nat) (cs:List D),(∀b∈Ln2,∃ds,S1 b=sO (.cells ds))->S1 z=sO (.cells cs)->z∉Ln2->LdC ((S1.upd c (.cells [.ptr z 0])).or T) Ln2 cs (Zac (Wu l)) ->
   ∃Ln z' cs cs' S2 d,r=.ret d/\(∀b∈Ln,∃ds,((S1.upd c (.cells [.ptr z 0])).or T) b=sO (.cells ds))/\((S1.upd c (.cells [.ptr z 0])).or T) z'=sO (.cells cs)/\z'∉Ln/\LdC ((S1.upd c (.cells [.ptr z 0])).or T) Ln cs cs'/\S2.sub ((((S1.upd c (.cells [.ptr z 0])).or T).delL Ln).upd z' (.cells cs'))/\ZzI l T r S2:=λLn2 cs h1 h2 h3 h4=>by
  have ae:=(i h2).2;refine⟨Ln2,z,cs,Zac (Wu l),(T.upd z (.cells (Zac (Wu l)))).upd c (.cells [.ptr z 0]),_,hr,λb hb=>?_,ab h2,h3,h4,λy o hy=>?_,z,c,(i h2).1,by rw[ZH0 _ _ ae.symm];exact ah,hr,rfl⟩;obtain⟨ds,hd⟩:=h1 b hb;exact⟨ds,ab hd⟩;by_cases e:y=c;subst e;rw[ZHW]at hy;rw[ZH0 _ _ ae.symm];simp only[St.delL];rw[if_neg (λhm=>by obtain⟨ds,hd⟩:=h1 _ hm;exact(i hd).2 rfl),Zt (ZHW _ _ _)];exact hy;rw[ZH0 _ _ e]at hy;by_cases e2:y=z;subst e2;rw[ZHW]at hy⊢;exact hy;rw[ZH0 _ _ e2]at hy⊢;simp only[St.delL];rw[if_neg (λhm=>by obtain⟨ds,hd⟩:=h1 _ hm;rw[(i hd).1]at hy;cases hy),Zz (u y o hy)];exact hy
 cases hS with
 |nil h0 =>refine af [] _ (λb hb=>by cases hb) (ZHW _ _ _) ψ (ZuD (.of_le ?_));rw[h0];exact Z1 λb h=>by cases h
 |obj x cap k hx hxz hc =>refine af [x] _ (λb hb=>by rw[List.mem_singleton.1 hb];exact⟨_,by rw[ZH0 _ _ hxz];exact ZHW _ _ _⟩) (ZHW _ _ _) (λhm=>hxz (List.mem_singleton.1 hm).symm) (ZuD (ZAQ (k:=k) (ab ?_)));rw[ZH0 _ _ hxz];exact ZHW _ _ _
def ZwS{d s v}(hs:Yz v=true->wtN v<=5100/\ZY v<=51):(if (YG d s v).2=0 then Wj d 51 (Zs d s) v [] else noW).sums.length<=1000000:=by
 by_cases h:(YG d s v).2=0;rw[if_pos h];obtain⟨u,hv,hf,hm⟩:=ZcJ h;have t:=Zfa h;obtain⟨r,hvh⟩:=ZbE hv hs;have i:=(WD hf).2;have o:d.msgs.getD (ixS d s) dE=Zs d s:=rfl;have hL:=ZdF u.dref 51 (Zs d s) v [] (u.dref _ (Zr i)) r.ok hm;have h1:=(Zfz t 51 (ixS d s) v [] i (by rw[o];exact hL)).2.2;rw[o]at h1;have h3:=r.wt;omega;rw[if_neg h];exact Nat.zero_le _
def Zi7(hI:Qn)(hk:Zc ZHP 6 [] (.bool true))(d:Dfn)(s:Str)(v:Val)(many:Int)(hrv:ZeB v):Zc ZHP 4 [.agg d.cells,.str s,.agg v.cells,.i many] (.bool true):=by
 refine Ze (cR 4 f4) λF st ab=>?_;have af:=Zhy d v st;have ah:=ZhN v hrv st;have hR:=ZdL d s v;have ac:=Zqg hI d s v;have u:=ZwS (d:=d) (s:=s) (v:=v);generalize (if (YG d s v).2=0 then Wj d 51 (Zs d s) v [] else noW)=W at *;generalize (YG d s v).2=fe at *;unfold wrC at hR;rw[ZIe]at af hR ah⊢;refine rx @eQ2 ?_;refine rg ?_;refine cV (af) ?_ ?_;rintro dd S ⟨hS,b,hr,hs⟩;obtain rfl:=hS.symm;cases hr;refine gR0 ?_;refine cd (λh1=>?_) (λh1=>?_);refine rg ?_;refine cl (hk) ?_;refine rb ab ?_;rfl;have hb:b=true:=by simp at h1;exact h1.1
 have ae:=hs hb;have ap:=hR ae;have aj:=u ae;clear hs af hR u;refine rg ?_;refine cV (ah) ?_ ?_;rintro dd T ⟨c,fp,hr,hM,au,ak⟩;cases hr;have ar:=ac ae hM.live (.cons (.refl (.agg d.cells)) (.cons (.refl (.str s)) (.cons (Y1.agg (hM.ld λ_ h=>h)) .nil)));have ao:=λh=>hM.inv h;have hMl:=λh=>hM.leafI h;obtain⟨p,hc,hpl,ax,hpok,ad⟩:=hM.cells4;subst hc;refine gR0 ?_;refine aa ?_;refine rx @eQ2 ?_;refine cV (ar) ?_ ?_;rintro dd A ⟨z,cc,hz,r,hr,hA⟩;cases hr;refine gR0 ?_;have am:z≠cc:=λe=>by rw[e,ZHW]at r;cases r
 have aq:T cc=nO:=by rw[ZH0 _ _ am.symm]at r;exact r
 have fz:A z=sO (.cells (Zac (Wu W.sums))):=by rw[hA,ZH0 _ _ am];exact ZHW _ _ _
 have fc:A cc=sO (.cells [.ptr z 0]):=by rw[hA];exact ZHW _ _ _
 have fT:∀y o,T y=sO o->A y=sO o/\y≠z/\y≠cc:=λy o hy=>by
  have e1:y≠z:=λe=>by rw[e,hz]at hy;cases hy
  have e2:y≠cc:=λe=>by rw[e,aq]at hy;cases hy
  exact⟨by rw[hA,ZH0 _ _ e2,ZH0 _ _ e1];exact hy,e1,e2⟩
 have fs:∀y o,st y=sO o->T y=sO o/\y∉fp:=λy o hy=>by
  have e1:y∉fp:=λhm=>by rw[au y hm]at hy;cases hy
  exact⟨by rw[ak y e1];exact hy,e1⟩
 clear hA r;refine rg ?_;refine jU [0,1] (λQ=>∀A',A' z=sO (.cells (Zac (Wu W.sums)))->A' cc=sO (.cells [.ptr z 0])->st.sub A'->Q F [(1,.d (.str s)),(3,.d (.i many)),(4,.loc 4 0),(6,.loc 6 0),(10,.d (.fn (.func 24) [] [.ptr cc 0]))] [(4,[.str d.name,Z0 d.msgs,.str d.start]),(6,[.str v.name,.i v.int,Zg v.bytes,Zx v.hdrs,Zu v.parts])] A') ?_ λfin=>?_;intro A' gz gc gs;have av:=Zey W.sums aj many cc z gc gz;have aw:=Zey W.sums aj 9999 cc z gc gz;refine rx @eQ2 ?_;refine cl (ap) ?_;refine rg ?_;refine ct (av) ?_;refine ZaA rfl rfl rfl rfl rfl φ φ (by exact aw) (Zk ?_);simp only[Eqs,reduceCtorEq,ZHV,reduceIte,ZHR,ZHY,ZHS];refine cG (hk) ?_;refine rb ab ?_;rfl;by_cases hp:I v.parts=0;obtain rfl:=ax hp;refine Zb (Qm ?_);refine rx @ad ?_;refine Zj rfl trivial (λh=>by simp at h;omega) (λ_=>?_);refine ZG rfl (Zd ?_);refine kE [1,3,4,6,10] ?_;exact fin A fz fc λy o hy=>(fT y o (fs y o hy).1).1
 skip
 obtain⟨x,cap,row,f,X,hN⟩:=ao ω;have al:=hN.c;simp only[List.cons.injEq,true_and,and_true]at al;subst al;obtain⟨an,az,ay⟩:=fT x _ hN.b;have hle:=hN.le;have hlc:I v.parts*5<=(Wg row (I v.parts)++X).length:=by rw[ZHX,ZcK λj hj=>(hN.kid j hj).len];omega
 generalize Wg row (I v.parts)++X=ag at *;refine Zb (fr (I v.parts) (λi Q=>∀cs,I cs=I ag->i<=I v.parts->Q [(1,.d (.str s)),(3,.d (.i many)),(4,.loc 4 0),(6,.loc 6 0),(9,.loc 9 0),(10,.d (.fn (.func 24) [] [.ptr cc 0])),(11,.d (.i i))] [(4,[.str d.name,Z0 d.msgs,.str d.start]),(6,[.str v.name,.i v.int,Zg v.bytes,Zx v.hdrs,Zu v.parts]),(9,[.str v.name,.i v.int,Zg v.bytes,Zx v.hdrs,.msl x 0 (I v.parts) cap 5])] (A.upd x (.cells cs))) (λn t=>?_) λa0=>?_);intro i hn cs hcl hi;refine rg ?_;refine cd (λhd=>?_) (λhd=>?_);simp only[decide_eq_true_eq]at hd;refine rx (nd2 @ZHW @ZH7) ?_;refine⟨ω,ω,ω,?_⟩;have hbig:=(Ziv.1 hrv).1.2.2;refine gA ?_;refine Za ?_;exact t ((I v.parts)-(i+1)) ω (i+1) rfl _ (by simp only[ZHX,ZIa,ZIq,ZH3,List.length_nil];omega) ω;refine ZG rfl (Zd ?_);refine kE [1,3,4,6,10] ?_;refine fin _ (by rw[ZH0 _ _ az.symm];exact fz) (by rw[ZH0 _ _ ay.symm];exact fc) λy o hy=>?_;obtain⟨h5,h6⟩:=fs y o hy;rw[ZH0 _ _ λe=>h6 (by rw[e];exact hN.xmem)];exact(fT y o h5).1;have ai:=a0 _ 0 rfl ag rfl ω;rw[St.upd_self an]at ai;exact ai;rintro dd A ⟨_,_,_,_,hr,_⟩;cases hr;rintro dd T ⟨_,_,hr,_⟩;cases hr;rintro dd S ⟨_,b,hr,_⟩;cases hr
def Zyj(b):Zc ZHP 277 [.bool b] (.i (if b then 1 else 0)):=by
 refine Ze (cR 277 f277) λF st i=>?_;refine gG ?_;cases b with
 |true =>refine i1 ?_;refine rg ?_;refine ri i ?_;rfl
 |false =>refine iG ?_;refine ri i ?_;rfl
def Zxn{n:Nat}(h:n=7\/n=8\/n=9):WL .i64 ((n:Int)*78913) 18=2:=by rcases h with rfl|rfl|rfl<;>rfl
def Zy1{n:Nat}(i:100<=n)(h:n<256):([0,1,2,2,3,3,3,3,4,4,4,4,4,4,4,4,5,5,5,5,5,5,5,5,5,5,5,5,5,5,5,5,6,6,6,6,6,6,6,6,6,6,6,6,6,6,6,6,6,6,6,6,6,6,6,6,6,6,6,6,6,6,6,6,7,7,7,7,7,7,7,7,7,7,7,7,7,7,7,7,7,7,7,7,7,7,7,7,7,7,7,7,7,7,7,7,7,7,7,7,7,7,7,7,7,7,7,7,7,7,7,7,7,7,7,7,7,7,7,7,7,7,7,7,7,7,7,7,8,8,8,8,8,8,8,8,8,8,8,8,8,8,8,8,8,8,8,8,8,8,8,8,8,8,8,8,8,8,8,8,8,8,8,8,8,8,8,8,8,8,8,8,8,8,8,8,8,8,8,8,8,8,8,8,8,8,8,8,8,8,8,8,8,8,8,8,8,8,8,8,8,8,8,8,8,8,8,8,8,8,8,8,8,8,8,8,8,8,8,8,8,8,8,8,8,8,8,8,8,8,8,8,8,8,8,8,8,8,8,8,8,8,8,8,8,8,8,8,8,8,8,8,8,8,8,8]:Str).getD n 0=if n<128 then 7 else 8:=by
 have:∀n:Nat,n<256->100<=n->([0,1,2,2,3,3,3,3,4,4,4,4,4,4,4,4,5,5,5,5,5,5,5,5,5,5,5,5,5,5,5,5,6,6,6,6,6,6,6,6,6,6,6,6,6,6,6,6,6,6,6,6,6,6,6,6,6,6,6,6,6,6,6,6,7,7,7,7,7,7,7,7,7,7,7,7,7,7,7,7,7,7,7,7,7,7,7,7,7,7,7,7,7,7,7,7,7,7,7,7,7,7,7,7,7,7,7,7,7,7,7,7,7,7,7,7,7,7,7,7,7,7,7,7,7,7,7,7,8,8,8,8,8,8,8,8,8,8,8,8,8,8,8,8,8,8,8,8,8,8,8,8,8,8,8,8,8,8,8,8,8,8,8,8,8,8,8,8,8,8,8,8,8,8,8,8,8,8,8,8,8,8,8,8,8,8,8,8,8,8,8,8,8,8,8,8,8,8,8,8,8,8,8,8,8,8,8,8,8,8,8,8,8,8,8,8,8,8,8,8,8,8,8,8,8,8,8,8,8,8,8,8,8,8,8,8,8,8,8,8,8,8,8,8,8,8,8,8,8,8,8,8,8,8,8,8]:Str).getD n 0=if n<128 then 7 else 8:=by decide
 exact this n h i
def Zy2{n:Nat}(h:n=7\/n=8\/n=9):Zc ZHP 275 [.i n] (.i 2):=by
 refine Ze (cR 275 f275) λF st i=>?_;have o:=Zxn h;have hb:0<=n/\n<=9:=ω;refine gG ?_;rw[o];refine aa ?_;refine ri i ?_;rfl
def Ztt{n:Nat}(h:n<100):Zc ZHP 223 [.i n] (.str (Kn n)):=by
 refine Ze (cR 223 f223) λF st i=>?_;refine gG ?_;refine cd (λo=>?_) (λo=>?_);have r:n<10:=by simp at o;omega
 refine gA ?_;refine rs i ?_;rw[Kb r];clear i F st h o;revert n;decide;have r:¬n<10:=by simp at o;omega
 refine gA ?_;refine rs i ?_;rw[Zbl r,Kb (show n / 10<10 by omega),Kb (Nat.mod_lt _ ω)];clear i F st r o;revert n;decide
def Zy0{n:Nat}(h:100<=n/\n<512):∃k:Nat,(k=7\/k=8\/k=9)/\Zc ZHP 276 [.int .u64 n] (.i k):=by
 refine⟨if n<128 then 7 else if n<256 then 8 else 9,by split<;>(try split)<;>simp,?_⟩;refine Ze (cR 276 f276) λF st i=>?_;refine gG ?_;refine Zj rfl trivial (λh=>by simp at h;omega) (λ_=>?_);refine rg ?_;refine Zj rfl trivial (λh=>by simp at h;omega) (λ_=>?_);refine rg ?_;refine cd (λr=>?_) (λr=>?_);have r:256<=n:=by simp at r;omega
 have hs:WL .u64 (n:Int) 8=1:=by
  have:∀k,k<512->256<=k->WL .u64 ((k:Nat):Int) 8=1:=by decide
  exact this n h.2 r
 rw[if_neg ω,if_neg ω]at i;refine xA @hs ?_;refine gA ?_;refine rg ?_;refine⟨by decide,by decide,by decide,by decide,?_⟩;refine ri i ?_;rfl;have r:n<256:=by simp at r;omega
 have o:IntKind.u8.wrap (n:Int)=n:=ZcT ω;have t:=Zy1 h.1 r;by_cases u:n<128;rw[if_pos u]at i t;refine rx (nd2 @o (nd2 @Int.toNat_natCast @t)) ?_;refine⟨ω,ω,by decide,by decide,?_⟩;refine ri i ?_;rfl;rw[if_neg u]at t;rw[if_neg u,if_pos r]at i;refine rx (nd2 @o (nd2 @Int.toNat_natCast @t)) ?_;refine⟨ω,ω,by decide,by decide,?_⟩;refine ri i ?_;rfl
def ZzC{k:Nat}(h:k<100):(([48,48,48,49,48,50,48,51,48,52,48,53,48,54,48,55,48,56,48,57,49,48,49,49,49,50,49,51,49,52,49,53,49,54,49,55,49,56,49,57,50,48,50,49,50,50,50,51,50,52,50,53,50,54,50,55,50,56,50,57,51,48,51,49,51,50,51,51,51,52,51,53,51,54,51,55,51,56,51,57,52,48,52,49,52,50,52,51,52,52,52,53,52,54,52,55,52,56,52,57,53,48,53,49,53,50,53,51,53,52,53,53,53,54,53,55,53,56,53,57,54,48,54,49,54,50,54,51,54,52,54,53,54,54,54,55,54,56,54,57,55,48,55,49,55,50,55,51,55,52,55,53,55,54,55,55,55,56,55,57,56,48,56,49,56,50,56,51,56,52,56,53,56,54,56,55,56,56,56,57,57,48,57,49,57,50,57,51,57,52,57,53,57,54,57,55,57,56,57,57]:Str).getD (k*2+1) 0).toNat=48+k % 10/\(([48,48,48,49,48,50,48,51,48,52,48,53,48,54,48,55,48,56,48,57,49,48,49,49,49,50,49,51,49,52,49,53,49,54,49,55,49,56,49,57,50,48,50,49,50,50,50,51,50,52,50,53,50,54,50,55,50,56,50,57,51,48,51,49,51,50,51,51,51,52,51,53,51,54,51,55,51,56,51,57,52,48,52,49,52,50,52,51,52,52,52,53,52,54,52,55,52,56,52,57,53,48,53,49,53,50,53,51,53,52,53,53,53,54,53,55,53,56,53,57,54,48,54,49,54,50,54,51,54,52,54,53,54,54,54,55,54,56,54,57,55,48,55,49,55,50,55,51,55,52,55,53,55,54,55,55,55,56,55,57,56,48,56,49,56,50,56,51,56,52,56,53,56,54,56,55,56,56,56,57,57,48,57,49,57,50,57,51,57,52,57,53,57,54,57,55,57,56,57,57]:Str).getD (k*2) 0).toNat=48+k / 10:=by
 have:∀k:Nat,k<100->(([48,48,48,49,48,50,48,51,48,52,48,53,48,54,48,55,48,56,48,57,49,48,49,49,49,50,49,51,49,52,49,53,49,54,49,55,49,56,49,57,50,48,50,49,50,50,50,51,50,52,50,53,50,54,50,55,50,56,50,57,51,48,51,49,51,50,51,51,51,52,51,53,51,54,51,55,51,56,51,57,52,48,52,49,52,50,52,51,52,52,52,53,52,54,52,55,52,56,52,57,53,48,53,49,53,50,53,51,53,52,53,53,53,54,53,55,53,56,53,57,54,48,54,49,54,50,54,51,54,52,54,53,54,54,54,55,54,56,54,57,55,48,55,49,55,50,55,51,55,52,55,53,55,54,55,55,55,56,55,57,56,48,56,49,56,50,56,51,56,52,56,53,56,54,56,55,56,56,56,57,57,48,57,49,57,50,57,51,57,52,57,53,57,54,57,55,57,56,57,57]:Str).getD (k*2+1) 0).toNat=48+k % 10/\(([48,48,48,49,48,50,48,51,48,52,48,53,48,54,48,55,48,56,48,57,49,48,49,49,49,50,49,51,49,52,49,53,49,54,49,55,49,56,49,57,50,48,50,49,50,50,50,51,50,52,50,53,50,54,50,55,50,56,50,57,51,48,51,49,51,50,51,51,51,52,51,53,51,54,51,55,51,56,51,57,52,48,52,49,52,50,52,51,52,52,52,53,52,54,52,55,52,56,52,57,53,48,53,49,53,50,53,51,53,52,53,53,53,54,53,55,53,56,53,57,54,48,54,49,54,50,54,51,54,52,54,53,54,54,54,55,54,56,54,57,55,48,55,49,55,50,55,51,55,52,55,53,55,54,55,55,55,56,55,57,56,48,56,49,56,50,56,51,56,52,56,53,56,54,56,55,56,56,56,57,57,48,57,49,57,50,57,51,57,52,57,53,57,54,57,55,57,56,57,57]:Str).getD (k*2) 0).toNat=48+k / 10:=by decide
 exact this k h
def ZxZ{n}(h:0<=n/\n<=255000):IntKind.u32.wrap n=n:=by
 unfold IntKind.wrap;simp[IntKind.bits,IntKind.signed];omega
def ZsM{n:Nat}(h:100<=n/\n<512):Zc ZHP 224 [.int .u64 n] (.i 3):=by
 refine Ze (cR 224 f224) λF st o=>?_;obtain⟨k,hk,hl⟩:=Zy0 h;have u:=Zy2 hk;refine gG ?_;refine cl (hl) ?_;refine cl (u) ?_;have ht:(ZhB.map λz=>D.int .u64 z)[2]?=sO (.int .u64 100):=rfl;generalize r:(ZhB.map λz=>D.int .u64 z)=P at *;have i:=ZBP;rw[r]at i;have t:dC ((100:Int)<=n)=true:=decide_eq_true ω;have hP:2<P.length:=by rw[<-r];decide
 refine rx (nd2 @i @ht) ?_;refine⟨by decide,by decide,?_⟩;rw[t];refine cl (Zyj true) ?_;refine aa ?_;refine ri o ?_;rfl
def ZnS{n:Nat}(h:100<=n/\n<512){T:St}{z cap}(hz:T z=sO (.cells (List.replicate 24 (.int .u8 0))))(hc:3<=cap):
  Zf ZHP 225 [.msl z 1 3 cap 1,.int .u64 n] T λr S=>r=.ret (.tup [])/\S=T.upd z (.cells (.int .u8 0::.int .u8 (48+n / 100:Nat)::.int .u8 (48+n / 10 % 10:Nat)::.int .u8 (48+n % 10:Nat)::List.replicate 20 (.int .u8 0))):=by
 refine Zh (cR 225 f225) λF t=>?_;have hw:IntKind.u32.wrap (n:Int)=n:=ZxZ ω;have hm:(n:Int).tmod 100=((n % 100:Nat):Int):=by rw[Int.tmod_eq_emod_of_nonneg ω];omega
 have u:(n:Int).tdiv 100=((n / 100:Nat):Int):=by rw[Int.tdiv_eq_ediv_of_nonneg ω];omega
 obtain⟨t1,t2⟩:=ZzC (show n % 100<100 from Nat.mod_lt _ ω);have hk:n % 100<100:=Nat.mod_lt _ ω;refine rg ?_;refine Zd (Zb (Qm ?_));refine rg ?_;refine iG ?_;refine rg ?_;refine iG ?_;refine i1 ?_;refine rg ?_;rw[hw,hm];refine aa ?_;refine rg ?_;rw[u];refine aa ?_;rw[show((n % 100:Nat):Int)*2=((n % 100*2:Nat):Int) by omega];have i:(((n % 100*2:Nat):Int)+1).toNat=n % 100*2+1:=ω;refine rx (nd2 @hz (nd2 @ZHW (nd2 @ZH7 (nd2 @i (nd2 @t1 @t2))))) ?_;refine⟨by decide,by decide,by decide,by decide,ω,ω,ω,ω,ω,ω,by decide,by decide,by decide,by decide,by decide,ψ,?_⟩;change ZA _ _ _ _ (T.upd z (.cells (.int .u8 0::.int .u8 0::.int .u8 ((48+n % 100 / 10:Nat):Int)::.int .u8 ((48+n % 100 % 10:Nat):Int)::List.replicate 20 (.int .u8 0))));rw[show n % 100 / 10=n / 10 % 10 by omega,show n % 100 % 10=n % 10 by omega];refine gA ?_;refine rg ?_;refine i1 ?_;have o:IntKind.u8.wrap (48+((n / 100:Nat):Int))=((48+n / 100:Nat):Int):=by rw[ZcT ω];omega
 refine rx (nd2 @ZHW (nd2 @ZH7 @o)) ?_;refine⟨ω,ω,by decide,by decide,ψ,?_⟩;exact t.fin (.tup []) _ rfl trivial (ZHT _) ZHU ⟨rfl,rfl⟩
def ZrP{n:Nat}(h:n<510):Zc ZHP 274 [.i n,.i 10] (.str (Kn n)):=by
 refine λst=>Zh (cR 274 f274) λF u=>?_;have hw:IntKind.u64.wrap (n:Int)=n:=by unfold IntKind.wrap;simp[IntKind.bits,IntKind.signed];omega
 refine gG ?_;refine i1 ?_;refine rg ?_;refine cd (λt=>?_) (λt=>?_);have o:n<100:=by simp at t;omega
 refine rg ?_;refine cl (Ztt o) ?_;exact u.ret _ _ rfl φ (ZHT _) ZHU ⟨rfl,rfl⟩;have o:100<=n/\n<512:=by simp at t;omega
 refine rg ?_;refine Zd ?_;refine xP 5 λz hz=>?_;refine rg ?_;rw[hw];refine rg ?_;refine Zj rfl trivial (λh=>by simp at h;omega) (λ_=>?_);refine rg ?_;refine cl (ZsM o) ?_;refine rg ?_;refine⟨by decide,by decide,by decide,by decide,by decide,by decide,by decide,?_⟩;rw[show(if ((24:Nat):Int)=1 then 0 else 1*1)=1 from rfl,show((1:Int)+3-1).toNat=3 from rfl,show(((24:Nat):Int)-1).toNat=23 from rfl];have hf:=ZnS o (cap:=23) (ZHW st z (.cells (List.replicate 24 (.int .u8 0)))) ω;rw[ZH7]at hf;refine cV (hf) ?_ ?_;rintro d S ⟨r,rfl⟩;cases r;refine gR0 ?_;refine rg ?_;refine Zj rfl trivial (λh=>by simp at h;omega) (λ_=>?_);refine rx @ZHW ?_;refine⟨by decide,by decide,by decide,by decide,by decide,by decide,by decide,ψ,λi hi=>?_,?_⟩;have hi3:i<3:=hi;rcases(by omega:i=0\/i=1\/i=2) with rfl|rfl|rfl<;>exact⟨_,rfl⟩;refine u.ret (.str (Kn n)) st rfl φ (ZwB ?_) (ZIg _ hz) ⟨rfl,rfl⟩;rw[Zbl (n:=n) ω,Zbl (n:=n / 10) ω,Kb (n:=n / 10 / 10) ω,Kb (n:=n / 10 % 10) ω,Kb (n:=n % 10) ω,Nat.div_div_eq_div_mul];rfl;rintro d S ⟨r,_⟩;cases r
def Zgl:Qn:=λn t=>by
 have o:=ZrP t;have r:Zc ZHP 222 [.i n] (.str (Kn n)):=by refine Ze (cR 222 f222) λF st i=>?_;refine gG ?_;refine cl (o) ?_;refine rs i ?_;rfl
 refine Ze (cR 172 f172) λF st i=>?_;refine gG ?_;refine cl (r) ?_;refine rs i ?_;rfl
abbrev KZ(s:Str)(i:Nat)(h:Int):List D:=[.str s,.i i,.i h]
def QY(s:Str)(i:Nat)(c:UInt8):Bool:=dC (i<I s)&&dC (s.getD i 0=c)
def Ys(p:UInt8->Bool)(s:Str)(i:Nat):Str:=(s.drop i).takeWhile p
def Ztp{p s i k}(t:k<(Ys p s i).length):i+k<I s/\p (s.getD (i+k) 0)=true:=by
 unfold Ys at t;have o:∀(l:Str) k,k<(l.takeWhile p).length->k<I l/\p (l.getD k 0)=true:=λl=>by
  induction l with
  |nil=>intro k t;simp at t
  |cons c r ih =>
   intro k t;rw[List.takeWhile_cons]at t;split at t
   .rename_i hp;cases k with
    |zero=>exact⟨ψ,hp⟩
    |succ k =>have:=ih k (by simpa using t);exact⟨by simp;omega,by simpa using this.2⟩
   simp at t
 obtain⟨u,h2⟩:=o _ _ t;rw[ZIq]at u;refine⟨ω,?_⟩;have:(s.drop i).getD k 0=s.getD (i+k) 0:=by simp[ZH6,List.getElem?_drop]
 rwa [this]at h2
def ZAJ{p s i}(u:i+(Ys p s i).length<I s):p (s.getD (i+(Ys p s i).length) 0)=false:=by
 have o:∀l:Str,(l.takeWhile p).length<I l->p (l.getD (l.takeWhile p).length 0)=false:=λl=>by
  induction l with
  |nil=>intro h;simp at h
  |cons c r ih =>intro h;rw[List.takeWhile_cons]at h⊢;split at h;rename_i t;rw[if_pos t];simpa using ih (by simpa using h);rename_i t;rw[if_neg t];simpa using t
 have:=o (s.drop i) (by rw[ZIq];unfold Ys at u;omega);have e:(s.drop i).getD ((s.drop i).takeWhile p).length 0=s.getD (i+((s.drop i).takeWhile p).length) 0:=by simp[ZH6,List.getElem?_drop]
 rwa [e]at this
def Zzt{p s i}:((s.drop i).take (Ys p s i).length)=Ys p s i:=by
 unfold Ys;exact List.prefix_iff_eq_take.1 (List.takeWhile_prefix p) |>.symm
def ZaR:Zc ZHP 28 [.bool true] (.tup []):=by
 refine λst=>Zh (cR 28 f28) λF i=>?_;refine gI ?_;refine Zo ?_;exact i.fin (.tup []) _ rfl trivial (ZHT _) ZHU ⟨rfl,rfl⟩
def Zrb{T:St}{z s}{i:Nat}{h:Int}{c:UInt8}(u:T z=sO (.cells (KZ s i h)))(hi:i<=I s)(hs:I s<=1000):
  ZL ZHP 45 [.ptr z 0,.int .u8 c.toNat] T (.bool (QY s i c)) (if QY s i c then T.upd z (.cells (KZ s (i+1) h)) else T):=by
 refine ZE (cR 45 f45) λr F o=>?_;clear r;have hB:(dC ((i:Int)=(I s:Int))||!dC (((s.getD i 0).toNat:Int)=(c.toNat:Int)))=!QY s i c:=by unfold QY;rw[show dC (((s.getD i 0).toNat:Int)=(c.toNat:Int))=dC (s.getD i 0=c) from decide_eq_decide.2 ⟨λh=>UInt8.toNat_inj.1 ω,λh=>by rw[h]⟩];by_cases t:i<I s;rw[decide_eq_true t,decide_eq_false (show ¬(i:Int)=I s by omega),Bool.false_or,ZIf];rw[decide_eq_false t,decide_eq_true (show(i:Int)=I s by omega)];rfl
 generalize QY s i c=b at *;refine rg ?_;refine rx @u ?_;refine⟨λh=>by simp at h;omega,?_⟩;rw[hB];cases b with
 |false =>refine i1 ?_;refine rg ?_;exact o rfl φ (ZHT _) ZHU
 |true =>refine i0 ?_;refine xA @u ?_;refine rg ?_;exact o rfl φ (ZHT _) ZHU
def Zwr{P}{F:Fr P}{kp dk o os H L s}(hg:Zw H o.guard=sO false){e}(h:Kl F kp dk os (putE H o.dst (.when false e)) L s)(hk:WE o.k=false:=by rfl):Kl F kp dk (o::os) H L s:=λ_=>Zfg hg hk (h _)
def Zj3{f p}(hf:∀(c:UInt8) st,VT ZHP f [.int .u8 c.toNat] st (.bool (p c)) st){T:St}{z s}{i:Nat}{h:Int}(hz:T z=sO (.cells (KZ s i h)))(hi:i<=I s)(hs:I s<=1000):
  ZL ZHP 42 [.ptr z 0,f] T (.str (Ys p s i)) (T.upd z (.cells (KZ s (i+(Ys p s i).length) h))):=by
 refine ZE (cR 42 f42) λag F t=>?_;clear ag;have u:=λk=>Ztp (p:=p) (s:=s) (i:=i) (k:=k);have ab:=ZAJ (p:=p) (s:=s) (i:=i);have ac:=Zzt (p:=p) (s:=s) (i:=i);generalize Ys p s i=w at *;have hwl:i+I w<=I s:=by by_cases e:I w=0;omega;have:=(u (I w-1) ω).1;omega
 refine rg ?_;refine rx @hz ?_;refine Zd (Zb (fr (I w) (λk Q=>k<=I w->Q [(0,.d (.ptr z 0)),(1,.d f),(5,.d (.i i))] [] (T.upd z (.cells (KZ s (i+k) h)))) (λn r=>?_) λah=>?_));intro k hn hk;by_cases af:i+k<I s;have ae:dC (((i+k:Nat):Int)<(I s:Int))=true:=decide_eq_true ω;refine rx (nd2 @ZHW @ae) ?_;refine⟨ω,ω,?_⟩;refine cW0 (hf (s.getD (i+k) 0) _) ?_;by_cases o:k<I w;rw[(u k o).2];refine i1 ?_;refine xA (nd2 @ZHW @ZH7) ?_;refine Zi (Za ?_);exact r ((I w)-(k+1)) ω (k+1) rfl ω;have o:k=I w:=ω;rw[o,ab ω];refine i0 ?_;refine rx @ZHW ?_;refine⟨ω,ω,ω,?_⟩;rw[show i+I w-i=I w by omega,ac];exact t rfl φ (ZHT _) ZHU;have ad:dC (((i+k:Nat):Int)<(I s:Int))=false:=decide_eq_false ω;refine rx (nd2 @ZHW @ad) ?_;refine Zwr rfl (e:=.d (.bool false)) (Ye ?_);simp only[Eqs,reduceCtorEq,ZHV,reduceIte,ZHR,ZHY,ZHS];refine i0 ?_;have o:k=I w:=by by_cases e:k=I w;exact e;exact absurd (u k ω).1 af
 subst o;refine rx @ZHW ?_;refine⟨ω,ω,ω,?_⟩;rw[show i+I w-i=I w by omega,ac];exact t rfl φ (ZHT _) ZHU;have e0:T.upd z (.cells (KZ s (i+0) h))=T:=by funext b;by_cases e:b=z;subst e;rw[ZHW];exact hz.symm;rw[ZH0 _ _ e]
 rw[<-e0];exact ah _ 0 rfl ω
def Zjj:Prop:=∀(s:Str) (c:UInt8),Zc ZHP 138 [.str s,.int .u8 c.toNat] (.i (Zl (λb=>dC (b=c)) s))
def Zvk(s:Str):Prop:=∀c∈s,48<=c.toNat/\c.toNat<=57
def Zyy{n:Nat}(h:n<1000):(Kn n).length<=3:=by
 have s1:∀{k},k<10->(Kn k).length=1:=λh=>by rw[Kb h];rfl
 by_cases i:n<10;rw[s1 i];omega;rw[Zbl i,ZHX,s1 (Nat.mod_lt _ ω)];by_cases o:n / 10<10;rw[s1 o];omega;rw[Zbl o,ZHX,s1 (Nat.mod_lt _ ω),s1 (show n / 10 / 10<10 by omega)];omega
def ZdT(s:Str):Nat:=s.foldl (λa c=>a*10+(c.toNat-48)) 0
def ZqQ(a:Str)(c):ZdT (a++[c])=ZdT a*10+(c.toNat-48):=by unfold ZdT;rw[List.foldl_append];rfl
def Zvd{s:Str}(o:Zvk s):∀i,i<=I s->ZdT (s.take i)<10 ^ i
 |0,_=>by simp[ZdT]
 |i+1,h=>by have ih:=Zvd o i ω;have hc:=o (s.getD i 0) (Zr ω);have r:s.take (i+1)=s.take i++[s.getD i 0]:=ZQ (show i<I s by omega);rw[r,ZqQ,Nat.pow_succ];omega
def ZkG{s:Str}(hs:Zvk s)(h0:s≠[])(hl:I s<=10):Zc ZHP 93 [.str s] (.tup [.i (ZdT s),.niliface]):=by
 refine Ze (cR 93 f93) λF st u=>?_;have hlen:0<I s:=List.length_pos_iff.2 h0;have hg0:=hs (s.getD 0 0) (Zr ω);have hv:=λi hi=>Zvd hs i hi;have r:=λi (hi:i<I s)=>hs (s.getD i 0) (Zr hi);have ac:=λi (hi:i<I s)=>(congrArg ZdT (show s.take (i+1)=s.take i++[s.getD i 0] from ZQ hi)).trans (ZqQ (s.take i) (s.getD i 0));generalize t:s.getD 0 0=c0 at *;refine gG ?_;refine rg ?_;refine Zj rfl trivial (λ_=>?_) (λh=>by simp at h;omega);refine rg ?_;refine xA @t ?_;refine Zj rfl trivial (λh=>by simp at h;omega) (λ_=>?_);refine gG ?_;rw[show(0:Int)=((ZdT (s.take 0):Nat):Int) from rfl];refine Zb (fr (I s) (λi Q=>i<=I s->Q [(5,.d (.str s)),(6,.d (.i (ZdT (s.take i):Nat))),(47,.d (slD 1 byC s)),(48,.d (.i (I s))),(49,.d (.i i))] [] st) (λn o=>?_) λad=>?_);intro i hn hi;refine rg ?_;refine Zd (Zj rfl trivial (λh1=>?_) (λh1=>?_));have h1:i<I s:=by simpa using h1
 have hb:=hv i hi;have hp:10 ^ i<=1000000000:=Nat.pow_le_pow_right (n:=10) ω (show i<=9 by omega);have hci:=r i h1;have ab:=ac i h1;generalize hc:s.getD i 0=c at *;refine xA (nd2 @eQ1 @byC.eq_1) ?_;rw[show ZH6 s i dE=c from hc];refine gA ?_;refine rg ?_;refine Zj rfl trivial (λh=>by simp at h;omega) (λ_=>?_);refine rg ?_;rw[show IntKind.i64.wrap ((c.toNat:Int)-48)=(c.toNat:Int)-48 from Wn ω];refine aa ?_;rw[show((ZdT (s.take i):Nat):Int)*10+((c.toNat:Int)-48)=((ZdT (s.take (i+1)):Nat):Int) by rw[ab];push_cast;omega];refine gA ?_;refine Za ?_;exact o ((I s)-(i+1)) ω (i+1) rfl ω;have h1:i=I s:=by simp at h1;omega
 subst h1;rw[ZIb];refine xA @t ?_;refine Zj rfl trivial (λh=>by simp at h;omega) (λ_=>?_);refine rg ?_;refine rt u ?_;rfl;exact ad _ 0 rfl ω
def ZlD(c:UInt8):Zc ZHP 43 [.int .u8 c.toNat] (.bool (Kh c)):=by
 refine Ze (cR 43 f43) λF st o=>?_;have t:=Zas [97,c];have r:Yl [97,c]=Kh c:=by simp[Yl,Zda,Kh,JF]
 refine gG ?_;have e:List.map (λi=>ZcB (ZI [D.int .u8 0] ([0].zip [D.int .u8 (c.toNat:Int)]) i)) (ZH5 1)=[c]:=by show[UInt8.ofNat ((c.toNat:Int)).toNat]=[c];simp
 rw[e];refine⟨λi hi=>?_,by unfold big;simp,?_⟩;obtain rfl:i=0:=ω;exact⟨_,rfl⟩;refine cl (t) ?_;refine rb o ?_;exact r
def ZlE(c:UInt8):Zc ZHP 47 [.int .u8 c.toNat] (.bool (JF c)):=by
 refine Ze (cR 47 f47) λF st i=>?_;refine gG ?_;refine rb i ?_;rfl
def Zcs:Str:=[48,49,50,51,52,53,54,55,56,57,97,98,99,100,101,102]
def Zct(c:UInt8):Int:=Zl (λb=>dC (b=c)) Zcs
def KX(c:UInt8):Bool:=dC (0<=Zct c)
def ZaK(o:Zjj)(s c):Zc ZHP 96 [.str s,.int .u8 c.toNat] (.i (Zl (λb=>dC (b=c)) s)):=by
 refine Ze (cR 96 f96) λF st i=>?_;have r:=o s c;refine gG ?_;refine cl (r) ?_;refine ri i ?_;rfl
def Zop(o:Zjj)(c:UInt8):Zc ZHP 95 [.int .u8 c.toNat] (.bool (KX c)):=by
 refine Ze (cR 95 f95) λF st i=>?_;have r:=ZaK o Zcs c;refine gG ?_;refine cl (r) ?_;refine rb i ?_;rfl
def Zcd(s:Str)(k:Nat):Str:=(ZH5 k).map λi=>UInt8.ofNat ((Zct (s.getD (2*i) 0)).toNat*16+(Zct (s.getD (2*i+1) 0)).toNat)
def ZAq{c}:-1<=Zct c/\Zct c<16:=⟨K4 _ _,YC _ Zcs⟩
def Zcr(w:Str)(m k:Nat):List D:=((Zcd w k).map λc=>D.int .u8 (c.toNat:Int))++List.replicate (m-k) (.int .u8 0)
def ZjX{p:UInt8->Bool}{c}:∀{l:Str},c∈l.takeWhile p->p c=true
 | [],h=>by simp at h
 |x::r,h=>by rw[List.takeWhile_cons]at h;split at h;rename_i i;rcases List.mem_cons.1 h with rfl|h;exact i;exact ZjX h;simp at h
def ZB5{a:Int}(h:0<=a/\a<16):QQ .i64 a 4=a*16:=by
 have:∀n:Nat,n<16->QQ .i64 (n:Int) 4=(n:Int)*16:=by decide
 have:=this a.toNat ω
 rwa [show((a.toNat:Nat):Int)=a by omega]at this
def ZCd{a c:Int}(ha:0<=a/\a<16)(hc:0<=c/\c<16):IntKind.u8.wrap (Qp .or .i64 (a*16) c)=((UInt8.ofNat (a.toNat*16+c.toNat)).toNat:Int):=by
 have:∀n:Nat,n<16->∀k:Nat,k<16->IntKind.u8.wrap (Qp .or .i64 ((n:Int)*16) k)=((UInt8.ofNat (n*16+k)).toNat:Int):=by decide
 have:=this a.toNat ω c.toNat ω
 rwa [show((a.toNat:Nat):Int)=a by omega,show((c.toNat:Nat):Int)=c by omega]at this
def Zxa{w m}:Zcr w m 0=WT [.int .u8 0] m:=by
 unfold Zcr WT;show List.replicate m (D.int .u8 0)=_;induction m with
 |zero=>rfl
 |succ m ih=>rw[List.replicate_succ,List.replicate_succ,List.flatten_cons,<-ih];rfl
def Zgk{w k}:(Zcd w k).length=k:=by unfold Zcd;simp
def Zsw{w m k}(h:k<=m):(Zcr w m k).length=m:=by unfold Zcr;rw[ZHX,ZH4,Zgk,List.length_replicate];omega
def Zw9{w:Str}{m k}(h:k<m):ZF (Zcr w m k) k [.int .u8 ((UInt8.ofNat ((Zct (w.getD (2*k) 0)).toNat*16+(Zct (w.getD (2*k+1) 0)).toNat)).toNat:Int)]=Zcr w m (k+1):=by
 unfold Zcr ZF;have i:((Zcd w k).map λc=>D.int .u8 (c.toNat:Int)).length=k:=by rw[ZH4,Zgk]
 have o:Zcd w (k+1)=Zcd w k++[UInt8.ofNat ((Zct (w.getD (2*k) 0)).toNat*16+(Zct (w.getD (2*k+1) 0)).toNat)]:=by unfold Zcd;rw[List.range_succ,List.map_append];rfl
 rw[List.take_left' i,o,List.map_append,show m-k=(m-(k+1))+1 by omega,List.replicate_succ,List.length_singleton,<-List.drop_drop,List.drop_left' i];simp
def Ztm(hX:Zjj){T:St}{z s}{i:Nat}{h:Int}(hz:T z=sO (.cells (KZ s i h)))(hi:i<=I s)(hs:I s<=1000){m:Nat}(hm:(Ys KX s i).length=2*m):
  Zf ZHP 48 [.ptr z 0] T λr S=>∃b,(T.upd z (.cells (KZ s (i+2*m) h))) b=nO/\r=.ret (.msl b 0 m m 1)/\S=(T.upd z (.cells (KZ s (i+2*m) h))).upd b (.cells (Zcr (Ys KX s i) m m)):=by
 refine Zh (cR 48 f48) λF hF=>?_;have t:=Zj3 (f:=.fn (.func 95) [] []) (p:=KX) (λc st=>(Zop hX c).VT (first:=[]) (caps:=[]) st) hz hi hs;have hwl:(Ys KX s i).length<=I s:=by by_cases e:(Ys KX s i).length=0;omega;have:=(Ztp (p:=KX) (s:=s) (i:=i) (k:=(Ys KX s i).length-1) ω).1;omega
 rw[hm]at t;have ae:∀c∈Ys KX s i,0<=Zct c/\Zct c<16:=λc hc=>by have h1:KX c=true:=ZjX hc;unfold KX at h1;exact⟨by simpa using h1,ZAq.2⟩
 generalize Ys KX s i=w at *;generalize T.upd z (.cells (KZ s (i+2*m) h))=T2 at *;refine gG ?_;refine ct (t) ?_;have ad:(I w:Int).tmod 2=0:=by rw[hm,Int.tmod_eq_emod_of_nonneg ω];omega
 have ac:(I w:Int).tdiv 2=(m:Int):=by rw[hm,Int.tdiv_eq_ediv_of_nonneg ω];omega
 refine rg ?_;rw[ad];refine aa ?_;refine cl (ZaR) ?_;refine rg ?_;rw[ac,Int.toNat_natCast];refine⟨by decide,ω,ω,ω,ω,ω,by unfold big;omega,λb hb=>?_⟩;rw[<-Zxa (w:=w)];refine rg ?_;refine Zb (fr (m) (λk Q=>k<=m->Q [(3,.d (.str w)),(4,.d (.msl b 0 m m 1)),(20,.d (.i m)),(21,.d (.i k))] [] (T2.upd b (.cells (Zcr w m k)))) (λn o=>?_) λak=>?_);intro k hn hk;refine rg ?_;refine Zd (Zj rfl trivial (λh1=>?_) (λh1=>?_));have h1:k<m:=by simpa using h1
 refine gG ?_;have ai:(2*(k:Int)).toNat=2*k:=ω;have aj:(2*(k:Int)+1).toNat=2*k+1:=ω;have af:=ZaK hX Zcs (w.getD (2*k) 0);have ag:=ZaK hX Zcs (w.getD (2*k+1) 0);have ab:=ae (w.getD (2*k) 0) (Zr ω);have ah:=ae (w.getD (2*k+1) 0) (Zr ω);have u:=Zw9 (w:=w) h1;rw[show(Zl (λb=>dC (b=w.getD (2*k) 0)) Zcs)=Zct (w.getD (2*k) 0) from rfl]at af;rw[show(Zl (λb=>dC (b=w.getD (2*k+1) 0)) Zcs)=Zct (w.getD (2*k+1) 0) from rfl]at ag;generalize Zct (w.getD (2*k) 0)=a at *;generalize Zct (w.getD (2*k+1) 0)=c at *;rw[ai,aj];refine aa ?_;refine cl0 (af) ?_;rw[ZB5 ab];refine aa ?_;refine cX0 (nd2 @ZHW @ZH7) (ag) ?_;refine⟨ω,ω,by rw[Zsw ω];omega,?_⟩;rw[ZCd ab ah,Nat.mul_one,show List.take k (Zcr w m k)++[D.int .u8 ((UInt8.ofNat (a.toNat*16+c.toNat)).toNat:Int)]++List.drop (k+1) (Zcr w m k)=Zcr w m (k+1) from u];refine gA ?_;refine Za ?_;exact o ((m)-(k+1)) ω (k+1) rfl ω;have h1:k=m:=by simp at h1;omega
 subst h1;refine rg ?_;exact hF.ret _ _ rfl φ (ZHT _) ZHU ⟨b,hb,rfl,rfl⟩;exact ak _ 0 rfl ω
def Zri(hX:Zjj){T:St}{z s}{i:Nat}{h:Int}(hz:T z=sO (.cells (KZ s i h)))(hi:i<=I s)(hs:I s<=1000){m:Nat}(hm:(Ys KX s i).length=2*m):
  Zf ZHP 48 [.ptr z 0] T λr S=>r=.ret (Zg (Zcd (Ys KX s i) m))/\S=T.upd z (.cells (KZ s (i+2*m) h)):=by
 refine Zf.freeze (Ztm hX hz hi hs hm) λr S ⟨b,hb,hr,t⟩=>⟨[b],_,_,hr,λy u=>?_,?_,rfl,?_⟩;rw[List.mem_singleton]at u;subst u t;exact⟨_,ZHW _ _ _⟩;subst t;have hl:=Zsw (w:=Ys KX s i) (m:=m) (ZH9 m);have hx:=Y1.msl (n:=m) (cap:=m) (sz:=1) (row:=λk=>u8C ((Zcd (Ys KX s i) m).getD k dE)) (List.mem_singleton.2 rfl) (ZHW (T.upd z (.cells (KZ s (i+2*m) h))) b (.cells (Zcr (Ys KX s i) m m))) (by rw[hl];omega) (λk hk=>?_);have o:=Zgk (w:=Ys KX s i) (k:=m);unfold Zg slD;rw[o];exact hx;have:((Zcr (Ys KX s i) m m).drop (k*1)).take 1=u8C ((Zcd (Ys KX s i) m).getD k dE):=by
  have hg:k<(Zcd (Ys KX s i) m).length:=by rw[Zgk];exact hk
  unfold Zcr;rw[Nat.mul_one,Nat.sub_self,List.replicate_zero,ZIj,<-List.map_drop,Yf hg];rfl
 rw[this];exact LdC.refl _;subst t;funext y;simp only[St.delL,List.mem_singleton];by_cases e:y=b;subst e;rw[if_pos rfl];exact hb.symm;rw[if_neg e,ZH0 _ _ e]
def Zvf(P:Program)(f:FuncId)(args:List D)(b:Str):Prop:=∀(tk:Tok) (row:Nat->List D) (out:Str) (st:St),tk.okIn st->Zy u8C row out->I out+I b<=1000000 ->
 Zf P f (.sl tk (I out) 1 row::args) (st.own tk (I out*1)) λr S=>∃(tk':Tok) (row':Nat->List D),tk'.okIn st/\Zy u8C row' (out++b)/\r=.ret (.sl tk' (out++b).length 1 row')/\S=st.own tk' ((out++b).length*1)
def ZqT{n:Nat}(h:n<100):Zvf ZHP 175 [.int .u64 n,.i 10] (Kn n):=λtk row t st htk r hlen=>by
 refine Zh (cR 175 f175) λF hF=>?_;have hl3:=Zyy (n:=n) ω;refine gG ?_;refine i1 ?_;refine rg ?_;refine Zj rfl trivial (λ_=>?_) (λh=>by simp at h;omega);refine rg ?_;rw[Wn (show -9223372036854775808<=(n:Int)/\(n:Int)<=9223372036854775807 by omega)];refine cl (Ztt h) ?_;generalize Kn n=ds at *;refine Y2 (st) (tk) rfl rfl rfl rfl rfl rfl φ φ rfl (by first|trivial|assumption) ω (by (unfold big;omega)) λt1 u=>Zk ?_;simp only[Eqs,reduceCtorEq,ZHV,reduceIte,ZHR,ZHY,ZHS];have o:Zy u8C (Yd (I t) row λi=>u8C (ds.getD i dE)) (t++ds):=r.app Zy.self rfl;exact hF.ret _ _ rfl φ (ZHT _) ZHU ⟨t1,_,u,o,by rw[ZHX];rfl,by rw[ZHX]⟩
def ZrE{n:Nat}(h:n<100):Zvf ZHP 99 [.i n,.i 10] (Kn n):=λtk row o st ab u t=>by
 have h1:=ZqT h tk row o st ab u t;have hw:IntKind.u64.wrap (n:Int)=n:=by unfold IntKind.wrap;simp[IntKind.bits,IntKind.signed];omega
 have h2:Zf ZHP 142 [.sl tk (I o) 1 row,.i n,.i 10] (st.own tk (I o*1)) λr S=>∃(i:Tok) (row':Nat->List D),i.okIn st/\Zy u8C row' (o++Kn n)/\r=.ret (.sl i (o++Kn n).length 1 row')/\S=st.own i ((o++Kn n).length*1):=by refine Zh (cR 142 f142) λF hF=>?_;refine gG ?_;rw[hw];refine rg ?_;refine Zj rfl trivial (λh=>by simp at h;omega) (λ_=>?_);refine rg ?_;refine cV (h1) ?_ ?_;rintro d S ⟨i,row',a1,a2,hr,rfl⟩;cases hr;refine gR0 ?_;exact hF.ret _ _ rfl φ (ZHT _) ZHU ⟨i,row',a1,a2,rfl,rfl⟩;rintro d S ⟨_,_,_,_,hr,_⟩;cases hr
 refine Zh (cR 99 f99) λF hF=>?_;refine gG ?_;refine cV (h2) ?_ ?_;rintro d S ⟨i,row',a1,a2,hr,rfl⟩;cases hr;refine gR0 ?_;exact hF.ret _ _ rfl φ (ZHT _) ZHU ⟨i,row',a1,a2,rfl,rfl⟩;rintro d S ⟨_,_,_,_,hr,_⟩;cases hr
def J0(l:Str):Str:=l.flatMap λc=>[Zcs.getD (c.toNat / 16) 0,Zcs.getD (c.toNat % 16) 0]
def Zsx(l):(J0 l).length=2*I l:=by
 unfold J0;induction l with
 |nil=>rfl
 |cons c r ih=>rw[List.flatMap_cons,ZHX,ih];simp;omega
def Zxb(a:Str)(c):J0 (a++[c])=J0 a++[Zcs.getD (c.toNat / 16) 0,Zcs.getD (c.toNat % 16) 0]:=by unfold J0;rw[List.flatMap_append];simp
def nib{c:UInt8}:WL .u8 (c.toNat:Int) 4=((c.toNat / 16:Nat):Int)/\Qp .and .u8 (c.toNat:Int) 15=((c.toNat % 16:Nat):Int):=by
 have:∀n:Nat,n<256->WL .u8 (n:Int) 4=((n / 16:Nat):Int)/\Qp .and .u8 (n:Int) 15=((n % 16:Nat):Int):=by decide
 exact this c.toNat c.toNat_lt
def Zsy(l:Str)(hll:I l<=100000):Zvf ZHP 100 [Zg l] (J0 l):=λtk row o st u r ad=>by
 refine Zh (cR 100 f100) λF hF=>?_;rw[Zsx]at ad;have hE:∀i,(o++J0 (l.take i)).length=I o+2*(l.take i).length:=λi=>by rw[ZHX,Zsx]
 refine rg ?_;refine rx (nd2 @Zg.eq_1 @eQ1) ?_;rw[show D.sl tk (I o) 1 row=D.sl tk (o++J0 (l.take 0)).length 1 row by simp[J0],show (I o)*1=(o++J0 (l.take 0)).length*1 by simp[J0]];refine Zb (fr (I l) (λi Q=>∀tk row,tk.okIn st->Zy u8C row (o++J0 (l.take i))->i<=I l->Q [(0,.d (.sl tk (o++J0 (l.take i)).length 1 row)),(1,.d (Zg l)),(7,.d (.i (I l))),(8,.d (.i i))] [] (st.own tk ((o++J0 (l.take i)).length*1))) (λn ab=>?_) λaj=>?_);clear r u row tk;intro i hn tk row u r hi;refine rg ?_;refine Zd (Zj rfl trivial (λh1=>?_) (λh1=>?_));have h1:i<I l:=by simpa using h1
 have ah:(l.take i).length=i:=by rw[ZIa];omega
 have af:=hE i;rw[ah]at af;have ac:=Zxb (l.take i) (l.getD i dE);rw[<-ZQ h1]at ac;have hc:=(l.getD i dE).toNat_lt;generalize ag:l.getD i dE=c at *;obtain⟨n1,n2⟩:=nib (c:=c);refine rg ?_;have ae:(o++J0 (l.take (i+1))).length=(o++J0 (l.take i)).length+2:=by rw[ac,<-ZIh,ZHX];rfl
 refine xA (nd2 @Zg.eq_1 (nd2 @eQ1 (nd2 @u8C.eq_1 (nd2 @ag (nd2 @n1 @n2))))) ?_;refine ZrG (st) (tk) rfl rfl rfl rfl rfl rfl φ φ rfl (by first|trivial|assumption) ω (by (unfold big;omega)) λt1 ai=>Ye ?_;simp only[Eqs,reduceCtorEq,ZHV,reduceIte,ZHR,ZHY,ZHS];have t:=r.app (b:=[Zcs.getD (c.toNat / 16) 0,Zcs.getD (c.toNat % 16) 0]) (row2:=ZI [D.int .u8 0] ([0,1].zip [D.int .u8 ((Zcs.getD (c.toNat / 16) 0).toNat:Int),D.int .u8 ((Zcs.getD (c.toNat % 16) 0).toNat:Int)])) (λk hk=>by
  rcases(show k=0\/k=1 by simp at hk;omega) with rfl|rfl<;>rfl) rfl
 rw[ZIh,<-ac]at t;rw[<-ae];refine gA ?_;refine Za ?_;exact ab ((I l)-(i+1)) ω (i+1) rfl t1 _ ai t ω;have h1:i=I l:=by simp at h1;omega
 subst h1;rw[ZIb]at *;refine rg ?_;exact hF.ret _ _ rfl φ (ZHT _) ZHU ⟨tk,row,u,r,rfl,rfl⟩;exact aj _ 0 rfl tk row u (by simpa[J0]using r) ω
mutual
def Zaw:Val->Str
 |.mk n i b _ p=>n++((if i=0 then [] else 61::Kn i.toNat)++((if b=[] then [] else 35::J0 b)++(writeL p true++if p=[] then [] else [41])))
def writeL:List Val->Bool->Str
 | [],_=>[]
 |v::r,f=>(if f then 40 else 32)::(Zaw v++writeL r false)
end
mutual
def wOk:Val->Bool
 |.mk _ i b h p=>(dC (0<=i)&&(dC (i<100)&&(dC (I b<=1000)&&h.isEmpty)))&&wOkL p
def wOkL:List Val->Bool
 | []=>true
 |v::r=>wOk v&&wOkL r
end
def Zex(i:Int):Str:=if i=0 then [] else 61::Kn i.toNat
def Zet(b:Str):Str:=if b=[] then [] else 35::J0 b
def Zx4(v):Zaw v=v.name++(Zex v.int++(Zet v.bytes++(writeL v.parts true++if v.parts=[] then [] else [41]))):=by cases v;rfl
def ZzG{l}:wOkL l=true↔∀x∈l,wOk x=true:=by
 induction l with
 |nil=>simp[wOkL]
 |cons v r ih=>simp[wOkL,ih]
def ZAY{v}:wOk v=true↔((0<=v.int/\v.int<100)/\I v.bytes<=1000/\v.hdrs=[])/\∀x∈v.parts,wOk x=true:=by
 cases v with|mk n i b h p =>
 simp only[wOk,ZH1,decide_eq_true_eq,List.isEmpty_iff,ZzG,Val.int,Val.bytes,Val.hdrs,Val.parts];exact⟨λh=>⟨⟨⟨h.1.1,h.1.2.1⟩,h.1.2.2.1,h.1.2.2.2⟩,h.2⟩,λh=>⟨⟨h.1.1.1,h.1.1.2,h.1.2.1,h.1.2.2⟩,h.2⟩⟩
def Zmt:∀(a:List Val) (x) (f:Bool),writeL (a++[x]) f=writeL a f++((if a=[]/\f=true then 40 else 32)::Zaw x)
 | [],x,f=>by cases f<;>simp[writeL]
 |v::r,x,f=>by rw[List.cons_append,writeL,writeL,Zmt r x false];simp
def Zuu{l:List Val}{k}(h:k<I l):writeL (l.take (k+1)) true=writeL (l.take k) true++((if k=0 then 40 else 32)::Zaw (l.getD k dE)):=by
 rw[ZQ h,Zmt]
 congr 2
 by_cases e:k=0;subst e;simp;rw[if_neg e,if_neg];intro i;have:=congrArg List.length i.1;rw[ZIa,List.length_nil]at this;omega
def Zms:∀(l:List Val) (k) (f),(writeL (l.take k) f).length<=(writeL l f).length
 | [],k,f=>by simp
 |v::r,0,f=>by simp[writeL]
 |v::r,k+1,f=>by have:=Zms r k false;rw[List.take_succ_cons,writeL,writeL];simp only[ZH3,ZHX];omega
def Zut(v:Val)(h:DWf (.agg v.cells)):I v.parts<=big:=by
 rw[v.cells_eq]at h;exact(Zf2 (h.agg_inv _ ψ))
def ZpU(v:Val):wOk v=true->Zvf ZHP 50 [.agg v.cells] (Zaw v):=by
 induction v using Val.ind with
 |h v ih =>
 intro hv tk row af st ab o hlen;obtain⟨⟨hi,hb,hh⟩,hp⟩:=ZAY.1 hv;have hW:=Zx4 v;generalize Zaw v=W at *;have ak:=congrArg List.length hW;simp only[ZHX]at ak;refine ZaS (cR 50 f50) λav F hF=>?_;have a8:=Zut v (av (.agg v.cells) ψ);unfold big at a8;clear av;have al:=λk=>Zms v.parts k true;have ap:=λk (hk:k<I v.parts)=>Zuu hk;rw[v.cells_eq,hh];refine gG ?_;refine Y2 (st) (tk) rfl rfl rfl rfl rfl rfl φ φ rfl (by first|trivial|assumption) ω (by (unfold big;omega)) λt1 au=>Zk ?_;simp only[Eqs,reduceCtorEq,ZHV,reduceIte,ZHR,ZHY,ZHS];have u:Zy u8C (Yd (I af) row λi=>[D.int .u8 ((v.name.getD i 0).toNat:Int)]) (af++v.name):=o.app Zy.self rfl;obtain⟨o1,am⟩:∃o1,o1=af++v.name:=⟨_,rfl⟩;have a0:I o1=I af+I v.name:=by rw[am,ZHX]
 rw[<-am]at u;rw[<-a0];generalize (Yd (I af) row λi=>[D.int .u8 ((v.name.getD i 0).toNat:Int)])=row1 at *;refine rg ?_;refine jU [0] (λQ=>∀tk row,tk.okIn st->Zy u8C row (o1++Zex v.int)->Q F [(0,.d (.sl tk (o1++Zex v.int).length 1 row)),(3,.loc 3 0)] [(3,[.str v.name,.i v.int,Zg v.bytes,Zx [],Zu v.parts])] (st.own tk ((o1++Zex v.int).length*1))) ?_ λj1=>?_;clear o ab u tk row t1 au row1;intro tk row ab o;obtain⟨o2,an⟩:∃o2,o2=o1++Zex v.int:=⟨_,rfl⟩;have hl2:I o2=I o1+(Zex v.int).length:=by rw[an,ZHX]
 rw[<-an]at o⊢;refine rx @Wc ?_;refine jU [0] (λQ=>∀tk row,tk.okIn st->Zy u8C row (o2++Zet v.bytes)->Q F [(0,.d (.sl tk (o2++Zet v.bytes).length 1 row)),(3,.loc 3 0)] [(3,[.str v.name,.i v.int,Zg v.bytes,Zx [],Zu v.parts])] (st.own tk ((o2++Zet v.bytes).length*1))) ?_ λj2=>?_;clear o ab tk row;intro tk row ab o;obtain⟨o3,ao⟩:∃o3,o3=o2++Zet v.bytes:=⟨_,rfl⟩;have hl3:I o3=I o2+(Zet v.bytes).length:=by rw[ao,ZHX]
 rw[<-ao]at o⊢;refine rx @Zbt ?_;refine Zb (Qm ?_);refine gI ?_;refine rx @KN ?_;obtain⟨oP,ah⟩:∃oP:Nat->Str,oP=λk=>o3++writeL (v.parts.take k) true:=⟨_,rfl⟩;have aq:oP 0=o3:=by rw[ah];simp[writeL]
 have ay:∀k,(oP k).length=I o3+(writeL (v.parts.take k) true).length:=λk=>by rw[ah,ZHX]
 have az:∀k,k<I v.parts->oP (k+1)=(oP k++[if k=0 then 40 else 32])++Zaw (v.parts.getD k dE):=λk hk=>by rw[ah];simp only;rw[ap k hk];simp
 have ar:¬v.parts=[]->∀k,(oP k).length+1<=1000000:=λa5 k=>by have:=al k;rw[ay];rw[if_neg a5]at ak;simp only[ZH3,List.length_nil]at ak;omega
 have ax:oP (I v.parts)=o3++writeL v.parts true:=by rw[ah];simp only;rw[ZIb]
 rw[<-aq];refine Zb (fr (I v.parts) (λk Q=>∀tk row,tk.okIn st->Zy u8C row (oP k)->k<=I v.parts->Q [(0,.d (.sl tk (oP k).length 1 row)),(3,.loc 3 0),(56,.d (Zu v.parts)),(57,.d (.i (I v.parts))),(58,.d (.i k))] [(3,[.str v.name,.i v.int,Zg v.bytes,Zx [],Zu v.parts])] (st.own tk ((oP k).length*1))) (λn ai=>?_) λa9=>?_);clear o ab tk row;intro k hnk tk row ab o hk;refine rg ?_;refine Zd (Zj rfl trivial (λhc=>?_) (λhc=>?_));have hc:k<I v.parts:=by simpa using hc
 have a6:=YX hc;have aw:=ih _ (Zr hc) (hp _ (Zr hc));have aj:=az k hc;have hPk1:=ar (λe=>by rw[e]at hc;simp at hc) (k+1);have a4:=congrArg List.length aj;rw[ZHX,ZHX,List.length_singleton]at a4;generalize v.parts.getD k dE=x at *;rw[x.cells_eq]at aw;refine xA (nd2 @atV @a6) ?_;refine gG ?_;refine jU [0] (λQ=>∀sg:UInt8,sg=(if k=0 then 40 else 32)->Q F [(0,.d (.sl tk (oP k).length 1 row)),(3,.loc 3 0),(8,.loc 8 0),(9,.d (.int .u8 (sg.toNat:Int))),(56,.d (Zu v.parts)),(57,.d (.i (I v.parts))),(58,.d (.i k))] [(3,[.str v.name,.i v.int,Zg v.bytes,Zx [],Zu v.parts]),(8,[.str x.name,.i x.int,Zg x.bytes,Zx x.hdrs,Zu x.parts])] (st.own tk ((oP k).length*1))) ?_ λjc=>?_;intro sg a7;rw[<-a7]at aj;refine rg ?_;refine Zdw (st) (tk) rfl rfl rfl rfl rfl rfl φ φ rfl (by first|trivial|assumption) ω (by (unfold big;omega)) λt2 ae=>⟨by first|trivial|exact⟨rfl,trivial⟩|simp[Eqs,reduceCtorEq,ZHV,reduceIte,ZHR,ZHY,ZHS],Yb ?_⟩;simp only[Eqs,reduceCtorEq,ZHV,reduceIte,ZHR,ZHY,ZHS];have r:=o.snoc (x:=sg) (row2:=ZI [.int .u8 0] ([0].zip [.int .u8 (sg.toNat:Int)])) rfl rfl;have hA:=aw t2 _ (oP k++[sg]) st ae r (by rw[ZHX,List.length_singleton];omega);rw[<-aj,show(oP k++([sg]:Str)).length=(oP k).length+1 by rw[ZHX];rfl]at hA;refine cVD (hA) ?_ ?_;rintro d S ⟨ag,row',a1,a2,hr,rfl⟩;cases hr;refine kF ?_;refine gR0 ?_;refine gA ?_;refine Za ?_;exact ai ((I v.parts)-(k+1)) ω (k+1) rfl ag row' a1 a2 ω;rintro d S ⟨_,_,_,_,hr,_⟩;cases hr;refine cd (λck=>?_) (λck=>?_);have ck:k=0:=by simp at ck;omega
 refine rg ?_;refine kE [0,3,8,9,56,57,58] ?_;exact jc 40 (by rw[if_pos ck]);have ck:¬k=0:=by simp at ck;omega
 refine Zo ?_;refine kE [0,3,8,9,56,57,58] ?_;exact jc 32 (by rw[if_neg ck]);have hc:k=I v.parts:=by simp at hc;omega
 subst hc;have ac:af++W=oP (I v.parts)++(if v.parts=[] then [] else [41]):=by rw[ax,ao,an,am,hW];simp
 refine rx @KN ?_;refine cd (λhq=>?_) (λhq=>?_);have hq:¬v.parts=[]:=λe=>by rw[e]at hq;simp at hq
 have h1m:=ar hq (I v.parts);rw[if_neg hq]at ac;refine rg ?_;refine Y2 (st) (tk) rfl rfl rfl rfl rfl rfl φ φ rfl (by first|trivial|assumption) ω (by (unfold big;omega)) λt2 ae=>Zk ?_;simp only[Eqs,reduceCtorEq,ZHV,reduceIte,ZHR,ZHY,ZHS];have r:=o.snoc (x:=41) (row2:=ZI [.int .u8 0] ([0].zip [.int .u8 41])) rfl rfl;rw[<-ac]at r;have a3:(oP (I v.parts)).length+1=(af++W).length:=by rw[ac,ZHX];rfl
 rw[a3];refine rg ?_;exact hF.ret _ _ rfl φ (ZHT _) ZHU ⟨t2,_,ae,r,rfl,rfl⟩;have hq:v.parts=[]:=by refine List.eq_nil_of_length_eq_zero ?_;simp at hq;simp[hq]
 rw[if_pos hq,ZIj]at ac;rw[<-ac]at o⊢;refine rg ?_;exact hF.ret _ _ rfl φ (ZHT _) ZHU ⟨tk,row,ab,o,rfl,rfl⟩;exact a9 _ 0 rfl tk row ab (by rw[aq];exact o) ω;refine cd (λt=>?_) (λt=>?_);have t:¬v.bytes=[]:=by intro e;rw[e]at t;simp at t
 have e:(o2++[35])++J0 v.bytes=o2++Zet v.bytes:=by unfold Zet;rw[if_neg t];simp
 have el:(Zet v.bytes).length=(J0 v.bytes).length+1:=by unfold Zet;rw[if_neg t];rfl
 refine rg ?_;refine Zdw (st) (tk) rfl rfl rfl rfl rfl rfl φ φ rfl (by first|trivial|assumption) ω (by (unfold big;omega)) λt2 ae=>⟨by first|trivial|exact⟨rfl,trivial⟩|simp[Eqs,reduceCtorEq,ZHV,reduceIte,ZHR,ZHY,ZHS],Yb ?_⟩;simp only[Eqs,reduceCtorEq,ZHV,reduceIte,ZHR,ZHY,ZHS];have r:=o.snoc (x:=35) (row2:=ZI [.int .u8 0] ([0].zip [.int .u8 35])) rfl rfl;have hA:=Zsy v.bytes ω t2 _ (o2++[35]) st ae r (by rw[ZHX,List.length_singleton];omega);rw[e,show(o2++([35]:Str)).length=I o2+1 by rw[ZHX];rfl]at hA;refine cVD (hA) ?_ ?_;rintro d S ⟨ag,row',a1,a2,hr,rfl⟩;cases hr;refine kF ?_;refine gR0 ?_;exact j2 ag row' a1 a2;rintro d S ⟨_,_,_,_,hr,_⟩;cases hr;have t:v.bytes=[]:=by refine List.eq_nil_of_length_eq_zero ?_;simp at t;simp[t]
 have e:o2++Zet v.bytes=o2:=by unfold Zet;rw[if_pos t];simp
 rw[e]at j2;refine Zo ?_;refine kE [0,3] ?_;exact j2 tk row ab o;refine cd (λad=>?_) (λad=>?_);have ad:¬v.int=0:=by simpa using ad
 have hn:v.int=((v.int.toNat:Nat):Int):=ω;have e:(o1++[61])++Kn v.int.toNat=o1++Zex v.int:=by unfold Zex;rw[if_neg ad];simp
 have el:(Zex v.int).length=(Kn v.int.toNat).length+1:=by unfold Zex;rw[if_neg ad];rfl
 have hA:=ZrE (n:=v.int.toNat) ω;rw[<-hn]at hA;refine rg ?_;refine Zdw (st) (t1) rfl rfl rfl rfl rfl rfl φ φ rfl (by first|trivial|assumption) ω (by (unfold big;omega)) λt2 ae=>⟨by first|trivial|exact⟨rfl,trivial⟩|simp[Eqs,reduceCtorEq,ZHV,reduceIte,ZHR,ZHY,ZHS],Yb ?_⟩;simp only[Eqs,reduceCtorEq,ZHV,reduceIte,ZHR,ZHY,ZHS];have r:=u.snoc (x:=61) (row2:=ZI [.int .u8 0] ([0].zip [.int .u8 61])) rfl rfl;have hA:=hA t2 _ (o1++[61]) st ae r (by rw[ZHX,List.length_singleton];omega);rw[e,show(o1++([61]:Str)).length=I o1+1 by rw[ZHX];rfl]at hA;refine cVD (hA) ?_ ?_;rintro d S ⟨ag,row',a1,a2,hr,rfl⟩;cases hr;refine kF ?_;refine gR0 ?_;exact j1 ag row' a1 a2;rintro d S ⟨_,_,_,_,hr,_⟩;cases hr;have ad:v.int=0:=by simpa using ad
 have e:o1++Zex v.int=o1:=by unfold Zex;rw[if_pos ad];simp
 rw[e]at j1;refine Zo ?_;refine kE [0,3] ?_;exact j1 t1 row1 au u
def ZAG{w:Str}(h:Zy u8C row w):(∀i,i<I w->ZmY (row i))/\(ZH5 (I w)).map (λi=>ZcB (row i))=w:=by
 refine⟨λi o=>by rw[h i o];exact⟨_,rfl⟩,?_⟩;refine(List.map_congr_left (g:=λi=>ZcB (u8C (w.getD i dE))) λi o=>?_).trans (Zx0 w);rw[h i (List.mem_range.1 o)]
def Zrs{v:Val}(hV:Kt v=true)(hw:wOk v=true)(hl:(Zaw v).length<=1000000):Zc ZHP 27 [.agg v.cells] (.tup [.str (Zaw v),.i 0]):=by
 refine λst=>Zh (cR 27 f27) λF hF=>?_;have o:=ZhP v;rw[hV]at o;have r:Zf ZHP 50 [.nilsl,.agg v.cells] st _:=Zf.leA (.cons (Z1 λb h=>by cases h) (.cons (ZHT _) .nil)) (ZpU v hw .full (λ_=>[]) [] st trivial Zy.nil (by simpa using hl));rw[List.nil_append]at r;generalize Zaw v=w at *;rw[v.cells_eq]at *;refine gG ?_;refine cl (o) ?_;refine iG ?_;refine cV (r) ?_ ?_;rintro d S ⟨tk',row',t,u,i,rfl⟩;cases i;obtain⟨r1,r2⟩:=ZAG u;refine gR0 ?_;refine⟨r1,?_⟩;rw[r2];exact hF.ret _ st rfl φ (ZHT _) (Yj t) ⟨rfl,rfl⟩;rintro d S ⟨_,_,_,_,i,_⟩;cases i
def pN(s:Str)(j:Nat):Option (Int×Nat) :=
 if QY s j 61 then (if Ys JF s (j+1)≠[]/\(Ys JF s (j+1)).length<=10 then sO (ZdT (Ys JF s (j+1)),j+1+(Ys JF s (j+1)).length) else nO) else sO (0,j)
def pB(s:Str)(k:Nat):Option (Str×Nat) :=
 if QY s k 35 then (if (Ys KX s (k+1)).length % 2=0 then sO (Zcd (Ys KX s (k+1)) ((Ys KX s (k+1)).length / 2),k+1+(Ys KX s (k+1)).length) else nO) else sO ([],k)
def pL(rec:Nat->Option (Val×Nat))(s:Str):Nat->Nat->List Val->Option (List Val×Nat)
 |0,_,_=>nO
 |f+1,i,acc=>match rec i with
  |none=>nO
  |some (v,j)=>if QY s j 32 then pL rec s f (j+1) (acc++[v]) else sO (acc++[v],j)
def pV:Nat->Str->Nat->Option (Val×Nat)
 |0,_,_=>nO
 |n+1,s,i=>match pN s (i+(Ys Kh s i).length) with
  |none=>nO
  |some (x,k)=>match pB s k with
   |none=>nO
   |some (b,l)=>if QY s l 91 then nO else if QY s l 40 then (match pL (pV n s) s 600 (l+1) []with
     |none=>nO
     |some (ps,m)=>if QY s m 41 then sO (.mk (Ys Kh s i) x b [] ps,m+1) else nO)
    else sO (.mk (Ys Kh s i) x b [] [],l)
def Ztq{p s i}(h:i<=I s):i+(Ys p s i).length<=I s:=by
 by_cases e:(Ys p s i).length=0;omega;have:=(Ztp (p:=p) (s:=s) (i:=i) (k:=(Ys p s i).length-1) ω).1;omega
def ZdI{s i c}(h:QY s i c=true):i<I s:=by
 unfold QY at h;simp only[ZH1,decide_eq_true_eq]at h;exact h.1
def ZAI{s i}:Zvk (Ys JF s i):=λc r=>by
 have o:JF c=true:=ZjX r;unfold JF at o;simp only[ZH1,decide_eq_true_eq]at o;omega
def ZzS{s:Str}(u:Zvk s)(o:s≠[])(t:I s<=10):Zc ZHP 46 [.str s] (.tup [.i (ZdT s),.niliface]):=by
 refine Ze (cR 46 f46) λF st i=>?_;have r:=ZkG u o t;refine gG ?_;refine cl (r) ?_;refine rg ?_;refine iG ?_;refine rt i ?_;rfl
def Zgs(hX:Zjj){s:Str}(hs:I s<=500):∀n i v j,pV n s i=sO (v,j)->i<=I s->j<=I s/\∀(T:St) (z:Nat) (h:Int),0<=h->h+n<=40->T z=sO (.cells (KZ s i h)) ->
  Zf ZHP 26 [.ptr z 0] T λr S=>r=.ret (.agg v.cells)/\S=T.upd z (.cells (KZ s j h))
 |0,_,_,_,h,_=>by simp[pV]at h
 |n+1,i,v,j,hp,hi=>by
  have ih:=Zgs hX hs n;rw[pV]at hp;have bi:=Ztq (p:=Kh) hi;generalize bj:Ys Kh s i=nm at *;generalize be:i+I nm=j0 at *;cases t:pN s j0 with
  |none=>rw[t]at hp;simp at hp
  |some xk =>
  obtain⟨x,k⟩:=xk;rw[t]at hp;simp only at hp;cases u:pB s k with
  |none=>rw[u]at hp;simp at hp
  |some bl =>
  obtain⟨b,l⟩:=bl;rw[u]at hp;simp only at hp;have hk:k<=I s:=by unfold pN at t;split at t;rename_i h1;split at t;simp only[ZHQ,ZH2]at t;have:=Ztq (p:=JF) (s:=s) (i:=j0+1) (by have:=ZdI h1;omega);omega;simp at t;simp only[ZHQ,ZH2]at t;omega
  have hl:l<=I s:=by unfold pB at u;split at u;rename_i h1;split at u;simp only[ZHQ,ZH2]at u;have:=Ztq (p:=KX) (s:=s) (i:=k+1) (by have:=ZdI h1;omega);omega;simp at u;simp only[ZHQ,ZH2]at u;omega
  have a1:QY s l 91=false:=by
   cases h:QY s l 91 with
   |false=>rfl
   |true=>rw[h]at hp;simp at hp
  rw[a1]at hp;simp only[ZIx,if_false]at hp;refine⟨?_,λT z h h0 hh hz=>?_⟩;split at hp;split at hp;simp at hp;split at hp;rename_i h1;simp only[ZHQ,ZH2]at hp;have:=ZdI h1;omega;simp at hp;simp only[ZHQ,ZH2]at hp;omega;obtain⟨TZ,ag⟩:∃TZ:Nat->St,TZ=λi=>T.upd z (.cells (KZ s i (h+1))):=⟨_,rfl⟩;have hg:∀i,TZ i z=sO (.cells (KZ s i (h+1))):=λi=>by rw[ag];exact ZHW _ _ _
  have ao:∀i i',(TZ i).upd z (.cells (KZ s i' (h+1)))=TZ i':=λi i'=>by rw[ag];exact ZH7 _ _ _ _
  have a2:∀i,(TZ i).upd z (.cells (KZ s i h))=T.upd z (.cells (KZ s i h)):=λi=>by rw[ag];exact ZH7 _ _ _ _
  have an:∀{i:Nat} {tk:Tok},tk.okIn (TZ i)->∀i',tk.okIn (TZ i'):=λ{i tk} hk i'=>by
   rw[ag]at hk⊢;cases tk with
   |tip b =>have h1:=Zn hk;show(T.upd z _) b=nO;rw[ZH0 _ _ h1.1];exact h1.2
   |full=>trivial
   |none=>exact hk.elim
  have az:∀{i:Nat} {tk:Tok} (m:Nat),tk.okIn (TZ i)->((TZ i).own tk m) z=sO (.cells (KZ s i (h+1))):=λm hk=>Zlc hk (hg _);have a8:∀{i:Nat} {tk:Tok} (m:Nat) (i':Nat),tk.okIn (TZ i)->((TZ i).own tk m).upd z (.cells (KZ s i' (h+1)))=(TZ i').own tk m:=λ{i tk} m i' hk=>by have h1:=(ZtB (s:=TZ i) (x:=z) (o:=.cells (KZ s i' (h+1))) (by rw[ao];exact an hk i')).2 m;rw[ao]at h1;exact h1.symm
  have ay:∀(c:UInt8) {i:Nat} {tk:Tok} (m:Nat),i<=I s->tk.okIn (TZ i)->ZL ZHP 45 [.ptr z 0,.int .u8 c.toNat] ((TZ i).own tk m) (.bool (QY s i c)) ((TZ (if QY s i c then i+1 else i)).own tk m):=λc {i tk} m hi hk=>by
   have h1:=Zrb (c:=c) (az m hk) hi ω;cases hb:QY s i c with
   |false=>rw[hb]at h1;exact h1
   |true=>rw[hb,if_pos rfl,a8 m _ hk]at h1;exact h1
  have hrec:∀{i:Nat} {v:Val} {j:Nat} {tk:Tok} (m:Nat),pV n s i=sO (v,j)->i<=I s->tk.okIn (TZ i)->Zf ZHP 26 [.ptr z 0] ((TZ i).own tk m) λr S=>r=.ret (.agg v.cells)/\S=(TZ j).own tk m:=λ{i v j tk} m h1 h2 hk=>by have h3:=(ih i v j h1 h2).2 ((TZ i).own tk m) z (h+1) ω ω (az m hk);rw[a8 m _ hk]at h3;exact h3
  have ak:=λ{f:D} {p:UInt8->Bool} (hf:∀(c:UInt8) st,VT ZHP f [.int .u8 c.toNat] st (.bool (p c)) st) {i} (hi:i<=I s)=>Zj3 hf (hg i) hi ω;simp only[ao]at ak;have aq:=λ{i} (hi:i<=I s) {m} (hm:(Ys KX s i).length=2*m)=>Zri hX (hg i) hi ω hm;simp only[ao]at aq;have al:=ak (f:=.fn (.func 43) [] []) (p:=Kh) (λc st=>(ZlD c).VT (first:=[]) (caps:=[]) st) hi;rw[bj,be]at al;have a0:=λ{i} (hi:i<=I s)=>ak (f:=.fn (.func 47) [] []) (p:=JF) (λc st=>(ZlE c).VT (first:=[]) (caps:=[]) st) hi;have a6:dC (h+1<=40)=true:=decide_eq_true ω;refine Zh (cR 26 f26) λF hF=>?_;refine rg ?_;refine xA @hz ?_;rw[show T.upd z (.cells [.str s,.i (i:Int),.i (h+1)])=TZ i by rw[ag]];refine rx @hg ?_;rw[a6];refine cl (ZaR) ?_;refine rg ?_;refine ct (al) ?_;refine rg ?_;have ai:=λ(c:UInt8) {i:Nat} (hi:i<=I s)=>ay c (i:=i) (tk:=.full) 0 hi trivial;simp only[show ∀i m,(TZ i).own .full m=TZ i from λ_ _=>rfl]at ai;refine ct (ai 61 bi) ?_;refine jU [0] (λQ =>  Q F [(0,.d (.ptr z 0)),(2,.loc 2 0)] [(2,[.str nm,.i x,.nilsl,.nilsl,.nilsl])] (TZ k)) ?_ λjA=>?_
  .refine rg ?_;refine ct (ai 35 hk) ?_;refine jU [0] (λQ =>  Q F [(0,.d (.ptr z 0)),(2,.loc 2 0)] [(2,[.str nm,.i x,Zg b,.nilsl,.nilsl])] (TZ l)) ?_ λjB=>?_
   .have ar:=ai 91 hl;rw[a1,if_neg ψ]at ar;refine Zd (Zb (Qm ?_));refine rg ?_;refine ct (ar) ?_;refine iG ?_;refine ct (ai 40 hl) ?_;refine jU [0] (λQ=>∀tk row ps,tk.okIn (TZ j)->Zy Val.cells row ps->v=.mk nm x b [] ps->Q F [(0,.d (.ptr z 0)),(2,.loc 2 0)] [(2,[.str nm,.i x,Zg b,.nilsl,.sl tk (I ps) 5 row])] ((TZ j).own tk (I ps*5))) ?_ λjE=>?_
    .intro tk row ps ad af hv;have a9:(D.sl tk (I ps) 5 row).Le (Zu ps):=Zca rfl λi hi=>by rw[af i hi,ZcP hi]
     refine rh ?_;refine Zk ?_;simp only[Eqs,reduceCtorEq,ZHV,reduceIte,ZHR,ZHY,ZHS,az _ ad];refine aa ?_;rw[show h+1-1=h by omega];have ax:tk.okIn ((TZ j).upd z (.cells (KZ s j h))):=by
      cases tk with
      |tip b =>rw[ag]at ad;have h1:=Zn ad;show((TZ j).upd z _) b=nO;rw[a2,ZH0 _ _ h1.1];exact h1.2
      |full=>trivial
      |none=>exact ad.elim
     have h2:=(ZtB (s:=TZ j) (x:=z) (o:=.cells (KZ s j h)) ax).2 (I ps*5);rw[a2]at h2 ax;refine Ww (s':=T.upd z (.cells (KZ s j h))) (by show St.sub _ (((TZ j).own tk (I ps*5)).upd z (.cells (KZ s j h)));rw[<-h2];exact Yj ax) ?_;have bn:v.cells=[.str nm,.i x,Zg b,Zx [],Zu ps]:=by rw[hv,ZIe];rfl
     refine kl ((T.upd z (.cells (KZ s j h)))) [(2,.loc 2 0)] [(2,[.str nm,.i x,Zg b,Zx [],Zu ps])] Wx (.cons (.cons (ZHT _) (.cons (ZHT _) (.cons (ZHT _) (.cons (Z1 λb h=>by cases h) (.cons a9 .nil))))) .nil) ?_;refine rg ?_;exact hF.ret _ _ rfl ⟨ZH9 _,trivial⟩ (ZHT _) ZHU ⟨by rw[bn];rfl,rfl⟩
    cases ah:QY s l 40 with
    |false =>rw[ah,if_neg ψ]at hp;simp only[ZHQ,ZH2]at hp;obtain⟨rfl,rfl⟩:=hp;rw[if_neg ψ];refine i0 ?_;refine Zo ?_;refine kE [0,2] ?_;refine kl ((TZ l)) [(0,.d (.ptr z 0)),(2,.loc 2 0)] [(2,[.str nm,.i x,Zg b,.nilsl,.sl .full 0 5 λ_=>[]])] Wx (.cons (.cons (ZHT _) (.cons (ZHT _) (.cons (ZHT _) (.cons (ZHT _) (.cons (Z1 λb h=>by cases h) .nil))))) .nil) ?_;exact jE .full _ [] trivial Zy.nil rfl
    |true =>
     have a5:=ZdI ah;rw[ah,if_pos rfl]at hp;cases ae:pL (pV n s) s 600 (l+1) []with
     |none=>rw[ae]at hp;simp at hp
     |some pm =>
     obtain⟨ps,m⟩:=pm;rw[ae]at hp;simp only at hp;cases av:QY s m 41 with
     |false=>rw[av]at hp;simp at hp
     |true =>
     rw[av,if_pos rfl]at hp;simp only[ZHQ,ZH2]at hp;obtain⟨hv,hj⟩:=hp;rw[show(600:Nat)=599+1 from rfl,pL]at ae;cases am:pV n s (l+1) with
     |none=>rw[am]at ae;simp at ae
     |some vj =>
     obtain⟨v1,j1⟩:=vj;rw[am]at ae;simp only[List.nil_append]at ae;have bf:=(ih _ _ _ am ω).1;have aw:=hrec (tk:=.full) 0 am ω trivial;simp only[show ∀i m,(TZ i).own .full m=TZ i from λ_ _=>rfl]at aw;rw[if_pos rfl];refine i1 ?_;refine kl ((TZ (l+1))) [(0,.d (.ptr z 0)),(2,.loc 2 0),(78,.d (.bool true))] [(2,[.str nm,.i x,Zg b,.nilsl,.sl .full 0 5 λ_=>[]])] Wx (.cons (.cons (ZHT _) (.cons (ZHT _) (.cons (ZHT _) (.cons (ZHT _) (.cons (Z1 λb h=>by cases h) .nil))))) .nil) ?_;refine rg ?_;refine cVD (aw) ?_ ?_
     .rintro d S ⟨hr,rfl⟩;cases hr;refine kF ?_;refine gR0 ?_;refine⟨by cases v1;rfl,?_⟩;refine Zdw (TZ j1) (.full) rfl rfl rfl rfl rfl rfl φ φ rfl (by first|trivial|assumption) ω (by (unfold big;omega)) λt1 bb=>⟨by first|trivial|exact⟨rfl,trivial⟩|simp[Eqs,reduceCtorEq,ZHV,reduceIte,ZHR,ZHY,ZHS],Yb ?_⟩;simp only[Eqs,reduceCtorEq,ZHV,reduceIte,ZHR,ZHY,ZHS];have aj:Zy Val.cells (Yd 0 (λ_=>[]) (ZI [.str [],.i 0,.nilsl,.nilsl,.nilsl] ([0].zip [.agg v1.cells]))) [v1]:=Zy.nil.snoc (x:=v1) rfl rfl;refine Zd (Zb ?_);refine lpU (λQ=>∀f q ab tk row,tk.okIn (TZ q)->Zy Val.cells row ab->q<=I s->I ab+f<=600->(if QY s q 32=true then pL (pV n s) s f (q+1) ab else sO (ab,q))=sO (ps,m)->Q F [(0,.d (.ptr z 0)),(2,.loc 2 0)] [(2,[.str nm,.i x,Zg b,.nilsl,.sl tk (I ab) 5 row])] ((TZ q).own tk (I ab*5))) ?_ λbo=>?_
      .clear aj ae aw am bb;intro f;induction f using Nat.strongRecOn with
       |ind f ihf =>
       intro q ab tk row ad af hq hlen ac;have hn:=ay 32 (I ab*5) hq ad;refine rg ?_;cases au:QY s q 32 with
       |false =>rw[au,if_neg ψ]at ac hn;simp only[ZHQ,ZH2]at ac;obtain⟨rfl,rfl⟩:=ac;refine ct (hn) ?_;refine iG ?_;have a7:=ay 41 (I ab*5) hq ad;rw[av,if_pos rfl,hj]at a7;refine ct (a7) ?_;refine cl (ZaR) ?_;exact jE tk row ab (an ad _) af hv.symm
       |true =>
        have hlt2:=ZdI au;rw[au,if_pos rfl]at ac hn;cases f with
        |zero=>rw[pL]at ac;simp at ac
        |succ f =>
        rw[pL]at ac;cases ap:pV n s (q+1) with
        |none=>rw[ap]at ac;simp at ac
        |some vj =>
        obtain⟨v2,j2⟩:=vj;rw[ap]at ac;simp only at ac;have bg:=(ih _ _ _ ap ω).1;have bc:=hrec (I ab*5) ap ω (an ad (q+1));refine ct (hn) ?_;refine i1 ?_;refine rg ?_;refine cVD (bc) ?_ ?_;rintro d S ⟨hr,rfl⟩;cases hr;refine kF ?_;refine gR0 ?_;refine⟨by cases v2;rfl,?_⟩;refine Zdw (TZ j2) (tk) rfl rfl rfl rfl rfl rfl φ φ rfl (an ad _) ω (by (unfold big;omega)) λt2 bk=>⟨by first|trivial|exact⟨rfl,trivial⟩|simp[Eqs,reduceCtorEq,ZHV,reduceIte,ZHR,ZHY,ZHS],Yb ?_⟩;simp only[Eqs,reduceCtorEq,ZHV,reduceIte,ZHR,ZHY,ZHS];refine Zi (Za ?_);have bh:(ab++[v2]).length=I ab+1:=by simp
        have h5:=ihf f ω j2 (ab++[v2]) t2 _ bk (af.snoc (x:=v2) (row2:=ZI [.str [],.i 0,.nilsl,.nilsl,.nilsl] ([0].zip [.agg v2.cells])) rfl rfl) bg ω ac;rw[bh]at h5;exact h5;rintro d S ⟨hr,_⟩;cases hr
      exact bo 599 j1 [v1] t1 _ bb aj bf ψ ae
     rintro d S ⟨hr,_⟩;cases hr
   unfold pB at u;cases hb:QY s k 35 with
   |false =>rw[hb,if_neg ψ]at u;simp only[ZHQ,ZH2]at u;obtain⟨rfl,rfl⟩:=u;rw[if_neg ψ];refine i0 ?_;refine Zo ?_;refine kE [0,2] ?_;refine kl ((TZ k)) [(0,.d (.ptr z 0)),(2,.loc 2 0)] [(2,[.str nm,.i x,Zg [],.nilsl,.nilsl])] Wx (.cons (.cons (ZHT _) (.cons (ZHT _) (.cons (Z1 λb h=>by cases h) (.cons (ZHT _) (.cons (ZHT _) .nil))))) .nil) ?_;exact jB
   |true =>have a5:=ZdI hb;rw[hb,if_pos rfl]at u;split at u;rename_i he;simp only[ZHQ,ZH2]at u;have a4:=aq (i:=k+1) ω (m:=(Ys KX s (k+1)).length / 2) ω;rw[u.1,show k+1+2*((Ys KX s (k+1)).length / 2)=l by omega]at a4;rw[if_pos rfl];refine i1 ?_;refine rg ?_;refine cV (a4) ?_ ?_;rintro d S ⟨hr,rfl⟩;cases hr;refine gR0 ?_;refine⟨rfl,?_⟩;exact jB;rintro d S ⟨hr,_⟩;cases hr;simp at u
  unfold pN at t;cases hb:QY s j0 61 with
  |false =>rw[hb,if_neg ψ]at t;simp only[ZHQ,ZH2]at t;obtain⟨rfl,rfl⟩:=t;rw[if_neg ψ];refine i0 ?_;refine Zo ?_;refine kE [0,2] ?_;exact jA
  |true =>have a5:=ZdI hb;rw[hb,if_pos rfl]at t;split at t;rename_i he;simp only[ZHQ,ZH2]at t;have ba:=a0 (i:=j0+1) ω;have a3:=ZzS (ZAI (s:=s) (i:=j0+1)) he.1 he.2;rw[t.1]at a3;rw[t.2]at ba;rw[if_pos rfl];refine i1 ?_;refine rg ?_;refine ct (ba) ?_;refine cl (a3) ?_;refine rg ?_;refine cl (ZaR) ?_;refine rg ?_;exact jA;simp at t
end Go.DL
namespace Go.DL
open Go
variable [Zo5]
variable {kp:Option (List Nat)}{L:Loc}{H:Env}{s:St}{w:World}{os:List DOp}{ds:List D}{B:List (Nat × Rd)}{dst:Option Nat}{tmps:Array Value}{g:G}{Φ:Res->St->Prop}{Z:Nat->Nat}{xs:List Opd}{side:Prop}{row:Nat->List D}
section
variable {P:Program}
def Zwy{F:Fr P}{kp dk o os H L s}(hg:Zw H o.guard=sO true){n xs}(hk:o.k=.call (.cst (.fn (.func n) [] [])) xs){p es ds}(ha:Yr H true xs=sO (p,es))(hds:KA es=sO ds)(hp:p){fn}(h0:P.funcs[n]?=sO fn)(h1:fn.body=nO)(h2:(fn.name == "runtime.NumGoroutine")=false)(h3:Extern.findNext fn=nO){e}(h4:Extern.find fn=sO e){d}(he:∀g w vs,ZN (Rep g w) vs ds->∃v,(e vs.toArray).run P w=.ok v w/\Rep g w v d)(h:DO F kp dk os (putE H o.dst (.d d)) L s):DO F kp dk (o::os) H L s:=by
 refine WN λoo g Z w tmps au i r k an ac ai ad hd hN m hr al=>?_;have hw:=Yo m ai hg;have am:=Yu ac (by rw[hk];rfl);rw[hk]at ac;obtain⟨f',t,ats,ao,aj,ar⟩:=ZuJ ac;have ae:Rep g w _ _:=Yh (H:=H) m aj rfl rfl trivial F.ds;have u:=QB (ZcM m rfl F.ds ar ha hp) hds;obtain⟨v,ap,aq⟩:=he g w _ u;generalize ak:(Act.mk tmps F.ds).eval f'=fv at ae;have af:fv=.func (.func n) #[] #[]:=by
  cases ae with
  |fn _ fs cs _ _ e1 e2 _ _ =>
   obtain rfl:fs=[]:=by simpa using e1
   obtain rfl:cs=[]:=by simpa using e2
   rfl
 subst af;have ag:(Array.map (Act.mk tmps F.ds).eval t)=(t.toList.map (Act.mk tmps F.ds).eval).toArray:=by apply Array.ext';simp
 refine ZnU (e:=.d d) hN m an ad hd hw am ⟨v,?_,aq⟩ (h au r k hr al);have ab:(callFunc n ((t.toList.map (Act.mk tmps F.ds).eval).toArray++#[])).run P w=.ok (.value v) w:=by
  have ah:¬fn.name = "runtime.NumGoroutine":=by simpa using h2
  simp[callFunc,h0,ah,h1,h3,h4,ap]
 simp[execOp,ao,resolve,ak,ag,Deferred.ofValue,invoke];simpa using ab
def ZjS:∀(l c),Lib.indexByte l c<I l\/Lib.indexByte l c=-1
 | [],c=>.inr rfl
 |b::l,c=>by simp only[Lib.indexByte];split;left;simp;split;exact .inr rfl;rename_i h;rcases ZjS l c with h1|h1;left;simp;omega;rw[h1]at h;simp at h
def ZB7(n:FuncId):DF:=⟨8,[.tmp 4],.seq (.reg [⟨sO 4,nO,.q .mv [.cst (.i 0)]⟩] nO) (.seq (.reg [⟨sO 5,nO,.q .mv [.tmp 0]⟩,⟨sO 6,nO,.q .mv [.tmp 1]⟩,⟨sO 7,nO,.call (.cst (.fn (.func n) [] [])) [.tmp 5,.tmp 6]⟩,⟨sO 4,nO,.q .mv [.tmp 7]⟩] nO) .ret)⟩
def ZsA{an f n}(hf:cf P an f=sO (ZB7 n)){fn}(t:P.funcs[n]?=sO fn)(r:fn.body=nO)(h2:(fn.name == "runtime.NumGoroutine")=false)(u:Extern.findNext fn=nO)(h4:Extern.find fn=sO Extern.BytealgIndexByte.indexByte)(l c):
  Zc P f [.str l,.int .u8 c] (.i (Lib.indexByte l c.toNat.toUInt8)):=by
 refine Ze hf λF s i=>?_;refine Zd (Zmv (Jw rfl (by repeat(first|trivial|constructor)) (Zhd (Zd (Zmv (Jw rfl (by repeat(first|trivial|constructor)) (Jw rfl (by repeat(first|trivial|constructor)) (Zwy rfl rfl rfl rfl (by repeat(first|trivial|constructor)) t r h2 u h4 (d:=.int .i64 (Lib.indexByte l c.toNat.toUInt8)) (λg w vs o=>?_)
  (Jw rfl (by repeat(first|trivial|constructor)) (Zhd (i rfl (by repeat(first|trivial|constructor)) (ZHT _) ZHU)))))))))))
 cases o with
 |cons a1 o =>
 cases o with
 |cons a2 o =>
 cases o;cases a1 with
 |str s _ hs hb =>
 cases a2 with
 |int _ _ hc =>
 subst hs;refine⟨_,Lib.run_indexByteString s c w,.int _ _ ?_⟩;have r:=Lib.indexByte_ge s.data.toList c.toNat.toUInt8;have h2:=ZjS s.data.toList c.toNat.toUInt8;simp only[big]at hb;simp only[inR,IntKind.min,IntKind.max,IntKind.signed,IntKind.bits];generalize Lib.indexByte s.data.toList c.toNat.toUInt8=z at r h2⊢;rcases h2 with h2|h2<;>simp<;>omega
end
end Go.DL
namespace Go.DL
open Go Go.Proofs
variable {kp:Option (List Nat)}{L:Loc}{H:Env}{s:St}{w:World}{os:List DOp}{ds:List D}{B:List (Nat × Rd)}{dst:Option Nat}{tmps:Array Value}{g:G}{Φ:Res->St->Prop}{Z:Nat->Nat}{xs:List Opd}{side:Prop}{row:Nat->List D}
def Zqt(c:UInt8):∀s:Str,Lib.indexByte s c=Zl (λb=>dC (b=c)) s
 | []=>rfl
 |b::r=>by have i:=Zqt c r;have hg:=K4 (λb=>dC (b=c)) r;simp only[Lib.indexByte,Zl,i];by_cases e:b=c;subst e;simp;rw[if_neg (c:=(b==c)=true) (by simpa using e),if_neg (c:=dC (b=c)=true) (by simpa using e)];generalize Zl (λb=>dC (b=c)) r=n at *;by_cases h:n=-1;subst h;rfl;rw[if_neg (by simpa using h),if_neg ω]
def ZuT:Zjj:=λs c=>by
 have h:=ZsA (P:=ZHP) (an:=[]) (f:=138) (n:=173) (by kernel_rfl) (fn:=Tryz.f173) (by kernel_rfl) (by kernel_rfl) (by kernel_rfl) (by kernel_rfl) (by kernel_rfl) s (c.toNat:Int);rw[Int.toNat_natCast,show c.toNat.toUInt8=c from UInt8.toNat_inj.1 ψ,Zqt]at h;exact h
def ZkN{z y st}:ZaB ZHP 25 [.ptr z 0,.ptr y 0] nO st λ_ S=>S=st:=by
 refine Zbe (cR 25 f25) rfl ψ λF i=>?_;refine rg ?_;refine ZgI i rfl rfl ?_;refine gR0 ?_;refine rg ?_;refine cd (λh=>?_) (λh=>?_);simp at h;refine Zo ?_;exact i.fin ZHU rfl
def ZhO(hX:Zjj){s:Str}(hs:I s<=500){v:Val}(hp:pV 40 s 0=sO (v,I s))(hV:Kt v=true)(hw:wOk v=true)(hws:Zaw v=s):Zc ZHP 15 [.str s] (.tup [.agg v.cells,.i 0]):=by
 refine λst=>Zh (cR 15 f15) λF hF=>?_;have h1:=(Zgs hX hs 40 0 v (I s) hp ω).2;have h2:=Zrs hV hw (by rw[hws];omega);rw[hws]at h2;clear hV hw hws hp;rw[v.cells_eq]at *;refine rg ?_;refine Zd ?_;refine xP 2 λz hz=>?_;refine xP 3 λy hy=>?_;obtain⟨i,hy⟩:=Zn hy;refine rg ?_;refine Zmu (by obtain⟨_,_,_,_,_,_,rfl⟩:=hF;rfl) rfl rfl rfl rfl rfl rfl trivial trivial ?_ ?_ ?_;trivial;exact⟨rfl,rfl,trivial⟩;have u:=hF.defer 25 [] [.ptr z 0,.ptr y 0];clear hF;refine gR0 ?_;generalize F.defer 25 [] [.ptr z 0,.ptr y 0]=F at u⊢;obtain⟨T,hT⟩:∃T,T=(st.upd z (.cells [.str [],.i 0,.nilsl,.nilsl,.nilsl])).upd y (.cells [.i 0]):=⟨_,rfl⟩;rw[<-hT];refine rg ?_;refine Zd ?_;refine xP 4 λp hp=>?_;obtain⟨hpy,ab⟩:=Zn (hT▸hp);obtain⟨r,_⟩:=Zn ab;have gz:∀o,(T.upd p o) z=sO (.cells [.str [],.i 0,.nilsl,.nilsl,.nilsl]):=λo=>by rw[ZH0 _ _ r.symm,hT,ZH0 _ _ i.symm,ZHW]
 refine rg ?_;refine Ze8 rfl rfl rfl rfl rfl φ φ (by exact h1 (T.upd p (.cells (KZ s 0 0))) p 0 ω ω (ZHW _ _ _)) ?_ ?_;rintro d S ⟨hr,rfl⟩;cases hr;rw[ZH7];refine gQ @gz ?_;rw[St.upd_comm _ _ r.symm];refine Ww (s':=T.upd z (.cells [.str v.name,.i v.int,Zg v.bytes,Zx v.hdrs,Zu v.parts])) (ZIg _ (by rw[ZH0 _ _ r];exact hp)) ?_;rw[hT,<-St.upd_comm _ _ i,ZH7];have g1:∀o o',((st.upd z o).upd y o') z=sO o:=λo o'=>by rw[ZH0 _ _ i.symm,ZHW]
 have g2:∀o o',((st.upd z o).upd y o') y=sO o':=λo o'=>ZHW _ _ _;refine rx @g1 ?_;refine cl (h2) ?_;refine rg ?_;refine cl (ZaR) ?_;have g3:∀o o' t,((st.upd z o).upd y o').upd z t=(st.upd z t).upd y o':=λo o' t=>by rw[<-St.upd_comm _ _ i,ZH7]
 refine rx (nd2 @g1 (nd2 @g2 (nd2 @g3 @ZH7))) ?_;refine u.retU ⟨trivial,⟨rfl,rfl,trivial⟩,ZaM ZkN ?_⟩;rintro b S3 rfl;rw[ite_self];refine⟨_,[.agg [.str v.name,.i v.int,Zg v.bytes,Zx v.hdrs,Zu v.parts],.i 0],_,st,by simp only[Eqs,reduceCtorEq,ZHV,reduceIte,ZHR,ZHY,ZHS,YP,K7,g1,g2];rfl,φ,ZHT _,?_,rfl,rfl⟩;refine ZIu (ZIg _ hz) (ZIg _ ?_);rw[ZH0 _ _ i];exact hy;rintro d S ⟨hr,_⟩;cases hr
def Zhx(hI:Qn)(hk:Zc ZHP 6 [] (.bool true))(d:Dfn)(s:Str)(v:Val):Zc ZHP 3 [.agg d.cells,.str s,.agg v.cells] (.bool true):=by
 refine Ze (cR 3 f3) λF st ac=>?_;have af:=Zhy d v st;have ab:=λe=>Zaj e;have o:=ZgP hI d s v;have i:=λhs=>Zco d v (ZgP hI d d.start v hs);have r:=ZdL d s v;have t:=ZdL d d.start v;unfold Zh8 at o i;generalize (if (YG d s v).2=0 then Wj d 51 (Zs d s) v [] else noW)=W1 at *;generalize (if (YG d d.start v).2=0 then Wj d 51 (Zs d d.start) v [] else noW)=W2 at *;generalize (YG d s v).2=f1 at *;generalize (YG d d.start v).2=f2 at *;unfold wrC at r t;rw[ZIe]at af o i r t⊢;refine rx @eQ2 ?_;refine rg ?_;refine cV (af) ?_ ?_;rintro dd S ⟨hS,b,hr,hs⟩;obtain rfl:=hS.symm;cases hr;refine gR0 ?_;refine cd (λh1=>?_) (λh1=>?_);refine rg ?_;refine cl (hk) ?_;refine rb ac ?_;rfl;have hb:b=true:=by simp at h1;exact h1.1
 have u:=hs hb;have ae:=o u;have ad:=i u;have ag:=r u;have ah:=t u;clear o i r t hs af;refine rx @eQ2 ?_;refine cl (ae) ?_;refine rx @eQ2 ?_;refine cl (ag) ?_;refine rx @eQ2 ?_;refine cl (ad) ?_;refine rx @eQ2 ?_;refine cl (ah) ?_;refine rx @ZzA ?_;refine⟨Zlo W1.b,Zlo W1.b,?_⟩;refine Zbd rfl rfl rfl rfl rfl (λai=>⟨by first|trivial|(simpa[ZbO]using ai),trivial,ab f1⟩) (Zk ?_);simp only[Eqs,reduceCtorEq,ZHV,reduceIte,ZHR,ZHY,ZHS,ZzA];refine⟨Zlo W2.b,Zlo W2.b,?_⟩;refine cG (ab f2) ?_;refine cG (hk) ?_;refine rb ac ?_;rfl;rintro dd S ⟨_,b,hr,_⟩;cases hr
def ZvB:Fld:=⟨[],0,0,false,false,0,0,⟨0,[]⟩,[],[],[],[],0,0⟩
def ZBm:List Fld:=[{ ZvB with name:=[97],kind:=1,bits:=4,high:=15 },{ ZvB with name:=[107],kind:=2,bits:=4,low:=5 },{ ZvB with name:=[98],kind:=5,high:=3 },{ ZvB with name:=[115],kind:=11,from_:=[97],check:=1 }]
def ZaZ:Dfn:=⟨[100],[⟨[109],ZBm⟩],[109]⟩
def ks1:Str:=[109,40,97,61,49,50,32,98,35,54,49,54,50,41]
def ks2:Str:=[109,40,97,61,49,54,32,98,41]
def kv1:Val:=.mk [109] 0 [] [] [.mk [97] 12 [] [] [],.mk [98] 0 [97,98] [] []]
def kv2:Val:=.mk [109] 0 [] [] [.mk [97] 16 [] [] [],.mk [98] 0 [] [] []]
def kp1:pV 40 ks1 0=sO (kv1,14):=by kernel_rfl
def kp2:pV 40 ks2 0=sO (kv2,9):=by kernel_rfl
def kw1:Zaw kv1=ks1:=by kernel_rfl
def kw2:Zaw kv2=ks2:=by kernel_rfl
def ko1:Kt kv1=true:=by kernel_rfl
def ko2:Kt kv2=true:=by kernel_rfl
def ku1:wOk kv1=true:=by kernel_rfl
def ku2:wOk kv2=true:=by kernel_rfl
def kf1:(YG ZaZ [109] kv1).2=0:=by kernel_rfl
def kf2:(YG ZaZ [109] kv2).2=3:=by kernel_rfl
def kf3:(YG ZaZ [120] kv1).2=9:=by kernel_rfl
def kb1:Zh8 ZaZ [109] kv1=[197,97,98,0,216,157]:=by kernel_rfl
def ks:(if (YG ZaZ [109] kv1).2=0 then Wj ZaZ 51 (Zs ZaZ [109]) kv1 [] else noW).sums=[([115],55453)]:=by kernel_rfl
def Zpp:Zc ZHP 16 [] (.agg ZaZ.cells):=by
 refine Ze (cR 16 f16) λF st o=>?_;refine gG ?_;refine o rfl φ (Zjk (.cons (ZHT _) (.cons (D.Le.trans (Znj (row':=λi=>Msg.cells (ZaZ.msgs.getD i dE)) λi hi=>?_) ZkW) (.cons (ZHT _) .nil)))) ZHU;obtain rfl:i=0:=ω;refine .cons (ZHT _) (.cons (D.Le.trans (Znj (row':=λi=>Fld.cells (ZBm.getD i dE)) λj hj=>?_) ZkW) .nil);have r:∀s row,D.nilsl.Le (.sl .none 0 s row):=λs row=>Z1 λb h=>by cases h
 obtain rfl|rfl|rfl|rfl:j=0\/j=1\/j=2\/j=3:=ω;all_goals exact .cons (ZHT _) (.cons (ZHT _) (.cons (ZHT _) (.cons (ZHT _) (.cons (ZHT _) (.cons (ZHT _) (.cons (ZHT _) (.cons (ZHT _) (.cons (r _ _) (.cons (ZHT _) (.cons (ZHT _) (.cons (ZHT _) (.cons (r _ _) (.cons (ZHT _) (.cons (ZHT _) .nil))))))))))))))
def ZfC(hI:Qn)(hX:Zjj):Zc ZHP 6 [] (.bool true):=by
 refine Ze (cR 6 f6) λF st t=>?_;have h1:=ZhO hX (s:=ks1) (by decide) kp1 ko1 ku1 kw1;have h2:=ZhO hX (s:=ks2) (by decide) kp2 ko2 ku2 kw2;have hm:=λs (v:Val) (h:wtN v<=5100/\ZY v<=51)=>ZgP hI ZaZ s v λ_=>h;have r:wtN kv1<=5100/\ZY kv1<=51:=by decide
 have u:wtN kv2<=5100/\ZY kv2<=51:=by decide
 have e1:=Zco ZaZ kv1 (hm _ kv1 r);have e2:=Zco ZaZ kv2 (hm _ kv2 u);have e3:=hm [120] kv1 r;rw[show ZaZ.start=[109] from rfl,kf1,kb1]at e1;rw[show ZaZ.start=[109] from rfl,kf2]at e2;rw[kf3]at e3;have hS:=Zqg hI ZaZ [109] kv1 (λ_=>r) (T:=st) (Ln:=[]) ψ (LdC.refl _);rw[ks]at hS;generalize Zh8 ZaZ [109] kv2=x2 at *;generalize Zh8 ZaZ [120] kv1=x3 at *;have hg:=Zpp;generalize ZaZ.cells=gc at *;rw[ZIe]at h1 h2 hS;refine gG ?_;refine cl (h1) ?_;refine rg ?_;refine cl (h2) ?_;refine rg ?_;refine clD (hg) ?_;refine clD (e1) ?_;refine rg ?_;refine clD (hg) ?_;refine clD (e2) ?_;refine rg ?_;refine clD (hg) ?_;refine clD (e3) ?_;refine rg ?_;refine clD (Zaj 0) ?_;refine clD (Zaj 0) ?_;refine⟨by decide,by decide,?_⟩;refine cXD @ZzA (Zaj 0) ?_;refine⟨by decide,by decide,λ_ i hi=>⟨_,rfl⟩,?_⟩;rw[show dC ((0:Int)+0+0=0)=true from rfl];refine clD (Zaj 3) ?_;refine clD (Zaj 9) ?_;refine clD (hg) ?_;refine cVD (hS) ?_ ?_;rintro dd A ⟨z,cc,hz,o,hr,hA⟩;cases hr;have ab:z≠cc:=λe=>by rw[e,ZHW]at o;cases o
 have fz:A z=sO (.cells (Zac (Wu [([115],55453)]))):=by rw[hA,ZH0 _ _ ab];exact ZHW _ _ _
 have fc:A cc=sO (.cells [.ptr z 0]):=by rw[hA];exact ZHW _ _ _
 have ho:ZL ZHP 13 _ A (.bool true) A:=(Zey [([115],55453)] (by decide) 9 cc z fc fz).leA (args:=[_,.sl .full 1 2 (ZI [.str [],.i 0] ([0].zip [.agg [.str [115],.i 55453]])),_]) (.cons (ZHT _) (.cons (Zca rfl λi hi=>by obtain rfl:i=0:=ω;rfl) (.cons (ZHT _) .nil)));refine kF ?_;refine gR0 ?_;refine Zf9 rfl rfl rfl rfl rfl φ φ (by exact ho) (by first|trivial|exact⟨rfl,trivial⟩|simp[Wo,Qv]) (Yb ?_);simp only[Eqs,reduceCtorEq,ZHV,reduceIte,ZHR,ZHY,ZHS];exact t rfl φ (ZHT _) (by rw[hA];exact ZIu (ZIg _ hz) (ZIg _ o));rintro dd S ⟨_,_,_,_,hr,_⟩;cases hr
end Go.DL
