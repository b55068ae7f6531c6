/- Lemmas: Y08, Y09, EvA, EvB, EvC, EvD, EvE, EvF, EvG, EvH, EvI, EvJ, EvK, EvL, EvM, EvN, EvO, EvP, EvQ, EvS, EvT, EvU, EvV, EvW, EvR, EvY, EvZ, EvLib. -/
import Derived.Test.YtmdaecbcadpmcaaGreatDoorT05
set_option maxHeartbeats 16000000
set_option maxRecDepth 100000
set_option linter.all false
open List renaming length->I
open Option renaming some -> sO, none -> nO
open Inhabited renaming default -> dE
open Decidable renaming decide -> dC
open Go.Proofs.Tryz
open And renaming intro -> ZHG
open Bool renaming and_eq_false_iff -> ZIl, and_eq_true -> ZHN, false_and -> ZH7, false_eq_true -> ZIe, or_eq_true -> ZH0, true_and -> ZH3
open Go.DL.D.Le renaming refl -> ZHL
open Go.DL.St renaming sub_refl -> ZHH, upd -> ZIi, upd_ne -> ZHQ, upd_same -> ZHP
open Go.DL.Val renaming cells_eq -> ZHX
open Go.Proofs.Tryz renaming prog -> ZHF
open List renaming append_assoc -> ZIg, append_nil -> ZH8, getD -> ZHU, getElem?_append_left -> ZIc, length_append -> ZHO, length_cons -> ZHW, length_drop -> ZIh, length_take -> ZHZ, map_cons -> ZHY, map_nil -> ZIf, mem_cons -> ZIj, range -> ZHT, take_length -> ZH2
open Nat renaming add_mul -> ZIa, le_refl -> ZHV, mul_le_mul_right -> ZH5
open Option renaming getD_some -> ZIk, map_eq_some_iff -> ZHS, map_some -> ZId
open Option.some renaming injEq -> ZHE
open Prod.mk renaming injEq -> ZHR
namespace Go.DL
open Go Go.Proofs
variable {kp:Option (List Nat)}{L:Loc}{H:Env}{s:St}{w:World}{os:List DOp}{ds:List D}{B:List (Nat × Rd)}{dst:Option Nat}{tmps:Array Value}{g:G}{Φ:Res->St->Prop}{Z:Nat->Nat}{xs:List Opd}{side:Prop}{row:Nat->List D}
def ZoD{d}(hd:WW d)(nn im)(him:im<I d.msgs)(rec v)(hv:VOk v)(hh:ZL v<=nn+1)(hn:nn<=50)(hpl:∀s y,ZH (rec (Zl d s) y)=ZH y)(hok:∀s y,ZW y=true->ZW (rec (Zl d s) y)=true)(hrec:∀(s:Str) (g:Val),0<=Zr d s (I d.msgs)->VOk g->ZL g<=nn->Zc ZHF 10 [.agg d.cells,.int .i64 (Zr d s (I d.msgs)),.agg g.cells] (.agg (rec (Zl d s) g).cells)):
  Zc ZHF 10 [.agg d.cells,.int .i64 im,.agg v.cells] (.agg (if WL (vfs (d.msgs.getD im dE).fields) v.parts then v.setPs ((ZHT (I v.parts)).foldl (Jm rec d (d.msgs.getD im dE)) v.parts) else v).cells):=by
 have hm:=hd.msg him;have c6:=hd.dref _ (Zm him);have hm40:=hm.many;have ej:=Zp3 hd him;have hmg:d.msgs.getD im dE=d.msgs.getD im dE:=rfl;generalize d8:d.msgs.getD im dE=m at *;generalize hG:(if WL (vfs m.fields) v.parts=true then v.setPs ((ZHT (I v.parts)).foldl (Jm rec d m) v.parts) else v)=G;refine Zg (cR 10 f10) λF st bx=>?_;have c9:=ZBB v hv.rch st;rw[v.cells_eq]at *;refine rx @eQ2 ?_;refine rx (nd2 @atM (nd2 @d8 @eQ3)) ?_;refine⟨ω,ω,?_⟩;refine rg ?_;refine cV (c9) ?_ ?_
 .rintro dd S ⟨c,fp,hr,hM,dg,b2⟩;cases hr;obtain⟨p,hc,hV⟩:∃p,c=[.str v.name,.int .i64 v.int,Zs v.bytes,Zx v.hdrs,p]/\VP S v.parts fp p:=by
   cases hM with
   |leaf h=>exact⟨_,ZHX v,by rw[h];exact .leaf rfl rfl⟩
   |node x cap row f X hp m le=>exact⟨_,rfl,.node x cap row f X hp m rfl le⟩
  subst hc;have hpok:Qm p=true:=by cases hV<;>rfl
  have hsub:∀A:St,(∀y,y∉fp->A y=st y)->st.sub A:=λA h b o hb=>by rw[h b λhm=>by rw[dg b hm]at hb;simp at hb];exact hb
  have bb:∀A:St,(∀y,y∉fp->A y=st y)->st.sub (A.delL fp):=λA h b o hb=>by
   have h1:b∉fp:=λhm=>by rw[dg b hm]at hb;simp at hb
   unfold St.delL;rw[if_neg h1,h b h1];exact hb
  refine gR0 ?_;refine rx @eQ3 ?_;rw[show D.agg [.str m.name,Zk m.fields]=.agg m.cells from rfl];refine cV (Zp1 hV.live hV.ld m) ?_ ?_
  .rintro dd S' ⟨hr,hS⟩;obtain rfl:=hS.symm;cases hr;refine gR0 ?_;have eb:WL (vfs m.fields) v.parts=W9 m v.parts:=rfl;rw[eb]at hG;cases ab:W9 m v.parts with
   |false =>rw[ab,if_neg ψ]at hG;subst hG;refine i1 ?_;refine rg ?_;refine ZcN fp hV.live (LdE.refl _) (.cons (.cons (.refl _) (.cons (.refl _) (.cons (.refl _) (.cons (.refl _) (.cons hV.ld .nil))))) .nil) ?_;exact bx rfl ψ (by rw[ZHX];exact ZHL _) (bb _ b2)
   |true =>
    rw[ab,if_pos rfl]at hG;have de:(vfs m.fields).map (·.name)=v.parts.map Val.name:=by unfold W9 at ab;simpa using ab
    have dn:(vfs m.fields).length=I v.parts:=by simpa using congrArg List.length de
    refine iG ?_;refine rg ?_;refine Zb (fr (I m.fields) (λi Q=>∀k A P,k=(vfs (m.fields.take i)).length->P=(ZHT k).foldl (Jm rec d m) v.parts->VP A P fp p->(∀y,y∉fp->A y=st y)->(∀y∈P,ZW y=true)->i<=I m.fields->Q [(3,.loc 3 0),(5,.loc 5 0),(6,.loc 6 0),(7,.loc 7 0),(8,.d (.int .i64 k)),(9,.d (.int .i64 i))] [(3,d.cells),(5,[.str v.name,.int .i64 v.int,Zs v.bytes,Zx v.hdrs,p]),(6,[.str [],.int .i64 0,.nilsl,.nilsl,.nilsl]),(7,m.cells)] A) (λn a3=>?_) λd5=>?_)
    .intro i hni k A P hk hP bt cu br hi;have cw:P.map ZH=v.parts.map ZH:=by
      rw[hP];have:∀(l:List Nat) (P:List Val),(l.foldl (Jm rec d m) P).map ZH=P.map ZH:=λl=>by
       induction l with
       |nil=>intro P;rfl
       |cons a r ih=>intro P;rw[List.foldl_cons,ih];exact Zb2 hpl
      exact this _ _
     have hPl:=Zes cw;refine rx (nd2 @eQ3 @Jw) ?_;refine cd (λcm=>?_) (λcm=>?_)
     .simp only[decide_eq_true_eq]at cm;have ao:i<I m.fields:=ω;have hT:=ZdV ao;have d0:=λhv=>Zmi hk ao hv de;have cv:=ZkV ao;have ef:=Zm ao;have eg:=hm.at_ ao;have aq:=c6 _ ef;have ca:=eg;generalize cp:m.fields.getD i dE=f0 at *;refine xA (nd2 @eQ3 (nd2 @atF (nd2 @cp @eQ0))) ?_;refine rx @eQ0 ?_;rw[show D.agg [.str f0.name,.int .i64 f0.kind,.int .i64 f0.bits,.bool f0.little,.bool f0.loose,.int .i64 f0.low,.int .i64 f0.high,.int .i64 f0.size.base,Yd f0.size.terms,.str f0.of,.str f0.tag,.str f0.from_,Yk f0.cases,.int .i64 f0.check,.int .i64 f0.key]=.agg f0.cells from rfl];refine cl (KV f0) ?_;refine cd (λad=>?_) (λad=>?_);simp only[Bool.not_eq_true']at ad;rw[ad,if_neg ψ,ZH8]at hT;refine gA ?_;refine Za ?_;exact a3 ((I m.fields)-(i+1)) ω (i+1) rfl k A P (by rw[hT];exact hk) hP bt cu br ω;simp only[Bool.not_eq_false']at ad;rw[ad,if_pos rfl]at hT cv;have hkl:k<I v.parts:=(d0 ad).1;have ai:k<P.length:=ω;have dx:(vfs m.fields).getD k dE=f0:=by rw[cv,hk];simp[ZHU]
      cases bt with
      |leaf h hf=>rw[h]at ai;simp at ai
      |node x cap row f X hp hm0 hf le =>
       have dt:=hm0.b;have cy:=hm0.len5 Zd8;have bg:=Y6 cy;obtain⟨pi,ab,hpok2,au⟩:=(hm0.kid k ai).cells;have av:=KS X cy ai;unfold part at av;rw[ab]at av;have hfew:=hv.few;obtain⟨x0,a6⟩:∃x0,x0=P.getD k dE:=⟨_,rfl⟩;have c0:x0∈P:=by rw[a6];exact Zm ai
       have ch:P.set k x0=P:=by rw[a6];exact Znd
       have b1:ZH x0=ZH (v.parts.getD k dE):=by have:=congrArg (λL:List Val=>L.getD k (ZH dE)) cw;rw[a6];simpa only[ZHU,List.getElem?_map,Option.getD_map]using this
       have dj:v.parts.getD k dE∈v.parts:=Zm ω;have a0:VOk x0:=⟨br _ c0,by rw[<-K9,b1,K9];exact(hv.part dj).wt⟩;have da:ZL x0<=nn:=by
        have h1:=KN dj;have h2:ZL x0=ZL (v.parts.getD k dE):=by rw[<-Ws,b1,Ws]
        omega
       have hx0few:=a0.few;rw[<-a6]at ab av au;refine rx (nd2 @dt @av) ?_;refine⟨ω,ω,by rw[ZHO,bg];omega,?_⟩;refine rg ?_;refine Zb (fr (I x0.parts) (λj Q00=>∀A1 Q,PQ (MQ Q0) A1 (P.set k (x0.setPs Q)) x row f X->Q.length=I x0.parts->(∀q,q<I x0.parts->Q.getD q dE=if q<j/\(f0.kind≠9/\7<=f0.kind)/\(x0.parts.getD q dE).name=f0.of then rec (Zl d f0.of) (x0.parts.getD q dE) else x0.parts.getD q dE)->(∀y,y∉fp->A1 y=st y)->j<=I x0.parts->Q00 [(3,.loc 3 0),(5,.loc 5 0),(6,.loc 6 0),(7,.loc 7 0),(8,.d (.int .i64 k)),(9,.d (.int .i64 i)),(10,.loc 10 0),(11,.loc 11 0),(12,.d (.int .i64 j))] [(3,d.cells),(5,[.str v.name,.int .i64 v.int,Zs v.bytes,Zx v.hdrs,.msl x 0 P.length cap 5]),(6,[.str [],.int .i64 0,.nilsl,.nilsl,.nilsl]),(7,m.cells),(10,f0.cells),(11,[.str x0.name,.int .i64 x0.int,Zs x0.bytes,Zx x0.hdrs,pi])] A1) (λn ar=>?_) λdh=>?_)
       .intro j hj A1 Q ak bo hQ af hjl;refine rx @au ?_;refine cd (λcj=>?_) (λcj=>?_);simp only[decide_eq_true_eq]at cj;have ay:j<Q.length:=ω;have dm:(P.set k (x0.setPs Q)).getD k dE=x0.setPs Q:=by rw[JY ai,if_pos rfl]
        have co:=ak.sub (k:=k) (by rw[List.length_set];exact ai) (by rw[dm];show 0<Q.length;omega);rw[dm]at co;obtain⟨yi,ah,ac,Y,a8,al,ae,az,bf⟩:=co;rw[show(x0.setPs Q).parts=Q from rfl]at a8 al ae bf;have bl:pi=.msl yi 0 Q.length ah 5:=by have:=ab.symm.trans a8;simp only[List.cons.injEq]at this;exact this.2.2.2.2.1
        subst bl;have aj:∀j,j<Q.length->(ac j).length=5:=λj hj=>by rw[ae j hj];exact Val.len _
        have aw:=Y6 aj;have cx:=Zgn (X:=Y) (k:=0) aj ay ω;rw[ae j ay,ZHX,Nat.add_zero]at cx;simp only[List.getElem?_cons_zero]at cx;have u:=KS Y aj ay;unfold part at u;rw[ae j ay]at u;have bv:=hQ j ω;rw[if_neg ω]at bv;refine rx (nd2 @al (nd2 @cx (nd2 @eQ0 @Nat.add_zero))) ?_;refine⟨λ_=>⟨ω,ω⟩,?_⟩;have c2:∀Q':List Val,(∀q,q<I x0.parts->q≠j->Q'.getD q dE=Q.getD q dE)->(Q'.getD j dE=if (f0.kind≠9/\7<=f0.kind)/\(x0.parts.getD j dE).name=f0.of then rec (Zl d f0.of) (x0.parts.getD j dE) else x0.parts.getD j dE) ->
          ∀q,q<I x0.parts->Q'.getD q dE=if q<j+1/\(f0.kind≠9/\7<=f0.kind)/\(x0.parts.getD q dE).name=f0.of then rec (Zl d f0.of) (x0.parts.getD q dE) else x0.parts.getD q dE:=λQ' h1 h2 q hq=>by
         by_cases bi:q=j;subst bi;rw[h2];simp;rw[h1 q hq bi,hQ q hq];simp only[show(q<j+1)=(q<j) from propext ω]
        have dr:Q.getD j dE∈x0.parts:=by rw[bv];exact Zm ω
        refine cd (λhc=>?_) (λhc=>?_);simp only[ZHN,Bool.not_eq_true',decide_eq_true_eq,decide_eq_false_iff_not]at hc;have ec:f0.kind=7\/f0.kind=8\/f0.kind=12:=by have h1:=aq.kind;unfold Y5 at ad;simp only[ZHN,Bool.not_eq_true',decide_eq_false_iff_not]at ad;omega
        have a7:=aq.ref ec;have hgh:=KN dr;have cr:=hrec f0.of (Q.getD j dE) a7 (a0.part dr) ω;have a4:=bf j (rec (Zl d f0.of) (Q.getD j dE)) ay;rw[List.set_set,show(x0.setPs Q).setP j (rec (Zl d f0.of) (Q.getD j dE))=x0.setPs (Q.set j (rec (Zl d f0.of) (Q.getD j dE))) from rfl]at a4;unfold Zq at a4;rw[Val.len]at a4;have ci:=c2 (Q.set j (rec (Zl d f0.of) (Q.getD j dE))) (λq hq bi=>by rw[JY ay,if_neg bi]) (by rw[JY ay,if_pos rfl,<-bv,if_pos ⟨hc.1,hc.2⟩]);have ee:=Val.len (rec (Zl d f0.of) (Q.getD j dE));generalize rec (Zl d f0.of) (Q.getD j dE)=w at *;refine rx (nd2 @al (nd2 @u (nd2 @eQ2 (nd2 @eQ0 @Zc4)))) ?_;refine⟨ω,ω,by rw[ZHO,aw];omega,?_⟩;rw[show D.agg [.str d.name,Yy d.msgs,.str d.start]=.agg d.cells from rfl];refine clD (Wi d f0.of (I d.msgs) (ZHV _)) ?_;refine cXD (nd2 @al @ee) (cr) ?_;refine⟨ω,ω,by rw[ZHO,aw];omega,?_⟩;have bh:∀y,y∉fp->A1.upd yi (.cells (List.take (j*5) (Z1 ac Q.length++Y)++w.cells++List.drop (j*5+5) (Z1 ac Q.length++Y))) y=st y:=λy hy=>by rw[ZHQ _ _ λe=>hy (by rw[e,hf,<-Zvt (j:=k) (w:=x0.setPs Q)];exact az)];exact af y hy
        refine gA ?_;refine Za ?_;exact ar ((I x0.parts)-(j+1)) ω (j+1) rfl _ (Q.set j w) a4 (by rw[List.length_set];exact bo) ci bh ω;have c8:¬((f0.kind≠9/\7<=f0.kind)/\(Q.getD j dE).name=f0.of):=λh=>by rw[decide_eq_false h.1.1,decide_eq_true h.1.2,decide_eq_true h.2]at hc;simp at hc
        have ci:=c2 Q (λq hq bi=>rfl) (by rw[<-bv,if_neg c8]);refine gA ?_;refine Za ?_;exact ar ((I x0.parts)-(j+1)) ω (j+1) rfl A1 Q ak bo ci af ω;simp only[decide_eq_false_iff_not]at cj;obtain rfl:j=I x0.parts:=ω;have dv:(f0.kind≠9/\7<=f0.kind)↔(f0.kind=7\/f0.kind=8\/f0.kind=12):=by have h1:=aq.kind;unfold Y5 at ad;simp only[ZHN,Bool.not_eq_true',decide_eq_false_iff_not]at ad;omega
        have dq:x0.setPs Q=Wg rec d f0 x0:=by
         have d4:Q=x0.parts.map λy=>if (f0.kind≠9/\7<=f0.kind)/\y.name=f0.of then rec (Zl d f0.of) y else y:=by
          refine List.ext_getElem (by simp[bo]) λq h1 h2=>?_;have hq:q<I x0.parts:=by simpa using h2
          have h3:=hQ q hq;simp only[hq,true_and]at h3;rw[List.getElem_map];simpa[ZHU,h1,hq]using h3
         rw[d4];unfold Wg;split;rename_i h;have e:(f0.kind≠9/\7<=f0.kind)=True:=propext ⟨λ_=>trivial,λ_=>dv.2 h⟩;simp only[e,true_and];rename_i h;have e:(λy:Val=>if (f0.kind≠9/\7<=f0.kind)/\y.name=f0.of then rec (Zl d f0.of) y else y)=id:=by funext y;rw[if_neg λq=>h (dv.1 q.1)];rfl
         rw[e,List.map_id,ZaC]
        rw[dq]at ak;have bc:ZH (Wg rec d f0 x0)=ZH x0:=ZiB hpl;have b0:ZW (Wg rec d f0 x0)=true:=ZpR hok (br _ c0);have hP1p:(P.set k (Wg rec d f0 x0)).map ZH=v.parts.map ZH:=by rw[Zgy (by rw[bc,a6]),cw]
        have du:=Zos (i:=k) br b0;have ag:(P.set k (Wg rec d f0 x0)).getD k dE=Wg rec d f0 x0:=by rw[JY ai,if_pos rfl]
        have bn:Jm rec d m P k=Zcl rec d m f0 (P.set k (Wg rec d f0 x0)) k:=by unfold Jm;rw[dx,<-a6]
        have bw:(Wg rec d f0 x0).bytes=x0.bytes:=by unfold Wg;split<;>rfl
        have db:(Wg rec d f0 x0).parts.length=I x0.parts:=by have:=congrArg (λz:Val=>I z.parts) dq;rw[<-this];exact bo
        have hx9:f0.kind=9->Wg rec d f0 x0=x0:=λh=>by unfold Wg;rw[if_neg ω]
        have t:=Zcl.eq_1 rec d m f0 (P.set k (Wg rec d f0 x0)) k;rw[ag]at t;have a5:(P.set k (Wg rec d f0 x0)).length=P.length:=List.length_set;have d1:=ZpQ (m:=m) hok ej (f:=f0) (P:=P.set k (Wg rec d f0 x0)) (i:=k) (by rw[a5];exact ai) du;have d3:(Zcl rec d m f0 (P.set k (Wg rec d f0 x0)) k).map ZH=P.map ZH:=by rw[<-bn];exact Zb2 hpl
        have bz:VOk (Wg rec d f0 x0):=⟨b0,by rw[<-K9,bc,K9];exact a0.wt⟩;have hx1h:ZL (Wg rec d f0 x0)<=nn:=by rw[<-Ws,bc,Ws];exact da
        have bk:f0.kind=4\/f0.kind=7\/f0.kind=12->ZI f0.size=true:=λh=>by have:=ca.size ao h;exact this.1
        have ce:=a0.sm;have co:=ce.b;have cv:=ce.p;have cs:(vfs m.fields).length=(P.set k (Wg rec d f0 x0)).length:=ω;have cz:(P.set k (Wg rec d f0 x0)).length<=1000000:=ω;have cb:∀y,y∉fp->y≠x:=λy hy e=>hy (by rw[e,hf];exact Kf.2 (.inl rfl));clear hQ bo dt av bg cy;generalize hP1e:P.set k (Wg rec d f0 x0)=P1 at *;generalize hx1e:Wg rec d f0 x0=x1 at *;have ax:∀n:Int,n<=1152921504606846976/\-1152921504606846976<=n->ZI f0.size=true->Ze ZHF 32 [.agg [.str m.name,Zk m.fields],.msl x 0 P.length cap 5,.agg [.int .i64 f0.size.base,Yd f0.size.terms],.int .i64 n] A1 λr S=>r=.ret (.msl x 0 P.length cap 5)/\(∃row',PQ (MQ Q0) S (KF (vfs m.fields) f0.size n P1) x row' f X)/\∀y,y∉fp->S y=st y:=λn h1 h2=>by have:=ZrI hm.nmU f0.size h2 n h1 Zd8 ak (cap:=cap) cs cz;rw[a5]at this;exact this.mono λr S ⟨a,⟨row',b,_⟩,c⟩=>⟨a,⟨row',b⟩,λy hy=>by rw[c y (cb y hy)];exact af y hy⟩
        refine ZR rfl (Zd (Zb (Zd ?_)));refine kE [3,5,6,7,8,9,10,11] ?_;refine jU [0,0,0] (λQ=>∀A2 row2,PQ (MQ Q0) A2 (Zcl rec d m f0 P1 k) x row2 f X->(∀y,y∉fp->A2 y=st y)->Q F [(3,.loc 3 0),(5,.loc 5 0),(6,.loc 6 0),(7,.loc 7 0),(8,.d (.int .i64 k)),(9,.d (.int .i64 i))] [(3,d.cells),(5,[.str v.name,.int .i64 v.int,Zs v.bytes,Zx v.hdrs,.msl x 0 P.length cap 5]),(6,[.str [],.int .i64 0,.nilsl,.nilsl,.nilsl]),(7,m.cells)] A2) ?_ λj2=>?_;intro A2 row2 dz bh;have bu:(Zcl rec d m f0 P1 k).length=P.length:=Zes d3;refine gA ?_;refine gA ?_;refine Za ?_;exact a3 ((I m.fields)-(i+1)) ω (i+1) rfl (k+1) A2 (Zcl rec d m f0 P1 k) (by rw[hT,ZHO,hk];rfl) (by rw[List.range_succ,List.foldl_append,<-hP];exact bn.symm) (by rw[<-bu];exact .node x cap row2 f X (by rw[bu];exact hp) dz (by rw[hf];unfold fpP;rw[bu]) (by rw[bu];exact le)) bh d1 ω;refine rx (nd2 @au @eQ0) ?_;refine cd (λh9=>?_) (λh9=>?_)
        .simp only[ZHN,decide_eq_true_eq]at h9;have bq:I x1.parts=1:=ω;rw[if_neg ω,if_neg ω,if_neg (λh=>by omega),if_pos ⟨h9.1,bq⟩]at t;have ap:=ak.sub (k:=k) ω (by rw[ag];omega);rw[ag]at ap;obtain⟨yi,ah,ac,Y,a8,al,ae,_,_⟩:=ap;have bl:pi=.msl yi 0 (I x1.parts) ah 5:=by have:=ab.symm.trans a8;simp only[List.cons.injEq]at this;exact this.2.2.2.2.1
         subst bl;have aj:∀j,j<I x1.parts->(ac j).length=5:=λj hj=>by rw[ae j hj];exact Val.len _
         have aw:=Y6 aj;have u:=KS Y aj (show 0<I x1.parts by omega);unfold part at u;rw[ae 0 ω,Nat.zero_mul,List.drop_zero]at u;have az:x1.parts.getD 0 dE∈x1.parts:=Zm ω;have ba:=bz.part az;have eh:=KN az;have di:x1.parts=[x1.parts.getD 0 dE]:=by
          match hp:x1.parts,bq with
          | [a],_=>rfl
         generalize x1.parts.getD 0 dE=y at *;have hc:=ZrH hm ao cp h9.1 (aq.cas h9.1) (ca.cas40 h9.1) (rec (Zl d y.name) y) y (λa7=>hrec y.name y a7 ba ω) Zd8 ak (cap:=cap) cs cz;rw[a5]at hc;refine rx (nd2 @eQ2 (nd2 @eQ3 (nd2 @eQ0 (nd2 @al (nd2 @u @Nat.zero_mul))))) ?_;refine⟨ω,ω,by rw[ZHO,aw];omega,?_⟩;rw[show D.agg [.str d.name,Yy d.msgs,.str d.start]=.agg d.cells from rfl,show D.agg [.str m.name,Zk m.fields]=.agg m.cells from rfl];refine cVD (hc) ?_ ?_;rintro dd S ⟨hr,⟨row',hS,ei⟩,ho⟩;cases hr;obtain⟨ed,c5,ea⟩:=ZCh (rec:=rec) hm ao cp h9.1 cs (k:=k) ω (y:=y) (by rw[ag];exact di);rw[ed]at t;have cg:=hS.sub (k:=k) ω (by rw[c5];exact Nat.zero_lt_one);rw[c5]at cg;obtain⟨y2,cap2,bp,Y2,dc,c1,c3,bj,cn⟩:=cg;have h4:(row' k)[4]?=sO (.msl yi 0 (I x1.parts) ah 5):=by rcases ei k with h|⟨z,h⟩<;>rw[h,ab]<;>rfl
         rw[dc]at h4;simp only[List.getElem?_cons_succ,List.getElem?_cons_zero,ZHE,D.msl.injEq]at h4;obtain⟨rfl,_⟩:=h4;have am:=cn 0 (if Zi (λc:Yw=>dC (c.of=y.name)) f0.cases<0 then y else rec (Zl d y.name) y) Nat.zero_lt_one;rw[<-t]at am;generalize (if Zi (λc:Yw=>dC (c.of=y.name)) f0.cases<0 then y else rec (Zl d y.name) y)=w at *;unfold Zq at am;have c7:=Val.len w;rw[c7,Nat.zero_mul]at am;have c4:(Z1 bp [y].length).length=5:=Y6 (n:=1) λj hj=>by obtain rfl:j=0:=ω;rw[c3 0 Nat.zero_lt_one];exact Val.len _
         refine kF ?_;refine gQ (nd2 @c1 (nd2 @c7 @Nat.zero_mul)) ?_;refine⟨ω,ω,by rw[ZHO,show(Z1 bp 1).length=5 from c4];omega,?_⟩;refine Zf ?_;refine j2 _ row' am λz hz=>?_;have d7:z≠y2:=λe=>hz (by
          rw[e,hf];unfold fpP at bj⊢;rw[ea,a5]at bj;exact bj)
         rw[ZHQ _ _ d7,ho z (cb z hz)];exact af z hz;rintro dd S ⟨hr,_⟩;cases hr
        have dy:¬(f0.kind=9/\I x1.parts=1):=by simp only[ZIl,decide_eq_false_iff_not]at h9;omega
        refine rx @eQ0 ?_;refine cd (λh4=>?_) (λh4=>?_);simp only[decide_eq_true_eq]at h4;rw[if_pos h4]at t;have hc:=ax (I x0.bytes) ω (bk (.inl h4));rw[<-bw]at hc;refine rx (nd2 @eQ3 (nd2 @eQ0 (nd2 @eQ4 @W3))) ?_;rw[<-bw];refine cV (hc) ?_ ?_;rintro dd S ⟨hr,⟨row',hS⟩,ho⟩;cases hr;refine gR0 ?_;refine Zf ?_;exact j2 S row' (by rw[t];exact hS) ho;rintro dd S ⟨hr,_⟩;cases hr;simp only[decide_eq_false_iff_not]at h4;rw[if_neg h4]at t;refine rx @eQ0 ?_;refine cd (λh7=>?_) (λh7=>?_);simp only[decide_eq_true_eq]at h7;rw[if_pos h7,db]at t;have hc:=ax (I x0.parts) ω (bk (.inr (.inl h7)));refine rx (nd2 @eQ3 (nd2 @eQ0 (nd2 @eQ4 @au))) ?_;refine cV (hc) ?_ ?_;rintro dd S ⟨hr,⟨row',hS⟩,ho⟩;cases hr;refine gR0 ?_;refine Zf ?_;exact j2 S row' (by rw[t];exact hS) ho;rintro dd S ⟨hr,_⟩;cases hr;simp only[decide_eq_false_iff_not]at h7;rw[if_neg h7]at t;refine rx (nd2 @au @eQ0) ?_;refine cd (λa9=>?_) (λa9=>?_);simp only[ZHN,decide_eq_true_eq]at a9;have bq:I x1.parts=1:=ω;rw[if_pos ⟨a9.1,bq⟩]at t;have a7:=aq.ref (.inr (.inr a9.1));have ap:=ak.sub (k:=k) ω (by rw[ag];omega);rw[ag]at ap;obtain⟨yi,ah,ac,Y,a8,al,ae,_,_⟩:=ap;have bl:pi=.msl yi 0 (I x1.parts) ah 5:=by have:=ab.symm.trans a8;simp only[List.cons.injEq]at this;exact this.2.2.2.2.1
        subst bl;have aj:∀j,j<I x1.parts->(ac j).length=5:=λj hj=>by rw[ae j hj];exact Val.len _
        have aw:=Y6 aj;have u:=KS Y aj (show 0<I x1.parts by omega);unfold part at u;rw[ae 0 ω,Nat.zero_mul,List.drop_zero]at u;have az:x1.parts.getD 0 dE∈x1.parts:=Zm ω;have ba:=bz.part az;have eh:=KN az;have dw:=Zab a7;have be:=ZeN hd 51 (ixS d f0.of) (x1.parts.getD 0 dE) [] dw.2 ba ω ψ;rw[<-dw.1,show d.msgs.getD (ixS d f0.of) dE=Zl d f0.of from rfl]at be;have d9:=λh=>ZvK hd (n:=51) (q:=[]) a7 ba h;have hlb:=Ze3 hd.dok 51 (Zl d f0.of) (x1.parts.getD 0 dE) (hd.dok.of f0.of) ba.ok;have hwt:=ba.wt;generalize x1.parts.getD 0 dE=y at *;generalize Ym d 51 (Zl d f0.of) y []=M at *;unfold mfT at be;refine rx (nd2 @eQ2 (nd2 @eQ0 @Zc4)) ?_;rw[show D.agg [.str d.name,Yy d.msgs,.str d.start]=.agg d.cells from rfl];refine cl (Wi d f0.of (I d.msgs) (ZHV _)) ?_;refine rx (nd2 @eQ2 (nd2 @al (nd2 @u @Nat.zero_mul))) ?_;refine⟨ω,ω,by rw[ZHO,aw];omega,?_⟩;rw[show D.agg [.str d.name,Yy d.msgs,.str d.start]=.agg d.cells from rfl];refine cl0 (be) ?_;refine rg ?_;refine cd (λhz=>?_) (λhz=>?_);simp only[decide_eq_true_eq]at hz;rw[if_pos hz]at t;have d6:=d9 hz;generalize lenS d 51 (Zl d f0.of) y=len at *;have hc:=ax len ⟨ω,ω⟩ (bk (.inr (.inr a9.1)));refine rx (nd2 @eQ2 (nd2 @eQ3 (nd2 @eQ0 (nd2 @eQ4 (nd2 @al (nd2 @u @Nat.zero_mul)))))) ?_;refine⟨ω,ω,by rw[ZHO,aw];omega,?_⟩;rw[show D.agg [.str d.name,Yy d.msgs,.str d.start]=.agg d.cells from rfl];refine clD (d6) ?_;refine cVD (hc) ?_ ?_;rintro dd S ⟨hr,⟨row',hS⟩,ho⟩;cases hr;refine kF ?_;refine gR0 ?_;refine Zf ?_;exact j2 S row' (by rw[t];exact hS) ho;rintro dd S ⟨hr,_⟩;cases hr;simp only[decide_eq_false_iff_not]at hz;rw[if_neg hz]at t;refine Zp ?_;refine kE [3,5,6,7,8,9] ?_;refine Zf ?_;exact j2 A1 row (by rw[t];exact ak) af;rw[if_neg (by simp only[ZIl,decide_eq_false_iff_not]at a9;omega),if_neg dy]at t;refine Zp ?_;refine kE [3,5,6,7,8,9] ?_;refine Zf ?_;exact j2 A1 row (by rw[t];exact ak) af
       refine dh _ 0 rfl A x0.parts ?_ rfl (λq hq=>by rw[if_neg ω]) cu ω;rw[ZaC,ch];exact hm0
     simp only[decide_eq_false_iff_not]at cm;obtain rfl:i=I m.fields:=ω;rw[ZH2]at hk;have d2:G=v.setPs P:=by rw[<-hG,hP,hk,dn]
     refine rg ?_;refine ZcN fp bt.live (LdE.refl _) (.cons (.cons (.refl _) (.cons (.refl _) (.cons (.refl _) (.cons (.refl _) (.cons bt.ld .nil))))) .nil) ?_;exact bx rfl ψ (by rw[d2,ZHX];exact ZHL _) (bb _ cu)
    exact d5 _ 0 rfl 0 S v.parts rfl rfl hV b2 (Zbt.1 hv.ok).1 ω
  rintro dd S' ⟨hr,_⟩;cases hr
 rintro dd S ⟨_,_,hr,_⟩;cases hr
def Zi6{d}(t:WW d):∀(n im v),im<I d.msgs->VOk v->ZL v<=n->n<=51->Zc ZHF 10 [.agg d.cells,.int .i64 im,.agg v.cells] (.agg (WB d n (d.msgs.getD im dE) v).cells)
 |0,_,v,_,_,hh,_=>by have:=WJ v;omega
 |n+1,im,v,him,hv,hh,hn=>by exact ZoD t n im him (WB d n) v hv hh ω (λs y=>ZbI n _ y) (λs y h=>ZhF (Zp4 t) n s y h) λs g u z j=>by have i:=Zab u;rw[i.1];exact Zi6 t n (ixS d s) g i.2 z j ω
def ZBq(d s v):Zii d s v=if (atS d s v).2=0 then (if (Ym d 51 (Zl d s) (WB d 51 (Zl d s) v) []).2=0 then (.agg (WB d 51 (Zl d s) v).cells,0) else (Zec,(Ym d 51 (Zl d s) (WB d 51 (Zl d s) v) []).2)) else (Zec,(atS d s v).2):=by
 unfold Zii atS;split;split;simp;simp;simp
def Zuo:Zc ZHF 12 [Zec,Zec] (.int .i64 0):=by
 have h:=ZdK (.mk [] 0 [] [] []) (.mk [] 0 [] [] []);rw[(ZkU _).2 rfl]at h;have i:Zec.Le (.agg (Val.mk [] 0 [] [] []).cells):=by rw[ZHX];exact Zsm (.cons (ZHL _) (.cons (ZHL _) (.cons (Y3 λb h=>by cases h) (.cons (Y3 λb h=>by cases h) (.cons (Y3 λb h=>by cases h) .nil)))))
 exact Zc.leA (.cons i (.cons i .nil)) h
def ZzM{d s v}(hs:ZW v=true->wtN v<=5000/\ZL v<=51)(h:(atS d s v).2=0):
  Zc ZHF 10 [.agg d.cells,.int .i64 (atS d s v).1,.agg v.cells] (.agg (WB d 51 (Zl d s) v).cells) /\
  Zc ZHF 11 [.agg d.cells,.int .i64 (atS d s v).1,.agg (WB d 51 (Zl d s) v).cells,.str []] (mfT (Ym d 51 (Zl d s) (WB d 51 (Zl d s) v) [])):=by
 unfold atS at h⊢;split at h;rename_i n;rw[if_pos n];split at h;simp at h;rename_i hf;rw[if_neg hf];simp only[ZHN]at n;obtain⟨z,u⟩:=Zrm n.2 hs;have t:=ZiZ n.1;have i:=Zab (d:=d) (s:=s) ω;have hw:VOk (WB d 51 (Zl d s) v):=Zs8 t z;have j:ZL (WB d 51 (Zl d s) v)<=51:=by rw[Zl5];exact u
 rw[i.1];exact⟨Zi6 t 51 (ixS d s) v i.2 z u ω,ZeN t 51 (ixS d s) _ [] i.2 hw j ψ⟩;simp at h
def Zjd(hI:Zba)(hk:Zc ZHF 6 [] (.bool true))(d:Dfn)(s:Str)(v:Val)(hr:Zdd v):Zc ZHF 3 [.agg d.cells,.str s,.agg v.cells] (.bool true):=by
 refine Zg (cR 3 f3) λF st j=>?_;have aj:=ZpJ d v st;have u:=λe=>Zto e;have ak:=ZvG v hr;have n:=ZrK hI d s v;have af:=ZyL d s v;have z:=ZzM (d:=d) (s:=s) (v:=v);have hE:=ZBq d s v;have ad:=ZdK v v;rw[(ZkU _).2 rfl]at ad;have ac:=Zuo;generalize WB d 51 (Zl d s) v=w at *;have al:=ZdK w w;rw[(ZkU _).2 rfl]at al;generalize Zii d s v=X at *;generalize Ym d 51 (Zl d s) w []=M at *;generalize atS d s v=A at *;obtain⟨ix,no⟩:=A;obtain⟨xd,xe⟩:=X;simp only at af z hE n;rw[ZHX v]at *;refine rx @eQ2 ?_;refine rg ?_;refine cV (aj) ?_ ?_;rintro dd S ⟨rfl,b,ah,hs⟩;cases ah;refine gR0 ?_;refine cd (λh1=>?_) (λh1=>?_);refine rg ?_;refine cl (hk) ?_;refine rb j ?_;rfl;have hb:b=true:=by simp at h1;exact h1.1
 have ai:=hs hb;have i:=n ai;have t:=af (ZuI ai);have ag:=z ai;clear n af z hs aj;refine rg ?_;refine cl (ak) ?_;refine aa ?_;refine rx @eQ2 ?_;by_cases ab:no=0;subst ab;obtain⟨hf,hm⟩:=ag rfl;rw[if_pos rfl]at hE;obtain⟨mp,mc⟩:=M;unfold mfT at hm;simp only at hm hE;by_cases ae:mc=0;subst ae;rw[if_pos rfl]at hE;simp only[ZHR]at hE;obtain⟨rfl,rfl⟩:=hE;rw[ZHX w]at *;refine cl (i) ?_;refine aa ?_;refine rx @eQ2 ?_;refine cl (t) ?_;refine gG ?_;refine i1 ?_;refine rx @eQ2 ?_;refine cl (hf) ?_;refine aa ?_;refine rx @eQ2 ?_;refine cl (hm) ?_;refine rg ?_;refine iG ?_;refine cl (al) ?_;refine cG (u 0) ?_;refine cG (ad) ?_;refine cG (hk) ?_;refine rb j ?_;rfl;rw[if_neg ae]at hE;simp only[ZHR]at hE;obtain⟨rfl,rfl⟩:=hE;rw[ZHX w]at *;unfold Zec at i ac;have hmt:dC (xe=0)=false:=decide_eq_false ae;refine cl (i) ?_;refine aa ?_;refine rx @eQ2 ?_;refine cl (t) ?_;refine gG ?_;refine i1 ?_;refine rx @eQ2 ?_;refine cl (hf) ?_;refine aa ?_;refine rx @eQ2 ?_;refine cl (hm) ?_;refine rg ?_;refine Zt rfl trivial (λ_=>?_) (λh=>by simp at h;exact absurd h ae);refine rg ?_;refine cl (ac) ?_;refine cG (u xe) ?_;refine cG (ad) ?_;refine cG (hk) ?_;refine rb j ?_;rfl;rw[if_neg ab]at hE;simp only[ZHR]at hE;obtain⟨rfl,rfl⟩:=hE;unfold Zec at i ac;refine cl (i) ?_;refine aa ?_;refine rx @eQ2 ?_;refine cl (t) ?_;refine gG ?_;refine Zt rfl trivial (λh=>by simp at h;exact absurd h ab) (λ_=>?_);refine rg ?_;refine Zt rfl trivial (λ_=>?_) (λh=>by simp at h;exact absurd h ab);refine rg ?_;refine cl (ac) ?_;refine cG (u xe) ?_;refine cG (ad) ?_;refine cG (hk) ?_;refine rb j ?_;rfl;rintro dd S ⟨_,b,ah,_⟩;cases ah
end Go.DL
namespace Go.DL
open Go
variable [Zsq]
variable {kp:Option (List Nat)}{L:Loc}{H:Env}{s:St}{w:World}{os:List DOp}{ds:List D}{B:List (Nat × Rd)}{dst:Option Nat}{tmps:Array Value}{g:G}{Φ:Res->St->Prop}{Z:Nat->Nat}{xs:List Opd}{side:Prop}{row:Nat->List D}
inductive V where
 |int (k:IntKind) (n:Int)
 |bool (b:Bool)
 |str (s:List Nat)
 |agg (cs:List V)
 |tup (vs:List V)
 |nilsl
 |sl (t n s:Nat) (rows:List V)
 |ep (cs:List V) (off:Nat)
 |nilptr
 |ptr (b off:Nat)
 |msl (b off n:Nat) (cap:Option Nat) (s:Nat)
 |map (b:Nat)
 |nilmap
 |fn (f:FuncId) (first caps:List V)
 |yield (l:Nat)
 |nilfn
 |iface (t:TypeId) (v:V)
 |niliface
 |stamp (n:Nat)
abbrev V.i(n:Int):V:=.int .i64 n
def Zau{α:Type}(a:α):Option (List α)->Option (List α)
 |some l=>sO (a::l)
 |none=>nO
def K8{α a}{x:Option (List α)}{r:List α}(h:Zau a x=sO r):∃q,x=sO q/\r=a::q:=by
 cases x with
 |none=>cases h
 |some q=>simp[Zau]at h;exact⟨q,rfl,h.symm⟩
def Zpv{α:Type}(n:Nat)(x y:List α):List α :=
 Nat.rec (motive:=λ_=>List α->List α) (λ_=>y) (λ_ ih l=>match l with
  | []=>y
  |a::t=>a::ih t) n x
def Zhr{α}:∀{n} {x y:List α},I x=n->Zpv n x y=x++y
 |0,[],y,_=>rfl
 |0,a::x,y,h=>by grind
 |n+1,[],y,h=>by grind
 |n+1,a::x,y,h=>congrArg (a::·) (Zhr (n:=n) (x:=x) (y:=y) (by grind))
def Zip{α:Type}(n:Nat):List α->Option α :=
 Nat.rec (motive:=λ_=>List α->Option α) (λl=>match l with
  | []=>nO
  |a::_=>sO a) (λ_ ih l=>match l with
  | []=>nO
  |_::t=>ih t) n
def Zlk{α}:∀(n) (l:List α),Zip n l=l[n]?
 |0,[]=>rfl
 |0,a::l=>rfl
 |n+1,[]=>rfl
 |n+1,a::l=>(Zlk n l).trans ψ
def Zb9{α:Type}(n:Nat):List α->List α :=
 Nat.rec (motive:=λ_=>List α->List α) (λl=>l) (λ_ ih l=>match l with
  | []=>[]
  |_::t=>ih t) n
def JW{α}:∀(n) (l:List α),Zb9 n l=l.drop n
 |0,l=>rfl
 |n+1,[]=>rfl
 |n+1,a::l=>(JW n l).trans ψ
def ZbL{α:Type}(n:Nat):List α->Option (List α) :=
 Nat.rec (motive:=λ_=>List α->Option (List α)) (λ_=>sO []) (λ_ ih l=>match l with
  | []=>nO
  |a::t=>Zau a (ih t)) n
def ZaD{α}:∀{n} {l r:List α},ZbL n l=sO r->n<=I l/\r=l.take n
 |0,l,r,h=>by have i:sO []=sO r:=h;grind
 |n+1,[],r,h=>by have i:(nO:Option (List α))=sO r:=h;simp at i
 |n+1,a::l,r,h=>by obtain⟨q,j,rfl⟩:=K8 (show Zau a (ZbL n l)=sO r from h);obtain⟨h1,h2⟩:=ZaD j;grind
def Zr5{α:Type}(o n:Nat)(l:List α):Option (List α):=match Nat.ble 1 n with
 |true=>ZbL n (Zb9 o l)
 |false=>nO
def ZAi{α o n}{l r:List α}(h:Zr5 o n l=sO r):o+n<=I l/\r=(l.drop o).take n:=by
 unfold Zr5 at h;split at h;rename_i i;rw[Nat.ble_eq]at i;rw[JW]at h;obtain⟨h1,h2⟩:=ZaD h;grind;grind
def ZwY{α:Type}(n:Nat):List α->List α->Option (List α) :=
 Nat.rec (motive:=λ_=>List α->List α->Option (List α)) (λxs l=>match xs with
  | []=>sO l
  |_::_=>nO) (λ_ ih xs l=>match xs with
  | []=>nO
  |x::xs=>match l with
   | []=>nO
   |_::t=>Zau x (ih xs t)) n
def ZkA{α:Type}(o n:Nat)(xs:List α):List α->Option (List α) :=
 Nat.rec (motive:=λ_=>List α->Option (List α)) (λl=>ZwY n xs l) (λ_ ih l=>match l with
  | []=>nO
  |a::t=>Zau a (ih t)) o
def ZtF{α}:∀{n} {xs l r:List α},ZwY n xs l=sO r->I xs=n/\n<=I l/\r=xs++l.drop n
 |0,[],l,r,h=>by have i:sO l=sO r:=h;simp_all
 |0,x::xs,l,r,h=>by have i:(nO:Option (List α))=sO r:=h;simp at i
 |n+1,[],l,r,h=>by have i:(nO:Option (List α))=sO r:=h;simp at i
 |n+1,x::xs,[],r,h=>by have i:(nO:Option (List α))=sO r:=h;simp at i
 |n+1,x::xs,a::l,r,h=>by obtain⟨q,z,rfl⟩:=K8 (show Zau x (ZwY n xs l)=sO r from h);obtain⟨u,j,t⟩:=ZtF z;subst t;simp[u,j]
def Zp8{α}:∀{o n} {xs l r:List α},ZkA o n xs l=sO r->I xs=n/\o+n<=I l/\r=l.take o++xs++l.drop (o+n)
 |0,n,xs,l,r,h=>by obtain⟨t,i,j⟩:=ZtF (n:=n) (xs:=xs) (l:=l) (r:=r) h;grind
 |o+1,n,xs,[],r,h=>by have z:(nO:Option (List α))=sO r:=h;simp at z
 |o+1,n,xs,a::l,r,h=>by obtain⟨q,u,rfl⟩:=K8 (show Zau a (ZkA o n xs l)=sO r from h);obtain⟨t,i,j⟩:=Zp8 u;grind
structure Bx(α:Type) where
 run:α
structure N8(α:Type) where
 a:α
 b:α
 c:α
 d:α
 e:α
 f:α
 g:α
 h:α
def N8.all{α:Type}(x:α):N8 α:=⟨x,x,x,x,x,x,x,x⟩
def Zcm{α:Type}:Nat->Bx (N8 α->α)
 |0=>⟨λt=>t.a⟩
 |1=>⟨λt=>t.b⟩
 |2=>⟨λt=>t.c⟩
 |3=>⟨λt=>t.d⟩
 |4=>⟨λt=>t.e⟩
 |5=>⟨λt=>t.f⟩
 |6=>⟨λt=>t.g⟩
 |_=>⟨λt=>t.h⟩
def Zj4{α:Type}:Nat->Bx ((α->α)->N8 α->N8 α)
 |0=>⟨λu t=>N8.casesOn t λa b c d e f g h=>⟨u a,b,c,d,e,f,g,h⟩⟩
 |1=>⟨λu t=>N8.casesOn t λa b c d e f g h=>⟨a,u b,c,d,e,f,g,h⟩⟩
 |2=>⟨λu t=>N8.casesOn t λa b c d e f g h=>⟨a,b,u c,d,e,f,g,h⟩⟩
 |3=>⟨λu t=>N8.casesOn t λa b c d e f g h=>⟨a,b,c,u d,e,f,g,h⟩⟩
 |4=>⟨λu t=>N8.casesOn t λa b c d e f g h=>⟨a,b,c,d,u e,f,g,h⟩⟩
 |5=>⟨λu t=>N8.casesOn t λa b c d e f g h=>⟨a,b,c,d,e,u f,g,h⟩⟩
 |6=>⟨λu t=>N8.casesOn t λa b c d e f g h=>⟨a,b,c,d,e,f,u g,h⟩⟩
 |_=>⟨λu t=>N8.casesOn t λa b c d e f g h=>⟨a,b,c,d,e,f,g,u h⟩⟩
abbrev T(α:Type):=N8 (N8 (N8 (N8 (N8 (Option α)))))
def T.nil{α:Type}:T α:=N8.all (N8.all (N8.all (N8.all (N8.all nO))))
def T.getF{α:Type}(k:Nat):Bx (T α->Option α) :=
 match Nat.blt k 32768 with
 |true=>⟨λt=>(Zcm (Nat.mod k 8)).run ((Zcm (Nat.mod (Nat.div k 8) 8)).run ((Zcm (Nat.mod (Nat.div k 64) 8)).run ((Zcm (Nat.mod (Nat.div k 512) 8)).run ((Zcm (Nat.mod (Nat.div k 4096) 8)).run t))))⟩
 |false=>⟨λ_=>nO⟩
def T.setF{α:Type}(k:Nat):Bx (Option α->T α->T α) :=
 match Nat.blt k 32768 with
 |true=>⟨λx=>(Zj4 (Nat.mod (Nat.div k 4096) 8)).run ((Zj4 (Nat.mod (Nat.div k 512) 8)).run ((Zj4 (Nat.mod (Nat.div k 64) 8)).run ((Zj4 (Nat.mod (Nat.div k 8) 8)).run ((Zj4 (Nat.mod k 8)).run λ_=>x))))⟩
 |false=>⟨λ_ t=>t⟩
def T.get{α:Type}(t:T α)(k:Nat):Option α:=(T.getF k).run t
def T.set{α:Type}(x:Option α)(t:T α)(k:Nat):T α:=(T.setF k).run x t
def ZBk{α u}{t:N8 α}:∀{i j:Nat},i<8->j<8->(Zcm i).run ((Zj4 j).run u t)=if i=j then u ((Zcm i).run t) else (Zcm i).run t:=by
 intro i j hi z;have n:∀i:Fin 8,∀j:Fin 8,(Zcm i.val).run ((Zj4 j.val).run u t)=if i.val=j.val then u ((Zcm i.val).run t) else (Zcm i.val).run t:=by intro i j;rcases i with _|_|_|_|_|_|_|_|i<;>(try omega)<;>rcases j with _|_|_|_|_|_|_|_|j<;>(try omega)<;>rfl
 exact n ⟨i,hi⟩ ⟨j,z⟩
def T.get_set{α}{x}{a}{t:T α}{k k'}(h:(t.set x k).get k'=sO a):(k'=k/\x=sO a)\/(k'≠k/\t.get k'=sO a):=by
 unfold T.get at h⊢;cases hb:Nat.blt k' 32768 with
 |false=>simp[T.getF,hb]at h
 |true =>
 have i:=hb;simp at i;unfold T.set T.setF at h;split at h;rename_i hk;simp at hk;have m (n:Nat):Nat.mod n 8<8:=Nat.mod_lt _ ω;have dp:∀{β:Type} {u:β->β} {t:N8 β} (n z:Nat),(Zcm (Nat.mod n 8)).run ((Zj4 (Nat.mod z 8)).run u t)=if Nat.mod n 8=Nat.mod z 8 then u ((Zcm (Nat.mod n 8)).run t) else (Zcm (Nat.mod n 8)).run t:=λn z=>ZBk (m n) (m z)
 simp[T.getF,hb]at h⊢;rw[dp]at h;by_cases h5:Nat.mod (Nat.div k' 4096) 8=Nat.mod (Nat.div k 4096) 8;rw[if_pos h5,dp]at h;by_cases j:Nat.mod (Nat.div k' 512) 8=Nat.mod (Nat.div k 512) 8;rw[if_pos j,dp]at h;by_cases h3:Nat.mod (Nat.div k' 64) 8=Nat.mod (Nat.div k 64) 8;rw[if_pos h3,dp]at h;by_cases h2:Nat.mod (Nat.div k' 8) 8=Nat.mod (Nat.div k 8) 8;rw[if_pos h2,dp]at h;by_cases h1:Nat.mod k' 8=Nat.mod k 8;rw[if_pos h1]at h;refine .inl ⟨?_,h⟩;have e1 (a b:Nat):Nat.mod a b=a % b:=rfl;have e2 (a b:Nat):Nat.div a b=a / b:=rfl;simp[e1,e2]at h1 h2 h3 j h5;omega;rw[if_neg h1]at h;exact .inr ⟨λe=>h1 (by rw[e]),h⟩;rw[if_neg h2]at h;exact .inr ⟨λe=>h2 (by rw[e]),h⟩;rw[if_neg h3]at h;exact .inr ⟨λe=>h3 (by rw[e]),h⟩;rw[if_neg j]at h;exact .inr ⟨λe=>j (by rw[e]),h⟩;rw[if_neg h5]at h;exact .inr ⟨λe=>h5 (by rw[e]),h⟩;by_cases e:k'=k;simp_all;exact .inr ⟨e,h⟩
def T.get_nil{α k}:(T.nil:T α).get k=nO:=by
 have this:∀{β:Type} (x:β) (n:Nat),(Zcm n).run (N8.all x)=x:=λx n=>by rcases n with _|_|_|_|_|_|_|n<;>rfl
 unfold T.get T.getF;split;simp[T.nil,this];rfl
mutual
def ofD:D->Option V
 |.int k n=>sO (.int k n)
 |.bool b=>sO (.bool b)
 |.str s=>sO (.str (s.map UInt8.toNat))
 |.agg cs=>(ofDs cs).map .agg
 |.nilsl=>sO .nilsl
 |.nilptr=>sO .nilptr
 |.nilmap=>sO .nilmap
 |.fn (.func f) [] []=>sO (.fn f [] [])
 |.nilfn=>sO .nilfn
 |.niliface=>sO .niliface
 |.ep cs o=>(ofDs cs).map (.ep · o)
 |_=>nO
def ofDs:List D->Option (List V)
 | []=>sO []
 |d::r=>match ofD d,ofDs r with
  |some v,sO vs=>sO (v::vs)
  |_,_=>nO
end
def leI:Int->Int->Bool
 |.ofNat a,b=>match b with
  |.ofNat b=>Nat.ble a b
  |.negSucc _=>false
 |.negSucc a,b=>match b with
  |.ofNat _=>true
  |.negSucc b=>Nat.ble b a
def eqI:Int->Int->Bool
 |.ofNat a,b=>match b with
  |.ofNat b=>Nat.beq a b
  |.negSucc _=>false
 |.negSucc a,b=>match b with
  |.ofNat _=>false
  |.negSucc b=>Nat.beq a b
def ZhD(a b):leI a b=dC (a<=b):=by
 rw[Bool.eq_iff_iff,decide_eq_true_eq];cases a<;>cases b<;>simp[leI]<;>omega
def ZjF(a b):eqI a b=dC (a=b):=by
 rw[Bool.eq_iff_iff,decide_eq_true_eq];cases a<;>cases b<;>simp[eqI]<;>omega
def ZAI:IntKind->Nat
 |.i8=>127|.i16=>32767|.i32=>2147483647|.i64=>9223372036854775807
 |.u8=>255|.u16=>65535|.u32=>4294967295|.u64=>18446744073709551615
def ZwE(k:IntKind):Int->Bool
 |.ofNat n=>Nat.ble n (ZAI k)
 |.negSucc n=>k.signed&&Nat.ble n (ZAI k)
def Zvz{k n}(h:ZwE k n=true):inR k n:=by
 cases n<;>cases k<;>simp only[ZwE,ZAI,Nat.ble_eq,IntKind.signed,ZH7,ZH3,ZIe]at h <;>
  simp[inR,IntKind.min,IntKind.max,IntKind.signed,IntKind.bits]<;>omega
def ZgW(k:IntKind)(n:Int):Option V:=match ZwE k n with
 |true=>sO (.int k n)
 |false=>nO
def ZwL:IntKind->Nat
 |.i8=>0|.i16=>1|.i32=>2|.i64=>3|.u8=>4|.u16=>5|.u32=>6|.u64=>7
def Zgt(k k':IntKind):Bool:=Nat.beq (ZwL k) (ZwL k')
def ZfC{k k'}(h:Zgt k k'=true):k=k':=by
 cases k<;>cases k'<;>first|rfl|(simp[Zgt,ZwL]at h)
def ZAn(op:BinOp):IntKind->Int->Int->Option V :=
 match op with
 |.add=>λk a b=>ZgW k (Int.add a b)
 |.sub=>λk a b=>ZgW k (Int.sub a b)
 |.mul=>λk a b=>ZgW k (Int.mul a b)
 |.quo=>λk a b=>match eqI b 0 with
  |true=>nO
  |false=>ZgW k (a.tdiv b)
 |.rem=>λk a b=>match eqI b 0 with
  |true=>nO
  |false=>ZgW k (a.tmod b)
 |.and=>λk a b=>sO (.int k (ZmL .and k a b))
 |.or=>λk a b=>sO (.int k (ZmL .or k a b))
 |.xor=>λk a b=>sO (.int k (ZmL .xor k a b))
 |.andNot=>λk a b=>sO (.int k (ZmL .andNot k a b))
 |.eql=>λ_ a b=>sO (.bool (eqI a b))
 |.neq=>λ_ a b=>sO (.bool (!eqI a b))
 |.lss=>λ_ a b=>sO (.bool (!leI b a))
 |.leq=>λ_ a b=>sO (.bool (leI a b))
 |.gtr=>λ_ a b=>sO (.bool (!leI a b))
 |.geq=>λ_ a b=>sO (.bool (leI b a))
 |.shl=>λk a b=>match leI 0 b with
  |true=>ZgW k (ZkE k a b)
  |false=>nO
 |.shr=>λk a b=>match leI 0 b with
  |true=>ZgW k (ZkF k a b)
  |false=>nO
def eqS:List Nat->List Nat->Bool
 | [],[]=>true
 |a::x,b::y=>if Nat.beq (a % 256) (b % 256) then eqS x y else false
 |_,_=>false
def Zd5:List Nat->List Nat->Bool
 |_,[]=>false
 | [],_::_=>true
 |a::x,b::y=>if Nat.blt (a % 256) (b % 256) then true else if Nat.beq (a % 256) (b % 256) then Zd5 x y else false
def ZAo(op:BinOp):List Nat->List Nat->Option V :=
 match op with
 |.add=>λa b=>match Nat.ble (I a+I b) big with
  |true=>sO (.str (a++b))
  |false=>nO
 |.eql=>λa b=>sO (.bool (eqS a b))
 |.neq=>λa b=>sO (.bool (!eqS a b))
 |.lss=>λa b=>sO (.bool (Zd5 a b))
 |.leq=>λa b=>sO (.bool (Zd5 a b ||eqS a b))
 |.gtr=>λa b=>sO (.bool (!(Zd5 a b ||eqS a b)))
 |.geq=>λa b=>sO (.bool (!Zd5 a b))
 |_=>λ_ _=>nO
def ZlC:SK->V->V->Option Bool
 |.int,.int k a,.int k' b=>if Zgt k k' then sO (eqI a b) else nO
 |.str,.str a,.str b=>sO (eqS a b)
 |.bool,.bool a,.bool b=>sO (dC (a=b))
 |_,_,_=>nO
def Zht(xs ys:List V):List (Nat×SK)->Option Bool
 | []=>sO true
 | (o,k)::r=>match xs[o]?,ys[o]? with
  |some x,sO y=>match ZlC k x y,Zht xs ys r with
   |some b,sO c=>sO (b&&c)
   |_,_=>nO
  |_,_=>nO
def ZeK:KP->V->V->Option Bool
 |.sc k,x,y=>ZlC k x y
 |.st l,.agg xs,.agg ys=>if (I xs)=I l/\I ys=I l then Zht xs ys l else nO
 |_,_,_=>nO
def Zr6:Zfp->V->V->Option Bool
 |.bool,.bool a,.bool b=>sO (dC (a=b))
 |.sl,.nilsl,.nilsl=>sO true
 |.sl,.sl _ n _ _,.nilsl=>if 0<n then sO false else nO
 |.sl,.msl _ _ _ _ _,.nilsl=>sO false
 |.map,.nilmap,.nilmap=>sO true
 |.map,.map _,.nilmap=>sO false
 |.fn,.nilfn,.nilfn=>sO true
 |.fn,.fn _ _ _,.nilfn=>sO false
 |.fn,.yield _,.nilfn=>sO false
 |.ifc,.niliface,.niliface=>sO true
 |.ifc,.iface _ _,.niliface=>sO false
 |.ptr,.nilptr,.nilptr=>sO true
 |.ptr,.ptr _ _,.nilptr=>sO false
 |.ptr,.ep _ _,.nilptr=>sO false
 |.cells l,.agg xs,.agg ys=>Zht xs ys l
 |_,_,_=>nO
def Zub:BinOp->Bool
 |.shl|.shr=>true
 |_=>false
def ZtN(op:BinOp)(p:Option Zfp):V->V->Option V :=
 match p with
 |none=>λ_ _=>nO
 |some p=>match op with
  |.eql=>λx y=>match Zr6 p x y with
   |some b=>sO (.bool b)
   |none=>nO
  |.neq=>λx y=>match Zr6 p x y with
   |some b=>sO (.bool (!b))
   |none=>nO
  |_=>λ_ _=>nO
def ZtM(op:BinOp)(p:Option Zfp)(x y:V):Option V :=
 match x with
 |.int k a=>match y with
  |.int k' b=>match Zub op ||Zgt k k' with
   |true=>ZAn op k a b
   |false=>nO
  |_=>nO
 |.str a=>match y with
  |.str b=>ZAo op a b
  |_=>nO
 |x=>ZtN op p x y
inductive W where
 |v (x:V)
 |loc (l off:Nat)
 |skip
inductive O where
 |cells (vs:List V)
 |buf (vs:List V)
 |map (es:List (V×V))
 |tok (k:Nat)
 |mapE (kp:KP) (es:List (V×V)) (k:V) (n:Nat)
 |loop (f:FuncId) (n:Nat) (ps:List Nat) (a b:DC) (H:T W) (st:Option DC) (busy:Bool)
 |dfr
 |ro (o:O)
abbrev S:=T O
def cellsO:O->Option (List V)
 |.cells vs=>sO vs
 |.buf vs=>sO vs
 |.ro o=>match o with
  |.cells vs=>sO vs
  |.buf vs=>sO vs
  |_=>nO
 |_=>nO
def Zbs:Option O->Option (List V)
 |some o=>cellsO o
 |none=>nO
def mapO:Option O->Option (List (V×V))
 |some o=>match o with
  |.map es=>sO es
  |.ro o=>match o with
   |.map es=>sO es
   |_=>nO
  |_=>nO
 |none=>nO
def Zco:O->Bool
 |.ro _=>true
 |_=>false
def ZnZ(kp:KP)(k:V):List (V×V)->Option (Option V)
 | []=>sO nO
 |e::r=>match ZeK kp k e.1 with
  |some true=>sO (sO e.2)
  |some false=>ZnZ kp k r
  |none=>nO
def Zqi(kp:KP)(k v:V):List (V×V)->Option (List (V×V))
 | []=>sO [(k,v)]
 |e::r=>match ZeK kp k e.1 with
  |some true=>sO ((k,v)::r)
  |some false=>(Zqi kp k v r).map (e::·)
  |none=>nO
def ZsX(kp:KP)(k:V):List (V×V)->Option (List (V×V))
 | []=>sO []
 |e::r=>match ZeK kp k e.1 with
  |some true=>sO r
  |some false=>(ZsX kp k r).map (e::·)
  |none=>nO
def Zs5(kp:KP)(k z:V):List (V×V)->Option V
 | []=>sO z
 |e::r=>match ZeK kp k e.1 with
  |some true=>sO e.2
  |some false=>Zs5 kp k z r
  |none=>nO
def Zr3(z:V)(ok:Bool):Option V->V
 |some v=>if ok then .tup [v,.bool true] else v
 |none=>if ok then .tup [z,.bool false] else z
def Zgb:V->List V
 |.agg cs=>cs
 |v=>[v]
def Zpf:V->Bool
 |.tup _=>false
 |_=>true
def Zxy:V->Bool
 |.tup _|.agg _=>false
 |_=>true
def ZrZ(cells:List V):List (Nat×Nat)->List V->Option (List V)
 | [],[]=>sO cells
 | (o,n)::ps,d::ds=>if Zpf d then match ZkA o n (Zgb d) cells with
  |some cs=>ZrZ cs ps ds
  |none=>nO
  else nO
 |_,_=>nO
def Zxg(s n:Nat):List V->Option (List V) :=
 Nat.rec (motive:=λ_=>List V->Option (List V)) (λ_=>sO []) (λ_ ih l=>match ZbL s l with
  |some r=>Zau (.agg r) (ih (Zb9 s l))
  |none=>nO) n
def Zn1(s:Nat)(n:Nat):List V->Option (List V) :=
 Nat.rec (motive:=λ_=>List V->Option (List V)) (λ_=>sO []) (λ_ ih l=>match l with
  |.agg cs::t=>match ih t with
   |some r=>sO (Zpv s cs r)
   |none=>nO
  |_=>nO) n
def ZnE:List V->Option (List Nat)
 | []=>sO []
 |.int .u8 n::r=>Zau n.toNat (ZnE r)
 |_::_=>nO
def ZsE:List V->Option (List Nat)
 | []=>sO []
 |.agg [.int .u8 n]::r=>Zau n.toNat (ZsE r)
 |_::_=>nO
def Zay:List Bool->List V->Option (List (Option Int))
 | [],[]=>sO []
 |true::bs,.int _ n::r=>(Zay bs r).map (sO n::·)
 |false::bs,r=>(Zay bs r).map (nO::·)
 |_,_=>nO
def Zxv(t n:Nat)(l h:Int):Option Int->Nat
 |some m=>if eqI m h then 1 else 0
 |none=>if eqI h n then (if Nat.beq t 1 then 1 else if eqI l 0 then t else 0) else 0
def ZCD(h:Int)(n:Nat):Option Int->Bool
 |some m=>leI h m&&leI m n
 |none=>true
def Zud(s:Nat)(lo hi mx:Option Int):V->Option V
 |.sl t n s' rs =>
  if Nat.beq s' s&&leI 0 (lo.getD 0)&&leI (lo.getD 0) (hi.getD n)&&leI (hi.getD n) n&&ZCD (hi.getD n) n mx then
   match ZbL (Int.sub (hi.getD n) (lo.getD 0)).toNat (Zb9 (lo.getD 0).toNat rs) with
   |some r=>sO (.sl (Zxv t n (lo.getD 0) (hi.getD n) mx) (Int.sub (hi.getD n) (lo.getD 0)).toNat s r)
   |none=>nO
  else nO
 |.nilsl=>if eqI (lo.getD 0) 0&&eqI (hi.getD 0) 0&&eqI (mx.getD 0) 0 then sO .nilsl else nO
 |.msl b o n cap s' =>
  if Nat.beq s' s&&leI 0 (lo.getD 0)&&leI (lo.getD 0) (hi.getD n) then match cap with
   |some cap=>if leI (hi.getD n) (mx.getD cap)&&leI (mx.getD cap) cap then
     sO (.msl b (if eqI (mx.getD cap) (lo.getD 0) then o else o+(lo.getD 0).toNat*s) (Int.sub (hi.getD n) (lo.getD 0)).toNat (sO (Int.sub (mx.getD cap) (lo.getD 0)).toNat) s) else nO
   |none=>if leI (hi.getD n) n&&(eqI (lo.getD 0) 0||!leI n (lo.getD 0)) then match mx with
    |none=>sO (.msl b (o+(lo.getD 0).toNat*s) (Int.sub (hi.getD n) (lo.getD 0)).toNat nO s)
    |some m=>if leI (hi.getD n) m&&leI m n then sO (.msl b (if eqI m (lo.getD 0) then o else o+(lo.getD 0).toNat*s) (Int.sub (hi.getD n) (lo.getD 0)).toNat (sO (Int.sub m (lo.getD 0)).toNat) s) else nO
    else nO
  else nO
 |_=>nO
def a1(vs:List V)(f:V->Option V):Option V:=match vs with
 | [x]=>f x
 |_=>nO
def a2(vs:List V)(f:V->V->Option V):Option V:=match vs with
 | [x,y]=>f x y
 |_=>nO
def ZkN(cs:List V)(o n:Nat):Option V:=match Zr5 o n cs with
 |some r=>sO (.agg r)
 |none=>nO
def Zjx(U:S)(b:Nat)(f:List V->Option V):Option V:=match Zbs (U.get b) with
 |some cs=>f cs
 |none=>nO
def Zgo(i:Int)(n:Nat)(r:Option V):Option V:=if leI 0 i&&!leI n i then r else nO
def noV{α:Type}(b:Bool)(r:Option α):Option α:=if b then r else nO
def qV:Q->S->List V->Option V
 |.mv=>λ_ vs=>a1 vs sO
 |.nilck=>λ_ vs=>a1 vs λx=>match x with
  |.ep _ _=>sO x
  |.ptr _ _=>sO x
  |.fn _ _ _=>sO x
  |.yield _=>sO x
  |_=>nO
 |.load1=>λU vs=>a1 vs λa=>match a with
  |.ep cs o=>Zip o cs
  |.ptr b o=>Zjx U b λcs=>Zip o cs
  |_=>nO
 |.loadN n=>λU vs=>a1 vs λa=>match a with
  |.ep cs o=>ZkN cs o n
  |.ptr b o=>Zjx U b λcs=>ZkN cs o n
  |_=>nO
 |.bin op p=>λ_ vs=>a2 vs (ZtM op p)
 |.not=>λ_ vs=>a1 vs λx=>match x with
  |.bool b=>sO (.bool !b)
  |_=>nO
 |.neg=>λ_ vs=>a1 vs λx=>match x with
  |.int k n=>ZgW k (Int.neg n)
  |_=>nO
 |.xorm=>λ_ vs=>a1 vs λx=>match x with
  |.int k n=>sO (.int k (ZmL .xor k (if k.signed then -1 else k.max) n))
  |_=>nO
 |.conv c=>match c with
  |.int k=>λ_ vs=>a1 vs λx=>match x with
   |.int k' n=>sO (if k=k' then .int k n else .int k (k.wrap n))
   |_=>nO
  |.str=>λ_ vs=>a1 vs λx=>match x with
   |.str s=>sO (.str s)
   |_=>nO
  |.i2s=>λ_ vs=>a1 vs λx=>match x with
   |.int _ n=>noV (Nat.ble (Utf8.encode n).data.toList.length big) (sO (.str ((Utf8.encode n).data.toList.map UInt8.toNat)))
   |_=>nO
  |.b2s=>λU vs=>a1 vs λx=>match x with
   |.nilsl=>sO (.str [])
   |.sl _ _ s rs=>noV (Nat.beq s 1) ((ZsE rs).map .str)
   |.msl b o n _ s=>noV (Nat.beq s 1) (Zjx U b λcs=>noV (Nat.ble (o+n) (I cs)) (match ZbL n (Zb9 o cs) with
    |some r=>(ZnE r).map .str
    |none=>nO))
   |_=>nO
 |.faddr off=>λ_ vs=>a1 vs λx=>match x with
  |.ep cs o=>sO (.ep cs (o+off))
  |.ptr b o=>sO (.ptr b (o+off))
  |_=>nO
 |.fld1 off=>λ_ vs=>a1 vs λx=>match x with
  |.agg cs=>Zip off cs
  |_=>nO
 |.fldN off n=>λ_ vs=>a1 vs λx=>match x with
  |.agg cs=>ZkN cs off n
  |_=>nO
 |.iaddr z=>λ_ vs=>a2 vs λx y=>match y with
  |.int _ i=>match x with
   |.sl _ n z' rs=>noV (Nat.beq z' z) (Zgo i n (match Zip i.toNat rs with
    |some (.agg cs)=>sO (.ep cs 0)
    |_=>nO))
   |.msl b o n _ z'=>noV (Nat.beq z' z) (Zgo i n (sO (.ptr b (o+i.toNat*z))))
   |_=>nO
  |_=>nO
 |.iaddrA m z=>λ_ vs=>a2 vs λx y=>match y with
  |.int _ i=>match x with
   |.ptr b o=>Zgo i m (sO (.ptr b (o+i.toNat*z)))
   |.ep cs o=>Zgo i m (sO (.ep cs (o+i.toNat*z)))
   |_=>nO
  |_=>nO
 |.idxA m z one=>λ_ vs=>a2 vs λx y=>match y with
  |.int _ i=>match x with
   |.agg cs=>Zgo i m (if one then Zip (i.toNat*z) cs else ZkN cs (i.toNat*z) z)
   |_=>nO
  |_=>nO
 |.sliceA m z lo hi mx=>λ_ vs=>match vs with
  |.ptr b o::r=>match Zay [lo,hi,mx] r with
   |some [l,h,x]=>noV (leI 0 (l.getD 0)&&leI (l.getD 0) (h.getD m)&&leI (h.getD m) (x.getD m)&&leI (x.getD m) m&&Nat.ble m big)
     (sO (.msl b (if eqI (x.getD m) (l.getD 0) then o else o+(l.getD 0).toNat*z) (Int.sub (h.getD m) (l.getD 0)).toNat (sO (Int.sub (x.getD m) (l.getD 0)).toNat) z))
   |_=>nO
  |_=>nO
 |.idxS=>λ_ vs=>a2 vs λx y=>match y with
  |.int _ i=>match x with
   |.str s=>Zgo i (I s) (sO (.int .u8 (Int.ofNat (s.getD i.toNat 0 % 256))))
   |_=>nO
  |_=>nO
 |.lenS=>λ_ vs=>a1 vs λx=>match x with
  |.str s=>sO (.i (Int.ofNat (I s)))
  |_=>nO
 |.lenL=>λ_ vs=>a1 vs λx=>match x with
  |.sl _ n _ _=>sO (.i (Int.ofNat n))
  |.msl _ _ n _ _=>sO (.i (Int.ofNat n))
  |.nilsl=>sO (.i (Int.ofNat 0))
  |_=>nO
 |.lenA n=>λ_ vs=>a1 vs λ_=>noV (Nat.ble n big) (sO (.i (Int.ofNat n)))
 |.ext k=>λ_ vs=>a1 vs λx=>match x with
  |.tup vs=>Zip k vs
  |_=>nO
 |.build zero parts=>match ofDs zero with
  |some z=>λ_ es=>(ZrZ z parts es).map .agg
  |none=>λ_ _=>nO
 |.mkfn f k=>match f with
  |.func f=>λ_ es=>sO (.fn f (es.take k) (es.drop k))
  |_=>λ_ _=>nO
 |.mkif t=>λ_ vs=>a1 vs λx=>sO (.iface t x)
 |.sliceS lo hi=>λ_ vs=>match vs with
  |.str s::r=>match Zay [lo,hi,false] r with
   |some [l,h,_]=>noV (leI 0 (l.getD 0)&&leI (l.getD 0) (h.getD (I s))&&leI (h.getD (I s)) (I s))
     (sO (.str ((s.drop (l.getD 0).toNat).take ((h.getD (I s)).toNat-(l.getD 0).toNat))))
   |_=>nO
  |_=>nO
 |.slice s lo hi mx=>λ_ vs=>match vs with
  |x::r=>match Zay [lo,hi,mx] r with
   |some [l,h,m]=>Zud s l h m x
   |_=>nO
  |_=>nO
 |.min=>λ_ vs=>a2 vs λx y=>match x with
  |.int k a=>match y with
   |.int k' b=>noV (Zgt k k') (sO (.int k (if leI a b then a else b)))
   |_=>nO
  |_=>nO
 |.max=>λ_ vs=>a2 vs λx y=>match x with
  |.int k a=>match y with
   |.int k' b=>noV (Zgt k k') (sO (.int k (if leI a b then b else a)))
   |_=>nO
  |_=>nO
 |.tassert t ok zero=>match ok with
  |true=>λ_ vs=>a1 vs λx=>match x with
   |.iface t' v=>noV (Nat.beq t' t) (sO (.tup [v,.bool true]))
   |.niliface=>(ofD zero).map λz=>.tup [z,.bool false]
   |_=>nO
  |false=>λ_ vs=>a1 vs λx=>match x with
   |.iface t' v=>noV (Nat.beq t' t) (sO v)
   |_=>nO
 |.lookup kp z ok=>match ofD z with
  |some z=>λU vs=>a2 vs λm k=>noV (ZeK kp k k).isSome (match m with
   |.map b=>match mapO (U.get b) with
    |some es=>(ZnZ kp k es).map (Zr3 z ok)
    |none=>nO
   |.nilmap=>sO (Zr3 z ok nO)
   |_=>nO)
  |none=>λ_ _=>nO
 |.lenM=>λU vs=>a1 vs λx=>match x with
  |.map b=>match mapO (U.get b) with
   |some es=>noV (Nat.ble (I es) big) (sO (.i (Int.ofNat (I es))))
   |_=>nO
  |.nilmap=>sO (.i (Int.ofNat 0))
  |_=>nO
abbrev Nm:=Nat->Option Tok
def Nm.Sub(J J':Nm):Prop:=∀k t,J k=sO t->J' k=sO t
def Nm.Sub.refl(J:Nm):J.Sub J:=λ_ _ h=>h
def Nm.Sub.trans{a b c:Nm}(h:a.Sub b)(i:b.Sub c):a.Sub c:=λk t x=>i k t (h k t x)
mutual
inductive VR(J:Nm):V->D->Prop where
 |int (k:IntKind) (n:Int):VR J (.int k n) (.int k n)
 |bool (b:Bool):VR J (.bool b) (.bool b)
 |str (s:List Nat):VR J (.str s) (.str (s.map UInt8.ofNat))
 |agg (cs:List V) (ds:List D) (h:VRs J cs ds):VR J (.agg cs) (.agg ds)
 |tup (cs:List V) (ds:List D) (h:VRs J cs ds):VR J (.tup cs) (.tup ds)
 |nilsl:VR J .nilsl .nilsl
 |sl (t n s:Nat) (rs:List V) (τ:Tok) (row:Nat->List D) (h:VRr J s rs row) (hn:I rs=n) (ht:t=0\/J t=sO τ):VR J (.sl t n s rs) (.sl τ n s row)
 |ep (cs:List V) (o:Nat) (ds:List D) (h:VRs J cs ds):VR J (.ep cs o) (.ep ds o)
 |nilptr:VR J .nilptr .nilptr
 |ptr (k b o:Nat) (h:J k=sO (.tip b)):VR J (.ptr k o) (.ptr b o)
 |msl (k b o n cap s:Nat) (h:J k=sO (.tip b)):VR J (.msl k o n (sO cap) s) (.msl b o n cap s)
 |gsl (k b o n cap s c:Nat) (h:J k=sO (.tip b)) (h2:J (k+1)=sO (.tip c)) (hc:n<=cap) (hl:o+cap*s<=c):VR J (.msl k o n nO s) (.msl b o n cap s)
 |map (k b:Nat) (h:J k=sO (.tip b)):VR J (.map k) (.map b)
 |nilmap:VR J .nilmap .nilmap
 |fn (f:FuncId) (a c:List V) (da dc:List D) (ha:VRs J a da) (hc:VRs J c dc):VR J (.fn f a c) (.fn (.func f) da dc)
 |yield (k b:Nat) (h:J k=sO (.tip b)):VR J (.yield k) (.fn (.yield b) [] [])
 |nilfn:VR J .nilfn .nilfn
 |iface (t:TypeId) (v:V) (d:D) (h:VR J v d):VR J (.iface t v) (.iface t d)
 |niliface:VR J .niliface .niliface
 |stamp (k b:Nat) (h:J k=sO (.tip b)):VR J (.stamp k) (.stamp b)
inductive VRs(J:Nm):List V->List D->Prop where
 |nil:VRs J [] []
 |cons (v:V) (d:D) (vs:List V) (ds:List D) (h:VR J v d) (t:VRs J vs ds):VRs J (v::vs) (d::ds)
inductive VRr(J:Nm):Nat->List V->(Nat->List D)->Prop where
 |nil (s:Nat) (row:Nat->List D):VRr J s [] row
 |cons (s:Nat) (cs:List V) (rs:List V) (row:Nat->List D) (h:VRs J cs (row 0)) (hl:I cs=s) (t:VRr J s rs (λi=>row (i+1))):VRr J s (.agg cs::rs) row
end
mutual
def VR.mono{J J':Nm}(e:J.Sub J'):∀{v:V} {d:D},VR J v d->VR J' v d
 |_,_,.int k n=>.int k n
 |_,_,.bool b=>.bool b
 |_,_,.str s=>.str s
 |_,_,.agg cs ds h=>.agg cs ds (h.mono e)
 |_,_,.tup cs ds h=>.tup cs ds (h.mono e)
 |_,_,.nilsl=>.nilsl
 |_,_,.sl t n s rs τ row h hn ht=>.sl t n s rs τ row (h.mono e) hn (ht.imp id (e _ _))
 |_,_,.ep cs o ds h=>.ep cs o ds (h.mono e)
 |_,_,.nilptr=>.nilptr
 |_,_,.ptr k b o h=>.ptr k b o (e _ _ h)
 |_,_,.msl k b o n cap s h=>.msl k b o n cap s (e _ _ h)
 |_,_,.gsl k b o n cap s c h h2 hc hl=>.gsl k b o n cap s c (e _ _ h) (e _ _ h2) hc hl
 |_,_,.map k b h=>.map k b (e _ _ h)
 |_,_,.nilmap=>.nilmap
 |_,_,.fn f a c da dc ha hc=>.fn f a c da dc (ha.mono e) (hc.mono e)
 |_,_,.yield k b h=>.yield k b (e _ _ h)
 |_,_,.nilfn=>.nilfn
 |_,_,.iface t v d h=>.iface t v d (h.mono e)
 |_,_,.niliface=>.niliface
 |_,_,.stamp k b h=>.stamp k b (e _ _ h)
def VRs.mono{J J':Nm}(e:J.Sub J'):∀{v:List V} {d:List D},VRs J v d->VRs J' v d
 |_,_,.nil=>.nil
 |_,_,.cons v d vs ds h t=>.cons v d vs ds (h.mono e) (t.mono e)
def VRr.mono{J J':Nm}(e:J.Sub J'):∀{s:Nat} {v:List V} {r:Nat->List D},VRr J s v r->VRr J' s v r
 |_,_,_,.nil s row=>.nil s row
 |_,_,_,.cons s cs rs row h hl t=>.cons s cs rs row (h.mono e) hl (t.mono e)
end
section
variable {J:Nm}
def VRs.len:∀{vs ds},VRs J vs ds->I vs=I ds
 |_,_,.nil=>rfl
 |_,_,.cons _ _ _ _ _ t=>by simp[t.len]
def VRs.get:∀{vs ds},VRs J vs ds->∀{i:Nat} {v},vs[i]?=sO v->∃d,ds[i]?=sO d/\VR J v d
 |_,_,.nil,i,v,h=>by grind
 |_,_,.cons v d vs ds h t,0,v',h'=>by grind
 |_,_,.cons v d vs ds h t,i+1,v',h'=>by simp at h';simpa using t.get h'
def VRs.take:∀{vs ds},VRs J vs ds->∀n,VRs J (vs.take n) (ds.take n)
 |_,_,.nil,n=>by simp;exact .nil
 |_,_,.cons v d vs ds h t,0=>.nil
 |_,_,.cons v d vs ds h t,n+1=>.cons _ _ _ _ h (t.take n)
def VRs.drop:∀{vs ds},VRs J vs ds->∀n,VRs J (vs.drop n) (ds.drop n)
 |_,_,.nil,n=>by simp;exact .nil
 |_,_,.cons v d vs ds h t,0=>.cons _ _ _ _ h t
 |_,_,.cons v d vs ds h t,n+1=>t.drop n
def VRs.append:∀{vs vs' ds ds'},VRs J vs ds->VRs J vs' ds'->VRs J (vs++vs') (ds++ds')
 |_,_,_,_,.nil,h=>h
 |_,_,_,_,.cons v d vs ds h t,h'=>.cons _ _ _ _ h (t.append h')
def VRs.one{v d}(h:VR J v d):VRs J [v] [d]:=.cons _ _ _ _ h .nil
def VRs.inv{v vs ds}(h:VRs J (v::vs) ds):∃d ds',ds=d::ds'/\VR J v d/\VRs J vs ds':=by
 cases h with
 |cons _ d _ ds h t=>exact⟨d,ds,rfl,h,t⟩
def VRs.inv0{ds}(h:VRs J [] ds):ds=[]:=by cases h;rfl
def VRs.inv1{v ds}(h:VRs J [v] ds):∃d,ds=[d]/\VR J v d:=by
 obtain⟨d,ds',rfl,h1,i⟩:=h.inv;obtain rfl:=i.inv0;grind
def VRs.inv2{v j ds}(h:VRs J [v,j] ds):∃d i,ds=[d,i]/\VR J v d/\VR J j i:=by
 obtain⟨d,ds',rfl,h1,n⟩:=h.inv;obtain⟨i,rfl,h'⟩:=n.inv1;grind
def VRs.partv{vs r ds}(h:VRs J vs ds){o n}(i:Zr5 o n vs=sO r):o+n<=I ds/\VRs J r (part ds o n):=by
 obtain⟨j,rfl⟩:=ZAi i;exact⟨by rw[<-h.len];exact j,(h.drop o).take n⟩
def VRs.over{vs xs r ds i}(h:VRs J vs ds)(j:VRs J xs i){o n}(u:ZkA o n xs vs=sO r):I xs=n/\o+n<=I ds/\VRs J r (Zq ds o i):=by
 obtain⟨t,z,rfl⟩:=Zp8 u;refine⟨t,by rw[<-h.len];exact z,?_⟩;unfold Zq;have e:I i=n:=by rw[<-j.len,t]
 rw[e];exact((h.take o).append j).append (h.drop _)
def VRr.inv{s v rs row}(h:VRr J s (v::rs) row):∃cs,v=.agg cs/\VRs J cs (row 0)/\I cs=s/\VRr J s rs (λi=>row (i+1)):=by
 cases h with
 |cons s cs rs row h hl t=>exact⟨cs,rfl,h,hl,t⟩
def VRr.get{s}:∀{rs row},VRr J s rs row->∀{i v},rs[i]?=sO v->∃j,v=.agg j/\VRs J j (row i)/\I j=s
 | [],row,h,i,v,hv=>by grind
 |r::rs,row,h,0,v,hv=>by obtain⟨j,rfl,u,n,_⟩:=h.inv;grind
 |r::rs,row,h,i+1,v,hv=>by obtain⟨j,rfl,u,n,t⟩:=h.inv;exact t.get (by grind)
def VRr.congr{s}:∀{rs row row'},VRr J s rs row->(∀i,i<I rs->row' i=row i)->VRr J s rs row'
 | [],row,row',h,e=>.nil s row'
 |r::rs,row,row',h,e=>by obtain⟨t,rfl,h1,j,n⟩:=h.inv;exact .cons s t rs row' (by grind) j (n.congr λi hi=>e (i+1) (by grind))
def VRr.drop{s}:∀{rs row},VRr J s rs row->∀k,VRr J s (rs.drop k) (λi=>row (k+i))
 |rs,row,h,0=>by grind
 | [],row,h,k+1=>by simp;exact .nil s _
 |r::rs,row,h,k+1=>by obtain⟨cs,rfl,h1,h2,j⟩:=h.inv;have:=j.drop k;grind
def VRr.take{s}:∀{rs row},VRr J s rs row->∀k,VRr J s (rs.take k) row
 |rs,row,h,0=>by simp;exact .nil s _
 | [],row,h,k+1=>by grind
 |r::rs,row,h,k+1=>by obtain⟨j,rfl,t,i,n⟩:=h.inv;exact .cons s j _ row t i (n.take k)
def VRr.append{s}:∀{rs j row row'},VRr J s rs row->VRr J s j row'->VRr J s (rs++j) (YA (I rs) row row')
 | [],j,row,row',h,h'=>h'.congr λi _=>by simp[YA]
 |r::rs,j,row,row',h,h'=>by obtain⟨z,rfl,u,n,t⟩:=h.inv;refine .cons s z _ _ (by simpa[YA]using u) n ((t.append h').congr λi _=>?_);grind [YA]
def VRr.bytes:∀{rs row l},VRr J 1 rs row->ZsE rs=sO l->(∀i,i<I rs->Zis (row i))/\l.map UInt8.ofNat=(ZHT (I rs)).map λi=>Zbx (row i)
 | [],row,l,h,hb=>by cases hb;simp
 |r::rs,row,l,h,hb=>by
  obtain⟨cs,rfl,j,t,z⟩:=h.inv
  match cs,j,t,hb with
  | [.int .u8 n],j,t,hb =>
   obtain⟨q,hq,rfl⟩:=K8 hb;obtain⟨i1,i2⟩:=z.bytes hq;obtain⟨d,u,hv⟩:=j.inv1;cases hv;refine⟨λi hi=>?_,?_⟩
   .cases i with
    |zero=>exact⟨n,u⟩
    |succ i=>exact i1 i (by grind)
   simp only[ZHY,ZHW,List.range_succ_eq_map,List.map_map,i2];refine _root_.congr (congrArg _ ?_) rfl;rw[u];rfl
def VRs.bytes:∀{vs ds l},VRs J vs ds->ZnE vs=sO l->(∀i,i<I vs->Zis (part ds i 1))/\l.map UInt8.ofNat=(ZHT (I vs)).map λi=>Zbx (part ds i 1)
 | [],ds,l,h,hb=>by cases hb;simp
 |v::vs,ds,l,h,hb=>by
  obtain⟨d,ds',rfl,j,t⟩:=h.inv
  match v,j,hb with
  |.int .u8 n,j,hb =>
   obtain⟨q,u,rfl⟩:=K8 hb;obtain⟨i1,z⟩:=t.bytes u;cases j;refine⟨λi hi=>?_,?_⟩
   .cases i with
    |zero=>exact⟨n,by simp[part]⟩
    |succ i=>simpa[part]using i1 i (by grind)
   simp only[ZHY,ZHW,List.range_succ_eq_map,List.map_map,z];refine _root_.congr (congrArg _ ?_) ?_;simp[part,Zbx];apply List.map_congr_left;intro i _;simp[part]
def Zmj(s:List UInt8):(s.map UInt8.toNat).map UInt8.ofNat=s:=by
 rw[List.map_map];conv=>rhs;rw[<-List.map_id s]
 congr 1
 funext x;simp
mutual
def ZhE:∀{d:D} {v:V},ofD d=sO v->VR J v d
 |.int k n,v,h=>by cases h;exact .int k n
 |.bool b,v,h=>by cases h;exact .bool b
 |.str s,v,h=>by
  cases h;have:=VR.str (J:=J) (s.map UInt8.toNat)
  rwa [Zmj]at this
 |.agg cs,v,h=>by simp[ofD]at h;obtain⟨vs,h1,rfl⟩:=h;exact .agg _ _ (ofDs_ok h1)
 |.nilsl,v,h=>by cases h;exact .nilsl
 |.nilptr,v,h=>by cases h;exact .nilptr
 |.nilmap,v,h=>by cases h;exact .nilmap
 |.fn (.func f) [] [],v,h=>by cases h;exact .fn f [] [] [] [] .nil .nil
 |.nilfn,v,h=>by cases h;exact .nilfn
 |.niliface,v,h=>by cases h;exact .niliface
 |.ep cs o,v,h=>by simp[ofD]at h;obtain⟨vs,h1,rfl⟩:=h;exact .ep _ _ _ (ofDs_ok h1)
 |.fn (.func f) (_::_) _,v,h=>by cases h
 |.fn (.func f) [] (_::_),v,h=>by cases h
 |.tup _,v,h|.sl _ _ _ _,v,h|.ptr _ _,v,h|.msl _ _ _ _ _,v,h|.map _,v,h|.fn (.yield _) _ _,v,h|.iface _ _,v,h|.stamp _,v,h|.undef,v,h|.any,v,h=>by cases h
 |.fn (.method ..) _ _,v,h|.fn (.methodOf ..) _ _,v,h|.fn (.via ..) _ _,v,h=>by cases h
def ofDs_ok:∀{ds:List D} {vs:List V},ofDs ds=sO vs->VRs J vs ds
 | [],vs,h=>by cases h;exact .nil
 |d::r,vs,h=>by simp[ofDs]at h;split at h<;>simp at h;rename_i v vs' h1 h2;subst h;exact .cons _ _ _ _ (ZhE h1) (ofDs_ok h2)
end
end
def Zps:List Nat:=ZHT 32768
def ZDg(P:Program)(N id:Nat)(ops:Array Oper):Ann :=
 match JV P N ops (ZHT ops.size) with
 |some l =>
  let ds:=ops.toList.map Zaf
  match ZtE (l.zip ds) (Zgu ds []) ops.size (ZHT ops.size) []with
  | (od,fl,fk)=>(id+1000000,od)::(id,Zps)::(fl.map (λx=>(id+1000000*(x.1+4),x.2))++(match fk with
   | []=>[]
   |_::_=>[(id+3000000,fk)]))
 |none=>[]
def ZgM(P:Program)(N:Nat):Code->Ann
 |.region id ops true=>ZDg P N id ops
 |.seq a b=>ZgM P N a++ZgM P N b
 |.cond _ a b=>ZgM P N a++ZgM P N b
 |.block _ a=>ZgM P N a
 |.loop a=>ZgM P N a
 |.scope a=>ZgM P N a
 |.rangeFunc _ _ a b=>ZgM P N a++ZgM P N b
 |_=>[]
def ZDf(P:Program)(f:FuncId):Ann :=
 match P.funcs[f]? with
 |some fn=>match fn.body with
  |some c=>ZgM P fn.ntmps c
  |none=>[]
 |none=>[]
structure Cx where
 P:Program
 lib:FuncId->Option (S->List V->Option V)
 mu:FuncId->Option Nat->Bool
def Cx.an(C:Cx)(f:FuncId):Ann:=ZDf C.P f
def Cx.df(C:Cx)(f:FuncId):Option DF:=cf C.P (C.an f) f
inductive Dd where
 |mark (q:Nat)
 |fn (i:FuncId) (args caps:List V)
inductive Fk where
 |fn (res:List RV)
 |rnd (l:Nat)
 |dfd (pd:Option V) (rec:Bool)
structure Fm where
 f:FuncId
 n:Nat
 k:Fk
 ds:List Dd
structure Out where
 pan:Bool
 v:V
 U:S
 nx:Nat
abbrev Ih:=Fm->List KH->T W->S->Nat->Option Out
def wV:Option W->Option V
 |some w=>match w with
  |.v x=>sO x
  |_=>nO
 |none=>nO
def Y7:Opd->Bx (T W->Option V)
 |.cst d=>match ofD d with
  |some v=>⟨λ_=>sO v⟩
  |none=>⟨λ_=>nO⟩
 |.tmp t=>⟨λH=>wV ((T.getF t).run H)⟩
def ZcW:List Opd->Bx (T W->Option (List V))
 | []=>⟨λ_=>sO []⟩
 |x::xs=>⟨λH=>match (Y7 x).run H with
  |some v=>match (ZcW xs).run H with
   |some vs=>sO (v::vs)
   |none=>nO
  |none=>nO⟩
def ZjN:Option (Nat×Bool)->Bx (T W->Option Bool)
 |none=>⟨λ_=>sO true⟩
 |some (t,want)=>⟨λH=>match (T.getF t).run H with
  |some w=>match w with
   |.v x=>match x with
    |.bool b=>sO (ZbO b want)
    |_=>nO
   |.skip=>sO false
   |_=>nO
  |none=>nO⟩
def Zdb:Option Nat->Bx (T W->W->T W)
 |some t=>⟨λH w=>(T.setF t).run (sO w) H⟩
 |none=>⟨λH _=>H⟩
def ZjZ:Opd->Bx (T W->Bool)
 |.cst d=>match d with
  |.bool _=>⟨λ_=>true⟩
  |_=>⟨λ_=>false⟩
 |.tmp t=>⟨λH=>match (T.getF t).run H with
  |some w=>match w with
   |.v x=>match x with
    |.bool _=>true
    |_=>false
   |.skip=>true
   |_=>false
  |none=>false⟩
def Zoa:Nat->List V->T W->T W
 |_,[],H=>H
 |i,v::vs,H=>Zoa (i+1) vs (H.set (sO (.v v)) i)
def ZfO:List Nat->List V->T W->T W
 |t::ts,a::as9,H=>ZfO ts as9 (H.set (sO (.v a)) t)
 |_,_,H=>H
def ZgZ(zero:List V)(ps:List (Nat×V))(i:Nat):List V :=
 match ps with
 | []=>zero
 | (k,d)::r=>if Nat.beq k i then Zgb d else ZgZ zero r i
def Zln(zero:List V)(ps:List (Nat×V)):Nat->Nat->List V
 |0,_=>[]
 |n+1,i=>.agg (ZgZ zero ps i)::Zln zero ps n (i+1)
def ZfL(s:Nat):List V->Bool
 | []=>true
 |d::r=>Zpf d&&Nat.beq (Zgb d).length s&&ZfL s r
def Zh2(z:List V):Nat->List V
 |0=>[]
 |n+1=>z++Zh2 z n
def u8V(l:List Nat):List V:=l.map λm=>.agg [.int .u8 (Int.ofNat (m % 256))]
def ZAF(U:S)(s:Nat):V->Option (Nat×List V)
 |.nilsl=>sO (0,[])
 |.sl _ m s' rs=>noV (Nat.beq s' s) (sO (m,rs))
 |.str l=>noV (Nat.beq s 1) (sO (I l,u8V l))
 |.msl b o n _ s'=>match Zbs (U.get b) with
  |some cs=>noV (Nat.beq s' s&&Nat.ble (o+n*s) (I cs)) (match Zxg s n (Zb9 o cs) with
   |some rs=>sO (n,rs)
   |none=>nO)
  |none=>nO
 |_=>nO
def Zqh(U:S)(t k:Nat):Option S :=
 if Nat.beq t 1 then sO U else match U.get t with
  |some (.tok m)=>noV (Nat.beq m k) (sO (U.set nO t))
  |_=>nO
def ZhW(U:S)(a:V)(n:Nat)(xs:List V):Option S :=
 match a with
 |.ptr b o=>match U.get b with
  |some (.cells cs)=>match ZkA o n xs cs with
   |some cs'=>sO (U.set (sO (.cells cs')) b)
   |none=>nO
  |some (.buf cs)=>match ZkA o n xs cs with
   |some cs'=>sO (U.set (sO (.buf cs')) b)
   |none=>nO
  |_=>nO
 |_=>nO
structure R3 where
 v:V
 U:S
 nx:Nat
def Zjv(s:Nat)(U:S)(nx m:Nat)(cs:List V):Option R3:=sO ⟨.msl nx 0 m nO s,U.set (sO (.buf cs)) nx,nx+2⟩
def Zsy(s bytes:Nat)(U:S)(nx m:Nat)(rs:List V):Option R3 :=
 noV (Nat.ble (m*bytes) 140737488355328&&Nat.ble m big) <|match Zn1 s m rs with
  |some cs=>Zjv s U nx m cs
  |none=>nO
def Zsz(s bytes:Nat)(U:S)(nx t n m:Nat)(rs rs2:List V):Option R3 :=
 noV (Nat.ble ((n+m)*bytes) 140737488355328&&Nat.ble (n+m) big) <|match Zqh U t (n*s) with
  |some U'=>sO ⟨.sl nx (n+m) s (Zpv n rs rs2),U'.set (sO (.tok ((n+m)*s))) nx,nx+1⟩
  |none=>nO
def Zzt(mu:Bool)(s bytes:Nat)(U:S)(nx:Nat)(x:V)(m:Nat)(rs2:List V):Option R3 :=
 match x with
 |.nilsl=>if mu&&Nat.ble 1 m then Zsy s bytes U nx m rs2 else Zsz s bytes U nx 1 0 m [] rs2
 |.sl t n s' rs=>noV (Nat.beq s' s) <|if mu&&Nat.ble 1 m&&Nat.beq t 1&&Nat.beq n 0 then Zsy s bytes U nx m rs2 else Zsz s bytes U nx t n m rs rs2
 |.msl b o n cap s'=>noV (Nat.beq s' s&&Nat.ble ((n+m)*bytes) 140737488355328&&Nat.ble (n+m) big) <|match Zn1 s m rs2 with
  |some cs2=>match cap with
   |none=>match U.get b with
    |some (.buf cs)=>noV (Nat.beq o 0) <|match ZbL (n*s) cs with
     |some c1=>Zjv s (U.set nO b) nx (n+m) (Zpv (n*s) c1 cs2)
     |none=>nO
    |_=>nO
   |some cap=>match U.get b with
    |some (.cells cs)=>if Nat.ble (n+m) cap then noV (Nat.beq o 0) <|match ZkA (n*s) (m*s) cs2 cs with
      |some cs'=>sO ⟨.msl b 0 (n+m) (sO cap) s,U.set (sO (.cells cs')) b,nx⟩
      |none=>nO
     else noV (Nat.ble (o+n*s) (I cs)) <|match ZbL (n*s) (Zb9 o cs) with
      |some c1=>Zjv s U nx (n+m) (Zpv (n*s) c1 cs2)
      |none=>nO
    |_=>nO
  |none=>nO
 |_=>nO
def gk:K->Bool
 |.q _ _=>true
 |.pick _ _ _=>true
 |.bsl _ _ _ _ _=>true
 |.s2b _=>true
 |.append ..=>true
 |.clear ..=>true
 |_=>false
def mp2(x:Option V)(f:V->Option R3):Option R3:=match x with
 |some v=>f v
 |none=>nO
def up(x:Option S)(v:V)(nx:Nat):Option R3:=match x with
 |some U=>sO ⟨v,U,nx⟩
 |none=>nO
def ZCY:K->Bool
 |.store1 _ _=>true
 |.storeN _ _ _=>true
 |.mkmap=>true
 |_=>false
def opF(mu dst:Bool):K->Bx (T W->S->Nat->Option R3)
 |.q q xs=>⟨λH U nx=>match (ZcW xs).run H with
  |some vs=>match (Bx.mk (qV q)).run U vs with
   |some v=>sO ⟨v,U,nx⟩
   |none=>nO
  |none=>nO⟩
 |.pick c a b=>⟨λH U nx=>mp2 ((Y7 c).run H) λx=>match x with
  |.bool v=>match v with
   |true=>noV ((ZjZ b).run H) (mp2 ((Y7 a).run H) λy=>match y with
    |.bool y=>sO ⟨.bool y,U,nx⟩
    |_=>nO)
   |false=>noV ((ZjZ a).run H) (mp2 ((Y7 b).run H) λy=>match y with
    |.bool y=>sO ⟨.bool y,U,nx⟩
    |_=>nO)
  |_=>nO⟩
 |.alloc z=>match ofDs z with
  |some z=>⟨λ_ U nx=>noV dst (sO ⟨.ptr nx 0,U.set (sO (.cells z)) nx,nx+1⟩)⟩
  |none=>⟨λ_ _ _=>nO⟩
 |.box x=>⟨λH U nx=>noV dst (mp2 ((Y7 x).run H) λv=>noV (Zpf v) (sO ⟨.ptr nx 0,U.set (sO (.cells (Zgb v))) nx,nx+1⟩))⟩
 |.bsl len n z is xs=>match ofDs z with
  |some z=>⟨λH U nx=>match (ZcW xs).run H with
   |some vs=>noV (ZfL n vs&&Nat.beq (I z) n) (if mu&&dst&&Nat.ble 1 len then match Zn1 n len (Zln z (is.zip vs) len 0) with
     |some cs=>sO ⟨.msl nx 0 len (sO len) n,U.set (sO (.cells cs)) nx,nx+1⟩
     |none=>nO
    else sO ⟨.sl 1 len n (Zln z (is.zip vs) len 0),U,nx⟩)
   |none=>nO⟩
  |none=>⟨λ_ _ _=>nO⟩
 |.s2b x=>⟨λH U nx=>mp2 ((Y7 x).run H) λv=>match v with
  |.str l=>sO ⟨.sl 0 (I l) 1 (u8V l),U,nx⟩
  |_=>nO⟩
 |.store1 a v=>⟨λH U nx=>noV (!dst) (mp2 ((Y7 a).run H) λa=>mp2 ((Y7 v).run H) λx=>noV (Zxy x) (up (ZhW U a 1 [x]) .nilsl nx))⟩
 |.storeN n a v=>⟨λH U nx=>noV (!dst) (mp2 ((Y7 a).run H) λa=>mp2 ((Y7 v).run H) λx=>match x with
  |.agg xs=>up (ZhW U a n xs) .nilsl nx
  |_=>nO)⟩
 |.mkmap=>⟨λ_ U nx=>noV dst (sO ⟨.map nx,U.set (sO (.map [])) nx,nx+1⟩)⟩
 |.mkslice _ n bytes z l h=>match ofDs z with
  |some z=>⟨λH U nx=>noV dst (mp2 ((Y7 l).run H) λl=>mp2 ((Y7 h).run H) λh=>match l with
   |.int _ l=>match h with
    |.int _ h=>noV (leI 0 l&&leI l h&&leI (Int.mul bytes h) 140737488355328&&leI h big) (sO ⟨.msl nx 0 l.toNat (sO h.toNat) n,U.set (sO (.cells (Zh2 z h.toNat))) nx,nx+1⟩)
    |_=>nO
   |_=>nO)⟩
  |none=>⟨λ_ _ _=>nO⟩
 |.mapupd kp m k v=>⟨λH U nx=>noV (!dst) (mp2 ((Y7 m).run H) λm=>mp2 ((Y7 k).run H) λk=>mp2 ((Y7 v).run H) λv=>match m with
  |.map b=>match U.get b with
   |some (.map es)=>noV (ZeK kp k k).isSome (match Zqi kp k v es with
    |some es'=>sO ⟨.nilsl,U.set (sO (.map es')) b,nx⟩
    |none=>nO)
   |_=>nO
  |_=>nO)⟩
 |.delete kp m k=>⟨λH U nx=>noV (!dst) (mp2 ((Y7 m).run H) λm=>mp2 ((Y7 k).run H) λk=>match m with
  |.map b=>match U.get b with
   |some (.map es)=>noV (ZeK kp k k).isSome (match ZsX kp k es with
    |some es'=>sO ⟨.nilsl,U.set (sO (.map es')) b,nx⟩
    |none=>nO)
   |_=>nO
  |_=>nO)⟩
 |.mapent kp z m k=>match ofD z with
  |some z=>⟨λH U nx=>noV dst (mp2 ((Y7 m).run H) λm=>mp2 ((Y7 k).run H) λk=>match m with
   |.map b=>match U.get b with
    |some (.map es)=>noV (ZeK kp k k).isSome (match Zs5 kp k z es with
     |some v=>sO ⟨.tup [v,.stamp nx],U.set (sO (.mapE kp es k nx)) b,nx+1⟩
     |none=>nO)
    |_=>nO
   |_=>nO)⟩
  |none=>⟨λ_ _ _=>nO⟩
 |.entst m st v=>⟨λH U nx=>noV (!dst) (mp2 ((Y7 m).run H) λm=>mp2 ((Y7 st).run H) λst=>mp2 ((Y7 v).run H) λv=>match m with
  |.map b=>match st with
   |.stamp n=>match U.get b with
    |some (.mapE kp es k n')=>noV (Nat.beq n n') (match Zqi kp k v es with
     |some es'=>sO ⟨.nilsl,U.set (sO (.map es')) b,nx⟩
     |none=>nO)
    |_=>nO
   |_=>nO
  |_=>nO)⟩
 |.clear s z x=>match ofDs z with
  |some z=>⟨λH U nx=>mp2 ((Y7 x).run H) λx=>match x with
   |.msl b o n _ s'=>noV (Nat.beq s' s) (up (ZhW U (.ptr b o) (n*s) (Zh2 z n)) (.tup []) nx)
   |_=>nO⟩
  |none=>⟨λ_ _ _=>nO⟩
 |.fork k=>match ZCY k with
  |true=>opF mu dst k
  |false=>⟨λ_ _ _=>nO⟩
 |.append _ s bytes _ x y=>⟨λH U nx=>mp2 ((Y7 x).run H) λx=>mp2 ((Y7 y).run H) λy=>match ZAF U s y with
  |some (m,rs2)=>Zzt mu s bytes U nx x m rs2
  |none=>nO⟩
 |_=>⟨λ_ _ _=>nO⟩
def rvV(H:T W)(U:S):RV->Option V
 |.tmp t=>(Y7 (.tmp t)).run H
 |.cell1 t=>match (Y7 (.tmp t)).run H with
  |some a=>qV .load1 U [a]
  |none=>nO
 |.cellN t n=>match (Y7 (.tmp t)).run H with
  |some a=>qV (.loadN n) U [a]
  |none=>nO
def Zt8(H:T W)(U:S):List RV->Option (List V)
 | []=>sO []
 |r::rs=>match rvV H U r with
  |some v=>match Zt8 H U rs with
   |some vs=>sO (v::vs)
   |none=>nO
  |none=>nO
def mkV:List V->V
 | [v]=>v
 |vs=>.tup vs
def ZrX(C:Cx)(f:FuncId):Bx (Ih->List V->S->Nat->Option Out) :=
 match C.df f with
 |some df=>⟨λih args U nx=>ih ⟨f,df.n,.fn df.res,[]⟩ [.code df.body] (Zoa 0 args T.nil) U nx⟩
 |none=>⟨λ_ _ _ _=>nO⟩
def Zh9(C:Cx)(f:FuncId):Bx (Ih->List V->S->Nat->Option Out) :=
 match C.lib f with
 |some g=>⟨λih args U nx=>match g U args with
  |some v=>sO ⟨false,v,U,nx⟩
  |none=>(ZrX C f).run ih args U nx⟩
 |none=>ZrX C f
def ZnF(C:Cx)(ih:Ih)(f:V)(args:List V)(U:S)(nx:Nat):Option Out :=
 match f with
 |.fn f first caps=>(Zh9 C f).run ih (first++(args++caps)) U nx
 |.yield l=>match U.get l with
  |some (.loop f n ps a b H nO false)=>noV (Nat.beq (I args) (I ps)) (ih ⟨f,n,.rnd l,[]⟩ [.code a,.beginR,.code b] (ZfO ps args H) U nx)
  |_=>nO
 |_=>nO
def Zxe:V->Bool
 |.int k n=>ZwE k n
 |.bool _=>true
 |.str l=>Nat.ble (I l) big
 |.nilsl=>true
 |.nilptr=>true
 |.ptr _ _=>true
 |.map _=>true
 |.nilmap=>true
 |.nilfn=>true
 |.niliface=>true
 |_=>false
def ZlB:List V->Bool
 | []=>true
 |v::r=>Zxe v&&ZlB r
def Zxd:Option V->Bool
 |some x=>match x with
  |.iface _ v=>match v with
   |.agg cs=>ZlB cs
   |v=>Zxe v
  |_=>false
 |none=>true
def Znj(C:Cx)(ih:Ih):List Dd->Option V->S->Nat->Option (Option V×S×Nat)
 | [],m,U,nx=>sO (m,U,nx)
 |.mark q::r,m,U,nx=>match U.get q with
  |some .dfr=>Znj C ih r m (U.set nO q) nx
  |_=>nO
 |.fn i args caps::r,m,U,nx=>match C.df i with
  |some ⟨n,[],body⟩=>noV (Zxd m) <|match ih ⟨i,n,.dfd m false,[]⟩ [.code body] (Zoa 0 (args++caps) T.nil) U nx with
   |some ⟨false,.bool b,U',nx'⟩=>Znj C ih r (if b then nO else m) U' nx'
   |_=>nO
  |_=>nO
def loopTo(U:S)(l:Nat)(st:Option DC)(now busy:Bool):Option S :=
 match U.get l with
 |some (.loop f n ps a b H nO bs)=>noV (bs==now) (sO (U.set (sO (.loop f n ps a b H st busy)) l))
 |_=>nO
def Zxc(C:Cx)(ih:Ih)(fm:Fm)(H:T W)(U:S)(nx:Nat)(fell:Bool):Option Out :=
 match fm.k with
 |.fn res=>match Znj C ih fm.ds nO U nx with
  |some (nO,U',nx')=>match Zt8 H U' res with
   |some vs=>sO ⟨false,mkV vs,U',nx'⟩
   |none=>nO
  |_=>nO
 |.rnd l=>match loopTo U l (if fell then nO else sO .ret) true false with
  |some U'=>sO ⟨false,.bool fell,U',nx⟩
  |none=>nO
 |.dfd pd rec=>match fm.ds with
  | []=>sO ⟨false,.bool (pd.isNone ||rec),U,nx⟩
  |_=>nO
def Zm6(C:Cx)(ih:Ih)(fm:Fm)(H:T W)(v:V)(U:S)(nx:Nat):Option Out :=
 match fm.k with
 |.fn res=>match Znj C ih fm.ds (sO v) U nx with
  |some (nO,U',nx')=>match Zt8 H U' res with
   |some vs=>sO ⟨false,mkV vs,U',nx'⟩
   |none=>nO
  |some (sO v,U',nx')=>sO ⟨true,v,U',nx'⟩
  |none=>nO
 |.rnd _=>match C.P.funcs[fm.f]? with
  |some _=>sO ⟨true,v,U,nx⟩
  |none=>nO
 |.dfd _ _=>nO
abbrev Rg:=Ih->List KH->Fm->T W->S->Nat->Option Out
def goF(C:Cx)(f:FuncId)(rest:Bx Rg)(dst:Option Nat)(g:Option (Nat×Bool))(k:K):Bx Rg :=
 match k with
 |.call fx xs=>⟨λih dk fm H U nx=>match (Y7 fx).run H with
  |some fv=>match (ZcW xs).run H with
   |some vs=>match ZnF C ih fv vs U nx with
    |some ⟨pan,v,U',nx'⟩=>match pan with
     |false=>rest.run ih dk fm ((Zdb dst).run H (.v v)) U' nx'
     |true=>Zm6 C ih fm H v U' nx'
    |none=>nO
   |none=>nO
  |none=>nO⟩
 |.panic x=>⟨λih _ fm H U nx=>match (Y7 x).run H with
  |some (.iface t v)=>Zm6 C ih fm H (.iface t v) U nx
  |_=>nO⟩
 |.defer fx xs=>match g,dst with
  |none,nO=>⟨λih dk fm H U nx=>match (Y7 fx).run H,(ZcW xs).run H with
   |some (.fn j first caps),sO vs=>match fm.k with
    |.fn _=>noV (ZlB (first++vs)&&ZlB caps) (rest.run ih dk { fm with ds:=.fn j (first++vs) caps::fm.ds } H U nx)
    |_=>nO
   |_,_=>nO⟩
  |_,_=>⟨λ_ _ _ _ _ _=>nO⟩
 |.recover=>match g with
  |none=>⟨λih dk fm H U nx=>match fm.k with
   |.dfd (sO v) false=>rest.run ih dk { fm with k:=.dfd (sO v) true } ((Zdb dst).run H (.v v)) U nx
   |.dfd nO _=>rest.run ih dk fm ((Zdb dst).run H (.v .niliface)) U nx
   |_=>nO⟩
  |_=>⟨λ_ _ _ _ _ _=>nO⟩
 |k=>match gk k ||g.isNone with
  |true=>⟨λih dk fm H U nx=>match (opF (C.mu f dst) dst.isSome k).run H U nx with
   |some ⟨v,U',nx'⟩=>rest.run ih dk fm ((Zdb dst).run H (.v v)) U' nx'
   |none=>nO⟩
  |false=>⟨λ_ _ _ _ _ _=>nO⟩
def Zp2(C:Cx)(f:FuncId):List DOp->Bx Rg
 | []=>⟨λih dk fm H U nx=>ih fm dk H U nx⟩
 |⟨dst,g,k⟩::os=>match g with
  |none=>goF C f (Zp2 C f os) dst g k
  |some _=>⟨λih dk fm H U nx=>match (ZjN g).run H with
   |some b=>match b with
    |true=>(goF C f (Zp2 C f os) dst g k).run ih dk fm H U nx
    |false=>(Zp2 C f os).run ih dk fm ((Zdb dst).run H .skip) U nx
   |none=>nO⟩
def ZjX:K->Bool
 |.fork _=>false
 |_=>true
structure Rl where
 cs:List (Nat×List V)
 ad:List (Nat×Nat×Nat)
 bn:List (Nat×Nat)
 bl:List (Nat×Nat)
def Rl.nil:Rl:=⟨[],[],[],[]⟩
def ZjJ(u:Nat):List (Nat×Nat×Nat)->Option (Nat×Nat)
 | []=>nO
 | (t,a)::r=>if Nat.beq t u then sO a else ZjJ u r
def KT(l:Nat):List (Nat×List V)->Option (List V)
 | []=>nO
 | (t,c)::r=>if Nat.beq t l then sO c else KT l r
def Zkz(l:Nat)(vs:List V):List (Nat×List V)->List (Nat×List V)
 | []=>[]
 | (t,c)::r=>if Nat.beq t l then (t,vs)::r else (t,c)::Zkz l vs r
def Zg0(n:Nat):List Nat->Bool
 | []=>false
 |a::r=>if Nat.beq a n then true else Zg0 n r
def Zzr(n:Nat)(l:List Nat):List Nat:=if Zg0 n l then l else n::l
def Znc(fl:List Nat):List (Nat×Nat)->List Nat
 | []=>[]
 | (t,n)::r=>if Zg0 t fl then Zzr n (Znc fl r) else Znc fl r
def Zgp(fl:List Nat):List (Nat×Nat)->List (Nat×Nat)
 | []=>[]
 | (t,n)::r=>if Zg0 t fl then (t,n)::Zgp fl r else Zgp fl r
def noA(u:Nat)(r:Rl):Bool:=match ZjJ u r.ad with
 |none=>Nat.blt u 32768
 |some _=>false
def Ze8(dst:Option Nat)(r:Rl):Bool:=match dst with
 |none=>true
 |some t=>noA t r
def ZwT(t:Nat)(r:Rl):Bool:=(match KT t r.cs with
 |none=>true
 |some _=>false)&&noA t r
def Zlq(fl:List Nat)(r:Rl):Rl:=match fl with
 | []=>⟨r.cs,r.ad,[],[]⟩
 |fl=>⟨r.cs,r.ad,Zgp fl r.bn,Zgp fl r.bl⟩
def Zki:O->Bool
 |.cells _=>true
 |.buf _=>true
 |.map _=>true
 |_=>false
def Zj1:List Nat->S->Option (S×List (Nat×O))
 | [],U=>sO (U,[])
 |k::r,U=>match U.get k with
  |some o=>match Zki o with
   |true=>match Zj1 r (U.set (sO (.ro o)) k) with
    |some (U',l)=>sO (U',(k,o)::l)
    |none=>nO
   |false=>match Zco o with
    |true=>Zj1 r U
    |false=>nO
  |none=>nO
def Zlc:List (Nat×O)->S->Option S
 | [],U=>sO U
 | (k,o)::r,U=>match U.get k with
  |some (.ro _)=>match Zlc r U with
   |some U'=>sO (U'.set (sO o) k)
   |none=>nO
  |_=>nO
def ZAf(fl:List Nat)(r:Rl)(U:S):Option (S×List (Nat×O)):=match fl with
 | []=>sO (U,[])
 |fl=>Zj1 (Znc fl r.bn) U
def Zsr:Opd->Rl->Option (Nat×Nat)
 |.tmp t,r=>ZjJ t r.ad
 |.cst _,_=>nO
def ZAO(t:Nat)(v:V)(r:Rl):Rl:=match v with
 |.ptr k _=>⟨r.cs,r.ad,(t,k)::r.bn,r.bl⟩
 |.msl k _ _ _ _=>⟨r.cs,r.ad,(t,k)::r.bn,r.bl⟩
 |.map k=>⟨r.cs,r.ad,(t,k)::r.bn,r.bl⟩
 |_=>r
def rdR(t:Nat)(k:K):Bx (T W->Rl->Rl):=match k with
 |.q q xs=>match Wb (.q q xs) with
  |true=>match xs with
   |x::_=>⟨λH r=>match (Y7 x).run H with
    |some v=>ZAO t v r
    |none=>r⟩
   | []=>⟨λ_ r=>r⟩
  |false=>⟨λ_ r=>r⟩
 |_=>⟨λ_ r=>r⟩
abbrev RgD:=Rl->Rg
def Zj6(rest:Bx RgD)(dst:Option Nat)(k:K):Bx RgD :=
 ⟨λr ih dk fm H U nx=>match (opF false dst.isSome k).run H U nx with
  |some ⟨v,_,_⟩=>noV (Ze8 dst r) (rest.run ((rdR (dst.getD 0) k).run H r) ih dk fm ((Zdb dst).run H (.v v)) U nx)
  |none=>nO⟩
def Zs1(C:Cx)(f:FuncId)(rest:Bx RgD)(dst:Option Nat)(g:Option (Nat×Bool))(fl:List Nat)(k:K):Bx RgD :=
 match gk k ||g.isNone with
 |true=>⟨λr ih dk fm H U nx=>match ZAf fl r U with
  |some (σ0,l)=>match (opF (C.mu f dst) dst.isSome k).run H σ0 nx with
   |some ⟨v,U',nx'⟩=>match Zlc l U' with
    |some σ2=>noV (Ze8 dst r) (rest.run (Zlq fl r) ih dk fm ((Zdb dst).run H (.v v)) σ2 nx')
    |none=>nO
   |none=>nO
  |none=>nO⟩
 |false=>⟨λ_ _ _ _ _ _ _=>nO⟩
def adD(rest:Bx RgD)(dst:Option Nat)(l o:Nat):Bx RgD :=
 match dst with
 |some u=>⟨λr ih dk fm H U nx=>noV (noA u r) (rest.run ⟨r.cs,(u,l,o)::r.ad,r.bn,r.bl⟩ ih dk fm ((T.setF u).run nO H) U nx)⟩
 |none=>⟨λ_ _ _ _ _ _ _=>nO⟩
def Zz6(rest:Bx RgD)(dst:Option Nat)(q:Q)(xs:List Opd):Bx (Nat->Nat->RgD) :=
 match q with
 |.mv=>match xs with
  | []=>⟨λl o=>(adD rest dst l o).run⟩
  |_=>⟨λ_ _ _ _ _ _ _ _ _=>nO⟩
 |.nilck=>match xs with
  | []=>⟨λl o=>(adD rest dst l o).run⟩
  |_=>⟨λ_ _ _ _ _ _ _ _ _=>nO⟩
 |.faddr off=>match xs with
  | []=>⟨λl o=>(adD rest dst l (o+off)).run⟩
  |_=>⟨λ_ _ _ _ _ _ _ _ _=>nO⟩
 |.iaddrA m z=>match xs with
  | [x]=>⟨λl o r ih dk fm H U nx=>match (Y7 x).run H with
   |some (.int _ i)=>noV (leI 0 i&&!leI m i) ((adD rest dst l (o+i.toNat*z)).run r ih dk fm H U nx)
   |_=>nO⟩
  |_=>⟨λ_ _ _ _ _ _ _ _ _=>nO⟩
 |.load1=>match xs with
  | []=>⟨λl o r ih dk fm H U nx=>match KT l r.cs with
   |some cs=>match Zip o cs with
    |some v=>noV (Ze8 dst r) (rest.run ⟨r.cs,r.ad,r.bn,(dst.getD 0,l)::r.bl⟩ ih dk fm ((Zdb dst).run H (.v v)) U nx)
    |none=>nO
   |none=>nO⟩
  |_=>⟨λ_ _ _ _ _ _ _ _ _=>nO⟩
 |.loadN n=>match xs with
  | []=>⟨λl o r ih dk fm H U nx=>match KT l r.cs with
   |some cs=>match ZkN cs o n with
    |some v=>noV (Ze8 dst r) (rest.run ⟨r.cs,r.ad,r.bn,(dst.getD 0,l)::r.bl⟩ ih dk fm ((Zdb dst).run H (.v v)) U nx)
    |none=>nO
   |none=>nO⟩
  |_=>⟨λ_ _ _ _ _ _ _ _ _=>nO⟩
 |_=>⟨λ_ _ _ _ _ _ _ _ _=>nO⟩
def Zui(rest:Bx RgD)(fl:List Nat)(l o n:Nat)(xs:List V):RgD:=λr ih dk fm H U nx=>match KT l r.cs with
 |some cs=>match ZkA o n xs cs with
  |some cs'=>noV (!Zg0 l (Znc fl r.bl)) (rest.run (Zlq fl ⟨Zkz l cs' r.cs,r.ad,r.bn,r.bl⟩) ih dk fm H U nx)
  |none=>nO
 |none=>nO
def goD(C:Cx)(f:FuncId)(rest:Bx RgD)(dst:Option Nat)(g:Option (Nat×Bool))(fl:List Nat)(k:K):Bx RgD :=
 match k with
 |.call fx xs=>⟨λr ih dk fm H U nx=>match (Y7 fx).run H with
  |some fv=>match (ZcW xs).run H with
   |some vs=>match ZAf fl r U with
    |some (σ0,l)=>match ZnF C ih fv vs σ0 nx with
     |some ⟨pan,v,U',nx'⟩=>match Zlc l U' with
      |some σ2=>match pan with
       |false=>noV (Ze8 dst r) (rest.run (Zlq fl r) ih dk fm ((Zdb dst).run H (.v v)) σ2 nx')
       |true=>Zm6 C ih fm T.nil v σ2 nx'
      |none=>nO
     |none=>nO
    |none=>nO
   |none=>nO
  |none=>nO⟩
 |.panic x=>⟨λ_ ih _ fm H U nx=>match (Y7 x).run H with
  |some (.iface t v)=>Zm6 C ih fm T.nil (.iface t v) U nx
  |_=>nO⟩
 |.defer _ _=>⟨λ_ _ _ _ _ _ _=>nO⟩
 |.recover=>⟨λ_ _ _ _ _ _ _=>nO⟩
 |.fork _=>⟨λ_ _ _ _ _ _ _=>nO⟩
 |.alloc z=>match g,dst,ofDs z with
  |none,sO t,sO z=>⟨λr ih dk fm H U nx=>noV (ZwT t r) (rest.run ⟨(t,z)::r.cs,(t,t,0)::r.ad,r.bn,r.bl⟩ ih dk fm ((T.setF t).run nO H) U nx)⟩
  |_,_,_=>⟨λ_ _ _ _ _ _ _=>nO⟩
 |.box x=>match g,dst with
  |none,sO t=>⟨λr ih dk fm H U nx=>match (Y7 x).run H with
   |some v=>noV (Zpf v&&ZwT t r&&!Zg0 t (Znc fl r.bl)) (rest.run (Zlq fl ⟨(t,Zgb v)::r.cs,(t,t,0)::r.ad,r.bn,r.bl⟩) ih dk fm ((T.setF t).run nO H) U nx)
   |none=>nO⟩
  |_,_=>⟨λ_ _ _ _ _ _ _=>nO⟩
 |.store1 a v=>match g,dst with
  |none,nO=>⟨λr ih dk fm H U nx=>match Zsr a r with
   |some (l,o)=>match (Y7 v).run H with
    |some x=>noV (Zxy x) (Zui rest fl l o 1 [x] r ih dk fm H U nx)
    |none=>nO
   |none=>(Zs1 C f rest dst g fl (.store1 a v)).run r ih dk fm H U nx⟩
  |_,_=>⟨λ_ _ _ _ _ _ _=>nO⟩
 |.storeN n a v=>match g,dst with
  |none,nO=>⟨λr ih dk fm H U nx=>match Zsr a r with
   |some (l,o)=>match (Y7 v).run H with
    |some (.agg xs)=>Zui rest fl l o n xs r ih dk fm H U nx
    |_=>nO
   |none=>(Zs1 C f rest dst g fl (.storeN n a v)).run r ih dk fm H U nx⟩
  |_,_=>⟨λ_ _ _ _ _ _ _=>nO⟩
 |.q q xs=>match xs with
  |x::ys=>⟨λr ih dk fm H U nx=>match Zsr x r with
   |some (l,o)=>(Zz6 rest dst q ys).run l o r ih dk fm H U nx
   |none=>(Zj6 rest dst (.q q xs)).run r ih dk fm H U nx⟩
  | []=>Zj6 rest dst (.q q xs)
 |k=>match YQ k with
  |true=>Zj6 rest dst k
  |false=>Zs1 C f rest dst g fl k
def Zoz:List (Nat×Nat×Nat)->Nat->Nat->T W->T W
 | [],_,_,H=>H
 | (u,l,o)::r,t,nx,H=>if Nat.beq l t then (Zoz r t nx H).set (sO (.v (.ptr nx o))) u else Zoz r t nx H
def Zs9:List (Nat×List V)->List (Nat×Nat×Nat)->Rg
 | [],_=>λih dk fm H U nx=>ih fm dk H U nx
 | (t,vs)::r,ad=>λih dk fm H U nx=>match ZjJ t ad with
  |some (l,_)=>noV (Nat.beq l t) (Zs9 r ad ih dk fm (Zoz ad t nx H) (U.set (sO (.cells vs)) nx) (nx+1))
  |none=>nO
def Zlw(C:Cx)(f:FuncId):List (DOp×List Nat)->Bx RgD
 | []=>⟨λr ih dk fm H U nx=>Zs9 r.cs r.ad ih dk fm H U nx⟩
 | (⟨dst,g,k⟩,fl)::os=>match k with
  |.fork _=>⟨λ_ _ _ _ _ _ _=>nO⟩
  |k=>match g with
   |none=>goD C f (Zlw C f os) dst g fl k
   |some _=>⟨λr ih dk fm H U nx=>match (ZjN g).run H with
    |some b=>match b with
     |true=>(goD C f (Zlw C f os) dst g fl k).run r ih dk fm H U nx
     |false=>match k with
      |.alloc _=>nO
      |k=>noV (Ze8 dst r) ((Zlw C f os).run (if YQ k then r else Zlq fl r) ih dk fm ((Zdb dst).run H .skip) U nx)
    |none=>nO⟩
abbrev Cd:=Ih->Fm->List KH->T W->S->Nat->Option Out
def ZaY(C:Cx)(f:FuncId):DC->Bx Cd
 |.skip=>⟨λih fm k H U nx=>ih fm k H U nx⟩
 |.label _=>⟨λih fm k H U nx=>ih fm k H U nx⟩
 |.seq a b=>⟨λih fm k H U nx=>(ZaY C f a).run ih fm (.code b::k) H U nx⟩
 |.cond c a b=>⟨λih fm k H U nx=>match (Y7 c).run H with
  |some v=>match v with
   |.bool t=>match t with
    |true=>(ZaY C f a).run ih fm k H U nx
    |false=>(ZaY C f b).run ih fm k H U nx
   |_=>nO
  |none=>nO⟩
 |.block id a=>⟨λih fm k H U nx=>(ZaY C f a).run ih fm (.inBlock id::k) H U nx⟩
 |.loop a=>⟨λih fm k H U nx=>(ZaY C f a).run ih fm (.inLoop a::k) H U nx⟩
 |.scope a=>⟨λih fm k H U nx=>(ZaY C f a).run ih fm (.inScope a::k) H U nx⟩
 |.exit id=>⟨λih fm k H U nx=>match Ji id k with
  |some k'=>ih fm k' H U nx
  |none=>match fm.k with
   |.rnd l=>match loopTo U l (sO (.exit id)) true false with
    |some U'=>sO ⟨false,.bool false,U',nx⟩
    |none=>nO
   |_=>nO⟩
 |.goto l=>⟨λih fm k H U nx=>match Zd3 l k with
  |some k'=>ih fm k' H U nx
  |none=>nO⟩
 |.ret=>⟨λih fm _ H U nx=>Zxc C ih fm H U nx false⟩
 |.reg ops kp=>match kp with
  |none=>match ops.all λo=>ZjX o.k with
   |true=>⟨λih fm k H U nx=>(Zp2 C f ops).run ih k fm H U nx⟩
   |false=>⟨λ_ _ _ _ _ _=>nO⟩
  |some _=>⟨λ_ _ _ _ _ _=>nO⟩
 |.regD _ ops _=>⟨λih fm k H U nx=>(Zlw C f ops).run Rl.nil ih k fm H U nx⟩
 |.rangeF g ps a b=>⟨λih fm k H U nx=>match fm.k with
  |.fn _=>match (Y7 g).run H with
   |some fv=>match ZnF C ih fv [.yield (nx+1)] ((U.set (sO .dfr) nx).set (sO (.loop fm.f fm.n ps a b H nO false)) (nx+1)) (nx+2) with
    |some ⟨pan,v,U',nx'⟩=>match pan with
     |false=>match U'.get (nx+1) with
      |some (.loop _ _ _ _ _ _ nO false)=>ih { fm with ds:=.mark nx::fm.ds } k H (U'.set nO (nx+1)) nx'
      |some (.loop f' n' _ _ _ _ (sO j) false)=>noV (Nat.beq f' fm.f&&Nat.beq n' fm.n) (ih { fm with ds:=.mark nx::fm.ds } (.code j::k) H (U'.set nO (nx+1)) nx')
      |_=>nO
     |true=>Zm6 C ih { fm with ds:=.mark nx::fm.ds } H v U' nx'
    |none=>nO
   |none=>nO
  |_=>nO⟩
def step(C:Cx)(ih:Ih)(fm:Fm)(dk:List KH)(H:T W)(U:S)(nx:Nat):Option Out :=
 match dk with
 | []=>Zxc C ih fm H U nx true
 |it::k=>match it with
  |.inBlock _=>ih fm k H U nx
  |.inScope _=>ih fm k H U nx
  |.inLoop c=>(ZaY C fm.f c).run ih fm (.inLoop c::k) H U nx
  |.beginR=>match fm.k with
   |.rnd l=>match loopTo U l nO false true with
    |some U'=>ih fm k H U' nx
    |none=>nO
   |_=>nO
  |.code c=>(ZaY C fm.f c).run ih fm k H U nx
def run(C:Cx)(n:Nat):Ih:=Nat.rec (motive:=λ_=>Ih) (λ_ _ _ _ _=>nO) (λ_ ih=>step C ih) n
def ZAP(a b):UInt8.ofNat a=UInt8.ofNat b↔a % 256=b % 256:=by
 rw[<-UInt8.toNat_inj];simp
def ZnS:∀(a b),eqS a b=dC (a.map UInt8.ofNat=b.map UInt8.ofNat)
 | [],[]=>by simp[eqS]
 | [],b::y=>by simp[eqS]
 |a::x,[]=>by simp[eqS]
 |a::x,b::y=>by simp only[eqS,ZHY,List.cons.injEq,ZAP,ZnS x y];by_cases h:a % 256=b % 256<;>simp
def Ztq:∀(a b),Zd5 a b=Op.bytesLess (a.map UInt8.ofNat) (b.map UInt8.ofNat)
 | [],[]=>by simp[Zd5,Op.bytesLess]
 | [],b::y=>by simp[Zd5,Op.bytesLess]
 |a::x,[]=>by simp[Zd5,Op.bytesLess]
 |a::x,b::y=>by
  have i:(UInt8.ofNat a<UInt8.ofNat b)↔a % 256<b % 256:=by rw[UInt8.lt_iff_toNat_lt];simp
  have j:=ZAP a b;simp[Zd5,Op.bytesLess,Ztq x y];by_cases t:a % 256<b % 256;simp[t,i];by_cases n:a % 256=b % 256;simp[n,i,j];simp[n,i,j]
section
variable {J:Nm}
def ZoN{k x y i j}(t:VR J x i)(n:VR J y j){b}(h:ZlC k x y=sO b):Yv k i j=sO b:=by
 cases k<;>cases t<;>cases n<;>simp only[ZlC,reduceCtorEq]at h;split at h<;>simp only[ZHE,reduceCtorEq]at h;rename_i u;obtain rfl:=ZfC u;simp only[Yv,if_true,ZHE];rw[<-ZjF];exact h;simp only[ZHE]at h;simp only[Yv,ZHE];rw[<-ZnS];exact h;simpa only[Yv]using h
def Zjy{xs z ds es}(hx:VRs J xs ds)(u:VRs J z es):∀{l b},Zht xs z l=sO b->WC ds es l=sO b
 | [],b,h=>by simpa only[Zht,WC]using h
 | (o,k)::r,b,h=>by simp only[Zht]at h;split at h<;>(try(simp at h;done));rename_i x y h1 h2;split at h<;>simp only[ZHE,reduceCtorEq]at h;rename_i b1 b2 h3 h4;obtain⟨dx,n,j⟩:=hx.get h1;obtain⟨dy,t,i⟩:=u.get h2;simp only[WC,n,t,ZoN j i h3,Zjy hx u h4,h]
def ZbG{kp x y j u}(hx:VR J x j)(i:VR J y u){b}(h:ZeK kp x y=sO b):KK kp j u=sO b:=by
 cases kp with
 |sc k=>exact ZoN hx i h
 |st l =>cases hx<;>cases i<;>simp only[ZeK,reduceCtorEq]at h;rename_i cs ds z cs' ds' n;split at h<;>(try(simp at h;done));rename_i t;simp only[KK];rw[if_pos ⟨by rw[<-z.len];exact t.1,by rw[<-n.len];exact t.2⟩];exact Zjy z n h
def Zgs{kp x j}(n:VR J x j)(h:(ZeK kp x x).isSome=true):QS kp j=true:=by
 cases i:ZeK kp x x with
 |none=>rw[i]at h;grind
 |some b=>simp[QS,ZbG n n i]
def ZtI{p x y i j}(z:VR J x i)(u:VR J y j){b}(h:Zr6 p x y=sO b):∃side,YX p i j=sO (side,b)/\side:=by
 cases p<;>cases z<;>cases u<;>simp only[Zr6,reduceCtorEq,ZHE]at h;case cells.agg.agg l cs ds h1 cs' ds' h2=>exact⟨True,by simp[YX,Zjy h1 h2 h],trivial⟩
 case sl.sl.nilsl t n s rs τ row h1 h2 h3 =>split at h<;>simp only[ZHE,reduceCtorEq]at h;subst h;exact⟨_,rfl,‹_›⟩
 all_goals (subst h;exact⟨True,rfl,trivial⟩)
def ZcF{k n v}(h:ZgW k n=sO v):v=.int k n/\inR k n:=by
 unfold ZgW at h;split at h<;>simp at h;exact⟨h.symm,Zvz ‹_›⟩
def ZBE{op k k' a b v}(u:Zub op=true\/k=k')(h:ZAn op k a b=sO v):∃side d,ZaP op nO (.int k a) (.int k' b)=sO (side,d)/\side/\VR J v d:=by
 have i:Zub op=false->k=k':=λh=>u.resolve_left (by rw[h];simp);cases op<;>simp only[ZAn]at h;case shl =>split at h<;>(try(simp at h;done));rename_i n;obtain⟨rfl,j⟩:=ZcF h;rw[ZhD,decide_eq_true_eq]at n;exact⟨_,_,rfl,⟨n,j⟩,.int _ _⟩
 case shr =>split at h<;>(try(simp at h;done));rename_i n;obtain⟨rfl,j⟩:=ZcF h;rw[ZhD,decide_eq_true_eq]at n;exact⟨_,_,rfl,⟨n,j⟩,.int _ _⟩
 all_goals
  obtain rfl:=i rfl;simp only[ZaP,if_true,Jr]
 case add=>obtain⟨rfl,j⟩:=ZcF h;exact⟨_,_,rfl,j,.int _ _⟩
 case sub=>obtain⟨rfl,j⟩:=ZcF h;exact⟨_,_,rfl,j,.int _ _⟩
 case mul=>obtain⟨rfl,j⟩:=ZcF h;exact⟨_,_,rfl,j,.int _ _⟩
 case quo =>split at h<;>(try(simp at h;done));rename_i n;obtain⟨rfl,j⟩:=ZcF h;rw[ZjF,decide_eq_false_iff_not]at n;exact⟨_,_,rfl,⟨n,j⟩,.int _ _⟩
 case rem =>split at h<;>(try(simp at h;done));rename_i n;obtain⟨rfl,j⟩:=ZcF h;rw[ZjF,decide_eq_false_iff_not]at n;exact⟨_,_,rfl,⟨n,j⟩,.int _ _⟩
 all_goals
  simp only[ZHE]at h;subst h;refine⟨_,_,rfl,trivial,?_⟩;try simp only[ZjF,ZhD]
 case lss=>rw[show(!dC (b<=a))=dC (a<b) by by_cases t:a<b<;>simp[t]<;>omega];exact .bool _
 case gtr=>rw[show(!dC (a<=b))=dC (b<a) by by_cases t:b<a<;>simp[t]<;>omega];exact .bool _
 case geq=>exact .bool _
 all_goals first|exact .bool _|exact .int _ _
def ZBG{op a b v}(h:ZAo op a b=sO v):∃side d,ZeH op (a.map UInt8.ofNat) (b.map UInt8.ofNat)=sO (side,d)/\side/\VR J v d:=by
 cases op<;>simp only[ZAo,reduceCtorEq]at h;case add =>split at h<;>simp at h;rename_i i;subst h;refine⟨_,_,rfl,by simpa using i,?_⟩;rw[<-List.map_append];exact .str _
 all_goals
  cases h;refine⟨_,_,rfl,trivial,?_⟩;simp[ZnS,Ztq];exact .bool _
def ZBF{op p x y t z}(u:VR J x t)(n:VR J y z){v}(h:ZtN op p x y=sO v):∃side d,eqO op p t z=sO (side,d)/\side/\VR J v d:=by
 cases p with
 |none=>simp[ZtN]at h
 |some p =>
  cases op<;>simp only[ZtN,reduceCtorEq]at h;case eql =>split at h<;>simp only[ZHE,reduceCtorEq]at h;subst h;obtain⟨side,j,i⟩:=ZtI u n ‹_›;exact⟨side,_,by simp only[eqO,j,ZId],i,.bool _⟩
  case neq =>split at h<;>simp only[ZHE,reduceCtorEq]at h;subst h;obtain⟨side,j,i⟩:=ZtI u n ‹_›;exact⟨side,_,by simp only[eqO,j,ZId],i,.bool _⟩
def ZBD{op p x y j z}(hx:VR J x j)(t:VR J y z){v}(h:ZtM op p x y=sO v):∃side d,ZaP op p j z=sO (side,d)/\side/\VR J v d:=by
 have i:(∀k a,j≠.int k a)->(∀l,j≠.str l)->ZtN op p x y=sO v->∃side d,ZaP op p j z=sO (side,d)/\side/\VR J v d:=λh1 h2 h3=>by obtain⟨side,d,n,e2,u⟩:=ZBF hx t h3;refine⟨side,d,?_,e2,u⟩;rw[<-n];cases j<;>first|rfl|exact absurd rfl (h1 _ _)|exact absurd rfl (h2 _)
 cases hx;case int k a =>cases t<;>simp only[ZtM,reduceCtorEq]at h;rename_i k' b;split at h<;>(try(simp at h;done));rename_i hb;rw[ZH0]at hb;obtain⟨side,d,n,e2,u⟩:=ZBE (J:=J) (k':=k') (hb.imp id ZfC) h;refine⟨side,d,?_,e2,u⟩;rw[<-n];rfl
 case str s =>cases t<;>simp only[ZtM,reduceCtorEq]at h;exact ZBG h
 all_goals exact i (λ_ _=>by simp) (λ_=>by simp) (by simpa only[ZtM]using h)
def MR(J:Nm)(e:V×V)(d:D×D):Prop:=VR J e.1 d.1/\VR J e.2 d.2
def MR.mono{J'}(h:J.Sub J'){e d}(m:MR J e d):MR J' e d:=⟨m.1.mono h,m.2.mono h⟩
def Ztb{kp k dk}(j:VR J k dk):∀{es ds r},ZO (MR J) es ds->ZnZ kp k es=sO r ->
  ∃i,Zcb kp dk ds=sO i/\(match r,i with|some v,sO d=>VR J v d|none,nO=>True|_,_=>False)
 | [],ds,r,h,hf=>by cases h;simp only[ZnZ,ZHE]at hf;subst hf;exact⟨nO,rfl,trivial⟩
 |e::es,ds,r,h,hf=>by
  cases h with
  |cons h1 h2 =>
  simp only[ZnZ]at hf;split at hf<;>(try(simp at hf;done));rename_i n;simp only[ZHE]at hf;subst hf;exact⟨sO _,by simp only[Zcb,ZbG j h1.1 n],h1.2⟩;rename_i n;obtain⟨i,t,u⟩:=Ztb j h2 hf;exact⟨i,by simp only[Zcb,ZbG j h1.1 n,t],u⟩
def Zqj{kp k v dk j}(i:VR J k dk)(n:VR J v j):∀{es r ds},ZO (MR J) es ds->Zqi kp k v es=sO r ->
  ∃u,ZaE kp dk j ds=sO u/\ZO (MR J) r u
 | [],r,ds,h,hf=>by cases h;simp only[Zqi,ZHE]at hf;subst hf;exact⟨_,rfl,.cons ⟨i,n⟩ .nil⟩
 |e::es,r,ds,h,hf=>by
  cases h with
  |cons h1 h2 =>
  simp only[Zqi]at hf;split at hf<;>(try(simp at hf;done));rename_i t;simp only[ZHE]at hf;subst hf;exact⟨(dk,j)::_,by simp only[ZaE,ZbG i h1.1 t],.cons ⟨i,n⟩ h2⟩;rename_i t;simp only[ZHS]at hf;obtain⟨r0,hr,rfl⟩:=hf;obtain⟨u,z,e2⟩:=Zqj i n h2 hr;exact⟨_,by simp only[ZaE,ZbG i h1.1 t,z,ZId],.cons h1 e2⟩
def Zvo{kp k dk}(i:VR J k dk):∀{es r ds},ZO (MR J) es ds->ZsX kp k es=sO r ->
  ∃n,ZgP kp dk ds=sO n/\ZO (MR J) r n
 | [],r,ds,h,hf=>by cases h;simp only[ZsX,ZHE]at hf;subst hf;exact⟨_,rfl,.nil⟩
 |e::es,r,ds,h,hf=>by
  cases h with
  |cons h1 h2 =>
  simp only[ZsX]at hf;split at hf<;>(try(simp at hf;done));rename_i j;simp only[ZHE]at hf;subst hf;exact⟨_,by simp only[ZgP,ZbG i h1.1 j],h2⟩;rename_i j;simp only[ZHS]at hf;obtain⟨r0,u,rfl⟩:=hf;obtain⟨n,t,z⟩:=Zvo i h2 u;exact⟨_,by simp only[ZgP,ZbG i h1.1 j,t,ZId],.cons h1 z⟩
def Zvq{kp k z dk t}(i:VR J k dk)(n:VR J z t):∀{es ds v},ZO (MR J) es ds->Zs5 kp k z es=sO v ->
  ∃d,ZeJ kp dk t ds=sO d/\VR J v d
 | [],ds,v,h,hf=>by cases h;simp only[Zs5,ZHE]at hf;subst hf;exact⟨_,rfl,n⟩
 |e::es,ds,v,h,hf=>by
  cases h with
  |cons h1 h2 =>
  simp only[Zs5]at hf;split at hf<;>(try(simp at hf;done));rename_i j;simp only[ZHE]at hf;subst hf;exact⟨_,by simp only[ZeJ,ZbG i h1.1 j],h1.2⟩;rename_i j;obtain⟨d,u,e2⟩:=Zvq i n h2 hf;exact⟨d,by simp only[ZeJ,ZbG i h1.1 j,u],e2⟩
def Zts{z}{i}(j:VR J z i){ok}{r}{r'}(h:match r,r' with|some v,sO d=>VR J v d|none,nO=>True|_,_=>False):VR J (Zr3 z ok r) (Wy i ok r'):=by
 cases r<;>cases r'<;>simp only at h<;>cases ok<;>simp only[Zr3,Wy,if_true,if_false,ZIe];exact j;exact .tup _ _ (.cons _ _ _ _ j (.one (.bool _)));exact h;exact .tup _ _ (.cons _ _ _ _ h (.one (.bool _)))
end
def WR(J:Nm)(L:Loc):W->E->Prop
 |.v x,e=>∃d,VR J x d/\(e=.d d\/e=.when true (.d d))
 |.loc l o,e=>e=.loc l o\/e=.when true (.loc l o)
 |.skip,e=>e=.when false (.d (.bool false))
def live(_:Loc):W->Bool
 |.loc _ _=>false
 |_=>true
def Ya(J:Nm)(L:Loc)(H:T W)(ρd:Env):Prop:=∀t w,H.get t=sO w->live L w=true->∃e,ZS ρd t=sO e/\WR J L w e
def Ya.anyL{J L L' H ρd}(h:Ya J L H ρd):Ya J L' H ρd:=λt w i j=>by
 cases w with
 |v x=>exact h t _ i rfl
 |loc l o=>cases j
 |skip=>exact h t _ i rfl
structure Px extends Cx where
 t:St
instance:Coe Px Cx:=⟨Px.toCx⟩
inductive OR(C:Cx)(J:Nm)(k0:Nat):O->Jo->Prop where
 |cells (vs:List V) (ds ex:List D) (h:VRs J vs ds):OR C J k0 (.cells vs) (.cells (ds++ex))
 |buf (vs:List V) (ds ex:List D) (h:VRs J vs ds) (hc:J (k0+1)=some (.tip (ds++ex).length)):OR C J k0 (.buf vs) (.cells (ds++ex))
 |map (es:List (V×V)) (ds:List (D×D)) (h:ZO (MR J) es ds):OR C J k0 (.map es) (.map ds)
 |tok (n:Nat):OR C J k0 (.tok n) (.tip n)
 |mapE (kp:KP) (es:List (V×V)) (ds:List (D×D)) (k:V) (dk:D) (n m:Nat) (h:ZO (MR J) es ds) (hk:VR J k dk) (hn:J n=some (.tip m)):OR C J k0 (.mapE kp es k n) (.mapE kp ds dk m)
 |dfr:OR C J k0 .dfr .dfr
 |ro (o:O) (d:Jo) (h:OR C J k0 o d) (hr:Zco o=false) (hk:∀n,o≠.tok n):OR C J k0 (.ro o) d
 |loop (f:FuncId) (n:Nat) (ps:List Nat) (a b:DC) (H:T W) (st:Option DC) (busy:Bool) (r:ZcB) (lst:LSt) (hf:r.fn=f) (hn:r.N=n) (hps:r.params=ps) (hlt:∀t∈ps,t<n)
   (ha:cc C.P (C.an f) n r.assign=some a) (hb:cc C.P (C.an f) n r.body=some b) (hρ:Ya J [] H r.H)
   (hst:match st,busy,lst with
    |none,false,.ready=>True
    |none,true,.busy=>True
    |some dj,false,.done j=>cc C.P (C.an f) n j=some dj
    |_,_,_=>False):OR C J k0 (.loop f n ps a b H st busy) (.loop r lst)
structure Sim(C:Px)(J:Nm)(U:S)(s:St):Prop where
 obj:∀k o,U.get k=some o->∃t,J k=some t/\((∃b d,t=.tip b/\s b=some d/\OR C J k o d)\/(∃n,o=.tok n/\t=.full))
 inj:∀k k' o o' b,U.get k=some o->U.get k'=some o'->J k=some (.tip b)->J k'=some (.tip b)->k=k'
 kp:∀b d,C.t b=some d->s b=some d/\∀k o,U.get k=some o->Zco o=false->J k≠some (.tip b)
 ro:∀k o b,U.get k=some (.ro o)->J k=some (.tip b)->∃d,C.t b=some d
def WR.mono{J J' L}(h:J.Sub J'){w e}(x:WR J L w e):WR J' L w e:=by
 cases w with
 |v v=>obtain⟨d,j,i⟩:=x;exact⟨d,j.mono h,i⟩
 |_=>exact x
def Ya.mono{J J' L}(h:J.Sub J'){H ρd}(x:Ya J L H ρd):Ya J' L H ρd:=λt w n i=>by
 obtain⟨e,u,j⟩:=x t w n i;exact⟨e,u,j.mono h⟩
def OR.mono{C J J'}(h:J.Sub J'){k0 o d}(x:OR C J k0 o d):OR C J' k0 o d:=by
 induction x with
 |cells vs ds ex h1=>exact .cells vs ds ex (h1.mono h)
 |buf vs ds ex h1 hc=>exact .buf vs ds ex (h1.mono h) (h _ _ hc)
 |map es ds h1=>exact .map es ds (h1.imp λ_ _ m=>m.mono h)
 |tok n=>exact .tok n
 |mapE kp es ds k dk n m h1 hk hn=>exact .mapE kp es ds k dk n m (h1.imp λ_ _ m=>m.mono h) (hk.mono h) (h _ _ hn)
 |dfr=>exact .dfr
 |ro o d h1 hr hk ih=>exact .ro o d ih hr hk
 |loop f n ps a b H st busy r lst hf hn hps hlt ha hb hρ hst=>exact .loop f n ps a b H st busy r lst hf hn hps hlt ha hb (hρ.mono h) hst
def Sim.name{C J J' U s}(x:Sim C J U s)(j:J.Sub J'){k o}(h:U.get k=sO o){t}(e:J' k=sO t):J k=sO t:=by
 obtain⟨t0,i,_⟩:=x.obj k o h;rw[j _ _ i]at e;rw[i,e]
def Sim.mono{C:Px}{J J':Nm}(h:J.Sub J'){U:S}(x:Sim C J U s):Sim C J' U s:={
 obj k o i:=by obtain⟨t,u,j⟩:=x.obj k o i;refine⟨t,h _ _ u,j.imp (λ⟨b,d,a1,a2,z⟩=>⟨b,d,a1,a2,z.mono h⟩) id⟩
 inj k k' o o' b i hk' e e':=x.inj k k' o o' b i hk' (x.name h i e) (x.name h hk' e')
 kp b d hb:=⟨(x.kp b d hb).1,λk o i n e=>(x.kp b d hb).2 k o i n (x.name h i e)⟩
 ro k o b i e:=x.ro k o b i (x.name h i e) }
section
variable {C:Px} {J:Nm} {U:S} {s:St}
def Sim.get(x:Sim C J U s){k o}(h:U.get k=sO o)(j:∀n,o≠.tok n):∃b d,J k=sO (.tip b)/\s b=sO d/\OR C J k o d:=by
 obtain⟨t,i,⟨b,d,rfl,a1,a2⟩|⟨n,rfl,_⟩⟩:=x.obj k o h;exact⟨b,d,i,a1,a2⟩;exact absurd rfl (j n)
def OR.cellsO{C k0 o d vs}(h:OR C J k0 o d)(j:cellsO o=sO vs):∃ds ex,d=.cells (ds++ex)/\VRs J vs ds:=by
 have i:∀{o:O} {d:Jo},OR C J k0 o d->(o=.cells vs\/o=.buf vs)->∃ds ex,d=.cells (ds++ex)/\VRs J vs ds:=λ{o d} h ho=>by
  rcases ho with rfl|rfl
  .cases h with
   |cells vs ds ex h=>exact⟨ds,ex,rfl,h⟩
  cases h with
  |buf vs ds ex h=>exact⟨ds,ex,rfl,h⟩
 cases o<;>simp[Go.DL.cellsO]at j;subst j;exact i h (.inl rfl);subst j;exact i h (.inr rfl);rename_i o;cases h with
 |ro _ _ h _ _ =>cases o<;>simp at j;subst j;exact i h (.inl rfl);subst j;exact i h (.inr rfl)
def Zwh{o vs}(h:cellsO o=sO vs)(n):o≠.tok n:=λe=>by subst e;cases h
def Sim.cells(x:Sim C J U s){k b vs}(h:Zbs (U.get k)=sO vs)(z:J k=sO (.tip b)):∃ds ex,s b=sO (.cells (ds++ex))/\VRs J vs ds:=by
 cases i:U.get k with
 |none=>rw[i]at h;cases h
 |some o =>rw[i]at h;obtain⟨b',d,j,n,u⟩:=x.get i (Zwh h);rw[z]at j;cases j;obtain⟨ds,ex,rfl,t⟩:=u.cellsO h;exact⟨ds,ex,n,t⟩
def Sim.map(x:Sim C J U s){k b es}(h:U.get k=sO (.map es))(u:J k=sO (.tip b)):∃ds,s b=sO (.map ds)/\ZO (MR J) es ds:=by
 obtain⟨b',d,i,j,t⟩:=x.get h (λn=>by simp);rw[u]at i;cases i;cases t with
 |map es ds h=>exact⟨ds,j,h⟩
def Sim.mapO(x:Sim C J U s){k b es}(h:mapO (U.get k)=sO es)(u:J k=sO (.tip b)):∃ds,s b=sO (.map ds)/\ZO (MR J) es ds:=by
 cases i:U.get k with
 |none=>rw[i]at h;cases h
 |some o =>
  rw[i]at h;cases o<;>simp[Go.DL.mapO]at h;subst h;exact x.map i u;rename_i o;cases o<;>cases h;obtain⟨b',d,t,z,j⟩:=x.get i (λn=>by simp);rw[u]at t;cases t;cases j with
  |ro _ _ j _ _=>cases j with
   |map es ds h=>exact⟨ds,z,h⟩
def Zvv{U:S}{k k' o}(h:(U.set nO k).get k'=sO o):k'≠k/\U.get k'=sO o:=by
 rcases T.get_set h with ⟨_,i⟩|⟨j,i⟩;simp at i;exact⟨j,i⟩
def Sim.subT{U':S}(x:Sim C J U s)(h:∀k o,U'.get k=sO o->U.get k=sO o):Sim C J U' s:={
 obj k o i:=x.obj k o (h k o i)
 inj k k' o o' b i hk':=x.inj k k' o o' b (h _ _ i) (h _ _ hk')
 kp b d hb:=⟨(x.kp b d hb).1,λk o i=>(x.kp b d hb).2 k o (h _ _ i)⟩
 ro k o b i:=x.ro k o b (h _ _ i) }
def Sim.forget(x:Sim C J U s)(k):Sim C J (U.set nO k) s:=x.subT λ_ _ h=>(Zvv h).2
def Sim.upd(x:Sim C J U s){k b:Nat}{o o':O}{d:Jo}(h:U.get k=sO o)(hb:J k=sO (.tip b))(ho:OR C J k o' d)(hr:Zco o=false:=by rfl)(hr':Zco o'=false:=by rfl):Sim C J (U.set (sO o') k) (s.upd b d) where
 obj k' o1 h':=by rcases T.get_set h' with ⟨rfl,h1⟩|⟨j,h1⟩;cases h1;exact⟨_,hb,.inl ⟨b,d,rfl,ZHP s b d,ho⟩⟩;obtain⟨t,e1,⟨b',d',rfl,e2,e3⟩|e2⟩:=x.obj k' o1 h1;refine⟨_,e1,.inl ⟨b',d',rfl,?_,e3⟩⟩;have:b'≠b:=λn=>j (x.inj k' k _ _ b h1 h (by rw[<-n];exact e1) hb);rw[ZHQ s d this];exact e2;exact⟨t,e1,.inr e2⟩
 inj k1 k2 o1 o2 b' h1 h2 e1 e2:=by
  have:∀k' o1,(U.set (sO o') k).get k'=sO o1->∃o,U.get k'=sO o:=λk' o1 h'=>by rcases T.get_set h' with ⟨rfl,_⟩|⟨_,h'⟩;exact⟨_,h⟩;exact⟨_,h'⟩
  obtain⟨p1,q1⟩:=this _ _ h1;obtain⟨p2,q2⟩:=this _ _ h2;exact x.inj k1 k2 p1 p2 b' q1 q2 e1 e2
 kp c e hc:=by obtain⟨h1,h2⟩:=x.kp c e hc;have:c≠b:=λec=>h2 k o h hr (by rw[ec];exact hb);refine⟨by rw[ZHQ s d this];exact h1,λk' o1 h' i=>?_⟩;rcases T.get_set h' with ⟨rfl,_⟩|⟨_,h'⟩;exact h2 _ o h hr;exact h2 k' o1 h' i
 ro k' o1 b' h' e:=by rcases T.get_set h' with ⟨rfl,h1⟩|⟨_,h'⟩;cases h1;simp[Zco]at hr';exact x.ro k' o1 b' h' e
end
def Nm.put(J:Nm)(k:Nat)(t:Tok):Nm:=λk'=>if k'=k then sO t else J k'
def Nm.put_sub{J:Nm}{k}(h:J k=nO)(t):J.Sub (J.put k t):=λj t' i=>by
 have:j≠k:=λe=>by rw[e,h]at i;grind
 simp[Nm.put,this,i]
def Nm.put_same{J:Nm}{k t}:(J.put k t) k=sO t:=by simp[Nm.put]
structure YJ(J:Nm)(nx:Nat):Prop where
 z:J 0=some .none
 o:J 1=some .full
 two:2<=nx
 free:∀k,nx<=k->J k=none
def YJ.put{J:Nm}{nx:Nat}(h:YJ J nx)(t:Tok):YJ (J.put nx t) (nx+1):={
 z:=by have:=h.two;simp[Nm.put];rw[if_neg ω];exact h.z
 o:=by have:=h.two;simp[Nm.put];rw[if_neg ω];exact h.o
 two:=by have:=h.two;omega
 free k hk:=by simp[Nm.put];rw[if_neg ω];exact h.free k ω }
section
variable {C:Px} {J:Nm} {U:S} {s:St}
def Sim.fresh(x:Sim C J U s){b}(u:s b=nO){k o}(h:U.get k=sO o):J k≠sO (.tip b):=λe=>by
 obtain⟨t,i,⟨b',d,rfl,j,_⟩|⟨n,_,rfl⟩⟩:=x.obj k o h;rw[e]at i;cases i;rw[u]at j;grind;rw[e]at i;grind
def Sim.new(x:Sim C J U s){nx}(hn:J nx=nO){b}(hb:s b=nO){o d}(ho:OR C (J.put nx (.tip b)) nx o d)(hr:Zco o=false:=by rfl):Sim C (J.put nx (.tip b)) (U.set (sO o) nx) (s.upd b d):=by
 have n:=Nm.put_sub hn (.tip b);have x':=x.mono n;refine⟨λk o1 h=>?_,λk1 k2 o1 o2 b' h1 h2 e1 e2=>?_,λc e hc=>?_,λk o1 c h e=>?_⟩;rcases T.get_set h with ⟨rfl,h1⟩|⟨j,h1⟩;cases h1;exact⟨_,Nm.put_same,.inl ⟨b,d,rfl,ZHP s b d,ho⟩⟩;obtain⟨t,e1,⟨b',d',rfl,e2,e3⟩|e2⟩:=x'.obj k o1 h1;refine⟨_,e1,.inl ⟨b',d',rfl,?_,e3⟩⟩;have:b'≠b:=λab=>by rw[ab,hb]at e2;grind
 rw[ZHQ s d this];exact e2;exact⟨t,e1,.inr e2⟩;have i:∀k o1 b',(U.set (sO o) nx).get k=sO o1->(J.put nx (.tip b)) k=sO (.tip b')->k≠nx->U.get k=sO o1/\J k=sO (.tip b'):=λk o1 b' h e j=>by rcases T.get_set h with ⟨rfl,_⟩|⟨_,h⟩;exact absurd rfl j;exact⟨h,by simpa[Nm.put,j]using e⟩
 by_cases c1:k1=nx<;>by_cases c2:k2=nx;simp_all;exfalso;obtain⟨q1,q2⟩:=i k2 o2 b' h2 e2 c2;rw[c1,Nm.put_same]at e1;cases e1;exact x.fresh hb q1 q2;exfalso;obtain⟨q1,q2⟩:=i k1 o1 b' h1 e1 c1;rw[c2,Nm.put_same]at e2;cases e2;exact x.fresh hb q1 q2;obtain⟨q1,q2⟩:=i k1 o1 b' h1 e1 c1;obtain⟨q3,q4⟩:=i k2 o2 b' h2 e2 c2;exact x.inj k1 k2 o1 o2 b' q1 q3 q2 q4;obtain⟨h1,h2⟩:=x'.kp c e hc;have u:c≠b:=λec=>by rw[ec,hb]at h1;grind
 refine⟨by rw[ZHQ s d u];exact h1,λk o1 h z e1=>?_⟩;rcases T.get_set h with ⟨rfl,_⟩|⟨_,h⟩;rw[Nm.put_same]at e1;simp at e1;exact u e1.symm;exact h2 k o1 h z e1;rcases T.get_set h with ⟨rfl,h1⟩|⟨_,h⟩;cases h1;cases hr;exact x'.ro k o1 c h e
end
section
variable {J:Nm} {L:Loc} {H:T W} {ρd:Env}
def ZAS{x v}(h:wV x=sO v):x=sO (.v v):=by
 unfold wV at h;split at h;split at h<;>cases h;rfl;grind
def K0(n:Ya J L H ρd){x v}(h:(Y7 x).run H=sO v):∃p d,ZD ρd true x=sO (p,.d d)/\p/\VR J v d:=by
 cases x with
 |cst d =>simp[Y7]at h;split at h<;>cases h;exact⟨True,d,rfl,trivial,ZhE ‹_›⟩
 |tmp t =>obtain⟨e,j,d,i,rfl|rfl⟩:=n t _ (ZAS h) rfl;exact⟨True,d,by simp[ZD,j],trivial,i⟩;exact⟨True->True,d,by simp[ZD,j],λ_=>trivial,i⟩
def Zbd(i:Ya J L H ρd):∀{xs vs},(ZcW xs).run H=sO vs->∃p ds,Yg ρd true xs=sO (p,ds.map .d)/\p/\VRs J vs ds
 | [],vs,h=>by cases h;exact⟨True,[],rfl,trivial,.nil⟩
 |x::xs,vs,h=>by simp[ZcW]at h;split at h<;>(try(grind;done));rename_i v t;split at h<;>simp at h;rename_i vs' j;subst h;obtain⟨p,d,a1,a2,u⟩:=K0 i t;obtain⟨q,ds,n,z,b3⟩:=Zbd i j;exact⟨p/\q,d::ds,by simp[Yg,a1,n],⟨a2,z⟩,.cons _ _ _ _ u b3⟩
def Zbj:∀(ds),Kk (ds.map .d)=sO ds
 | []=>rfl
 |d::ds=>by simp[Kk,Zbj ds]
def ZqS(z:Ya J L H ρd){g b}(h:(ZjN g).run H=sO b):Zo ρd g=sO b:=by
 cases g with
 |none=>simpa[ZjN,Zo]using h
 |some x =>
  obtain⟨t,want⟩:=x;simp[ZjN]at h;split at h<;>(try(grind;done));rename_i w u;cases w with
  |v x =>obtain⟨e,j,n⟩:=z t _ u rfl;cases x<;>cases h;obtain⟨d,h3,rfl|rfl⟩:=n<;>cases h3;simp[Zo,j];simp[Zo,j]
  |loc l o=>grind
  |skip =>obtain⟨e,j,n⟩:=z t _ u rfl;cases h;have i:e=.when false (.d (.bool false)):=n;subst i;simp[Zo,j]
def Zag(n:Ya J L H ρd){w e}(hw:WR J L w e)(dst):Ya J L ((Zdb dst).run H w) (Zz ρd dst e):=by
 cases dst with
 |none=>exact n
 |some t =>intro t' u h z;rcases T.get_set (t:=H) (x:=sO w) (k:=t) h with ⟨rfl,j⟩|⟨i,j⟩;cases j;exact⟨e,by simp[Zz,ZS],hw⟩;obtain⟨e',h2,h3⟩:=n t' u j z;exact⟨e',by simp[Zz,ZS];rw[if_neg (Ne.symm i)];exact h2,h3⟩
def ZyF(hρ:Ya J L H ρd){x c}(h:(ZjZ x).run H=true)(hc:c=false):∃p z,ZD ρd c x=sO (p,.d (.bool z))/\p:=by
 subst hc;cases x with
 |cst d =>cases d<;>cases h;exact⟨True,_,rfl,trivial⟩
 |tmp t =>
  simp[ZjZ]at h;split at h<;>(try(grind;done));rename_i w u;cases w with
  |v x =>obtain⟨e,j,n⟩:=hρ t _ u rfl;cases x<;>cases h;obtain⟨d,h3,rfl|rfl⟩:=n<;>cases h3;exact⟨True,_,by simp[ZD,j];rfl,trivial⟩;exact⟨_,_,by simp only[ZD,j];rfl,λh=>by simp at h⟩
  |loc l o=>grind
  |skip =>obtain⟨e,j,n⟩:=hρ t _ u rfl;have i:e=.when false (.d (.bool false)):=n;subst i;exact⟨_,_,by simp only[ZD,j];rfl,λh=>by simp at h⟩
end
def W6{vs f v}(h:a1 vs f=sO v):∃x,vs=[x]/\f x=sO v:=by
 unfold a1 at h;split at h;exact⟨_,rfl,h⟩;grind
def Zeg{vs f v}(h:a2 vs f=sO v):∃x y,vs=[x,y]/\f x y=sO v:=by
 unfold a2 at h;split at h;exact⟨_,_,rfl,h⟩;grind
def ZE{α b}{r:Option α}{v:α}(h:noV b r=sO v):b=true/\r=sO v:=by
 cases b<;>simp[noV]at h;exact⟨rfl,h⟩
def ZcE{i n r v}(h:Zgo i n r=sO v):0<=i/\i<n/\r=sO v:=by
 unfold Zgo at h;split at h<;>(try(grind;done));rename_i j;simp[ZhD]at j;exact⟨j.1,ω,h⟩
def ZaJ{a b}:Nat.ble a b=true↔a<=b:=by rw[Nat.ble_eq]
def Z8{a b}:Nat.beq a b=true↔a=b:=by rw[Nat.beq_eq]
def Zac{a b}:leI a b=true↔a<=b:=by rw[ZhD,decide_eq_true_eq]
def JA{a b}:eqI a b=true↔a=b:=by rw[ZjF,decide_eq_true_eq]
def isub(a b):Int.sub a b=a-b:=rfl
section
variable {C:Px} {J:Nm} {U:S} {s:St} {L:Loc}
def ZeX{b f v}(h:Zjx U b f=sO v):∃cs,Zbs (U.get b)=sO cs/\f cs=sO v:=by
 unfold Zjx at h;split at h;rename_i i;exact⟨_,i,h⟩;grind
def Zia(j:Sim C J U s){k b cs}(h:Zbs (U.get k)=sO cs)(n:J k=sO (.tip b)):∃ds ex,Ye s b=sO (ds++ex)/\VRs J cs ds:=by
 obtain⟨ds,ex,t,i⟩:=j.cells h n;exact⟨ds,ex,by simp[Ye,t],i⟩
def ZhC{cs ds}(ex)(h:VRs J cs ds){o v}(i:Zip o cs=sO v):∃d,(ds++ex)[o]?=sO d/\VR J v d:=by
 rw[Zlk]at i;obtain⟨d,j,n⟩:=h.get i;refine⟨d,?_,n⟩;rw[ZIc (List.getElem?_eq_some_iff.1 j).1];exact j
def ZtG{ds ex o n}(h:o+n<=I ds):part (ds++ex) o n=part ds o n:=by
 unfold part;rw[List.drop_append_of_le_length ω,List.take_append_of_le_length (by simp;omega)]
def Zmr{ds ex i o}(h:o+I i<=I ds):Zq (ds++ex) o i=Zq ds o i++ex:=by
 unfold Zq;rw[List.take_append_of_le_length ω,List.drop_append_of_le_length ω,ZIg,ZIg,ZIg]
def ZlF{cs ds}(ex)(h:VRs J cs ds){o n v}(i:ZkN cs o n=sO v):o+n<=(ds++ex).length/\VR J v (.agg (part (ds++ex) o n)):=by
 unfold ZkN at i;split at i<;>simp at i;rename_i r t;subst i;obtain⟨u,j⟩:=h.partv t;exact⟨by simp;omega,by rw[ZtG u];exact .agg _ _ j⟩
def ZbZ:∀{bs vs ds r},VRs J vs ds->Zay bs vs=sO r->WP bs (ds.map .d)=sO r
 | [],vs,ds,r,hv,h=>by
  cases vs with
  |nil=>obtain rfl:=hv.inv0;simpa[Zay,WP]using h
  |cons v vs=>cases h
 |true::bs,vs,ds,r,hv,h=>by
  cases vs with
  |nil=>cases h
  |cons v vs =>obtain⟨d,ds',rfl,n,j⟩:=hv.inv;cases n<;>simp[Zay]at h;obtain⟨q,i,rfl⟩:=h;simp[WP,ZbZ j i]
 |false::bs,vs,ds,r,hv,h=>by simp[Zay]at h;obtain⟨q,i,rfl⟩:=h;simp[WP,ZbZ hv i]
def ZBZ{t n τ}(j:J 1=sO .full)(u:t=0\/J t=sO τ){l h mx}:Zxv t n l h mx=0\/J (Zxv t n l h mx)=sO (Zcj τ n l h mx):=by
 unfold Zxv Zcj;cases mx with
 |some m =>simp only[JA];split;exact .inr j;exact .inl rfl
 |none =>simp only[JA,Z8];split;split;rename_i i;subst i;rcases u with h|h;simp at h;rw[j]at h;cases h;exact .inr j;split;rcases u with h|h;exact .inl h;refine .inr ?_;cases τ<;>simp_all;exact .inl rfl;exact .inl rfl
def Zy0(h1:J 1=sO .full){z lo hi mx x v d}(hx:VR J x d)(h:Zud z lo hi mx x=sO v):∃side r,Zbv z lo hi mx d=sO (side,r)/\side/\VR J v r:=by
 cases hx<;>simp only[Zud,reduceCtorEq]at h;case nilsl =>split at h<;>simp only[ZHE,reduceCtorEq]at h;rename_i hc;subst h;simp only[ZHN,JA]at hc;exact⟨_,_,rfl,⟨hc.1.1,hc.1.2,hc.2⟩,.nilsl⟩
 case sl t n s rs τ row hr hn ht =>split at h<;>(try(simp at h;done));rename_i hc;split at h<;>simp only[ZHE,reduceCtorEq]at h;rename_i r j;subst h;simp only[ZHN,Z8,Zac]at hc;obtain⟨⟨⟨⟨rfl,c1⟩,c2⟩,c3⟩,c4⟩:=hc;rw[JW]at j;obtain⟨l1,rfl⟩:=ZaD j;simp only[Zbv,if_true];refine⟨_,_,rfl,⟨c1,c2,c3,λm hm=>?_⟩,?_⟩;subst hm;simp only[ZCD,ZHN,Zac]at c4;exact c4;refine .sl _ _ _ _ _ _ ((hr.drop (lo.getD 0).toNat).take _) ?_ (ZBZ h1 ht);rw[ZHZ];exact Nat.min_eq_left l1
 case msl k b o n cap s hb =>split at h<;>(try(simp at h;done));rename_i hc;split at h<;>simp only[ZHE,reduceCtorEq]at h;rename_i i;subst h;simp only[ZHN,Z8,Zac]at hc i;obtain⟨⟨rfl,c1⟩,c2⟩:=hc;simp only[Zbv,if_true];refine⟨_,_,rfl,⟨c1,c2,i.1,i.2⟩,?_⟩;by_cases he:mx.getD (cap:Int)=lo.getD 0;rw[if_pos he,if_pos (JA.2 he)];exact .msl _ _ _ _ _ _ hb;rw[if_neg he,if_neg (λh=>he (JA.1 h))];exact .msl _ _ _ _ _ _ hb
 case gsl k b o n cap s c hb hb2 hcap hl =>
  split at h<;>(try(simp at h;done));rename_i hc;split at h<;>(try(simp at h;done));rename_i i;simp[Zac,JA,ZhD]at hc i;obtain⟨⟨rfl,c1⟩,c2⟩:=hc;obtain⟨c3,c4⟩:=i;simp only[Zbv,if_true];cases mx with
  |none =>
   cases h;refine⟨_,_,rfl,⟨c1,c2,by simp only[Option.getD_none];omega,ψ⟩,?_⟩;simp only[Option.getD_none];by_cases he:(cap:Int)=lo.getD 0;rw[if_pos he];rcases c4 with c4|c4;rw[c4]at he⊢;simp only[Int.toNat_zero,Nat.zero_mul,Nat.add_zero];exact .gsl _ _ _ _ _ _ c hb hb2 (by rw[isub];omega) (by have:=Nat.le_trans (Nat.le_add_right o (cap*s)) hl;rw[he];simpa using this);omega;rw[if_neg he];refine .gsl _ _ _ _ _ _ c hb hb2 (by rw[isub];omega) ?_;have e:(lo.getD 0).toNat+((cap:Int)-lo.getD 0).toNat=cap:=ω
   calc o+(lo.getD 0).toNat*s+((cap:Int)-lo.getD 0).toNat*s=o+((lo.getD 0).toNat+((cap:Int)-lo.getD 0).toNat)*s:=by rw[ZIa];omega
    _=o+cap*s:=by rw[e]
    _<=c:=hl
  |some m =>simp only at h;split at h<;>simp at h;rename_i u;simp only[ZHN,Zac]at u;subst h;refine⟨_,_,rfl,⟨c1,c2,by simpa using u.1,by simp only[ZIk];omega⟩,?_⟩;simp only[ZIk];by_cases he:m=lo.getD 0;rw[if_pos he,if_pos (JA.2 he)];exact .msl _ _ _ _ _ _ hb;rw[if_neg he,if_neg (λh=>he (JA.1 h))];exact .msl _ _ _ _ _ _ hb
def Zs7:∀{cells ps vs r u ds},VRs J cells u->VRs J vs ds->ZrZ cells ps vs=sO r->∃rd,Zca u ps ds=sO rd/\VRs J r rd
 |cells,[],vs,r,u,ds,hc,hv,h=>by
  cases vs with
  |nil =>obtain rfl:=hv.inv0;cases h;exact⟨_,rfl,hc⟩
  |cons v vs=>cases h
 |cells,(o,n)::ps,vs,r,u,ds,hc,hv,h=>by
  cases vs with
  |nil=>cases h
  |cons v vs =>
   obtain⟨d,ds',rfl,z,h2⟩:=hv.inv;simp only[ZrZ]at h;split at h<;>(try(grind;done));rename_i hp;split at h<;>(try(grind;done));rename_i cs t;have i:VRs J (Zgb v) (cellsOf d):=by cases z<;>first|exact .one (by constructor<;>assumption)|assumption
   have j:Km d=true:=by cases z<;>first|rfl|cases hp
   obtain⟨e0,e1,e2⟩:=hc.over i t;obtain⟨rd,e3,e4⟩:=Zs7 e2 h2 h;refine⟨rd,?_,e4⟩;simp only[Zca];rw[if_pos ⟨j,by rw[<-i.len,e0],e1⟩];exact e3
def Zq3{b o n cap cs r ds ex l}(e0:Ye s b=sO (ds++ex))(u:VRs J cs ds)(t:o+n<=I cs)(z:ZbL n (Zb9 o cs)=sO r)(hl:ZnE r=sO l):
  ∃side d,qv L s (.conv .b2s) ([D.msl b o n cap 1].map .d)=sO (side,.d d)/\side/\VR J (.str l) d:=by
 rw[JW]at z;obtain⟨l1,rfl⟩:=ZaD z;have hlen:o+n<=I ds:=by rw[<-u.len];exact t
 obtain⟨i1,i2⟩:=((u.drop o).take n).bytes hl;have hn:((cs.drop o).take n).length=n:=by rw[ZHZ];exact Nat.min_eq_left l1
 rw[hn]at i1 i2;have hp:∀i,i<n->part (ds++ex) (o+i) 1=part ((ds.drop o).take n) i 1:=λi j=>by
  rw[ZtG ω];unfold part;rw[List.drop_take,List.take_take,List.drop_drop]
  congr 1;omega
 refine⟨o+n<=(ds++ex).length/\∀i,i<n->Zis (part (ds++ex) (o+i) 1),.str ((ZHT n).map λi=>Zbx (part (ds++ex) (o+i) 1)),by simp[qv,e0],⟨by simp;omega,λi j=>by rw[hp i j];exact i1 i j⟩,?_⟩;have:((ZHT n).map λi=>Zbx (part (ds++ex) (o+i) 1))=l.map UInt8.ofNat:=by rw[i2];exact List.map_congr_left λi j=>by simp_all
 rw[this];exact .str _
def ZDl(a b):(if leI a b=true then a else b)=Min.min a b:=by simp[Zac];exact(Int.min_def a b).symm
def ZDk(a b):(if leI a b=true then b else a)=Max.max a b:=by simp[Zac];exact(Int.max_def a b).symm
def Zw3(hS:Sim C J U s)(h1:J 1=sO .full){q vs ds}(hv:VRs J vs ds){v}(h:qV q U vs=sO v):∃side d,qv L s q (ds.map .d)=sO (side,.d d)/\side/\VR J v d:=by
 cases q<;>(try simp only[qV]at h);case mv =>obtain⟨x,rfl,hh⟩:=W6 h;replace h:=hh;clear hh;obtain⟨d,rfl,hx⟩:=hv.inv1;simp only[ZHE]at h;subst h;exact⟨True,d,rfl,trivial,hx⟩
 case nilck =>obtain⟨x,rfl,hh⟩:=W6 h;replace h:=hh;clear hh;obtain⟨d,rfl,hx⟩:=hv.inv1;cases hx<;>simp only[reduceCtorEq,ZHE]at h<;>subst h;exact⟨True,_,rfl,trivial,by constructor;assumption⟩;exact⟨True,_,rfl,trivial,by constructor;assumption⟩;exact⟨True,_,rfl,trivial,by constructor<;>assumption⟩;exact⟨True,_,rfl,trivial,by constructor;assumption⟩
 case load1 =>
  obtain⟨x,rfl,hh⟩:=W6 h;replace h:=hh;clear hh;obtain⟨d,rfl,hx⟩:=hv.inv1;cases hx<;>simp only[reduceCtorEq]at h;case ep cs o ds hc =>obtain⟨d,e1,e2⟩:=ZhC [] hc h;rw[ZH8]at e1;exact⟨True,d,by simp only[ZHY,ZIf,qv,Wx,e1,ZId],trivial,e2⟩
  case ptr k b o hb =>obtain⟨cs,hg,hh⟩:=ZeX h;replace h:=hh;clear hh;obtain⟨ds,ex,e0,e1⟩:=Zia hS hg hb;obtain⟨d,e2,e3⟩:=ZhC ex e1 h;exact⟨True,d,by simp only[ZHY,ZIf,qv,Wx,e0,e2,ZId],trivial,e3⟩
 case loadN n =>
  obtain⟨x,rfl,hh⟩:=W6 h;replace h:=hh;clear hh;obtain⟨d,rfl,hx⟩:=hv.inv1;cases hx<;>simp only[reduceCtorEq]at h;case ep cs o ds hc =>obtain⟨e1,e2⟩:=ZlF [] hc h;rw[ZH8]at e1 e2;exact⟨_,_,by simp only[ZHY,ZIf,qv,KB,ZId]<;>rfl,e1,e2⟩
  case ptr k b o hb =>obtain⟨cs,hg,hh⟩:=ZeX h;replace h:=hh;clear hh;obtain⟨ds,ex,e0,e1⟩:=Zia hS hg hb;obtain⟨e2,e3⟩:=ZlF ex e1 h;exact⟨_,_,by simp only[ZHY,ZIf,qv,KB,e0,ZId]<;>rfl,e2,e3⟩
 case bin op p =>obtain⟨x,y,rfl,hh⟩:=Zeg h;replace h:=hh;clear hh;obtain⟨d,d',rfl,hx,hy⟩:=hv.inv2;obtain⟨side,r,e1,e2,e3⟩:=ZBD hx hy h;exact⟨side,r,by simp only[ZHY,ZIf,qv,e1,ZId],e2,e3⟩
 case not =>obtain⟨x,rfl,hh⟩:=W6 h;replace h:=hh;clear hh;obtain⟨d,rfl,hx⟩:=hv.inv1;cases hx<;>simp only[reduceCtorEq,ZHE]at h;subst h;exact⟨True,_,rfl,trivial,.bool _⟩
 case neg =>obtain⟨x,rfl,hh⟩:=W6 h;replace h:=hh;clear hh;obtain⟨d,rfl,hx⟩:=hv.inv1;cases hx<;>simp only[reduceCtorEq]at h;obtain⟨rfl,hr⟩:=ZcF h;exact⟨_,_,rfl,hr,.int _ _⟩
 case xorm =>obtain⟨x,rfl,hh⟩:=W6 h;replace h:=hh;clear hh;obtain⟨d,rfl,hx⟩:=hv.inv1;cases hx<;>simp only[reduceCtorEq,ZHE]at h;subst h;exact⟨True,_,rfl,trivial,.int _ _⟩
 case conv c =>
  cases c<;>simp only at h;case int k =>obtain⟨x,rfl,hh⟩:=W6 h;replace h:=hh;clear hh;obtain⟨d,rfl,hx⟩:=hv.inv1;cases hx<;>simp only[reduceCtorEq,ZHE]at h;subst h;simp only[ZHY,ZIf,qv];split;exact⟨True,_,rfl,trivial,.int _ _⟩;exact⟨True,_,rfl,trivial,.int _ _⟩
  case str =>obtain⟨x,rfl,hh⟩:=W6 h;replace h:=hh;clear hh;obtain⟨d,rfl,hx⟩:=hv.inv1;cases hx<;>simp only[reduceCtorEq,ZHE]at h;subst h;exact⟨True,_,rfl,trivial,.str _⟩
  case i2s =>
   obtain⟨x,rfl,hh⟩:=W6 h;replace h:=hh;clear hh;obtain⟨d,rfl,hx⟩:=hv.inv1;cases hx<;>simp only[reduceCtorEq]at h;obtain⟨hb,hh⟩:=ZE h;replace h:=hh;clear hh;rw[ZaJ]at hb;simp only[ZHE]at h;subst h;refine⟨_,_,rfl,hb,?_⟩;have:=VR.str (J:=J) ((Utf8.encode ‹Int›).data.toList.map UInt8.toNat)
   rwa [Zmj]at this
  case b2s =>
   obtain⟨x,rfl,hh⟩:=W6 h;replace h:=hh;clear hh;obtain⟨d,rfl,hx⟩:=hv.inv1;cases hx<;>simp only[reduceCtorEq]at h;case nilsl =>simp only[ZHE]at h;subst h;exact⟨True,_,rfl,trivial,.str []⟩
   case sl t n z rs τ row hr hn ht =>obtain⟨hb,hh⟩:=ZE h;replace h:=hh;clear hh;rw[Z8]at hb;subst hb;simp only[ZHS]at h;obtain⟨l,hl,rfl⟩:=h;obtain⟨e1,e2⟩:=hr.bytes hl;subst hn;refine⟨_,_,by simp only[ZHY,ZIf,qv,if_true]<;>rfl,e1,?_⟩;rw[<-e2];exact .str _
   case msl k b o n cap z hb =>obtain⟨hz,hh⟩:=ZE h;replace h:=hh;clear hh;rw[Z8]at hz;subst hz;obtain⟨cs,hg,hh⟩:=ZeX h;replace h:=hh;clear hh;obtain⟨ds,ex,e0,e1⟩:=Zia hS hg hb;obtain⟨j,hh⟩:=ZE h;replace h:=hh;clear hh;rw[ZaJ]at j;split at h<;>simp only[reduceCtorEq,ZHS]at h;rename_i r hr;obtain⟨l,hl,rfl⟩:=h;exact Zq3 e0 e1 j hr hl
   case gsl k b o n cap z c hb hb2 hcap hl =>obtain⟨hz,hh⟩:=ZE h;replace h:=hh;clear hh;rw[Z8]at hz;subst hz;obtain⟨cs,hg,hh⟩:=ZeX h;replace h:=hh;clear hh;obtain⟨ds,ex,e0,e1⟩:=Zia hS hg hb;obtain⟨j,hh⟩:=ZE h;replace h:=hh;clear hh;rw[ZaJ]at j;split at h<;>simp only[reduceCtorEq,ZHS]at h;rename_i r hr;obtain⟨l,hl,rfl⟩:=h;exact Zq3 e0 e1 j hr hl
 case faddr off =>obtain⟨x,rfl,hh⟩:=W6 h;replace h:=hh;clear hh;obtain⟨d,rfl,hx⟩:=hv.inv1;cases hx<;>simp only[reduceCtorEq,ZHE]at h<;>subst h;exact⟨True,_,rfl,trivial,by constructor;assumption⟩;exact⟨True,_,rfl,trivial,by constructor;assumption⟩
 case fld1 off =>obtain⟨x,rfl,hh⟩:=W6 h;replace h:=hh;clear hh;obtain⟨d,rfl,hx⟩:=hv.inv1;cases hx<;>simp only[reduceCtorEq]at h;rename_i cs ds hc;obtain⟨d,e1,e2⟩:=ZhC [] hc h;rw[ZH8]at e1;exact⟨True,d,by simp only[ZHY,ZIf,qv,e1,ZId],trivial,e2⟩
 case fldN off n =>obtain⟨x,rfl,hh⟩:=W6 h;replace h:=hh;clear hh;obtain⟨d,rfl,hx⟩:=hv.inv1;cases hx<;>simp only[reduceCtorEq]at h;rename_i cs ds hc;obtain⟨e1,e2⟩:=ZlF [] hc h;rw[ZH8]at e1 e2;exact⟨_,_,rfl,e1,e2⟩
 case iaddr z =>
  obtain⟨x,y,rfl,hh⟩:=Zeg h;replace h:=hh;clear hh;obtain⟨d,d',rfl,hx,hy⟩:=hv.inv2;cases hy<;>simp only[reduceCtorEq]at h;cases hx<;>simp only[reduceCtorEq]at h;case int.sl k i t n z' rs τ row hr hn ht =>obtain⟨hz,hh⟩:=ZE h;replace h:=hh;clear hh;rw[Z8]at hz;obtain⟨i0,i1,hh⟩:=ZcE h;replace h:=hh;clear hh;split at h<;>simp only[reduceCtorEq,ZHE]at h;rename_i cs ad;rw[Zlk]at ad;obtain⟨cs',e1,e2,_⟩:=hr.get ad;simp only[V.agg.injEq]at e1;subst e1;subst h;exact⟨_,_,by simp only[ZHY,ZIf,qv,hz,if_true]<;>rfl,ZHG i0 i1,.ep _ _ _ e2⟩
  case int.msl k i kb b o n cap z' hb =>obtain⟨hz,hh⟩:=ZE h;replace h:=hh;clear hh;rw[Z8]at hz;obtain⟨i0,i1,hh⟩:=ZcE h;replace h:=hh;clear hh;simp only[ZHE]at h;subst h;exact⟨_,_,by simp only[ZHY,ZIf,qv,hz,if_true]<;>rfl,ZHG i0 i1,.ptr _ _ _ hb⟩
  case int.gsl k i kb b o n cap z' c hb hb2 hcap hl =>obtain⟨hz,hh⟩:=ZE h;replace h:=hh;clear hh;rw[Z8]at hz;obtain⟨i0,i1,hh⟩:=ZcE h;replace h:=hh;clear hh;simp only[ZHE]at h;subst h;exact⟨_,_,by simp only[ZHY,ZIf,qv,hz,if_true]<;>rfl,ZHG i0 i1,.ptr _ _ _ hb⟩
 case iaddrA m z =>obtain⟨x,y,rfl,hh⟩:=Zeg h;replace h:=hh;clear hh;obtain⟨d,d',rfl,hx,hy⟩:=hv.inv2;cases hy<;>simp only[reduceCtorEq]at h;cases hx<;>simp only[reduceCtorEq]at h<;>obtain⟨i0,i1,h⟩:=ZcE h<;>simp only[ZHE]at h<;>subst h;exact⟨_,_,rfl,ZHG i0 i1,by constructor;assumption⟩;exact⟨_,_,rfl,ZHG i0 i1,by constructor;assumption⟩
 case idxA m z one =>obtain⟨x,y,rfl,hh⟩:=Zeg h;replace h:=hh;clear hh;obtain⟨d,d',rfl,hx,hy⟩:=hv.inv2;cases hy<;>simp only[reduceCtorEq]at h;cases hx<;>simp only[reduceCtorEq]at h;rename_i k i cs ds hc;obtain⟨i0,i1,hh⟩:=ZcE h;replace h:=hh;clear hh;cases one;simp only[ZIe,if_false]at h;obtain⟨e1,e2⟩:=ZlF [] hc h;rw[ZH8]at e1 e2;exact⟨_,_,rfl,⟨i0,i1,e1⟩,e2⟩;simp only[if_true]at h;obtain⟨d,e1,e2⟩:=ZhC [] hc h;rw[ZH8]at e1;exact⟨_,d,by simp only[ZHY,ZIf,qv,e1,ZId]<;>rfl,ZHG i0 i1,e2⟩
 case sliceA m z lo hi mx =>
  cases vs with
  |nil=>simp at h
  |cons x r =>
  obtain⟨d,ac,rfl,hx,hr⟩:=hv.inv;cases hx<;>simp only[reduceCtorEq]at h;rename_i k b o hb;split at h<;>(try(simp at h;done));rename_i l hh mm u;obtain⟨hc,hh⟩:=ZE h;replace h:=hh;clear hh;simp only[ZHE]at h;subst h;simp only[ZHN,Zac,ZaJ]at hc;have e:=ZbZ hr u;simp only[ZHY,qv,e];refine⟨_,_,rfl,⟨hc.1.1.1.1,hc.1.1.1.2,hc.1.1.2,hc.1.2,hc.2⟩,?_⟩;by_cases he:mm.getD (m:Int)=l.getD 0;rw[if_pos he,if_pos (JA.2 he)];exact .msl _ _ _ _ _ _ hb;rw[if_neg he,if_neg (λh=>he (JA.1 h))];exact .msl _ _ _ _ _ _ hb
 case idxS =>
  obtain⟨x,y,rfl,hh⟩:=Zeg h;replace h:=hh;clear hh;obtain⟨d,d',rfl,hx,hy⟩:=hv.inv2;cases hy<;>simp only[reduceCtorEq]at h;cases hx<;>simp only[reduceCtorEq]at h;rename_i k i l;obtain⟨i0,i1,hh⟩:=ZcE h;replace h:=hh;clear hh;simp only[ZHE]at h;subst h;refine⟨_,_,rfl,⟨i0,by simpa using i1⟩,?_⟩;have:(((l.map UInt8.ofNat).getD i.toNat 0).toNat:Int)=Int.ofNat (l.getD i.toNat 0 % 256):=by simp only[ZHU,List.getElem?_map];cases l[i.toNat]?<;>simp
  rw[this];exact .int _ _
 case lenS =>obtain⟨x,rfl,hh⟩:=W6 h;replace h:=hh;clear hh;obtain⟨d,rfl,hx⟩:=hv.inv1;cases hx<;>simp only[reduceCtorEq,ZHE]at h;subst h;refine⟨True,_,rfl,trivial,?_⟩;rw[List.length_map];exact .int _ _
 case lenL =>obtain⟨x,rfl,hh⟩:=W6 h;replace h:=hh;clear hh;obtain⟨d,rfl,hx⟩:=hv.inv1;cases hx<;>simp only[reduceCtorEq,ZHE]at h<;>subst h<;>exact⟨True,_,rfl,trivial,.int _ _⟩
 case lenA n =>obtain⟨x,rfl,hh⟩:=W6 h;replace h:=hh;clear hh;obtain⟨d,rfl,hx⟩:=hv.inv1;obtain⟨hb,hh⟩:=ZE h;replace h:=hh;clear hh;rw[ZaJ]at hb;simp only[ZHE]at h;subst h;exact⟨_,_,rfl,Qd hb,.int _ _⟩
 case ext k =>obtain⟨x,rfl,hh⟩:=W6 h;replace h:=hh;clear hh;obtain⟨d,rfl,hx⟩:=hv.inv1;cases hx<;>simp only[reduceCtorEq]at h;rename_i cs ds hc;obtain⟨d,e1,e2⟩:=ZhC [] hc h;rw[ZH8]at e1;exact⟨True,d,by simp only[ZHY,ZIf,qv,e1,ZId],trivial,e2⟩
 case build zero parts =>cases hz:ofDs zero<;>simp only[hz,reduceCtorEq,ZHS]at h;rename_i z;obtain⟨r,hr,rfl⟩:=h;obtain⟨rd,e1,e2⟩:=Zs7 (ofDs_ok hz) hv hr;exact⟨True,_,by simp only[qv,Zbj,e1,ZId]<;>rfl,trivial,.agg _ _ e2⟩
 case mkfn f k =>cases f<;>simp only[reduceCtorEq,ZHE]at h;subst h;exact⟨True,_,by simp only[qv,Zbj,ZId]<;>rfl,trivial,.fn _ _ _ _ _ (hv.take k) (hv.drop k)⟩
 case mkif t =>obtain⟨x,rfl,hh⟩:=W6 h;replace h:=hh;clear hh;obtain⟨d,rfl,hx⟩:=hv.inv1;simp only[ZHE]at h;subst h;exact⟨True,_,rfl,trivial,.iface _ _ _ hx⟩
 case sliceS lo hi =>
  cases vs with
  |nil=>simp at h
  |cons x r =>
  obtain⟨d,ac,rfl,hx,hr⟩:=hv.inv;cases hx<;>simp only[reduceCtorEq]at h;rename_i l;split at h<;>(try(simp at h;done));rename_i a b c u;obtain⟨hc,hh⟩:=ZE h;replace h:=hh;clear hh;simp only[ZHE]at h;subst h;simp only[ZHN,Zac]at hc;have e:=ZbZ hr u;simp only[ZHY,qv,e,List.length_map];refine⟨_,_,rfl,⟨hc.1.1,hc.1.2,hc.2⟩,?_⟩;rw[<-List.map_drop,<-List.map_take];exact .str _
 case slice z lo hi mx =>
  cases vs with
  |nil=>simp at h
  |cons x r =>
  obtain⟨d,ac,rfl,hx,hr⟩:=hv.inv;simp only at h;split at h<;>(try(simp at h;done));rename_i l hh m u;have e:=ZbZ hr u;obtain⟨side,r',e1,e2,e3⟩:=Zy0 h1 hx h;exact⟨side,r',by simp only[ZHY,qv,e,e1,ZId],e2,e3⟩
 case min =>obtain⟨x,y,rfl,hh⟩:=Zeg h;replace h:=hh;clear hh;obtain⟨d,d',rfl,hx,hy⟩:=hv.inv2;cases hx<;>simp only[reduceCtorEq]at h;cases hy<;>simp only[reduceCtorEq]at h;obtain⟨hk,hh⟩:=ZE h;replace h:=hh;clear hh;obtain rfl:=ZfC hk;simp only[ZHE]at h;subst h;refine⟨True,_,by simp only[ZHY,ZIf,qv,if_true]<;>rfl,trivial,?_⟩;rw[ZDl];exact .int _ _
 case max =>obtain⟨x,y,rfl,hh⟩:=Zeg h;replace h:=hh;clear hh;obtain⟨d,d',rfl,hx,hy⟩:=hv.inv2;cases hx<;>simp only[reduceCtorEq]at h;cases hy<;>simp only[reduceCtorEq]at h;obtain⟨hk,hh⟩:=ZE h;replace h:=hh;clear hh;obtain rfl:=ZfC hk;simp only[ZHE]at h;subst h;refine⟨True,_,by simp only[ZHY,ZIf,qv,if_true]<;>rfl,trivial,?_⟩;rw[ZDk];exact .int _ _
 case tassert t ok zero =>cases ok<;>simp only at h;obtain⟨x,rfl,hh⟩:=W6 h;replace h:=hh;clear hh;obtain⟨d,rfl,hx⟩:=hv.inv1;cases hx<;>simp only[reduceCtorEq]at h;obtain⟨ht,hh⟩:=ZE h;replace h:=hh;clear hh;rw[Z8]at ht;simp only[ZHE]at h;subst h;exact⟨True,_,by simp only[ZHY,ZIf,qv,ht,if_true]<;>rfl,trivial,by assumption⟩;obtain⟨x,rfl,hh⟩:=W6 h;replace h:=hh;clear hh;obtain⟨d,rfl,hx⟩:=hv.inv1;cases hx<;>simp only[reduceCtorEq]at h;obtain⟨ht,hh⟩:=ZE h;replace h:=hh;clear hh;rw[Z8]at ht;simp only[ZHE]at h;subst h;exact⟨True,_,by simp only[ZHY,ZIf,qv,ht,if_true]<;>rfl,trivial,.tup _ _ (.cons _ _ _ _ ‹_› (.one (.bool _)))⟩;simp only[ZHS]at h;obtain⟨z,hz,rfl⟩:=h;exact⟨True,_,rfl,trivial,.tup _ _ (.cons _ _ _ _ (ZhE hz) (.one (.bool _)))⟩
 case lookup kp zero ok =>cases hz:ofD zero<;>simp only[hz,reduceCtorEq]at h;rename_i z;obtain⟨x,y,rfl,hh⟩:=Zeg h;replace h:=hh;clear hh;obtain⟨d,d',rfl,hx,hy⟩:=hv.inv2;obtain⟨hk,hh⟩:=ZE h;replace h:=hh;clear hh;have ae:=Zgs hy hk;cases hx<;>simp only[reduceCtorEq]at h;rename_i k b hb;split at h<;>simp only[reduceCtorEq,ZHS]at h;rename_i es ab;obtain⟨r,hr,rfl⟩:=h;obtain⟨af,e1,e2⟩:=hS.mapO ab hb;obtain⟨r',e3,e4⟩:=Ztb hy e2 hr;exact⟨_,_,by simp only[ZHY,ZIf,qv,Qe,e1,e3,ZId]<;>rfl,ae,Zts (ZhE hz) e4⟩;simp only[ZHE]at h;subst h;exact⟨_,_,rfl,ae,Zts (r':=nO) (ZhE hz) trivial⟩
 case lenM =>
  obtain⟨x,rfl,hh⟩:=W6 h;replace h:=hh;clear hh;obtain⟨d,rfl,hx⟩:=hv.inv1;cases hx<;>simp only[reduceCtorEq]at h;·rename_i k b hb;split at h<;>(try(simp at h;done));rename_i es ab;obtain⟨hl,hh⟩:=ZE h;replace h:=hh;clear hh;rw[ZaJ]at hl;simp only[ZHE]at h;subst h;obtain⟨af,e1,e2⟩:=hS.mapO ab hb;refine⟨_,_,by simp only[ZHY,ZIf,qv,Qe,e1]<;>rfl,by rw[<-e2.len];exact hl,?_⟩;rw[<-e2.len];exact .int _ _
  simp only[ZHE]at h;subst h;exact⟨True,_,rfl,trivial,.int _ _⟩
end
section
variable {C:Px} {J:Nm} {U:S} {s:St} {L:Loc} {H:T W} {ρd:Env} {nx:Nat}
def Zzd:∀(l:List Nat) (k),VRr J 1 (u8V (l.drop k)) (λi=>[D.int .u8 (((l.map UInt8.ofNat).getD (k+i) 0).toNat:Int)])
 |l,k=>by
  have key:∀(m:List Nat) (k:Nat),l.drop k=m->VRr J 1 (u8V m) (λi=>[D.int .u8 (((l.map UInt8.ofNat).getD (k+i) 0).toNat:Int)]):=by
   intro m;induction m with
   |nil=>intro k _;exact .nil _ _
   |cons a m ih =>
    intro k j;have t:l[k]?=sO a:=by have:=congrArg (λx=>x[0]?) j;simpa using this
    have n:l.drop (k+1)=m:=by have:=congrArg List.tail j;simpa using this
    refine .cons 1 _ _ _ ?_ rfl ((ih (k+1) n).congr λi _=>by rw[show k+1+i=k+(i+1) by omega]);have:(((l.map UInt8.ofNat).getD (k+0) 0).toNat:Int)=Int.ofNat (a % 256):=by simp[t]
    rw[this];exact .one (.int _ _)
  exact key _ k rfl
def ZvA{z n}(j:VRs J z n){i}:∀{is:List Nat} {vs ds},VRs J vs ds->VRs J (ZgZ z (is.zip vs) i) (ZY n (is.zip ds) i)
 | [],vs,ds,h=>by simpa[ZgZ,ZY]using j
 |k::is,vs,ds,h=>by
  cases vs with
  |nil=>obtain rfl:=h.inv0;simpa[ZgZ,ZY]using j
  |cons v vs =>
   obtain⟨d,ds',rfl,u,t⟩:=h.inv;simp[ZgZ,ZY];by_cases hk:k=i;simp_all;cases u<;>first|exact .one (by constructor<;>assumption)|assumption
   simp_all;exact ZvA j t
def ZkR{v}{d}(h:VR J v d):VRs J (Zgb v) (cellsOf d):=by
 cases h<;>first|exact .one (by constructor<;>assumption)|assumption
def Znl{v d}(h:VR J v d)(i:Zpf v=true):Km d=true:=by
 cases h<;>first|rfl|cases i
def Zum{v d}(h:VR J v d)(i:Zxy v=true):Qm d=true:=by
 cases h<;>first|rfl|cases i
def Zj2{n}:∀{vs ds},VRs J vs ds->ZfL n vs=true->Qz n ds=true
 | [],ds,h,hp=>by obtain rfl:=h.inv0;rfl
 |v::vs,ds,h,hp=>by obtain⟨d,ds',rfl,i,j⟩:=h.inv;simp[ZfL]at hp;simp[Qz];exact⟨⟨Znl i hp.1.1,by rw[<-(ZkR i).len];exact hp.1.2⟩,Zj2 j hp.2⟩
def Ztr{n z}(j:I z=n){i}:∀{is:List Nat} {vs},ZfL n vs=true->(ZgZ z (is.zip vs) i).length=n
 | [],vs,_=>by simpa[ZgZ]using j
 |k::is,[],_=>by simpa[ZgZ]using j
 |k::is,v::vs,hp=>by simp[ZfL]at hp;simp[ZgZ];split;exact hp.1.2;exact Ztr j hp.2
def Zm2{n z u}(hz:VRs J z u)(t:I z=n){is:List Nat}{vs ds}(hv:VRs J vs ds)(hp:ZfL n vs=true):∀(len i),VRr J n (Zln z (is.zip vs) len i) (λj=>ZY u (is.zip ds) (i+j))/\(Zln z (is.zip vs) len i).length=len
 |0,i=>⟨.nil _ _,rfl⟩
 |len+1,i=>by obtain⟨h1,h2⟩:=Zm2 hz t hv hp len (i+1);refine⟨.cons _ _ _ _ (ZvA hz hv) (Ztr t hp) (h1.congr λj _=>by rw[show i+1+j=i+(j+1) by omega]),by simp[Zln,h2]⟩
def Zq5(hS:Sim C J U s)(h1:J 1=sO .full)(hρ:Ya J L H ρd){dst g}(hg:Zo ρd g=sO true){k r}(hk:YQ k=true){db}(h:(opF false db k).run H U nx=sO r):
  r.U=U/\r.nx=nx/\∃side e,side/\ZG ⟨dst,g,k⟩ ρd L s=.ok side (Zz ρd dst e) L s/\WR J L (.v r.v) e:=by
 have fin:∀{side:Prop} {d:D} {v:V},side->VR J v d->ZG ⟨dst,g,k⟩ ρd L s=(match g with
   |none=>.ok side (Zz ρd dst (.d d)) L s
   |some _=>.ok (true=true->side) (Zz ρd dst (.when true (.d d))) L s)->∃side e,side/\ZG ⟨dst,g,k⟩ ρd L s=.ok side (Zz ρd dst e) L s/\WR J L (.v v) e:=by
  intro side d v hs hv t;cases g with
  |none=>exact⟨side,.d d,hs,t,d,hv,.inl rfl⟩
  |some x=>exact⟨_,.when true (.d d),λ_=>hs,t,d,hv,.inr rfl⟩
 cases k<;>simp only[YQ,ZIe]at hk;case q q xs =>simp only[opF]at h;split at h<;>(try(simp at h;done));rename_i vs j;split at h<;>simp only[ZHE,reduceCtorEq]at h;rename_i v hv;subst h;obtain⟨p,ds,a1,a2,a3⟩:=Zbd hρ j;obtain⟨side,d,b1,b2,b3⟩:=Zw3 (L:=L) hS h1 a3 hv;refine⟨rfl,rfl,fin (side:=p/\side) ⟨a2,b2⟩ b3 ?_⟩;unfold ZG;simp only[hg,a1,b1];cases g<;>rfl
 case pick c a b =>
  simp only[opF]at h;unfold mp2 at h;split at h<;>(try(simp at h;done));rename_i cv hc;obtain⟨pc,dc,c1,c2,c3⟩:=K0 hρ hc;cases c3<;>simp only[reduceCtorEq]at h;rename_i cb;have u:∀{x y:Opd} {yb:Bool},(ZjZ x).run H=true->(Y7 y).run H=sO (.bool yb)->(∃p z,ZD ρd false x=sO (p,.d (.bool z))/\p)/\∃p,ZD ρd true y=sO (p,.d (.bool yb))/\p:=by intro x y yb hx hy;obtain⟨p,d,e1,e2,e3⟩:=K0 hρ hy;cases e3;exact⟨ZyF hρ hx rfl,p,e1,e2⟩
  cases cb;·simp only at h;obtain⟨hb,h⟩:=ZE h;split at h<;>(try(simp at h;done));rename_i yv hy;split at h<;>cases h;obtain⟨⟨p1,z,e1,e2⟩,p2,e3,e4⟩:=u hb hy;refine⟨rfl,rfl,fin (side:=pc/\p1/\p2) ⟨c2,e2,e4⟩ (.bool _) ?_⟩;unfold ZG Zd7;simp[hg,c1,e1,e3];cases g<;>rfl
  simp only at h;obtain⟨hb,h⟩:=ZE h;split at h<;>(try(simp at h;done));rename_i yv hy;split at h<;>cases h;obtain⟨⟨p1,z,e1,e2⟩,p2,e3,e4⟩:=u hb hy;refine⟨rfl,rfl,fin (side:=pc/\p2/\p1) ⟨c2,e4,e2⟩ (.bool _) ?_⟩;unfold ZG Zd7;simp[hg,c1,e1,e3];cases g<;>rfl
 case bsl len n z is xs =>simp only[opF]at h;cases hz:ofDs z<;>simp only[hz,reduceCtorEq]at h;rename_i zv;split at h<;>(try(simp at h;done));rename_i vs j;obtain⟨hb,h⟩:=ZE h;cases h;simp only[ZHN,Z8]at hb;obtain⟨p,ds,a1,a2,a3⟩:=Zbd hρ j;obtain⟨l1,l2⟩:=Zm2 (is:=is) (ofDs_ok hz) hb.2 a3 hb.1 len 0;refine⟨rfl,rfl,fin (side:=p/\Qz n ds=true) ⟨a2,Zj2 a3 hb.1⟩ (.sl 1 len n _ .full (ZY z (is.zip ds)) (l1.congr λi _=>by rw[Nat.zero_add]) l2 (.inr h1)) ?_⟩;unfold ZG;simp only[hg,a1,Zbj];cases g<;>rfl
 case s2b x =>simp only[opF]at h;unfold mp2 at h;split at h<;>(try(simp at h;done));rename_i xv hx;obtain⟨p,d,a1,a2,a3⟩:=K0 hρ hx;cases a3<;>simp only[reduceCtorEq,ZHE]at h;rename_i l;subst h;refine⟨rfl,rfl,fin (side:=p) a2 (.sl 0 (I l) 1 (u8V l) .none _ (Zzd l 0) (by simp[u8V]) (.inl rfl)) ?_⟩;unfold ZG;simp only[hg,a1,List.length_map,Nat.zero_add];cases g<;>rfl
end
def Wh(C:Px)(J:Nm)(r:R3)(e:E)(s2:St):Prop:=∃J',J.Sub J'/\YJ J' r.nx/\Sim C J' r.U s2/\∃d,VR J' r.v d/\e=.d d
def OR.cells0{C J k vs ds}(h:VRs J vs ds):OR C J k (.cells vs) (.cells ds):=by
 simpa using OR.cells (C:=C) (k0:=k) vs ds [] h
def ZuU{cs i o}(h:o+I i<=I cs):(Zq cs o i).length=I cs:=by
 simp[Zq];omega
def J9{s b cs}(h:s b=sO (.cells cs)):Ye s b=sO cs:=by simp[Ye,h]
section
variable {C:Px} {J:Nm} {U:S} {s:St} {L:Loc} {H:T W} {ρd:Env} {nx:Nat}
def WQ{x f r}(h:mp2 x f=sO r):∃v,x=sO v/\f v=sO r:=by
 cases x with
 |none=>cases h
 |some v=>exact⟨v,rfl,h⟩
def Zul{x v r}(h:up x v nx=sO r):∃U',x=sO U'/\r=⟨v,U',nx⟩:=by
 cases x with
 |none=>cases h
 |some U'=>simp[up]at h;exact⟨U',rfl,h.symm⟩
def Wh.new(hS:Sim C J U s)(hN:YJ J nx){b}(hb:s b=nO){o d}(ho:OR C (J.put nx (.tip b)) nx o d){v e}(hv:VR (J.put nx (.tip b)) v e)(hr:Zco o=false:=by rfl):Wh C J ⟨v,U.set (sO o) nx,nx+1⟩ (.d e) (s.upd b d) :=
 ⟨_,Nm.put_sub (hN.free nx (ZHV _)) _,hN.put _,hS.new (hN.free nx (ZHV _)) hb ho hr,e,hv,rfl⟩
def Wh.turn(hS:Sim C J U s)(hN:YJ J nx){k b o o' d}(h:U.get k=sO o)(hb:J k=sO (.tip b))(ho:OR C J k o' d){v e}(hv:VR J v e)(hr:Zco o=false:=by rfl)(hr':Zco o'=false:=by rfl):Wh C J ⟨v,U.set (sO o') k,nx⟩ (.d e) (s.upd b d) :=
 ⟨J,Nm.Sub.refl _,hN,hS.upd h hb ho hr hr',e,hv,rfl⟩
def ZkM(hS:Sim C J U s){a n xs U'}(h:ZhW U a n xs=sO U'){da}(ha:VR J a da){z}(hx:VRs J xs z):
  ∃b off cs,da=.ptr b off/\Ye s b=sO cs/\off+I z<=I cs/\I z=n/\Sim C J U' (s.upd b (.cells (Zq cs off z))):=by
 cases ha<;>simp only[ZhW,reduceCtorEq]at h;rename_i k b o hb;split at h<;>(try(simp at h;done));all_goals
  rename_i cs i;split at h<;>simp at h;rename_i cs' u;subst h;obtain⟨ds,ex,e1,e2⟩:=hS.cells (vs:=cs) (by rw[i];rfl) hb;obtain⟨f0,f1,f2⟩:=e2.over hx u;have hl:I z=n:=by rw[<-hx.len,f0]
  have j:Zq (ds++ex) o z=Zq ds o z++ex:=Zmr ω;refine⟨b,o,_,rfl,J9 e1,by simp;omega,hl,?_⟩;rw[j]
 exact hS.upd i hb (.cells _ _ _ f2);refine hS.upd i hb (.buf _ _ _ f2 ?_);obtain⟨b',d,g1,g2,g3⟩:=hS.get i (λn=>by simp);rw[hb]at g1;cases g1;rw[e1]at g2;cases g2;generalize t:(Jo.cells (ds++ex))=dd at g3;cases g3 with
 |buf _ ds2 ex2 _ hc =>
  simp only[Jo.cells.injEq]at t;rw[hc];have:(Zq ds o z++ex).length=(ds2++ex2).length:=by rw[<-t,ZHO,ZHO,ZuU ω]
  rw[this]
variable {P:Program} {F:Fr P} {kp:Option (List Nat)} {dk:List KH} {os:List DOp} {H':Env} {L':Loc}
def WO(u:Ya J L H ρd){x v}(h:(Y7 x).run H=sO v)(i:ZA ρd H' (ZV x)):∃p d,ZD H' true x=sO (p,.d d)/\p/\VR J v d:=by
 obtain⟨p,d,n,j,t⟩:=K0 u h;exact⟨p,d,by rw[ZT i];exact n,j,t⟩
def Zx0(hS:Sim C J U s)(n:YJ J nx){dst z mu r}(h:(opF mu dst.isSome (.alloc z)).run H U nx=sO r)(u:∀e s2,Wh C J r e s2->DO F kp dk os (Zz H' dst e) L' s2):DO F kp dk (⟨dst,nO,.alloc z⟩::os) H' L' s:=by
 simp[opF]at h;cases j:ofDs z<;>simp[j]at h;obtain⟨hd,i⟩:=ZE h;replace h:=i;clear i;cases h;cases dst with
 |none=>grind
 |some t=>exact ZxF rfl rfl rfl λb hb=>u (.d (.ptr b 0)) _ (Wh.new hS n hb (OR.cells0 (ofDs_ok j)) (.ptr _ _ _ Nm.put_same))
def ZBo(hS:Sim C J U s)(n:YJ J nx)(hρ:Ya J L H ρd){dst x mu r}(h:(opF mu dst.isSome (.box x)).run H U nx=sO r)(j:ZA ρd H' (ZV x))(z:∀e s2,Wh C J r e s2->DO F kp dk os (Zz H' dst e) L' s2):DO F kp dk (⟨dst,nO,.box x⟩::os) H' L' s:=by
 obtain⟨hd,i⟩:=ZE h;replace h:=i;clear i;obtain⟨v,hv,i⟩:=WQ h;replace h:=i;clear i;obtain⟨hp,i⟩:=ZE h;replace h:=i;clear i;cases h;obtain⟨p,d,a1,a2,u⟩:=WO hρ hv j;cases dst with
 |none=>grind
 |some t=>exact ZAT rfl rfl rfl a1 a2 (Znl u hp) λb hb=>z (.d (.ptr b 0)) _ (Wh.new hS n hb (OR.cells0 ((ZkR u).mono (Nm.put_sub (n.free nx (ZHV _)) _))) (.ptr _ _ _ Nm.put_same))
def Zwt(hS:Sim C J U s)(hN:YJ J nx)(hρ:Ya J L H ρd){dst a v mu r}(h:(opF mu dst.isSome (.store1 a v)).run H U nx=sO r)(hag:ZA ρd H' (ZV a++ZV v))(hc:∀e s2,Wh C J r e s2->DO F kp dk os (Zz H' dst e) L' s2):DO F kp dk (⟨dst,nO,.store1 a v⟩::os) H' L' s:=by
 obtain⟨hd,hh⟩:=ZE h;replace h:=hh;clear hh;obtain⟨av,ha,hh⟩:=WQ h;replace h:=hh;clear hh;obtain⟨xv,hx,hh⟩:=WQ h;replace h:=hh;clear hh;obtain⟨z,hh⟩:=ZE h;replace h:=hh;clear hh;obtain⟨U',u,rfl⟩:=Zul h;obtain⟨p,da,a1,a2,a3⟩:=WO hρ ha (λt ht=>hag t (by simp[ht]));obtain⟨q,dx,b1,b2,b3⟩:=WO hρ hx (λt ht=>hag t (by simp[ht]));have i:=Zum b3 z;have j:cellsOf dx=[dx]:=by cases dx<;>first|rfl|cases i
 obtain⟨b,off,cs,rfl,c1,c2,c3,c4⟩:=ZkM hS u a3 (.one b3);cases dst with
 |some t=>grind
 |none =>refine Zgg rfl (.inl ⟨rfl,trivial⟩) a1 b1 a2 b2 c1 (λ_=>i) (λn hn=>by grind) (by rw[j];exact c2) rfl ?_;rw[j];exact hc (.d .nilsl) _ ⟨J,Nm.Sub.refl _,hN,c4,.nilsl,.nilsl,rfl⟩
def Zwu(hS:Sim C J U s)(hN:YJ J nx)(hρ:Ya J L H ρd){dst a v n mu r}(h:(opF mu dst.isSome (.storeN n a v)).run H U nx=sO r)(z:ZA ρd H' (ZV a++ZV v))(hc:∀e s2,Wh C J r e s2->DO F kp dk os (Zz H' dst e) L' s2):DO F kp dk (⟨dst,nO,.storeN n a v⟩::os) H' L' s:=by
 obtain⟨hd,u⟩:=ZE h;replace h:=u;clear u;obtain⟨av,ha,u⟩:=WQ h;replace h:=u;clear u;obtain⟨xv,hx,u⟩:=WQ h;replace h:=u;clear u;obtain⟨p,da,a1,a2,a3⟩:=WO hρ ha (λt ht=>z t (by simp[ht]));obtain⟨q,dx,b1,b2,b3⟩:=WO hρ hx (λt ht=>z t (by simp[ht]));cases b3<;>simp at h;rename_i xs ys i;obtain⟨U',j,rfl⟩:=Zul h;obtain⟨b,off,cs,rfl,c1,c2,c3,c4⟩:=ZkM hS j a3 i;cases dst with
 |some t=>grind
 |none =>refine Zgg rfl (.inr ⟨n,rfl⟩) a1 b1 a2 b2 c1 (λhn=>by grind) (λm hm=>?_) c2 rfl ?_;simp only[K.storeN.injEq]at hm;exact⟨⟨_,rfl⟩,by rw[<-hm.1];exact c3⟩;exact hc (.d .nilsl) _ ⟨J,Nm.Sub.refl _,hN,c4,.nilsl,.nilsl,rfl⟩
def Zx3(z:Sim C J U s)(j:YJ J nx){dst u r}(h:(opF u dst.isSome .mkmap).run H U nx=sO r)(n:∀e s2,Wh C J r e s2->DO F kp dk os (Zz H' dst e) L' s2):DO F kp dk (⟨dst,nO,.mkmap⟩::os) H' L' s:=by
 obtain⟨hd,i⟩:=ZE h;replace h:=i;clear i;cases h;cases dst with
 |none=>grind
 |some t=>exact Zsf rfl rfl rfl λb hb=>n (.d (.map b)) _ (Wh.new z j hb (.map [] [] .nil) (.map _ _ Nm.put_same))
def Zk0{z}{zd}(hz:VRs J z zd):∀n,VRs J (Zh2 z n) (K2 zd n)
 |0=>by simp[Zh2];exact .nil
 |n+1=>by exact hz.append (Zk0 hz n)
def Zuz(hS:Sim C J U s)(hN:YJ J nx)(hρ:Ya J L H ρd){dst e n bytes z l hx mu r}(h:(opF mu dst.isSome (.mkslice e n bytes z l hx)).run H U nx=sO r)(u:ZA ρd H' (ZV l++ZV hx))(hc:∀e s2,Wh C J r e s2->DO F kp dk os (Zz H' dst e) L' s2):DO F kp dk (⟨dst,nO,.mkslice e n bytes z l hx⟩::os) H' L' s:=by
 simp[opF]at h;cases hz:ofDs z<;>simp[hz]at h;obtain⟨hd,j⟩:=ZE h;replace h:=j;clear j;obtain⟨lv,hl,j⟩:=WQ h;replace h:=j;clear j;obtain⟨hv,j,j⟩:=WQ h;replace h:=j;clear j;obtain⟨p,dl,a1,a2,a3⟩:=WO hρ hl (λt ht=>u t (by simp[ht]));obtain⟨q,dh,b1,b2,b3⟩:=WO hρ j (λt ht=>u t (by simp[ht]));cases a3<;>simp at h;cases b3<;>simp at h;obtain⟨hb,j⟩:=ZE h;replace h:=j;clear j;cases h;simp[Zac]at hb;cases dst with
 |none=>grind
 |some t =>refine Zns rfl rfl rfl a1 b1 a2 b2 hb.1.1.1 hb.1.1.2 hb.1.2 hb.2 λb i=>hc (.d (.msl b 0 _ _ n)) _ (Wh.new hS hN i (OR.cells0 (Zk0 (ofDs_ok hz) _)) (.msl _ _ _ _ _ _ Nm.put_same))
def Zws(hS:Sim C J U s)(hN:YJ J nx)(hρ:Ya J L H ρd){dst mk m k v mu r}(h:(opF mu dst.isSome (.mapupd mk m k v)).run H U nx=sO r)(z:ZA ρd H' (ZV m++ZV k++ZV v))(hc:∀e s2,Wh C J r e s2->DO F kp dk os (Zz H' dst e) L' s2):DO F kp dk (⟨dst,nO,.mapupd mk m k v⟩::os) H' L' s:=by
 simp only[opF]at h;obtain⟨hd,u⟩:=ZE h;replace h:=u;clear u;obtain⟨mv,hm,u⟩:=WQ h;replace h:=u;clear u;obtain⟨kv,hk,u⟩:=WQ h;replace h:=u;clear u;obtain⟨vv,hv,u⟩:=WQ h;replace h:=u;clear u;obtain⟨p,dm,a1,a2,a3⟩:=WO hρ hm (λt ht=>z t (by simp[ht]));obtain⟨q,dk',b1,b2,b3⟩:=WO hρ hk (λt ht=>z t (by simp[ht]));obtain⟨q',dv,c1,c2,c3⟩:=WO hρ hv (λt ht=>z t (by simp[ht]));cases a3<;>simp only[reduceCtorEq]at h;rename_i kb b hb;split at h<;>(try(simp at h;done));rename_i es i;obtain⟨n,u⟩:=ZE h;replace h:=u;clear u;split at h<;>simp only[ZHE,reduceCtorEq]at h;rename_i es' j;subst h;obtain⟨ds,e1,e2⟩:=hS.map i hb;obtain⟨ds',e3,e4⟩:=Zqj b3 c3 e2 j;cases dst with
 |some t=>simp at hd
 |none=>exact Zqv rfl rfl rfl a1 b1 c1 a2 b2 c2 (by simp only[Qe,e1]) e3 (Zgs b3 n) (hc (.d .nilsl) _ (Wh.turn hS hN i hb (.map _ _ e4) .nilsl))
def Zwq(hS:Sim C J U s)(hN:YJ J nx)(hρ:Ya J L H ρd){dst mk m k mu r}(h:(opF mu dst.isSome (.delete mk m k)).run H U nx=sO r)(z:ZA ρd H' (ZV m++ZV k))(hc:∀e s2,Wh C J r e s2->DO F kp dk os (Zz H' dst e) L' s2):DO F kp dk (⟨dst,nO,.delete mk m k⟩::os) H' L' s:=by
 obtain⟨hd,u⟩:=ZE h;replace h:=u;clear u;obtain⟨mv,hm,u⟩:=WQ h;replace h:=u;clear u;obtain⟨kv,hk,u⟩:=WQ h;replace h:=u;clear u;obtain⟨p,dm,a1,a2,a3⟩:=WO hρ hm (λt ht=>z t (by simp[ht]));obtain⟨q,dk',b1,b2,b3⟩:=WO hρ hk (λt ht=>z t (by simp[ht]));cases a3<;>simp only[reduceCtorEq]at h;rename_i kb b hb;split at h<;>(try(simp at h;done));rename_i es i;obtain⟨n,u⟩:=ZE h;replace h:=u;clear u;split at h<;>simp only[ZHE,reduceCtorEq]at h;rename_i es' j;subst h;obtain⟨ds,e1,e2⟩:=hS.map i hb;obtain⟨ds',e3,e4⟩:=Zvo b3 e2 j;cases dst with
 |some t=>simp at hd
 |none=>exact Zqt rfl rfl rfl a1 b1 a2 b2 (by simp only[Qe,e1]) e3 (Zgs b3 n) (hc (.d .nilsl) _ (Wh.turn hS hN i hb (.map _ _ e4) .nilsl))
def Zwr(hS:Sim C J U s)(hN:YJ J nx)(hρ:Ya J L H ρd){dst mk z m k mu r}(h:(opF mu dst.isSome (.mapent mk z m k)).run H U nx=sO r)(hag:ZA ρd H' (ZV m++ZV k))(hc:∀e s2,Wh C J r e s2->DO F kp dk os (Zz H' dst e) L' s2):DO F kp dk (⟨dst,nO,.mapent mk z m k⟩::os) H' L' s:=by
 simp[opF]at h;cases hz:ofD z<;>simp[hz]at h;obtain⟨hd,hh⟩:=ZE h;replace h:=hh;clear hh;obtain⟨mv,hm,hh⟩:=WQ h;replace h:=hh;clear hh;obtain⟨kv,hk,hh⟩:=WQ h;replace h:=hh;clear hh;obtain⟨p,dm,a1,a2,a3⟩:=WO hρ hm (λt ht=>hag t (by simp[ht]));obtain⟨q,dk',b1,b2,b3⟩:=WO hρ hk (λt ht=>hag t (by simp[ht]));cases a3<;>simp at h;rename_i kb b hb;split at h<;>(try(grind;done));rename_i es j;obtain⟨u,hh⟩:=ZE h;replace h:=hh;clear hh;split at h<;>simp at h;rename_i v hv;subst h;obtain⟨ds,e1,e2⟩:=hS.map j hb;obtain⟨d,e3,e4⟩:=Zvq b3 (ZhE hz) e2 hv;cases dst with
 |none=>grind
 |some t =>refine Zqu rfl rfl rfl a1 b1 a2 b2 (by simp[Qe,e1]) e3 (Zgs b3 u) λn=>hc (.d (.tup [d,.stamp n])) _ ?_;have i:=Nm.put_sub (hN.free nx (ZHV _)) (.tip n);exact⟨_,i,hN.put _,(hS.mono i).upd j (i _ _ hb) (.mapE _ _ _ _ _ _ _ (e2.imp λ_ _ m=>m.mono i) (b3.mono i) Nm.put_same),_,.tup _ _ (.cons _ _ _ _ (e4.mono i) (.one (.stamp _ _ Nm.put_same))),rfl⟩
def Zx2(hS:Sim C J U s)(hN:YJ J nx)(hρ:Ya J L H ρd){dst m st v mu r}(h:(opF mu dst.isSome (.entst m st v)).run H U nx=sO r)(hag:ZA ρd H' (ZV m++ZV st++ZV v))(hc:∀e s2,Wh C J r e s2->DO F kp dk os (Zz H' dst e) L' s2):DO F kp dk (⟨dst,nO,.entst m st v⟩::os) H' L' s:=by
 simp only[opF]at h;obtain⟨hd,z⟩:=ZE h;replace h:=z;clear z;obtain⟨mv,hm,z⟩:=WQ h;replace h:=z;clear z;obtain⟨kv,hk,z⟩:=WQ h;replace h:=z;clear z;obtain⟨vv,hv,z⟩:=WQ h;replace h:=z;clear z;obtain⟨p,dm,a1,a2,a3⟩:=WO hρ hm (λt ht=>hag t (by simp[ht]));obtain⟨q,dk',b1,b2,b3⟩:=WO hρ hk (λt ht=>hag t (by simp[ht]));obtain⟨q',dv,c1,c2,c3⟩:=WO hρ hv (λt ht=>hag t (by simp[ht]));cases a3<;>simp only[reduceCtorEq]at h;rename_i kb b hb;cases b3<;>simp only[reduceCtorEq]at h;rename_i kn n hn;split at h<;>(try(simp at h;done));rename_i mk es key n' i;obtain⟨j,z⟩:=ZE h;replace h:=z;clear z;rw[Z8]at j;subst j;split at h<;>simp only[ZHE,reduceCtorEq]at h;rename_i es' u;subst h;obtain⟨b',d,e0,e1,e2⟩:=hS.get i (λn=>by simp);rw[hb]at e0;simp only[ZHE,Tok.tip.injEq]at e0;subst e0;cases e2 with
 |mapE _ _ ds _ dkey _ m' g1 g2 g3 =>
  rw[hn]at g3;simp only[ZHE,Tok.tip.injEq]at g3;subst g3;obtain⟨ds',e3,e4⟩:=Zqj g2 c3 g1 u;cases dst with
  |some t=>simp at hd
  |none=>exact Zse rfl rfl rfl a1 b1 c1 a2 b2 c2 e1 e3 (hc (.d .nilsl) _ (Wh.turn hS hN i hb (.map _ _ e4) .nilsl))
end
def St.del_upd(s:St)(b d):(s.del b).upd b d=s.upd b d:=by
 funext c;simp[ZIi,St.del];split<;>rfl
def St.upd_del{b d}(h:s b=sO d):(s.del b).upd b d=s:=by
 funext c;simp[ZIi,St.del];split;rename_i i;rw[i,h];rfl
section
variable {C:Px} {J:Nm} {U:S} {s:St}
def Sim.take(x:Sim C J U s){k b:Nat}{o:O}(h:U.get k=sO o)(hb:J k=sO (.tip b))(hr:Zco o=false:=by rfl):Sim C J (U.set nO k) (s.del b) where
 obj k' o' h':=by obtain⟨j,h1⟩:=Zvv h';obtain⟨t,e1,⟨b',d',rfl,e2,e3⟩|e2⟩:=x.obj k' o' h1;refine⟨_,e1,.inl ⟨b',d',rfl,?_,e3⟩⟩;have:b'≠b:=λi=>j (x.inj k' k _ _ b h1 h (by rw[<-i];exact e1) hb);simp[St.del,this];exact e2;exact⟨t,e1,.inr e2⟩
 inj:=(x.forget k).inj
 kp c e hc:=by obtain⟨h1,h2⟩:=(x.forget k).kp c e hc;have:c≠b:=λec=>(x.kp c e hc).2 k o h hr (by rw[ec];exact hb);exact⟨by simp[St.del,this];exact h1,h2⟩
 ro:=(x.forget k).ro
def Sim.newFull(x:Sim C J U s){nx}(hn:J nx=nO)(m):Sim C (J.put nx .full) (U.set (sO (.tok m)) nx) s:=by
 have x':=x.mono (Nm.put_sub hn .full);have i:∀k n b,(U.set (sO (O.tok m)) nx).get k=sO n->(J.put nx .full) k=sO (.tip b)->U.get k=sO n:=λk n b h e=>by
  have j:k≠nx:=λhk=>by rw[hk,Nm.put_same]at e;grind
  rcases T.get_set h with ⟨rfl,_⟩|⟨_,h⟩;exact absurd rfl j;exact h
 refine⟨λk o h=>?_,λk1 k2 n o2 b u h2 t e2=>x'.inj k1 k2 n o2 b (i _ _ _ u t) (i _ _ _ h2 e2) t e2,λc e z=>⟨(x'.kp c e z).1,λk n h hr t=>(x'.kp c e z).2 k n (i _ _ _ h t) hr t⟩,λk n c h e=>x'.ro k n c (i _ _ _ h e) e⟩;rcases T.get_set h with ⟨rfl,u⟩|⟨_,u⟩;cases u;exact⟨_,Nm.put_same,.inr ⟨m,rfl,rfl⟩⟩;exact x'.obj k o u
def Zw7(row:Nat->List D)(m):(ZHT (m+1)).flatMap row=row 0++(ZHT m).flatMap λi=>row (i+1):=by
 rw[List.range_succ_eq_map,List.flatMap_cons,List.flatMap_map]
def VRr.flat{z}:∀{m rs cs row},VRr J z rs row->Zn1 z m rs=sO cs->VRs J cs ((ZHT m).flatMap row)/\I cs=m*z
 |0,rs,cs,row,_,h=>by have:sO []=sO cs:=h;cases this;exact⟨.nil,ψ⟩
 |m+1,rs,cs,row,j,h=>by
  cases j with
  |nil=>cases h
  |cons _ c rs row h1 hl t =>
   have i:(match Zn1 z m rs with
    |some r=>sO (Zpv z c r)
    |none=>nO)=sO cs:=h
   split at i<;>simp at i;rename_i r j;subst i;obtain⟨n,g2⟩:=t.flat j;rw[Zhr hl,Zw7];exact⟨h1.append n,by rw[ZHO,g2,hl,ZIa];omega⟩
def Zm8{z}:∀{n vs rs ds},VRs J vs ds->Zxg z n vs=sO rs->VRr J z rs (λi=>part ds (i*z) z)/\I rs=n/\n*z<=I ds
 |0,vs,rs,ds,_,h=>by have:sO []=sO rs:=h;cases this;exact⟨.nil _ _,rfl,ω⟩
 |n+1,vs,rs,ds,hv,h=>by
  have j:(match ZbL z vs with
   |some r=>Zau (.agg r) (Zxg z n (Zb9 z vs))
   |none=>nO)=sO rs:=h
  split at j<;>(try(simp at j;done));rename_i r u;obtain⟨q,t,rfl⟩:=K8 j;obtain⟨t1,rfl⟩:=ZaD u;rw[JW]at t;obtain⟨g1,g2,g3⟩:=Zm8 (hv.drop z) t;have hlen:=hv.len;rw[ZIh]at g3;refine⟨.cons _ _ _ _ ?_ (by rw[ZHZ];omega) (g1.congr λi _=>?_),by simp[g2],by rw[ZIa];omega⟩;simpa[part]using hv.take z;simp[part]
  congr 2
  rw[ZIa];omega
def ZBS{P}(hS:Sim C J U s){z v d}(hv:VR J v d){m rs}(h:ZAF U z v=sO (m,rs)):∃row,Jh P s z d m row/\VRr J z rs row/\I rs=m:=by
 cases hv<;>simp only[ZAF,reduceCtorEq]at h;case nilsl =>cases h;exact⟨λ_=>[],Jh.elems rfl,.nil _ _,rfl⟩
 case sl t n z' rs' τ row h1 h2 h3 =>obtain⟨hz,u⟩:=ZE h;rw[Z8]at hz;subst hz;cases u;exact⟨row,Jh.elems (by simp[QK]),h1,h2⟩
 case str l =>obtain⟨hz,u⟩:=ZE h;rw[Z8]at hz;subst hz;cases u;refine⟨λi=>[D.int .u8 (((l.map UInt8.ofNat).getD i 0).toNat:Int)],Jh.elems (m:=I l) (by simp[QK]),?_,by simp[u8V]⟩;have:=Zzd (J:=J) l 0;simpa using this
 case msl k b o n cap z' hb =>
  split at h<;>(try(grind;done));rename_i cs j;obtain⟨hc,u⟩:=ZE h;simp at hc;obtain⟨rfl,hc⟩:=hc;split at u<;>simp at u;rename_i r hr;obtain⟨rfl,rfl⟩:=u;obtain⟨ds,ex,e1,e2⟩:=hS.cells j hb;rw[JW]at hr;obtain⟨g1,g2,g3⟩:=Zm8 (e2.drop o) hr;have hl:=e2.len;refine⟨_,Jh.msl (J9 e1) (by rw[ZHO];omega),g1.congr λi hi=>?_,g2⟩;have h1:i*z'+z'<=n*z':=by rw[<-Nat.succ_mul];exact ZH5 _ ω
  simp[part];rw[List.drop_append_of_le_length ω,List.take_append_of_le_length (by rw[ZIh];omega)]
 case gsl k b o n cap z' c hb h2 hcap hl0 =>
  split at h<;>(try(grind;done));rename_i cs j;obtain⟨hc,u⟩:=ZE h;simp at hc;obtain⟨rfl,hc⟩:=hc;split at u<;>simp at u;rename_i r hr;obtain⟨rfl,rfl⟩:=u;obtain⟨ds,ex,e1,e2⟩:=hS.cells j hb;rw[JW]at hr;obtain⟨g1,g2,g3⟩:=Zm8 (e2.drop o) hr;have hl:=e2.len;refine⟨_,Jh.msl (J9 e1) (by rw[ZHO];omega),g1.congr λi hi=>?_,g2⟩;have h1:i*z'+z'<=n*z':=by rw[<-Nat.succ_mul];exact ZH5 _ ω
  simp[part];rw[List.drop_append_of_le_length ω,List.take_append_of_le_length (by rw[ZIh];omega)]
end
section
variable {C:Px} {J:Nm} {U:S} {s:St} {L:Loc} {H:T W} {ρd:Env} {nx:Nat}
variable {P:Program} {F:Fr P} {kp:Option (List Nat)} {dk:List KH} {os:List DOp} {H':Env} {L':Loc}
def Zx1(hS:Sim C J U s)(hN:YJ J nx)(hρ:Ya J L H ρd){dst g}(hg:Zo H' g=sO true){n0 z x mu r db}(h:(opF mu db (.clear n0 z x)).run H U nx=sO r)(hag:ZA ρd H' (ZV x))(hc:∀e s2,Wh C J r e s2->DO F kp dk os (Zz H' dst e) L' s2):DO F kp dk (⟨dst,g,.clear n0 z x⟩::os) H' L' s:=by
 simp[opF]at h;cases hz:ofDs z<;>simp[hz]at h;rename_i zv;obtain⟨v,hv,t⟩:=WQ h;replace h:=t;clear t;obtain⟨p,d,a1,a2,a3⟩:=WO hρ hv hag;have fin:∀{k b o n cap:Nat} {u:Nat} ,VR J (.ptr k o) (.ptr b o)->d=.msl b o n cap u->noV (Nat.beq u n0) (up (ZhW U (.ptr k o) (n*n0) (Zh2 zv n)) (.tup []) nx)=sO r->DO F kp dk (⟨dst,g,.clear n0 z x⟩::os) H' L' s:=by intro k b o n cap u hp hd h;obtain⟨i,t⟩:=ZE h;replace h:=t;clear t;rw[Z8]at i;subst i;obtain⟨U',j,rfl⟩:=Zul h;obtain⟨b',off,cs,e1,c1,c2,c3,c4⟩:=ZkM hS j hp (Zk0 (ofDs_ok hz) n);cases e1;subst hd;exact Zmx hg rfl a1 a2 c1 ω (hc (.d (.tup [])) _ ⟨J,Nm.Sub.refl _,hN,c4,_,.tup _ _ .nil,rfl⟩)
 cases a3<;>simp at h;case msl k b o n cap u hb=>exact fin (.ptr _ _ _ hb) rfl h
 case gsl k b o n cap u c hb h2 hcap hl0=>exact fin (.ptr _ _ _ hb) rfl h
def Wh.buf(hS:Sim C J U s)(i:YJ J nx){b}(hb:s b=nO){z m cap cs ds ex}(hv:VRs J cs ds)(hm:m<=cap)(hl:(ds++ex).length=cap*z){r}(h:Zjv z U nx m cs=sO r):Wh C J r (.d (.msl b 0 m cap z)) (s.upd b (.cells (ds++ex))):=by
 cases h;have f0:=i.free nx (ZHV _);have f1:=i.free (nx+1) ω;have s1:J.Sub (J.put (nx+1) (.tip (ds++ex).length)):=Nm.put_sub f1 _;have u:(J.put (nx+1) (.tip (ds++ex).length)) nx=nO:=by simp only[Nm.put];rw[if_neg ω];exact f0
 have j:=Nm.put_sub u (.tip b);have t:((J.put (nx+1) (.tip (ds++ex).length)).put nx (.tip b)) (nx+1)=sO (.tip (ds++ex).length):=by simp[Nm.put]
 refine⟨_,s1.trans j,⟨?_,?_,?_,?_⟩,(hS.mono s1).new u hb (.buf _ _ _ ((hv.mono s1).mono j) t),_,.gsl _ _ _ _ _ _ _ Nm.put_same t hm ω,rfl⟩;exact j _ _ (s1 _ _ i.z);exact j _ _ (s1 _ _ i.o);have:=i.two;show 2<=nx+2;omega;intro k n;have n:nx+2<=k:=n;simp[Nm.put];rw[if_neg ω,if_neg ω];exact i.free k ω
def Wh.bufMove(hS:Sim C J U s)(i:YJ J nx){k b o}(j:U.get k=sO o)(hb:J k=sO (.tip b))(hr:Zco o=false){z m cap cs ds ex}(hv:VRs J cs ds)(hm:m<=cap)(hl:cap*z<=(ds++ex).length){r}(h:Zjv z (U.set nO k) nx m cs=sO r):Wh C J r (.d (.msl b 0 m cap z)) (s.upd b (.cells (ds++ex))):=by
 rw[<-St.del_upd s b];cases h;have f0:=i.free nx (ZHV _);have f1:=i.free (nx+1) ω;have s1:J.Sub (J.put (nx+1) (.tip (ds++ex).length)):=Nm.put_sub f1 _;have u:(J.put (nx+1) (.tip (ds++ex).length)) nx=nO:=by simp only[Nm.put];rw[if_neg ω];exact f0
 have n:=Nm.put_sub u (.tip b);have t:((J.put (nx+1) (.tip (ds++ex).length)).put nx (.tip b)) (nx+1)=sO (.tip (ds++ex).length):=by simp[Nm.put]
 refine⟨_,s1.trans n,⟨?_,?_,?_,?_⟩,((hS.take j hb hr).mono s1).new u (by simp[St.del]) (.buf _ _ _ ((hv.mono s1).mono n) t),_,.gsl _ _ _ _ _ _ _ Nm.put_same t hm ω,rfl⟩;exact n _ _ (s1 _ _ i.z);exact n _ _ (s1 _ _ i.o);have:=i.two;show 2<=nx+2;omega;intro k j;have j:nx+2<=k:=j;simp[Nm.put];rw[if_neg ω,if_neg ω];exact i.free k ω
end
section
variable {C:Px} {J:Nm} {U:S} {s:St} {L:Loc} {H:T W} {ρd:Env} {nx:Nat}
variable {P:Program} {F:Fr P} {kp:Option (List Nat)} {dk:List KH} {os:List DOp} {H':Env} {L':Loc}
def Zxt(j:Sim C J U s)(hN:YJ J nx){t k τ U'}(ht:t=0\/J t=sO τ)(h:Zqh U t k=sO U'):
  ∃s0,s=s0.own τ k/\τ.okIn s0/\Sim C J U' s0:=by
 unfold Zqh at h;split at h;rename_i h1;rw[Z8]at h1;subst h1;cases h;have:=ht.resolve_left ω;rw[hN.o]at this;cases this;exact⟨s,rfl,trivial,j⟩;split at h<;>(try(grind;done));rename_i m hm;obtain⟨z,hh⟩:=ZE h;rw[Z8]at z;subst z;cases hh;obtain⟨t0,i,u⟩:=j.obj t _ hm;have hτ:τ=t0:=by rcases ht with rfl|ht;rw[hN.z]at i;cases i;obtain⟨_,_,h,_⟩|⟨_,_,h⟩:=u<;>grind;rw[i]at ht;simpa using ht.symm
 subst hτ;obtain⟨b,d,rfl,g1,g2⟩|⟨n,g1,rfl⟩:=u;cases g2;refine⟨s.del b,?_,by simp[Tok.okIn,St.del],j.take hm i⟩;exact(St.upd_del g1).symm;exact⟨s,rfl,trivial,j.forget t⟩
def Wh.tok{u U'}(hS:Sim C J U' u)(hN:YJ J nx){j}(ht:j.okIn u){n z rs row}(hr:VRr J z rs row)(hl:I rs=n):
  Wh C J ⟨.sl nx n z rs,U'.set (sO (.tok (n*z))) nx,nx+1⟩ (.d (.sl j n z row)) (u.own j (n*z)):=by
 have t:=hN.free nx (ZHV _);have i:=Nm.put_sub t j;refine⟨_,i,hN.put _,?_,_,.sl _ _ _ _ _ _ (hr.mono i) hl (.inr Nm.put_same),rfl⟩;cases j with
 |tip b=>exact hS.new t ht (.tok _)
 |full=>exact hS.newFull t _
 |none=>exact ht.elim
def ZnQ(hS:Sim C J U s)(hN:YJ J nx){dst g}(hg:Zo H' g=sO true){e z b zd x y p q dx dy}(hx:ZD H' true x=sO (p,.d dx))(hy:ZD H' true y=sO (q,.d dy))(hp:p)(hq:q){t n m τ row row2 rs rs2}(hsl:Zbe z dx=sO (τ,n,row))(ht:t=0\/J t=sO τ)(hr:VRr J z rs row)(hl:I rs=n)(hel:Jh P s z dy m row2)(hr2:VRr J z rs2 row2)(hl2:I rs2=m){r}(h:Zsz z b U nx t n m rs rs2=sO r)(hc:∀e s2,Wh C J r e s2->DO F kp dk os (Zz H' dst e) L' s2):DO F kp dk (⟨dst,g,.append e z b zd x y⟩::os) H' L' s:=by
 obtain⟨hb,hh⟩:=ZE h;replace h:=hh;clear hh;simp at hb;split at h<;>simp at h;rename_i U' hσ;subst h;obtain⟨s0,rfl,j,i⟩:=Zxt hS hN ht hσ;refine Zv2 hg rfl hx hsl hy hp hq hel j hb.1 hb.2 λt' u=>hc _ _ ?_;have:=hr.append hr2;rw[hl]at this;rw[Zhr hl];exact Wh.tok i hN u this (by simp[hl,hl2])
def ZnP(hS:Sim C J U s)(hN:YJ J nx){dst g}(hg:Zo H' g=sO true){e z b zd x y p q dx dy}(hx:ZD H' true x=sO (p,.d dx))(hy:ZD H' true y=sO (q,.d dy))(hp:p)(hq:q){m row row2 t}(hsl:Zbe z dx=sO (.full,0,row))(hm:0<m)(u:Jh P s z dy m row2)(hr2:VRr J z t row2){r}(h:Zsy z b U nx m t=sO r)(hc:∀e s2,Wh C J r e s2->DO F kp dk os (Zz H' dst e) L' s2):DO F kp dk (⟨dst,g,.append e z b zd x y⟩::os) H' L' s:=by
 obtain⟨hb,hh⟩:=ZE h;replace h:=hh;clear hh;simp at hb;split at h<;>(try(grind;done));rename_i cs j;obtain⟨g1,g2⟩:=hr2.flat j;refine Zzn hg rfl hx hsl hy u hp hq hm hb.1 hb.2 λc cap n i=>hc _ _ (Wh.buf hS hN n g1 i ?_ h);have:=g1.len;have e1:m*z+(cap-m)*z=cap*z:=by rw[<-ZIa];congr 1;omega
 simp_all
def Zxh{cs o xs}:Zq cs o xs=cs.take o++xs++cs.drop (o+I xs):=rfl
def Zs2(hS:Sim C J U s)(hN:YJ J nx){dst g}(hg:Zo H' g=sO true){e z bt zd x y p q dx dy}(hx:ZD H' true x=sO (p,.d dx))(hy:ZD H' true y=sO (q,.d dy))(hp:p)(hq:q){k o n m cap z' row2 rs2}(hv:VR J (.msl k o n cap z') dx)(hel:Jh P s z dy m row2)(hr2:VRr J z rs2 row2){mu}{r}(h:Zzt mu z bt U nx (.msl k o n cap z') m rs2=sO r)(hc:∀e s2,Wh C J r e s2->DO F kp dk os (Zz H' dst e) L' s2):DO F kp dk (⟨dst,g,.append e z bt zd x y⟩::os) H' L' s:=by
 obtain⟨hb,hh⟩:=ZE h;replace h:=hh;clear hh;simp at hb;obtain⟨⟨rfl,ag⟩,ad⟩:=hb;split at h<;>(try(simp at h;done));rename_i am ah;obtain⟨g1,g2⟩:=hr2.flat ah;have ab:((ZHT m).flatMap row2).length=m*z':=by rw[<-g1.len,g2]
 cases hv with
 |gsl _ b _ _ cap' _ c hb h2 hcap hlc =>
  simp only at h;split at h<;>(try(simp at h;done));rename_i cs u;obtain⟨ho,hh⟩:=ZE h;replace h:=hh;clear hh;rw[Z8]at ho;subst ho;split at h<;>(try(simp at h;done));rename_i c1 af;obtain⟨t1,rfl⟩:=ZaD af;obtain⟨b',d,e0,e1,e2⟩:=hS.get u (λn=>by simp);rw[hb]at e0;cases e0;cases e2 with
  |buf _ ds ex hds hce =>
   rw[h2]at hce;cases hce;have hl:=hds.len;have ac:(cs.take (n*z')).length=n*z':=by rw[ZHZ];omega
   rw[Zhr ac]at h;have hnc:n*z'<=cap'*z':=ZH5 _ hcap;have ai:(n+m)*z'=n*z'+m*z':=ZIa _ _ _;have aj:VRs J (cs.take (n*z')++am) ((ds++ex).take (n*z')++(ZHT m).flatMap row2):=by rw[List.take_append_of_le_length ω];exact(hds.take _).append g1
   refine Zk3 hg rfl hx hy hp hq (J9 e1) ω hel (λj=>⟨rfl,?_⟩) ag ad (λj=>?_) (λc i _ ae t=>?_);have:=ZH5 z' j;omega;rw[Zxh];refine hc _ _ (Wh.bufMove hS hN u hb rfl aj j ?_ h);simp at hlc⊢;omega;have ak:part (ds++ex) 0 (n*z')=(ds++ex).take (n*z'):=by simp[part]
   refine hc _ _ (Wh.buf (hS.forget k) hN ae aj t ?_ h);have e1:(n+m)*z'+(i-(n+m))*z'=i*z':=by rw[<-ZIa];congr 1;omega
   simp[ab]at hlc⊢;omega
 |msl _ b _ _ cap _ hb =>
  simp only at h;split at h<;>(try(simp at h;done));rename_i cs u;obtain⟨ds,ex,e1,e2⟩:=hS.cells (vs:=cs) (by rw[u];rfl) hb;have hl:=e2.len;have ai:(n+m)*z'=n*z'+m*z':=ZIa _ _ _;split at h;rename_i j;rw[ZaJ]at j;obtain⟨ho,hh⟩:=ZE h;replace h:=hh;clear hh;rw[Z8]at ho;subst ho;split at h<;>simp at h;rename_i cs' al;subst h;obtain⟨f0,f1,f2⟩:=e2.over g1 al;refine Zk3 hg rfl hx hy hp hq (J9 e1) (by simp;omega) hel (λ_=>⟨rfl,by simp;omega⟩) ag ad (λ_=>?_) (λc i hlt _ _=>by omega);rw[Zmr (by rw[ab];omega)];exact hc _ _ (Wh.turn hS hN u hb (.cells _ _ _ f2) (.msl _ _ _ _ _ _ hb));rename_i j;have j:cap<n+m:=by have:¬n+m<=cap:=λh=>j (ZaJ.2 h);omega
  obtain⟨ho,hh⟩:=ZE h;replace h:=hh;clear hh;rw[ZaJ]at ho;split at h<;>(try(simp at h;done));rename_i c1 af;obtain⟨t1,rfl⟩:=ZaD af;rw[JW]at h t1;have ac:((cs.drop o).take (n*z')).length=n*z':=by rw[ZHZ];omega
  rw[Zhr ac]at h;have ak:part (ds++ex) o (n*z')=(ds.drop o).take (n*z'):=by simp only[part];rw[List.drop_append_of_le_length ω,List.take_append_of_le_length (by rw[ZIh];omega)]
  refine Zk3 hg rfl hx hy hp hq (J9 e1) (by simp;omega) hel (λh=>by omega) ag ad (λh=>by omega) (λc i _ ae t=>?_);rw[ak];refine hc _ _ (Wh.buf hS hN ae (((e2.drop o).take _).append g1) t ?_ h);have e1:(n+m)*z'+(i-(n+m))*z'=i*z':=by rw[<-ZIa];congr 1;omega
  have:((ds.drop o).take (n*z')).length=n*z':=by rw[ZHZ,ZIh];omega
  simp[ab];omega
def Zwp(hS:Sim C J U s)(hN:YJ J nx)(hρ:Ya J L H ρd){dst g}(hg:Zo H' g=sO true){e z b zd x y mu db r}(h:(opF mu db (.append e z b zd x y)).run H U nx=sO r)(hag:ZA ρd H' (ZV x++ZV y))(hc:∀e s2,Wh C J r e s2->DO F kp dk os (Zz H' dst e) L' s2):DO F kp dk (⟨dst,g,.append e z b zd x y⟩::os) H' L' s:=by
 obtain⟨xv,hx,hh⟩:=WQ h;replace h:=hh;clear hh;obtain⟨yv,hy,hh⟩:=WQ h;replace h:=hh;clear hh;split at h<;>(try(grind;done));rename_i m rs2 u;obtain⟨p,dx,a1,a2,a3⟩:=WO hρ hx (λt ht=>hag t (by simp[ht]));obtain⟨q,dy,b1,b2,b3⟩:=WO hρ hy (λt ht=>hag t (by simp[ht]));obtain⟨row2,i,j,ab⟩:=ZBS (P:=P) hS b3 u;cases a3<;>(try(cases h;done));case nilsl =>simp only[Zzt]at h;split at h;rename_i hm;simp at hm;exact ZnP hS hN hg a1 b1 a2 b2 rfl ω i j h hc;exact ZnQ hS hN hg a1 b1 a2 b2 rfl (.inr hN.o) (.nil _ _) rfl i j ab h hc
 case sl t n z' rs τ row h1 h2 h3 =>obtain⟨hz,hh⟩:=ZE h;replace h:=hh;clear hh;rw[Z8]at hz;subst hz;split at h;rename_i hm;simp at hm;obtain⟨⟨⟨_,hm⟩,rfl⟩,rfl⟩:=hm;have hτ:=h3.resolve_left ω;rw[hN.o]at hτ;cases hτ;exact ZnP (row:=row) hS hN hg a1 b1 a2 b2 (by simp[Zbe]) ω i j h hc;exact ZnQ hS hN hg a1 b1 a2 b2 (by simp[Zbe]) h3 h1 h2 i j ab h hc
 case msl k b' o n cap z' hb=>exact Zs2 hS hN hg a1 b1 a2 b2 (.msl _ _ _ _ _ _ hb) i j h hc
 case gsl k b' o n cap z' c hb h2 hcap hl0=>exact Zs2 hS hN hg a1 b1 a2 b2 (.gsl _ _ _ _ _ _ _ hb h2 hcap hl0) i j h hc
def ZzJ(hS:Sim C J U s)(hN:YJ J nx)(hρ:Ya J L H ρd){dst g}(hg:Zo H' g=sO true){len n z is xs mu db r}(h:(opF mu db (.bsl len n z is xs)).run H U nx=sO r)(hag:ZA ρd H' (ZbH xs))(t:(mu&&db&&Nat.ble 1 len)=true)(hc:∀e s2,Wh C J r e s2->DO F kp dk os (Zz H' dst e) L' s2):DO F kp dk (⟨dst,g,.bsl len n z is xs⟩::os) H' L' s:=by
 simp only[opF]at h;cases hz:ofDs z<;>simp only[hz,reduceCtorEq]at h;split at h<;>(try(grind;done));rename_i vs j;obtain⟨u,hh⟩:=ZE h;replace h:=hh;clear hh;rw[t,if_pos rfl]at h;split at h<;>simp at h;rename_i cs i;subst h;simp at u t;obtain⟨p,ds,a1,a2,a3⟩:=Zbd hρ j;rw[<-Kj hag]at a1;obtain⟨g1,g2⟩:=Zm2 (is:=is) (ofDs_ok hz) u.2 a3 u.1 len 0;obtain⟨g3,g4⟩:=g1.flat i;simp at g3;exact Zvc hg rfl a1 (Zbj ds) a2 (Zj2 a3 u.1) t.2 λb hb=>hc _ _ (Wh.new hS hN hb (OR.cells0 (g3.mono (Nm.put_sub (hN.free nx (ZHV _)) _))) (.msl _ _ _ _ _ _ Nm.put_same))
end
section
variable {C:Px} {J:Nm} {U:S} {s:St} {L:Loc} {H:T W} {ρd:Env} {nx:Nat}
variable {P:Program} {F:Fr P} {kp:Option (List Nat)} {dk:List KH} {os:List DOp} {H':Env} {L':Loc}
def Zx4(hS:Sim C J U s)(u:YJ J nx)(hρ:Ya J L H ρd){dst g k}(hg:Zo H' g=sO true)(hgk:(gk k ||g.isNone)=true)(hk:YQ k=false)(hf:ZjX k=true){mu r}(h:(opF mu dst.isSome k).run H U nx=sO r)(j:ZA ρd H' (ZB ⟨dst,g,k⟩))(hc:∀e s2,Wh C J r e s2->DO F kp dk os (Zz H' dst e) L' s2):DO F kp dk (⟨dst,g,k⟩::os) H' L' s:=by
 have j:ZA ρd H' (Yl k):=λt ht=>j t (by simp[ZB,ht]);have i:gk k=false->g=nO:=λhh=>by rw[hh,Bool.false_or]at hgk;cases g<;>simp_all
 cases k<;>simp only[YQ,Bool.true_eq_false]at hk;case alloc z=>obtain rfl:=i rfl;exact Zx0 hS u h hc
 case box x=>obtain rfl:=i rfl;exact ZBo hS u hρ h j hc
 case store1 a v=>obtain rfl:=i rfl;exact Zwt hS u hρ h j hc
 case storeN n a v=>obtain rfl:=i rfl;exact Zwu hS u hρ h j hc
 case append e z b zd x y=>exact Zwp hS u hρ hg h j hc
 case mkmap=>obtain rfl:=i rfl;exact Zx3 hS u h hc
 case mapupd kp' m k v=>obtain rfl:=i rfl;exact Zws hS u hρ h j hc
 case mapent kp' z m k=>obtain rfl:=i rfl;exact Zwr hS u hρ h j hc
 case entst m st v=>obtain rfl:=i rfl;exact Zx2 hS u hρ h j hc
 case mkslice e n b z l c=>obtain rfl:=i rfl;exact Zuz hS u hρ h j hc
 case delete kp' m k=>obtain rfl:=i rfl;exact Zwq hS u hρ h j hc
 case clear n z x=>exact Zx1 hS u hρ hg h j hc
 case fork k=>simp[ZjX]at hf
 all_goals simp[opF]at h
def ZCH{j i k}(hk:YQ k=true)(hb:(∃len n z is xs,k=.bsl len n z is xs/\(j&&i&&Nat.ble 1 len)=true)->False){r}(h:(opF j i k).run H U nx=sO r):(opF false i k).run H U nx=sO r:=by
 cases k<;>simp only[YQ,ZIe]at hk;case bsl len n z is xs =>
  have hm:(j&&i&&Nat.ble 1 len)=false:=by cases t:(j&&i&&Nat.ble 1 len);rfl;exact(hb ⟨_,_,_,_,_,rfl,t⟩).elim
  simp only[opF]at h⊢;cases u:ofDs z<;>simp only[u,reduceCtorEq]at h⊢;simp only[hm,ZIe,if_false]at h;simpa only[ZH7,ZIe,if_false]using h
 all_goals exact h
def ZnB{H l}:ZA H H l:=λ_ _=>rfl
def ZDc(u:Sim C J U s)(t:YJ J nx)(hρ:Ya J L H ρd){dst g k}(hg:Zo ρd g=sO true)(hgk:(gk k ||g.isNone)=true)(hf:ZjX k=true){mu r}(h:(opF mu dst.isSome k).run H U nx=sO r)(hc:∀J' e j,J.Sub J'->YJ J' r.nx->Sim C J' r.U j->WR J' L (.v r.v) e->DO F kp dk os (Zz ρd dst e) L j):DO F kp dk (⟨dst,g,k⟩::os) ρd L s:=by
 have i:∀e j,Wh C J r e j->DO F kp dk os (Zz ρd dst e) L j:=λe j hr=>by obtain⟨J',h1,h2,h3,d,h4,rfl⟩:=hr;exact hc J' _ j h1 h2 h3 ⟨d,h4,.inl rfl⟩
 cases hk:YQ k with
 |false=>exact Zx4 u t hρ hg hgk hk hf h ZnB i
 |true =>by_cases hb:∃len n z is xs,k=.bsl len n z is xs/\(mu&&dst.isSome&&Nat.ble 1 len)=true;obtain⟨len,n,z,is,xs,rfl,hm⟩:=hb;exact ZzJ u t hρ hg h ZnB hm i;obtain⟨e1,e2,side,e,e3,e4,e5⟩:=Zq5 (L:=L) u t.o hρ hg hk (ZCH hk hb h);exact Q1 e4 e3 (hc J e s (Nm.Sub.refl _) (by rw[e2];exact t) (by rw[e1];exact u) e5)
end
def T.get_lt{α}{t:T α}{k a}(h:t.get k=sO a):k<32768:=by
 unfold T.get T.getF at h;cases i:Nat.blt k 32768 with
 |false=>rw[i]at h;grind
 |true=>simpa using i
def JX{H t e}(i:ZS H t=sO e):∀{ks},t∈ks->ZS (Yx H ks) t=sO e
 | [],h=>by grind
 |k::ks,h=>by
  simp[Yx];by_cases j:k=t;subst j;simp[i,ZS];have n:t∈ks:=by simpa[Ne.symm j]using h
  split;simp[ZS,j];exact JX i n;exact JX i n
def ZfB{t e}(j:Kq e=[]):∀{H},ZS H t=sO e->ZS (Jk H) t=sO e
 | [],h=>by cases h
 | (k,x)::r,h=>by simp[ZS]at h;simp[Jk];by_cases i:k=t;simp[i]at h;subst h;simp[j,ZS,i];simp[i]at h;split;simp[ZS,i];exact ZfB j h;exact ZfB j h
section
variable {J:Nm} {L:Loc} {H:T W} {ρd:Env}
def WR.locs{w e}(h:WR J [] w e)(j:live [] w=true):Kq e=[]:=by
 cases w with
 |v x =>obtain⟨d,_,rfl|rfl⟩:=h<;>rfl
 |loc l o=>cases j
 |skip =>have i:e=.when false (.d (.bool false)):=h;subst i;rfl
def Ya.keep(h:Ya J L H ρd):Ya J L H (Yx ρd Zps):=λt w i j=>by
 obtain⟨e,u,n⟩:=h t w i j;exact⟨e,JX u (List.mem_range.2 (T.get_lt i)),n⟩
def Ya.round(h:Ya J [] H ρd):Ya J [] H (Kc Zps ρd):=λt w n i=>by
 obtain⟨e,u,j⟩:=h.keep t w n i;exact⟨e,ZfB (j.locs i) u,j⟩
def Ya.nil:Ya J L T.nil ρd:=λt w i=>by simp[T.get_nil]at i
def Ya.set(h:Ya J L H ρd){v d}(hv:VR J v d)(t):Ya J L (H.set (sO (.v v)) t) ((t,.d d)::ρd):=λt' w hw n=>by
 rcases T.get_set hw with ⟨rfl,j⟩|⟨i,j⟩;cases j;exact⟨.d d,by simp[ZS],d,hv,.inl rfl⟩;obtain⟨e,u,z⟩:=h t' w j n;exact⟨e,by simp[ZS];rw[if_neg (Ne.symm i)];exact u,z⟩
def Zq8:∀{ts} {vs} {ds} {H} {ρd},Ya J L H ρd->VRs J vs ds->Ya J L (ZfO ts vs H) (WT ts ds ρd)
 | [],_,_,_,_,h,_=>by simpa[ZfO,WT]using h
 |_::_,[],_,_,_,h,hv=>by cases hv;simpa[ZfO,WT]using h
 |t::ts,v::vs,_,_,_,h,hv=>by obtain⟨d,ds,rfl,j,i⟩:=hv.inv;exact Zq8 (ts:=ts) (h.set j t) i
def ZqV:∀{vs i H t w},(Zoa i vs H).get t=sO w->(∃j v,t=i+j/\vs[j]?=sO v/\w=.v v)\/H.get t=sO w
 | [],i,H,t,w,h=>.inr h
 |v::vs,i,H,t,w,h=>by rcases ZqV (vs:=vs) (i:=i+1) h with ⟨j,u,rfl,h1,n⟩|h1;exact .inl ⟨j+1,u,ω,by simpa using h1,n⟩;rcases T.get_set h1 with ⟨rfl,n⟩|⟨_,n⟩;simp at n;exact .inl ⟨0,v,rfl,rfl,n.symm⟩;exact .inr n
def Zma:∀{ds i j d},ds[j]?=sO d->ZS (Qw i ds) (i+j)=sO (.d d)
 | [],i,j,d,h=>by grind
 |x::ds,i,0,d,h=>by cases h;simp[Qw,ZS]
 |x::ds,i,j+1,d,h=>by have:=Zma (ds:=ds) (i:=i+1) (j:=j) (by simpa using h);simp only[Qw,ZS];rw[if_neg ω,show i+(j+1)=i+1+j by omega];exact this
def Zyg{vs ds}(hv:VRs J vs ds):Ya J L (Zoa 0 vs T.nil) (Qw 0 ds):=λt w u _=>by
 rcases ZqV u with ⟨j,v,rfl,z,rfl⟩|h;obtain⟨d,i,n⟩:=hv.get z;exact⟨.d d,Zma i,d,n,.inl rfl⟩;simp[T.get_nil]at h
end
def ZCF:E->E
 |.when c e=>match c,e with
  |true,.d d=>.d d
  |c,e=>.when c e
 |e=>e
def nrm:Env->Env
 | []=>[]
 | (t,e)::r=>(t,ZCF e)::nrm r
def Zio:∀(H t),ZS (nrm H) t=(ZS H t).map ZCF
 | [],t=>rfl
 | (k,e)::r,t=>by simp[nrm,ZS];split;rfl;exact Zio r t
def Zy.nrm(m:Zy g Z w tmps H L s):Zy g Z w tmps (nrm H) L s:={
 st:=m.st
 loc:=m.loc
 locKept:=m.locKept
 locSt:=m.locSt
 inj:=m.inj
 env t e h:=by
  rw[Zio]at h;simp at h;obtain⟨j,n,rfl⟩:=h;have i:=m.env t j n;cases j with
  |d d=>exact i
  |loc l o=>exact i
  |when c e =>
   cases c with
   |false=>exact i
   |true =>
    cases e with
    |d d=>exact i.1 rfl
    |loc l o=>exact i
    |when c e=>exact i }
def Zsi{P}{F:Fr P}{dk H L s}(h:ZC F dk (nrm H) L s):ZC F dk H L s :=
 λk i g Z w tmps j m=>h k i g Z w tmps j m.nrm
def Zv9{P}{F:Fr P}{H L d s}(h:Wk F (nrm H) L d s):Wk F H L d s :=
 λg Z w v i tmps j m n=>h g Z w v i tmps j m.nrm n
def Zpo(J:Nm)(H:T W)(ρd:Env):Prop:=∀t x,H.get t=sO (.v x)->∃d,ZS ρd t=sO (.d d)/\VR J x d
section
variable {C:Px} {J:Nm} {U:S} {s:St} {L:Loc} {H:T W} {ρd:Env} {nx:Nat}
def Ya.nrm(h:Ya J L H ρd):Zpo J H (nrm ρd):=λt x n=>by
 obtain⟨e,j,d,i,rfl|rfl⟩:=h t _ n rfl;exact⟨d,by rw[Zio,j];rfl,i⟩;exact⟨d,by rw[Zio,j];rfl,i⟩
def Zpo.mono{J'}(h:Zpo J H ρd)(i:J.Sub J'):Zpo J' H ρd:=λt x n=>by
 obtain⟨d,u,j⟩:=h t x n;exact⟨d,u,j.mono i⟩
def ZCP(hS:Sim C J U s)(h1:J 1=sO .full)(hρ:Zpo J H ρd){r v}(h:rvV H U r=sO v):∃p d,Ks ρd [] s r=sO (p,d)/\p/\VR J v d:=by
 have i:∀{t:Nat} {a:V},(Y7 (.tmp t)).run H=sO a->∃d,ZS ρd t=sO (.d d)/\VR J a d:=λ{t a} j=>hρ t a (ZAS (x:=H.get t) j);cases r with
 |tmp t =>obtain⟨d,a1,a2⟩:=i h;exact⟨True,d,by simp[Ks,a1],trivial,a2⟩
 |cell1 t =>simp[rvV]at h;split at h<;>(try(grind;done));rename_i a j;obtain⟨d,a1,a2⟩:=i j;obtain⟨side,e,u,b2,b3⟩:=Zw3 (L:=[]) hS h1 (.one a2) h;simp only[ZHY,ZIf,qv,ZHS,ZHR,E.d.injEq]at u;obtain⟨x,z,c2,rfl⟩:=u;exact⟨True,x,by simp[Ks,a1,z],trivial,b3⟩
 |cellN t n =>simp[rvV]at h;split at h<;>(try(grind;done));rename_i a j;obtain⟨d,a1,a2⟩:=i j;obtain⟨side,e,u,b2,b3⟩:=Zw3 (L:=[]) hS h1 (.one a2) h;simp only[ZHY,ZIf,qv,ZHS]at u;obtain⟨x,z,rfl,rfl⟩:=u;exact⟨x.1,.agg x.2,by simp[Ks,a1,z],b2,b3⟩
def Zp5(n:Sim C J U s)(j:J 1=sO .full)(t:Zpo J H ρd):∀{rs vs},Zt8 H U rs=sO vs->∃p ds,YK ρd [] s rs=sO (p,ds)/\p/\VRs J vs ds
 | [],vs,h=>by cases h;exact⟨True,[],rfl,trivial,.nil⟩
 |r::rs,vs,h=>by simp[Zt8]at h;split at h<;>(try(grind;done));rename_i v z;split at h<;>simp at h;rename_i vs' i;subst h;obtain⟨p,d,a1,a2,a3⟩:=ZCP n j t z;obtain⟨q,ds,u,b2,b3⟩:=Zp5 n j t i;exact⟨p/\q,d::ds,by simp[YK,a1,u],⟨a2,b2⟩,.cons _ _ _ _ a3 b3⟩
def Zyw{vs}{ds}(h:VRs J vs ds):VR J (mkV vs) (Qy ds):=by
 cases h with
 |nil=>exact .tup _ _ .nil
 |cons v d vs ds h t =>
  cases t with
  |nil=>exact h
  |cons v' d' vs ds h' t=>exact .tup _ _ (.cons _ _ _ _ h (.cons _ _ _ _ h' t))
def ZvO{v d}(h:VR J v d)(i:Zxe v=true):ZfU d:=by
 cases h<;>simp only[Zxe,ZIe]at i<;>simp[ZfU,ZaV];exact Zvz i;rw[ZaJ]at i;simpa using i
def ZiH:∀{vs ds},VRs J vs ds->ZlB vs=true->Zb5 ds
 | [],_,h,_=>by cases h;trivial
 |v::vs,_,h,hr=>by obtain⟨d,ds,rfl,j,i⟩:=h.inv;simp[ZlB]at hr;exact⟨ZvO j hr.1,ZiH i hr.2⟩
def ZgL(C:Px)(J:Nm)(o:Out)(r:Res)(s:St):Prop :=
 ∃J' d,J.Sub J'/\YJ J' o.nx/\Sim C J' o.U s/\VR J' o.v d/\r=if o.pan then .panic d else .ret d
def ZgL.mono{J' o r}(h:ZgL C J' o r s)(i:J.Sub J'):ZgL C J o r s:=by
 obtain⟨η2,d,n,j⟩:=h;exact⟨η2,d,i.trans n,j⟩
inductive DdR(J:Nm):List Dd->List DD->Prop where
 |nil:DdR J [] []
 |mark (q b:Nat) (r:List Dd) (r':List DD) (h:J q=some (.tip b)) (t:DdR J r r'):DdR J (.mark q::r) (.mark b::r')
 |fn (i:FuncId) (a c:List V) (da dc:List D) (r:List Dd) (r':List DD) (ha:VRs J a da) (hc:VRs J c dc) (h1:Zb5 da) (h2:Zb5 dc) (t:DdR J r r'):DdR J (.fn i a c::r) (.fn i da dc::r')
def DdR.mono{J'}(hs:J.Sub J'):∀{r r'},DdR J r r'->DdR J' r r'
 |_,_,.nil=>.nil
 |_,_,.mark q b r r' h t=>.mark q b r r' (hs _ _ h) (t.mono hs)
 |_,_,.fn i a c da dc r r' ha hc h1 h2 t=>.fn i a c da dc r r' (ha.mono hs) (hc.mono hs) h1 h2 (t.mono hs)
def FmR(C:Px)(J:Nm)(fm:Fm)(o:Out)(F:Fr C.P):Prop :=
 F.b.fn=fm.f/\F.N=fm.n/\F.an=C.an fm.f/\match fm.k with
  |.fn res=>∃Φ dds,Y0 F res Φ dds/\DdR J fm.ds dds/\∀r s,ZgL C J o r s->Φ r s
  |.rnd l=>∃b Φ,J l=sO (.tip b)/\Qu F b Φ/\∀r s,ZgL C J o r s->Φ r s
  |.dfd pd rec=>∃m Ψ,ZaW F m Ψ rec/\(match pd,m with
    |some v,sO d=>VR J v d
    |none,nO=>True
    |_,_=>False)/\∀s b,o.pan=false->o.v=.bool b->ZgL C J o (.ret (.bool b)) s->Ψ b s
end
section
variable {P:Program}
def Zrp{an l N r s da db args Φ}(hs:s l=sO (.loop r .ready))(hlen:I args=I r.params)(ha:cc P an N r.assign=sO da)(hb:cc P an N r.body=sO db)(hN:r.N=N)(hp:∀t∈r.params,t<N)(h:∀F:Fr P,Qu F l Φ->F.b.fn=r.fn->F.N=N->F.an=an->ZC F [.code da,.beginR,.code db] (WT r.params args r.H) [] s):Ki P (.fn (.yield l) [] []) args s Φ:=by
 intro g w fv vs n hf j;cases hf with
 |fn _ fs z _ _ hn1 hn2 h1 h2 =>
 obtain rfl:fs=[]:=by simpa using hn1
 obtain⟨hp0,l0,a1,a2,a3,a4,a5,a6,a7,a8,a9,a10⟩:=n.obj l _ hs;have i:vs.toArray.size=l0.params.size:=by
  have e1:=j.len;have e2:I l0.params.toList=I r.params:=by rw[a3]
  simp at e2⊢;omega
 refine⟨_,_,_,by simp[Deferred.ofValue];rfl,by simp[invoke,Instr.yield,Instr.getLoop,JO a1,i];rfl,rfl,λc cs=>?_⟩;have M:Zy g (λ_=>0) w l0.tmps r.H [] s:=⟨n,λl cs h=>by simp[Zj]at h,λl cs h=>by simp[Zj]at h,λl cs h=>by simp[Zj]at h,λl l' cs z h=>by simp[Zj]at h,a8⟩;obtain⟨ab,M'⟩:=ZiC M j hlen (by rw[hN]at *;exact hp) (by rw[<-hN];exact a7);have:=h (ZbK P an r.fn N l c cs Φ) ⟨an,r.fn,N,c,cs,rfl⟩ rfl rfl rfl [.code r.assign,.beginRound,.code r.body] (.code ha (.beginR (.code hb .nil))) g (λ_=>0) w _ ab M';have u:(ZbK P an r.fn N l c cs Φ).b.atR { tmps:=(r.params.zip vs).foldl (λtmps (x:Nat×Value)=>tmps.setIfInBounds x.1 x.2) l0.tmps,defers:=[] } [.code r.assign,.beginRound,.code r.body] =
   Frame.round l l0.fn ((l0.params.zip vs.toArray).foldl (λtmps (x:Nat×Value)=>tmps.setIfInBounds x.1 x.2) l0.tmps) l0.assign l0.body .normal:=by
  simp only[Frame.atR,a2,a4,a5,<-a3]
  congr 1
  rw[<-Array.foldl_toList];simp
 have e:(ZbK P an r.fn N l c cs Φ).ds=[]:=rfl;rw[e,u]at this;have e2:(l0.params.zip vs.toArray).size=l0.params.size:=by simp at i⊢;omega
 rw[e2]at this;exact this
def Zrn{an i df}(n:cf P an i=sO df)(hres:df.res=[]){args m s Ψ}(hm:∀d,m=sO d->Zkh d)(h:∀F:Fr P,ZaW F m Ψ false->F.b.fn=i->F.N=df.n->F.an=an->ZC F [.code df.body] (Qw 0 args) [] s):Zap P i args m s Ψ:=by
 have ah:=n;unfold cf at n;split at n<;>(try(grind;done));rename_i fn ab;split at n<;>(try(grind;done));rename_i c hc;split at n<;>(try(grind;done));rename_i z;split at n<;>simp at n;rename_i rs d hrs hd;subst n;refine⟨⟨fn,ab,by simp[hc],by simpa using z⟩,λg w vs j cs hs ha t=>?_⟩;obtain⟨v,ad,af⟩:∃v,j.mode=Jz m v false/\∀d,m=sO d->∀g w,Rep g w v d:=by
  cases m with
  |none=>exact⟨undef,t,λd hd=>by simp at hd⟩
  |some d =>obtain⟨v,h1,h2⟩:=t;obtain⟨v',r1,r2⟩:=Zra (hm d rfl);have:=r2 g w v h2;subst this;exact⟨v,h1,λd' ac=>by simp at ac;subst ac;exact r1⟩
 have ae:({ j with mode:=Jz m v false }:Frame)=j:=by rw[<-ad]
 have u:Frame.enter P i vs.toArray .deferred=(Wn P an i fn.ntmps j cs Ψ m v false).b.atR { tmps:=vs.toArray++Array.replicate (fn.ntmps-I vs) undef,defers:=[] } [.code c]:=by simp[Frame.enter,Frame.atR,ab,hc,Wn]
 have:=h _ ⟨an,i,_,j,cs,v,ah,hres,ad,af,rfl⟩ rfl rfl rfl [.code c] (.code hd .nil) g (λ_=>0) w (vs.toArray++Array.replicate (fn.ntmps-I vs) undef) (by simp[Wn];omega) (Zg2 hs ha);obtain⟨g',w',s',b,a1,a2,a3,a4⟩:=this;refine⟨g',w',s',b,a1,a2,a3,?_⟩;rw[u];have ag:(Wn P an i fn.ntmps j cs Ψ m v false).cs=j::cs:=by simp[Wn,ae]
 rw[ag]at a4;exact a4
def Zup{an f df}(i:cf P an f=sO df){args s Φ}(h:∀F:Fr P,Y0 F df.res Φ []->F.b.fn=f->F.N=df.n->F.an=an->ZC F [.code df.body] (Qw 0 args) [] s):Ze P f args s Φ :=
 Zji i λj=>h _ ⟨an,f,df,j,i,rfl,rfl⟩ rfl rfl rfl
end
def Zzo(C:Px)(ih:Ih):Prop:=∀fm dk H U nx o,ih fm dk H U nx=sO o->∀(F:Fr C.P) J ρd s,FmR C J fm o F->Ya J [] H ρd->YJ J nx->Sim C J U s->ZC F dk ρd [] s
def JU(C:Px)(ih:Ih):Prop:=∀t,Zzo ⟨C.toCx,t⟩ ih
def JU.at{C ih}(h:JU C ih):Zzo C ih:=h C.t
def ZmC(J:Nm):Option V->Option D->Prop
 |some v,sO d=>VR J v d
 |none,nO=>True
 |_,_=>False
section
variable {C:Px} {ih:Ih}
def ZAx{J m md}(h:ZmC J m md)(n:Zxd m=true):∀d,md=sO d->Zkh d:=λd u=>by
 subst u;cases m with
 |none=>exact h.elim
 |some v =>have j:VR J v d:=h;cases j<;>simp[Zxd]at n;rename_i t v d j;have i:=j;cases j<;>first|exact ZiH (by assumption) n|exact ZvO i n
def ZhZ(hih:JU C ih):∀{ds m U nx m' U' nx'},Znj C ih ds m U nx=sO (m',U',nx')->∀{J dds md s},DdR J ds dds->YJ J nx->Sim C J U s->ZmC J m md ->
  ∀{Ψ},(∀J' md' s',J.Sub J'->YJ J' nx'->Sim C J' U' s'->ZmC J' m' md'->Ψ md' s')->Unw C.P dds md s Ψ
 | [],m,U,nx,m',U',nx',h,J,dds,md,s,hd,hN,hS,hm,Ψ,hΨ=>by cases h;cases hd;exact hΨ J md s (Nm.Sub.refl _) hN hS hm
 |.mark q::r,m,U,nx,m',U',nx',h,J,dds,md,s,hd,hN,hS,hm,Ψ,hΨ=>by
  simp only[Znj]at h;split at h<;>(try(simp at h;done));rename_i hq;cases hd with
  |mark _ b _ r' hb t =>obtain⟨b',d,e0,e1,e2⟩:=hS.get hq (λn=>by simp);rw[hb]at e0;cases e0;cases e2;exact⟨e1,ZhZ hih h t hN (hS.take hq hb) hm hΨ⟩
 |.fn i args caps::r,m,U,nx,m',U',nx',h,J,dds,md,s,hd,hN,hS,hm,Ψ,hΨ=>by
  simp only[Znj]at h;split at h<;>(try(simp at h;done));rename_i n body z;obtain⟨hr,hh⟩:=ZE h;replace h:=hh;clear hh;split at h<;>(try(simp at h;done));rename_i b σ1 nx1 j;cases hd with
  |fn _ _ _ da dc _ r' ha hc h1 h2 t =>
   refine⟨h1,h2,Zrn (an:=C.an i) z rfl (ZAx hm hr) λF hF e1 e2 e3=>?_⟩;refine hih.at _ _ _ _ _ _ j F J _ s ⟨e1,e2,e3,md,_,hF,hm,?_⟩ (Zyg (ha.append hc)) hN hS;intro s1 b1 _ u hp;obtain⟨η1,d,g1,g2,g3,g4,g5⟩:=hp;simp only[V.bool.injEq]at u;subst u;exact ZhZ hih h (t.mono g1) g2 g3 (by
    cases b with
    |true=>trivial
    |false =>
     cases m<;>cases md<;>first|trivial|exact hm.elim|exact VR.mono g1 hm) λη2 ab s2 k1 k2 k3 k4=>hΨ η2 ab s2 (g1.trans k1) k2 k3 k4
end
def ZDe(C:Cx)(r:ZcB)(st:Option DC)(busy:Bool)(lst:LSt):Prop:=match st,busy,lst with
 |none,false,.ready=>True
 |none,true,.busy=>True
 |some dj,false,.done j=>cc C.P (C.an r.fn) r.N j=sO dj
 |_,_,_=>False
section
variable {C:Px} {ih:Ih} {J:Nm} {U:S} {s:St} {H:T W} {ρd:Env} {nx:Nat}
def ZjR(hS:Sim C J U s){l b}(hb:J l=sO (.tip b)){st now busy U'}(h:loopTo U l st now busy=sO U'):
  ∃r lst,s b=sO (.loop r lst)/\(now=false->lst=.ready)/\(now=true->lst=.busy)/\∀z,ZDe C r st busy z->Sim C J U' (s.upd b (.loop r z)):=by
 unfold loopTo at h;split at h<;>(try(grind;done));rename_i f n ps a b0 ρ0 bs hl;obtain⟨u,hh⟩:=ZE h;replace h:=hh;clear hh;cases h;obtain⟨b',d,e0,e1,e2⟩:=hS.get hl (λn=>by simp);rw[hb]at e0;cases e0;have t:bs=now:=by simpa using u
 subst t;cases e2 with
 |loop _ _ _ _ _ _ _ _ r lst hf hn hps hlt ha hbb hρ hst =>
  subst hf;subst hn;refine⟨r,lst,e1,λi=>?_,λi=>?_,λz j=>hS.upd hl hb (.loop _ _ _ _ _ _ _ _ r z rfl rfl hps hlt ha hbb hρ ?_)⟩;subst i;cases lst<;>first|rfl|exact hst.elim
  subst i;cases lst<;>first|rfl|exact hst.elim
  cases st<;>cases busy<;>cases z<;>exact j
def ZvN(hih:JU C ih){fm fell o}(h:Zxc C ih fm H U nx fell=sO o){F}(hF:FmR C J fm o F)(hρ:Ya J [] H ρd)(hN:YJ J nx)(hS:Sim C J U s):
  (fell=true->ZC F [] ρd [] s)/\(fell=false->∀dk,ZC F (.code .ret::dk) ρd [] s):=by
 obtain⟨_,_,_,hk⟩:=hF;unfold Zxc at h;split at h
 .rename_i res i;rw[i]at hk;obtain⟨Φ,z,hI,n,hΦ⟩:=hk;split at h<;>(try(grind;done));rename_i σ1 nx1 hu;split at h<;>simp at h;rename_i vs t;subst h;have hU:Unw C.P z nO s (Zk5 (nrm ρd) [] res Φ):=ZhZ hih hu n hN hS (md:=nO) trivial λη1 u s1 k1 k2 k3 k4=>by
   cases u with
   |some d=>exact k4.elim
   |none =>obtain⟨p,ds,g1,g2,g3⟩:=Zp5 k3 k2.o (hρ.nrm.mono k1) t;exact⟨p,ds,_,s1,g1,g2,ZHL _,ZHH,hΦ _ _ ⟨η1,_,k1,k2,k3,Zyw g3,rfl⟩⟩
  exact⟨λ_=>Zsi (hI.finU hU),λ_ dk=>Zsi (hI.retU hU)⟩
 rename_i l i;rw[i]at hk;obtain⟨b,Φ,hb,hI,hΦ⟩:=hk;split at h<;>simp at h;rename_i σ1 hl;subst h;obtain⟨r,lst,e1,_,e2,e3⟩:=ZjR hS hb hl;obtain rfl:=e2 rfl;refine⟨λhf=>?_,λhf dk=>?_⟩;subst hf;exact hI.fin e1 ZHH (hΦ _ _ ⟨J,_,Nm.Sub.refl _,hN,e3 .ready trivial,.bool true,rfl⟩);subst hf;exact hI.ret e1 ZHH (hΦ _ _ ⟨J,_,Nm.Sub.refl _,hN,e3 (.done .ret) rfl,.bool false,rfl⟩);rename_i pd rec i;rw[i]at hk;obtain⟨m,Ψ,hI,hm,hΨ⟩:=hk;split at h<;>cases h;have j:pd.isNone=m.isNone:=by cases pd<;>cases m<;>first|rfl|exact hm.elim
 have hq:Ψ (m.isNone ||rec) s:=hΨ s _ rfl (by simp[j]) ⟨J,_,Nm.Sub.refl _,hN,hS,by rw[j];exact .bool _,rfl⟩;exact⟨λ_=>hI.fin ZHH hq,λ_ dk=>hI.ret ZHH hq⟩
def ZhH(hih:JU C ih){fm v d o}(h:Zm6 C ih fm H v U nx=sO o){F}(hF:FmR C J fm o F)(hρ:Ya J [] H ρd)(hN:YJ J nx)(hS:Sim C J U s)(hv:VR J v d):Wk F ρd [] d s:=by
 obtain⟨u,_,_,hk⟩:=hF;unfold Zm6 at h;split at h
 .rename_i res j;rw[j]at hk;obtain⟨Φ,dds,hI,n,hΦ⟩:=hk;refine Zv9 (hI.panU ?_);split at h<;>(try(grind;done))
  .rename_i σ1 ad hu;split at h<;>simp at h;rename_i vs z;subst h;exact ZhZ hih hu n hN hS (md:=sO d) hv λη1 i s1 k1 k2 k3 k4=>by
    cases i with
    |some d=>exact k4.elim
    |none =>obtain⟨p,ds,g1,g2,g3⟩:=Zp5 k3 k2.o (hρ.nrm.mono k1) z;exact⟨p,ds,_,s1,g1,g2,ZHL _,ZHH,hΦ _ _ ⟨η1,_,k1,k2,k3,Zyw g3,rfl⟩⟩
  rename_i v1 σ1 ad hu;cases h;exact ZhZ hih hu n hN hS (md:=sO d) hv λη1 i s1 k1 k2 k3 k4=>by
   cases i with
   |none=>exact k4.elim
   |some d1=>exact⟨d1,s1,ZHL _,ZHH,hΦ _ _ ⟨η1,d1,k1,k2,k3,k4,rfl⟩⟩
 rename_i l j;rw[j]at hk;obtain⟨b,Φ,hb,hI,hΦ⟩:=hk;split at h<;>simp at h;rename_i ab t;subst h;refine hI.pan ZHH (hΦ _ _ ⟨J,d,Nm.Sub.refl _,hN,hS,hv,rfl⟩) λan fn N c cs ac=>?_;subst ac;have:fn=fm.f:=u;rw[this];exact⟨ab,t⟩;grind
end
section
variable {P:Program}
def Zur{F:Fr P}{d Ψ}(hF:ZaW F (sO d) Ψ false){kp dk o os H L s}(hg:o.guard=nO)(hk:o.k=.recover)(h:∀F':Fr P,ZaW F' (sO d) Ψ true->F'.b=F.b->F'.N=F.N->F'.an=F.an->DO F' kp dk os (Zz H o.dst (.d d)) L s):DO F kp dk (o::os) H L s:=by
 obtain⟨an,f,df,i,n,v,hf,ag,ac,u,rfl⟩:=hF;refine Wz λoo g Z w tmps t j r k af z aj ae hd hN m hr am=>?_;have hw:=Yi m aj (c:=true) (by rw[hg];rfl);have ak:=Yq z (by rw[hk];rfl);rw[hk]at z;obtain⟨args,ats,al⟩:=Zic z;have ai:(execOp (Act.mk tmps []).eval oo).run P w=.ok .recover w:=by simp[execOp,al,resolve,invoke,builtin]
 have ad:_root_.Go.step P (lone ((Wn P an f df.n i n Ψ (sO d) v false).b.atR ⟨tmps,[]⟩ (.inRegion t (j::r)::k)) (Wn P an f df.n i n Ψ (sO d) v false).cs w) =
   .next (lone ((Wn P an f df.n i n Ψ (sO d) v true).b.atR ((Act.mk tmps []).put oo.dst v) (.inRegion t r::k)) (Wn P an f df.n i n Ψ (sO d) v true).cs w):=by
  refine step_lone_go ?_;rw[stepGR_op af hw,Oper.semAt_eq _ _ _ ak];have ah:((Wn P an f df.n i n Ψ (sO d) v false).b.atR ⟨tmps,[]⟩ (.inRegion t (j::r)::k)).finish v=(Wn P an f df.n i n Ψ (sO d) v true).b.atR ((Act.mk tmps []).put oo.dst v) (.inRegion t r::k):=by rw[Frame.finish_atR,af];rfl
  rw[<-ah];simp[stepG.apply,ai,Frame.atR,Wn,tryRecover,Jz]
 refine(Zfh P i n Ψ).back _ _ _ _ (.one ad) ?_;obtain⟨ab,e1,e2,m'⟩:=ZfP m hN hd (v:=v) (e:=.d d) (u d rfl g w) [];rw[ae,e1];exact h _ ⟨an,f,df,i,n,v,hf,ag,ac,u,rfl⟩ rfl rfl rfl t r k hr am g Z w ab e2 m'
end
def WR.val{J L v d}(h:VR J v d):WR J L (.v v) (.d d):=⟨d,h,.inl rfl⟩
def WR.skp{J L}:WR J L .skip (.when false (.d (.bool false))):=rfl
def Zr9(J:Nm)(U:S)(s:St):Prop:=∀(k b:Nat) (vs:List V),Zbs (U.get k)=sO vs->J k=sO (.tip b)->∃ds ex,s b=sO (.cells (ds++ex))/\VRs J vs ds
def Jg(C:Px):Prop:=∀f g U vs v,C.lib f=sO g->g U vs=sO v->∀(J:Nm) ds s,VRs J vs ds->Zr9 J U s->∃d,VR J v d/\Ze C.P f ds s λr s'=>r=.ret d/\s'=s
section
variable {C:Px} {ih:Ih} {J:Nm} {U:S} {s:St} {H:T W} {ρd:Env} {nx:Nat}
def ZmC.mono{J'}(i:J.Sub J'){a b}(h:ZmC J a b):ZmC J' a b:=by
 cases a<;>cases b<;>first|trivial|exact h.elim|exact VR.mono i h
def FmR.mono{J'}(j:J.Sub J'){fm o F}(h:FmR C J fm o F):FmR C J' fm o F:=by
 obtain⟨h1,z,h3,t⟩:=h;refine⟨h1,z,h3,?_⟩;split at t;obtain⟨Φ,i,a,b,c⟩:=t;exact⟨Φ,i,a,b.mono j,λr s n=>c r s (n.mono j)⟩;obtain⟨b,Φ,a,c,d⟩:=t;exact⟨b,Φ,j _ _ a,c,λr s n=>d r s (n.mono j)⟩;obtain⟨m,Ψ,a,c,d⟩:=t;exact⟨m,Ψ,a,ZmC.mono j c,λs b u e2 n=>d s b u e2 (n.mono j)⟩
def ZsF(j:JU C ih){f args ds o}(h:(ZrX C f).run ih args U nx=sO o)(ha:VRs J args ds)(t:YJ J nx)(z:Sim C J U s):Ze C.P f ds s (ZgL C J o):=by
 unfold ZrX at h;split at h;rename_i df i;exact Zup (an:=C.an f) i λF hI n u e3=>j.at _ _ _ _ _ _ h F J _ s ⟨n,u,e3,_,[],hI,.nil,λ_ _ h=>h⟩ (Zyg ha) t z;grind
def ZmM(j:Jg C)(i:JU C ih){f args ds o}(h:(Zh9 C f).run ih args U nx=sO o)(t:VRs J args ds)(u:YJ J nx)(n:Sim C J U s):Ze C.P f ds s (ZgL C J o):=by
 unfold Zh9 at h;split at h;rename_i g hg;simp only at h;split at h;simp at h;rename_i v hv;subst h;obtain⟨d,h1,h2⟩:=j f g U args v hg hv J ds s t λ_ _ _ h hb=>n.cells h hb;exact h2.mono λr s' ⟨z,e2⟩=>by subst z;subst e2;exact⟨J,d,Nm.Sub.refl _,u,n,h1,rfl⟩
 exact ZsF i h t u n;exact ZsF i h t u n
def ZmN(t:Jg C)(j:JU C ih){fv args fd ds o}(h:ZnF C ih fv args U nx=sO o)(u:VR J fv fd)(z:VRs J args ds)(hN:YJ J nx)(hS:Sim C J U s):Ki C.P fd ds s (ZgL C J o):=by
 cases u<;>simp only[ZnF,reduceCtorEq]at h;case fn f a c da dc h1 h2 =>refine Ze.V (ZmM t j h ?_ hN hS);rw[ZIg];exact h1.append (z.append h2)
 case yield l b hb =>
  split at h<;>(try(simp at h;done));rename_i f n ps a b0 ρ0 hl;obtain⟨i,hh⟩:=ZE h;replace h:=hh;clear hh;rw[Z8]at i;obtain⟨b',d,e0,e1,e2⟩:=hS.get hl (λn=>by simp);rw[hb]at e0;cases e0;cases e2 with
  |loop _ _ _ _ _ _ _ _ r lst u hn hps hlt hca hcb hρ hst =>
   subst u;subst hn;subst hps;have hr:lst=.ready:=by cases lst<;>first|rfl|exact hst.elim
   subst hr;refine Zrp (an:=C.an r.fn) e1 (by rw[<-z.len];exact i) hca hcb rfl hlt λF hI e2 e3 e4=>?_;exact j.at _ _ _ _ _ _ h F J _ s ⟨e2,e3,e4,b,_,hb,hI,λ_ _ h=>h⟩ (Zq8 hρ z) hN hS
def ZxL(C:Px)(ih:Ih)(rest:Bx Rg)(dk:List KH)(os:List DOp):Prop :=
 ∀fm H U nx o,rest.run ih dk fm H U nx=sO o->∀(F:Fr C.P) J ρd s,FmR C J fm o F->Ya J [] H ρd->YJ J nx->Sim C J U s->DO F nO dk os ρd [] s
def Zyd(hlib:Jg C)(hih:JU C ih){rest dk os}(hrest:ZxL C ih rest dk os){fm f dst g k}(hfk:ZjX k=true){o}(h:(goF C f rest dst g k).run ih dk fm H U nx=sO o){F}(hg:Zo ρd g=sO true)(hF:FmR C J fm o F)(hρ:Ya J [] H ρd)(hN:YJ J nx)(hS:Sim C J U s):DO F nO dk (⟨dst,g,k⟩::os) ρd [] s:=by
 have ae:∀{k:K},ZjX k=true->(gk k ||g.isNone)=true->(match (opF (C.mu f dst) dst.isSome k).run H U nx with
   |some ⟨v,U',n⟩=>rest.run ih dk fm ((Zdb dst).run H (.v v)) U' n
   |none=>nO)=sO o->DO F nO dk (⟨dst,g,k⟩::os) ρd [] s:=by
  intro k hfk ab h;split at h<;>(try(simp at h;done));rename_i v U' n af;exact ZDc hS hN hρ hg ab hfk af λJ' e s2 k1 k2 k3 k4=>hrest _ _ _ _ _ h F J' _ s2 (hF.mono k1) (Zag (hρ.mono k1) k4 dst) k2 k3
 cases k;case call fx xs =>
  simp only[goF]at h;split at h<;>(try(simp at h;done));rename_i fv u;split at h<;>(try(simp at h;done));rename_i vs z;split at h<;>(try(simp at h;done));rename_i pan v U' n i;obtain⟨p,fd,a1,a2,a3⟩:=K0 hρ u;obtain⟨q,ds,b1,b2,b3⟩:=Zbd hρ z;have hV:=ZmN hlib hih i a3 b3 hN hS;refine Zfn hg rfl a1 b1 (Zbj ds) b2 a2 hV (λd s' hp=>?_) (λd s' hp=>?_)
  .obtain⟨η1,d1,k1,k2,k3,k4,k5⟩:=hp;cases pan with
   |true=>simp at k5
   |false =>cases k5;exact hrest _ _ _ _ _ h F η1 _ s' (hF.mono k1) (Zag (hρ.mono k1) (WR.val k4) dst) k2 k3
  obtain⟨η1,d1,k1,k2,k3,k4,k5⟩:=hp;cases pan with
  |false=>simp at k5
  |true =>cases k5;exact ZhH hih h (hF.mono k1) (hρ.mono k1) k2 k3 k4
 case panic x =>
  simp only[goF]at h;split at h<;>(try(simp at h;done));rename_i t v hv;obtain⟨p,d,a1,a2,a3⟩:=K0 hρ hv;cases a3 with
  |iface _ _ d hd=>exact Zmz hg rfl a1 a2 (ZhH hih h hF hρ hN hS (.iface _ _ _ hd))
 case defer fx xs =>
  simp only[goF]at h;split at h
  .simp only at h;split at h<;>(try(simp at h;done));rename_i j first caps vs u z
   split at h<;>(try(simp at h;done));rename_i res hk;obtain⟨hr,hh⟩:=ZE h;replace h:=hh;clear hh;simp only[ZHN]at hr;obtain⟨p,fd,a1,a2,a3⟩:=K0 hρ u;obtain⟨q,ds,b1,b2,b3⟩:=Zbd hρ z;cases a3 with
   |fn _ _ _ da dc h1 h2 =>obtain⟨f1,f2,f3,f4⟩:=hF;rw[hk]at f4;obtain⟨Φ,dds,hI,hd,hΦ⟩:=f4;have r1:=ZiH (h1.append b3) hr.1;have r2:=ZiH h2 hr.2;refine Zmy hI.roundOf rfl rfl rfl a1 b1 (Zbj ds) b2 a2 r1 r2 (hrest _ _ _ _ _ h _ J _ s ⟨f1,f2,f3,?_⟩ hρ hN hS);simp only[hk];exact⟨Φ,_,hI.defer j (da++ds) dc,.fn _ _ _ _ _ _ _ (h1.append b3) h2 r1 r2 hd,hΦ⟩
  simp at h
 case recover =>
  simp only[goF]at h;split at h
  .simp only at h;obtain⟨f1,f2,f3,f4⟩:=hF;split at h
   .rename_i v hk;rw[hk]at f4;obtain⟨m,Ψ,hI,hm,hΨ⟩:=f4;cases m with
    |none=>exact hm.elim
    |some d =>refine Zur hI rfl rfl λF' ac e1 e2 e3=>hrest _ _ _ _ _ h F' J _ s ⟨by rw[e1];exact f1,by rw[e2];exact f2,by rw[e3];exact f3,?_⟩ (Zag hρ (WR.val hm) dst) hN hS;exact⟨sO d,Ψ,ac,hm,hΨ⟩
   .rename_i rec hk;have ad:=f4;rw[hk]at f4;obtain⟨m,Ψ,hI,hm,hΨ⟩:=f4;cases m with
    |some d=>exact hm.elim
    |none=>exact ZgK hI rfl rfl (hrest _ _ _ _ _ h F J _ s ⟨f1,f2,f3,ad⟩ (Zag hρ (WR.val .niliface) dst) hN hS)
   simp at h
  simp at h
 all_goals
  simp only[goF]at h;split at h;rename_i ab;exact ae hfk ab h;simp at h
def ZvM(i:Jg C)(j:JU C ih){dk f}:∀{os},(os.all λo=>ZjX o.k)=true->ZxL C ih (Zp2 C f os) dk os
 | [],_=>λfm H U nx o h F J ρd s t n u z=>Zfm (j.at _ _ _ _ _ _ h F J ρd s t n u z)
 |⟨dst,g,k⟩::os,hfk=>λfm H U nx o h F J ρd s t n u z=>by simp only[List.all_cons,ZHN]at hfk;have IH:=ZvM i j (dk:=dk) (f:=f) hfk.2;simp[Zp2]at h;split at h;exact Zyd i j IH hfk.1 h rfl t n u z;simp only at h;split at h<;>(try(grind;done));rename_i b hb;have hg:=ZqS n hb;split at h;exact Zyd i j IH hfk.1 h hg t n u z;exact Jx (e:=.d (.bool false)) hg (IH _ _ _ _ _ h F J _ s t (Zag n WR.skp dst) u z)
end
section
variable {P:Program}
def Zsk{F:Fr P}(hr:F.b.roundOf=nO){o ps da db dk H L s p fv}(hf:ZD H true o=sO (p,.d fv))(hp:p)(ks)(hks:(Yx H ks).map (·.1) |>.Nodup)(h:∀q l r,s q=nO->s l=nO->q≠l->r.H=Kc ks H->r.params=ps->r.fn=F.b.fn->cc P F.an F.N r.assign=sO da->cc P F.an F.N r.body=sO db->r.N=F.N->(∀t∈ps,t<F.N) ->
   ∃Ψ,Ki P fv [.fn (.yield l) [] []] ((s.upd q .dfr).upd l (.loop r .ready)) Ψ/\(∀d s',Ψ (.ret d) s'->∃r',Zjr (F.mark q) l r' dk H L s')/\(∀d s',Ψ (.panic d) s'->Wk (F.mark q) H L d s')):
  ZC F (.code (.rangeF o ps da db)::dk) H L s:=by
 intro k hk;cases hk with
 | @code _ _ kt _ hc ht =>
 obtain⟨f',ac,a',b',rfl,al,aq,ha,hb,ao⟩:=ZqB hc;intro g Z w tmps hN m;have aj:Rep g w _ fv:=Yf m al rfl hf hp F.ds;have ag:=Zav (g:=g) (w:=w) (.deferred (sO [])) m.st.fresh;have ai:=ag.ext m.st.fresh;obtain⟨hq,m1⟩:=m.newObj ag (o:=.dfr) ⟨(m.st.fresh _ (ZHV _)).1,Kw w⟩;let w1:=w.alloc (.deferred (sO []));let lp:Go.Loop:={ state:=.ready,pending:=nO,fn:=F.b.fn,tmps:=tmps,params:=ac,assign:=a',body:=b',defers:=w.heap.size };let r:ZcB:={ fn:=F.b.fn,params:=ps,assign:=a',body:=b',defers:=w.heap.size,H:=Kc ks H,N:=F.N };have af:=Zav (g:=g) (w:=w1) (.loop lp) m1.st.fresh;have z:=af.ext m1.st.fresh;obtain⟨hl,m2⟩:=m1.newObj af (o:=.loop r .ready) ⟨(m1.st.fresh _ (ZHV _)).1,lp,Kw w1,rfl,aq,rfl,rfl,rfl,hN,λt e ar=>by
  obtain⟨h1,h2⟩:=Ze0 hks ar;exact ZoI (((m1.env t e (Zeo H ks t e h1))).mono z) h2,rfl,rfl⟩
 have hqsz:w1.heap.size=w.heap.size+1:=by simp[w1]
 have av:s w1.heap.size=nO:=by have aw:¬w1.heap.size=w.heap.size:=ω;have h0:(s.upd w.heap.size .dfr) w1.heap.size=nO:=hl;simp[ZIi,aw]at h0;exact h0
 obtain⟨Ψ,hV,ae,ad⟩:=h w.heap.size w1.heap.size r hq av ω rfl rfl rfl ha hb rfl ao;have ab:Rep g (w1.alloc (.loop lp)) _ fv:=(aj.mono ai).mono z;obtain⟨d,nx,fr,ap,ak,am,hC⟩:=hV (Zgj g Z L) (w1.alloc (.loop lp)) _ [.func (.yield w1.heap.size) #[] #[]] m2.callSt (WG ab rfl) (.cons (.fn (.yield w1.heap.size) [] [] [] [] rfl rfl ψ ψ) .nil);have u:(Instr.enterLoop F.b.fn tmps ac a' b' F.b.roundOf).run P w=.ok (w1.heap.size,[{ target:=.collected w.heap.size,args:=#[] }]) (w1.alloc (.loop lp)):=by rw[hr];simp[Instr.enterLoop,w1,lp]
 have j:=ZhV (P:=P) (b:=F.b) (a:=⟨tmps,F.ds⟩) (k:=kt) (cs:=F.cs) u ap ak am;obtain⟨e,w',⟨g',s',res,x1,x2,x3,x4⟩,i⟩:=hC (F.b.atR { tmps:=tmps,defers:=[{ target:=.collected w.heap.size,args:=#[] }]++F.ds } (.inRangeFunc w1.heap.size::kt)) F.cs;obtain⟨ah,hm⟩:=m2.afterCall x1 x2;have n:=(ai.trans z).trans ah;cases e with
 |returned v =>
  cases res with
  |panic d=>exact x3.elim
  |ret d =>refine F.T.back _ _ _ _ (.head j i) ?_;exact F.T.ext _ _ _ _ _ n ((ae d s' x4).elim λ_ au=>ZoH (F:=F.mark w.heap.size) ht hN hm au)
 |panicked ch =>
  cases res with
  |ret d=>exact x3.elim
  |panic d =>obtain⟨v,rfl,hv⟩:=x3;refine F.T.back _ _ _ _ (.head j i) ?_;exact F.T.ext _ _ _ _ _ n (ad d s' x4 _ _ _ v _ _ hN hm (WG hv rfl))
 |outgrown=>exact i.elim
end
def Zit{H}:∀{ks t},t∈(Yx H ks).map (·.1)->t∈ks
 | [],t,h=>by cases h
 |k::ks,t,h=>by simp only[Yx]at h;split at h;simp only[ZHY,ZIj]at h;rcases h with rfl|h;simp;exact List.mem_cons_of_mem _ (Zit h);exact List.mem_cons_of_mem _ (Zit h)
def ZgX{H}:∀{ks},ks.Nodup->((Yx H ks).map (·.1)).Nodup
 | [],_=>by simp[Yx]
 |k::ks,h=>by simp at h;simp[Yx];split;simp only[ZHY,List.nodup_cons];exact⟨λi=>h.1 (Zit i),ZgX h.2⟩;exact ZgX h.2
section
variable {C:Px} {ih:Ih}
def Zsa(C:Px)(ih:Ih)(f:FuncId)(c:DC):Prop :=
 ∀fm k H U nx o,(ZaY C f c).run ih fm k H U nx=sO o->fm.f=f->∀(F:Fr C.P) J ρd s,FmR C J fm o F->Ya J [] H ρd->YJ J nx->Sim C J U s->ZC F (.code c::k) ρd [] s
def Znw(C:Px)(ih:Ih):Prop:=∀f order ops kp,Zsa C ih f (.regD order ops kp)
def ZyM(hlib:Jg C)(hih:JU C ih){f g ps a b}:Zsa C ih f (.rangeF g ps a b):=by
 intro fm k H U nx o h hf F J ρd s hF hρ hN hS;simp[ZaY]at h;split at h<;>(try(grind;done));rename_i res hk;split at h<;>(try(grind;done));rename_i fv am;split at h<;>(try(grind;done));rename_i pan v U' nx' u;obtain⟨p,fd,a1,a2,a3⟩:=K0 hρ am;obtain⟨f1,f2,f3,f4⟩:=hF;rw[hk]at f4;obtain⟨Φ,dds,hI,ae,hΦ⟩:=f4;refine Zsk hI.roundOf a1 a2 Zps (ZgX List.nodup_range) λq l r hq hl ai hr ag hfn af ah hrN al=>?_;have f0:=hN.free nx (ZHV _);have n1:J.Sub (J.put nx (.tip q)):=Nm.put_sub f0 _;have ac:=hN.put (.tip q);have S1:Sim C (J.put nx (.tip q)) (U.set (sO .dfr) nx) (s.upd q .dfr):=hS.new f0 hq .dfr;have ab:=ac.free (nx+1) (ZHV _);have n2:(J.put nx (.tip q)).Sub ((J.put nx (.tip q)).put (nx+1) (.tip l)):=Nm.put_sub ab _;have ao:=ac.put (.tip l);have ak:(s.upd q .dfr) l=nO:=by rw[ZHQ s _ (Ne.symm ai)];exact hl
 have S2:=S1.new ab ak (o:=.loop fm.f fm.n ps a b H nO false) (d:=.loop r .ready)
  (.loop _ _ _ _ _ _ _ _ r .ready (by simp_all) (by simp_all) ag (by rw[<-f2];exact al) (by rw[<-f3,<-f2];exact af) (by rw[<-f3,<-f2];exact ah) (by rw[hr];exact(hρ.round.mono n1).mono n2) trivial)
 have hV:=ZmN hlib hih u ((a3.mono n1).mono n2) (.one (.yield _ _ Nm.put_same)) ao S2;have z:∀{J':Nm},((J.put nx (.tip q)).put (nx+1) (.tip l)).Sub J'->FmR C J' { fm with ds:=.mark nx::fm.ds } o (F.mark q):=λ{J'} hs=>by refine⟨f1,f2,f3,?_⟩;simp[hk];exact⟨Φ,_,hI.mark q,.mark _ _ _ _ (hs _ _ (n2 _ _ Nm.put_same)) (ae.mono (n1.trans (n2.trans hs))),λr s hp=>hΦ r s (hp.mono (n1.trans (n2.trans hs)))⟩
 refine⟨_,hV,λd s' hp=>?_,λd s' hp=>?_⟩
 .obtain⟨η1,d1,k1,k2,k3,k4,k5⟩:=hp;cases pan with
  |true=>grind
  |false =>
   simp only at h;have t:η1 (nx+1)=sO (.tip l):=k1 _ _ Nm.put_same;have ad:Ya η1 [] H ρd:=hρ.mono (n1.trans (n2.trans k1));split at h<;>(try(grind;done))
   .rename_i i;obtain⟨b',dd,e0,e1,e2⟩:=k3.get i (λn=>by simp);rw[t]at e0;cases e0;cases e2 with
    |loop _ _ _ _ _ _ _ _ r' lst hf' hn' hps' hlt' ha' hb' hρ' hst =>
     have aj:lst=.ready:=by cases lst<;>first|rfl|exact hst.elim
     subst aj;exact⟨r',.inl ⟨e1,hih.at _ _ _ _ _ _ h (F.mark q) η1 ρd _ (z k1) ad k2 (k3.take i t)⟩⟩
   rename_i f' n' _ _ _ _ j i;obtain⟨hc,hh⟩:=ZE h;replace h:=hh;clear hh;simp at hc;obtain⟨rfl,rfl⟩:=hc;obtain⟨b',dd,e0,e1,e2⟩:=k3.get i (λn=>by simp);rw[t]at e0;cases e0;cases e2 with
   |loop _ _ _ _ _ _ _ _ r' lst hf' hn' hps' hlt' ha' hb' hρ' hst =>
    cases lst with
    |done j'=>exact⟨r',.inr ⟨j',j,e1,by show cc C.P F.an F.N j'=_;rw[f3,f2];exact hst,hih.at _ _ _ _ _ _ h (F.mark q) η1 ρd _ (z k1) ad k2 (k3.take i t)⟩⟩
    |_=>exact hst.elim
 obtain⟨η1,d1,k1,k2,k3,k4,k5⟩:=hp;cases pan with
 |false=>grind
 |true =>cases k5;exact ZhH hih h (z k1) (hρ.mono (n1.trans (n2.trans k1))) k2 k3 k4
def Zbh(u:Jg C)(n:JU C ih)(hD:Znw C ih){f}:∀c,Zsa C ih f c
 |.skip=>λfm k H U nx o h hf F J ρd s z hρ hN hS=>Zp (n.at _ _ _ _ _ _ h F J ρd s z hρ hN hS)
 |.label _=>λfm k H U nx o h hf F J ρd s z hρ hN hS=>YL (n.at _ _ _ _ _ _ h F J ρd s z hρ hN hS)
 |.seq a b=>λfm k H U nx o h hf F J ρd s z hρ hN hS=>Zd (Zbh u n hD a _ _ _ _ _ _ h hf F J ρd s z hρ hN hS)
 |.block id a=>λfm k H U nx o h hf F J ρd s z hρ hN hS=>Zb (Zbh u n hD a _ _ _ _ _ _ h hf F J ρd s z hρ hN hS)
 |.loop a=>λfm k H U nx o h hf F J ρd s z hρ hN hS=>Za9 (Zbh u n hD a _ _ _ _ _ _ h hf F J ρd s z hρ hN hS)
 |.scope a=>λfm k H U nx o h hf F J ρd s z hρ hN hS=>YB (Zbh u n hD a _ _ _ _ _ _ h hf F J ρd s z hρ hN hS)
 |.cond c a b=>λfm k H U nx o h hf F J ρd s z hρ hN hS=>by
  simp[ZaY]at h;split at h<;>(try(grind;done));rename_i v hv;obtain⟨p,d,a1,a2,a3⟩:=K0 hρ hv;cases a3<;>simp at h;rename_i t;cases t with
  |true=>exact Zt a1 a2 (λ_=>Zbh u n hD a _ _ _ _ _ _ h hf F J ρd s z hρ hN hS) (λh=>by grind)
  |false=>exact Zt a1 a2 (λh=>by grind) (λ_=>Zbh u n hD b _ _ _ _ _ _ h hf F J ρd s z hρ hN hS)
 |.goto l=>λfm k H U nx o h hf F J ρd s z hρ hN hS=>by simp[ZaY]at h;split at h<;>(try(grind;done));rename_i k' i;exact ZxK i (n.at _ _ _ _ _ _ h F J ρd s z hρ hN hS)
 |.ret=>λfm k H U nx o h hf F J ρd s z hρ hN hS=>(ZvN n h z hρ hN hS).2 rfl k
 |.exit id=>λfm k H U nx o h hf F J ρd s z hρ hN hS=>by simp[ZaY]at h;split at h;rename_i k' i;exact ZR i (n.at _ _ _ _ _ _ h F J ρd s z hρ hN hS);rename_i hx;split at h<;>(try(grind;done));rename_i l hk;split at h<;>simp at h;rename_i σ1 hl;subst h;obtain⟨f1,f2,f3,f4⟩:=z;rw[hk]at f4;obtain⟨b,Φ,hb,hI,hΦ⟩:=f4;obtain⟨r,lst,e1,_,e2,e3⟩:=ZjR hS hb hl;obtain rfl:=e2 rfl;exact hI.exit hx e1 ZHH (hΦ _ _ ⟨J,_,Nm.Sub.refl _,hN,e3 (.done (.exit id)) rfl,.bool false,rfl⟩)
 |.reg ops kp=>λfm k H U nx o h hf F J ρd s z hρ hN hS=>by simp[ZaY]at h;split at h<;>(try(grind;done));split at h<;>(try(grind;done));rename_i j;exact Zh4 (ZvM u n j _ _ _ _ _ h F J ρd s z hρ hN hS)
 |.regD order ops kp=>hD f order ops kp
 |.rangeF g ps a b=>ZyM u n
def ZBU(n:Jg C)(j:JU C ih)(hD:Znw C ih):Zzo C (step C ih):=by
 intro fm dk H U nx o h F J ρd s t u z hS;unfold step at h;split at h;exact(ZvN j h t u z hS).1 rfl;split at h;exact Zf (j.at _ _ _ _ _ _ h F J ρd s t u z hS);exact Z9 (j.at _ _ _ _ _ _ h F J ρd s t u z hS);exact Za (Zbh n j hD _ _ _ _ _ _ _ h rfl F J ρd s t u z hS);·split at h<;>(try(grind;done));rename_i l hk;split at h<;>(try(grind;done));rename_i σ1 hl;have i:=t;obtain⟨f1,f2,f3,f4⟩:=t;rw[hk]at f4;obtain⟨b,Φ,hb,hI,hΦ⟩:=f4;obtain⟨r,lst,e1,e2,_,e3⟩:=ZjR hS hb hl;obtain rfl:=e2 rfl;exact hI.begin e1 (j.at _ _ _ _ _ _ h F J ρd _ i u z (e3 .busy trivial))
 exact Zbh n j hD _ _ _ _ _ _ _ h rfl F J ρd s t u z hS
def ZoL{C}(hlib:∀t,Jg ⟨C,t⟩)(hD:∀(C':Px) ih,C'.toCx=C->JU C' ih->Znw C' ih):∀n t,JU ⟨C,t⟩ (run C n)
 |0,_=>λ_ fm dk H U nx o h=>by cases h
 |n+1,_=>λt=>ZBU (hlib t) (ZoL hlib hD n t) (hD ⟨C,t⟩ _ rfl (ZoL hlib hD n t))
end
def ZjQ{s s' L L'}:∀{B},(∀n b,(n,.blk b)∈B->s' b=s b)->(∀n l,(n,.loc l)∈B->Zj L' l=Zj L l)->Qk s s' L L' B
 | [],_,_=>trivial
 | (n,.blk b)::B,h1,h2=>⟨h1 n b ψ,ZjQ (λm b j=>h1 m b (by simp[j])) (λm l i=>h2 m l (by simp[i]))⟩
 | (n,.loc l)::B,h1,h2=>⟨h2 n l ψ,ZjQ (λm b j=>h1 m b (by simp[j])) (λm l i=>h2 m l (by simp[i]))⟩
def ZfG{n}:∀{l},ZaS n l=true↔n∈l
 | []=>by simp[ZaS]
 |a::r=>by simp[ZaS,ZfG (l:=r)];constructor;rintro(h|h);exact .inl h.symm;exact .inr h;rintro(h|h);exact .inl h.symm;exact .inr h
def Zgr{fl s s' L L' B}(t:∀n b,n∈fl->(n,.blk b)∈B->s' b=s b)(j:∀n l,n∈fl->(n,.loc l)∈B->Zj L' l=Zj L l):Wq fl s s' L L' B :=
 ZjQ (λn b i=>t n b (ZfG.1 (QZ.1 i).1) (QZ.1 i).2) (λn b i=>j n b (ZfG.1 (QZ.1 i).1) (QZ.1 i).2)
def ZdF{n}:∀{l},Zg0 n l=true↔n∈l
 | []=>by simp[Zg0]
 |a::r=>by simp only[Zg0];split;rename_i h;rw[Z8]at h;simp[h];rename_i h;have:¬n=a:=λe=>h (by simp_all);rw[ZdF];simp[this]
def Zss{n m l}(h:m=n\/m∈l):m∈Zzr n l:=by
 unfold Zzr;split;rename_i hm;rcases h with rfl|h;exact ZdF.1 hm;exact h;rcases h with rfl|h<;>simp[*]
def ZfY{fl n k}(i:n∈fl):∀{l},(n,k)∈l->k∈Znc fl l
 | [],h=>by grind
 | (t,m)::r,h=>by simp[Znc];rcases List.mem_cons.1 h with h|h;cases h;rw[if_pos (ZdF.2 i)];exact Zss (.inl rfl);split;exact Zss (.inr (ZfY i h));exact ZfY i h
def Zgq{fl n k}(i:n∈fl):∀{l},(n,k)∈l->(n,k)∈Zgp fl l
 | [],h=>by grind
 | (t,m)::r,h=>by simp[Zgp];rcases List.mem_cons.1 h with h|h;cases h;rw[if_pos (ZdF.2 i)];simp;split;exact List.mem_cons_of_mem _ (Zgq i h);exact Zgq i h
def ZqP{u}:∀{r},ZjJ u r=nO->∀x∈r,x.1≠u
 | [],_,x,h=>by grind
 | (t,a)::r,hn,x,h=>by simp only[ZjJ]at hn;split at hn;grind;rename_i i;rcases List.mem_cons.1 h with rfl|h;exact λe=>i (Z8.2 e);exact ZqP hn x h
def ZmY{u a}:∀{r},ZjJ u r=sO a->(u,a)∈r
 | [],h=>by cases h
 | (t,b)::r,h=>by simp only[ZjJ]at h;split at h;rename_i i;rw[Z8]at i;cases h;subst i;simp;exact List.mem_cons_of_mem _ (ZmY h)
def ZmZ{l vs x}:∀{r},KT x (Zkz l vs r)=if x=l then (match KT l r with
  |some _=>sO vs
  |none=>nO) else KT x r
 | []=>by simp[Zkz,KT]
 | (t,c)::r=>by simp[Zkz];by_cases j:t=l;subst j;simp_all;simp[KT];by_cases i:x=t;subst i;simp;simp_all;have:¬Nat.beq t x=true:=λh=>i (Z8.1 h).symm;simp_all;simp_all;simp[KT];rw[ZmZ (r:=r)];by_cases i:x=l;subst i;simp_all;simp[i]
def Zrd{l vs}:∀{r},(Zkz l vs r).map (·.1)=r.map (·.1)
 | []=>rfl
 | (t,c)::r=>by simp[Zkz];split;simp;simp[Zrd (r:=r)]
def ZqQ{l}:∀{r},KT l r=nO->l∉r.map (·.1)
 | [],_=>by simp
 | (t,c)::r,h=>by simp only[KT]at h;split at h;grind;rename_i i;simp only[ZHY,ZIj,not_or];exact⟨λe=>i (Z8.2 e.symm),ZqQ h⟩
def ZcK{o}(h:Zki o=true):Zco o=false/\∀n,o≠.tok n:=by
 cases o<;>simp[Zki]at h<;>exact⟨rfl,λn=>by simp⟩
def Zls:∀{ks U σ0 l},Zj1 ks U=sO (σ0,l) ->
  (∀k o,σ0.get k=sO o->(U.get k=sO o/\∀j,(k,j)∉l)\/∃j,o=.ro j/\(k,j)∈l)/\(∀k o,(k,o)∈l->U.get k=sO o/\Zki o=true)/\∀k∈ks,(∃o,(k,o)∈l)\/∃o,U.get k=sO (.ro o)
 | [],U,σ0,l,h=>by cases h;exact⟨λk o h=>.inl ⟨h,λ_ h=>by simp at h⟩,λk o h=>by simp at h,λk h=>by simp at h⟩
 |k::ks,U,σ0,l,h=>by simp[Zj1]at h;split at h<;>(try(grind;done));rename_i o ho;split at h;rename_i i;split at h<;>simp at h;rename_i U' l' hr;obtain⟨rfl,rfl⟩:=h;obtain⟨h1,h2,h3⟩:=Zls hr;refine⟨λt j h=>?_,λt j h=>?_,λt h=>?_⟩;rcases h1 t j h with ⟨u,z⟩|⟨o2,rfl,u⟩;rcases T.get_set u with ⟨rfl,n⟩|⟨h0,n⟩;simp at n;exact .inr ⟨o,n.symm,ψ⟩;refine .inl ⟨n,λo2 hm=>?_⟩;rcases List.mem_cons.1 hm with hm|hm;simp at hm;exact h0 hm.1;exact z o2 hm;exact .inr ⟨o2,rfl,by simp[u]⟩;rcases List.mem_cons.1 h with h|h;cases h;exact⟨ho,i⟩;obtain⟨u,z⟩:=h2 t j h;rcases T.get_set u with ⟨rfl,n⟩|⟨_,n⟩;cases n;cases z;exact⟨n,z⟩;rcases List.mem_cons.1 h with rfl|h;exact .inl ⟨o,ψ⟩;rcases h3 t h with ⟨j,h⟩|⟨j,h⟩;exact .inl ⟨j,by simp[h]⟩;rcases T.get_set h with ⟨rfl,_⟩|⟨_,h⟩;exact .inl ⟨o,ψ⟩;exact .inr ⟨j,h⟩;split at h<;>(try(grind;done));rename_i i;obtain⟨h1,h2,h3⟩:=Zls h;refine⟨h1,h2,λt hk=>?_⟩;rcases List.mem_cons.1 hk with rfl|hk;cases o<;>cases i;exact .inr ⟨_,ho⟩;exact h3 t hk
def ZsD:∀{l U σ2},Zlc l U=sO σ2->(∀k o,σ2.get k=sO o->(k,o)∈l\/(U.get k=sO o/\∀o',(k,o')∉l))/\∀k o,(k,o)∈l->∃o',U.get k=sO (.ro o')
 | [],U,σ2,h=>by cases h;exact⟨λk o h=>.inr ⟨h,λ_ h=>by simp at h⟩,λk o h=>by simp at h⟩
 | (k',o')::l,U,σ2,h=>by simp[Zlc]at h;split at h<;>(try(grind;done));rename_i o1 ho;split at h<;>simp at h;rename_i U' n;subst h;obtain⟨h1,u⟩:=ZsD n;refine⟨λk o h=>?_,λk o h=>?_⟩;rcases T.get_set h with ⟨rfl,j⟩|⟨t,j⟩;cases j;exact .inl ψ;rcases h1 k o j with i|⟨i,z⟩;exact .inl (by simp[i]);refine .inr ⟨i,λo2 hm=>?_⟩;rcases List.mem_cons.1 hm with hm|hm;simp at hm;exact t hm.1;exact z o2 hm;rcases List.mem_cons.1 h with h|h;cases h;exact⟨o1,ho⟩;exact u k o h
section
variable {C:Px} {J J':Nm} {U σ0 U' σ2:S} {s s':St}
def Zsn(C:Px)(J:Nm)(l:List (Nat×O))(s t:St):Prop :=
 (∀b d,C.t b=sO d->t b=sO d)/\(∀k o b,(k,o)∈l->J k=sO (.tip b)->t b=s b)/\∀b d,t b=sO d->C.t b=sO d\/∃k o,(k,o)∈l/\J k=sO (.tip b)
open Classical in
def Sim.lend(hS:Sim C J U s){ks l}(h:Zj1 ks U=sO (σ0,l)):∃t,Sim ⟨C.toCx,t⟩ J σ0 s/\Zsn C J l s t:=by
 obtain⟨h1,h2,_⟩:=Zls h;have hM:∀b k o,(k,o)∈l->J k=sO (.tip b)->∃d,s b=sO d/\OR C J k o d:=λb k o hm z=>by obtain⟨g1,g2⟩:=h2 k o hm;obtain⟨b',d,e1,e2,e3⟩:=hS.get g1 (ZcK g2).2;rw[z]at e1;simp only[ZHE,Tok.tip.injEq]at e1;subst e1;exact⟨d,e2,e3⟩
 have n:∀k o,σ0.get k=sO o->∃o',U.get k=sO o':=λk o hk=>by rcases h1 k o hk with ⟨g,_⟩|⟨o',_,g⟩;exact⟨o,g⟩;exact⟨o',(h2 k o' g).1⟩
 let t:St:=λb=>if ∃k o,(k,o)∈l/\J k=sO (.tip b) then s b else C.t b
 have j:∀b,(∃k o,(k,o)∈l/\J k=sO (.tip b))->t b=s b:=λb z=>by simp only[t];rw[if_pos z]
 have i:∀b,¬(∃k o,(k,o)∈l/\J k=sO (.tip b))->t b=C.t b:=λb z=>by simp only[t];rw[if_neg z]
 have hL:Zsn C J l s t:=by refine⟨λb d z=>?_,λk o b hm z=>j b ⟨k,o,hm,z⟩,λb d z=>?_⟩;by_cases hm:∃k o,(k,o)∈l/\J k=sO (.tip b);rw[j b hm];exact(hS.kp b d z).1;rw[i b hm];exact z;by_cases hm:∃k o,(k,o)∈l/\J k=sO (.tip b);exact .inr hm;rw[i b hm]at z;exact .inl z
 refine⟨t,⟨λk o hk=>?_,λk k' o o' b hk u e e'=>?_,λb d z=>?_,λk o b hk e=>?_⟩,hL⟩;rcases h1 k o hk with ⟨g,_⟩|⟨o',rfl,g⟩;exact hS.obj k o g;obtain⟨g1,g2⟩:=h2 k o' g;obtain⟨b,d,e1,e2,e3⟩:=hS.get g1 (ZcK g2).2;exact⟨_,e1,.inl ⟨b,d,rfl,e2,.ro o' d e3 (ZcK g2).1 (ZcK g2).2⟩⟩;obtain⟨o1,g1⟩:=n _ _ hk;obtain⟨o2,g2⟩:=n _ _ u;exact hS.inj k k' o1 o2 b g1 g2 e e';have z:t b=sO d:=z;by_cases hm:∃k o,(k,o)∈l/\J k=sO (.tip b);refine⟨by rw[<-j b hm];exact z,λk' o' hk hr e=>?_⟩;obtain⟨k,o,hm,z⟩:=hm;rcases h1 k' o' hk with ⟨g,g'⟩|⟨o2,rfl,_⟩;have:=hS.inj k k' o o' b (h2 k o hm).1 g z e;subst this;exact g' o hm;simp[Zco]at hr;rw[i b hm]at z;refine⟨(hS.kp b d z).1,λk' o' hk hr e=>?_⟩;rcases h1 k' o' hk with ⟨g,_⟩|⟨o2,rfl,_⟩;exact(hS.kp b d z).2 k' o' g hr e;simp[Zco]at hr;show ∃d,t b=sO d;rcases h1 k _ hk with ⟨g,_⟩|⟨o',e0,g⟩;obtain⟨d,hd⟩:=hS.ro k o b g e;exact⟨d,hL.1 b d hd⟩;simp only[O.ro.injEq]at e0;subst e0;obtain⟨d,hd,_⟩:=hM b k o g e;exact⟨d,by rw[hL.2.1 k o b g e];exact hd⟩
def Sim.unlend(hS:Sim C J U s){ks l}(h:Zj1 ks U=sO (σ0,l)){t}(hL:Zsn C J l s t)(hs:J.Sub J')(u:Sim ⟨C.toCx,t⟩ J' U' s')(hb:Zlc l U'=sO σ2):
  Sim C J' σ2 s'/\∀k b,k∈ks->J k=sO (.tip b)->s' b=s b:=by
 obtain⟨h1,h2,h3⟩:=Zls h;obtain⟨b1,b2⟩:=ZsD hb;obtain⟨l1,l2,l3⟩:=hL;have hM:∀k o b,(k,o)∈l->J k=sO (.tip b)->∃d,s b=sO d/\s' b=sO d/\OR C J k o d:=λk o b hm hb=>by obtain⟨g1,g2⟩:=h2 k o hm;obtain⟨b',d,e1,e2,e3⟩:=hS.get g1 (ZcK g2).2;rw[hb]at e1;cases e1;exact⟨d,e2,(u.kp b d (by show t b=_;rw[l2 k o b hm hb];exact e2)).1,e3⟩
 have i:∀k o,σ2.get k=sO o->∃o',U'.get k=sO o':=λk o z=>by rcases b1 k o z with g|⟨g,_⟩;obtain⟨o',g⟩:=b2 k o g;exact⟨_,g⟩;exact⟨o,g⟩
 refine⟨⟨λk o z=>?_,λk k' o o' b z j e e'=>?_,λb d hb=>?_,λk o b z e=>?_⟩,λk b z hb=>?_⟩;rcases b1 k o z with g|⟨g,_⟩;obtain⟨g1,g2⟩:=h2 k o g;obtain⟨b,d,e1,e2,e3⟩:=hS.get g1 (ZcK g2).2;obtain⟨d',f1,f2,f3⟩:=hM k o b g e1;exact⟨_,hs _ _ e1,.inl ⟨b,d',rfl,f2,f3.mono hs⟩⟩;exact u.obj k o g;obtain⟨o1,g1⟩:=i _ _ z;obtain⟨o2,g2⟩:=i _ _ j;exact u.inj k k' o1 o2 b g1 g2 e e';obtain⟨e1,e2⟩:=u.kp b d (l1 b d hb);refine⟨e1,λk o z hr e=>?_⟩;rcases b1 k o z with g|⟨g,_⟩;exact(hS.kp b d hb).2 k o (h2 k o g).1 hr (hS.name hs (h2 k o g).1 e);exact e2 k o g hr e;rcases b1 k _ z with g|⟨g,g'⟩;have:=(h2 k _ g).2;simp[Zki]at this;obtain⟨d,hd⟩:=u.ro k o b g e;rcases l3 b d hd with hd|⟨k0,o0,hm,n⟩;exact⟨d,hd⟩;obtain⟨o1,g1⟩:=b2 k0 o0 hm;have:=u.inj k k0 _ _ b g g1 e (hs _ _ n);subst this;exact absurd hm (g' o0);rcases h3 k z with ⟨o,hm⟩|⟨o,ho⟩;obtain⟨d,f1,f2,_⟩:=hM k o b hm hb;rw[f1,f2];obtain⟨d,hd⟩:=hS.ro k o b ho hb;rw[(hS.kp b d hd).1,(u.kp b d (l1 b d hd)).1]
end
def ZeU(ρd:Env)(u l o:Nat):Prop:=ZS ρd u=sO (.loc l o)\/ZS ρd u=sO (.when true (.loc l o))
structure Wv(J:Nm)(r:Rl)(ρd:Env)(L:Loc)(B:List (Nat×Rd)):Prop where
 cs:∀l vs,KT l r.cs=some vs->∃ds,Zj L l=some ds/\VRs J vs ds
 no:∀l,KT l r.cs=none->Zj L l=none
 nd:(r.cs.map (·.1)).Nodup
 ad:∀u l o,(u,l,o)∈r.ad->ZeU ρd u l o
 lt:∀u l o,(u,l,o)∈r.ad->u<32768
 bn:∀n b,(n,.blk b)∈B->∃k,(n,k)∈r.bn/\J k=some (.tip b)
 bl:∀n l,(n,.loc l)∈B->(n,l)∈r.bl
def Wv.nil{J:Nm}{ρd:Env}:Wv J Rl.nil ρd [] []:={
 cs l vs h:=by cases h
 no l _:=rfl
 nd:=by simp[Rl.nil]
 ad u l o h:=by cases h
 lt u l o h:=by cases h
 bn n b h:=by grind
 bl n l h:=by grind }
section
variable {J J':Nm} {r:Rl} {ρd:Env} {L:Loc} {B:List (Nat × Rd)}
def Wv.mono(h:Wv J r ρd L B)(i:J.Sub J'):Wv J' r ρd L B:={
 cs l vs hl:=by obtain⟨ds,a,b⟩:=h.cs l vs hl;exact⟨ds,a,b.mono i⟩
 no:=h.no
 nd:=h.nd
 ad:=h.ad
 lt:=h.lt
 bn n b hb:=by obtain⟨k,a,c⟩:=h.bn n b hb;exact⟨k,a,i _ _ c⟩
 bl:=h.bl }
def ZeU.put{u l o}(h:ZeU ρd u l o){dst}(i:dst≠sO u){e}:ZeU (Zz ρd dst e) u l o:=by
 unfold ZeU;rw[WZ,if_neg i];exact h
def ZyA{t}(h:noA t r=true):∀u l o,(u,l,o)∈r.ad->t≠u:=λu l o hm e=>by
 unfold noA at h;split at h;exact ZqP ‹_› _ hm e.symm;grind
def ZCE{t}(h:noA t r=true):t<32768:=by
 unfold noA at h;split at h;simpa using h;grind
def ZAe{dst}(h:Ze8 dst r=true):∀u l o,(u,l,o)∈r.ad->dst≠sO u:=λu l o hm e=>by
 subst e;exact ZyA h u l o hm rfl
def Wv.put(h:Wv J r ρd L B){dst}(i:Ze8 dst r=true)(e):Wv J r (Zz ρd dst e) L B :=
 { h with ad:=λu l o hm=>(h.ad u l o hm).put (ZAe i u l o hm) }
def Wv.next(h:Wv J r ρd L B)(fl):Wv J (Zlq fl r) ρd L (Wa fl B):=by
 have z:∀{fl:List Nat} n b,(n,.blk b)∈Wa fl B->∃k,(n,k)∈Zgp fl r.bn/\J k=sO (.tip b):=λ{fl} n b i=>by obtain⟨j,t⟩:=QZ.1 i;obtain⟨k,a,c⟩:=h.bn n b t;exact⟨k,Zgq (ZfG.1 j) a,c⟩
 have u:∀{fl:List Nat} n l,(n,.loc l)∈Wa fl B->(n,l)∈Zgp fl r.bl:=λ{fl} n l i=>by obtain⟨j,t⟩:=QZ.1 i;exact Zgq (ZfG.1 j) (h.bl n l t)
 cases fl with
 |nil=>rw[Zbq];exact{ cs:=h.cs,no:=h.no,nd:=h.nd,ad:=h.ad,lt:=h.lt,bn:=λn b i=>by simp at i,bl:=λn b i=>by simp at i }
 |cons a fl=>exact{ cs:=h.cs,no:=h.no,nd:=h.nd,ad:=h.ad,lt:=h.lt,bn:=z,bl:=u }
def Zpp(h:Wv J r ρd L B){x l o}(i:Zsr x r=sO (l,o)):∃p,ZD ρd true x=sO (p,.loc l o)/\p:=by
 cases x with
 |cst d=>cases i
 |tmp t =>rcases h.ad t l o (ZmY i) with h|h;exact⟨True,by simp[ZD,h],trivial⟩;exact⟨True->True,by simp[ZD,h],λ_=>trivial⟩
def Wv.addr(h:Wv J r ρd L B){u l o}(t:noA u r=true){e}(he:e=.loc l o\/e=.when true (.loc l o)):Wv J ⟨r.cs,(u,l,o)::r.ad,r.bn,r.bl⟩ (Zz ρd (sO u) e) L B :=
 { h with
  ad:=λn j i hm=>by rcases List.mem_cons.1 hm with hm|hm;cases hm;unfold ZeU;rw[WZ,if_pos rfl];exact he.imp (by rintro rfl;rfl) (by rintro rfl;rfl);exact(h.ad n j i hm).put (λz=>ZyA t n j i hm (by simpa using z))
  lt:=λn j i hm=>by
   rcases List.mem_cons.1 hm with hm|hm;simp at hm;rw[hm.1];exact ZCE t;exact h.lt n j i hm }
def Ya.off{H}(h:Ya J [] H ρd)(u e):Ya J [] (H.set nO u) (Zz ρd (sO u) e):=λt w hw n=>by
 rcases T.get_set hw with ⟨_,j⟩|⟨i,j⟩;grind;obtain⟨e',z,h3⟩:=h t w j n;exact⟨e',by rw[WZ,if_neg (by simpa using Ne.symm i)];exact z,h3⟩
def Wv.reads(h:Wv J r ρd L B){R j i}(h1:∀k,k∈r.bn->k∈j)(u:∀k,k∈r.bl->k∈i)(z:∀n b,(n,.blk b)∈R->∃k,(n,k)∈j/\J k=sO (.tip b))(t:∀n l,(n,.loc l)∈R->(n,l)∈i):Wv J ⟨r.cs,r.ad,j,i⟩ ρd L (R++B) :=
 { h with
  bn:=λn b hb=>by rcases List.mem_append.1 hb with hb|hb;exact z n b hb;obtain⟨k,a,c⟩:=h.bn n b hb;exact⟨k,h1 _ a,c⟩
  bl:=λn l hb=>by
   rcases List.mem_append.1 hb with hb|hb;exact t n l hb;exact u _ (h.bl n l hb) }
end
section
variable {C:Px} {ih:Ih} {dk:List KH} {os:List (DOp × List Nat)} {rest:Bx RgD}
def ZcR(C:Px)(ih:Ih)(rest:Bx RgD)(dk:List KH)(os:List (DOp×List Nat)):Prop :=
 ∀r fm H U nx o,rest.run r ih dk fm H U nx=sO o->∀(F:Fr C.P) J ρd L s B,FmR C J fm o F->Ya J [] H ρd->YJ J nx->Sim C J U s->Wv J r ρd L B->DOA F nO dk os ρd L s B
variable {r:Rl} {fm:Fm} {H:T W} {U:S} {nx:Nat} {o:Out} {F:Fr C.P} {J:Nm} {ρd:Env} {L:Loc} {s:St} {B:List (Nat × Rd)}
def ZAb{t v d}(u:VR J v d)(h:Wv J r ρd L B):Wv J (ZAO t v r) ρd L ((Qn (.d d)).map (λb=>(t,b))++B):=by
 have j:∀{k b:Nat},J k=sO (.tip b)->Wv J ⟨r.cs,r.ad,(t,k)::r.bn,r.bl⟩ ρd L ([(t,.blk b)]++B):=λ{k b} hb =>
  h.reads (λ_ hm=>List.mem_cons_of_mem _ hm) (λ_ hm=>hm) (λn b' i=>⟨k,by
   simp at i;rw[i.1,i.2];exact⟨ψ,hb⟩⟩) (λn l hl=>by grind)
 cases u<;>first|exact h|exact j ‹_›
def ZxN{x xs vs}(h:(ZcW (x::xs)).run H=sO vs):∃v j,(Y7 x).run H=sO v/\(ZcW xs).run H=sO j/\vs=v::j:=by
 simp[ZcW]at h;split at h<;>(try(simp at h;done));rename_i v n;split at h<;>simp at h;rename_i j i;exact⟨v,j,n,i,h.symm⟩
def ZCK(hρ:Ya J [] H ρd){dst g k}(hg:Zo ρd g=sO true){t z}(h:(opF false t k).run H U nx=sO z){ρd'}(j:Wv J r ρd' L B):
  Wv J ((rdR (dst.getD 0) k).run H r) ρd' L (KC ⟨dst,g,k⟩ ρd++B):=by
 cases k;case q q xs =>
  cases n:Wb (.q q xs) with
  |false=>simpa[rdR,KC,Wl,n]using j
  |true =>
   simp[rdR,KC,Wl,n,hg];cases xs with
   |nil=>exact j
   |cons x ys =>simp[opF]at h;split at h<;>(try(grind;done));rename_i vs i;obtain⟨p,ds,a1,a2,a3⟩:=Zbd hρ i;obtain⟨v,vs',hv,_,rfl⟩:=ZxN i;obtain⟨d,ds',rfl,u,b2⟩:=a3.inv;simp[a1,hv];exact ZAb u j
 all_goals exact j
def Zj7(n:ZcR C ih rest dk os){dst g fl k}(u:YQ k=true)(h:(Zj6 rest dst k).run r ih dk fm H U nx=sO o)(hg:Zo ρd g=sO true)(hF:FmR C J fm o F)(t:Ya J [] H ρd)(z:YJ J nx)(hS:Sim C J U s)(hR:Wv J r ρd L B):DOA F nO dk ((⟨dst,g,k⟩,fl)::os) ρd L s B:=by
 simp[Zj6]at h;split at h<;>(try(grind;done));rename_i v σ1 nx1 i;obtain⟨hd,hh⟩:=ZE h;obtain⟨e1,e2,side,e,e3,e4,e5⟩:=Zq5 (L:=L) (dst:=dst) hS z.o t.anyL hg u i;have j:Wj k=true:=by cases k<;>simp[YQ]at u<;>rfl
 refine JR e4 e3 ?_;simp[j];exact n _ _ _ _ _ _ hh F J _ L s _ hF (Zag t (show WR J [] (.v v) e from e5) dst) z hS (ZCK t hg i (hR.put hd e))
def ZvF{fl σ0 l}(h:ZAf fl r U=sO (σ0,l)):∃ks,Zj1 ks U=sO (σ0,l)/\∀n k,n∈fl->(n,k)∈r.bn->k∈ks:=by
 cases fl with
 |nil=>exact⟨[],h,λ_ _ h=>by simp at h⟩
 |cons a fl=>exact⟨_,h,λn k i j=>ZfY i j⟩
def ZpD(hrest:ZcR C ih rest dk os){f dst g fl k}(hk:YQ k=false)(hp:Wj k=false)(hnf:ZjX k=true)(h:(Zs1 C f rest dst g fl k).run r ih dk fm H U nx=sO o)(hg:Zo ρd g=sO true)(hF:FmR C J fm o F)(hρ:Ya J [] H ρd)(hN:YJ J nx)(hS:Sim C J U s)(hR:Wv J r ρd L B):DOA F nO dk ((⟨dst,g,k⟩,fl)::os) ρd L s B:=by
 unfold Zs1 at h;split at h<;>(try(grind;done));rename_i ab;simp only at h;split at h<;>(try(grind;done));rename_i σ0 l u;split at h<;>(try(grind;done));rename_i v σ1 ad z;split at h<;>(try(grind;done));rename_i σ2 i;obtain⟨hd,hh⟩:=ZE h;obtain⟨ks,o1,o2⟩:=ZvF u;obtain⟨t,ac,hL⟩:=hS.lend o1;refine Zbz (Wh ⟨C.toCx,t⟩ J ⟨v,σ1,ad⟩) hp (λH' L' os' j hc=>?_) (λe s2 hr=>?_);exact Zx4 ac hN hρ (by rw[Y4 (λt ht=>j t (by simp[ZB,ht]))];exact hg) ab hk hnf z j hc;obtain⟨J',k1,k2,k3,d,k4,rfl⟩:=hr;obtain⟨u1,u2⟩:=hS.unlend o1 hL k1 k3 i;refine⟨Zgr (λn b hf hb=>?_) (λ_ _ _ _=>rfl),hrest _ _ _ _ _ _ hh F J' _ L s2 _ (hF.mono k1) (Zag (hρ.mono k1) (WR.val k4) dst) k2 u1 (((hR.put hd _).next fl).mono k1)⟩;obtain⟨kn,n1,n2⟩:=hR.bn n b hb;exact u2 kn b (o2 n kn hf n1) n2
def Zzw(hlib:Jg C)(hih:JU C ih)(hrest:ZcR C ih rest dk os){f dst g fl fx xs}(h:(goD C f rest dst g fl (.call fx xs)).run r ih dk fm H U nx=sO o)(hg:Zo ρd g=sO true)(hF:FmR C J fm o F)(hρ:Ya J [] H ρd)(hN:YJ J nx)(hS:Sim C J U s)(hR:Wv J r ρd L B):DOA F nO dk ((⟨dst,g,.call fx xs⟩,fl)::os) ρd L s B:=by
 simp[goD]at h;split at h<;>(try(grind;done));rename_i fv ab;split at h<;>(try(grind;done));rename_i vs ac;split at h<;>(try(grind;done));rename_i σ0 l u;split at h<;>(try(grind;done));rename_i pan v U' z j;split at h<;>(try(grind;done));rename_i σ2 i;obtain⟨ks,o1,o2⟩:=ZvF u;obtain⟨t,ad,hL⟩:=hS.lend o1;obtain⟨p,fd,a1,a2,a3⟩:=K0 hρ ab;obtain⟨q,ds,b1,b2,b3⟩:=Zbd hρ ac;have hV:Ki C.P fd ds s (ZgL ⟨C.toCx,t⟩ J ⟨pan,v,U',z⟩):=ZmN (C:=⟨C.toCx,t⟩) hlib hih j a3 b3 hN ad;refine Zed hg rfl a1 b1 (Zbj ds) b2 a2 hV (λd S1 hp=>?_) (λd S1 hp=>?_)
 .obtain⟨η1,d1,k1,k2,k3,k4,k5⟩:=hp;cases pan with
  |true=>grind
  |false =>cases k5;obtain⟨hd,hh⟩:=ZE h;obtain⟨u1,u2⟩:=hS.unlend o1 hL k1 k3 i;refine⟨Zgr (λn b hf hb=>?_) (λ_ _ _ _=>rfl),hrest _ _ _ _ _ _ hh F η1 _ L S1 _ (hF.mono k1) (Zag (hρ.mono k1) (WR.val k4) dst) k2 u1 (((hR.put hd _).next fl).mono k1)⟩;obtain⟨kn,n1,n2⟩:=hR.bn n b hb;exact u2 kn b (o2 n kn hf n1) n2
 obtain⟨η1,d1,k1,k2,k3,k4,k5⟩:=hp;cases pan with
 |false=>grind
 |true =>cases k5;exact ZhH hih h (hF.mono k1) Ya.nil k2 (hS.unlend o1 hL k1 k3 i).1 k4
end
section
variable {C:Px} {ih:Ih} {dk:List KH} {os:List (DOp × List Nat)} {rest:Bx RgD}
variable {r:Rl} {fm:Fm} {H:T W} {U:S} {nx:Nat} {o:Out} {F:Fr C.P} {J:Nm} {ρd:Env} {L:Loc} {s:St} {B:List (Nat × Rd)}
def Zj5{dst g}(n:Zo ρd g=sO true){xs es p}(u:Yg ρd true xs=sO (p,es))(i:p){q side e}(t:qv L s q es=sO (side,e))(j:side):
  ∃side' e',side'/\ZG ⟨dst,g,.q q xs⟩ ρd L s=.ok side' (Zz ρd dst e') L s/\(e'=e\/e'=.when true e):=by
 cases g with
 |none=>exact⟨p/\side,e,ZHG i j,by unfold ZG;simp[n,u,t],.inl rfl⟩
 |some x=>exact⟨true=true->p/\side,.when true e,λ_=>ZHG i j,by unfold ZG;simp[n,u,t],.inr rfl⟩
def ZnA(n:ZcR C ih rest dk os){dst g fl l off}(h:(adD rest dst l off).run r ih dk fm H U nx=sO o){q xs}(z:Wb (.q q xs)=false){side t}(j:side)(hst:ZG ⟨dst,g,.q q xs⟩ ρd L s=.ok side (Zz ρd dst t) L s)(he:t=.loc l off\/t=.when true (.loc l off))(hF:FmR C J fm o F)(hρ:Ya J [] H ρd)(hN:YJ J nx)(hS:Sim C J U s)(hR:Wv J r ρd L B):DOA F nO dk ((⟨dst,g,.q q xs⟩,fl)::os) ρd L s B:=by
 unfold adD at h;split at h<;>(try(grind;done));rename_i u;obtain⟨hn,hh⟩:=ZE h;refine JR hst j ?_;have i:KC ⟨sO u,g,.q q xs⟩ ρd=[]:=by simp[KC,Wl,z]
 simp[i];exact n _ _ _ _ _ _ hh F J _ L s _ hF (hρ.off u t) hN hS (hR.addr hn he)
def ZyS{dst g q xs es p l off}(i:Wb (.q q xs)=true)(j:Zo ρd g=sO true)(n:Yg ρd true xs=sO (p,.loc l off::es)):KC ⟨dst,g,.q q xs⟩ ρd=[(dst.getD 0,.loc l)]:=by
 simp[KC,Wl,i,j,n,Qn,Zcx]
def ZBy(hrest:ZcR C ih rest dk os){dst g fl q x ys l off}(hx:Zsr x r=sO (l,off))(h:(Zz6 rest dst q ys).run l off r ih dk fm H U nx=sO o)(hg:Zo ρd g=sO true)(hF:FmR C J fm o F)(hρ:Ya J [] H ρd)(hN:YJ J nx)(hS:Sim C J U s)(hR:Wv J r ρd L B):DOA F nO dk ((⟨dst,g,.q q (x::ys)⟩,fl)::os) ρd L s B:=by
 obtain⟨p,a1,a2⟩:=Zpp hR hx;have t:Yg ρd true [x]=sO (p/\True,[.loc l off]):=by simp[Yg,a1]
 have ld:∀{q:Q} {v:V} {d:D} {side:Prop},Wb (.q q [x])=true->VR J v d->side->qv L s q [.loc l off]=sO (side,.d d)->noV (Ze8 dst r) (rest.run ⟨r.cs,r.ad,r.bn,(dst.getD 0,l)::r.bl⟩ ih dk fm ((Zdb dst).run H (.v v)) U nx)=sO o->DOA F nO dk ((⟨dst,g,.q q [x]⟩,fl)::os) ρd L s B:=by intro q v d side ae hv hs hq h;obtain⟨hd,hh⟩:=ZE h;obtain⟨j,e',h1,h2,h3⟩:=Zj5 (dst:=dst) hg t ⟨a2,trivial⟩ hq hs;refine JR h2 h1 ?_;simp only[Wj,ZyS (dst:=dst) ae hg t];refine hrest _ _ _ _ _ _ hh F J _ L s _ hF (Zag hρ (show WR J [] (.v v) e' from⟨d,hv,h3⟩) dst) hN hS ((hR.put hd e').reads (λ_ h=>h) (λ_ hm=>List.mem_cons_of_mem _ hm) (λn b hb=>by grind) (λn l' hl=>?_));simp at hl;rw[hl.1,hl.2];simp
 unfold Zz6 at h;split at h;·split at h<;>(try(grind;done));obtain⟨j,e',h1,h2,h3⟩:=Zj5 (L:=L) (s:=s) (dst:=dst) hg t ⟨a2,trivial⟩ (q:=.mv) rfl trivial;exact ZnA hrest h rfl h1 h2 h3 hF hρ hN hS hR
 .split at h<;>(try(grind;done));obtain⟨j,e',h1,h2,h3⟩:=Zj5 (L:=L) (s:=s) (dst:=dst) hg t ⟨a2,trivial⟩ (q:=.nilck) rfl trivial;exact ZnA hrest h rfl h1 h2 h3 hF hρ hN hS hR
 .rename_i o1;split at h<;>(try(grind;done));obtain⟨j,e',h1,h2,h3⟩:=Zj5 (L:=L) (s:=s) (dst:=dst) hg t ⟨a2,trivial⟩ (q:=.faddr o1) rfl trivial;exact ZnA hrest h rfl h1 h2 h3 hF hρ hN hS hR
 .rename_i m z;split at h<;>(try(grind;done));rename_i y;simp only at h;split at h<;>(try(grind;done));rename_i kk i hy;obtain⟨hb,hh⟩:=ZE h;simp[Zac,<-Bool.not_eq_true]at hb;obtain⟨p2,d,b1,b2,b3⟩:=K0 hρ hy;cases b3;have ac:Yg ρd true [x,y]=sO (p/\p2/\True,[.loc l off,.d (.int kk i)]):=by simp[Yg,a1,b1]
  obtain⟨j,e',h1,h2,h3⟩:=Zj5 (L:=L) (s:=s) (dst:=dst) hg ac ⟨a2,b2,trivial⟩ (q:=.iaddrA m z) rfl ⟨hb.1,ω⟩;exact ZnA hrest hh rfl h1 h2 h3 hF hρ hN hS hR
 .split at h<;>(try(grind;done));simp only at h;split at h<;>(try(grind;done));rename_i cs u;split at h<;>(try(grind;done));rename_i v hv;obtain⟨ds,c1,c2⟩:=hR.cs l cs u;rw[Zlk]at hv;obtain⟨d,d1,d2⟩:=c2.get hv;exact ld rfl d2 trivial (by simp[qv,Wx,c1,d1]) h
 .rename_i n;split at h<;>(try(grind;done));simp only at h;split at h<;>(try(grind;done));rename_i cs u;split at h<;>(try(grind;done));rename_i v hv;obtain⟨ds,c1,c2⟩:=hR.cs l cs u;unfold ZkN at hv;split at hv<;>simp at hv;rename_i rr ab;subst hv;obtain⟨d1,d2⟩:=c2.partv ab;exact ld rfl (.agg _ _ d2) d1 (by simp[qv,KB,c1]) h
 grind
def Wv.cell(u:Wv J r ρd L B){l z vs}(hl:KT l r.cs=sO z){ds}(hv:VRs J vs ds):Wv J ⟨Zkz l vs r.cs,r.ad,r.bn,r.bl⟩ ρd ((l,ds)::L) B :=
 { u with
  cs:=λt i j=>by rw[ZmZ]at j;by_cases n:t=l;subst n;simp[hl]at j;subst j;exact⟨ds,by simp[Zj],hv⟩;rw[if_neg n]at j;obtain⟨d,d1,d2⟩:=u.cs t i j;exact⟨d,by simp[Zj];rw[if_neg (Ne.symm n)];exact d1,d2⟩
  no:=λt j=>by rw[ZmZ]at j;by_cases n:t=l;subst n;simp[hl]at j;rw[if_neg n]at j;simp[Zj];rw[if_neg (Ne.symm n)];exact u.no t j
  nd:=by rw[Zrd];exact u.nd }
def ZvT(z:ZcR C ih rest dk os){fl l off n xs k}(h:Zui rest fl l off n xs r ih dk fm H U nx=sO o)(hpk:Wj k=false)(hrk:KC ⟨nO,nO,k⟩ ρd=[]){ys}(hx:VRs J xs ys){p q ok}(hp:p)(hq:q)(hok:ok)(hst:ZG ⟨nO,nO,k⟩ ρd L s=Qr ρd L s p q ok (.loc l off) n ys)(hF:FmR C J fm o F)(hρ:Ya J [] H ρd)(hN:YJ J nx)(hS:Sim C J U s)(hR:Wv J r ρd L B):DOA F nO dk ((⟨nO,nO,k⟩,fl)::os) ρd L s B:=by
 unfold Zui at h;split at h<;>(try(grind;done));rename_i cs t;split at h<;>(try(grind;done));rename_i cs' j;obtain⟨hb,hh⟩:=ZE h;obtain⟨ds,c1,c2⟩:=hR.cs l cs t;obtain⟨f0,f1,f2⟩:=c2.over hx j;have i:ZG ⟨nO,nO,k⟩ ρd L s=.ok (p/\q/\off+n<=I ds/\ok) ρd ((l,Zq ds off ys)::L) s:=by rw[hst];simp[Qr,c1]
 refine JR i ⟨hp,hq,f1,hok⟩ ?_;simp[hpk,hrk];refine⟨Zgr (λ_ _ _ _=>rfl) (λn l' hf u=>?_),z _ _ _ _ _ _ hh F J ρd _ s _ hF hρ hN hS ((hR.cell t f2).next fl)⟩;have hm:=hR.bl n l' u;have:¬l=l':=λe=>by subst e;rw[ZdF.2 (ZfY hf hm)]at hb;grind
 simp[Zj,this]
def Wv.more(u:Wv J r ρd L B){t}(z:ZwT t r=true){vs ds}(hv:VRs J vs ds):Zj L t=nO/\Wv J ⟨(t,vs)::r.cs,(t,t,0)::r.ad,r.bn,r.bl⟩ ((t,.loc t 0)::ρd) ((t,ds)::L) B:=by
 unfold ZwT at z;simp at z;obtain⟨h1,h2⟩:=z;split at h1<;>(try(grind;done));rename_i hc;have hA:=u.addr (e:=.loc t 0) h2 (.inl rfl);refine⟨u.no t hc,{ hA with
  cs:=λl i j=>?_
  no:=λl j=>?_
  nd:=?_ }⟩
 simp only[KT]at j;by_cases n:t=l;subst n;simp at j;subst j;exact⟨ds,by simp[Zj],hv⟩;rw[if_neg (λh=>n (Z8.1 h))]at j;obtain⟨d,d1,d2⟩:=u.cs l i j;exact⟨d,by simp[Zj];rw[if_neg n];exact d1,d2⟩;simp only[KT]at j;by_cases n:t=l;subst n;rw[if_pos (Z8.2 rfl)]at j;simp at j;rw[if_neg (λh=>n (Z8.1 h))]at j;simp[Zj];simp_all;exact u.no l j;simp only[ZHY,List.nodup_cons];exact⟨ZqQ hc,u.nd⟩
def ZxM(j:ZcR C ih rest dk os){f dst g fl z}(h:(goD C f rest dst g fl (.alloc z)).run r ih dk fm H U nx=sO o)(n:FmR C J fm o F)(hρ:Ya J [] H ρd)(hN:YJ J nx)(hS:Sim C J U s)(u:Wv J r ρd L B):DOA F nO dk ((⟨dst,g,.alloc z⟩,fl)::os) ρd L s B:=by
 simp[goD]at h;split at h<;>(try(grind;done));rename_i t zv hz;obtain⟨hn,hh⟩:=ZE h;obtain⟨hl,i⟩:=u.more hn (ofDs_ok hz);refine JR (side:=ZaR L t=false) (ρ1:=(t,.loc t 0)::ρd) (L1:=(t,z)::L) (s1:=s) (by unfold ZG;simp[Zo]) (by simp[ZaR,hl]) ?_;exact j _ _ _ _ _ _ hh F J _ _ s _ n (hρ.off t (.loc t 0)) hN hS i
def ZA6(u:ZcR C ih rest dk os){f dst g fl x}(h:(goD C f rest dst g fl (.box x)).run r ih dk fm H U nx=sO o)(hF:FmR C J fm o F)(hρ:Ya J [] H ρd)(hN:YJ J nx)(hS:Sim C J U s)(z:Wv J r ρd L B):DOA F nO dk ((⟨dst,g,.box x⟩,fl)::os) ρd L s B:=by
 simp[goD]at h;split at h<;>(try(grind;done));rename_i t;simp only at h;split at h<;>(try(grind;done));rename_i v hv;obtain⟨hb,hh⟩:=ZE h;simp at hb;obtain⟨⟨hp,hn⟩,hm⟩:=hb;obtain⟨p,d,a1,a2,a3⟩:=K0 hρ hv;obtain⟨hl,i⟩:=z.more hn (ZkR a3);refine JR (side:=p/\ZaR L t=false/\Km d=true) (ρ1:=(t,.loc t 0)::ρd) (L1:=(t,cellsOf d)::L) (s1:=s) (by unfold ZG;simp[Zo,a1]) ⟨a2,by simp[ZaR,hl],Znl a3 hp⟩ ?_;refine⟨Zgr (λ_ _ _ _=>rfl) (λn l' hf j=>?_),u _ _ _ _ _ _ hh F J _ _ s _ hF (hρ.off t (.loc t 0)) hN hS (i.next fl)⟩;have:¬t=l':=λe=>by subst e;rw[ZdF.2 (ZfY hf (z.bl _ _ j))]at hm;grind
 simp[Zj,this]
def Zyc(hlib:Jg C)(hih:JU C ih)(u:ZcR C ih rest dk os){f dst g fl k}(h:(goD C f rest dst g fl k).run r ih dk fm H U nx=sO o)(hg:Zo ρd g=sO true)(hF:FmR C J fm o F)(hρ:Ya J [] H ρd)(hN:YJ J nx)(hS:Sim C J U s)(hR:Wv J r ρd L B):DOA F nO dk ((⟨dst,g,k⟩,fl)::os) ρd L s B:=by
 cases k;case call fx xs=>exact Zzw hlib hih u h hg hF hρ hN hS hR
 case alloc z=>exact ZxM u h hF hρ hN hS hR
 case box x=>exact ZA6 u h hF hρ hN hS hR
 case panic x =>
  simp[goD]at h;split at h<;>(try(grind;done));rename_i t v hv;obtain⟨p,d,a1,a2,a3⟩:=K0 hρ hv;cases a3 with
  |iface _ _ d hd=>exact Zqr hg rfl a1 a2 (ZhH hih h hF Ya.nil hN hS (.iface _ _ _ hd))
 case defer fx xs=>cases h
 case recover=>cases h
 case fork k=>cases h
 case store1 a v =>
  simp[goD]at h;split at h<;>(try(grind;done));simp only at h;split at h;·rename_i l off ha;split at h<;>(try(grind;done));rename_i x hx;obtain⟨hc,hh⟩:=ZE h;obtain⟨p,a1,a2⟩:=Zpp hR ha;obtain⟨q,d,b1,b2,b3⟩:=K0 hρ hx;exact ZvT u hh rfl rfl (.one b3) a2 b2 (Zum b3 hc) (by unfold ZG;simp[Zo,a1,b1]) hF hρ hN hS hR
  exact ZpD u rfl rfl rfl h hg hF hρ hN hS hR
 case storeN n a v =>
  simp[goD]at h;split at h<;>(try(grind;done));simp only at h;split at h
  .rename_i l off ha;split at h<;>(try(grind;done));rename_i xs hx;obtain⟨p,a1,a2⟩:=Zpp hR ha;obtain⟨q,d,b1,b2,b3⟩:=K0 hρ hx;cases b3 with
   |agg _ ys hxs =>
   have i:I ys=n:=by unfold Zui at h;split at h<;>(try(grind;done));split at h<;>(try(grind;done));rename_i j;rw[<-hxs.len];exact(Zp8 j).1
   exact ZvT u h rfl rfl hxs a2 b2 i (by unfold ZG;simp[Zo,a1,b1]) hF hρ hN hS hR
  exact ZpD u rfl rfl rfl h hg hF hρ hN hS hR
 case q q xs =>simp[goD]at h;split at h;rename_i x ys;simp only at h;split at h;rename_i l off hx;exact ZBy u hx h hg hF hρ hN hS hR;exact Zj7 u rfl h hg hF hρ hN hS hR;exact Zj7 u rfl h hg hF hρ hN hS hR
 all_goals
  simp[goD]at h;first
   |exact Zj7 u rfl h hg hF hρ hN hS hR
   |exact ZpD u rfl rfl rfl h hg hF hρ hN hS hR
end
def Zm0:∀{H t e},ZS H t=sO e->(t,e)∈H
 | [],t,e,h=>by cases h
 | (k,x)::r,t,e,h=>by simp[ZS]at h;split at h;rename_i i;cases h;subst i;simp;exact List.mem_cons_of_mem _ (Zm0 h)
def ZzR:∀{L},(∀l,Zj L l=nO)->L=[]
 | [],_=>rfl
 | (k,c)::r,h=>by have:=h k;simp[Zj]at this
def Zj3{t nx}:∀{z H u w},(Zoz z t nx H).get u=sO w->(∃o,(u,t,o)∈z/\w=.v (.ptr nx o))\/H.get u=sO w
 | [],H,u,w,h=>.inr h
 | (u',l,o)::r,H,u,w,h=>by simp only[Zoz]at h;split at h;rename_i hl;rw[Z8]at hl;subst hl;rcases T.get_set h with ⟨rfl,h3⟩|⟨_,h3⟩;simp at h3;exact .inl ⟨o,ψ,h3.symm⟩;rcases Zj3 h3 with ⟨j,n,i⟩|h3;exact .inl ⟨j,by simp[n],i⟩;exact .inr h3;rcases Zj3 h with ⟨j,n,i⟩|h;exact .inl ⟨j,by simp[n],i⟩;exact .inr h
section
variable {C:Px} {ih:Ih} {dk:List KH}
def Zvr(hih:JU C ih):∀{cs ad fm H U nx o},Zs9 cs ad ih dk fm H U nx=sO o ->
  ∀{F J ρd L s},FmR C J fm o F->Ya J [] H ρd->YJ J nx->Sim C J U s->(∀l vs,KT l cs=sO vs->(∃u o,(u,l,o)∈ad)->∃ds,Zj L l=sO ds/\VRs J vs ds) ->
   (∀l,KT l cs=nO->Zj L l=nO)->(cs.map (·.1)).Nodup->(∀u l o,(u,l,o)∈ad->(KT l cs).isSome=true->ZeU ρd u l o)->ZC F dk ρd L s
 | [],ad,fm,H,U,nx,o,h,F,J,ρd,L,s,hF,hρ,hN,hS,hc,hn,hd,ha=>by obtain rfl:=ZzR λl=>hn l rfl;exact hih.at _ _ _ _ _ _ h F J ρd s hF hρ hN hS
 | (t,vs)::cs,ad,fm,H,U,nx,o,h,F,J,ρd,L,s,hF,hρ,hN,hS,hc,hn,hd,ha=>by
  simp[Zs9]at h;split at h<;>(try(grind;done));rename_i l' o' ac;obtain⟨hl,hh⟩:=ZE h;rw[Z8]at hl;subst hl;have n:KT l' ((l',vs)::cs)=sO vs:=by simp[KT]
  obtain⟨ds,d1,d2⟩:=hc l' vs n ⟨_,_,ZmY ac⟩;simp only[ZHY,List.nodup_cons]at hd;have j:∀{l:Nat},l≠l'->KT l ((l',vs)::cs)=KT l cs:=λ{l} i=>by simp only[KT];rw[if_neg (λh=>i (Z8.1 h).symm)]
  have z:∀{l:Nat} {x:List V},KT l cs=sO x->l≠l':=λ{l x} hx e=>by
   subst e;have:∀{r:List (Nat×List V)} {x:List V},KT l r=sO x->l∈r.map (·.1):=λ{r}=>by
    induction r with
    |nil=>intro x h;cases h
    |cons a r ih =>intro x h;simp only[KT]at h;split at h;rename_i ht;rw[Z8]at ht;simp[ht];simp only[ZHY,ZIj];exact .inr (ih h)
   exact hd.1 (this hx)
  refine ZdX l' d1 λb hb=>?_;have f0:=hN.free nx (ZHV _);have n1:J.Sub (J.put nx (.tip b)):=Nm.put_sub f0 _;refine Zvr hih hh (J:=J.put nx (.tip b)) (hF.mono n1) ?_ (hN.put _) (hS.new f0 hb (OR.cells0 (d2.mono n1))) ?_ ?_ hd.2 ?_
  .intro u w hw ab;rw[Zd2];rcases Zj3 hw with ⟨o2,h1,rfl⟩|h1;rcases ha u l' o2 h1 (by rw[n];rfl) with h2|h2;exact⟨.d (.ptr b o2),by rw[h2];simp[JB],.ptr b o2,.ptr _ _ _ Nm.put_same,.inl rfl⟩;exact⟨.when true (.d (.ptr b o2)),by rw[h2];simp[JB],.ptr b o2,.ptr _ _ _ Nm.put_same,.inr rfl⟩;obtain⟨e,h2,h3⟩:=hρ u w h1 ab;cases w with
   |v x =>obtain⟨d,h4,rfl|rfl⟩:=h3;exact⟨_,by rw[h2];rfl,d,h4.mono n1,.inl rfl⟩;exact⟨_,by rw[h2];rfl,d,h4.mono n1,.inr rfl⟩
   |loc l o=>cases ab
   |skip =>have ag:e=.when false (.d (.bool false)):=h3;subst ag;exact⟨_,by rw[h2];rfl,rfl⟩
  intro l ae hl hx;have i:=z hl;obtain⟨af,g1,g2⟩:=hc l ae (by rw[j i];exact hl) hx;exact⟨af,by rw[ZdA,if_neg i];exact g1,g2.mono n1⟩;intro l hl;rw[ZdA];by_cases i:l=l';simp_all;rw[if_neg i];exact hn l (by rw[j i];exact hl);intro u l o2 hm hs;obtain⟨x,hx⟩:=Option.isSome_iff_exists.1 hs;have i:=z hx;unfold ZeU;rw[Zd2];rcases ha u l o2 hm (by rw[j i];exact hs) with h2|h2;exact .inl (by rw[h2];simp[JB,i]);exact .inr (by rw[h2];simp[JB,i])
def ZBp(t:JU C ih):ZcR C ih ⟨λr ih dk fm H U nx=>Zs9 r.cs r.ad ih dk fm H U nx⟩ dk []:=by
 intro r fm H U nx o h F J ρd L s B hF hρ hN hS j;refine Zpm (Zvr t h hF hρ.keep hN hS (λl vs z hx=>?_) (λl z=>?_) j.nd (λu l o hm _=>?_));obtain⟨u,n,hm⟩:=hx;obtain⟨ds,d1,d2⟩:=j.cs l vs z;refine⟨ds,?_,d2⟩;have i:ZeU (Yx ρd Zps) u l n:=(j.ad u l n hm).imp (λh=>JX h (List.mem_range.2 (j.lt u l n hm))) (λh=>JX h (List.mem_range.2 (j.lt u l n hm)));refine ZgF L _ l ds ?_ d1;rw[List.mem_flatMap];rcases i with h|h;exact⟨_,Zm0 h,by simp[Kq]⟩;exact⟨_,Zm0 h,by simp[Kq]⟩
 .cases hg:Zj (ZbD (Yx ρd Zps) L) l with
  |none=>rfl
  |some cs =>have:=Zam L _ l cs hg;rw[j.no l z]at this;grind
 exact(j.ad u l o hm).imp (λh=>JX h (List.mem_range.2 (j.lt u l o hm))) (λh=>JX h (List.mem_range.2 (j.lt u l o hm)))
end
section
variable {C:Px} {ih:Ih} {dk:List KH} {os:List (DOp × List Nat)} {rest:Bx RgD}
variable {r:Rl} {fm:Fm} {H:T W} {U:S} {nx:Nat} {o:Out} {F:Fr C.P} {J:Nm} {ρd:Env} {L:Loc} {s:St} {B:List (Nat × Rd)}
end
section
variable {C:Px} {ih:Ih} {dk:List KH} {os:List (DOp × List Nat)} {rest:Bx RgD}
variable {r:Rl} {fm:Fm} {H:T W} {U:S} {nx:Nat} {o:Out} {F:Fr C.P} {J:Nm} {ρd:Env} {L:Loc} {s:St} {B:List (Nat × Rd)}
def Zt5(n:Jg C)(t:JU C ih){f}:∀{os},ZcR C ih (Zlw C f os) dk os
 | []=>ZBp t
 | (⟨dst,g,k⟩,fl)::os=>λr fm H U nx o h F J ρd L s B z u hN hS hR=>by
  unfold Zlw at h;split at h;grind;rename_i i;have IH:=Zt5 n t (f:=f) (os:=os);split at h;exact Zyc n t IH h rfl z u hN hS hR;rename_i g0;simp only at h;split at h<;>(try(grind;done));rename_i b hb;have hg:=ZqS u hb;split at h;exact Zyc n t IH h hg z u hN hS hR;split at h<;>(try(grind;done));rename_i j;obtain⟨hd,hh⟩:=ZE h;cases hq:YQ k with
  |true =>rw[hq,if_pos rfl]at hh;exact ZxE hg hq (.d (.bool false)) (IH _ _ _ _ _ _ hh F J _ L s _ z (Zag u WR.skp dst) hN hS (hR.put hd _))
  |false =>
   rw[hq]at hh;have hp:Wj k=false:=by cases k<;>simp[YQ]at hq<;>first|rfl|exact absurd rfl (j _)|exact absurd rfl (i _)
   exact Zfl (e:=.d (.bool false)) hg hp (IH _ _ _ _ _ _ hh F J _ L s _ z (Zag u WR.skp dst) hN hS ((hR.put hd _).next fl))
def ZvL(j:Jg C)(n:JU C ih):Znw C ih:=by
 intro f order i kp fm k H U nx o h hf F J ρd s t hρ u z;exact Zjm (show DOA F nO k i ρd [] s [] from Zt5 j n _ _ _ _ _ _ h F J ρd [] s [] t hρ u z Wv.nil)
end
section
variable {P:Program}
def Ze.subM{f args s Φ Φ'}(h:Ze P f args s Φ)(i:∀r s',Φ r s'->∃s2,St.sub s2 s'/\Φ' r s2):Ze P f args s Φ' :=
 ⟨h.1,λg w vs j n=>(h.2 g w vs j n).mono λ_ _ ⟨t,s',r,a,b,c,d⟩=>let ⟨s2,e1,e2⟩:=i r s' d;⟨t,s2,r,a,b.sub e1,c,e2⟩⟩
def St.emp:St:=λ_=>nO
def Zx5(s):St.emp.or s=s:=by funext b;simp[St.or,St.emp]
def Znv{f args d}(h:Ze P f args St.emp λr _=>r=.ret d):Zc P f args d:=λs=>by
 have z:Ze P f args St.emp λr s'=>r=.ret d/\s'=St.emp:=h.subM λr s' u=>⟨St.emp,λb o t=>by simp[St.emp]at t,u,rfl⟩;have i:Yc St.emp s:=λb o _=>rfl;have j:=z.frame i;rw[Zx5]at j;refine j.mono λr S ⟨s',⟨n,e2⟩,_,e3⟩=>⟨n,?_⟩;rw[e3,e2,Zx5]
end
def nm0:Nm:=λk=>if k=0 then sO .none else if k=1 then sO .full else nO
def Zyz:YJ nm0 2:={
 z:=rfl
 o:=rfl
 two:=ZHV _
 free k hk:=by simp only[nm0];rw[if_neg ω,if_neg ω] }
def ZAD(C:Cx)(J:Nm)(s:St):Sim ⟨C,St.emp⟩ J T.nil s:={
 obj k o h:=by simp[T.get_nil]at h
 inj k k' o o' b h:=by simp[T.get_nil]at h
 kp b d h:=by simp[St.emp]at h
 ro k o b h:=by simp[T.get_nil]at h }
section
variable {P:Program}
def ZxH{F:Fr P}{kp dk o os H L s}(hg:Zo H o.guard=sO true){n xs}(hk:o.k=.call (.cst (.fn (.func n) [] [])) xs){p es ds}(ha:Yg H true xs=sO (p,es))(hds:Kk es=sO ds)(hp:p){fn}(h0:P.funcs[n]?=sO fn)(h1:fn.body=nO)(h2:(fn.name == "runtime.NumGoroutine")=false)(h3:Extern.findNext fn=nO){e}(h4:Extern.find fn=sO e){d}(he:∀g w vs,ZO (Rep g w) vs ds->∃v,(e vs.toArray).run P w=.ok v w/\Rep g w v d)(h:DO F kp dk os (Zz H o.dst (.d d)) L s):DO F kp dk (o::os) H L s:=by
 refine Wz λoo g Z w tmps aq i r k aj u af ac hd hN m hr ap=>?_;have hw:=Yi m af hg;have ai:=Yq u (by rw[hk];rfl);rw[hk]at u;obtain⟨f',j,ats,ak,ag,ar⟩:=Zvk u;have ab:Rep g w _ _:=Yf (H:=H) m ag rfl rfl trivial F.ds;have z:=Qp (ZcH m rfl F.ds ar ha hp) hds;obtain⟨v,am,ao⟩:=he g w _ z;generalize ah:(Act.mk tmps F.ds).eval f'=fv at ab;have ad:fv=.func (.func n) #[] #[]:=by
  cases ab with
  |fn _ fs cs _ _ e1 e2 _ _ =>
   obtain rfl:fs=[]:=by simpa using e1
   obtain rfl:cs=[]:=by simpa using e2
   rfl
 subst ad;have ae:(Array.map (Act.mk tmps F.ds).eval j)=(j.toList.map (Act.mk tmps F.ds).eval).toArray:=by apply Array.ext';simp
 refine Zn8 (e:=.d d) hN m aj ac hd hw ai ⟨v,?_,ao⟩ (h aq r k hr ap);have t:(callFunc n ((j.toList.map (Act.mk tmps F.ds).eval).toArray++#[])).run P w=.ok (.value v) w:=by
  have al:¬fn.name = "runtime.NumGoroutine":=by simpa using h2
  simp[callFunc,h0,al,h1,h3,h4,am]
 simp[execOp,ak,resolve,ah,ae,Deferred.ofValue,invoke];simpa using t
def Ztj(c:Nat):List Nat->Int
 | []=>-1
 |b::l=>if Nat.beq (b % 256) (c % 256) then 0 else match Ztj c l with
  |.ofNat n=>.ofNat (n+1)
  |.negSucc _=>-1
def Zvy(c):∀(l),Ztj c l=Lib.indexByte (l.map UInt8.ofNat) (UInt8.ofNat c)
 | []=>rfl
 |b::l=>by
  have ih:=Zvy c l;simp only[Ztj,ZHY,Lib.indexByte];have j:Nat.beq (b % 256) (c % 256)=(UInt8.ofNat b==UInt8.ofNat c):=by rw[Bool.eq_iff_iff,Nat.beq_eq,beq_iff_eq];constructor;intro h;apply UInt8.toNat_inj.1;simpa using h;intro h;have:=congrArg UInt8.toNat h;simpa using this
  rw[j];split;rfl;have i:=Lib.indexByte_ge (l.map UInt8.ofNat) (UInt8.ofNat c);rw[<-ih]at i⊢;cases t:Ztj c l with
  |ofNat n =>
   have:(Int.ofNat n==-1)=false:=by rw[beq_eq_false_iff_ne];simp only[Int.ofNat_eq_natCast,ne_eq];omega
   rw[this];rfl
  |negSucc n =>
   rw[t]at i;have:n=0:=by have e:=Int.negSucc_eq n;omega
   subst this;rfl
def ZjP:∀(l c),Lib.indexByte l c<I l\/Lib.indexByte l c=-1
 | [],c=>.inr rfl
 |b::l,c=>by simp only[Lib.indexByte];split;left;simp;split;exact .inr rfl;rename_i h;rcases ZjP l c with h1|h1;left;simp;omega;rw[h1]at h;simp at h
def ZCu(n:FuncId):DF:=⟨8,[.tmp 4],.seq (.reg [⟨sO 4,nO,.q .mv [.cst (.i 0)]⟩] nO) (.seq (.reg [⟨sO 5,nO,.q .mv [.tmp 0]⟩,⟨sO 6,nO,.q .mv [.tmp 1]⟩,⟨sO 7,nO,.call (.cst (.fn (.func n) [] [])) [.tmp 5,.tmp 6]⟩,⟨sO 4,nO,.q .mv [.tmp 7]⟩] nO) .ret)⟩
def Ztl{an f n}(hf:cf P an f=sO (ZCu n)){t}(h0:P.funcs[n]?=sO t)(u:t.body=nO)(h2:(t.name == "runtime.NumGoroutine")=false)(h3:Extern.findNext t=nO)(h4:Extern.find t=sO Extern.BytealgIndexByte.indexByte){l c}:
  Zc P f [.str l,.int .u8 c] (.i (Lib.indexByte l c.toNat.toUInt8)):=by
 refine Zg hf λF s i=>?_;refine Zd (Zh4 (Q1 rfl (by repeat(first|trivial|constructor)) (Zfm (Zd (Zh4 (Q1 rfl (by repeat(first|trivial|constructor)) (Q1 rfl (by repeat(first|trivial|constructor)) (ZxH rfl rfl rfl rfl (by repeat(first|trivial|constructor)) h0 u h2 h3 h4 (d:=.int .i64 (Lib.indexByte l c.toNat.toUInt8)) (λg w vs j=>?_)
  (Q1 rfl (by repeat(first|trivial|constructor)) (Zfm (i rfl (by repeat(first|trivial|constructor)) (ZHL _) ZHH)))))))))))
 cases j with
 |cons a1 j =>
 cases j with
 |cons a2 j =>
 cases j;cases a1 with
 |str s _ hs hb =>
 cases a2 with
 |int _ _ hc =>
 subst hs;refine⟨_,Lib.run_indexByteString s c w,.int _ _ ?_⟩;have u:=Lib.indexByte_ge s.data.toList c.toNat.toUInt8;have h2:=ZjP s.data.toList c.toNat.toUInt8;simp only[big]at hb;simp only[inR,IntKind.min,IntKind.max,IntKind.signed,IntKind.bits];generalize Lib.indexByte s.data.toList c.toNat.toUInt8=z at u h2⊢;rcases h2 with h2|h2<;>simp<;>omega
end
def ZaO(f:V->V->Bool):List V->List V->Bool
 | [],[]=>true
 |a::x,b::y=>if f a b then ZaO f x y else false
 |_,_=>false
def Zz7(ih:V->V->Bool)(k v:V):Bool:=match k with
 |.int i a=>match v with
  |.int j b=>Zgt i j&&eqI a b
  |_=>false
 |.bool a=>match v with
  |.bool b=>a==b
  |_=>false
 |.str a=>match v with
  |.str b=>eqS a b
  |_=>false
 |.agg a=>match v with
  |.agg b=>ZaO ih a b
  |_=>false
 |.nilsl=>match v with
  |.nilsl=>true
  |_=>false
 |.sl _ m s a=>match v with
  |.sl _ m' s' b=>Nat.beq m m'&&Nat.beq s s'&&ZaO ih a b
  |_=>false
 |.nilptr=>match v with
  |.nilptr=>true
  |_=>false
 |.nilmap=>match v with
  |.nilmap=>true
  |_=>false
 |.niliface=>match v with
  |.niliface=>true
  |_=>false
 |_=>false
def ZfF(n:Nat):V->V->Bool:=Nat.rec (motive:=λ_=>V->V->Bool) (λ_ _=>false) (λ_ ih=>Zz7 ih) n
def zV(n:Nat):V->V:=Nat.rec (motive:=λ_=>V->V) (λk=>k) (λ_ ih k=>match k with
 |.agg a=>.agg (a.map ih)
 |.sl _ m s a=>.sl 0 m s (a.map ih)
 |k=>k) n
def Zys{J J'}:∀(n) {k v d},ZfF n k v=true->VR J v d->VR J' (zV n k) d
 |0,k,v,d,h,_=>by simp[ZfF]at h
 |n+1,k,v,d,h,hv=>by
  have ih:=λ{k v:V} {d:D}=>Zys (J:=J) (J':=J') n (k:=k) (v:=v) (d:=d);have j:∀{a b:List V} {ds:List D},ZaO (ZfF n) a b=true->VRs J b ds->VRs J' (a.map (zV n)) ds:=by
   intro a;induction a with
   |nil =>
    intro b ds h hb;cases b with
    |nil=>obtain rfl:=hb.inv0;exact .nil
    |cons _ _=>simp[ZaO]at h
   |cons x a iha =>
    intro b ds h hb;cases b with
    |nil=>simp[ZaO]at h
    |cons y b =>simp only[ZaO]at h;split at h<;>(try(simp at h;done));rename_i hx;obtain⟨d,ds',rfl,h1,h2⟩:=hb.inv;exact .cons _ _ _ _ (ih hx h1) (iha h h2)
  have t:∀{s:Nat} {a b:List V} {row:Nat->List D},ZaO (ZfF n) a b=true->VRr J s b row->VRr J' s (a.map (zV n)) row/\I a=I b:=by
   intro s a;induction a with
   |nil =>
    intro b row h hb;cases b with
    |nil=>exact⟨.nil _ _,rfl⟩
    |cons _ _=>simp[ZaO]at h
   |cons x a iha =>
    intro b row h hb;cases b with
    |nil=>simp[ZaO]at h
    |cons y b =>
     simp only[ZaO]at h;split at h<;>(try(simp at h;done));rename_i hx;obtain⟨cs,rfl,h1,h2,h3⟩:=hb.inv;obtain⟨g1,g2⟩:=iha h h3;have hz:=ih hx (.agg _ _ h1);obtain⟨i,u,hl⟩:∃i,zV n x=.agg i/\VRs J' i (row 0):=by
      generalize he:zV n x=z at hz;cases hz with
      |agg i _ h=>exact⟨i,rfl,h⟩
     refine⟨?_,by simp[g2]⟩;rw[ZHY,u];exact .cons _ _ _ _ hl (by rw[hl.len,<-h1.len,h2]) g1
  have h':Zz7 (ZfF n) k v=true:=h;cases k<;>simp only[Zz7,ZIe]at h'<;>cases hv<;>simp only[ZIe]at h';case int =>simp only[ZHN,JA]at h';obtain⟨h1,rfl⟩:=h';obtain rfl:=ZfC h1;exact .int _ _
  case bool=>simp only[beq_iff_eq]at h';subst h';exact .bool _
  case str a b =>rw[ZnS,decide_eq_true_eq]at h';show VR J' (.str a) _;rw[<-h'];exact .str _
  case agg a b ds hb=>exact .agg _ _ (j h' hb)
  case nilsl=>exact .nilsl
  case sl =>simp only[ZHN,Z8]at h';obtain⟨⟨rfl,rfl⟩,h3⟩:=h';obtain⟨g1,g2⟩:=t h3 ‹VRr J _ _ _›;exact .sl _ _ _ _ _ _ g1 (by rw[List.length_map,g2];assumption) (.inl rfl)
  case nilptr=>exact .nilptr
  case nilmap=>exact .nilmap
  case niliface=>exact .niliface
def Zof:Option Out->Bool
 |some o=>match o.pan with
  |false=>match o.v with
   |.bool b=>b
   |_=>false
  |true=>false
 |none=>false
def Zyi{x}(h:Zof x=true):∃U nx,x=sO ⟨false,.bool true,U,nx⟩:=by
 cases x with
 |none=>simp[Zof]at h
 |some o =>obtain⟨pan,v,U,nx⟩:=o;cases pan<;>cases v<;>simp[Zof]at h;subst h;exact⟨U,nx,rfl⟩
def Zbo(f0:FuncId)(f:FuncId):Option (S->List V->Option V):=match Nat.beq f f0 with
 |true=>sO λ_ vs=>match vs with
  | [.str s,.int k c]=>match k with
   |.u8=>sO (.i (Ztj c.toNat s))
   |_=>nO
  |_=>nO
 |false=>nO
def ZBw{P:Program}{mu:FuncId->Option Nat->Bool}{z n:FuncId}(hf:cf P [] z=sO (ZCu n)){u:Func}(h0:P.funcs[n]?=sO u)(h1:u.body=nO)(h2:(u.name == "runtime.NumGoroutine")=false)(h3:Extern.findNext u=nO)(h4:Extern.find u=sO Extern.BytealgIndexByte.indexByte)(t:St):Jg ⟨⟨P,Zbo z,mu⟩,t⟩:=by
 intro f g U vs v i j J ds s hv hS;simp only[Zbo]at i;split at i<;>simp only[ZHE,reduceCtorEq]at i;rename_i hb;rw[Z8]at hb;subst hb;subst i;simp only at j;split at j<;>(try(simp at j;done));split at j<;>simp only[ZHE,reduceCtorEq]at j;subst j;obtain⟨d,d',rfl,a1,a2⟩:=hv.inv2;cases a1;cases a2;refine⟨_,.int _ _,?_⟩;rename_i l c;rw[Zvy];exact Ztl hf h0 h1 h2 h3 h4 s
def ZB1{C:Cx}(j:∀t,Jg ⟨C,t⟩){f:FuncId}{m:Nat}(h:Zof ((Zh9 C f).run (run C m) [] T.nil 2)=true):Zc C.P f [] (.bool true):=by
 obtain⟨U,nx,h⟩:=Zyi h;refine Znv ?_;have i:=ZoL j (λC' ih n i=>ZvL (by subst n;exact j _) i) m St.emp;refine(ZmM (C:=⟨C,St.emp⟩) (j _) i h .nil Zyz (ZAD C nm0 St.emp)).mono λr s u=>?_;obtain⟨J',d',k1,k2,k3,z,k5⟩:=u;cases z;exact k5
end Go.DL
